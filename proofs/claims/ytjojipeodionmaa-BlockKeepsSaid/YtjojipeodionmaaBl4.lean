import Derived.Test.YtjojipeodionmaaBl3
import Derived.Deep.RegionHeld3
import Derived.Deep.OwnRows
namespace Go.Proofs.Ytjojipeodionmaa
open Go.RowKit

/-- Blocks that are not too great to be copied. -/
def Fit (l : List (List Int)) : Prop := l.length ≤ 1000 ∧ ∀ b ∈ l, b.length ≤ 1000
theorem Fit.of_check {l : List (List Int)} (h : checkB l = 0) : Fit l := by
  have := checkB_le h
  exact ⟨by omega, fun b hb => by have := cellsN_mem hb; omega⟩
theorem Fit.at_ {l : List (List Int)} (h : Fit l) (k : Nat) : (l.getD k []).length ≤ 1000 := by
  rw [List.getD_eq_getElem?_getD]
  rcases Nat.lt_or_ge k l.length with h1 | h1
  · rw [List.getElem?_eq_getElem h1]; exact h.2 _ (List.getElem_mem h1)
  · rw [List.getElem?_eq_none h1]; simp

theorem own_any (v : Value) (l : List (List Int)) (w : World) (hs : Sl w v l) (hfit : Fit l) :
    Calls Try.prog 120 #[v] w fun e w' => ∃ u, e = .returned u ∧ Below w.heap.size w w' ∧ OwN w' w.heap.size u l := by
  obtain ⟨A, c, rfl, hlc, hc, _⟩ := hs.form
  obtain ⟨i0, hi, hz0, hz1, hz2⟩ := info_parts Try.infoInts
  have hL1 := hfit.1
  have Hfit := Lib.hid hfit; clear hfit
  generalize hL : l.length = L at *
  have HL := Lib.hid hL; clear hL
  go_enter Try.func120, Try.ntmps120
  go_wp2
  go_loopw [3, 8] (fun s t wr => ∃ k : Nat, k ≤ L ∧ t = .int .i64 k ∧ OwN wr w.heap.size s (l.take k) ∧ Below w.heap.size w wr) (fun _ t _ => L - (intOf t).toNat)
  case atStart => exact ⟨0, by omega, rfl, OwN.nil_ _ _, (by repeat (first | exact Below.refl _ _ | assumption | refine Below.drew ?_ | refine Below.drewN_ ?_ _ | refine below_alloc ?_ _ | refine below_via (by assumption) ?_ | refine below_set ?_ (by simp <;> omega) _))⟩
  case round =>
    obtain ⟨k, hk, rfl, hown, hbl⟩ := hrel
    have htl : (l.take k).length = k := by rw [List.length_take, HL.out]; omega
    obtain ⟨A1, c1, rfl, _, _, _⟩ := hown.form_n htl
    have Htl := Lib.hid htl; clear htl
    have hsz := hbl.size
    by_cases hlt : k < L
    · obtain ⟨b, off, u, rfl, hb, hcell, hu⟩ := (hs.via hbl).sl_at hlt
      have hfk := Hfit.out.at_ k
      have hq := Lib.hid (clone_any _ _ wr hu (by omega))
      obtain ⟨m, hm⟩ : ∃ m, (l.getD k []).length = m := ⟨_, rfl⟩
      obtain ⟨A', c', rfl, _, _, _⟩ := hu.form_n hm
      rw [hm] at hfk
      have Hm := Lib.hid hm; clear hm
      go_wp2_with (first
        | (go_at_call 121; refine (hq.out).mono ?_; rintro e w' ⟨u', rfl, hbx, hux⟩; obtain ⟨A2, c2, rfl, _, _, _⟩ := hux.form_n Hm.out)
        | (at_builtin; refine mk_in ?_))
      unfold MkD
      refine wpList_append_new (α := List Int) _ rfl _ _ 39 rfl i0 (.slice none 0 0) 24 Try.underlying39 hi hz0 hz1 hz2 rfl rfl ⟨w'.heap.size, 0, none⟩ 1 rfl _ (l.getD k []) (OwD.newer hown (below_alloc hbx _) (by omega) (own_one (hux.alloc _))) (one_at (by simp)) (by have := hbx.size; simp; omega) (by rw [Htl.out]; omega) (by rw [Htl.out]; omega) ?_
      intro v2 w2 hown2 hbel2
      have hB2 := hbel2 w (below_alloc (below_via hbx hbl) _)
      have Hown2 : OwN w2 w.heap.size v2 (l.take (k + 1)) := by rw [take_snoc l k [] (by rw [HL.out]; exact hlt)]; exact hown2
      clear hown2 hbel2
      go_wp2
      go_roundw
      case rel => exact ⟨k + 1, by omega, by go_num, Hown2, hB2⟩
      case measure => simp [intOf]; omega
    · go_wp2
      go_ret
      have : k = L := by omega
      subst this
      rw [← HL.out, List.take_length, HL.out] at hown
      exact ⟨_, rfl, hbl, hown⟩
end Go.Proofs.Ytjojipeodionmaa
