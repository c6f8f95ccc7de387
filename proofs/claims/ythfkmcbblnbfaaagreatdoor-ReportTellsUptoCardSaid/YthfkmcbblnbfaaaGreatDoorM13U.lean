/- Texts of one proof, one behind the other: lemmas alone. -/
import Derived.Test.YthfkmcbblnbfaaaGreatDoorM0U
import Derived.Deep.RegionHeld3
import Derived.Deep.OwnRows
import Derived.Test.YthfkmcbblnbfaaaGreatDoorM10U

namespace Go.Proofs.YthfkmcbblnbfaaaGreatDoor
set_option maxRecDepth 100000
set_option maxHeartbeats 16000000
open Go.RowKit
section
def qm (l:List (List Int)):Prop:=l.length<=1000/\∀b∈l,b.length<=1000
theorem qm.of_check {l:List (List Int)} (h:dc l=0):qm l:=by
 have:=lV h
 exact⟨by omega,fun b hb=>by have:=xh hb;omega⟩
theorem qm.at_ {l:List (List Int)} (h:qm l) (k:Nat):(l.getD k []).length<=1000:=by
 rw[ac]
 rcases dZ k l.length with h1 | h1
 ·rw[ae h1];exact h.2 _ (cL h1)
 rw[aM h1];simp
theorem vP (v : Value) (l : List (List Int)) (w : World) (hs : Sl w v l) (hfit : qm l) :
    Calls Tryz.prog 209 #[v] w fun e w' => ∃ u, e = .returned u /\ Below w.heap.size w w' /\ dx w' w.heap.size u l := by
  obtain ⟨A, c, rfl, hlc, hc, _⟩ := hs.form
  obtain ⟨i0, hi, hz0, hz1, hz2⟩ := info_parts na
  have hL1 := hfit.1
  have Hfit := Lib.hid hfit; clear hfit
  generalize hL : l.length = L at *
  have HL := Lib.hid hL; clear hL
  go_enter Tryz.func209, Tryz.ntmps209
  go_wp2
  go_loopw [3, 8] (fun s t wr => ∃ k : Nat, k <= L /\ t = .int .i64 k /\ dx wr w.heap.size s (l.take k) /\ Below w.heap.size w wr) (fun _ t _ => L - (intOf t).toNat)
  case atStart => exact ⟨0, by omega, rfl, dx.nil_ _ _, (by repeat (first | exact Below.refl _ _ | assumption | refine Below.drew ?_ | refine Below.drewN_ ?_ _ | refine aB ?_ _ | refine a8 (by assumption) ?_ | refine bz ?_ (by simp <;> omega) _))⟩
  case round =>
    obtain ⟨k, hk, rfl, hown, hbl⟩ := hrel
    have htl : (l.take k).length = k := by rw [an, HL.out]; omega
    obtain ⟨A1, c1, rfl, _, _, _⟩ := hown.form_n htl
    have Htl := Lib.hid htl; clear htl
    have hsz := hbl.size
    by_cases hlt : k < L
    · obtain ⟨b, off, u, rfl, hb, hcell, hu⟩ := (hs.via hbl).sl_at hlt
      have hfk := Hfit.out.at_ k
      have hq := Lib.hid (fG _ _ wr hu (by omega))
      obtain ⟨m, hm⟩ : ∃ m, (l.getD k []).length = m := ⟨_, rfl⟩
      obtain ⟨A', c', rfl, _, _, _⟩ := hu.form_n hm
      rw [hm] at hfk
      have Hm := Lib.hid hm; clear hm
      go_wp2_with (first
        | (go_at_call 126; refine (hq.out).mono ?_; rintro e w' ⟨u', rfl, hbx, hux⟩; obtain ⟨A2, c2, rfl, _, _, _⟩ := hux.form_n Hm.out)
        | (at_builtin; refine r7 ?_))
      unfold wm
      refine oy (α := List Int) _ rfl _ _ 41 rfl i0 (.slice none 0 0) 24 fI hi hz0 hz1 hz2 rfl rfl ⟨w'.heap.size, 0, none⟩ 1 rfl _ (l.getD k []) (wk.newer hown (aB hbx _) (by omega) (CM (hux.alloc _))) (EV (by simp)) (by have := hbx.size; simp; omega) (by rw [Htl.out]; omega) (by rw [Htl.out]; omega) ?_
      intro v2 w2 hown2 hbel2
      have hB2 := hbel2 w (aB (a8 hbx hbl) _)
      have Hown2 : dx w2 w.heap.size v2 (l.take (k + 1)) := by rw [eI l k [] (by rw [HL.out]; exact hlt)]; exact hown2
      clear hown2 hbel2
      go_wp2
      go_roundw
      case rel => exact ⟨k + 1, by omega, by go_num, Hown2, hB2⟩
      case measure => simp [intOf]; omega
    · go_wp2
      go_ret
      have : k = L := by omega
      subst this
      rw [← HL.out, bh, HL.out] at hown
      exact ⟨_, rfl, hbl, hown⟩
end
end Go.Proofs.YthfkmcbblnbfaaaGreatDoor
