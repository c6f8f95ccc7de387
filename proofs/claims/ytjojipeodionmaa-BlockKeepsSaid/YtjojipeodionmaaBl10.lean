import Derived.Test.YtjojipeodionmaaBl9
namespace Go.Proofs.Ytjojipeodionmaa
open Go.RowKit

def outP (L : Nat) (r : Int) : Bool := decide (r < 0) || decide ((L : Int) < r)
theorem out_any (r : Int) (b L c : Nat) (A : Option Addr) (w : World) (hc : w.cell? ⟨b, 0, none⟩ = some (.slice A L c)) (hL : L ≤ 140737488355328) :
    Calls Try.prog 93 #[.int .i64 r, .pointer (some ⟨b, 0, none⟩)] w fun e w' => e = .returned (.bool (outP L r)) ∧ Below w.heap.size w w' := by
  go_enter Try.func93, Try.ntmps93
  go_wp2
  all_goals (go_ret; exact ⟨ret_bool (by simp_all [outP]), (by repeat (first | exact Below.refl _ _ | assumption | refine Below.drew ?_ | refine Below.drewN_ ?_ _ | refine below_alloc ?_ _ | refine below_via (by assumption) ?_ | refine below_set ?_ (by simp <;> omega) _))⟩)
theorem keepE_eq {l : List (List Int)} {refs : List Int} {L : Nat} (hL : l.length = L) (h : checkB l = 0) : keepE l refs = if refs.any (outP L) then 3 else 0 := by
  unfold keepE
  rw [if_pos h, ← hL]
  rfl
theorem keepE_in {l : List (List Int)} {refs : List Int} (h : keepE l refs = 0) : checkB l = 0 ∧ ∀ r ∈ refs, 0 ≤ r ∧ r ≤ l.length := by
  unfold keepE at h
  by_cases hc : checkB l = 0
  · rw [if_pos hc] at h
    refine ⟨hc, fun r hr => ?_⟩
    split at h
    · cases h
    · rename_i hn
      simp only [List.any_eq_true, not_exists, not_and, Bool.or_eq_true, decide_eq_true_eq] at hn
      have := hn r hr
      omega
  · rw [if_neg hc] at h
    exact absurd h hc

theorem keepB_any (v vr : Value) (l : List (List Int)) (refs : List Int) (w : World) (hs : Sl w v l) (hrs : Sl w vr refs) (hby : refs.length * 8 ≤ 140737488355328) :
    Calls Try.prog 34 #[v, vr] w fun e w' => ∃ u ur, e = .returned (.tuple #[u, ur, .int .i64 (keepE l refs)]) ∧ Below w.heap.size w w' ∧ Sl w' u (keepL l refs) ∧ Sl w' ur (keepR l refs) := by
  have hmf : ∀ (fn : Fn) (first cap : Array Value) (w : World), (Instr.makeFunc fn first cap).run Try.prog w = .ok (.func fn first cap) w := fun _ _ _ _ => rfl
  obtain ⟨L, hL⟩ : ∃ n, l.length = n := ⟨_, rfl⟩
  obtain ⟨A, c, rfl, hlc, hc, hL47⟩ := hs.form_n hL
  have hck := fun o => Lib.hid (checkB_any _ l (w.alloc o) (hs.alloc o))
  have hql := fun w1 (h : Below w.heap.size w w1) b (hb : b < w1.heap.size) (hcell : w1.cell? ⟨b, 0, none⟩ = some (.slice A L c)) => Lib.hid (containsf_int vr refs 93 #[.pointer (some ⟨b, 0, none⟩)] (outP L) w1 (hrs.via h) enters_out
    (fun x _ w2 hw2 => out_any x b L c A w2 ((hw2.cell (p := ⟨b, 0, none⟩) hb).trans hcell) hL47))
  have hKL : keepL l refs = if keepE l refs = 0 then keptTo l refs l.length else [] := rfl
  have HKL := Lib.hid hKL; clear hKL
  have hKR : keepR l refs = if keepE l refs = 0 then refs.map (keptN l refs) else [] := rfl
  have HKR := Lib.hid hKR; clear hKR
  by_cases hz : checkB l = 0
  · have hE := keepE_eq (refs := refs) hL hz
    have hkp := fun (h : keepE l refs = 0) w1 (hb : Below w.heap.size w w1) => Lib.hid (kept_any _ vr l refs w1 (hs.via hb) (hrs.via hb) (Fit.of_check hz) (keepE_in h).2 hby)
    have HL := Lib.hid hL; clear hL
    rw [hz] at hck
    have Hz := Lib.hid hz; clear hz
    obtain ⟨Ar, cr, rfl, _, _, _⟩ := hrs.form
    cases hany : refs.any (outP L)
    · rw [hany] at hE
      simp only [Bool.false_eq_true, if_false] at hE
      have hkp' := hkp hE
      rw [HKL.out, HKR.out, hE, if_pos rfl, if_pos rfl]
      clear hE
      have Hany := Lib.hid hany; clear hany
      go_enter Try.func34, Try.ntmps34
      go_wp2_with (first
        | (go_at_call 32; refine ((hck _).out).mono ?_; rintro e w1 ⟨rfl, hb⟩; have hcell := (hb.cell (p := ⟨w.heap.size, 0, none⟩) (by simp)).trans (by simp : _ = some (Value.slice A L c)); have hb0 : Below w.heap.size w w1 := below_via hb (below_alloc (Below.refl _ _) _); have hlt : w.heap.size < w1.heap.size := (by have := hb.size; simp at this; omega))
        | (go_at_call 90; refine ((hql _ hb0 _ hlt hcell).out).mono ?_; rintro e w2 ⟨rfl, hb2⟩; have hcell2 := (hb2.cell (p := ⟨w.heap.size, 0, none⟩) hlt).trans hcell; have hb20 := below_via hb2 hb0; rw [Hany.out])
        | (go_at_call 94; refine ((hkp' _ hb20).out).mono ?_; rintro e w3 ⟨u, ur, rfl, hb3, hsu, hsr⟩))
      go_ret3
      exact ⟨_, _, rfl, below_via hb3 hb20, hsu, hsr⟩
    · rw [hany] at hE
      simp only [if_true] at hE
      rw [HKL.out, HKR.out, hE, if_neg (by decide), if_neg (by decide)]
      clear hE hkp
      have Hany := Lib.hid hany; clear hany
      go_enter Try.func34, Try.ntmps34
      go_wp2_with (first
        | (go_at_call 32; refine ((hck _).out).mono ?_; rintro e w1 ⟨rfl, hb⟩; have hcell := (hb.cell (p := ⟨w.heap.size, 0, none⟩) (by simp)).trans (by simp : _ = some (Value.slice A L c)); have hb0 : Below w.heap.size w w1 := below_via hb (below_alloc (Below.refl _ _) _); have hlt : w.heap.size < w1.heap.size := (by have := hb.size; simp at this; omega))
        | (go_at_call 90; refine ((hql _ hb0 _ hlt hcell).out).mono ?_; rintro e w2 ⟨rfl, hb2⟩; have hcell2 := (hb2.cell (p := ⟨w.heap.size, 0, none⟩) hlt).trans hcell; have hb20 := below_via hb2 hb0; rw [Hany.out]))
      go_ret3
      exact ⟨_, _, rfl, hb20, Sl.nil_, Sl.nil_⟩
  · have e1 : keepE l refs = checkB l := by unfold keepE; rw [if_neg hz]
    rw [HKL.out, HKR.out, e1, if_neg hz, if_neg hz]
    clear e1 hql
    have hd : ((checkB l) == 0) = false := by simpa using hz
    generalize checkB l = x at *
    have HL := Lib.hid hL; clear hL
    obtain ⟨Ar, cr, rfl, _, _, _⟩ := hrs.form
    go_enter Try.func34, Try.ntmps34
    go_wp2_with (first
      | (go_at_call 32; refine ((hck _).out).mono ?_; rintro e w1 ⟨rfl, hb⟩; have hb0 : Below w.heap.size w w1 := below_via hb (below_alloc (Below.refl _ _) _)))
    go_ret3
    exact ⟨_, _, rfl, hb0, Sl.nil_, Sl.nil_⟩
end Go.Proofs.Ytjojipeodionmaa
