import Derived.Test.YtjojipeodionmaaOp2
namespace Go.Proofs.Ytjojipeodionmaa
open Go.RowKit

instance : Rep MOp where
  k := 2
  rep _ _ cs o := cs = [.int .i64 o.c, .int .i64 o.a] ∧ I64 o.c ∧ I64 o.a
  len h := by rw [h.1]; rfl
  keep h _ := h
  more h _ := h
  one h := by rw [h.1]; simp [Value.oneCell']
theorem Sl.op_at {w : World} {A : Option Addr} {n c k : Nat} {xs : List MOp} (h : Sl w (.slice A n c) xs) (hk : k < n) :
    ∃ b off o, A = some ⟨b, off, none⟩ ∧ b < w.heap.size ∧ xs[k]? = some o ∧ w.cell? ⟨b, off + k * 2, none⟩ = some (.int .i64 o.c) ∧ w.cell? ⟨b, off + k * 2 + 1, none⟩ = some (.int .i64 o.a) ∧ I64 o.c ∧ I64 o.a := by
  have hl := SlB.len_eq h
  have hx : xs[k]? = some (xs[k]'(by omega)) := List.getElem?_eq_getElem (by omega)
  obtain ⟨b, off, cs, hA, hb, ⟨hcs, hi⟩, hj⟩ := SlB.at_ h hk _ hx
  subst hcs
  exact ⟨b, off, _, hA, hb, hx, hj 0 _ rfl, hj 1 _ rfl, hi⟩

theorem checkOps_snoc {l : List MOp} {k : Nat} {o : MOp} (hk : l[k]? = some o) (h : checkOps (l.take k) = 0) : checkOps (l.take (k + 1)) = checkOp o := by
  induction l generalizing k with
  | nil => simp at hk
  | cons a l ih =>
    cases k with
    | zero => simp at hk; subst hk; simp [checkOps]; omega
    | succ k =>
      simp only [List.take_succ_cons, checkOps] at h ⊢
      have ha : checkOp a = 0 := by
        by_cases e : checkOp a = 0
        · exact e
        · rw [if_pos (by simpa using e)] at h; exact absurd h e
      rw [if_neg (by simp [ha])] at h ⊢
      exact ih (by simpa using hk) h
theorem checkOps_of {l : List MOp} {k : Nat} (h : checkOps (l.take k) ≠ 0) : checkOps l = checkOps (l.take k) := by
  induction l generalizing k with
  | nil => simp
  | cons a l ih =>
    cases k with
    | zero => simp [checkOps] at h
    | succ k =>
      simp only [List.take_succ_cons, checkOps] at h ⊢
      split
      · rfl
      · rename_i e; rw [if_neg e] at h; exact ih h

theorem codeErr_of {l : List MOp} {k : Nat} {o : MOp} (hl : l.length ≤ 40) (hk : l[k]? = some o) (h : checkOps (l.take k) = 0) (hne : (checkOp o != 0) = true) : checkOp o = codeErr l := by
  have h1 := checkOps_snoc hk h
  have h2 := checkOps_of (l := l) (k := k + 1) (by rw [h1]; simpa using hne)
  rw [codeErr, if_neg (by omega), h2, h1]
theorem codeErr_ok {l : List MOp} (hl : l.length ≤ 40) (h : checkOps l = 0) : (0 : Int) = codeErr l := by rw [codeErr, if_neg (by omega), h]

set_option maxHeartbeats 400000 in
theorem code_any (v : Value) (l : List MOp) (w : World) (hs : Sl w v l) :
    Calls Try.prog 76 #[v] w fun e w' => e = .returned (.int .i64 (codeErr l)) ∧ Below w.heap.size w w' := by
  obtain ⟨A, c, rfl, hlc, hc, hl⟩ := hs.form
  go_enter Try.func76, Try.ntmps76
  go_wp2
  · go_ret
    exact ⟨ret_int (by simp [codeErr]; omega), (by repeat (first | exact Below.refl _ _ | assumption | refine Below.drew ?_ | refine Below.drewN_ ?_ _ | refine below_alloc ?_ _ | refine below_via (by assumption) ?_ | refine below_set ?_ (by simp <;> omega) _))⟩
  go_loopw [11] (fun t wr => ∃ k : Nat, k ≤ l.length ∧ t = .int .i64 k ∧ Below w.heap.size w wr ∧ checkOps (l.take k) = 0) (fun t _ => l.length - (intOf t).toNat)
  case atStart => exact ⟨0, by omega, rfl, (by repeat (first | exact Below.refl _ _ | assumption | refine Below.drew ?_ | refine Below.drewN_ ?_ _ | refine below_alloc ?_ _ | refine below_via (by assumption) ?_ | refine below_set ?_ (by simp <;> omega) _)), by simp [checkOps]⟩
  case round =>
    obtain ⟨k, hk, rfl, hbl, hck⟩ := hrel
    have Hck := Lib.hid hck; clear hck
    have hs' := hs.via hbl
    by_cases hlt : k < l.length
    · obtain ⟨b, off, o, rfl, hb, ho, hc0, hc1, hi0, hi1⟩ := hs'.op_at hlt
      have Ho := Lib.hid ho; clear ho
      have hsz := hbl.size
      go_wp2_with (go_at_call 26; refine (check_any o _).mono ?_; rintro e w' ⟨rfl, hb⟩)
      · go_ret
        exact ⟨ret_int (codeErr_of (by omega) Ho.out Hck.out (by assumption)), (by repeat (first | exact Below.refl _ _ | assumption | refine Below.drew ?_ | refine Below.drewN_ ?_ _ | refine below_alloc ?_ _ | refine below_via (by assumption) ?_ | refine below_set ?_ (by simp <;> omega) _))⟩
      · go_roundw
        case rel => exact ⟨k + 1, by omega, by go_num, (by repeat (first | exact Below.refl _ _ | assumption | refine Below.drew ?_ | refine Below.drewN_ ?_ _ | refine below_alloc ?_ _ | refine below_via (by assumption) ?_ | refine below_set ?_ (by simp <;> omega) _)), by rw [checkOps_snoc Ho.out Hck.out]; simp_all⟩
        case measure => simp [intOf]; omega
    · go_wp2
      go_ret
      exact ⟨ret_int (codeErr_ok (by omega) (by rw [← Hck.out, List.take_of_length_le (by omega)])), (by repeat (first | exact Below.refl _ _ | assumption | refine Below.drew ?_ | refine Below.drewN_ ?_ _ | refine below_alloc ?_ _ | refine below_via (by assumption) ?_ | refine below_set ?_ (by simp <;> omega) _))⟩
end Go.Proofs.Ytjojipeodionmaa
