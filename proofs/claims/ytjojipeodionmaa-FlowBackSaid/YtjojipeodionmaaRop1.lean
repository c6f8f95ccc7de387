import Derived.Test.YtjojipeodionmaaOp8
namespace Go.Proofs.Ytjojipeodionmaa
open Go.RowKit

theorem rbetween_any (n a b : Int) (w : World) : Calls Try.prog 81 #[.int .i64 n, .int .i64 a, .int .i64 b] w fun e w' => e = .returned (.bool (decide (a ≤ n) && decide (n ≤ b))) ∧ w = w' := by
  go_enter Try.func81, Try.ntmps81
  go_wp2
  all_goals (go_ret; exact ⟨ret_bool (by simp [*]; try omega), rfl⟩)
theorem risInt_any (n : Int) (w : World) : Calls Try.prog 41 #[.int .i64 n] w fun e w' => e = .returned (.bool (isInt n)) ∧ w = w' := by
  go_enter Try.func41, Try.ntmps41
  go_wp2_with (go_at_call 81; refine (rbetween_any _ _ _ _).mono ?_; rintro e w' ⟨rfl, rfl⟩)
  all_goals (go_ret; exact ⟨ret_bool (by simp [isInt]), rfl⟩)
theorem rhasA_any (n : Int) (w : World) : Calls Try.prog 79 #[.int .i64 n] w fun e w' => e = .returned (.bool (names n)) ∧ w = w' := by
  go_enter Try.func79, Try.ntmps79
  go_wp2
  all_goals (go_ret; exact ⟨ret_bool (by rw [Bool.eq_iff_iff]; simp [names, *]; try omega), rfl⟩)
theorem rcheckOp_any (o : MOp) (w : World) : Calls Try.prog 27 #[.agg #[.int .i64 o.c, .int .i64 o.a]] w fun e w' => e = .returned (.int .i64 (checkOp o)) ∧ Below w.heap.size w w' := by
  go_enter Try.func27, Try.ntmps27
  go_wp2_with (first
    | (go_at_call 81; refine (rbetween_any _ _ _ _).mono ?_; rintro e w' ⟨rfl, rfl⟩)
    | (go_at_call 41; refine (risInt_any _ _).mono ?_; rintro e w' ⟨rfl, rfl⟩)
    | (go_at_call 79; refine (rhasA_any _ _).mono ?_; rintro e w' ⟨rfl, rfl⟩))
  all_goals (go_ret; exact ⟨ret_int (by simp_all [checkOp, isCode]), (by repeat (first | exact Below.refl _ _ | assumption | refine Below.drew ?_ | refine Below.drewN_ ?_ _ | refine below_alloc ?_ _ | refine below_via (by assumption) ?_ | refine below_set ?_ (by simp <;> omega) _))⟩)

theorem rwrap_any (n : Int) (w : World) (hn : I64 n) : Calls Try.prog 29 #[.int .i64 n] w fun e w' => e = .returned (.int .i64 (wrapI n)) ∧ w = w' := by
  have h1 := hn.lo
  have h2 := hn.hi
  by_cases h0 : 0 ≤ n
  · go_enter Try.func29, Try.ntmps29
    go_wp2
    all_goals (go_ret; exact ⟨ret_int (by unfold wrapI; omega), rfl⟩)
  · have ht : n.tmod 4294967296 = -((-n) % 4294967296) := by
      rw [← Int.tmod_eq_emod_of_nonneg (by omega), Int.neg_tmod, Int.neg_neg]
    have h3 : -4294967296 < -((-n) % 4294967296) := by omega
    have h4 : -((-n) % 4294967296) ≤ 0 := by omega
    go_enter Try.func29, Try.ntmps29
    go_wp2
    all_goals (go_ret; exact ⟨ret_int (by unfold wrapI; omega), rfl⟩)

theorem rfour_any (n : Int) (w : World) (hn : isInt n = true) : Calls Try.prog 80 #[.int .i64 n] w fun e w' => e = .returned (.string ⟨(fourOf n).toArray⟩) ∧ Below w.heap.size w w' := by
  have hcv := fun (x0 x1 x2 x3 : Int) => run_convert_bytes_arg (P := Try.prog) (w.alloc (.cells #[.int .u8 x0, .int .u8 x1, .int .u8 x2, .int .u8 x3] 5)) 106 5 Try.underlying106 Try.underlying5 w.heap.size 0 4 4 [x0, x1, x2, x3] rfl
    (by intro i hi; match i, hi with | 0, _ => simp | 1, _ => simp | 2, _ => simp | 3, _ => simp) 9 Try.underlying9
  simp [isInt] at hn
  obtain ⟨h1, h2⟩ := hn
  by_cases h0 : n < 0
  · go_enter Try.func80, Try.ntmps80
    go_wp2
    go_ret
    refine ⟨ret_str ?_, (by repeat (first | exact Below.refl _ _ | assumption | refine Below.drew ?_ | refine Below.drewN_ ?_ _ | refine below_alloc ?_ _ | refine below_via (by assumption) ?_ | refine below_set ?_ (by simp <;> omega) _))⟩
    simp only [fourOf, List.map_cons, List.map_nil]
    rw [show (n + 4294967296) / 16777216 = n % 4294967296 / 16777216 from by omega, show (n + 4294967296) / 65536 % 256 = n % 4294967296 / 65536 % 256 from by omega, show (n + 4294967296) / 256 % 256 = n % 4294967296 / 256 % 256 from by omega, show (n + 4294967296) % 256 = n % 256 from by omega]
  · go_enter Try.func80, Try.ntmps80
    go_wp2
    go_ret
    refine ⟨ret_str ?_, (by repeat (first | exact Below.refl _ _ | assumption | refine Below.drew ?_ | refine Below.drewN_ ?_ _ | refine below_alloc ?_ _ | refine below_via (by assumption) ?_ | refine below_set ?_ (by simp <;> omega) _))⟩
    simp only [fourOf, List.map_cons, List.map_nil]
    rw [show n % 4294967296 = n from by omega]
end Go.Proofs.Ytjojipeodionmaa
