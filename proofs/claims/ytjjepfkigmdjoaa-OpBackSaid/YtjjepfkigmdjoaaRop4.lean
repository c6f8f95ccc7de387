import Derived.Test.YtjjepfkigmdjoaaRop3
import Derived.Deep.QuietTactic
import Derived.BigQuiet
namespace Go.Proofs.Ytjjepfkigmdjoaa
open Go.RowKit

theorem take_same {α : Type} {l1 l2 : List α} {k : Nat} {x : α} (h1 : l1[k]? = some x) (h2 : l2[k]? = some x) (h : l1.take k = l2.take k) : l1.take (k + 1) = l2.take (k + 1) := by
  rw [List.take_add_one, List.take_add_one, h, h1, h2]
theorem take_ne {α : Type} {l1 l2 : List α} {k : Nat} {x y : α} (h1 : l1[k]? = some x) (h2 : l2[k]? = some y) (hne : x ≠ y) : ¬ l1 = l2 := by
  rintro rfl
  rw [h1] at h2
  exact hne (Option.some.inj h2)
theorem eqGuardOp : Try.prog.eqGuardType Try.prog.depth 23 = false := by kernel_rfl
theorem heldOp : Try.prog.stoodInHeld 23 = false := by kernel_rfl
theorem neq_op (w : World) (a b c d : Int) : (binOp .neq 23 (.agg #[.int .i64 a, .int .i64 b]) (.agg #[.int .i64 c, .int .i64 d])).run Try.prog w = .ok (.bool (!(a == c && b == d))) w := by
  have h := heldOp
  by_cases h1 : a = c <;> by_cases h2 : b = d <;> simp [go_sem, h, h1, h2]
set_option maxHeartbeats 400000 in
theorem rsameOps_any (v1 v2 : Value) (l1 l2 : List MOp) (w : World) (hs1 : Sl w v1 l1) (hs2 : Sl w v2 l2) :
    Calls Try.prog 16 #[v1, v2] w fun e w' => e = .returned (.bool (decide (l1 = l2))) ∧ Below w.heap.size w w' := by
  obtain ⟨A1, c1, rfl, hlc1, hc1, hl1⟩ := hs1.form
  obtain ⟨A2, c2, rfl, hlc2, hc2, hl2⟩ := hs2.form
  by_cases hne : l1.length = l2.length
  · have ht : ((l1.length : Int) != (l2.length : Int)) = false := by simp; omega
    have hle : l2.length ≤ l1.length := by omega
    have hle2 : l1.length ≤ l2.length := by omega
    have Hne := Lib.hid hne; clear hne
    go_enter Try.func16, Try.ntmps16
    go_wp2
    go_loopw [5] (fun t wr => ∃ k : Nat, k ≤ l1.length ∧ t = .int .i64 k ∧ Below w.heap.size w wr ∧ l1.take k = l2.take k) (fun t _ => l1.length - (intOf t).toNat)
    case atStart => exact ⟨0, by omega, rfl, (by repeat (first | exact Below.refl _ _ | assumption | refine Below.drew ?_ | refine Below.drewN_ ?_ _ | refine below_alloc ?_ _ | refine below_via (by assumption) ?_ | refine below_set ?_ (by simp <;> omega) _)), by simp⟩
    case round =>
      obtain ⟨k, hk, rfl, hbl, hck⟩ := hrel
      have Hck := Lib.hid hck; clear hck
      by_cases hlt : k < l1.length
      · obtain ⟨b1, off1, o1, rfl, hb1, ho1, hc10, hc11, hi1⟩ := (hs1.via hbl).op_at hlt
        obtain ⟨b2, off2, o2, rfl, hb2, ho2, hc20, hc21, hi2⟩ := (hs2.via hbl).op_at (show k < l2.length by omega)
        have Ho1 := Lib.hid ho1; clear ho1
        have Ho2 := Lib.hid ho2; clear ho2
        have hlt2 : k < l2.length := by omega
        have hsz := hbl.size
        have hneq := neq_op
        have hgd := eqGuardOp
        go_wp2
        go_quiet (fail)
        go_wp2
        · go_ret
          exact ⟨ret_bool (Eq.symm (decide_eq_false (take_ne Ho1.out Ho2.out (by rintro rfl; simp_all)))), (by repeat (first | exact Below.refl _ _ | assumption | refine Below.drew ?_ | refine Below.drewN_ ?_ _ | refine below_alloc ?_ _ | refine below_via (by assumption) ?_ | refine below_set ?_ (by simp <;> omega) _))⟩
        · go_roundw
          case rel => exact ⟨k + 1, by omega, by go_num, (by repeat (first | exact Below.refl _ _ | assumption | refine Below.drew ?_ | refine Below.drewN_ ?_ _ | refine below_alloc ?_ _ | refine below_via (by assumption) ?_ | refine below_set ?_ (by simp <;> omega) _)), take_same Ho1.out (by rw [Ho2.out]; cases o1; cases o2; simp_all) Hck.out⟩
          case measure => simp [intOf]; omega
      · go_wp2
        go_ret
        refine ⟨ret_bool ?_, (by repeat (first | exact Below.refl _ _ | assumption | refine Below.drew ?_ | refine Below.drewN_ ?_ _ | refine below_alloc ?_ _ | refine below_via (by assumption) ?_ | refine below_set ?_ (by simp <;> omega) _))⟩
        have := Hck.out
        rw [List.take_of_length_le (by omega), List.take_of_length_le (by omega)] at this
        simpa using this
  · go_enter Try.func16, Try.ntmps16
    go_wp2
    go_ret
    exact ⟨ret_bool (by simp; rintro rfl; exact hne rfl), (by repeat (first | exact Below.refl _ _ | assumption | refine Below.drew ?_ | refine Below.drewN_ ?_ _ | refine below_alloc ?_ _ | refine below_via (by assumption) ?_ | refine below_set ?_ (by simp <;> omega) _))⟩
end Go.Proofs.Ytjjepfkigmdjoaa
