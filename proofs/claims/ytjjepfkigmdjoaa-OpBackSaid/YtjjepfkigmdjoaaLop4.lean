import Derived.Test.YtjjepfkigmdjoaaLop2
namespace Go.Proofs.Ytjjepfkigmdjoaa
open Go.RowKit

theorem wrapI_of {m n : Int} (h : m % 4294967296 = n % 4294967296) : wrapI m = wrapI n := by unfold wrapI; omega
theorem wrapI_emod (n : Int) : wrapI n % 4294967296 = n % 4294967296 := by unfold wrapI; omega
theorem wrap64_emod (n : Int) : wrap64 n % 4294967296 = n % 4294967296 := by unfold wrap64; omega
theorem wrapI_bd (n : Int) : -2147483648 ≤ wrapI n ∧ wrapI n ≤ 2147483647 := by unfold wrapI; omega
theorem wrap_idem (n : Int) : wrapI (wrapI n) = wrapI n := wrapI_of (wrapI_emod n)
theorem wrap_add (a b : Int) : wrapI (wrapI a + wrapI b) = wrapI (wrap64 (a + b)) := wrapI_of (by rw [wrap64_emod, Int.add_emod, wrapI_emod, wrapI_emod, ← Int.add_emod])
theorem wrap_sub (a b : Int) : wrapI (wrapI a - wrapI b) = wrapI (wrap64 (a - b)) := wrapI_of (by rw [wrap64_emod, Int.sub_emod, wrapI_emod, wrapI_emod, ← Int.sub_emod])
theorem wrap_mul (a b : Int) : wrapI (wrap64 (wrapI a * wrapI b)) = wrapI (wrap64 (a * b)) := wrapI_of (by rw [wrap64_emod, wrap64_emod, Int.mul_emod, wrapI_emod, wrapI_emod, ← Int.mul_emod])
theorem wrap_self (a : Int) : wrapI (wrap64 (a - wrapI a)) = 0 := by
  have : wrapI (wrap64 (a - wrapI a)) = wrapI 0 := wrapI_of (by rw [wrap64_emod, Int.sub_emod, wrapI_emod]; simp)
  rw [this]; decide

set_option maxHeartbeats 1000000 in
theorem opWrap_any (a b : Int) (w : World) (ha : I64 a) (hb : I64 b) : Calls Try.prog 5 #[.int .i64 a, .int .i64 b] w fun e w' => e = .returned (.bool true) ∧ Below w.heap.size w w' := by
  have ha1 := (wrapI_bd a).1
  have ha2 := (wrapI_bd a).2
  have hb1 := (wrapI_bd b).1
  have hb2 := (wrapI_bd b).2
  have e1 := wrap_idem a
  have e2 := wrap_add a b
  have e3 := wrap_mul a b
  have e4 := wrap_sub a b
  have e5 := wrap_self a
  go_enter Try.func5, Try.ntmps5
  go_wp2_with (first
    | (go_at_call 14; refine (wrap_any _ _).mono ?_; rintro e w' ⟨rfl, rfl⟩)
    | (go_at_call 11; refine (opBegun_any _).mono ?_; rintro e w' ⟨rfl, hb⟩))
  go_ret
  exact ⟨rfl, (by repeat (first | exact Below.refl _ _ | assumption | refine Below.drew ?_ | refine Below.drewN_ ?_ _ | refine below_alloc ?_ _ | refine below_via (by assumption) ?_ | refine below_set ?_ (by simp <;> omega) _))⟩
end Go.Proofs.Ytjjepfkigmdjoaa
