import Derived.Test.YtjjepfkigmdjoaaLop1
namespace Go.Proofs.Ytjjepfkigmdjoaa
open Go.RowKit

theorem codeErr_enc {l : List MOp} : (encodeOps l).2 = codeErr l ∧ (codeErr l = 0 → (encodeOps l).1 = codeBytes l) ∧ (codeErr l ≠ 0 → (encodeOps l).1 = []) := by
  unfold encodeOps
  by_cases h : codeErr l = 0 <;> simp [h]

set_option maxHeartbeats 1000000 in
theorem opBegun_any (w : World) : Calls Try.prog 11 #[] w fun e w' => e = .returned (.bool true) ∧ Below w.heap.size w w' := by
  have hw : wrapI 2147483648 = -2147483648 := by decide
  go_enter Try.func11, Try.ntmps11
  go_wp2_with (first
    | (go_at_call 24; refine (loop_any _).mono ?_; rintro e w' ⟨rfl, rfl⟩; refine mk_in ?_))
  unfold MkD
  have hs2 := lit_ops w 23 loopOps 2 (by decide) (by decide) (by decide)
  have hc0 : (w.alloc (.cells (loopOps.flatMap opCells).toArray 23)).cell? ⟨w.heap.size, 0, none⟩ = some (.int .i64 1) := by simp [loopOps, opCells]
  generalize hW : w.alloc (.cells (loopOps.flatMap opCells).toArray 23) = W1 at *
  have hb1 : Below w.heap.size w W1 := by rw [← hW]; exact below_alloc (Below.refl _ _) _
  clear hW
  have e1 : encodeOps (loopOps.take 2) = ([1, 0, 0, 0, 3, 3], 0) := by decide
  go_wp2_with (first
    | (go_at_call 6; refine (encode_any _ _ _ hs2).mono ?_; rintro e W2 ⟨rfl, hb2⟩; rw [e1]))
  refine (decode_any [1, 255, 255, 255, 254, 13] W2 (by decide)).mono ?_
  rintro e W3 ⟨v, rfl, hb3, hsv, _⟩
  have e2 : decodeOps [1, 255, 255, 255, 254, 13] = ([⟨1, -2⟩, ⟨13, 0⟩], 0) := by decide
  rw [e2] at hsv ⊢
  clear hc0 hs2
  go_wp2_with (first
    | (go_at_call 24; refine (loop_any _).mono ?_; rintro e w' ⟨rfl, rfl⟩; refine mk_in ?_))
  unfold MkD
  have hc0 : (W3.alloc (.cells (loopOps.flatMap opCells).toArray 23)).cell? ⟨W3.heap.size, 0, none⟩ = some (.int .i64 1) := by simp [loopOps, opCells]
  have hc1 : (W3.alloc (.cells (loopOps.flatMap opCells).toArray 23)).cell? ⟨W3.heap.size, 1, none⟩ = some (.int .i64 3) := by simp [loopOps, opCells]
  have hsv := hsv.alloc (.cells (loopOps.flatMap opCells).toArray 23)
  generalize hW : W3.alloc (.cells (loopOps.flatMap opCells).toArray 23) = W4 at *
  have hb4 : Below W3.heap.size W3 W4 := by rw [← hW]; exact below_alloc (Below.refl _ _) _
  clear hW
  go_wp2_with (first
    | (go_at_call 12; refine (check_any ⟨1, 3⟩ _).mono ?_; rintro e W5 ⟨rfl, hb5⟩; rw [show checkOp ⟨1, 3⟩ = 0 from by decide]; refine mk_in ?_))
  unfold MkD
  go_wp2_with (first
    | (go_at_call 12; refine (check_any ⟨2, 1⟩ _).mono ?_; rintro e W6 ⟨rfl, hb6⟩; rw [show checkOp ⟨2, 1⟩ = 1 from by decide]; refine mk_in ?_))
  unfold MkD
  go_wp2_with fail
  have hv6 : Sl W6 v ([⟨1, -2⟩, ⟨13, 0⟩] : List MOp) := Sl.via (below_via hb6 (below_via hb5 (Below.refl _ _))) hsv
  have hl := lit_ops W6 23 ([⟨1, -2⟩, ⟨13, 0⟩] : List MOp) 2 (by decide) (by decide) (by decide)
  refine (rsameOps_any _ _ _ _ _ (hv6.alloc _) hl).mono ?_
  rintro e W7 ⟨rfl, hb7⟩
  rw [show decide (([⟨1, -2⟩, ⟨13, 0⟩] : List MOp) = List.take 2 ([⟨1, -2⟩, ⟨13, 0⟩] : List MOp)) = true from by decide]
  go_wp2_with (first
    | (go_at_call 14; refine (wrap_any _ _).mono ?_; rintro e w' ⟨rfl, rfl⟩; rw [hw]))
  go_ret
  exact ⟨rfl, (by repeat (first | exact Below.refl _ _ | assumption | refine Below.drew ?_ | refine Below.drewN_ ?_ _ | refine below_alloc ?_ _ | refine below_via (by assumption) ?_ | refine below_set ?_ (by simp <;> omega) _))⟩
end Go.Proofs.Ytjjepfkigmdjoaa
