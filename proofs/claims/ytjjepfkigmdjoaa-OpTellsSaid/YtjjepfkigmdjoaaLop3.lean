import Derived.Test.YtjjepfkigmdjoaaLop2
import Derived.Deep.RegionHeld3
namespace Go.Proofs.Ytjjepfkigmdjoaa
open Go.RowKit

/-- The cells of a box of two, in a later world. -/
theorem keep2 {W w' : World} {b : Nat} {x y : Value} (h0 : W.cell? ⟨b, 0, none⟩ = some x) (h1 : W.cell? ⟨b, 1, none⟩ = some y) (hb : b < W.heap.size) (h : Below W.heap.size W w') :
    Below W.heap.size W w' ∧ w'.cell? ⟨b, 0, none⟩ = some x ∧ w'.cell? ⟨b, 1, none⟩ = some y :=
  ⟨h, (h.cell (p := ⟨b, 0, none⟩) hb).trans h0, (h.cell (p := ⟨b, 1, none⟩) hb).trans h1⟩

theorem codeErr_enc {l : List MOp} : (encodeOps l).2 = codeErr l ∧ (codeErr l = 0 → (encodeOps l).1 = codeBytes l) ∧ (codeErr l ≠ 0 → (encodeOps l).1 = []) := by
  unfold encodeOps
  by_cases h : codeErr l = 0 <;> simp [h]

set_option maxHeartbeats 1000000 in
theorem opTells_any (o : MOp) (n : Int) (v : Value) (l : List MOp) (s : List UInt8) (w : World) (hi : I64 o.c ∧ I64 o.a) (hn : I64 n) (hs : Sl w v l) (hl : s.length ≤ 140737488355320) :
    Calls Try.prog 3 #[.agg #[.int .i64 o.c, .int .i64 o.a], .int .i64 n, v, .string ⟨s.toArray⟩] w fun e w' => e = .returned (.bool true) ∧ Below w.heap.size w w' := by
  obtain ⟨e1, e2, e3⟩ := @codeErr_enc l
  go_enter Try.func3, Try.ntmps3
  by_cases hz : codeErr l = 0
  · rw [hz] at e1
    have e2 := e2 hz
    clear e3
    go_wp2_with (first
      | (go_at_call 6; refine (encode_any _ l _ (hs.alloc _)).mono ?_; rintro e W2 ⟨rfl, hb2⟩; rw [e1, e2])
      | (go_at_call 7; refine (decode_any s _ hl).mono ?_; rintro e W3 ⟨vd, rfl, hb3, hsd, _⟩)
      | (go_at_call 8; refine (rcheckCode_any _ l _ (Sl.via (below_via (by assumption) (below_via (by assumption) (Below.refl _ _))) (hs.alloc _))).mono ?_; rintro e W4 ⟨rfl, hb4⟩; rw [hz])
      | (go_at_call 9; refine (rcodeBytes_any _ l _ (Sl.via (below_via (by assumption) (below_via (by assumption) (below_via (by assumption) (Below.refl _ _)))) (hs.alloc _)) hz).mono ?_; rintro e W5 ⟨rfl, hb5⟩)
      | (go_at_call 10; refine (rcodeOf_sl s _ hl).mono ?_; rintro e W6 ⟨vr, rfl, hb6, hsr, _⟩))
    have hbox : Below (w.alloc (.cells #[.int .i64 o.c, .int .i64 o.a] 23)).heap.size (w.alloc (.cells #[.int .i64 o.c, .int .i64 o.a] 23)) W6 := (by repeat (first | exact Below.refl _ _ | assumption | refine Below.drew ?_ | refine Below.drewN_ ?_ _ | refine below_alloc ?_ _ | refine below_via (by assumption) ?_ | refine below_set ?_ (by simp <;> omega) _))
    have hsd6 : Sl W6 vd (decodeOps s).1 := Sl.via (below_via hb6 (below_via hb5 (below_via hb4 (Below.refl _ _)))) hsd
    have hB : Below w.heap.size w W6 := below_via hbox (below_alloc (Below.refl _ _) _)
    have hlt : w.heap.size < W6.heap.size := by have := hbox.size; simp at this; omega
    have hx0 : W6.cell? ⟨w.heap.size, 0, none⟩ = some (.int .i64 o.c) := (hbox.cell (p := ⟨w.heap.size, 0, none⟩) (by simp)).trans (by simp)
    have hx1 : W6.cell? ⟨w.heap.size, 1, none⟩ = some (.int .i64 o.a) := (hbox.cell (p := ⟨w.heap.size, 1, none⟩) (by simp)).trans (by simp)
    clear hbox hb2 hb3 hb4 hb5 hb6 hsd hs
    go_region_held3 (fun w' => Below W6.heap.size W6 w' ∧ w'.cell? ⟨w.heap.size, 0, none⟩ = some (.int .i64 o.c) ∧ w'.cell? ⟨w.heap.size, 1, none⟩ = some (.int .i64 o.a)) (exact keep2 hx0 hx1 hlt (by repeat (first | exact Below.refl _ _ | assumption | refine Below.drew ?_ | refine Below.drewN_ ?_ _ | refine below_alloc ?_ _ | refine below_via (by assumption) ?_ | refine below_set ?_ (by simp <;> omega) _)))
      (first
        | (go_at_call 11; refine (opBegun_any _).mono ?_; rintro e w' ⟨rfl, hb⟩)
        | (go_at_call 12; refine (check_any o _).mono ?_; rintro e w' ⟨rfl, hb⟩)
        | (go_at_call 13; refine (rcheckOp_any o _).mono ?_; rintro e w' ⟨rfl, hb⟩)
        | (go_at_call 14; refine (wrap_any n _).mono ?_; rintro e w' ⟨rfl, rfl⟩)
        | (go_at_call 15; refine (rwrap_any n _ hn).mono ?_; rintro e w' ⟨rfl, rfl⟩)
        | (go_at_call 16; refine (rsameOps_any _ _ _ _ _ (Sl.via (And.left (by assumption)) hsd6) (Sl.via (And.left (by assumption)) hsr)).mono ?_; rintro e w' ⟨rfl, hb⟩))
    go_wp2
    go_ret
    exact ⟨rfl, below_via (And.left (by assumption)) hB⟩
  · have e3 := e3 hz
    clear e2
    have hne : ((codeErr l) == 0) = false := by simpa using hz
    go_wp2_with (first
      | (go_at_call 6; refine (encode_any _ l _ (hs.alloc _)).mono ?_; rintro e W2 ⟨rfl, hb2⟩; rw [e1, e3])
      | (go_at_call 7; refine (decode_any s _ hl).mono ?_; rintro e W3 ⟨vd, rfl, hb3, hsd, _⟩)
      | (go_at_call 8; refine (rcheckCode_any _ l _ (Sl.via (below_via (by assumption) (below_via (by assumption) (Below.refl _ _))) (hs.alloc _))).mono ?_; rintro e W4 ⟨rfl, hb4⟩)
      | (go_at_call 10; refine (rcodeOf_sl s _ hl).mono ?_; rintro e W6 ⟨vr, rfl, hb6, hsr, _⟩))
    have hbox : Below (w.alloc (.cells #[.int .i64 o.c, .int .i64 o.a] 23)).heap.size (w.alloc (.cells #[.int .i64 o.c, .int .i64 o.a] 23)) W6 := (by repeat (first | exact Below.refl _ _ | assumption | refine Below.drew ?_ | refine Below.drewN_ ?_ _ | refine below_alloc ?_ _ | refine below_via (by assumption) ?_ | refine below_set ?_ (by simp <;> omega) _))
    have hsd6 : Sl W6 vd (decodeOps s).1 := Sl.via (below_via hb6 (below_via hb4 (Below.refl _ _))) hsd
    have hB : Below w.heap.size w W6 := below_via hbox (below_alloc (Below.refl _ _) _)
    have hlt : w.heap.size < W6.heap.size := by have := hbox.size; simp at this; omega
    have hx0 : W6.cell? ⟨w.heap.size, 0, none⟩ = some (.int .i64 o.c) := (hbox.cell (p := ⟨w.heap.size, 0, none⟩) (by simp)).trans (by simp)
    have hx1 : W6.cell? ⟨w.heap.size, 1, none⟩ = some (.int .i64 o.a) := (hbox.cell (p := ⟨w.heap.size, 1, none⟩) (by simp)).trans (by simp)
    clear hbox hb2 hb3 hb4 hb6 hsd hs
    go_region_held3 (fun w' => Below W6.heap.size W6 w' ∧ w'.cell? ⟨w.heap.size, 0, none⟩ = some (.int .i64 o.c) ∧ w'.cell? ⟨w.heap.size, 1, none⟩ = some (.int .i64 o.a)) (exact keep2 hx0 hx1 hlt (by repeat (first | exact Below.refl _ _ | assumption | refine Below.drew ?_ | refine Below.drewN_ ?_ _ | refine below_alloc ?_ _ | refine below_via (by assumption) ?_ | refine below_set ?_ (by simp <;> omega) _)))
      (first
        | (go_at_call 11; refine (opBegun_any _).mono ?_; rintro e w' ⟨rfl, hb⟩)
        | (go_at_call 12; refine (check_any o _).mono ?_; rintro e w' ⟨rfl, hb⟩)
        | (go_at_call 13; refine (rcheckOp_any o _).mono ?_; rintro e w' ⟨rfl, hb⟩)
        | (go_at_call 14; refine (wrap_any n _).mono ?_; rintro e w' ⟨rfl, rfl⟩)
        | (go_at_call 15; refine (rwrap_any n _ hn).mono ?_; rintro e w' ⟨rfl, rfl⟩)
        | (go_at_call 16; refine (rsameOps_any _ _ _ _ _ (Sl.via (And.left (by assumption)) hsd6) (Sl.via (And.left (by assumption)) hsr)).mono ?_; rintro e w' ⟨rfl, hb⟩))
    go_wp2
    go_ret
    exact ⟨rfl, below_via (And.left (by assumption)) hB⟩

end Go.Proofs.Ytjjepfkigmdjoaa
