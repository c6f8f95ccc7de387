/- Texts of one proof, one behind the other: lemmas alone. -/
import Derived.RangeFuncBox
import Derived.Maps.AppendAt
import Derived.Test.YtpacloheigifkaaGreatM21V

-- Op7
namespace Go.Proofs.YtpacloheigifkaaGreat
open Go.RowKit Go.Shelf
attribute [local go_sem] Oper.semAt_some

def opCells (o : MOp) : List Value := [.int .i64 o.c, .int .i64 o.a]
structure DecI (w : World) (l r : List UInt8) (W : World) : Prop where
 ex : ∃ out v, Boxed W (w.heap.size + 2) 108 v ∧ W.ownsRow (w.heap.size + 4) 49 2 v out.length (out.flatMap opCells) ∧ decodeGo r.length r out = decodeOps l ∧ out.length ≤ 40
 b0 : Boxed W w.heap.size 108 (.slice none 0 0)
 b1 : Boxed W (w.heap.size + 1) 30 (.int .i64 0)
 below : Below w.heap.size w W
structure DecX (w : World) (l : List UInt8) (W : World) : Prop where
 ex : ∃ e, decodeOps l = ([], e) ∧ Boxed W (w.heap.size + 1) 30 (.int .i64 e)
 b0 : Boxed W w.heap.size 108 (.slice none 0 0)
 below : Below w.heap.size w W
theorem own_not_other {W : World} {base row size n : Nat} {e : TypeId} {v : Value} {xs : List Value} {o : Obj} (h : W.ownsRow base e size v n xs) (ho : W.heap[row]? = some o) (hc : o.isCells = false) : v.ownBlock ≠ some row := by
 rcases h.2 with ⟨rfl, _⟩ | ⟨g, cap, cur, rfl, _, hg, _⟩
 ·simp [Value.ownBlock]
 ·intro e'
  obtain rfl : g = row := by simpa [Value.ownBlock] using e'
  rw [hg] at ho; cases ho; cases hc
theorem own_not_low {W : World} {base row size n : Nat} {e : TypeId} {v : Value} {xs : List Value} (h : W.ownsRow base e size v n xs) (hr : row < base) : v.ownBlock ≠ some row := by
 intro e'
 have := (h.lt _ e').1
 omega
theorem boxed_not_other {W : World} {B row : Nat} {t : TypeId} {v : Value} {o : Obj} (h : Boxed W B t v) (ho : W.heap[row]? = some o) (hc : o.isCells = false) : B ≠ row := by
 rintro rfl
 rw [show W.heap[B]? = _ from h] at ho; cases ho; cases hc
def Turns (w W : World) (row : Nat) : Prop := w.heap.size + 3 = row ∨ (w.heap.size ≤ row ∧ ∃ o, W.heap[row]? = some o ∧ o.isCells = false)
theorem Turns.le {w W : World} {row : Nat} (h : Turns w W row) : w.heap.size ≤ row := by rcases h with h | h <;> omega
theorem Turns.box {w W : World} {row B : Nat} {t : TypeId} {v : Value} (h : Turns w W row) (hb : Boxed W B t v) (hB : B ≠ w.heap.size + 3) : some B ≠ some row := by
 rcases h with h | ⟨_, o, ho, hc⟩
 ·simp; omega
 ·simpa using boxed_not_other hb ho hc
theorem DecI.kept {w W W' : World} {l r : List UInt8} {row : Nat} (h : DecI w l r W) (hg : W.grownBy W' (some row)) (hr : Turns w W row) : DecI w l r W' := by
 obtain ⟨⟨out, v, h2, ho, hd, h40⟩, h0, h1, hb⟩ := h
 refine ⟨⟨out, v, h2.kept hg (hr.box h2 (by omega)), ho.kept hg (.inr ?_), hd, h40⟩, h0.kept hg (hr.box h0 (by omega)), h1.kept hg (hr.box h1 (by omega)), hb.grown hg hb.size (fun k e => by cases e; exact hr.le)⟩
 rcases hr with h | ⟨_, o, ho', hc⟩
 ·exact own_not_low ho (by omega)
 ·exact own_not_other ho ho' hc
theorem DecI.alloc {w W : World} {l r : List UInt8} (h : DecI w l r W) (o : Obj) : DecI w l r (W.alloc o) := by
 obtain ⟨⟨out, v, h2, ho, hd, h40⟩, h0, h1, hb⟩ := h
 exact ⟨⟨out, v, h2.alloc _, ho.alloc _, hd, h40⟩, h0.alloc _, h1.alloc _, hb.alloc hb.size _⟩
theorem DecX.kept {w W W' : World} {l : List UInt8} {row : Nat} (h : DecX w l W) (hg : W.grownBy W' (some row)) (hr : Turns w W row) : DecX w l W' := by
 obtain ⟨⟨e, hd, h1⟩, h0, hb⟩ := h
 exact ⟨⟨e, hd, h1.kept hg (hr.box h1 (by omega))⟩, h0.kept hg (hr.box h0 (by omega)), hb.grown hg hb.size (fun k e => by cases e; exact hr.le)⟩
def postR (I : List UInt8 → World → Prop) (Ix : World → Prop) (bs : Nat) (b : UInt8) (r : List UInt8) (W : World) : Exit → Act → World → Prop
 | .normal, _, W' => KeepsOthers W W' ∧ (firstOp b r).2.2 = true ∧ I (firstOp b r).2.1 W' ∧ Cap W' bs (b :: r)
 | .ret, _, W' => KeepsOthers W W' ∧ Ix W'
 | _, _, _ => False
end Go.Proofs.YtpacloheigifkaaGreat
-- Rop1
namespace Go.Proofs.YtpacloheigifkaaGreat
open Go.RowKit
theorem rwrap_any (n : Int) (w : World) (hn : I64 n) : Calls Tryz.prog 78 #[.int .i64 n] w fun e w' => e = .returned (.int .i64 (wrapI n)) ∧ w = w' := by
  have h1 := hn.lo
  have h2 := hn.hi
  by_cases h0 : 0 ≤ n
  · go_enter Tryz.func78, Tryz.ntmps78
    go_wp2
    all_goals (go_ret; exact ⟨ret_int (by unfold wrapI; omega), rfl⟩)
  · have ht : n.tmod 4294967296 = -((-n) % 4294967296) := by
      rw [← Int.tmod_eq_emod_of_nonneg (by omega), Int.neg_tmod, Int.neg_neg]
    have h3 : -4294967296 < -((-n) % 4294967296) := by omega
    have h4 : -((-n) % 4294967296) ≤ 0 := by omega
    go_enter Tryz.func78, Tryz.ntmps78
    go_wp2
    all_goals (go_ret; exact ⟨ret_int (by unfold wrapI; omega), rfl⟩)

end Go.Proofs.YtpacloheigifkaaGreat
