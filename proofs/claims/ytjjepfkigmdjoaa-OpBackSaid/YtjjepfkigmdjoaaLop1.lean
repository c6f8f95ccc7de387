import Derived.Test.YtjjepfkigmdjoaaRop5
namespace Go.Proofs.Ytjjepfkigmdjoaa
open Go.RowKit

theorem wrapI_i64 (n : Int) : I64 (wrapI n) := by unfold wrapI I64; omega
theorem firstOp_i64 (b : UInt8) (r : List UInt8) : I64 (firstOp b r).1.c ∧ I64 (firstOp b r).1.a := by
  have hb := b.toNat_lt
  have h0 : I64 (b.toNat : Int) := by unfold I64; omega
  have h1 : I64 0 := by unfold I64; omega
  unfold firstOp
  split
  · exact ⟨h0, h1⟩
  split
  · exact ⟨h0, h1⟩
  · refine ⟨h0, ?_⟩
    dsimp only
    split
    · exact wrapI_i64 _
    · exact h1
theorem decodeGo_i64 (k : Nat) : ∀ (r : List UInt8) (out : List MOp), (∀ o ∈ out, I64 o.c ∧ I64 o.a) → out.length ≤ 40 → (∀ o ∈ (decodeGo k r out).1, I64 o.c ∧ I64 o.a) ∧ (decodeGo k r out).1.length ≤ 40 := by
  induction k with
  | zero => intro r out h h40; cases r <;> simp [decodeGo] <;> first | exact ⟨h, h40⟩ | skip
  | succ k ih =>
    intro r out h h40
    cases r with
    | nil => simpa [decodeGo] using ⟨h, h40⟩
    | cons b r =>
      simp only [decodeGo]
      split
      · simp
      split
      · simp
      · rename_i h41
        refine ih _ _ (fun o ho => ?_) (by simp at h41 ⊢; omega)
        rcases List.mem_append.1 ho with ho | ho
        · exact h o ho
        · simp at ho; subst ho; exact firstOp_i64 b r
theorem decodeOps_i64 (l : List UInt8) : (∀ o ∈ (decodeOps l).1, I64 o.c ∧ I64 o.a) ∧ (decodeOps l).1.length ≤ 40 := decodeGo_i64 _ _ _ (by simp) (by simp)

theorem own_ops {W : World} {base : Nat} {v : Value} {xs : List MOp} (h : W.ownsRow base 23 2 v xs.length (xs.flatMap opCells)) (hi : ∀ o ∈ xs, I64 o.c ∧ I64 o.a) (hl : xs.length ≤ 40) : Sl W v xs :=
  own_sl opCells h (fun o ho => ⟨rfl, hi o ho⟩) (by omega)
theorem decode_any (l : List UInt8) (w : World) (hl : l.length ≤ 140737488355320) : Calls Try.prog 7 #[.string ⟨l.toArray⟩] w fun e w' =>
    ∃ v, e = .returned (.tuple #[v, .int .i64 (decodeOps l).2]) ∧ Below w.heap.size w w' ∧ Sl w' v (decodeOps l).1 ∧ w'.ownsRow w.heap.size 23 2 v (decodeOps l).1.length ((decodeOps l).1.flatMap opCells) :=
  (callsIn_wide.1 (decode_in l w hl)).mono fun e w' ⟨v, h1, h2, h3⟩ => ⟨v, h1, h2, own_ops h3 (decodeOps_i64 l).1 (decodeOps_i64 l).2, own_mono h3 (by omega)⟩
theorem rcodeOf_sl (l : List UInt8) (w : World) (hl : l.length ≤ 140737488355320) : Calls Try.prog 10 #[.string ⟨l.toArray⟩] w fun e w' =>
    ∃ v, e = .returned (.tuple #[v, .int .i64 (decodeOps l).2]) ∧ Below w.heap.size w w' ∧ Sl w' v (decodeOps l).1 ∧ w'.ownsRow w.heap.size 23 2 v (decodeOps l).1.length ((decodeOps l).1.flatMap opCells) :=
  (rcodeOf_any l w hl).mono fun e w' ⟨v, h1, h2, h3⟩ => ⟨v, h1, h2, own_ops h3 (decodeOps_i64 l).1 (decodeOps_i64 l).2, h3⟩

def loopOps : List MOp := [⟨1, 3⟩, ⟨3, 0⟩, ⟨20, 0⟩, ⟨1, 1⟩, ⟨6, 0⟩, ⟨3, 0⟩, ⟨11, 8⟩, ⟨10, 1⟩, ⟨2, 0⟩, ⟨13, 0⟩]
theorem lit_ops (w : World) (T : TypeId) (xs : List MOp) (n : Nat) (hn : n ≤ xs.length) (hi : ∀ o ∈ xs, I64 o.c ∧ I64 o.a) (hl : xs.length ≤ 140737488355328) :
    Sl (w.alloc (.cells (xs.flatMap opCells).toArray T)) (.slice (some ⟨w.heap.size, 0, none⟩) n xs.length) (xs.take n) := by
  have hb : (w.alloc (.cells (xs.flatMap opCells).toArray T)).heap[w.heap.size]? = some (.cells (xs.flatMap opCells).toArray T) := heap_alloc_new w _
  have hln : (xs.take n).length = n := by simp; omega
  refine ⟨_, _, by rw [hln], by rw [hln]; exact hn, by unfold maxLen; omega, by omega, fun _ => ⟨_, _, rfl, by simp, fun i x hx => ⟨opCells x, ⟨rfl, hi x (List.mem_of_mem_take (List.mem_of_getElem? hx))⟩, fun j u hu => ?_⟩⟩⟩
  have hx' : xs[i]? = some x := by
    rw [List.getElem?_take] at hx
    split at hx
    · exact hx
    · cases hx
  have h1 := flat_get opCells 2 xs (fun _ _ => rfl) i x j u hx' hu
  simp only [World.cell?, hb, Nat.zero_add]
  simpa [Rep.k] using h1
theorem loop_any (w : World) : Calls Try.prog 24 #[] w fun e w' => e = .returned (.slice (some ⟨w.heap.size, 0, none⟩) 10 10) ∧ w' = w.alloc (.cells (loopOps.flatMap opCells).toArray 23) := by
  go_enter Try.func24, Try.ntmps24
  go_wp2
  go_ret
  exact ⟨rfl, rfl⟩
end Go.Proofs.Ytjjepfkigmdjoaa
