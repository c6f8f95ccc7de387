/- Texts of one proof, one behind the other: lemmas alone. -/
import Derived.Deep.QuietTactic
import Derived.BigQuiet
import Derived.Test.YtmnkaalchcomlaaGreatM16T
import Derived.Test.YtmnkaalchcomlaaGreatM23T

-- Lbl1
namespace Go.Proofs.YtmnkaalchcomlaaGreat
open Go.RowKit

/-- A slice of one slice, just laid. -/
theorem Sl.one {α : Type} [Rep α] {w : World} {u : Value} {xs : List α} (h : Sl w u xs) (T : TypeId) : Sl (w.alloc (.cells #[u] T)) (.slice (some ⟨w.heap.size, 0, none⟩) 1 1) [xs] := by
  refine ⟨_, 1, rfl, Nat.le_refl _, by unfold maxLen; omega, by simp, fun _ => ⟨_, _, rfl, by simp, fun i x hx => ⟨[u], ⟨u, rfl, ?_⟩, fun j y hy => ?_⟩⟩⟩
  · have hi : i < 1 := by simpa using (List.getElem?_eq_some_iff.1 hx).1
    obtain rfl : i = 0 := by omega
    simp at hx
    subst hx
    exact h.alloc _
  · have hi : i < 1 := by simpa using (List.getElem?_eq_some_iff.1 hx).1
    obtain rfl : i = 0 := by omega
    match j with
    | 0 =>
      simp at hy
      subst hy
      have hb : (w.alloc (.cells #[u] T)).heap[w.heap.size]? = some (.cells #[u] T) := heap_alloc_new w _
      simp only [World.cell?, hb, Rep.k]
      simp
    | j + 1 => simp at hy

end Go.Proofs.YtmnkaalchcomlaaGreat

