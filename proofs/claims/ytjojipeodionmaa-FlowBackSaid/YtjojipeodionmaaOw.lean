/- Memory of the call's own: slices of whatever, nothing of which is met twice (each with its footprint, the blocks in which it lies); what a write and an append make of them. -/
import Derived.Test.YtjojipeodionmaaApp
namespace Go.Proofs.Ytjojipeodionmaa
open Go.RowKit

/-- How a value lies in blocks of the call's own: F is the set of these. -/
class Ow (α : Type) extends Rep α where
  ty : TypeId
  own : World → (Nat → Prop) → List Value → α → Prop
  rd_ : ∀ {w : World} {F : Nat → Prop} {cs : List Value} {x : α}, own w F cs x → Rep.rep w w.heap.size cs x
  lt : ∀ {w : World} {F : Nat → Prop} {cs : List Value} {x : α} {b : Nat}, own w F cs x → F b → b < w.heap.size
  frame : ∀ {w w' : World} {F : Nat → Prop} {cs : List Value} {x : α}, own w F cs x → (∀ b, F b → w'.heap[b]? = w.heap[b]?) → own w' F cs x
  cong : ∀ {w : World} {F F' : Nat → Prop} {cs : List Value} {x : α}, own w F cs x → (∀ b, F b ↔ F' b) → own w F' cs x
/-- The type of slices of α. -/
class SlTy (α : Type) where
  sty : TypeId

/-- A slice of the call's own that has an array: block g, from cell p on. -/
structure OwAt {α : Type} [Ow α] (w : World) (F : Nat → Prop) (v : Value) (xs : List α) (g p cap : Nat) (cur : Array Value) (Fs : Nat → Nat → Prop) : Prop where
  hv : v = .slice (some ⟨g, p, none⟩) xs.length cap
  hg : w.heap[g]? = some (.cells cur (Ow.ty α) (0, 0))
  hn : xs.length ≤ cap
  hc : cap ≤ maxLen
  hs : p + cap * Rep.k α ≤ cur.size
  hl : xs.length ≤ 140737488355328
  el : ∀ i x, xs[i]? = some x → Ow.own w (Fs i) ((cur.toList.drop (p + i * Rep.k α)).take (Rep.k α)) x
  hF : ∀ b, F b ↔ b = g ∨ ∃ i, i < xs.length ∧ Fs i b
  ng : ∀ i, i < xs.length → ¬ Fs i g
  dj : ∀ i j b, i < xs.length → j < xs.length → Fs i b → Fs j b → i = j
/-- A slice of the call's own. -/
def OwL {α : Type} [Ow α] (w : World) (F : Nat → Prop) (v : Value) (xs : List α) : Prop :=
  (v = .slice none 0 0 ∧ xs = [] ∧ ∀ b, ¬ F b) ∨ ∃ g p cap cur Fs, OwAt w F v xs g p cap cur Fs

section
variable {α : Type} [Ow α] {w w' : World} {F F' : Nat → Prop} {v : Value} {xs : List α} {g p cap : Nat} {cur : Array Value} {Fs : Nat → Nat → Prop}
theorem OwAt.lt (h : OwAt w F v xs g p cap cur Fs) : g < w.heap.size := (Array.getElem?_eq_some_iff.1 h.hg).1
theorem OwAt.cell (h : OwAt w F v xs g p cap cur Fs) (q : Nat) : w.cell? ⟨g, q, none⟩ = cur[q]? := by simp [World.cell?, h.hg]
theorem OwAt.frozen (h : OwAt w F v xs g p cap cur Fs) (q : Nat) : w.frozen? ⟨g, q, none⟩ = false := by simp [World.frozen?, h.hg]
theorem cells_get (cur : Array Value) (q k j : Nat) (hj : j < k) : ((cur.toList.drop q).take k)[j]? = cur[q + j]? := by
  rw [List.getElem?_take, if_pos hj, List.getElem?_drop]; simp
theorem OwAt.sl (h : OwAt w F v xs g p cap cur Fs) : Sl w v xs := by
  refine ⟨_, cap, h.hv, h.hn, h.hc, h.hl, fun _ => ⟨g, p, rfl, h.lt, fun i x hx => ?_⟩⟩
  have hr := Ow.rd_ (h.el i x hx)
  refine ⟨_, hr, fun j u hu => ?_⟩
  have hj : j < Rep.k α := by rw [← Rep.len hr]; exact (List.getElem?_eq_some_iff.1 hu).1
  rw [cells_get _ _ _ _ hj] at hu
  rw [h.cell, hu]
theorem OwAt.ltF (h : OwAt w F v xs g p cap cur Fs) {b : Nat} (hb : F b) : b < w.heap.size := by
  rcases (h.hF b).1 hb with rfl | ⟨i, hi, hb⟩
  · exact h.lt
  · exact Ow.lt (h.el i _ (List.getElem?_eq_getElem hi)) hb
theorem OwAt.frame (h : OwAt w F v xs g p cap cur Fs) (hf : ∀ b, F b → w'.heap[b]? = w.heap[b]?) : OwAt w' F v xs g p cap cur Fs :=
  { h with
    hg := (hf g ((h.hF g).2 (.inl rfl))).trans h.hg
    el := fun i x hx => Ow.frame (h.el i x hx) fun b hb => hf b ((h.hF b).2 (.inr ⟨i, (List.getElem?_eq_some_iff.1 hx).1, hb⟩)) }
theorem OwAt.cong (h : OwAt w F v xs g p cap cur Fs) (hf : ∀ b, F b ↔ F' b) : OwAt w F' v xs g p cap cur Fs := { h with hF := fun b => (hf b).symm.trans (h.hF b) }
theorem OwL.sl (h : OwL w F v xs) : Sl w v xs := by
  rcases h with ⟨rfl, rfl, _⟩ | ⟨g, p, cap, cur, Fs, h⟩
  · exact Sl.nil_
  · exact h.sl
theorem OwL.lt (h : OwL w F v xs) {b : Nat} (hb : F b) : b < w.heap.size := by
  rcases h with ⟨_, _, h⟩ | ⟨g, p, cap, cur, Fs, h⟩
  · exact (h b hb).elim
  · exact h.ltF hb
theorem OwL.frame (h : OwL w F v xs) (hf : ∀ b, F b → w'.heap[b]? = w.heap[b]?) : OwL w' F v xs := by
  rcases h with h | ⟨g, p, cap, cur, Fs, h⟩
  · exact .inl h
  · exact .inr ⟨g, p, cap, cur, Fs, h.frame hf⟩
theorem OwL.cong (h : OwL w F v xs) (hf : ∀ b, F b ↔ F' b) : OwL w F' v xs := by
  rcases h with ⟨h1, h2, h3⟩ | ⟨g, p, cap, cur, Fs, h⟩
  · exact .inl ⟨h1, h2, fun b hb => h3 b ((hf b).2 hb)⟩
  · exact .inr ⟨g, p, cap, cur, Fs, h.cong hf⟩
theorem OwL.nil_ (w : World) : OwL w (fun _ => False) (.slice none 0 0) ([] : List α) := .inl ⟨rfl, rfl, fun _ h => h⟩
theorem OwL.via (hb : Below w.heap.size w w') (h : OwL w F v xs) : OwL w' F v xs := h.frame fun b hF => hb.block b (h.lt hF)
/-- One element is another one: its cells, and blocks of its own, alone are other. -/
theorem OwAt.upd (h : OwAt w F v xs g p cap cur Fs) {i : Nat} (hi : i < xs.length) {cur' : Array Value} {Fi : Nat → Prop} {x' : α} (hg' : w'.heap[g]? = some (.cells cur' (Ow.ty α) (0, 0))) (hsz : cur'.size = cur.size)
    (hcur : ∀ q, (q < p + i * Rep.k α ∨ p + i * Rep.k α + Rep.k α ≤ q) → cur'[q]? = cur[q]?) (hfr : ∀ j b, j < xs.length → j ≠ i → Fs j b → w'.heap[b]? = w.heap[b]?)
    (hel : Ow.own w' Fi ((cur'.toList.drop (p + i * Rep.k α)).take (Rep.k α)) x') (hd : ∀ b, Fi b → b ≠ g ∧ ∀ j, j < xs.length → j ≠ i → ¬ Fs j b) :
    OwAt w' (fun b => b = g ∨ (∃ j, j < xs.length ∧ j ≠ i ∧ Fs j b) ∨ Fi b) v (xs.set i x') g p cap cur' (fun j => if j = i then Fi else Fs j) where
  hv := by rw [List.length_set]; exact h.hv
  hg := hg'
  hn := by rw [List.length_set]; exact h.hn
  hc := h.hc
  hs := by rw [hsz]; exact h.hs
  hl := by rw [List.length_set]; exact h.hl
  el := fun j x hx => by
    by_cases hj : j = i
    · subst hj
      rw [List.getElem?_set_self hi] at hx
      cases hx
      simp only [if_true]
      exact hel
    · rw [List.getElem?_set_ne (fun e => hj e.symm)] at hx
      simp only [hj, if_false]
      have hjl := (List.getElem?_eq_some_iff.1 hx).1
      have he := Ow.frame (h.el j x hx) (fun b hb => hfr j b hjl hj hb)
      have : (cur'.toList.drop (p + j * Rep.k α)).take (Rep.k α) = (cur.toList.drop (p + j * Rep.k α)).take (Rep.k α) := by
        apply List.ext_getElem?
        intro m
        by_cases hm : m < Rep.k α
        · rw [cells_get _ _ _ _ hm, cells_get _ _ _ _ hm]
          apply hcur
          rcases Nat.lt_or_gt_of_ne hj with hlt | hgt
          · left
            have : (j + 1) * Rep.k α ≤ i * Rep.k α := Nat.mul_le_mul_right _ hlt
            rw [Nat.succ_mul] at this
            omega
          · right
            have : (i + 1) * Rep.k α ≤ j * Rep.k α := Nat.mul_le_mul_right _ hgt
            rw [Nat.succ_mul] at this
            omega
        · rw [List.getElem?_eq_none (by rw [List.length_take]; omega), List.getElem?_eq_none (by rw [List.length_take]; omega)]
      rw [this]
      exact he
  hF := fun b => by
    rw [List.length_set]
    constructor
    · rintro (rfl | ⟨j, hj, hne, hb⟩ | hb)
      · exact .inl rfl
      · exact .inr ⟨j, hj, by simp only [hne, if_false]; exact hb⟩
      · exact .inr ⟨i, hi, by simp only [if_true]; exact hb⟩
    · rintro (rfl | ⟨j, hj, hb⟩)
      · exact .inl rfl
      · by_cases hji : j = i
        · subst hji; simp only [if_true] at hb; exact .inr (.inr hb)
        · simp only [hji, if_false] at hb; exact .inr (.inl ⟨j, hj, hji, hb⟩)
  ng := fun j hj hb => by
    rw [List.length_set] at hj
    by_cases hji : j = i
    · subst hji; simp only [if_true] at hb; exact (hd g hb).1 rfl
    · simp only [hji, if_false] at hb; exact h.ng j hj hb
  dj := fun a c b ha hc hab hcb => by
    rw [List.length_set] at ha hc
    by_cases hai : a = i <;> by_cases hci : c = i
    · rw [hai, hci]
    · simp only [hai, if_true] at hab
      simp only [hci, if_false] at hcb
      exact ((hd b hab).2 c hc hci hcb).elim
    · simp only [hai, if_false] at hab
      simp only [hci, if_true] at hcb
      exact ((hd b hcb).2 a ha hai hab).elim
    · simp only [hai, if_false] at hab
      simp only [hci, if_false] at hcb
      exact h.dj a c b ha hc hab hcb
end

instance : Ow Int where
  ty := 3
  own _ F cs n := (cs = [.int .i64 n] ∧ I64 n) ∧ ∀ b, ¬ F b
  rd_ h := h.1
  lt h hb := (h.2 _ hb).elim
  frame h _ := h
  cong h hf := ⟨h.1, fun b hb => h.2 b ((hf b).2 hb)⟩
instance : SlTy Int := ⟨41⟩
instance {α : Type} [Ow α] [SlTy α] : Ow (List α) where
  ty := SlTy.sty α
  own w F cs xs := ∃ v, cs = [v] ∧ OwL w F v xs
  rd_ h := by obtain ⟨v, h, ho⟩ := h; exact ⟨v, h, ho.sl⟩
  lt h hb := by obtain ⟨v, h, ho⟩ := h; exact ho.lt hb
  frame h hf := by obtain ⟨v, h, ho⟩ := h; exact ⟨v, h, ho.frame hf⟩
  cong h hf := by obtain ⟨v, h, ho⟩ := h; exact ⟨v, h, ho.cong hf⟩
instance : SlTy (List Int) := ⟨39⟩
end Go.Proofs.Ytjojipeodionmaa
