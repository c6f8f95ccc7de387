/- A write into memory of the call's own: a number of a row; a number of a row of rows. -/
import Derived.Test.YtjojipeodionmaaOw2
import Derived.Laws.Rows
namespace Go.Proofs.Ytjojipeodionmaa
open Go.RowKit

section
variable {w : World} {F : Nat → Prop} {v : Value} {B : Nat}
theorem OwAt.set_int {xs : List Int} {g p cap : Nat} {cur : Array Value} {Fs : Nat → Nat → Prop} (h : OwAt w F v xs g p cap cur Fs) {j : Nat} (hj : j < xs.length) {x : Int} (hx : I64 x) :
    ∃ cur' Fs', OwAt (w.setCell ⟨g, p + j, none⟩ (.int .i64 x)) F v (xs.set j x) g p cap cur' Fs' := by
  have hn := h.hn
  have hs := h.hs
  have hk : Rep.k Int = 1 := rfl
  have hno : ∀ i b, i < xs.length → ¬ Fs i b := fun i b hi hb => (h.el i _ (List.getElem?_eq_getElem hi)).2 b hb
  have hg' := heap_setCell_same w g (p + j) cur (Ow.ty Int) (.int .i64 x) h.hg
  have hu := h.upd (w' := w.setCell ⟨g, p + j, none⟩ (.int .i64 x)) (i := j) hj (cur' := cur.setIfInBounds (p + j) (.int .i64 x)) (Fi := fun _ => False) (x' := x) hg' (by simp)
    (fun q hq => by
      rw [hk, Nat.mul_one] at hq
      rw [Array.getElem?_setIfInBounds, if_neg (by omega)])
    (fun i b hi _ hb => (hno i b hi hb).elim)
    (by
      refine ⟨⟨?_, hx⟩, fun _ h => h⟩
      apply List.ext_getElem?
      intro m
      rw [hk, Nat.mul_one]
      by_cases hm : m < 1
      · obtain rfl : m = 0 := by omega
        rw [cells_get _ _ _ _ (by omega), Nat.add_zero, Array.getElem?_setIfInBounds, if_pos rfl, if_pos (by rw [hk] at hs; omega)]
        rfl
      · rw [List.getElem?_eq_none (by rw [List.length_take]; omega), List.getElem?_eq_none (by simp; omega)])
    (fun _ hb => hb.elim)
  refine ⟨_, _, hu.cong fun b => ?_⟩
  rw [h.hF b]
  constructor
  · rintro (rfl | ⟨i, hi, _, hb⟩ | hb)
    · exact .inl rfl
    · exact .inr ⟨i, hi, hb⟩
    · exact hb.elim
  · rintro (rfl | ⟨i, hi, hb⟩)
    · exact .inl rfl
    · exact (hno i b hi hb).elim
/-- The cell of element k of a slice whose elements are of one cell each. -/
def cellAt (w : World) (v : Value) (k : Nat) : Option Value := match v with | .slice (some ⟨b, off, none⟩) _ _ => w.cell? ⟨b, off + k, none⟩ | _ => none
theorem OwN.put_int {xs : List Int} {A : Addr} {n c : Nat} (h : OwN w B (.slice (some A) n c) xs) {j : Nat} (hj : j < n) {x : Int} (hx : I64 x) :
    A.spot = none ∧ B ≤ A.block ∧ w.frozen? ⟨A.block, A.off + j, none⟩ = false ∧ OwN (w.setCell ⟨A.block, A.off + j, none⟩ (.int .i64 x)) B (.slice (some A) n c) (xs.set j x) := by
  obtain ⟨F, ho, hB⟩ := h
  rcases ho with ⟨hv, _, _⟩ | ⟨g, p, cap, cur, Fs, ho⟩
  · cases hv
  · have hv := ho.hv
    injection hv with e1 e2 e3
    injection e1 with e1
    subst e1 e2
    obtain ⟨cur', Fs', h'⟩ := ho.set_int hj hx
    exact ⟨rfl, hB _ ((ho.hF _).2 (.inl rfl)), ho.frozen _, F, .inr ⟨_, _, _, _, _, h'⟩, hB⟩
theorem OwN.put_in {xs : List (List Int)} {k b o n c : Nat} (h : OwN w B v xs) (hk : k < xs.length) (hat : cellAt w v k = some (.slice (some ⟨b, o, none⟩) n c)) {j : Nat} (hj : j < (xs.getD k []).length) {x : Int} (hx : I64 x) :
    B ≤ b ∧ w.frozen? ⟨b, o + j, none⟩ = false ∧ OwN (w.setCell ⟨b, o + j, none⟩ (.int .i64 x)) B v (xs.set k ((xs.getD k []).set j x)) := by
  obtain ⟨F, ho, hB⟩ := h
  rcases ho with ⟨rfl, _, _⟩ | ⟨g, p, cap, cur, Fs, ho⟩
  · simp [cellAt] at hat
  · have hkk : Rep.k (List Int) = 1 := rfl
    have hxk : xs[k]? = some (xs.getD k []) := by rw [List.getD_eq_getElem?_getD, List.getElem?_eq_getElem hk]; rfl
    generalize hys : xs.getD k [] = ys at *
    have hel := ho.el k _ hxk
    obtain ⟨u, hu, hou⟩ := hel
    rw [hkk, Nat.mul_one] at hu
    have hcu : cur[p + k]? = some u := by
      have := cells_get cur (p + k) 1 0 (by omega)
      rw [hu] at this
      simpa using this.symm
    rw [ho.hv] at hat
    simp only [cellAt, ho.cell, hcu, Option.some.injEq] at hat
    subst hat
    rcases hou with ⟨hv, _, _⟩ | ⟨g2, p2, cap2, cur2, Fs2, hou⟩
    · cases hv
    · have hv2 := hou.hv
      injection hv2 with e1 e2 e3
      injection e1 with e1
      injection e1 with e1 e4
      subst e1 e4 e2 e3
      obtain ⟨cur2', Fs2', hou'⟩ := hou.set_int hj hx
      have hbk : Fs k b := (hou.hF b).2 (.inl rfl)
      have hbF : F b := (ho.hF b).2 (.inr ⟨k, hk, hbk⟩)
      have hgb : b ≠ g := fun e => ho.ng k hk (e ▸ hbk)
      have hu := ho.upd (w' := w.setCell ⟨b, o + j, none⟩ (.int .i64 x)) (i := k) hk (cur' := cur) (Fi := Fs k) (x' := ys.set j x)
        ((Below.heap_setCell w ⟨b, o + j, none⟩ _ g (fun e => hgb e.symm)).trans ho.hg) rfl (fun _ _ => rfl)
        (fun i b' hi hne hb' => Below.heap_setCell w ⟨b, o + j, none⟩ _ b' (fun e => hne (ho.dj i k b' hi hk hb' (e ▸ hbk))))
        (by
          refine ⟨_, by rw [hkk, Nat.mul_one]; exact hu, .inr ⟨_, _, _, _, _, hou'⟩⟩)
        (fun b' hb' => ⟨fun e => ho.ng k hk (e ▸ hb'), fun i hi hne hib => hne (ho.dj i k b' hi hk hib hb')⟩)
      refine ⟨hB b hbF, hou.frozen _, F, .inr ⟨_, _, _, _, _, hu.cong fun b' => ?_⟩, hB⟩
      rw [ho.hF b']
      constructor
      · rintro (rfl | ⟨i, hi, _, hb'⟩ | hb')
        · exact .inl rfl
        · exact .inr ⟨i, hi, hb'⟩
        · exact .inr ⟨k, hk, hb'⟩
      · rintro (rfl | ⟨i, hi, hb'⟩)
        · exact .inl rfl
        · by_cases hik : i = k
          · subst hik; exact .inr (.inr hb')
          · exact .inr (.inl ⟨i, hi, hik, hb'⟩)
end
end Go.Proofs.Ytjojipeodionmaa
