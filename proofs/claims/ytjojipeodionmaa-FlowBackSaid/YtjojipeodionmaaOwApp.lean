import Derived.Test.YtjojipeodionmaaOw
namespace Go.Proofs.Ytjojipeodionmaa
open Go.RowKit

section
variable {P : Program} (w : World)
theorem run_append_room_at (t ty e : TypeId) (i : TypeInfo) (ht : P.underlying t = some (.slice e)) (hi : P.info? e = some i)
    (g p sLen sCap : Nat) (cur : Array Value) (hg : w.heap[g]? = some (.cells cur e (0, 0)))
    (a : Addr) (m c : Nat) (news : List Value) (hl : news.length = m * i.size) (hnews : ∀ j u, news[j]? = some u → w.cell? (a.add j) = some u) (h1 : ∀ u ∈ news, u.oneCell' = true)
    (hroom : sLen + m ≤ sCap) (hfit : p + sLen * i.size + news.length ≤ cur.size) :
    (Builtin.append_ #[t, t] ty #[.slice (some ⟨g, p, none⟩) sLen sCap, .slice (some a) m c]).run P w =
      .ok (.slice (some ⟨g, p, none⟩) (sLen + m) sCap) (w.setRow g (cur.toList.take (p + sLen * i.size) ++ news ++ cur.toList.drop (p + sLen * i.size + news.length)).toArray) := by
  have hf := run_firstCells_some (P := P) w i.size m a m c news hl hnews
  have hst := run_storeCells_at P g (p + sLen * i.size) e news 0 cur w hg (by simpa using hfit) h1
  simp only [Nat.add_zero] at hst
  have hadd : (⟨g, p, none⟩ : Addr).add (sLen * i.size) = ⟨g, p + sLen * i.size, none⟩ := by unfold Addr.add; split <;> simp_all
  simp [Builtin.append_, run_underlying ht, sizeOf, typeInfo, hi, Builtin.lenOf, hroom, hf, hadd, hst]

end

section
variable {α : Type} [Ow α]
/-- Elements of the call's own, their cells one behind the other. -/
structure OwE (w : World) (Fs : Nat → Nat → Prop) (zs : List Value) (xs : List α) : Prop where
  len : zs.length = xs.length * Rep.k α
  el : ∀ j x, xs[j]? = some x → Ow.own w (Fs j) ((zs.drop (j * Rep.k α)).take (Rep.k α)) x
theorem OwE.nil_ (w : World) (Fs : Nat → Nat → Prop) : OwE w Fs [] ([] : List α) := ⟨by simp, fun j x h => by simp at h⟩
theorem OwE.append {w : World} {Fs Gs : Nat → Nat → Prop} {zs news : List Value} {xs ys : List α} (h : OwE w Fs zs xs) (h' : OwE w Gs news ys) :
    OwE w (fun j => if j < xs.length then Fs j else Gs (j - xs.length)) (zs ++ news) (xs ++ ys) := by
  refine ⟨by rw [List.length_append, List.length_append, h.len, h'.len, Nat.add_mul], fun j x hx => ?_⟩
  by_cases hj : j < xs.length
  · simp only [hj, if_true]
    rw [List.getElem?_append_left hj] at hx
    have h5 : j * Rep.k α + Rep.k α ≤ zs.length := by
      rw [h.len]
      calc j * Rep.k α + Rep.k α = (j + 1) * Rep.k α := by rw [Nat.succ_mul]
        _ ≤ xs.length * Rep.k α := Nat.mul_le_mul_right _ (by omega)
    rw [List.drop_append_of_le_length (by omega), List.take_append_of_le_length (by rw [List.length_drop]; omega)]
    exact h.el j x hx
  · simp only [hj, if_false]
    rw [List.getElem?_append_right (by omega)] at hx
    have h5 : zs.length ≤ j * Rep.k α := by rw [h.len]; exact Nat.mul_le_mul_right _ (by omega)
    rw [List.drop_append, List.drop_of_length_le h5, List.nil_append, h.len, ← Nat.sub_mul]
    exact h'.el _ x hx
theorem OwE.frame {w w' : World} {Fs : Nat → Nat → Prop} {zs : List Value} {xs : List α} (h : OwE w Fs zs xs) (hf : ∀ j b, j < xs.length → Fs j b → w'.heap[b]? = w.heap[b]?) : OwE w' Fs zs xs :=
  ⟨h.len, fun j x hx => Ow.frame (h.el j x hx) fun b hb => hf j b (List.getElem?_eq_some_iff.1 hx).1 hb⟩
theorem take_take_drop (l : List Value) (p q k n : Nat) (h : q + k ≤ n) : (((l.drop p).take n).drop q).take k = (l.drop (p + q)).take k := by
  apply List.ext_getElem?
  intro m
  by_cases hm : m < k
  · rw [List.getElem?_take, if_pos hm, List.getElem?_drop, List.getElem?_take, if_pos (by omega), List.getElem?_drop, List.getElem?_take, if_pos hm, List.getElem?_drop]
    congr 1
    omega
  · rw [List.getElem?_eq_none (by rw [List.length_take]; omega), List.getElem?_eq_none (by rw [List.length_take]; omega)]
theorem row_cut (L news : List Value) (p q : Nat) (h : p + q ≤ L.length) : ((L.take (p + q) ++ news ++ L.drop (p + q + news.length)).toArray.toList.drop p).take ((L.drop p).take q ++ news).length = (L.drop p).take q ++ news := by
  rw [List.append_assoc, List.drop_append_of_le_length (by rw [List.length_take]; omega), List.drop_take, show p + q - p = q from by omega, ← List.append_assoc]
  exact List.take_left
theorem OwAt.of {w : World} {F : Nat → Prop} {Fs : Nat → Nat → Prop} {zs : List Value} {xs : List α} {g p cap : Nat} {cur : Array Value} (h : OwE w Fs zs xs) (hg : w.heap[g]? = some (.cells cur (Ow.ty α) (0, 0)))
    (hz : (cur.toList.drop p).take zs.length = zs) (hn : xs.length ≤ cap) (hc : cap ≤ maxLen) (hs : p + cap * Rep.k α ≤ cur.size) (hl : xs.length ≤ 140737488355328)
    (hF : ∀ b, F b ↔ b = g ∨ ∃ i, i < xs.length ∧ Fs i b) (ng : ∀ i, i < xs.length → ¬ Fs i g) (dj : ∀ i j b, i < xs.length → j < xs.length → Fs i b → Fs j b → i = j) :
    OwAt w F (.slice (some ⟨g, p, none⟩) xs.length cap) xs g p cap cur Fs :=
  ⟨rfl, hg, hn, hc, hs, hl, fun i x hx => by
    have := h.el i x hx
    have hi := (List.getElem?_eq_some_iff.1 hx).1
    have h5 : i * Rep.k α + Rep.k α ≤ zs.length := by
      rw [h.len]
      calc i * Rep.k α + Rep.k α = (i + 1) * Rep.k α := by rw [Nat.succ_mul]
        _ ≤ xs.length * Rep.k α := Nat.mul_le_mul_right _ (by omega)
    rw [← hz, take_take_drop _ _ _ _ _ h5] at this
    exact this, hF, ng, dj⟩
theorem OwAt.owE {w : World} {F : Nat → Prop} {v : Value} {xs : List α} {g p cap : Nat} {cur : Array Value} {Fs : Nat → Nat → Prop} (h : OwAt w F v xs g p cap cur Fs) : OwE w Fs ((cur.toList.drop p).take (xs.length * Rep.k α)) xs := by
  have hle : xs.length * Rep.k α ≤ cap * Rep.k α := Nat.mul_le_mul_right _ h.hn
  have hs := h.hs
  have hcl : cur.toList.length = cur.size := by simp
  refine ⟨by rw [List.length_take, List.length_drop]; omega, fun i x hx => ?_⟩
  have hi := (List.getElem?_eq_some_iff.1 hx).1
  have h5 : i * Rep.k α + Rep.k α ≤ xs.length * Rep.k α := by
    calc i * Rep.k α + Rep.k α = (i + 1) * Rep.k α := by rw [Nat.succ_mul]
      _ ≤ xs.length * Rep.k α := Nat.mul_le_mul_right _ (by omega)
  rw [take_take_drop _ _ _ _ _ h5]
  exact h.el i x hx
end

section
variable {P : Program} (w : World) {α : Type} [Ow α]
/-- append(v, ..) on a slice of the call's own, of elements that are the call's own too. -/
theorem run_append_ow (t ty : TypeId) (i : TypeInfo) (z : Value) (bytes : Nat) (ht : P.underlying t = some (.slice (Ow.ty α))) (hi : P.info? (Ow.ty α) = some i) (hz : i.zero = some z)
    (hsize : i.size = Rep.k α) (hby : i.bytes = bytes) (hzs : z.cells.size = Rep.k α)
    {F : Nat → Prop} {v : Value} {xs : List α} (h : OwL w F v xs) (a : Addr) (m c : Nat) (news : List Value) (hnews : ∀ j u, news[j]? = some u → w.cell? (a.add j) = some u) (h1 : ∀ u ∈ news, u.oneCell' = true)
    (ys : List α) (hm : ys.length = m) (hm0 : 0 < m) (Gs : Nat → Nat → Prop) (hel : OwE w Gs news ys)
    (hdis : ∀ j b, j < m → Gs j b → ¬ F b) (hdj : ∀ j l b, j < m → l < m → Gs j b → Gs l b → j = l)
    (hbnd : xs.length + m ≤ 140737488355328) (hbytes : (xs.length + m) * bytes ≤ 140737488355328) :
    ∃ v' w' F', (Builtin.append_ #[t, t] ty #[v, .slice (some a) m c]).run P w = .ok v' w' ∧ OwL w' F' v' (xs ++ ys) ∧ w.grownBy w' v.ownBlock ∧ (∀ b, F' b → F b ∨ (∃ j, j < m ∧ Gs j b) ∨ b = w.heap.size) := by
  subst hm
  subst hby
  have hm63 : xs.length + ys.length ≤ maxLen := by unfold maxLen; omega
  have hnl : news.length = ys.length * i.size := by rw [hsize]; exact hel.len
  have hGlt : ∀ j b, j < ys.length → Gs j b → b < w.heap.size := fun j b hj hb => Ow.lt (hel.el j _ (List.getElem?_eq_getElem hj)) hb
  -- what a new array holds
  have grown : ∀ (old : Nat) (olds : List Value) (Fs : Nat → Nat → Prop), OwE w Fs olds xs → (∀ j b, j < xs.length → Fs j b → F b) → (∀ j b, j < xs.length → Fs j b → b < w.heap.size) →
      (∀ j l b, j < xs.length → l < xs.length → Fs j b → Fs l b → j = l) →
      ∃ F', OwL (w.drew.alloc (.cells (olds.toArray ++ news.toArray ++ Builtin.zeroCells z.cells (grownCap w (xs.length + ys.length) old (Ow.ty α) - (xs.length + ys.length))) (Ow.ty α))) F'
        (.slice (some ⟨w.heap.size, 0, none⟩) (xs.length + ys.length) (grownCap w (xs.length + ys.length) old (Ow.ty α))) (xs ++ ys) ∧ (∀ b, F' b → F b ∨ (∃ j, j < ys.length ∧ Gs j b) ∨ b = w.heap.size) := by
    intro old olds Fs hE hFF hFlt hFd
    have hge := grownCap_ge w (xs.length + ys.length) old (Ow.ty α)
    have hcm : grownCap w (xs.length + ys.length) old (Ow.ty α) ≤ maxLen := grownCap_le_maxLen w _ old _ hm63
    have hold : ∀ b, b < w.heap.size → (w.drew.alloc (.cells (olds.toArray ++ news.toArray ++ Builtin.zeroCells z.cells (grownCap w (xs.length + ys.length) old (Ow.ty α) - (xs.length + ys.length))) (Ow.ty α))).heap[b]? = w.heap[b]? :=
      fun b hb => Below.heap_alloc w.drew _ b hb
    have hE' := (hE.append hel).frame (w' := w.drew.alloc (.cells (olds.toArray ++ news.toArray ++ Builtin.zeroCells z.cells (grownCap w (xs.length + ys.length) old (Ow.ty α) - (xs.length + ys.length))) (Ow.ty α))) (fun j b hj hb => hold b (by
      by_cases hjx : j < xs.length
      · simp only [hjx, if_true] at hb; exact hFlt j b hjx hb
      · simp only [hjx, if_false] at hb; exact hGlt _ b (by rw [List.length_append] at hj; omega) hb))
    have := OwAt.of (F := fun b => b = w.heap.size ∨ ∃ j, j < (xs ++ ys).length ∧ (if j < xs.length then Fs j else Gs (j - xs.length)) b) (g := w.heap.size) (p := 0) (cap := grownCap w (xs.length + ys.length) old (Ow.ty α)) hE' (heap_alloc_new w.drew _)
        (by simp only [Array.toList_append, List.drop_zero, List.append_assoc]
            rw [← List.append_assoc]
            exact List.take_left) (by rw [List.length_append]; exact hge) hcm
        (by simp only [Array.size_append, List.size_toArray, size_zeroCells, hzs, hE.len, hel.len, ← Nat.add_mul, Nat.zero_add]
            exact Nat.mul_le_mul_right _ (by omega)) (by rw [List.length_append]; exact hbnd)
        (fun b => Iff.rfl)
        (fun j hj hb => by
          rw [List.length_append] at hj
          by_cases hjx : j < xs.length
          · simp only [hjx, if_true] at hb; have := hFlt j _ hjx hb; omega
          · simp only [hjx, if_false] at hb; have := hGlt _ _ (by omega) hb; omega)
        (fun j l b hj hl hjb hlb => by
          rw [List.length_append] at hj hl
          by_cases hjx : j < xs.length <;> by_cases hlx : l < xs.length
          · simp only [hjx, hlx, if_true] at hjb hlb; exact hFd j l b hjx hlx hjb hlb
          · simp only [hjx, if_true] at hjb; simp only [hlx, if_false] at hlb; exact (hdis _ b (by omega) hlb (hFF j b hjx hjb)).elim
          · simp only [hjx, if_false] at hjb; simp only [hlx, if_true] at hlb; exact (hdis _ b (by omega) hjb (hFF l b hlx hlb)).elim
          · simp only [hjx, if_false] at hjb; simp only [hlx, if_false] at hlb
            have := hdj _ _ b (by omega) (by omega) hjb hlb
            omega)
    rw [List.length_append] at this
    refine ⟨_, .inr ⟨_, _, _, _, _, this⟩, ?_⟩
    · rintro b (rfl | ⟨j, hj, hb⟩)
      · exact .inr (.inr rfl)
      · by_cases hjx : j < xs.length
        · simp only [hjx, if_true] at hb; exact .inl (hFF j b hjx hb)
        · simp only [hjx, if_false] at hb; exact .inr (.inl ⟨_, by omega, hb⟩)
  rcases h with ⟨rfl, rfl, hno⟩ | ⟨g, p, cap, cur, Fs, hat⟩
  · have hr := _root_.Go.run_append_nil (P := P) w t ty (Ow.ty α) i z ht hi hz a ys.length c news hnl hnews hm0 (by omega) (by simp at hbytes; omega)
    obtain ⟨F', ho, hF'⟩ := grown 0 [] (fun _ _ => False) (OwE.nil_ _ _) (by simp) (by simp) (by simp)
    simp only [List.length_nil, Nat.zero_add] at ho
    refine ⟨_, _, F', hr, by simpa using ho, ⟨rfl, rfl, rfl, by simp, fun k hk _ => Below.heap_alloc w.drew _ k hk⟩, hF'⟩
  · have hEo := hat.owE
    obtain rfl := hat.hv
    have hFF : ∀ j b, j < xs.length → Fs j b → F b := fun j b hj hb => (hat.hF b).2 (.inr ⟨j, hj, hb⟩)
    have hFlt : ∀ j b, j < xs.length → Fs j b → b < w.heap.size := fun j b hj hb => Ow.lt (hat.el j _ (List.getElem?_eq_getElem hj)) hb
    by_cases hroom : xs.length + ys.length ≤ cap
    · have hk1 : (xs.length + ys.length) * Rep.k α ≤ cap * Rep.k α := Nat.mul_le_mul_right _ hroom
      rw [Nat.add_mul] at hk1
      have hs := hat.hs
      have hnl' := hel.len
      have hcl : cur.toList.length = cur.size := by simp
      have hr := run_append_room_at (P := P) w t ty (Ow.ty α) i ht hi g p xs.length cap cur hat.hg a ys.length c news hnl hnews h1 hroom (by rw [hsize]; omega)
      rw [hsize] at hr
      have hoth : ∀ b, b ≠ g → (w.setRow g (cur.toList.take (p + xs.length * Rep.k α) ++ news ++ cur.toList.drop (p + xs.length * Rep.k α + news.length)).toArray).heap[b]? = w.heap[b]? := fun b hb => setRow_other w g b _ hb
      have hE' := (hEo.append hel).frame (w' := w.setRow g (cur.toList.take (p + xs.length * Rep.k α) ++ news ++ cur.toList.drop (p + xs.length * Rep.k α + news.length)).toArray) (fun j b hj hb => hoth b (by
        by_cases hjx : j < xs.length
        · simp only [hjx, if_true] at hb; rintro rfl; exact hat.ng j hjx hb
        · simp only [hjx, if_false] at hb; rintro rfl; exact hdis _ _ (by rw [List.length_append] at hj; omega) hb ((hat.hF _).2 (.inl rfl))))
      have hGF : ∀ j b, j < ys.length → Gs j b → ∀ l, l < xs.length → ¬ Fs l b := fun j b hj hb l hl hlb => hdis j b hj hb (hFF l b hl hlb)
      have := OwAt.of (F := fun b => b = g ∨ ∃ j, j < (xs ++ ys).length ∧ (if j < xs.length then Fs j else Gs (j - xs.length)) b) (g := g) (p := p) (cap := cap) hE' (setRow_heap w g cur _ (Ow.ty α) _ hat.hg)
        (row_cut cur.toList news p (xs.length * Rep.k α) (by omega)) (by rw [List.length_append]; exact hroom) hat.hc
        (by simp only [List.size_toArray, List.length_append, List.length_take, List.length_drop]; omega) (by rw [List.length_append]; exact hbnd)
        (fun b => Iff.rfl)
        (fun j hj hb => by
          rw [List.length_append] at hj
          by_cases hjx : j < xs.length
          · simp only [hjx, if_true] at hb; exact hat.ng j hjx hb
          · simp only [hjx, if_false] at hb; exact hdis _ _ (by omega) hb ((hat.hF _).2 (.inl rfl)))
        (fun j l b hj hl hjb hlb => by
          rw [List.length_append] at hj hl
          by_cases hjx : j < xs.length <;> by_cases hlx : l < xs.length
          · simp only [hjx, hlx, if_true] at hjb hlb; exact hat.dj j l b hjx hlx hjb hlb
          · simp only [hjx, if_true] at hjb; simp only [hlx, if_false] at hlb; exact (hGF _ b (by omega) hlb j hjx hjb).elim
          · simp only [hjx, if_false] at hjb; simp only [hlx, if_true] at hlb; exact (hGF _ b (by omega) hjb l hlx hlb).elim
          · simp only [hjx, if_false] at hjb; simp only [hlx, if_false] at hlb
            have := hdj _ _ b (by omega) (by omega) hjb hlb
            omega)
      rw [List.length_append] at this
      refine ⟨_, _, _, hr, .inr ⟨_, _, _, _, _, this⟩, ⟨rfl, rfl, rfl, by simp, fun k _ hk => setRow_other w g k _ (fun e => hk (by simp [Value.ownBlock, e]))⟩, ?_⟩
      rintro b (rfl | ⟨j, hj, hb⟩)
      · exact .inl ((hat.hF _).2 (.inl rfl))
      · by_cases hjx : j < xs.length
        · simp only [hjx, if_true] at hb; exact .inl (hFF j b hjx hb)
        · simp only [hjx, if_false] at hb; exact .inr (.inl ⟨_, by omega, hb⟩)
    · have holds : ∀ j u, ((cur.toList.drop p).take (xs.length * Rep.k α))[j]? = some u → w.cell? ((⟨g, p, none⟩ : Addr).add j) = some u := by
        intro j u hu
        have hadd : (⟨g, p, none⟩ : Addr).add j = ⟨g, p + j, none⟩ := by unfold Addr.add; split <;> simp_all
        rw [hadd, hat.cell]
        by_cases hj : j < xs.length * Rep.k α
        · rw [cells_get _ _ _ _ hj] at hu; exact hu
        · rw [List.getElem?_eq_none (by rw [List.length_take]; omega)] at hu; cases hu
      have hr := run_append_grow (P := P) w t ty (Ow.ty α) i z ht hi hz ⟨g, p, none⟩ xs.length cap _ (by rw [hsize]; exact hEo.len) holds a ys.length c news hnl hnews (by omega) (by omega) (growslice_fits (by omega) hbytes)
      obtain ⟨F', ho, hF'⟩ := grown cap _ Fs hEo hFF hFlt hat.dj
      exact ⟨_, _, F', hr, ho, ⟨rfl, rfl, rfl, by simp, fun k hk _ => Below.heap_alloc w.drew _ k hk⟩, hF'⟩
end
end Go.Proofs.Ytjojipeodionmaa
