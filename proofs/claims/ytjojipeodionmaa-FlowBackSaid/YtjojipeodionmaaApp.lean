/- Appending one slice behind a row of the call's own, whatever the slice's elements are. -/
import Derived.Test.YtjojipeodionmaaBase
import Derived.Maps.AppendAt
namespace Go.Proofs.Ytjojipeodionmaa
open Go.RowKit

/-- The cells of a slice, one behind the other. -/
theorem Sl.raw {α : Type} [Rep α] {W : World} {A : Option Addr} {n c : Nat} {ys : List α} (h : Sl W (.slice A n c) ys) :
    ∃ zs : List Value, zs.length = n * Rep.k α ∧ (∀ u ∈ zs, u.oneCell' = true) ∧ (∀ i x, ys[i]? = some x → Rep.rep W W.heap.size ((zs.drop (i * Rep.k α)).take (Rep.k α)) x) ∧
      (0 < n → ∃ b off, A = some ⟨b, off, none⟩ ∧ b < W.heap.size ∧ ∀ j u, zs[j]? = some u → W.cell? ⟨b, off + j, none⟩ = some u) := by
  have hn := SlB.len_eq h
  obtain ⟨A', c', hv, h1, h2, h3, h4⟩ := h
  injection hv with e1 e2 e3
  subst e1
  subst e2
  clear e3 h1 h2 h3 hn
  by_cases h0 : 0 < ys.length
  · obtain ⟨b, off, hA, hb, hi⟩ := h4 h0
    have key : ∀ m, m ≤ ys.length → ∃ zs : List Value, zs.length = m * Rep.k α ∧ (∀ u ∈ zs, u.oneCell' = true) ∧ (∀ i x, i < m → ys[i]? = some x → Rep.rep W W.heap.size ((zs.drop (i * Rep.k α)).take (Rep.k α)) x) ∧ (∀ j u, zs[j]? = some u → W.cell? ⟨b, off + j, none⟩ = some u) := by
      intro m
      induction m with
      | zero => intro _; exact ⟨[], by simp, by simp, fun i x h => by omega, fun j u h => by simp at h⟩
      | succ m ih =>
        intro hm
        obtain ⟨zs, hl, ho, hr, hc⟩ := ih (by omega)
        have hx : ys[m]? = some (ys[m]'(by omega)) := List.getElem?_eq_getElem (by omega)
        obtain ⟨cs, hrep, hcs⟩ := hi m _ hx
        have hcl := Rep.len hrep
        refine ⟨zs ++ cs, by rw [List.length_append, hl, hcl, Nat.succ_mul], fun u hu => ?_, fun i x him hxi => ?_, fun j u hu => ?_⟩
        · rcases List.mem_append.1 hu with hu | hu
          · exact ho u hu
          · exact Rep.one hrep u hu
        · by_cases him' : i < m
          · have h5 : i * Rep.k α + Rep.k α ≤ zs.length := by
              rw [hl]
              calc i * Rep.k α + Rep.k α = (i + 1) * Rep.k α := by rw [Nat.succ_mul]
                _ ≤ m * Rep.k α := Nat.mul_le_mul_right _ (by omega)
            rw [List.drop_append_of_le_length (by omega), List.take_append_of_le_length (by rw [List.length_drop]; omega)]
            exact hr i x him' hxi
          · obtain rfl : i = m := by omega
            rw [hx] at hxi
            cases hxi
            rw [← hl, List.drop_left, List.take_of_length_le (by omega)]
            exact hrep
        · by_cases hj : j < zs.length
          · rw [List.getElem?_append_left hj] at hu; exact hc j u hu
          · rw [List.getElem?_append_right (by omega)] at hu
            have := hcs (j - zs.length) u hu
            rw [show off + m * Rep.k α + (j - zs.length) = off + j from by rw [← hl]; omega] at this
            exact this
    obtain ⟨zs, hl, ho, hr, hc⟩ := key ys.length (Nat.le_refl _)
    exact ⟨zs, hl, ho, fun i x hx => hr i x (List.getElem?_eq_some_iff.1 hx).1 hx, fun _ => ⟨b, off, hA, hb, hc⟩⟩
  · have : ys = [] := List.eq_nil_of_length_eq_zero (by omega)
    subst this
    exact ⟨[], by simp, by simp, fun i x h => by simp at h, fun h => by simp at h⟩

section
variable {P : Program} (w : World)
theorem run_append_nil (base : Nat) (t ty e : TypeId) (i : TypeInfo) (size : Nat) (ht : P.underlying t = some (.slice e)) (hi : P.info? e = some i)
    (v : Value) (n : Nat) (xs : List Value) (hown : w.ownsRow base e size v n xs) (c : Nat) : (Builtin.append_ #[t, t] ty #[v, .slice none 0 c]).run P w = .ok v w := by
  rcases hown.2 with ⟨rfl, rfl⟩ | ⟨g, cap, cur, rfl, _, _, hnc, _⟩
  · simp [Builtin.append_, run_underlying ht, sizeOf, typeInfo, hi, Builtin.lenOf, Builtin.firstCells]
  · simp [Builtin.append_, run_underlying ht, sizeOf, typeInfo, hi, Builtin.lenOf, Builtin.firstCells, hnc, storeCells]
/-- append(v, s...): what reads in s stands behind what v had. -/
theorem run_append_sl {α : Type} [Rep α] (base : Nat) (t ty e : TypeId) (i : TypeInfo) (z : Value) (bytes : Nat) (ht : P.underlying t = some (.slice e)) (hi : P.info? e = some i) (hz : i.zero = some z)
    (hsize : i.size = Rep.k α) (hby : i.bytes = bytes) (hzs : z.cells.size = Rep.k α) (hsz : 0 < Rep.k α)
    (v : Value) (n : Nat) (xs : List Value) (hown : w.ownsRow base e (Rep.k α) v n xs) (s : Value) (ys : List α) (hs : Sl w s ys)
    (h63 : n + ys.length ≤ maxLen) (hbytes : (n + ys.length) * bytes ≤ 140737488355328) (hbase : base ≤ w.heap.size) :
    ∃ v' w' zs, (Builtin.append_ #[t, t] ty #[v, s]).run P w = .ok v' w' ∧ zs.length = ys.length * Rep.k α ∧ (∀ i x, ys[i]? = some x → Rep.rep w w.heap.size ((zs.drop (i * Rep.k α)).take (Rep.k α)) x) ∧
      w'.ownsRow base e (Rep.k α) v' (n + ys.length) (xs ++ zs) ∧ w.grownBy w' v.ownBlock ∧ (v'.ownBlock = v.ownBlock ∨ v'.ownBlock = some w.heap.size) := by
  obtain ⟨A, c, rfl, _, _, _⟩ := Sl.form hs
  obtain ⟨zs, hl, ho, hr, hc⟩ := hs.raw
  rcases A with _ | ad
  · have h0 : ys.length = 0 := by
      rcases Nat.eq_zero_or_pos ys.length with h | h
      · exact h
      · obtain ⟨_, _, h', _⟩ := hc h; cases h'
    have hzs : zs = [] := List.eq_nil_of_length_eq_zero (by rw [hl, h0]; simp)
    rw [h0]
    subst hzs
    exact ⟨v, w, [], run_append_nil w base t ty e i (Rep.k α) ht hi v n xs hown c, by simp, hr, by simpa using hown, World.grownBy.refl w _, .inl rfl⟩
  · have hcells : ∀ j u, zs[j]? = some u → w.cell? (ad.add j) = some u := by
      intro j u hu
      rcases Nat.eq_zero_or_pos ys.length with h | h
      · have : zs = [] := List.eq_nil_of_length_eq_zero (by rw [hl, h]; simp)
        rw [this] at hu; simp at hu
      · obtain ⟨b, off, h', _, hcc⟩ := hc h
        injection h' with h'
        subst h'
        have hadd : (⟨b, off, none⟩ : Addr).add j = ⟨b, off + j, none⟩ := by unfold Addr.add; split <;> simp_all
        rw [hadd]; exact hcc j u hu
    obtain ⟨v', w', hrun, h2, h3, _, h5⟩ := run_append_own_at (P := P) w base t ty e i z (Rep.k α) bytes ht hi hz hsize hby hzs hsz v n xs hown ad ys.length c zs hl hcells ho h63 hbytes hbase
    exact ⟨v', w', zs, hrun, hl, hr, h2, h3, h5⟩
theorem wpList_append_sl {ops : Array Oper} {rest : List Oper} {o : Oper} {a : Act} {Q : Exit → Act → World → Prop} (hgd : o.guard = none) (so xo : Operand) (t : TypeId)
    (hop : o.op = .call { callee := .builtin .append, args := #[so, xo], argTypes := #[t, t] })
    {α : Type} [Rep α] (base : Nat) (e : TypeId) (i : TypeInfo) (z : Value) (bytes : Nat) (ht : P.underlying t = some (.slice e)) (hi : P.info? e = some i) (hz : i.zero = some z)
    (hsize : i.size = Rep.k α) (hby : i.bytes = bytes) (hzs : z.cells.size = Rep.k α) (hsz : 0 < Rep.k α)
    (v : Value) (n : Nat) (xs : List Value) (hv : a.eval so = v) (hown : w.ownsRow base e (Rep.k α) v n xs) (s : Value) (ys : List α) (hx : a.eval xo = s) (hs : Sl w s ys)
    (h63 : n + ys.length ≤ maxLen) (hbytes : (n + ys.length) * bytes ≤ 140737488355328) (hbase : base ≤ w.heap.size)
    (h : ∀ v' w' zs, zs.length = ys.length * Rep.k α → (∀ i x, ys[i]? = some x → Rep.rep w w.heap.size ((zs.drop (i * Rep.k α)).take (Rep.k α)) x) →
      w'.ownsRow base e (Rep.k α) v' (n + ys.length) (xs ++ zs) → w.grownBy w' v.ownBlock → (v'.ownBlock = v.ownBlock ∨ v'.ownBlock = some w.heap.size) → wpList P ops Q rest (a.put o.dst v') w') : wpList P ops Q (o :: rest) a w := by
  refine wpList_plain hgd fun K hK => ?_
  obtain ⟨v', w', zs, hrun, h1, h2, h3, h4, h5⟩ := run_append_sl (P := P) w base t o.type e i z bytes ht hi hz hsize hby hzs hsz v n xs hown s ys hs h63 hbytes hbase
  unfold Oper.wp execOp
  simp only [hop, resolve, invoke, builtin, Sem.run_bind, Sem.run_pure, Result.andThen_ok, List.map_toArray, List.map_cons, List.map_nil, hv, hx, hrun]
  exact hK _ _ (h v' w' zs h1 h2 h3 h4 h5)
end
end Go.Proofs.Ytjojipeodionmaa
