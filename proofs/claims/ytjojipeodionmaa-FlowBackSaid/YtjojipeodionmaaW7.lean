/- The walker: one slice behind another; pieces of slices; a row that was laid as one's own. -/
import Derived.Test.YtjojipeodionmaaW6
namespace Go.Proofs.Ytjojipeodionmaa
open Go.RowKit

section
variable {P : Program} {n : Nat} {B : Nat} {w0 : World} {Q : Exit → Act → World → Prop} {env env' : Env} {H H' H1 H2 : List Res} {x y : Code} {ops : Array Oper} {l : List Oper} {o : Oper}
/-- A row that was laid is one's own. -/
theorem row_ow {α : Type} [FOw α] {g m : Nat} {cs : List Value} (xs : List α) (hcs : cs = xs.flatMap FOw.enc) (hwf : ∀ x ∈ xs, FOw.wf x) (hl : xs.length = m) (hm : m ≤ 140737488355328) {w : World} (h : Cw B w0 (RBox g cs (Ow.ty α) :: H) w) :
    Cw B w0 (ROw (.slice (some ⟨g, 0, none⟩) m m) xs :: H) w := by
  refine h.upd fun F ⟨hg, hF⟩ _ => ⟨F, ?_, rfl, rfl, rfl, Nat.le_refl _, fun _ _ _ => rfl, fun b hb => .inl hb⟩
  have hrep : ∀ (w : World) (B : Nat) (x : α), x ∈ xs → Rep.rep w B (FOw.enc x) x := fun w B x hx => FOw.rep_iff.2 ⟨rfl, hwf x hx⟩
  have hlen : ∀ x ∈ xs, (FOw.enc x).length = Rep.k α := fun x hx => Rep.len (hrep w 0 x hx)
  have hcl : ∀ l : List α, (∀ x ∈ l, (FOw.enc x).length = Rep.k α) → (l.flatMap FOw.enc).length = l.length * Rep.k α := by
    intro l
    induction l with
    | nil => intro _; simp
    | cons a l ih => intro h; rw [List.flatMap_cons, List.length_append, h a (by simp), ih (fun x hx => h x (by simp [hx])), List.length_cons, Nat.succ_mul]; omega
  subst hl
  refine .inr ⟨g, 0, xs.length, cs.toArray, fun _ _ => False, ⟨rfl, hg, Nat.le_refl _, by unfold maxLen; omega, by rw [hcs]; simp only [List.size_toArray, hcl xs hlen]; omega, hm, fun i x hx => ?_, fun b => by rw [hF b]; simp, fun _ _ h => h, fun _ _ _ _ _ h => h.elim⟩⟩
  have hxm := List.mem_of_getElem? hx
  refine FOw.own_iff.2 ⟨⟨?_, hwf x hxm⟩, fun _ h => h⟩
  rw [hcs]
  simp only [Nat.zero_add]
  apply List.ext_getElem?
  intro j
  by_cases hj : j < Rep.k α
  · have hi : j < (FOw.enc x).length := by rw [hlen x hxm]; exact hj
    have := flat_get FOw.enc (Rep.k α) xs hlen i x j _ hx (List.getElem?_eq_getElem hi)
    rw [List.getElem?_take, if_pos hj, List.getElem?_drop, this, List.getElem?_eq_getElem hi]
  · rw [List.getElem?_eq_none (by rw [List.length_take]; omega), List.getElem?_eq_none (by rw [hlen x hxm]; omega)]
theorem run_append_none {w : World} (t ty e : TypeId) (i : TypeInfo) (ht : P.underlying t = some (.slice e)) (hi : P.info? e = some i) {A A2 : Option Addr} {m c c2 : Nat} (hm : m ≤ c) : (Builtin.append_ #[t, t] ty #[.slice A m c, .slice A2 0 c2]).run P w = .ok (.slice A m c) w := by
  cases A <;> cases A2 <;> simp [Builtin.append_, run_underlying ht, sizeOf, typeInfo, hi, Builtin.lenOf, Builtin.firstCells, hm, storeCells, loadCells, loadCellsFrom]
/-- append(v, s...): what is read in s, behind what v has. -/
theorem ot_appS {α : Type} [FOw α] {so xo : Operand} {t : TypeId} {z : Value} {bytes m c : Nat} {A : Option Addr} {v : Value} {xs xs' ys : List α} (hxs : xs' = xs ++ ys) (ht : P.underlying t = some (.slice (Ow.ty α))) (hinf : ∃ i, P.info? (Ow.ty α) = some i ∧ i.zero = some z ∧ i.size = Rep.k α ∧ i.bytes = bytes) (hzs : z.cells.size = Rep.k α)
    (hp : Foc H (ROw v xs) H') (hs : SF B w0 H A m c ys) (hbnd : xs.length + ys.length ≤ 140737488355328) (hbytes : (xs.length + ys.length) * bytes ≤ 140737488355328)
    (hop : o.op = .call ⟨.builtin .append, #[so, xo], #[t, t]⟩) (hso : opv env so = some v) (hxo : opv env xo = some (.slice A m c)) : OT P n B w0 o env H (γ := Option Addr × Nat) (fun _ => True) (fun p => .slice p.1 xs'.length p.2) (fun p => ROw (.slice p.1 xs'.length p.2) xs' :: H') := by
  obtain ⟨i, hi, hz, hsize, hby⟩ := hinf
  subst hxs
  obtain ⟨hlm, hs⟩ := hs
  subst hlm
  intro a w hf hw
  have hsl := hs w hw
  have hw := hw.perm hp
  obtain ⟨F, ho, hB⟩ := hw.head
  obtain ⟨A1, c1, hv, hc1, _⟩ := (OwL.sl ho).form
  subst hv
  unfold Oper.wp execOp
  simp only [hop, resolve, invoke, builtin, Sem.run_bind, Sem.run_pure, Result.andThen_ok, List.map_toArray, List.map_cons, List.map_nil, hf.opv hso, hf.opv hxo]
  rcases Nat.eq_zero_or_pos ys.length with h0 | h0
  · have hys : ys = [] := List.eq_nil_of_length_eq_zero h0
    subst hys
    simp only [List.length_nil]
    rw [run_append_none t o.type (Ow.ty α) i ht hi hc1]
    refine ⟨(A1, c1), trivial, by simp, ?_⟩
    simpa using hw
  · have hel : ∀ k (hk : k < ys.length), ∃ cs, cs = FOw.enc ys[k] ∧ FOw.wf ys[k] ∧ cs.length = Rep.k α ∧ (∀ u ∈ cs, u.oneCell' = true) ∧ ∀ j u, cs[j]? = some u → w.cell? ⟨ab A, ao A + k * Rep.k α + j, none⟩ = some u := fun k hk => by
      obtain ⟨_, cs, hr, hc⟩ := hsl.el hk ys[k]
      rw [List.getD_eq_getElem?_getD, List.getElem?_eq_getElem hk] at hr
      have hr' : Rep.rep w w.heap.size cs ys[k] := hr
      have := FOw.rep_iff.1 hr'
      exact ⟨cs, this.1, this.2, Rep.len hr', Rep.one hr', hc⟩
    have hlen : ∀ x ∈ ys, (FOw.enc x).length = Rep.k α := fun x hx => by
      obtain ⟨k, hk, rfl⟩ := List.getElem_of_mem hx
      obtain ⟨cs, h1, _, h2, _⟩ := hel k hk
      rw [← h1, h2]
    have hwf : ∀ x ∈ ys, FOw.wf x := fun x hx => by
      obtain ⟨k, hk, rfl⟩ := List.getElem_of_mem hx
      obtain ⟨cs, _, h1, _⟩ := hel k hk
      exact h1
    have hcl : ∀ l : List α, (∀ x ∈ l, (FOw.enc x).length = Rep.k α) → (l.flatMap FOw.enc).length = l.length * Rep.k α := by
      intro l
      induction l with
      | nil => intro _; simp
      | cons a l ih => intro h; rw [List.flatMap_cons, List.length_append, h a (by simp), ih (fun x hx => h x (by simp [hx])), List.length_cons, Nat.succ_mul]; omega
    obtain ⟨b0, o0, hA⟩ := hsl.addr h0
    subst hA
    have hget : ∀ j u, (ys.flatMap FOw.enc)[j]? = some u → w.cell? ((⟨b0, o0, none⟩ : Addr).add j) = some u := fun j u hu => by
      have hj := (List.getElem?_eq_some_iff.1 hu).1
      rw [hcl ys hlen] at hj
      have hk0 : 0 < Rep.k α := by
        rcases Nat.eq_zero_or_pos (Rep.k α) with h | h
        · rw [h, Nat.mul_zero] at hj; omega
        · exact h
      have hq : j / Rep.k α < ys.length := (Nat.div_lt_iff_lt_mul hk0).2 hj
      obtain ⟨cs, h1, _, h2, _, h3⟩ := hel _ hq
      have hr : j % Rep.k α < cs.length := by rw [h2]; exact Nat.mod_lt _ hk0
      have h4 := flat_get FOw.enc (Rep.k α) ys hlen (j / Rep.k α) _ (j % Rep.k α) cs[j % Rep.k α] (List.getElem?_eq_getElem hq) (by rw [← h1]; exact List.getElem?_eq_getElem hr)
      rw [Nat.div_add_mod' j (Rep.k α)] at h4
      rw [h4] at hu
      cases hu
      have h5 := h3 (j % Rep.k α) _ (List.getElem?_eq_getElem hr)
      rw [add_plain, ← h5]
      congr 2
      show o0 + j = o0 + j / Rep.k α * Rep.k α + j % Rep.k α
      have := Nat.div_add_mod' j (Rep.k α)
      omega
    have hone : ∀ u ∈ ys.flatMap FOw.enc, u.oneCell' = true := fun u hu => by
      obtain ⟨x, hx, hux⟩ := List.mem_flatMap.1 hu
      obtain ⟨k, hk, rfl⟩ := List.getElem_of_mem hx
      obtain ⟨cs, h1, _, _, h2, _⟩ := hel k hk
      exact h2 u (by rw [h1]; exact hux)
    have hE : ∀ w', OwE w' (fun _ _ => False) (ys.flatMap FOw.enc) ys := fun w' => ⟨hcl ys hlen, fun j x hx => by
      refine FOw.own_iff.2 ⟨⟨?_, hwf x (List.mem_of_getElem? hx)⟩, fun _ h => h⟩
      apply List.ext_getElem?
      intro q
      by_cases hq : q < Rep.k α
      · have hi : q < (FOw.enc x).length := by rw [hlen x (List.mem_of_getElem? hx)]; exact hq
        have := flat_get FOw.enc (Rep.k α) ys hlen j x q _ hx (List.getElem?_eq_getElem hi)
        rw [List.getElem?_take, if_pos hq, List.getElem?_drop, this, List.getElem?_eq_getElem hi]
      · rw [List.getElem?_eq_none (by rw [List.length_take]; omega), List.getElem?_eq_none (by rw [hlen x (List.mem_of_getElem? hx)]; omega)]⟩
    obtain ⟨v', w', F', hrun, ho', hgr, hF'⟩ := run_append_ow (P := P) w t o.type i z bytes ht hi hz hsize hby hzs ho ⟨b0, o0, none⟩ ys.length c (ys.flatMap FOw.enc) hget hone ys rfl h0 (fun _ _ => False) (hE w) (fun _ _ _ h => h.elim) (fun _ _ _ _ _ h => h.elim) hbnd hbytes
    obtain ⟨A', c', rfl, _⟩ := ho'.sl.form
    rw [hrun]
    refine ⟨(A', c'), trivial, rfl, hw.upd fun FF hFF hBB => ?_⟩
    obtain ⟨v2, w2, F2, hrun2, ho2, hgr2, hF2⟩ := run_append_ow (P := P) w t o.type i z bytes ht hi hz hsize hby hzs (show OwL w FF _ xs from hFF) ⟨b0, o0, none⟩ ys.length c (ys.flatMap FOw.enc) hget hone ys rfl h0 (fun _ _ => False) (hE w) (fun _ _ _ h => h.elim) (fun _ _ _ _ _ h => h.elim) hbnd hbytes
    rw [hrun] at hrun2
    injection hrun2 with e1 e2
    subst e1 e2
    refine ⟨F2, ho2, hgr2.os, hgr2.tape, hgr2.output, hgr2.size, fun b hb hn => hgr2.block b hb fun e => hn (OwL.ownF (show OwL w FF _ xs from hFF) e.symm), fun b hb => ?_⟩
    rcases hF2 b hb with h | ⟨_, _, h⟩ | rfl
    · exact .inl h
    · exact h.elim
    · exact .inr (Nat.le_refl _)
/-- The bounds of a piece. -/
def bnd (env : Env) (o : Option Operand) (dflt : Nat) : Option Int := match o with
  | none => some dflt
  | some x => match opv env x with
    | some (.int _ k) => some k
    | _ => none
/-- Where a piece of a slice lies. -/
def cutA (A : Option Addr) (lo c sz : Nat) : Option Addr := if c = lo then A else A.map fun a => a.add (lo * sz)
theorem run_slice {w : World} {t e : TypeId} {sz : Nat} {A : Option Addr} {m c lo hi : Nat} {a : Act} {lo' hi' : Option Operand} {x : Operand} (hu : P.underlying t = some (.slice e)) (hz : ∀ w, (sizeOf e).run P w = .ok sz w) (hop : o.op = .slice t x lo' hi' none) (hf : Fr n env a)
    (hx : opv env x = some (.slice A m c)) (hl : bnd env lo' 0 = some (lo : Int)) (hh : bnd env hi' m = some (hi : Int)) (h1 : lo ≤ hi) (h2 : hi ≤ c) : (execOp a.eval o).run P w = .ok (.value (.slice (cutA A lo c sz) (hi - lo) (c - lo))) w := by
  have hb : ∀ (kk : IntKind) (q k : Nat) (code : BoundsCode), q ≤ k → (Instr.sliceBound (.int kk (q : Int)) k code).run P w = .ok q w := fun kk q k code h => by
    simp only [Instr.sliceBound, asIntOf, Sem.run_bind, Sem.run_pure, Result.andThen_ok]
    rw [if_pos ⟨by omega, by omega⟩]
    simp
  have e1 : (Instr.sliceBounds true m c (lo'.map a.eval) (hi'.map a.eval) none).run P w = .ok (lo, hi, c) w := by
    cases lo' with
    | none =>
      have hl0 : lo = 0 := by simp only [bnd, Option.some.injEq] at hl; omega
      subst hl0
      cases hi' with
      | none =>
        have hh0 : hi = m := by simp only [bnd, Option.some.injEq] at hh; omega
        subst hh0
        simp [Instr.sliceBounds]
      | some z =>
        simp only [bnd] at hh
        split at hh
        · rename_i kk k hk
          cases hh
          simp [Instr.sliceBounds, hf.opv hk, hb kk hi c _ h2]
        · cases hh
    | some y =>
      simp only [bnd] at hl
      split at hl
      · rename_i kk k hk
        cases hl
        cases hi' with
        | none =>
          have hh0 : hi = m := by simp only [bnd, Option.some.injEq] at hh; omega
          subst hh0
          simp [Instr.sliceBounds, hf.opv hk, hb kk lo hi _ h1]
        | some z =>
          simp only [bnd] at hh
          split at hh
          · rename_i kk2 k2 hk2
            cases hh
            simp [Instr.sliceBounds, hf.opv hk, hf.opv hk2, hb kk2 hi c _ h2, hb kk lo hi _ h1]
          · cases hh
      · cases hl
  unfold execOp
  simp only [hop, Option.map_none, Instr.sliceAt, Sem.run_bind, run_underlying hu, Result.andThen_ok, hf.opv hx, Instr.slice, e1, hz, Sem.run_pure]
  unfold cutA
  by_cases h : c = lo <;> simp [h]
/-- A piece of a slice that nobody writes. -/
theorem SlB.cut {α : Type} [Rep α] {w : World} {A : Option Addr} {m c : Nat} {xs : List α} (h : SlB w B (.slice A m c) xs) (lo hi : Nat) (h1 : lo ≤ hi) (h2 : hi ≤ m) : SlB w B (.slice (cutA A lo c (Rep.k α)) (hi - lo) (c - lo)) ((xs.drop lo).take (hi - lo)) := by
  obtain ⟨A', c', hv, h3, h4, h5, h6⟩ := h
  injection hv with e1 e2 e3
  subst e1 e2 e3
  have hl : ((xs.drop lo).take (hi - lo)).length = hi - lo := by rw [List.length_take, List.length_drop]; omega
  refine ⟨cutA A lo c (Rep.k α), c - lo, by rw [hl], by omega, by unfold maxLen at *; omega, by omega, fun h0 => ?_⟩
  rw [hl] at h0
  obtain ⟨b, off, hA, hb, hi'⟩ := h6 (by omega)
  subst hA
  refine ⟨b, off + lo * Rep.k α, by unfold cutA; rw [if_neg (by omega)]; simp [add_plain], hb, fun i x hx => ?_⟩
  have hi2 := (List.getElem?_eq_some_iff.1 hx).1
  rw [hl] at hi2
  rw [List.getElem?_take, if_pos hi2, List.getElem?_drop] at hx
  obtain ⟨cs, hr, hc⟩ := hi' _ x hx
  refine ⟨cs, hr, fun j u hu => ?_⟩
  rw [← hc j u hu, Nat.add_mul]
  congr 2
  omega
theorem qs_slice {t e : TypeId} {sz : Nat} {A : Option Addr} {m c lo hi : Nat} {lo' hi' : Option Operand} {x : Operand} (hu : P.underlying t = some (.slice e)) (hz : ∀ w, (sizeOf e).run P w = .ok sz w) (hb : lo ≤ hi ∧ hi ≤ c) (hop : o.op = .slice t x lo' hi' none)
    (hx : opv env x = some (.slice A m c)) (hl : bnd env lo' 0 = some (lo : Int)) (hh : bnd env hi' m = some (hi : Int)) : QS P n B w0 o env H (.slice (cutA A lo c sz) (hi - lo) (c - lo)) := fun _ _ hf _ => run_slice hu hz hop hf hx hl hh hb.1 hb.2
/-- The first ones of a row of one's own. -/
theorem take_ow {α : Type} [Ow α] {A : Option Addr} {m c k : Nat} {xs : List α} (hk : k ≤ m) {w : World} (h : Cw B w0 (ROw (.slice A m c) xs :: H) w) : Cw B w0 (ROw (.slice A k c) (xs.take k) :: H) w := by
  refine h.upd fun F ho _ => ?_
  have hl : xs.length = m := SlB.len_eq (OwL.sl (show OwL w F _ xs from ho))
  subst hl
  rcases ho with ⟨hv, rfl, hF⟩ | ⟨g, p, cap, cur, Fs, ho⟩
  · injection hv with e1 e2 e3
    subst e1 e3
    have : k = 0 := by simpa using hk
    subst this
    exact ⟨F, .inl ⟨rfl, by simp, hF⟩, rfl, rfl, rfl, Nat.le_refl _, fun _ _ _ => rfl, fun b hb => .inl hb⟩
  · have hv := ho.hv
    injection hv with e1 e2 e3
    subst e1 e3
    have hlt : (xs.take k).length = k := by rw [List.length_take]; omega
    refine ⟨fun b => b = g ∨ ∃ i, i < (xs.take k).length ∧ Fs i b, .inr ⟨g, p, c, cur, Fs, ⟨by rw [hlt], ho.hg, by have := ho.hn; omega, ho.hc, ho.hs, by have := ho.hl; omega, fun i x hx => ho.el i x ?_, fun b => Iff.rfl, fun i hi => ho.ng i (by omega), fun i j b hi hj => ho.dj i j b (by omega) (by omega)⟩⟩, rfl, rfl, rfl, Nat.le_refl _, fun _ _ _ => rfl, fun b hb => .inl ((ho.hF b).2 ?_)⟩
    · have hi := (List.getElem?_eq_some_iff.1 hx).1
      rw [List.getElem?_take, if_pos (by omega)] at hx
      exact hx
    · rcases hb with h | ⟨i, hi, h⟩
      · exact .inl h
      · exact .inr ⟨i, by omega, h⟩
/-- The last ones. -/
theorem drop_ow {α : Type} [Ow α] {A : Option Addr} {m c k : Nat} {xs : List α} (hk : k ≤ m) {w : World} (h : Cw B w0 (ROw (.slice A m c) xs :: H) w) : Cw B w0 (ROw (.slice (cutA A k c (Rep.k α)) (m - k) (c - k)) (xs.drop k) :: H) w := by
  refine h.upd fun F ho _ => ?_
  have hl : xs.length = m := SlB.len_eq (OwL.sl (show OwL w F _ xs from ho))
  subst hl
  rcases ho with ⟨hv, rfl, hF⟩ | ⟨g, p, cap, cur, Fs, ho⟩
  · injection hv with e1 e2 e3
    subst e1 e3
    have : k = 0 := by simpa using hk
    subst this
    exact ⟨F, .inl ⟨rfl, by simp, hF⟩, rfl, rfl, rfl, Nat.le_refl _, fun _ _ _ => rfl, fun b hb => .inl hb⟩
  · have hv := ho.hv
    injection hv with e1 e2 e3
    subst e1 e3
    have hlt : (xs.drop k).length = xs.length - k := List.length_drop
    have hn := ho.hn
    have hm1 : k * Rep.k α ≤ c * Rep.k α := Nat.mul_le_mul_right _ (by omega)
    by_cases hkc : c = k
    · have hx0 : xs.drop k = [] := List.eq_nil_of_length_eq_zero (by rw [hlt]; omega)
      refine ⟨fun b => b = g, .inr ⟨g, p, c - k, cur, fun _ _ => False, ⟨by unfold cutA; rw [if_pos hkc, hlt], ho.hg, by omega, by have := ho.hc; omega, by have := ho.hs; rw [hkc, Nat.sub_self, Nat.zero_mul]; omega, by have := ho.hl; omega, fun i x hx => by rw [hx0] at hx; simp at hx, fun b => by rw [hx0]; simp, fun _ _ h => h, fun _ _ _ _ _ h => h.elim⟩⟩, rfl, rfl, rfl, Nat.le_refl _, fun _ _ _ => rfl, fun b hb => .inl ((ho.hF b).2 (.inl hb))⟩
    · refine ⟨fun b => b = g ∨ ∃ i, i < (xs.drop k).length ∧ Fs (i + k) b, .inr ⟨g, p + k * Rep.k α, c - k, cur, fun i => Fs (i + k), ⟨by unfold cutA; rw [if_neg hkc, hlt]; simp [add_plain], ho.hg, by omega, by have := ho.hc; omega, by have := ho.hs; rw [Nat.sub_mul]; omega, by have := ho.hl; omega, fun i x hx => ?_, fun b => Iff.rfl, fun i hi => ho.ng _ (by omega), fun i j b hi hj h1 h2 => by have := ho.dj _ _ b (by omega) (by omega) h1 h2; omega⟩⟩, rfl, rfl, rfl, Nat.le_refl _, fun _ _ _ => rfl, fun b hb => .inl ((ho.hF b).2 ?_)⟩
      · rw [List.getElem?_drop] at hx
        have := ho.el (i + k) x (by rw [Nat.add_comm]; exact hx)
        rw [Nat.add_mul] at this
        rw [show p + k * Rep.k α + i * Rep.k α = p + (i * Rep.k α + k * Rep.k α) from by omega]
        exact this
      · rcases hb with h | ⟨i, hi, h⟩
        · exact .inl h
        · exact .inr ⟨i + k, by omega, h⟩
/-- The cell of element k of a row whose elements are of one cell each. -/
def hdAt (w : World) (v : Value) (k : Nat) : Option Value := match v with | .slice A _ _ => w.cell? ⟨ab A, ao A + k * 1, none⟩ | _ => none
/-- A row of rows of one's own, and the header of its element k. -/
def RIn {α : Type} [Ow α] [SlTy α] (v : Value) (xs : List (List α)) (k : Nat) (u : Value) : Res where
  P w F := OwL w F v xs ∧ k < xs.length ∧ hdAt w v k = some u
  loc h hw := by
    refine ⟨h.1.frame hw, h.2.1, ?_⟩
    rcases h.1 with ⟨rfl, h0, _⟩ | ⟨g, p, cap, cur, Fs, ho⟩
    · have := h.2.1; rw [h0] at this; exact absurd this (by simp)
    · have hv := ho.hv
      subst hv
      rw [← h.2.2]
      exact World.cell?_of_block (hw _ ((ho.hF _).2 (.inl rfl)))
  lt h hb := h.1.lt hb
theorem OwL.hd {α : Type} [Ow α] [SlTy α] {w : World} {F : Nat → Prop} {A : Option Addr} {m c k : Nat} {xs : List (List α)} (h : OwL w F (.slice A m c) xs) (hk : k < m) : k < xs.length ∧ ∃ u G, hdAt w (.slice A m c) k = some u ∧ OwL w G u (xs.getD k []) ∧ ∀ b, G b → F b := by
  have hl : xs.length = m := SlB.len_eq (OwL.sl h)
  subst hl
  refine ⟨hk, ?_⟩
  rcases h with ⟨hv, h0, _⟩ | ⟨g, p, cap, cur, Fs, ho⟩
  · rw [h0] at hk; exact absurd hk (by simp)
  · have hv := ho.hv
    injection hv with e1 e2 e3
    subst e1 e3
    obtain ⟨u, hu, hou⟩ := ho.el k _ (getD_get (d := ([] : List α)) hk)
    refine ⟨u, Fs k, ?_, hou, fun b hb => (ho.hF b).2 (.inr ⟨k, hk, hb⟩)⟩
    have hkk : Rep.k (List α) = 1 := rfl
    rw [hkk] at hu
    have := cells_get cur (p + k * 1) 1 0 (by omega)
    rw [hu] at this
    simp only [hdAt, ab, ao, ho.cell]
    simpa using this.symm
/-- A header is read. -/
theorem ot_ldin {α : Type} [Ow α] [SlTy α] {i : Operand} {t : TypeId} {A : Option Addr} {m c k : Nat} {xs : List (List α)} (hp : Foc H (ROw (.slice A m c) xs) H') (hk : k < m) (ha : ∀ w, (isAgg t).run P w = .ok false w) (hop : o.op = .load t i) (hi : opv env i = some (.pointer (some ⟨ab A, ao A + k * 1, none⟩))) :
    OT P n B w0 o env H (γ := Option Addr × Nat) (fun _ => True) (fun q => .slice q.1 (xs.getD k []).length q.2) (fun q => RIn (.slice A m c) xs k (.slice q.1 (xs.getD k []).length q.2) :: H') := by
  intro a w hf hw
  have hw := hw.perm hp
  obtain ⟨F, ho, hB⟩ := hw.head
  obtain ⟨hkl, u, G, hu, hou, _⟩ := OwL.hd (show OwL w F _ xs from ho) hk
  have hr : (execOp a.eval o).run P w = .ok (.value u) w := by
    unfold execOp
    simp only [hop, hf.opv hi, Instr.loadAt, Instr.sureAddr, Sem.run_bind, Sem.run_pure, Result.andThen_ok, loadVar, ha, Bool.false_eq_true, if_false]
    simp only [hdAt, Nat.mul_one] at hu
    simp [load, Sem.run, hu]
  obtain ⟨A', c', rfl, _⟩ := hou.sl.form
  unfold Oper.wp
  rw [hr]
  exact ⟨(A', c'), trivial, rfl, hw.upd fun F' ho' _ => ⟨F', ⟨ho', hkl, hu⟩, rfl, rfl, rfl, Nat.le_refl _, fun _ _ _ => rfl, fun b hb => .inl hb⟩⟩
theorem SF.rin {α : Type} [Ow α] [SlTy α] {v : Value} {A : Option Addr} {m c k : Nat} {xs : List (List α)} (hl : (xs.getD k []).length = m) (hp : Foc H (RIn v xs k (.slice A m c)) H') : SF B w0 H A m c (xs.getD k []) := by
  refine ⟨hl, fun w hw => ?_⟩
  obtain ⟨F, ⟨ho, hk, hu⟩, _⟩ := hw.rd hp
  obtain ⟨A', c', rfl, _⟩ := ho.sl.form
  obtain ⟨_, u, G, hu', hou, _⟩ := OwL.hd ho hk
  rw [hu] at hu'
  injection hu' with hu'
  rw [hu']
  exact hou.sl
theorem Cw.rin {α : Type} [Ow α] [SlTy α] {v u : Value} {k : Nat} {xs : List (List α)} {w : World} (h : Cw B w0 (RIn v xs k u :: H) w) : Cw B w0 (ROw v xs :: H) w := h.upd fun F ho _ => ⟨F, ho.1, rfl, rfl, rfl, Nat.le_refl _, fun _ _ _ => rfl, fun _ hb => .inl hb⟩
/-- A number of an element is written. -/
theorem ot_stin {i j : Operand} {t : TypeId} {A A' : Option Addr} {m c m' c' k q : Nat} {z : Int} {xs xs' : List (List Int)} (hxs : xs' = xs.set k ((xs.getD k []).set q z)) (hp : Foc H (RIn (.slice A m c) xs k (.slice A' m' c')) H') (hq : q < (xs.getD k []).length) (hwf : I64 z) (hz : ∀ w, (sizeOf t).run P w = .ok 1 w)
    (hop : o.op = .store t i j) (hi : opv env i = some (.pointer (some ⟨ab A', ao A' + q * 1, none⟩))) (hj : opv env j = some (.int .i64 z)) : OT P n B w0 o env H (γ := Unit) (fun _ => True) (fun _ => undef) (fun _ => ROw (.slice A m c) xs' :: H') := by
  subst hxs
  intro a w hf hw
  have hw := hw.perm hp
  obtain ⟨F, ⟨ho, hk, hu⟩, hB⟩ := hw.head
  have key : ∀ F, OwL w F (.slice A m c) xs → ∃ g, F g ∧ A' = some ⟨g, ao A', none⟩ ∧ w.frozen? ⟨g, ao A' + q, none⟩ = false ∧ (∃ u, w.cell? ⟨g, ao A' + q, none⟩ = some u) ∧ OwL (w.setCell ⟨g, ao A' + q, none⟩ (.int .i64 z)) F (.slice A m c) (xs.set k ((xs.getD k []).set q z)) := by
    intro F ho
    rcases ho with ⟨hv, h0, _⟩ | ⟨g, p, cap, cur, Fs, ho⟩
    · rw [h0] at hk; exact absurd hk (by simp)
    · have hkk : Rep.k (List Int) = 1 := rfl
      have hxk := getD_get (d := ([] : List Int)) hk
      have hv := ho.hv
      injection hv with e1 e2 e3
      subst e1 e3
      simp only [hdAt, ab, ao, ho.cell] at hu
      obtain ⟨u, hu2, hou⟩ := ho.el k _ hxk
      have hu3 := cells_get cur (p + k * 1) 1 0 (by omega)
      rw [hkk] at hu2
      rw [hu2] at hu3
      have : u = .slice A' m' c' := by
        rw [show p + k * 1 + 0 = p + k * 1 from rfl, hu] at hu3
        simpa using hu3
      subst this
      generalize hys : xs.getD k [] = ys at *
      rcases hou with ⟨_, h0, _⟩ | ⟨g2, p2, cap2, cur2, Fs2, hou⟩
      · rw [h0] at hq; exact absurd hq (by simp)
      · have hv2 := hou.hv
        injection hv2 with e1 e2' e3
        subst e1 e3
        obtain ⟨cur2', Fs2', hou'⟩ := hou.set_int hq hwf
        have hbk : Fs k g2 := (hou.hF g2).2 (.inl rfl)
        have hgb : g2 ≠ g := fun e => ho.ng k hk (e ▸ hbk)
        have hs2 := hou.hs
        have hn2 := hou.hn
        have hk1 : Rep.k Int = 1 := rfl
        rw [hk1, Nat.mul_one] at hs2
        have hup := ho.upd (w' := w.setCell ⟨g2, p2 + q, none⟩ (.int .i64 z)) (i := k) hk (cur' := cur) (Fi := Fs k) (x' := ys.set q z)
          ((Below.heap_setCell w ⟨g2, p2 + q, none⟩ _ g (fun e => hgb e.symm)).trans ho.hg) rfl (fun _ _ => rfl)
          (fun i b' hi hne hb' => Below.heap_setCell w ⟨g2, p2 + q, none⟩ _ b' (fun e => hne (ho.dj i k b' hi hk hb' (e ▸ hbk))))
          (by
            exact ⟨_, by rw [hkk]; exact hu2, .inr ⟨_, _, _, _, _, hou'⟩⟩)
          (fun b' hb' => ⟨fun e => ho.ng k hk (e ▸ hb'), fun i hi hne hib => hne (ho.dj i k b' hi hk hib hb')⟩)
        refine ⟨g2, (ho.hF g2).2 (.inr ⟨k, hk, hbk⟩), rfl, hou.frozen _, ⟨_, (hou.cell _).trans (Array.getElem?_eq_getElem (by simp only [ao]; omega))⟩, .inr ⟨_, _, _, _, _, hup.cong fun b' => ?_⟩⟩
        rw [ho.hF b']
        constructor
        · rintro (rfl | ⟨i, hi, _, hb'⟩ | hb')
          · exact .inl rfl
          · exact .inr ⟨i, hi, hb'⟩
          · exact .inr ⟨k, hk, hb'⟩
        · rintro (rfl | ⟨i, hi, hb'⟩)
          · exact .inl rfl
          · by_cases hik : i = k
            · subst hik; exact .inr (.inr hb')
            · exact .inr (.inl ⟨i, hi, hik, hb'⟩)
  obtain ⟨g, hgF, hA, hfz, ⟨u0, hu0⟩, hnew⟩ := key F ho
  have hab : ab A' = g := by rw [hA]; rfl
  have hr : (execOp a.eval o).run P w = .ok .skip (w.setCell ⟨g, ao A' + q, none⟩ (.int .i64 z)) := by
    unfold execOp
    simp only [hop, hf.opv hi, hf.opv hj, Instr.storeAt, Instr.sureAddr, Sem.run_bind, Sem.run_pure, Result.andThen_ok, storeVar, hz, Value.cells, hab, Nat.mul_one]
    have h0 : ((⟨g, ao A' + q, none⟩ : Addr).add 0) = ⟨g, ao A' + q, none⟩ := by simp [add_plain]
    rw [if_neg (by simp)]
    simp [storeCells, h0, store, Sem.run, hu0, hfz]
  unfold Oper.wp
  rw [hr]
  refine ⟨(), trivial, rfl, hw.upd fun F' ho' hB' => ?_⟩
  obtain ⟨g', hgF', hA', _, _, hnew'⟩ := key F' ho'.1
  have : g' = g := by rw [hA] at hA'; injection hA' with hA'; injection hA' with hA'; exact hA'.symm
  subst this
  refine ⟨F', hnew', rfl, rfl, rfl, by simp [World.setCell], fun b _ hn => Below.heap_setCell w ⟨g', ao A' + q, none⟩ _ b (fun e => hn (by subst e; exact hgF')), fun b hb => .inl hb⟩
/-- The header of an element gets a name. -/
theorem cw_rin {α : Type} [Ow α] [SlTy α] {A : Option Addr} {m c : Nat} {xs : List (List α)} (k : Nat) (hp : Foc H (ROw (.slice A m c) xs) H') (hk : k < m) (h : ∀ A' c', CW P n B w0 x Q env (RIn (.slice A m c) xs k (.slice A' (xs.getD k []).length c') :: H')) : CW P n B w0 x Q env H := by
  intro a w hf hw
  have hw := hw.perm hp
  obtain ⟨F, ho, _⟩ := hw.head
  obtain ⟨hkl, u, G, hu, hou, _⟩ := OwL.hd (show OwL w F _ xs from ho) hk
  obtain ⟨A', c', rfl, _⟩ := hou.sl.form
  exact h A' c' a w hf (hw.upd fun F' ho' _ => ⟨F', ⟨ho', hkl, hu⟩, rfl, rfl, rfl, Nat.le_refl _, fun _ _ _ => rfl, fun _ hb => .inl hb⟩)
theorem qs_ldrin {α : Type} [Ow α] [SlTy α] {i : Operand} {t : TypeId} {A : Option Addr} {m c k : Nat} {u : Value} {xs : List (List α)} (hp : Foc H (RIn (.slice A m c) xs k u) H') (ha : ∀ w, (isAgg t).run P w = .ok false w) (hop : o.op = .load t i) (hi : opv env i = some (.pointer (some ⟨ab A, ao A + k * 1, none⟩))) : QS P n B w0 o env H u :=
  qs_ld (fun w hw => by obtain ⟨F, ⟨_, _, hu⟩, _⟩ := hw.rd hp; exact hu) hop hi ha
theorem SF.rino {α : Type} [Ow α] [SlTy α] {A : Option Addr} {m c k : Nat} {u : Value} {xs : List (List α)} (hl : xs.length = m) (hp : Foc H (RIn (.slice A m c) xs k u) H') : SF B w0 H A m c xs := ⟨hl, fun w hw => by obtain ⟨F, ⟨h, _⟩, _⟩ := hw.rd hp; exact h.sl⟩
end
end Go.Proofs.Ytjojipeodionmaa
