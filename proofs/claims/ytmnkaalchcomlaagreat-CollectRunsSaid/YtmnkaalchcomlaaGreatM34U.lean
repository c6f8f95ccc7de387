/- Texts of one proof, one behind the other: lemmas alone. -/
import Derived.Test.YtmnkaalchcomlaaGreatM33U

-- Ms8
/- Machines that are collected, in plain words; they do as they did. -/
namespace Go.Proofs.YtmnkaalchcomlaaGreat
section
variable {D : Int → Prop} {r : Int → Int} {m c : MMach} {fs : List MFunc}
theorem Sim.top (h : Sim D r m c) : frTop c = renF r (frTop m) ∧ c.frames.dropLast = m.frames.dropLast.map (renF r) ∧ c.frames.length = m.frames.length := by
 unfold frTop
 rw [h.fr]
 rcases List.eq_nil_or_concat m.frames with e | ⟨a, x, e⟩
 ·rw [e]; exact ⟨rfl, rfl, rfl⟩
 ·rw [e, List.concat_eq_append]; simp
theorem Sim.op (h : Sim D r m c) : opOf fs c = opOf fs m := by
 unfold opOf
 rw [h.top.1]
 rfl
theorem step_sim (hF : Fitd fs) (hR : RightM fs m) (h : Sim D r m c) : (m.status = 0 ∧ stepM fs m = { m with status := 3, trap := 3 }) ∨ ∃ D' r', Sim D' r' (stepM fs m) (stepM fs c) := by
 unfold stepM
 rw [h.st]
 by_cases hst : m.status = 2 ∨ m.status = 3
 ·rw [if_pos hst, if_pos hst]
  exact .inr ⟨D, r, h⟩
 rw [if_neg hst, if_neg hst]
 have hs01 : m.status = 0 ∨ m.status = 1 := by have := hR.st; omega
 have hne : m.frames ≠ [] := fun e => by have := hR.dn.1 e; omega
 obtain ⟨li, x, e⟩ : ∃ li x, m.frames = li ++ [x] := by
  rcases List.eq_nil_or_concat m.frames with h1 | ⟨l, z, h1⟩
  ·exact absurd h1 hne
  ·exact ⟨l, z, by rw [h1]; simp⟩
 have htop : frTop m = x := by unfold frTop; rw [e]; simp
 have hdl : m.frames.dropLast = li := by rw [e]; simp
 have hop : opOf fs m = opAt (fnAt fs x.func.toNat).code x.pc.toNat := by unfold opOf; rw [htop]
 have hli : ∀ y ∈ li, okX D y := fun y hy => h.dom y (by rw [e]; exact List.mem_append_left _ hy)
 have hx : okX D x := h.dom x (by rw [e]; simp)
 unfold stepT
 rw [h.op, h.top.1, h.top.2.1, h.inn, htop, hdl]
 by_cases c21 : (opOf fs m).c = 21
 ·rw [if_pos c21, if_pos c21]
  right
  by_cases hin : m.inn = []
  ·rw [if_pos hin, if_pos hin]
   exact ⟨D, r, ⟨h.fr, h.dom, h.rng, h.mono, h.len, h.cells, h.bl, rfl, h.out, rfl, h.tr⟩⟩
  ·rw [if_neg hin, if_neg hin]
   have hq : Sim D r { m with inn := m.inn.drop 1, status := 0 } { c with inn := m.inn.drop 1, status := 0 } := ⟨h.fr, h.dom, h.rng, h.mono, h.len, h.cells, h.bl, rfl, h.out, rfl, h.tr⟩
   exact ⟨D, r, hq.fr1 (m := { m with inn := _, status := _ }) (c := { c with inn := _, status := _ }) hli (x := { x with pc := x.pc + 1, stack := x.stack ++ [numV (m.inn.getD 0 0)] }) ⟨hx.1, okL_app hx.2 (okL_one (okV_num _))⟩ (by simp [renF, renV_num])⟩
 ·rw [if_neg c21, if_neg c21]
  have h0 : m.status = 0 := by
   rcases hs01 with h1 | h1
   ·exact h1
   ·exact absurd (hR.wt h1).2 c21
  have htp := hR.top e
  have hty := tyF hF htp hop
  have hT : TyF { x with pc := x.pc + 1 } (opOf fs m) := ⟨hty.two, hty.one, hty.get, hty.set, hty.len⟩
  have hd := doOp_sim (fs := fs) hR.bl h hT hli (x := { x with pc := x.pc + 1 }) hx
  rw [show renF r { x with pc := x.pc + 1 } = { renF r x with pc := (renF r x).pc + 1 } from rfl] at hd
  cases hd with
  | both w h1 h2 =>
   rw [h1, h2]
   exact .inr ⟨D, r, ⟨h.fr, h.dom, h.rng, h.mono, h.len, h.cells, h.bl, rfl, h.out, rfl, rfl⟩⟩
  | room h1 => rw [h1]; exact .inl ⟨h0, rfl⟩
  | on m' c' D' r' h1 h2 h3 => rw [h1, h2]; exact .inr ⟨D', r', h3⟩
theorem frAt_map (l : List MFrame) (i : Nat) : frAt (l.map (renF r)) i = renF r (frAt l i) := by
 unfold frAt
 rw [List.getD_eq_getElem?_getD, List.getD_eq_getElem?_getD, List.getElem?_map]
 cases l[i]? with
 | none => rfl
 | some x => rfl
theorem asB_ren (h : Sim D r m c) {v : MVal} (hv : okV D v) (t : Int) : asB (renV r v) t = asB v t := by
 unfold asB
 rw [renV_ref]
 congr 2
 exact decide_eq_decide.2 (renV_zero h hv)
theorem val_ren (h : Sim D r m c) {v : MVal} (hv : okV D v) (hb : valB m.blocks.length v = true) : valB c.blocks.length (renV r v) = true := by
 by_cases h1 : v.ref = true ∧ v.n ≠ 0
 ·have := (h.rng _ (hv h1.1 h1.2)).2.1
  unfold valB
  rw [if_pos (by rw [renV_ref]; exact h1.1), renV_at h1.1 h1.2]
  exact within_ok.2 (by omega)
 ·unfold renV
  rw [if_neg h1]
  unfold valB at hb ⊢
  split
  ·rename_i h2
   have h3 : v.n = 0 := Classical.byContradiction fun h3 => h1 ⟨h2, h3⟩
   rw [h3]
   exact within_ok.2 (by omega)
  ·rename_i h2
   rwa [if_neg h2] at hb
theorem tys_ren (h : Sim D r m c) {s : List MVal} {t : List Int} (hs : okL D s) (hT : Tys m.blocks.length s t) : Tys c.blocks.length (s.map (renV r)) t :=
 ⟨by rw [List.length_map]; exact hT.len, fun k hk => by
  rw [List.length_map] at hk
  rw [getD_ren, asB_ren h (okV_getD hs k)]
  exact hT.as_ k hk, fun v hv => by
  obtain ⟨u, hu, rfl⟩ := List.mem_map.1 hv
  exact val_ren h (hs u hu) (hT.val u hu)⟩
theorem sim_right (hR : RightM fs m) (h : Sim D r m c) : RightM fs c := by
 have hl := h.top.2.2
 refine ⟨by rw [h.st]; exact hR.st, by rw [h.st, h.tr]; exact hR.t3, by rw [h.st, h.tr]; exact hR.t0, h.bl, by rw [h.inn]; exact hR.ib, by rw [h.out]; exact hR.ob, by rw [h.inn]; exact hR.ii, by rw [h.out]; exact hR.oi, by rw [hl]; exact hR.n6, ?_, ?_, ?_, ?_, ?_⟩
 ·rw [h.st, ← hR.dn, h.fr]; simp
 ·intro x hx
  rw [h.fr] at hx
  obtain ⟨y, hy, rfl⟩ := List.mem_map.1 hx
  exact hR.fn y hy
 ·intro h0
  rw [h.fr] at h0 ⊢
  rw [frAt_map]
  exact hR.f0 (by simpa using h0)
 ·intro i hi
  rw [hl] at hi
  obtain ⟨t, ht, h1, h2⟩ := hR.fr i hi
  have hok := h.dom _ (frAt_mem hi)
  have hw : wantS fs c.frames i = wantS fs m.frames i := by
   unfold wantS frF
   rw [hl, h.fr, frAt_map, frAt_map]
   rfl
  refine ⟨t, by rw [hw]; exact ht, ?_, ?_⟩
  ·have := tys_ren h hok.1 h1
   rw [h.fr]
   unfold frF
   rw [frAt_map]
   exact this
  ·have := tys_ren h hok.2 h2
   rw [h.fr, frAt_map]
   exact this
 ·intro h1
  rw [h.st] at h1
  rw [h.inn, h.op]
  exact hR.wt h1
theorem Sim.halt (h : Sim D r m c) : haltM c ↔ haltM m := by
 unfold haltM
 rw [h.st, h.fr, List.map_eq_nil_iff]
end
theorem run_sim {fs : List MFunc} (hF : Fitd fs) (m : MMach) (k : Int) (hR : RightM fs m) (hk : 0 ≤ k) (c : MMach) (D : Int → Prop) (r : Int → Int) (h : Sim D r m c) :
  (m.status ≠ 3 ∧ ((runM fs m k).1.status = 3 ∧ (runM fs m k).1.trap = 3) ∧ (runM fs m k).1.out.length ≤ (runM fs c k).1.out.length ∧ (runM fs c k).1.out.take (runM fs m k).1.out.length = (runM fs m k).1.out) ∨
  ((runM fs m k).2 = (runM fs c k).2 ∧ ∃ D' r', Sim D' r' (runM fs m k).1 (runM fs c k).1) := by
 refine run_ind (Q := fun m k a => RightM fs m → 0 ≤ k → ∀ c D r, Sim D r m c → (m.status ≠ 3 ∧ (a.1.status = 3 ∧ a.1.trap = 3) ∧ a.1.out.length ≤ (runM fs c k).1.out.length ∧ (runM fs c k).1.out.take a.1.out.length = a.1.out) ∨ (a.2 = (runM fs c k).2 ∧ ∃ D' r', Sim D' r' a.1 (runM fs c k).1)) ?_ ?_ ?_ ?_ _ m k (Nat.le_refl _) hR hk c D r h
 ·intro m k c1 _ _ c D r h
  rw [run_halt (h.halt.2 c1)]
  exact .inr ⟨rfl, D, r, h⟩
 ·intro m k c1 c2 _ _ c D r h
  rw [runM_eq c, if_neg (fun h' => c1 (h.halt.1 h')), h.op, if_pos c2]
  exact .inr ⟨rfl, D, r, h⟩
 ·intro m k c1 c2 c3 ih hR hk c D r h
  have hst : ¬ (m.status = 2 ∨ m.status = 3) := (not_congr (halt_iff hR)).1 c1
  rcases step_sim hF hR h with ⟨_, h1⟩ | ⟨D', r', h1⟩
  ·rw [h1] at c3; exact absurd c3 (by show ¬ (3 : Int) = 0; omega)
  ·have hp := cost_pos (opOf fs m).c
   have e : runM fs c k = runM fs (stepM fs c) (k - costC (opOf fs m).c) := by
    rw [runM_eq c, if_neg (fun h' => c1 (h.halt.1 h')), h.op, if_neg (by omega), if_pos (by rw [h1.st]; exact c3)]
   rw [e]
   rcases ih (step_right hF hR) (by omega) _ _ _ h1 with ⟨_, g2, g3⟩ | g
   ·exact .inl ⟨fun h' => hst (.inr h'), g2, g3⟩
   ·exact .inr g
 ·intro m k c1 c2 c3 hR hk c D r h
  have hst : ¬ (m.status = 2 ∨ m.status = 3) := (not_congr (halt_iff hR)).1 c1
  have hp := cost_pos (opOf fs m).c
  rcases step_sim hF hR h with ⟨h0, h1⟩ | ⟨D', r', h1⟩
  ·refine .inl ⟨fun h' => hst (.inr h'), ?_⟩
   rw [h1]
   have h2 := run_facts hF c k (sim_right hR h) hk
   have ho := h2.out
   rw [h.out] at ho
   exact ⟨⟨rfl, rfl⟩, ho⟩
  ·have e : runM fs c k = (stepM fs c, k - costC (opOf fs m).c) := by
    rw [runM_eq c, if_neg (fun h' => c1 (h.halt.1 h')), h.op, if_neg (by omega), if_neg (by rw [h1.st]; exact c3)]
   rw [e]
   exact .inr ⟨rfl, D', r', h1⟩
/-! Which blocks anybody has -/
def hasR (m : MMach) (n : Int) : Bool := m.frames.any fun x => (x.locals ++ x.stack).any fun v => v.ref && decide (v.n = n)
theorem hasR_iff {m : MMach} {n : Int} : hasR m n = true ↔ ∃ x ∈ m.frames, ∃ v ∈ x.locals ++ x.stack, v.ref = true ∧ v.n = n := by
 unfold hasR
 rw [List.any_eq_true]
 constructor
 ·rintro ⟨x, hx, h⟩
  obtain ⟨v, hv, h2⟩ := List.any_eq_true.1 h
  simp only [Bool.and_eq_true, decide_eq_true_eq] at h2
  exact ⟨x, hx, v, hv, h2⟩
 ·rintro ⟨x, hx, v, hv, h2⟩
  exact ⟨x, hx, List.any_eq_true.2 ⟨v, hv, by simp only [Bool.and_eq_true, decide_eq_true_eq]; exact h2⟩⟩
def refsM (m : MMach) : List Int := ((List.range m.blocks.length).filter fun k : Nat => hasR m ((k : Int) + 1)).map fun k : Nat => (k : Int) + 1
theorem refs_mem {m : MMach} {n : Int} : n ∈ refsM m ↔ (1 ≤ n ∧ n ≤ m.blocks.length) ∧ hasR m n = true := by
 unfold refsM
 rw [List.mem_map]
 constructor
 ·rintro ⟨k, hk, rfl⟩
  obtain ⟨h1, h2⟩ := List.mem_filter.1 hk
  have := List.mem_range.1 h1
  exact ⟨by omega, h2⟩
 ·rintro ⟨h1, h2⟩
  exact ⟨(n - 1).toNat, List.mem_filter.2 ⟨List.mem_range.2 (by omega), by rw [show (((n - 1).toNat : Int)) + 1 = n from by omega]; exact h2⟩, by omega⟩
theorem refs_sorted (m : MMach) : (refsM m).Pairwise (· < ·) := by
 unfold refsM
 refine List.Pairwise.map _ (fun a b h => ?_) (List.pairwise_lt_range.filter _)
 show (a : Int) + 1 < (b : Int) + 1
 have h : a < b := h
 omega
def moveR (m : MMach) (n : Int) : Int := keptN m.blocks (refsM m) n
def colM (m : MMach) : MMach := { m with frames := m.frames.map (renF (moveR m)), blocks := keptTo m.blocks (refsM m) m.blocks.length }
theorem val_rng {fs : List MFunc} {m : MMach} (hR : RightM fs m) {x : MFrame} (hx : x ∈ m.frames) {v : MVal} (hv : v ∈ x.locals ++ x.stack) (hr : v.ref = true) : 0 ≤ v.n ∧ v.n ≤ m.blocks.length := by
 obtain ⟨i, hi, rfl⟩ := List.getElem_of_mem hx
 obtain ⟨t, _, h1, h2⟩ := hR.fr i hi
 have e : frAt m.frames i = m.frames[i] := by
  unfold frAt
  rw [List.getD_eq_getElem?_getD, List.getElem?_eq_getElem hi]
  rfl
 rw [e] at h1 h2
 have h3 : valB m.blocks.length v = true := (List.mem_append.1 hv).elim (h1.val v) (h2.val v)
 unfold valB at h3
 rw [if_pos hr] at h3
 exact within_ok.1 h3
def refD (m : MMach) (n : Int) : Prop := n ∈ refsM m
theorem col_ok {fs : List MFunc} {m : MMach} (hR : RightM fs m) : ∀ x ∈ m.frames, okX (refD m) x := fun x hx => by
 have hv : ∀ v ∈ x.locals ++ x.stack, okV (refD m) v := fun v hv h1 h2 => by
  have := val_rng hR hx hv h1
  exact refs_mem.2 ⟨by omega, hasR_iff.2 ⟨x, hx, v, hv, h1, rfl⟩⟩
 exact ⟨fun v h => hv v (List.mem_append_left _ h), fun v h => hv v (List.mem_append_right _ h)⟩
theorem kept_mono (l : List (List Int)) (refs : List Int) {a b : Int} (ha : 1 ≤ a) (hab : a < b) (hb : b ∈ refs) : keptN l refs a < keptN l refs b := by
 obtain ⟨k, hk⟩ : ∃ k : Nat, b = (k : Int) + 1 := ⟨(b - 1).toNat, by omega⟩
 subst hk
 have hy := keptTo_yes (l := l) (refs := refs) (k := k) (by simpa using hb)
 obtain ⟨q, hq⟩ := keptTo_pre l refs (k := a.toNat) (m := k) (by omega)
 unfold keptN
 rw [if_neg (by omega), if_neg (by omega), show ((k : Int) + 1).toNat = k + 1 from by omega, hy, hq]
 simp
 omega
theorem sim_col {fs : List MFunc} {m : MMach} (hR : RightM fs m) : Sim (refD m) (moveR m) m (colM m) := by
 refine ⟨rfl, col_ok hR, fun n hn => ?_, fun a b ha hb hab => ?_, keptTo_len _ _ _, ?_, checkB_kept _ hR.bl, rfl, rfl, rfl, rfl⟩
 ·have h1 := (refs_mem.1 hn).1
  obtain ⟨g1, g2, g3⟩ := keptN_at (l := m.blocks) (refs := refsM m) hn h1.1 h1.2
  refine ⟨h1, ⟨g1, g2⟩, ?_⟩
  exact g3
 ·exact kept_mono _ _ (refs_mem.1 ha).1.1 hab hb
 ·have := cells_kept m.blocks (refsM m) m.blocks.length (Nat.le_refl _)
  rw [List.take_length] at this
  exact this
theorem keptTo_list (l : List (List Int)) (R : List Int) : ∀ k, keptTo l R k = (((List.range k).filter fun j : Nat => R.contains ((j : Int) + 1)).map fun j : Nat => l.getD j [])
 | 0 => rfl
 | k + 1 => by
  rw [List.range_succ, List.filter_append, List.map_append, keptTo, keptTo_list l R k]
  congr 1
  by_cases h : R.contains ((k : Int) + 1) = true
  ·rw [if_pos h, List.filter_cons_of_pos (by exact h)]
   rfl
  ·rw [if_neg h, List.filter_cons_of_neg (by exact h)]
   rfl
theorem kept_refs (m : MMach) : ∀ k, k ≤ m.blocks.length → keptTo m.blocks (refsM m) k = ((refsM m).filter fun n : Int => decide (n ≤ (k : Int))).map (blk m.blocks) := fun k hk => by
 rw [keptTo_list]
 have e : ((refsM m).filter fun n : Int => decide (n ≤ (k : Int))) = ((List.range k).filter fun j : Nat => (refsM m).contains ((j : Int) + 1)).map fun j : Nat => (j : Int) + 1 := by
  refine rising_eq ((refs_sorted m).filter _) (List.Pairwise.map _ (fun a b h => ?_) (List.pairwise_lt_range.filter _)) fun a => ?_
  ·show (a : Int) + 1 < (b : Int) + 1
   have h : a < b := h
   omega
  ·rw [List.mem_filter, List.mem_map]
   constructor
   ·rintro ⟨h1, h2⟩
    have h3 := (refs_mem.1 h1).1
    have h2 := of_decide_eq_true h2
    refine ⟨(a - 1).toNat, List.mem_filter.2 ⟨List.mem_range.2 (by omega), ?_⟩, by omega⟩
    rw [show (((a - 1).toNat : Int)) + 1 = a from by omega]
    simpa using h1
   ·rintro ⟨j, hj, rfl⟩
    obtain ⟨h1, h2⟩ := List.mem_filter.1 hj
    have := List.mem_range.1 h1
    exact ⟨by simpa using h2, by simp; omega⟩
 rw [e, List.map_map]
 refine List.map_congr_left fun j _ => ?_
 show _ = m.blocks.getD ((j : Int) + 1 - 1).toNat []
 rw [show ((j : Int) + 1 - 1).toNat = j from by omega]
section
variable {D : Int → Prop} {r : Int → Int} {m c : MMach} {fs : List MFunc}
theorem Sim.lt_iff (h : Sim D r m c) {a b : Int} (ha : D a) (hb : D b) : r a ≤ r b ↔ a ≤ b := by
 rcases Int.lt_trichotomy a b with h1 | h1 | h1
 ·have := h.mono _ _ ha hb h1; omega
 ·subst h1; omega
 ·have := h.mono _ _ hb ha h1; omega
theorem sim_has (h : Sim D r m c) : ∀ n, hasR m n = true → n ≠ 0 → D n ∧ hasR c (r n) = true := fun n hn h0 => by
 obtain ⟨x, hx, v, hv, h1, rfl⟩ := hasR_iff.1 hn
 have hok := h.dom x hx
 have hD : okV D v := (List.mem_append.1 hv).elim (hok.1 v) (hok.2 v)
 refine ⟨hD h1 h0, hasR_iff.2 ⟨renF r x, by rw [h.fr]; exact List.mem_map_of_mem hx, renV r v, ?_, by rw [renV_ref]; exact h1, renV_at h1 h0⟩⟩
 show renV r v ∈ x.locals.map (renV r) ++ x.stack.map (renV r)
 rw [← List.map_append]
 exact List.mem_map_of_mem hv
theorem sim_refs (hR : RightM fs m) (h : Sim D r m c) : refsM c = (refsM m).map r := by
 have hD : ∀ n, n ∈ refsM m → D n := fun n hn => (sim_has h n (refs_mem.1 hn).2 (by have := (refs_mem.1 hn).1; omega)).1
 refine rising_eq (refs_sorted c) ?_ fun a => ?_
 ·rw [List.pairwise_map]
  exact (refs_sorted m).imp_of_mem fun {a b} ha hb hab => h.mono a b (hD a ha) (hD b hb) hab
 ·rw [List.mem_map]
  constructor
  ·intro ha
   obtain ⟨h1, h2⟩ := refs_mem.1 ha
   obtain ⟨y, hy, u, hu, h3, rfl⟩ := hasR_iff.1 h2
   rw [h.fr] at hy
   obtain ⟨x, hx, rfl⟩ := List.mem_map.1 hy
   have hu : u ∈ x.locals.map (renV r) ++ x.stack.map (renV r) := hu
   rw [← List.map_append] at hu
   obtain ⟨v, hv, rfl⟩ := List.mem_map.1 hu
   rw [renV_ref] at h3
   have h0 : v.n ≠ 0 := fun h0 => by
    unfold renV at h1
    rw [if_neg (fun h' => h'.2 h0), h0] at h1
    omega
   have h5 := val_rng hR hx hv h3
   exact ⟨v.n, refs_mem.2 ⟨by omega, hasR_iff.2 ⟨x, hx, v, hv, h3, rfl⟩⟩, (renV_at h3 h0).symm⟩
  ·rintro ⟨n, hn, rfl⟩
   obtain ⟨h1, h2⟩ := refs_mem.1 hn
   obtain ⟨h3, h4⟩ := sim_has h n h2 (by omega)
   exact refs_mem.2 ⟨(h.rng n h3).2.1, h4⟩
theorem col_sim (hR : RightM fs m) (h : Sim D r m c) : colM c = colM m := by
 have hD : ∀ n, n ∈ refsM m → D n := fun n hn => (sim_has h n (refs_mem.1 hn).2 (by have := (refs_mem.1 hn).1; omega)).1
 have hrefs := sim_refs hR h
 have all : ∀ m : MMach, ((refsM m).filter fun n => decide (n ≤ (m.blocks.length : Int))) = refsM m := fun m => List.filter_eq_self.2 fun n hn => by have := (refs_mem.1 hn).1; simp; omega
 have hb : keptTo c.blocks (refsM c) c.blocks.length = keptTo m.blocks (refsM m) m.blocks.length := by
  rw [kept_refs c _ (Nat.le_refl _), kept_refs m _ (Nat.le_refl _), all, all, hrefs, List.map_map]
  exact List.map_congr_left fun n hn => (h.rng n (hD n hn)).2.2
 have hmv : ∀ n, n ∈ refsM m → moveR c (r n) = moveR m n := fun n hn => by
  have h1 := (refs_mem.1 hn).1
  have h2 := h.rng n (hD n hn)
  unfold moveR keptN
  rw [if_neg (by omega), if_neg (by omega), kept_refs c _ (by omega), kept_refs m _ (by omega), List.length_map, List.length_map, hrefs, List.filter_map, List.length_map]
  congr 2
  refine List.filter_congr fun a ha => ?_
  show decide (r a ≤ ((r n).toNat : Int)) = decide (a ≤ (n.toNat : Int))
  rw [show ((r n).toNat : Int) = r n from by omega, show (n.toNat : Int) = n from by omega]
  exact decide_eq_decide.2 (h.lt_iff (hD a ha) (hD n hn))
 unfold colM
 rw [hb, h.inn, h.out, h.st, h.tr, h.fr, List.map_map]
 congr 1
 refine List.map_congr_left fun x hx => ?_
 have hok := col_ok hR x hx
 have hl : ∀ l : List MVal, okL (refD m) l → (l.map (renV r)).map (renV (moveR c)) = l.map (renV (moveR m)) := fun l hl => by
  rw [List.map_map]
  refine List.map_congr_left fun v hv => ?_
  show renV (moveR c) (renV r v) = renV (moveR m) v
  by_cases h1 : v.ref = true ∧ v.n ≠ 0
  ·have h2 := hl v hv h1.1 h1.2
   have h3 := (h.rng _ (hD _ h2)).2.1
   unfold renV
   rw [if_pos h1, if_pos h1, if_pos ⟨rfl, by show ¬ r v.n = 0; omega⟩]
   rw [hmv v.n h2]
  ·unfold renV
   rw [if_neg h1, if_neg h1, if_neg h1]
 show MFrame.mk x.func x.pc ((x.locals.map (renV r)).map _) ((x.stack.map (renV r)).map _) = MFrame.mk x.func x.pc _ _
 rw [hl _ hok.1, hl _ hok.2]
theorem col_right (hR : RightM fs m) : RightM fs (colM m) := sim_right hR (sim_col hR)
theorem col_col (hR : RightM fs m) : colM (colM m) = colM m := col_sim hR (sim_col hR)
theorem step_new (hF : Fitd fs) (hR : RightM fs m) (h0 : m.status = 0) (hc : (opOf fs m).c = 14) : (stepM fs m).status = 0 ∨ (stepM fs m).trap = 3 := by
 obtain ⟨li, x, e, k⟩ := step_kd hF hR (by omega)
 generalize stepM fs m = m' at k ⊢
 cases k with
 | wait c i e => rw [hc] at c; cases c
 | recv c i e => rw [hc] at c; cases c
 | trap why c e =>
  subst e
  right
  show why = 3
  rw [hc] at c
  omega
 | call c n x2 x3 e => rw [hc] at c; cases c
 | ret c e => rw [hc] at c; cases c
 | ord c12 c13 c21 o h20 h14 => left; rw [o.st]; exact h0
theorem col_step (hF : Fitd fs) (hR : RightM fs m) : (m.status = 0 ∧ (stepM fs m).status = 3 ∧ (stepM fs m).trap = 3 ∧ ((stepM fs (colM m)).status = 0 ∨ (stepM fs (colM m)).trap = 3)) ∨ (¬ (m.status = 0 ∧ (stepM fs m).status = 3 ∧ (stepM fs m).trap = 3) ∧ colM (stepM fs (colM m)) = colM (stepM fs m)) := by
 have hS := sim_col hR
 by_cases ht : m.status = 0 ∧ (stepM fs m).status = 3 ∧ (stepM fs m).trap = 3
 ·refine .inl ⟨ht.1, ht.2.1, ht.2.2, ?_⟩
  have hc : (opOf fs m).c = 14 := by
   have h1 := (trap_right hF hR (by omega) ht.2.1).2
   rw [ht.2.2] at h1
   unfold whyOk at h1
   generalize (opOf fs m).c = o at h1
   by_cases e1 : o = 15 ∨ o = 16
   ·rw [if_pos e1] at h1; simp at h1
   rw [if_neg e1] at h1
   by_cases e2 : o = 17
   ·rw [if_pos e2] at h1; simp at h1
   rw [if_neg e2] at h1
   by_cases e3 : o = 14
   ·exact e3
   rw [if_neg e3] at h1
   by_cases e4 : o = 12
   ·rw [if_pos e4] at h1; simp at h1
   rw [if_neg e4] at h1
   by_cases e5 : o = 20
   ·rw [if_pos e5] at h1; simp at h1
   rw [if_neg e5] at h1
   cases h1
  exact step_new hF (col_right hR) (hS.st.trans ht.1) (by rw [hS.op]; exact hc)
 ·refine .inr ⟨ht, ?_⟩
  rcases step_sim hF hR hS with ⟨h0, h1⟩ | ⟨D', r', h1⟩
  ·exact absurd ⟨h0, by rw [h1], by rw [h1]⟩ ht
  ·exact col_sim (step_right hF hR) h1
end
end Go.Proofs.YtmnkaalchcomlaaGreat
