/- Texts of one proof, one behind the other: lemmas alone. -/
import Derived.Deep.QuietTactic
import Derived.BigQuiet
import Derived.Test.YtpacloheigifkaaGreatM18V
import Derived.Test.YtpacloheigifkaaGreatM14V
import Derived.Test.YtpacloheigifkaaGreatM4V
import Derived.Test.YtpacloheigifkaaGreatM23V

-- Fl1
/- Flow: what its functions answer, in plain words; ops as elements for the walker. -/
namespace Go.Proofs.YtpacloheigifkaaGreat
open Go.RowKit
theorem reti {a b : Int} (h : a = b) : Ending.returned (.int .i64 a) = .returned (.int .i64 b) := by rw [h]
instance : Ow MOp where
 ty := 49
 own _ F cs o := (cs = [.int .i64 o.c, .int .i64 o.a] ∧ I64 o.c ∧ I64 o.a) ∧ ∀ b, ¬ F b
 rd_ h := h.1
 lt h hb := (h.2 _ hb).elim
 frame h _ := h
 cong h hf := ⟨h.1, fun b hb => h.2 b ((hf b).2 hb)⟩
instance : FOw MOp where
 enc o := [.int .i64 o.c, .int .i64 o.a]
 wf o := I64 o.c ∧ I64 o.a
 rep_iff := Iff.rfl
 own_iff := Iff.rfl
instance : SlTy MOp := ⟨108⟩
theorem Tryz.inI : (Tryz.prog.info? 3).map (fun i => (i.zero, i.size, i.bytes)) = some (some (.int .i64 0), 1, 8) := by kernel_rfl
theorem Tryz.inB : (Tryz.prog.info? 4).map (fun i => (i.zero, i.size, i.bytes)) = some (some (.bool false), 1, 1) := by kernel_rfl
theorem one_i64 {a : Int} (h : I64 a) : ∀ x ∈ [a], I64 x := by intro x hx; rw [List.mem_singleton.1 hx]; exact h
theorem two_i64 {a b : Int} (h : I64 a) (h2 : I64 b) : ∀ x ∈ [a, b], I64 x := by
 intro x hx
 rcases List.mem_cons.1 hx with hx | hx
 ·rw [hx]; exact h
 ·rw [List.mem_singleton.1 hx]; exact h2
section
variable {P : Program} {n : NF} {o : Oper} {env : Env} {B : Nat} {w0 : World} {H H' : List Res}
def opAt (l : List MOp) (k : Nat) : MOp := l.getD k default
theorem SF.op {A : Option Addr} {xs : List MOp} {m c k : Nat} (hs : SF B w0 H A m c xs) (hk : k < m) : ∀ w, Cw B w0 H w → ∀ j v, ([.int .i64 (opAt xs k).c, .int .i64 (opAt xs k).a] : List Value)[j]? = some v → w.cell? ⟨ab A, ao A + k * 2 + j, none⟩ = some v :=
 fun w hw _ _ hj => SF.cell hs hk default hj w hw
theorem SF.opc {A : Option Addr} {xs : List MOp} {m c k : Nat} (hs : SF B w0 H A m c xs) (hk : k < m) : ∀ w, Cw B w0 H w → w.cell? ⟨ab A, ao A + k * 2 + 0, none⟩ = some (.int .i64 (opAt xs k).c) := fun w hw => SF.op hs hk w hw 0 _ rfl
theorem SF.opa {A : Option Addr} {xs : List MOp} {m c k : Nat} (hs : SF B w0 H A m c xs) (hk : k < m) : ∀ w, Cw B w0 H w → w.cell? ⟨ab A, ao A + k * 2 + 1, none⟩ = some (.int .i64 (opAt xs k).a) := fun w hw => SF.op hs hk w hw 1 _ rfl
theorem SF.bool {A : Option Addr} {xs : List Bool} {m c k : Nat} (hs : SF B w0 H A m c xs) (hk : k < m) : ∀ w, Cw B w0 H w → w.cell? ⟨ab A, ao A + k * 1, none⟩ = some (.bool (xs.getD k false)) := fun w hw => SF.cell hs hk false (j := 0) rfl w hw
theorem op_i64 {w : World} {B : Nat} {A : Option Addr} {xs : List MOp} {m c k : Nat} (h : SlB w B (.slice A m c) xs) (hk : k < m) : I64 (opAt xs k).c ∧ I64 (opAt xs k).a := by
 obtain ⟨cs, hr, _⟩ := h.elr hk default
 exact hr.2
end
def isFar (n : Nat) (o : MOp) : Bool := (decide (o.c = 10) || decide (o.c = 11)) && (decide (o.a < 0) || decide ((n : Int) ≤ o.a))
def flowE (l : List MOp) : Int := if codeErr l = 0 then (if l.length = 0 then 5 else if l.any (isFar l.length) then 3 else 0) else codeErr l
def goesOn (o : MOp) (pc to_ : Int) : Bool := if o.c = 13 then false else if o.c = 10 then decide (to_ = o.a) else if o.c = 11 then decide (to_ = pc + 1) || decide (to_ = o.a) else decide (to_ = pc + 1)
def afterL (o : MOp) (pc : Int) : List Int := if o.c = 13 then [] else if o.c = 10 then [o.a] else if o.c = 11 then (if pc + 1 = o.a then [pc + 1] else if o.a < pc + 1 then [o.a, pc + 1] else [pc + 1, o.a]) else [pc + 1]
def upto (n : Nat) : List Int := (List.range n).map fun i : Nat => (i : Int)
def nextL (l : List MOp) (pc : Nat) : List Int := (upto (l.length + 1)).filter (goesOn (opAt l pc) pc)
def backL (l : List MOp) (to_ : Int) : List Int := (upto l.length).filter fun i => goesOn (opAt l i.toNat) i to_
def nextE (l : List MOp) (pc : Int) : Int := if flowE l = 0 then (if pc < 0 ∨ (l.length : Int) ≤ pc then 3 else 0) else flowE l
def backE (l : List MOp) (pc : Int) : Int := if flowE l = 0 then (if pc < 0 ∨ (l.length : Int) < pc then 3 else 0) else flowE l
def nextR (l : List MOp) (pc : Int) : List Int := if nextE l pc = 0 then nextL l pc.toNat else []
def backR (l : List MOp) (pc : Int) : List Int := if backE l pc = 0 then backL l pc else []
inductive RchF (l : List MOp) (p : Nat) : Nat → Prop where
 | refl : RchF l p p
 | step {q r : Nat} : RchF l p q → q < l.length → goesOn (opAt l q) q r = true → RchF l p r
theorem RchF.trans {l : List MOp} {p q r : Nat} (h1 : RchF l p q) (h2 : RchF l q r) : RchF l p r := by
 induction h2 with
 | refl => exact h1
 | step _ h3 h4 ih => exact .step ih h3 h4
abbrev Rch (l : List MOp) (q : Nat) : Prop := RchF l 0 q
noncomputable def rchB (l : List MOp) (i : Int) : Bool := @decide (Rch l i.toNat) (Classical.propDecidable _)
noncomputable def reachL (l : List MOp) : List Int := (upto (l.length + 1)).filter (rchB l)
noncomputable def reachR (l : List MOp) : List Int := if flowE l = 0 then reachL l else []
theorem upto_snoc (n : Nat) : upto (n + 1) = upto n ++ [(n : Int)] := by simp [upto, List.range_succ]
theorem upto_len (n : Nat) : (upto n).length = n := by simp [upto]
theorem filter_snoc (p : Int → Bool) (n : Nat) : (upto (n + 1)).filter p = (upto n).filter p ++ (if p n then [(n : Int)] else []) := by
 rw [upto_snoc, List.filter_append]
 congr 1
 by_cases h : p n = true <;> simp [h]
theorem filter_yes {p : Int → Bool} {n : Nat} (h : p n = true) : (upto (n + 1)).filter p = (upto n).filter p ++ [(n : Int)] := by rw [filter_snoc, if_pos h]
theorem filter_no {p : Int → Bool} {n : Nat} (h : ¬ p n = true) : (upto (n + 1)).filter p = (upto n).filter p := by rw [filter_snoc, if_neg h, List.append_nil]
theorem filter_len (p : Int → Bool) (n : Nat) : ((upto n).filter p).length ≤ n := by
 have := List.length_filter_le p (upto n)
 rw [upto_len] at this
 exact this
theorem rising_eq : ∀ {xs ys : List Int}, xs.Pairwise (· < ·) → ys.Pairwise (· < ·) → (∀ a, a ∈ xs ↔ a ∈ ys) → xs = ys
 | [], [], _, _, _ => rfl
 | [], y :: ys, _, _, h => by have := (h y).2 (by simp); simp at this
 | x :: xs, [], _, _, h => by have := (h x).1 (by simp); simp at this
 | x :: xs, y :: ys, hx, hy, h => by
  rw [List.pairwise_cons] at hx hy
  have e : x = y := by
   have h1 := (h x).1 (by simp)
   have h2 := (h y).2 (by simp)
   rw [List.mem_cons] at h1 h2
   rcases h1 with h1 | h1
   ·exact h1
   ·rcases h2 with h2 | h2
    ·exact h2.symm
    ·have a1 := hx.1 y h2
     have a2 := hy.1 x h1
     omega
  subst e
  congr 1
  refine rising_eq hx.2 hy.2 fun a => ?_
  have h1 := h a
  rw [List.mem_cons, List.mem_cons] at h1
  constructor
  ·intro ha
   rcases h1.1 (.inr ha) with e | h2
   ·have := hx.1 a ha; omega
   ·exact h2
  ·intro ha
   rcases h1.2 (.inr ha) with e | h2
   ·have := hy.1 a ha; omega
   ·exact h2
theorem after_mem (o : MOp) (pc a : Int) : a ∈ afterL o pc ↔ goesOn o pc a = true := by
 unfold afterL goesOn
 split
 ·simp
 ·split
  ·simp
  ·split
   ·split
    ·rename_i h; simp; omega
    ·split
     ·simp; omega
     ·simp
   ·simp
theorem after_sorted (o : MOp) (pc : Int) : (afterL o pc).Pairwise (· < ·) := by
 unfold afterL
 split
 ·simp
 ·split
  ·simp
  ·split
   ·split
    ·simp
    ·split
     ·simp; omega
     ·simp; omega
   ·simp
theorem opAt_mem {l : List MOp} {k : Nat} (h : k < l.length) : opAt l k ∈ l := by
 unfold opAt
 rw [List.getD_eq_getElem?_getD, List.getElem?_eq_getElem h]
 exact List.getElem_mem h
theorem any_take_snoc {α : Type} {p : α → Bool} {l : List α} {k : Nat} (d : α) (hk : k < l.length) : (l.take (k + 1)).any p = ((l.take k).any p || p (l.getD k d)) := by
 rw [List.take_add_one, List.getElem?_eq_getElem hk, List.getD_eq_getElem?_getD, List.getElem?_eq_getElem hk, List.any_append]
 simp
theorem take_eq_w {xs ys : List Int} {k : Nat} (h : xs.take k = ys.take k) (hx : k < xs.length) (hy : k < ys.length) (he : xs.getD k 0 = ys.getD k 0) : xs.take (k + 1) = ys.take (k + 1) := by
 rw [List.take_succ_eq_append_getElem hx, List.take_succ_eq_append_getElem hy, h]
 rw [List.getD_eq_getElem?_getD, List.getElem?_eq_getElem hx, List.getD_eq_getElem?_getD, List.getElem?_eq_getElem hy] at he
 simp only [Option.getD_some] at he
 rw [he]
theorem sameInts_w (A1 A2 : Option Addr) (c1 c2 : Nat) (xs ys : List Int) (w : World) (h1 : Sl w (.slice A1 xs.length c1) xs) (h2 : Sl w (.slice A2 ys.length c2) ys) : Calls Tryz.prog 51 #[.slice A1 xs.length c1, .slice A2 ys.length c2] w fun e w' => e = .returned (.bool (decide (xs = ys))) ∧ Below w.heap.size w w' := by
 have b1 := len_bd h1
 refine enter Tryz.func51 rfl Tryz.ntmps51 rfl ?_
 refine cw_seq ?_
 refine cw_region ?_
 refine rw_run tab_ok 1 [(0, _), (1, _)] rfl ⟨rfl, rfl, trivial⟩ ?_
 refine rw_end ?_
 refine cw_seq ?_
 refine cw_seq ?_
 refine cw_region ?_
 refine rw_run tab_ok 1 [(0, _), (1, _), (6, _)] rfl ⟨rfl, rfl, rfl, trivial⟩ ?_
 refine rw_s (qs_len Tryz.underlying27 rfl rfl) rfl rfl ?_
 refine rw_run tab_ok 1 [(0, _), (1, _), (7, _), (8, _)] rfl ⟨rfl, rfl, rfl, rfl, trivial⟩ ?_
 refine rw_s (qs_len Tryz.underlying27 rfl rfl) rfl rfl ?_
 refine rw_run tab_ok 1 [(0, _), (1, _), (10, _)] rfl ⟨rfl, rfl, rfl, trivial⟩ ?_
 refine rw_end ?_
 refine cw_condN rfl (fun h => ?_) (fun h => ?_)
 ·refine cw_seq ?_
  refine cw_region ?_
  refine rw_run tab_ok 1 [(4, _)] rfl ⟨rfl, trivial⟩ ?_
  refine rw_end ?_
  refine cw_ret (xw_thenr ?_)
  refine xw_ret1 Tryz.results51 (rv_tmp rfl) ?_
  intro w hw
  exact ⟨ret_bool (by simp; intro e; exact h (by simp [e])), hw.below⟩
 ·refine cw_skip (xw_then ?_)
  refine cw_seq ?_
  refine cw_seq ?_
  refine cw_region ?_
  refine rw_run tab_ok 1 [(0, _), (1, _), (5, _)] rfl ⟨rfl, rfl, rfl, trivial⟩ ?_
  refine rw_end ?_
  refine cw_block (cw_loop (fun k : Nat => k ≤ xs.length ∧ xs.take k = ys.take k) (fun k => xs.length - k) (fun k => [(0, .slice A1 xs.length c1), (1, .slice A2 ys.length c2), (5, .int .i64 (k : Int))]) (fun _ => []) 0 (by simp) ⟨rfl, rfl, rfl, trivial⟩ me ?_)
  rintro k ⟨hk, ht⟩
  try dsimp only
  refine cw_seq ?_
  refine cw_seq ?_
  refine cw_region ?_
  refine rw_run tab_ok 2 [(0, _), (1, _), (5, _), (11, _), (12, _)] rfl ⟨rfl, rfl, rfl, rfl, rfl, trivial⟩ ?_
  refine rw_s (qs_len Tryz.underlying27 rfl rfl) rfl rfl ?_
  refine rw_run tab_ok 1 [(0, _), (1, _), (5, _), (14, _)] rfl ⟨rfl, rfl, rfl, rfl, trivial⟩ ?_
  refine rw_end ?_
  refine cw_condD rfl (fun h3 => ?_) (fun h3 => ?_)
  ·refine cw_skip (xw_then ?_)
   refine cw_seq ?_
   refine cw_block ?_
   refine cw_seq ?_
   refine cw_draw (.still 0 (.still 1 (.still 2 (.still 3 (.still 4 (.still 5 (.still 6 (.still 7 (.still 8 .done))))))))) [] rfl (by kernel_rfl) (by kernel_rfl) ?_
   refine ro_run tab_ok ha 2 [(0, _), (1, _), (5, _), (17, _), (18, _)] rfl ⟨rfl, rfl, rfl, rfl, rfl, trivial⟩ ?_
   refine ro_s2 rfl (qs_idx Tryz.underlying27 Tryz.sizeOf3 (.ro h1) (by omega) rfl rfl rfl) rfl rfl ha ?_
   refine ro_s2 rfl (qs_ld (SF.int (.ro h1) (by omega)) rfl rfl Tryz.isAgg3) rfl rfl ha ?_
   refine ro_run tab_ok ha 2 [(0, _), (1, _), (5, _), (20, _), (21, _), (22, _)] rfl ⟨rfl, rfl, rfl, rfl, rfl, rfl, trivial⟩ ?_
   refine ro_s2 rfl (qs_idx Tryz.underlying27 Tryz.sizeOf3 (.ro h2) (by omega) rfl rfl rfl) rfl rfl ha ?_
   refine ro_s2 rfl (qs_ld (SF.int (.ro h2) (by omega)) rfl rfl Tryz.isAgg3) rfl rfl ha ?_
   refine ro_run tab_ok ha 1 [(0, _), (1, _), (5, _), (25, _)] rfl ⟨rfl, rfl, rfl, rfl, trivial⟩ ?_
   refine ro_end ?_
   refine cw_condN rfl (fun h4 => ?_) (fun h4 => ?_)
   ·refine cw_seq ?_
    refine cw_region ?_
    refine rw_run tab_ok 1 [(4, _)] rfl ⟨rfl, trivial⟩ ?_
    refine rw_end ?_
    refine cw_ret (xw_blkr (xw_thenr (xw_thenr (xw_blkr (xw_thenr ?_)))))
    refine xw_ret1 Tryz.results51 (rv_tmp rfl) ?_
    intro w hw
    exact ⟨ret_bool (by simp; intro e; exact h4 (by simp [e])), hw.below⟩
   ·refine cw_skip (xw_blkn (xw_then ?_))
    refine cw_region ?_
    refine rw_run tab_ok 1 [(0, _), (1, _), (15, _)] rfl ⟨rfl, rfl, rfl, trivial⟩ ?_
    refine rw_s (qs_add rfl rfl rfl (by omega)) rfl rfl ?_
    refine rw_run tab_ok 1 [(0, _), (1, _), (5, _)] rfl ⟨rfl, rfl, rfl, trivial⟩ ?_
    refine rw_round (k + 1) (⟨by omega, take_eq_w ht (by omega) (by omega) h4⟩) (by show _ - _ < _ - _; omega) ⟨rfl, rfl, rfl, trivial⟩ me
  ·refine cw_exit (xw_thenx (xw_thenx (xw_blk (xw_then ?_))))
   refine cw_seq ?_
   refine cw_region ?_
   refine rw_run tab_ok 1 [(4, _)] rfl ⟨rfl, trivial⟩ ?_
   refine rw_end ?_
   refine cw_ret ?_
   refine xw_ret1 Tryz.results51 (rv_tmp rfl) ?_
   intro w hw
   exact ⟨ret_bool (by rw [List.take_of_length_le (by omega), List.take_of_length_le (by omega)] at ht; simp [ht]), hw.below⟩
end Go.Proofs.YtpacloheigifkaaGreat
-- Fl2
/- Flow: ready, where an op goes on. -/
namespace Go.Proofs.YtpacloheigifkaaGreat
open Go.RowKit
set_option maxRecDepth 100000 in
theorem indexfOp (A : Option Addr) (c : Nat) (l : List MOp) (f : FuncId) (cap : Array Value) (p : MOp → Bool) (w : World) (hs : Sl w (.slice A l.length c) l) (hcall : ∀ a w, (callFunc f a).run Tryz.prog w = .ok (.enter f a) w)
  (hf : ∀ w1, Below w.heap.size w w1 → ∀ k, k < l.length → Calls Tryz.prog f ([Value.agg #[.int .i64 (opAt l k).c, .int .i64 (opAt l k).a]] ++ cap.toList).toArray w1 fun e w' => e = .returned (.bool (p (opAt l k))) ∧ Below w1.heap.size w1 w') :
  Calls Tryz.prog 204 #[.slice A l.length c, .func (.func f) #[] cap] w fun e w' => ∃ r : Int, decide (0 ≤ r) = l.any p ∧ e = .returned (.int .i64 r) ∧ Cw w.heap.size w [] w' := by
 have b1 := len_bd hs
 refine enter Tryz.func204 rfl Tryz.ntmps204 rfl ?_
 refine cw_seq ?_
 refine cw_region ?_
 refine rw_run tab_ok 1 [(0, _), (1, _)] rfl ⟨rfl, rfl, trivial⟩ ?_
 refine rw_end ?_
 refine cw_seq ?_
 refine cw_seq ?_
 refine cw_region ?_
 refine rw_run tab_ok 1 [(0, _), (1, _), (6, _)] rfl ⟨rfl, rfl, rfl, trivial⟩ ?_
 refine rw_s (qs_len Tryz.underlying108 rfl rfl) rfl rfl ?_
 refine rw_run tab_ok 1 [(0, _), (1, _), (7, _), (8, _)] rfl ⟨rfl, rfl, rfl, rfl, trivial⟩ ?_
 refine rw_end ?_
 refine cw_block (cw_loop (fun k : Nat => k ≤ l.length ∧ (l.take k).any p = false) (fun k => l.length - k) (fun k => [(0, .slice A l.length c), (1, .func (.func f) #[] cap), (7, .int .i64 (l.length : Int)), (8, .int .i64 (k : Int))]) (fun _ => []) 0 (⟨Nat.zero_le _, rfl⟩) ⟨rfl, rfl, rfl, rfl, trivial⟩ me ?_)
 rintro k hk'
 obtain ⟨hk, hno⟩ : k ≤ l.length ∧ (l.take k).any p = false := hk'
 refine cw_seq ?_
 refine cw_region ?_
 refine rw_run tab_ok 1 [(0, _), (1, _), (7, _), (8, _), (9, _)] rfl ⟨rfl, rfl, rfl, rfl, rfl, trivial⟩ ?_
 refine rw_end ?_
 refine cw_seq ?_
 refine cw_condD rfl (fun hlt => ?_) (fun hlt => ?_)
 ·have hkl : k < l.length := by omega
  have hsn := any_take_snoc (p := p) default hkl
  refine cw_skip (xw_then ?_)
  refine cw_seq ?_
  refine cw_block ?_
  refine cw_seq ?_
  refine cw_region ?_
  refine rw_run tab_ok 2 [(0, _), (1, _), (5, _), (7, _), (8, _)] rfl ⟨rfl, rfl, rfl, rfl, rfl, trivial⟩ ?_
  refine rw_end ?_
  refine cw_seq ?_
  refine cw_region ?_
  refine rw_run tab_ok 3 [(0, _), (1, _), (5, _), (7, _), (8, _), (11, _), (12, _), (13, _)] rfl ⟨rfl, rfl, rfl, rfl, rfl, rfl, rfl, rfl, trivial⟩ ?_
  refine rw_s (qs_idx Tryz.underlying108 Tryz.sizeOf49 (.ro hs) (by omega) rfl rfl rfl) rfl rfl ?_
  refine rw_s (qs_ldA (cs := [_, _]) (SF.op (.ro hs) (by omega)) rfl rfl Tryz.isAgg49 Tryz.sizeOf49) rfl rfl ?_
  refine rw_op (ot_c0K rfl rfl rfl hcall (fun w hw => hf w hw.below k hkl)) rfl rfl (fun _ _ => ?_)
  refine rw_end ?_
  refine cw_cond rfl (fun hp => ?_) (fun hp => ?_)
  ·have hp : p (opAt l k) = true := hp
   refine cw_seq ?_
   refine cw_region ?_
   refine rw_run tab_ok 2 [(4, _)] rfl ⟨rfl, trivial⟩ ?_
   refine rw_end ?_
   refine cw_ret (xw_blkr (xw_thenr (xw_thenr (xw_blkr (xw_thenr ?_)))))
   refine xw_ret1 Tryz.results204 (rv_tmp rfl) ?_
   intro w hw
   refine ⟨(k : Int), ?_, rfl, hw⟩
   have h2 : l.any p = true := List.any_eq_true.2 ⟨_, opAt_mem hkl, hp⟩
   rw [h2]
   exact decide_eq_true (by omega)
  ·have hp : p (opAt l k) = false := hp
   refine cw_skip (xw_blkn (xw_then ?_))
   refine cw_region ?_
   refine rw_s (qs_add rfl rfl rfl (by omega)) rfl rfl ?_
   refine rw_run tab_ok 1 [(0, _), (1, _), (7, _), (8, _)] rfl ⟨rfl, rfl, rfl, rfl, trivial⟩ ?_
   refine rw_round (k + 1) ((by refine ⟨by omega, ?_⟩; rw [hsn, hno]; exact hp)) (by show _ - _ < _ - _; omega) ⟨rfl, rfl, rfl, rfl, trivial⟩ me
 ·obtain rfl : k = l.length := by omega
  refine cw_exit (xw_thenx (xw_thenx (xw_blk (xw_then ?_))))
  refine cw_seq ?_
  refine cw_region ?_
  refine rw_run tab_ok 1 [(4, _)] rfl ⟨rfl, trivial⟩ ?_
  refine rw_end ?_
  refine cw_ret ?_
  refine xw_ret1 Tryz.results204 (rv_tmp rfl) ?_
  intro w hw
  refine ⟨-1, ?_, rfl, hw⟩
  rw [List.take_length] at hno
  rw [hno]
  rfl
set_option maxRecDepth 100000 in
theorem containsfOp (A : Option Addr) (c : Nat) (l : List MOp) (f : FuncId) (cap : Array Value) (p : MOp → Bool) (w : World) (hs : Sl w (.slice A l.length c) l) (hcall : ∀ a w, (callFunc f a).run Tryz.prog w = .ok (.enter f a) w)
  (hf : ∀ w1, Below w.heap.size w w1 → ∀ k, k < l.length → Calls Tryz.prog f ([Value.agg #[.int .i64 (opAt l k).c, .int .i64 (opAt l k).a]] ++ cap.toList).toArray w1 fun e w' => e = .returned (.bool (p (opAt l k))) ∧ Below w1.heap.size w1 w') :
  Calls Tryz.prog 162 #[.slice A l.length c, .func (.func f) #[] cap] w fun e w' => e = .returned (.bool (l.any p)) ∧ Below w.heap.size w w' := by
 refine enter Tryz.func162 rfl Tryz.ntmps162 rfl ?_
 refine cw_seq ?_
 refine cw_region ?_
 refine rw_run tab_ok 1 [(0, _), (1, _)] rfl ⟨rfl, rfl, trivial⟩ ?_
 refine rw_end ?_
 refine cw_seq ?_
 refine cw_region ?_
 refine rw_run tab_ok 2 [(5, _), (6, _)] rfl ⟨rfl, rfl, trivial⟩ ?_
 refine rw_op (ot_c rfl rfl rfl Tryz.call204 (fun w hw => indexfOp A c l f cap p w (hw.ro hs) hcall (fun w1 h1 => hf w1 (hw.below.trans (h1.mono hw.le))))) rfl rfl (fun r hr => ?_)
 refine rw_run tab_ok 2 [(4, _)] rfl ⟨rfl, trivial⟩ ?_
 refine rw_end ?_
 refine cw_ret ?_
 refine xw_ret1 Tryz.results162 (rv_tmp rfl) ?_
 intro w hw
 exact ⟨ret_bool hr, hw.below⟩
def flE (l : List MOp) : Int := if codeErr l = 0 then (if l.length = 0 then 5 else 0) else codeErr l
def flAt (l : List MOp) (i : Nat) : Int := if flE l = 0 then (if (l.take i).any (isFar l.length) then 3 else 0) else flE l
end Go.Proofs.YtpacloheigifkaaGreat
-- Dec
/- Bytes of code are read: what comes is the call's own. -/
namespace Go.Proofs.YtpacloheigifkaaGreat
open Go.RowKit
theorem wrapI_i64 (n : Int) : I64 (wrapI n) := by unfold wrapI I64; omega
theorem firstOp_i64 (b : UInt8) (r : List UInt8) : I64 (firstOp b r).1.c ∧ I64 (firstOp b r).1.a := by
 have hb := b.toNat_lt
 have h0 : I64 (b.toNat : Int) := by unfold I64; omega
 have h1 : I64 0 := by unfold I64; omega
 unfold firstOp
 split
 ·exact ⟨h0, h1⟩
 split
 ·exact ⟨h0, h1⟩
 ·refine ⟨h0, ?_⟩
  dsimp only
  split
  ·exact wrapI_i64 _
  ·exact h1
theorem decodeGo_i64 (k : Nat) : ∀ (r : List UInt8) (out : List MOp), (∀ o ∈ out, I64 o.c ∧ I64 o.a) → out.length ≤ 40 → (∀ o ∈ (decodeGo k r out).1, I64 o.c ∧ I64 o.a) ∧ (decodeGo k r out).1.length ≤ 40 := by
 induction k with
 | zero => intro r out h h40; cases r <;> simp [decodeGo] <;> first | exact ⟨h, h40⟩ | skip
 | succ k ih =>
  intro r out h h40
  cases r with
  | nil => simpa [decodeGo] using ⟨h, h40⟩
  | cons b r =>
   simp only [decodeGo]
   split
   ·simp
   split
   ·simp
   ·rename_i h41
    refine ih _ _ (fun o ho => ?_) (by simp at h41 ⊢; omega)
    rcases List.mem_append.1 ho with ho | ho
    ·exact h o ho
    ·simp at ho; subst ho; exact firstOp_i64 b r
theorem decodeOps_i64 (l : List UInt8) : (∀ o ∈ (decodeOps l).1, I64 o.c ∧ I64 o.a) ∧ (decodeOps l).1.length ≤ 40 := decodeGo_i64 _ _ _ (by simp) (by simp)
end Go.Proofs.YtpacloheigifkaaGreat
-- Lp
/- The code of loop. -/
namespace Go.Proofs.YtpacloheigifkaaGreat
open Go.RowKit
def loopL : List MOp := [⟨1, 3⟩, ⟨3, 0⟩, ⟨20, 0⟩, ⟨1, 1⟩, ⟨6, 0⟩, ⟨3, 0⟩, ⟨11, 8⟩, ⟨10, 1⟩, ⟨2, 0⟩, ⟨13, 0⟩]
theorem i64s_of (l : List MOp) (h : (l.all fun o => decide (I64 o.c ∧ I64 o.a)) = true) : ∀ o ∈ l, FOw.wf o := fun o ho => by
 have := of_decide_eq_true (List.all_eq_true.1 h o ho)
 exact this
set_option maxRecDepth 100000 in
theorem loop_any (w : World) : Calls Tryz.prog 118 #[] w fun e w' => ∃ g : Nat, True ∧ e = .returned (.slice (some ⟨g, 0, none⟩) 10 10) ∧ Cw w.heap.size w [ROw (.slice (some ⟨g, 0, none⟩) 10 10) loopL] w' := by
 refine enter Tryz.func118 rfl Tryz.ntmps118 rfl ?_
 refine cw_seq ?_
 refine cw_region ?_
 refine rw_run tab_ok 1 [] rfl trivial ?_
 refine rw_end ?_
 refine cw_seq ?_
 refine cw_region ?_
 refine rw_s (qs_bst (cs := [_, _]) plT49 Tryz.zeroValue49 rfl rfl (by rfl)) rfl rfl ?_
 refine rw_s (qs_bst (cs := [_, _]) plT49 Tryz.zeroValue49 rfl rfl (by rfl)) rfl rfl ?_
 refine rw_s (qs_bst (cs := [_, _]) plT49 Tryz.zeroValue49 rfl rfl (by rfl)) rfl rfl ?_
 refine rw_s (qs_bst (cs := [_, _]) plT49 Tryz.zeroValue49 rfl rfl (by rfl)) rfl rfl ?_
 refine rw_s (qs_bst (cs := [_, _]) plT49 Tryz.zeroValue49 rfl rfl (by rfl)) rfl rfl ?_
 refine rw_s (qs_bst (cs := [_, _]) plT49 Tryz.zeroValue49 rfl rfl (by rfl)) rfl rfl ?_
 refine rw_s (qs_bst (cs := [_, _]) plT49 Tryz.zeroValue49 rfl rfl (by rfl)) rfl rfl ?_
 refine rw_s (qs_bst (cs := [_, _]) plT49 Tryz.zeroValue49 rfl rfl (by rfl)) rfl rfl ?_
 refine rw_s (qs_bst (cs := [_, _]) plT49 Tryz.zeroValue49 rfl rfl (by rfl)) rfl rfl ?_
 refine rw_s (qs_bst (cs := [_, _]) plT49 Tryz.zeroValue49 rfl rfl (by rfl)) rfl rfl ?_
 refine rw_op (ot_bsl (cs := [_, _, _, _, _, _, _, _, _, _, _, _, _, _, _, _, _, _, _, _]) Tryz.underlying108 Tryz.sizeOf49 Tryz.zeroValue49 rfl rfl rfl rfl rfl) rfl rfl (fun g1 _ => ?_)
 refine rw_run tab_ok 1 [(0, _)] rfl ⟨rfl, trivial⟩ ?_
 refine rw_end ?_
 refine cw_mem (fun w h => row_ow (α := MOp) (m := 10) loopL rfl (i64s_of _ (by decide)) rfl (by decide) h) ?_
 refine cw_ret ?_
 refine xw_ret1 Tryz.results118 (rv_tmp rfl) ?_
 intro w hw
 exact ⟨g1, trivial, rfl, hw⟩
end Go.Proofs.YtpacloheigifkaaGreat
