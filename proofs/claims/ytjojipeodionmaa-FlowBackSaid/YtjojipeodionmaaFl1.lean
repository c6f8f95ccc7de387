/- Flow: what its functions answer, in plain words; ops as elements for the walker. -/
import Derived.Test.YtjojipeodionmaaTab
import Derived.Test.YtjojipeodionmaaW7
import Derived.Test.YtjojipeodionmaaOp3
import Derived.Test.YtjojipeodionmaaRop3
namespace Go.Proofs.Ytjojipeodionmaa
open Go.RowKit

theorem retb {a b : Bool} (h : a = b) : Ending.returned (.bool a) = .returned (.bool b) := by rw [h]
theorem reti {a b : Int} (h : a = b) : Ending.returned (.int .i64 a) = .returned (.int .i64 b) := by rw [h]
instance : Ow MOp where
  ty := 23
  own _ F cs o := (cs = [.int .i64 o.c, .int .i64 o.a] ∧ I64 o.c ∧ I64 o.a) ∧ ∀ b, ¬ F b
  rd_ h := h.1
  lt h hb := (h.2 _ hb).elim
  frame h _ := h
  cong h hf := ⟨h.1, fun b hb => h.2 b ((hf b).2 hb)⟩
instance : FOw MOp where
  enc o := [.int .i64 o.c, .int .i64 o.a]
  wf o := I64 o.c ∧ I64 o.a
  rep_iff := Iff.rfl
  own_iff := Iff.rfl
instance : SlTy MOp := ⟨24⟩
theorem Try.inI : (Try.prog.info? 3).map (fun i => (i.zero, i.size, i.bytes)) = some (some (.int .i64 0), 1, 8) := by kernel_rfl
theorem Try.inB : (Try.prog.info? 4).map (fun i => (i.zero, i.size, i.bytes)) = some (some (.bool false), 1, 1) := by kernel_rfl
theorem Try.inOp : (Try.prog.info? 23).map (fun i => (i.zero, i.size, i.bytes)) = some (some (.agg #[.int .i64 0, .int .i64 0]), 2, 16) := by kernel_rfl
theorem MSub.d {R : Res} {H T : List Res} (h : MSub H T) : MSub (R :: H) T := by
  obtain ⟨S, h⟩ := h
  exact ⟨R :: S, (List.Perm.cons R h).trans List.perm_middle.symm⟩
theorem MSub.r {H : List Res} : MSub H H := ⟨[], by simp⟩
section
variable {P : Program} {n : Nat} {o : Oper} {env : Env} {B : Nat} {w0 : World} {H H' : List Res}
/-- A bool is written. -/
theorem ot_stB {i j : Operand} {t : TypeId} {A : Option Addr} {m c k : Nat} {z : Bool} {xs xs' : List Bool} (hxs : xs' = xs.set k z) (hp : Foc H (ROw (.slice A m c) xs) H') (hk : k < m) (hz : ∀ w, (sizeOf t).run P w = .ok 1 w)
    (hop : o.op = .store t i j) (hi : opv env i = some (.pointer (some ⟨ab A, ao A + k * 1, none⟩))) (hj : opv env j = some (.bool z)) : OT P n B w0 o env H (γ := Unit) (fun _ => True) (fun _ => undef) (fun _ => ROw (.slice A m c) xs' :: H') :=
  ot_stE0 (us := [.bool z]) z false hxs hp hk trivial hz hop hi hj rfl rfl rfl rfl rfl
def opAt (l : List MOp) (k : Nat) : MOp := l.getD k default
theorem SF.op {A : Option Addr} {xs : List MOp} {m c k : Nat} (hs : SF B w0 H A m c xs) (hk : k < m) : ∀ w, Cw B w0 H w → ∀ j v, ([.int .i64 (opAt xs k).c, .int .i64 (opAt xs k).a] : List Value)[j]? = some v → w.cell? ⟨ab A, ao A + k * 2 + j, none⟩ = some v :=
  fun w hw _ _ hj => SF.cell hs hk default hj w hw
theorem SF.opc {A : Option Addr} {xs : List MOp} {m c k : Nat} (hs : SF B w0 H A m c xs) (hk : k < m) : ∀ w, Cw B w0 H w → w.cell? ⟨ab A, ao A + k * 2 + 0, none⟩ = some (.int .i64 (opAt xs k).c) := fun w hw => SF.op hs hk w hw 0 _ rfl
theorem SF.opa {A : Option Addr} {xs : List MOp} {m c k : Nat} (hs : SF B w0 H A m c xs) (hk : k < m) : ∀ w, Cw B w0 H w → w.cell? ⟨ab A, ao A + k * 2 + 1, none⟩ = some (.int .i64 (opAt xs k).a) := fun w hw => SF.op hs hk w hw 1 _ rfl
theorem SF.bool {A : Option Addr} {xs : List Bool} {m c k : Nat} (hs : SF B w0 H A m c xs) (hk : k < m) : ∀ w, Cw B w0 H w → w.cell? ⟨ab A, ao A + k * 1, none⟩ = some (.bool (xs.getD k false)) := fun w hw => SF.cell hs hk false (j := 0) rfl w hw
theorem op_i64 {w : World} {B : Nat} {A : Option Addr} {xs : List MOp} {m c k : Nat} (h : SlB w B (.slice A m c) xs) (hk : k < m) : I64 (opAt xs k).c ∧ I64 (opAt xs k).a := by
  obtain ⟨cs, hr, _⟩ := h.elr hk default
  exact hr.2
end

def isFar (n : Nat) (o : MOp) : Bool := (decide (o.c = 10) || decide (o.c = 11)) && (decide (o.a < 0) || decide ((n : Int) ≤ o.a))
def flowE (l : List MOp) : Int := if codeErr l = 0 then (if l.length = 0 then 5 else if l.any (isFar l.length) then 3 else 0) else codeErr l
def goesOn (o : MOp) (pc to_ : Int) : Bool := if o.c = 13 then false else if o.c = 10 then decide (to_ = o.a) else if o.c = 11 then decide (to_ = pc + 1) || decide (to_ = o.a) else decide (to_ = pc + 1)
def afterL (o : MOp) (pc : Int) : List Int := if o.c = 13 then [] else if o.c = 10 then [o.a] else if o.c = 11 then (if pc + 1 = o.a then [pc + 1] else if o.a < pc + 1 then [o.a, pc + 1] else [pc + 1, o.a]) else [pc + 1]
def upto (n : Nat) : List Int := (List.range n).map fun i : Nat => (i : Int)
def nextL (l : List MOp) (pc : Nat) : List Int := (upto (l.length + 1)).filter (goesOn (opAt l pc) pc)
def backL (l : List MOp) (to_ : Int) : List Int := (upto l.length).filter fun i => goesOn (opAt l i.toNat) i to_
def nextE (l : List MOp) (pc : Int) : Int := if flowE l = 0 then (if pc < 0 ∨ (l.length : Int) ≤ pc then 3 else 0) else flowE l
def backE (l : List MOp) (pc : Int) : Int := if flowE l = 0 then (if pc < 0 ∨ (l.length : Int) < pc then 3 else 0) else flowE l
def nextR (l : List MOp) (pc : Int) : List Int := if nextE l pc = 0 then nextL l pc.toNat else []
def backR (l : List MOp) (pc : Int) : List Int := if backE l pc = 0 then backL l pc else []
/-- What may be come to from p. -/
inductive RchF (l : List MOp) (p : Nat) : Nat → Prop where
  | refl : RchF l p p
  | step {q r : Nat} : RchF l p q → q < l.length → goesOn (opAt l q) q r = true → RchF l p r
theorem RchF.trans {l : List MOp} {p q r : Nat} (h1 : RchF l p q) (h2 : RchF l q r) : RchF l p r := by
  induction h2 with
  | refl => exact h1
  | step _ h3 h4 ih => exact .step ih h3 h4
abbrev Rch (l : List MOp) (q : Nat) : Prop := RchF l 0 q
noncomputable def rchB (l : List MOp) (i : Int) : Bool := @decide (Rch l i.toNat) (Classical.propDecidable _)
theorem rchB_iff {l : List MOp} {i : Int} : rchB l i = true ↔ Rch l i.toNat := by unfold rchB; exact @decide_eq_true_iff _ (Classical.propDecidable _)
noncomputable def reachL (l : List MOp) : List Int := (upto (l.length + 1)).filter (rchB l)
noncomputable def reachR (l : List MOp) : List Int := if flowE l = 0 then reachL l else []

theorem upto_snoc (n : Nat) : upto (n + 1) = upto n ++ [(n : Int)] := by simp [upto, List.range_succ]
theorem upto_mem {n : Nat} {a : Int} : a ∈ upto n ↔ 0 ≤ a ∧ a < n := by
  simp only [upto, List.mem_map, List.mem_range]
  constructor
  · rintro ⟨i, h, rfl⟩; omega
  · intro h; exact ⟨a.toNat, by omega, by omega⟩
theorem upto_sorted (n : Nat) : (upto n).Pairwise (· < ·) := by
  unfold upto
  rw [List.pairwise_map]
  exact List.pairwise_lt_range.imp (by intro a b h; omega)
theorem upto_len (n : Nat) : (upto n).length = n := by simp [upto]
theorem filter_snoc (p : Int → Bool) (n : Nat) : (upto (n + 1)).filter p = (upto n).filter p ++ (if p n then [(n : Int)] else []) := by
  rw [upto_snoc, List.filter_append]
  congr 1
  by_cases h : p n = true <;> simp [h]
theorem filter_yes {p : Int → Bool} {n : Nat} (h : p n = true) : (upto (n + 1)).filter p = (upto n).filter p ++ [(n : Int)] := by rw [filter_snoc, if_pos h]
theorem filter_no {p : Int → Bool} {n : Nat} (h : ¬ p n = true) : (upto (n + 1)).filter p = (upto n).filter p := by rw [filter_snoc, if_neg h, List.append_nil]
theorem filter_len (p : Int → Bool) (n : Nat) : ((upto n).filter p).length ≤ n := by
  have := List.length_filter_le p (upto n)
  rw [upto_len] at this
  exact this
theorem filter_i64 {p : Int → Bool} {n : Nat} (hn : n ≤ 140737488355328) : ∀ a ∈ (upto n).filter p, I64 a := by
  intro a ha
  have := upto_mem.1 (List.mem_filter.1 ha).1
  unfold I64
  omega
/-- Two rising lists of the same numbers are the same. -/
theorem rising_eq : ∀ {xs ys : List Int}, xs.Pairwise (· < ·) → ys.Pairwise (· < ·) → (∀ a, a ∈ xs ↔ a ∈ ys) → xs = ys
  | [], [], _, _, _ => rfl
  | [], y :: ys, _, _, h => by have := (h y).2 (by simp); simp at this
  | x :: xs, [], _, _, h => by have := (h x).1 (by simp); simp at this
  | x :: xs, y :: ys, hx, hy, h => by
    rw [List.pairwise_cons] at hx hy
    have e : x = y := by
      have h1 := (h x).1 (by simp)
      have h2 := (h y).2 (by simp)
      rw [List.mem_cons] at h1 h2
      rcases h1 with h1 | h1
      · exact h1
      · rcases h2 with h2 | h2
        · exact h2.symm
        · have a1 := hx.1 y h2
          have a2 := hy.1 x h1
          omega
    subst e
    congr 1
    refine rising_eq hx.2 hy.2 fun a => ?_
    have h1 := h a
    rw [List.mem_cons, List.mem_cons] at h1
    constructor
    · intro ha
      rcases h1.1 (.inr ha) with e | h2
      · have := hx.1 a ha; omega
      · exact h2
    · intro ha
      rcases h1.2 (.inr ha) with e | h2
      · have := hy.1 a ha; omega
      · exact h2
theorem after_mem (o : MOp) (pc a : Int) : a ∈ afterL o pc ↔ goesOn o pc a = true := by
  unfold afterL goesOn
  split
  · simp
  · split
    · simp
    · split
      · split
        · rename_i h; simp; omega
        · split
          · simp; omega
          · simp
      · simp
theorem after_contains (o : MOp) (pc a : Int) : (afterL o pc).contains a = goesOn o pc a := by
  rw [Bool.eq_iff_iff, List.contains_iff_mem, after_mem]
theorem after_sorted (o : MOp) (pc : Int) : (afterL o pc).Pairwise (· < ·) := by
  unfold afterL
  split
  · simp
  · split
    · simp
    · split
      · split
        · simp
        · split
          · simp; omega
          · simp; omega
      · simp
theorem after_len (o : MOp) (pc : Int) : (afterL o pc).length ≤ 2 := by
  unfold afterL
  split
  · simp
  · split
    · simp
    · split
      · split
        · simp
        · split <;> simp
      · simp
theorem flowE_zero {l : List MOp} (h : flowE l = 0) : codeErr l = 0 ∧ l.length ≠ 0 ∧ l.any (isFar l.length) = false := by
  unfold flowE at h
  split at h
  · rename_i h0
    split at h
    · cases h
    · split at h
      · cases h
      · rename_i h1 h2; exact ⟨h0, h1, by simpa using h2⟩
  · rename_i h0; exact absurd h h0
theorem codeErr_len {l : List MOp} (h : codeErr l = 0) : l.length ≤ 40 := by
  unfold codeErr at h
  split at h
  · cases h
  · omega
theorem opAt_mem {l : List MOp} {k : Nat} (h : k < l.length) : opAt l k ∈ l := by
  unfold opAt
  rw [List.getD_eq_getElem?_getD, List.getElem?_eq_getElem h]
  exact List.getElem_mem h
theorem goes_in {l : List MOp} (h : flowE l = 0) {pc : Nat} (hp : pc < l.length) {a : Int} (hg : goesOn (opAt l pc) pc a = true) : 0 ≤ a ∧ a ≤ l.length := by
  obtain ⟨h0, h1, h2⟩ := flowE_zero h
  have hm := opAt_mem hp
  have hf : isFar l.length (opAt l pc) = false := by
    rw [Bool.eq_false_iff] at h2 ⊢
    intro hb
    exact h2 (List.any_eq_true.2 ⟨_, hm, hb⟩)
  unfold isFar at hf
  unfold goesOn at hg
  split at hg
  · cases hg
  · split at hg
    · rename_i e
      simp only [e, decide_true, Bool.true_or, Bool.true_and, Bool.or_eq_false_iff, decide_eq_false_iff_not] at hf
      simp only [decide_eq_true_eq] at hg
      omega
    · split at hg
      · rename_i e
        simp only [e, decide_true, Bool.or_true, Bool.true_and, Bool.or_eq_false_iff, decide_eq_false_iff_not] at hf
        simp only [Bool.or_eq_true, decide_eq_true_eq] at hg
        omega
      · simp only [decide_eq_true_eq] at hg
        omega
theorem after_next {l : List MOp} (h : flowE l = 0) {pc : Nat} (hp : pc < l.length) : afterL (opAt l pc) pc = nextL l pc := by
  refine rising_eq (after_sorted _ _) ((upto_sorted _).filter _) fun a => ?_
  unfold nextL
  rw [after_mem, List.mem_filter, upto_mem]
  constructor
  · intro hg
    have := goes_in h hp hg
    exact ⟨by omega, hg⟩
  · exact fun hg => hg.2
theorem any_take_snoc {α : Type} {p : α → Bool} {l : List α} {k : Nat} (d : α) (hk : k < l.length) : (l.take (k + 1)).any p = ((l.take k).any p || p (l.getD k d)) := by
  rw [List.take_add_one, List.getElem?_eq_getElem hk, List.getD_eq_getElem?_getD, List.getElem?_eq_getElem hk, List.any_append]
  simp
theorem take_eq_w {xs ys : List Int} {k : Nat} (h : xs.take k = ys.take k) (hx : k < xs.length) (hy : k < ys.length) (he : xs.getD k 0 = ys.getD k 0) : xs.take (k + 1) = ys.take (k + 1) := by
  rw [List.take_succ_eq_append_getElem hx, List.take_succ_eq_append_getElem hy, h]
  rw [List.getD_eq_getElem?_getD, List.getElem?_eq_getElem hx, List.getD_eq_getElem?_getD, List.getElem?_eq_getElem hy] at he
  simp only [Option.getD_some] at he
  rw [he]
theorem sameInts_w (A1 A2 : Option Addr) (c1 c2 : Nat) (xs ys : List Int) (w : World) (h1 : Sl w (.slice A1 xs.length c1) xs) (h2 : Sl w (.slice A2 ys.length c2) ys) : Calls Try.prog 45 #[.slice A1 xs.length c1, .slice A2 ys.length c2] w fun e w' => e = .returned (.bool (decide (xs = ys))) ∧ Below w.heap.size w w' := by
  have b1 := len_bd h1
  refine enter Try.func45 rfl Try.ntmps45 rfl ?_
  refine cw_seq ?_
  refine cw_region ?_
  refine rw_run tab_ok 1 [(0, _), (1, _)] rfl ⟨rfl, rfl, trivial⟩ ?_
  refine rw_end ?_
  refine cw_seq ?_
  refine cw_seq ?_
  refine cw_region ?_
  refine rw_run tab_ok 1 [(0, _), (1, _), (6, _)] rfl ⟨rfl, rfl, rfl, trivial⟩ ?_
  refine rw_s (qs_len Try.underlying41 rfl rfl) rfl rfl ?_
  refine rw_run tab_ok 1 [(0, _), (1, _), (7, _), (8, _)] rfl ⟨rfl, rfl, rfl, rfl, trivial⟩ ?_
  refine rw_s (qs_len Try.underlying41 rfl rfl) rfl rfl ?_
  refine rw_run tab_ok 1 [(0, _), (1, _), (10, _)] rfl ⟨rfl, rfl, rfl, trivial⟩ ?_
  refine rw_end ?_
  refine cw_condN rfl (fun h => ?_) (fun h => ?_)
  · refine cw_seq ?_
    refine cw_region ?_
    refine rw_run tab_ok 1 [(4, _)] rfl ⟨rfl, trivial⟩ ?_
    refine rw_end ?_
    refine cw_ret (xw_thenr ?_)
    refine xw_ret1 Try.results45 (rv_tmp rfl) ?_
    intro w hw
    exact ⟨ret_bool (by simp; intro e; exact h (by simp [e])), hw.below⟩
  · refine cw_skip (xw_then ?_)
    refine cw_seq ?_
    refine cw_seq ?_
    refine cw_region ?_
    refine rw_run tab_ok 1 [(0, _), (1, _), (5, _)] rfl ⟨rfl, rfl, rfl, trivial⟩ ?_
    refine rw_end ?_
    refine cw_block (cw_loop (fun k : Nat => k ≤ xs.length ∧ xs.take k = ys.take k) (fun k => xs.length - k) (fun k => [(0, .slice A1 xs.length c1), (1, .slice A2 ys.length c2), (5, .int .i64 (k : Int))]) (fun _ => []) 0 (by simp) ⟨rfl, rfl, rfl, trivial⟩ (by first | exact fun _ h => h | exact fun _ h => h.msub (by repeat (first | exact .z | refine .s (by first | exact .a | exact .b | exact .c | exact .d | exact .e | exact .s .e | exact .s (.s .e) | exact .s (.s (.s .e))) ?_))) ?_)
    rintro k ⟨hk, ht⟩
    try dsimp only
    refine cw_seq ?_
    refine cw_seq ?_
    refine cw_region ?_
    refine rw_run tab_ok 2 [(0, _), (1, _), (5, _), (11, _), (12, _)] rfl ⟨rfl, rfl, rfl, rfl, rfl, trivial⟩ ?_
    refine rw_s (qs_len Try.underlying41 rfl rfl) rfl rfl ?_
    refine rw_run tab_ok 1 [(0, _), (1, _), (5, _), (14, _)] rfl ⟨rfl, rfl, rfl, rfl, trivial⟩ ?_
    refine rw_end ?_
    refine cw_condD rfl (fun h3 => ?_) (fun h3 => ?_)
    · refine cw_skip (xw_then ?_)
      refine cw_seq ?_
      refine cw_block ?_
      refine cw_seq ?_
      refine cw_draw (.still 0 (.still 1 (.still 2 (.still 3 (.still 4 (.still 5 (.still 6 (.still 7 (.still 8 .done))))))))) [] rfl (by kernel_rfl) (by kernel_rfl) ?_
      refine ro_run tab_ok (by first | exact Has.rfl | exact Has.s Has.rfl | exact Has.m (by repeat (first | exact .z | refine .s (by first | exact .a | exact .b | exact .c | exact .d | exact .e | exact .s .e | exact .s (.s .e) | exact .s (.s (.s .e))) ?_))) 2 [(0, _), (1, _), (5, _), (17, _), (18, _)] rfl ⟨rfl, rfl, rfl, rfl, rfl, trivial⟩ ?_
      refine ro_s (qs_idx Try.underlying41 Try.sizeOf3 (.ro h1) (by omega) rfl rfl rfl) rfl rfl rfl (by first | exact Has.rfl | exact Has.s Has.rfl | exact Has.m (by repeat (first | exact .z | refine .s (by first | exact .a | exact .b | exact .c | exact .d | exact .e | exact .s .e | exact .s (.s .e) | exact .s (.s (.s .e))) ?_))) ?_
      refine ro_s (qs_ld (SF.int (.ro h1) (by omega)) rfl rfl Try.isAgg3) rfl rfl rfl (by first | exact Has.rfl | exact Has.s Has.rfl | exact Has.m (by repeat (first | exact .z | refine .s (by first | exact .a | exact .b | exact .c | exact .d | exact .e | exact .s .e | exact .s (.s .e) | exact .s (.s (.s .e))) ?_))) ?_
      refine ro_run tab_ok (by first | exact Has.rfl | exact Has.s Has.rfl | exact Has.m (by repeat (first | exact .z | refine .s (by first | exact .a | exact .b | exact .c | exact .d | exact .e | exact .s .e | exact .s (.s .e) | exact .s (.s (.s .e))) ?_))) 2 [(0, _), (1, _), (5, _), (20, _), (21, _), (22, _)] rfl ⟨rfl, rfl, rfl, rfl, rfl, rfl, trivial⟩ ?_
      refine ro_s (qs_idx Try.underlying41 Try.sizeOf3 (.ro h2) (by omega) rfl rfl rfl) rfl rfl rfl (by first | exact Has.rfl | exact Has.s Has.rfl | exact Has.m (by repeat (first | exact .z | refine .s (by first | exact .a | exact .b | exact .c | exact .d | exact .e | exact .s .e | exact .s (.s .e) | exact .s (.s (.s .e))) ?_))) ?_
      refine ro_s (qs_ld (SF.int (.ro h2) (by omega)) rfl rfl Try.isAgg3) rfl rfl rfl (by first | exact Has.rfl | exact Has.s Has.rfl | exact Has.m (by repeat (first | exact .z | refine .s (by first | exact .a | exact .b | exact .c | exact .d | exact .e | exact .s .e | exact .s (.s .e) | exact .s (.s (.s .e))) ?_))) ?_
      refine ro_run tab_ok (by first | exact Has.rfl | exact Has.s Has.rfl | exact Has.m (by repeat (first | exact .z | refine .s (by first | exact .a | exact .b | exact .c | exact .d | exact .e | exact .s .e | exact .s (.s .e) | exact .s (.s (.s .e))) ?_))) 1 [(0, _), (1, _), (5, _), (25, _)] rfl ⟨rfl, rfl, rfl, rfl, trivial⟩ ?_
      refine ro_end ?_
      refine cw_condN rfl (fun h4 => ?_) (fun h4 => ?_)
      · refine cw_seq ?_
        refine cw_region ?_
        refine rw_run tab_ok 1 [(4, _)] rfl ⟨rfl, trivial⟩ ?_
        refine rw_end ?_
        refine cw_ret (xw_blkr (xw_thenr (xw_thenr (xw_blkr (xw_thenr ?_)))))
        refine xw_ret1 Try.results45 (rv_tmp rfl) ?_
        intro w hw
        exact ⟨ret_bool (by simp; intro e; exact h4 (by simp [e])), hw.below⟩
      · refine cw_skip (xw_blkn (xw_then ?_))
        refine cw_region ?_
        refine rw_run tab_ok 1 [(0, _), (1, _), (15, _)] rfl ⟨rfl, rfl, rfl, trivial⟩ ?_
        refine rw_s (qs_add rfl rfl rfl (by omega)) rfl rfl ?_
        refine rw_run tab_ok 1 [(0, _), (1, _), (5, _)] rfl ⟨rfl, rfl, rfl, trivial⟩ ?_
        refine rw_round (k + 1) (⟨by omega, take_eq_w ht (by omega) (by omega) h4⟩) (by show _ - _ < _ - _; omega) ⟨rfl, rfl, rfl, trivial⟩ (by first | exact fun _ h => h | exact fun _ h => h.msub (by repeat (first | exact .z | refine .s (by first | exact .a | exact .b | exact .c | exact .d | exact .e | exact .s .e | exact .s (.s .e) | exact .s (.s (.s .e))) ?_)))
    · refine cw_exit (xw_thenx (xw_thenx (xw_blk (xw_then ?_))))
      refine cw_seq ?_
      refine cw_region ?_
      refine rw_run tab_ok 1 [(4, _)] rfl ⟨rfl, trivial⟩ ?_
      refine rw_end ?_
      refine cw_ret ?_
      refine xw_ret1 Try.results45 (rv_tmp rfl) ?_
      intro w hw
      exact ⟨ret_bool (by rw [List.take_of_length_le (by omega), List.take_of_length_le (by omega)] at ht; simp [ht]), hw.below⟩
theorem any_take_int {l : List Int} {k : Nat} {x : Int} (hk : k < l.length) : (l.take (k + 1)).contains x = ((l.take k).contains x || decide (x = l.getD k 0)) := by
  rw [Bool.eq_iff_iff, List.take_succ_eq_append_getElem hk, List.getD_eq_getElem?_getD, List.getElem?_eq_getElem hk]
  simp only [List.contains_iff_mem, List.mem_append, List.mem_singleton, Bool.or_eq_true, decide_eq_true_eq, Option.getD_some]
set_option maxRecDepth 100000 in
theorem has_w (A : Option Addr) (c : Nat) (l : List Int) (x : Int) (w : World) (hs : Sl w (.slice A l.length c) l) : Calls Try.prog 46 #[.slice A l.length c, .int .i64 x] w fun e w' => e = .returned (.bool (l.contains x)) ∧ Below w.heap.size w w' := by
  have b1 := len_bd hs
  refine enter Try.func46 rfl Try.ntmps46 rfl ?_
  refine cw_seq ?_
  refine cw_region ?_
  refine rw_run tab_ok 1 [(0, _), (1, _)] rfl ⟨rfl, rfl, trivial⟩ ?_
  refine rw_end ?_
  refine cw_seq ?_
  refine cw_seq ?_
  refine cw_region ?_
  refine rw_run tab_ok 1 [(0, _), (1, _), (5, _)] rfl ⟨rfl, rfl, rfl, trivial⟩ ?_
  refine rw_end ?_
  refine cw_block (cw_loop (fun k : Nat => k ≤ l.length ∧ (l.take k).contains x = false) (fun k => l.length - k) (fun k => [(0, .slice A l.length c), (1, .int .i64 x), (5, .int .i64 (k : Int))]) (fun _ => []) 0 (⟨Nat.zero_le _, rfl⟩) ⟨rfl, rfl, rfl, trivial⟩ (by first | exact fun _ h => h | exact fun _ h => h.msub (by repeat (first | exact .z | refine .s (by first | exact .a | exact .b | exact .c | exact .d | exact .e | exact .s .e | exact .s (.s .e) | exact .s (.s (.s .e))) ?_))) ?_)
  rintro k hk'
  obtain ⟨hk, hno⟩ : k ≤ l.length ∧ (l.take k).contains x = false := hk'
  refine cw_seq ?_
  refine cw_seq ?_
  refine cw_region ?_
  refine rw_run tab_ok 2 [(0, _), (1, _), (5, _), (6, _), (7, _)] rfl ⟨rfl, rfl, rfl, rfl, rfl, trivial⟩ ?_
  refine rw_s (qs_len Try.underlying41 rfl rfl) rfl rfl ?_
  refine rw_run tab_ok 1 [(0, _), (1, _), (5, _), (9, _)] rfl ⟨rfl, rfl, rfl, rfl, trivial⟩ ?_
  refine rw_end ?_
  refine cw_condD rfl (fun hlt => ?_) (fun hlt => ?_)
  · have hkl : k < l.length := by omega
    have hsn := any_take_int (x := x) hkl
    refine cw_skip (xw_then ?_)
    refine cw_seq ?_
    refine cw_block ?_
    refine cw_seq ?_
    refine cw_region ?_
    refine rw_run tab_ok 2 [(0, _), (1, _), (5, _), (12, _), (13, _)] rfl ⟨rfl, rfl, rfl, rfl, rfl, trivial⟩ ?_
    refine rw_s (qs_idx Try.underlying41 Try.sizeOf3 (.ro hs) (by omega) rfl rfl rfl) rfl rfl ?_
    refine rw_s (qs_ld (SF.int (.ro hs) (by omega)) rfl rfl Try.isAgg3) rfl rfl ?_
    refine rw_run tab_ok 2 [(0, _), (1, _), (5, _), (17, _)] rfl ⟨rfl, rfl, rfl, rfl, trivial⟩ ?_
    refine rw_end ?_
    refine cw_condD rfl (fun he => ?_) (fun he => ?_)
    · refine cw_seq ?_
      refine cw_region ?_
      refine rw_run tab_ok 1 [(4, _)] rfl ⟨rfl, trivial⟩ ?_
      refine rw_end ?_
      refine cw_ret (xw_blkr (xw_thenr (xw_thenr (xw_blkr (xw_thenr ?_)))))
      refine xw_ret1 Try.results46 (rv_tmp rfl) ?_
      intro w hw
      refine ⟨ret_bool ?_, hw.below⟩
      rw [eq_comm, List.contains_iff_mem, ← he, List.getD_eq_getElem?_getD, List.getElem?_eq_getElem hkl]
      exact List.getElem_mem hkl
    · refine cw_skip (xw_blkn (xw_then ?_))
      refine cw_region ?_
      refine rw_run tab_ok 1 [(0, _), (1, _), (10, _)] rfl ⟨rfl, rfl, rfl, trivial⟩ ?_
      refine rw_s (qs_add rfl rfl rfl (by omega)) rfl rfl ?_
      refine rw_run tab_ok 1 [(0, _), (1, _), (5, _)] rfl ⟨rfl, rfl, rfl, trivial⟩ ?_
      refine rw_round (k + 1) (⟨by omega, by rw [hsn, hno, Bool.false_or]; exact decide_eq_false (fun e => he e.symm)⟩) (by show _ - _ < _ - _; omega) ⟨rfl, rfl, rfl, trivial⟩ (by first | exact fun _ h => h | exact fun _ h => h.msub (by repeat (first | exact .z | refine .s (by first | exact .a | exact .b | exact .c | exact .d | exact .e | exact .s .e | exact .s (.s .e) | exact .s (.s (.s .e))) ?_)))
  · obtain rfl : k = l.length := by omega
    refine cw_exit (xw_thenx (xw_thenx (xw_blk (xw_then ?_))))
    refine cw_seq ?_
    refine cw_region ?_
    refine rw_run tab_ok 1 [(4, _)] rfl ⟨rfl, trivial⟩ ?_
    refine rw_end ?_
    refine cw_ret ?_
    refine xw_ret1 Try.results46 (rv_tmp rfl) ?_
    intro w hw
    exact ⟨ret_bool (by rw [List.take_length] at hno; rw [hno]), hw.below⟩
end Go.Proofs.Ytjojipeodionmaa
