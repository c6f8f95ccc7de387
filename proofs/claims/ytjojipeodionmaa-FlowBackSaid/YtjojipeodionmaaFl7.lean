/- Flow: what must be in any case; FlowTells, FlowBack. -/
import Derived.Test.YtjojipeodionmaaFl6
namespace Go.Proofs.Ytjojipeodionmaa
open Go.RowKit

/-- Where fields lie, and how great they are. -/
def Places (P : Program) (t : TypeId) (places : Array (Nat × Nat)) : Prop := ∃ fields, P.underlying t = some (.struct fields) ∧ ∀ w, (fields.mapM fun f => (do pure (f.offset, ← sizeOf f.type) : Sem (Nat × Nat))).run P w = .ok places w
theorem qs_bst {P : Program} {n : Nat} {o : Oper} {env : Env} {B : Nat} {w0 : World} {H : List Res} {t : TypeId} {places : Array (Nat × Nat)} {z : Value} {ps : Array (Nat × Operand)} {vs : List (Nat × Value)} {cs : List Value} (hp : Places P t places) (hz : ∀ w, (zeroValue t).run P w = .ok z w)
    (hop : o.op = .build t ps) (hv : pvs env ps.toList = some vs) (hf : Instr.fill (places[·]?) z.cells vs = some cs.toArray) : QS P n B w0 o env H (.agg cs.toArray) := by
  obtain ⟨fields, hu, hpl⟩ := hp
  refine qs_build hop hv fun w => ?_
  unfold Instr.build
  simp only [Sem.run_bind, hz, Result.andThen_ok, run_underlying hu, hpl, hf, Sem.run_pure]
theorem Try.plOp : Places Try.prog 23 #[(0, 1), (1, 1)] := ⟨_, Try.underlying23, fun w => by simp [Try.sizeOf3]⟩

def loopL : List MOp := [⟨1, 3⟩, ⟨3, 0⟩, ⟨20, 0⟩, ⟨1, 1⟩, ⟨6, 0⟩, ⟨3, 0⟩, ⟨11, 8⟩, ⟨10, 1⟩, ⟨2, 0⟩, ⟨13, 0⟩]
theorem i64s_of (l : List MOp) (h : (l.all fun o => decide (I64 o.c ∧ I64 o.a)) = true) : ∀ o ∈ l, FOw.wf o := fun o ho => by
  have := of_decide_eq_true (List.all_eq_true.1 h o ho)
  exact this
set_option maxRecDepth 100000 in
theorem loop_any (w : World) : Calls Try.prog 83 #[] w fun e w' => ∃ g : Nat, True ∧ e = .returned (.slice (some ⟨g, 0, none⟩) 10 10) ∧ Cw w.heap.size w [ROw (.slice (some ⟨g, 0, none⟩) 10 10) loopL] w' := by
  refine enter Try.func83 rfl Try.ntmps83 rfl ?_
  refine cw_seq ?_
  refine cw_region ?_
  refine rw_run tab_ok 1 [] rfl trivial ?_
  refine rw_end ?_
  refine cw_seq ?_
  refine cw_region ?_
  refine rw_s (qs_bst (cs := [_, _]) Try.plOp Try.zeroValue23 rfl rfl (by rfl)) rfl rfl ?_
  refine rw_s (qs_bst (cs := [_, _]) Try.plOp Try.zeroValue23 rfl rfl (by rfl)) rfl rfl ?_
  refine rw_s (qs_bst (cs := [_, _]) Try.plOp Try.zeroValue23 rfl rfl (by rfl)) rfl rfl ?_
  refine rw_s (qs_bst (cs := [_, _]) Try.plOp Try.zeroValue23 rfl rfl (by rfl)) rfl rfl ?_
  refine rw_s (qs_bst (cs := [_, _]) Try.plOp Try.zeroValue23 rfl rfl (by rfl)) rfl rfl ?_
  refine rw_s (qs_bst (cs := [_, _]) Try.plOp Try.zeroValue23 rfl rfl (by rfl)) rfl rfl ?_
  refine rw_s (qs_bst (cs := [_, _]) Try.plOp Try.zeroValue23 rfl rfl (by rfl)) rfl rfl ?_
  refine rw_s (qs_bst (cs := [_, _]) Try.plOp Try.zeroValue23 rfl rfl (by rfl)) rfl rfl ?_
  refine rw_s (qs_bst (cs := [_, _]) Try.plOp Try.zeroValue23 rfl rfl (by rfl)) rfl rfl ?_
  refine rw_s (qs_bst (cs := [_, _]) Try.plOp Try.zeroValue23 rfl rfl (by rfl)) rfl rfl ?_
  refine rw_op (ot_bsl (cs := [_, _, _, _, _, _, _, _, _, _, _, _, _, _, _, _, _, _, _, _]) Try.underlying24 Try.sizeOf23 Try.zeroValue23 rfl rfl rfl rfl rfl) rfl rfl (fun g1 _ => ?_)
  refine rw_run tab_ok 1 [(0, _)] rfl ⟨rfl, trivial⟩ ?_
  refine rw_end ?_
  refine cw_mem (fun w h => row_ow (α := MOp) (m := 10) loopL rfl (i64s_of _ (by decide)) rfl (by decide) h) ?_
  refine cw_ret ?_
  refine xw_ret1 Try.results83 (rv_tmp rfl) ?_
  intro w hw
  exact ⟨g1, trivial, rfl, hw⟩

def threeL : List MOp := [⟨10, 2⟩, ⟨13, 0⟩, ⟨2, 0⟩]
theorem three_rch (q : Nat) : Rch threeL q ↔ q = 0 ∨ q = 2 ∨ q = 3 := by
  have e0 : Rch threeL 0 := .refl
  have e2 : Rch threeL 2 := .step e0 (by decide) (by decide)
  have e3 : Rch threeL 3 := .step e2 (by decide) (by decide)
  constructor
  · intro h
    induction h with
    | refl => exact .inl rfl
    | @step p r h1 h2 h3 ih =>
      have h2 : p < 3 := h2
      rcases ih with rfl | rfl | rfl
      · have : decide ((r : Int) = 2) = true := h3
        have := of_decide_eq_true this
        omega
      · have : decide ((r : Int) = (2 : Nat) + 1) = true := h3
        have := of_decide_eq_true this
        omega
      · omega
  · rintro (rfl | rfl | rfl)
    · exact e0
    · exact e2
    · exact e3
theorem three_reach : reachR threeL = [0, 2, 3] := by
  have hf : flowE threeL = 0 := by decide
  rw [reachR_of hf]
  refine rising_eq ((upto_sorted _).filter _) (by decide) fun a => ?_
  unfold reachL
  rw [List.mem_filter, upto_mem, rchB_iff, three_rch]
  simp only [List.mem_cons, List.not_mem_nil, or_false]
  have : threeL.length = 3 := rfl
  omega
set_option maxRecDepth 100000 in
set_option maxHeartbeats 1000000 in
theorem flowBegun_any (w : World) : Calls Try.prog 57 #[] w fun e w' => e = .returned (.bool true) ∧ Below w.heap.size w w' := by
  have e1 : nextE loopL 6 = 0 := by decide
  have e2 : nextR loopL 6 = [7, 8] := by decide
  have e3 : flowE threeL = 0 := by decide
  have e4 : backE loopL 1 = 0 := by decide
  have e5 : backR loopL 1 = [0, 7] := by decide
  refine enter Try.func57 rfl Try.ntmps57 rfl ?_
  refine cw_seq ?_
  refine cw_region ?_
  refine rw_run tab_ok 1 [] rfl trivial ?_
  refine rw_end ?_
  refine cw_seq ?_
  refine cw_region ?_
  refine rw_op (ot_c rfl rfl rfl Try.call83 (fun w hw => loop_any w)) rfl rfl (fun gl _ => ?_)
  refine rw_op (ot_c rfl rfl rfl Try.call55 (fun w hw => next_any (some ⟨gl, 0, none⟩) 10 loopL 6 w (SF.at_ (SF.own rfl (by first | exact .a | exact .b | exact .c | exact .d | exact .e | exact .s .e | exact .s (.s .e) | exact .s (.s (.s .e)))) hw))) rfl rfl (fun ⟨A1, c1⟩ _ => ?_)
  try dsimp only
  refine rw_run tab_ok 5 [(1, _), (2, _)] rfl ⟨rfl, rfl, trivial⟩ ?_
  refine rw_end ?_
  refine cw_seq ?_
  refine cw_region ?_
  refine rw_s (qs_bst (cs := [_, _]) Try.plOp Try.zeroValue23 rfl rfl (by rfl)) rfl rfl ?_
  refine rw_s (qs_bst (cs := [_, _]) Try.plOp Try.zeroValue23 rfl rfl (by rfl)) rfl rfl ?_
  refine rw_s (qs_bst (cs := [_, _]) Try.plOp Try.zeroValue23 rfl rfl (by rfl)) rfl rfl ?_
  refine rw_op (ot_bsl (cs := [_, _, _, _, _, _]) Try.underlying24 Try.sizeOf23 Try.zeroValue23 rfl rfl rfl rfl rfl) rfl rfl (fun g1 _ => ?_)
  refine rw_mem (fun w h => row_ow (α := MOp) (m := 3) threeL rfl (i64s_of _ (by decide)) rfl (by decide) h) ?_
  refine rw_op (ot_c rfl rfl rfl Try.call58 (fun w hw => reach_any _ 3 threeL w (SF.at_ (SF.own rfl (by first | exact .a | exact .b | exact .c | exact .d | exact .e | exact .s .e | exact .s (.s .e) | exact .s (.s (.s .e)))) hw))) rfl rfl (fun ⟨A2, c2⟩ _ => ?_)
  try dsimp only
  refine rw_run tab_ok 5 [(1, _), (2, _), (3, _), (4, _)] rfl ⟨rfl, rfl, rfl, rfl, trivial⟩ ?_
  refine rw_end ?_
  refine cw_seq ?_
  refine cw_region ?_
  refine rw_op (ot_c rfl rfl rfl Try.call83 (fun w hw => loop_any w)) rfl rfl (fun gl2 _ => ?_)
  refine rw_op (ot_c rfl rfl rfl Try.call56 (fun w hw => back_any (some ⟨gl2, 0, none⟩) 10 loopL 1 w (SF.at_ (SF.own rfl (by first | exact .a | exact .b | exact .c | exact .d | exact .e | exact .s .e | exact .s (.s .e) | exact .s (.s (.s .e)))) hw))) rfl rfl (fun ⟨A3, c3⟩ _ => ?_)
  try dsimp only
  refine rw_run tab_ok 5 [(1, _), (2, _), (3, _), (4, _), (5, _), (6, _)] rfl ⟨rfl, rfl, rfl, rfl, rfl, rfl, trivial⟩ ?_
  refine rw_end ?_
  refine cw_seq ?_
  refine cw_region ?_
  refine rw_run tab_ok 3 [(1, _), (3, _), (4, _), (5, _), (6, _), (27, _)] rfl ⟨rfl, rfl, rfl, rfl, rfl, rfl, trivial⟩ ?_
  refine rw_as (t := 27) (v' := .bool true) rfl (by rw [e1]; rfl) ?_
  refine rw_run tab_ok 4 [(1, _), (3, _), (5, _), (6, _), (31, _)] rfl ⟨rfl, rfl, rfl, rfl, rfl, trivial⟩ ?_
  refine rw_as (t := 31) (v' := .bool true) rfl (by rw [e3]; rfl) ?_
  refine rw_run tab_ok 4 [(1, _), (3, _), (5, _), (35, _)] rfl ⟨rfl, rfl, rfl, rfl, trivial⟩ ?_
  refine rw_as (t := 35) (v' := .bool true) rfl (by rw [e4]; rfl) ?_
  refine rw_run tab_ok 1 [(3, _), (5, _), (35, _), (36, _)] rfl ⟨rfl, rfl, rfl, rfl, trivial⟩ ?_
  refine rw_op (ot_bsl (cs := [_, _]) Try.underlying41 Try.sizeOf3 Try.zeroValue3 rfl rfl rfl rfl rfl) rfl rfl (fun g2 _ => ?_)
  refine rw_mem (fun w h => row_ow (α := Int) (m := 2) [7, 8] rfl (two_i64 (by decide) (by decide)) rfl (by decide) h) ?_
  refine rw_op (ot_c0 rfl rfl rfl Try.call45 (fun w hw => sameInts_w _ _ _ _ (nextR loopL 6) [7, 8] w (SF.at_ (SF.own rfl (by first | exact .a | exact .b | exact .c | exact .d | exact .e | exact .s .e | exact .s (.s .e) | exact .s (.s (.s .e)))) hw) (SF.at_ (SF.own rfl (by first | exact .a | exact .b | exact .c | exact .d | exact .e | exact .s .e | exact .s (.s .e) | exact .s (.s (.s .e)))) hw))) rfl rfl (fun _ _ => ?_)
  refine rw_run tab_ok 2 [(3, _), (5, _), (40, _)] rfl ⟨rfl, rfl, rfl, trivial⟩ ?_
  refine rw_as (t := 40) (v' := .bool true) rfl (by rw [e2]; rfl) ?_
  refine rw_run tab_ok 1 [(5, _), (40, _), (41, _)] rfl ⟨rfl, rfl, rfl, trivial⟩ ?_
  refine rw_op (ot_bsl (cs := [_, _, _]) Try.underlying41 Try.sizeOf3 Try.zeroValue3 rfl rfl rfl rfl rfl) rfl rfl (fun g3 _ => ?_)
  refine rw_mem (fun w h => row_ow (α := Int) (m := 3) [0, 2, 3] rfl (by intro x hx; simp at hx; show I64 x; unfold I64; omega) rfl (by decide) h) ?_
  refine rw_op (ot_c0 rfl rfl rfl Try.call45 (fun w hw => sameInts_w _ _ _ _ (reachR threeL) [0, 2, 3] w (SF.at_ (SF.own rfl (by first | exact .a | exact .b | exact .c | exact .d | exact .e | exact .s .e | exact .s (.s .e) | exact .s (.s (.s .e)))) hw) (SF.at_ (SF.own rfl (by first | exact .a | exact .b | exact .c | exact .d | exact .e | exact .s .e | exact .s (.s .e) | exact .s (.s (.s .e)))) hw))) rfl rfl (fun _ _ => ?_)
  refine rw_run tab_ok 2 [(5, _), (45, _)] rfl ⟨rfl, rfl, trivial⟩ ?_
  refine rw_as (t := 45) (v' := .bool true) rfl (by rw [three_reach]; rfl) ?_
  refine rw_run tab_ok 1 [(45, _), (46, _)] rfl ⟨rfl, rfl, trivial⟩ ?_
  refine rw_op (ot_bsl (cs := [_, _]) Try.underlying41 Try.sizeOf3 Try.zeroValue3 rfl rfl rfl rfl rfl) rfl rfl (fun g4 _ => ?_)
  refine rw_mem (fun w h => row_ow (α := Int) (m := 2) [0, 7] rfl (two_i64 (by decide) (by decide)) rfl (by decide) h) ?_
  refine rw_op (ot_c0 rfl rfl rfl Try.call45 (fun w hw => sameInts_w _ _ _ _ (backR loopL 1) [0, 7] w (SF.at_ (SF.own rfl (by first | exact .a | exact .b | exact .c | exact .d | exact .e | exact .s .e | exact .s (.s .e) | exact .s (.s (.s .e)))) hw) (SF.at_ (SF.own rfl (by first | exact .a | exact .b | exact .c | exact .d | exact .e | exact .s .e | exact .s (.s .e) | exact .s (.s (.s .e)))) hw))) rfl rfl (fun _ _ => ?_)
  refine rw_run tab_ok 2 [(0, _)] rfl ⟨rfl, trivial⟩ ?_
  refine rw_end ?_
  refine cw_ret ?_
  refine xw_ret1 Try.results57 (rv_tmp rfl) ?_
  intro w hw
  exact ⟨ret_bool (by rw [e5]; rfl), hw.below⟩
set_option maxRecDepth 100000 in
theorem intsAre_any (A1 A2 : Option Addr) (c1 c2 : Nat) (xs ys : List Int) (a : Int) (w : World) (h1 : Sl w (.slice A1 xs.length c1) xs) (h2 : Sl w (.slice A2 ys.length c2) ys) (he : xs = ys) (hz : a ≠ 0 → xs = []) :
    Calls Try.prog 63 #[.slice A1 xs.length c1, .int .i64 a, .int .i64 a, .slice A2 ys.length c2] w fun e w' => e = .returned (.bool true) ∧ Below w.heap.size w w' := by
  refine enter Try.func63 rfl Try.ntmps63 rfl ?_
  refine cw_seq ?_
  refine cw_region ?_
  refine rw_run tab_ok 1 [(0, _), (1, _), (2, _), (3, _)] rfl ⟨rfl, rfl, rfl, rfl, trivial⟩ ?_
  refine rw_end ?_
  refine cw_seq ?_
  refine cw_seq ?_
  refine cw_region ?_
  refine rw_run tab_ok 2 [(0, _), (1, _), (2, _), (3, _), (10, _)] rfl ⟨rfl, rfl, rfl, rfl, rfl, trivial⟩ ?_
  refine rw_end ?_
  refine cw_condN rfl (fun h => ?_) (fun h => ?_)
  · refine cw_region ?_
    refine rw_run tab_ok 1 [(0, _), (1, _), (2, _), (3, _)] rfl ⟨rfl, rfl, rfl, rfl, trivial⟩ ?_
    refine rw_end ?_
    refine cw_seq ?_
    refine cw_region ?_
    refine rw_run tab_ok 4 [(0, _), (3, _), (14, _)] rfl ⟨rfl, rfl, rfl, trivial⟩ ?_
    refine rw_as (t := 14) (v' := .bool true) rfl (by rw [decide_eq_true (by rfl)]) ?_
    refine rw_run tab_ok 2 [(14, _), (15, _), (16, _)] rfl ⟨rfl, rfl, rfl, trivial⟩ ?_
    refine rw_op (ot_c0 rfl rfl rfl Try.call45 (fun w hw => sameInts_w _ none _ 0 xs [] w (hw.ro h1) Sl.nil_)) rfl rfl (fun _ _ => ?_)
    refine rw_run tab_ok 2 [(8, _)] rfl ⟨rfl, trivial⟩ ?_
    refine rw_end ?_
    refine cw_ret ?_
    refine xw_ret1 Try.results63 (rv_tmp rfl) ?_
    intro w hw
    exact ⟨ret_bool (by rw [hz h]; rfl), hw.below⟩
  · refine cw_skip (xw_then ?_)
    refine cw_seq ?_
    refine cw_region ?_
    refine rw_run tab_ok 4 [(0, _), (3, _), (14, _)] rfl ⟨rfl, rfl, rfl, trivial⟩ ?_
    refine rw_as (t := 14) (v' := .bool true) rfl (by rw [decide_eq_true (by rfl)]) ?_
    refine rw_run tab_ok 2 [(14, _), (15, _), (16, _)] rfl ⟨rfl, rfl, rfl, trivial⟩ ?_
    refine rw_op (ot_c0 rfl rfl rfl Try.call45 (fun w hw => sameInts_w _ _ _ _ xs ys w (hw.ro h1) (hw.ro h2))) rfl rfl (fun _ _ => ?_)
    refine rw_run tab_ok 2 [(8, _)] rfl ⟨rfl, trivial⟩ ?_
    refine rw_end ?_
    refine cw_ret ?_
    refine xw_ret1 Try.results63 (rv_tmp rfl) ?_
    intro w hw
    exact ⟨ret_bool (decide_eq_true he), hw.below⟩
end Go.Proofs.Ytjojipeodionmaa
