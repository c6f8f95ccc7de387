/- FlowTells and FlowBack are true, whatever they are handed. -/
import Derived.Test.YtjojipeodionmaaFl7
namespace Go.Proofs.Ytjojipeodionmaa
open Go.RowKit

theorem run_eqBw {P : Program} {t : TypeId} (hu : P.underlying t = some .bool) (a b : Bool) (w : World) (d : Nat) : (Op.equalIn (d + 1) t (.bool a) (.bool b)).run P w = .ok (a == b) w := by
  simp [Op.equalIn, run_underlying hu]
theorem qs_eqBw {P : Program} {n B : Nat} {w0 : World} {o : Oper} {env : Env} {H : List Res} {i j : Operand} {t u : TypeId} {a b : Bool} (hu : P.underlying t = some .bool) (hop : o.op = .binOp .eql t i j u) (hi : opv env i = some (.bool a)) (hj : opv env j = some (.bool b)) : QS P n B w0 o env H (.bool (a == b)) := by
  intro a' w hf hw
  unfold execOp
  have hgd : (eqGuard .eql t i j (.bool a) (.bool b)).run P w = .ok () w := by
    unfold eqGuard
    split <;> simp
  have hb : (binOp .eql t (.bool a) (.bool b)).run P w = .ok (.bool (a == b)) w := by
    simp only [binOp, Op.equal, Op.maxDepth, Sem.run_bind]
    rw [show (10000 : Nat) = 9999 + 1 from rfl, run_eqBw hu]
    rfl
  simp only [hop, hf.opv hi, hf.opv hj, Sem.run_bind, hgd, Result.andThen_ok, hb, Sem.run_pure]
theorem next_back {l : List MOp} {pc to_ : Int} (h1 : nextE l pc = 0) (h2 : backE l to_ = 0) : (nextR l pc).contains to_ = (backR l to_).contains pc := by
  obtain ⟨_, a1, a2⟩ := nextE_ok h1
  obtain ⟨_, a3, a4⟩ := backE_ok h2
  rw [Bool.eq_iff_iff, List.contains_iff_mem, List.contains_iff_mem]
  obtain ⟨k, rfl⟩ := Int.eq_ofNat_of_zero_le a1
  rw [nextR_of h1, backR_of h2]
  unfold nextL backL
  rw [List.mem_filter, List.mem_filter, upto_mem, upto_mem]
  have : (k : Int).toNat = k := by simp
  rw [this]
  constructor
  · exact fun h => ⟨⟨a1, a2⟩, h.2⟩
  · exact fun h => ⟨⟨a3, by omega⟩, h.2⟩
theorem rnextOf_as (A : Option Addr) (c : Nat) (l : List MOp) (pc : Int) (w : World) (hs : Sl w (.slice A l.length c) l) (h0 : 0 ≤ pc) (hp : pc < l.length) (h40 : l.length ≤ 40) {L : List Int} (e : L = nextL l pc.toNat) :
    Calls Try.prog 60 #[.slice A l.length c, .int .i64 pc] w fun e w' => ∃ g : Option Addr × Nat, True ∧ e = .returned (.slice g.1 L.length g.2) ∧ Cw w.heap.size w [ROw (.slice g.1 L.length g.2) L] w' := by
  obtain ⟨k, rfl⟩ := Int.eq_ofNat_of_zero_le h0
  rw [e]
  exact rnextOf A c l k w hs (by omega) h40
set_option maxRecDepth 100000 in
set_option maxHeartbeats 2000000 in
theorem flowTells_any (A : Option Addr) (c : Nat) (l : List MOp) (pc : Int) (w : World) (hs : Sl w (.slice A l.length c) l) :
    Calls Try.prog 13 #[.slice A l.length c, .int .i64 pc] w fun e w' => e = .returned (.bool true) ∧ Below w.heap.size w w' := by
  have b1 := len_bd hs
  refine enter Try.func13 rfl Try.ntmps13 rfl ?_
  refine cw_seq ?_
  refine cw_region ?_
  refine rw_run tab_ok 1 [(0, _), (1, _)] rfl ⟨rfl, rfl, trivial⟩ ?_
  refine rw_end ?_
  refine cw_seq ?_
  refine cw_region ?_
  refine rw_run tab_ok 2 [(0, _), (1, _), (18, _), (19, _)] rfl ⟨rfl, rfl, rfl, rfl, trivial⟩ ?_
  refine rw_op (ot_c rfl rfl rfl Try.call55 (fun w hw => next_any A c l pc w (hw.ro hs))) rfl rfl (fun ⟨A5, c5⟩ _ => ?_)
  try dsimp only
  refine rw_run tab_ok 5 [(0, _), (1, _), (5, _), (6, _)] rfl ⟨rfl, rfl, rfl, rfl, trivial⟩ ?_
  refine rw_end ?_
  refine cw_seq ?_
  refine cw_region ?_
  refine rw_run tab_ok 1 [(0, _), (1, _), (5, _), (6, _), (24, _)] rfl ⟨rfl, rfl, rfl, rfl, rfl, trivial⟩ ?_
  refine rw_op (ot_c rfl rfl rfl Try.call58 (fun w hw => reach_any A c l w (hw.ro hs))) rfl rfl (fun ⟨A7, c7⟩ _ => ?_)
  try dsimp only
  refine rw_run tab_ok 5 [(0, _), (1, _), (5, _), (6, _), (7, _), (8, _)] rfl ⟨rfl, rfl, rfl, rfl, rfl, rfl, trivial⟩ ?_
  refine rw_end ?_
  refine cw_seq ?_
  refine cw_region ?_
  refine rw_run tab_ok 2 [(0, _), (1, _), (5, _), (6, _), (7, _), (8, _), (29, _), (30, _)] rfl ⟨rfl, rfl, rfl, rfl, rfl, rfl, rfl, rfl, trivial⟩ ?_
  refine rw_op (ot_c rfl rfl rfl Try.call56 (fun w hw => back_any A c l pc w (hw.ro hs))) rfl rfl (fun ⟨A9, c9⟩ _ => ?_)
  try dsimp only
  refine rw_run tab_ok 5 [(0, _), (1, _), (5, _), (6, _), (7, _), (8, _), (9, _), (10, _)] rfl ⟨rfl, rfl, rfl, rfl, rfl, rfl, rfl, rfl, trivial⟩ ?_
  refine rw_end ?_
  refine cw_seq ?_
  refine cw_region ?_
  refine rw_run tab_ok 1 [(0, _), (1, _), (5, _), (6, _), (7, _), (8, _), (9, _), (10, _), (34, _)] rfl ⟨rfl, rfl, rfl, rfl, rfl, rfl, rfl, rfl, rfl, trivial⟩ ?_
  refine rw_op (ot_c0 rfl rfl rfl Try.call59 (fun w hw => rcheckFlow_any A c l w (hw.ro hs))) rfl rfl (fun _ _ => ?_)
  refine rw_run tab_ok 1 [(0, _), (1, _), (5, _), (6, _), (7, _), (8, _), (9, _), (10, _), (11, _)] rfl ⟨rfl, rfl, rfl, rfl, rfl, rfl, rfl, rfl, rfl, trivial⟩ ?_
  refine rw_end ?_
  refine cw_seq ?_
  refine cw_region ?_
  refine rw_run tab_ok 4 [(0, _), (1, _), (5, _), (6, _), (7, _), (8, _), (9, _), (10, _), (11, _), (12, _), (13, _)] rfl ⟨rfl, rfl, rfl, rfl, rfl, rfl, rfl, rfl, rfl, rfl, rfl, trivial⟩ ?_
  refine rw_end ?_
  refine cw_cut (fun g : Int => g = nextE l pc) (fun g => [(0, .slice A l.length c), (1, .int .i64 pc), (5, .slice A5 (nextR l pc).length c5), (6, .int .i64 (nextE l pc)), (7, .slice A7 (reachR l).length c7), (8, .int .i64 (flowE l)), (9, .slice A9 (backR l pc).length c9), (10, .int .i64 (backE l pc)), (11, .int .i64 (flowE l)), (12, .int .i64 g), (13, .int .i64 (flowE l))]) (fun _ => [ROw (.slice A5 (nextR l pc).length c5) (nextR l pc), ROw (.slice A7 (reachR l).length c7) (reachR l), ROw (.slice A9 (backR l pc).length c9) (backR l pc)]) ?_ ?_
  · refine cw_seq ?_
    refine cw_region ?_
    refine rw_run tab_ok 3 [(0, _), (1, _), (5, _), (6, _), (7, _), (8, _), (9, _), (10, _), (11, _), (12, _), (13, _), (40, _)] rfl ⟨rfl, rfl, rfl, rfl, rfl, rfl, rfl, rfl, rfl, rfl, rfl, rfl, trivial⟩ ?_
    refine rw_split (t := 40) rfl (fun h0 => ?_) (fun h0 => ?_)
    · have h0 := of_decide_eq_true h0
      refine rw_run tab_ok 3 [(0, _), (1, _), (5, _), (6, _), (7, _), (8, _), (9, _), (10, _), (11, _), (12, _), (13, _), (40, _), (43, _)] rfl ⟨rfl, rfl, rfl, rfl, rfl, rfl, rfl, rfl, rfl, rfl, rfl, rfl, rfl, trivial⟩ ?_
      refine rw_split (t := 43) rfl (fun h1 => ?_) (fun h1 => ?_)
      · have h1 := of_decide_eq_true h1
        refine rw_run tab_ok 6 [(0, _), (1, _), (5, _), (6, _), (7, _), (8, _), (9, _), (10, _), (11, _), (12, _), (13, _), (49, _)] rfl ⟨rfl, rfl, rfl, rfl, rfl, rfl, rfl, rfl, rfl, rfl, rfl, rfl, trivial⟩ ?_
        refine rw_end ?_
        refine cw_cond_t rfl ?_
        refine cw_region ?_
        refine rw_run tab_ok 1 [(0, _), (1, _), (5, _), (6, _), (7, _), (8, _), (9, _), (10, _), (11, _), (12, _), (13, _)] rfl ⟨rfl, rfl, rfl, rfl, rfl, rfl, rfl, rfl, rfl, rfl, rfl, trivial⟩ ?_
        refine rw_join 3 (by unfold nextE; rw [if_pos h0, if_pos (.inl h1)]) ⟨rfl, rfl, rfl, rfl, rfl, rfl, rfl, rfl, rfl, rfl, rfl, trivial⟩ (by first | exact fun _ h => h | exact fun _ h => h.msub (by repeat (first | exact .z | refine .s (by first | exact .a | exact .b | exact .c | exact .d | exact .e | exact .s .e | exact .s (.s .e) | exact .s (.s (.s .e))) ?_)))
      · have h1 := of_decide_eq_false h1
        refine rw_run tab_ok 2 [(0, _), (1, _), (5, _), (6, _), (7, _), (8, _), (9, _), (10, _), (11, _), (12, _), (13, _), (40, _), (43, _), (44, _), (45, _)] rfl ⟨rfl, rfl, rfl, rfl, rfl, rfl, rfl, rfl, rfl, rfl, rfl, rfl, rfl, rfl, rfl, trivial⟩ ?_
        refine rw_s (qs_len Try.underlying24 rfl rfl) rfl rfl ?_
        refine rw_run tab_ok 3 [(0, _), (1, _), (5, _), (6, _), (7, _), (8, _), (9, _), (10, _), (11, _), (12, _), (13, _), (49, _)] rfl ⟨rfl, rfl, rfl, rfl, rfl, rfl, rfl, rfl, rfl, rfl, rfl, rfl, trivial⟩ ?_
        refine rw_end ?_
        refine cw_condD rfl (fun h2 => ?_) (fun h2 => ?_)
        · refine cw_region ?_
          refine rw_run tab_ok 1 [(0, _), (1, _), (5, _), (6, _), (7, _), (8, _), (9, _), (10, _), (11, _), (12, _), (13, _)] rfl ⟨rfl, rfl, rfl, rfl, rfl, rfl, rfl, rfl, rfl, rfl, rfl, trivial⟩ ?_
          refine rw_join 3 (by unfold nextE; rw [if_pos h0, if_pos (.inr h2)]) ⟨rfl, rfl, rfl, rfl, rfl, rfl, rfl, rfl, rfl, rfl, rfl, trivial⟩ (by first | exact fun _ h => h | exact fun _ h => h.msub (by repeat (first | exact .z | refine .s (by first | exact .a | exact .b | exact .c | exact .d | exact .e | exact .s .e | exact .s (.s .e) | exact .s (.s (.s .e))) ?_)))
        · refine cw_skip ?_
          refine xw_join (flowE l) (by unfold nextE; rw [if_pos h0, if_neg (by omega)]; exact h0) ⟨rfl, rfl, rfl, rfl, rfl, rfl, rfl, rfl, rfl, rfl, rfl, trivial⟩ (by first | exact fun _ h => h | exact fun _ h => h.msub (by repeat (first | exact .z | refine .s (by first | exact .a | exact .b | exact .c | exact .d | exact .e | exact .s .e | exact .s (.s .e) | exact .s (.s (.s .e))) ?_)))
    · have h0 := of_decide_eq_false h0
      refine rw_run tab_ok 9 [(0, _), (1, _), (5, _), (6, _), (7, _), (8, _), (9, _), (10, _), (11, _), (12, _), (13, _), (49, _)] rfl ⟨rfl, rfl, rfl, rfl, rfl, rfl, rfl, rfl, rfl, rfl, rfl, rfl, trivial⟩ ?_
      refine rw_end ?_
      refine cw_cond_f rfl ?_
      refine cw_skip ?_
      refine xw_join (flowE l) (by unfold nextE; rw [if_neg h0]) ⟨rfl, rfl, rfl, rfl, rfl, rfl, rfl, rfl, rfl, rfl, rfl, trivial⟩ (by first | exact fun _ h => h | exact fun _ h => h.msub (by repeat (first | exact .z | refine .s (by first | exact .a | exact .b | exact .c | exact .d | exact .e | exact .s .e | exact .s (.s .e) | exact .s (.s (.s .e))) ?_)))
  · rintro g rfl
    refine cw_cut (fun g : Int => g = backE l pc) (fun g => [(0, .slice A l.length c), (1, .int .i64 pc), (5, .slice A5 (nextR l pc).length c5), (6, .int .i64 (nextE l pc)), (7, .slice A7 (reachR l).length c7), (8, .int .i64 (flowE l)), (9, .slice A9 (backR l pc).length c9), (10, .int .i64 (backE l pc)), (11, .int .i64 (flowE l)), (12, .int .i64 (nextE l pc)), (13, .int .i64 g)]) (fun _ => [ROw (.slice A5 (nextR l pc).length c5) (nextR l pc), ROw (.slice A7 (reachR l).length c7) (reachR l), ROw (.slice A9 (backR l pc).length c9) (backR l pc)]) ?_ ?_
    · refine cw_seq ?_
      refine cw_region ?_
      refine rw_run tab_ok 3 [(0, _), (1, _), (5, _), (6, _), (7, _), (8, _), (9, _), (10, _), (11, _), (12, _), (13, _), (52, _)] rfl ⟨rfl, rfl, rfl, rfl, rfl, rfl, rfl, rfl, rfl, rfl, rfl, rfl, trivial⟩ ?_
      refine rw_split (t := 52) rfl (fun h0 => ?_) (fun h0 => ?_)
      · have h0 := of_decide_eq_true h0
        refine rw_run tab_ok 3 [(0, _), (1, _), (5, _), (6, _), (7, _), (8, _), (9, _), (10, _), (11, _), (12, _), (13, _), (52, _), (55, _)] rfl ⟨rfl, rfl, rfl, rfl, rfl, rfl, rfl, rfl, rfl, rfl, rfl, rfl, rfl, trivial⟩ ?_
        refine rw_split (t := 55) rfl (fun h1 => ?_) (fun h1 => ?_)
        · have h1 := of_decide_eq_true h1
          refine rw_run tab_ok 6 [(0, _), (1, _), (5, _), (6, _), (7, _), (8, _), (9, _), (10, _), (11, _), (12, _), (13, _), (61, _)] rfl ⟨rfl, rfl, rfl, rfl, rfl, rfl, rfl, rfl, rfl, rfl, rfl, rfl, trivial⟩ ?_
          refine rw_end ?_
          refine cw_cond_t rfl ?_
          refine cw_region ?_
          refine rw_run tab_ok 1 [(0, _), (1, _), (5, _), (6, _), (7, _), (8, _), (9, _), (10, _), (11, _), (12, _), (13, _)] rfl ⟨rfl, rfl, rfl, rfl, rfl, rfl, rfl, rfl, rfl, rfl, rfl, trivial⟩ ?_
          refine rw_join 3 (by unfold backE; rw [if_pos h0, if_pos (.inl h1)]) ⟨rfl, rfl, rfl, rfl, rfl, rfl, rfl, rfl, rfl, rfl, rfl, trivial⟩ (by first | exact fun _ h => h | exact fun _ h => h.msub (by repeat (first | exact .z | refine .s (by first | exact .a | exact .b | exact .c | exact .d | exact .e | exact .s .e | exact .s (.s .e) | exact .s (.s (.s .e))) ?_)))
        · have h1 := of_decide_eq_false h1
          refine rw_run tab_ok 2 [(0, _), (1, _), (5, _), (6, _), (7, _), (8, _), (9, _), (10, _), (11, _), (12, _), (13, _), (52, _), (55, _), (56, _), (57, _)] rfl ⟨rfl, rfl, rfl, rfl, rfl, rfl, rfl, rfl, rfl, rfl, rfl, rfl, rfl, rfl, rfl, trivial⟩ ?_
          refine rw_s (qs_len Try.underlying24 rfl rfl) rfl rfl ?_
          refine rw_run tab_ok 3 [(0, _), (1, _), (5, _), (6, _), (7, _), (8, _), (9, _), (10, _), (11, _), (12, _), (13, _), (61, _)] rfl ⟨rfl, rfl, rfl, rfl, rfl, rfl, rfl, rfl, rfl, rfl, rfl, rfl, trivial⟩ ?_
          refine rw_end ?_
          refine cw_condD rfl (fun h2 => ?_) (fun h2 => ?_)
          · refine cw_region ?_
            refine rw_run tab_ok 1 [(0, _), (1, _), (5, _), (6, _), (7, _), (8, _), (9, _), (10, _), (11, _), (12, _), (13, _)] rfl ⟨rfl, rfl, rfl, rfl, rfl, rfl, rfl, rfl, rfl, rfl, rfl, trivial⟩ ?_
            refine rw_join 3 (by unfold backE; rw [if_pos h0, if_pos (.inr h2)]) ⟨rfl, rfl, rfl, rfl, rfl, rfl, rfl, rfl, rfl, rfl, rfl, trivial⟩ (by first | exact fun _ h => h | exact fun _ h => h.msub (by repeat (first | exact .z | refine .s (by first | exact .a | exact .b | exact .c | exact .d | exact .e | exact .s .e | exact .s (.s .e) | exact .s (.s (.s .e))) ?_)))
          · refine cw_skip ?_
            refine xw_join (flowE l) (by unfold backE; rw [if_pos h0, if_neg (by omega)]; exact h0) ⟨rfl, rfl, rfl, rfl, rfl, rfl, rfl, rfl, rfl, rfl, rfl, trivial⟩ (by first | exact fun _ h => h | exact fun _ h => h.msub (by repeat (first | exact .z | refine .s (by first | exact .a | exact .b | exact .c | exact .d | exact .e | exact .s .e | exact .s (.s .e) | exact .s (.s (.s .e))) ?_)))
      · have h0 := of_decide_eq_false h0
        refine rw_run tab_ok 9 [(0, _), (1, _), (5, _), (6, _), (7, _), (8, _), (9, _), (10, _), (11, _), (12, _), (13, _), (61, _)] rfl ⟨rfl, rfl, rfl, rfl, rfl, rfl, rfl, rfl, rfl, rfl, rfl, rfl, trivial⟩ ?_
        refine rw_end ?_
        refine cw_cond_f rfl ?_
        refine cw_skip ?_
        refine xw_join (flowE l) (by unfold backE; rw [if_neg h0]) ⟨rfl, rfl, rfl, rfl, rfl, rfl, rfl, rfl, rfl, rfl, rfl, trivial⟩ (by first | exact fun _ h => h | exact fun _ h => h.msub (by repeat (first | exact .z | refine .s (by first | exact .a | exact .b | exact .c | exact .d | exact .e | exact .s .e | exact .s (.s .e) | exact .s (.s (.s .e))) ?_)))
    · rintro g rfl
      refine cw_seq ?_
      refine cw_region ?_
      refine rw_run tab_ok 3 [(0, _), (1, _), (5, _), (6, _), (7, _), (8, _), (9, _), (10, _), (11, _), (12, _), (13, _), (14, _), (15, _), (16, _)] rfl ⟨rfl, rfl, rfl, rfl, rfl, rfl, rfl, rfl, rfl, rfl, rfl, rfl, rfl, rfl, trivial⟩ ?_
      refine rw_end ?_
      refine cw_cut (fun g : Option Addr × Nat => True) (fun g => [(0, .slice A l.length c), (1, .int .i64 pc), (5, .slice A5 (nextR l pc).length c5), (6, .int .i64 (nextE l pc)), (7, .slice A7 (reachR l).length c7), (8, .int .i64 (flowE l)), (9, .slice A9 (backR l pc).length c9), (10, .int .i64 (backE l pc)), (11, .int .i64 (flowE l)), (12, .int .i64 (nextE l pc)), (13, .int .i64 (backE l pc)), (14, .slice g.1 (nextR l pc).length g.2), (15, .slice none 0 0), (16, .slice none 0 0)]) (fun g => [ROw (.slice A5 (nextR l pc).length c5) (nextR l pc), ROw (.slice A7 (reachR l).length c7) (reachR l), ROw (.slice A9 (backR l pc).length c9) (backR l pc), ROw (.slice g.1 (nextR l pc).length g.2) (nextR l pc)]) ?_ ?_
      · refine cw_seq ?_
        refine cw_region ?_
        refine rw_run tab_ok 2 [(0, _), (1, _), (5, _), (6, _), (7, _), (8, _), (9, _), (10, _), (11, _), (12, _), (13, _), (14, _), (15, _), (16, _), (63, _)] rfl ⟨rfl, rfl, rfl, rfl, rfl, rfl, rfl, rfl, rfl, rfl, rfl, rfl, rfl, rfl, rfl, trivial⟩ ?_
        refine rw_end ?_
        refine cw_condD rfl (fun hz => ?_) (fun hz => ?_)
        · obtain ⟨hf, h1, h2⟩ := nextE_ok hz
          have h40 := codeErr_len (flowE_zero hf).1
          have en : nextR l pc = nextL l pc.toNat := by unfold nextR; rw [if_pos hz]
          refine cw_region ?_
          refine rw_run tab_ok 2 [(0, _), (1, _), (5, _), (6, _), (7, _), (8, _), (9, _), (10, _), (11, _), (12, _), (13, _), (15, _), (16, _), (64, _), (65, _)] rfl ⟨rfl, rfl, rfl, rfl, rfl, rfl, rfl, rfl, rfl, rfl, rfl, rfl, rfl, rfl, rfl, trivial⟩ ?_
          refine rw_op (ot_c rfl rfl rfl Try.call60 (fun w hw => rnextOf_as A c l pc w (hw.ro hs) h1 (by omega) h40 en)) rfl rfl (fun ⟨A14, c14⟩ _ => ?_)
          try dsimp only
          refine rw_run tab_ok 1 [(0, _), (1, _), (5, _), (6, _), (7, _), (8, _), (9, _), (10, _), (11, _), (12, _), (13, _), (14, _), (15, _), (16, _)] rfl ⟨rfl, rfl, rfl, rfl, rfl, rfl, rfl, rfl, rfl, rfl, rfl, rfl, rfl, rfl, trivial⟩ ?_
          refine rw_join (A14, c14) (trivial) ⟨rfl, rfl, rfl, rfl, rfl, rfl, rfl, rfl, rfl, rfl, rfl, rfl, rfl, rfl, trivial⟩ (by first | exact fun _ h => h | exact fun _ h => h.msub (by repeat (first | exact .z | refine .s (by first | exact .a | exact .b | exact .c | exact .d | exact .e | exact .s .e | exact .s (.s .e) | exact .s (.s (.s .e))) ?_)))
        · have en := nextR_no hz
          refine cw_mem (fun w h => Cw.nilO Int h) ?_
          rw [en]
          refine cw_skip ?_
          refine xw_join (none, 0) (trivial) ⟨rfl, rfl, rfl, rfl, rfl, rfl, rfl, rfl, rfl, rfl, rfl, rfl, rfl, rfl, trivial⟩ (by first | exact fun _ h => h | exact fun _ h => h.msub (by repeat (first | exact .z | refine .s (by first | exact .a | exact .b | exact .c | exact .d | exact .e | exact .s .e | exact .s (.s .e) | exact .s (.s (.s .e))) ?_)))
      · rintro ⟨A14, c14⟩ _
        refine cw_cut (fun g : Option Addr × Nat => True) (fun g => [(0, .slice A l.length c), (1, .int .i64 pc), (5, .slice A5 (nextR l pc).length c5), (6, .int .i64 (nextE l pc)), (7, .slice A7 (reachR l).length c7), (8, .int .i64 (flowE l)), (9, .slice A9 (backR l pc).length c9), (10, .int .i64 (backE l pc)), (11, .int .i64 (flowE l)), (12, .int .i64 (nextE l pc)), (13, .int .i64 (backE l pc)), (14, .slice A14 (nextR l pc).length c14), (15, .slice g.1 (reachR l).length g.2), (16, .slice none 0 0)]) (fun g => [ROw (.slice A5 (nextR l pc).length c5) (nextR l pc), ROw (.slice A7 (reachR l).length c7) (reachR l), ROw (.slice A9 (backR l pc).length c9) (backR l pc), ROw (.slice A14 (nextR l pc).length c14) (nextR l pc), ROw (.slice g.1 (reachR l).length g.2) (reachR l)]) ?_ ?_
        · refine cw_seq ?_
          refine cw_region ?_
          refine rw_run tab_ok 2 [(0, _), (1, _), (5, _), (6, _), (7, _), (8, _), (9, _), (10, _), (11, _), (12, _), (13, _), (14, _), (15, _), (16, _), (68, _)] rfl ⟨rfl, rfl, rfl, rfl, rfl, rfl, rfl, rfl, rfl, rfl, rfl, rfl, rfl, rfl, rfl, trivial⟩ ?_
          refine rw_end ?_
          refine cw_condD rfl (fun hz => ?_) (fun hz => ?_)
          · have en := reachR_of hz
            rw [en]
            refine cw_region ?_
            refine rw_run tab_ok 1 [(0, _), (1, _), (5, _), (6, _), (7, _), (8, _), (9, _), (10, _), (11, _), (12, _), (13, _), (14, _), (16, _), (69, _)] rfl ⟨rfl, rfl, rfl, rfl, rfl, rfl, rfl, rfl, rfl, rfl, rfl, rfl, rfl, rfl, trivial⟩ ?_
            refine rw_op (ot_c rfl rfl rfl Try.call61 (fun w hw => rreachOf A c l w (hw.ro hs) hz)) rfl rfl (fun ⟨A15, c15⟩ _ => ?_)
            try dsimp only
            refine rw_run tab_ok 1 [(0, _), (1, _), (5, _), (6, _), (7, _), (8, _), (9, _), (10, _), (11, _), (12, _), (13, _), (14, _), (15, _), (16, _)] rfl ⟨rfl, rfl, rfl, rfl, rfl, rfl, rfl, rfl, rfl, rfl, rfl, rfl, rfl, rfl, trivial⟩ ?_
            refine rw_join (A15, c15) (trivial) ⟨rfl, rfl, rfl, rfl, rfl, rfl, rfl, rfl, rfl, rfl, rfl, rfl, rfl, rfl, trivial⟩ (by first | exact fun _ h => h | exact fun _ h => h.msub (by repeat (first | exact .z | refine .s (by first | exact .a | exact .b | exact .c | exact .d | exact .e | exact .s .e | exact .s (.s .e) | exact .s (.s (.s .e))) ?_)))
          · have en := reachR_no hz
            refine cw_mem (fun w h => Cw.nilO Int h) ?_
            rw [en]
            refine cw_skip ?_
            refine xw_join (none, 0) (trivial) ⟨rfl, rfl, rfl, rfl, rfl, rfl, rfl, rfl, rfl, rfl, rfl, rfl, rfl, rfl, trivial⟩ (by first | exact fun _ h => h | exact fun _ h => h.msub (by repeat (first | exact .z | refine .s (by first | exact .a | exact .b | exact .c | exact .d | exact .e | exact .s .e | exact .s (.s .e) | exact .s (.s (.s .e))) ?_)))
        · rintro ⟨A15, c15⟩ _
          refine cw_cut (fun g : Option Addr × Nat => True) (fun g => [(5, .slice A5 (nextR l pc).length c5), (6, .int .i64 (nextE l pc)), (7, .slice A7 (reachR l).length c7), (8, .int .i64 (flowE l)), (9, .slice A9 (backR l pc).length c9), (10, .int .i64 (backE l pc)), (11, .int .i64 (flowE l)), (12, .int .i64 (nextE l pc)), (13, .int .i64 (backE l pc)), (14, .slice A14 (nextR l pc).length c14), (15, .slice A15 (reachR l).length c15), (16, .slice g.1 (backR l pc).length g.2)]) (fun g => [ROw (.slice A5 (nextR l pc).length c5) (nextR l pc), ROw (.slice A7 (reachR l).length c7) (reachR l), ROw (.slice A9 (backR l pc).length c9) (backR l pc), ROw (.slice A14 (nextR l pc).length c14) (nextR l pc), ROw (.slice A15 (reachR l).length c15) (reachR l), ROw (.slice g.1 (backR l pc).length g.2) (backR l pc)]) ?_ ?_
          · refine cw_seq ?_
            refine cw_region ?_
            refine rw_run tab_ok 2 [(0, _), (1, _), (5, _), (6, _), (7, _), (8, _), (9, _), (10, _), (11, _), (12, _), (13, _), (14, _), (15, _), (16, _), (72, _)] rfl ⟨rfl, rfl, rfl, rfl, rfl, rfl, rfl, rfl, rfl, rfl, rfl, rfl, rfl, rfl, rfl, trivial⟩ ?_
            refine rw_end ?_
            refine cw_condD rfl (fun hz => ?_) (fun hz => ?_)
            · have en := backR_of hz
              have h40 := codeErr_len (flowE_zero (backE_ok hz).1).1
              rw [en]
              refine cw_region ?_
              refine rw_run tab_ok 2 [(5, _), (6, _), (7, _), (8, _), (9, _), (10, _), (11, _), (12, _), (13, _), (14, _), (15, _), (73, _), (74, _)] rfl ⟨rfl, rfl, rfl, rfl, rfl, rfl, rfl, rfl, rfl, rfl, rfl, rfl, rfl, trivial⟩ ?_
              refine rw_op (ot_c rfl rfl rfl Try.call62 (fun w hw => rbackOf A c l pc w (hw.ro hs) h40)) rfl rfl (fun ⟨A16, c16⟩ _ => ?_)
              try dsimp only
              refine rw_run tab_ok 1 [(5, _), (6, _), (7, _), (8, _), (9, _), (10, _), (11, _), (12, _), (13, _), (14, _), (15, _), (16, _)] rfl ⟨rfl, rfl, rfl, rfl, rfl, rfl, rfl, rfl, rfl, rfl, rfl, rfl, trivial⟩ ?_
              refine rw_join (A16, c16) (trivial) ⟨rfl, rfl, rfl, rfl, rfl, rfl, rfl, rfl, rfl, rfl, rfl, rfl, trivial⟩ (by first | exact fun _ h => h | exact fun _ h => h.msub (by repeat (first | exact .z | refine .s (by first | exact .a | exact .b | exact .c | exact .d | exact .e | exact .s .e | exact .s (.s .e) | exact .s (.s (.s .e))) ?_)))
            · have en := backR_no hz
              refine cw_mem (fun w h => Cw.nilO Int h) ?_
              rw [en]
              refine cw_skip ?_
              refine xw_join (none, 0) (trivial) ⟨rfl, rfl, rfl, rfl, rfl, rfl, rfl, rfl, rfl, rfl, rfl, rfl, trivial⟩ (by first | exact fun _ h => h | exact fun _ h => h.msub (by repeat (first | exact .z | refine .s (by first | exact .a | exact .b | exact .c | exact .d | exact .e | exact .s .e | exact .s (.s .e) | exact .s (.s (.s .e))) ?_)))
          · rintro ⟨A16, c16⟩ _
            refine cw_seq ?_
            refine cw_region ?_
            refine rw_op (ot_c0 rfl rfl rfl Try.call57 (fun w hw => flowBegun_any w)) rfl rfl (fun _ _ => ?_)
            refine rw_run tab_ok 5 [(7, _), (8, _), (9, _), (10, _), (11, _), (13, _), (15, _), (16, _), (77, _), (78, _), (79, _), (80, _), (81, _)] rfl ⟨rfl, rfl, rfl, rfl, rfl, rfl, rfl, rfl, rfl, rfl, rfl, rfl, rfl, trivial⟩ ?_
            refine rw_op (ot_c0 rfl rfl rfl Try.call63 (fun w hw => intsAre_any _ _ _ _ (nextR l pc) (nextR l pc) (nextE l pc) w (SF.at_ (SF.own rfl (by first | exact .a | exact .b | exact .c | exact .d | exact .e | exact .s .e | exact .s (.s .e) | exact .s (.s (.s .e)))) hw) (SF.at_ (SF.own rfl (by first | exact .a | exact .b | exact .c | exact .d | exact .e | exact .s .e | exact .s (.s .e) | exact .s (.s (.s .e)))) hw) rfl nextR_no)) rfl rfl (fun _ _ => ?_)
            refine rw_run tab_ok 6 [(9, _), (10, _), (13, _), (16, _), (84, _), (85, _), (86, _), (87, _), (88, _)] rfl ⟨rfl, rfl, rfl, rfl, rfl, rfl, rfl, rfl, rfl, trivial⟩ ?_
            refine rw_op (ot_c0 rfl rfl rfl Try.call63 (fun w hw => intsAre_any _ _ _ _ (reachR l) (reachR l) (flowE l) w (SF.at_ (SF.own rfl (by first | exact .a | exact .b | exact .c | exact .d | exact .e | exact .s .e | exact .s (.s .e) | exact .s (.s (.s .e)))) hw) (SF.at_ (SF.own rfl (by first | exact .a | exact .b | exact .c | exact .d | exact .e | exact .s .e | exact .s (.s .e) | exact .s (.s (.s .e)))) hw) rfl reachR_no)) rfl rfl (fun _ _ => ?_)
            refine rw_run tab_ok 6 [(91, _), (92, _), (93, _), (94, _), (95, _)] rfl ⟨rfl, rfl, rfl, rfl, rfl, trivial⟩ ?_
            refine rw_op (ot_c0 rfl rfl rfl Try.call63 (fun w hw => intsAre_any _ _ _ _ (backR l pc) (backR l pc) (backE l pc) w (SF.at_ (SF.own rfl (by first | exact .a | exact .b | exact .c | exact .d | exact .e | exact .s .e | exact .s (.s .e) | exact .s (.s (.s .e)))) hw) (SF.at_ (SF.own rfl (by first | exact .a | exact .b | exact .c | exact .d | exact .e | exact .s .e | exact .s (.s .e) | exact .s (.s (.s .e)))) hw) rfl backR_no)) rfl rfl (fun _ _ => ?_)
            refine rw_run tab_ok 2 [(4, _)] rfl ⟨rfl, trivial⟩ ?_
            refine rw_end ?_
            refine cw_ret ?_
            refine xw_ret1 Try.results13 (rv_tmp rfl) ?_
            intro w hw
            exact ⟨rfl, hw.below⟩

set_option maxRecDepth 100000 in
set_option maxHeartbeats 2000000 in
theorem flowBack_any (A : Option Addr) (c : Nat) (l : List MOp) (pc to_ : Int) (w : World) (hs : Sl w (.slice A l.length c) l) :
    Calls Try.prog 12 #[.slice A l.length c, .int .i64 pc, .int .i64 to_] w fun e w' => e = .returned (.bool true) ∧ Below w.heap.size w w' := by
  have b1 := len_bd hs
  refine enter Try.func12 rfl Try.ntmps12 rfl ?_
  refine cw_seq ?_
  refine cw_region ?_
  refine rw_run tab_ok 1 [(0, _), (1, _), (2, _)] rfl ⟨rfl, rfl, rfl, trivial⟩ ?_
  refine rw_end ?_
  refine cw_seq ?_
  refine cw_region ?_
  refine rw_run tab_ok 2 [(0, _), (1, _), (2, _), (12, _), (13, _)] rfl ⟨rfl, rfl, rfl, rfl, rfl, trivial⟩ ?_
  refine rw_op (ot_c rfl rfl rfl Try.call55 (fun w hw => next_any A c l pc w (hw.ro hs))) rfl rfl (fun ⟨A7, c7⟩ _ => ?_)
  try dsimp only
  refine rw_run tab_ok 5 [(0, _), (1, _), (2, _), (7, _), (8, _)] rfl ⟨rfl, rfl, rfl, rfl, rfl, trivial⟩ ?_
  refine rw_end ?_
  refine cw_seq ?_
  refine cw_region ?_
  refine rw_run tab_ok 2 [(1, _), (2, _), (7, _), (8, _), (18, _), (19, _)] rfl ⟨rfl, rfl, rfl, rfl, rfl, rfl, trivial⟩ ?_
  refine rw_op (ot_c rfl rfl rfl Try.call56 (fun w hw => back_any A c l to_ w (hw.ro hs))) rfl rfl (fun ⟨A9, c9⟩ _ => ?_)
  try dsimp only
  refine rw_run tab_ok 5 [(1, _), (2, _), (7, _), (8, _), (9, _), (10, _)] rfl ⟨rfl, rfl, rfl, rfl, rfl, rfl, trivial⟩ ?_
  refine rw_end ?_
  refine cw_seq ?_
  refine cw_seq ?_
  refine cw_region ?_
  refine rw_op (ot_c0 rfl rfl rfl Try.call57 (fun w hw => flowBegun_any w)) rfl rfl (fun _ _ => ?_)
  refine rw_run tab_ok 1 [(1, _), (2, _), (7, _), (8, _), (9, _), (10, _), (24, _)] rfl ⟨rfl, rfl, rfl, rfl, rfl, rfl, rfl, trivial⟩ ?_
  refine rw_end ?_
  refine cw_cond_f rfl ?_
  refine cw_skip (xw_then ?_)
  refine cw_seq ?_
  refine cw_seq ?_
  refine cw_region ?_
  refine rw_run tab_ok 3 [(1, _), (2, _), (7, _), (8, _), (9, _), (10, _), (27, _)] rfl ⟨rfl, rfl, rfl, rfl, rfl, rfl, rfl, trivial⟩ ?_
  refine rw_split (t := 27) rfl (fun h1 => ?_) (fun h1 => ?_)
  · have h1 : ¬ nextE l pc = 0 := by simpa using h1
    rw [nextR_no h1]
    refine rw_run tab_ok 3 [(1, _), (2, _), (7, _), (8, _), (9, _), (10, _), (30, _)] rfl ⟨rfl, rfl, rfl, rfl, rfl, rfl, rfl, trivial⟩ ?_
    refine rw_end ?_
    refine cw_cond_t rfl ?_
    refine cw_seq ?_
    refine cw_region ?_
    refine rw_run tab_ok 3 [(7, _), (9, _), (10, _), (33, _)] rfl ⟨rfl, rfl, rfl, rfl, trivial⟩ ?_
    refine rw_as (t := 33) (v' := .bool false) rfl (by rw [decide_eq_false h1]) ?_
    refine rw_run tab_ok 1 [(9, _), (10, _), (33, _), (34, _)] rfl ⟨rfl, rfl, rfl, rfl, trivial⟩ ?_
    refine rw_s (qs_len Try.underlying41 rfl rfl) rfl rfl ?_
    refine rw_run tab_ok 3 [(9, _), (10, _), (38, _)] rfl ⟨rfl, rfl, rfl, trivial⟩ ?_
    refine rw_as (t := 38) (v' := .bool true) rfl rfl ?_
    refine rw_run tab_ok 3 [(9, _), (38, _), (41, _)] rfl ⟨rfl, rfl, rfl, trivial⟩ ?_
    refine rw_split (t := 41) rfl (fun h2 => ?_) (fun h2 => ?_)
    · refine rw_run tab_ok 6 [(6, _)] rfl ⟨rfl, trivial⟩ ?_
      refine rw_end ?_
      refine cw_ret (xw_thenr ?_)
      refine xw_ret1 Try.results12 (rv_tmp rfl) ?_
      intro w hw
      exact ⟨rfl, hw.below⟩
    · rw [backR_no (of_decide_eq_false h2)]
      refine rw_run tab_ok 1 [(38, _), (41, _), (42, _)] rfl ⟨rfl, rfl, rfl, trivial⟩ ?_
      refine rw_s (qs_len Try.underlying41 rfl rfl) rfl rfl ?_
      refine rw_run tab_ok 4 [(6, _)] rfl ⟨rfl, trivial⟩ ?_
      refine rw_end ?_
      refine cw_ret (xw_thenr ?_)
      refine xw_ret1 Try.results12 (rv_tmp rfl) ?_
      intro w hw
      exact ⟨rfl, hw.below⟩
  · have h1 : nextE l pc = 0 := by simpa using h1
    refine rw_run tab_ok 3 [(1, _), (2, _), (7, _), (8, _), (9, _), (10, _), (30, _)] rfl ⟨rfl, rfl, rfl, rfl, rfl, rfl, rfl, trivial⟩ ?_
    refine rw_end ?_
    refine cw_condN rfl (fun h2 => ?_) (fun h2 => ?_)
    · rw [backR_no h2]
      refine cw_seq ?_
      refine cw_region ?_
      refine rw_run tab_ok 3 [(7, _), (9, _), (10, _), (33, _)] rfl ⟨rfl, rfl, rfl, rfl, trivial⟩ ?_
      refine rw_as (t := 33) (v' := .bool true) rfl (by rw [decide_eq_true h1]) ?_
      refine rw_run tab_ok 8 [(9, _), (38, _), (41, _)] rfl ⟨rfl, rfl, rfl, trivial⟩ ?_
      refine rw_as (t := 41) (v' := .bool false) rfl (by rw [decide_eq_false h2]) ?_
      refine rw_run tab_ok 1 [(38, _), (41, _), (42, _)] rfl ⟨rfl, rfl, rfl, trivial⟩ ?_
      refine rw_s (qs_len Try.underlying41 rfl rfl) rfl rfl ?_
      refine rw_run tab_ok 4 [(6, _)] rfl ⟨rfl, trivial⟩ ?_
      refine rw_end ?_
      refine cw_ret (xw_thenr ?_)
      refine xw_ret1 Try.results12 (rv_tmp rfl) ?_
      intro w hw
      exact ⟨rfl, hw.below⟩
    · refine cw_skip (xw_then ?_)
      refine cw_seq ?_
      refine cw_region ?_
      refine rw_run tab_ok 2 [(1, _), (9, _), (47, _), (48, _)] rfl ⟨rfl, rfl, rfl, rfl, trivial⟩ ?_
      refine rw_op (ot_c0 rfl rfl rfl Try.call46 (fun w hw => has_w _ _ (nextR l pc) to_ w (SF.at_ (SF.own rfl (by first | exact .a | exact .b | exact .c | exact .d | exact .e | exact .s .e | exact .s (.s .e) | exact .s (.s (.s .e)))) hw))) rfl rfl (fun _ _ => ?_)
      refine rw_run tab_ok 2 [(49, _), (50, _), (51, _)] rfl ⟨rfl, rfl, rfl, trivial⟩ ?_
      refine rw_op (ot_c0 rfl rfl rfl Try.call46 (fun w hw => has_w _ _ (backR l to_) pc w (SF.at_ (SF.own rfl (by first | exact .a | exact .b | exact .c | exact .d | exact .e | exact .s .e | exact .s (.s .e) | exact .s (.s (.s .e)))) hw))) rfl rfl (fun _ _ => ?_)
      refine rw_s (qs_eqBw Try.underlying4 rfl rfl rfl) rfl rfl ?_
      refine rw_run tab_ok 1 [(6, _)] rfl ⟨rfl, trivial⟩ ?_
      refine rw_end ?_
      refine cw_ret ?_
      refine xw_ret1 Try.results12 (rv_tmp rfl) ?_
      intro w hw
      exact ⟨ret_bool (by rw [next_back h1 h2]; simp), hw.below⟩
theorem flowTells_law (v : Value) (l : List MOp) (pc : Int) (w : World) (hs : Sl w v l) : Calls Try.prog 13 #[v, .int .i64 pc] w fun e w' => e = .returned (.bool true) ∧ Below w.heap.size w w' := by
  obtain ⟨A, c, rfl, _⟩ := hs.form
  exact flowTells_any A c l pc w hs
theorem flowBack_law (v : Value) (l : List MOp) (pc to_ : Int) (w : World) (hs : Sl w v l) : Calls Try.prog 12 #[v, .int .i64 pc, .int .i64 to_] w fun e w' => e = .returned (.bool true) ∧ Below w.heap.size w w' := by
  obtain ⟨A, c, rfl, _⟩ := hs.form
  exact flowBack_any A c l pc to_ w hs
end Go.Proofs.Ytjojipeodionmaa
