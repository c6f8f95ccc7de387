/- Texts of one proof, one behind the other: lemmas alone. -/
import Derived.Test.YtmnkaalchcomlaaGreatM26T
import Derived.Test.YtmnkaalchcomlaaGreatM24T

-- Fl3
/- Flow: where an op goes on; Next. -/
namespace Go.Proofs.YtmnkaalchcomlaaGreat
open Go.RowKit

theorem after_nil {o : MOp} (pc : Int) (h : o.c = 13) : afterL o pc = [] := by unfold afterL; rw [if_pos h]
theorem after_jump {o : MOp} (pc : Int) (h1 : ¬ o.c = 13) (h : o.c = 10) : afterL o pc = [o.a] := by unfold afterL; rw [if_neg h1, if_pos h]
theorem after_zero {o : MOp} (pc : Int) (h1 : ¬ o.c = 13) (h2 : ¬ o.c = 10) (h : o.c = 11) : afterL o pc = Lib.compact (sorted [pc + 1, o.a]) := by
  obtain ⟨k1, k2⟩ := compact_of (sorted_le [pc + 1, o.a])
  refine rising_eq (after_sorted _ _) k1 fun a => ?_
  rw [k2, sorted_mem, after_mem]
  unfold goesOn
  rw [if_neg h1, if_neg h2, if_pos h]
  simp
theorem after_else {o : MOp} (pc : Int) (h1 : ¬ o.c = 13) (h2 : ¬ o.c = 10) (h : ¬ o.c = 11) : afterL o pc = [pc + 1] := by unfold afterL; rw [if_neg h1, if_neg h2, if_neg h]

set_option maxRecDepth 100000 in
theorem after_any (A : Option Addr) (c : Nat) (l : List MOp) (pc : Nat) (w : World) (hs : Sl w (.slice A l.length c) l) (hp : pc < l.length) :
    Calls Tryz.prog 192 #[.slice A l.length c, .int .i64 (pc : Int)] w fun e w' => ∃ g : Option Addr × Nat, True ∧ e = .returned (.slice g.1 (afterL (opAt l pc) pc).length g.2) ∧ Cw w.heap.size w [ROw (.slice g.1 (afterL (opAt l pc) pc).length g.2) (afterL (opAt l pc) pc)] w' := by
  have b1 := len_bd hs
  have ho := op_i64 hs hp
  have i1 : I64 ((pc : Int) + 1) := by unfold I64; omega
  refine enter Tryz.func192 rfl Tryz.ntmps192 rfl ?_
  refine cw_seq ?_
  refine cw_region ?_
  refine rw_run tab_ok 1 [(0, _), (1, _)] rfl ⟨rfl, rfl, trivial⟩ ?_
  refine rw_end ?_
  refine cw_seq ?_
  refine cw_region ?_
  refine rw_run tab_ok 2 [(1, _), (7, _), (8, _)] rfl ⟨rfl, rfl, rfl, trivial⟩ ?_
  refine rw_s (qs_idx Tryz.underlying111 Tryz.sizeOf51 (.ro hs) (by omega) rfl rfl rfl) rfl rfl ?_
  refine rw_s (qs_ldA (cs := [_, _]) (SF.op (.ro hs) (by omega)) rfl rfl Tryz.isAgg51 Tryz.sizeOf51) rfl rfl ?_
  refine rw_op (ot_alloc Tryz.zeroValue51 rfl rfl) rfl rfl (fun g1 _ => ?_)
  refine rw_op (ot_stb _ fc Tryz.sizeOf51 rfl rfl rfl rfl rfl (by rfl) rfl (by rfl)) rfl rfl (fun _ _ => ?_)
  refine rw_end ?_
  refine cw_seq ?_
  refine cw_seq ?_
  refine cw_region ?_
  refine rw_run tab_ok 1 [(1, _), (5, _), (11, _)] rfl ⟨rfl, rfl, rfl, trivial⟩ ?_
  refine rw_s (qs_ldb fc Tryz.isAgg3 rfl rfl (by rfl)) rfl rfl ?_
  refine rw_end ?_
  refine cw_block ?_
  refine cw_seq ?_
  refine cw_region ?_
  refine rw_run tab_ok 2 [(1, _), (5, _), (12, _), (13, _)] rfl ⟨rfl, rfl, rfl, rfl, trivial⟩ ?_
  refine rw_end ?_
  refine cw_condD rfl (fun h1 => ?_) (fun h1 => ?_)
  · have e := after_nil (o := opAt l pc) pc h1
    refine cw_seq ?_
    refine cw_region ?_
    refine rw_run tab_ok 1 [(4, _)] rfl ⟨rfl, trivial⟩ ?_
    refine rw_end ?_
    refine cw_ret (xw_blkr (xw_thenr ?_))
    refine xw_ret1 Tryz.results192 (rv_tmp rfl) ?_
    intro w hw
    refine ⟨(none, 0), trivial, by rw [e]; rfl, ?_⟩
    rw [e]
    exact (Cw.nilO Int hw).msub ms
  · refine cw_seq ?_
    refine cw_region ?_
    refine rw_run tab_ok 2 [(1, _), (5, _), (12, _), (15, _)] rfl ⟨rfl, rfl, rfl, rfl, trivial⟩ ?_
    refine rw_end ?_
    refine cw_condD rfl (fun h2 => ?_) (fun h2 => ?_)
    · have e := after_jump (o := opAt l pc) pc h1 h2
      refine cw_seq ?_
      refine cw_region ?_
      refine rw_run tab_ok 1 [(17, _)] rfl ⟨rfl, trivial⟩ ?_
      refine rw_s (qs_ldb fc Tryz.isAgg3 rfl rfl (by rfl)) rfl rfl ?_
      refine rw_op (ot_bsl (cs := [_]) Tryz.underlying27 Tryz.sizeOf3 Tryz.zeroValue3 rfl rfl rfl rfl rfl) rfl rfl (fun g2 _ => ?_)
      refine rw_run tab_ok 1 [(4, _)] rfl ⟨rfl, trivial⟩ ?_
      refine rw_end ?_
      refine cw_mem (fun w h => row_ow (α := Int) (m := 1) [(opAt l pc).a] rfl (one_i64 ho.2) rfl (by decide) h) ?_
      refine cw_ret (xw_blkr (xw_thenr ?_))
      refine xw_ret1 Tryz.results192 (rv_tmp rfl) ?_
      intro w hw
      refine ⟨(_, _), trivial, by rw [e]; rfl, ?_⟩
      rw [e]
      exact hw.msub ms
    · refine cw_seq ?_
      refine cw_region ?_
      refine rw_run tab_ok 2 [(1, _), (5, _), (20, _)] rfl ⟨rfl, rfl, rfl, trivial⟩ ?_
      refine rw_end ?_
      refine cw_condD rfl (fun h3 => ?_) (fun h3 => ?_)
      · have e := after_zero (o := opAt l pc) pc h1 h2 h3
        refine cw_seq ?_
        refine cw_region ?_
        refine rw_run tab_ok 1 [(5, _), (22, _)] rfl ⟨rfl, rfl, trivial⟩ ?_
        refine rw_s (qs_add rfl rfl rfl (by omega)) rfl rfl ?_
        refine rw_run tab_ok 1 [(23, _), (24, _)] rfl ⟨rfl, rfl, trivial⟩ ?_
        refine rw_s (qs_ldb fc Tryz.isAgg3 rfl rfl (by rfl)) rfl rfl ?_
        refine rw_op (ot_bsl (cs := [_, _]) Tryz.underlying27 Tryz.sizeOf3 Tryz.zeroValue3 rfl rfl rfl rfl rfl) rfl rfl (fun g3 _ => ?_)
        refine rw_run tab_ok 1 [(6, _)] rfl ⟨rfl, trivial⟩ ?_
        refine rw_end ?_
        refine cw_mem (fun w h => row_ow (α := Int) (m := 2) [(pc : Int) + 1, (opAt l pc).a] rfl (two_i64 i1 ho.2) rfl (by decide) h) ?_
        have h2i : ∀ x ∈ [(pc : Int) + 1, (opAt l pc).a], I64 x := two_i64 i1 ho.2
        refine cw_seq ?_
        refine cw_region ?_
        refine rw_run tab_ok 1 [(6, _), (27, _)] rfl ⟨rfl, rfl, trivial⟩ ?_
        refine rw_op (ot_call rfl rfl rfl Tryz.call147 (fun w hw => sort_own hw (by omega) h2i)) rfl rfl (fun _ _ => ?_)
        refine rw_end ?_
        refine cw_seq ?_
        refine cw_region ?_
        refine rw_run tab_ok 1 [(29, _)] rfl ⟨rfl, trivial⟩ ?_
        refine rw_op (ot_call rfl rfl rfl Tryz.call148 (fun w hw => compact_own hw (by omega) (fun x hx => h2i x (sorted_mem.1 hx)))) rfl rfl (fun _ _ => ?_)
        refine rw_run tab_ok 1 [(4, _)] rfl ⟨rfl, trivial⟩ ?_
        refine rw_end ?_
        refine cw_ret (xw_blkr (xw_thenr ?_))
        refine xw_ret1 Tryz.results192 (rv_tmp rfl) ?_
        intro w hw
        refine ⟨(_, _), trivial, by rw [e], ?_⟩
        rw [e]
        exact hw.msub ms
      · have e := after_else (o := opAt l pc) pc h1 h2 h3
        refine cw_skip (xw_blkn (xw_then ?_))
        refine cw_seq ?_
        refine cw_region ?_
        refine rw_run tab_ok 1 [(31, _)] rfl ⟨rfl, trivial⟩ ?_
        refine rw_s (qs_add rfl rfl rfl (by omega)) rfl rfl ?_
        refine rw_op (ot_bsl (cs := [_]) Tryz.underlying27 Tryz.sizeOf3 Tryz.zeroValue3 rfl rfl rfl rfl rfl) rfl rfl (fun g4 _ => ?_)
        refine rw_run tab_ok 1 [(4, _)] rfl ⟨rfl, trivial⟩ ?_
        refine rw_end ?_
        refine cw_mem (fun w h => row_ow (α := Int) (m := 1) [(pc : Int) + 1] rfl (one_i64 i1) rfl (by decide) h) ?_
        refine cw_ret ?_
        refine xw_ret1 Tryz.results192 (rv_tmp rfl) ?_
        intro w hw
        refine ⟨(_, _), trivial, by rw [e]; rfl, ?_⟩
        rw [e]
        exact hw.msub ms
set_option maxRecDepth 100000 in
theorem goesOn_any (A : Option Addr) (c : Nat) (l : List MOp) (pc : Nat) (to_ : Int) (w : World) (hs : Sl w (.slice A l.length c) l) (hp : pc < l.length) :
    Calls Tryz.prog 169 #[.slice A l.length c, .int .i64 (pc : Int), .int .i64 to_] w fun e w' => e = .returned (.bool (goesOn (opAt l pc) pc to_)) ∧ Below w.heap.size w w' := by
  have b1 := len_bd hs
  refine enter Tryz.func169 rfl Tryz.ntmps169 rfl ?_
  refine cw_seq ?_
  refine cw_region ?_
  refine rw_run tab_ok 1 [(0, _), (1, _), (2, _)] rfl ⟨rfl, rfl, rfl, trivial⟩ ?_
  refine rw_end ?_
  refine cw_seq ?_
  refine cw_seq ?_
  refine cw_region ?_
  refine rw_run tab_ok 2 [(0, _), (1, _), (2, _), (7, _), (8, _)] rfl ⟨rfl, rfl, rfl, rfl, rfl, trivial⟩ ?_
  refine rw_s (qs_idx Tryz.underlying111 Tryz.sizeOf51 (.ro hs) (by omega) rfl rfl rfl) rfl rfl ?_
  refine rw_run tab_ok 1 [(0, _), (1, _), (2, _), (10, _)] rfl ⟨rfl, rfl, rfl, rfl, trivial⟩ ?_
  refine rw_s (qs_ld (SF.opc (.ro hs) (by omega)) rfl rfl Tryz.isAgg3) rfl rfl ?_
  refine rw_end ?_
  refine cw_block ?_
  refine cw_seq ?_
  refine cw_region ?_
  refine rw_run tab_ok 2 [(0, _), (1, _), (2, _), (11, _), (12, _)] rfl ⟨rfl, rfl, rfl, rfl, rfl, trivial⟩ ?_
  refine rw_end ?_
  refine cw_condD rfl (fun h1 => ?_) (fun h1 => ?_)
  · refine cw_seq ?_
    refine cw_region ?_
    refine rw_run tab_ok 1 [(6, _)] rfl ⟨rfl, trivial⟩ ?_
    refine rw_end ?_
    refine cw_ret (xw_blkr (xw_thenr ?_))
    refine xw_ret1 Tryz.results169 (rv_tmp rfl) ?_
    intro w hw
    exact ⟨ret_bool (by unfold goesOn; rw [if_pos h1]), hw.below⟩
  · refine cw_seq ?_
    refine cw_region ?_
    refine rw_run tab_ok 2 [(0, _), (1, _), (2, _), (11, _), (14, _)] rfl ⟨rfl, rfl, rfl, rfl, rfl, trivial⟩ ?_
    refine rw_end ?_
    refine cw_condD rfl (fun h2 => ?_) (fun h2 => ?_)
    · refine cw_seq ?_
      refine cw_region ?_
      refine rw_run tab_ok 3 [(16, _), (17, _), (18, _)] rfl ⟨rfl, rfl, rfl, trivial⟩ ?_
      refine rw_s (qs_idx Tryz.underlying111 Tryz.sizeOf51 (.ro hs) (by omega) rfl rfl rfl) rfl rfl ?_
      refine rw_run tab_ok 1 [(16, _), (20, _)] rfl ⟨rfl, rfl, trivial⟩ ?_
      refine rw_s (qs_ld (SF.opa (.ro hs) (by omega)) rfl rfl Tryz.isAgg3) rfl rfl ?_
      refine rw_run tab_ok 2 [(6, _)] rfl ⟨rfl, trivial⟩ ?_
      refine rw_end ?_
      refine cw_ret (xw_blkr (xw_thenr ?_))
      refine xw_ret1 Tryz.results169 (rv_tmp rfl) ?_
      intro w hw
      exact ⟨ret_bool (by unfold goesOn; rw [if_neg h1, if_pos h2]), hw.below⟩
    · refine cw_seq ?_
      refine cw_region ?_
      refine rw_run tab_ok 2 [(0, _), (1, _), (2, _), (23, _)] rfl ⟨rfl, rfl, rfl, rfl, trivial⟩ ?_
      refine rw_end ?_
      refine cw_condD rfl (fun h3 => ?_) (fun h3 => ?_)
      · refine cw_seq ?_
        refine cw_region ?_
        refine rw_run tab_ok 2 [(0, _), (1, _), (2, _), (25, _), (26, _)] rfl ⟨rfl, rfl, rfl, rfl, rfl, trivial⟩ ?_
        refine rw_s (qs_add rfl rfl rfl (by omega)) rfl rfl ?_
        refine rw_run tab_ok 2 [(0, _), (1, _), (2, _), (29, _)] rfl ⟨rfl, rfl, rfl, rfl, trivial⟩ ?_
        refine rw_split (t := 29) rfl (fun h4 => ?_) (fun h4 => ?_)
        · refine rw_run tab_ok 9 [(6, _)] rfl ⟨rfl, trivial⟩ ?_
          refine rw_end ?_
          refine cw_ret (xw_blkr (xw_thenr ?_))
          refine xw_ret1 Tryz.results169 (rv_tmp rfl) ?_
          intro w hw
          exact ⟨ret_bool (by unfold goesOn; rw [if_neg h1, if_neg h2, if_pos h3, h4]; rfl), hw.below⟩
        · refine rw_run tab_ok 3 [(29, _), (30, _), (31, _), (32, _)] rfl ⟨rfl, rfl, rfl, rfl, trivial⟩ ?_
          refine rw_s (qs_idx Tryz.underlying111 Tryz.sizeOf51 (.ro hs) (by omega) rfl rfl rfl) rfl rfl ?_
          refine rw_run tab_ok 1 [(29, _), (30, _), (34, _)] rfl ⟨rfl, rfl, rfl, trivial⟩ ?_
          refine rw_s (qs_ld (SF.opa (.ro hs) (by omega)) rfl rfl Tryz.isAgg3) rfl rfl ?_
          refine rw_run tab_ok 3 [(6, _)] rfl ⟨rfl, trivial⟩ ?_
          refine rw_end ?_
          refine cw_ret (xw_blkr (xw_thenr ?_))
          refine xw_ret1 Tryz.results169 (rv_tmp rfl) ?_
          intro w hw
          exact ⟨ret_bool (by unfold goesOn; rw [if_neg h1, if_neg h2, if_pos h3, h4]; rfl), hw.below⟩
      · refine cw_skip (xw_blkn (xw_then ?_))
        refine cw_seq ?_
        refine cw_region ?_
        refine rw_run tab_ok 2 [(38, _), (39, _)] rfl ⟨rfl, rfl, trivial⟩ ?_
        refine rw_s (qs_add rfl rfl rfl (by omega)) rfl rfl ?_
        refine rw_run tab_ok 2 [(6, _)] rfl ⟨rfl, trivial⟩ ?_
        refine rw_end ?_
        refine cw_ret ?_
        refine xw_ret1 Tryz.results169 (rv_tmp rfl) ?_
        intro w hw
        exact ⟨ret_bool (by unfold goesOn; rw [if_neg h1, if_neg h2, if_neg h3]), hw.below⟩

set_option maxRecDepth 100000 in
theorem rnextOf (A : Option Addr) (c : Nat) (l : List MOp) (pc : Nat) (w : World) (hs : Sl w (.slice A l.length c) l) (hp : pc < l.length) (h40 : l.length ≤ 40) :
    Calls Tryz.prog 127 #[.slice A l.length c, .int .i64 (pc : Int)] w fun e w' => ∃ g : Option Addr × Nat, True ∧ e = .returned (.slice g.1 (nextL l pc).length g.2) ∧ Cw w.heap.size w [ROw (.slice g.1 (nextL l pc).length g.2) (nextL l pc)] w' := by
  have b1 := len_bd hs
  refine enter Tryz.func127 rfl Tryz.ntmps127 rfl ?_
  refine cw_seq ?_
  refine cw_region ?_
  refine rw_run tab_ok 1 [(0, _), (1, _)] rfl ⟨rfl, rfl, trivial⟩ ?_
  refine rw_end ?_
  refine cw_seq ?_
  refine cw_region ?_
  refine rw_run tab_ok 1 [(0, _), (1, _), (5, _)] rfl ⟨rfl, rfl, rfl, trivial⟩ ?_
  refine rw_end ?_
  refine cw_seq ?_
  refine cw_seq ?_
  refine cw_region ?_
  refine rw_run tab_ok 1 [(0, _), (1, _), (5, _), (6, _)] rfl ⟨rfl, rfl, rfl, rfl, trivial⟩ ?_
  refine rw_end ?_
  refine cw_mem (fun w h => Cw.nilO Int h) ?_
  refine cw_block (cw_loop (fun g : Nat × Option Addr × Nat => g.1 ≤ l.length + 1) (fun g => l.length + 1 - g.1) (fun g => [(0, .slice A l.length c), (1, .int .i64 (pc : Int)), (5, .slice g.2.1 ((upto g.1).filter (goesOn (opAt l pc) (pc : Int))).length g.2.2), (6, .int .i64 (g.1 : Int))]) (fun g => [ROw (.slice g.2.1 ((upto g.1).filter (goesOn (opAt l pc) (pc : Int))).length g.2.2) ((upto g.1).filter (goesOn (opAt l pc) (pc : Int)))]) (0, none, 0) (Nat.zero_le _) ⟨rfl, rfl, rfl, rfl, trivial⟩ me ?_)
  rintro ⟨k, A1, c1⟩ hk'
  try dsimp only
  have hk : k ≤ l.length + 1 := hk'
  have hfl := filter_len (goesOn (opAt l pc) (pc : Int)) k
  refine cw_seq ?_
  refine cw_seq ?_
  refine cw_region ?_
  refine rw_run tab_ok 2 [(0, _), (1, _), (5, _), (6, _), (7, _), (8, _)] rfl ⟨rfl, rfl, rfl, rfl, rfl, rfl, trivial⟩ ?_
  refine rw_s (qs_len Tryz.underlying111 rfl rfl) rfl rfl ?_
  refine rw_run tab_ok 1 [(0, _), (1, _), (5, _), (6, _), (10, _)] rfl ⟨rfl, rfl, rfl, rfl, rfl, trivial⟩ ?_
  refine rw_end ?_
  refine cw_condD rfl (fun hlt => ?_) (fun hlt => ?_)
  · refine cw_skip (xw_then ?_)
    refine cw_seq ?_
    refine cw_block ?_
    refine cw_seq ?_
    refine cw_region ?_
    refine rw_run tab_ok 3 [(0, _), (1, _), (5, _), (6, _), (13, _), (14, _), (15, _)] rfl ⟨rfl, rfl, rfl, rfl, rfl, rfl, rfl, trivial⟩ ?_
    refine rw_op (ot_c0 rfl rfl rfl Tryz.call169 (fun w hw => goesOn_any A c l pc (k : Int) w (hw.ro hs) hp)) rfl rfl (fun _ _ => ?_)
    refine rw_end ?_
    refine cw_cond rfl (fun hg => ?_) (fun hg => ?_)
    · have hg : (goesOn (opAt l pc) (pc : Int)) (k : Int) = true := hg
      refine cw_region ?_
      refine rw_run tab_ok 2 [(0, _), (1, _), (6, _), (17, _), (18, _)] rfl ⟨rfl, rfl, rfl, rfl, rfl, trivial⟩ ?_
      refine rw_op (ot_bsl (cs := [_]) Tryz.underlying27 Tryz.sizeOf3 Tryz.zeroValue3 rfl rfl rfl rfl rfl) rfl rfl (fun g1 _ => ?_)
      refine rw_op (ot_app1 (α := Int) (bytes := 8) (k : Int) [] (filter_yes hg) Tryz.underlying27 (info_ex Tryz.inI) rfl (perm2 fc fc) (hel_int (by unfold I64; omega)) (by omega) (by omega) rfl rfl rfl) rfl rfl (fun ⟨A4, c4⟩ _ => ?_)
      try dsimp only
      refine rw_run tab_ok 1 [(0, _), (1, _), (5, _), (6, _)] rfl ⟨rfl, rfl, rfl, rfl, trivial⟩ ?_
      refine rw_endx (xw_blkn (xw_then ?_))
      refine cw_region ?_
      refine rw_run tab_ok 1 [(0, _), (1, _), (5, _), (11, _)] rfl ⟨rfl, rfl, rfl, rfl, trivial⟩ ?_
      refine rw_s (qs_add rfl rfl rfl (by omega)) rfl rfl ?_
      refine rw_run tab_ok 1 [(0, _), (1, _), (5, _), (6, _)] rfl ⟨rfl, rfl, rfl, rfl, trivial⟩ ?_
      refine rw_round (k + 1, A4, c4) (by show k + 1 ≤ _; omega) (by show _ - _ < _ - _; omega) ⟨rfl, rfl, rfl, rfl, trivial⟩ me
    · have hg : ¬ (goesOn (opAt l pc) (pc : Int)) (k : Int) = true := by rw [hg]; decide
      refine cw_skip (xw_blkn (xw_then ?_))
      refine cw_region ?_
      refine rw_run tab_ok 1 [(0, _), (1, _), (5, _), (11, _)] rfl ⟨rfl, rfl, rfl, rfl, trivial⟩ ?_
      refine rw_s (qs_add rfl rfl rfl (by omega)) rfl rfl ?_
      refine rw_run tab_ok 1 [(0, _), (1, _), (5, _), (6, _)] rfl ⟨rfl, rfl, rfl, rfl, trivial⟩ ?_
      rw [← filter_no hg]
      refine rw_round (k + 1, A1, c1) (by show k + 1 ≤ _; omega) (by show _ - _ < _ - _; omega) ⟨rfl, rfl, rfl, rfl, trivial⟩ me
  · obtain rfl : k = l.length + 1 := by omega
    refine cw_exit (xw_thenx (xw_thenx (xw_blk (xw_then ?_))))
    refine cw_seq ?_
    refine cw_region ?_
    refine rw_run tab_ok 2 [(4, _)] rfl ⟨rfl, trivial⟩ ?_
    refine rw_end ?_
    refine cw_ret ?_
    refine xw_ret1 Tryz.results127 (rv_tmp rfl) ?_
    intro w hw
    exact ⟨(A1, c1), trivial, rfl, hw⟩
end Go.Proofs.YtmnkaalchcomlaaGreat

-- Fl5
/- Flow: all that may be come to; Reach. -/
namespace Go.Proofs.YtmnkaalchcomlaaGreat
open Go.RowKit

/-- How many are not met. -/
def unmet (m : List Bool) : Nat := (List.range m.length).countP fun i => !m.getD i false
theorem countP_lt {p q : Nat → Bool} : ∀ {l : List Nat} {x0 : Nat}, (∀ x ∈ l, p x = true → q x = true) → x0 ∈ l → q x0 = true → p x0 = false → l.countP p < l.countP q
  | [], _, _, h, _, _ => by simp at h
  | a :: l, x0, h, hx, h1, h2 => by
    rw [List.countP_cons, List.countP_cons]
    rcases List.mem_cons.1 hx with e | hx
    · subst e
      have := List.countP_mono_left (l := l) fun x hx => h x (List.mem_cons_of_mem _ hx)
      simp only [h1, h2, if_true, Bool.false_eq_true, if_false]
      omega
    · have := countP_lt (fun x hx => h x (List.mem_cons_of_mem _ hx)) hx h1 h2
      have h5 : (if p a = true then 1 else 0) ≤ (if q a = true then 1 else 0) := by
        by_cases ha : p a = true
        · rw [if_pos ha, if_pos (h a (by simp) ha)]; exact Nat.le_refl _
        · rw [if_neg ha]; exact Nat.zero_le _
      omega
/-- m is met where m0 is. -/
def Met (m0 m : List Bool) : Prop := m.length = m0.length ∧ ∀ i, m0.getD i false = true → m.getD i false = true
theorem Met.refl (m : List Bool) : Met m m := ⟨rfl, fun _ h => h⟩
theorem Met.trans {a b c : List Bool} (h1 : Met a b) (h2 : Met b c) : Met a c := ⟨h2.1.trans h1.1, fun i h => h2.2 i (h1.2 i h)⟩
theorem Met.unmet {a b : List Bool} (h : Met a b) : unmet b ≤ unmet a := by
  unfold Proofs.YtmnkaalchcomlaaGreat.unmet
  rw [h.1]
  refine List.countP_mono_left fun x _ hx => ?_
  cases e : a.getD x false
  · rfl
  · rw [h.2 x e] at hx; exact hx
theorem set_getD (m : List Bool) (k i : Nat) (hk : k < m.length) : (m.set k true).getD i false = if i = k then true else m.getD i false := by
  rw [List.getD_eq_getElem?_getD, List.getD_eq_getElem?_getD, List.getElem?_set]
  by_cases h : k = i
  · subst h; rw [if_pos rfl, if_pos hk, if_pos rfl]; rfl
  · rw [if_neg h, if_neg (fun e => h e.symm)]
theorem Met.set {m : List Bool} {k : Nat} (hk : k < m.length) : Met m (m.set k true) := ⟨by simp, fun i h => by rw [set_getD m k i hk]; split; rfl; exact h⟩
theorem unmet_set {m : List Bool} {k : Nat} (hk : k < m.length) (h : m.getD k false = false) : Proofs.YtmnkaalchcomlaaGreat.unmet (m.set k true) < Proofs.YtmnkaalchcomlaaGreat.unmet m := by
  unfold Proofs.YtmnkaalchcomlaaGreat.unmet
  rw [List.length_set]
  refine countP_lt (x0 := k) (fun x _ hx => ?_) (List.mem_range.2 hk) (by rw [h]; rfl) (by rw [set_getD m k k hk, if_pos rfl]; rfl)
  rw [set_getD m k x hk] at hx
  split at hx
  · cases hx
  · exact hx
/-- What a visit does. -/
structure VP (l : List MOp) (m0 : List Bool) (pc : Nat) (m : List Bool) : Prop where
  met : Met m0 m
  self : m.getD pc false = true
  new : ∀ i, m.getD i false = true → m0.getD i false = false → RchF l pc i ∧ (i < l.length → ∀ q : Nat, goesOn (opAt l i) i q = true → m.getD q false = true)
/-- .. with the first j of those where it goes on visited. -/
structure LP (l : List MOp) (m0 : List Bool) (pc : Nat) (L : List Int) (j : Nat) (m : List Bool) : Prop where
  le : j ≤ L.length
  met : Met m0 m
  self : m.getD pc false = true
  new : ∀ i, m.getD i false = true → m0.getD i false = false → RchF l pc i ∧ (i ≠ pc → i < l.length → ∀ q : Nat, goesOn (opAt l i) i q = true → m.getD q false = true)
  old : ∀ i, i < j → m.getD (L.getD i 0).toNat false = true
section
variable {l : List MOp} {m0 m m2 : List Bool} {pc j : Nat}
theorem LP.start (hp : pc < m0.length) (h : m0.getD pc false = false) (L : List Int) : LP l m0 pc L 0 (m0.set pc true) := by
  refine ⟨Nat.zero_le _, .set hp, by rw [set_getD _ _ _ hp, if_pos rfl], fun i h1 h2 => ?_, fun i h => absurd h (by omega)⟩
  rw [set_getD _ _ _ hp] at h1
  split at h1
  · rename_i e; subst e; exact ⟨.refl, fun h => absurd rfl h⟩
  · rw [h2] at h1; cases h1
theorem LP.next (h : LP l m0 pc (afterL (opAt l pc) pc) j m) (hp : pc < l.length) (hj : j < (afterL (opAt l pc) pc).length) (h0 : 0 ≤ (afterL (opAt l pc) pc).getD j 0) (hv : VP l m ((afterL (opAt l pc) pc).getD j 0).toNat m2) : LP l m0 pc (afterL (opAt l pc) pc) (j + 1) m2 := by
  have hm := h.met.trans hv.met
  refine ⟨hj, hm, hv.met.2 _ h.self, fun i h1 h2 => ?_, fun i hi => ?_⟩
  · cases e : m.getD i false
    · obtain ⟨h3, h4⟩ := hv.new i h1 e
      refine ⟨?_, fun _ => h4⟩
      refine RchF.trans (.step .refl hp ?_) h3
      have : (afterL (opAt l pc) pc).getD j 0 ∈ afterL (opAt l pc) pc := by rw [List.getD_eq_getElem?_getD, List.getElem?_eq_getElem hj]; exact List.getElem_mem hj
      have := (after_mem _ _ _).1 this
      rw [Int.toNat_of_nonneg h0]
      exact this
    · obtain ⟨h3, h4⟩ := h.new i e h2
      exact ⟨h3, fun a b q c => hv.met.2 _ (h4 a b q c)⟩
  · by_cases e : i = j
    · subst e; exact hv.self
    · exact hv.met.2 _ (h.old i (by omega))
theorem VP.last (hp : pc < m0.length) (h : m0.getD pc false = false) (hl : ¬ pc < l.length) : VP l m0 pc (m0.set pc true) := by
  have h := LP.start (l := l) hp h []
  refine ⟨h.met, h.self, fun i h1 h2 => ?_⟩
  obtain ⟨h3, h4⟩ := h.new i h1 h2
  exact ⟨h3, fun hi => by by_cases e : i = pc; exact absurd (e ▸ hi) hl; exact h4 e hi⟩
/-- All is met that may be come to. -/
theorem VP.all {n : Nat} (h : VP l (List.replicate n false) 0 m) (_ : n = l.length + 1) (_ : flowE l = 0) (q : Nat) : m.getD q false = true ↔ Rch l q := by
  have h0 : ∀ i, (List.replicate n false).getD i false = false := fun i => by rw [List.getD_eq_getElem?_getD, List.getElem?_replicate]; split <;> rfl
  constructor
  · exact fun hq => (h.new q hq (h0 q)).1
  · intro hr
    induction hr with
    | refl => exact h.self
    | step h1 h2 h3 ih => exact (h.new _ ih (h0 _)).2 h2 _ h3
theorem Rch.le (hf : flowE l = 0) {q : Nat} (h : Rch l q) : q ≤ l.length := by
  cases h with
  | refl => omega
  | step h1 h2 h3 => have := goes_in hf h2 h3; omega
end

end Go.Proofs.YtmnkaalchcomlaaGreat

-- Fl6
/- Flow: All, Reach; the document's. -/
namespace Go.Proofs.YtmnkaalchcomlaaGreat
open Go.RowKit

/-- Some that may be come to. -/
def MRo (l : List MOp) (m : List Bool) : Prop := m.length = l.length + 1 ∧ m.getD 0 false = true ∧ ∀ i, m.getD i false = true → Rch l i
def ClosedR (l : List MOp) (m : List Bool) : Prop := ∀ p q, p < l.length → q ≤ l.length → m.getD p false = true → goesOn (opAt l p) p q = true → m.getD q false = true
structure RI (l : List MOp) (m : List Bool) (p q : Nat) (m2 : List Bool) (b : Bool) : Prop where
  ro : MRo l m2
  met : Met m m2
  lt : b = true → unmet m2 < unmet m
  eq : b = false → m2 = m ∧ ∀ p' q' : Nat, (p' < p ∨ p' = p ∧ q' < q) → p' < l.length → q' ≤ l.length → m.getD p' false = true → goesOn (opAt l p') p' q' = true → m.getD q' false = true
section
variable {l : List MOp} {m m2 : List Bool} {p q : Nat} {b : Bool}
theorem RI.start (h : MRo l m) : RI l m 0 0 m false := ⟨h, .refl _, (fun h => by cases h), fun _ => ⟨rfl, fun p' q' h => by omega⟩⟩
theorem RI.row (h : RI l m p (l.length + 1) m2 b) : RI l m (p + 1) 0 m2 b := ⟨h.ro, h.met, h.lt, fun e => ⟨(h.eq e).1, fun p' q' h1 h2 h3 => (h.eq e).2 p' q' (by omega) h2 h3⟩⟩
theorem RI.skip (h : RI l m p q m2 b) (hn : m2.getD p false = true → goesOn (opAt l p) p q = true → m2.getD q false = true) : RI l m p (q + 1) m2 b := by
  refine ⟨h.ro, h.met, h.lt, fun e => ⟨(h.eq e).1, fun p' q' h1 h2 h3 h4 h5 => ?_⟩⟩
  obtain ⟨e1, e2⟩ := h.eq e
  subst e1
  by_cases h6 : p' = p ∧ q' = q
  · obtain ⟨rfl, rfl⟩ := h6; exact hn h4 h5
  · exact e2 p' q' (by omega) h2 h3 h4 h5
theorem RI.set (h : RI l m p q m2 b) (hp : p < l.length) (hq : q ≤ l.length) (h1 : m2.getD p false = true) (h2 : m2.getD q false = false) (h3 : goesOn (opAt l p) p q = true) : RI l m p (q + 1) (m2.set q true) true := by
  have hl := h.ro.1
  have hu := unmet_set (m := m2) (k := q) (by omega) h2
  have hu2 := h.met.unmet
  refine ⟨⟨by simp [hl], ?_, fun i hi => ?_⟩, h.met.trans (.set (by omega)), fun _ => by omega, fun e => by cases e⟩
  · rw [set_getD _ _ _ (by omega)]; split; rfl; exact h.ro.2.1
  · rw [set_getD _ _ _ (by omega)] at hi
    split at hi
    · rename_i e; subst e; exact .step (h.ro.2.2 p h1) hp h3
    · exact h.ro.2.2 i hi
theorem RI.done (h : RI l m l.length 0 m2 b) : MRo l m2 ∧ (b = false → ClosedR l m2) ∧ unmet m2 + b.toNat < unmet m + true.toNat := by
  refine ⟨h.ro, fun e p q hp hq h1 h2 => ?_, ?_⟩
  · obtain ⟨e1, e2⟩ := h.eq e
    subst e1
    exact e2 p q (.inl hp) hp hq h1 h2
  · cases b
    · rw [(h.eq rfl).1]; simp
    · have := h.lt rfl; simpa using this
theorem MRo.all (h : MRo l m) (hc : ClosedR l m) (hf : flowE l = 0) (q : Nat) : m.getD q false = true ↔ Rch l q := by
  refine ⟨h.2.2 q, fun hr => ?_⟩
  induction hr with
  | refl => exact h.2.1
  | step h1 h2 h3 ih => exact hc _ _ h2 (by have := goes_in hf h2 h3; omega) ih h3
theorem MRo.first (l : List MOp) : MRo l ((List.replicate (l.length + 1) false).set 0 true) := by
  refine ⟨by simp, by rw [set_getD _ _ _ (by simp), if_pos rfl], fun i hi => ?_⟩
  rw [set_getD _ _ _ (by simp)] at hi
  split at hi
  · rename_i e; subst e; exact .refl
  · rw [List.getD_eq_getElem?_getD, List.getElem?_replicate] at hi
    split at hi <;> cases hi
end
end Go.Proofs.YtmnkaalchcomlaaGreat

