/- Texts of one proof, one behind the other: lemmas alone. -/
import Derived.Test.YtpacloheigifkaaGreatM25V
import Derived.Test.YtpacloheigifkaaGreatM24V

-- Fl3
/- Flow: where an op goes on; Next. -/
namespace Go.Proofs.YtpacloheigifkaaGreat
open Go.RowKit
theorem after_nil {o : MOp} (pc : Int) (h : o.c = 13) : afterL o pc = [] := by unfold afterL; rw [if_pos h]
theorem after_jump {o : MOp} (pc : Int) (h1 : ¬ o.c = 13) (h : o.c = 10) : afterL o pc = [o.a] := by unfold afterL; rw [if_neg h1, if_pos h]
theorem after_zero {o : MOp} (pc : Int) (h1 : ¬ o.c = 13) (h2 : ¬ o.c = 10) (h : o.c = 11) : afterL o pc = Lib.compact (sorted [pc + 1, o.a]) := by
 obtain ⟨k1, k2⟩ := compact_of (sorted_le [pc + 1, o.a])
 refine rising_eq (after_sorted _ _) k1 fun a => ?_
 rw [k2, sorted_mem, after_mem]
 unfold goesOn
 rw [if_neg h1, if_neg h2, if_pos h]
 simp
theorem after_else {o : MOp} (pc : Int) (h1 : ¬ o.c = 13) (h2 : ¬ o.c = 10) (h : ¬ o.c = 11) : afterL o pc = [pc + 1] := by unfold afterL; rw [if_neg h1, if_neg h2, if_neg h]
set_option maxRecDepth 100000 in
theorem after_any (A : Option Addr) (c : Nat) (l : List MOp) (pc : Nat) (w : World) (hs : Sl w (.slice A l.length c) l) (hp : pc < l.length) :
  Calls Tryz.prog 168 #[.slice A l.length c, .int .i64 (pc : Int)] w fun e w' => ∃ g : Option Addr × Nat, True ∧ e = .returned (.slice g.1 (afterL (opAt l pc) pc).length g.2) ∧ Cw w.heap.size w [ROw (.slice g.1 (afterL (opAt l pc) pc).length g.2) (afterL (opAt l pc) pc)] w' := by
 have b1 := len_bd hs
 have ho := op_i64 hs hp
 have i1 : I64 ((pc : Int) + 1) := by unfold I64; omega
 refine enter Tryz.func168 rfl Tryz.ntmps168 rfl ?_
 refine cw_seq ?_
 refine cw_region ?_
 refine rw_run tab_ok 1 [(0, _), (1, _)] rfl ⟨rfl, rfl, trivial⟩ ?_
 refine rw_end ?_
 refine cw_seq ?_
 refine cw_region ?_
 refine rw_run tab_ok 2 [(1, _), (7, _), (8, _)] rfl ⟨rfl, rfl, rfl, trivial⟩ ?_
 refine rw_s (qs_idx Tryz.underlying108 Tryz.sizeOf49 (.ro hs) (by omega) rfl rfl rfl) rfl rfl ?_
 refine rw_s (qs_ldA (cs := [_, _]) (SF.op (.ro hs) (by omega)) rfl rfl Tryz.isAgg49 Tryz.sizeOf49) rfl rfl ?_
 refine rw_op (ot_alloc Tryz.zeroValue49 rfl rfl) rfl rfl (fun g1 _ => ?_)
 refine rw_op (ot_stb _ fc Tryz.sizeOf49 rfl rfl rfl rfl rfl (by rfl) rfl (by rfl)) rfl rfl (fun _ _ => ?_)
 refine rw_end ?_
 refine cw_seq ?_
 refine cw_seq ?_
 refine cw_region ?_
 refine rw_run tab_ok 1 [(1, _), (5, _), (11, _)] rfl ⟨rfl, rfl, rfl, trivial⟩ ?_
 refine rw_s (qs_ldb fc Tryz.isAgg3 rfl rfl (by rfl)) rfl rfl ?_
 refine rw_end ?_
 refine cw_block ?_
 refine cw_seq ?_
 refine cw_region ?_
 refine rw_run tab_ok 2 [(1, _), (5, _), (12, _), (13, _)] rfl ⟨rfl, rfl, rfl, rfl, trivial⟩ ?_
 refine rw_end ?_
 refine cw_condD rfl (fun h1 => ?_) (fun h1 => ?_)
 ·have e := after_nil (o := opAt l pc) pc h1
  refine cw_seq ?_
  refine cw_region ?_
  refine rw_run tab_ok 1 [(4, _)] rfl ⟨rfl, trivial⟩ ?_
  refine rw_end ?_
  refine cw_ret (xw_blkr (xw_thenr ?_))
  refine xw_ret1 Tryz.results168 (rv_tmp rfl) ?_
  intro w hw
  refine ⟨(none, 0), trivial, by rw [e]; rfl, ?_⟩
  rw [e]
  exact (Cw.nilO Int hw).msub ms
 ·refine cw_seq ?_
  refine cw_region ?_
  refine rw_run tab_ok 2 [(1, _), (5, _), (12, _), (15, _)] rfl ⟨rfl, rfl, rfl, rfl, trivial⟩ ?_
  refine rw_end ?_
  refine cw_condD rfl (fun h2 => ?_) (fun h2 => ?_)
  ·have e := after_jump (o := opAt l pc) pc h1 h2
   refine cw_seq ?_
   refine cw_region ?_
   refine rw_run tab_ok 1 [(17, _)] rfl ⟨rfl, trivial⟩ ?_
   refine rw_s (qs_ldb fc Tryz.isAgg3 rfl rfl (by rfl)) rfl rfl ?_
   refine rw_op (ot_bsl (cs := [_]) Tryz.underlying27 Tryz.sizeOf3 Tryz.zeroValue3 rfl rfl rfl rfl rfl) rfl rfl (fun g2 _ => ?_)
   refine rw_run tab_ok 1 [(4, _)] rfl ⟨rfl, trivial⟩ ?_
   refine rw_end ?_
   refine cw_mem (fun w h => row_ow (α := Int) (m := 1) [(opAt l pc).a] rfl (one_i64 ho.2) rfl (by decide) h) ?_
   refine cw_ret (xw_blkr (xw_thenr ?_))
   refine xw_ret1 Tryz.results168 (rv_tmp rfl) ?_
   intro w hw
   refine ⟨(_, _), trivial, by rw [e]; rfl, ?_⟩
   rw [e]
   exact hw.msub ms
  ·refine cw_seq ?_
   refine cw_region ?_
   refine rw_run tab_ok 2 [(1, _), (5, _), (20, _)] rfl ⟨rfl, rfl, rfl, trivial⟩ ?_
   refine rw_end ?_
   refine cw_condD rfl (fun h3 => ?_) (fun h3 => ?_)
   ·have e := after_zero (o := opAt l pc) pc h1 h2 h3
    refine cw_seq ?_
    refine cw_region ?_
    refine rw_run tab_ok 1 [(5, _), (22, _)] rfl ⟨rfl, rfl, trivial⟩ ?_
    refine rw_s (qs_add rfl rfl rfl (by omega)) rfl rfl ?_
    refine rw_run tab_ok 1 [(23, _), (24, _)] rfl ⟨rfl, rfl, trivial⟩ ?_
    refine rw_s (qs_ldb fc Tryz.isAgg3 rfl rfl (by rfl)) rfl rfl ?_
    refine rw_op (ot_bsl (cs := [_, _]) Tryz.underlying27 Tryz.sizeOf3 Tryz.zeroValue3 rfl rfl rfl rfl rfl) rfl rfl (fun g3 _ => ?_)
    refine rw_run tab_ok 1 [(6, _)] rfl ⟨rfl, trivial⟩ ?_
    refine rw_end ?_
    refine cw_mem (fun w h => row_ow (α := Int) (m := 2) [(pc : Int) + 1, (opAt l pc).a] rfl (two_i64 i1 ho.2) rfl (by decide) h) ?_
    have h2i : ∀ x ∈ [(pc : Int) + 1, (opAt l pc).a], I64 x := two_i64 i1 ho.2
    refine cw_seq ?_
    refine cw_region ?_
    refine rw_run tab_ok 1 [(6, _), (27, _)] rfl ⟨rfl, rfl, trivial⟩ ?_
    refine rw_op (ot_call rfl rfl rfl Tryz.call124 (fun w hw => sort_own hw (by omega) h2i)) rfl rfl (fun _ _ => ?_)
    refine rw_end ?_
    refine cw_seq ?_
    refine cw_region ?_
    refine rw_run tab_ok 1 [(29, _)] rfl ⟨rfl, trivial⟩ ?_
    refine rw_op (ot_call rfl rfl rfl Tryz.call125 (fun w hw => compact_own hw (by omega) (fun x hx => h2i x (sorted_mem.1 hx)))) rfl rfl (fun _ _ => ?_)
    refine rw_run tab_ok 1 [(4, _)] rfl ⟨rfl, trivial⟩ ?_
    refine rw_end ?_
    refine cw_ret (xw_blkr (xw_thenr ?_))
    refine xw_ret1 Tryz.results168 (rv_tmp rfl) ?_
    intro w hw
    refine ⟨(_, _), trivial, by rw [e], ?_⟩
    rw [e]
    exact hw.msub ms
   ·have e := after_else (o := opAt l pc) pc h1 h2 h3
    refine cw_skip (xw_blkn (xw_then ?_))
    refine cw_seq ?_
    refine cw_region ?_
    refine rw_run tab_ok 1 [(31, _)] rfl ⟨rfl, trivial⟩ ?_
    refine rw_s (qs_add rfl rfl rfl (by omega)) rfl rfl ?_
    refine rw_op (ot_bsl (cs := [_]) Tryz.underlying27 Tryz.sizeOf3 Tryz.zeroValue3 rfl rfl rfl rfl rfl) rfl rfl (fun g4 _ => ?_)
    refine rw_run tab_ok 1 [(4, _)] rfl ⟨rfl, trivial⟩ ?_
    refine rw_end ?_
    refine cw_mem (fun w h => row_ow (α := Int) (m := 1) [(pc : Int) + 1] rfl (one_i64 i1) rfl (by decide) h) ?_
    refine cw_ret ?_
    refine xw_ret1 Tryz.results168 (rv_tmp rfl) ?_
    intro w hw
    refine ⟨(_, _), trivial, by rw [e]; rfl, ?_⟩
    rw [e]
    exact hw.msub ms
set_option maxRecDepth 100000 in
theorem goesOn_any (A : Option Addr) (c : Nat) (l : List MOp) (pc : Nat) (to_ : Int) (w : World) (hs : Sl w (.slice A l.length c) l) (hp : pc < l.length) :
  Calls Tryz.prog 146 #[.slice A l.length c, .int .i64 (pc : Int), .int .i64 to_] w fun e w' => e = .returned (.bool (goesOn (opAt l pc) pc to_)) ∧ Below w.heap.size w w' := by
 have b1 := len_bd hs
 refine enter Tryz.func146 rfl Tryz.ntmps146 rfl ?_
 refine cw_seq ?_
 refine cw_region ?_
 refine rw_run tab_ok 1 [(0, _), (1, _), (2, _)] rfl ⟨rfl, rfl, rfl, trivial⟩ ?_
 refine rw_end ?_
 refine cw_seq ?_
 refine cw_seq ?_
 refine cw_region ?_
 refine rw_run tab_ok 2 [(0, _), (1, _), (2, _), (7, _), (8, _)] rfl ⟨rfl, rfl, rfl, rfl, rfl, trivial⟩ ?_
 refine rw_s (qs_idx Tryz.underlying108 Tryz.sizeOf49 (.ro hs) (by omega) rfl rfl rfl) rfl rfl ?_
 refine rw_run tab_ok 1 [(0, _), (1, _), (2, _), (10, _)] rfl ⟨rfl, rfl, rfl, rfl, trivial⟩ ?_
 refine rw_s (qs_ld (SF.opc (.ro hs) (by omega)) rfl rfl Tryz.isAgg3) rfl rfl ?_
 refine rw_end ?_
 refine cw_block ?_
 refine cw_seq ?_
 refine cw_region ?_
 refine rw_run tab_ok 2 [(0, _), (1, _), (2, _), (11, _), (12, _)] rfl ⟨rfl, rfl, rfl, rfl, rfl, trivial⟩ ?_
 refine rw_end ?_
 refine cw_condD rfl (fun h1 => ?_) (fun h1 => ?_)
 ·refine cw_seq ?_
  refine cw_region ?_
  refine rw_run tab_ok 1 [(6, _)] rfl ⟨rfl, trivial⟩ ?_
  refine rw_end ?_
  refine cw_ret (xw_blkr (xw_thenr ?_))
  refine xw_ret1 Tryz.results146 (rv_tmp rfl) ?_
  intro w hw
  exact ⟨ret_bool (by unfold goesOn; rw [if_pos h1]), hw.below⟩
 ·refine cw_seq ?_
  refine cw_region ?_
  refine rw_run tab_ok 2 [(0, _), (1, _), (2, _), (11, _), (14, _)] rfl ⟨rfl, rfl, rfl, rfl, rfl, trivial⟩ ?_
  refine rw_end ?_
  refine cw_condD rfl (fun h2 => ?_) (fun h2 => ?_)
  ·refine cw_seq ?_
   refine cw_region ?_
   refine rw_run tab_ok 3 [(16, _), (17, _), (18, _)] rfl ⟨rfl, rfl, rfl, trivial⟩ ?_
   refine rw_s (qs_idx Tryz.underlying108 Tryz.sizeOf49 (.ro hs) (by omega) rfl rfl rfl) rfl rfl ?_
   refine rw_run tab_ok 1 [(16, _), (20, _)] rfl ⟨rfl, rfl, trivial⟩ ?_
   refine rw_s (qs_ld (SF.opa (.ro hs) (by omega)) rfl rfl Tryz.isAgg3) rfl rfl ?_
   refine rw_run tab_ok 2 [(6, _)] rfl ⟨rfl, trivial⟩ ?_
   refine rw_end ?_
   refine cw_ret (xw_blkr (xw_thenr ?_))
   refine xw_ret1 Tryz.results146 (rv_tmp rfl) ?_
   intro w hw
   exact ⟨ret_bool (by unfold goesOn; rw [if_neg h1, if_pos h2]), hw.below⟩
  ·refine cw_seq ?_
   refine cw_region ?_
   refine rw_run tab_ok 2 [(0, _), (1, _), (2, _), (23, _)] rfl ⟨rfl, rfl, rfl, rfl, trivial⟩ ?_
   refine rw_end ?_
   refine cw_condD rfl (fun h3 => ?_) (fun h3 => ?_)
   ·refine cw_seq ?_
    refine cw_region ?_
    refine rw_run tab_ok 2 [(0, _), (1, _), (2, _), (25, _), (26, _)] rfl ⟨rfl, rfl, rfl, rfl, rfl, trivial⟩ ?_
    refine rw_s (qs_add rfl rfl rfl (by omega)) rfl rfl ?_
    refine rw_run tab_ok 2 [(0, _), (1, _), (2, _), (29, _)] rfl ⟨rfl, rfl, rfl, rfl, trivial⟩ ?_
    refine rw_split (t := 29) rfl (fun h4 => ?_) (fun h4 => ?_)
    ·refine rw_run tab_ok 9 [(6, _)] rfl ⟨rfl, trivial⟩ ?_
     refine rw_end ?_
     refine cw_ret (xw_blkr (xw_thenr ?_))
     refine xw_ret1 Tryz.results146 (rv_tmp rfl) ?_
     intro w hw
     exact ⟨ret_bool (by unfold goesOn; rw [if_neg h1, if_neg h2, if_pos h3, h4]; rfl), hw.below⟩
    ·refine rw_run tab_ok 3 [(29, _), (30, _), (31, _), (32, _)] rfl ⟨rfl, rfl, rfl, rfl, trivial⟩ ?_
     refine rw_s (qs_idx Tryz.underlying108 Tryz.sizeOf49 (.ro hs) (by omega) rfl rfl rfl) rfl rfl ?_
     refine rw_run tab_ok 1 [(29, _), (30, _), (34, _)] rfl ⟨rfl, rfl, rfl, trivial⟩ ?_
     refine rw_s (qs_ld (SF.opa (.ro hs) (by omega)) rfl rfl Tryz.isAgg3) rfl rfl ?_
     refine rw_run tab_ok 3 [(6, _)] rfl ⟨rfl, trivial⟩ ?_
     refine rw_end ?_
     refine cw_ret (xw_blkr (xw_thenr ?_))
     refine xw_ret1 Tryz.results146 (rv_tmp rfl) ?_
     intro w hw
     exact ⟨ret_bool (by unfold goesOn; rw [if_neg h1, if_neg h2, if_pos h3, h4]; rfl), hw.below⟩
   ·refine cw_skip (xw_blkn (xw_then ?_))
    refine cw_seq ?_
    refine cw_region ?_
    refine rw_run tab_ok 2 [(38, _), (39, _)] rfl ⟨rfl, rfl, trivial⟩ ?_
    refine rw_s (qs_add rfl rfl rfl (by omega)) rfl rfl ?_
    refine rw_run tab_ok 2 [(6, _)] rfl ⟨rfl, trivial⟩ ?_
    refine rw_end ?_
    refine cw_ret ?_
    refine xw_ret1 Tryz.results146 (rv_tmp rfl) ?_
    intro w hw
    exact ⟨ret_bool (by unfold goesOn; rw [if_neg h1, if_neg h2, if_neg h3]), hw.below⟩
set_option maxRecDepth 100000 in
theorem rnextOf (A : Option Addr) (c : Nat) (l : List MOp) (pc : Nat) (w : World) (hs : Sl w (.slice A l.length c) l) (hp : pc < l.length) (h40 : l.length ≤ 40) :
  Calls Tryz.prog 109 #[.slice A l.length c, .int .i64 (pc : Int)] w fun e w' => ∃ g : Option Addr × Nat, True ∧ e = .returned (.slice g.1 (nextL l pc).length g.2) ∧ Cw w.heap.size w [ROw (.slice g.1 (nextL l pc).length g.2) (nextL l pc)] w' := by
 have b1 := len_bd hs
 refine enter Tryz.func109 rfl Tryz.ntmps109 rfl ?_
 refine cw_seq ?_
 refine cw_region ?_
 refine rw_run tab_ok 1 [(0, _), (1, _)] rfl ⟨rfl, rfl, trivial⟩ ?_
 refine rw_end ?_
 refine cw_seq ?_
 refine cw_region ?_
 refine rw_run tab_ok 1 [(0, _), (1, _), (5, _)] rfl ⟨rfl, rfl, rfl, trivial⟩ ?_
 refine rw_end ?_
 refine cw_seq ?_
 refine cw_seq ?_
 refine cw_region ?_
 refine rw_run tab_ok 1 [(0, _), (1, _), (5, _), (6, _)] rfl ⟨rfl, rfl, rfl, rfl, trivial⟩ ?_
 refine rw_end ?_
 refine cw_mem (fun w h => Cw.nilO Int h) ?_
 refine cw_block (cw_loop (fun g : Nat × Option Addr × Nat => g.1 ≤ l.length + 1) (fun g => l.length + 1 - g.1) (fun g => [(0, .slice A l.length c), (1, .int .i64 (pc : Int)), (5, .slice g.2.1 ((upto g.1).filter (goesOn (opAt l pc) (pc : Int))).length g.2.2), (6, .int .i64 (g.1 : Int))]) (fun g => [ROw (.slice g.2.1 ((upto g.1).filter (goesOn (opAt l pc) (pc : Int))).length g.2.2) ((upto g.1).filter (goesOn (opAt l pc) (pc : Int)))]) (0, none, 0) (Nat.zero_le _) ⟨rfl, rfl, rfl, rfl, trivial⟩ me ?_)
 rintro ⟨k, A1, c1⟩ hk'
 try dsimp only
 have hk : k ≤ l.length + 1 := hk'
 have hfl := filter_len (goesOn (opAt l pc) (pc : Int)) k
 refine cw_seq ?_
 refine cw_seq ?_
 refine cw_region ?_
 refine rw_run tab_ok 2 [(0, _), (1, _), (5, _), (6, _), (7, _), (8, _)] rfl ⟨rfl, rfl, rfl, rfl, rfl, rfl, trivial⟩ ?_
 refine rw_s (qs_len Tryz.underlying108 rfl rfl) rfl rfl ?_
 refine rw_run tab_ok 1 [(0, _), (1, _), (5, _), (6, _), (10, _)] rfl ⟨rfl, rfl, rfl, rfl, rfl, trivial⟩ ?_
 refine rw_end ?_
 refine cw_condD rfl (fun hlt => ?_) (fun hlt => ?_)
 ·refine cw_skip (xw_then ?_)
  refine cw_seq ?_
  refine cw_block ?_
  refine cw_seq ?_
  refine cw_region ?_
  refine rw_run tab_ok 3 [(0, _), (1, _), (5, _), (6, _), (13, _), (14, _), (15, _)] rfl ⟨rfl, rfl, rfl, rfl, rfl, rfl, rfl, trivial⟩ ?_
  refine rw_op (ot_c0 rfl rfl rfl Tryz.call146 (fun w hw => goesOn_any A c l pc (k : Int) w (hw.ro hs) hp)) rfl rfl (fun _ _ => ?_)
  refine rw_end ?_
  refine cw_cond rfl (fun hg => ?_) (fun hg => ?_)
  ·have hg : (goesOn (opAt l pc) (pc : Int)) (k : Int) = true := hg
   refine cw_region ?_
   refine rw_run tab_ok 2 [(0, _), (1, _), (6, _), (17, _), (18, _)] rfl ⟨rfl, rfl, rfl, rfl, rfl, trivial⟩ ?_
   refine rw_op (ot_bsl (cs := [_]) Tryz.underlying27 Tryz.sizeOf3 Tryz.zeroValue3 rfl rfl rfl rfl rfl) rfl rfl (fun g1 _ => ?_)
   refine rw_op (ot_app1 (α := Int) (bytes := 8) (k : Int) [] (filter_yes hg) Tryz.underlying27 (info_ex Tryz.inI) rfl (perm2 fc fc) (hel_int (by unfold I64; omega)) (by omega) (by omega) rfl rfl rfl) rfl rfl (fun ⟨A4, c4⟩ _ => ?_)
   try dsimp only
   refine rw_run tab_ok 1 [(0, _), (1, _), (5, _), (6, _)] rfl ⟨rfl, rfl, rfl, rfl, trivial⟩ ?_
   refine rw_endx (xw_blkn (xw_then ?_))
   refine cw_region ?_
   refine rw_run tab_ok 1 [(0, _), (1, _), (5, _), (11, _)] rfl ⟨rfl, rfl, rfl, rfl, trivial⟩ ?_
   refine rw_s (qs_add rfl rfl rfl (by omega)) rfl rfl ?_
   refine rw_run tab_ok 1 [(0, _), (1, _), (5, _), (6, _)] rfl ⟨rfl, rfl, rfl, rfl, trivial⟩ ?_
   refine rw_round (k + 1, A4, c4) (by show k + 1 ≤ _; omega) (by show _ - _ < _ - _; omega) ⟨rfl, rfl, rfl, rfl, trivial⟩ me
  ·have hg : ¬ (goesOn (opAt l pc) (pc : Int)) (k : Int) = true := by rw [hg]; decide
   refine cw_skip (xw_blkn (xw_then ?_))
   refine cw_region ?_
   refine rw_run tab_ok 1 [(0, _), (1, _), (5, _), (11, _)] rfl ⟨rfl, rfl, rfl, rfl, trivial⟩ ?_
   refine rw_s (qs_add rfl rfl rfl (by omega)) rfl rfl ?_
   refine rw_run tab_ok 1 [(0, _), (1, _), (5, _), (6, _)] rfl ⟨rfl, rfl, rfl, rfl, trivial⟩ ?_
   rw [← filter_no hg]
   refine rw_round (k + 1, A1, c1) (by show k + 1 ≤ _; omega) (by show _ - _ < _ - _; omega) ⟨rfl, rfl, rfl, rfl, trivial⟩ me
 ·obtain rfl : k = l.length + 1 := by omega
  refine cw_exit (xw_thenx (xw_thenx (xw_blk (xw_then ?_))))
  refine cw_seq ?_
  refine cw_region ?_
  refine rw_run tab_ok 2 [(4, _)] rfl ⟨rfl, trivial⟩ ?_
  refine rw_end ?_
  refine cw_ret ?_
  refine xw_ret1 Tryz.results109 (rv_tmp rfl) ?_
  intro w hw
  exact ⟨(A1, c1), trivial, rfl, hw⟩
end Go.Proofs.YtpacloheigifkaaGreat
