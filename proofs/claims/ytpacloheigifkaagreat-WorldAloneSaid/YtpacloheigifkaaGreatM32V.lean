/- Texts of one proof, one behind the other: lemmas alone. -/
import Derived.Deep.QuietTactic
import Derived.BigQuiet
import Derived.Test.YtpacloheigifkaaGreatM27V
import Derived.Test.YtpacloheigifkaaGreatM31V
import Derived.Test.YtpacloheigifkaaGreatM28V
import Derived.Test.YtpacloheigifkaaGreatM18V
import Derived.Test.YtpacloheigifkaaGreatM14V
import Derived.Test.YtpacloheigifkaaGreatM16V
import Derived.Test.YtpacloheigifkaaGreatM23V
import Derived.Test.YtpacloheigifkaaGreatM13V

-- Mc2
/- Machines: values of locals at first; copies that are one's own. -/
namespace Go.Proofs.YtpacloheigifkaaGreat
open Go.RowKit
theorem Tryz.inVal : (Tryz.prog.info? 103).map (fun i => (i.zero, i.size, i.bytes)) = some (some (.agg #[.bool false, .int .i64 0]), 2, 16) := by kernel_rfl
theorem Tryz.inFrame : (Tryz.prog.info? 97).map (fun i => (i.zero, i.size, i.bytes)) = some (some (.agg #[.int .i64 0, .int .i64 0, .slice none 0 0, .slice none 0 0]), 4, 64) := by kernel_rfl
theorem Tryz.inMach : (Tryz.prog.info? 29).map (fun i => (i.zero, i.size, i.bytes)) = some (some (.agg #[.slice none 0 0, .slice none 0 0, .slice none 0 0, .slice none 0 0, .int .i64 0, .int .i64 0]), 6, 112) := by kernel_rfl
set_option maxRecDepth 100000 in
theorem clone_vals (A : Option Addr) (c : Nat) (l : List MVal) (w : World) (hs : Sl w (.slice A l.length c) l) (hl : l.length * 16 ≤ 140737488355328) :
  Calls Tryz.prog 149 #[.slice A l.length c] w fun e w' => ∃ u, e = .returned u ∧ Below w.heap.size w w' ∧ OwN w' w.heap.size u l := by
 refine enter Tryz.func149 rfl Tryz.ntmps149 rfl ?_
 refine cw_seq ?_
 refine cw_region ?_
 refine rw_run tab_ok 1 [(0, _)] rfl ⟨rfl, trivial⟩ ?_
 refine rw_end ?_
 refine cw_seq ?_
 refine cw_seq ?_
 refine cw_region ?_
 refine rw_run tab_ok 1 [(0, _), (3, _)] rfl ⟨rfl, rfl, trivial⟩ ?_
 refine rw_s (qs_isnil Tryz.underlying95 rfl rfl) rfl rfl ?_
 refine rw_end ?_
 refine cw_cond rfl (fun h => ?_) (fun h => ?_)
 ·have h0 : l = [] := by
   rcases Nat.eq_zero_or_pos l.length with h0 | h0
   ·exact List.eq_nil_of_length_eq_zero h0
   ·obtain ⟨b, o, e⟩ := hs.addr h0
    subst e
    cases h
  subst h0
  refine cw_seq ?_
  refine cw_region ?_
  refine rw_run tab_ok 1 [(2, _)] rfl ⟨rfl, trivial⟩ ?_
  refine rw_end ?_
  refine cw_ret (xw_thenr ?_)
  refine xw_ret1 Tryz.results149 (rv_tmp rfl) ?_
  intro w hw
  exact ⟨_, rfl, nil_ret hw⟩
 ·refine cw_skip (xw_then ?_)
  refine cw_seq ?_
  refine cw_region ?_
  refine rw_op (ot_bsl (cs := []) Tryz.underlying95 Tryz.sizeOf103 Tryz.zeroValue103 rfl rfl rfl rfl rfl) rfl rfl (fun g1 _ => ?_)
  refine rw_run tab_ok 1 [(5, _), (6, _)] rfl ⟨rfl, rfl, trivial⟩ ?_
  refine rw_mem (fun w h => row_ow (α := MVal) (m := 0) [] rfl (by simp) rfl (by decide) h) ?_
  refine rw_op (ot_appS (α := MVal) (bytes := 16) (xs := []) (ys := l) rfl Tryz.underlying95 (info_ex Tryz.inVal) rfl fc (.ro hs) (by simp only [List.length_nil]; omega) (by simp only [List.length_nil]; omega) rfl rfl rfl) rfl rfl (fun ⟨A5, c5⟩ _ => ?_)
  try dsimp only
  refine rw_run tab_ok 1 [(2, _)] rfl ⟨rfl, trivial⟩ ?_
  refine rw_end ?_
  refine cw_ret ?_
  refine xw_ret1 Tryz.results149 (rv_tmp rfl) ?_
  intro w hw
  exact ⟨_, rfl, own_ret hw⟩
/-! Fresh locals -/
def freshS (l : List Int) : List MVal := l.map fun t => ⟨decide (t = 2), 0⟩
theorem freshS_len (l : List Int) : (freshS l).length = l.length := by simp [freshS]
theorem freshS_take {l : List Int} {k : Nat} (hk : k < l.length) : freshS (l.take (k + 1)) = freshS (l.take k) ++ [⟨decide (l.getD k 0 = 2), 0⟩] := by
 rw [take_snoc l k 0 hk]
 simp [freshS]
set_option maxRecDepth 100000 in
theorem fresh_any (p r : Int) (A1 A2 : Option Addr) (c1 c2 n2 : Nat) (l : List Int) (w : World) (hs : Sl w (.slice A1 l.length c1) l) (hb : l.length * 16 ≤ 140737488355328) :
  Calls Tryz.prog 114 #[.agg #[.int .i64 p, .slice A1 l.length c1, .int .i64 r, .slice A2 n2 c2]] w fun e w' => ∃ u, e = .returned u ∧ Below w.heap.size w w' ∧ OwN w' w.heap.size u (freshS l) := by
 refine enter Tryz.func114 rfl Tryz.ntmps114 rfl ?_
 refine cw_seq ?_
 refine cw_region ?_
 refine rw_op (ot_box rfl rfl rfl) rfl rfl (fun g1 _ => ?_)
 refine rw_run tab_ok 1 [(1, _)] rfl ⟨rfl, trivial⟩ ?_
 refine rw_end ?_
 refine cw_seq ?_
 refine cw_region ?_
 refine rw_run tab_ok 1 [(1, _), (3, _)] rfl ⟨rfl, rfl, trivial⟩ ?_
 refine rw_end ?_
 refine cw_seq ?_
 refine cw_seq ?_
 refine cw_region ?_
 refine rw_run tab_ok 1 [(3, _), (6, _)] rfl ⟨rfl, rfl, trivial⟩ ?_
 refine rw_s (qs_ldb fc Tryz.isAgg27 rfl rfl (by rfl)) rfl rfl ?_
 refine rw_s (qs_len Tryz.underlying27 rfl rfl) rfl rfl ?_
 refine rw_run tab_ok 1 [(3, _), (7, _), (8, _), (9, _)] rfl ⟨rfl, rfl, rfl, rfl, trivial⟩ ?_
 refine rw_end ?_
 refine cw_mem (fun w h => Cw.nilO MVal h) ?_
 refine cw_block (cw_loop (fun g : Nat × Option Addr × Nat => g.1 ≤ l.length) (fun g => l.length - g.1) (fun g => [(3, .slice g.2.1 (freshS (l.take g.1)).length g.2.2), (7, .slice A1 l.length c1), (8, .int .i64 (l.length : Int)), (9, .int .i64 (g.1 : Int))]) (fun g => [ROw (.slice g.2.1 (freshS (l.take g.1)).length g.2.2) (freshS (l.take g.1))]) (0, none, 0) (Nat.zero_le _) ⟨rfl, rfl, rfl, rfl, trivial⟩ me ?_)
 rintro ⟨k, A, c⟩ hk
 try dsimp only
 have hk : k ≤ l.length := hk
 have htl : (freshS (l.take k)).length = k := by rw [freshS_len, List.length_take]; omega
 refine cw_seq ?_
 refine cw_region ?_
 refine rw_run tab_ok 1 [(3, _), (7, _), (8, _), (9, _), (10, _)] rfl ⟨rfl, rfl, rfl, rfl, rfl, trivial⟩ ?_
 refine rw_end ?_
 refine cw_seq ?_
 refine cw_condD rfl (fun hlt => ?_) (fun hlt => ?_)
 ·have hkl : k < l.length := by omega
  refine cw_skip (xw_then ?_)
  refine cw_seq ?_
  refine cw_block ?_
  refine cw_seq ?_
  refine cw_region ?_
  refine rw_s (qs_idx Tryz.underlying27 Tryz.sizeOf3 (.ro hs) (by omega) rfl rfl rfl) rfl rfl ?_
  refine rw_s (qs_ld (SF.int (.ro hs) (by omega)) rfl rfl Tryz.isAgg3) rfl rfl ?_
  refine rw_run tab_ok 1 [(3, _), (5, _), (7, _), (8, _), (9, _)] rfl ⟨rfl, rfl, rfl, rfl, rfl, trivial⟩ ?_
  refine rw_end ?_
  refine cw_region ?_
  refine rw_run tab_ok 3 [(7, _), (8, _), (9, _), (13, _), (15, _)] rfl ⟨rfl, rfl, rfl, rfl, rfl, trivial⟩ ?_
  refine rw_s (qs_bst (cs := [_, _]) plT103 Tryz.zeroValue103 rfl rfl (by rfl)) rfl rfl ?_
  refine rw_op (ot_bsl (cs := [_, _]) Tryz.underlying95 Tryz.sizeOf103 Tryz.zeroValue103 rfl rfl rfl rfl rfl) rfl rfl (fun g2 _ => ?_)
  refine rw_op (ot_app1 (α := MVal) (bytes := 16) ⟨decide (l.getD k 0 = 2), 0⟩ [] (freshS_take hkl) Tryz.underlying95 (info_ex Tryz.inVal) rfl (perm2 fc fc) (hel_flat (by show I64 0; decide)) (by omega) (by omega) rfl rfl rfl) rfl rfl (fun ⟨A3, c3⟩ _ => ?_)
  try dsimp only
  refine rw_run tab_ok 1 [(3, _), (7, _), (8, _), (9, _)] rfl ⟨rfl, rfl, rfl, rfl, trivial⟩ ?_
  refine rw_endx (xw_blkn (xw_then ?_))
  refine cw_region ?_
  refine rw_s (qs_add rfl rfl rfl (by omega)) rfl rfl ?_
  refine rw_run tab_ok 1 [(3, _), (7, _), (8, _), (9, _)] rfl ⟨rfl, rfl, rfl, rfl, trivial⟩ ?_
  refine rw_round (k + 1, A3, c3) (by show k + 1 ≤ _; omega) (by show _ - _ < _ - _; omega) ⟨rfl, rfl, rfl, rfl, trivial⟩ me
 ·obtain rfl : k = l.length := by omega
  rw [List.take_length]
  refine cw_exit (xw_thenx (xw_thenx (xw_blk (xw_then ?_))))
  refine cw_seq ?_
  refine cw_region ?_
  refine rw_run tab_ok 2 [(2, _)] rfl ⟨rfl, trivial⟩ ?_
  refine rw_end ?_
  refine cw_ret ?_
  refine xw_ret1 Tryz.results114 (rv_tmp rfl) ?_
  intro w hw
  exact ⟨_, rfl, own_ret hw⟩
/-! Machines of one's own -/
def FitF (l : List MFrame) : Prop := l.length * 64 ≤ 140737488355328 ∧ ∀ x ∈ l, x.locals.length * 16 ≤ 140737488351232 ∧ x.stack.length * 16 ≤ 140737488351232
structure FitM (m : MMach) : Prop where
 f : FitF m.frames
 b : Fit m.blocks
 i : m.inn.length ≤ 1000000
 o : m.out.length ≤ 1000000
theorem frAt_mem {l : List MFrame} {k : Nat} (hk : k < l.length) : frAt l k ∈ l := by
 unfold frAt
 rw [List.getD_eq_getElem?_getD, List.getElem?_eq_getElem hk]
 exact List.getElem_mem hk
theorem take_fr {l : List MFrame} {k : Nat} (hk : k < l.length) : l.take (k + 1) = l.take k ++ [frAt l k] := take_snoc l k default hk
theorem hel_fr {v1 v2 : Value} {x : MFrame} (hi : I64 x.func ∧ I64 x.pc) : ∀ (w : World) (F : Nat → Prop), Hs w [ROw v1 x.locals, ROw v2 x.stack] F → Ow.own w F [.int .i64 x.func, .int .i64 x.pc, v1, v2] x := fun _ _ h => ⟨v1, v2, rfl, hi, h⟩
set_option maxRecDepth 100000 in
set_option maxHeartbeats 4000000 in
theorem ownm_any (a : MA) (m : MMach) (w : World) (hm : MIn w.heap.size w a m) (hfit : FitM m) :
  Calls Tryz.prog 115 #[.agg #[.slice a.Af m.frames.length a.cf, .slice a.Ab m.blocks.length a.cb, .slice a.Ai m.inn.length a.ci, .slice a.Ao m.out.length a.co, .int .i64 m.status, .int .i64 m.trap]] w fun e w' => ∃ g : MA, True ∧
   e = .returned (.agg #[.slice g.Af m.frames.length g.cf, .slice g.Ab m.blocks.length g.cb, .slice g.Ai m.inn.length g.ci, .slice g.Ao m.out.length g.co, .int .i64 m.status, .int .i64 m.trap]) ∧
   Cw w.heap.size w [ROw (.slice g.Af m.frames.length g.cf) m.frames, ROw (.slice g.Ab m.blocks.length g.cb) m.blocks, ROw (.slice g.Ai m.inn.length g.ci) m.inn, ROw (.slice g.Ao m.out.length g.co) m.out] w' := by
 have b1 := len_bd hm.f
 have hf64 := hfit.f.1
 refine enter Tryz.func115 rfl Tryz.ntmps115 rfl ?_
 refine cw_seq ?_
 refine cw_region ?_
 refine rw_op (ot_box rfl rfl rfl) rfl rfl (fun g1 _ => ?_)
 refine rw_op (ot_alloc Tryz.zeroValue29 rfl rfl) rfl rfl (fun g2 _ => ?_)
 refine rw_end ?_
 refine cw_cut (fun _ : Nat × (Option Addr × Nat) × (Option Addr × Nat) × (Option Addr × Nat) => True) (fun g => [(1, .pointer (some ⟨g1, 0, none⟩)), (2, .pointer (some ⟨g2, 0, none⟩)), (3, .pointer (some ⟨g.1, 0, none⟩))]) (fun g => [RBox g1 [.slice a.Af m.frames.length a.cf, .slice a.Ab m.blocks.length a.cb, .slice a.Ai m.inn.length a.ci, .slice a.Ao m.out.length a.co, .int .i64 m.status, .int .i64 m.trap] 29, RBox g2 [.slice none 0 0, .slice none 0 0, .slice none 0 0, .slice none 0 0, .int .i64 0, .int .i64 0] 29, RBox g.1 [.slice none 0 0, .slice g.2.1.1 m.blocks.length g.2.1.2, .slice g.2.2.1.1 m.inn.length g.2.2.1.2, .slice g.2.2.2.1 m.out.length g.2.2.2.2, .int .i64 m.status, .int .i64 m.trap] 29, ROw (.slice g.2.1.1 m.blocks.length g.2.1.2) m.blocks, ROw (.slice g.2.2.1.1 m.inn.length g.2.2.1.2) m.inn, ROw (.slice g.2.2.2.1 m.out.length g.2.2.2.2) m.out]) ?_ ?_
 ·refine cw_draw (.still 0 (.still 1 (.still 3 (.still 4 (.still 6 (.still 7 (.still 9 (.still 10 (.still 11 (.still 12 (.pick 2 (.pick 5 (.pick 8 (.still 13 (.pick 14 (.pick 15 .done .stop) .stop)) (.pick 14 (.pick 8 (.still 13 (.pick 15 .done .stop)) .stop) .stop)) (.pick 14 (.pick 5 (.pick 8 (.still 13 (.pick 15 .done .stop)) .stop) .stop) .stop)) (.pick 14 (.pick 2 (.pick 5 (.pick 8 (.still 13 (.pick 15 .done .stop)) .stop) .stop) .stop) .stop)))))))))))) [15] rfl (by kernel_rfl) (by kernel_rfl) ?_
  refine ro_run tab_ok ha 1 [(1, _), (2, _), (6, _)] rfl ⟨rfl, rfl, rfl, trivial⟩ ?_
  refine ro_s2 rfl (qs_ldb fc Tryz.isAgg26 rfl rfl (by rfl)) rfl rfl ha ?_
  refine ro_run tab_ok ha 1 [(1, _), (2, _), (7, _), (9, _)] rfl ⟨rfl, rfl, rfl, rfl, trivial⟩ ?_
  refine ro_s2 rfl (qs_ldb fc Tryz.isAgg27 rfl rfl (by rfl)) rfl rfl ha ?_
  refine ro_run tab_ok ha 1 [(1, _), (2, _), (7, _), (10, _), (12, _)] rfl ⟨rfl, rfl, rfl, rfl, rfl, trivial⟩ ?_
  refine ro_s2 rfl (qs_ldb fc Tryz.isAgg27 rfl rfl (by rfl)) rfl rfl ha ?_
  refine ro_run tab_ok ha 1 [(1, _), (2, _), (7, _), (10, _), (13, _), (15, _)] rfl ⟨rfl, rfl, rfl, rfl, rfl, rfl, trivial⟩ ?_
  refine ro_s2 rfl (qs_ldb fc Tryz.isAgg3 rfl rfl (by rfl)) rfl rfl ha ?_
  refine ro_run tab_ok ha 1 [(1, _), (2, _), (7, _), (10, _), (13, _), (16, _), (17, _)] rfl ⟨rfl, rfl, rfl, rfl, rfl, rfl, rfl, trivial⟩ ?_
  refine ro_s2 rfl (qs_ldb fc Tryz.isAgg3 rfl rfl (by rfl)) rfl rfl ha ?_
  refine ro_op2 rfl (ot_cO rfl rfl rfl Tryz.call147 (fun w hw => own_any _ m.blocks w (hw.ro hm.b) hfit.b)) rfl rfl (.inr fun _ => ha) (fun ⟨A1, c1⟩ _ => ?_) ?_
  ·try dsimp only
   refine ro_op2 rfl (ot_cO rfl rfl rfl Tryz.call148 (fun w hw => clone_any _ m.inn w (hw.ro hm.i) hfit.i)) rfl rfl (.inr fun _ => ha) (fun ⟨A2, c2⟩ _ => ?_) ?_
   ·try dsimp only
    refine ro_op2 rfl (ot_cO rfl rfl rfl Tryz.call148 (fun w hw => clone_any _ m.out w (hw.ro hm.o) hfit.o)) rfl rfl (.inr fun _ => ha) (fun ⟨A3, c3⟩ _ => ?_) ?_
    ·try dsimp only
     refine ro_s2 rfl (qs_bst (cs := [_, _, _, _, _, _]) plT29 Tryz.zeroValue29 rfl rfl (by rfl)) rfl rfl ha ?_
     refine ro_op2 rfl (ot_alloc Tryz.zeroValue29 rfl rfl) rfl rfl (.inr fun _ => ha) (fun gx _ => ?_) ro_stop
     refine ro_op2 rfl (ot_stb _ fc Tryz.sizeOf29 rfl rfl rfl rfl rfl (by rfl) rfl (by rfl)) rfl rfl (.inl rfl) (fun _ _ => ?_) ro_stop
     refine ro_endx <| xw_join (gx, (A1, c1), (A2, c2), (A3, c3)) (trivial) ⟨rfl, rfl, rfl, trivial⟩ (fun _ h => h.msub ms)
    ·refine ro_op2 rfl (ot_alloc Tryz.zeroValue29 rfl rfl) rfl rfl (.inr fun _ => ha) (fun gx _ => ?_) ro_stop
     refine ro_op2 rfl (ot_cO rfl rfl rfl Tryz.call148 (fun w hw => clone_any _ m.out w (hw.ro hm.o) hfit.o)) rfl rfl (.inr fun _ => ha) (fun ⟨A3, c3⟩ _ => ?_) ro_stop
     try dsimp only
     refine ro_s2 rfl (qs_bst (cs := [_, _, _, _, _, _]) plT29 Tryz.zeroValue29 rfl rfl (by rfl)) rfl rfl ha ?_
     refine ro_op2 rfl (ot_stb _ fc Tryz.sizeOf29 rfl rfl rfl rfl rfl (by rfl) rfl (by rfl)) rfl rfl (.inl rfl) (fun _ _ => ?_) ro_stop
     refine ro_endx <| xw_join (gx, (A1, c1), (A2, c2), (A3, c3)) (trivial) ⟨rfl, rfl, rfl, trivial⟩ (fun _ h => h.msub ms)
   ·refine ro_op2 rfl (ot_alloc Tryz.zeroValue29 rfl rfl) rfl rfl (.inr fun _ => ha) (fun gx _ => ?_) ro_stop
    refine ro_op2 rfl (ot_cO rfl rfl rfl Tryz.call148 (fun w hw => clone_any _ m.inn w (hw.ro hm.i) hfit.i)) rfl rfl (.inr fun _ => ha) (fun ⟨A2, c2⟩ _ => ?_) ro_stop
    try dsimp only
    refine ro_op2 rfl (ot_cO rfl rfl rfl Tryz.call148 (fun w hw => clone_any _ m.out w (hw.ro hm.o) hfit.o)) rfl rfl (.inr fun _ => ha) (fun ⟨A3, c3⟩ _ => ?_) ro_stop
    try dsimp only
    refine ro_s2 rfl (qs_bst (cs := [_, _, _, _, _, _]) plT29 Tryz.zeroValue29 rfl rfl (by rfl)) rfl rfl ha ?_
    refine ro_op2 rfl (ot_stb _ fc Tryz.sizeOf29 rfl rfl rfl rfl rfl (by rfl) rfl (by rfl)) rfl rfl (.inl rfl) (fun _ _ => ?_) ro_stop
    refine ro_endx <| xw_join (gx, (A1, c1), (A2, c2), (A3, c3)) (trivial) ⟨rfl, rfl, rfl, trivial⟩ (fun _ h => h.msub ms)
  ·refine ro_op2 rfl (ot_alloc Tryz.zeroValue29 rfl rfl) rfl rfl (.inr fun _ => ha) (fun gx _ => ?_) ro_stop
   refine ro_op2 rfl (ot_cO rfl rfl rfl Tryz.call147 (fun w hw => own_any _ m.blocks w (hw.ro hm.b) hfit.b)) rfl rfl (.inr fun _ => ha) (fun ⟨A1, c1⟩ _ => ?_) ro_stop
   try dsimp only
   refine ro_op2 rfl (ot_cO rfl rfl rfl Tryz.call148 (fun w hw => clone_any _ m.inn w (hw.ro hm.i) hfit.i)) rfl rfl (.inr fun _ => ha) (fun ⟨A2, c2⟩ _ => ?_) ro_stop
   try dsimp only
   refine ro_op2 rfl (ot_cO rfl rfl rfl Tryz.call148 (fun w hw => clone_any _ m.out w (hw.ro hm.o) hfit.o)) rfl rfl (.inr fun _ => ha) (fun ⟨A3, c3⟩ _ => ?_) ro_stop
   try dsimp only
   refine ro_s2 rfl (qs_bst (cs := [_, _, _, _, _, _]) plT29 Tryz.zeroValue29 rfl rfl (by rfl)) rfl rfl ha ?_
   refine ro_op2 rfl (ot_stb _ fc Tryz.sizeOf29 rfl rfl rfl rfl rfl (by rfl) rfl (by rfl)) rfl rfl (.inl rfl) (fun _ _ => ?_) ro_stop
   refine ro_endx <| xw_join (gx, (A1, c1), (A2, c2), (A3, c3)) (trivial) ⟨rfl, rfl, rfl, trivial⟩ (fun _ h => h.msub ms)
 ·rintro ⟨gx, ⟨Ab, cb⟩, ⟨Ai, ci⟩, ⟨Ao, co⟩⟩ _
  try dsimp only
  refine cw_mem (fun w h => Cw.nilO MFrame h) ?_
  refine cw_seq ?_
  refine cw_seq ?_
  refine cw_region ?_
  refine rw_run tab_ok 1 [(2, _), (3, _), (20, _)] rfl ⟨rfl, rfl, rfl, trivial⟩ ?_
  refine rw_s (qs_ldb fc Tryz.isAgg25 rfl rfl (by rfl)) rfl rfl ?_
  refine rw_s (qs_len Tryz.underlying25 rfl rfl) rfl rfl ?_
  refine rw_run tab_ok 1 [(2, _), (3, _), (21, _), (22, _), (23, _)] rfl ⟨rfl, rfl, rfl, rfl, rfl, trivial⟩ ?_
  refine rw_end ?_
  refine cw_block (cw_loop (fun g : Nat × Option Addr × Nat => g.1 ≤ m.frames.length) (fun g => m.frames.length - g.1) (fun g => [(2, .pointer (some ⟨g2, 0, none⟩)), (3, .pointer (some ⟨gx, 0, none⟩)), (21, .slice a.Af m.frames.length a.cf), (22, .int .i64 (m.frames.length : Int)), (23, .int .i64 (g.1 : Int))]) (fun g => [ROw (.slice g.2.1 (m.frames.take g.1).length g.2.2) (m.frames.take g.1), RBox g1 [.slice a.Af m.frames.length a.cf, .slice a.Ab m.blocks.length a.cb, .slice a.Ai m.inn.length a.ci, .slice a.Ao m.out.length a.co, .int .i64 m.status, .int .i64 m.trap] 29, RBox g2 [.slice none 0 0, .slice none 0 0, .slice none 0 0, .slice none 0 0, .int .i64 0, .int .i64 0] 29, ROw (.slice Ab m.blocks.length cb) m.blocks, ROw (.slice Ai m.inn.length ci) m.inn, ROw (.slice Ao m.out.length co) m.out, RBox gx [.slice g.2.1 (m.frames.take g.1).length g.2.2, .slice Ab m.blocks.length cb, .slice Ai m.inn.length ci, .slice Ao m.out.length co, .int .i64 m.status, .int .i64 m.trap] 29]) (0, none, 0) (Nat.zero_le _) ⟨rfl, rfl, rfl, rfl, rfl, trivial⟩ me ?_)
  rintro ⟨k, A', c'⟩ hk
  try dsimp only
  have hk : k ≤ m.frames.length := hk
  have htl : (m.frames.take k).length = k := by rw [List.length_take]; omega
  refine cw_seq ?_
  refine cw_region ?_
  refine rw_run tab_ok 1 [(2, _), (3, _), (21, _), (22, _), (23, _), (24, _)] rfl ⟨rfl, rfl, rfl, rfl, rfl, rfl, trivial⟩ ?_
  refine rw_end ?_
  refine cw_seq ?_
  refine cw_condD rfl (fun hlt => ?_) (fun hlt => ?_)
  ·have hkl : k < m.frames.length := by omega
   obtain ⟨A1, c1, A2, c2, hl, hst, hi, hcell⟩ := hm.f.fr hkl
   obtain ⟨hb1, hb2⟩ := hfit.f.2 (frAt m.frames k) (frAt_mem hkl)
   have htk := take_fr hkl
   refine cw_skip (xw_then ?_)
   refine cw_cut (fun _ : Option Addr × Nat => True) (fun g => [(2, .pointer (some ⟨g2, 0, none⟩)), (3, .pointer (some ⟨gx, 0, none⟩)), (21, .slice a.Af m.frames.length a.cf), (22, .int .i64 (m.frames.length : Int)), (23, .int .i64 (k : Int))]) (fun g => [ROw (.slice g.1 (m.frames.take (k + 1)).length g.2) (m.frames.take (k + 1)), RBox g1 [.slice a.Af m.frames.length a.cf, .slice a.Ab m.blocks.length a.cb, .slice a.Ai m.inn.length a.ci, .slice a.Ao m.out.length a.co, .int .i64 m.status, .int .i64 m.trap] 29, RBox g2 [.slice none 0 0, .slice none 0 0, .slice none 0 0, .slice none 0 0, .int .i64 0, .int .i64 0] 29, ROw (.slice Ab m.blocks.length cb) m.blocks, ROw (.slice Ai m.inn.length ci) m.inn, ROw (.slice Ao m.out.length co) m.out, RBox gx [.slice g.1 (m.frames.take (k + 1)).length g.2, .slice Ab m.blocks.length cb, .slice Ai m.inn.length ci, .slice Ao m.out.length co, .int .i64 m.status, .int .i64 m.trap] 29]) ?_ ?_
   ·refine cw_block ?_
    refine cw_seq ?_
    refine cw_region ?_
    refine rw_s (qs_idx Tryz.underlying25 Tryz.sizeOf97 (.ro hm.f) (by omega) rfl rfl rfl) rfl rfl ?_
    refine rw_s (qs_ldA (hcell _) rfl rfl Tryz.isAgg97 Tryz.sizeOf97) rfl rfl ?_
    refine rw_op (ot_alloc Tryz.zeroValue97 rfl rfl) rfl rfl (fun g3 _ => ?_)
    refine rw_op (ot_stb _ fc Tryz.sizeOf97 rfl rfl rfl rfl rfl (by rfl) rfl (by rfl)) rfl rfl (fun _ _ => ?_)
    refine rw_end ?_
    refine cw_draw (.still 0 (.still 1 (.still 2 (.still 3 (.still 4 (.still 5 (.still 6 (.still 7 (.still 9 (.still 10 (.pick 8 (.pick 11 (.still 12 (.pick 13 (.pick 14 (.calm 15 (.pick 16 .done .stop)) .stop) .stop)) .stop) .stop))))))))))) [14, 15, 16] rfl (by kernel_rfl) (by kernel_rfl) ?_
    refine ro_run tab_ok ha 1 [(2, _), (3, _), (5, _), (21, _), (22, _), (23, _), (27, _)] rfl ⟨rfl, rfl, rfl, rfl, rfl, rfl, rfl, trivial⟩ ?_
    refine ro_s2 rfl (qs_ldb fc Tryz.isAgg25 rfl rfl (by rfl)) rfl rfl ha ?_
    refine ro_run tab_ok ha 1 [(2, _), (3, _), (5, _), (21, _), (22, _), (23, _), (28, _), (29, _)] rfl ⟨rfl, rfl, rfl, rfl, rfl, rfl, rfl, rfl, trivial⟩ ?_
    refine ro_s2 rfl (qs_ldb fc Tryz.isAgg3 rfl rfl (by rfl)) rfl rfl ha ?_
    refine ro_run tab_ok ha 1 [(2, _), (3, _), (5, _), (21, _), (22, _), (23, _), (28, _), (30, _), (31, _)] rfl ⟨rfl, rfl, rfl, rfl, rfl, rfl, rfl, rfl, rfl, trivial⟩ ?_
    refine ro_s2 rfl (qs_ldb fc Tryz.isAgg3 rfl rfl (by rfl)) rfl rfl ha ?_
    refine ro_run tab_ok ha 1 [(2, _), (3, _), (5, _), (21, _), (22, _), (23, _), (28, _), (30, _), (32, _), (33, _)] rfl ⟨rfl, rfl, rfl, rfl, rfl, rfl, rfl, rfl, rfl, rfl, trivial⟩ ?_
    refine ro_s2 rfl (qs_ldb fc Tryz.isAgg95 rfl rfl (by rfl)) rfl rfl ha ?_
    refine ro_run tab_ok ha 1 [(2, _), (3, _), (21, _), (22, _), (23, _), (28, _), (30, _), (32, _), (34, _), (36, _)] rfl ⟨rfl, rfl, rfl, rfl, rfl, rfl, rfl, rfl, rfl, rfl, trivial⟩ ?_
    refine ro_s2 rfl (qs_ldb fc Tryz.isAgg95 rfl rfl (by rfl)) rfl rfl ha ?_
    refine ro_op2 rfl (ot_cO rfl rfl rfl Tryz.call149 (fun w hw => clone_vals _ _ (frAt m.frames k).locals w (hw.ro hl) (by omega))) rfl rfl (.inr fun _ => ha) (fun ⟨A3, c3⟩ _ => ?_) ro_stop
    try dsimp only
    refine ro_op2 rfl (ot_cO rfl rfl rfl Tryz.call149 (fun w hw => clone_vals _ _ (frAt m.frames k).stack w (hw.ro hst) (by omega))) rfl rfl (.inr fun _ => ha) (fun ⟨A4, c4⟩ _ => ?_) ro_stop
    try dsimp only
    refine ro_s2 rfl (qs_bst (cs := [_, _, _, _]) plT97 Tryz.zeroValue97 rfl rfl (by rfl)) rfl rfl ha ?_
    refine ro_op2 rfl (ot_bsl (cs := [_, _, _, _]) Tryz.underlying25 Tryz.sizeOf97 Tryz.zeroValue97 rfl rfl rfl rfl rfl) rfl rfl (.inr fun _ => ha) (fun g4 _ => ?_) ro_stop
    refine ro_op2 rfl (ot_app1 (α := MFrame) (bytes := 64) (frAt m.frames k) [ROw (.slice A3 (frAt m.frames k).locals.length c3) (frAt m.frames k).locals, ROw (.slice A4 (frAt m.frames k).stack.length c4) (frAt m.frames k).stack] htk Tryz.underlying25 (info_ex Tryz.inFrame) rfl (perm4 fc fc fc fc) (hel_fr hi) (by omega) (by omega) rfl rfl rfl) rfl rfl (.inl rfl) (fun ⟨A5, c5⟩ _ => ?_) ro_stop
    try dsimp only
    refine ro_runC tab_ok 1 [(2, _), (3, _), (21, _), (22, _), (23, _), (41, _), (42, _)] rfl ⟨rfl, rfl, rfl, rfl, rfl, rfl, rfl, trivial⟩ ?_
    refine ro_op2 rfl (ot_stb _ fc Tryz.sizeOf25 rfl rfl rfl rfl rfl (by rfl) rfl (by rfl)) rfl rfl (.inl rfl) (fun _ _ => ?_) ro_stop
    refine ro_endx (xw_blkn ?_)
    refine xw_join (A5, c5) (trivial) ⟨rfl, rfl, rfl, rfl, rfl, trivial⟩ (fun _ h => h.msub ms)
   ·rintro ⟨A5, c5⟩ _
    try dsimp only
    refine cw_region ?_
    refine rw_s (qs_add rfl rfl rfl (by omega)) rfl rfl ?_
    refine rw_run tab_ok 1 [(2, _), (3, _), (21, _), (22, _), (23, _)] rfl ⟨rfl, rfl, rfl, rfl, rfl, trivial⟩ ?_
    refine rw_round (k + 1, A5, c5) (by show k + 1 ≤ _; omega) (by show _ - _ < _ - _; omega) ⟨rfl, rfl, rfl, rfl, rfl, trivial⟩ me
  ·obtain rfl : k = m.frames.length := by omega
   rw [List.take_length]
   refine cw_exit (xw_thenx (xw_thenx (xw_blk (xw_then ?_))))
   refine cw_seq ?_
   refine cw_region ?_
   refine rw_s (qs_ldbA (vs := [_, _, _, _, _, _]) fc Tryz.isAgg29 Tryz.sizeOf29 rfl rfl (by rfl) rfl) rfl rfl ?_
   refine rw_op (ot_stb _ fc Tryz.sizeOf29 rfl rfl rfl rfl rfl (by rfl) rfl (by rfl)) rfl rfl (fun _ _ => ?_)
   refine rw_end ?_
   refine cw_ret ?_
   refine xw_ret1 Tryz.results115 (rv_box (cs := [_, _, _, _, _, _]) fc Tryz.isAgg29 Tryz.sizeOf29 rfl) ?_
   intro w hw
   exact ⟨⟨A', c', Ab, cb, Ai, ci, Ao, co⟩, trivial, rfl, hw.msub ms⟩
end Go.Proofs.YtpacloheigifkaaGreat
-- Mc3
/- Machines: the doer of an op: values are taken and put. -/
namespace Go.Proofs.YtpacloheigifkaaGreat
open Go.RowKit
theorem getD_last {α : Type} (xs : List α) (y d : α) {k : Nat} (hk : xs.length = k) : (xs ++ [y]).getD k d = y := by
 subst hk
 rw [List.getD_eq_getElem?_getD, List.getElem?_append_right (Nat.le_refl _), Nat.sub_self]
 rfl
theorem set_last {α : Type} (xs : List α) (y y' : α) {k : Nat} (hk : xs.length = k) : (xs ++ [y]).set k y' = xs ++ [y'] := by
 subst hk
 rw [List.set_append_right _ _ (Nat.le_refl _), Nat.sub_self]
 rfl
theorem take_last {α : Type} (xs : List α) (y : α) {k : Nat} (hk : xs.length = k) : (xs ++ [y]).take k = xs := by
 subst hk
 exact List.take_left' rfl
section
variable {P : Program} {n : NF} {B : Nat} {w0 : World} {env : Env} {H H' : List Res} {o : Oper}
theorem last_cell {α : Type} [FOw α] {xs : List α} {y : α} {A : Option Addr} {k c : Nat} (hk : xs.length = k) (hp : Foc H (ROw (.slice A (k + 1) c) (xs ++ [y])) H') {j : Nat} {v : Value} (hj : (FOw.enc y)[j]? = some v) :
  ∀ w, Cw B w0 H w → w.cell? ⟨ab A, ao A + k * Rep.k α + j, none⟩ = some v := fun w hw => by
 refine SF.cell (SF.own (by rw [List.length_append, hk]; rfl) hp) (Nat.lt_succ_self k) y ?_ w hw
 rw [getD_last xs y y hk]
 exact hj
theorem row_wf {α : Type} [FOw α] {v : Value} {xs : List α} {w : World} (hw : Cw B w0 H w) (hp : Foc H (ROw v xs) H') {x : α} (hx : x ∈ xs) : FOw.wf x := by
 obtain ⟨F, h, _⟩ := hw.rd hp
 rcases (show OwL w F v xs from h) with ⟨_, rfl, _⟩ | ⟨g, p, cap, cur, Fs, ho⟩
 ·cases hx
 ·obtain ⟨i, hi, rfl⟩ := List.getElem_of_mem hx
  exact (FOw.own_iff.1 (ho.el i _ (List.getElem?_eq_getElem hi))).1.2
theorem last_wf {α : Type} [FOw α] {v : Value} {xs : List α} {y : α} {w : World} (hw : Cw B w0 H w) (hp : Foc H (ROw v (xs ++ [y])) H') : FOw.wf y := row_wf hw hp (List.mem_append_right _ (List.mem_singleton.2 rfl))
theorem ot_stL {α : Type} [FOw α] {i j : Operand} {t : TypeId} {A : Option Addr} {c k f sz : Nat} {v : Value} {us : List Value} {xs : List α} (y y' : α) (hk : xs.length = k) (hp : Foc H (ROw (.slice A (k + 1) c) (xs ++ [y])) H') (hwf : FOw.wf y') (hz : ∀ w, (sizeOf t).run P w = .ok sz w)
  (hop : o.op = .store t i j) (hi : opv env i = some (.pointer (some ⟨ab A, ao A + k * Rep.k α + f, none⟩))) (hj : opv env j = some v) (hv : v.cells = us.toArray) (hkk : Nat.beq us.length sz = true) (h1 : us.all Value.oneCell' = true)
  (hx : lset (FOw.enc y) f us = FOw.enc y') (hle : Nat.ble (f + us.length) (Rep.k α) = true) : OT P n B w0 o env H (γ := Unit) (fun _ => True) (fun _ => undef) (fun _ => ROw (.slice A (k + 1) c) (xs ++ [y']) :: H') :=
 ot_stE y' y (set_last xs y y' hk).symm hp (Nat.lt_succ_self k) hwf hz hop hi hj hv hkk h1 (by rw [getD_last xs y y hk]; exact hx) hle
theorem take_own {α : Type} [Ow α] {A : Option Addr} {k c : Nat} {xs : List α} {y : α} (hk : xs.length = k) {w : World} (h : Cw B w0 (ROw (.slice A (k + 1) c) (xs ++ [y]) :: H) w) : Cw B w0 (ROw (.slice A k c) xs :: H) w := by
 have := take_ow (k := k) (Nat.le_succ k) h
 rwa [take_last xs y hk] at this
set_option maxRecDepth 100000 in
theorem dtop_any (gd k c : Nat) (A : Option Addr) (hs : List HFrame) (w : World) (hc : w.cell? ⟨gd, 0, none⟩ = some (.slice A (k + 1) c)) (hlt : gd < w.heap.size) (hsl : Sl w (.slice A (k + 1) c) hs) :
  Calls Tryz.prog 151 #[.pointer (some ⟨gd, 0, none⟩)] w fun e w' => e = .returned (.pointer (some ⟨ab A, ao A + k * 4, none⟩)) ∧ Below w.heap.size w w' := by
 have hb := len_bd hsl
 refine enter Tryz.func151 rfl Tryz.ntmps151 rfl ?_
 refine cw_seq ?_
 refine cw_region ?_
 refine rw_run tab_ok 1 [(0, _)] rfl ⟨rfl, trivial⟩ ?_
 refine rw_end ?_
 refine cw_seq ?_
 refine cw_draw (.still 0 (.still 1 (.still 2 (.still 3 (.still 4 (.still 5 (.still 6 (.still 7 (.still 8 (.still 9 (.still 10 (.still 11 (.still 12 (.still 13 .done)))))))))))))) [] rfl (by kernel_rfl) (by kernel_rfl) ?_
 refine ro_run tab_ok ha 4 [(0, _), (6, _)] rfl ⟨rfl, rfl, trivial⟩ ?_
 refine ro_s2 rfl (qs_ld (fun w' hw => (hw.below.cell hlt).trans hc) rfl rfl Tryz.isAgg25) rfl rfl ha ?_
 refine ro_run tab_ok ha 4 [(7, _), (11, _)] rfl ⟨rfl, rfl, trivial⟩ ?_
 refine ro_s2 rfl (qs_ld (fun w' hw => (hw.below.cell hlt).trans hc) rfl rfl Tryz.isAgg25) rfl rfl ha ?_
 refine ro_s2 rfl (qs_len Tryz.underlying25 rfl rfl) rfl rfl ha ?_
 refine ro_s2 rfl (qs_sub rfl rfl rfl (by omega)) rfl rfl ha ?_
 refine ro_as (t := 14) (v' := .int .i64 (k : Int)) rfl (by congr 1; omega) ?_
 refine ro_s2 rfl (qs_idx (k := k) Tryz.underlying25 Tryz.sizeOf97 (.ro hsl) (by omega) rfl rfl rfl) rfl rfl ha ?_
 refine ro_run tab_ok ha 1 [(2, _)] rfl ⟨rfl, trivial⟩ ?_
 refine ro_end ?_
 refine cw_ret ?_
 refine xw_ret1 Tryz.results151 (rv_tmp rfl) ?_
 intro w hw
 exact ⟨rfl, hw.below⟩
end
section
variable {B : Nat} {w0 : World} {H : List Res}
set_option maxRecDepth 100000 in
set_option maxHeartbeats 1000000 in
theorem dpop_any (gd k : Nat) (hl : List HFrame) (hk : hl.length = k) (A As : Option Addr) (c cs : Nat) (r : List Value) (f p : Int) (lv : Value) (s : List MVal) (v : MVal) (w : World)
  (hw : Cw B w0 (RBox gd (.slice A (k + 1) c :: r) 159 :: ROw (.slice A (k + 1) c) (hl ++ [(⟨f, p, lv, .slice As (s.length + 1) cs⟩ : HFrame)]) :: ROw (.slice As (s.length + 1) cs) (s ++ [v]) :: H) w) :
  Calls Tryz.prog 182 #[.pointer (some ⟨gd, 0, none⟩)] w fun e w' => ∃ _ : Unit, True ∧ e = .returned (.agg #[.bool v.ref, .int .i64 v.n]) ∧
   Cw B w0 (RBox gd (.slice A (k + 1) c :: r) 159 :: ROw (.slice A (k + 1) c) (hl ++ [(⟨f, p, lv, .slice As s.length cs⟩ : HFrame)]) :: ROw (.slice As s.length cs) s :: H) w' := by
 have hlk : ∀ h : HFrame, (hl ++ [h]).length = k + 1 := fun h => by rw [List.length_append, hk]; rfl
 have hwf : HFrame.wf _ := last_wf hw .b
 have hsl : (s ++ [v]).length = s.length + 1 := by simp
 have hb : s.length + 1 ≤ 140737488355328 := len_bd (SF.at_ (SF.own hsl .c) hw)
 refine enter_own Tryz.func182 rfl Tryz.ntmps182 rfl hw ?_
 refine cw_seq ?_
 refine cw_region ?_
 refine rw_op (ot_alloc Tryz.zeroValue103 rfl rfl) rfl rfl (fun g1 _ => ?_)
 refine rw_end ?_
 refine cw_seq ?_
 refine cw_region ?_
 refine rw_run tab_ok 1 [(2, _), (6, _)] rfl ⟨rfl, rfl, trivial⟩ ?_
 refine rw_op (ot_c0 rfl rfl rfl Tryz.call151 (fun w hw => dtop_any gd k c A (hl ++ [(⟨f, p, lv, .slice As (s.length + 1) cs⟩ : HFrame)]) w (box_cell fc rfl w hw) (box_lt hw fc) (SF.at_ (SF.own (hlk _) fc) hw))) rfl rfl (fun _ _ => ?_)
 refine rw_run tab_ok 1 [(2, _), (3, _)] rfl ⟨rfl, rfl, trivial⟩ ?_
 refine rw_end ?_
 refine cw_seq ?_
 refine cw_region ?_
 refine rw_run tab_ok 3 [(2, _), (3, _), (10, _)] rfl ⟨rfl, rfl, rfl, trivial⟩ ?_
 refine rw_s (qs_ld (last_cell (j := 3) hk fc rfl) rfl rfl Tryz.isAgg95) rfl rfl ?_
 refine rw_s (qs_len Tryz.underlying95 rfl rfl) rfl rfl ?_
 refine rw_s (qs_sub rfl rfl rfl (by omega)) rfl rfl ?_
 refine rw_run tab_ok 1 [(2, _), (3, _), (4, _)] rfl ⟨rfl, rfl, rfl, trivial⟩ ?_
 refine rw_end ?_
 refine cw_seq ?_
 refine cw_region ?_
 refine rw_run tab_ok 3 [(2, _), (3, _), (4, _), (16, _)] rfl ⟨rfl, rfl, rfl, rfl, trivial⟩ ?_
 refine rw_s (qs_ld (last_cell (j := 3) hk fc rfl) rfl rfl Tryz.isAgg95) rfl rfl ?_
 refine rw_run tab_ok 1 [(2, _), (3, _), (4, _), (17, _), (18, _)] rfl ⟨rfl, rfl, rfl, rfl, rfl, trivial⟩ ?_
 refine rw_as (t := 18) (v' := .int .i64 (s.length : Int)) rfl (by congr 1; omega) ?_
 refine rw_s (qs_idx (k := s.length) Tryz.underlying95 Tryz.sizeOf103 (SF.own (xs := s ++ [v]) hsl fc) (by omega) rfl rfl rfl) rfl rfl ?_
 refine rw_s (qs_ldA (cs := [.bool v.ref, .int .i64 v.n]) (fun w hw j u hj => last_cell (α := MVal) rfl fc hj w hw) rfl rfl Tryz.isAgg103 Tryz.sizeOf103) rfl rfl ?_
 refine rw_op (ot_alloc Tryz.zeroValue103 rfl rfl) rfl rfl (fun g2 _ => ?_)
 refine rw_op (ot_stb _ fc Tryz.sizeOf103 rfl rfl rfl rfl rfl (by rfl) rfl (by rfl)) rfl rfl (fun _ _ => ?_)
 refine rw_end ?_
 refine cw_seq ?_
 refine cw_region ?_
 refine rw_run tab_ok 4 [(2, _), (4, _), (5, _), (21, _), (24, _)] rfl ⟨rfl, rfl, rfl, rfl, rfl, trivial⟩ ?_
 refine rw_s (qs_ld (last_cell (j := 3) hk fc rfl) rfl rfl Tryz.isAgg95) rfl rfl ?_
 refine rw_run tab_ok 1 [(2, _), (5, _), (21, _), (25, _), (26, _)] rfl ⟨rfl, rfl, rfl, rfl, rfl, trivial⟩ ?_
 refine rw_as (t := 26) (v' := .int .i64 (s.length : Int)) rfl (by congr 1; omega) ?_
 refine rw_fact (fun w h => own_cap h (xs := s ++ [v]) fc) fun hcap => ?_
 refine rw_s (qs_to (k := s.length) Tryz.underlying95 Tryz.sizeOf103 (by omega) rfl rfl rfl) rfl rfl ?_
 refine rw_run tab_ok 2 [(2, _), (5, _), (27, _), (29, _)] rfl ⟨rfl, rfl, rfl, rfl, trivial⟩ ?_
 refine rw_op (ot_stL (α := HFrame) ⟨f, p, lv, .slice As (s.length + 1) cs⟩ ⟨f, p, lv, .slice As s.length cs⟩ hk fc ⟨hwf.1, hwf.2.1, rfl⟩ Tryz.sizeOf95 rfl rfl rfl rfl rfl rfl rfl rfl) rfl rfl (fun _ _ => ?_)
 refine rw_end ?_
 refine cw_seq ?_
 refine cw_region ?_
 refine rw_s (qs_ldbA (vs := [_, _]) fc Tryz.isAgg103 Tryz.sizeOf103 rfl rfl (by rfl) rfl) rfl rfl ?_
 refine rw_op (ot_stb _ fc Tryz.sizeOf103 rfl rfl rfl rfl rfl (by rfl) rfl (by rfl)) rfl rfl (fun _ _ => ?_)
 refine rw_end ?_
 refine cw_ret ?_
 refine xw_ret1 Tryz.results182 (rv_box (cs := [_, _]) fc Tryz.isAgg103 Tryz.sizeOf103 rfl) ?_
 intro w hw
 exact ⟨(), trivial, rfl, (take_own rfl (hw.msub (T := ROw (.slice As (s.length + 1) cs) (s ++ [v]) :: RBox gd _ _ :: ROw (.slice A (k + 1) c) _ :: H) ms)).msub ms⟩
set_option maxRecDepth 100000 in
set_option maxHeartbeats 1000000 in
theorem dpush_any (gd k : Nat) (hl : List HFrame) (hk : hl.length = k) (A As Av : Option Addr) (c cs cv : Nat) (r : List Value) (f p : Int) (lv : Value) (s ys : List MVal) (w : World) (hs : SF B w0 H Av ys.length cv ys) (hb : s.length + ys.length ≤ 1000000)
  (hw : Cw B w0 (RBox gd (.slice A (k + 1) c :: r) 159 :: ROw (.slice A (k + 1) c) (hl ++ [(⟨f, p, lv, .slice As s.length cs⟩ : HFrame)]) :: ROw (.slice As s.length cs) s :: H) w) :
  Calls Tryz.prog 183 #[.pointer (some ⟨gd, 0, none⟩), .slice Av ys.length cv] w fun e w' => ∃ g : Option Addr × Nat, True ∧ e = .returned (.tuple #[]) ∧
   Cw B w0 (RBox gd (.slice A (k + 1) c :: r) 159 :: ROw (.slice A (k + 1) c) (hl ++ [(⟨f, p, lv, .slice g.1 (s ++ ys).length g.2⟩ : HFrame)]) :: ROw (.slice g.1 (s ++ ys).length g.2) (s ++ ys) :: H) w' := by
 have hlk : ∀ h : HFrame, (hl ++ [h]).length = k + 1 := fun h => by rw [List.length_append, hk]; rfl
 have hwf : HFrame.wf _ := last_wf hw .b
 refine enter_own Tryz.func183 rfl Tryz.ntmps183 rfl hw ?_
 refine cw_seq ?_
 refine cw_region ?_
 refine rw_run tab_ok 1 [(1, _), (5, _)] rfl ⟨rfl, rfl, trivial⟩ ?_
 refine rw_op (ot_c0 rfl rfl rfl Tryz.call151 (fun w hw => dtop_any gd k c A (hl ++ [(⟨f, p, lv, .slice As s.length cs⟩ : HFrame)]) w (box_cell fc rfl w hw) (box_lt hw fc) (SF.at_ (SF.own (hlk _) fc) hw))) rfl rfl (fun _ _ => ?_)
 refine rw_run tab_ok 1 [(1, _), (4, _)] rfl ⟨rfl, rfl, trivial⟩ ?_
 refine rw_end ?_
 refine cw_region ?_
 refine rw_run tab_ok 4 [(1, _), (7, _), (10, _)] rfl ⟨rfl, rfl, rfl, trivial⟩ ?_
 refine rw_s (qs_ld (last_cell (j := 3) hk fc rfl) rfl rfl Tryz.isAgg95) rfl rfl ?_
 refine rw_run tab_ok 1 [(7, _), (11, _), (12, _)] rfl ⟨rfl, rfl, rfl, trivial⟩ ?_
 refine rw_op (ot_appS (α := MVal) (bytes := 16) (xs := s) (ys := ys) rfl Tryz.underlying95 (info_ex Tryz.inVal) rfl (Foc.c) (.s (.s (.s hs))) (by omega) (by omega) rfl rfl rfl) rfl rfl (fun ⟨A5, c5⟩ _ => ?_)
 try dsimp only
 refine rw_run tab_ok 2 [(13, _), (15, _)] rfl ⟨rfl, rfl, trivial⟩ ?_
 refine rw_op (ot_stL (α := HFrame) ⟨f, p, lv, .slice As s.length cs⟩ ⟨f, p, lv, .slice A5 (s ++ ys).length c5⟩ hk fc ⟨hwf.1, hwf.2.1, rfl⟩ Tryz.sizeOf95 rfl rfl rfl rfl rfl rfl rfl rfl) rfl rfl (fun _ _ => ?_)
 refine rw_endx ?_
 refine xw_end0 Tryz.results183  ?_
 intro w hw
 exact ⟨(A5, c5), trivial, rfl, hw.msub ms⟩
def numV (z : Int) : MVal := ⟨false, wrapI z⟩
set_option maxRecDepth 100000 in
set_option maxHeartbeats 1000000 in
theorem dnumber_any (gd k : Nat) (hl : List HFrame) (hk : hl.length = k) (A As : Option Addr) (c cs : Nat) (r : List Value) (f p : Int) (lv : Value) (s : List MVal) (z : Int) (w : World) (hb : s.length ≤ 1000)
  (hw : Cw B w0 (RBox gd (.slice A (k + 1) c :: r) 159 :: ROw (.slice A (k + 1) c) (hl ++ [(⟨f, p, lv, .slice As s.length cs⟩ : HFrame)]) :: ROw (.slice As s.length cs) s :: H) w) :
  Calls Tryz.prog 181 #[.pointer (some ⟨gd, 0, none⟩), .int .i64 z] w fun e w' => ∃ g : Option Addr × Nat, True ∧ e = .returned (.tuple #[]) ∧
   Cw B w0 (RBox gd (.slice A (k + 1) c :: r) 159 :: ROw (.slice A (k + 1) c) (hl ++ [(⟨f, p, lv, .slice g.1 (s ++ [numV z]).length g.2⟩ : HFrame)]) :: ROw (.slice g.1 (s ++ [numV z]).length g.2) (s ++ [numV z]) :: H) w' := by
 refine enter_own Tryz.func181 rfl Tryz.ntmps181 rfl hw ?_
 have hlk : ∀ h : HFrame, (hl ++ [h]).length = k + 1 := fun h => by rw [List.length_append, hk]; rfl
 refine cw_region ?_
 refine rw_run tab_ok 2 [(4, _), (5, _)] rfl ⟨rfl, rfl, trivial⟩ ?_
 refine rw_op (ot_c0 rfl rfl rfl Tryz.call217 ((fun w hw => cbelow ((fun w hw => wrap_any z w) w hw)))) rfl rfl (fun _ _ => ?_)
 refine rw_s (qs_bst (cs := [_, _]) plT103 Tryz.zeroValue103 rfl rfl (by rfl)) rfl rfl ?_
 refine rw_op (ot_bsl (cs := [_, _]) Tryz.underlying95 Tryz.sizeOf103 Tryz.zeroValue103 rfl rfl rfl rfl rfl) rfl rfl (fun g1 _ => ?_)
 refine rw_mem (fun w h => row_ow (α := MVal) (m := 1) [numV z] rfl (by simp [numV, FOw.wf]; exact wrapI_i64 z) rfl (by decide) h) ?_
 refine rw_op (ot_call rfl rfl rfl Tryz.call183 (fun w hw => dpush_any gd k hl hk A As _ c cs 1 r f p lv s [numV z] w (SF.own rfl .a) (by simp only [List.length_singleton]; omega) (hw.msub (.s fc (.s fc (.s fc .r)))))) rfl rfl (fun ⟨A5, c5⟩ _ => ?_)
 try dsimp only
 refine rw_endx ?_
 refine xw_end0 Tryz.results181  ?_
 intro w hw
 exact ⟨(A5, c5), trivial, rfl, hw.msub ms⟩
end
end Go.Proofs.YtpacloheigifkaaGreat
