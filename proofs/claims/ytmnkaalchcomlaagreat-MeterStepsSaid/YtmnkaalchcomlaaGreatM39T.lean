/- Texts of one proof, one behind the other: lemmas alone. -/
import Derived.Test.YtmnkaalchcomlaaGreatM38T
import Derived.Test.YtmnkaalchcomlaaGreatM17T
import Derived.Test.YtmnkaalchcomlaaGreatM23T

-- Me2
/- Meter: a machine runs. -/
namespace Go.Proofs.YtmnkaalchcomlaaGreat
open Go.RowKit

theorem one_right {fs : List MFunc} (_ : Fitd fs) {m : MMach} (_ : RightM fs m) {k : Int} (hon : onS fs m k) : oneS fs m k = (stepM fs m, k - costC (opOf fs m).c) := by
  exact one_step hon.1 (by have := hon.2.1; omega)
set_option maxRecDepth 100000 in
set_option maxHeartbeats 4000000 in
theorem mraw_any (Ap : Option Addr) (cp : Nat) (fs : List MFunc) (a : MA) (m : MMach) (k : Int) (r : MMach × Int) (hr : runM fs m k = r) (w : World) (hs : Sl w (.slice Ap fs.length cp) fs) (hm : MIn w.heap.size w a m) (hF : Fitd fs) (hR : RightM fs m) (hk : 0 ≤ k ∧ k ≤ 10000) :
    Calls Tryz.prog 100 #[.agg #[.slice Ap fs.length cp], .agg #[.slice a.Af m.frames.length a.cf, .slice a.Ab m.blocks.length a.cb, .slice a.Ai m.inn.length a.ci, .slice a.Ao m.out.length a.co, .int .i64 m.status, .int .i64 m.trap], .int .i64 k] w fun e w' => ∃ g : MA, True ∧
      e = .returned (.tuple #[.agg #[.slice g.Af r.1.frames.length g.cf, .slice g.Ab r.1.blocks.length g.cb, .slice g.Ai r.1.inn.length g.ci, .slice g.Ao r.1.out.length g.co, .int .i64 r.1.status, .int .i64 r.1.trap], .int .i64 r.2]) ∧ Cw w.heap.size w [ROw (.slice g.Af r.1.frames.length g.cf) r.1.frames, ROw (.slice g.Ab r.1.blocks.length g.cb) r.1.blocks, ROw (.slice g.Ai r.1.inn.length g.ci) r.1.inn, ROw (.slice g.Ao r.1.out.length g.co) r.1.out] w' := by
  refine enter Tryz.func100 rfl Tryz.ntmps100 rfl ?_
  refine cw_seq ?_
  refine cw_region ?_
  refine rw_op (ot_box rfl rfl rfl) rfl rfl (fun g1 _ => ?_)
  refine rw_op (ot_box rfl rfl rfl) rfl rfl (fun g2 _ => ?_)
  refine rw_op (ot_alloc Tryz.zeroValue29 rfl rfl) rfl rfl (fun g3 _ => ?_)
  refine rw_run tab_ok 1 [(2, _), (3, _), (4, _), (6, _)] rfl ⟨rfl, rfl, rfl, rfl, trivial⟩ ?_
  refine rw_end ?_
  refine cw_seq ?_
  refine cw_region ?_
  refine rw_s (qs_ldbA (vs := [_, _, _, _, _, _]) fc Tryz.isAgg29 Tryz.sizeOf29 rfl rfl (by rfl) rfl) rfl rfl ?_
  refine rw_op (ot_c rfl rfl rfl Tryz.call133 (fun w hw => ownm_any a m w (MIn.ro hw hm) (fitM_of hF hR))) rfl rfl (fun g0 _ => ?_)
  refine rw_run tab_ok 1 [(3, _), (6, _), (10, _), (11, _)] rfl ⟨rfl, rfl, rfl, rfl, trivial⟩ ?_
  refine rw_s (qs_bst (cs := [_, _, _, _, _, _, _]) plT176 Tryz.zeroValue176 rfl rfl (by rfl)) rfl rfl ?_
  refine rw_op (ot_box rfl rfl rfl) rfl rfl (fun g4 _ => ?_)
  refine rw_run tab_ok 1 [(3, _), (6, _), (8, _)] rfl ⟨rfl, rfl, rfl, trivial⟩ ?_
  refine rw_end ?_
  refine cw_seq ?_
  refine cw_block (cw_loop (fun g : (MMach × Int) × MA => (RightM fs g.1.1 ∧ 0 ≤ g.1.2 ∧ g.1.2 ≤ 10000) ∧ runM fs g.1.1 g.1.2 = r) (fun g => g.1.2.toNat) (fun _ => [(3, .pointer (some ⟨g1, 0, none⟩)), (6, .pointer (some ⟨g3, 0, none⟩)), (8, .pointer (some ⟨g4, 0, none⟩))]) (fun g => [RBox g4 [.slice g.2.Af g.1.1.frames.length g.2.cf, .slice g.2.Ab g.1.1.blocks.length g.2.cb, .slice g.2.Ai g.1.1.inn.length g.2.ci, .slice g.2.Ao g.1.1.out.length g.2.co, .int .i64 g.1.1.status, .int .i64 g.1.1.trap, .int .i64 g.1.2] 176, ROw (.slice g.2.Af g.1.1.frames.length g.2.cf) g.1.1.frames, ROw (.slice g.2.Ab g.1.1.blocks.length g.2.cb) g.1.1.blocks, ROw (.slice g.2.Ai g.1.1.inn.length g.2.ci) g.1.1.inn, ROw (.slice g.2.Ao g.1.1.out.length g.2.co) g.1.1.out, RBox g1 [.slice Ap fs.length cp] 24, RBox g3 [.slice none 0 0, .slice none 0 0, .slice none 0 0, .slice none 0 0, .int .i64 0, .int .i64 0] 29]) ((m, k), g0) (⟨⟨hR, hk⟩, hr⟩) ⟨rfl, rfl, rfl, trivial⟩ me ?_)
  rintro ⟨⟨q, z⟩, g⟩ hq
  try dsimp only
  obtain ⟨⟨hRq, hz⟩, hrq⟩ : (RightM fs q ∧ 0 ≤ z ∧ z ≤ 10000) ∧ runM fs q z = r := hq
  obtain ⟨p, hpe⟩ : ∃ p, oneS fs q z = p := ⟨_, rfl⟩
  refine cw_seq ?_
  refine cw_seq ?_
  refine cw_region ?_
  refine rw_run tab_ok 1 [(3, _), (6, _), (8, _), (14, _)] rfl ⟨rfl, rfl, rfl, rfl, trivial⟩ ?_
  refine rw_s (qs_ldbA (vs := [_]) fc Tryz.isAgg24 Tryz.sizeOf24 rfl rfl (by rfl) rfl) rfl rfl ?_
  refine rw_op (ot_call rfl rfl rfl Tryz.call139 (fun w hw => rstep_any g4 g q z Ap cp fs hs hF hRq hz p hpe w (hw.msub (.s fc (.s fc (.s fc (.s fc (.s fc .r)))))))) rfl rfl (fun g5 _ => ?_)
  refine rw_end ?_
  refine cw_condD rfl (fun hon => ?_) (fun hon => ?_)
  · have hon : onS fs q z := hon
    have e1 := (one_right hF hRq hon).symm.trans hpe
    have hp := cost_pos (opOf fs q).c
    have h2 := hon.2.1
    refine cw_skip (xw_then ?_)
    refine cw_block ?_
    refine cw_skip (xw_blkn ?_)
    refine xw_round (p, g5) (by rw [← e1]; exact ⟨⟨step_right hF hRq, by show 0 ≤ z - _; omega, by show z - _ ≤ _; omega⟩, by show runM fs (stepM fs q) _ = r; rw [← hrq, run_one fs q z, if_pos hon, hpe, ← e1]⟩) (by rw [← e1]; show (z - _).toNat < z.toNat; omega) ⟨rfl, rfl, rfl, trivial⟩ me
  · have hon : ¬ onS fs q z := hon
    have e1 : p = r := by rw [← hrq, run_one fs q z, if_neg hon, hpe]
    subst e1
    refine cw_exit (xw_thenx (xw_thenx (xw_blk (xw_then ?_))))
    refine cw_seq ?_
    refine cw_drawq (.still 0 (.still 1 (.still 2 (.still 3 (.still 4 (.still 5 (.still 6 (.still 7 (.pick 8 (.still 9 .done) .stop))))))))) [] rfl (by kernel_rfl) (by kernel_rfl) [RBox g4 [.slice g5.Af p.1.frames.length g5.cf, .slice g5.Ab p.1.blocks.length g5.cb, .slice g5.Ai p.1.inn.length g5.ci, .slice g5.Ao p.1.out.length g5.co, .int .i64 p.1.status, .int .i64 p.1.trap, .int .i64 p.2] 176] ?_
    refine ro_run tab_ok ha 3 [(6, _), (8, _), (19, _)] rfl ⟨rfl, rfl, rfl, trivial⟩ ?_
    refine ro_s2 rfl (qs_ldbA (vs := [_, _, _, _, _, _]) fc Tryz.isAgg29 Tryz.sizeOf29 rfl rfl (by rfl) rfl) rfl rfl ha ?_
    refine ro_run tab_ok ha 3 [(6, _), (20, _), (23, _)] rfl ⟨rfl, rfl, rfl, trivial⟩ ?_
    refine ro_s2 rfl (qs_ldb fc Tryz.isAgg3 rfl rfl (by rfl)) rfl rfl ha ?_
    refine ro_op2 rfl (ot_stb _ fc Tryz.sizeOf29 rfl rfl rfl rfl rfl (by rfl) rfl (by rfl)) rfl rfl (.inr fun _ => ha) (fun _ _ => ?_) ro_stop
    refine ro_run tab_ok ha 1 [(6, _), (7, _)] rfl ⟨rfl, rfl, trivial⟩ ?_
    refine ro_end ?_
    refine cw_ret ?_
    refine xw_ret2 Tryz.results100 (rv_box (cs := [_, _, _, _, _, _]) fc Tryz.isAgg29 Tryz.sizeOf29 rfl) (rv_tmp rfl) ?_
    intro w hw
    exact ⟨g5, trivial, rfl, hw.msub ms⟩
def runE (fs : List MFunc) (m : MMach) (k : Int) : Int := if machE fs m ≠ 0 then machE fs m else if k < 0 ∨ 10000 < k then 3 else 0
def runR (fs : List MFunc) (m : MMach) (k : Int) : MMach × Int := if runE fs m k = 0 then runM fs m k else (default, 0)
set_option maxRecDepth 100000 in
set_option maxHeartbeats 4000000 in
theorem mrun_any (Ap : Option Addr) (cp : Nat) (fs : List MFunc) (a : MA) (m : MMach) (k : Int) (r : MMach × Int) (hr : runR fs m k = r) (w : World) (hs : Sl w (.slice Ap fs.length cp) fs) (hm : MIn w.heap.size w a m) (hfit : FitF m.frames) :
    Calls Tryz.prog 41 #[.agg #[.slice Ap fs.length cp], .agg #[.slice a.Af m.frames.length a.cf, .slice a.Ab m.blocks.length a.cb, .slice a.Ai m.inn.length a.ci, .slice a.Ao m.out.length a.co, .int .i64 m.status, .int .i64 m.trap], .int .i64 k] w fun e w' => ∃ g : MA, True ∧
      e = .returned (.tuple #[.agg #[.slice g.Af r.1.frames.length g.cf, .slice g.Ab r.1.blocks.length g.cb, .slice g.Ai r.1.inn.length g.ci, .slice g.Ao r.1.out.length g.co, .int .i64 r.1.status, .int .i64 r.1.trap], .int .i64 r.2, .int .i64 (runE fs m k)]) ∧ Cw w.heap.size w [ROw (.slice g.Af r.1.frames.length g.cf) r.1.frames, ROw (.slice g.Ab r.1.blocks.length g.cb) r.1.blocks, ROw (.slice g.Ai r.1.inn.length g.ci) r.1.inn, ROw (.slice g.Ao r.1.out.length g.co) r.1.out] w' := by
  refine enter Tryz.func41 rfl Tryz.ntmps41 rfl ?_
  refine cw_seq ?_
  refine cw_region ?_
  refine rw_op (ot_box rfl rfl rfl) rfl rfl (fun g1 _ => ?_)
  refine rw_op (ot_box rfl rfl rfl) rfl rfl (fun g2 _ => ?_)
  refine rw_op (ot_alloc Tryz.zeroValue29 rfl rfl) rfl rfl (fun g3 _ => ?_)
  refine rw_run tab_ok 2 [(2, _), (3, _), (4, _), (6, _)] rfl ⟨rfl, rfl, rfl, rfl, trivial⟩ ?_
  refine rw_end ?_
  refine cw_seq ?_
  refine cw_region ?_
  refine rw_s (qs_ldbA (vs := [_]) fc Tryz.isAgg24 Tryz.sizeOf24 rfl rfl (by rfl) rfl) rfl rfl ?_
  refine rw_s (qs_ldbA (vs := [_, _, _, _, _, _]) fc Tryz.isAgg29 Tryz.sizeOf29 rfl rfl (by rfl) rfl) rfl rfl ?_
  refine rw_op (ot_c0 rfl rfl rfl Tryz.call36 (fun w hw => mcheck_any Ap cp fs a m w (hw.ro hs) (MIn.ro hw hm) hfit)) rfl rfl (fun _ _ => ?_)
  refine rw_run tab_ok 1 [(2, _), (3, _), (4, _), (6, _), (9, _)] rfl ⟨rfl, rfl, rfl, rfl, rfl, trivial⟩ ?_
  refine rw_end ?_
  refine cw_seq ?_
  refine cw_seq ?_
  refine cw_region ?_
  refine rw_run tab_ok 3 [(2, _), (3, _), (4, _), (6, _), (9, _), (17, _)] rfl ⟨rfl, rfl, rfl, rfl, rfl, rfl, trivial⟩ ?_
  unfold runR at hr
  by_cases hE : machE fs m = 0
  · obtain ⟨hF, hR⟩ := mach_ok hE
    have hE2 : runE fs m k = if k < 0 ∨ 10000 < k then 3 else 0 := by unfold runE; rw [if_neg (fun h => h hE)]
    rw [hE]
    refine rw_as (t := 17) (v' := .bool true) rfl (rfl) ?_
    refine rw_run tab_ok 3 [(2, _), (3, _), (4, _), (6, _), (9, _), (17, _), (20, _)] rfl ⟨rfl, rfl, rfl, rfl, rfl, rfl, rfl, trivial⟩ ?_
    by_cases hb0 : k < 0
    · have hE3 : runE fs m k = 3 := by rw [hE2, if_pos (.inl hb0)]
      rw [hE3, if_neg (by decide)] at hr
      subst hr
      rw [hE3]
      refine rw_as (t := 20) (v' := .bool true) rfl (congrArg Value.bool (decide_eq_true hb0)) ?_
      refine rw_run tab_ok 4 [(2, _), (3, _), (4, _), (6, _), (9, _), (24, _)] rfl ⟨rfl, rfl, rfl, rfl, rfl, rfl, trivial⟩ ?_
      refine rw_end ?_
      refine cw_cond_t rfl ?_
      refine cw_region ?_
      refine rw_run tab_ok 1 [(2, _), (3, _), (4, _), (6, _), (9, _)] rfl ⟨rfl, rfl, rfl, rfl, rfl, trivial⟩ ?_
      refine rw_end ?_
      refine cw_seq ?_
      refine cw_seq ?_
      refine cw_region ?_
      refine rw_run tab_ok 2 [(2, _), (3, _), (4, _), (6, _), (9, _), (26, _)] rfl ⟨rfl, rfl, rfl, rfl, rfl, rfl, trivial⟩ ?_
      refine rw_end ?_
      refine cw_as (t := 26) (v' := .bool true) rfl (rfl) ?_
      refine cw_cond_t rfl ?_
      refine cw_seq ?_
      refine cw_region ?_
      refine rw_s (qs_bst (cs := [_, _, _, _, _, _]) plT29 Tryz.zeroValue29 rfl rfl (by rfl)) rfl rfl ?_
      refine rw_run tab_ok 1 [(6, _), (27, _), (28, _)] rfl ⟨rfl, rfl, rfl, trivial⟩ ?_
      refine rw_op (ot_stb _ fc Tryz.sizeOf29 rfl rfl rfl rfl rfl (by rfl) rfl (by rfl)) rfl rfl (fun _ _ => ?_)
      refine rw_run tab_ok 2 [(6, _), (7, _), (8, _)] rfl ⟨rfl, rfl, rfl, trivial⟩ ?_
      refine rw_end ?_
      refine cw_ret (xw_thenr ?_)
      refine xw_ret3 Tryz.results41 (rv_box (cs := [_, _, _, _, _, _]) fc Tryz.isAgg29 Tryz.sizeOf29 rfl) (rv_tmp rfl) (rv_tmp rfl) ?_
      intro w hw
      exact ⟨⟨none, 0, none, 0, none, 0, none, 0⟩, trivial, rfl, (nil_mach hw).msub ms⟩
    · refine rw_as (t := 20) (v' := .bool false) rfl (congrArg Value.bool (decide_eq_false hb0)) ?_
      refine rw_run tab_ok 4 [(2, _), (3, _), (4, _), (6, _), (9, _), (24, _)] rfl ⟨rfl, rfl, rfl, rfl, rfl, rfl, trivial⟩ ?_
      refine rw_end ?_
      by_cases hb1 : 10000 < k
      · have hE3 : runE fs m k = 3 := by rw [hE2, if_pos (.inr hb1)]
        rw [hE3, if_neg (by decide)] at hr
        subst hr
        rw [hE3]
        refine cw_as (t := 24) (v' := .bool true) rfl (congrArg Value.bool (decide_eq_true hb1)) ?_
        refine cw_cond_t rfl ?_
        refine cw_region ?_
        refine rw_run tab_ok 1 [(2, _), (3, _), (4, _), (6, _), (9, _)] rfl ⟨rfl, rfl, rfl, rfl, rfl, trivial⟩ ?_
        refine rw_end ?_
        refine cw_seq ?_
        refine cw_seq ?_
        refine cw_region ?_
        refine rw_run tab_ok 2 [(2, _), (3, _), (4, _), (6, _), (9, _), (26, _)] rfl ⟨rfl, rfl, rfl, rfl, rfl, rfl, trivial⟩ ?_
        refine rw_end ?_
        refine cw_as (t := 26) (v' := .bool true) rfl (rfl) ?_
        refine cw_cond_t rfl ?_
        refine cw_seq ?_
        refine cw_region ?_
        refine rw_s (qs_bst (cs := [_, _, _, _, _, _]) plT29 Tryz.zeroValue29 rfl rfl (by rfl)) rfl rfl ?_
        refine rw_run tab_ok 1 [(6, _), (27, _), (28, _)] rfl ⟨rfl, rfl, rfl, trivial⟩ ?_
        refine rw_op (ot_stb _ fc Tryz.sizeOf29 rfl rfl rfl rfl rfl (by rfl) rfl (by rfl)) rfl rfl (fun _ _ => ?_)
        refine rw_run tab_ok 2 [(6, _), (7, _), (8, _)] rfl ⟨rfl, rfl, rfl, trivial⟩ ?_
        refine rw_end ?_
        refine cw_ret (xw_thenr ?_)
        refine xw_ret3 Tryz.results41 (rv_box (cs := [_, _, _, _, _, _]) fc Tryz.isAgg29 Tryz.sizeOf29 rfl) (rv_tmp rfl) (rv_tmp rfl) ?_
        intro w hw
        exact ⟨⟨none, 0, none, 0, none, 0, none, 0⟩, trivial, rfl, (nil_mach hw).msub ms⟩
      · have hE3 : runE fs m k = 0 := by rw [hE2, if_neg (by omega)]
        rw [hE3, if_pos rfl] at hr
        rw [hE3]
        refine cw_as (t := 24) (v' := .bool false) rfl (congrArg Value.bool (decide_eq_false hb1)) ?_
        refine cw_cond_f rfl ?_
        refine cw_skip (xw_then ?_)
        refine cw_seq ?_
        refine cw_seq ?_
        refine cw_region ?_
        refine rw_run tab_ok 2 [(2, _), (3, _), (4, _), (6, _), (9, _), (26, _)] rfl ⟨rfl, rfl, rfl, rfl, rfl, rfl, trivial⟩ ?_
        refine rw_end ?_
        refine cw_as (t := 26) (v' := .bool false) rfl (rfl) ?_
        refine cw_cond_f rfl ?_
        refine cw_skip (xw_then ?_)
        refine cw_seq ?_
        refine cw_region ?_
        refine rw_s (qs_ldbA (vs := [_]) fc Tryz.isAgg24 Tryz.sizeOf24 rfl rfl (by rfl) rfl) rfl rfl ?_
        refine rw_s (qs_ldbA (vs := [_, _, _, _, _, _]) fc Tryz.isAgg29 Tryz.sizeOf29 rfl rfl (by rfl) rfl) rfl rfl ?_
        refine rw_run tab_ok 1 [(6, _), (30, _), (31, _), (32, _)] rfl ⟨rfl, rfl, rfl, rfl, trivial⟩ ?_
        refine rw_op (ot_c rfl rfl rfl Tryz.call100 (fun w hw => mraw_any Ap cp fs a m k r hr w (hw.ro hs) (MIn.ro hw hm) hF hR (by omega))) rfl rfl (fun g _ => ?_)
        refine rw_run tab_ok 3 [(6, _), (34, _), (35, _)] rfl ⟨rfl, rfl, rfl, trivial⟩ ?_
        refine rw_op (ot_alloc Tryz.zeroValue29 rfl rfl) rfl rfl (fun g4 _ => ?_)
        refine rw_op (ot_stb _ fc Tryz.sizeOf29 rfl rfl rfl rfl rfl (by rfl) rfl (by rfl)) rfl rfl (fun _ _ => ?_)
        refine rw_run tab_ok 1 [(6, _), (10, _), (11, _)] rfl ⟨rfl, rfl, rfl, trivial⟩ ?_
        refine rw_end ?_
        refine cw_seq ?_
        refine cw_region ?_
        refine rw_s (qs_ldbA (vs := [_, _, _, _, _, _]) fc Tryz.isAgg29 Tryz.sizeOf29 rfl rfl (by rfl) rfl) rfl rfl ?_
        refine rw_run tab_ok 1 [(6, _), (36, _), (37, _)] rfl ⟨rfl, rfl, rfl, trivial⟩ ?_
        refine rw_op (ot_stb _ fc Tryz.sizeOf29 rfl rfl rfl rfl rfl (by rfl) rfl (by rfl)) rfl rfl (fun _ _ => ?_)
        refine rw_run tab_ok 2 [(6, _), (7, _), (8, _)] rfl ⟨rfl, rfl, rfl, trivial⟩ ?_
        refine rw_end ?_
        refine cw_ret ?_
        refine xw_ret3 Tryz.results41 (rv_box (cs := [_, _, _, _, _, _]) fc Tryz.isAgg29 Tryz.sizeOf29 rfl) (rv_tmp rfl) (rv_tmp rfl) ?_
        intro w hw
        exact ⟨g, trivial, rfl, hw.msub ms⟩
  · have hE3 : runE fs m k = machE fs m := by unfold runE; rw [if_pos hE]
    rw [hE3, if_neg hE] at hr
    subst hr
    rw [hE3]
    refine rw_as (t := 17) (v' := .bool false) rfl (congrArg Value.bool (decide_eq_false hE)) ?_
    refine rw_run tab_ok 7 [(2, _), (3, _), (4, _), (6, _), (9, _), (24, _)] rfl ⟨rfl, rfl, rfl, rfl, rfl, rfl, trivial⟩ ?_
    refine rw_end ?_
    refine cw_cond_f rfl ?_
    refine cw_skip (xw_then ?_)
    refine cw_seq ?_
    refine cw_seq ?_
    refine cw_region ?_
    refine rw_run tab_ok 2 [(2, _), (3, _), (4, _), (6, _), (9, _), (26, _)] rfl ⟨rfl, rfl, rfl, rfl, rfl, rfl, trivial⟩ ?_
    refine rw_end ?_
    refine cw_as (t := 26) (v' := .bool true) rfl (congrArg Value.bool (by simp [hE])) ?_
    refine cw_cond_t rfl ?_
    refine cw_seq ?_
    refine cw_region ?_
    refine rw_s (qs_bst (cs := [_, _, _, _, _, _]) plT29 Tryz.zeroValue29 rfl rfl (by rfl)) rfl rfl ?_
    refine rw_run tab_ok 1 [(6, _), (27, _), (28, _)] rfl ⟨rfl, rfl, rfl, trivial⟩ ?_
    refine rw_op (ot_stb _ fc Tryz.sizeOf29 rfl rfl rfl rfl rfl (by rfl) rfl (by rfl)) rfl rfl (fun _ _ => ?_)
    refine rw_run tab_ok 2 [(6, _), (7, _), (8, _)] rfl ⟨rfl, rfl, rfl, trivial⟩ ?_
    refine rw_end ?_
    refine cw_ret (xw_thenr ?_)
    refine xw_ret3 Tryz.results41 (rv_box (cs := [_, _, _, _, _, _]) fc Tryz.isAgg29 Tryz.sizeOf29 rfl) (rv_tmp rfl) (rv_tmp rfl) ?_
    intro w hw
    exact ⟨⟨none, 0, none, 0, none, 0, none, 0⟩, trivial, rfl, (nil_mach hw).msub ms⟩
end Go.Proofs.YtmnkaalchcomlaaGreat

-- Me3
/- Meter: what must be in any case. -/
namespace Go.Proofs.YtmnkaalchcomlaaGreat
open Go.RowKit

def mrA : MMach := ⟨[], [], [], [3, 2, 1], 2, 0⟩
def mrB : MMach := ⟨[⟨0, 5, [], [⟨false, 2⟩]⟩], [], [], [3], 0, 0⟩
set_option maxRecDepth 100000 in
theorem meter_facts : runE counterM mc1 100 = 0 ∧ runR counterM mc1 100 = (mrA, 77) ∧ runE counterM mc1 5 = 0 ∧ runR counterM mc1 5 = (mrB, 0) ∧ checkOp ⟨14, 0⟩ = 0 ∧ costS ⟨14, 0⟩ = 3 := by
  refine ⟨?_, ?_, ?_, ?_, ?_, ?_⟩ <;> kernel_rfl
theorem begun_runA (A : Option Addr) (c : Nat) (a : MA) (w : World) (hs : Sl w (.slice A 1 c) counterM) (hm : MIn w.heap.size w a mc1) :
    Calls Tryz.prog 41 #[.agg #[.slice A 1 c], .agg #[.slice a.Af 1 a.cf, .slice a.Ab 0 a.cb, .slice a.Ai 0 a.ci, .slice a.Ao 0 a.co, .int .i64 0, .int .i64 0], .int .i64 100] w fun e w' => ∃ g : MA, True ∧
      e = .returned (.tuple #[.agg #[.slice g.Af 0 g.cf, .slice g.Ab 0 g.cb, .slice g.Ai 0 g.ci, .slice g.Ao 3 g.co, .int .i64 2, .int .i64 0], .int .i64 77, .int .i64 0]) ∧ Cw w.heap.size w [ROw (.slice g.Af 0 g.cf) mrA.frames, ROw (.slice g.Ab 0 g.cb) mrA.blocks, ROw (.slice g.Ai 0 g.ci) mrA.inn, ROw (.slice g.Ao 3 g.co) mrA.out] w' := by
  have := mrun_any A c counterM a mc1 100 _ meter_facts.2.1 w hs hm fit_mc1
  rw [meter_facts.1] at this
  exact this
theorem begun_runB (A : Option Addr) (c : Nat) (a : MA) (w : World) (hs : Sl w (.slice A 1 c) counterM) (hm : MIn w.heap.size w a mc1) :
    Calls Tryz.prog 41 #[.agg #[.slice A 1 c], .agg #[.slice a.Af 1 a.cf, .slice a.Ab 0 a.cb, .slice a.Ai 0 a.ci, .slice a.Ao 0 a.co, .int .i64 0, .int .i64 0], .int .i64 5] w fun e w' => ∃ g : MA, True ∧
      e = .returned (.tuple #[.agg #[.slice g.Af 1 g.cf, .slice g.Ab 0 g.cb, .slice g.Ai 0 g.ci, .slice g.Ao 1 g.co, .int .i64 0, .int .i64 0], .int .i64 0, .int .i64 0]) ∧ Cw w.heap.size w [ROw (.slice g.Af 1 g.cf) mrB.frames, ROw (.slice g.Ab 0 g.cb) mrB.blocks, ROw (.slice g.Ai 0 g.ci) mrB.inn, ROw (.slice g.Ao 1 g.co) mrB.out] w' := by
  have := mrun_any A c counterM a mc1 5 _ meter_facts.2.2.2.1 w hs hm fit_mc1
  rw [meter_facts.2.2.1] at this
  exact this
theorem begun_cost (w : World) : Calls Tryz.prog 42 #[.agg #[.int .i64 14, .int .i64 0]] w fun e w' => e = .returned (.tuple #[.int .i64 3, .int .i64 0]) ∧ Below w.heap.size w w' := by
  have := cost_any ⟨14, 0⟩ w
  rw [meter_facts.2.2.2.2.1, meter_facts.2.2.2.2.2] at this
  exact this
set_option maxRecDepth 100000 in
set_option maxHeartbeats 4000000 in
theorem meterBegun_any (w : World) : Calls Tryz.prog 46 #[] w fun e w' => e = .returned (.bool true) ∧ Below w.heap.size w w' := by
  obtain ⟨f1, f2, f3, f4, f5, f6, f7, f8, f9⟩ := mach_facts
  refine enter Tryz.func46 rfl Tryz.ntmps46 rfl ?_
  refine cw_seq ?_
  refine cw_region ?_
  refine rw_run tab_ok 1 [] rfl trivial ?_
  refine rw_end ?_
  refine cw_seq ?_
  refine cw_region ?_
  refine rw_op (ot_c rfl rfl rfl Tryz.call94 (fun w hw => counter_any w)) rfl rfl (fun gp _ => ?_)
  refine rw_op (ot_c rfl rfl rfl Tryz.call31 (fun w hw => begun_start f1 f2 rfl _ _ w (SF.at_ (SF.own rfl fc) hw))) rfl rfl (fun a1 _ => ?_)
  refine rw_run tab_ok 3 [(14, _), (15, _)] rfl ⟨rfl, rfl, trivial⟩ ?_
  refine rw_op (ot_alloc Tryz.zeroValue29 rfl rfl) rfl rfl (fun g1 _ => ?_)
  refine rw_op (ot_stb _ fc Tryz.sizeOf29 rfl rfl rfl rfl rfl (by rfl) rfl (by rfl)) rfl rfl (fun _ _ => ?_)
  refine rw_run tab_ok 1 [(1, _)] rfl ⟨rfl, trivial⟩ ?_
  refine rw_end ?_
  refine cw_cut (fun _ : Nat × MA => True) (fun g => [(1, .pointer (some ⟨g1, 0, none⟩)), (3, .pointer (some ⟨g.1, 0, none⟩)), (4, .int .i64 77), (5, .int .i64 0)]) (fun g => [RBox g.1 [.slice g.2.Af 0 g.2.cf, .slice g.2.Ab 0 g.2.cb, .slice g.2.Ai 0 g.2.ci, .slice g.2.Ao 3 g.2.co, .int .i64 2, .int .i64 0] 29, ROw (.slice g.2.Ao 3 g.2.co) mrA.out, RBox g1 [.slice a1.Af 1 a1.cf, .slice a1.Ab 0 a1.cb, .slice a1.Ai 0 a1.ci, .slice a1.Ao 0 a1.co, .int .i64 0, .int .i64 0] 29, ROw (.slice a1.Af 1 a1.cf) mc1.frames, ROw (.slice a1.Ab 0 a1.cb) mc1.blocks, ROw (.slice a1.Ai 0 a1.ci) mc1.inn, ROw (.slice a1.Ao 0 a1.co) mc1.out]) ?_ ?_
  · refine cw_draw (.still 1 (.pick 0 (.pick 2 (.calm 3 (.calm 4 (.calm 5 (.calm 6 (.pick 7 (.pick 8 (.calm 9 (.calm 10 .done)) .stop) .stop))))) (.pick 7 (.pick 2 (.calm 3 (.calm 4 (.calm 5 (.calm 6 (.pick 8 (.calm 9 (.calm 10 .done)) .stop))))) .stop) .stop)) (.pick 7 (.pick 0 (.pick 2 (.calm 3 (.calm 4 (.calm 5 (.calm 6 (.pick 8 (.calm 9 (.calm 10 .done)) .stop))))) .stop) .stop) .stop))) [2, 3, 4, 5, 6, 8, 9, 10] rfl (by kernel_rfl) (by kernel_rfl) ?_
    refine ro_s2 rfl (qs_ldbA (vs := [_, _, _, _, _, _]) fc Tryz.isAgg29 Tryz.sizeOf29 rfl rfl (by rfl) rfl) rfl rfl ha ?_
    refine ro_op2 rfl (ot_c rfl rfl rfl Tryz.call94 (fun w hw => counter_any w)) rfl rfl (.inr fun _ => ha) (fun gq _ => ?_) ?_
    · refine ro_op2 rfl (ot_c rfl rfl rfl Tryz.call41 (fun w hw => begun_runA _ _ a1 w (SF.at_ (SF.own rfl fc) hw) (min_own hw fc fc fc fc rfl rfl rfl rfl (by decide) (by decide)))) rfl rfl (.inl rfl) (fun a2 _ => ?_) ?_
      · refine ro_runC tab_ok 4 [(1, _), (20, _), (21, _), (22, _)] rfl ⟨rfl, rfl, rfl, rfl, trivial⟩ ?_
        refine ro_op2 rfl (ot_alloc Tryz.zeroValue29 rfl rfl) rfl rfl (.inr fun _ => ha) (fun q _ => ?_) ro_stop
        refine ro_op2 rfl (ot_stb [_, _, _, _, _, _] fc Tryz.sizeOf29 rfl rfl rfl rfl rfl (by rfl) rfl (by rfl)) rfl rfl (.inl rfl) (fun _ _ => ?_) ro_stop
        refine ro_runC tab_ok 2 [(1, _), (3, _), (4, _), (5, _)] rfl ⟨rfl, rfl, rfl, rfl, trivial⟩ ?_
        refine ro_endx <| xw_join (q, a2) (trivial) ⟨rfl, rfl, rfl, rfl, trivial⟩ (fun _ h => h.msub ms)
      · refine ro_op2 rfl (ot_alloc Tryz.zeroValue29 rfl rfl) rfl rfl (.inr fun _ => ha) (fun q _ => ?_) ro_stop
        refine ro_op2 rfl (ot_c rfl rfl rfl Tryz.call41 (fun w hw => begun_runA _ _ a1 w (SF.at_ (SF.own rfl fc) hw) (min_own hw fc fc fc fc rfl rfl rfl rfl (by decide) (by decide)))) rfl rfl (.inl rfl) (fun a2 _ => ?_) ro_stop
        refine ro_runC tab_ok 4 [(1, _), (3, _), (20, _), (21, _), (22, _)] rfl ⟨rfl, rfl, rfl, rfl, rfl, trivial⟩ ?_
        refine ro_op2 rfl (ot_stb [_, _, _, _, _, _] fc Tryz.sizeOf29 rfl rfl rfl rfl rfl (by rfl) rfl (by rfl)) rfl rfl (.inl rfl) (fun _ _ => ?_) ro_stop
        refine ro_runC tab_ok 2 [(1, _), (3, _), (4, _), (5, _)] rfl ⟨rfl, rfl, rfl, rfl, trivial⟩ ?_
        refine ro_endx <| xw_join (q, a2) (trivial) ⟨rfl, rfl, rfl, rfl, trivial⟩ (fun _ h => h.msub ms)
    · refine ro_op2 rfl (ot_alloc Tryz.zeroValue29 rfl rfl) rfl rfl (.inr fun _ => ha) (fun q _ => ?_) ro_stop
      refine ro_op2 rfl (ot_c rfl rfl rfl Tryz.call94 (fun w hw => counter_any w)) rfl rfl (.inr fun _ => ha) (fun gq _ => ?_) ro_stop
      refine ro_op2 rfl (ot_c rfl rfl rfl Tryz.call41 (fun w hw => begun_runA _ _ a1 w (SF.at_ (SF.own rfl fc) hw) (min_own hw fc fc fc fc rfl rfl rfl rfl (by decide) (by decide)))) rfl rfl (.inl rfl) (fun a2 _ => ?_) ro_stop
      refine ro_runC tab_ok 4 [(1, _), (3, _), (20, _), (21, _), (22, _)] rfl ⟨rfl, rfl, rfl, rfl, rfl, trivial⟩ ?_
      refine ro_op2 rfl (ot_stb [_, _, _, _, _, _] fc Tryz.sizeOf29 rfl rfl rfl rfl rfl (by rfl) rfl (by rfl)) rfl rfl (.inl rfl) (fun _ _ => ?_) ro_stop
      refine ro_runC tab_ok 2 [(1, _), (3, _), (4, _), (5, _)] rfl ⟨rfl, rfl, rfl, rfl, trivial⟩ ?_
      refine ro_endx <| xw_join (q, a2) (trivial) ⟨rfl, rfl, rfl, rfl, trivial⟩ (fun _ h => h.msub ms)
  · rintro ⟨ga, a2⟩ _
    try dsimp only
    refine cw_cut (fun _ : Nat × MA => True) (fun g => [(3, .pointer (some ⟨ga, 0, none⟩)), (4, .int .i64 77), (5, .int .i64 0), (6, .pointer (some ⟨g.1, 0, none⟩)), (7, .int .i64 0), (8, .int .i64 0)]) (fun g => [RBox g.1 [.slice g.2.Af 1 g.2.cf, .slice g.2.Ab 0 g.2.cb, .slice g.2.Ai 0 g.2.ci, .slice g.2.Ao 1 g.2.co, .int .i64 0, .int .i64 0] 29, ROw (.slice g.2.Af 1 g.2.cf) mrB.frames, RBox ga [.slice a2.Af 0 a2.cf, .slice a2.Ab 0 a2.cb, .slice a2.Ai 0 a2.ci, .slice a2.Ao 3 a2.co, .int .i64 2, .int .i64 0] 29, ROw (.slice a2.Ao 3 a2.co) mrA.out]) ?_ ?_
    · refine cw_draw (.still 1 (.pick 0 (.pick 2 (.calm 3 (.calm 4 (.calm 5 (.calm 6 (.pick 7 (.pick 8 (.calm 9 (.calm 10 .done)) .stop) .stop))))) (.pick 7 (.pick 2 (.calm 3 (.calm 4 (.calm 5 (.calm 6 (.pick 8 (.calm 9 (.calm 10 .done)) .stop))))) .stop) .stop)) (.pick 7 (.pick 0 (.pick 2 (.calm 3 (.calm 4 (.calm 5 (.calm 6 (.pick 8 (.calm 9 (.calm 10 .done)) .stop))))) .stop) .stop) .stop))) [2, 3, 4, 5, 6, 8, 9, 10] rfl (by kernel_rfl) (by kernel_rfl) ?_
      refine ro_s2 rfl (qs_ldbA (vs := [_, _, _, _, _, _]) fc Tryz.isAgg29 Tryz.sizeOf29 rfl rfl (by rfl) rfl) rfl rfl ha ?_
      refine ro_op2 rfl (ot_c rfl rfl rfl Tryz.call94 (fun w hw => counter_any w)) rfl rfl (.inr fun _ => ha) (fun gq _ => ?_) ?_
      · refine ro_op2 rfl (ot_c rfl rfl rfl Tryz.call41 (fun w hw => begun_runB _ _ a1 w (SF.at_ (SF.own rfl fc) hw) (min_own hw fc fc fc fc rfl rfl rfl rfl (by decide) (by decide)))) rfl rfl (.inl rfl) (fun a3 _ => ?_) ?_
        · refine ro_runC tab_ok 4 [(3, _), (4, _), (5, _), (27, _), (28, _), (29, _)] rfl ⟨rfl, rfl, rfl, rfl, rfl, rfl, trivial⟩ ?_
          refine ro_op2 rfl (ot_alloc Tryz.zeroValue29 rfl rfl) rfl rfl (.inr fun _ => ha) (fun q _ => ?_) ro_stop
          refine ro_op2 rfl (ot_stb [_, _, _, _, _, _] fc Tryz.sizeOf29 rfl rfl rfl rfl rfl (by rfl) rfl (by rfl)) rfl rfl (.inl rfl) (fun _ _ => ?_) ro_stop
          refine ro_runC tab_ok 2 [(3, _), (4, _), (5, _), (6, _), (7, _), (8, _)] rfl ⟨rfl, rfl, rfl, rfl, rfl, rfl, trivial⟩ ?_
          refine ro_endx <| xw_join (q, a3) (trivial) ⟨rfl, rfl, rfl, rfl, rfl, rfl, trivial⟩ (fun _ h => h.msub ms)
        · refine ro_op2 rfl (ot_alloc Tryz.zeroValue29 rfl rfl) rfl rfl (.inr fun _ => ha) (fun q _ => ?_) ro_stop
          refine ro_op2 rfl (ot_c rfl rfl rfl Tryz.call41 (fun w hw => begun_runB _ _ a1 w (SF.at_ (SF.own rfl fc) hw) (min_own hw fc fc fc fc rfl rfl rfl rfl (by decide) (by decide)))) rfl rfl (.inl rfl) (fun a3 _ => ?_) ro_stop
          refine ro_runC tab_ok 4 [(3, _), (4, _), (5, _), (6, _), (27, _), (28, _), (29, _)] rfl ⟨rfl, rfl, rfl, rfl, rfl, rfl, rfl, trivial⟩ ?_
          refine ro_op2 rfl (ot_stb [_, _, _, _, _, _] fc Tryz.sizeOf29 rfl rfl rfl rfl rfl (by rfl) rfl (by rfl)) rfl rfl (.inl rfl) (fun _ _ => ?_) ro_stop
          refine ro_runC tab_ok 2 [(3, _), (4, _), (5, _), (6, _), (7, _), (8, _)] rfl ⟨rfl, rfl, rfl, rfl, rfl, rfl, trivial⟩ ?_
          refine ro_endx <| xw_join (q, a3) (trivial) ⟨rfl, rfl, rfl, rfl, rfl, rfl, trivial⟩ (fun _ h => h.msub ms)
      · refine ro_op2 rfl (ot_alloc Tryz.zeroValue29 rfl rfl) rfl rfl (.inr fun _ => ha) (fun q _ => ?_) ro_stop
        refine ro_op2 rfl (ot_c rfl rfl rfl Tryz.call94 (fun w hw => counter_any w)) rfl rfl (.inr fun _ => ha) (fun gq _ => ?_) ro_stop
        refine ro_op2 rfl (ot_c rfl rfl rfl Tryz.call41 (fun w hw => begun_runB _ _ a1 w (SF.at_ (SF.own rfl fc) hw) (min_own hw fc fc fc fc rfl rfl rfl rfl (by decide) (by decide)))) rfl rfl (.inl rfl) (fun a3 _ => ?_) ro_stop
        refine ro_runC tab_ok 4 [(3, _), (4, _), (5, _), (6, _), (27, _), (28, _), (29, _)] rfl ⟨rfl, rfl, rfl, rfl, rfl, rfl, rfl, trivial⟩ ?_
        refine ro_op2 rfl (ot_stb [_, _, _, _, _, _] fc Tryz.sizeOf29 rfl rfl rfl rfl rfl (by rfl) rfl (by rfl)) rfl rfl (.inl rfl) (fun _ _ => ?_) ro_stop
        refine ro_runC tab_ok 2 [(3, _), (4, _), (5, _), (6, _), (7, _), (8, _)] rfl ⟨rfl, rfl, rfl, rfl, rfl, rfl, trivial⟩ ?_
        refine ro_endx <| xw_join (q, a3) (trivial) ⟨rfl, rfl, rfl, rfl, rfl, rfl, trivial⟩ (fun _ h => h.msub ms)
    · rintro ⟨gb, a3⟩ _
      try dsimp only
      refine cw_rdF (k := 1) (c := a3.cf) (A := a3.Af) (fr := mrB.frames) rfl fc fun X hsX hX => ?_
      obtain ⟨B1, d1, B2, d2, e1, hX1⟩ := hX.el 0 (by decide)
      refine cw_seq ?_
      refine cw_region ?_
      refine rw_s (qs_bst (cs := [_, _]) plT51 Tryz.zeroValue51 rfl rfl (by rfl)) rfl rfl ?_
      refine rw_op (ot_c0 rfl rfl rfl Tryz.call42 (fun w hw => begun_cost w)) rfl rfl (fun _ _ => ?_)
      refine rw_run tab_ok 5 [(3, _), (4, _), (5, _), (6, _), (7, _), (8, _), (9, _), (10, _)] rfl ⟨rfl, rfl, rfl, rfl, rfl, rfl, rfl, rfl, trivial⟩ ?_
      refine rw_end ?_
      refine cw_seq ?_
      refine cw_region ?_
      refine rw_run tab_ok 3 [(3, _), (4, _), (6, _), (7, _), (8, _), (9, _), (10, _), (37, _)] rfl ⟨rfl, rfl, rfl, rfl, rfl, rfl, rfl, rfl, trivial⟩ ?_
      refine rw_as (t := 37) (v' := .bool true) rfl (rfl) ?_
      refine rw_run tab_ok 4 [(3, _), (4, _), (6, _), (7, _), (9, _), (10, _), (41, _)] rfl ⟨rfl, rfl, rfl, rfl, rfl, rfl, rfl, trivial⟩ ?_
      refine rw_as (t := 41) (v' := .bool true) rfl (rfl) ?_
      refine rw_run tab_ok 4 [(3, _), (4, _), (6, _), (7, _), (9, _), (45, _)] rfl ⟨rfl, rfl, rfl, rfl, rfl, rfl, trivial⟩ ?_
      refine rw_as (t := 45) (v' := .bool true) rfl (rfl) ?_
      refine rw_run tab_ok 1 [(3, _), (4, _), (6, _), (7, _), (9, _), (45, _), (46, _)] rfl ⟨rfl, rfl, rfl, rfl, rfl, rfl, rfl, trivial⟩ ?_
      refine rw_s (qs_ldb fc Tryz.isAgg3 rfl rfl (by rfl)) rfl rfl ?_
      refine rw_run tab_ok 3 [(3, _), (4, _), (6, _), (7, _), (9, _), (50, _)] rfl ⟨rfl, rfl, rfl, rfl, rfl, rfl, trivial⟩ ?_
      refine rw_as (t := 50) (v' := .bool true) rfl (rfl) ?_
      refine rw_run tab_ok 1 [(4, _), (6, _), (7, _), (9, _), (50, _), (51, _)] rfl ⟨rfl, rfl, rfl, rfl, rfl, rfl, trivial⟩ ?_
      refine rw_s (qs_ldb fc Tryz.isAgg27 rfl rfl (by rfl)) rfl rfl ?_
      refine rw_op (ot_bsl (cs := [_, _, _]) Tryz.underlying27 Tryz.sizeOf3 Tryz.zeroValue3 rfl rfl rfl rfl rfl) rfl rfl (fun g2 _ => ?_)
      refine rw_mem (fun w h => row_ow (α := Int) (m := 3) [3, 2, 1] rfl (by intro x hx; simp at hx; rcases hx with rfl | rfl | rfl <;> (show I64 _; decide)) rfl (by decide) (h.msub (T := [RBox g2 _ _, ROw (.slice a3.Af 1 a3.cf) hsX, X, RBox gb [.slice a3.Af 1 a3.cf, .slice a3.Ab 0 a3.cb, .slice a3.Ai 0 a3.ci, .slice a3.Ao 1 a3.co, .int .i64 0, .int .i64 0] 29, RBox ga [.slice a2.Af 0 a2.cf, .slice a2.Ab 0 a2.cb, .slice a2.Ai 0 a2.ci, .slice a2.Ao 3 a2.co, .int .i64 2, .int .i64 0] 29, ROw (.slice a2.Ao 3 a2.co) mrA.out]) ms)) ?_
      refine rw_op (ot_c0 rfl rfl rfl Tryz.call38 (fun w hw => sameInts_w a2.Ao (some ⟨g2, 0, none⟩) a2.co 3 [3, 2, 1] [3, 2, 1] w (SF.at_ (SF.own (A := a2.Ao) (m := 3) (c := a2.co) (xs := mrA.out) rfl fc) hw) (SF.at_ (SF.own (A := some ⟨g2, 0, none⟩) (m := 3) (c := 3) (xs := [3, 2, 1]) rfl fc) hw))) rfl rfl (fun _ _ => ?_)
      refine rw_run tab_ok 2 [(4, _), (6, _), (7, _), (9, _), (56, _)] rfl ⟨rfl, rfl, rfl, rfl, rfl, trivial⟩ ?_
      refine rw_as (t := 56) (v' := .bool true) rfl (congrArg Value.bool (decide_eq_true rfl)) ?_
      refine rw_run tab_ok 4 [(6, _), (7, _), (9, _), (60, _)] rfl ⟨rfl, rfl, rfl, rfl, trivial⟩ ?_
      refine rw_as (t := 60) (v' := .bool true) rfl (rfl) ?_
      refine rw_run tab_ok 1 [(6, _), (7, _), (9, _), (60, _), (61, _)] rfl ⟨rfl, rfl, rfl, rfl, rfl, trivial⟩ ?_
      refine rw_s (qs_ldb fc Tryz.isAgg3 rfl rfl (by rfl)) rfl rfl ?_
      refine rw_run tab_ok 3 [(6, _), (7, _), (9, _), (65, _)] rfl ⟨rfl, rfl, rfl, rfl, trivial⟩ ?_
      refine rw_as (t := 65) (v' := .bool true) rfl (rfl) ?_
      refine rw_run tab_ok 4 [(6, _), (9, _), (69, _)] rfl ⟨rfl, rfl, rfl, trivial⟩ ?_
      refine rw_as (t := 69) (v' := .bool true) rfl (rfl) ?_
      refine rw_run tab_ok 1 [(9, _), (69, _), (70, _)] rfl ⟨rfl, rfl, rfl, trivial⟩ ?_
      refine rw_s (qs_ldb fc Tryz.isAgg25 rfl rfl (by rfl)) rfl rfl ?_
      refine rw_s (qs_idx (k := 0) Tryz.underlying25 Tryz.sizeOf66 (SF.own (α := HFrame) hX.len fc) (by omega) rfl rfl rfl) rfl rfl ?_
      refine rw_run tab_ok 1 [(9, _), (69, _), (73, _)] rfl ⟨rfl, rfl, rfl, trivial⟩ ?_
      refine rw_s (qs_ld (fun w hw => (SF.hfr (SF.own (α := HFrame) hX.len fc) (k := 0) (by decide) e1) w hw 1 _ rfl) rfl rfl Tryz.isAgg3) rfl rfl ?_
      refine rw_run tab_ok 3 [(9, _), (77, _)] rfl ⟨rfl, rfl, trivial⟩ ?_
      refine rw_as (t := 77) (v' := .bool true) rfl (rfl) ?_
      refine rw_run tab_ok 4 [(0, _)] rfl ⟨rfl, trivial⟩ ?_
      refine rw_end ?_
      refine cw_ret ?_
      refine xw_ret1 Tryz.results46 (rv_tmp rfl) ?_
      intro w hw
      exact ⟨rfl, hw.below⟩
end Go.Proofs.YtmnkaalchcomlaaGreat

-- Me4
/- MeterSplit and MeterFree, walked. -/
namespace Go.Proofs.YtmnkaalchcomlaaGreat
open Go.RowKit

theorem right_i64 {fs : List MFunc} {m : MMach} (h : RightM fs m) : I64 m.status ∧ I64 m.trap := by
  have hs := h.st
  refine ⟨⟨by omega, by omega⟩, ?_⟩
  rcases Decidable.em (m.status = 3) with h3 | h3
  · have := h.t3 h3; exact ⟨by omega, by omega⟩
  · have := h.t0 h3; exact ⟨by omega, by omega⟩
theorem runE_ok {fs : List MFunc} {m : MMach} {k : Int} (h : machE fs m = 0) (hk : 0 ≤ k ∧ k ≤ 10000) : runE fs m k = 0 := by
  unfold runE
  rw [if_neg (fun h' => h' h), if_neg (by omega)]
theorem runR_ok {fs : List MFunc} {m : MMach} {k : Int} (h : machE fs m = 0) (hk : 0 ≤ k ∧ k ≤ 10000) : runR fs m k = runM fs m k := by
  unfold runR
  rw [if_pos (runE_ok h hk)]
theorem runE_zero {fs : List MFunc} {m : MMach} {k : Int} (h : runE fs m k = 0) : machE fs m = 0 ∧ 0 ≤ k ∧ k ≤ 10000 := by
  unfold runE at h
  split at h
  · rename_i h2; exact absurd h h2
  · rename_i h2
    split at h
    · cases h
    · exact ⟨Classical.not_not.1 h2, by omega⟩
/-- A run of a machine that is right. -/
theorem mrun_ok (Ap : Option Addr) (cp : Nat) (fs : List MFunc) (a : MA) (m : MMach) (k : Int) (r : MMach × Int) (hr : runM fs m k = r) (w : World) (hs : Sl w (.slice Ap fs.length cp) fs) (hm : MIn w.heap.size w a m) (hp : progS fs = 0) (hR : RightM fs m) (hk : 0 ≤ k ∧ k ≤ 10000) :
    Calls Tryz.prog 41 #[.agg #[.slice Ap fs.length cp], .agg #[.slice a.Af m.frames.length a.cf, .slice a.Ab m.blocks.length a.cb, .slice a.Ai m.inn.length a.ci, .slice a.Ao m.out.length a.co, .int .i64 m.status, .int .i64 m.trap], .int .i64 k] w fun e w' => ∃ g : MA, True ∧
      e = .returned (.tuple #[.agg #[.slice g.Af r.1.frames.length g.cf, .slice g.Ab r.1.blocks.length g.cb, .slice g.Ai r.1.inn.length g.ci, .slice g.Ao r.1.out.length g.co, .int .i64 r.1.status, .int .i64 r.1.trap], .int .i64 r.2, .int .i64 0]) ∧ Cw w.heap.size w [ROw (.slice g.Af r.1.frames.length g.cf) r.1.frames, ROw (.slice g.Ab r.1.blocks.length g.cb) r.1.blocks, ROw (.slice g.Ai r.1.inn.length g.ci) r.1.inn, ROw (.slice g.Ao r.1.out.length g.co) r.1.out] w' := by
  have hE := mach_of_right hp hR
  have := mrun_any Ap cp fs a m k r ((runR_ok hE hk).trans hr) w hs hm (fitM_of (fitd hp) hR).f
  rw [runE_ok hE hk] at this
  exact this
/-- Two machines that are the same. -/
theorem same_two (a b : MA) (m n : MMach) (he : m = n) (w : World) (h1 : MIn w.heap.size w a m) (h2 : MIn w.heap.size w b n) :
    Calls Tryz.prog 37 #[.agg #[.slice a.Af m.frames.length a.cf, .slice a.Ab m.blocks.length a.cb, .slice a.Ai m.inn.length a.ci, .slice a.Ao m.out.length a.co, .int .i64 m.status, .int .i64 m.trap],
      .agg #[.slice b.Af n.frames.length b.cf, .slice b.Ab n.blocks.length b.cb, .slice b.Ai n.inn.length b.ci, .slice b.Ao n.out.length b.co, .int .i64 n.status, .int .i64 n.trap]] w fun e w' => e = .returned (.bool true) ∧ Below w.heap.size w w' := by
  have := sameMach_any a b m n w h1 h2
  rwa [decide_eq_true he] at this
theorem ints_two (A1 A2 : Option Addr) (c1 c2 : Nat) (l : List Int) (w : World) (h1 : Sl w (.slice A1 l.length c1) l) (h2 : Sl w (.slice A2 l.length c2) l) : Calls Tryz.prog 38 #[.slice A1 l.length c1, .slice A2 l.length c2] w fun e w' => e = .returned (.bool true) ∧ Below w.heap.size w w' := by
  have := sameInts_w A1 A2 c1 c2 l l w h1 h2
  rwa [decide_eq_true rfl] at this
set_option maxRecDepth 100000 in
set_option maxHeartbeats 4000000 in
theorem meterSplit_any (Ap : Option Addr) (cp : Nat) (fs : List MFunc) (a : MA) (m : MMach) (k g : Int) (hik : I64 k) (hig : I64 g) (w : World) (hs : Sl w (.slice Ap fs.length cp) fs) (hm : MIn w.heap.size w a m) (hfit : FitF m.frames) :
    Calls Tryz.prog 8 #[.agg #[.slice Ap fs.length cp], .agg #[.slice a.Af m.frames.length a.cf, .slice a.Ab m.blocks.length a.cb, .slice a.Ai m.inn.length a.ci, .slice a.Ao m.out.length a.co, .int .i64 m.status, .int .i64 m.trap], .int .i64 k, .int .i64 g] w fun e w' => e = .returned (.bool true) ∧ Below w.heap.size w w' := by
  obtain ⟨hk1, hk2⟩ : -9223372036854775808 ≤ k ∧ k ≤ 9223372036854775807 := hik
  obtain ⟨hg1, hg2⟩ : -9223372036854775808 ≤ g ∧ g ≤ 9223372036854775807 := hig
  refine enter Tryz.func8 rfl Tryz.ntmps8 rfl ?_
  refine cw_seq ?_
  refine cw_region ?_
  refine rw_op (ot_box rfl rfl rfl) rfl rfl (fun g1 _ => ?_)
  refine rw_op (ot_box rfl rfl rfl) rfl rfl (fun g2 _ => ?_)
  refine rw_run tab_ok 1 [(2, _), (3, _), (4, _), (5, _)] rfl ⟨rfl, rfl, rfl, rfl, trivial⟩ ?_
  refine rw_end ?_
  refine cw_seq ?_
  refine cw_seq ?_
  refine cw_region ?_
  refine rw_op (ot_c0 rfl rfl rfl Tryz.call46 (fun w hw => meterBegun_any w)) rfl rfl (fun _ _ => ?_)
  refine rw_run tab_ok 1 [(2, _), (3, _), (4, _), (5, _), (19, _)] rfl ⟨rfl, rfl, rfl, rfl, rfl, trivial⟩ ?_
  refine rw_end ?_
  refine cw_cond_f rfl ?_
  refine cw_skip (xw_then ?_)
  refine cw_seq ?_
  refine cw_seq ?_
  refine cw_region ?_
  refine rw_run tab_ok 3 [(2, _), (3, _), (4, _), (5, _), (22, _)] rfl ⟨rfl, rfl, rfl, rfl, rfl, trivial⟩ ?_
  refine rw_split (t := 22) rfl (fun q1 => ?_) (fun q1 => ?_)
  · refine rw_run tab_ok 13 [(2, _), (3, _), (4, _), (5, _), (35, _)] rfl ⟨rfl, rfl, rfl, rfl, rfl, trivial⟩ ?_
    refine rw_end ?_
    refine cw_cond_t rfl ?_
    refine cw_seq ?_
    refine cw_region ?_
    refine rw_run tab_ok 1 [(8, _)] rfl ⟨rfl, trivial⟩ ?_
    refine rw_end ?_
    refine cw_ret (xw_thenr ?_)
    refine xw_ret1 Tryz.results8 (rv_tmp rfl) ?_
    intro w hw
    exact ⟨rfl, hw.below⟩
  · have q1 : ¬ k < 0 := of_decide_eq_false q1
    refine rw_run tab_ok 4 [(2, _), (3, _), (4, _), (5, _), (26, _)] rfl ⟨rfl, rfl, rfl, rfl, rfl, trivial⟩ ?_
    refine rw_split (t := 26) rfl (fun q2 => ?_) (fun q2 => ?_)
    · refine rw_run tab_ok 9 [(2, _), (3, _), (4, _), (5, _), (35, _)] rfl ⟨rfl, rfl, rfl, rfl, rfl, trivial⟩ ?_
      refine rw_end ?_
      refine cw_cond_t rfl ?_
      refine cw_seq ?_
      refine cw_region ?_
      refine rw_run tab_ok 1 [(8, _)] rfl ⟨rfl, trivial⟩ ?_
      refine rw_end ?_
      refine cw_ret (xw_thenr ?_)
      refine xw_ret1 Tryz.results8 (rv_tmp rfl) ?_
      intro w hw
      exact ⟨rfl, hw.below⟩
    · have q2 : ¬ g < 0 := of_decide_eq_false q2
      refine rw_run tab_ok 4 [(2, _), (3, _), (4, _), (5, _), (30, _)] rfl ⟨rfl, rfl, rfl, rfl, rfl, trivial⟩ ?_
      refine rw_split (t := 30) rfl (fun q3 => ?_) (fun q3 => ?_)
      · refine rw_run tab_ok 5 [(2, _), (3, _), (4, _), (5, _), (35, _)] rfl ⟨rfl, rfl, rfl, rfl, rfl, trivial⟩ ?_
        refine rw_end ?_
        refine cw_cond_t rfl ?_
        refine cw_seq ?_
        refine cw_region ?_
        refine rw_run tab_ok 1 [(8, _)] rfl ⟨rfl, trivial⟩ ?_
        refine rw_end ?_
        refine cw_ret (xw_thenr ?_)
        refine xw_ret1 Tryz.results8 (rv_tmp rfl) ?_
        intro w hw
        exact ⟨rfl, hw.below⟩
      · have q3 : ¬ 10000 < k := of_decide_eq_false q3
        refine rw_run tab_ok 2 [(2, _), (3, _), (4, _), (5, _), (30, _), (31, _), (32, _)] rfl ⟨rfl, rfl, rfl, rfl, rfl, rfl, rfl, trivial⟩ ?_
        refine rw_s (qs_sub rfl rfl rfl (by omega)) rfl rfl ?_
        refine rw_run tab_ok 2 [(2, _), (3, _), (4, _), (5, _), (35, _)] rfl ⟨rfl, rfl, rfl, rfl, rfl, trivial⟩ ?_
        refine rw_end ?_
        refine cw_condD rfl (fun q4 => ?_) (fun q4 => ?_)
        · refine cw_seq ?_
          refine cw_region ?_
          refine rw_run tab_ok 1 [(8, _)] rfl ⟨rfl, trivial⟩ ?_
          refine rw_end ?_
          refine cw_ret (xw_thenr ?_)
          refine xw_ret1 Tryz.results8 (rv_tmp rfl) ?_
          intro w hw
          exact ⟨rfl, hw.below⟩
        · have q4 : ¬ 10000 - k < g := q4
          obtain ⟨ra, hra⟩ : ∃ ra, runR fs m k = ra := ⟨_, rfl⟩
          refine cw_skip (xw_then ?_)
          refine cw_seq ?_
          refine cw_region ?_
          refine rw_s (qs_ldbA (vs := [_]) fc Tryz.isAgg24 Tryz.sizeOf24 rfl rfl (by rfl) rfl) rfl rfl ?_
          refine rw_s (qs_ldbA (vs := [_, _, _, _, _, _]) fc Tryz.isAgg29 Tryz.sizeOf29 rfl rfl (by rfl) rfl) rfl rfl ?_
          refine rw_run tab_ok 1 [(2, _), (3, _), (4, _), (5, _), (37, _), (38, _), (39, _)] rfl ⟨rfl, rfl, rfl, rfl, rfl, rfl, rfl, trivial⟩ ?_
          refine rw_op (ot_c rfl rfl rfl Tryz.call41 (fun w hw => mrun_any Ap cp fs a m k ra hra w (hw.ro hs) (MIn.ro hw hm) hfit)) rfl rfl (fun ga _ => ?_)
          refine rw_run tab_ok 4 [(2, _), (3, _), (4, _), (5, _), (41, _), (42, _), (43, _)] rfl ⟨rfl, rfl, rfl, rfl, rfl, rfl, rfl, trivial⟩ ?_
          refine rw_op (ot_alloc Tryz.zeroValue29 rfl rfl) rfl rfl (fun g3 _ => ?_)
          refine rw_op (ot_stb _ fc Tryz.sizeOf29 rfl rfl rfl rfl rfl (by rfl) rfl (by rfl)) rfl rfl (fun _ _ => ?_)
          refine rw_run tab_ok 2 [(2, _), (3, _), (4, _), (5, _), (9, _), (10, _), (11, _)] rfl ⟨rfl, rfl, rfl, rfl, rfl, rfl, rfl, trivial⟩ ?_
          refine rw_end ?_
          refine cw_seq ?_
          refine cw_seq ?_
          refine cw_region ?_
          refine rw_run tab_ok 2 [(2, _), (3, _), (4, _), (5, _), (9, _), (10, _), (45, _)] rfl ⟨rfl, rfl, rfl, rfl, rfl, rfl, rfl, trivial⟩ ?_
          refine rw_end ?_
          refine cw_condN rfl (fun h => ?_) (fun h => ?_)
          · have h : ¬ runE fs m k = 0 := h
            have e2 : ra = (default, 0) := by rw [← hra]; unfold runR; rw [if_neg h]
            subst e2
            refine cw_seq ?_
            refine cw_region ?_
            refine rw_run tab_ok 3 [(9, _), (48, _)] rfl ⟨rfl, rfl, trivial⟩ ?_
            refine rw_as (t := 48) (v' := .bool true) rfl (rfl) ?_
            refine rw_run tab_ok 1 [(48, _), (49, _)] rfl ⟨rfl, rfl, trivial⟩ ?_
            refine rw_s (qs_ldb fc Tryz.isAgg25 rfl rfl (by rfl)) rfl rfl ?_
            refine rw_s (qs_len Tryz.underlying25 rfl rfl) rfl rfl ?_
            refine rw_run tab_ok 3 [(8, _)] rfl ⟨rfl, trivial⟩ ?_
            refine rw_end ?_
            refine cw_ret (xw_thenr ?_)
            refine xw_ret1 Tryz.results8 (rv_tmp rfl) ?_
            intro w hw
            exact ⟨rfl, hw.below⟩
          · have h : runE fs m k = 0 := h
            obtain ⟨hE, hk⟩ := runE_zero h
            have hp := mach_prog hE
            obtain ⟨hF, hR⟩ := mach_ok hE
            have e2 : runM fs m k = ra := by rw [← hra, runR_ok hE hk]
            have hf := run_facts hF m k hR hk.1
            rw [e2] at hf
            have flo := hf.lo
            have fhi := hf.hi
            obtain ⟨rb, hrb⟩ : ∃ rb, runM fs m (k + g) = rb := ⟨_, rfl⟩
            have hfb := run_facts hF m (k + g) hR (by omega)
            rw [hrb] at hfb
            have blo := hfb.lo
            have bhi := hfb.hi
            obtain ⟨s1, s2⟩ := run_split hF m k g hR hk.1 (by omega)
            rw [e2, hrb] at s1 s2
            obtain ⟨is1, it1⟩ := right_i64 hf.right
            obtain ⟨is2, it2⟩ := right_i64 hfb.right
            refine cw_skip (xw_then ?_)
            refine cw_seq ?_
            refine cw_seq ?_
            refine cw_region ?_
            refine rw_run tab_ok 3 [(2, _), (3, _), (4, _), (5, _), (9, _), (10, _), (56, _)] rfl ⟨rfl, rfl, rfl, rfl, rfl, rfl, rfl, trivial⟩ ?_
            refine rw_as (t := 56) (v' := .bool false) rfl (congrArg Value.bool (decide_eq_false (by omega))) ?_
            refine rw_run tab_ok 4 [(2, _), (3, _), (4, _), (5, _), (9, _), (10, _), (60, _)] rfl ⟨rfl, rfl, rfl, rfl, rfl, rfl, rfl, trivial⟩ ?_
            refine rw_end ?_
            refine cw_as (t := 60) (v' := .bool false) rfl (congrArg Value.bool (decide_eq_false (by omega))) ?_
            refine cw_cond_f rfl ?_
            refine cw_skip (xw_then ?_)
            refine cw_seq ?_
            refine cw_region ?_
            refine rw_s (qs_ldbA (vs := [_]) fc Tryz.isAgg24 Tryz.sizeOf24 rfl rfl (by rfl) rfl) rfl rfl ?_
            refine rw_s (qs_ldbA (vs := [_, _, _, _, _, _]) fc Tryz.isAgg29 Tryz.sizeOf29 rfl rfl (by rfl) rfl) rfl rfl ?_
            refine rw_run tab_ok 2 [(2, _), (3, _), (4, _), (5, _), (9, _), (10, _), (62, _), (63, _), (64, _), (65, _)] rfl ⟨rfl, rfl, rfl, rfl, rfl, rfl, rfl, rfl, rfl, rfl, trivial⟩ ?_
            refine rw_s (qs_add rfl rfl rfl (by omega)) rfl rfl ?_
            refine rw_op (ot_c rfl rfl rfl Tryz.call41 (fun w hw => mrun_ok Ap cp fs a m (k + g) rb hrb w (hw.ro hs) (MIn.ro hw hm) hp hR (by omega))) rfl rfl (fun gb _ => ?_)
            refine rw_run tab_ok 4 [(2, _), (3, _), (4, _), (5, _), (9, _), (10, _), (68, _), (69, _), (70, _)] rfl ⟨rfl, rfl, rfl, rfl, rfl, rfl, rfl, rfl, rfl, trivial⟩ ?_
            refine rw_op (ot_alloc Tryz.zeroValue29 rfl rfl) rfl rfl (fun g4 _ => ?_)
            refine rw_op (ot_stb _ fc Tryz.sizeOf29 rfl rfl rfl rfl rfl (by rfl) rfl (by rfl)) rfl rfl (fun _ _ => ?_)
            refine rw_run tab_ok 2 [(2, _), (3, _), (4, _), (5, _), (9, _), (10, _), (12, _), (13, _), (14, _)] rfl ⟨rfl, rfl, rfl, rfl, rfl, rfl, rfl, rfl, rfl, trivial⟩ ?_
            refine rw_end ?_
            refine cw_seq ?_
            refine cw_seq ?_
            refine cw_region ?_
            refine rw_run tab_ok 2 [(2, _), (3, _), (4, _), (5, _), (9, _), (10, _), (12, _), (13, _), (72, _)] rfl ⟨rfl, rfl, rfl, rfl, rfl, rfl, rfl, rfl, rfl, trivial⟩ ?_
            refine rw_end ?_
            refine cw_as (t := 72) (v' := .bool false) rfl (rfl) ?_
            refine cw_cond_f rfl ?_
            refine cw_skip (xw_then ?_)
            refine cw_seq ?_
            refine cw_seq ?_
            refine cw_region ?_
            refine rw_run tab_ok 1 [(2, _), (3, _), (4, _), (5, _), (9, _), (10, _), (12, _), (13, _), (73, _)] rfl ⟨rfl, rfl, rfl, rfl, rfl, rfl, rfl, rfl, rfl, trivial⟩ ?_
            refine rw_s (qs_ldb fc Tryz.isAgg3 rfl rfl (by rfl)) rfl rfl ?_
            refine rw_run tab_ok 1 [(2, _), (3, _), (4, _), (5, _), (9, _), (10, _), (12, _), (13, _), (75, _)] rfl ⟨rfl, rfl, rfl, rfl, rfl, rfl, rfl, rfl, rfl, trivial⟩ ?_
            refine rw_end ?_
            refine cw_condN rfl (fun s0 => ?_) (fun s0 => ?_)
            · have s0 : ¬ ra.1.status = 0 := s0
              have s1 := s1 s0
              refine cw_seq ?_
              refine cw_region ?_
              refine rw_s (qs_ldbA (vs := [_, _, _, _, _, _]) fc Tryz.isAgg29 Tryz.sizeOf29 rfl rfl (by rfl) rfl) rfl rfl ?_
              refine rw_s (qs_ldbA (vs := [_, _, _, _, _, _]) fc Tryz.isAgg29 Tryz.sizeOf29 rfl rfl (by rfl) rfl) rfl rfl ?_
              refine rw_op (ot_c0 rfl rfl rfl Tryz.call37 (fun w hw => sameMach_any ga gb ra.1 rb.1 w (min_own hw fc fc fc fc rfl rfl rfl rfl is1 it1) (min_own hw fc fc fc fc rfl rfl rfl rfl is2 it2))) rfl rfl (fun _ _ => ?_)
              refine rw_run tab_ok 1 [(2, _), (3, _), (5, _), (10, _), (13, _), (79, _)] rfl ⟨rfl, rfl, rfl, rfl, rfl, rfl, trivial⟩ ?_
              refine rw_share 6 rfl [(2, _), (5, _)] [(85, .bool (decide (ra.1 = rb.1 ∧ rb.2 = ra.2 + g)))] ⟨rfl, rfl, trivial⟩ (fun K => ?_) ?_
              · refine rw_split (t := 79) rfl (fun u1 => ?_) (fun u1 => ?_)
                · have u1 := of_decide_eq_true u1
                  refine rw_run tab_ok 3 [(2, _), (5, _), (79, _), (80, _), (81, _), (82, _)] rfl ⟨rfl, rfl, rfl, rfl, rfl, rfl, trivial⟩ ?_
                  refine rw_s (qs_add rfl rfl rfl (by omega)) rfl rfl ?_
                  refine rw_run tab_ok 2 [(2, _), (5, _), (85, _)] rfl ⟨rfl, rfl, rfl, trivial⟩ ?_
                  refine rw_as (t := 85) (v' := .bool (decide (ra.1 = rb.1 ∧ rb.2 = ra.2 + g))) rfl (congrArg Value.bool (decide_eq_decide.2 ⟨fun h => ⟨u1, h⟩, fun h => h.2⟩)) ?_
                  exact rw_subK K ⟨rfl, rfl, rfl, trivial⟩
                · have u1 := of_decide_eq_false u1
                  refine rw_run tab_ok 6 [(2, _), (5, _), (85, _)] rfl ⟨rfl, rfl, rfl, trivial⟩ ?_
                  refine rw_as (t := 85) (v' := .bool (decide (ra.1 = rb.1 ∧ rb.2 = ra.2 + g))) rfl (congrArg Value.bool (decide_eq_false (fun h => u1 h.1)).symm) ?_
                  exact rw_subK K ⟨rfl, rfl, rfl, trivial⟩
              · refine rw_run tab_ok 1 [(2, _), (5, _), (86, _)] rfl ⟨rfl, rfl, rfl, trivial⟩ ?_
                refine rw_split (t := 86) rfl (fun u2 => ?_) (fun u2 => ?_)
                · refine rw_run tab_ok 9 [(8, _)] rfl ⟨rfl, trivial⟩ ?_
                  refine rw_end ?_
                  refine cw_ret (xw_thenr ?_)
                  refine xw_ret1 Tryz.results8 (rv_tmp rfl) ?_
                  intro w hw
                  exact ⟨rfl, hw.below⟩
                · have u2 := of_decide_eq_false u2
                  have s1 : m.status = 1 ∧ k = 0 := s1.elim (fun h => absurd ⟨h.1.symm, h.2⟩ u2) id
                  refine rw_run tab_ok 1 [(2, _), (86, _), (87, _)] rfl ⟨rfl, rfl, rfl, trivial⟩ ?_
                  refine rw_s (qs_ldb fc Tryz.isAgg3 rfl rfl (by rfl)) rfl rfl ?_
                  refine rw_run tab_ok 2 [(2, _), (86, _), (90, _)] rfl ⟨rfl, rfl, rfl, trivial⟩ ?_
                  refine rw_as (t := 90) (v' := .bool true) rfl (congrArg Value.bool (decide_eq_true s1.1)) ?_
                  refine rw_run tab_ok 5 [(8, _)] rfl ⟨rfl, trivial⟩ ?_
                  refine rw_end ?_
                  refine cw_ret (xw_thenr ?_)
                  refine xw_ret1 Tryz.results8 (rv_tmp rfl) ?_
                  intro w hw
                  exact ⟨ret_bool (decide_eq_true s1.2), hw.below⟩
            · have s0 : ra.1.status = 0 := s0
              have s2 := s2 s0
              refine cw_skip (xw_then ?_)
              refine cw_seq ?_
              refine cw_region ?_
              refine rw_s (qs_ldbA (vs := [_]) fc Tryz.isAgg24 Tryz.sizeOf24 rfl rfl (by rfl) rfl) rfl rfl ?_
              refine rw_s (qs_ldbA (vs := [_, _, _, _, _, _]) fc Tryz.isAgg29 Tryz.sizeOf29 rfl rfl (by rfl) rfl) rfl rfl ?_
              refine rw_run tab_ok 2 [(12, _), (13, _), (96, _), (97, _), (98, _), (99, _)] rfl ⟨rfl, rfl, rfl, rfl, rfl, rfl, trivial⟩ ?_
              refine rw_s (qs_add rfl rfl rfl (by omega)) rfl rfl ?_
              refine rw_op (ot_c rfl rfl rfl Tryz.call41 (fun w hw => mrun_ok Ap cp fs ga ra.1 (ra.2 + g) rb s2 w (hw.ro hs) (min_own hw fc fc fc fc rfl rfl rfl rfl is1 it1) hp hf.right (by omega))) rfl rfl (fun gc _ => ?_)
              refine rw_run tab_ok 4 [(12, _), (13, _), (102, _), (103, _), (104, _)] rfl ⟨rfl, rfl, rfl, rfl, rfl, trivial⟩ ?_
              refine rw_op (ot_alloc Tryz.zeroValue29 rfl rfl) rfl rfl (fun g5 _ => ?_)
              refine rw_op (ot_stb _ fc Tryz.sizeOf29 rfl rfl rfl rfl rfl (by rfl) rfl (by rfl)) rfl rfl (fun _ _ => ?_)
              refine rw_run tab_ok 2 [(12, _), (13, _), (15, _), (16, _), (17, _)] rfl ⟨rfl, rfl, rfl, rfl, rfl, trivial⟩ ?_
              refine rw_end ?_
              refine cw_seq ?_
              refine cw_region ?_
              refine rw_run tab_ok 3 [(12, _), (13, _), (15, _), (16, _), (107, _)] rfl ⟨rfl, rfl, rfl, rfl, rfl, trivial⟩ ?_
              refine rw_as (t := 107) (v' := .bool true) rfl (rfl) ?_
              refine rw_s (qs_ldbA (vs := [_, _, _, _, _, _]) fc Tryz.isAgg29 Tryz.sizeOf29 rfl rfl (by rfl) rfl) rfl rfl ?_
              refine rw_s (qs_ldbA (vs := [_, _, _, _, _, _]) fc Tryz.isAgg29 Tryz.sizeOf29 rfl rfl (by rfl) rfl) rfl rfl ?_
              refine rw_op (ot_c0 rfl rfl rfl Tryz.call37 (fun w hw => same_two gb gc rb.1 rb.1 rfl w (min_own hw fc fc fc fc rfl rfl rfl rfl is2 it2) (min_own hw fc fc fc fc rfl rfl rfl rfl is2 it2))) rfl rfl (fun _ _ => ?_)
              refine rw_run tab_ok 2 [(13, _), (16, _), (112, _)] rfl ⟨rfl, rfl, rfl, trivial⟩ ?_
              refine rw_as (t := 112) (v' := .bool true) rfl (rfl) ?_
              refine rw_run tab_ok 5 [(8, _)] rfl ⟨rfl, trivial⟩ ?_
              refine rw_end ?_
              refine cw_ret ?_
              refine xw_ret1 Tryz.results8 (rv_tmp rfl) ?_
              intro w hw
              exact ⟨ret_bool (decide_eq_true rfl), hw.below⟩
set_option maxRecDepth 100000 in
set_option maxHeartbeats 4000000 in
theorem meterFree_any (Ap : Option Addr) (cp : Nat) (fs : List MFunc) (a : MA) (m : MMach) (k g : Int) (w : World) (hs : Sl w (.slice Ap fs.length cp) fs) (hm : MIn w.heap.size w a m) (hfit : FitF m.frames) :
    Calls Tryz.prog 9 #[.agg #[.slice Ap fs.length cp], .agg #[.slice a.Af m.frames.length a.cf, .slice a.Ab m.blocks.length a.cb, .slice a.Ai m.inn.length a.ci, .slice a.Ao m.out.length a.co, .int .i64 m.status, .int .i64 m.trap], .int .i64 k, .int .i64 g] w fun e w' => e = .returned (.bool true) ∧ Below w.heap.size w w' := by
  obtain ⟨ra, hra⟩ : ∃ ra, runR fs m 0 = ra := ⟨_, rfl⟩
  refine enter Tryz.func9 rfl Tryz.ntmps9 rfl ?_
  refine cw_seq ?_
  refine cw_region ?_
  refine rw_op (ot_box rfl rfl rfl) rfl rfl (fun g1 _ => ?_)
  refine rw_op (ot_box rfl rfl rfl) rfl rfl (fun g2 _ => ?_)
  refine rw_run tab_ok 1 [(2, _), (3, _), (4, _), (5, _)] rfl ⟨rfl, rfl, rfl, rfl, trivial⟩ ?_
  refine rw_end ?_
  refine cw_seq ?_
  refine cw_seq ?_
  refine cw_region ?_
  refine rw_op (ot_c0 rfl rfl rfl Tryz.call46 (fun w hw => meterBegun_any w)) rfl rfl (fun _ _ => ?_)
  refine rw_run tab_ok 1 [(2, _), (3, _), (4, _), (5, _), (18, _)] rfl ⟨rfl, rfl, rfl, rfl, rfl, trivial⟩ ?_
  refine rw_end ?_
  refine cw_cond_f rfl ?_
  refine cw_skip (xw_then ?_)
  refine cw_seq ?_
  refine cw_region ?_
  refine rw_s (qs_ldbA (vs := [_]) fc Tryz.isAgg24 Tryz.sizeOf24 rfl rfl (by rfl) rfl) rfl rfl ?_
  refine rw_s (qs_ldbA (vs := [_, _, _, _, _, _]) fc Tryz.isAgg29 Tryz.sizeOf29 rfl rfl (by rfl) rfl) rfl rfl ?_
  refine rw_op (ot_c rfl rfl rfl Tryz.call41 (fun w hw => mrun_any Ap cp fs a m 0 ra hra w (hw.ro hs) (MIn.ro hw hm) hfit)) rfl rfl (fun ga _ => ?_)
  refine rw_run tab_ok 4 [(2, _), (3, _), (4, _), (5, _), (23, _), (24, _), (25, _)] rfl ⟨rfl, rfl, rfl, rfl, rfl, rfl, rfl, trivial⟩ ?_
  refine rw_op (ot_alloc Tryz.zeroValue29 rfl rfl) rfl rfl (fun g3 _ => ?_)
  refine rw_op (ot_stb _ fc Tryz.sizeOf29 rfl rfl rfl rfl rfl (by rfl) rfl (by rfl)) rfl rfl (fun _ _ => ?_)
  refine rw_run tab_ok 2 [(2, _), (3, _), (4, _), (5, _), (9, _), (10, _), (11, _)] rfl ⟨rfl, rfl, rfl, rfl, rfl, rfl, rfl, trivial⟩ ?_
  refine rw_end ?_
  refine cw_seq ?_
  refine cw_seq ?_
  refine cw_region ?_
  refine rw_run tab_ok 2 [(2, _), (3, _), (4, _), (5, _), (9, _), (10, _), (27, _)] rfl ⟨rfl, rfl, rfl, rfl, rfl, rfl, rfl, trivial⟩ ?_
  refine rw_end ?_
  refine cw_condN rfl (fun h => ?_) (fun h => ?_)
  · have h : ¬ runE fs m 0 = 0 := h
    have e2 : ra = (default, 0) := by rw [← hra]; unfold runR; rw [if_neg h]
    subst e2
    refine cw_seq ?_
    refine cw_region ?_
    refine rw_run tab_ok 3 [(9, _), (30, _)] rfl ⟨rfl, rfl, trivial⟩ ?_
    refine rw_as (t := 30) (v' := .bool true) rfl (rfl) ?_
    refine rw_run tab_ok 1 [(30, _), (31, _)] rfl ⟨rfl, rfl, trivial⟩ ?_
    refine rw_s (qs_ldb fc Tryz.isAgg25 rfl rfl (by rfl)) rfl rfl ?_
    refine rw_s (qs_len Tryz.underlying25 rfl rfl) rfl rfl ?_
    refine rw_run tab_ok 3 [(8, _)] rfl ⟨rfl, trivial⟩ ?_
    refine rw_end ?_
    refine cw_ret (xw_thenr ?_)
    refine xw_ret1 Tryz.results9 (rv_tmp rfl) ?_
    intro w hw
    exact ⟨rfl, hw.below⟩
  · have h : runE fs m 0 = 0 := h
    obtain ⟨hE, hk⟩ := runE_zero h
    have hp := mach_prog hE
    obtain ⟨hF, hR⟩ := mach_ok hE
    obtain ⟨is1, it1⟩ := right_i64 hR
    have e2 : ra = (m, 0) := by rw [← hra, runR_ok hE hk, run_zero]
    subst e2
    refine cw_skip (xw_then ?_)
    refine cw_seq ?_
    refine cw_seq ?_
    refine cw_region ?_
    refine rw_run tab_ok 3 [(2, _), (3, _), (4, _), (5, _), (9, _), (38, _)] rfl ⟨rfl, rfl, rfl, rfl, rfl, rfl, trivial⟩ ?_
    refine rw_as (t := 38) (v' := .bool false) rfl (rfl) ?_
    refine rw_s (qs_ldbA (vs := [_, _, _, _, _, _]) fc Tryz.isAgg29 Tryz.sizeOf29 rfl rfl (by rfl) rfl) rfl rfl ?_
    refine rw_s (qs_ldbA (vs := [_, _, _, _, _, _]) fc Tryz.isAgg29 Tryz.sizeOf29 rfl rfl (by rfl) rfl) rfl rfl ?_
    refine rw_op (ot_c0 rfl rfl rfl Tryz.call37 (fun w hw => same_two ga a m m rfl w (min_own hw fc fc fc fc rfl rfl rfl rfl is1 it1) (MIn.ro hw hm))) rfl rfl (fun _ _ => ?_)
    refine rw_run tab_ok 2 [(2, _), (3, _), (4, _), (5, _), (43, _)] rfl ⟨rfl, rfl, rfl, rfl, rfl, trivial⟩ ?_
    refine rw_end ?_
    refine cw_cond_f rfl ?_
    refine cw_skip (xw_then ?_)
    refine cw_seq ?_
    refine cw_seq ?_
    refine cw_region ?_
    refine rw_run tab_ok 3 [(2, _), (3, _), (4, _), (5, _), (46, _)] rfl ⟨rfl, rfl, rfl, rfl, rfl, trivial⟩ ?_
    refine rw_split (t := 46) rfl (fun q1 => ?_) (fun q1 => ?_)
    · refine rw_run tab_ok 8 [(2, _), (3, _), (4, _), (5, _), (54, _)] rfl ⟨rfl, rfl, rfl, rfl, rfl, trivial⟩ ?_
      refine rw_end ?_
      refine cw_cond_t rfl ?_
      refine cw_seq ?_
      refine cw_region ?_
      refine rw_run tab_ok 1 [(8, _)] rfl ⟨rfl, trivial⟩ ?_
      refine rw_end ?_
      refine cw_ret (xw_thenr ?_)
      refine xw_ret1 Tryz.results9 (rv_tmp rfl) ?_
      intro w hw
      exact ⟨rfl, hw.below⟩
    · have q1 : ¬ k < 0 := of_decide_eq_false q1
      refine rw_run tab_ok 5 [(2, _), (3, _), (4, _), (5, _), (51, _)] rfl ⟨rfl, rfl, rfl, rfl, rfl, trivial⟩ ?_
      refine rw_split (t := 51) rfl (fun q2 => ?_) (fun q2 => ?_)
      · refine rw_run tab_ok 3 [(2, _), (3, _), (4, _), (5, _), (54, _)] rfl ⟨rfl, rfl, rfl, rfl, rfl, trivial⟩ ?_
        refine rw_end ?_
        refine cw_cond_t rfl ?_
        refine cw_seq ?_
        refine cw_region ?_
        refine rw_run tab_ok 1 [(8, _)] rfl ⟨rfl, trivial⟩ ?_
        refine rw_end ?_
        refine cw_ret (xw_thenr ?_)
        refine xw_ret1 Tryz.results9 (rv_tmp rfl) ?_
        intro w hw
        exact ⟨rfl, hw.below⟩
      · have q2 : ¬ g < k := of_decide_eq_false q2
        refine rw_run tab_ok 3 [(2, _), (3, _), (4, _), (5, _), (54, _)] rfl ⟨rfl, rfl, rfl, rfl, rfl, trivial⟩ ?_
        refine rw_end ?_
        refine cw_condD rfl (fun q3 => ?_) (fun q3 => ?_)
        · refine cw_seq ?_
          refine cw_region ?_
          refine rw_run tab_ok 1 [(8, _)] rfl ⟨rfl, trivial⟩ ?_
          refine rw_end ?_
          refine cw_ret (xw_thenr ?_)
          refine xw_ret1 Tryz.results9 (rv_tmp rfl) ?_
          intro w hw
          exact ⟨rfl, hw.below⟩
        · have q3 : ¬ 10000 < g := q3
          obtain ⟨rb, hrb⟩ : ∃ rb, runM fs m k = rb := ⟨_, rfl⟩
          obtain ⟨rc, hrc⟩ : ∃ rc, runM fs m g = rc := ⟨_, rfl⟩
          have hf := run_facts hF m k hR (by omega)
          have hfc := run_facts hF m g hR (by omega)
          obtain ⟨⟨o1, o2⟩, o3⟩ := run_more hF m k g hR (by omega) (by omega)
          rw [hrb] at hf
          rw [hrc] at hfc
          rw [hrb, hrc] at o1 o2 o3
          obtain ⟨is2, it2⟩ := right_i64 hf.right
          have c2 := hf.right.ob
          have c3 := hfc.right.ob
          refine cw_skip (xw_then ?_)
          refine cw_seq ?_
          refine cw_region ?_
          refine rw_s (qs_ldbA (vs := [_]) fc Tryz.isAgg24 Tryz.sizeOf24 rfl rfl (by rfl) rfl) rfl rfl ?_
          refine rw_s (qs_ldbA (vs := [_, _, _, _, _, _]) fc Tryz.isAgg29 Tryz.sizeOf29 rfl rfl (by rfl) rfl) rfl rfl ?_
          refine rw_run tab_ok 1 [(2, _), (3, _), (4, _), (5, _), (56, _), (57, _), (58, _)] rfl ⟨rfl, rfl, rfl, rfl, rfl, rfl, rfl, trivial⟩ ?_
          refine rw_op (ot_c rfl rfl rfl Tryz.call41 (fun w hw => mrun_ok Ap cp fs a m k rb hrb w (hw.ro hs) (MIn.ro hw hm) hp hR (by omega))) rfl rfl (fun gb _ => ?_)
          refine rw_run tab_ok 4 [(2, _), (3, _), (4, _), (5, _), (60, _), (61, _), (62, _)] rfl ⟨rfl, rfl, rfl, rfl, rfl, rfl, rfl, trivial⟩ ?_
          refine rw_op (ot_alloc Tryz.zeroValue29 rfl rfl) rfl rfl (fun g4 _ => ?_)
          refine rw_op (ot_stb _ fc Tryz.sizeOf29 rfl rfl rfl rfl rfl (by rfl) rfl (by rfl)) rfl rfl (fun _ _ => ?_)
          refine rw_run tab_ok 2 [(2, _), (3, _), (4, _), (5, _), (11, _), (12, _), (13, _)] rfl ⟨rfl, rfl, rfl, rfl, rfl, rfl, rfl, trivial⟩ ?_
          refine rw_end ?_
          refine cw_seq ?_
          refine cw_region ?_
          refine rw_s (qs_ldbA (vs := [_]) fc Tryz.isAgg24 Tryz.sizeOf24 rfl rfl (by rfl) rfl) rfl rfl ?_
          refine rw_s (qs_ldbA (vs := [_, _, _, _, _, _]) fc Tryz.isAgg29 Tryz.sizeOf29 rfl rfl (by rfl) rfl) rfl rfl ?_
          refine rw_run tab_ok 1 [(2, _), (3, _), (5, _), (11, _), (12, _), (13, _), (64, _), (65, _), (66, _)] rfl ⟨rfl, rfl, rfl, rfl, rfl, rfl, rfl, rfl, rfl, trivial⟩ ?_
          refine rw_op (ot_c rfl rfl rfl Tryz.call41 (fun w hw => mrun_ok Ap cp fs a m g rc hrc w (hw.ro hs) (MIn.ro hw hm) hp hR (by omega))) rfl rfl (fun gc _ => ?_)
          refine rw_run tab_ok 4 [(2, _), (3, _), (5, _), (11, _), (12, _), (13, _), (68, _), (69, _), (70, _)] rfl ⟨rfl, rfl, rfl, rfl, rfl, rfl, rfl, rfl, rfl, trivial⟩ ?_
          refine rw_op (ot_alloc Tryz.zeroValue29 rfl rfl) rfl rfl (fun g5 _ => ?_)
          refine rw_op (ot_stb _ fc Tryz.sizeOf29 rfl rfl rfl rfl rfl (by rfl) rfl (by rfl)) rfl rfl (fun _ _ => ?_)
          refine rw_run tab_ok 2 [(2, _), (3, _), (5, _), (11, _), (12, _), (13, _), (14, _), (15, _), (16, _)] rfl ⟨rfl, rfl, rfl, rfl, rfl, rfl, rfl, rfl, rfl, trivial⟩ ?_
          refine rw_end ?_
          refine cw_fact (p := rc.1.out.length ≤ gc.co) (fun w hw => (SF.at_ (SF.own (α := Int) rfl fc) hw).cap) fun cap1 => ?_
          refine cw_seq ?_
          refine cw_seq ?_
          refine cw_draw (.still 0 (.still 1 (.still 2 (.still 3 (.still 4 (.still 5 (.still 6 (.still 7 (.still 8 (.still 9 (.still 10 (.still 11 (.still 12 (.still 13 (.still 14 (.still 15 (.still 16 (.still 17 (.still 18 (.still 19 (.still 20 (.still 21 (.still 22 (.still 23 (.pick 24 (.still 25 (.still 26 (.still 27 (.still 28 (.still 29 (.still 30 (.still 31 (.still 32 (.still 33 (.still 34 (.still 35 .done))))))))))) .stop))))))))))))))))))))))))) [] rfl (by kernel_rfl) (by kernel_rfl) ?_
          refine ro_run tab_ok ha 3 [(2, _), (3, _), (5, _), (12, _), (13, _), (14, _), (15, _), (16, _), (73, _)] rfl ⟨rfl, rfl, rfl, rfl, rfl, rfl, rfl, rfl, rfl, trivial⟩ ?_
          refine ro_as (t := 73) (v' := .bool false) rfl (rfl) ?_
          refine ro_run tab_ok ha 4 [(2, _), (3, _), (5, _), (12, _), (13, _), (14, _), (15, _), (77, _)] rfl ⟨rfl, rfl, rfl, rfl, rfl, rfl, rfl, rfl, trivial⟩ ?_
          refine ro_as (t := 77) (v' := .bool false) rfl (rfl) ?_
          refine ro_run tab_ok ha 1 [(2, _), (3, _), (5, _), (12, _), (13, _), (14, _), (15, _), (77, _), (78, _)] rfl ⟨rfl, rfl, rfl, rfl, rfl, rfl, rfl, rfl, rfl, trivial⟩ ?_
          refine ro_s2 rfl (qs_ldb fc Tryz.isAgg27 rfl rfl (by rfl)) rfl rfl ha ?_
          refine ro_s2 rfl (qs_len Tryz.underlying27 rfl rfl) rfl rfl ha ?_
          refine ro_run tab_ok ha 1 [(2, _), (3, _), (5, _), (12, _), (13, _), (14, _), (15, _), (77, _), (80, _), (81, _)] rfl ⟨rfl, rfl, rfl, rfl, rfl, rfl, rfl, rfl, rfl, rfl, trivial⟩ ?_
          refine ro_s2 rfl (qs_ldb fc Tryz.isAgg27 rfl rfl (by rfl)) rfl rfl ha ?_
          refine ro_s2 rfl (qs_len Tryz.underlying27 rfl rfl) rfl rfl ha ?_
          refine ro_run tab_ok ha 3 [(2, _), (3, _), (5, _), (12, _), (13, _), (14, _), (15, _), (86, _)] rfl ⟨rfl, rfl, rfl, rfl, rfl, rfl, rfl, rfl, trivial⟩ ?_
          refine ro_as (t := 86) (v' := .bool false) rfl (congrArg Value.bool (decide_eq_false (by omega))) ?_
          refine ro_run tab_ok ha 1 [(2, _), (3, _), (5, _), (12, _), (13, _), (14, _), (15, _), (86, _), (87, _)] rfl ⟨rfl, rfl, rfl, rfl, rfl, rfl, rfl, rfl, rfl, trivial⟩ ?_
          refine ro_s2 rfl (qs_ldb fc Tryz.isAgg27 rfl rfl (by rfl)) rfl rfl ha ?_
          refine ro_run tab_ok ha 1 [(2, _), (3, _), (5, _), (12, _), (13, _), (14, _), (15, _), (86, _), (88, _), (89, _)] rfl ⟨rfl, rfl, rfl, rfl, rfl, rfl, rfl, rfl, rfl, rfl, trivial⟩ ?_
          refine ro_s2 rfl (qs_ldb fc Tryz.isAgg27 rfl rfl (by rfl)) rfl rfl ha ?_
          refine ro_s2 rfl (qs_len Tryz.underlying27 rfl rfl) rfl rfl ha ?_
          refine ro_s2 rfl (qs_sliceK (lo := 0) (hi := rb.1.out.length) (k := rb.1.out.length) Tryz.underlying27 Tryz.sizeOf3 ⟨by omega, by omega⟩ rfl rfl rfl rfl rfl) rfl rfl ha ?_
          refine ro_run tab_ok ha 1 [(2, _), (3, _), (5, _), (12, _), (13, _), (14, _), (15, _), (86, _), (92, _), (93, _)] rfl ⟨rfl, rfl, rfl, rfl, rfl, rfl, rfl, rfl, rfl, rfl, trivial⟩ ?_
          refine ro_s2 rfl (qs_ldb fc Tryz.isAgg27 rfl rfl (by rfl)) rfl rfl ha ?_
          refine ro_op2 rfl (ot_c0 rfl rfl rfl Tryz.call38 (fun w hw => ints_two _ _ _ _ rb.1.out w (by have := SlB.cut (SF.at_ (SF.own (α := Int) (xs := rc.1.out) rfl fc) hw) 0 rb.1.out.length (Nat.zero_le _) o1; rw [List.drop_zero, Nat.sub_zero, o2] at this; exact this) (SF.at_ (SF.own rfl fc) hw))) rfl rfl (.inr fun _ => ha) (fun _ _ => ?_) ro_stop
          refine ro_run tab_ok ha 4 [(2, _), (3, _), (5, _), (12, _), (13, _), (15, _), (98, _), (99, _)] rfl ⟨rfl, rfl, rfl, rfl, rfl, rfl, rfl, rfl, trivial⟩ ?_
          refine ro_s2 rfl (qs_ldb fc Tryz.isAgg27 rfl rfl (by rfl)) rfl rfl ha ?_
          refine ro_s2 rfl (qs_len Tryz.underlying27 rfl rfl) rfl rfl ha ?_
          refine ro_run tab_ok ha 1 [(2, _), (3, _), (5, _), (12, _), (13, _), (15, _), (98, _), (101, _), (102, _)] rfl ⟨rfl, rfl, rfl, rfl, rfl, rfl, rfl, rfl, rfl, trivial⟩ ?_
          refine ro_s2 rfl (qs_ldb fc Tryz.isAgg27 rfl rfl (by rfl)) rfl rfl ha ?_
          refine ro_s2 rfl (qs_len Tryz.underlying27 rfl rfl) rfl rfl ha ?_
          refine ro_run tab_ok ha 2 [(2, _), (3, _), (5, _), (12, _), (13, _), (15, _), (106, _)] rfl ⟨rfl, rfl, rfl, rfl, rfl, rfl, rfl, trivial⟩ ?_
          refine ro_end ?_
          refine cw_as (t := 106) (v' := .bool false) rfl (congrArg Value.bool (decide_eq_false (by omega))) ?_
          refine cw_cond_f rfl ?_
          refine cw_skip (xw_then ?_)
          refine cw_seq ?_
          refine cw_region ?_
          refine rw_run tab_ok 1 [(2, _), (3, _), (5, _), (12, _), (13, _), (15, _), (107, _)] rfl ⟨rfl, rfl, rfl, rfl, rfl, rfl, rfl, trivial⟩ ?_
          refine rw_s (qs_ldb fc Tryz.isAgg3 rfl rfl (by rfl)) rfl rfl ?_
          refine rw_run tab_ok 2 [(2, _), (3, _), (5, _), (12, _), (13, _), (15, _), (110, _)] rfl ⟨rfl, rfl, rfl, rfl, rfl, rfl, rfl, trivial⟩ ?_
          by_cases hst : m.status = 2 ∨ m.status = 3
          · have hh := (halt_iff hR).2 hst
            have e1 : rb = (m, k) := by rw [← hrb, run_halt hh]
            have e3 : rc = (m, g) := by rw [← hrc, run_halt hh]
            subst e1
            subst e3
            rcases hst with hst | hst
            · refine rw_as (t := 110) (v' := .bool false) rfl (congrArg Value.bool (by rw [hst]; rfl)) ?_
              refine rw_run tab_ok 9 [(3, _), (5, _), (12, _), (15, _), (115, _), (119, _)] rfl ⟨rfl, rfl, rfl, rfl, rfl, rfl, trivial⟩ ?_
              refine rw_as (t := 119) (v' := .bool true) rfl (congrArg Value.bool (decide_eq_true rfl)) ?_
              refine rw_run tab_ok 5 [(5, _), (12, _), (115, _), (124, _)] rfl ⟨rfl, rfl, rfl, rfl, trivial⟩ ?_
              refine rw_as (t := 124) (v' := .bool true) rfl (congrArg Value.bool (decide_eq_true rfl)) ?_
              refine rw_s (qs_ldbA (vs := [_, _, _, _, _, _]) fc Tryz.isAgg29 Tryz.sizeOf29 rfl rfl (by rfl) rfl) rfl rfl ?_
              refine rw_s (qs_ldbA (vs := [_, _, _, _, _, _]) fc Tryz.isAgg29 Tryz.sizeOf29 rfl rfl (by rfl) rfl) rfl rfl ?_
              refine rw_op (ot_c0 rfl rfl rfl Tryz.call37 (fun w hw => same_two gb a m m rfl w (min_own (m := m) hw fc fc fc fc rfl rfl rfl rfl is1 it1) (MIn.ro hw hm))) rfl rfl (fun _ _ => ?_)
              refine rw_run tab_ok 3 [(8, _)] rfl ⟨rfl, trivial⟩ ?_
              refine rw_end ?_
              refine cw_ret ?_
              refine xw_ret1 Tryz.results9 (rv_tmp rfl) ?_
              intro w hw
              exact ⟨rfl, hw.below⟩
            · refine rw_as (t := 110) (v' := .bool true) rfl (congrArg Value.bool (by rw [hst]; rfl)) ?_
              refine rw_run tab_ok 1 [(2, _), (3, _), (5, _), (12, _), (13, _), (15, _), (110, _), (111, _)] rfl ⟨rfl, rfl, rfl, rfl, rfl, rfl, rfl, rfl, trivial⟩ ?_
              refine rw_s (qs_ldb fc Tryz.isAgg3 rfl rfl (by rfl)) rfl rfl ?_
              refine rw_run tab_ok 3 [(2, _), (3, _), (5, _), (12, _), (13, _), (15, _), (115, _)] rfl ⟨rfl, rfl, rfl, rfl, rfl, rfl, rfl, trivial⟩ ?_
              refine rw_as (t := 115) (v' := .bool false) rfl (congrArg Value.bool (by rw [hst]; rfl)) ?_
              refine rw_run tab_ok 4 [(3, _), (5, _), (12, _), (15, _), (115, _), (119, _)] rfl ⟨rfl, rfl, rfl, rfl, rfl, rfl, trivial⟩ ?_
              refine rw_as (t := 119) (v' := .bool true) rfl (congrArg Value.bool (decide_eq_true rfl)) ?_
              refine rw_run tab_ok 5 [(5, _), (12, _), (115, _), (124, _)] rfl ⟨rfl, rfl, rfl, rfl, trivial⟩ ?_
              refine rw_as (t := 124) (v' := .bool true) rfl (congrArg Value.bool (decide_eq_true rfl)) ?_
              refine rw_s (qs_ldbA (vs := [_, _, _, _, _, _]) fc Tryz.isAgg29 Tryz.sizeOf29 rfl rfl (by rfl) rfl) rfl rfl ?_
              refine rw_s (qs_ldbA (vs := [_, _, _, _, _, _]) fc Tryz.isAgg29 Tryz.sizeOf29 rfl rfl (by rfl) rfl) rfl rfl ?_
              refine rw_op (ot_c0 rfl rfl rfl Tryz.call37 (fun w hw => same_two gb a m m rfl w (min_own (m := m) hw fc fc fc fc rfl rfl rfl rfl is1 it1) (MIn.ro hw hm))) rfl rfl (fun _ _ => ?_)
              refine rw_run tab_ok 3 [(8, _)] rfl ⟨rfl, trivial⟩ ?_
              refine rw_end ?_
              refine cw_ret ?_
              refine xw_ret1 Tryz.results9 (rv_tmp rfl) ?_
              intro w hw
              exact ⟨rfl, hw.below⟩
          · refine rw_as (t := 110) (v' := .bool true) rfl (congrArg Value.bool (by simp; omega)) ?_
            refine rw_run tab_ok 1 [(2, _), (3, _), (5, _), (12, _), (13, _), (15, _), (110, _), (111, _)] rfl ⟨rfl, rfl, rfl, rfl, rfl, rfl, rfl, rfl, trivial⟩ ?_
            refine rw_s (qs_ldb fc Tryz.isAgg3 rfl rfl (by rfl)) rfl rfl ?_
            refine rw_run tab_ok 3 [(2, _), (3, _), (5, _), (12, _), (13, _), (15, _), (115, _)] rfl ⟨rfl, rfl, rfl, rfl, rfl, rfl, rfl, trivial⟩ ?_
            refine rw_as (t := 115) (v' := .bool true) rfl (congrArg Value.bool (by simp; omega)) ?_
            refine rw_run tab_ok 15 [(8, _)] rfl ⟨rfl, trivial⟩ ?_
            refine rw_end ?_
            refine cw_ret ?_
            refine xw_ret1 Tryz.results9 (rv_tmp rfl) ?_
            intro w hw
            exact ⟨rfl, hw.below⟩
end Go.Proofs.YtmnkaalchcomlaaGreat

-- Me5
/- MeterSteps, walked. -/
namespace Go.Proofs.YtmnkaalchcomlaaGreat
open Go.RowKit

/-- The op that a right machine is at may be. -/
theorem op_ok {fs : List MFunc} (hF : Fitd fs) {m : MMach} (hR : RightM fs m) (hne : m.frames ≠ []) : checkOp (opOf fs m) = 0 := by
  obtain ⟨li, x, e⟩ : ∃ li x, m.frames = li ++ [x] := by
    rcases List.eq_nil_or_concat m.frames with h1 | ⟨l, z, h1⟩
    · exact absurd h1 hne
    · exact ⟨l, z, by rw [h1]; simp⟩
  obtain ⟨_, _, hop⟩ := top_at (fs := fs) e
  obtain ⟨hfn, _, t, he, _⟩ := hR.top e
  have hk : x.func.toNat < fs.length := by omega
  obtain ⟨hp0, hp1, _⟩ := (hF.e _ hk).at_ _ _ he
  have hc := (oneE_all ((checkP_zero hF.p).2.2 _ (fnAt_mem hk))).2.2.2.2.2.1
  have h40 := (fn_ok hF.p hk).1.n40
  have hcs : checkOps (fnAt fs x.func.toNat).code = 0 := by
    unfold codeErr at hc
    rw [if_neg (by omega)] at hc
    exact hc
  rw [hop]
  exact checkOps_mem hcs _ (getD_mem (d := default) (by omega))
section
variable {B : Nat} {w0 w : World} {H H1 H2 H3 H4 : List Res}
theorem min_rb {g : MA} {m : MMach} (hw : Cw B w0 H w) (hf : Foc H (RRb B w0 (.slice g.Af m.frames.length g.cf) m.frames) H1) (hb : Foc H (RRb B w0 (.slice g.Ab m.blocks.length g.cb) m.blocks) H2) (hi : Foc H (RRb B w0 (.slice g.Ai m.inn.length g.ci) m.inn) H3) (ho : Foc H (RRb B w0 (.slice g.Ao m.out.length g.co) m.out) H4) (hs : I64 m.status) (ht : I64 m.trap) : MIn w.heap.size w g m :=
  ⟨SF.at_ (SF.rb rfl hf) hw, SF.at_ (SF.rb rfl hb) hw, SF.at_ (SF.rb rfl hi) hw, SF.at_ (SF.rb rfl ho) hw, hs, ht⟩
theorem mrb_ro {g : MA} {m : MMach} (hm : MIn B w0 g m) (h : Cw B w0 H w) : Cw B w0 (RRb B w0 (.slice g.Af m.frames.length g.cf) m.frames :: RRb B w0 (.slice g.Ab m.blocks.length g.cb) m.blocks :: RRb B w0 (.slice g.Ai m.inn.length g.ci) m.inn :: RRb B w0 (.slice g.Ao m.out.length g.co) m.out :: H) w := rb_ro hm.f (rb_ro hm.b (rb_ro hm.i (rb_ro hm.o h)))
theorem mrb_own {g : MA} {m : MMach} (h : Cw B w0 (ROw (.slice g.Af m.frames.length g.cf) m.frames :: ROw (.slice g.Ab m.blocks.length g.cb) m.blocks :: ROw (.slice g.Ai m.inn.length g.ci) m.inn :: ROw (.slice g.Ao m.out.length g.co) m.out :: H) w) : Cw B w0 (RRb B w0 (.slice g.Af m.frames.length g.cf) m.frames :: RRb B w0 (.slice g.Ab m.blocks.length g.cb) m.blocks :: RRb B w0 (.slice g.Ai m.inn.length g.ci) m.inn :: RRb B w0 (.slice g.Ao m.out.length g.co) m.out :: H) w := by
  have h1 := rb_own h
  have h2 := rb_own (h1.perm (List.Perm.swap ..))
  have h3 := rb_own (h2.msub (T := ROw (.slice g.Ai m.inn.length g.ci) m.inn :: RRb B w0 (.slice g.Ab m.blocks.length g.cb) m.blocks :: RRb B w0 (.slice g.Af m.frames.length g.cf) m.frames :: ROw (.slice g.Ao m.out.length g.co) m.out :: H) ms)
  have h4 := rb_own (h3.msub (T := ROw (.slice g.Ao m.out.length g.co) m.out :: RRb B w0 (.slice g.Ai m.inn.length g.ci) m.inn :: RRb B w0 (.slice g.Ab m.blocks.length g.cb) m.blocks :: RRb B w0 (.slice g.Af m.frames.length g.cf) m.frames :: H) ms)
  exact h4.msub ms
end
set_option maxRecDepth 100000 in
set_option maxHeartbeats 4000000 in
theorem meterSteps_any (Ap : Option Addr) (cp : Nat) (fs : List MFunc) (a : MA) (m : MMach) (k : Int) (w : World) (hs : Sl w (.slice Ap fs.length cp) fs) (hm : MIn w.heap.size w a m) (hfit : FitF m.frames) :
    Calls Tryz.prog 10 #[.agg #[.slice Ap fs.length cp], .agg #[.slice a.Af m.frames.length a.cf, .slice a.Ab m.blocks.length a.cb, .slice a.Ai m.inn.length a.ci, .slice a.Ao m.out.length a.co, .int .i64 m.status, .int .i64 m.trap], .int .i64 k] w fun e w' => e = .returned (.bool true) ∧ Below w.heap.size w w' := by
  obtain ⟨ra, hra⟩ : ∃ ra, runR fs m k = ra := ⟨_, rfl⟩
  refine enter Tryz.func10 rfl Tryz.ntmps10 rfl ?_
  refine cw_seq ?_
  refine cw_region ?_
  refine rw_op (ot_box rfl rfl rfl) rfl rfl (fun g1 _ => ?_)
  refine rw_op (ot_box rfl rfl rfl) rfl rfl (fun g2 _ => ?_)
  refine rw_run tab_ok 1 [(2, _), (3, _), (4, _)] rfl ⟨rfl, rfl, rfl, trivial⟩ ?_
  refine rw_end ?_
  refine cw_seq ?_
  refine cw_region ?_
  refine rw_s (qs_ldbA (vs := [_]) fc Tryz.isAgg24 Tryz.sizeOf24 rfl rfl (by rfl) rfl) rfl rfl ?_
  refine rw_s (qs_ldbA (vs := [_, _, _, _, _, _]) fc Tryz.isAgg29 Tryz.sizeOf29 rfl rfl (by rfl) rfl) rfl rfl ?_
  refine rw_run tab_ok 1 [(2, _), (3, _), (4, _), (18, _), (19, _), (20, _)] rfl ⟨rfl, rfl, rfl, rfl, rfl, rfl, trivial⟩ ?_
  refine rw_op (ot_c rfl rfl rfl Tryz.call41 (fun w hw => mrun_any Ap cp fs a m k ra hra w (hw.ro hs) (MIn.ro hw hm) hfit)) rfl rfl (fun ga _ => ?_)
  refine rw_run tab_ok 4 [(2, _), (3, _), (4, _), (22, _), (23, _), (24, _)] rfl ⟨rfl, rfl, rfl, rfl, rfl, rfl, trivial⟩ ?_
  refine rw_op (ot_alloc Tryz.zeroValue29 rfl rfl) rfl rfl (fun g3 _ => ?_)
  refine rw_op (ot_stb _ fc Tryz.sizeOf29 rfl rfl rfl rfl rfl (by rfl) rfl (by rfl)) rfl rfl (fun _ _ => ?_)
  refine rw_run tab_ok 2 [(2, _), (3, _), (4, _), (7, _), (8, _), (9, _)] rfl ⟨rfl, rfl, rfl, rfl, rfl, rfl, trivial⟩ ?_
  refine rw_end ?_
  refine cw_seq ?_
  refine cw_seq ?_
  refine cw_region ?_
  refine rw_op (ot_c0 rfl rfl rfl Tryz.call46 (fun w hw => meterBegun_any w)) rfl rfl (fun _ _ => ?_)
  refine rw_run tab_ok 2 [(2, _), (3, _), (4, _), (7, _), (8, _), (9, _), (27, _)] rfl ⟨rfl, rfl, rfl, rfl, rfl, rfl, rfl, trivial⟩ ?_
  refine rw_op (ot_c0 rfl rfl rfl Tryz.call35 (fun w hw => machineBegun_any w)) rfl rfl (fun _ _ => ?_)
  refine rw_run tab_ok 2 [(2, _), (3, _), (4, _), (7, _), (8, _), (9, _), (30, _)] rfl ⟨rfl, rfl, rfl, rfl, rfl, rfl, rfl, trivial⟩ ?_
  refine rw_end ?_
  refine cw_cond_f rfl ?_
  refine cw_skip (xw_then ?_)
  refine cw_seq ?_
  refine cw_seq ?_
  refine cw_region ?_
  refine rw_run tab_ok 3 [(2, _), (3, _), (4, _), (7, _), (8, _), (33, _)] rfl ⟨rfl, rfl, rfl, rfl, rfl, rfl, trivial⟩ ?_
  refine rw_split (t := 33) rfl (fun h => ?_) (fun h => ?_)
  · refine rw_run tab_ok 3 [(2, _), (3, _), (4, _), (7, _), (8, _), (36, _)] rfl ⟨rfl, rfl, rfl, rfl, rfl, rfl, trivial⟩ ?_
    refine rw_end ?_
    refine cw_cond_t rfl ?_
    refine cw_seq ?_
    refine cw_region ?_
    refine rw_run tab_ok 1 [(6, _)] rfl ⟨rfl, trivial⟩ ?_
    refine rw_end ?_
    refine cw_ret (xw_thenr ?_)
    refine xw_ret1 Tryz.results10 (rv_tmp rfl) ?_
    intro w hw
    exact ⟨rfl, hw.below⟩
  · have h : runE fs m k = 0 := not_dec' h
    obtain ⟨hE, hk⟩ := runE_zero h
    have hp := mach_prog hE
    obtain ⟨hF, hR⟩ := mach_ok hE
    have e2 : runM fs m k = ra := by rw [← hra, runR_ok hE hk]
    have hf := run_facts hF m k hR hk.1
    rw [e2] at hf
    obtain ⟨is1, it1⟩ := right_i64 hf.right
    have hEa : machE fs ra.1 = 0 := mach_of_right hp hf.right
    have hchk : ∀ w1, Sl w1 (.slice Ap fs.length cp) fs → MIn w1.heap.size w1 ga ra.1 → Calls Tryz.prog 36 #[.agg #[.slice Ap fs.length cp], .agg #[.slice ga.Af ra.1.frames.length ga.cf, .slice ga.Ab ra.1.blocks.length ga.cb, .slice ga.Ai ra.1.inn.length ga.ci, .slice ga.Ao ra.1.out.length ga.co, .int .i64 ra.1.status, .int .i64 ra.1.trap]] w1 fun e w' => e = .returned (.int .i64 0) ∧ Below w1.heap.size w1 w' := fun w1 g1 g2 => by
      have := mcheck_any Ap cp fs ga ra.1 w1 g1 g2 (fitM_of hF hf.right).f
      rwa [hEa] at this
    refine rw_run tab_ok 3 [(2, _), (3, _), (4, _), (7, _), (8, _), (36, _)] rfl ⟨rfl, rfl, rfl, rfl, rfl, rfl, trivial⟩ ?_
    refine rw_end ?_
    refine cw_condD rfl (fun q2 => ?_) (fun q2 => ?_)
    · refine cw_seq ?_
      refine cw_region ?_
      refine rw_run tab_ok 1 [(6, _)] rfl ⟨rfl, trivial⟩ ?_
      refine rw_end ?_
      refine cw_ret (xw_thenr ?_)
      refine xw_ret1 Tryz.results10 (rv_tmp rfl) ?_
      intro w hw
      exact ⟨rfl, hw.below⟩
    · have q2 : ¬ 60 < k := q2
      refine cw_skip (xw_then ?_)
      refine cw_seq ?_
      refine cw_region ?_
      refine rw_s (qs_ldbA (vs := [_, _, _, _, _, _]) fc Tryz.isAgg29 Tryz.sizeOf29 rfl rfl (by rfl) rfl) rfl rfl ?_
      refine rw_run tab_ok 1 [(3, _), (7, _), (8, _), (37, _), (38, _)] rfl ⟨rfl, rfl, rfl, rfl, rfl, trivial⟩ ?_
      refine rw_op (ot_alloc Tryz.zeroValue29 rfl rfl) rfl rfl (fun g4 _ => ?_)
      refine rw_op (ot_stb _ fc Tryz.sizeOf29 rfl rfl rfl rfl rfl (by rfl) rfl (by rfl)) rfl rfl (fun _ _ => ?_)
      refine rw_run tab_ok 1 [(3, _), (7, _), (8, _), (10, _), (11, _)] rfl ⟨rfl, rfl, rfl, rfl, rfl, trivial⟩ ?_
      refine rw_end ?_
      refine cw_seq ?_
      refine cw_seq ?_
      refine cw_region ?_
      refine rw_run tab_ok 1 [(3, _), (7, _), (8, _), (10, _), (11, _), (12, _)] rfl ⟨rfl, rfl, rfl, rfl, rfl, rfl, trivial⟩ ?_
      refine rw_end ?_
      refine cw_mem (fun w h => mrb_ro hm h) ?_
      refine cw_block (cw_loop (fun g : Nat × (MMach × Int) × MA => (g.1 ≤ 61 ∧ RightM fs g.2.1.1 ∧ 0 ≤ g.2.1.2 ∧ g.2.1.2 + g.1 ≤ k) ∧ runM fs m k = (if 0 < g.1 ∧ g.2.1.1.status ≠ 0 then g.2.1 else runM fs g.2.1.1 g.2.1.2)) (fun g => 61 - g.1) (fun g => [(3, .pointer (some ⟨g1, 0, none⟩)), (7, .pointer (some ⟨g3, 0, none⟩)), (8, .int .i64 ra.2), (10, .pointer (some ⟨g4, 0, none⟩)), (11, .int .i64 g.2.1.2), (12, .int .i64 (g.1 : Int))]) (fun g => [RBox g4 [.slice g.2.2.Af g.2.1.1.frames.length g.2.2.cf, .slice g.2.2.Ab g.2.1.1.blocks.length g.2.2.cb, .slice g.2.2.Ai g.2.1.1.inn.length g.2.2.ci, .slice g.2.2.Ao g.2.1.1.out.length g.2.2.co, .int .i64 g.2.1.1.status, .int .i64 g.2.1.1.trap] 29, RRb w.heap.size w (.slice g.2.2.Af g.2.1.1.frames.length g.2.2.cf) g.2.1.1.frames, RRb w.heap.size w (.slice g.2.2.Ab g.2.1.1.blocks.length g.2.2.cb) g.2.1.1.blocks, RRb w.heap.size w (.slice g.2.2.Ai g.2.1.1.inn.length g.2.2.ci) g.2.1.1.inn, RRb w.heap.size w (.slice g.2.2.Ao g.2.1.1.out.length g.2.2.co) g.2.1.1.out, RBox g3 [.slice ga.Af ra.1.frames.length ga.cf, .slice ga.Ab ra.1.blocks.length ga.cb, .slice ga.Ai ra.1.inn.length ga.ci, .slice ga.Ao ra.1.out.length ga.co, .int .i64 ra.1.status, .int .i64 ra.1.trap] 29, ROw (.slice ga.Af ra.1.frames.length ga.cf) ra.1.frames, ROw (.slice ga.Ab ra.1.blocks.length ga.cb) ra.1.blocks, ROw (.slice ga.Ai ra.1.inn.length ga.ci) ra.1.inn, ROw (.slice ga.Ao ra.1.out.length ga.co) ra.1.out, RBox g1 [.slice Ap fs.length cp] 24]) (0, (m, k), a) (⟨⟨by show 0 ≤ 61; omega, hR, hk.1, by show k + ((0 : Nat) : Int) ≤ k; omega⟩, by rw [if_neg (fun h => Nat.lt_irrefl _ h.1)]⟩) ⟨rfl, rfl, rfl, rfl, rfl, rfl, trivial⟩ me ?_)
      rintro ⟨i, ⟨x, n⟩, q⟩ hq
      try dsimp only
      obtain ⟨⟨hi, hRx, hn, hni⟩, hqr⟩ : (i ≤ 61 ∧ RightM fs x ∧ 0 ≤ n ∧ n + i ≤ k) ∧ runM fs m k = (if 0 < i ∧ x.status ≠ 0 then (x, n) else runM fs x n) := hq
      rw [e2] at hqr
      obtain ⟨isx, itx⟩ := right_i64 hRx
      have hst := hRx.st
      refine cw_seq ?_
      refine cw_seq ?_
      refine cw_region ?_
      refine rw_run tab_ok 2 [(3, _), (7, _), (8, _), (10, _), (11, _), (12, _), (40, _)] rfl ⟨rfl, rfl, rfl, rfl, rfl, rfl, rfl, trivial⟩ ?_
      refine rw_end ?_
      refine cw_condD rfl (fun hlt => ?_) (fun hlt => ?_)
      · refine cw_skip (xw_then ?_)
        refine cw_seq ?_
        refine cw_block ?_
        refine cw_seq ?_
        refine cw_seq ?_
        refine cw_region ?_
        refine rw_run tab_ok 1 [(3, _), (7, _), (8, _), (10, _), (11, _), (12, _), (43, _)] rfl ⟨rfl, rfl, rfl, rfl, rfl, rfl, rfl, trivial⟩ ?_
        refine rw_s (qs_ldb fc Tryz.isAgg3 rfl rfl (by rfl)) rfl rfl ?_
        refine rw_run tab_ok 2 [(3, _), (7, _), (8, _), (10, _), (11, _), (12, _), (46, _)] rfl ⟨rfl, rfl, rfl, rfl, rfl, rfl, rfl, trivial⟩ ?_
        refine rw_share 13 rfl [(3, _), (7, _), (8, _), (10, _), (11, _), (12, _)] [(59, .bool (decide ((x.status = 2 ∨ x.status = 3) ∨ (0 < i ∧ x.status = 1))))] ⟨rfl, rfl, rfl, rfl, rfl, rfl, trivial⟩ (fun K => ?_) ?_
        · refine rw_split (t := 46) rfl (fun s2 => ?_) (fun s2 => ?_)
          · have s2 := of_decide_eq_true s2
            refine rw_run tab_ok 13 [(3, _), (7, _), (8, _), (10, _), (11, _), (12, _), (59, _)] rfl ⟨rfl, rfl, rfl, rfl, rfl, rfl, rfl, trivial⟩ ?_
            refine rw_as (t := 59) (v' := .bool (decide ((x.status = 2 ∨ x.status = 3) ∨ (0 < i ∧ x.status = 1)))) rfl (congrArg Value.bool (decide_eq_true (.inl (.inl s2))).symm) ?_
            exact rw_subK K ⟨rfl, rfl, rfl, rfl, rfl, rfl, rfl, trivial⟩
          · have s2 := of_decide_eq_false s2
            refine rw_run tab_ok 1 [(3, _), (7, _), (8, _), (10, _), (11, _), (12, _), (46, _), (47, _)] rfl ⟨rfl, rfl, rfl, rfl, rfl, rfl, rfl, rfl, trivial⟩ ?_
            refine rw_s (qs_ldb fc Tryz.isAgg3 rfl rfl (by rfl)) rfl rfl ?_
            refine rw_run tab_ok 3 [(3, _), (7, _), (8, _), (10, _), (11, _), (12, _), (51, _)] rfl ⟨rfl, rfl, rfl, rfl, rfl, rfl, rfl, trivial⟩ ?_
            refine rw_split (t := 51) rfl (fun s3 => ?_) (fun s3 => ?_)
            · have s3 := of_decide_eq_true s3
              refine rw_run tab_ok 8 [(3, _), (7, _), (8, _), (10, _), (11, _), (12, _), (59, _)] rfl ⟨rfl, rfl, rfl, rfl, rfl, rfl, rfl, trivial⟩ ?_
              refine rw_as (t := 59) (v' := .bool (decide ((x.status = 2 ∨ x.status = 3) ∨ (0 < i ∧ x.status = 1)))) rfl (congrArg Value.bool (decide_eq_true (.inl (.inr s3))).symm) ?_
              exact rw_subK K ⟨rfl, rfl, rfl, rfl, rfl, rfl, rfl, trivial⟩
            · have s3 := of_decide_eq_false s3
              refine rw_run tab_ok 3 [(3, _), (7, _), (8, _), (10, _), (11, _), (12, _), (51, _), (54, _)] rfl ⟨rfl, rfl, rfl, rfl, rfl, rfl, rfl, rfl, trivial⟩ ?_
              refine rw_split (t := 54) rfl (fun s4 => ?_) (fun s4 => ?_)
              · have s4 := of_decide_eq_true s4
                refine rw_run tab_ok 1 [(3, _), (7, _), (8, _), (10, _), (11, _), (12, _), (51, _), (54, _), (55, _)] rfl ⟨rfl, rfl, rfl, rfl, rfl, rfl, rfl, rfl, rfl, trivial⟩ ?_
                refine rw_s (qs_ldb fc Tryz.isAgg3 rfl rfl (by rfl)) rfl rfl ?_
                refine rw_run tab_ok 3 [(3, _), (7, _), (8, _), (10, _), (11, _), (12, _), (59, _)] rfl ⟨rfl, rfl, rfl, rfl, rfl, rfl, rfl, trivial⟩ ?_
                refine rw_as (t := 59) (v' := .bool (decide ((x.status = 2 ∨ x.status = 3) ∨ (0 < i ∧ x.status = 1)))) rfl (congrArg Value.bool (decide_eq_decide.2 (by omega))) ?_
                exact rw_subK K ⟨rfl, rfl, rfl, rfl, rfl, rfl, rfl, trivial⟩
              · have s4 := of_decide_eq_false s4
                refine rw_run tab_ok 5 [(3, _), (7, _), (8, _), (10, _), (11, _), (12, _), (59, _)] rfl ⟨rfl, rfl, rfl, rfl, rfl, rfl, rfl, trivial⟩ ?_
                refine rw_as (t := 59) (v' := .bool (decide ((x.status = 2 ∨ x.status = 3) ∨ (0 < i ∧ x.status = 1)))) rfl (congrArg Value.bool (decide_eq_false (by omega)).symm) ?_
                exact rw_subK K ⟨rfl, rfl, rfl, rfl, rfl, rfl, rfl, trivial⟩
        · refine rw_end ?_
          refine cw_condD rfl (fun hT => ?_) (fun hT => ?_)
          · have er : ra = (x, n) := by
              rw [hqr]
              by_cases h1 : 0 < i ∧ x.status ≠ 0
              · rw [if_pos h1]
              · rw [if_neg h1]
                exact run_halt ((halt_iff hRx).2 (by omega)) n
            subst er
            refine cw_exit (xw_thenx (xw_blkx rfl (xw_thenx (xw_thenx (xw_blk (xw_then ?_))))))
            refine cw_seq ?_
            refine cw_region ?_
            refine rw_s (qs_ldbA (vs := [_, _, _, _, _, _]) fc Tryz.isAgg29 Tryz.sizeOf29 rfl rfl (by rfl) rfl) rfl rfl ?_
            refine rw_s (qs_ldbA (vs := [_, _, _, _, _, _]) fc Tryz.isAgg29 Tryz.sizeOf29 rfl rfl (by rfl) rfl) rfl rfl ?_
            refine rw_op (ot_c0 rfl rfl rfl Tryz.call37 (fun w hw => same_two q ga x x rfl w (min_rb hw fc fc fc fc isx itx) (min_own (m := x) hw fc fc fc fc rfl rfl rfl rfl isx itx))) rfl rfl (fun _ _ => ?_)
            refine rw_run tab_ok 1 [(3, _), (7, _), (8, _), (11, _), (87, _)] rfl ⟨rfl, rfl, rfl, rfl, rfl, trivial⟩ ?_
            refine rw_as (t := 87) (v' := .bool true) rfl (rfl) ?_
            refine rw_run tab_ok 5 [(3, _), (7, _), (92, _)] rfl ⟨rfl, rfl, rfl, trivial⟩ ?_
            refine rw_as (t := 92) (v' := .bool true) rfl (congrArg Value.bool (decide_eq_true rfl)) ?_
            refine rw_s (qs_ldbA (vs := [_]) fc Tryz.isAgg24 Tryz.sizeOf24 rfl rfl (by rfl) rfl) rfl rfl ?_
            refine rw_s (qs_ldbA (vs := [_, _, _, _, _, _]) fc Tryz.isAgg29 Tryz.sizeOf29 rfl rfl (by rfl) rfl) rfl rfl ?_
            refine rw_op (ot_c0 rfl rfl rfl Tryz.call36 (fun w hw => hchk w (hw.ro hs) (min_own (m := x) hw fc fc fc fc rfl rfl rfl rfl isx itx))) rfl rfl (fun _ _ => ?_)
            refine rw_run tab_ok 3 [(6, _)] rfl ⟨rfl, trivial⟩ ?_
            refine rw_end ?_
            refine cw_ret ?_
            refine xw_ret1 Tryz.results10 (rv_tmp rfl) ?_
            intro w hw
            exact ⟨rfl, hw.below⟩
          · have hT : ¬ ((x.status = 2 ∨ x.status = 3) ∨ (0 < i ∧ x.status = 1)) := hT
            have hh : ¬ haltM x := (not_congr (halt_iff hRx)).2 (fun h => hT (.inl h))
            have hne : x.frames ≠ [] := fun e => hh (.inl e)
            rw [if_neg (fun h => hT (by omega))] at hqr
            have hco := op_ok hF hRx hne
            have hcost : ∀ w1, Calls Tryz.prog 42 #[.agg #[.int .i64 (opOf fs x).c, .int .i64 (opOf fs x).a]] w1 fun e w' => e = .returned (.tuple #[.int .i64 (costC (opOf fs x).c), .int .i64 0]) ∧ Below w1.heap.size w1 w' := fun w1 => by
              have := cost_any (opOf fs x) w1
              unfold costS at this
              rwa [hco, if_pos rfl] at this
            obtain ⟨y, hy⟩ : ∃ y, stepM fs x = y := ⟨_, rfl⟩
            have hstep : ∀ w1, Sl w1 (.slice Ap fs.length cp) fs → MIn w1.heap.size w1 q x → Calls Tryz.prog 32 #[.agg #[.slice Ap fs.length cp], .agg #[.slice q.Af x.frames.length q.cf, .slice q.Ab x.blocks.length q.cb, .slice q.Ai x.inn.length q.ci, .slice q.Ao x.out.length q.co, .int .i64 x.status, .int .i64 x.trap]] w1 fun e w' => ∃ g : MA, True ∧
                e = .returned (.tuple #[.agg #[.slice g.Af y.frames.length g.cf, .slice g.Ab y.blocks.length g.cb, .slice g.Ai y.inn.length g.ci, .slice g.Ao y.out.length g.co, .int .i64 y.status, .int .i64 y.trap], .int .i64 0]) ∧ Cw w1.heap.size w1 [ROw (.slice g.Af y.frames.length g.cf) y.frames, ROw (.slice g.Ab y.blocks.length g.cb) y.blocks, ROw (.slice g.Ai y.inn.length g.ci) y.inn, ROw (.slice g.Ao y.out.length g.co) y.out] w' := fun w1 g1 g2 => by
              have hEx := mach_of_right hp hRx
              have := mstep_all Ap cp fs q x y (by unfold stepR; rw [if_pos hEx]; exact hy) w1 g1 g2 (fitM_of hF hRx).f
              rwa [hEx] at this
            have hcp := cost_pos (opOf fs x).c
            have hcl := cost_le (opOf fs x).c
            refine cw_skip (xw_then ?_)
            refine cw_seq ?_
            refine cw_region ?_
            refine rw_s (qs_ldbA (vs := [_]) fc Tryz.isAgg24 Tryz.sizeOf24 rfl rfl (by rfl) rfl) rfl rfl ?_
            refine rw_s (qs_ldbA (vs := [_, _, _, _, _, _]) fc Tryz.isAgg29 Tryz.sizeOf29 rfl rfl (by rfl) rfl) rfl rfl ?_
            refine rw_op (ot_c0 rfl rfl rfl Tryz.call40 (fun w hw => opOf_any Ap cp fs q x w (hw.ro hs) (min_rb hw fc fc fc fc isx itx) hF hRx hne)) rfl rfl (fun _ _ => ?_)
            refine rw_op (ot_c0 rfl rfl rfl Tryz.call42 (fun w hw => hcost w)) rfl rfl (fun _ _ => ?_)
            refine rw_run tab_ok 5 [(3, _), (7, _), (8, _), (10, _), (11, _), (12, _), (13, _), (14, _)] rfl ⟨rfl, rfl, rfl, rfl, rfl, rfl, rfl, rfl, trivial⟩ ?_
            refine rw_end ?_
            refine cw_seq ?_
            refine cw_seq ?_
            refine cw_region ?_
            refine rw_run tab_ok 2 [(3, _), (7, _), (8, _), (10, _), (11, _), (12, _), (13, _), (68, _)] rfl ⟨rfl, rfl, rfl, rfl, rfl, rfl, rfl, rfl, trivial⟩ ?_
            refine rw_end ?_
            refine cw_as (t := 68) (v' := .bool false) rfl (rfl) ?_
            refine cw_cond_f rfl ?_
            refine cw_skip (xw_then ?_)
            refine cw_seq ?_
            refine cw_seq ?_
            refine cw_region ?_
            refine rw_run tab_ok 3 [(3, _), (7, _), (8, _), (10, _), (11, _), (12, _), (13, _), (71, _)] rfl ⟨rfl, rfl, rfl, rfl, rfl, rfl, rfl, rfl, trivial⟩ ?_
            refine rw_end ?_
            refine cw_condD rfl (fun hc => ?_) (fun hc => ?_)
            · have hc : n < costC (opOf fs x).c := hc
              have er : ra = (x, n) := by rw [hqr, runM_eq, if_neg hh, if_pos hc]
              subst er
              refine cw_exit (xw_thenx (xw_blkx rfl (xw_thenx (xw_thenx (xw_blk (xw_then ?_))))))
              refine cw_seq ?_
              refine cw_region ?_
              refine rw_s (qs_ldbA (vs := [_, _, _, _, _, _]) fc Tryz.isAgg29 Tryz.sizeOf29 rfl rfl (by rfl) rfl) rfl rfl ?_
              refine rw_s (qs_ldbA (vs := [_, _, _, _, _, _]) fc Tryz.isAgg29 Tryz.sizeOf29 rfl rfl (by rfl) rfl) rfl rfl ?_
              refine rw_op (ot_c0 rfl rfl rfl Tryz.call37 (fun w hw => same_two q ga x x rfl w (min_rb hw fc fc fc fc isx itx) (min_own (m := x) hw fc fc fc fc rfl rfl rfl rfl isx itx))) rfl rfl (fun _ _ => ?_)
              refine rw_run tab_ok 1 [(3, _), (7, _), (8, _), (11, _), (87, _)] rfl ⟨rfl, rfl, rfl, rfl, rfl, trivial⟩ ?_
              refine rw_as (t := 87) (v' := .bool true) rfl (rfl) ?_
              refine rw_run tab_ok 5 [(3, _), (7, _), (92, _)] rfl ⟨rfl, rfl, rfl, trivial⟩ ?_
              refine rw_as (t := 92) (v' := .bool true) rfl (congrArg Value.bool (decide_eq_true rfl)) ?_
              refine rw_s (qs_ldbA (vs := [_]) fc Tryz.isAgg24 Tryz.sizeOf24 rfl rfl (by rfl) rfl) rfl rfl ?_
              refine rw_s (qs_ldbA (vs := [_, _, _, _, _, _]) fc Tryz.isAgg29 Tryz.sizeOf29 rfl rfl (by rfl) rfl) rfl rfl ?_
              refine rw_op (ot_c0 rfl rfl rfl Tryz.call36 (fun w hw => hchk w (hw.ro hs) (min_own (m := x) hw fc fc fc fc rfl rfl rfl rfl isx itx))) rfl rfl (fun _ _ => ?_)
              refine rw_run tab_ok 3 [(6, _)] rfl ⟨rfl, trivial⟩ ?_
              refine rw_end ?_
              refine cw_ret ?_
              refine xw_ret1 Tryz.results10 (rv_tmp rfl) ?_
              intro w hw
              exact ⟨rfl, hw.below⟩
            · have hc : ¬ n < costC (opOf fs x).c := hc
              refine cw_skip (xw_then ?_)
              refine cw_seq ?_
              refine cw_region ?_
              refine rw_s (qs_ldbA (vs := [_]) fc Tryz.isAgg24 Tryz.sizeOf24 rfl rfl (by rfl) rfl) rfl rfl ?_
              refine rw_s (qs_ldbA (vs := [_, _, _, _, _, _]) fc Tryz.isAgg29 Tryz.sizeOf29 rfl rfl (by rfl) rfl) rfl rfl ?_
              refine rw_op (ot_c rfl rfl rfl Tryz.call32 (fun w hw => hstep w (hw.ro hs) (min_rb hw fc fc fc fc isx itx))) rfl rfl (fun gy _ => ?_)
              refine rw_run tab_ok 3 [(3, _), (7, _), (8, _), (10, _), (11, _), (12, _), (13, _), (76, _), (77, _)] rfl ⟨rfl, rfl, rfl, rfl, rfl, rfl, rfl, rfl, rfl, trivial⟩ ?_
              refine rw_op (ot_alloc Tryz.zeroValue29 rfl rfl) rfl rfl (fun g5 _ => ?_)
              refine rw_op (ot_stb _ fc Tryz.sizeOf29 rfl rfl rfl rfl rfl (by rfl) rfl (by rfl)) rfl rfl (fun _ _ => ?_)
              refine rw_run tab_ok 1 [(3, _), (7, _), (8, _), (10, _), (11, _), (12, _), (13, _), (15, _), (16, _)] rfl ⟨rfl, rfl, rfl, rfl, rfl, rfl, rfl, rfl, rfl, trivial⟩ ?_
              refine rw_end ?_
              refine cw_seq ?_
              refine cw_seq ?_
              refine cw_region ?_
              refine rw_run tab_ok 2 [(3, _), (7, _), (8, _), (10, _), (11, _), (12, _), (13, _), (15, _), (79, _)] rfl ⟨rfl, rfl, rfl, rfl, rfl, rfl, rfl, rfl, rfl, trivial⟩ ?_
              refine rw_end ?_
              refine cw_as (t := 79) (v' := .bool false) rfl (rfl) ?_
              refine cw_cond_f rfl ?_
              refine cw_skip (xw_then ?_)
              refine cw_seq ?_
              refine cw_region ?_
              refine rw_s (qs_ldbA (vs := [_, _, _, _, _, _]) fc Tryz.isAgg29 Tryz.sizeOf29 rfl rfl (by rfl) rfl) rfl rfl ?_
              refine rw_op (ot_stb _ fc Tryz.sizeOf29 rfl rfl rfl rfl rfl (by rfl) rfl (by rfl)) rfl rfl (fun _ _ => ?_)
              refine rw_end ?_
              refine cw_region ?_
              refine rw_run tab_ok 2 [(3, _), (7, _), (8, _), (10, _), (12, _), (81, _), (82, _)] rfl ⟨rfl, rfl, rfl, rfl, rfl, rfl, rfl, trivial⟩ ?_
              refine rw_s (qs_sub rfl rfl rfl (by omega)) rfl rfl ?_
              refine rw_run tab_ok 1 [(3, _), (7, _), (8, _), (10, _), (11, _), (12, _)] rfl ⟨rfl, rfl, rfl, rfl, rfl, rfl, trivial⟩ ?_
              refine rw_endx (xw_blkn (xw_then ?_))
              refine cw_region ?_
              refine rw_run tab_ok 1 [(3, _), (7, _), (8, _), (10, _), (11, _), (41, _)] rfl ⟨rfl, rfl, rfl, rfl, rfl, rfl, trivial⟩ ?_
              refine rw_s (qs_add rfl rfl rfl (by omega)) rfl rfl ?_
              refine rw_run tab_ok 1 [(3, _), (7, _), (8, _), (10, _), (11, _), (12, _)] rfl ⟨rfl, rfl, rfl, rfl, rfl, rfl, trivial⟩ ?_
              refine rw_round (i + 1, (y, n - costC (opOf fs x).c), gy) (⟨⟨by show i + 1 ≤ 61; omega, by rw [← hy]; exact step_right hF hRx, by show 0 ≤ n - _; omega, by show n - _ + ((i + 1 : Nat) : Int) ≤ k; omega⟩, by rw [e2, hqr, runM_eq, if_neg hh, if_neg hc, hy]; by_cases h0 : y.status = 0; rw [if_pos h0, if_neg (fun h => h.2 h0)]; rw [if_neg h0, if_pos ⟨Nat.succ_pos i, h0⟩]⟩) (by show 61 - (i + 1) < 61 - i; omega) ⟨rfl, rfl, rfl, rfl, rfl, rfl, trivial⟩ (fun w h => (mrb_own (h.msub (T := ROw (.slice gy.Af y.frames.length gy.cf) y.frames :: ROw (.slice gy.Ab y.blocks.length gy.cb) y.blocks :: ROw (.slice gy.Ai y.inn.length gy.ci) y.inn :: ROw (.slice gy.Ao y.out.length gy.co) y.out :: [RBox g4 [.slice gy.Af y.frames.length gy.cf, .slice gy.Ab y.blocks.length gy.cb, .slice gy.Ai y.inn.length gy.ci, .slice gy.Ao y.out.length gy.co, .int .i64 y.status, .int .i64 y.trap] 29, RBox g3 [.slice ga.Af ra.1.frames.length ga.cf, .slice ga.Ab ra.1.blocks.length ga.cb, .slice ga.Ai ra.1.inn.length ga.ci, .slice ga.Ao ra.1.out.length ga.co, .int .i64 ra.1.status, .int .i64 ra.1.trap] 29, ROw (.slice ga.Af ra.1.frames.length ga.cf) ra.1.frames, ROw (.slice ga.Ab ra.1.blocks.length ga.cb) ra.1.blocks, ROw (.slice ga.Ai ra.1.inn.length ga.ci) ra.1.inn, ROw (.slice ga.Ao ra.1.out.length ga.co) ra.1.out, RBox g1 [.slice Ap fs.length cp] 24]) ms)).msub ms)
      · exact (show False from by omega).elim
end Go.Proofs.YtmnkaalchcomlaaGreat

