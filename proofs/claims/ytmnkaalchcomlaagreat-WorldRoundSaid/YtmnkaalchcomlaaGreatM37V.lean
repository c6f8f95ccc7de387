/- Texts of one proof, one behind the other: lemmas alone. -/
import Derived.Deep.QuietTactic
import Derived.BigQuiet
import Derived.Test.YtmnkaalchcomlaaGreatM34V
import Derived.Test.YtmnkaalchcomlaaGreatM22V
import Derived.Test.YtmnkaalchcomlaaGreatM17V
import Derived.Test.YtmnkaalchcomlaaGreatM33V
import Derived.Test.YtmnkaalchcomlaaGreatM23V
import Derived.Test.YtmnkaalchcomlaaGreatM31V
import Derived.Test.YtmnkaalchcomlaaGreatM27V
import Derived.Test.YtmnkaalchcomlaaGreatM16V
import Derived.Test.YtmnkaalchcomlaaGreatM18V
import Derived.Test.YtmnkaalchcomlaaGreatM14V

-- Ck1
/- Machines: what is right: small things. -/
namespace Go.Proofs.YtmnkaalchcomlaaGreat
open Go.RowKit
set_option maxRecDepth 100000 in
theorem mwithin_any (n a b : Int) (w : World) : Calls Tryz.prog 162 #[.int .i64 n, .int .i64 a, .int .i64 b] w fun e w' => e = .returned (.bool (within n a b)) ∧ Below w.heap.size w w' := by
 refine enter Tryz.func162 rfl Tryz.ntmps162 rfl ?_
 refine cw_seq ?_
 refine cw_region ?_
 refine rw_run tab_ok 1 [(0, _), (1, _), (2, _)] rfl ⟨rfl, rfl, rfl, trivial⟩ ?_
 refine rw_end ?_
 refine cw_seq ?_
 refine cw_region ?_
 refine rw_run tab_ok 4 [(0, _), (2, _), (10, _)] rfl ⟨rfl, rfl, rfl, trivial⟩ ?_
 refine rw_split (t := 10) rfl (fun h1 => ?_) (fun h1 => ?_)
 ·refine rw_run tab_ok 5 [(6, _)] rfl ⟨rfl, trivial⟩ ?_
  refine rw_end ?_
  refine cw_ret ?_
  refine xw_ret1 Tryz.results162 (rv_tmp rfl) ?_
  intro w hw
  exact ⟨ret_bool (by unfold within; rw [h1]; rfl), hw.below⟩
 ·refine rw_run tab_ok 5 [(6, _)] rfl ⟨rfl, trivial⟩ ?_
  refine rw_end ?_
  refine cw_ret ?_
  refine xw_ret1 Tryz.results162 (rv_tmp rfl) ?_
  intro w hw
  exact ⟨ret_bool (by unfold within; rw [h1]; rfl), hw.below⟩
set_option maxRecDepth 100000 in
theorem growV_any (n : Nat) (hn : n * 16 ≤ 140737488355328) (w : World) : Calls Tryz.prog 249 #[.slice none 0 0, .int .i64 (n : Int)] w fun e w' => ∃ g : Option Addr × Nat, True ∧ e = .returned (.slice g.1 0 g.2) ∧ Cw w.heap.size w [ROw (α := MVal) (.slice g.1 0 g.2) []] w' := by
 refine enter Tryz.func249 rfl Tryz.ntmps249 rfl ?_
 refine cw_seq ?_
 refine cw_region ?_
 refine rw_run tab_ok 1 [(0, _), (1, _)] rfl ⟨rfl, rfl, trivial⟩ ?_
 refine rw_end ?_
 refine cw_seq ?_
 refine cw_seq ?_
 refine cw_region ?_
 refine rw_run tab_ok 2 [(0, _), (1, _), (6, _)] rfl ⟨rfl, rfl, rfl, trivial⟩ ?_
 refine rw_end ?_
 refine cw_condD rfl (fun h0 => ?_) (fun h0 => ?_)
 ·exact absurd h0 (by omega)
 ·refine cw_skip (xw_then ?_)
  refine cw_seq ?_
  refine cw_seq ?_
  refine cw_region ?_
  refine rw_run tab_ok 2 [(0, _), (8, _), (9, _)] rfl ⟨rfl, rfl, rfl, trivial⟩ ?_
  refine rw_s (qs_cap Tryz.underlying64 rfl rfl) rfl rfl ?_
  refine rw_run tab_ok 1 [(0, _), (8, _), (10, _), (11, _)] rfl ⟨rfl, rfl, rfl, rfl, trivial⟩ ?_
  refine rw_s (qs_len Tryz.underlying64 rfl rfl) rfl rfl ?_
  refine rw_s (qs_sub rfl rfl rfl (by omega)) rfl rfl ?_
  refine rw_s (qs_sub rfl rfl rfl (by omega)) rfl rfl ?_
  refine rw_run tab_ok 1 [(0, _), (1, _)] rfl ⟨rfl, rfl, trivial⟩ ?_
  refine rw_end ?_
  refine cw_seq ?_
  refine cw_region ?_
  refine rw_run tab_ok 2 [(0, _), (1, _), (16, _)] rfl ⟨rfl, rfl, rfl, trivial⟩ ?_
  refine rw_end ?_
  refine cw_as (t := 1) (v' := .int .i64 (n : Int)) rfl (by congr 1) ?_
  refine cw_condD rfl (fun h1 => ?_) (fun h1 => ?_)
  ·refine cw_region ?_
   refine rw_run tab_ok 2 [(0, _), (1, _), (17, _), (18, _)] rfl ⟨rfl, rfl, rfl, rfl, trivial⟩ ?_
   refine rw_s (qs_cap Tryz.underlying64 rfl rfl) rfl rfl ?_
   refine rw_s (qs_to (k := 0) Tryz.underlying64 Tryz.sizeOf68 (Nat.le_refl _) rfl rfl rfl) rfl rfl ?_
   refine rw_run tab_ok 1 [(0, _), (20, _), (21, _)] rfl ⟨rfl, rfl, rfl, trivial⟩ ?_
   refine rw_op (ot_appZ (α := MVal) (bytes := 16) Tryz.underlying64 Tryz.underlying3 Tryz.inVal rfl (by decide) (by omega) (by omega) rfl rfl rfl) rfl rfl (fun ⟨g, c⟩ _ => ?_)
   try dsimp only
   refine rw_run tab_ok 1 [(22, _), (23, _)] rfl ⟨rfl, rfl, trivial⟩ ?_
   refine rw_s (qs_len Tryz.underlying64 rfl rfl) rfl rfl ?_
   refine rw_s (qs_to (k := 0) Tryz.underlying64 Tryz.sizeOf68 (Nat.zero_le _) rfl rfl rfl) rfl rfl ?_
   refine rw_run tab_ok 1 [(0, _)] rfl ⟨rfl, trivial⟩ ?_
   refine rw_end ?_
   refine cw_seq ?_
   refine cw_region ?_
   refine rw_run tab_ok 2 [(4, _)] rfl ⟨rfl, trivial⟩ ?_
   refine rw_end ?_
   refine cw_ret ?_
   refine xw_ret1 Tryz.results249 (rv_tmp rfl) ?_
   intro w hw
   exact ⟨(some ⟨g, 0, none⟩, c), trivial, rfl, hw⟩
  ·refine cw_skip (xw_then ?_)
   refine cw_seq ?_
   refine cw_region ?_
   refine rw_run tab_ok 2 [(4, _)] rfl ⟨rfl, trivial⟩ ?_
   refine rw_end ?_
   refine cw_ret ?_
   refine xw_ret1 Tryz.results249 (rv_tmp rfl) ?_
   intro w hw
   exact ⟨(none, 0), trivial, rfl, Cw.nilO MVal hw⟩
theorem asB_eq (v : MVal) (t : Int) : asB v t = ((v.ref == !decide (t = 1)) && ((!decide (t = 3)) || decide (v.n = 0))) := by
 unfold asB
 cases v.ref <;> by_cases h1 : t = 1 <;> simp [h1]
set_option maxRecDepth 100000 in
theorem mas_any (v : MVal) (t : Int) (w : World) : Calls Tryz.prog 238 #[.agg #[.bool v.ref, .int .i64 v.n], .int .i64 t] w fun e w' => e = .returned (.bool (asB v t)) ∧ Below w.heap.size w w' := by
 have ha := asB_eq v t
 generalize hq : asB v t = q at ha
 refine enter Tryz.func238 rfl Tryz.ntmps238 rfl ?_
 refine cw_seq ?_
 refine cw_region ?_
 refine rw_op (ot_box rfl rfl rfl) rfl rfl (fun g1 _ => ?_)
 refine rw_run tab_ok 1 [(1, _), (2, _)] rfl ⟨rfl, rfl, trivial⟩ ?_
 refine rw_end ?_
 refine cw_seq ?_
 refine cw_region ?_
 refine rw_run tab_ok 1 [(1, _), (2, _), (5, _)] rfl ⟨rfl, rfl, rfl, trivial⟩ ?_
 refine rw_s (qs_ldb fc Tryz.isAgg4 rfl rfl (by rfl)) rfl rfl ?_
 refine rw_run tab_ok 2 [(1, _), (2, _), (6, _), (8, _)] rfl ⟨rfl, rfl, rfl, rfl, trivial⟩ ?_
 refine rw_s (qs_eqB Tryz.underlying4 rfl rfl rfl) rfl rfl ?_
 refine rw_run tab_ok 1 [(1, _), (2, _), (10, _)] rfl ⟨rfl, rfl, rfl, trivial⟩ ?_
 refine rw_split (t := 10) rfl (fun h1 => ?_) (fun h1 => ?_)
 ·rw [h1, Bool.true_and] at ha
  refine rw_run tab_ok 3 [(2, _), (10, _), (13, _)] rfl ⟨rfl, rfl, rfl, trivial⟩ ?_
  refine rw_split (t := 13) rfl (fun h2 => ?_) (fun h2 => ?_)
  ·rw [h2, Bool.true_or] at ha
   refine rw_run tab_ok 6 [(4, _)] rfl ⟨rfl, trivial⟩ ?_
   refine rw_end ?_
   refine cw_ret ?_
   refine xw_ret1 Tryz.results238 (rv_tmp rfl) ?_
   intro w hw
   exact ⟨ret_bool ha.symm, hw.below⟩
  ·rw [h2, Bool.false_or] at ha
   refine rw_run tab_ok 1 [(10, _), (13, _), (14, _)] rfl ⟨rfl, rfl, rfl, trivial⟩ ?_
   refine rw_s (qs_ldb fc Tryz.isAgg3 rfl rfl (by rfl)) rfl rfl ?_
   refine rw_run tab_ok 4 [(4, _)] rfl ⟨rfl, trivial⟩ ?_
   refine rw_end ?_
   refine cw_ret ?_
   refine xw_ret1 Tryz.results238 (rv_tmp rfl) ?_
   intro w hw
   exact ⟨ret_bool ha.symm, hw.below⟩
 ·rw [h1, Bool.false_and] at ha
  refine rw_run tab_ok 9 [(4, _)] rfl ⟨rfl, trivial⟩ ?_
  refine rw_end ?_
  refine cw_ret ?_
  refine xw_ret1 Tryz.results238 (rv_tmp rfl) ?_
  intro w hw
  exact ⟨ret_bool ha.symm, hw.below⟩
/-! The checker -/
def ckB (a : MA) (m : MMach) (pv : Value) : List Value := [.slice a.Af m.frames.length a.cf, .slice a.Ab m.blocks.length a.cb, .slice a.Ai m.inn.length a.ci, .slice a.Ao m.out.length a.co, .int .i64 m.status, .int .i64 m.trap, pv]
section
variable {B : Nat} {w0 : World} {H : List Res}
set_option maxRecDepth 100000 in
set_option maxHeartbeats 1000000 in
theorem cvalue_any (gc : Nat) (a : MA) (m : MMach) (pv : Value) (v : MVal) (w : World) (hw : Cw B w0 (RBox gc [.slice a.Af m.frames.length a.cf, .slice a.Ab m.blocks.length a.cb, .slice a.Ai m.inn.length a.ci, .slice a.Ao m.out.length a.co, .int .i64 m.status, .int .i64 m.trap, pv] 159 :: H) w) :
  Calls Tryz.prog 237 #[.pointer (some ⟨gc, 0, none⟩), .agg #[.bool v.ref, .int .i64 v.n]] w fun e w' => ∃ _ : Unit, True ∧ e = .returned (.int .i64 (if valB m.blocks.length v = true then 0 else 3)) ∧ Cw B w0 (RBox gc [.slice a.Af m.frames.length a.cf, .slice a.Ab m.blocks.length a.cb, .slice a.Ai m.inn.length a.ci, .slice a.Ao m.out.length a.co, .int .i64 m.status, .int .i64 m.trap, pv] 159 :: H) w' := by
 obtain ⟨q, hq⟩ : ∃ q, valB m.blocks.length v = q := ⟨_, rfl⟩
 rw [hq]
 obtain ⟨r, z⟩ := v
 refine enter_own Tryz.func237 rfl Tryz.ntmps237 rfl hw ?_
 refine cw_seq ?_
 refine cw_region ?_
 refine rw_op (ot_box rfl rfl rfl) rfl rfl (fun g1 _ => ?_)
 refine rw_run tab_ok 1 [(0, _), (3, _)] rfl ⟨rfl, rfl, trivial⟩ ?_
 refine rw_end ?_
 refine cw_seq ?_
 refine cw_seq ?_
 refine cw_draw (.still 0 (.still 1 (.still 2 (.still 3 (.still 4 (.still 5 (.still 6 (.still 7 (.still 8 (.still 9 (.still 10 (.pick 11 (.still 12 (.still 13 (.still 14 (.still 15 (.still 16 (.still 17 (.still 18 (.still 19 (.still 20 (.pick 21 (.still 22 (.still 23 (.still 24 .done))) .stop)))))))))) .stop)))))))))))) [] rfl (by kernel_rfl) (by kernel_rfl) ?_
 refine ro_run tab_ok ha 1 [(0, _), (3, _), (5, _)] rfl ⟨rfl, rfl, rfl, trivial⟩ ?_
 refine ro_s2 rfl (qs_ldb fc Tryz.isAgg4 rfl rfl (by rfl)) rfl rfl ha ?_
 refine ro_run tab_ok ha 1 [(0, _), (3, _), (7, _)] rfl ⟨rfl, rfl, rfl, trivial⟩ ?_
 refine ro_split (t := 7) rfl (fun hr => ?_) (fun hr => ?_)
 ·have hq2 : within z 0 m.blocks.length = q := by rw [← hq]; unfold valB; rw [if_pos hr]
  refine ro_run tab_ok ha 1 [(0, _), (3, _), (7, _), (8, _)] rfl ⟨rfl, rfl, rfl, rfl, trivial⟩ ?_
  refine ro_s2 rfl (qs_ldb fc Tryz.isAgg3 rfl rfl (by rfl)) rfl rfl ha ?_
  refine ro_run tab_ok ha 4 [(3, _), (7, _), (9, _), (13, _)] rfl ⟨rfl, rfl, rfl, rfl, trivial⟩ ?_
  refine ro_s2 rfl (qs_ldb fc Tryz.isAgg26 rfl rfl (by rfl)) rfl rfl ha ?_
  refine ro_s2 rfl (qs_len Tryz.underlying26 rfl rfl) rfl rfl ha ?_
  refine ro_op2 rfl (ot_c0 rfl rfl rfl Tryz.call162 (fun w hw => mwithin_any z 0 m.blocks.length w)) rfl rfl (.inr fun _ => ha) (fun _ _ => ?_) ro_stop
  refine ro_run tab_ok ha 3 [(3, _), (19, _)] rfl ⟨rfl, rfl, trivial⟩ ?_
  rw [hq2]
  refine ro_split (t := 19) rfl (fun hb => ?_) (fun hb => ?_)
  ·have hq3 : q = false := by simpa using hb
   subst hq3
   refine ro_run tab_ok ha 6 [(19, _), (23, _), (25, _)] rfl ⟨rfl, rfl, rfl, trivial⟩ ?_
   refine ro_skipL rfl rfl rfl (.inr ha) ?_ ro_stop
   refine ro_run tab_ok ha 3 [(29, _)] rfl ⟨rfl, trivial⟩ ?_
   refine ro_end ?_
   refine cw_cond_t rfl ?_
   refine cw_seq ?_
   refine cw_region ?_
   refine rw_run tab_ok 1 [(4, _)] rfl ⟨rfl, trivial⟩ ?_
   refine rw_end ?_
   refine cw_ret (xw_thenr ?_)
   refine xw_ret1 Tryz.results237 (rv_tmp rfl) ?_
   intro w hw
   exact ⟨(), trivial, rfl, hw.msub ms⟩
  ·have hq3 : q = true := by simpa using hb
   subst hq3
   refine ro_run tab_ok ha 1 [(3, _), (19, _), (20, _)] rfl ⟨rfl, rfl, rfl, trivial⟩ ?_
   refine ro_s2 rfl (qs_ldb fc Tryz.isAgg4 rfl rfl (by rfl)) rfl rfl ha ?_
   refine ro_run tab_ok ha 2 [(3, _), (19, _), (23, _)] rfl ⟨rfl, rfl, rfl, trivial⟩ ?_
   refine ro_split (t := 23) rfl (fun h3 => ?_) (fun h3 => ?_)
   ·rw [hr] at h3
    cases h3
   ·refine ro_run tab_ok ha 2 [(19, _), (23, _), (25, _)] rfl ⟨rfl, rfl, rfl, trivial⟩ ?_
    refine ro_skipL rfl rfl rfl (.inr ha) ?_ ro_stop
    refine ro_run tab_ok ha 3 [(29, _)] rfl ⟨rfl, trivial⟩ ?_
    refine ro_end ?_
    refine cw_cond_f rfl ?_
    refine cw_skip (xw_then ?_)
    refine cw_seq ?_
    refine cw_region ?_
    refine rw_run tab_ok 1 [(4, _)] rfl ⟨rfl, trivial⟩ ?_
    refine rw_end ?_
    refine cw_ret ?_
    refine xw_ret1 Tryz.results237 (rv_tmp rfl) ?_
    intro w hw
    exact ⟨(), trivial, rfl, hw.msub ms⟩
 ·have hq2 : isInt z = q := by rw [← hq]; unfold valB; rw [if_neg (by rw [hr]; decide)]
  refine ro_run tab_ok ha 8 [(3, _), (7, _), (9, _), (15, _)] rfl ⟨rfl, rfl, rfl, rfl, trivial⟩ ?_
  refine ro_skipL rfl rfl rfl (.inr ha) ?_ ro_stop
  refine ro_run tab_ok ha 4 [(3, _), (19, _), (20, _)] rfl ⟨rfl, rfl, rfl, trivial⟩ ?_
  refine ro_s2 rfl (qs_ldb fc Tryz.isAgg4 rfl rfl (by rfl)) rfl rfl ha ?_
  refine ro_run tab_ok ha 2 [(3, _), (19, _), (23, _)] rfl ⟨rfl, rfl, rfl, trivial⟩ ?_
  refine ro_split (t := 23) rfl (fun h2 => ?_) (fun h2 => ?_)
  ·refine ro_run tab_ok ha 1 [(19, _), (23, _), (24, _)] rfl ⟨rfl, rfl, rfl, trivial⟩ ?_
   refine ro_s2 rfl (qs_ldb fc Tryz.isAgg3 rfl rfl (by rfl)) rfl rfl ha ?_
   refine ro_op2 rfl (ot_c0 rfl rfl rfl Tryz.call113 ((fun w hw => cbelow ((fun w hw => int_any z w) w hw)))) rfl rfl (.inr fun _ => ha) (fun _ _ => ?_) ro_stop
   refine ro_run tab_ok ha 3 [(29, _)] rfl ⟨rfl, trivial⟩ ?_
   refine ro_end ?_
   rw [hq2]
   refine cw_cond rfl (fun h4 => ?_) (fun h4 => ?_)
   ·have hq3 : q = false := by simpa using h4
    subst hq3
    refine cw_seq ?_
    refine cw_region ?_
    refine rw_run tab_ok 1 [(4, _)] rfl ⟨rfl, trivial⟩ ?_
    refine rw_end ?_
    refine cw_ret (xw_thenr ?_)
    refine xw_ret1 Tryz.results237 (rv_tmp rfl) ?_
    intro w hw
    exact ⟨(), trivial, rfl, hw.msub ms⟩
   ·have hq3 : q = true := by simpa using h4
    subst hq3
    refine cw_skip (xw_then ?_)
    refine cw_seq ?_
    refine cw_region ?_
    refine rw_run tab_ok 1 [(4, _)] rfl ⟨rfl, trivial⟩ ?_
    refine rw_end ?_
    refine cw_ret ?_
    refine xw_ret1 Tryz.results237 (rv_tmp rfl) ?_
    intro w hw
    exact ⟨(), trivial, rfl, hw.msub ms⟩
  ·rw [hr] at h2
   cases h2
end
end Go.Proofs.YtmnkaalchcomlaaGreat
-- Ck2
/- Machines: what is right: entries of a place. -/
namespace Go.Proofs.YtmnkaalchcomlaaGreat
open Go.RowKit
def entIx (pc : Int) (es : List HEnt) : Option Nat := es.findIdx? fun x => decide (x.pc = pc)
def hent (l : List HEnt) (k : Nat) : HEnt := l.getD k ⟨0, .slice none 0 0⟩
theorem SF.hent {B : Nat} {w0 : World} {H : List Res} {A : Option Addr} {xs : List HEnt} {m c k : Nat} (hs : SF B w0 H A m c xs) (hk : k < m) : ∀ w, Cw B w0 H w → ∀ j v, ([.int .i64 (hent xs k).pc, (hent xs k).v] : List Value)[j]? = some v → w.cell? ⟨ab A, ao A + k * 2 + j, none⟩ = some v := fun w hw _ _ hv => SF.cell hs hk _ hv w hw
set_option maxRecDepth 100000 in
theorem entp_any (g : Nat) (pc q : Int) (v : Value) (w : World) (hlt : g < w.heap.size) (hc : w.cell? ⟨g, 0, none⟩ = some (.int .i64 pc)) :
  Calls Tryz.prog 253 #[.agg #[.int .i64 q, v], .pointer (some ⟨g, 0, none⟩)] w fun e w' => e = .returned (.bool (decide (q = pc))) ∧ Below w.heap.size w w' := by
 refine enter Tryz.func253 rfl Tryz.ntmps253 rfl ?_
 refine cw_seq ?_
 refine cw_region ?_
 refine rw_op (ot_box rfl rfl rfl) rfl rfl (fun g1 _ => ?_)
 refine rw_run tab_ok 1 [(1, _), (2, _)] rfl ⟨rfl, rfl, trivial⟩ ?_
 refine rw_end ?_
 refine cw_seq ?_
 refine cw_region ?_
 refine rw_run tab_ok 1 [(1, _), (4, _)] rfl ⟨rfl, rfl, trivial⟩ ?_
 refine rw_s (qs_ldb fc Tryz.isAgg3 rfl rfl (by rfl)) rfl rfl ?_
 refine rw_s (qs_ld (fun w' hw => (hw.below.cell hlt).trans hc) rfl rfl Tryz.isAgg3) rfl rfl ?_
 refine rw_run tab_ok 2 [(3, _)] rfl ⟨rfl, trivial⟩ ?_
 refine rw_end ?_
 refine cw_ret ?_
 refine xw_ret1 Tryz.results253 (rv_tmp rfl) ?_
 intro w hw
 exact ⟨rfl, hw.below⟩
set_option maxRecDepth 100000 in
theorem indexfE (A : Option Addr) (c : Nat) (es : List HEnt) (g : Nat) (pc : Int) (w : World) (hs : Sl w (.slice A es.length c) es) (hlt : g < w.heap.size) (hc : w.cell? ⟨g, 0, none⟩ = some (.int .i64 pc)) :
  Calls Tryz.prog 252 #[.slice A es.length c, .func (.func 253) #[] #[.pointer (some ⟨g, 0, none⟩)]] w fun e w' => ∃ r : Int, ((r = -1 ∧ ∀ i, i < es.length → (hent es i).pc ≠ pc) ∨ ∃ i : Nat, r = i ∧ i < es.length ∧ (hent es i).pc = pc ∧ ∀ j, j < i → (hent es j).pc ≠ pc) ∧ e = .returned (.int .i64 r) ∧ Cw w.heap.size w [] w' := by
 have b1 := len_bd hs
 refine enter Tryz.func252 rfl Tryz.ntmps252 rfl ?_
 refine cw_seq ?_
 refine cw_region ?_
 refine rw_run tab_ok 1 [(0, _), (1, _)] rfl ⟨rfl, rfl, trivial⟩ ?_
 refine rw_end ?_
 refine cw_seq ?_
 refine cw_seq ?_
 refine cw_region ?_
 refine rw_run tab_ok 1 [(0, _), (1, _), (6, _)] rfl ⟨rfl, rfl, rfl, trivial⟩ ?_
 refine rw_s (qs_len Tryz.underlying98 rfl rfl) rfl rfl ?_
 refine rw_run tab_ok 1 [(0, _), (1, _), (7, _), (8, _)] rfl ⟨rfl, rfl, rfl, rfl, trivial⟩ ?_
 refine rw_end ?_
 refine cw_block (cw_loop (fun k : Nat => k ≤ es.length ∧ ∀ j, j < k → (hent es j).pc ≠ pc) (fun k => es.length - k) (fun k => [(0, .slice A es.length c), (1, .func (.func 253) #[] #[.pointer (some ⟨g, 0, none⟩)]), (7, .int .i64 (es.length : Int)), (8, .int .i64 (k : Int))]) (fun _ => []) 0 (⟨Nat.zero_le _, fun _ h => absurd h (Nat.not_lt_zero _)⟩) ⟨rfl, rfl, rfl, rfl, trivial⟩ me ?_)
 rintro k hk'
 obtain ⟨hk, hno⟩ : k ≤ es.length ∧ ∀ j, j < k → (hent es j).pc ≠ pc := hk'
 refine cw_seq ?_
 refine cw_region ?_
 refine rw_run tab_ok 1 [(0, _), (1, _), (7, _), (8, _), (9, _)] rfl ⟨rfl, rfl, rfl, rfl, rfl, trivial⟩ ?_
 refine rw_end ?_
 refine cw_seq ?_
 refine cw_condD rfl (fun hlt' => ?_) (fun hlt' => ?_)
 ·have hkl : k < es.length := by omega
  refine cw_skip (xw_then ?_)
  refine cw_seq ?_
  refine cw_block ?_
  refine cw_seq ?_
  refine cw_region ?_
  refine rw_run tab_ok 2 [(0, _), (1, _), (5, _), (7, _), (8, _)] rfl ⟨rfl, rfl, rfl, rfl, rfl, trivial⟩ ?_
  refine rw_end ?_
  refine cw_seq ?_
  refine cw_region ?_
  refine rw_run tab_ok 3 [(0, _), (1, _), (5, _), (7, _), (8, _), (11, _), (12, _), (13, _)] rfl ⟨rfl, rfl, rfl, rfl, rfl, rfl, rfl, rfl, trivial⟩ ?_
  refine rw_s (qs_idx Tryz.underlying98 Tryz.sizeOf128 (.ro hs) (by omega) rfl rfl rfl) rfl rfl ?_
  refine rw_s (qs_ldA (SF.hent (SF.ro hs) hkl) rfl rfl Tryz.isAgg128 Tryz.sizeOf128) rfl rfl ?_
  refine rw_op (ot_c0K rfl rfl rfl Tryz.call253 (fun w hw => entp_any g pc _ _ w (Nat.lt_of_lt_of_le hlt hw.le) ((hw.below.cell hlt).trans hc))) rfl rfl (fun _ _ => ?_)
  refine rw_end ?_
  refine cw_condD rfl (fun hp => ?_) (fun hp => ?_)
  ·refine cw_seq ?_
   refine cw_region ?_
   refine rw_run tab_ok 2 [(4, _)] rfl ⟨rfl, trivial⟩ ?_
   refine rw_end ?_
   refine cw_ret (xw_blkr (xw_thenr (xw_thenr (xw_blkr (xw_thenr ?_)))))
   refine xw_ret1 Tryz.results252 (rv_tmp rfl) ?_
   intro w hw
   exact ⟨(k : Int), .inr ⟨k, rfl, hkl, hp, hno⟩, rfl, hw⟩
  ·refine cw_skip (xw_blkn (xw_then ?_))
   refine cw_region ?_
   refine rw_s (qs_add rfl rfl rfl (by omega)) rfl rfl ?_
   refine rw_run tab_ok 1 [(0, _), (1, _), (7, _), (8, _)] rfl ⟨rfl, rfl, rfl, rfl, trivial⟩ ?_
   refine rw_round (k + 1) (⟨by show k + 1 ≤ _; omega, fun j hj => (Nat.lt_or_ge j k).elim (hno j) (fun h => by obtain rfl : j = k := (by omega); exact hp)⟩) (by show _ - _ < _ - _; omega) ⟨rfl, rfl, rfl, rfl, trivial⟩ me
 ·obtain rfl : k = es.length := by omega
  refine cw_exit (xw_thenx (xw_thenx (xw_blk (xw_then ?_))))
  refine cw_seq ?_
  refine cw_region ?_
  refine rw_run tab_ok 1 [(4, _)] rfl ⟨rfl, trivial⟩ ?_
  refine rw_end ?_
  refine cw_ret ?_
  refine xw_ret1 Tryz.results252 (rv_tmp rfl) ?_
  intro w hw
  exact ⟨-1, .inl ⟨rfl, hno⟩, rfl, hw⟩
section
variable {B : Nat} {w0 : World} {H : List Res}
theorem pool_one {L : List (Value × List Int)} {v : Value} {xs : List Int} {w : World} (hi : InP L v xs) (h : Cw B w0 (RPool L :: H) w) : Cw B w0 (RRd v xs :: H) w := by
 rcases hi with ⟨rfl, rfl⟩ | hi
 ·exact h.upd fun F ho _ => ⟨fun _ => False, ⟨fun _ h => h.elim, fun _ _ => Sl.nil_⟩, rfl, rfl, rfl, Nat.le_refl _, fun _ _ _ => rfl, fun b hb => hb.elim⟩
 ·refine h.upd fun F ho _ => ?_
  obtain ⟨F', h5, h6⟩ := Hs.mem (List.mem_map_of_mem (f := fun p : Value × List Int => RRd p.1 p.2) hi) (show Hs w _ F from ho)
  exact ⟨F', h5, rfl, rfl, rfl, Nat.le_refl _, fun _ _ _ => rfl, fun b hb => .inl (h6 b hb)⟩
theorem rd_take {A : Option Addr} {m c k : Nat} {xs : List Int} {w : World} (hk : k ≤ m) (h : Cw B w0 (RRd (.slice A m c) xs :: H) w) : Cw B w0 (RRd (.slice A k c) (xs.take k) :: H) w := by
 refine h.upd fun F ho _ => ⟨F, ⟨ho.1, fun w' hw' => ?_⟩, rfl, rfl, rfl, Nat.le_refl _, fun _ _ _ => rfl, fun b hb => .inl hb⟩
 have := (ho.2 w' hw').cut 0 k (Nat.zero_le _) hk
 rw [cutA_0, Nat.sub_zero, Nat.sub_zero, List.drop_zero] at this
 exact this
theorem rd_nil {w : World} (h : Cw B w0 H w) : Cw B w0 (RRd (.slice none 0 0) ([] : List Int) :: H) w := pool_one InP.nil_ (pool_nil h)
end
theorem find_at {xs : List MEntry} {pc : Int} {i : Nat} (hi : i < xs.length) (h1 : xs[i].pc = pc) (h2 : ∀ j (_ : j < i) (h : j < xs.length), xs[j].pc ≠ pc) : (xs.find? fun e => decide (e.pc = pc)) = some xs[i] := by
 induction xs generalizing i with
 | nil => simp at hi
 | cons x xs ih =>
  cases i with
  | zero => rw [List.find?_cons_of_pos (by simpa using h1)]; rfl
  | succ i =>
   rw [List.find?_cons_of_neg (by have h3 := h2 0 (by omega) (by simp); rw [List.getElem_cons_zero] at h3; simpa using h3)]
   exact ih (by simpa using hi) h1 fun j hj h => h2 (j + 1) (by omega) (by simpa using h)
theorem find_no {xs : List MEntry} {pc : Int} (h2 : ∀ j (h : j < xs.length), xs[j].pc ≠ pc) : (xs.find? fun e => decide (e.pc = pc)) = none := by
 rw [List.find?_eq_none]
 intro e he
 obtain ⟨j, hj, rfl⟩ := List.getElem_of_mem he
 simpa using h2 j hj
theorem hent_eq {es : List HEnt} {i : Nat} (h : i < es.length) : hent es i = es[i] := by
 unfold hent
 rw [List.getD_eq_getElem?_getD, List.getElem?_eq_getElem h]
 rfl
set_option maxRecDepth 100000 in
set_option maxHeartbeats 1000000 in
theorem entry_any (Ap : Option Addr) (cp : Nat) (fs : List MFunc) (k : Nat) (pc : Int) (q : Option (List Int)) (hq : entF fs (fnAt fs k) pc = q) (w : World) (hs : Sl w (.slice Ap fs.length cp) fs) (hk : k < fs.length) (hok : FnOk fs (fnAt fs k)) (hn0 : 0 < (fnAt fs k).code.length) :
    Calls Tryz.prog 250 #[.agg #[.slice Ap fs.length cp], .int .i64 (k : Int), .int .i64 pc] w fun e w' => ∃ g : Option Addr × Nat, True ∧ e = .returned (.tuple #[.slice g.1 (q.getD []).length g.2, .bool q.isSome]) ∧
      Cw w.heap.size w [RRd (.slice g.1 (q.getD []).length g.2) (q.getD [])] w' := by
  refine enter Tryz.func250 rfl Tryz.ntmps250 rfl ?_
  refine cw_seq ?_
  refine cw_region ?_
  refine rw_op (ot_box rfl rfl rfl) rfl rfl (fun g1 _ => ?_)
  refine rw_op (ot_box rfl rfl rfl) rfl rfl (fun g2 _ => ?_)
  refine rw_run tab_ok 2 [(1, _), (3, _), (5, _)] rfl ⟨rfl, rfl, rfl, trivial⟩ ?_
  refine rw_end ?_
  refine cw_seq ?_
  refine cw_region ?_
  refine rw_s (qs_ldbA (vs := [_]) fc Tryz.isAgg24 Tryz.sizeOf24 rfl rfl (by rfl) rfl) rfl rfl ?_
  refine rw_run tab_ok 1 [(5, _), (12, _), (13, _)] rfl ⟨rfl, rfl, rfl, trivial⟩ ?_
  refine rw_op (ot_c rfl rfl rfl Tryz.call121 (fun w hw => entries_own Ap cp fs k w (hw.ro hs) hk hok hn0)) rfl rfl (fun ⟨⟨A1, c1⟩, es, L⟩ hre => ?_)
  try dsimp only
  refine rw_run tab_ok 5 [(5, _), (8, _)] rfl ⟨rfl, rfl, trivial⟩ ?_
  refine rw_end ?_
  refine cw_seq ?_
  refine cw_region ?_
  refine rw_run tab_ok 2 [(8, _), (17, _), (18, _)] rfl ⟨rfl, rfl, rfl, trivial⟩ ?_
  refine rw_op (ot_c rfl rfl rfl Tryz.call252 (fun w hw => indexfE A1 c1 es g2 pc w (SF.at_ (SF.own rfl fc) hw) (box_lt hw fc) (box_cell fc rfl w hw))) rfl rfl (fun r hr => ?_)
  refine rw_run tab_ok 1 [(8, _), (10, _)] rfl ⟨rfl, rfl, trivial⟩ ?_
  refine rw_end ?_
  refine cw_seq ?_
  refine cw_seq ?_
  refine cw_region ?_
  refine rw_run tab_ok 2 [(8, _), (10, _), (21, _)] rfl ⟨rfl, rfl, rfl, trivial⟩ ?_
  refine rw_end ?_
  have hre : RelE es L (entriesS fs (fnAt fs k)).1 := hre
  have hl := hre.len
  refine cw_condD rfl (fun h0 => ?_) (fun h0 => ?_)
  · have hq2 : q = none := by
      rcases hr with ⟨_, h⟩ | ⟨i, h, _⟩
      · rw [← hq]
        unfold entF
        rw [find_no (fun j hj => by have hj' : j < es.length := by omega
                                    have := h j hj'
                                    rw [hent_eq hj', (hre.el j hj' hj).1] at this
                                    exact this)]
        rfl
      · omega
    subst hq2
    refine cw_seq ?_
    refine cw_region ?_
    refine rw_run tab_ok 2 [(6, _), (7, _)] rfl ⟨rfl, rfl, trivial⟩ ?_
    refine rw_end ?_
    refine cw_ret (xw_thenr ?_)
    refine xw_ret2 Tryz.results250 (rv_tmp rfl) (rv_tmp rfl) ?_
    intro w hw
    exact ⟨(none, 0), trivial, rfl, (rd_nil hw).msub ms⟩
  · obtain ⟨i, hi, hlt, hpc, hno⟩ : ∃ i : Nat, r = i ∧ i < es.length ∧ (hent es i).pc = pc ∧ ∀ j, j < i → (hent es j).pc ≠ pc := hr.elim (fun h => by omega) id
    subst hi
    have hlt2 : i < (entriesS fs (fnAt fs k)).1.length := by omega
    obtain ⟨e1, e2⟩ := hre.el i hlt hlt2
    have hq2 : q = some (entriesS fs (fnAt fs k)).1[i].stack := by
      rw [← hq]
      unfold entF
      rw [find_at hlt2 (by rw [← e1, ← hent_eq hlt]; exact hpc) (fun j hj h => by have hj' : j < es.length := by omega
                                                                                  have := hno j hj
                                                                                  rw [hent_eq hj', (hre.el j hj' h).1] at this
                                                                                  exact this)]
      rfl
    subst hq2
    rw [← hent_eq hlt] at e2
    refine cw_skip (xw_then ?_)
    refine cw_seq ?_
    refine cw_region ?_
    refine rw_run tab_ok 2 [(22, _), (23, _)] rfl ⟨rfl, rfl, trivial⟩ ?_
    refine rw_s (qs_idx (k := i) Tryz.underlying98 Tryz.sizeOf128 (SF.own (xs := es) rfl fc) (by omega) rfl rfl rfl) rfl rfl ?_
    refine rw_run tab_ok 1 [(25, _)] rfl ⟨rfl, trivial⟩ ?_
    refine rw_s (qs_ld (fun w hw => SF.hent (SF.own (xs := es) rfl fc) hlt w hw 1 _ rfl) rfl rfl Tryz.isAgg27) rfl rfl ?_
    refine rw_run tab_ok 2 [(6, _), (7, _)] rfl ⟨rfl, rfl, trivial⟩ ?_
    refine rw_end ?_
    refine cw_ret ?_
    refine xw_ret2 Tryz.results250 (rv_tmp rfl) (rv_tmp rfl) ?_
    intro w hw
    obtain ⟨A5, c5, e5⟩ := e2.form hw fc
    rw [e5] at e2 ⊢
    exact ⟨(A5, c5), trivial, rfl, (pool_one e2 (hw.msub (T := RPool L :: []) ms)).msub ms⟩
end Go.Proofs.YtmnkaalchcomlaaGreat
-- Ck3
/- Machines: what is right: what the stack of a frame must be as. -/
namespace Go.Proofs.YtmnkaalchcomlaaGreat
open Go.RowKit
theorem behind_call {fs : List MFunc} (hF : Fitd fs) {k : Nat} (hk : k < fs.length) {pc to_ : Int} {t0 t : List Int} (hc : callAt (fnAt fs k) pc to_ = true) (h0 : entF fs (fnAt fs k) (pc - 1) = some t0) (h1 : entF fs (fnAt fs k) pc = some t) (hr : (fnAt fs to_.toNat).result ≠ 0) : 1 ≤ t.length := by
 unfold callAt at hc
 simp only [Bool.and_eq_true, decide_eq_true_eq] at hc
 obtain ⟨_, hcc, hca⟩ := hc
 obtain ⟨_, _, _, _, v0, hv0, hn0⟩ := (hF.e _ hk).at_ _ _ h0
 generalize opAt (fnAt fs k).code (pc - 1).toNat = oz at hcc hca hv0 hn0
 obtain ⟨t', ht', hle⟩ := hn0 pc (by simp [afterL, hcc])
 rw [h1] at ht'
 have ht' := Option.some.inj ht'
 subst ht'
 obtain ⟨T0, V0, e0, _, _, _, rfl⟩ := tryO_iff.1 hv0
 simp [tl, hcc] at e0
 obtain ⟨rfl, rfl⟩ := e0
 rw [hca] at hle
 unfold resultT at hle
 rw [if_neg hr] at hle
 have := (le_last hle).2.1
 omega
theorem callAt_eq {f : MFunc} {pc to_ : Int} : callAt f pc to_ = (within pc 1 f.code.length && (decide ((opAt f.code (pc - 1).toNat).c = 12) && decide ((opAt f.code (pc - 1).toNat).a = to_))) := rfl
section
variable {B : Nat} {w0 : World} {H : List Res}
set_option maxRecDepth 100000 in
set_option maxHeartbeats 4000000 in
theorem cwant_any (gc : Nat) (a : MA) (m : MMach) (Ap : Option Addr) (cp : Nat) (fs : List MFunc) (hs : SlB w0 B (.slice Ap fs.length cp) fs) (hm : MIn B w0 a m) (hF : Fitd fs) (i : Nat) (hi : i < m.frames.length) (hfn : ∀ x ∈ m.frames, 0 ≤ x.func ∧ x.func < fs.length) (q : Option (List Int)) (hq : wantS fs m.frames i = q) (w : World) (hw : Cw B w0 (RBox gc [.slice a.Af m.frames.length a.cf, .slice a.Ab m.blocks.length a.cb, .slice a.Ai m.inn.length a.ci, .slice a.Ao m.out.length a.co, .int .i64 m.status, .int .i64 m.trap, .slice Ap fs.length cp] 159 :: H) w) :
  Calls Tryz.prog 239 #[.pointer (some ⟨gc, 0, none⟩), .int .i64 (i : Int)] w fun e w' => ∃ g : Option Addr × Nat, True ∧ e = .returned (.tuple #[.slice g.1 (q.getD []).length g.2, .bool q.isSome]) ∧ Cw B w0 (RRd (.slice g.1 (q.getD []).length g.2) (q.getD []) :: RBox gc [.slice a.Af m.frames.length a.cf, .slice a.Ab m.blocks.length a.cb, .slice a.Ai m.inn.length a.ci, .slice a.Ao m.out.length a.co, .int .i64 m.status, .int .i64 m.trap, .slice Ap fs.length cp] 159 :: H) w' := by
 have bf := len_bd hm.f
 have bp := len_bd hs
 obtain ⟨A1, c1, A2, c2, hl, hst, hI, hcell⟩ := hm.f.fr hi
 have hx := hfn _ (frAt_mem hi)
 obtain ⟨kf, hkf⟩ : ∃ kf : Nat, (frAt m.frames i).func = kf := ⟨(frAt m.frames i).func.toNat, by omega⟩
 have hkl : kf < fs.length := by omega
 obtain ⟨hok, hn0⟩ := fn_ok hF.p hkl
 obtain ⟨F1, d1, F2, d2, hfl, hfc, hfi, hfcell⟩ := hs.fn hkl
 have bc := len_bd hfc
 have hff : frF fs m.frames i = fnAt fs kf := by unfold frF; rw [hkf, Int.toNat_natCast]
 obtain ⟨pc, hpc⟩ : ∃ pc, (frAt m.frames i).pc = pc := ⟨_, rfl⟩
 unfold wantS at hq
 rw [hff, hpc] at hq
 rw [hkf, hpc] at hcell
 rw [hpc] at hI
 obtain ⟨q1, hq1⟩ : ∃ q1, entF fs (fnAt fs kf) pc = q1 := ⟨_, rfl⟩
 rw [hq1] at hq
 refine enter_own Tryz.func239 rfl Tryz.ntmps239 rfl hw ?_
 refine cw_seq ?_
 refine cw_region ?_
 refine rw_run tab_ok 2 [(0, _), (1, _)] rfl ⟨rfl, rfl, trivial⟩ ?_
 refine rw_end ?_
 refine cw_seq ?_
 refine cw_region ?_
 refine rw_run tab_ok 4 [(0, _), (1, _), (16, _)] rfl ⟨rfl, rfl, rfl, trivial⟩ ?_
 refine rw_s (qs_ldb fc Tryz.isAgg25 rfl rfl (by rfl)) rfl rfl ?_
 refine rw_run tab_ok 1 [(0, _), (1, _), (17, _), (18, _)] rfl ⟨rfl, rfl, rfl, rfl, trivial⟩ ?_
 refine rw_s (qs_idx (k := i) Tryz.underlying25 Tryz.sizeOf66 (.ro hm.f) (by omega) rfl rfl rfl) rfl rfl ?_
 refine rw_s (qs_ldA (hcell _) rfl rfl Tryz.isAgg66 Tryz.sizeOf66) rfl rfl ?_
 refine rw_op (ot_alloc Tryz.zeroValue66 rfl rfl) rfl rfl (fun g1 _ => ?_)
 refine rw_op (ot_stb _ fc Tryz.sizeOf66 rfl rfl rfl rfl rfl (by rfl) rfl (by rfl)) rfl rfl (fun _ _ => ?_)
 refine rw_end ?_
 refine cw_seq ?_
 refine cw_draw (.still 0 (.still 1 (.still 2 (.still 3 (.still 4 (.still 5 (.still 6 (.still 7 (.pick 8 (.still 9 (.still 10 (.still 11 (.still 12 (.still 13 .done))))) .stop))))))))) [] rfl (by kernel_rfl) (by kernel_rfl) ?_
 refine ro_run tab_ok ha 3 [(0, _), (1, _), (6, _), (24, _)] rfl ⟨rfl, rfl, rfl, rfl, trivial⟩ ?_
 refine ro_s2 rfl (qs_ldbA (vs := [_]) fc Tryz.isAgg24 Tryz.sizeOf24 rfl rfl (by rfl) rfl) rfl rfl ha ?_
 refine ro_run tab_ok ha 1 [(0, _), (1, _), (6, _), (25, _), (26, _)] rfl ⟨rfl, rfl, rfl, rfl, rfl, trivial⟩ ?_
 refine ro_s2 rfl (qs_ldb fc Tryz.isAgg3 rfl rfl (by rfl)) rfl rfl ha ?_
 refine ro_run tab_ok ha 1 [(0, _), (1, _), (6, _), (25, _), (27, _), (28, _)] rfl ⟨rfl, rfl, rfl, rfl, rfl, rfl, trivial⟩ ?_
 refine ro_s2 rfl (qs_ldb fc Tryz.isAgg3 rfl rfl (by rfl)) rfl rfl ha ?_
 refine ro_op2 rfl (ot_c rfl rfl rfl Tryz.call250 (fun w hw => entry_any Ap cp fs kf pc q1 hq1 w (hw.ro hs) hkl hok hn0)) rfl rfl (.inr fun _ => ha) (fun ⟨A5, c5⟩ _ => ?_) ro_stop
 try dsimp only
 refine ro_run tab_ok ha 5 [(0, _), (1, _), (6, _), (7, _), (8, _)] rfl ⟨rfl, rfl, rfl, rfl, rfl, trivial⟩ ?_
 refine ro_end ?_
 refine cw_seq ?_
 refine cw_seq ?_
 refine cw_region ?_
 refine rw_run tab_ok 5 [(0, _), (1, _), (6, _), (7, _), (8, _), (33, _), (37, _)] rfl ⟨rfl, rfl, rfl, rfl, rfl, rfl, rfl, trivial⟩ ?_
 refine rw_s (qs_ldb fc Tryz.isAgg25 rfl rfl (by rfl)) rfl rfl ?_
 refine rw_s (qs_len Tryz.underlying25 rfl rfl) rfl rfl ?_
 refine rw_s (qs_sub rfl rfl rfl (by omega)) rfl rfl ?_
 refine rw_run tab_ok 1 [(0, _), (1, _), (6, _), (7, _), (8, _), (41, _)] rfl ⟨rfl, rfl, rfl, rfl, rfl, rfl, trivial⟩ ?_
 refine rw_end ?_
 refine cw_condD rfl (fun h1 => ?_) (fun h1 => ?_)
 ·rw [if_pos (show i + 1 = m.frames.length by omega)] at hq
  subst hq
  refine cw_seq ?_
  refine cw_region ?_
  refine rw_run tab_ok 4 [(4, _), (5, _)] rfl ⟨rfl, rfl, trivial⟩ ?_
  refine rw_end ?_
  refine cw_ret (xw_thenr ?_)
  refine xw_ret2 Tryz.results239 (rv_tmp rfl) (rv_tmp rfl) ?_
  intro w hw
  exact ⟨(A5, c5), trivial, rfl, hw.msub ms⟩
 ·rw [if_neg (show ¬ i + 1 = m.frames.length by omega)] at hq
  have hi2 : i + 1 < m.frames.length := by omega
  obtain ⟨A3, c3, A4, c4, hl2, hst2, hI2, hcell2⟩ := hm.f.fr hi2
  have hy := hfn _ (frAt_mem hi2)
  obtain ⟨ky, hky⟩ : ∃ ky : Nat, (frAt m.frames (i + 1)).func = ky := ⟨(frAt m.frames (i + 1)).func.toNat, by omega⟩
  have hkyl : ky < fs.length := by omega
  have hfy : frF fs m.frames (i + 1) = fnAt fs ky := by unfold frF; rw [hky, Int.toNat_natCast]
  rw [hky] at hcell2
  rw [hfy, hky] at hq
  refine cw_skip (xw_then ?_)
  refine cw_seq ?_
  refine cw_region ?_
  refine rw_run tab_ok 4 [(0, _), (1, _), (6, _), (7, _), (8, _), (47, _)] rfl ⟨rfl, rfl, rfl, rfl, rfl, rfl, trivial⟩ ?_
  refine rw_s (qs_ldb fc Tryz.isAgg25 rfl rfl (by rfl)) rfl rfl ?_
  refine rw_run tab_ok 1 [(0, _), (6, _), (7, _), (8, _), (48, _), (49, _)] rfl ⟨rfl, rfl, rfl, rfl, rfl, rfl, trivial⟩ ?_
  refine rw_s (qs_add rfl rfl rfl (by omega)) rfl rfl ?_
  refine rw_s (qs_idx (k := (i + 1)) Tryz.underlying25 Tryz.sizeOf66 (.ro hm.f) (by omega) rfl rfl rfl) rfl rfl ?_
  refine rw_run tab_ok 1 [(0, _), (6, _), (7, _), (8, _), (52, _)] rfl ⟨rfl, rfl, rfl, rfl, rfl, trivial⟩ ?_
  refine rw_s (qs_ld (fun w hw => hcell2 _ w hw 0 _ rfl) rfl rfl Tryz.isAgg3) rfl rfl ?_
  refine rw_run tab_ok 1 [(0, _), (6, _), (7, _), (8, _), (9, _)] rfl ⟨rfl, rfl, rfl, rfl, rfl, trivial⟩ ?_
  refine rw_end ?_
  refine cw_seq ?_
  refine cw_draw (.still 0 (.still 1 (.still 2 (.still 3 (.still 4 (.still 5 (.still 6 (.still 7 (.still 8 (.still 9 (.still 10 .done))))))))))) [] rfl (by kernel_rfl) (by kernel_rfl) ?_
  refine ro_run tab_ok ha 4 [(0, _), (6, _), (7, _), (8, _), (9, _), (57, _)] rfl ⟨rfl, rfl, rfl, rfl, rfl, rfl, trivial⟩ ?_
  refine ro_s2 rfl (qs_ldb fc Tryz.isAgg22 rfl rfl (by rfl)) rfl rfl ha ?_
  refine ro_run tab_ok ha 1 [(0, _), (6, _), (7, _), (8, _), (9, _), (58, _), (59, _)] rfl ⟨rfl, rfl, rfl, rfl, rfl, rfl, rfl, trivial⟩ ?_
  refine ro_s2 rfl (qs_ldb fc Tryz.isAgg3 rfl rfl (by rfl)) rfl rfl ha ?_
  refine ro_s2 rfl (qs_idx (k := kf) Tryz.underlying22 Tryz.sizeOf113 (.ro hs) (by omega) rfl rfl rfl) rfl rfl ha ?_
  refine ro_run tab_ok ha 1 [(0, _), (6, _), (7, _), (8, _), (9, _), (62, _)] rfl ⟨rfl, rfl, rfl, rfl, rfl, rfl, trivial⟩ ?_
  refine ro_s2 rfl (qs_ld (fun w hw => hfcell _ w hw 3 _ rfl) rfl rfl Tryz.isAgg111) rfl rfl ha ?_
  refine ro_run tab_ok ha 1 [(0, _), (6, _), (7, _), (8, _), (9, _), (10, _)] rfl ⟨rfl, rfl, rfl, rfl, rfl, rfl, trivial⟩ ?_
  refine ro_end ?_
  refine cw_seq ?_
  refine cw_seq ?_
  refine cw_region ?_
  refine rw_run tab_ok 1 [(0, _), (6, _), (7, _), (8, _), (9, _), (10, _), (64, _)] rfl ⟨rfl, rfl, rfl, rfl, rfl, rfl, rfl, trivial⟩ ?_
  refine rw_s (qs_ldb fc Tryz.isAgg3 rfl rfl (by rfl)) rfl rfl ?_
  refine rw_run tab_ok 1 [(0, _), (6, _), (7, _), (8, _), (9, _), (10, _), (65, _), (66, _)] rfl ⟨rfl, rfl, rfl, rfl, rfl, rfl, rfl, rfl, trivial⟩ ?_
  refine rw_s (qs_len Tryz.underlying111 rfl rfl) rfl rfl ?_
  refine rw_op (ot_c0 rfl rfl rfl Tryz.call162 (fun w hw => mwithin_any pc 1 (fnAt fs kf).code.length w)) rfl rfl (fun _ _ => ?_)
  refine rw_run tab_ok 2 [(0, _), (6, _), (7, _), (8, _), (9, _), (10, _), (70, _)] rfl ⟨rfl, rfl, rfl, rfl, rfl, rfl, rfl, trivial⟩ ?_
  refine rw_split (t := 70) rfl (fun h2 => ?_) (fun h2 => ?_)
  ·have hc : callAt (fnAt fs kf) pc ky = false := by
    rw [callAt_eq, show within pc 1 (fnAt fs kf).code.length = false from by simpa using h2]
    rfl
   rw [if_pos hc] at hq
   subst hq
   refine rw_run tab_ok 20 [(0, _), (6, _), (7, _), (8, _), (9, _), (90, _)] rfl ⟨rfl, rfl, rfl, rfl, rfl, rfl, trivial⟩ ?_
   refine rw_end ?_
   refine cw_cond_t rfl ?_
   refine cw_seq ?_
   refine cw_region ?_
   refine rw_run tab_ok 2 [(4, _), (5, _)] rfl ⟨rfl, rfl, trivial⟩ ?_
   refine rw_end ?_
   refine cw_ret (xw_thenr ?_)
   refine xw_ret2 Tryz.results239 (rv_tmp rfl) (rv_tmp rfl) ?_
   intro w hw
   exact ⟨(none, 0), trivial, rfl, (rd_nil hw).msub ms⟩
  ·have hw1 : within pc 1 (fnAt fs kf).code.length = true := by simpa using h2
   have hw2 := within_ok.1 hw1
   refine rw_run tab_ok 2 [(0, _), (6, _), (7, _), (8, _), (9, _), (10, _), (70, _), (71, _), (72, _)] rfl ⟨rfl, rfl, rfl, rfl, rfl, rfl, rfl, rfl, rfl, trivial⟩ ?_
   refine rw_s (qs_ldb fc Tryz.isAgg3 rfl rfl (by rfl)) rfl rfl ?_
   refine rw_s (qs_sub rfl rfl rfl (by omega)) rfl rfl ?_
   refine rw_s (qs_idxI Tryz.underlying111 Tryz.sizeOf51 (.ro hfc) (by omega) rfl rfl rfl) rfl rfl ?_
   refine rw_run tab_ok 1 [(0, _), (6, _), (7, _), (8, _), (9, _), (10, _), (70, _), (76, _)] rfl ⟨rfl, rfl, rfl, rfl, rfl, rfl, rfl, rfl, trivial⟩ ?_
   refine rw_s (qs_ld (SF.opc (.ro hfc) (by omega)) rfl rfl Tryz.isAgg3) rfl rfl ?_
   refine rw_run tab_ok 3 [(0, _), (6, _), (7, _), (8, _), (9, _), (10, _), (80, _)] rfl ⟨rfl, rfl, rfl, rfl, rfl, rfl, rfl, trivial⟩ ?_
   refine rw_split (t := 80) rfl (fun h3 => ?_) (fun h3 => ?_)
   ·have hc : callAt (fnAt fs kf) pc ky = false := by
     have h3 : decide ((opAt (fnAt fs kf).code (pc - 1).toNat).c = 12) = false := by simpa using h3
     rw [callAt_eq, h3]
     simp
    rw [if_pos hc] at hq
    subst hq
    refine rw_run tab_ok 10 [(0, _), (6, _), (7, _), (8, _), (9, _), (90, _)] rfl ⟨rfl, rfl, rfl, rfl, rfl, rfl, trivial⟩ ?_
    refine rw_end ?_
    refine cw_cond_t rfl ?_
    refine cw_seq ?_
    refine cw_region ?_
    refine rw_run tab_ok 2 [(4, _), (5, _)] rfl ⟨rfl, rfl, trivial⟩ ?_
    refine rw_end ?_
    refine cw_ret (xw_thenr ?_)
    refine xw_ret2 Tryz.results239 (rv_tmp rfl) (rv_tmp rfl) ?_
    intro w hw
    exact ⟨(none, 0), trivial, rfl, (rd_nil hw).msub ms⟩
   ·have h3 : decide ((opAt (fnAt fs kf).code (pc - 1).toNat).c = 12) = true := by simpa using h3
    refine rw_run tab_ok 2 [(0, _), (6, _), (7, _), (8, _), (9, _), (80, _), (81, _), (82, _)] rfl ⟨rfl, rfl, rfl, rfl, rfl, rfl, rfl, rfl, trivial⟩ ?_
    refine rw_s (qs_ldb fc Tryz.isAgg3 rfl rfl (by rfl)) rfl rfl ?_
    refine rw_s (qs_sub rfl rfl rfl (by omega)) rfl rfl ?_
    refine rw_s (qs_idxI Tryz.underlying111 Tryz.sizeOf51 (.ro hfc) (by omega) rfl rfl rfl) rfl rfl ?_
    refine rw_run tab_ok 1 [(0, _), (6, _), (7, _), (8, _), (9, _), (80, _), (86, _)] rfl ⟨rfl, rfl, rfl, rfl, rfl, rfl, rfl, trivial⟩ ?_
    refine rw_s (qs_ld (SF.opa (.ro hfc) (by omega)) rfl rfl Tryz.isAgg3) rfl rfl ?_
    refine rw_run tab_ok 3 [(0, _), (6, _), (7, _), (8, _), (9, _), (90, _)] rfl ⟨rfl, rfl, rfl, rfl, rfl, rfl, trivial⟩ ?_
    refine rw_end ?_
    refine cw_condN rfl (fun h4 => ?_) (fun h4 => ?_)
    ·have hc : callAt (fnAt fs kf) pc ky = false := by
      rw [callAt_eq, decide_eq_false (p := (opAt (fnAt fs kf).code (pc - 1).toNat).a = ky) h4]
      simp
     rw [if_pos hc] at hq
     subst hq
     refine cw_seq ?_
     refine cw_region ?_
     refine rw_run tab_ok 2 [(4, _), (5, _)] rfl ⟨rfl, rfl, trivial⟩ ?_
     refine rw_end ?_
     refine cw_ret (xw_thenr ?_)
     refine xw_ret2 Tryz.results239 (rv_tmp rfl) (rv_tmp rfl) ?_
     intro w hw
     exact ⟨(none, 0), trivial, rfl, (rd_nil hw).msub ms⟩
    ·have hc : callAt (fnAt fs kf) pc ky = true := by
      rw [callAt_eq, hw1, h3, decide_eq_true (p := (opAt (fnAt fs kf).code (pc - 1).toNat).a = ky) h4]
      rfl
     rw [if_neg (by rw [hc]; decide)] at hq
     obtain ⟨q0, hq0⟩ : ∃ q0, entF fs (fnAt fs kf) (pc - 1) = q0 := ⟨_, rfl⟩
     rw [hq0] at hq
     refine cw_skip (xw_then ?_)
     refine cw_seq ?_
     refine cw_seq ?_
     refine cw_draw (.still 0 (.still 1 (.still 2 (.still 3 (.still 4 (.still 5 (.still 6 (.still 7 (.still 8 (.pick 9 (.still 10 (.still 11 (.still 12 (.still 13 (.still 14 .done))))) .stop)))))))))) [] rfl (by kernel_rfl) (by kernel_rfl) ?_
     refine ro_run tab_ok ha 3 [(0, _), (6, _), (7, _), (8, _), (9, _), (94, _)] rfl ⟨rfl, rfl, rfl, rfl, rfl, rfl, trivial⟩ ?_
     refine ro_s2 rfl (qs_ldbA (vs := [_]) fc Tryz.isAgg24 Tryz.sizeOf24 rfl rfl (by rfl) rfl) rfl rfl ha ?_
     refine ro_run tab_ok ha 1 [(0, _), (6, _), (7, _), (8, _), (9, _), (95, _), (96, _)] rfl ⟨rfl, rfl, rfl, rfl, rfl, rfl, rfl, trivial⟩ ?_
     refine ro_s2 rfl (qs_ldb fc Tryz.isAgg3 rfl rfl (by rfl)) rfl rfl ha ?_
     refine ro_run tab_ok ha 1 [(0, _), (7, _), (8, _), (9, _), (95, _), (97, _), (98, _)] rfl ⟨rfl, rfl, rfl, rfl, rfl, rfl, rfl, trivial⟩ ?_
     refine ro_s2 rfl (qs_ldb fc Tryz.isAgg3 rfl rfl (by rfl)) rfl rfl ha ?_
     refine ro_s2 rfl (qs_sub rfl rfl rfl (by omega)) rfl rfl ha ?_
     refine ro_op2 rfl (ot_c rfl rfl rfl Tryz.call250 (fun w hw => entry_any Ap cp fs kf (pc - 1) q0 hq0 w (hw.ro hs) hkl hok hn0)) rfl rfl (.inr fun _ => ha) (fun ⟨A6, c6⟩ _ => ?_) ro_stop
     try dsimp only
     refine ro_run tab_ok ha 5 [(0, _), (7, _), (8, _), (9, _), (12, _)] rfl ⟨rfl, rfl, rfl, rfl, rfl, trivial⟩ ?_
     refine ro_end ?_
     refine cw_seq ?_
     refine cw_region ?_
     refine rw_run tab_ok 3 [(0, _), (7, _), (8, _), (9, _), (106, _)] rfl ⟨rfl, rfl, rfl, rfl, rfl, trivial⟩ ?_
     refine rw_split (t := 106) rfl (fun h5 => ?_) (fun h5 => ?_)
     ·have h5 : q0.isSome = false := by simpa using h5
      rw [if_pos h5] at hq
      subst hq
      refine rw_run tab_ok 3 [(0, _), (7, _), (9, _), (109, _)] rfl ⟨rfl, rfl, rfl, rfl, trivial⟩ ?_
      refine rw_end ?_
      refine cw_cond_t rfl ?_
      refine cw_seq ?_
      refine cw_region ?_
      refine rw_run tab_ok 2 [(4, _), (5, _)] rfl ⟨rfl, rfl, trivial⟩ ?_
      refine rw_end ?_
      refine cw_ret (xw_thenr ?_)
      refine xw_ret2 Tryz.results239 (rv_tmp rfl) (rv_tmp rfl) ?_
      intro w hw
      exact ⟨(none, 0), trivial, rfl, (rd_nil hw).msub ms⟩
     ·have h5 : q0.isSome = true := by simpa using h5
      rw [if_neg (by rw [h5]; decide)] at hq
      refine rw_run tab_ok 3 [(0, _), (7, _), (9, _), (109, _)] rfl ⟨rfl, rfl, rfl, rfl, trivial⟩ ?_
      refine rw_end ?_
      refine cw_cond rfl (fun h6 => ?_) (fun h6 => ?_)
      ·have h6 : q1 = none := by simpa using h6
       subst h6
       have hq : none = q := hq
       subst hq
       refine cw_seq ?_
       refine cw_region ?_
       refine rw_run tab_ok 2 [(4, _), (5, _)] rfl ⟨rfl, rfl, trivial⟩ ?_
       refine rw_end ?_
       refine cw_ret (xw_thenr ?_)
       refine xw_ret2 Tryz.results239 (rv_tmp rfl) (rv_tmp rfl) ?_
       intro w hw
       exact ⟨(none, 0), trivial, rfl, (rd_nil hw).msub ms⟩
      ·obtain ⟨t, rfl⟩ : ∃ t, q1 = some t := by cases q1 with
        | none => simp at h6
        | some t => exact ⟨t, rfl⟩
       obtain ⟨t0, rfl⟩ : ∃ t0, q0 = some t0 := by cases q0 with
        | none => simp at h5
        | some t0 => exact ⟨t0, rfl⟩
       obtain ⟨G1, b1, G2, b2, hgl, hgc, hgi, hgcell⟩ := hs.fn hkyl
       have hq : some (if (fnAt fs ky).result ≠ 0 then t.dropLast else t) = q := hq
       subst hq
       refine cw_skip (xw_then ?_)
       refine cw_seq ?_
       refine cw_seq ?_
       refine cw_region ?_
       refine rw_run tab_ok 4 [(7, _), (9, _), (113, _)] rfl ⟨rfl, rfl, rfl, trivial⟩ ?_
       refine rw_s (qs_ldb fc Tryz.isAgg22 rfl rfl (by rfl)) rfl rfl ?_
       refine rw_run tab_ok 1 [(7, _), (114, _), (115, _)] rfl ⟨rfl, rfl, rfl, trivial⟩ ?_
       refine rw_s (qs_idx (k := ky) Tryz.underlying22 Tryz.sizeOf113 (.ro hs) (by omega) rfl rfl rfl) rfl rfl ?_
       refine rw_run tab_ok 1 [(7, _), (117, _)] rfl ⟨rfl, rfl, trivial⟩ ?_
       refine rw_s (qs_ld (fun w hw => hgcell _ w hw 2 _ rfl) rfl rfl Tryz.isAgg3) rfl rfl ?_
       refine rw_run tab_ok 1 [(7, _), (119, _)] rfl ⟨rfl, rfl, trivial⟩ ?_
       refine rw_end ?_
       refine cw_condN rfl (fun h7 => ?_) (fun h7 => ?_)
       ·have hone := behind_call hF hkl hc hq0 hq1 (by rw [Int.toNat_natCast]; exact h7)
        rw [if_pos h7, List.dropLast_eq_take]
        refine cw_fact (fun w hw => (hw.rdSl (v := .slice A5 t.length c5) (xs := t) fc).form) ?_
        rintro ⟨_, _, e, hle, _⟩
        injection e with _ _ e
        have ht8 := ((hF.e _ hkl).at_ _ _ hq1).2.2.1
        refine cw_as (t := 7) (v' := .slice A5 t.length c5) rfl (rfl) ?_
        refine cw_region ?_
        refine rw_run tab_ok 2 [(120, _), (121, _)] rfl ⟨rfl, rfl, trivial⟩ ?_
        refine rw_s (qs_len Tryz.underlying27 rfl rfl) rfl rfl ?_
        refine rw_s (qs_sub rfl rfl rfl (by omega)) rfl rfl ?_
        refine rw_as (t := 123) (v' := .int .i64 ((t.length - 1 : Nat) : Int)) rfl (by show Value.int _ ((t.length : Int) - 1) = _; congr 1; omega) ?_
        refine rw_s (qs_to (k := t.length - 1) Tryz.underlying27 Tryz.sizeOf3 (by omega) rfl rfl rfl) rfl rfl ?_
        refine rw_run tab_ok 1 [(7, _)] rfl ⟨rfl, trivial⟩ ?_
        refine rw_end ?_
        refine cw_seq ?_
        refine cw_region ?_
        refine rw_run tab_ok 3 [(4, _), (5, _)] rfl ⟨rfl, rfl, trivial⟩ ?_
        refine rw_end ?_
        refine cw_ret ?_
        refine xw_ret2 Tryz.results239 (rv_tmp rfl) (rv_tmp rfl) ?_
        intro w hw
        have hlt : (t.take (t.length - 1)).length = t.length - 1 := by rw [List.length_take]; omega
        refine ⟨(A5, c5), trivial, by show _ = Ending.returned (.tuple #[.slice A5 (t.take (t.length - 1)).length c5, .bool true]); rw [hlt], ?_⟩
        show Cw B w0 (RRd (.slice A5 (t.take (t.length - 1)).length c5) (t.take (t.length - 1)) :: _ :: H) w
        rw [hlt]
        exact (rd_take (k := t.length - 1) (by omega) (hw.msub (T := RRd (.slice A5 t.length c5) t :: RBox gc [.slice a.Af m.frames.length a.cf, .slice a.Ab m.blocks.length a.cb, .slice a.Ai m.inn.length a.ci, .slice a.Ao m.out.length a.co, .int .i64 m.status, .int .i64 m.trap, .slice Ap fs.length cp] 159 :: H) ms)).msub ms
       ·rw [if_neg (fun h => h h7)]
        refine cw_skip (xw_then ?_)
        refine cw_seq ?_
        refine cw_region ?_
        refine rw_run tab_ok 3 [(4, _), (5, _)] rfl ⟨rfl, rfl, trivial⟩ ?_
        refine rw_end ?_
        refine cw_ret ?_
        refine xw_ret2 Tryz.results239 (rv_tmp rfl) (rv_tmp rfl) ?_
        intro w hw
        exact ⟨(A5, c5), trivial, rfl, hw.msub ms⟩
end
end Go.Proofs.YtmnkaalchcomlaaGreat
-- Ck4
/- Machines: what is right: a frame. -/
namespace Go.Proofs.YtmnkaalchcomlaaGreat
open Go.RowKit
theorem flat_take {α : Type} {L : List (List α)} {k : Nat} (hk : k < L.length) : (L.take (k + 1)).flatten = (L.take k).flatten ++ L.getD k [] := by
 rw [take_snoc L k [] hk, List.flatten_append]
 simp
theorem flat_len_le {α : Type} (L : List (List α)) (k : Nat) : (L.take k).flatten.length ≤ L.flatten.length := by
 rw [← congrArg List.length (congrArg List.flatten (List.take_append_drop k L)), List.flatten_append, List.length_append]
 omega
set_option maxRecDepth 100000 in
set_option maxHeartbeats 1000000 in
theorem concat_any (g n : Nat) (hd : Nat → Option Addr × Nat) (L : List (List MVal)) (hn : L.length = n) (w : World) (hlt : g < w.heap.size) (hc : ∀ k, k < n → w.cell? ⟨g, 0 + k * 1, none⟩ = some (.slice (hd k).1 (L.getD k []).length (hd k).2))
  (hs : ∀ k, k < n → Sl w (.slice (hd k).1 (L.getD k []).length (hd k).2) (L.getD k [])) (hb : L.flatten.length * 16 ≤ 140737488355328) (hn' : n ≤ 1000) :
  Calls Tryz.prog 236 #[.slice (some ⟨g, 0, none⟩) n n] w fun e w' => ∃ u, e = .returned u ∧ Below w.heap.size w w' ∧ OwN w' w.heap.size u L.flatten := by
 subst hn
 have hfl := flat_len_le L
 refine enter Tryz.func236 rfl Tryz.ntmps236 rfl ?_
 refine cw_seq ?_
 refine cw_region ?_
 refine rw_run tab_ok 1 [(0, _)] rfl ⟨rfl, trivial⟩ ?_
 refine rw_end ?_
 refine cw_seq ?_
 refine cw_region ?_
 refine rw_run tab_ok 1 [(0, _), (3, _)] rfl ⟨rfl, rfl, trivial⟩ ?_
 refine rw_end ?_
 refine cw_seq ?_
 refine cw_seq ?_
 refine cw_region ?_
 refine rw_run tab_ok 1 [(0, _), (3, _), (9, _)] rfl ⟨rfl, rfl, rfl, trivial⟩ ?_
 refine rw_s (qs_len Tryz.underlying209 rfl rfl) rfl rfl ?_
 refine rw_run tab_ok 1 [(0, _), (3, _), (9, _), (10, _), (11, _)] rfl ⟨rfl, rfl, rfl, rfl, rfl, trivial⟩ ?_
 refine rw_end ?_
 refine cw_block (cw_loop (fun k : Nat => k ≤ L.length) (fun k => L.length - k) (fun k => [(0, .slice (some ⟨g, 0, none⟩) L.length L.length), (3, .int .i64 ((L.take k).flatten.length : Int)), (9, .slice (some ⟨g, 0, none⟩) L.length L.length), (10, .int .i64 (L.length : Int)), (11, .int .i64 (k : Int))]) (fun _ => []) 0 (Nat.zero_le _) ⟨rfl, rfl, rfl, rfl, rfl, trivial⟩ me ?_)
 rintro k hk
 have hk : k ≤ L.length := hk
 refine cw_seq ?_
 refine cw_region ?_
 refine rw_run tab_ok 1 [(0, _), (3, _), (9, _), (10, _), (11, _), (12, _)] rfl ⟨rfl, rfl, rfl, rfl, rfl, rfl, trivial⟩ ?_
 refine rw_end ?_
 refine cw_seq ?_
 refine cw_condD rfl (fun h1 => ?_) (fun h1 => ?_)
 ·have hkn : k < L.length := by omega
  have hft := congrArg List.length (flat_take (L := L) (k := k) (by omega))
  rw [List.length_append] at hft
  have hfk := hfl (k + 1)
  refine cw_skip (xw_then ?_)
  refine cw_seq ?_
  refine cw_block ?_
  refine cw_seq ?_
  refine cw_region ?_
  refine rw_s (qs_idxP (k := k) Tryz.underlying209 Tryz.sizeOf64 rfl hkn rfl rfl rfl) rfl rfl ?_
  refine rw_s (qs_ld (fun w' hw => (hw.below.cell hlt).trans (hc k hkn)) rfl rfl Tryz.isAgg64) rfl rfl ?_
  refine rw_run tab_ok 1 [(0, _), (3, _), (5, _), (9, _), (10, _), (11, _)] rfl ⟨rfl, rfl, rfl, rfl, rfl, rfl, trivial⟩ ?_
  refine rw_end ?_
  refine cw_seq ?_
  refine cw_region ?_
  refine rw_run tab_ok 2 [(0, _), (9, _), (10, _), (11, _), (15, _), (16, _)] rfl ⟨rfl, rfl, rfl, rfl, rfl, rfl, trivial⟩ ?_
  refine rw_s (qs_len Tryz.underlying64 rfl rfl) rfl rfl ?_
  refine rw_s (qs_add rfl rfl rfl (by omega)) rfl rfl ?_
  refine rw_run tab_ok 1 [(0, _), (3, _), (9, _), (10, _), (11, _)] rfl ⟨rfl, rfl, rfl, rfl, rfl, trivial⟩ ?_
  refine rw_end ?_
  refine cw_seq ?_
  refine cw_region ?_
  refine rw_run tab_ok 2 [(0, _), (3, _), (9, _), (10, _), (11, _), (20, _)] rfl ⟨rfl, rfl, rfl, rfl, rfl, rfl, trivial⟩ ?_
  refine rw_end ?_
  refine cw_condD rfl (fun h2 => ?_) (fun h2 => ?_)
  ·exact absurd h2 (by omega)
  ·refine cw_as (t := 3) (v' := .int .i64 ((L.take (k + 1)).flatten.length : Int)) rfl (by congr 1; omega) ?_
   refine cw_skip (xw_blkn (xw_then ?_))
   refine cw_region ?_
   refine rw_s (qs_add rfl rfl rfl (by omega)) rfl rfl ?_
   refine rw_run tab_ok 1 [(0, _), (3, _), (9, _), (10, _), (11, _)] rfl ⟨rfl, rfl, rfl, rfl, rfl, trivial⟩ ?_
   refine rw_round (k + 1) (by show k + 1 ≤ _; omega) (by show _ - _ < _ - _; omega) ⟨rfl, rfl, rfl, rfl, rfl, trivial⟩ me
 ·obtain rfl : k = L.length := by omega
  rw [List.take_length]
  refine cw_exit (xw_thenx (xw_thenx (xw_blk (xw_then ?_))))
  refine cw_seq ?_
  refine cw_region ?_
  refine rw_run tab_ok 1 [(0, _), (23, _)] rfl ⟨rfl, rfl, trivial⟩ ?_
  refine rw_op (ot_c rfl rfl rfl Tryz.call249 (fun w hw => growV_any L.flatten.length hb w)) rfl rfl (fun ⟨A2, c2⟩ _ => ?_)
  try dsimp only
  refine rw_run tab_ok 1 [(0, _), (6, _)] rfl ⟨rfl, rfl, trivial⟩ ?_
  refine rw_end ?_
  refine cw_seq ?_
  refine cw_seq ?_
  refine cw_region ?_
  refine rw_run tab_ok 1 [(6, _), (25, _)] rfl ⟨rfl, rfl, trivial⟩ ?_
  refine rw_s (qs_len Tryz.underlying209 rfl rfl) rfl rfl ?_
  refine rw_run tab_ok 1 [(6, _), (25, _), (26, _), (27, _)] rfl ⟨rfl, rfl, rfl, rfl, trivial⟩ ?_
  refine rw_end ?_
  refine cw_block (cw_loop (fun g : Nat × Option Addr × Nat => g.1 ≤ L.length) (fun g => L.length - g.1) (fun q => [(6, .slice q.2.1 (L.take q.1).flatten.length q.2.2), (25, .slice (some ⟨g, 0, none⟩) L.length L.length), (26, .int .i64 (L.length : Int)), (27, .int .i64 (q.1 : Int))]) (fun q => [ROw (.slice q.2.1 (L.take q.1).flatten.length q.2.2) (L.take q.1).flatten]) (0, A2, c2) (Nat.zero_le _) ⟨rfl, rfl, rfl, rfl, trivial⟩ me ?_)
  rintro ⟨k, A3, c3⟩ hk
  try dsimp only
  have hk : k ≤ L.length := hk
  refine cw_seq ?_
  refine cw_region ?_
  refine rw_run tab_ok 1 [(6, _), (25, _), (26, _), (27, _), (28, _)] rfl ⟨rfl, rfl, rfl, rfl, rfl, trivial⟩ ?_
  refine rw_end ?_
  refine cw_seq ?_
  refine cw_condD rfl (fun h1 => ?_) (fun h1 => ?_)
  ·have hkn : k < L.length := by omega
   have hft := flat_take (L := L) (k := k) (by omega)
   have hft2 := congrArg List.length hft
   rw [List.length_append] at hft2
   have hfk := hfl (k + 1)
   refine cw_skip (xw_then ?_)
   refine cw_seq ?_
   refine cw_block ?_
   refine cw_seq ?_
   refine cw_region ?_
   refine rw_s (qs_idxP (k := k) Tryz.underlying209 Tryz.sizeOf64 rfl hkn rfl rfl rfl) rfl rfl ?_
   refine rw_s (qs_ld (fun w' hw => (hw.below.cell hlt).trans (hc k hkn)) rfl rfl Tryz.isAgg64) rfl rfl ?_
   refine rw_run tab_ok 1 [(6, _), (8, _), (25, _), (26, _), (27, _)] rfl ⟨rfl, rfl, rfl, rfl, rfl, trivial⟩ ?_
   refine rw_end ?_
   refine cw_region ?_
   refine rw_run tab_ok 2 [(25, _), (26, _), (27, _), (31, _), (32, _)] rfl ⟨rfl, rfl, rfl, rfl, rfl, trivial⟩ ?_
   refine rw_op (ot_appS (α := MVal) (bytes := 16) (xs := (L.take k).flatten) (ys := L.getD k []) hft Tryz.underlying64 (info_ex Tryz.inVal) rfl fc (.ro (hs k hkn)) (by omega) (by omega) rfl rfl rfl) rfl rfl (fun ⟨A5, c5⟩ _ => ?_)
   try dsimp only
   refine rw_run tab_ok 1 [(6, _), (25, _), (26, _), (27, _)] rfl ⟨rfl, rfl, rfl, rfl, trivial⟩ ?_
   refine rw_endx (xw_blkn (xw_then ?_))
   refine cw_region ?_
   refine rw_s (qs_add rfl rfl rfl (by omega)) rfl rfl ?_
   refine rw_run tab_ok 1 [(6, _), (25, _), (26, _), (27, _)] rfl ⟨rfl, rfl, rfl, rfl, trivial⟩ ?_
   refine rw_round (k + 1, A5, c5) (by show k + 1 ≤ _; omega) (by show _ - _ < _ - _; omega) ⟨rfl, rfl, rfl, rfl, trivial⟩ me
  ·obtain rfl : k = L.length := by omega
   rw [List.take_length]
   refine cw_exit (xw_thenx (xw_thenx (xw_blk (xw_then ?_))))
   refine cw_seq ?_
   refine cw_region ?_
   refine rw_run tab_ok 2 [(2, _)] rfl ⟨rfl, trivial⟩ ?_
   refine rw_end ?_
   refine cw_ret ?_
   refine xw_ret1 Tryz.results236 (rv_tmp rfl) ?_
   intro w hw
   exact ⟨_, rfl, own_ret hw⟩
end Go.Proofs.YtmnkaalchcomlaaGreat
-- Ck5
/- Machines: what is right: a frame, checked. -/
namespace Go.Proofs.YtmnkaalchcomlaaGreat
open Go.RowKit
theorem any_bad {nb : Nat} {l : List MVal} {k : Nat} (hk : k < l.length) (h : valB nb (l.getD k default) = false) : l.any (fun v => !valB nb v) = true := List.any_eq_true.2 ⟨_, getD_mem hk, by rw [h]; rfl⟩
theorem any_good {nb : Nat} {l : List MVal} (h : ∀ j, j < l.length → valB nb (l.getD j default) = true) : ¬ l.any (fun v => !valB nb v) = true := fun ha => by
 obtain ⟨v, hv, h2⟩ := List.any_eq_true.1 ha
 obtain ⟨j, hj, rfl⟩ := List.getElem_of_mem hv
 have := h j hj
 rw [List.getD_eq_getElem?_getD, List.getElem?_eq_getElem hj, Option.getD_some] at this
 rw [this] at h2
 cases h2
theorem asL_bad {s : List MVal} {t : List Int} {n k : Nat} (hk : k < n) (h : asB (s.getD k default) (t.getD k 0) = false) : asL s t n = false := by
 cases e : asL s t n with
 | false => rfl
 | true => rw [asL_iff.1 e k hk] at h; cases h
section
variable {B : Nat} {w0 : World} {H : List Res}
set_option maxRecDepth 100000 in
set_option maxHeartbeats 4000000 in
theorem cframe_any (gc : Nat) (a : MA) (m : MMach) (Ap : Option Addr) (cp : Nat) (fs : List MFunc) (hs : SlB w0 B (.slice Ap fs.length cp) fs) (hm : MIn B w0 a m) (hF : Fitd fs) (hfit : FitF m.frames) (i : Nat) (hi : i < m.frames.length) (hfn : ∀ x ∈ m.frames, 0 ≤ x.func ∧ x.func < fs.length) (E : Int) (hE : frameE fs m.blocks.length m.frames i = E) (w : World) (hw : Cw B w0 (RBox gc [.slice a.Af m.frames.length a.cf, .slice a.Ab m.blocks.length a.cb, .slice a.Ai m.inn.length a.ci, .slice a.Ao m.out.length a.co, .int .i64 m.status, .int .i64 m.trap, .slice Ap fs.length cp] 159 :: H) w) :
  Calls Tryz.prog 204 #[.pointer (some ⟨gc, 0, none⟩), .int .i64 (i : Int)] w fun e w' => ∃ _ : Unit, True ∧ e = .returned (.int .i64 E) ∧ Cw B w0 (RBox gc [.slice a.Af m.frames.length a.cf, .slice a.Ab m.blocks.length a.cb, .slice a.Ai m.inn.length a.ci, .slice a.Ao m.out.length a.co, .int .i64 m.status, .int .i64 m.trap, .slice Ap fs.length cp] 159 :: H) w' := by
 have bf := len_bd hm.f
 have bp := len_bd hs
 obtain ⟨A1, c1, A2, c2, hl, hst, hI, hcell⟩ := hm.f.fr hi
 obtain ⟨hb1, hb2⟩ := hfit.2 (frAt m.frames i) (frAt_mem hi)
 have hx := hfn _ (frAt_mem hi)
 obtain ⟨kf, hkf⟩ : ∃ kf : Nat, (frAt m.frames i).func = kf := ⟨(frAt m.frames i).func.toNat, by omega⟩
 have hkl : kf < fs.length := by omega
 obtain ⟨hok, hn0⟩ := fn_ok hF.p hkl
 obtain ⟨F1, d1, F2, d2, hfl, hfc, hfi, hfcell⟩ := hs.fn hkl
 have hfl6 : (fnAt fs kf).locals.length ≤ 6 := (hok.op 0 hn0).par kf hkl |>.2
 have hff : frF fs m.frames i = fnAt fs kf := by unfold frF; rw [hkf, Int.toNat_natCast]
 unfold frameE at hE
 rw [hff] at hE
 rw [hkf] at hcell
 obtain ⟨q, hq⟩ : ∃ q, wantS fs m.frames i = q := ⟨_, rfl⟩
 rw [hq] at hE
 generalize fnAt fs kf = f at hE hfl hfc hfi hfcell hfl6
 generalize frAt m.frames i = x at hE hl hst hI hcell hb1 hb2
 have bx1 := len_bd hl
 have bx2 := len_bd hst
 refine enter_own Tryz.func204 rfl Tryz.ntmps204 rfl hw ?_
 refine cw_seq ?_
 refine cw_region ?_
 refine rw_run tab_ok 1 [(0, _), (1, _)] rfl ⟨rfl, rfl, trivial⟩ ?_
 refine rw_end ?_
 refine cw_seq ?_
 refine cw_region ?_
 refine rw_run tab_ok 4 [(0, _), (1, _), (19, _)] rfl ⟨rfl, rfl, rfl, trivial⟩ ?_
 refine rw_s (qs_ldb fc Tryz.isAgg25 rfl rfl (by rfl)) rfl rfl ?_
 refine rw_run tab_ok 1 [(0, _), (1, _), (20, _), (21, _)] rfl ⟨rfl, rfl, rfl, rfl, trivial⟩ ?_
 refine rw_s (qs_idx (k := i) Tryz.underlying25 Tryz.sizeOf66 (.ro hm.f) (by omega) rfl rfl rfl) rfl rfl ?_
 refine rw_s (qs_ldA (hcell _) rfl rfl Tryz.isAgg66 Tryz.sizeOf66) rfl rfl ?_
 refine rw_op (ot_alloc Tryz.zeroValue66 rfl rfl) rfl rfl (fun g1 _ => ?_)
 refine rw_op (ot_stb _ fc Tryz.sizeOf66 rfl rfl rfl rfl rfl (by rfl) rfl (by rfl)) rfl rfl (fun _ _ => ?_)
 refine rw_end ?_
 refine cw_seq ?_
 refine cw_draw (.still 0 (.still 1 (.still 2 (.still 3 (.still 4 (.still 5 (.still 6 (.still 7 (.still 8 (.pick 9 (.pick 10 .done .stop) .stop)))))))))) [10] rfl (by kernel_rfl) (by kernel_rfl) ?_
 refine ro_run tab_ok ha 4 [(0, _), (1, _), (5, _), (27, _)] rfl ⟨rfl, rfl, rfl, rfl, trivial⟩ ?_
 refine ro_s2 rfl (qs_ldb fc Tryz.isAgg22 rfl rfl (by rfl)) rfl rfl ha ?_
 refine ro_run tab_ok ha 1 [(0, _), (1, _), (5, _), (28, _), (29, _)] rfl ⟨rfl, rfl, rfl, rfl, rfl, trivial⟩ ?_
 refine ro_s2 rfl (qs_ldb fc Tryz.isAgg3 rfl rfl (by rfl)) rfl rfl ha ?_
 refine ro_s2 rfl (qs_idx (k := kf) Tryz.underlying22 Tryz.sizeOf113 (.ro hs) (by omega) rfl rfl rfl) rfl rfl ha ?_
 refine ro_s2 rfl (qs_ldA (hfcell _) rfl rfl Tryz.isAgg113 Tryz.sizeOf113) rfl rfl ha ?_
 refine ro_op2 rfl (ot_alloc Tryz.zeroValue113 rfl rfl) rfl rfl (.inr fun _ => ha) (fun g2 _ => ?_) ro_stop
 refine ro_op2 rfl (ot_stb _ fc Tryz.sizeOf113 rfl rfl rfl rfl rfl (by rfl) rfl (by rfl)) rfl rfl (.inl rfl) (fun _ _ => ?_) ro_stop
 refine ro_end ?_
 refine cw_seq ?_
 refine cw_seq ?_
 refine cw_region ?_
 refine rw_run tab_ok 1 [(0, _), (1, _), (5, _), (6, _), (33, _)] rfl ⟨rfl, rfl, rfl, rfl, rfl, trivial⟩ ?_
 refine rw_s (qs_ldb fc Tryz.isAgg64 rfl rfl (by rfl)) rfl rfl ?_
 refine rw_s (qs_len Tryz.underlying64 rfl rfl) rfl rfl ?_
 refine rw_run tab_ok 1 [(0, _), (1, _), (5, _), (6, _), (35, _), (36, _)] rfl ⟨rfl, rfl, rfl, rfl, rfl, rfl, trivial⟩ ?_
 refine rw_s (qs_ldb fc Tryz.isAgg27 rfl rfl (by rfl)) rfl rfl ?_
 refine rw_s (qs_len Tryz.underlying27 rfl rfl) rfl rfl ?_
 refine rw_run tab_ok 1 [(0, _), (1, _), (5, _), (6, _), (39, _)] rfl ⟨rfl, rfl, rfl, rfl, rfl, trivial⟩ ?_
 refine rw_end ?_
 refine cw_condN rfl (fun h1 => ?_) (fun h1 => ?_)
 ·rw [if_pos (show x.locals.length ≠ f.locals.length from fun e => h1 (by rw [e]))] at hE
  subst hE
  refine cw_seq ?_
  refine cw_region ?_
  refine rw_run tab_ok 1 [(4, _)] rfl ⟨rfl, trivial⟩ ?_
  refine rw_end ?_
  refine cw_ret (xw_thenr ?_)
  refine xw_ret1 Tryz.results204 (rv_tmp rfl) ?_
  intro w hw
  exact ⟨(), trivial, rfl, hw.msub ms⟩
 ·have h1 : x.locals.length = f.locals.length := by omega
  rw [if_neg (fun h => h h1)] at hE
  have hcat : [x.locals, x.stack].flatten.length * 16 ≤ 140737488355328 := by simp only [List.flatten_cons, List.flatten_nil, List.length_append, List.length_nil]; omega
  refine cw_skip (xw_then ?_)
  refine cw_seq ?_
  refine cw_seq ?_
  refine cw_region ?_
  refine rw_run tab_ok 1 [(0, _), (1, _), (5, _), (6, _), (40, _)] rfl ⟨rfl, rfl, rfl, rfl, rfl, trivial⟩ ?_
  refine rw_s (qs_ldb fc Tryz.isAgg64 rfl rfl (by rfl)) rfl rfl ?_
  refine rw_run tab_ok 1 [(0, _), (1, _), (5, _), (6, _), (41, _), (42, _)] rfl ⟨rfl, rfl, rfl, rfl, rfl, rfl, trivial⟩ ?_
  refine rw_s (qs_ldb fc Tryz.isAgg64 rfl rfl (by rfl)) rfl rfl ?_
  refine rw_op (ot_bsl (cs := [_, _]) Tryz.underlying209 Tryz.sizeOf64 Tryz.zeroValue64 rfl rfl rfl rfl rfl) rfl rfl (fun g3 _ => ?_)
  refine rw_op (ot_cO rfl rfl rfl Tryz.call236 (fun w hw => concat_any g3 2 (fun k => if k = 0 then (A1, c1) else (A2, c2)) [x.locals, x.stack] rfl w (box_lt hw fc) (fun k hk => by rcases (show k = 0 ∨ k = 1 by omega) with rfl | rfl; exact box_cell fc rfl w hw; exact box_cell fc rfl w hw) (fun k hk => by rcases (show k = 0 ∨ k = 1 by omega) with rfl | rfl; exact hw.ro hl; exact hw.ro hst) hcat (by decide))) rfl rfl (fun ⟨A5, c5⟩ _ => ?_)
  try dsimp only
  refine rw_s (qs_len Tryz.underlying64 rfl rfl) rfl rfl ?_
  refine rw_run tab_ok 1 [(0, _), (1, _), (5, _), (6, _), (45, _), (46, _), (47, _)] rfl ⟨rfl, rfl, rfl, rfl, rfl, rfl, rfl, trivial⟩ ?_
  refine rw_end ?_
  have hfe : [x.locals, x.stack].flatten = x.locals ++ x.stack := by simp
  rw [hfe]
  rw [hfe] at hcat
  refine cw_block (cw_loop (fun k : Nat => k ≤ (x.locals ++ x.stack).length ∧ ∀ j, j < k → valB m.blocks.length ((x.locals ++ x.stack).getD j default) = true) (fun k => (x.locals ++ x.stack).length - k) (fun k => [(0, .pointer (some ⟨gc, 0, none⟩)), (1, .int .i64 (i : Int)), (5, .pointer (some ⟨g1, 0, none⟩)), (6, .pointer (some ⟨g2, 0, none⟩)), (45, .slice A5 (x.locals ++ x.stack).length c5), (46, .int .i64 ((x.locals ++ x.stack).length : Int)), (47, .int .i64 (k : Int))]) (fun _ => ROw (.slice A5 (x.locals ++ x.stack).length c5) (x.locals ++ x.stack) :: RBox g1 [.int .i64 (kf : Int), .int .i64 x.pc, .slice A1 x.locals.length c1, .slice A2 x.stack.length c2] 66 :: RBox g2 [.int .i64 f.params, .slice F1 f.locals.length d1, .int .i64 f.result, .slice F2 f.code.length d2] 113 :: RBox gc [.slice a.Af m.frames.length a.cf, .slice a.Ab m.blocks.length a.cb, .slice a.Ai m.inn.length a.ci, .slice a.Ao m.out.length a.co, .int .i64 m.status, .int .i64 m.trap, .slice Ap fs.length cp] 159 :: H) 0 (⟨Nat.zero_le _, fun _ h => absurd h (Nat.not_lt_zero _)⟩) ⟨rfl, rfl, rfl, rfl, rfl, rfl, rfl, trivial⟩ (fun w h => h.msub ms) ?_)
  rintro k hk'
  obtain ⟨hk, hno⟩ : k ≤ (x.locals ++ x.stack).length ∧ ∀ j, j < k → valB m.blocks.length ((x.locals ++ x.stack).getD j default) = true := hk'
  refine cw_seq ?_
  refine cw_region ?_
  refine rw_run tab_ok 1 [(0, _), (1, _), (5, _), (6, _), (45, _), (46, _), (47, _), (48, _)] rfl ⟨rfl, rfl, rfl, rfl, rfl, rfl, rfl, rfl, trivial⟩ ?_
  refine rw_end ?_
  refine cw_seq ?_
  refine cw_condD rfl (fun hlt => ?_) (fun hlt => ?_)
  ·have hkl2 : k < (x.locals ++ x.stack).length := by omega
   refine cw_skip (xw_then ?_)
   refine cw_seq ?_
   refine cw_block ?_
   refine cw_seq ?_
   refine cw_region ?_
   refine rw_s (qs_idx Tryz.underlying64 Tryz.sizeOf68 (SF.own rfl fc) (by omega) rfl rfl rfl) rfl rfl ?_
   refine rw_s (qs_ldA (SF.val (SF.own rfl fc) hkl2 default) rfl rfl Tryz.isAgg68 Tryz.sizeOf68) rfl rfl ?_
   refine rw_op (ot_alloc Tryz.zeroValue68 rfl rfl) rfl rfl (fun g4 _ => ?_)
   refine rw_op (ot_stb _ fc Tryz.sizeOf68 rfl rfl rfl rfl rfl (by rfl) rfl (by rfl)) rfl rfl (fun _ _ => ?_)
   refine rw_end ?_
   refine cw_seq ?_
   refine cw_region ?_
   refine rw_run tab_ok 1 [(0, _), (1, _), (5, _), (6, _), (8, _), (45, _), (46, _), (47, _), (51, _)] rfl ⟨rfl, rfl, rfl, rfl, rfl, rfl, rfl, rfl, rfl, trivial⟩ ?_
   refine rw_s (qs_ldbA (vs := [_, _]) fc Tryz.isAgg68 Tryz.sizeOf68 rfl rfl (by rfl) rfl) rfl rfl ?_
   refine rw_op (ot_call rfl rfl rfl Tryz.call237 (fun w hw => cvalue_any gc a m (.slice Ap fs.length cp) ((x.locals ++ x.stack).getD k default) w (hw.msub (.s fc .r)))) rfl rfl (fun _ _ => ?_)
   refine rw_run tab_ok 1 [(0, _), (1, _), (5, _), (6, _), (9, _), (45, _), (46, _), (47, _)] rfl ⟨rfl, rfl, rfl, rfl, rfl, rfl, rfl, rfl, trivial⟩ ?_
   refine rw_end ?_
   refine cw_seq ?_
   refine cw_region ?_
   refine rw_run tab_ok 2 [(0, _), (1, _), (5, _), (6, _), (9, _), (45, _), (46, _), (47, _), (55, _)] rfl ⟨rfl, rfl, rfl, rfl, rfl, rfl, rfl, rfl, rfl, trivial⟩ ?_
   refine rw_end ?_
   obtain ⟨vb, hvb⟩ : ∃ b, valB m.blocks.length ((x.locals ++ x.stack).getD k default) = b := ⟨_, rfl⟩
   rw [hvb]
   cases vb
   ·rw [if_pos (any_bad hkl2 hvb)] at hE
    subst hE
    rw [if_neg (by decide)]
    refine cw_condN rfl (fun hz => ?_) (fun hz => ?_)
    ·refine cw_seq ?_
     refine cw_region ?_
     refine rw_run tab_ok 2 [(4, _)] rfl ⟨rfl, trivial⟩ ?_
     refine rw_end ?_
     refine cw_ret (xw_blkr (xw_thenr (xw_thenr (xw_blkr (xw_thenr ?_)))))
     refine xw_ret1 Tryz.results204 (rv_tmp rfl) ?_
     intro w hw
     exact ⟨(), trivial, rfl, hw.msub ms⟩
    ·exact absurd hz (by decide)
   ·rw [if_pos rfl]
    refine cw_condN rfl (fun hz => ?_) (fun hz => ?_)
    ·exact absurd rfl hz
    ·refine cw_skip (xw_blkn (xw_then ?_))
     refine cw_region ?_
     refine rw_s (qs_add rfl rfl rfl (by omega)) rfl rfl ?_
     refine rw_run tab_ok 1 [(0, _), (1, _), (5, _), (6, _), (45, _), (46, _), (47, _)] rfl ⟨rfl, rfl, rfl, rfl, rfl, rfl, rfl, trivial⟩ ?_
     refine rw_round (k + 1) (⟨by show k + 1 ≤ _; omega, fun j hj => (Nat.lt_or_ge j k).elim (hno j) (fun h => by obtain rfl : j = k := (by omega); exact hvb)⟩) (by show _ - _ < _ - _; omega) ⟨rfl, rfl, rfl, rfl, rfl, rfl, rfl, trivial⟩ (fun w h => h.msub ms)
  ·obtain rfl : k = (x.locals ++ x.stack).length := by omega
   rw [if_neg (any_good hno)] at hE
   refine cw_exit (xw_thenx (xw_thenx (xw_blk (xw_then ?_))))
   refine cw_seq ?_
   refine cw_seq ?_
   refine cw_region ?_
   refine rw_run tab_ok 1 [(0, _), (1, _), (5, _), (6, _), (58, _)] rfl ⟨rfl, rfl, rfl, rfl, rfl, trivial⟩ ?_
   refine rw_s (qs_ldb fc Tryz.isAgg64 rfl rfl (by rfl)) rfl rfl ?_
   refine rw_s (qs_len Tryz.underlying64 rfl rfl) rfl rfl ?_
   refine rw_run tab_ok 1 [(0, _), (1, _), (5, _), (6, _), (59, _), (60, _), (61, _)] rfl ⟨rfl, rfl, rfl, rfl, rfl, rfl, rfl, trivial⟩ ?_
   refine rw_end ?_
   refine cw_block (cw_loop (fun k : Nat => k ≤ x.locals.length ∧ ∀ j, j < k → asB (x.locals.getD j default) (f.locals.getD j 0) = true) (fun k => x.locals.length - k) (fun k => [(0, .pointer (some ⟨gc, 0, none⟩)), (1, .int .i64 (i : Int)), (5, .pointer (some ⟨g1, 0, none⟩)), (6, .pointer (some ⟨g2, 0, none⟩)), (59, .slice A1 x.locals.length c1), (60, .int .i64 (x.locals.length : Int)), (61, .int .i64 (k : Int))]) (fun _ => RBox g1 [.int .i64 (kf : Int), .int .i64 x.pc, .slice A1 x.locals.length c1, .slice A2 x.stack.length c2] 66 :: RBox g2 [.int .i64 f.params, .slice F1 f.locals.length d1, .int .i64 f.result, .slice F2 f.code.length d2] 113 :: RBox gc [.slice a.Af m.frames.length a.cf, .slice a.Ab m.blocks.length a.cb, .slice a.Ai m.inn.length a.ci, .slice a.Ao m.out.length a.co, .int .i64 m.status, .int .i64 m.trap, .slice Ap fs.length cp] 159 :: H) 0 (⟨Nat.zero_le _, fun _ h => absurd h (Nat.not_lt_zero _)⟩) ⟨rfl, rfl, rfl, rfl, rfl, rfl, rfl, trivial⟩ (fun w h => h.msub ms) ?_)
   rintro k hk'
   obtain ⟨hk, hno2⟩ : k ≤ x.locals.length ∧ ∀ j, j < k → asB (x.locals.getD j default) (f.locals.getD j 0) = true := hk'
   refine cw_seq ?_
   refine cw_region ?_
   refine rw_run tab_ok 1 [(0, _), (1, _), (5, _), (6, _), (59, _), (60, _), (61, _), (62, _)] rfl ⟨rfl, rfl, rfl, rfl, rfl, rfl, rfl, rfl, trivial⟩ ?_
   refine rw_end ?_
   refine cw_seq ?_
   refine cw_condD rfl (fun hlt => ?_) (fun hlt => ?_)
   ·have hkl2 : k < x.locals.length := by omega
    refine cw_skip (xw_then ?_)
    refine cw_seq ?_
    refine cw_block ?_
    refine cw_seq ?_
    refine cw_region ?_
    refine rw_run tab_ok 1 [(0, _), (1, _), (5, _), (6, _), (59, _), (60, _), (61, _), (63, _)] rfl ⟨rfl, rfl, rfl, rfl, rfl, rfl, rfl, rfl, trivial⟩ ?_
    refine rw_s (qs_idx Tryz.underlying64 Tryz.sizeOf68 (.ro hl) (by omega) rfl rfl rfl) rfl rfl ?_
    refine rw_s (qs_ldA (SF.val (SF.ro hl) hkl2 default) rfl rfl Tryz.isAgg68 Tryz.sizeOf68) rfl rfl ?_
    refine rw_op (ot_alloc Tryz.zeroValue68 rfl rfl) rfl rfl (fun g5 _ => ?_)
    refine rw_run tab_ok 1 [(0, _), (1, _), (5, _), (6, _), (10, _), (11, _), (59, _), (60, _), (61, _), (65, _)] rfl ⟨rfl, rfl, rfl, rfl, rfl, rfl, rfl, rfl, rfl, rfl, trivial⟩ ?_
    refine rw_op (ot_stb _ fc Tryz.sizeOf68 rfl rfl rfl rfl rfl (by rfl) rfl (by rfl)) rfl rfl (fun _ _ => ?_)
    refine rw_end ?_
    refine cw_seq ?_
    refine cw_draw (.still 0 (.still 1 (.still 2 (.still 3 (.still 4 (.still 5 (.pick 6 (.still 7 .done) .stop))))))) [] rfl (by kernel_rfl) (by kernel_rfl) ?_
    refine ro_s2 rfl (qs_ldbA (vs := [_, _]) fc Tryz.isAgg68 Tryz.sizeOf68 rfl rfl (by rfl) rfl) rfl rfl ha ?_
    refine ro_run tab_ok ha 1 [(0, _), (1, _), (5, _), (6, _), (10, _), (59, _), (60, _), (61, _), (66, _), (67, _)] rfl ⟨rfl, rfl, rfl, rfl, rfl, rfl, rfl, rfl, rfl, rfl, trivial⟩ ?_
    refine ro_s2 rfl (qs_ldb fc Tryz.isAgg27 rfl rfl (by rfl)) rfl rfl ha ?_
    refine ro_run tab_ok ha 1 [(0, _), (1, _), (5, _), (6, _), (59, _), (60, _), (61, _), (66, _), (68, _), (69, _)] rfl ⟨rfl, rfl, rfl, rfl, rfl, rfl, rfl, rfl, rfl, rfl, trivial⟩ ?_
    refine ro_s2 rfl (qs_idx (k := k) Tryz.underlying27 Tryz.sizeOf3 (.ro hfl) (by omega) rfl rfl rfl) rfl rfl ha ?_
    refine ro_s2 rfl (qs_ld (SF.int (.ro hfl) (by omega)) rfl rfl Tryz.isAgg3) rfl rfl ha ?_
    refine ro_op2 rfl (ot_c0 rfl rfl rfl Tryz.call238 (fun w hw => mas_any (x.locals.getD k default) (f.locals.getD k 0) w)) rfl rfl (.inr fun _ => ha) (fun _ _ => ?_) ro_stop
    refine ro_run tab_ok ha 1 [(0, _), (1, _), (5, _), (6, _), (59, _), (60, _), (61, _), (73, _)] rfl ⟨rfl, rfl, rfl, rfl, rfl, rfl, rfl, rfl, trivial⟩ ?_
    refine ro_end ?_
    refine cw_cond rfl (fun hb => ?_) (fun hb => ?_)
    ·have hb : asB (x.locals.getD k default) (f.locals.getD k 0) = false := by simpa using hb
     rw [if_pos (asL_bad hkl2 hb)] at hE
     subst hE
     refine cw_seq ?_
     refine cw_region ?_
     refine rw_run tab_ok 1 [(4, _)] rfl ⟨rfl, trivial⟩ ?_
     refine rw_end ?_
     refine cw_ret (xw_blkr (xw_thenr (xw_thenr (xw_blkr (xw_thenr ?_)))))
     refine xw_ret1 Tryz.results204 (rv_tmp rfl) ?_
     intro w hw
     exact ⟨(), trivial, rfl, hw.msub ms⟩
    ·have hb : asB (x.locals.getD k default) (f.locals.getD k 0) = true := by simpa using hb
     refine cw_skip (xw_blkn (xw_then ?_))
     refine cw_region ?_
     refine rw_s (qs_add rfl rfl rfl (by omega)) rfl rfl ?_
     refine rw_run tab_ok 1 [(0, _), (1, _), (5, _), (6, _), (59, _), (60, _), (61, _)] rfl ⟨rfl, rfl, rfl, rfl, rfl, rfl, rfl, trivial⟩ ?_
     refine rw_round (k + 1) (⟨by show k + 1 ≤ _; omega, fun j hj => (Nat.lt_or_ge j k).elim (hno2 j) (fun h => by obtain rfl : j = k := (by omega); exact hb)⟩) (by show _ - _ < _ - _; omega) ⟨rfl, rfl, rfl, rfl, rfl, rfl, rfl, trivial⟩ (fun w h => h.msub ms)
   ·obtain rfl : k = x.locals.length := by omega
    rw [if_neg (by rw [asL_iff.2 hno2]; decide)] at hE
    refine cw_exit (xw_thenx (xw_thenx (xw_blk (xw_then ?_))))
    refine cw_seq ?_
    refine cw_region ?_
    refine rw_run tab_ok 2 [(5, _), (76, _), (77, _)] rfl ⟨rfl, rfl, rfl, trivial⟩ ?_
    refine rw_op (ot_call rfl rfl rfl Tryz.call239 (fun w hw => cwant_any (H := RBox g1 [.int .i64 (kf : Int), .int .i64 x.pc, .slice A1 x.locals.length c1, .slice A2 x.stack.length c2] 66 :: RBox g2 [.int .i64 f.params, .slice F1 f.locals.length d1, .int .i64 f.result, .slice F2 f.code.length d2] 113 :: H) gc a m Ap cp fs hs hm hF i hi hfn q hq w (hw.msub ms))) rfl rfl (fun ⟨A6, c6⟩ _ => ?_)
    try dsimp only
    refine rw_run tab_ok 5 [(5, _), (12, _), (13, _)] rfl ⟨rfl, rfl, rfl, trivial⟩ ?_
    refine rw_end ?_
    refine cw_seq ?_
    refine cw_seq ?_
    refine cw_region ?_
    refine rw_run tab_ok 2 [(5, _), (12, _), (82, _)] rfl ⟨rfl, rfl, rfl, trivial⟩ ?_
    refine rw_end ?_
    refine cw_cond rfl (fun hn => ?_) (fun hn => ?_)
    ·have hn : q = none := by simpa using hn
     subst hn
     subst hE
     refine cw_seq ?_
     refine cw_region ?_
     refine rw_run tab_ok 1 [(4, _)] rfl ⟨rfl, trivial⟩ ?_
     refine rw_end ?_
     refine cw_ret (xw_thenr ?_)
     refine xw_ret1 Tryz.results204 (rv_tmp rfl) ?_
     intro w hw
     exact ⟨(), trivial, rfl, hw.msub ms⟩
    ·obtain ⟨t, rfl⟩ : ∃ t, q = some t := by cases q with
      | none => simp at hn
      | some t => exact ⟨t, rfl⟩
     dsimp only [Option.getD_some] at hE ⊢
     refine cw_skip (xw_then ?_)
     refine cw_seq ?_
     refine cw_seq ?_
     refine cw_region ?_
     refine rw_run tab_ok 1 [(5, _), (12, _), (83, _)] rfl ⟨rfl, rfl, rfl, trivial⟩ ?_
     refine rw_s (qs_len Tryz.underlying27 rfl rfl) rfl rfl ?_
     refine rw_run tab_ok 1 [(5, _), (12, _), (84, _), (85, _)] rfl ⟨rfl, rfl, rfl, rfl, trivial⟩ ?_
     refine rw_s (qs_ldb fc Tryz.isAgg64 rfl rfl (by rfl)) rfl rfl ?_
     refine rw_s (qs_len Tryz.underlying64 rfl rfl) rfl rfl ?_
     refine rw_run tab_ok 1 [(5, _), (12, _), (88, _)] rfl ⟨rfl, rfl, rfl, trivial⟩ ?_
     refine rw_end ?_
     refine cw_condN rfl (fun h2 => ?_) (fun h2 => ?_)
     ·rw [if_pos (show t.length ≠ x.stack.length from fun e => h2 (by rw [e]))] at hE
      subst hE
      refine cw_seq ?_
      refine cw_region ?_
      refine rw_run tab_ok 1 [(4, _)] rfl ⟨rfl, trivial⟩ ?_
      refine rw_end ?_
      refine cw_ret (xw_thenr ?_)
      refine xw_ret1 Tryz.results204 (rv_tmp rfl) ?_
      intro w hw
      exact ⟨(), trivial, rfl, hw.msub ms⟩
     ·have h2 : t.length = x.stack.length := by omega
      rw [if_neg (fun h => h h2)] at hE
      refine cw_skip (xw_then ?_)
      refine cw_seq ?_
      refine cw_seq ?_
      refine cw_region ?_
      refine rw_run tab_ok 1 [(12, _), (89, _)] rfl ⟨rfl, rfl, trivial⟩ ?_
      refine rw_s (qs_ldb fc Tryz.isAgg64 rfl rfl (by rfl)) rfl rfl ?_
      refine rw_s (qs_len Tryz.underlying64 rfl rfl) rfl rfl ?_
      refine rw_run tab_ok 1 [(12, _), (90, _), (91, _), (92, _)] rfl ⟨rfl, rfl, rfl, rfl, trivial⟩ ?_
      refine rw_end ?_
      refine cw_block (cw_loop (fun k : Nat => k ≤ x.stack.length ∧ ∀ j, j < k → asB (x.stack.getD j default) (t.getD j 0) = true) (fun k => x.stack.length - k) (fun k => [(12, .slice A6 t.length c6), (90, .slice A2 x.stack.length c2), (91, .int .i64 (x.stack.length : Int)), (92, .int .i64 (k : Int))]) (fun _ => RRd (.slice A6 t.length c6) t :: RBox gc [.slice a.Af m.frames.length a.cf, .slice a.Ab m.blocks.length a.cb, .slice a.Ai m.inn.length a.ci, .slice a.Ao m.out.length a.co, .int .i64 m.status, .int .i64 m.trap, .slice Ap fs.length cp] 159 :: H) 0 (⟨Nat.zero_le _, fun _ h => absurd h (Nat.not_lt_zero _)⟩) ⟨rfl, rfl, rfl, rfl, trivial⟩ (fun w h => h.msub ms) ?_)
      rintro k hk'
      obtain ⟨hk, hno3⟩ : k ≤ x.stack.length ∧ ∀ j, j < k → asB (x.stack.getD j default) (t.getD j 0) = true := hk'
      refine cw_seq ?_
      refine cw_region ?_
      refine rw_run tab_ok 1 [(12, _), (90, _), (91, _), (92, _), (93, _)] rfl ⟨rfl, rfl, rfl, rfl, rfl, trivial⟩ ?_
      refine rw_end ?_
      refine cw_seq ?_
      refine cw_condD rfl (fun hlt => ?_) (fun hlt => ?_)
      ·have hkl2 : k < x.stack.length := by omega
       refine cw_skip (xw_then ?_)
       refine cw_seq ?_
       refine cw_block ?_
       refine cw_seq ?_
       refine cw_region ?_
       refine rw_run tab_ok 1 [(12, _), (90, _), (91, _), (92, _), (94, _)] rfl ⟨rfl, rfl, rfl, rfl, rfl, trivial⟩ ?_
       refine rw_s (qs_idx Tryz.underlying64 Tryz.sizeOf68 (.ro hst) (by omega) rfl rfl rfl) rfl rfl ?_
       refine rw_s (qs_ldA (SF.val (SF.ro hst) hkl2 default) rfl rfl Tryz.isAgg68 Tryz.sizeOf68) rfl rfl ?_
       refine rw_op (ot_alloc Tryz.zeroValue68 rfl rfl) rfl rfl (fun g6 _ => ?_)
       refine rw_run tab_ok 1 [(12, _), (14, _), (15, _), (90, _), (91, _), (92, _), (96, _)] rfl ⟨rfl, rfl, rfl, rfl, rfl, rfl, rfl, trivial⟩ ?_
       refine rw_op (ot_stb _ fc Tryz.sizeOf68 rfl rfl rfl rfl rfl (by rfl) rfl (by rfl)) rfl rfl (fun _ _ => ?_)
       refine rw_end ?_
       refine cw_seq ?_
       refine cw_draw (.still 0 (.still 1 (.still 2 (.still 3 (.still 4 (.pick 5 (.still 6 .done) .stop)))))) [] rfl (by kernel_rfl) (by kernel_rfl) ?_
       refine ro_s2 rfl (qs_ldbA (vs := [_, _]) fc Tryz.isAgg68 Tryz.sizeOf68 rfl rfl (by rfl) rfl) rfl rfl ha ?_
       refine ro_run tab_ok ha 2 [(12, _), (90, _), (91, _), (92, _), (97, _), (98, _), (99, _)] rfl ⟨rfl, rfl, rfl, rfl, rfl, rfl, rfl, trivial⟩ ?_
       refine ro_s2 rfl (qs_idx (k := k) Tryz.underlying27 Tryz.sizeOf3 (SF.rd (xs := t) rfl fc) (by omega) rfl rfl rfl) rfl rfl ha ?_
       refine ro_s2 rfl (qs_ld (SF.int (SF.rd (xs := t) rfl fc) (by omega)) rfl rfl Tryz.isAgg3) rfl rfl ha ?_
       refine ro_op2 rfl (ot_c0 rfl rfl rfl Tryz.call238 (fun w hw => mas_any (x.stack.getD k default) (t.getD k 0) w)) rfl rfl (.inr fun _ => ha) (fun _ _ => ?_) ro_stop
       refine ro_run tab_ok ha 1 [(12, _), (90, _), (91, _), (92, _), (103, _)] rfl ⟨rfl, rfl, rfl, rfl, rfl, trivial⟩ ?_
       refine ro_end ?_
       refine cw_cond rfl (fun hb => ?_) (fun hb => ?_)
       ·have hb : asB (x.stack.getD k default) (t.getD k 0) = false := by simpa using hb
        rw [if_pos (asL_bad (by omega) hb)] at hE
        subst hE
        refine cw_seq ?_
        refine cw_region ?_
        refine rw_run tab_ok 1 [(4, _)] rfl ⟨rfl, trivial⟩ ?_
        refine rw_end ?_
        refine cw_ret (xw_blkr (xw_thenr (xw_thenr (xw_blkr (xw_thenr ?_)))))
        refine xw_ret1 Tryz.results204 (rv_tmp rfl) ?_
        intro w hw
        exact ⟨(), trivial, rfl, hw.msub ms⟩
       ·have hb : asB (x.stack.getD k default) (t.getD k 0) = true := by simpa using hb
        refine cw_skip (xw_blkn (xw_then ?_))
        refine cw_region ?_
        refine rw_s (qs_add rfl rfl rfl (by omega)) rfl rfl ?_
        refine rw_run tab_ok 1 [(12, _), (90, _), (91, _), (92, _)] rfl ⟨rfl, rfl, rfl, rfl, trivial⟩ ?_
        refine rw_round (k + 1) (⟨by show k + 1 ≤ _; omega, fun j hj => (Nat.lt_or_ge j k).elim (hno3 j) (fun h => by obtain rfl : j = k := (by omega); exact hb)⟩) (by show _ - _ < _ - _; omega) ⟨rfl, rfl, rfl, rfl, trivial⟩ (fun w h => h.msub ms)
      ·obtain rfl : k = x.stack.length := by omega
       rw [if_neg (by rw [h2, asL_iff.2 hno3]; decide)] at hE
       subst hE
       refine cw_exit (xw_thenx (xw_thenx (xw_blk (xw_then ?_))))
       refine cw_seq ?_
       refine cw_region ?_
       refine rw_run tab_ok 1 [(4, _)] rfl ⟨rfl, trivial⟩ ?_
       refine rw_end ?_
       refine cw_ret ?_
       refine xw_ret1 Tryz.results204 (rv_tmp rfl) ?_
       intro w hw
       exact ⟨(), trivial, rfl, hw.msub ms⟩
end
end Go.Proofs.YtmnkaalchcomlaaGreat
-- Ck6
/- Machines: what is right: all of a machine. -/
namespace Go.Proofs.YtmnkaalchcomlaaGreat
open Go.RowKit
theorem range_getD {n k : Nat} (hk : k < n) : (List.range n).getD k 0 = k := by
 rw [List.getD_eq_getElem?_getD, List.getElem?_range hk]
 rfl
theorem fr_bad {l : List MFrame} {k n : Nat} (hk : k < l.length) (h : within (frAt l k).func 0 ((n : Int) - 1) = false) : l.any (fun x => !within x.func 0 ((n : Int) - 1)) = true := List.any_eq_true.2 ⟨_, frAt_mem hk, by rw [h]; rfl⟩
theorem fr_good {l : List MFrame} {n : Nat} (h : ∀ j, j < l.length → within (frAt l j).func 0 ((n : Int) - 1) = true) : (¬ l.any (fun x => !within x.func 0 ((n : Int) - 1)) = true) ∧ ∀ x ∈ l, 0 ≤ x.func ∧ x.func < n := by
 have h2 : ∀ x ∈ l, within x.func 0 ((n : Int) - 1) = true := fun x hx => by
  obtain ⟨j, hj, rfl⟩ := List.getElem_of_mem hx
  have := h j hj
  unfold frAt at this
  rwa [List.getD_eq_getElem?_getD, List.getElem?_eq_getElem hj] at this
 refine ⟨fun ha => ?_, fun x hx => ?_⟩
 ·obtain ⟨x, hx, h3⟩ := List.any_eq_true.1 ha
  rw [h2 x hx] at h3
  cases h3
 ·have := within_ok.1 (h2 x hx)
  omega
section
variable {B : Nat} {w0 : World} {H : List Res}
set_option maxRecDepth 100000 in
set_option maxHeartbeats 4000000 in
theorem cframes_any (gc : Nat) (a : MA) (m : MMach) (Ap : Option Addr) (cp : Nat) (fs : List MFunc) (hs : SlB w0 B (.slice Ap fs.length cp) fs) (hm : MIn B w0 a m) (hF : Fitd fs) (hfit : FitF m.frames) (E : Int) (hE : framesE fs m = E) (w : World) (hw : Cw B w0 (RBox gc [.slice a.Af m.frames.length a.cf, .slice a.Ab m.blocks.length a.cb, .slice a.Ai m.inn.length a.ci, .slice a.Ao m.out.length a.co, .int .i64 m.status, .int .i64 m.trap, .slice Ap fs.length cp] 159 :: H) w) :
  Calls Tryz.prog 165 #[.pointer (some ⟨gc, 0, none⟩)] w fun e w' => ∃ _ : Unit, True ∧ e = .returned (.int .i64 E) ∧ Cw B w0 (RBox gc [.slice a.Af m.frames.length a.cf, .slice a.Ab m.blocks.length a.cb, .slice a.Ai m.inn.length a.ci, .slice a.Ao m.out.length a.co, .int .i64 m.status, .int .i64 m.trap, .slice Ap fs.length cp] 159 :: H) w' := by
 have bf := len_bd hm.f
 have bp := len_bd hs
 unfold framesE at hE
 refine enter_own Tryz.func165 rfl Tryz.ntmps165 rfl hw ?_
 refine cw_seq ?_
 refine cw_region ?_
 refine rw_run tab_ok 1 [(0, _)] rfl ⟨rfl, trivial⟩ ?_
 refine rw_end ?_
 refine cw_cut (fun _ : Unit => ¬ 6 < m.frames.length ∧ ¬ (m.frames.length = 0 ∧ m.status ≠ 2) ∧ ¬ (0 < m.frames.length ∧ m.status = 2)) (fun _ => [(0, .pointer (some ⟨gc, 0, none⟩))]) (fun _ => RBox gc [.slice a.Af m.frames.length a.cf, .slice a.Ab m.blocks.length a.cb, .slice a.Ai m.inn.length a.ci, .slice a.Ao m.out.length a.co, .int .i64 m.status, .int .i64 m.trap, .slice Ap fs.length cp] 159 :: H) ?_ ?_
 ·refine cw_seq ?_
  refine cw_region ?_
  refine rw_run tab_ok 4 [(0, _), (12, _)] rfl ⟨rfl, rfl, trivial⟩ ?_
  refine rw_s (qs_ldb fc Tryz.isAgg25 rfl rfl (by rfl)) rfl rfl ?_
  refine rw_s (qs_len Tryz.underlying25 rfl rfl) rfl rfl ?_
  refine rw_run tab_ok 1 [(0, _), (3, _)] rfl ⟨rfl, rfl, trivial⟩ ?_
  refine rw_end ?_
  refine cw_block ?_
  refine cw_seq ?_
  refine cw_region ?_
  refine rw_run tab_ok 3 [(0, _), (3, _), (15, _)] rfl ⟨rfl, rfl, rfl, trivial⟩ ?_
  refine rw_end ?_
  refine cw_condD rfl (fun h6 => ?_) (fun h6 => ?_)
  ·rw [if_pos (by omega)] at hE
   subst hE
   refine cw_seq ?_
   refine cw_region ?_
   refine rw_run tab_ok 1 [(2, _)] rfl ⟨rfl, trivial⟩ ?_
   refine rw_end ?_
   refine cw_ret (xw_blkr (xw_thenr ?_))
   refine xw_ret1 Tryz.results165 (rv_tmp rfl) ?_
   intro w hw
   exact ⟨(), trivial, rfl, hw.msub ms⟩
  ·have h6 : ¬ 6 < m.frames.length := by omega
   rw [if_neg h6] at hE
   refine cw_seq ?_
   refine cw_region ?_
   refine rw_run tab_ok 3 [(0, _), (3, _), (21, _)] rfl ⟨rfl, rfl, rfl, trivial⟩ ?_
   refine rw_split (t := 21) rfl (fun h0 => ?_) (fun h0 => ?_)
   ·have h0 := of_decide_eq_true h0
    have h0 : m.frames.length = 0 := by omega
    refine rw_run tab_ok 4 [(0, _), (3, _), (21, _), (25, _)] rfl ⟨rfl, rfl, rfl, rfl, trivial⟩ ?_
    refine rw_s (qs_ldb fc Tryz.isAgg3 rfl rfl (by rfl)) rfl rfl ?_
    refine rw_run tab_ok 3 [(0, _), (3, _), (18, _)] rfl ⟨rfl, rfl, rfl, trivial⟩ ?_
    refine rw_end ?_
    refine cw_condN rfl (fun h2 => ?_) (fun h2 => ?_)
    ·rw [if_pos ⟨h0, h2⟩] at hE
     subst hE
     refine cw_seq ?_
     refine cw_region ?_
     refine rw_run tab_ok 1 [(2, _)] rfl ⟨rfl, trivial⟩ ?_
     refine rw_end ?_
     refine cw_ret (xw_blkr (xw_thenr ?_))
     refine xw_ret1 Tryz.results165 (rv_tmp rfl) ?_
     intro w hw
     exact ⟨(), trivial, rfl, hw.msub ms⟩
    ·refine cw_seq ?_
     refine cw_region ?_
     refine rw_run tab_ok 3 [(0, _), (32, _)] rfl ⟨rfl, rfl, trivial⟩ ?_
     refine rw_split (t := 32) rfl (fun h3 => ?_) (fun h3 => ?_)
     ·have h3 := of_decide_eq_true h3
      exact absurd h3 (by omega)
     ·refine rw_run tab_ok 8 [(0, _), (29, _)] rfl ⟨rfl, rfl, trivial⟩ ?_
      refine rw_end ?_
      refine cw_cond_f rfl ?_
      refine cw_skip (xw_blkn ?_)
      refine xw_join () (⟨h6, fun h => h.2 h2, fun h => by omega⟩) ⟨rfl, trivial⟩ (fun _ h => h.msub ms)
   ·have h0 := of_decide_eq_false h0
    have h0 : ¬ m.frames.length = 0 := by omega
    rw [if_neg (fun h => h0 h.1)] at hE
    refine rw_run tab_ok 8 [(0, _), (3, _), (18, _)] rfl ⟨rfl, rfl, rfl, trivial⟩ ?_
    refine rw_end ?_
    refine cw_cond_f rfl ?_
    refine cw_seq ?_
    refine cw_region ?_
    refine rw_run tab_ok 3 [(0, _), (32, _)] rfl ⟨rfl, rfl, trivial⟩ ?_
    refine rw_split (t := 32) rfl (fun h3 => ?_) (fun h3 => ?_)
    ·refine rw_run tab_ok 4 [(0, _), (32, _), (36, _)] rfl ⟨rfl, rfl, rfl, trivial⟩ ?_
     refine rw_s (qs_ldb fc Tryz.isAgg3 rfl rfl (by rfl)) rfl rfl ?_
     refine rw_run tab_ok 3 [(0, _), (29, _)] rfl ⟨rfl, rfl, trivial⟩ ?_
     refine rw_end ?_
     refine cw_condD rfl (fun h2 => ?_) (fun h2 => ?_)
     ·rw [if_pos ⟨by omega, h2⟩] at hE
      subst hE
      refine cw_seq ?_
      refine cw_region ?_
      refine rw_run tab_ok 1 [(2, _)] rfl ⟨rfl, trivial⟩ ?_
      refine rw_end ?_
      refine cw_ret (xw_blkr (xw_thenr ?_))
      refine xw_ret1 Tryz.results165 (rv_tmp rfl) ?_
      intro w hw
      exact ⟨(), trivial, rfl, hw.msub ms⟩
     ·refine cw_skip (xw_blkn ?_)
      refine xw_join () (⟨h6, fun h => h0 h.1, fun h => h2 h.2⟩) ⟨rfl, trivial⟩ (fun _ h => h.msub ms)
    ·have h3 := of_decide_eq_false h3
     exact absurd h3 (by omega)
 ·rintro ⟨⟩ ⟨h1, h2, h3⟩
  rw [if_neg h1, if_neg h2, if_neg h3] at hE
  refine cw_seq ?_
  refine cw_seq ?_
  refine cw_region ?_
  refine rw_run tab_ok 4 [(0, _), (43, _)] rfl ⟨rfl, rfl, trivial⟩ ?_
  refine rw_s (qs_ldb fc Tryz.isAgg25 rfl rfl (by rfl)) rfl rfl ?_
  refine rw_s (qs_len Tryz.underlying25 rfl rfl) rfl rfl ?_
  refine rw_run tab_ok 1 [(0, _), (44, _), (45, _), (46, _)] rfl ⟨rfl, rfl, rfl, rfl, trivial⟩ ?_
  refine rw_end ?_
  refine cw_block (cw_loop (fun k : Nat => k ≤ m.frames.length ∧ ∀ j, j < k → within (frAt m.frames j).func 0 ((fs.length : Int) - 1) = true) (fun k => m.frames.length - k) (fun k => [(0, .pointer (some ⟨gc, 0, none⟩)), (44, .slice a.Af m.frames.length a.cf), (45, .int .i64 (m.frames.length : Int)), (46, .int .i64 (k : Int))]) (fun _ => RBox gc [.slice a.Af m.frames.length a.cf, .slice a.Ab m.blocks.length a.cb, .slice a.Ai m.inn.length a.ci, .slice a.Ao m.out.length a.co, .int .i64 m.status, .int .i64 m.trap, .slice Ap fs.length cp] 159 :: H) 0 (⟨Nat.zero_le _, fun _ h => absurd h (Nat.not_lt_zero _)⟩) ⟨rfl, rfl, rfl, rfl, trivial⟩ (fun w h => h.msub ms) ?_)
  rintro k hk'
  obtain ⟨hk, hno⟩ : k ≤ m.frames.length ∧ ∀ j, j < k → within (frAt m.frames j).func 0 ((fs.length : Int) - 1) = true := hk'
  refine cw_seq ?_
  refine cw_region ?_
  refine rw_run tab_ok 1 [(0, _), (44, _), (45, _), (46, _), (47, _)] rfl ⟨rfl, rfl, rfl, rfl, rfl, trivial⟩ ?_
  refine rw_end ?_
  refine cw_seq ?_
  refine cw_condD rfl (fun hlt => ?_) (fun hlt => ?_)
  ·have hkl : k < m.frames.length := by omega
   obtain ⟨A1, c1, A2, c2, hl, hst, hI, hcell⟩ := hm.f.fr hkl
   refine cw_skip (xw_then ?_)
   refine cw_seq ?_
   refine cw_block ?_
   refine cw_seq ?_
   refine cw_region ?_
   refine rw_s (qs_idx Tryz.underlying25 Tryz.sizeOf66 (.ro hm.f) (by omega) rfl rfl rfl) rfl rfl ?_
   refine rw_s (qs_ldA (hcell _) rfl rfl Tryz.isAgg66 Tryz.sizeOf66) rfl rfl ?_
   refine rw_op (ot_alloc Tryz.zeroValue66 rfl rfl) rfl rfl (fun g1 _ => ?_)
   refine rw_op (ot_stb _ fc Tryz.sizeOf66 rfl rfl rfl rfl rfl (by rfl) rfl (by rfl)) rfl rfl (fun _ _ => ?_)
   refine rw_end ?_
   refine cw_seq ?_
   refine cw_draw (.still 0 (.still 1 (.still 2 (.still 3 (.still 4 (.still 5 (.still 6 (.still 7 (.still 8 (.pick 9 (.still 10 .done) .stop)))))))))) [] rfl (by kernel_rfl) (by kernel_rfl) ?_
   refine ro_run tab_ok ha 1 [(0, _), (44, _), (45, _), (46, _), (50, _)] rfl ⟨rfl, rfl, rfl, rfl, rfl, trivial⟩ ?_
   refine ro_s2 rfl (qs_ldb fc Tryz.isAgg3 rfl rfl (by rfl)) rfl rfl ha ?_
   refine ro_run tab_ok ha 4 [(0, _), (44, _), (45, _), (46, _), (51, _), (55, _)] rfl ⟨rfl, rfl, rfl, rfl, rfl, rfl, trivial⟩ ?_
   refine ro_s2 rfl (qs_ldb fc Tryz.isAgg22 rfl rfl (by rfl)) rfl rfl ha ?_
   refine ro_s2 rfl (qs_len Tryz.underlying22 rfl rfl) rfl rfl ha ?_
   refine ro_s2 rfl (qs_sub rfl rfl rfl (by omega)) rfl rfl ha ?_
   refine ro_op2 rfl (ot_c0 rfl rfl rfl Tryz.call162 (fun w hw => mwithin_any (frAt m.frames k).func 0 ((fs.length : Int) - 1) w)) rfl rfl (.inr fun _ => ha) (fun _ _ => ?_) ro_stop
   refine ro_run tab_ok ha 1 [(0, _), (44, _), (45, _), (46, _), (60, _)] rfl ⟨rfl, rfl, rfl, rfl, rfl, trivial⟩ ?_
   refine ro_end ?_
   refine cw_cond rfl (fun hb => ?_) (fun hb => ?_)
   ·have hb : within (frAt m.frames k).func 0 ((fs.length : Int) - 1) = false := by simpa using hb
    rw [if_pos (fr_bad hkl hb)] at hE
    subst hE
    refine cw_seq ?_
    refine cw_region ?_
    refine rw_run tab_ok 1 [(2, _)] rfl ⟨rfl, trivial⟩ ?_
    refine rw_end ?_
    refine cw_ret (xw_blkr (xw_thenr (xw_thenr (xw_blkr (xw_thenr ?_)))))
    refine xw_ret1 Tryz.results165 (rv_tmp rfl) ?_
    intro w hw
    exact ⟨(), trivial, rfl, hw.msub ms⟩
   ·have hb : within (frAt m.frames k).func 0 ((fs.length : Int) - 1) = true := by simpa using hb
    refine cw_skip (xw_blkn (xw_then ?_))
    refine cw_region ?_
    refine rw_s (qs_add rfl rfl rfl (by omega)) rfl rfl ?_
    refine rw_run tab_ok 1 [(0, _), (44, _), (45, _), (46, _)] rfl ⟨rfl, rfl, rfl, rfl, trivial⟩ ?_
    refine rw_round (k + 1) (⟨by show k + 1 ≤ _; omega, fun j hj => (Nat.lt_or_ge j k).elim (hno j) (fun h => by obtain rfl : j = k := (by omega); exact hb)⟩) (by show _ - _ < _ - _; omega) ⟨rfl, rfl, rfl, rfl, trivial⟩ (fun w h => h.msub ms)
  ·obtain rfl : k = m.frames.length := by omega
   obtain ⟨hany, hfn⟩ := fr_good hno
   rw [if_neg hany] at hE
   refine cw_exit (xw_thenx (xw_thenx (xw_blk (xw_then ?_))))
   refine cw_seq ?_
   refine cw_seq ?_
   refine cw_region ?_
   refine rw_run tab_ok 4 [(0, _), (65, _)] rfl ⟨rfl, rfl, trivial⟩ ?_
   refine rw_s (qs_ldb fc Tryz.isAgg25 rfl rfl (by rfl)) rfl rfl ?_
   refine rw_s (qs_len Tryz.underlying25 rfl rfl) rfl rfl ?_
   refine rw_run tab_ok 1 [(0, _), (66, _), (67, _), (68, _)] rfl ⟨rfl, rfl, rfl, rfl, trivial⟩ ?_
   refine rw_end ?_
   refine cw_block (cw_loop (fun k : Nat => k ≤ m.frames.length ∧ (0 < k → ¬ (0 < m.frames.length ∧ (frAt m.frames 0).func ≠ 0)) ∧ firstE (frameE fs m.blocks.length m.frames) ((List.range m.frames.length).take k) = 0) (fun k => m.frames.length - k) (fun k => [(0, .pointer (some ⟨gc, 0, none⟩)), (66, .slice a.Af m.frames.length a.cf), (67, .int .i64 (m.frames.length : Int)), (68, .int .i64 (k : Int))]) (fun _ => RBox gc [.slice a.Af m.frames.length a.cf, .slice a.Ab m.blocks.length a.cb, .slice a.Ai m.inn.length a.ci, .slice a.Ao m.out.length a.co, .int .i64 m.status, .int .i64 m.trap, .slice Ap fs.length cp] 159 :: H) 0 (⟨Nat.zero_le _, fun h => absurd h (Nat.not_lt_zero _), rfl⟩) ⟨rfl, rfl, rfl, rfl, trivial⟩ (fun w h => h.msub ms) ?_)
   rintro k hk'
   obtain ⟨hk, hz0, hno2⟩ : k ≤ m.frames.length ∧ (0 < k → ¬ (0 < m.frames.length ∧ (frAt m.frames 0).func ≠ 0)) ∧ firstE (frameE fs m.blocks.length m.frames) ((List.range m.frames.length).take k) = 0 := hk'
   refine cw_seq ?_
   refine cw_region ?_
   refine rw_run tab_ok 1 [(0, _), (66, _), (67, _), (68, _), (69, _)] rfl ⟨rfl, rfl, rfl, rfl, rfl, trivial⟩ ?_
   refine rw_end ?_
   refine cw_seq ?_
   refine cw_condD rfl (fun hlt => ?_) (fun hlt => ?_)
   ·have hkl : k < m.frames.length := by omega
    obtain ⟨A1, c1, A2, c2, hl, hst, hI, hcell⟩ := hm.f.fr hkl
    refine cw_skip (xw_then ?_)
    refine cw_seq ?_
    refine cw_block ?_
    refine cw_seq ?_
    refine cw_region ?_
    refine rw_run tab_ok 1 [(0, _), (66, _), (67, _), (68, _), (70, _)] rfl ⟨rfl, rfl, rfl, rfl, rfl, trivial⟩ ?_
    refine rw_s (qs_idx Tryz.underlying25 Tryz.sizeOf66 (.ro hm.f) (by omega) rfl rfl rfl) rfl rfl ?_
    refine rw_s (qs_ldA (hcell _) rfl rfl Tryz.isAgg66 Tryz.sizeOf66) rfl rfl ?_
    refine rw_op (ot_alloc Tryz.zeroValue66 rfl rfl) rfl rfl (fun g2 _ => ?_)
    refine rw_run tab_ok 1 [(0, _), (6, _), (7, _), (66, _), (67, _), (68, _), (72, _)] rfl ⟨rfl, rfl, rfl, rfl, rfl, rfl, rfl, trivial⟩ ?_
    refine rw_op (ot_stb _ fc Tryz.sizeOf66 rfl rfl rfl rfl rfl (by rfl) rfl (by rfl)) rfl rfl (fun _ _ => ?_)
    refine rw_end ?_
    refine cw_seq ?_
    refine cw_seq ?_
    refine cw_region ?_
    refine rw_run tab_ok 3 [(0, _), (6, _), (7, _), (66, _), (67, _), (68, _), (75, _)] rfl ⟨rfl, rfl, rfl, rfl, rfl, rfl, rfl, trivial⟩ ?_
    refine rw_split (t := 75) rfl (fun hz => ?_) (fun hz => ?_)
    ·have hz := of_decide_eq_true hz
     obtain rfl : k = 0 := by omega
     refine rw_run tab_ok 1 [(0, _), (6, _), (66, _), (67, _), (68, _), (75, _), (76, _)] rfl ⟨rfl, rfl, rfl, rfl, rfl, rfl, rfl, trivial⟩ ?_
     refine rw_s (qs_ldb fc Tryz.isAgg3 rfl rfl (by rfl)) rfl rfl ?_
     refine rw_run tab_ok 2 [(0, _), (6, _), (66, _), (67, _), (68, _), (79, _)] rfl ⟨rfl, rfl, rfl, rfl, rfl, rfl, trivial⟩ ?_
     refine rw_end ?_
     refine cw_condN rfl (fun hf => ?_) (fun hf => ?_)
     ·rw [if_pos ⟨hkl, hf⟩] at hE
      subst hE
      refine cw_seq ?_
      refine cw_region ?_
      refine rw_run tab_ok 1 [(2, _)] rfl ⟨rfl, trivial⟩ ?_
      refine rw_end ?_
      refine cw_ret (xw_thenr (xw_blkr (xw_thenr (xw_thenr (xw_blkr (xw_thenr ?_))))))
      refine xw_ret1 Tryz.results165 (rv_tmp rfl) ?_
      intro w hw
      exact ⟨(), trivial, rfl, hw.msub ms⟩
     ·have h0 : ¬ (0 < m.frames.length ∧ (frAt m.frames 0).func ≠ 0) := fun h => h.2 hf
      refine cw_skip (xw_then ?_)
      refine cw_seq ?_
      refine cw_region ?_
      refine rw_run tab_ok 2 [(0, _), (66, _), (67, _), (68, _), (80, _), (81, _)] rfl ⟨rfl, rfl, rfl, rfl, rfl, rfl, trivial⟩ ?_
      refine rw_op (ot_call rfl rfl rfl Tryz.call204 (fun w hw => cframe_any gc a m Ap cp fs hs hm hF hfit 0 hkl hfn _ rfl w (hw.msub (.s fc .r)))) rfl rfl (fun _ _ => ?_)
      refine rw_run tab_ok 1 [(0, _), (8, _), (66, _), (67, _), (68, _)] rfl ⟨rfl, rfl, rfl, rfl, rfl, trivial⟩ ?_
      refine rw_end ?_
      refine cw_seq ?_
      refine cw_region ?_
      refine rw_run tab_ok 2 [(0, _), (8, _), (66, _), (67, _), (68, _), (84, _)] rfl ⟨rfl, rfl, rfl, rfl, rfl, rfl, trivial⟩ ?_
      refine rw_end ?_
      refine cw_condN rfl (fun he => ?_) (fun he => ?_)
      ·have he : frameE fs m.blocks.length m.frames 0 ≠ 0 := he
       have hsn := firstE_snoc (g := frameE fs m.blocks.length m.frames) (l := List.range m.frames.length) 0 (by rw [List.length_range]; exact hkl) hno2
       rw [range_getD hkl] at hsn
       rw [if_neg h0, firstE_of (k := 0 + 1) (by rw [hsn]; exact he), hsn] at hE
       subst hE
       refine cw_seq ?_
       refine cw_region ?_
       refine rw_run tab_ok 2 [(2, _)] rfl ⟨rfl, trivial⟩ ?_
       refine rw_end ?_
       refine cw_ret (xw_blkr (xw_thenr (xw_thenr (xw_blkr (xw_thenr ?_)))))
       refine xw_ret1 Tryz.results165 (rv_tmp rfl) ?_
       intro w hw
       exact ⟨(), trivial, rfl, hw.msub ms⟩
      ·have he : frameE fs m.blocks.length m.frames 0 = 0 := he
       have hsn := firstE_snoc (g := frameE fs m.blocks.length m.frames) (l := List.range m.frames.length) 0 (by rw [List.length_range]; exact hkl) hno2
       rw [range_getD hkl, he] at hsn
       refine cw_skip (xw_blkn (xw_then ?_))
       refine cw_region ?_
       refine rw_s (qs_add rfl rfl rfl (by omega)) rfl rfl ?_
       refine rw_run tab_ok 1 [(0, _), (66, _), (67, _), (68, _)] rfl ⟨rfl, rfl, rfl, rfl, trivial⟩ ?_
       refine rw_round 1 (⟨by show 1 ≤ _; omega, fun _ => h0, hsn⟩) (by show _ - _ < _ - _; omega) ⟨rfl, rfl, rfl, rfl, trivial⟩ (fun w h => h.msub ms)
    ·have hz := of_decide_eq_false hz
     have h0 := hz0 (by omega)
     refine rw_run tab_ok 4 [(0, _), (6, _), (66, _), (67, _), (68, _), (79, _)] rfl ⟨rfl, rfl, rfl, rfl, rfl, rfl, trivial⟩ ?_
     refine rw_end ?_
     refine cw_cond_f rfl ?_
     refine cw_skip (xw_then ?_)
     refine cw_seq ?_
     refine cw_region ?_
     refine rw_run tab_ok 2 [(0, _), (66, _), (67, _), (68, _), (80, _), (81, _)] rfl ⟨rfl, rfl, rfl, rfl, rfl, rfl, trivial⟩ ?_
     refine rw_op (ot_call rfl rfl rfl Tryz.call204 (fun w hw => cframe_any gc a m Ap cp fs hs hm hF hfit k hkl hfn _ rfl w (hw.msub (.s fc .r)))) rfl rfl (fun _ _ => ?_)
     refine rw_run tab_ok 1 [(0, _), (8, _), (66, _), (67, _), (68, _)] rfl ⟨rfl, rfl, rfl, rfl, rfl, trivial⟩ ?_
     refine rw_end ?_
     refine cw_seq ?_
     refine cw_region ?_
     refine rw_run tab_ok 2 [(0, _), (8, _), (66, _), (67, _), (68, _), (84, _)] rfl ⟨rfl, rfl, rfl, rfl, rfl, rfl, trivial⟩ ?_
     refine rw_end ?_
     refine cw_condN rfl (fun he => ?_) (fun he => ?_)
     ·have he : frameE fs m.blocks.length m.frames k ≠ 0 := he
      have hsn := firstE_snoc (g := frameE fs m.blocks.length m.frames) (l := List.range m.frames.length) 0 (by rw [List.length_range]; exact hkl) hno2
      rw [range_getD hkl] at hsn
      rw [if_neg h0, firstE_of (k := k + 1) (by rw [hsn]; exact he), hsn] at hE
      subst hE
      refine cw_seq ?_
      refine cw_region ?_
      refine rw_run tab_ok 2 [(2, _)] rfl ⟨rfl, trivial⟩ ?_
      refine rw_end ?_
      refine cw_ret (xw_blkr (xw_thenr (xw_thenr (xw_blkr (xw_thenr ?_)))))
      refine xw_ret1 Tryz.results165 (rv_tmp rfl) ?_
      intro w hw
      exact ⟨(), trivial, rfl, hw.msub ms⟩
     ·have he : frameE fs m.blocks.length m.frames k = 0 := he
      have hsn := firstE_snoc (g := frameE fs m.blocks.length m.frames) (l := List.range m.frames.length) 0 (by rw [List.length_range]; exact hkl) hno2
      rw [range_getD hkl, he] at hsn
      refine cw_skip (xw_blkn (xw_then ?_))
      refine cw_region ?_
      refine rw_s (qs_add rfl rfl rfl (by omega)) rfl rfl ?_
      refine rw_run tab_ok 1 [(0, _), (66, _), (67, _), (68, _)] rfl ⟨rfl, rfl, rfl, rfl, trivial⟩ ?_
      refine rw_round (k + 1) (⟨by show k + 1 ≤ _; omega, fun _ => h0, hsn⟩) (by show _ - _ < _ - _; omega) ⟨rfl, rfl, rfl, rfl, trivial⟩ (fun w h => h.msub ms)
   ·obtain rfl : k = m.frames.length := by omega
    rw [List.take_of_length_le (by rw [List.length_range]; exact Nat.le_refl _)] at hno2
    have h0 : ¬ (0 < m.frames.length ∧ (frAt m.frames 0).func ≠ 0) := fun h => hz0 h.1 h
    rw [if_neg h0, hno2] at hE
    subst hE
    refine cw_exit (xw_thenx (xw_thenx (xw_blk (xw_then ?_))))
    refine cw_seq ?_
    refine cw_region ?_
    refine rw_run tab_ok 1 [(2, _)] rfl ⟨rfl, trivial⟩ ?_
    refine rw_end ?_
    refine cw_ret ?_
    refine xw_ret1 Tryz.results165 (rv_tmp rfl) ?_
    intro w hw
    exact ⟨(), trivial, rfl, hw.msub ms⟩
end
end Go.Proofs.YtmnkaalchcomlaaGreat
-- Ck7
/- Machines: what is right: all of a machine; Check, Start, Step. -/
namespace Go.Proofs.YtmnkaalchcomlaaGreat
open Go.RowKit
set_option maxRecDepth 100000 in
theorem mbox1_any (n : Int) (w : World) : Calls Tryz.prog 203 #[.int .i64 n] w fun e w' => e = .returned (.bool (!isInt n)) ∧ Below w.heap.size w w' := by
 refine enter Tryz.func203 rfl Tryz.ntmps203 rfl ?_
 refine cw_seq ?_
 refine cw_region ?_
 refine rw_run tab_ok 1 [(0, _)] rfl ⟨rfl, trivial⟩ ?_
 refine rw_end ?_
 refine cw_seq ?_
 refine cw_region ?_
 refine rw_run tab_ok 1 [(3, _)] rfl ⟨rfl, trivial⟩ ?_
 refine rw_op (ot_c0 rfl rfl rfl Tryz.call113 ((fun w hw => cbelow ((fun w hw => int_any n w) w hw)))) rfl rfl (fun _ _ => ?_)
 refine rw_run tab_ok 2 [(2, _)] rfl ⟨rfl, trivial⟩ ?_
 refine rw_end ?_
 refine cw_ret ?_
 refine xw_ret1 Tryz.results203 (rv_tmp rfl) ?_
 intro w hw
 exact ⟨rfl, hw.below⟩
set_option maxRecDepth 100000 in
theorem mbox_any (A : Option Addr) (c : Nat) (l : List Int) (w : World) (hs : Sl w (.slice A l.length c) l) : Calls Tryz.prog 164 #[.slice A l.length c] w fun e w' => e = .returned (.bool (badInts l)) ∧ Below w.heap.size w w' := by
 refine enter Tryz.func164 rfl Tryz.ntmps164 rfl ?_
 refine cw_seq ?_
 refine cw_region ?_
 refine rw_run tab_ok 1 [(0, _)] rfl ⟨rfl, trivial⟩ ?_
 refine rw_end ?_
 refine cw_seq ?_
 refine cw_region ?_
 refine rw_run tab_ok 1 [(3, _)] rfl ⟨rfl, trivial⟩ ?_
 refine rw_op (ot_c0 rfl rfl rfl Tryz.call136 (fun w hw => containsfInt A c l 203 #[] (fun n => !isInt n) w (hw.ro hs) Tryz.call203 (fun w1 _ x _ => mbox1_any x w1))) rfl rfl (fun _ _ => ?_)
 refine rw_run tab_ok 1 [(2, _)] rfl ⟨rfl, trivial⟩ ?_
 refine rw_end ?_
 refine cw_ret ?_
 refine xw_ret1 Tryz.results164 (rv_tmp rfl) ?_
 intro w hw
 exact ⟨rfl, hw.below⟩
theorem frTop_eq (m : MMach) : frTop m = frAt m.frames (m.frames.length - 1) := by
 unfold frTop frAt
 rw [List.getLastD_eq_getLast?, List.getLast?_eq_getElem?, List.getD_eq_getElem?_getD]
section
variable {B : Nat} {w0 : World} {H : List Res}
set_option maxRecDepth 100000 in
set_option maxHeartbeats 4000000 in
theorem call_all_any (gc : Nat) (a : MA) (m : MMach) (Ap : Option Addr) (cp : Nat) (fs : List MFunc) (hs : SlB w0 B (.slice Ap fs.length cp) fs) (hm : MIn B w0 a m) (hF : Fitd fs) (hfit : FitF m.frames) (E : Int) (hE : rightE fs m = E) (w : World) (hw : Cw B w0 (RBox gc [.slice a.Af m.frames.length a.cf, .slice a.Ab m.blocks.length a.cb, .slice a.Ai m.inn.length a.ci, .slice a.Ao m.out.length a.co, .int .i64 m.status, .int .i64 m.trap, .slice Ap fs.length cp] 159 :: H) w) :
  Calls Tryz.prog 124 #[.pointer (some ⟨gc, 0, none⟩)] w fun e w' => ∃ _ : Unit, True ∧ e = .returned (.int .i64 E) ∧ Cw B w0 (RBox gc [.slice a.Af m.frames.length a.cf, .slice a.Ab m.blocks.length a.cb, .slice a.Ai m.inn.length a.ci, .slice a.Ao m.out.length a.co, .int .i64 m.status, .int .i64 m.trap, .slice Ap fs.length cp] 159 :: H) w' := by
 have bf := len_bd hm.f
 have bp := len_bd hs
 unfold rightE at hE
 refine enter_own Tryz.func124 rfl Tryz.ntmps124 rfl hw ?_
 refine cw_seq ?_
 refine cw_region ?_
 refine rw_run tab_ok 1 [(0, _)] rfl ⟨rfl, trivial⟩ ?_
 refine rw_end ?_
 refine cw_seq ?_
 refine cw_region ?_
 refine rw_run tab_ok 2 [(0, _), (3, _), (4, _)] rfl ⟨rfl, rfl, rfl, trivial⟩ ?_
 refine rw_end ?_
 refine cw_cut (fun _ : Unit => True) (fun _ => [(0, .pointer (some ⟨gc, 0, none⟩)), (3, .int .i64 (if m.status = 3 then 1 else 0)), (4, .int .i64 (if m.status = 3 then 5 else 0))]) (fun _ => RBox gc [.slice a.Af m.frames.length a.cf, .slice a.Ab m.blocks.length a.cb, .slice a.Ai m.inn.length a.ci, .slice a.Ao m.out.length a.co, .int .i64 m.status, .int .i64 m.trap, .slice Ap fs.length cp] 159 :: H) ?_ ?_
 ·refine cw_seq ?_
  refine cw_region ?_
  refine rw_run tab_ok 4 [(0, _), (3, _), (4, _), (11, _)] rfl ⟨rfl, rfl, rfl, rfl, trivial⟩ ?_
  refine rw_s (qs_ldb fc Tryz.isAgg3 rfl rfl (by rfl)) rfl rfl ?_
  refine rw_run tab_ok 1 [(0, _), (3, _), (4, _), (13, _)] rfl ⟨rfl, rfl, rfl, rfl, trivial⟩ ?_
  refine rw_end ?_
  refine cw_condD rfl (fun h3 => ?_) (fun h3 => ?_)
  ·rw [if_pos h3, if_pos h3]
   refine cw_region ?_
   refine rw_run tab_ok 2 [(0, _), (3, _), (4, _)] rfl ⟨rfl, rfl, rfl, trivial⟩ ?_
   refine rw_join () (trivial) ⟨rfl, rfl, rfl, trivial⟩ (fun _ h => h.msub ms)
  ·rw [if_neg h3, if_neg h3]
   refine cw_skip ?_
   refine xw_join () (trivial) ⟨rfl, rfl, rfl, trivial⟩ (fun _ h => h.msub ms)
 ·rintro ⟨⟩ _
  refine cw_seq ?_
  refine cw_block ?_
  refine cw_seq ?_
  refine cw_region ?_
  refine rw_run tab_ok 4 [(0, _), (3, _), (4, _), (18, _)] rfl ⟨rfl, rfl, rfl, rfl, trivial⟩ ?_
  refine rw_s (qs_ldb fc Tryz.isAgg3 rfl rfl (by rfl)) rfl rfl ?_
  refine rw_op (ot_c0 rfl rfl rfl Tryz.call162 (fun w hw => mwithin_any m.status 0 3 w)) rfl rfl (fun _ _ => ?_)
  refine rw_run tab_ok 2 [(0, _), (3, _), (4, _), (14, _)] rfl ⟨rfl, rfl, rfl, rfl, trivial⟩ ?_
  refine rw_end ?_
  refine cw_cond rfl (fun h1 => ?_) (fun h1 => ?_)
  ·rw [if_pos (by simpa using h1)] at hE
   subst hE
   refine cw_seq ?_
   refine cw_region ?_
   refine rw_run tab_ok 1 [(2, _)] rfl ⟨rfl, trivial⟩ ?_
   refine rw_end ?_
   refine cw_ret (xw_blkr (xw_thenr ?_))
   refine xw_ret1 Tryz.results124 (rv_tmp rfl) ?_
   intro w hw
   exact ⟨(), trivial, rfl, hw.msub ms⟩
  ·rw [if_neg (by simpa using h1)] at hE
   refine cw_seq ?_
   refine cw_region ?_
   refine rw_run tab_ok 4 [(0, _), (3, _), (4, _), (26, _)] rfl ⟨rfl, rfl, rfl, rfl, trivial⟩ ?_
   refine rw_s (qs_ldb fc Tryz.isAgg3 rfl rfl (by rfl)) rfl rfl ?_
   refine rw_run tab_ok 2 [(0, _), (27, _), (28, _), (29, _)] rfl ⟨rfl, rfl, rfl, rfl, trivial⟩ ?_
   refine rw_op (ot_c0 rfl rfl rfl Tryz.call162 (fun w hw => mwithin_any m.trap _ _ w)) rfl rfl (fun _ _ => ?_)
   refine rw_run tab_ok 2 [(0, _), (22, _)] rfl ⟨rfl, rfl, trivial⟩ ?_
   refine rw_end ?_
   refine cw_cond rfl (fun h2 => ?_) (fun h2 => ?_)
   ·rw [if_pos (by simpa using h2)] at hE
    subst hE
    refine cw_seq ?_
    refine cw_region ?_
    refine rw_run tab_ok 1 [(2, _)] rfl ⟨rfl, trivial⟩ ?_
    refine rw_end ?_
    refine cw_ret (xw_blkr (xw_thenr ?_))
    refine xw_ret1 Tryz.results124 (rv_tmp rfl) ?_
    intro w hw
    exact ⟨(), trivial, rfl, hw.msub ms⟩
   ·rw [if_neg (by simpa using h2)] at hE
    refine cw_skip (xw_blkn (xw_then ?_))
    refine cw_seq ?_
    refine cw_seq ?_
    refine cw_region ?_
    refine rw_run tab_ok 4 [(0, _), (35, _)] rfl ⟨rfl, rfl, trivial⟩ ?_
    refine rw_s (qs_ldb fc Tryz.isAgg26 rfl rfl (by rfl)) rfl rfl ?_
    refine rw_op (ot_c0 rfl rfl rfl Tryz.call163 (fun w hw => checkB_any _ m.blocks w (hw.ro hm.b))) rfl rfl (fun _ _ => ?_)
    refine rw_run tab_ok 1 [(0, _), (5, _)] rfl ⟨rfl, rfl, trivial⟩ ?_
    refine rw_end ?_
    refine cw_seq ?_
    refine cw_region ?_
    refine rw_run tab_ok 2 [(0, _), (5, _), (39, _)] rfl ⟨rfl, rfl, rfl, trivial⟩ ?_
    refine rw_end ?_
    refine cw_condN rfl (fun h3 => ?_) (fun h3 => ?_)
    ·rw [if_pos h3] at hE
     subst hE
     refine cw_seq ?_
     refine cw_region ?_
     refine rw_run tab_ok 2 [(2, _)] rfl ⟨rfl, trivial⟩ ?_
     refine rw_end ?_
     refine cw_ret (xw_thenr ?_)
     refine xw_ret1 Tryz.results124 (rv_tmp rfl) ?_
     intro w hw
     exact ⟨(), trivial, rfl, hw.msub ms⟩
    ·rw [if_neg (fun h => h h3)] at hE
     refine cw_skip (xw_then ?_)
     refine cw_cut (fun _ : Unit => (¬ (10 < m.inn.length ∨ 10 < m.out.length)) ∧ ¬ (badInts m.inn = true ∨ badInts m.out = true)) (fun _ => [(0, .pointer (some ⟨gc, 0, none⟩))]) (fun _ => RBox gc [.slice a.Af m.frames.length a.cf, .slice a.Ab m.blocks.length a.cb, .slice a.Ai m.inn.length a.ci, .slice a.Ao m.out.length a.co, .int .i64 m.status, .int .i64 m.trap, .slice Ap fs.length cp] 159 :: H) ?_ ?_
     ·refine cw_block ?_
      refine cw_seq ?_
      refine cw_region ?_
      refine rw_run tab_ok 4 [(0, _), (45, _)] rfl ⟨rfl, rfl, trivial⟩ ?_
      refine rw_s (qs_ldb fc Tryz.isAgg27 rfl rfl (by rfl)) rfl rfl ?_
      refine rw_s (qs_len Tryz.underlying27 rfl rfl) rfl rfl ?_
      refine rw_run tab_ok 2 [(0, _), (49, _)] rfl ⟨rfl, rfl, trivial⟩ ?_
      refine rw_split (t := 49) rfl (fun h4 => ?_) (fun h4 => ?_)
      ·have h4 := of_decide_eq_true h4
       rw [if_pos (.inl (by omega))] at hE
       subst hE
       refine rw_run tab_ok 9 [(0, _), (41, _)] rfl ⟨rfl, rfl, trivial⟩ ?_
       refine rw_end ?_
       refine cw_cond_t rfl ?_
       refine cw_seq ?_
       refine cw_region ?_
       refine rw_run tab_ok 1 [(2, _)] rfl ⟨rfl, trivial⟩ ?_
       refine rw_end ?_
       refine cw_ret (xw_blkr (xw_thenr ?_))
       refine xw_ret1 Tryz.results124 (rv_tmp rfl) ?_
       intro w hw
       exact ⟨(), trivial, rfl, hw.msub ms⟩
      ·have h4 := of_decide_eq_false h4
       refine rw_run tab_ok 4 [(0, _), (49, _), (53, _)] rfl ⟨rfl, rfl, rfl, trivial⟩ ?_
       refine rw_s (qs_ldb fc Tryz.isAgg27 rfl rfl (by rfl)) rfl rfl ?_
       refine rw_s (qs_len Tryz.underlying27 rfl rfl) rfl rfl ?_
       refine rw_run tab_ok 3 [(0, _), (41, _)] rfl ⟨rfl, rfl, trivial⟩ ?_
       refine rw_end ?_
       refine cw_condD rfl (fun h5 => ?_) (fun h5 => ?_)
       ·rw [if_pos (.inr (by omega))] at hE
        subst hE
        refine cw_seq ?_
        refine cw_region ?_
        refine rw_run tab_ok 1 [(2, _)] rfl ⟨rfl, trivial⟩ ?_
        refine rw_end ?_
        refine cw_ret (xw_blkr (xw_thenr ?_))
        refine xw_ret1 Tryz.results124 (rv_tmp rfl) ?_
        intro w hw
        exact ⟨(), trivial, rfl, hw.msub ms⟩
       ·have h45 : ¬ (10 < m.inn.length ∨ 10 < m.out.length) := by omega
        rw [if_neg h45] at hE
        refine cw_seq ?_
        refine cw_region ?_
        refine rw_run tab_ok 4 [(0, _), (62, _)] rfl ⟨rfl, rfl, trivial⟩ ?_
        refine rw_s (qs_ldb fc Tryz.isAgg27 rfl rfl (by rfl)) rfl rfl ?_
        refine rw_op (ot_c0 rfl rfl rfl Tryz.call164 (fun w hw => mbox_any a.Ai a.ci m.inn w (hw.ro hm.i))) rfl rfl (fun _ _ => ?_)
        refine rw_run tab_ok 1 [(0, _), (65, _)] rfl ⟨rfl, rfl, trivial⟩ ?_
        refine rw_split (t := 65) rfl (fun h6 => ?_) (fun h6 => ?_)
        ·rw [if_pos (.inl h6)] at hE
         subst hE
         refine rw_run tab_ok 8 [(0, _), (58, _)] rfl ⟨rfl, rfl, trivial⟩ ?_
         refine rw_end ?_
         refine cw_cond_t rfl ?_
         refine cw_seq ?_
         refine cw_region ?_
         refine rw_run tab_ok 1 [(2, _)] rfl ⟨rfl, trivial⟩ ?_
         refine rw_end ?_
         refine cw_ret (xw_blkr (xw_thenr ?_))
         refine xw_ret1 Tryz.results124 (rv_tmp rfl) ?_
         intro w hw
         exact ⟨(), trivial, rfl, hw.msub ms⟩
        ·refine rw_run tab_ok 4 [(0, _), (65, _), (69, _)] rfl ⟨rfl, rfl, rfl, trivial⟩ ?_
         refine rw_s (qs_ldb fc Tryz.isAgg27 rfl rfl (by rfl)) rfl rfl ?_
         refine rw_op (ot_c0 rfl rfl rfl Tryz.call164 (fun w hw => mbox_any a.Ao a.co m.out w (hw.ro hm.o))) rfl rfl (fun _ _ => ?_)
         refine rw_run tab_ok 2 [(0, _), (58, _)] rfl ⟨rfl, rfl, trivial⟩ ?_
         refine rw_end ?_
         refine cw_cond rfl (fun h7 => ?_) (fun h7 => ?_)
         ·rw [if_pos (.inr h7)] at hE
          subst hE
          refine cw_seq ?_
          refine cw_region ?_
          refine rw_run tab_ok 1 [(2, _)] rfl ⟨rfl, trivial⟩ ?_
          refine rw_end ?_
          refine cw_ret (xw_blkr (xw_thenr ?_))
          refine xw_ret1 Tryz.results124 (rv_tmp rfl) ?_
          intro w hw
          exact ⟨(), trivial, rfl, hw.msub ms⟩
         ·have h67 : ¬ (badInts m.inn = true ∨ badInts m.out = true) := by rw [h6, h7]; simp
          refine cw_skip (xw_blkn ?_)
          refine xw_join () (⟨h45, h67⟩) ⟨rfl, trivial⟩ (fun _ h => h.msub ms)
     ·rintro ⟨⟩ ⟨h4, h5⟩
      rw [if_neg h4, if_neg h5] at hE
      refine cw_seq ?_
      refine cw_seq ?_
      refine cw_region ?_
      refine rw_run tab_ok 1 [(0, _), (73, _)] rfl ⟨rfl, rfl, trivial⟩ ?_
      refine rw_op (ot_call rfl rfl rfl Tryz.call165 (fun w hw => cframes_any gc a m Ap cp fs hs hm hF hfit _ rfl w (hw.msub (.s fc .r)))) rfl rfl (fun _ _ => ?_)
      refine rw_run tab_ok 1 [(0, _), (6, _)] rfl ⟨rfl, rfl, trivial⟩ ?_
      refine rw_end ?_
      refine cw_seq ?_
      refine cw_region ?_
      refine rw_run tab_ok 2 [(0, _), (6, _), (76, _)] rfl ⟨rfl, rfl, rfl, trivial⟩ ?_
      refine rw_end ?_
      refine cw_condN rfl (fun h6 => ?_) (fun h6 => ?_)
      ·rw [if_pos h6] at hE
       subst hE
       refine cw_seq ?_
       refine cw_region ?_
       refine rw_run tab_ok 2 [(2, _)] rfl ⟨rfl, trivial⟩ ?_
       refine rw_end ?_
       refine cw_ret (xw_thenr ?_)
       refine xw_ret1 Tryz.results124 (rv_tmp rfl) ?_
       intro w hw
       exact ⟨(), trivial, rfl, hw.msub ms⟩
      ·rw [if_neg (fun h => h h6)] at hE
       refine cw_skip (xw_then ?_)
       refine cw_seq ?_
       refine cw_seq ?_
       refine cw_region ?_
       refine rw_run tab_ok 4 [(0, _), (81, _)] rfl ⟨rfl, rfl, trivial⟩ ?_
       refine rw_s (qs_ldb fc Tryz.isAgg3 rfl rfl (by rfl)) rfl rfl ?_
       refine rw_run tab_ok 1 [(0, _), (83, _)] rfl ⟨rfl, rfl, trivial⟩ ?_
       refine rw_end ?_
       refine cw_condN rfl (fun h7 => ?_) (fun h7 => ?_)
       ·rw [if_pos h7] at hE
        subst hE
        refine cw_seq ?_
        refine cw_region ?_
        refine rw_run tab_ok 1 [(2, _)] rfl ⟨rfl, trivial⟩ ?_
        refine rw_end ?_
        refine cw_ret (xw_thenr ?_)
        refine xw_ret1 Tryz.results124 (rv_tmp rfl) ?_
        intro w hw
        exact ⟨(), trivial, rfl, hw.msub ms⟩
       ·rw [if_neg (fun h => h h7)] at hE
        obtain ⟨_, hdn, hfn, _, hfr⟩ := framesE_iff.1 h6
        have hne : m.frames.length ≠ 0 := fun h => by
         have := hdn.1 (List.eq_nil_of_length_eq_zero h)
         omega
        obtain ⟨k, hk⟩ : ∃ k, m.frames.length = k + 1 := ⟨m.frames.length - 1, by omega⟩
        have hkl : k < m.frames.length := by omega
        obtain ⟨A1, c1, A2, c2, hl, hst, hI, hcell⟩ := hm.f.fr hkl
        have hx := hfn _ (frAt_mem hkl)
        obtain ⟨kf, hkf⟩ : ∃ kf : Nat, (frAt m.frames k).func = kf := ⟨(frAt m.frames k).func.toNat, by omega⟩
        have hkfl : kf < fs.length := by omega
        obtain ⟨F1, d1, F2, d2, hfl, hfc, hfi, hfcell⟩ := hs.fn hkfl
        obtain ⟨t, ht, _⟩ := hfr k hkl
        unfold wantS frF at ht
        rw [if_pos hk.symm, hkf, Int.toNat_natCast] at ht
        obtain ⟨hp0, hp1, _⟩ := (hF.e _ hkfl).at_ _ _ ht
        have hop : opOf fs m = opAt (fnAt fs kf).code (frAt m.frames k).pc.toNat := by
         unfold opOf
         rw [frTop_eq, hk, Nat.add_sub_cancel, hkf, Int.toNat_natCast]
        rw [hop] at hE
        rw [hkf] at hcell
        refine cw_skip (xw_then ?_)
        refine cw_seq ?_
        refine cw_draw (.still 0 (.still 1 (.still 2 (.still 3 (.still 4 (.still 5 (.still 6 (.still 7 (.still 8 (.still 9 (.still 10 (.still 11 (.still 12 (.still 13 (.pick 14 (.pick 15 .done .stop) .stop))))))))))))))) [15] rfl (by kernel_rfl) (by kernel_rfl) ?_
        refine ro_run tab_ok ha 4 [(0, _), (87, _)] rfl ⟨rfl, rfl, trivial⟩ ?_
        refine ro_s2 rfl (qs_ldb fc Tryz.isAgg25 rfl rfl (by rfl)) rfl rfl ha ?_
        refine ro_run tab_ok ha 4 [(0, _), (88, _), (92, _)] rfl ⟨rfl, rfl, rfl, trivial⟩ ?_
        refine ro_s2 rfl (qs_ldb fc Tryz.isAgg25 rfl rfl (by rfl)) rfl rfl ha ?_
        refine ro_s2 rfl (qs_len Tryz.underlying25 rfl rfl) rfl rfl ha ?_
        refine ro_s2 rfl (qs_sub rfl rfl rfl (by omega)) rfl rfl ha ?_
        refine ro_as (t := 95) (v' := .int .i64 (k : Int)) rfl (by rw [hk]; congr 1; omega) ?_
        refine ro_s2 rfl (qs_idx (k := k) Tryz.underlying25 Tryz.sizeOf66 (.ro hm.f) hkl rfl rfl rfl) rfl rfl ha ?_
        refine ro_s2 rfl (qs_ldA (hcell _) rfl rfl Tryz.isAgg66 Tryz.sizeOf66) rfl rfl ha ?_
        refine ro_op2 rfl (ot_alloc Tryz.zeroValue66 rfl rfl) rfl rfl (.inr fun _ => ha) (fun g1 _ => ?_) ro_stop
        refine ro_op2 rfl (ot_stb _ fc Tryz.sizeOf66 rfl rfl rfl rfl rfl (by rfl) rfl (by rfl)) rfl rfl (.inl rfl) (fun _ _ => ?_) ro_stop
        refine ro_end ?_
        refine cw_seq ?_
        refine cw_seq ?_
        refine cw_draw (.still 0 (.still 1 (.still 2 (.still 3 (.still 4 (.still 5 (.still 6 (.still 7 (.still 8 (.still 9 (.still 10 (.still 11 (.still 12 (.still 13 (.still 14 (.still 15 (.still 16 (.still 17 (.still 18 (.still 19 (.still 20 (.still 21 (.still 22 (.still 23 (.still 24 .done))))))))))))))))))))))))) [] rfl (by kernel_rfl) (by kernel_rfl) ?_
        refine ro_run tab_ok ha 4 [(0, _), (7, _), (101, _)] rfl ⟨rfl, rfl, rfl, trivial⟩ ?_
        refine ro_s2 rfl (qs_ldb fc Tryz.isAgg27 rfl rfl (by rfl)) rfl rfl ha ?_
        refine ro_s2 rfl (qs_len Tryz.underlying27 rfl rfl) rfl rfl ha ?_
        refine ro_run tab_ok ha 2 [(0, _), (7, _), (105, _)] rfl ⟨rfl, rfl, rfl, trivial⟩ ?_
        refine ro_split (t := 105) rfl (fun h8 => ?_) (fun h8 => ?_)
        ·have h8 := of_decide_eq_true h8
         rw [if_pos (.inl (by omega))] at hE
         subst hE
         refine ro_run tab_ok ha 17 [(122, _)] rfl ⟨rfl, trivial⟩ ?_
         refine ro_end ?_
         refine cw_cond_t rfl ?_
         refine cw_seq ?_
         refine cw_region ?_
         refine rw_run tab_ok 1 [(2, _)] rfl ⟨rfl, trivial⟩ ?_
         refine rw_end ?_
         refine cw_ret (xw_thenr ?_)
         refine xw_ret1 Tryz.results124 (rv_tmp rfl) ?_
         intro w hw
         exact ⟨(), trivial, rfl, hw.msub ms⟩
        ·have h8 := of_decide_eq_false h8
         refine ro_run tab_ok ha 4 [(7, _), (105, _), (109, _)] rfl ⟨rfl, rfl, rfl, trivial⟩ ?_
         refine ro_s2 rfl (qs_ldb fc Tryz.isAgg22 rfl rfl (by rfl)) rfl rfl ha ?_
         refine ro_run tab_ok ha 1 [(7, _), (105, _), (110, _), (111, _)] rfl ⟨rfl, rfl, rfl, rfl, trivial⟩ ?_
         refine ro_s2 rfl (qs_ldb fc Tryz.isAgg3 rfl rfl (by rfl)) rfl rfl ha ?_
         refine ro_s2 rfl (qs_idx (k := kf) Tryz.underlying22 Tryz.sizeOf113 (.ro hs) (by omega) rfl rfl rfl) rfl rfl ha ?_
         refine ro_run tab_ok ha 1 [(7, _), (105, _), (114, _)] rfl ⟨rfl, rfl, rfl, trivial⟩ ?_
         refine ro_s2 rfl (qs_ld (fun w hw => hfcell _ w hw 3 _ rfl) rfl rfl Tryz.isAgg111) rfl rfl ha ?_
         refine ro_run tab_ok ha 1 [(105, _), (115, _), (116, _)] rfl ⟨rfl, rfl, rfl, trivial⟩ ?_
         refine ro_s2 rfl (qs_ldb fc Tryz.isAgg3 rfl rfl (by rfl)) rfl rfl ha ?_
         refine ro_s2 rfl (qs_idxI Tryz.underlying111 Tryz.sizeOf51 (.ro hfc) (by omega) rfl rfl rfl) rfl rfl ha ?_
         refine ro_run tab_ok ha 1 [(105, _), (119, _)] rfl ⟨rfl, rfl, trivial⟩ ?_
         refine ro_s2 rfl (qs_ld (SF.opc (.ro hfc) (by omega)) rfl rfl Tryz.isAgg3) rfl rfl ha ?_
         refine ro_run tab_ok ha 2 [(122, _)] rfl ⟨rfl, trivial⟩ ?_
         refine ro_end ?_
         refine cw_condN rfl (fun h9 => ?_) (fun h9 => ?_)
         ·rw [if_pos (.inr h9)] at hE
          subst hE
          refine cw_seq ?_
          refine cw_region ?_
          refine rw_run tab_ok 1 [(2, _)] rfl ⟨rfl, trivial⟩ ?_
          refine rw_end ?_
          refine cw_ret (xw_thenr ?_)
          refine xw_ret1 Tryz.results124 (rv_tmp rfl) ?_
          intro w hw
          exact ⟨(), trivial, rfl, hw.msub ms⟩
         ·have h9 : (opAt (fnAt fs kf).code (frAt m.frames k).pc.toNat).c = 21 := h9
          rw [if_neg (fun h => h.elim (fun h => h8 (by omega)) (fun h => h h9))] at hE
          subst hE
          refine cw_skip (xw_then ?_)
          refine cw_seq ?_
          refine cw_region ?_
          refine rw_run tab_ok 1 [(2, _)] rfl ⟨rfl, trivial⟩ ?_
          refine rw_end ?_
          refine cw_ret ?_
          refine xw_ret1 Tryz.results124 (rv_tmp rfl) ?_
          intro w hw
          exact ⟨(), trivial, rfl, hw.msub ms⟩
end
set_option maxRecDepth 100000 in
set_option maxHeartbeats 1000000 in
theorem mright_any (Ap : Option Addr) (cp : Nat) (fs : List MFunc) (a : MA) (m : MMach) (w : World) (hs : Sl w (.slice Ap fs.length cp) fs) (hm : MIn w.heap.size w a m) (hF : Fitd fs) (hfit : FitF m.frames) :
  Calls Tryz.prog 70 #[.agg #[.slice Ap fs.length cp], .agg #[.slice a.Af m.frames.length a.cf, .slice a.Ab m.blocks.length a.cb, .slice a.Ai m.inn.length a.ci, .slice a.Ao m.out.length a.co, .int .i64 m.status, .int .i64 m.trap]] w fun e w' => e = .returned (.int .i64 (rightE fs m)) ∧ Below w.heap.size w w' := by
 refine enter Tryz.func70 rfl Tryz.ntmps70 rfl ?_
 refine cw_seq ?_
 refine cw_region ?_
 refine rw_op (ot_box rfl rfl rfl) rfl rfl (fun g1 _ => ?_)
 refine rw_op (ot_box rfl rfl rfl) rfl rfl (fun g2 _ => ?_)
 refine rw_run tab_ok 1 [(2, _), (3, _)] rfl ⟨rfl, rfl, trivial⟩ ?_
 refine rw_end ?_
 refine cw_seq ?_
 refine cw_region ?_
 refine rw_s (qs_ldbA (vs := [_, _, _, _, _, _]) fc Tryz.isAgg29 Tryz.sizeOf29 rfl rfl (by rfl) rfl) rfl rfl ?_
 refine rw_s (qs_ldbA (vs := [_]) fc Tryz.isAgg24 Tryz.sizeOf24 rfl rfl (by rfl) rfl) rfl rfl ?_
 refine rw_s (qs_bst (cs := [_, _, _, _, _, _, _]) plT159 Tryz.zeroValue159 rfl rfl (by rfl)) rfl rfl ?_
 refine rw_op (ot_box rfl rfl rfl) rfl rfl (fun g3 _ => ?_)
 refine rw_run tab_ok 1 [(5, _)] rfl ⟨rfl, trivial⟩ ?_
 refine rw_end ?_
 refine cw_seq ?_
 refine cw_region ?_
 refine rw_run tab_ok 1 [(10, _)] rfl ⟨rfl, trivial⟩ ?_
 refine rw_op (ot_call rfl rfl rfl Tryz.call124 (fun w hw => call_all_any g3 a m Ap cp fs hs hm hF hfit _ rfl w (hw.msub (.s fc .r)))) rfl rfl (fun _ _ => ?_)
 refine rw_run tab_ok 1 [(4, _)] rfl ⟨rfl, trivial⟩ ?_
 refine rw_end ?_
 refine cw_ret ?_
 refine xw_ret1 Tryz.results70 (rv_tmp rfl) ?_
 intro w hw
 exact ⟨rfl, hw.below⟩
end Go.Proofs.YtmnkaalchcomlaaGreat
-- Ck8
/- Machines: New, Start, Step. -/
namespace Go.Proofs.YtmnkaalchcomlaaGreat
open Go.RowKit
theorem stepOk_of {B : Nat} {w : World} {Ap : Option Addr} {cp : Nat} {fs : List MFunc} (hs : SlB w B (.slice Ap fs.length cp) fs) (hF : Fitd fs) {m : MMach} (hR : RightM fs m) (hst : ¬ (m.status = 2 ∨ m.status = 3)) : ∃ li x kf, StepOk fs m li x kf := by
 have hne : m.frames ≠ [] := fun e => hst (.inl (hR.dn.1 e))
 obtain ⟨li, x, e⟩ : ∃ li x, m.frames = li ++ [x] := by
  rcases List.eq_nil_or_concat m.frames with h1 | ⟨l, z, h1⟩
  ·exact absurd h1 hne
  ·exact ⟨l, z, by rw [h1]; simp⟩
 obtain ⟨hfn, hloc, t, he, hts⟩ := hR.top e
 obtain ⟨kf, hkf⟩ : ∃ kf : Nat, x.func = kf := ⟨x.func.toNat, by omega⟩
 rw [hkf, Int.toNat_natCast] at he hloc
 have hkl : kf < fs.length := by omega
 obtain ⟨hp0, hp1, ht8, _⟩ := (hF.e _ hkl).at_ _ _ he
 obtain ⟨hok, _⟩ := fn_ok hF.p hkl
 obtain ⟨F1, d1, F2, d2, hfl, hfc, hfi, hfcell⟩ := hs.fn hkl
 have hn6 := hR.n6
 rw [e, List.length_append, List.length_singleton] at hn6
 refine ⟨li, x, kf, e, hkf, hkl, ⟨hp0, hp1⟩, needs_of hF hkl (x := { x with pc := x.pc + 1 }) hkf he hts hloc.len, hR.bl, by rw [hts.len]; omega, fun y hy => ?_, by have := hR.ob; omega, by omega, (op_i64 hfc (by omega)).2, by have := hok.n40; omega⟩
 obtain ⟨i, hi, rfl⟩ := List.getElem_of_mem hy
 obtain ⟨u, hu, _, hus⟩ := hR.fr i (by rw [e, List.length_append]; omega)
 have hfi2 : frAt m.frames i = li[i] := by
  rw [e, fr_lt hi]
  unfold frAt
  rw [List.getD_eq_getElem?_getD, List.getElem?_eq_getElem hi]
  rfl
 rw [hfi2] at hus
 rw [hus.len]
 have hz := hR.fn _ (frAt_mem (l := m.frames) (k := i) (by rw [e, List.length_append]; omega))
 have hkz : (frAt m.frames i).func.toNat < fs.length := by omega
 unfold wantS frF at hu
 split at hu
 ·have := ((hF.e _ hkz).at_ _ _ hu).2.2.1
  omega
 ·split at hu
  ·cases hu
  ·split at hu
   ·cases hu
   ·cases h5 : entF fs (fnAt fs (frAt m.frames i).func.toNat) (frAt m.frames i).pc with
    | none => rw [h5] at hu; cases hu
    | some t2 =>
     rw [h5] at hu
     have hu : (if (fnAt fs (frAt m.frames (i + 1)).func.toNat).result ≠ 0 then t2.dropLast else t2) = u := Option.some.inj hu
     have := ((hF.e _ hkz).at_ _ _ h5).2.2.1
     rw [← hu]
     split
     ·rw [List.length_dropLast]; omega
     ·omega
theorem prog_posF {fs : List MFunc} (hF : Fitd fs) : 0 < fs.length := by
 have := (checkP_zero hF.p).1
 omega
theorem fr_small {fs : List MFunc} (hF : Fitd fs) {m : MMach} (hR : RightM fs m) {i : Nat} (hi : i < m.frames.length) : (frAt m.frames i).stack.length ≤ 8 ∧ (frAt m.frames i).locals.length ≤ 1000 := by
 obtain ⟨u, hu, hul, hus⟩ := hR.fr i hi
 have hz := hR.fn _ (frAt_mem hi)
 have hkz : (frAt m.frames i).func.toNat < fs.length := by omega
 rw [hus.len, hul.len]
 have hn40 := ((fn_ok hF.p (prog_posF hF)).1.op 0 (fn_ok hF.p (prog_posF hF)).2).par _ hkz |>.2
 refine ⟨?_, by unfold frF; omega⟩
 unfold wantS frF at hu
 split at hu
 ·have := ((hF.e _ hkz).at_ _ _ hu).2.2.1
  omega
 ·split at hu
  ·cases hu
  ·split at hu
   ·cases hu
   ·cases h5 : entF fs (fnAt fs (frAt m.frames i).func.toNat) (frAt m.frames i).pc with
    | none => rw [h5] at hu; cases hu
    | some t2 =>
     rw [h5] at hu
     have hu : (if (fnAt fs (frAt m.frames (i + 1)).func.toNat).result ≠ 0 then t2.dropLast else t2) = u := Option.some.inj hu
     have := ((hF.e _ hkz).at_ _ _ h5).2.2.1
     rw [← hu]
     split
     ·rw [List.length_dropLast]; omega
     ·omega
theorem fitM_of {fs : List MFunc} (hF : Fitd fs) {m : MMach} (hR : RightM fs m) : FitM m := by
 refine ⟨⟨by have := hR.n6; omega, fun x hx => ?_⟩, Fit.of_check hR.bl, by have := hR.ib; omega, by have := hR.ob; omega⟩
 obtain ⟨i, hi, rfl⟩ := List.getElem_of_mem hx
 have h := fr_small hF hR hi
 have e : frAt m.frames i = m.frames[i] := by
  unfold frAt
  rw [List.getD_eq_getElem?_getD, List.getElem?_eq_getElem hi]
  rfl
 rw [e] at h
 omega
def newM (fs : List MFunc) : MMach := ⟨[⟨0, 0, freshS (fnAt fs 0).locals, []⟩], [], [], [], 0, 0⟩
def startM (fs : List MFunc) : MMach := if progS fs = 0 then newM fs else default
def stepR (fs : List MFunc) (m : MMach) : MMach := if machE fs m = 0 then stepM fs m else default
theorem prog_pos {fs : List MFunc} (h : progS fs = 0) : 0 < fs.length := by
 have := (checkP_zero (fitd h).p).1
 omega
set_option maxRecDepth 100000 in
set_option maxHeartbeats 1000000 in
theorem mnew_any (Ap : Option Addr) (cp : Nat) (fs : List MFunc) (w : World) (hs : Sl w (.slice Ap fs.length cp) fs) (h0 : 0 < fs.length) (hl6 : (fnAt fs 0).locals.length ≤ 1000) :
  Calls Tryz.prog 85 #[.agg #[.slice Ap fs.length cp]] w fun e w' => ∃ g : MA, True ∧
   e = .returned (.agg #[.slice g.Af (newM fs).frames.length g.cf, .slice g.Ab (newM fs).blocks.length g.cb, .slice g.Ai (newM fs).inn.length g.ci, .slice g.Ao (newM fs).out.length g.co, .int .i64 (newM fs).status, .int .i64 (newM fs).trap]) ∧
   Cw w.heap.size w [ROw (.slice g.Af (newM fs).frames.length g.cf) (newM fs).frames, ROw (.slice g.Ab (newM fs).blocks.length g.cb) (newM fs).blocks, ROw (.slice g.Ai (newM fs).inn.length g.ci) (newM fs).inn, ROw (.slice g.Ao (newM fs).out.length g.co) (newM fs).out] w' := by
 obtain ⟨A1, c1, A2, c2, hl, hc, hi, hcell⟩ := hs.fn h0
 have hF : (freshS (fnAt fs 0).locals).length = (fnAt fs 0).locals.length := freshS_len _
 refine enter Tryz.func85 rfl Tryz.ntmps85 rfl ?_
 refine cw_seq ?_
 refine cw_region ?_
 refine rw_op (ot_box rfl rfl rfl) rfl rfl (fun g1 _ => ?_)
 refine rw_op (ot_alloc Tryz.zeroValue29 rfl rfl) rfl rfl (fun g2 _ => ?_)
 refine rw_end ?_
 refine cw_seq ?_
 refine cw_region ?_
 refine rw_run tab_ok 1 [(2, _), (3, _)] rfl ⟨rfl, rfl, trivial⟩ ?_
 refine rw_s (qs_ldb fc Tryz.isAgg22 rfl rfl (by rfl)) rfl rfl ?_
 refine rw_s (qs_idx (k := 0) Tryz.underlying22 Tryz.sizeOf113 (.ro hs) (by omega) rfl rfl rfl) rfl rfl ?_
 refine rw_s (qs_ldA (hcell _) rfl rfl Tryz.isAgg113 Tryz.sizeOf113) rfl rfl ?_
 refine rw_op (ot_cO rfl rfl rfl Tryz.call132 (fun w hw => fresh_any (fnAt fs 0).params (fnAt fs 0).result A1 A2 c1 c2 _ (fnAt fs 0).locals w (hw.ro hl) (by omega))) rfl rfl (fun ⟨A3, c3⟩ _ => ?_)
 try dsimp only
 refine rw_s (qs_bst (cs := [_, _, _, _]) plT66 Tryz.zeroValue66 rfl rfl (by rfl)) rfl rfl ?_
 refine rw_op (ot_bsl (cs := [_, _, _, _]) Tryz.underlying25 Tryz.sizeOf66 Tryz.zeroValue66 rfl rfl rfl rfl rfl) rfl rfl (fun g3 _ => ?_)
 refine rw_s (qs_bst (cs := [_, _, _, _, _, _]) plT29 Tryz.zeroValue29 rfl rfl (by rfl)) rfl rfl ?_
 refine rw_op (ot_stb _ fc Tryz.sizeOf29 rfl rfl rfl rfl rfl (by rfl) rfl (by rfl)) rfl rfl (fun _ _ => ?_)
 refine rw_end ?_
 refine cw_ret ?_
 refine xw_ret1 Tryz.results85 (rv_box (cs := [_, _, _, _, _, _]) fc Tryz.isAgg29 Tryz.sizeOf29 rfl) ?_
 intro w hw
 refine ⟨⟨some ⟨g3, 0, none⟩, 1, none, 0, none, 0, none, 0⟩, trivial, rfl, ?_⟩
 have h1 := row_els (H := []) (xs := (newM fs).frames) (g := g3) (Els.cons (Hel := [ROw (.slice A3 (freshS (fnAt fs 0).locals).length c3) (freshS (fnAt fs 0).locals), ROw (.slice none 0 0) ([] : List MVal)]) (cs := [_, _, _, _]) (hel_fr (x := ⟨0, 0, freshS (fnAt fs 0).locals, []⟩) (by show I64 0 ∧ I64 0; decide)) Els.nil_) rfl (by show 1 ≤ _; decide) ((Cw.nilO MVal hw).msub (T := [RBox g3 _ _, ROw (.slice A3 (freshS (fnAt fs 0).locals).length c3) (freshS (fnAt fs 0).locals), ROw (.slice none 0 0) ([] : List MVal)]) ms)
 exact (Cw.nilO (List Int) (Cw.nilO Int (Cw.nilO Int h1))).msub ms
theorem nil_mach {B : Nat} {w0 w : World} {H : List Res} (h : Cw B w0 H w) : Cw B w0 (ROw (α := MFrame) (.slice none 0 0) [] :: ROw (α := List Int) (.slice none 0 0) [] :: ROw (α := Int) (.slice none 0 0) [] :: ROw (α := Int) (.slice none 0 0) [] :: H) w := Cw.nilO MFrame (Cw.nilO (List Int) (Cw.nilO Int (Cw.nilO Int h)))
set_option maxRecDepth 100000 in
set_option maxHeartbeats 1000000 in
theorem mstart_any (Ap : Option Addr) (cp : Nat) (fs : List MFunc) (m : MMach) (hmm : startM fs = m) (w : World) (hs : Sl w (.slice Ap fs.length cp) fs) :
  Calls Tryz.prog 31 #[.agg #[.slice Ap fs.length cp]] w fun e w' => ∃ g : MA, True ∧
   e = .returned (.tuple #[.agg #[.slice g.Af m.frames.length g.cf, .slice g.Ab m.blocks.length g.cb, .slice g.Ai m.inn.length g.ci, .slice g.Ao m.out.length g.co, .int .i64 m.status, .int .i64 m.trap], .int .i64 (progS fs)]) ∧ Cw w.heap.size w [ROw (.slice g.Af m.frames.length g.cf) m.frames, ROw (.slice g.Ab m.blocks.length g.cb) m.blocks, ROw (.slice g.Ai m.inn.length g.ci) m.inn, ROw (.slice g.Ao m.out.length g.co) m.out] w' := by
 refine enter Tryz.func31 rfl Tryz.ntmps31 rfl ?_
 refine cw_seq ?_
 refine cw_region ?_
 refine rw_op (ot_box rfl rfl rfl) rfl rfl (fun g1 _ => ?_)
 refine rw_op (ot_alloc Tryz.zeroValue29 rfl rfl) rfl rfl (fun g2 _ => ?_)
 refine rw_run tab_ok 1 [(1, _), (2, _)] rfl ⟨rfl, rfl, trivial⟩ ?_
 refine rw_end ?_
 refine cw_seq ?_
 refine cw_seq ?_
 refine cw_region ?_
 refine rw_s (qs_ldbA (vs := [_]) fc Tryz.isAgg24 Tryz.sizeOf24 rfl rfl (by rfl) rfl) rfl rfl ?_
 refine rw_op (ot_c0 rfl rfl rfl Tryz.call68 (fun w hw => vprog_any Ap cp fs w (hw.ro hs))) rfl rfl (fun _ _ => ?_)
 refine rw_run tab_ok 1 [(1, _), (2, _), (4, _)] rfl ⟨rfl, rfl, rfl, trivial⟩ ?_
 refine rw_end ?_
 refine cw_seq ?_
 refine cw_region ?_
 refine rw_run tab_ok 2 [(1, _), (2, _), (4, _), (8, _)] rfl ⟨rfl, rfl, rfl, rfl, trivial⟩ ?_
 refine rw_end ?_
 unfold startM at hmm
 refine cw_condN rfl (fun h => ?_) (fun h => ?_)
 ·rw [if_neg h] at hmm
  subst hmm
  refine cw_seq ?_
  refine cw_region ?_
  refine rw_s (qs_bst (cs := [_, _, _, _, _, _]) plT29 Tryz.zeroValue29 rfl rfl (by rfl)) rfl rfl ?_
  refine rw_run tab_ok 1 [(2, _), (9, _), (10, _)] rfl ⟨rfl, rfl, rfl, trivial⟩ ?_
  refine rw_op (ot_stb _ fc Tryz.sizeOf29 rfl rfl rfl rfl rfl (by rfl) rfl (by rfl)) rfl rfl (fun _ _ => ?_)
  refine rw_run tab_ok 1 [(2, _), (3, _)] rfl ⟨rfl, rfl, trivial⟩ ?_
  refine rw_end ?_
  refine cw_ret (xw_thenr ?_)
  refine xw_ret2 Tryz.results31 (rv_box (cs := [_, _, _, _, _, _]) fc Tryz.isAgg29 Tryz.sizeOf29 rfl) (rv_tmp rfl) ?_
  intro w hw
  exact ⟨⟨none, 0, none, 0, none, 0, none, 0⟩, trivial, rfl, (nil_mach hw).msub ms⟩
 ·have h : progS fs = 0 := h
  rw [if_pos h] at hmm
  subst hmm
  refine cw_skip (xw_then ?_)
  refine cw_seq ?_
  refine cw_region ?_
  refine rw_s (qs_ldbA (vs := [_]) fc Tryz.isAgg24 Tryz.sizeOf24 rfl rfl (by rfl) rfl) rfl rfl ?_
  refine rw_op (ot_c rfl rfl rfl Tryz.call85 (fun w hw => mnew_any Ap cp fs w (hw.ro hs) (prog_pos h) (by have := ((fn_ok (fitd h).p (prog_pos h)).1.op 0 (fn_ok (fitd h).p (prog_pos h)).2).par 0 (prog_pos h) |>.2; omega))) rfl rfl (fun g _ => ?_)
  refine rw_op (ot_stb _ fc Tryz.sizeOf29 rfl rfl rfl rfl rfl (by rfl) rfl (by rfl)) rfl rfl (fun _ _ => ?_)
  refine rw_run tab_ok 1 [(2, _), (3, _)] rfl ⟨rfl, rfl, trivial⟩ ?_
  refine rw_end ?_
  refine cw_ret ?_
  refine xw_ret2 Tryz.results31 (rv_box (cs := [_, _, _, _, _, _]) fc Tryz.isAgg29 Tryz.sizeOf29 rfl) (rv_tmp rfl) ?_
  intro w hw
  exact ⟨g, trivial, by rw [h], hw.msub ms⟩
end Go.Proofs.YtmnkaalchcomlaaGreat
-- Ws2
/- Worlds: own machines, one opened to be changed, or all of them opened to be read. -/
namespace Go.Proofs.YtmnkaalchcomlaaGreat
open Go.RowKit
theorem set_self {α : Type} : ∀ (l : List α) (k : Nat) (d : α), l.set k (l.getD k d) = l
 | [], _, _ => rfl
 | _ :: _, 0, _ => rfl
 | x :: l, k + 1, d => congrArg (x :: ·) (set_self l k d)
def hdM (a : MA) (m : MMach) : HMach := ⟨.slice a.Af m.frames.length a.cf, .slice a.Ab m.blocks.length a.cb, .slice a.Ai m.inn.length a.ci, .slice a.Ao m.out.length a.co, m.status, m.trap⟩
theorem hdM_wf {a : MA} {m : MMach} (h : I64 m.status ∧ I64 m.trap) : HMach.wf (hdM a m) := ⟨h, rfl, rfl, rfl, rfl⟩
section
variable {P : Program} {n : NF} {B : Nat} {w0 : World} {H H' : List Res} {Q : Exit → Act → World → Prop} {env : Env} {x : Code} {ops : Array Oper} {os : List Oper}
theorem ow_form {α : Type} [Ow α] {w : World} {F : Nat → Prop} {v : Value} {xs : List α} (h : OwL w F v xs) : ∃ A c, v = .slice A xs.length c := by
 obtain ⟨A, c, e, _⟩ := (OwL.sl h).form
 exact ⟨A, c, e⟩
theorem rpl_hd {l : List (HMach × MMach)} (hok : OpnOk l) {i : Nat} (hi : i < l.length) {w : World} (h : Cw B w0 (RPL l :: H) w) : ∃ a : MA, l[i].1 = hdM a l[i].2 := by
 have h1 : Cw B w0 (ROw l[i].1.fv l[i].2.frames :: ROw l[i].1.bv l[i].2.blocks :: ROw l[i].1.iv l[i].2.inn :: ROw l[i].1.ov l[i].2.out :: (RPL (l.eraseIdx i) :: H)) w := rpl_at hi h
 obtain ⟨F1, k1, _⟩ := h1.rd Foc.a
 obtain ⟨F2, k2, _⟩ := h1.rd (Foc.s Foc.a)
 obtain ⟨F3, k3, _⟩ := h1.rd (Foc.s (Foc.s Foc.a))
 obtain ⟨F4, k4, _⟩ := h1.rd (Foc.s (Foc.s (Foc.s Foc.a)))
 obtain ⟨Af, cf, e1⟩ := ow_form k1
 obtain ⟨Ab, cb, e2⟩ := ow_form k2
 obtain ⟨Ai, ci, e3⟩ := ow_form k3
 obtain ⟨Ao, co, e4⟩ := ow_form k4
 obtain ⟨s1, s2⟩ := hok l[i] (List.getElem_mem hi)
 refine ⟨⟨Af, cf, Ab, cb, Ai, ci, Ao, co⟩, ?_⟩
 cases h : l[i] with
 | mk a b =>
  rw [h] at e1 e2 e3 e4 s1 s2
  cases a
  simp only at e1 e2 e3 e4 s1 s2
  subst e1 e2 e3 e4 s1 s2
  rfl
theorem rpl_mf {l : List (HMach × MMach)} {i : Nat} (hi : i < l.length) {w : World} (h : Cw B w0 (RPL l :: H) w) : Sl w l[i].1.fv l[i].2.frames ∧ Sl w l[i].1.bv l[i].2.blocks ∧ Sl w l[i].1.iv l[i].2.inn ∧ Sl w l[i].1.ov l[i].2.out := by
 have h1 : Cw B w0 (ROw l[i].1.fv l[i].2.frames :: ROw l[i].1.bv l[i].2.blocks :: ROw l[i].1.iv l[i].2.inn :: ROw l[i].1.ov l[i].2.out :: (RPL (l.eraseIdx i) :: H)) w := rpl_at hi h
 obtain ⟨F1, k1, _⟩ := h1.rd Foc.a
 obtain ⟨F2, k2, _⟩ := h1.rd (Foc.s Foc.a)
 obtain ⟨F3, k3, _⟩ := h1.rd (Foc.s (Foc.s Foc.a))
 obtain ⟨F4, k4, _⟩ := h1.rd (Foc.s (Foc.s (Foc.s Foc.a)))
 exact ⟨OwL.sl k1, OwL.sl k2, OwL.sl k3, OwL.sl k4⟩
theorem mc_map {l : List (HMach × MMach)} {i : Nat} (hi : i < l.length) : mcAt (l.map Prod.snd) i = l[i].2 := by
 unfold mcAt
 rw [List.getD_eq_getElem?_getD, List.getElem?_map, List.getElem?_eq_getElem hi]
 rfl
theorem hd_map {l : List (HMach × MMach)} {i : Nat} (hi : i < l.length) (d : HMach) : (l.map Prod.fst).getD i d = l[i].1 := by
 rw [List.getD_eq_getElem?_getD, List.getElem?_map, List.getElem?_eq_getElem hi]
 rfl
abbrev RM (a : MA) (m : MMach) (H : List Res) : List Res := ROw (.slice a.Af m.frames.length a.cf) m.frames :: ROw (.slice a.Ab m.blocks.length a.cb) m.blocks :: ROw (.slice a.Ai m.inn.length a.ci) m.inn :: ROw (.slice a.Ao m.out.length a.co) m.out :: H
structure AtW (B : Nat) (w0 : World) (X : Res) (L : List MMach) (k : Nat) (hs : List HMach) (a : MA) : Prop where
 len : hs.length = L.length
 hd : hs.getD k default = hdM a (mcAt L k)
 i64 : I64 (mcAt L k).status ∧ I64 (mcAt L k).trap
 back : ∀ (v : Value) (g : MA) (m : MMach) H w, Cw B w0 (ROw v (hs.set k (hdM g m)) :: RM g m (X :: H)) w → Cw B w0 (ROw v (L.set k m) :: H) w
theorem atW_of {v : Value} {L : List MMach} {k : Nat} (hk : k < L.length) (hp : Foc H (ROw v L) H') {w : World} (hw : Cw B w0 H w) :
  ∃ X hs a, AtW B w0 X L k hs a ∧ Cw B w0 (ROw v hs :: RM a (mcAt L k) (X :: H')) w := by
 obtain ⟨l, hl, hok, h3⟩ := opn_ow (hw.perm hp)
 have hkl : k < l.length := by rw [← List.length_map (f := Prod.snd), hl]; exact hk
 have h4 := h3.perm (List.Perm.swap ..)
 obtain ⟨a, ea⟩ := rpl_hd hok hkl h4
 have em : mcAt L k = l[k].2 := by rw [← hl]; exact mc_map hkl
 have h5 : Cw B w0 (ROw l[k].1.fv l[k].2.frames :: ROw l[k].1.bv l[k].2.blocks :: ROw l[k].1.iv l[k].2.inn :: ROw l[k].1.ov l[k].2.out :: (RPL (l.eraseIdx k) :: ROw v (l.map Prod.fst) :: H')) w := rpl_at hkl h4
 rw [ea, ← em] at h5
 have hwf : HMach.wf l[k].1 := row_wf h3 .a (List.mem_map_of_mem (List.getElem_mem hkl))
 have hI : I64 (mcAt L k).status ∧ I64 (mcAt L k).trap := by
  rw [ea, ← em] at hwf
  exact hwf.1
 refine ⟨RPL (l.eraseIdx k), l.map Prod.fst, a, ⟨by rw [← hl, List.length_map, List.length_map], by rw [hd_map hkl, ea, em], hI, fun u g m H1 w1 h => ?_⟩, h5.msub ms⟩
 have hq : OpnOk (l.set k (hdM g m, m)) := hok.set (q := (hdM g m, m)) ⟨rfl, rfl⟩
 have h6 : Cw B w0 (Opn.parts (hdM g m, m).1 (hdM g m, m).2 ++ RPL (l.eraseIdx k) :: ROw u ((l.map Prod.fst).set k (hdM g m)) :: H1) w1 := h.msub (T := RM g m (RPL (l.eraseIdx k) :: ROw u ((l.map Prod.fst).set k (hdM g m)) :: H1)) ms
 have h7 := rpl_set hkl h6
 have e1 : (l.map Prod.fst).set k (hdM g m) = (l.set k (hdM g m, m)).map Prod.fst := by rw [List.map_set]
 rw [e1] at h7
 have h8 := cls_ow hq (h7.perm (List.Perm.swap ..))
 rw [List.map_set, hl] at h8
 exact h8
theorem cw_atW {v : Value} {L : List MMach} {k : Nat} (hk : k < L.length) (hp : Foc H (ROw v L) H') (h : ∀ X hs a, AtW B w0 X L k hs a → CW P n B w0 x Q env (ROw v hs :: RM a (mcAt L k) (X :: H'))) : CW P n B w0 x Q env H := fun a w hf hw => by
 obtain ⟨X, hs, g, h1, h2⟩ := atW_of hk hp hw
 exact h X hs g h1 a w hf h2
theorem AtW.same {X : Res} {L : List MMach} {k : Nat} {hs : List HMach} {a : MA} (h : AtW B w0 X L k hs a) (_ : k < L.length) {v : Value} {w : World} (hw : Cw B w0 (ROw v hs :: RM a (mcAt L k) (X :: H)) w) : Cw B w0 (ROw v L :: H) w := by
 have e1 : hs.set k (hdM a (mcAt L k)) = hs := by
  rw [← h.hd]
  exact set_self hs k default
 have e2 : L.set k (mcAt L k) = L := set_self L k default
 have := h.back v a (mcAt L k) H w (by rw [e1]; exact hw)
 rwa [e2] at this
structure RdW (B : Nat) (w0 : World) (X : Res) (L : List MMach) (hs : List HMach) : Prop where
 el : ∀ i, i < L.length → ∃ a : MA, hs.getD i default = hdM a (mcAt L i) ∧ (I64 (mcAt L i).status ∧ I64 (mcAt L i).trap) ∧
  ∀ H H', Foc H X H' → SF B w0 H a.Af (mcAt L i).frames.length a.cf (mcAt L i).frames ∧ SF B w0 H a.Ab (mcAt L i).blocks.length a.cb (mcAt L i).blocks ∧ SF B w0 H a.Ai (mcAt L i).inn.length a.ci (mcAt L i).inn ∧ SF B w0 H a.Ao (mcAt L i).out.length a.co (mcAt L i).out
 len : hs.length = L.length
 back : ∀ H H' H'' v w, Foc H (ROw v hs) H' → Foc H' X H'' → Cw B w0 H w → Cw B w0 (ROw v L :: H'') w
theorem rdW_of {v : Value} {L : List MMach} (hp : Foc H (ROw v L) H') {w : World} (hw : Cw B w0 H w) : ∃ X hs, RdW B w0 X L hs ∧ Cw B w0 (ROw v hs :: X :: H') w := by
 obtain ⟨l, hl, hok, h3⟩ := opn_ow (hw.perm hp)
 have hll : l.length = L.length := by rw [← hl, List.length_map]
 refine ⟨RPL l, l.map Prod.fst, ⟨fun i hi => ?_, by rw [List.length_map, hll], fun H1 H2 H3 v w f1 f2 hw => ?_⟩, h3⟩
 ·have hi' : i < l.length := by omega
  have h4 := h3.perm (List.Perm.swap ..)
  obtain ⟨a, ea⟩ := rpl_hd hok hi' h4
  have em : mcAt L i = l[i].2 := by rw [← hl]; exact mc_map hi'
  have hwf : HMach.wf l[i].1 := row_wf h3 .a (List.mem_map_of_mem (List.getElem_mem hi'))
  have hI : I64 (mcAt L i).status ∧ I64 (mcAt L i).trap := by
   rw [ea, ← em] at hwf
   exact hwf.1
  refine ⟨a, by rw [hd_map hi', ea, em], hI, fun H1 H2 f => ?_⟩
  have key : ∀ w, Cw B w0 H1 w → Sl w (.slice a.Af (mcAt L i).frames.length a.cf) (mcAt L i).frames ∧ Sl w (.slice a.Ab (mcAt L i).blocks.length a.cb) (mcAt L i).blocks ∧ Sl w (.slice a.Ai (mcAt L i).inn.length a.ci) (mcAt L i).inn ∧ Sl w (.slice a.Ao (mcAt L i).out.length a.co) (mcAt L i).out := fun w hw => by
   have := rpl_mf hi' (hw.perm f)
   rw [ea, ← em] at this
   exact this
  exact ⟨⟨rfl, fun w hw => (key w hw).1⟩, ⟨rfl, fun w hw => (key w hw).2.1⟩, ⟨rfl, fun w hw => (key w hw).2.2.1⟩, ⟨rfl, fun w hw => (key w hw).2.2.2⟩⟩
 ·have := cls_ow (v := v) (H := H3) hok ((hw.perm f1).perm (List.Perm.cons _ f2))
  rw [hl] at this
  exact this
theorem cw_rdW {v : Value} {L : List MMach} (hp : Foc H (ROw v L) H') (h : ∀ X hs, RdW B w0 X L hs → CW P n B w0 x Q env (ROw v hs :: X :: H')) : CW P n B w0 x Q env H := fun a w hf hw => by
 obtain ⟨X, hs, h1, h2⟩ := rdW_of hp hw
 exact h X hs h1 a w hf h2
theorem SF.hmc {A : Option Addr} {xs : List HMach} {m c k : Nat} {a : MA} {y : MMach} (hs : SF B w0 H A m c xs) (hk : k < m) (e : xs.getD k default = hdM a y) :
  ∀ w, Cw B w0 H w → ∀ j v, ([.slice a.Af y.frames.length a.cf, .slice a.Ab y.blocks.length a.cb, .slice a.Ai y.inn.length a.ci, .slice a.Ao y.out.length a.co, .int .i64 y.status, .int .i64 y.trap] : List Value)[j]? = some v → w.cell? ⟨ab A, ao A + k * 6 + j, none⟩ = some v :=
 fun w hw j v hv => SF.cell hs hk default (by rw [e]; exact hv) w hw
theorem SF.min {a : MA} {m : MMach} {w : World} (h : SF B w0 H a.Af m.frames.length a.cf m.frames ∧ SF B w0 H a.Ab m.blocks.length a.cb m.blocks ∧ SF B w0 H a.Ai m.inn.length a.ci m.inn ∧ SF B w0 H a.Ao m.out.length a.co m.out) (hi : I64 m.status ∧ I64 m.trap) (hw : Cw B w0 H w) : MIn w.heap.size w a m :=
 ⟨SF.at_ h.1 hw, SF.at_ h.2.1 hw, SF.at_ h.2.2.1 hw, SF.at_ h.2.2.2 hw, hi.1, hi.2⟩
theorem perm6 {R1 R2 R3 R4 R5 R6 : Res} {H1 H2 H3 H4 H5 H6 : List Res} (h1 : Foc H R1 H1) (h2 : Foc H1 R2 H2) (h3 : Foc H2 R3 H3) (h4 : Foc H3 R4 H4) (h5 : Foc H4 R5 H5) (h6 : Foc H5 R6 H6) : H.Perm ((R1 :: R2 :: [R3, R4, R5, R6]) ++ H6) :=
 h1.trans (.cons _ (h2.trans (.cons _ (h3.trans (.cons _ (h4.trans (.cons _ (h5.trans (.cons _ h6)))))))))
theorem hel_mc {v1 v2 v3 v4 : Value} {m : MMach} (hi : I64 m.status ∧ I64 m.trap) : ∀ (w : World) (F : Nat → Prop), Hs w [ROw v1 m.frames, ROw v2 m.blocks, ROw v3 m.inn, ROw v4 m.out] F → Ow.own w F [v1, v2, v3, v4, .int .i64 m.status, .int .i64 m.trap] m :=
 fun _ _ h => ⟨v1, v2, v3, v4, rfl, hi, h⟩
end
end Go.Proofs.YtmnkaalchcomlaaGreat
-- Mb1
/- Machines: are they the same? -/
namespace Go.Proofs.YtmnkaalchcomlaaGreat
open Go.RowKit
theorem eqGuardV : Tryz.prog.eqGuardType Tryz.prog.depth 68 = false := by kernel_rfl
theorem heldV : Tryz.prog.stoodInHeld 68 = false := by kernel_rfl
theorem neq_V (w : World) (a c : Bool) (b d : Int) : (binOp .neq 68 (.agg #[.bool a, .int .i64 b]) (.agg #[.bool c, .int .i64 d])).run Tryz.prog w = .ok (.bool (!(a == c && b == d))) w := by
  have h := heldV
  by_cases h1 : a = c <;> by_cases h2 : b = d <;> simp [go_sem, h, h1, h2]
theorem neq_G (x y : Operand) (u v : Array Value) (w : World) : (eqGuard .neq 68 x y (.agg u) (.agg v)).run Tryz.prog w = .ok () w := by
  have h := eqGuardV
  simp [eqGuard, go_sem, h]
theorem mv_ext {v u : MVal} : (v.ref == u.ref && v.n == u.n) = decide (v = u) := by
 obtain ⟨a, b⟩ := v
 obtain ⟨c, d⟩ := u
 by_cases h1 : a = c <;> by_cases h2 : b = d <;> simp [h1, h2]
theorem take_eqS {α : Type} {a b : List α} {i : Nat} (d : α) (h1 : i < a.length) (h2 : i < b.length) (h : a.take i = b.take i) (e : a.getD i d = b.getD i d) : a.take (i + 1) = b.take (i + 1) := by
 rw [take_snoc a i d h1, take_snoc b i d h2, h, e]
theorem take_neS {α : Type} {a b : List α} {i : Nat} (d : α) (e : ¬ a.getD i d = b.getD i d) : ¬ a = b := fun h => e (by rw [h])
set_option maxRecDepth 100000 in
theorem sameValues_any (A1 A2 : Option Addr) (c1 c2 : Nat) (a b : List MVal) (w : World) (h1 : Sl w (.slice A1 a.length c1) a) (h2 : Sl w (.slice A2 b.length c2) b) :
  Calls Tryz.prog 97 #[.slice A1 a.length c1, .slice A2 b.length c2] w fun e w' => e = .returned (.bool (decide (a = b))) ∧ Below w.heap.size w w' := by
 have b1 := len_bd h1
 refine enter Tryz.func97 rfl Tryz.ntmps97 rfl ?_
 refine cw_seq ?_
 refine cw_region ?_
 refine rw_run tab_ok 1 [(0, _), (1, _)] rfl ⟨rfl, rfl, trivial⟩ ?_
 refine rw_end ?_
 refine cw_seq ?_
 refine cw_seq ?_
 refine cw_region ?_
 refine rw_run tab_ok 1 [(0, _), (1, _), (6, _)] rfl ⟨rfl, rfl, rfl, trivial⟩ ?_
 refine rw_s (qs_len Tryz.underlying64 rfl rfl) rfl rfl ?_
 refine rw_run tab_ok 1 [(0, _), (1, _), (7, _), (8, _)] rfl ⟨rfl, rfl, rfl, rfl, trivial⟩ ?_
 refine rw_s (qs_len Tryz.underlying64 rfl rfl) rfl rfl ?_
 refine rw_run tab_ok 1 [(0, _), (1, _), (10, _)] rfl ⟨rfl, rfl, rfl, trivial⟩ ?_
 refine rw_end ?_
 refine cw_condN rfl (fun hl => ?_) (fun hl => ?_)
 ·refine cw_seq ?_
  refine cw_region ?_
  refine rw_run tab_ok 1 [(4, _)] rfl ⟨rfl, trivial⟩ ?_
  refine rw_end ?_
  refine cw_ret (xw_thenr ?_)
  refine xw_ret1 Tryz.results97 (rv_tmp rfl) ?_
  intro w hw
  exact ⟨ret_bool (by rw [decide_eq_false (fun e => hl (by rw [e]))]), hw.below⟩
 ·have hl : a.length = b.length := by omega
  refine cw_skip (xw_then ?_)
  refine cw_seq ?_
  refine cw_seq ?_
  refine cw_region ?_
  refine rw_run tab_ok 1 [(0, _), (1, _), (5, _)] rfl ⟨rfl, rfl, rfl, trivial⟩ ?_
  refine rw_end ?_
  refine cw_block (cw_loop (fun i : Nat => i ≤ a.length ∧ a.take i = b.take i) (fun i => a.length - i) (fun i => [(0, .slice A1 a.length c1), (1, .slice A2 b.length c2), (5, .int .i64 (i : Int))]) (fun _ => []) 0 (⟨Nat.zero_le _, rfl⟩) ⟨rfl, rfl, rfl, trivial⟩ me ?_)
  rintro i hi'
  obtain ⟨hi, hj⟩ : i ≤ a.length ∧ a.take i = b.take i := hi'
  refine cw_seq ?_
  refine cw_seq ?_
  refine cw_region ?_
  refine rw_run tab_ok 2 [(0, _), (1, _), (5, _), (11, _), (12, _)] rfl ⟨rfl, rfl, rfl, rfl, rfl, trivial⟩ ?_
  refine rw_s (qs_len Tryz.underlying64 rfl rfl) rfl rfl ?_
  refine rw_run tab_ok 1 [(0, _), (1, _), (5, _), (14, _)] rfl ⟨rfl, rfl, rfl, rfl, trivial⟩ ?_
  refine rw_end ?_
  refine cw_condD rfl (fun hlt => ?_) (fun hlt => ?_)
  ·have hil : i < a.length := by omega
   have hil2 : i < b.length := by omega
   refine cw_skip (xw_then ?_)
   refine cw_seq ?_
   refine cw_block ?_
   refine cw_seq ?_
   refine cw_draw (.still 0 (.still 1 (.still 2 (.still 3 (.still 4 (.still 5 (.still 6 (.still 7 (.still 8 .done))))))))) [] rfl (by kernel_rfl) (by kernel_rfl) ?_
   refine ro_run tab_ok ha 2 [(0, _), (1, _), (5, _), (17, _), (18, _)] rfl ⟨rfl, rfl, rfl, rfl, rfl, trivial⟩ ?_
   refine ro_s2 rfl (qs_idx (k := i) Tryz.underlying64 Tryz.sizeOf68 (.ro h1) (by omega) rfl rfl rfl) rfl rfl ha ?_
   refine ro_s2 rfl (qs_ldA (SF.val (SF.ro h1) hil default) rfl rfl Tryz.isAgg68 Tryz.sizeOf68) rfl rfl ha ?_
   refine ro_run tab_ok ha 2 [(0, _), (1, _), (5, _), (20, _), (21, _), (22, _)] rfl ⟨rfl, rfl, rfl, rfl, rfl, rfl, trivial⟩ ?_
   refine ro_s2 rfl (qs_idx (k := i) Tryz.underlying64 Tryz.sizeOf68 (.ro h2) (by omega) rfl rfl rfl) rfl rfl ha ?_
   refine ro_s2 rfl (qs_ldA (SF.val (SF.ro h2) hil2 default) rfl rfl Tryz.isAgg68 Tryz.sizeOf68) rfl rfl ha ?_
   refine ro_s2 rfl (qs_binop rfl rfl rfl (fun w => neq_V w _ _ _ _) (fun w => neq_G _ _ _ _ w)) rfl rfl ha ?_
   refine ro_end ?_
   rw [mv_ext]
   refine cw_condN rfl (fun he => ?_) (fun he => ?_)
   ·refine cw_seq ?_
    refine cw_region ?_
    refine rw_run tab_ok 1 [(4, _)] rfl ⟨rfl, trivial⟩ ?_
    refine rw_end ?_
    refine cw_ret (xw_blkr (xw_thenr (xw_thenr (xw_blkr (xw_thenr ?_)))))
    refine xw_ret1 Tryz.results97 (rv_tmp rfl) ?_
    intro w hw
    exact ⟨ret_bool (by rw [decide_eq_false (take_neS default he)]), hw.below⟩
   ·refine cw_skip (xw_blkn (xw_then ?_))
    refine cw_region ?_
    refine rw_run tab_ok 1 [(0, _), (1, _), (15, _)] rfl ⟨rfl, rfl, rfl, trivial⟩ ?_
    refine rw_s (qs_add rfl rfl rfl (by omega)) rfl rfl ?_
    refine rw_run tab_ok 1 [(0, _), (1, _), (5, _)] rfl ⟨rfl, rfl, rfl, trivial⟩ ?_
    refine rw_round (i + 1) (⟨by show i + 1 ≤ _; omega, take_eqS default hil hil2 hj he⟩) (by show _ - _ < _ - _; omega) ⟨rfl, rfl, rfl, trivial⟩ me
  ·obtain rfl : i = a.length := by omega
   rw [List.take_length, hl, List.take_length] at hj
   refine cw_exit (xw_thenx (xw_thenx (xw_blk (xw_then ?_))))
   refine cw_seq ?_
   refine cw_region ?_
   refine rw_run tab_ok 1 [(4, _)] rfl ⟨rfl, trivial⟩ ?_
   refine rw_end ?_
   refine cw_ret ?_
   refine xw_ret1 Tryz.results97 (rv_tmp rfl) ?_
   intro w hw
   exact ⟨ret_bool (by rw [decide_eq_true hj]), hw.below⟩
set_option maxRecDepth 100000 in
theorem sameBlocks_any (A1 A2 : Option Addr) (c1 c2 : Nat) (a b : List (List Int)) (w : World) (h1 : Sl w (.slice A1 a.length c1) a) (h2 : Sl w (.slice A2 b.length c2) b) :
  Calls Tryz.prog 96 #[.slice A1 a.length c1, .slice A2 b.length c2] w fun e w' => e = .returned (.bool (decide (a = b))) ∧ Below w.heap.size w w' := by
 have b1 := len_bd h1
 refine enter Tryz.func96 rfl Tryz.ntmps96 rfl ?_
 refine cw_seq ?_
 refine cw_region ?_
 refine rw_run tab_ok 1 [(0, _), (1, _)] rfl ⟨rfl, rfl, trivial⟩ ?_
 refine rw_end ?_
 refine cw_seq ?_
 refine cw_seq ?_
 refine cw_region ?_
 refine rw_run tab_ok 1 [(0, _), (1, _), (6, _)] rfl ⟨rfl, rfl, rfl, trivial⟩ ?_
 refine rw_s (qs_len Tryz.underlying26 rfl rfl) rfl rfl ?_
 refine rw_run tab_ok 1 [(0, _), (1, _), (7, _), (8, _)] rfl ⟨rfl, rfl, rfl, rfl, trivial⟩ ?_
 refine rw_s (qs_len Tryz.underlying26 rfl rfl) rfl rfl ?_
 refine rw_run tab_ok 1 [(0, _), (1, _), (10, _)] rfl ⟨rfl, rfl, rfl, trivial⟩ ?_
 refine rw_end ?_
 refine cw_condN rfl (fun hl => ?_) (fun hl => ?_)
 ·refine cw_seq ?_
  refine cw_region ?_
  refine rw_run tab_ok 1 [(4, _)] rfl ⟨rfl, trivial⟩ ?_
  refine rw_end ?_
  refine cw_ret (xw_thenr ?_)
  refine xw_ret1 Tryz.results96 (rv_tmp rfl) ?_
  intro w hw
  exact ⟨ret_bool (by rw [decide_eq_false (fun e => hl (by rw [e]))]), hw.below⟩
 ·have hl : a.length = b.length := by omega
  refine cw_skip (xw_then ?_)
  refine cw_seq ?_
  refine cw_seq ?_
  refine cw_region ?_
  refine rw_run tab_ok 1 [(0, _), (1, _), (5, _)] rfl ⟨rfl, rfl, rfl, trivial⟩ ?_
  refine rw_end ?_
  refine cw_block (cw_loop (fun i : Nat => i ≤ a.length ∧ a.take i = b.take i) (fun i => a.length - i) (fun i => [(0, .slice A1 a.length c1), (1, .slice A2 b.length c2), (5, .int .i64 (i : Int))]) (fun _ => []) 0 (⟨Nat.zero_le _, rfl⟩) ⟨rfl, rfl, rfl, trivial⟩ me ?_)
  rintro i hi'
  obtain ⟨hi, hj⟩ : i ≤ a.length ∧ a.take i = b.take i := hi'
  refine cw_seq ?_
  refine cw_seq ?_
  refine cw_region ?_
  refine rw_run tab_ok 2 [(0, _), (1, _), (5, _), (11, _), (12, _)] rfl ⟨rfl, rfl, rfl, rfl, rfl, trivial⟩ ?_
  refine rw_s (qs_len Tryz.underlying26 rfl rfl) rfl rfl ?_
  refine rw_run tab_ok 1 [(0, _), (1, _), (5, _), (14, _)] rfl ⟨rfl, rfl, rfl, rfl, trivial⟩ ?_
  refine rw_end ?_
  refine cw_condD rfl (fun hlt => ?_) (fun hlt => ?_)
  ·have hil : i < a.length := by omega
   have hil2 : i < b.length := by omega
   obtain ⟨A3, c3, hb1, hc1⟩ := h1.sub hil
   obtain ⟨A4, c4, hb2, hc2⟩ := h2.sub hil2
   refine cw_skip (xw_then ?_)
   refine cw_seq ?_
   refine cw_block ?_
   refine cw_seq ?_
   refine cw_draw (.still 0 (.still 1 (.still 2 (.still 3 (.still 4 (.still 5 (.still 6 (.still 7 (.pick 8 (.still 9 .done) .stop))))))))) [] rfl (by kernel_rfl) (by kernel_rfl) ?_
   refine ro_run tab_ok ha 2 [(0, _), (1, _), (5, _), (17, _), (18, _)] rfl ⟨rfl, rfl, rfl, rfl, rfl, trivial⟩ ?_
   refine ro_s2 rfl (qs_idx (k := i) Tryz.underlying26 Tryz.sizeOf27 (.ro h1) (by omega) rfl rfl rfl) rfl rfl ha ?_
   refine ro_s2 rfl (qs_ld (hc1 _) rfl rfl Tryz.isAgg27) rfl rfl ha ?_
   refine ro_run tab_ok ha 2 [(0, _), (1, _), (5, _), (20, _), (21, _), (22, _)] rfl ⟨rfl, rfl, rfl, rfl, rfl, rfl, trivial⟩ ?_
   refine ro_s2 rfl (qs_idx (k := i) Tryz.underlying26 Tryz.sizeOf27 (.ro h2) (by omega) rfl rfl rfl) rfl rfl ha ?_
   refine ro_s2 rfl (qs_ld (hc2 _) rfl rfl Tryz.isAgg27) rfl rfl ha ?_
   refine ro_op2 rfl (ot_c0 rfl rfl rfl Tryz.call38 (fun w hw => sameInts_w _ _ _ _ (a.getD i []) (b.getD i []) w (hw.ro hb1) (hw.ro hb2))) rfl rfl (.inr fun _ => ha) (fun _ _ => ?_) ro_stop
   refine ro_run tab_ok ha 1 [(0, _), (1, _), (5, _), (26, _)] rfl ⟨rfl, rfl, rfl, rfl, trivial⟩ ?_
   refine ro_end ?_
   refine cw_condN rfl (fun he => ?_) (fun he => ?_)
   ·refine cw_seq ?_
    refine cw_region ?_
    refine rw_run tab_ok 1 [(4, _)] rfl ⟨rfl, trivial⟩ ?_
    refine rw_end ?_
    refine cw_ret (xw_blkr (xw_thenr (xw_thenr (xw_blkr (xw_thenr ?_)))))
    refine xw_ret1 Tryz.results96 (rv_tmp rfl) ?_
    intro w hw
    exact ⟨ret_bool (by rw [decide_eq_false (take_neS [] he)]), hw.below⟩
   ·refine cw_skip (xw_blkn (xw_then ?_))
    refine cw_region ?_
    refine rw_run tab_ok 1 [(0, _), (1, _), (15, _)] rfl ⟨rfl, rfl, rfl, trivial⟩ ?_
    refine rw_s (qs_add rfl rfl rfl (by omega)) rfl rfl ?_
    refine rw_run tab_ok 1 [(0, _), (1, _), (5, _)] rfl ⟨rfl, rfl, rfl, trivial⟩ ?_
    refine rw_round (i + 1) (⟨by show i + 1 ≤ _; omega, take_eqS [] hil hil2 hj he⟩) (by show _ - _ < _ - _; omega) ⟨rfl, rfl, rfl, trivial⟩ me
  ·obtain rfl : i = a.length := by omega
   rw [List.take_length, hl, List.take_length] at hj
   refine cw_exit (xw_thenx (xw_thenx (xw_blk (xw_then ?_))))
   refine cw_seq ?_
   refine cw_region ?_
   refine rw_run tab_ok 1 [(4, _)] rfl ⟨rfl, trivial⟩ ?_
   refine rw_end ?_
   refine cw_ret ?_
   refine xw_ret1 Tryz.results96 (rv_tmp rfl) ?_
   intro w hw
   exact ⟨ret_bool (by rw [decide_eq_true hj]), hw.below⟩
theorem ne_of_field {α : Type} {f : MMach → α} {m1 m2 : MMach} (h : ¬ f m1 = f m2) : ¬ m1 = m2 := fun e => h (by rw [e])
theorem mach_eq {m1 m2 : MMach} (h1 : m1.status = m2.status) (h2 : m1.trap = m2.trap) (h3 : m1.blocks = m2.blocks) (h4 : m1.inn = m2.inn) (h5 : m1.out = m2.out) (h6 : m1.frames = m2.frames) : m1 = m2 := by
 cases m1; cases m2; simp_all
theorem fr_ne {l1 l2 : List MFrame} {i : Nat} {α : Type} {f : MFrame → α} (h : ¬ f (frAt l1 i) = f (frAt l2 i)) : ¬ l1 = l2 := fun e => h (by rw [e])
theorem fr_ext {x y : MFrame} (h1 : x.func = y.func) (h2 : x.pc = y.pc) (h3 : x.locals = y.locals) (h4 : x.stack = y.stack) : x = y := by
 cases x; cases y; simp_all
theorem not_dec {p : Prop} [Decidable p] (h : (!decide p) = true) : ¬ p := by simpa using h
theorem not_dec' {p : Prop} [Decidable p] (h : (!decide p) = false) : p := by simpa using h
set_option maxRecDepth 100000 in
set_option maxHeartbeats 4000000 in
theorem sameMach_any (a b : MA) (m1 m2 : MMach) (w : World) (h1 : MIn w.heap.size w a m1) (h2 : MIn w.heap.size w b m2) :
  Calls Tryz.prog 37 #[.agg #[.slice a.Af m1.frames.length a.cf, .slice a.Ab m1.blocks.length a.cb, .slice a.Ai m1.inn.length a.ci, .slice a.Ao m1.out.length a.co, .int .i64 m1.status, .int .i64 m1.trap],
   .agg #[.slice b.Af m2.frames.length b.cf, .slice b.Ab m2.blocks.length b.cb, .slice b.Ai m2.inn.length b.ci, .slice b.Ao m2.out.length b.co, .int .i64 m2.status, .int .i64 m2.trap]] w fun e w' => e = .returned (.bool (decide (m1 = m2))) ∧ Below w.heap.size w w' := by
 have b1 := len_bd h1.f
 refine enter Tryz.func37 rfl Tryz.ntmps37 rfl ?_
 refine cw_seq ?_
 refine cw_region ?_
 refine rw_op (ot_box rfl rfl rfl) rfl rfl (fun g1 _ => ?_)
 refine rw_op (ot_box rfl rfl rfl) rfl rfl (fun g2 _ => ?_)
 refine rw_run tab_ok 1 [(2, _), (3, _)] rfl ⟨rfl, rfl, trivial⟩ ?_
 refine rw_end ?_
 refine cw_seq ?_
 refine cw_seq ?_
 refine cw_region ?_
 refine rw_run tab_ok 1 [(2, _), (3, _), (8, _)] rfl ⟨rfl, rfl, rfl, trivial⟩ ?_
 refine rw_s (qs_ldb fc Tryz.isAgg3 rfl rfl (by rfl)) rfl rfl ?_
 refine rw_run tab_ok 1 [(2, _), (3, _), (9, _), (10, _)] rfl ⟨rfl, rfl, rfl, rfl, trivial⟩ ?_
 refine rw_s (qs_ldb fc Tryz.isAgg3 rfl rfl (by rfl)) rfl rfl ?_
 refine rw_run tab_ok 2 [(2, _), (3, _), (13, _)] rfl ⟨rfl, rfl, rfl, trivial⟩ ?_
 refine rw_split (t := 13) rfl (fun e1 => ?_) (fun e1 => ?_)
 ·refine rw_run tab_ok 39 [(2, _), (3, _), (52, _)] rfl ⟨rfl, rfl, rfl, trivial⟩ ?_
  refine rw_end ?_
  refine cw_cond_t rfl ?_
  refine cw_seq ?_
  refine cw_region ?_
  refine rw_run tab_ok 1 [(4, _)] rfl ⟨rfl, trivial⟩ ?_
  refine rw_end ?_
  refine cw_ret (xw_thenr ?_)
  refine xw_ret1 Tryz.results37 (rv_tmp rfl) ?_
  intro w hw
  exact ⟨ret_bool (by rw [decide_eq_false (ne_of_field (f := MMach.status) (not_dec e1))]), hw.below⟩
 ·have e1 := not_dec' e1
  refine rw_run tab_ok 1 [(2, _), (3, _), (13, _), (14, _)] rfl ⟨rfl, rfl, rfl, rfl, trivial⟩ ?_
  refine rw_s (qs_ldb fc Tryz.isAgg3 rfl rfl (by rfl)) rfl rfl ?_
  refine rw_run tab_ok 1 [(2, _), (3, _), (13, _), (15, _), (16, _)] rfl ⟨rfl, rfl, rfl, rfl, rfl, trivial⟩ ?_
  refine rw_s (qs_ldb fc Tryz.isAgg3 rfl rfl (by rfl)) rfl rfl ?_
  refine rw_run tab_ok 3 [(2, _), (3, _), (20, _)] rfl ⟨rfl, rfl, rfl, trivial⟩ ?_
  refine rw_split (t := 20) rfl (fun e2 => ?_) (fun e2 => ?_)
  ·refine rw_run tab_ok 32 [(2, _), (3, _), (52, _)] rfl ⟨rfl, rfl, rfl, trivial⟩ ?_
   refine rw_end ?_
   refine cw_cond_t rfl ?_
   refine cw_seq ?_
   refine cw_region ?_
   refine rw_run tab_ok 1 [(4, _)] rfl ⟨rfl, trivial⟩ ?_
   refine rw_end ?_
   refine cw_ret (xw_thenr ?_)
   refine xw_ret1 Tryz.results37 (rv_tmp rfl) ?_
   intro w hw
   exact ⟨ret_bool (by rw [decide_eq_false (ne_of_field (f := MMach.trap) (not_dec e2))]), hw.below⟩
  ·have e2 := not_dec' e2
   refine rw_run tab_ok 1 [(2, _), (3, _), (20, _), (21, _)] rfl ⟨rfl, rfl, rfl, rfl, trivial⟩ ?_
   refine rw_s (qs_ldb fc Tryz.isAgg26 rfl rfl (by rfl)) rfl rfl ?_
   refine rw_run tab_ok 1 [(2, _), (3, _), (20, _), (22, _), (23, _)] rfl ⟨rfl, rfl, rfl, rfl, rfl, trivial⟩ ?_
   refine rw_s (qs_ldb fc Tryz.isAgg26 rfl rfl (by rfl)) rfl rfl ?_
   refine rw_op (ot_c0 rfl rfl rfl Tryz.call96 (fun w hw => sameBlocks_any _ _ _ _ m1.blocks m2.blocks w (hw.ro h1.b) (hw.ro h2.b))) rfl rfl (fun _ _ => ?_)
   refine rw_run tab_ok 3 [(2, _), (3, _), (28, _)] rfl ⟨rfl, rfl, rfl, trivial⟩ ?_
   refine rw_split (t := 28) rfl (fun e3 => ?_) (fun e3 => ?_)
   ·refine rw_run tab_ok 24 [(2, _), (3, _), (52, _)] rfl ⟨rfl, rfl, rfl, trivial⟩ ?_
    refine rw_end ?_
    refine cw_cond_t rfl ?_
    refine cw_seq ?_
    refine cw_region ?_
    refine rw_run tab_ok 1 [(4, _)] rfl ⟨rfl, trivial⟩ ?_
    refine rw_end ?_
    refine cw_ret (xw_thenr ?_)
    refine xw_ret1 Tryz.results37 (rv_tmp rfl) ?_
    intro w hw
    exact ⟨ret_bool (by rw [decide_eq_false (ne_of_field (f := MMach.blocks) (not_dec e3))]), hw.below⟩
   ·have e3 := not_dec' e3
    refine rw_run tab_ok 1 [(2, _), (3, _), (28, _), (29, _)] rfl ⟨rfl, rfl, rfl, rfl, trivial⟩ ?_
    refine rw_s (qs_ldb fc Tryz.isAgg27 rfl rfl (by rfl)) rfl rfl ?_
    refine rw_run tab_ok 1 [(2, _), (3, _), (28, _), (30, _), (31, _)] rfl ⟨rfl, rfl, rfl, rfl, rfl, trivial⟩ ?_
    refine rw_s (qs_ldb fc Tryz.isAgg27 rfl rfl (by rfl)) rfl rfl ?_
    refine rw_op (ot_c0 rfl rfl rfl Tryz.call38 (fun w hw => sameInts_w _ _ _ _ m1.inn m2.inn w (hw.ro h1.i) (hw.ro h2.i))) rfl rfl (fun _ _ => ?_)
    refine rw_run tab_ok 3 [(2, _), (3, _), (36, _)] rfl ⟨rfl, rfl, rfl, trivial⟩ ?_
    refine rw_split (t := 36) rfl (fun e4 => ?_) (fun e4 => ?_)
    ·refine rw_run tab_ok 16 [(2, _), (3, _), (52, _)] rfl ⟨rfl, rfl, rfl, trivial⟩ ?_
     refine rw_end ?_
     refine cw_cond_t rfl ?_
     refine cw_seq ?_
     refine cw_region ?_
     refine rw_run tab_ok 1 [(4, _)] rfl ⟨rfl, trivial⟩ ?_
     refine rw_end ?_
     refine cw_ret (xw_thenr ?_)
     refine xw_ret1 Tryz.results37 (rv_tmp rfl) ?_
     intro w hw
     exact ⟨ret_bool (by rw [decide_eq_false (ne_of_field (f := MMach.inn) (not_dec e4))]), hw.below⟩
    ·have e4 := not_dec' e4
     refine rw_run tab_ok 1 [(2, _), (3, _), (36, _), (37, _)] rfl ⟨rfl, rfl, rfl, rfl, trivial⟩ ?_
     refine rw_s (qs_ldb fc Tryz.isAgg27 rfl rfl (by rfl)) rfl rfl ?_
     refine rw_run tab_ok 1 [(2, _), (3, _), (36, _), (38, _), (39, _)] rfl ⟨rfl, rfl, rfl, rfl, rfl, trivial⟩ ?_
     refine rw_s (qs_ldb fc Tryz.isAgg27 rfl rfl (by rfl)) rfl rfl ?_
     refine rw_op (ot_c0 rfl rfl rfl Tryz.call38 (fun w hw => sameInts_w _ _ _ _ m1.out m2.out w (hw.ro h1.o) (hw.ro h2.o))) rfl rfl (fun _ _ => ?_)
     refine rw_run tab_ok 3 [(2, _), (3, _), (44, _)] rfl ⟨rfl, rfl, rfl, trivial⟩ ?_
     refine rw_split (t := 44) rfl (fun e5 => ?_) (fun e5 => ?_)
     ·refine rw_run tab_ok 8 [(2, _), (3, _), (52, _)] rfl ⟨rfl, rfl, rfl, trivial⟩ ?_
      refine rw_end ?_
      refine cw_cond_t rfl ?_
      refine cw_seq ?_
      refine cw_region ?_
      refine rw_run tab_ok 1 [(4, _)] rfl ⟨rfl, trivial⟩ ?_
      refine rw_end ?_
      refine cw_ret (xw_thenr ?_)
      refine xw_ret1 Tryz.results37 (rv_tmp rfl) ?_
      intro w hw
      exact ⟨ret_bool (by rw [decide_eq_false (ne_of_field (f := MMach.out) (not_dec e5))]), hw.below⟩
     ·have e5 := not_dec' e5
      refine rw_run tab_ok 1 [(2, _), (3, _), (44, _), (45, _)] rfl ⟨rfl, rfl, rfl, rfl, trivial⟩ ?_
      refine rw_s (qs_ldb fc Tryz.isAgg25 rfl rfl (by rfl)) rfl rfl ?_
      refine rw_s (qs_len Tryz.underlying25 rfl rfl) rfl rfl ?_
      refine rw_run tab_ok 1 [(2, _), (3, _), (44, _), (47, _), (48, _)] rfl ⟨rfl, rfl, rfl, rfl, rfl, trivial⟩ ?_
      refine rw_s (qs_ldb fc Tryz.isAgg25 rfl rfl (by rfl)) rfl rfl ?_
      refine rw_s (qs_len Tryz.underlying25 rfl rfl) rfl rfl ?_
      refine rw_run tab_ok 2 [(2, _), (3, _), (52, _)] rfl ⟨rfl, rfl, rfl, trivial⟩ ?_
      refine rw_end ?_
      refine cw_condN rfl (fun e6 => ?_) (fun e6 => ?_)
      ·refine cw_seq ?_
       refine cw_region ?_
       refine rw_run tab_ok 1 [(4, _)] rfl ⟨rfl, trivial⟩ ?_
       refine rw_end ?_
       refine cw_ret (xw_thenr ?_)
       refine xw_ret1 Tryz.results37 (rv_tmp rfl) ?_
       intro w hw
       exact ⟨ret_bool (by rw [decide_eq_false (ne_of_field (f := fun m => m.frames.length) (fun h => e6 (by rw [show m1.frames.length = m2.frames.length from h])))]), hw.below⟩
      ·have e6 : m1.frames.length = m2.frames.length := by omega
       refine cw_skip (xw_then ?_)
       refine cw_seq ?_
       refine cw_seq ?_
       refine cw_region ?_
       refine rw_run tab_ok 1 [(2, _), (3, _), (5, _)] rfl ⟨rfl, rfl, rfl, trivial⟩ ?_
       refine rw_end ?_
       refine cw_block (cw_loop (fun i : Nat => i ≤ m1.frames.length ∧ m1.frames.take i = m2.frames.take i) (fun i => m1.frames.length - i) (fun i => [(2, .pointer (some ⟨g1, 0, none⟩)), (3, .pointer (some ⟨g2, 0, none⟩)), (5, .int .i64 (i : Int))]) (fun _ => [RBox g1 [.slice a.Af m1.frames.length a.cf, .slice a.Ab m1.blocks.length a.cb, .slice a.Ai m1.inn.length a.ci, .slice a.Ao m1.out.length a.co, .int .i64 m1.status, .int .i64 m1.trap] 29, RBox g2 [.slice b.Af m2.frames.length b.cf, .slice b.Ab m2.blocks.length b.cb, .slice b.Ai m2.inn.length b.ci, .slice b.Ao m2.out.length b.co, .int .i64 m2.status, .int .i64 m2.trap] 29]) 0 (⟨Nat.zero_le _, rfl⟩) ⟨rfl, rfl, rfl, trivial⟩ me ?_)
       rintro i hi'
       obtain ⟨hi, hj⟩ : i ≤ m1.frames.length ∧ m1.frames.take i = m2.frames.take i := hi'
       refine cw_seq ?_
       refine cw_seq ?_
       refine cw_region ?_
       refine rw_run tab_ok 2 [(2, _), (3, _), (5, _), (53, _), (54, _)] rfl ⟨rfl, rfl, rfl, rfl, rfl, trivial⟩ ?_
       refine rw_s (qs_ldb fc Tryz.isAgg25 rfl rfl (by rfl)) rfl rfl ?_
       refine rw_s (qs_len Tryz.underlying25 rfl rfl) rfl rfl ?_
       refine rw_run tab_ok 1 [(2, _), (3, _), (5, _), (57, _)] rfl ⟨rfl, rfl, rfl, rfl, trivial⟩ ?_
       refine rw_end ?_
       refine cw_condD rfl (fun hlt => ?_) (fun hlt => ?_)
       ·have hil : i < m1.frames.length := by omega
        have hil2 : i < m2.frames.length := by omega
        obtain ⟨A1, c1, A2, c2, hl1, hs1, hI1, hc1⟩ := h1.f.fr hil
        obtain ⟨A3, c3, A4, c4, hl2, hs2, hI2, hc2⟩ := h2.f.fr hil2
        refine cw_skip (xw_then ?_)
        refine cw_seq ?_
        refine cw_block ?_
        refine cw_cut (fun _ : Nat × Nat => True) (fun g => [(2, .pointer (some ⟨g1, 0, none⟩)), (3, .pointer (some ⟨g2, 0, none⟩)), (5, .int .i64 (i : Int)), (6, .pointer (some ⟨g.1, 0, none⟩)), (7, .pointer (some ⟨g.2, 0, none⟩))]) (fun g => [RBox g1 [.slice a.Af m1.frames.length a.cf, .slice a.Ab m1.blocks.length a.cb, .slice a.Ai m1.inn.length a.ci, .slice a.Ao m1.out.length a.co, .int .i64 m1.status, .int .i64 m1.trap] 29, RBox g2 [.slice b.Af m2.frames.length b.cf, .slice b.Ab m2.blocks.length b.cb, .slice b.Ai m2.inn.length b.ci, .slice b.Ao m2.out.length b.co, .int .i64 m2.status, .int .i64 m2.trap] 29, RBox g.1 [.int .i64 (frAt m1.frames i).func, .int .i64 (frAt m1.frames i).pc, .slice A1 (frAt m1.frames i).locals.length c1, .slice A2 (frAt m1.frames i).stack.length c2] 66, RBox g.2 [.int .i64 (frAt m2.frames i).func, .int .i64 (frAt m2.frames i).pc, .slice A3 (frAt m2.frames i).locals.length c3, .slice A4 (frAt m2.frames i).stack.length c4] 66]) ?_ ?_
        ·refine cw_drawq (.still 0 (.still 1 (.still 2 (.still 3 (.still 4 (.still 5 (.still 6 (.still 7 (.still 8 (.still 9 (.pick 10 (.pick 11 (.pick 12 (.pick 13 .done .stop) .stop) .stop) (.pick 11 (.pick 10 (.pick 12 (.pick 13 .done .stop) .stop) .stop) .stop)))))))))))) [13] rfl (by kernel_rfl) (by kernel_rfl) [RBox g1 [.slice a.Af m1.frames.length a.cf, .slice a.Ab m1.blocks.length a.cb, .slice a.Ai m1.inn.length a.ci, .slice a.Ao m1.out.length a.co, .int .i64 m1.status, .int .i64 m1.trap] 29, RBox g2 [.slice b.Af m2.frames.length b.cf, .slice b.Ab m2.blocks.length b.cb, .slice b.Ai m2.inn.length b.ci, .slice b.Ao m2.out.length b.co, .int .i64 m2.status, .int .i64 m2.trap] 29] ?_
         refine ro_run tab_ok ha 1 [(2, _), (3, _), (5, _), (60, _)] rfl ⟨rfl, rfl, rfl, rfl, trivial⟩ ?_
         refine ro_s2 rfl (qs_ldb fc Tryz.isAgg25 rfl rfl (by rfl)) rfl rfl ha ?_
         refine ro_run tab_ok ha 1 [(2, _), (3, _), (5, _), (61, _), (62, _)] rfl ⟨rfl, rfl, rfl, rfl, rfl, trivial⟩ ?_
         refine ro_s2 rfl (qs_idx (k := i) Tryz.underlying25 Tryz.sizeOf66 (.ro h1.f) (by omega) rfl rfl rfl) rfl rfl ha ?_
         refine ro_s2 rfl (qs_ldA (hc1 _) rfl rfl Tryz.isAgg66 Tryz.sizeOf66) rfl rfl ha ?_
         refine ro_run tab_ok ha 1 [(2, _), (3, _), (5, _), (64, _), (65, _)] rfl ⟨rfl, rfl, rfl, rfl, rfl, trivial⟩ ?_
         refine ro_s2 rfl (qs_ldb fc Tryz.isAgg25 rfl rfl (by rfl)) rfl rfl ha ?_
         refine ro_run tab_ok ha 1 [(2, _), (3, _), (5, _), (64, _), (66, _), (67, _)] rfl ⟨rfl, rfl, rfl, rfl, rfl, rfl, trivial⟩ ?_
         refine ro_s2 rfl (qs_idx (k := i) Tryz.underlying25 Tryz.sizeOf66 (.ro h2.f) (by omega) rfl rfl rfl) rfl rfl ha ?_
         refine ro_s2 rfl (qs_ldA (hc2 _) rfl rfl Tryz.isAgg66 Tryz.sizeOf66) rfl rfl ha ?_
         refine ro_op2 rfl (ot_alloc Tryz.zeroValue66 rfl rfl) rfl rfl (.inr fun _ => ha) (fun q1 _ => ?_) ?_
         ·refine ro_op2 rfl (ot_alloc Tryz.zeroValue66 rfl rfl) rfl rfl (.inr fun _ => ha) (fun q2 _ => ?_) ro_stop
          refine ro_op2 rfl (ot_stb [_, _, _, _] fc Tryz.sizeOf66 rfl rfl rfl rfl rfl (by rfl) rfl (by rfl)) rfl rfl (.inr fun _ => ha) (fun _ _ => ?_) ro_stop
          refine ro_op2 rfl (ot_stb [_, _, _, _] fc Tryz.sizeOf66 rfl rfl rfl rfl rfl (by rfl) rfl (by rfl)) rfl rfl (.inl rfl) (fun _ _ => ?_) ro_stop
          refine ro_endx <| xw_join (q1, q2) (trivial) ⟨rfl, rfl, rfl, rfl, rfl, trivial⟩ (fun _ h => h.msub ms)
         ·refine ro_op2 rfl (ot_alloc Tryz.zeroValue66 rfl rfl) rfl rfl (.inr fun _ => ha) (fun q2 _ => ?_) ro_stop
          refine ro_op2 rfl (ot_alloc Tryz.zeroValue66 rfl rfl) rfl rfl (.inr fun _ => ha) (fun q1 _ => ?_) ro_stop
          refine ro_op2 rfl (ot_stb [_, _, _, _] fc Tryz.sizeOf66 rfl rfl rfl rfl rfl (by rfl) rfl (by rfl)) rfl rfl (.inr fun _ => ha) (fun _ _ => ?_) ro_stop
          refine ro_op2 rfl (ot_stb [_, _, _, _] fc Tryz.sizeOf66 rfl rfl rfl rfl rfl (by rfl) rfl (by rfl)) rfl rfl (.inl rfl) (fun _ _ => ?_) ro_stop
          refine ro_endx <| xw_join (q1, q2) (trivial) ⟨rfl, rfl, rfl, rfl, rfl, trivial⟩ (fun _ h => h.msub ms)
        ·rintro ⟨q1, q2⟩ _
         dsimp only
         refine cw_seq ?_
         refine cw_region ?_
         refine rw_run tab_ok 1 [(2, _), (3, _), (5, _), (6, _), (7, _), (70, _)] rfl ⟨rfl, rfl, rfl, rfl, rfl, rfl, trivial⟩ ?_
         refine rw_s (qs_ldb fc Tryz.isAgg3 rfl rfl (by rfl)) rfl rfl ?_
         refine rw_run tab_ok 1 [(2, _), (3, _), (5, _), (6, _), (7, _), (71, _), (72, _)] rfl ⟨rfl, rfl, rfl, rfl, rfl, rfl, rfl, trivial⟩ ?_
         refine rw_s (qs_ldb fc Tryz.isAgg3 rfl rfl (by rfl)) rfl rfl ?_
         refine rw_run tab_ok 2 [(2, _), (3, _), (5, _), (6, _), (7, _), (75, _)] rfl ⟨rfl, rfl, rfl, rfl, rfl, rfl, trivial⟩ ?_
         refine rw_split (t := 75) rfl (fun f1 => ?_) (fun f1 => ?_)
         ·refine rw_run tab_ok 22 [(2, _), (3, _), (5, _), (97, _)] rfl ⟨rfl, rfl, rfl, rfl, trivial⟩ ?_
          refine rw_end ?_
          refine cw_cond_t rfl ?_
          refine cw_seq ?_
          refine cw_region ?_
          refine rw_run tab_ok 1 [(4, _)] rfl ⟨rfl, trivial⟩ ?_
          refine rw_end ?_
          refine cw_ret (xw_blkr (xw_thenr (xw_thenr (xw_blkr (xw_thenr ?_)))))
          refine xw_ret1 Tryz.results37 (rv_tmp rfl) ?_
          intro w hw
          exact ⟨ret_bool (by rw [decide_eq_false (ne_of_field (f := MMach.frames) (fr_ne (i := i) (f := MFrame.func) (not_dec f1)))]), hw.below⟩
         ·have f1 := not_dec' f1
          refine rw_run tab_ok 1 [(2, _), (3, _), (5, _), (6, _), (7, _), (75, _), (76, _)] rfl ⟨rfl, rfl, rfl, rfl, rfl, rfl, rfl, trivial⟩ ?_
          refine rw_s (qs_ldb fc Tryz.isAgg3 rfl rfl (by rfl)) rfl rfl ?_
          refine rw_run tab_ok 1 [(2, _), (3, _), (5, _), (6, _), (7, _), (75, _), (77, _), (78, _)] rfl ⟨rfl, rfl, rfl, rfl, rfl, rfl, rfl, rfl, trivial⟩ ?_
          refine rw_s (qs_ldb fc Tryz.isAgg3 rfl rfl (by rfl)) rfl rfl ?_
          refine rw_run tab_ok 3 [(2, _), (3, _), (5, _), (6, _), (7, _), (82, _)] rfl ⟨rfl, rfl, rfl, rfl, rfl, rfl, trivial⟩ ?_
          refine rw_split (t := 82) rfl (fun f2 => ?_) (fun f2 => ?_)
          ·refine rw_run tab_ok 15 [(2, _), (3, _), (5, _), (97, _)] rfl ⟨rfl, rfl, rfl, rfl, trivial⟩ ?_
           refine rw_end ?_
           refine cw_cond_t rfl ?_
           refine cw_seq ?_
           refine cw_region ?_
           refine rw_run tab_ok 1 [(4, _)] rfl ⟨rfl, trivial⟩ ?_
           refine rw_end ?_
           refine cw_ret (xw_blkr (xw_thenr (xw_thenr (xw_blkr (xw_thenr ?_)))))
           refine xw_ret1 Tryz.results37 (rv_tmp rfl) ?_
           intro w hw
           exact ⟨ret_bool (by rw [decide_eq_false (ne_of_field (f := MMach.frames) (fr_ne (i := i) (f := MFrame.pc) (not_dec f2)))]), hw.below⟩
          ·have f2 := not_dec' f2
           refine rw_run tab_ok 1 [(2, _), (3, _), (5, _), (6, _), (7, _), (82, _), (83, _)] rfl ⟨rfl, rfl, rfl, rfl, rfl, rfl, rfl, trivial⟩ ?_
           refine rw_s (qs_ldb fc Tryz.isAgg64 rfl rfl (by rfl)) rfl rfl ?_
           refine rw_run tab_ok 1 [(2, _), (3, _), (5, _), (6, _), (7, _), (82, _), (84, _), (85, _)] rfl ⟨rfl, rfl, rfl, rfl, rfl, rfl, rfl, rfl, trivial⟩ ?_
           refine rw_s (qs_ldb fc Tryz.isAgg64 rfl rfl (by rfl)) rfl rfl ?_
           refine rw_op (ot_c0 rfl rfl rfl Tryz.call97 (fun w hw => sameValues_any _ _ _ _ (frAt m1.frames i).locals (frAt m2.frames i).locals w (hw.ro hl1) (hw.ro hl2))) rfl rfl (fun _ _ => ?_)
           refine rw_run tab_ok 3 [(2, _), (3, _), (5, _), (6, _), (7, _), (90, _)] rfl ⟨rfl, rfl, rfl, rfl, rfl, rfl, trivial⟩ ?_
           refine rw_split (t := 90) rfl (fun f3 => ?_) (fun f3 => ?_)
           ·refine rw_run tab_ok 7 [(2, _), (3, _), (5, _), (97, _)] rfl ⟨rfl, rfl, rfl, rfl, trivial⟩ ?_
            refine rw_end ?_
            refine cw_cond_t rfl ?_
            refine cw_seq ?_
            refine cw_region ?_
            refine rw_run tab_ok 1 [(4, _)] rfl ⟨rfl, trivial⟩ ?_
            refine rw_end ?_
            refine cw_ret (xw_blkr (xw_thenr (xw_thenr (xw_blkr (xw_thenr ?_)))))
            refine xw_ret1 Tryz.results37 (rv_tmp rfl) ?_
            intro w hw
            exact ⟨ret_bool (by rw [decide_eq_false (ne_of_field (f := MMach.frames) (fr_ne (i := i) (f := MFrame.locals) (not_dec f3)))]), hw.below⟩
           ·have f3 := not_dec' f3
            refine rw_run tab_ok 1 [(2, _), (3, _), (5, _), (7, _), (90, _), (91, _)] rfl ⟨rfl, rfl, rfl, rfl, rfl, rfl, trivial⟩ ?_
            refine rw_s (qs_ldb fc Tryz.isAgg64 rfl rfl (by rfl)) rfl rfl ?_
            refine rw_run tab_ok 1 [(2, _), (3, _), (5, _), (90, _), (92, _), (93, _)] rfl ⟨rfl, rfl, rfl, rfl, rfl, rfl, trivial⟩ ?_
            refine rw_s (qs_ldb fc Tryz.isAgg64 rfl rfl (by rfl)) rfl rfl ?_
            refine rw_op (ot_c0 rfl rfl rfl Tryz.call97 (fun w hw => sameValues_any _ _ _ _ (frAt m1.frames i).stack (frAt m2.frames i).stack w (hw.ro hs1) (hw.ro hs2))) rfl rfl (fun _ _ => ?_)
            refine rw_run tab_ok 2 [(2, _), (3, _), (5, _), (97, _)] rfl ⟨rfl, rfl, rfl, rfl, trivial⟩ ?_
            refine rw_end ?_
            refine cw_condN rfl (fun f4 => ?_) (fun f4 => ?_)
            ·refine cw_seq ?_
             refine cw_region ?_
             refine rw_run tab_ok 1 [(4, _)] rfl ⟨rfl, trivial⟩ ?_
             refine rw_end ?_
             refine cw_ret (xw_blkr (xw_thenr (xw_thenr (xw_blkr (xw_thenr ?_)))))
             refine xw_ret1 Tryz.results37 (rv_tmp rfl) ?_
             intro w hw
             exact ⟨ret_bool (by rw [decide_eq_false (ne_of_field (f := MMach.frames) (fr_ne (i := i) (f := MFrame.stack) f4))]), hw.below⟩
            ·refine cw_skip (xw_blkn (xw_then ?_))
             refine cw_region ?_
             refine rw_run tab_ok 1 [(2, _), (3, _), (58, _)] rfl ⟨rfl, rfl, rfl, trivial⟩ ?_
             refine rw_s (qs_add rfl rfl rfl (by omega)) rfl rfl ?_
             refine rw_run tab_ok 1 [(2, _), (3, _), (5, _)] rfl ⟨rfl, rfl, rfl, trivial⟩ ?_
             refine rw_round (i + 1) (⟨by show i + 1 ≤ _; omega, take_eqS default hil hil2 hj (fr_ext f1 f2 f3 f4)⟩) (by show _ - _ < _ - _; omega) ⟨rfl, rfl, rfl, trivial⟩ (fun w h => h.msub ms)
       ·obtain rfl : i = m1.frames.length := by omega
        rw [List.take_length, e6, List.take_length] at hj
        refine cw_exit (xw_thenx (xw_thenx (xw_blk (xw_then ?_))))
        refine cw_seq ?_
        refine cw_region ?_
        refine rw_run tab_ok 1 [(4, _)] rfl ⟨rfl, trivial⟩ ?_
        refine rw_end ?_
        refine cw_ret ?_
        refine xw_ret1 Tryz.results37 (rv_tmp rfl) ?_
        intro w hw
        exact ⟨ret_bool (by rw [decide_eq_true (mach_eq e1 e2 e3 e4 e5 hj)]), hw.below⟩
end Go.Proofs.YtmnkaalchcomlaaGreat
-- Mb2
/- Machines: what must be in any case. -/
namespace Go.Proofs.YtmnkaalchcomlaaGreat
open Go.RowKit
def mc1 : MMach := ⟨[⟨0, 0, [], []⟩], [], [], [], 0, 0⟩
def mc2 : MMach := ⟨[⟨0, 1, [], [⟨false, 3⟩]⟩], [], [], [], 0, 0⟩
def ms2 : MMach := ⟨[⟨0, 0, [], []⟩], [], [], [], 1, 0⟩
set_option maxRecDepth 100000 in
theorem mach_facts : progS counterM = 0 ∧ startM counterM = mc1 ∧ machE counterM mc1 = 0 ∧ stepR counterM mc1 = mc2 ∧ machE counterM mc2 = 0 ∧ progS squareM = 0 ∧ startM squareM = mc1 ∧ machE squareM mc1 = 0 ∧ stepR squareM mc1 = ms2 := by
 refine ⟨?_, ?_, ?_, ?_, ?_, ?_, ?_, ?_, ?_⟩ <;> kernel_rfl
theorem fit_mc1 : FitF mc1.frames := by
 refine ⟨by decide, fun x hx => ?_⟩
 have : x = ⟨0, 0, [], []⟩ := by simpa [mc1] using hx
 subst this
 decide
section
variable {fs : List MFunc} {m : MMach} {n : Nat}
theorem begun_start (hp : progS fs = 0) (hm : startM fs = mc1) (hn : fs.length = n) (A : Option Addr) (c : Nat) (w : World) (hs : Sl w (.slice A n c) fs) :
  Calls Tryz.prog 31 #[.agg #[.slice A n c]] w fun e w' => ∃ g : MA, True ∧
   e = .returned (.tuple #[.agg #[.slice g.Af 1 g.cf, .slice g.Ab 0 g.cb, .slice g.Ai 0 g.ci, .slice g.Ao 0 g.co, .int .i64 0, .int .i64 0], .int .i64 0]) ∧ Cw w.heap.size w [ROw (.slice g.Af 1 g.cf) mc1.frames, ROw (.slice g.Ab 0 g.cb) mc1.blocks, ROw (.slice g.Ai 0 g.ci) mc1.inn, ROw (.slice g.Ao 0 g.co) mc1.out] w' := by
 subst hn
 have := mstart_any A c fs mc1 hm w hs
 rw [hp] at this
 exact this
end
section
variable {B : Nat} {w0 w : World} {H H1 H2 H3 H4 : List Res}
theorem min_own {g : MA} {m : MMach} {nf nb ni no : Nat} (hw : Cw B w0 H w) (hf : Foc H (ROw (.slice g.Af nf g.cf) m.frames) H1) (hb : Foc H (ROw (.slice g.Ab nb g.cb) m.blocks) H2) (hi : Foc H (ROw (.slice g.Ai ni g.ci) m.inn) H3) (ho : Foc H (ROw (.slice g.Ao no g.co) m.out) H4) (e1 : m.frames.length = nf) (e2 : m.blocks.length = nb) (e3 : m.inn.length = ni) (e4 : m.out.length = no) (hs : I64 m.status) (ht : I64 m.trap) : MIn w.heap.size w g m := by
 subst e1 e2 e3 e4
 exact ⟨SF.at_ (SF.own rfl hf) hw, SF.at_ (SF.own rfl hb) hw, SF.at_ (SF.own rfl hi) hw, SF.at_ (SF.own rfl ho) hw, hs, ht⟩
end
section
variable {P : Program} {n : NF} {B : Nat} {w0 : World} {H H' : List Res} {Q : Exit → Act → World → Prop} {env : Env} {x : Code}
structure RdF (B : Nat) (w0 : World) (X : Res) (k : Nat) (A : Option Addr) (c : Nat) (fr : List MFrame) (hs : List HFrame) : Prop where
 el : ∀ i, i < k → ∃ Al cl As cs, hs.getD i default = ⟨(frAt fr i).func, (frAt fr i).pc, .slice Al (frAt fr i).locals.length cl, .slice As (frAt fr i).stack.length cs⟩ ∧
  (∀ H H', Foc H X H' → SF B w0 H Al (frAt fr i).locals.length cl (frAt fr i).locals ∧ SF B w0 H As (frAt fr i).stack.length cs (frAt fr i).stack)
 len : hs.length = k
 back : ∀ H H' H'' w, Foc H (ROw (.slice A k c) hs) H' → Foc H' X H'' → Cw B w0 H w → Cw B w0 (ROw (.slice A k c) fr :: H'') w
end
end Go.Proofs.YtmnkaalchcomlaaGreat
-- Mb4
/- Machines: the op that a machine is at (the reference). -/
namespace Go.Proofs.YtmnkaalchcomlaaGreat
open Go.RowKit
theorem ofield (a b : Int) (w : World) : (Instr.field 51 (.agg #[.int .i64 a, .int .i64 b]) 0).run Tryz.prog w = .ok (.int .i64 a) w := by kernel_rfl
theorem top_at {fs : List MFunc} {m : MMach} {li : List MFrame} {x : MFrame} (e : m.frames = li ++ [x]) : frAt m.frames li.length = x ∧ m.frames.length = li.length + 1 ∧ opOf fs m = opAt (fnAt fs x.func.toNat).code x.pc.toNat := by
 refine ⟨by rw [e, fr_eq], by rw [e]; simp, ?_⟩
 unfold opOf frTop
 rw [e, getLastD_snoc]
end Go.Proofs.YtmnkaalchcomlaaGreat
-- Me1
/- Meter: what an op costs; one step with fuel. -/
namespace Go.Proofs.YtmnkaalchcomlaaGreat
open Go.RowKit
theorem costof_any (c : Int) (w : World) : Calls Tryz.prog 102 #[.int .i64 c] w fun e w' => e = .returned (.int .i64 (costC c)) ∧ Below w.heap.size w w' := by
 refine enter Tryz.func102 rfl Tryz.ntmps102 rfl ?_
 refine cw_seq ?_
 refine cw_region ?_
 refine rw_run tab_ok 1 [(0, _)] rfl ⟨rfl, trivial⟩ ?_
 refine rw_end ?_
 refine cw_seq ?_
 refine cw_seq ?_
 refine cw_region ?_
 refine rw_run tab_ok 1 [(3, _)] rfl ⟨rfl, trivial⟩ ?_
 refine rw_end ?_
 refine cw_block ?_
 refine cw_seq ?_
 refine cw_region ?_
 refine rw_run tab_ok 2 [(3, _), (4, _)] rfl ⟨rfl, rfl, trivial⟩ ?_
 refine rw_end ?_
 refine cw_condD rfl (fun h1 => ?_) (fun h1 => ?_)
 ·have h1 : c = 14 := h1
  refine cw_seq ?_
  refine cw_region ?_
  refine rw_run tab_ok 1 [(2, _)] rfl ⟨rfl, trivial⟩ ?_
  refine rw_end ?_
  refine cw_ret (xw_blkr (xw_thenr ?_))
  refine xw_ret1 Tryz.results102 (rv_tmp rfl) ?_
  intro w hw
  exact ⟨by rw [h1]; rfl, hw.below⟩
 ·have h1 : ¬ c = 14 := h1
  refine cw_seq ?_
  refine cw_region ?_
  refine rw_run tab_ok 2 [(6, _)] rfl ⟨rfl, trivial⟩ ?_
  refine rw_end ?_
  refine cw_condD rfl (fun h2 => ?_) (fun h2 => ?_)
  ·have h2 : c = 12 := h2
   refine cw_seq ?_
   refine cw_region ?_
   refine rw_run tab_ok 1 [(2, _)] rfl ⟨rfl, trivial⟩ ?_
   refine rw_end ?_
   refine cw_ret (xw_blkr (xw_thenr ?_))
   refine xw_ret1 Tryz.results102 (rv_tmp rfl) ?_
   intro w hw
   exact ⟨by rw [h2]; rfl, hw.below⟩
  ·have h2 : ¬ c = 12 := h2
   refine cw_skip (xw_blkn (xw_then ?_))
   refine cw_seq ?_
   refine cw_region ?_
   refine rw_run tab_ok 1 [(2, _)] rfl ⟨rfl, trivial⟩ ?_
   refine rw_end ?_
   refine cw_ret ?_
   refine xw_ret1 Tryz.results102 (rv_tmp rfl) ?_
   intro w hw
   exact ⟨by unfold costC; rw [if_neg h1, if_neg h2], hw.below⟩
set_option maxRecDepth 100000 in
theorem next_any (Ap : Option Addr) (cp : Nat) (fs : List MFunc) (a : MA) (m : MMach) (w : World) (hs : Sl w (.slice Ap fs.length cp) fs) (hm : MIn w.heap.size w a m) (hF : Fitd fs) (hR : RightM fs m) (hne : m.frames ≠ []) :
  Calls Tryz.prog 179 #[.agg #[.slice Ap fs.length cp], .agg #[.slice a.Af m.frames.length a.cf, .slice a.Ab m.blocks.length a.cb, .slice a.Ai m.inn.length a.ci, .slice a.Ao m.out.length a.co, .int .i64 m.status, .int .i64 m.trap]] w fun e w' => e = .returned (.agg #[.int .i64 (opOf fs m).c, .int .i64 (opOf fs m).a]) ∧ Below w.heap.size w w' := by
 have b1 := len_bd hm.f
 obtain ⟨li, x, e⟩ : ∃ li x, m.frames = li ++ [x] := by
  rcases List.eq_nil_or_concat m.frames with h1 | ⟨l, z, h1⟩
  ·exact absurd h1 hne
  ·exact ⟨l, z, by rw [h1]; simp⟩
 obtain ⟨hx, hk, hop⟩ := top_at (fs := fs) e
 obtain ⟨k, hkl⟩ : ∃ k, li.length = k := ⟨_, rfl⟩
 rw [hkl] at hx hk
 obtain ⟨hfn, hloc, t, he, hts⟩ := hR.top e
 obtain ⟨hp0, hp1, _⟩ := (hF.e x.func.toNat (by omega)).at_ _ _ he
 obtain ⟨A1, c1, A2, c2, h1, h2, hi, hc⟩ := hm.f.fr (k := k) (by omega)
 rw [hx] at h1 h2 hi hc
 obtain ⟨kf, hkf⟩ : ∃ kf : Nat, x.func = kf := ⟨x.func.toNat, by omega⟩
 obtain ⟨kp, hkp⟩ : ∃ kp : Nat, x.pc = kp := ⟨x.pc.toNat, by omega⟩
 rw [hkf, Int.toNat_natCast] at hp1 hop
 rw [hkp, Int.toNat_natCast] at hop
 rw [hkp] at hp1
 have hkfl : kf < fs.length := by omega
 have hkpl : kp < (fnAt fs kf).code.length := by omega
 obtain ⟨F1, d1, F2, d2, hfl, hfc, hfi, hfcell⟩ := hs.fn hkfl
 have bp := len_bd hs
 have bc := len_bd hfc
 rw [hop]
 refine enter Tryz.func179 rfl Tryz.ntmps179 rfl ?_
 refine cw_seq ?_
 refine cw_region ?_
 refine rw_op (ot_box rfl rfl rfl) rfl rfl (fun g1 _ => ?_)
 refine rw_op (ot_box rfl rfl rfl) rfl rfl (fun g2 _ => ?_)
 refine rw_op (ot_alloc Tryz.zeroValue51 rfl rfl) rfl rfl (fun g3 _ => ?_)
 refine rw_end ?_
 refine cw_seq ?_
 refine cw_region ?_
 refine rw_run tab_ok 1 [(2, _), (3, _), (4, _), (6, _)] rfl ⟨rfl, rfl, rfl, rfl, trivial⟩ ?_
 refine rw_s (qs_ldb fc Tryz.isAgg25 rfl rfl (by rfl)) rfl rfl ?_
 refine rw_run tab_ok 1 [(2, _), (4, _), (7, _), (8, _)] rfl ⟨rfl, rfl, rfl, rfl, trivial⟩ ?_
 refine rw_s (qs_ldb fc Tryz.isAgg25 rfl rfl (by rfl)) rfl rfl ?_
 refine rw_s (qs_len Tryz.underlying25 rfl rfl) rfl rfl ?_
 refine rw_s (qs_sub rfl rfl rfl (by omega)) rfl rfl ?_
 refine rw_as (t := 11) (v' := .int .i64 (k : Int)) rfl (congrArg (Value.int .i64) (by omega)) ?_
 refine rw_s (qs_idx (k := k) Tryz.underlying25 Tryz.sizeOf66 (.ro hm.f) (by omega) rfl rfl rfl) rfl rfl ?_
 refine rw_s (qs_ldA (hc _) rfl rfl Tryz.isAgg66 Tryz.sizeOf66) rfl rfl ?_
 refine rw_op (ot_alloc Tryz.zeroValue66 rfl rfl) rfl rfl (fun g4 _ => ?_)
 refine rw_op (ot_stb _ fc Tryz.sizeOf66 rfl rfl rfl rfl rfl (by rfl) rfl (by rfl)) rfl rfl (fun _ _ => ?_)
 refine rw_end ?_
 refine cw_seq ?_
 refine cw_draw (.still 0 (.still 1 (.still 2 (.still 3 (.still 4 (.still 5 (.still 6 (.still 7 (.still 8 (.still 9 (.still 10 (.pick 11 .done .stop)))))))))))) [11] rfl (by kernel_rfl) (by kernel_rfl) ?_
 refine ro_run tab_ok ha 1 [(4, _), (5, _), (14, _)] rfl ⟨rfl, rfl, rfl, trivial⟩ ?_
 refine ro_s2 rfl (qs_ldb fc Tryz.isAgg22 rfl rfl (by rfl)) rfl rfl ha ?_
 refine ro_run tab_ok ha 1 [(4, _), (5, _), (15, _), (16, _)] rfl ⟨rfl, rfl, rfl, rfl, trivial⟩ ?_
 refine ro_s2 rfl (qs_ldb fc Tryz.isAgg3 rfl rfl (by rfl)) rfl rfl ha ?_
 refine ro_as (t := 17) (v' := .int .i64 (kf : Int)) rfl (congrArg (Value.int .i64) hkf) ?_
 refine ro_s2 rfl (qs_idx (k := kf) Tryz.underlying22 Tryz.sizeOf113 (.ro hs) (by omega) rfl rfl rfl) rfl rfl ha ?_
 refine ro_run tab_ok ha 1 [(4, _), (5, _), (19, _)] rfl ⟨rfl, rfl, rfl, trivial⟩ ?_
 refine ro_s2 rfl (qs_ld (fun w hw => hfcell _ w hw 3 _ rfl) rfl rfl Tryz.isAgg111) rfl rfl ha ?_
 refine ro_run tab_ok ha 1 [(4, _), (20, _), (21, _)] rfl ⟨rfl, rfl, rfl, trivial⟩ ?_
 refine ro_s2 rfl (qs_ldb fc Tryz.isAgg3 rfl rfl (by rfl)) rfl rfl ha ?_
 refine ro_as (t := 22) (v' := .int .i64 (kp : Int)) rfl (congrArg (Value.int .i64) hkp) ?_
 refine ro_s2 rfl (qs_idx (k := kp) Tryz.underlying111 Tryz.sizeOf51 (.ro hfc) (by omega) rfl rfl rfl) rfl rfl ha ?_
 refine ro_s2 rfl (qs_ldA (cs := [_, _]) (SF.op (.ro hfc) (by omega)) rfl rfl Tryz.isAgg51 Tryz.sizeOf51) rfl rfl ha ?_
 refine ro_op2 rfl (ot_stb _ fc Tryz.sizeOf51 rfl rfl rfl rfl rfl (by rfl) rfl (by rfl)) rfl rfl (.inl rfl) (fun _ _ => ?_) ro_stop
 refine ro_end ?_
 refine cw_ret ?_
 refine xw_ret1 Tryz.results179 (rv_box (cs := [_, _]) fc Tryz.isAgg51 Tryz.sizeOf51 rfl) ?_
 intro w hw
 exact ⟨rfl, hw.below⟩
def costS (o : MOp) : Int := if checkOp o = 0 then costC o.c else 0
/-! A step with fuel -/
def oneS (fs : List MFunc) (m : MMach) (k : Int) : MMach × Int := if haltM m then (m, k) else if k < costC (opOf fs m).c then (m, k) else (stepM fs m, k - costC (opOf fs m).c)
def onS (fs : List MFunc) (m : MMach) (k : Int) : Prop := ¬ haltM m ∧ costC (opOf fs m).c ≤ k ∧ (stepM fs m).status = 0
instance (fs : List MFunc) (m : MMach) (k : Int) : Decidable (onS fs m k) := by unfold onS; infer_instance
theorem one_halt {fs : List MFunc} {m : MMach} {k : Int} (h : haltM m) : oneS fs m k = (m, k) := if_pos h
theorem one_less {fs : List MFunc} {m : MMach} {k : Int} (h : ¬ haltM m) (h2 : k < costC (opOf fs m).c) : oneS fs m k = (m, k) := (if_neg h).trans (if_pos h2)
theorem one_step {fs : List MFunc} {m : MMach} {k : Int} (h : ¬ haltM m) (h2 : ¬ k < costC (opOf fs m).c) : oneS fs m k = (stepM fs m, k - costC (opOf fs m).c) := (if_neg h).trans (if_neg h2)
theorem run_one (fs : List MFunc) (m : MMach) (k : Int) : runM fs m k = if onS fs m k then runM fs (oneS fs m k).1 (oneS fs m k).2 else oneS fs m k := by
 rw [runM_eq]
 by_cases h1 : haltM m
 ·rw [if_pos h1, if_neg (show ¬ onS fs m k from fun h => h.1 h1), one_halt h1]
 ·rw [if_neg h1]
  by_cases h2 : k < costC (opOf fs m).c
  ·rw [if_pos h2, if_neg (show ¬ onS fs m k from fun h => by have := h.2.1; omega), one_less h1 h2]
  ·rw [if_neg h2, one_step h1 h2]
   by_cases h3 : (stepM fs m).status = 0
   ·rw [if_pos h3, if_pos (show onS fs m k from ⟨h1, by omega, h3⟩)]
   ·rw [if_neg h3, if_neg (show ¬ onS fs m k from fun h => h3 h.2.2)]
section
variable {B : Nat} {w0 : World} {H : List Res}
set_option maxRecDepth 100000 in
set_option maxHeartbeats 4000000 in
theorem rstep_any (gd : Nat) (a : MA) (m : MMach) (k : Int) (Ap : Option Addr) (cp : Nat) (fs : List MFunc) (hs : SlB w0 B (.slice Ap fs.length cp) fs) (hF : Fitd fs) (hR : RightM fs m) (hk : 0 ≤ k ∧ k ≤ 10000) (p : MMach × Int) (hpe : oneS fs m k = p) (w : World)
  (hw : Cw B w0 (RBox gd [.slice a.Af m.frames.length a.cf, .slice a.Ab m.blocks.length a.cb, .slice a.Ai m.inn.length a.ci, .slice a.Ao m.out.length a.co, .int .i64 m.status, .int .i64 m.trap, .int .i64 k] 176 :: ROw (.slice a.Af m.frames.length a.cf) m.frames :: ROw (.slice a.Ab m.blocks.length a.cb) m.blocks :: ROw (.slice a.Ai m.inn.length a.ci) m.inn :: ROw (.slice a.Ao m.out.length a.co) m.out :: H) w) :
  Calls Tryz.prog 139 #[.pointer (some ⟨gd, 0, none⟩), .agg #[.slice Ap fs.length cp]] w fun e w' => ∃ g : MA, True ∧ e = .returned (.bool (decide (onS fs m k))) ∧
   Cw B w0 (RBox gd [.slice g.Af p.1.frames.length g.cf, .slice g.Ab p.1.blocks.length g.cb, .slice g.Ai p.1.inn.length g.ci, .slice g.Ao p.1.out.length g.co, .int .i64 p.1.status, .int .i64 p.1.trap, .int .i64 p.2] 176 :: ROw (.slice g.Af p.1.frames.length g.cf) p.1.frames :: ROw (.slice g.Ab p.1.blocks.length g.cb) p.1.blocks :: ROw (.slice g.Ai p.1.inn.length g.ci) p.1.inn :: ROw (.slice g.Ao p.1.out.length g.co) p.1.out :: H) w' := by
 have hp := cost_pos (opOf fs m).c
 have hst := hR.st
 have hst2 : I64 m.status := ⟨by omega, by omega⟩
 have htr2 : I64 m.trap := by
  rcases Decidable.em (m.status = 3) with h3 | h3
  ·have := hR.t3 h3; exact ⟨by omega, by omega⟩
  ·have := hR.t0 h3; exact ⟨by omega, by omega⟩
 refine enter_own Tryz.func139 rfl Tryz.ntmps139 rfl hw ?_
 refine cw_seq ?_
 refine cw_region ?_
 refine rw_op (ot_box rfl rfl rfl) rfl rfl (fun g1 _ => ?_)
 refine rw_run tab_ok 1 [(0, _), (3, _)] rfl ⟨rfl, rfl, trivial⟩ ?_
 refine rw_end ?_
 refine cw_seq ?_
 refine cw_seq ?_
 refine cw_region ?_
 refine rw_run tab_ok 4 [(0, _), (3, _), (9, _)] rfl ⟨rfl, rfl, rfl, trivial⟩ ?_
 refine rw_s (qs_ldb fc Tryz.isAgg25 rfl rfl (by rfl)) rfl rfl ?_
 refine rw_s (qs_len Tryz.underlying25 rfl rfl) rfl rfl ?_
 refine rw_run tab_ok 2 [(0, _), (3, _), (13, _)] rfl ⟨rfl, rfl, rfl, trivial⟩ ?_
 refine rw_split (t := 13) rfl (fun q1 => ?_) (fun q1 => ?_)
 ·have hh : haltM m := .inl (List.eq_nil_of_length_eq_zero (by have := of_decide_eq_true q1; omega))
  have e : p = (m, k) := by rw [← hpe, one_halt hh]
  subst e
  refine rw_run tab_ok 7 [(0, _), (3, _), (20, _)] rfl ⟨rfl, rfl, rfl, trivial⟩ ?_
  refine rw_end ?_
  refine cw_cond_t rfl ?_
  refine cw_seq ?_
  refine cw_region ?_
  refine rw_run tab_ok 1 [(4, _)] rfl ⟨rfl, trivial⟩ ?_
  refine rw_end ?_
  refine cw_ret (xw_thenr ?_)
  refine xw_ret1 Tryz.results139 (rv_tmp rfl) ?_
  intro w hw
  exact ⟨a, trivial, ret_bool (decide_eq_false (fun h => h.1 hh)).symm, hw.msub ms⟩
 ·have hne : m.frames ≠ [] := fun e => by have := of_decide_eq_false q1; rw [e] at this; simp at this
  refine rw_run tab_ok 4 [(0, _), (3, _), (13, _), (17, _)] rfl ⟨rfl, rfl, rfl, rfl, trivial⟩ ?_
  refine rw_s (qs_ldb fc Tryz.isAgg3 rfl rfl (by rfl)) rfl rfl ?_
  refine rw_run tab_ok 2 [(0, _), (3, _), (20, _)] rfl ⟨rfl, rfl, rfl, trivial⟩ ?_
  refine rw_end ?_
  refine cw_condD rfl (fun q2 => ?_) (fun q2 => ?_)
  ·have hh : haltM m := .inr q2
   have e : p = (m, k) := by rw [← hpe, one_halt hh]
   subst e
   refine cw_seq ?_
   refine cw_region ?_
   refine rw_run tab_ok 1 [(4, _)] rfl ⟨rfl, trivial⟩ ?_
   refine rw_end ?_
   refine cw_ret (xw_thenr ?_)
   refine xw_ret1 Tryz.results139 (rv_tmp rfl) ?_
   intro w hw
   exact ⟨a, trivial, ret_bool (decide_eq_false (fun h => h.1 hh)).symm, hw.msub ms⟩
  ·have q2 : ¬ m.status = 3 := q2
   have hh : ¬ haltM m := fun h => h.elim hne q2
   have hst3 : ¬ (m.status = 2 ∨ m.status = 3) := (not_congr (halt_iff hR)).1 hh
   obtain ⟨c, hc⟩ : ∃ c, costC (opOf fs m).c = c := ⟨_, rfl⟩
   refine cw_skip (xw_then ?_)
   refine cw_seq ?_
   refine cw_draw (.still 0 (.still 1 (.still 2 (.still 3 (.still 4 (.pick 5 (.still 6 (.pick 7 (.still 8 .done) .stop)) .stop)))))) [] rfl (by kernel_rfl) (by kernel_rfl) ?_
   refine ro_s2 rfl (qs_ldbA (vs := [_]) fc Tryz.isAgg24 Tryz.sizeOf24 rfl rfl (by rfl) rfl) rfl rfl ha ?_
   refine ro_run tab_ok ha 3 [(0, _), (3, _), (21, _), (24, _)] rfl ⟨rfl, rfl, rfl, rfl, trivial⟩ ?_
   refine ro_s2 rfl (qs_ldbA (vs := [_, _, _, _, _, _]) fc Tryz.isAgg29 Tryz.sizeOf29 rfl rfl (by rfl) rfl) rfl rfl ha ?_
   refine ro_op2 rfl (ot_c0 rfl rfl rfl Tryz.call179 (fun w hw => next_any Ap cp fs a m w (hw.ro hs) (min_own hw fc fc fc fc rfl rfl rfl rfl hst2 htr2) hF hR hne)) rfl rfl (.inr fun _ => ha) (fun _ _ => ?_) ro_stop
   refine ro_s2 rfl (qs_field (ofield _ _) rfl rfl) rfl rfl ha ?_
   refine ro_op2 rfl (ot_c0 rfl rfl rfl Tryz.call102 (fun w hw => costof_any _ w)) rfl rfl (.inr fun _ => ha) (fun _ _ => ?_) ro_stop
   refine ro_run tab_ok ha 1 [(0, _), (3, _), (5, _)] rfl ⟨rfl, rfl, rfl, trivial⟩ ?_
   refine ro_end ?_
   refine cw_seq ?_
   refine cw_seq ?_
   refine cw_region ?_
   refine rw_run tab_ok 4 [(0, _), (3, _), (5, _), (29, _), (32, _)] rfl ⟨rfl, rfl, rfl, rfl, rfl, trivial⟩ ?_
   refine rw_s (qs_ldb fc Tryz.isAgg3 rfl rfl (by rfl)) rfl rfl ?_
   refine rw_run tab_ok 1 [(0, _), (3, _), (5, _), (34, _)] rfl ⟨rfl, rfl, rfl, rfl, trivial⟩ ?_
   refine rw_end ?_
   rw [hc] at hp
   rw [hc]
   have hc3 := cost_le (opOf fs m).c
   refine cw_condD rfl (fun q3 => ?_) (fun q3 => ?_)
   ·have q3 : k < c := q3
    have e : p = (m, k) := by rw [← hpe, one_less hh (by rw [hc]; exact q3)]
    subst e
    refine cw_seq ?_
    refine cw_region ?_
    refine rw_run tab_ok 1 [(4, _)] rfl ⟨rfl, trivial⟩ ?_
    refine rw_end ?_
    refine cw_ret (xw_thenr ?_)
    refine xw_ret1 Tryz.results139 (rv_tmp rfl) ?_
    intro w hw
    exact ⟨a, trivial, ret_bool (decide_eq_false (fun h => by have := h.2.1; omega)).symm, hw.msub ms⟩
   ·have q3 : ¬ k < c := q3
    obtain ⟨m2, hm2⟩ : ∃ m2, stepM fs m = m2 := ⟨_, rfl⟩
    have e : p = (m2, k - c) := by rw [← hpe, one_step hh (by rw [hc]; exact q3), hm2, hc]
    subst e
    have hon : onS fs m k ↔ m2.status = 0 := by
     unfold onS
     rw [hm2, hc]
     exact ⟨fun h => h.2.2, fun h => ⟨hh, by omega, h⟩⟩
    refine cw_skip (xw_then ?_)
    refine cw_seq ?_
    refine cw_region ?_
    refine rw_run tab_ok 3 [(0, _), (3, _), (5, _), (35, _), (37, _)] rfl ⟨rfl, rfl, rfl, rfl, rfl, trivial⟩ ?_
    refine rw_s (qs_ldb fc Tryz.isAgg3 rfl rfl (by rfl)) rfl rfl ?_
    refine rw_run tab_ok 1 [(0, _), (3, _), (35, _), (38, _), (39, _)] rfl ⟨rfl, rfl, rfl, rfl, rfl, trivial⟩ ?_
    refine rw_s (qs_sub rfl rfl rfl (by omega)) rfl rfl ?_
    refine rw_run tab_ok 2 [(0, _), (3, _), (40, _), (42, _)] rfl ⟨rfl, rfl, rfl, rfl, trivial⟩ ?_
    refine rw_op (ot_stb _ fc Tryz.sizeOf3 rfl rfl rfl rfl rfl (by rfl) rfl (by rfl)) rfl rfl (fun _ _ => ?_)
    refine rw_end ?_
    refine cw_seq ?_
    refine cw_draw (.still 0 (.still 1 (.still 2 (.still 3 (.still 4 (.still 5 (.pick 6 (.still 7 (.still 8 (.pick 9 .done .stop))) .stop))))))) [9] rfl (by kernel_rfl) (by kernel_rfl) ?_
    refine ro_run tab_ok ha 1 [(0, _), (3, _), (43, _)] rfl ⟨rfl, rfl, rfl, trivial⟩ ?_
    refine ro_s2 rfl (qs_ldbA (vs := [_]) fc Tryz.isAgg24 Tryz.sizeOf24 rfl rfl (by rfl) rfl) rfl rfl ha ?_
    refine ro_run tab_ok ha 3 [(0, _), (43, _), (44, _), (47, _)] rfl ⟨rfl, rfl, rfl, rfl, trivial⟩ ?_
    refine ro_s2 rfl (qs_ldbA (vs := [_, _, _, _, _, _]) fc Tryz.isAgg29 Tryz.sizeOf29 rfl rfl (by rfl) rfl) rfl rfl ha ?_
    refine ro_op2 rfl (ot_c rfl rfl rfl Tryz.call86 (fun w hw => raw_any Ap cp fs a m m2 hm2 w (hw.ro hs) (min_own hw fc fc fc fc rfl rfl rfl rfl hst2 htr2) (fitM_of hF hR) (fun hst => stepOk_of hs hF hR hst))) rfl rfl (.inr fun _ => ha) (fun g5 _ => ?_) ro_stop
    refine ro_run tab_ok ha 2 [(0, _), (49, _), (51, _)] rfl ⟨rfl, rfl, rfl, trivial⟩ ?_
    refine ro_op2 rfl (ot_stb _ fc Tryz.sizeOf29 rfl rfl rfl rfl rfl (by rfl) rfl (by rfl)) rfl rfl (.inl rfl) (fun _ _ => ?_) ro_stop
    refine ro_end ?_
    refine cw_seq ?_
    refine cw_region ?_
    refine rw_run tab_ok 4 [(55, _)] rfl ⟨rfl, trivial⟩ ?_
    refine rw_s (qs_ldb fc Tryz.isAgg3 rfl rfl (by rfl)) rfl rfl ?_
    refine rw_run tab_ok 2 [(4, _)] rfl ⟨rfl, trivial⟩ ?_
    refine rw_end ?_
    refine cw_ret ?_
    refine xw_ret1 Tryz.results139 (rv_tmp rfl) ?_
    intro w hw
    exact ⟨g5, trivial, ret_bool (decide_eq_decide.2 hon).symm, hw.msub ms⟩
end
end Go.Proofs.YtmnkaalchcomlaaGreat
-- Me2
/- Meter: a machine runs. -/
namespace Go.Proofs.YtmnkaalchcomlaaGreat
open Go.RowKit
theorem one_right {fs : List MFunc} (_ : Fitd fs) {m : MMach} (_ : RightM fs m) {k : Int} (hon : onS fs m k) : oneS fs m k = (stepM fs m, k - costC (opOf fs m).c) := by
 exact one_step hon.1 (by have := hon.2.1; omega)
set_option maxRecDepth 100000 in
set_option maxHeartbeats 4000000 in
theorem mraw_any (Ap : Option Addr) (cp : Nat) (fs : List MFunc) (a : MA) (m : MMach) (k : Int) (r : MMach × Int) (hr : runM fs m k = r) (w : World) (hs : Sl w (.slice Ap fs.length cp) fs) (hm : MIn w.heap.size w a m) (hF : Fitd fs) (hR : RightM fs m) (hk : 0 ≤ k ∧ k ≤ 10000) :
  Calls Tryz.prog 100 #[.agg #[.slice Ap fs.length cp], .agg #[.slice a.Af m.frames.length a.cf, .slice a.Ab m.blocks.length a.cb, .slice a.Ai m.inn.length a.ci, .slice a.Ao m.out.length a.co, .int .i64 m.status, .int .i64 m.trap], .int .i64 k] w fun e w' => ∃ g : MA, True ∧
   e = .returned (.tuple #[.agg #[.slice g.Af r.1.frames.length g.cf, .slice g.Ab r.1.blocks.length g.cb, .slice g.Ai r.1.inn.length g.ci, .slice g.Ao r.1.out.length g.co, .int .i64 r.1.status, .int .i64 r.1.trap], .int .i64 r.2]) ∧ Cw w.heap.size w [ROw (.slice g.Af r.1.frames.length g.cf) r.1.frames, ROw (.slice g.Ab r.1.blocks.length g.cb) r.1.blocks, ROw (.slice g.Ai r.1.inn.length g.ci) r.1.inn, ROw (.slice g.Ao r.1.out.length g.co) r.1.out] w' := by
 refine enter Tryz.func100 rfl Tryz.ntmps100 rfl ?_
 refine cw_seq ?_
 refine cw_region ?_
 refine rw_op (ot_box rfl rfl rfl) rfl rfl (fun g1 _ => ?_)
 refine rw_op (ot_box rfl rfl rfl) rfl rfl (fun g2 _ => ?_)
 refine rw_op (ot_alloc Tryz.zeroValue29 rfl rfl) rfl rfl (fun g3 _ => ?_)
 refine rw_run tab_ok 1 [(2, _), (3, _), (4, _), (6, _)] rfl ⟨rfl, rfl, rfl, rfl, trivial⟩ ?_
 refine rw_end ?_
 refine cw_seq ?_
 refine cw_region ?_
 refine rw_s (qs_ldbA (vs := [_, _, _, _, _, _]) fc Tryz.isAgg29 Tryz.sizeOf29 rfl rfl (by rfl) rfl) rfl rfl ?_
 refine rw_op (ot_c rfl rfl rfl Tryz.call133 (fun w hw => ownm_any a m w (MIn.ro hw hm) (fitM_of hF hR))) rfl rfl (fun g0 _ => ?_)
 refine rw_run tab_ok 1 [(3, _), (6, _), (10, _), (11, _)] rfl ⟨rfl, rfl, rfl, rfl, trivial⟩ ?_
 refine rw_s (qs_bst (cs := [_, _, _, _, _, _, _]) plT176 Tryz.zeroValue176 rfl rfl (by rfl)) rfl rfl ?_
 refine rw_op (ot_box rfl rfl rfl) rfl rfl (fun g4 _ => ?_)
 refine rw_run tab_ok 1 [(3, _), (6, _), (8, _)] rfl ⟨rfl, rfl, rfl, trivial⟩ ?_
 refine rw_end ?_
 refine cw_seq ?_
 refine cw_block (cw_loop (fun g : (MMach × Int) × MA => (RightM fs g.1.1 ∧ 0 ≤ g.1.2 ∧ g.1.2 ≤ 10000) ∧ runM fs g.1.1 g.1.2 = r) (fun g => g.1.2.toNat) (fun _ => [(3, .pointer (some ⟨g1, 0, none⟩)), (6, .pointer (some ⟨g3, 0, none⟩)), (8, .pointer (some ⟨g4, 0, none⟩))]) (fun g => [RBox g4 [.slice g.2.Af g.1.1.frames.length g.2.cf, .slice g.2.Ab g.1.1.blocks.length g.2.cb, .slice g.2.Ai g.1.1.inn.length g.2.ci, .slice g.2.Ao g.1.1.out.length g.2.co, .int .i64 g.1.1.status, .int .i64 g.1.1.trap, .int .i64 g.1.2] 176, ROw (.slice g.2.Af g.1.1.frames.length g.2.cf) g.1.1.frames, ROw (.slice g.2.Ab g.1.1.blocks.length g.2.cb) g.1.1.blocks, ROw (.slice g.2.Ai g.1.1.inn.length g.2.ci) g.1.1.inn, ROw (.slice g.2.Ao g.1.1.out.length g.2.co) g.1.1.out, RBox g1 [.slice Ap fs.length cp] 24, RBox g3 [.slice none 0 0, .slice none 0 0, .slice none 0 0, .slice none 0 0, .int .i64 0, .int .i64 0] 29]) ((m, k), g0) (⟨⟨hR, hk⟩, hr⟩) ⟨rfl, rfl, rfl, trivial⟩ me ?_)
 rintro ⟨⟨q, z⟩, g⟩ hq
 try dsimp only
 obtain ⟨⟨hRq, hz⟩, hrq⟩ : (RightM fs q ∧ 0 ≤ z ∧ z ≤ 10000) ∧ runM fs q z = r := hq
 obtain ⟨p, hpe⟩ : ∃ p, oneS fs q z = p := ⟨_, rfl⟩
 refine cw_seq ?_
 refine cw_seq ?_
 refine cw_region ?_
 refine rw_run tab_ok 1 [(3, _), (6, _), (8, _), (14, _)] rfl ⟨rfl, rfl, rfl, rfl, trivial⟩ ?_
 refine rw_s (qs_ldbA (vs := [_]) fc Tryz.isAgg24 Tryz.sizeOf24 rfl rfl (by rfl) rfl) rfl rfl ?_
 refine rw_op (ot_call rfl rfl rfl Tryz.call139 (fun w hw => rstep_any g4 g q z Ap cp fs hs hF hRq hz p hpe w (hw.msub (.s fc (.s fc (.s fc (.s fc (.s fc .r)))))))) rfl rfl (fun g5 _ => ?_)
 refine rw_end ?_
 refine cw_condD rfl (fun hon => ?_) (fun hon => ?_)
 ·have hon : onS fs q z := hon
  have e1 := (one_right hF hRq hon).symm.trans hpe
  have hp := cost_pos (opOf fs q).c
  have h2 := hon.2.1
  refine cw_skip (xw_then ?_)
  refine cw_block ?_
  refine cw_skip (xw_blkn ?_)
  refine xw_round (p, g5) (by rw [← e1]; exact ⟨⟨step_right hF hRq, by show 0 ≤ z - _; omega, by show z - _ ≤ _; omega⟩, by show runM fs (stepM fs q) _ = r; rw [← hrq, run_one fs q z, if_pos hon, hpe, ← e1]⟩) (by rw [← e1]; show (z - _).toNat < z.toNat; omega) ⟨rfl, rfl, rfl, trivial⟩ me
 ·have hon : ¬ onS fs q z := hon
  have e1 : p = r := by rw [← hrq, run_one fs q z, if_neg hon, hpe]
  subst e1
  refine cw_exit (xw_thenx (xw_thenx (xw_blk (xw_then ?_))))
  refine cw_seq ?_
  refine cw_drawq (.still 0 (.still 1 (.still 2 (.still 3 (.still 4 (.still 5 (.still 6 (.still 7 (.pick 8 (.still 9 .done) .stop))))))))) [] rfl (by kernel_rfl) (by kernel_rfl) [RBox g4 [.slice g5.Af p.1.frames.length g5.cf, .slice g5.Ab p.1.blocks.length g5.cb, .slice g5.Ai p.1.inn.length g5.ci, .slice g5.Ao p.1.out.length g5.co, .int .i64 p.1.status, .int .i64 p.1.trap, .int .i64 p.2] 176] ?_
  refine ro_run tab_ok ha 3 [(6, _), (8, _), (19, _)] rfl ⟨rfl, rfl, rfl, trivial⟩ ?_
  refine ro_s2 rfl (qs_ldbA (vs := [_, _, _, _, _, _]) fc Tryz.isAgg29 Tryz.sizeOf29 rfl rfl (by rfl) rfl) rfl rfl ha ?_
  refine ro_run tab_ok ha 3 [(6, _), (20, _), (23, _)] rfl ⟨rfl, rfl, rfl, trivial⟩ ?_
  refine ro_s2 rfl (qs_ldb fc Tryz.isAgg3 rfl rfl (by rfl)) rfl rfl ha ?_
  refine ro_op2 rfl (ot_stb _ fc Tryz.sizeOf29 rfl rfl rfl rfl rfl (by rfl) rfl (by rfl)) rfl rfl (.inr fun _ => ha) (fun _ _ => ?_) ro_stop
  refine ro_run tab_ok ha 1 [(6, _), (7, _)] rfl ⟨rfl, rfl, trivial⟩ ?_
  refine ro_end ?_
  refine cw_ret ?_
  refine xw_ret2 Tryz.results100 (rv_box (cs := [_, _, _, _, _, _]) fc Tryz.isAgg29 Tryz.sizeOf29 rfl) (rv_tmp rfl) ?_
  intro w hw
  exact ⟨g5, trivial, rfl, hw.msub ms⟩
def runE (fs : List MFunc) (m : MMach) (k : Int) : Int := if machE fs m ≠ 0 then machE fs m else if k < 0 ∨ 10000 < k then 3 else 0
def runR (fs : List MFunc) (m : MMach) (k : Int) : MMach × Int := if runE fs m k = 0 then runM fs m k else (default, 0)
end Go.Proofs.YtmnkaalchcomlaaGreat
-- Me4
/- MeterSplit and MeterFree, walked. -/
namespace Go.Proofs.YtmnkaalchcomlaaGreat
open Go.RowKit
theorem right_i64 {fs : List MFunc} {m : MMach} (h : RightM fs m) : I64 m.status ∧ I64 m.trap := by
 have hs := h.st
 refine ⟨⟨by omega, by omega⟩, ?_⟩
 rcases Decidable.em (m.status = 3) with h3 | h3
 ·have := h.t3 h3; exact ⟨by omega, by omega⟩
 ·have := h.t0 h3; exact ⟨by omega, by omega⟩
end Go.Proofs.YtmnkaalchcomlaaGreat
-- Wd1
/- Worlds: checked; own worlds; a number is brought. -/
namespace Go.Proofs.YtmnkaalchcomlaaGreat
open Go.RowKit
def FitW (l : List MMach) : Prop := l.length * 112 ≤ 140737488355328 ∧ ∀ m ∈ l, FitF m.frames
def worldE (fs : List MFunc) (l : List MMach) : Int :=
 if progS fs ≠ 0 then progS fs else if l.length = 0 then 5 else if 4 < l.length then 2 else firstE (rightE fs) l
structure WOk (fs : List MFunc) (l : List MMach) : Prop where
 p : progS fs = 0
 f : Fitd fs
 r : ∀ m ∈ l, RightM fs m
 n0 : 1 ≤ l.length
 n4 : l.length ≤ 4
theorem world_ok {fs : List MFunc} {l : List MMach} (h : worldE fs l = 0) : WOk fs l := by
 unfold worldE at h
 split at h
 ·exact absurd h (by assumption)
 ·rename_i h1
  have hp : progS fs = 0 := Classical.byContradiction h1
  split at h
  ·cases h
  ·split at h
   ·cases h
   ·exact ⟨hp, fitd hp, fun m hm => right_iff.1 (firstE_all h m hm), by omega, by omega⟩
theorem WOk.world {fs : List MFunc} {l : List MMach} (h : WOk fs l) : worldE fs l = 0 := by
 unfold worldE
 rw [if_neg (fun h' => h' h.p), if_neg (by have := h.n0; omega), if_neg (by have := h.n4; omega)]
 exact firstE_none fun m hm => right_iff.2 (h.r m hm)
theorem WOk.i64 {fs : List MFunc} {l : List MMach} (h : WOk fs l) {k : Nat} (hk : k < l.length) : I64 (mcAt l k).status ∧ I64 (mcAt l k).trap := right_i64 (h.r _ (mc_mem hk))
theorem take_mc {l : List MMach} {k : Nat} (hk : k < l.length) : l.take (k + 1) = l.take k ++ [mcAt l k] := take_snoc l k default hk
set_option maxRecDepth 100000 in
set_option maxHeartbeats 2000000 in
theorem wcheck_any (Ap Aw : Option Addr) (cp cw : Nat) (fs : List MFunc) (l : List MMach) (w : World) (hs : Sl w (.slice Ap fs.length cp) fs) (hl : Sl w (.slice Aw l.length cw) l) (hfit : FitW l) :
  Calls Tryz.prog 64 #[.agg #[.slice Ap fs.length cp], .agg #[.slice Aw l.length cw]] w fun e w' => e = .returned (.int .i64 (worldE fs l)) ∧ Below w.heap.size w w' := by
 have bl := len_bd hl
 refine enter Tryz.func64 rfl Tryz.ntmps64 rfl ?_
 refine cw_seq ?_
 refine cw_region ?_
 refine rw_op (ot_box rfl rfl rfl) rfl rfl (fun g1 _ => ?_)
 refine rw_op (ot_box rfl rfl rfl) rfl rfl (fun g2 _ => ?_)
 refine rw_run tab_ok 1 [(2, _), (3, _)] rfl ⟨rfl, rfl, trivial⟩ ?_
 refine rw_end ?_
 refine cw_seq ?_
 refine cw_seq ?_
 refine cw_region ?_
 refine rw_s (qs_ldbA (vs := [_]) fc Tryz.isAgg24 Tryz.sizeOf24 rfl rfl (by rfl) rfl) rfl rfl ?_
 refine rw_op (ot_c0 rfl rfl rfl Tryz.call68 (fun w hw => vprog_any Ap cp fs w (hw.ro hs))) rfl rfl (fun _ _ => ?_)
 refine rw_run tab_ok 1 [(2, _), (3, _), (5, _)] rfl ⟨rfl, rfl, rfl, trivial⟩ ?_
 refine rw_end ?_
 refine cw_seq ?_
 refine cw_region ?_
 refine rw_run tab_ok 2 [(2, _), (3, _), (5, _), (13, _)] rfl ⟨rfl, rfl, rfl, rfl, trivial⟩ ?_
 refine rw_end ?_
 refine cw_condN rfl (fun hp => ?_) (fun hp => ?_)
 ·have hp : ¬ progS fs = 0 := hp
  refine cw_seq ?_
  refine cw_region ?_
  refine rw_run tab_ok 2 [(4, _)] rfl ⟨rfl, trivial⟩ ?_
  refine rw_end ?_
  refine cw_ret (xw_thenr ?_)
  refine xw_ret1 Tryz.results64 (rv_tmp rfl) ?_
  intro w hw
  exact ⟨reti (by unfold worldE; rw [if_pos hp]), hw.below⟩
 ·have hp : progS fs = 0 := hp
  have hF := fitd hp
  refine cw_skip (xw_then ?_)
  refine cw_seq ?_
  refine cw_seq ?_
  refine cw_region ?_
  refine rw_run tab_ok 1 [(2, _), (3, _), (15, _)] rfl ⟨rfl, rfl, rfl, trivial⟩ ?_
  refine rw_s (qs_ldb fc Tryz.isAgg75 rfl rfl (by rfl)) rfl rfl ?_
  refine rw_s (qs_len Tryz.underlying75 rfl rfl) rfl rfl ?_
  refine rw_run tab_ok 1 [(2, _), (3, _), (6, _)] rfl ⟨rfl, rfl, rfl, trivial⟩ ?_
  refine rw_end ?_
  refine cw_block ?_
  refine cw_seq ?_
  refine cw_region ?_
  refine rw_run tab_ok 3 [(2, _), (3, _), (6, _), (18, _)] rfl ⟨rfl, rfl, rfl, rfl, trivial⟩ ?_
  refine rw_end ?_
  refine cw_condD rfl (fun h0 => ?_) (fun h0 => ?_)
  ·have h0 : l.length = 0 := by have h0 : (l.length : Int) = 0 := h0; omega
   refine cw_seq ?_
   refine cw_region ?_
   refine rw_run tab_ok 1 [(4, _)] rfl ⟨rfl, trivial⟩ ?_
   refine rw_end ?_
   refine cw_ret (xw_blkr (xw_thenr ?_))
   refine xw_ret1 Tryz.results64 (rv_tmp rfl) ?_
   intro w hw
   exact ⟨reti (by unfold worldE; rw [if_neg (fun h => h hp), if_pos h0]), hw.below⟩
  ·have h0 : ¬ l.length = 0 := by have h0 : ¬ (l.length : Int) = 0 := h0; omega
   refine cw_seq ?_
   refine cw_region ?_
   refine rw_run tab_ok 3 [(2, _), (3, _), (21, _)] rfl ⟨rfl, rfl, rfl, trivial⟩ ?_
   refine rw_end ?_
   refine cw_condD rfl (fun h4 => ?_) (fun h4 => ?_)
   ·have h4 : 4 < l.length := by have h4 : (4 : Int) < l.length := h4; omega
    refine cw_seq ?_
    refine cw_region ?_
    refine rw_run tab_ok 1 [(4, _)] rfl ⟨rfl, trivial⟩ ?_
    refine rw_end ?_
    refine cw_ret (xw_blkr (xw_thenr ?_))
    refine xw_ret1 Tryz.results64 (rv_tmp rfl) ?_
    intro w hw
    exact ⟨reti (by unfold worldE; rw [if_neg (fun h => h hp), if_neg h0, if_pos h4]), hw.below⟩
   ·have h4 : ¬ 4 < l.length := by have h4 : ¬ (4 : Int) < l.length := h4; omega
    have hE : worldE fs l = firstE (rightE fs) l := by unfold worldE; rw [if_neg (fun h => h hp), if_neg h0, if_neg h4]
    refine cw_skip (xw_blkn (xw_then ?_))
    refine cw_seq ?_
    refine cw_seq ?_
    refine cw_region ?_
    refine rw_run tab_ok 1 [(2, _), (24, _)] rfl ⟨rfl, rfl, trivial⟩ ?_
    refine rw_s (qs_ldb fc Tryz.isAgg75 rfl rfl (by rfl)) rfl rfl ?_
    refine rw_s (qs_len Tryz.underlying75 rfl rfl) rfl rfl ?_
    refine rw_run tab_ok 1 [(2, _), (25, _), (26, _), (27, _)] rfl ⟨rfl, rfl, rfl, rfl, trivial⟩ ?_
    refine rw_end ?_
    refine cw_block (cw_loop (fun k : Nat => k ≤ l.length ∧ firstE (rightE fs) (l.take k) = 0) (fun k => l.length - k) (fun k => [(2, .pointer (some ⟨g1, 0, none⟩)), (25, .slice Aw l.length cw), (26, .int .i64 (l.length : Int)), (27, .int .i64 (k : Int))]) (fun _ => [RBox g1 [.slice Ap fs.length cp] 24]) 0 (⟨Nat.zero_le _, rfl⟩) ⟨rfl, rfl, rfl, rfl, trivial⟩ me ?_)
    rintro k hk'
    obtain ⟨hk, hz⟩ : k ≤ l.length ∧ firstE (rightE fs) (l.take k) = 0 := hk'
    refine cw_seq ?_
    refine cw_region ?_
    refine rw_run tab_ok 1 [(2, _), (25, _), (26, _), (27, _), (28, _)] rfl ⟨rfl, rfl, rfl, rfl, rfl, trivial⟩ ?_
    refine rw_end ?_
    refine cw_seq ?_
    refine cw_condD rfl (fun hlt => ?_) (fun hlt => ?_)
    ·have hkl : k < l.length := by omega
     obtain ⟨a, hm, hcell⟩ := hl.mc hkl
     have hq := firstE_snoc (g := rightE fs) default hkl hz
     refine cw_skip (xw_then ?_)
     refine cw_seq ?_
     refine cw_block ?_
     refine cw_seq ?_
     refine cw_region ?_
     refine rw_s (qs_idx (k := k) Tryz.underlying75 Tryz.sizeOf29 (.ro hl) (by omega) rfl rfl rfl) rfl rfl ?_
     refine rw_s (qs_ldA (hcell _) rfl rfl Tryz.isAgg29 Tryz.sizeOf29) rfl rfl ?_
     refine rw_op (ot_alloc Tryz.zeroValue29 rfl rfl) rfl rfl (fun g3 _ => ?_)
     refine rw_op (ot_stb _ fc Tryz.sizeOf29 rfl rfl rfl rfl rfl (by rfl) rfl (by rfl)) rfl rfl (fun _ _ => ?_)
     refine rw_end ?_
     refine cw_seq ?_
     refine cw_region ?_
     refine rw_s (qs_ldbA (vs := [_]) fc Tryz.isAgg24 Tryz.sizeOf24 rfl rfl (by rfl) rfl) rfl rfl ?_
     refine rw_s (qs_ldbA (vs := [_, _, _, _, _, _]) fc Tryz.isAgg29 Tryz.sizeOf29 rfl rfl (by rfl) rfl) rfl rfl ?_
     refine rw_op (ot_c0 rfl rfl rfl Tryz.call70 (fun w hw => mright_any Ap cp fs a (mcAt l k) w (hw.ro hs) (hm.ro hw) hF (hfit.2 _ (mc_mem hkl)))) rfl rfl (fun _ _ => ?_)
     refine rw_run tab_ok 1 [(2, _), (9, _), (25, _), (26, _), (27, _)] rfl ⟨rfl, rfl, rfl, rfl, rfl, trivial⟩ ?_
     refine rw_end ?_
     refine cw_seq ?_
     refine cw_region ?_
     refine rw_run tab_ok 2 [(2, _), (9, _), (25, _), (26, _), (27, _), (35, _)] rfl ⟨rfl, rfl, rfl, rfl, rfl, rfl, trivial⟩ ?_
     refine rw_end ?_
     refine cw_condN rfl (fun he => ?_) (fun he => ?_)
     ·have he : ¬ rightE fs (mcAt l k) = 0 := he
      have hq : firstE (rightE fs) (l.take (k + 1)) = rightE fs (mcAt l k) := hq
      refine cw_seq ?_
      refine cw_region ?_
      refine rw_run tab_ok 2 [(4, _)] rfl ⟨rfl, trivial⟩ ?_
      refine rw_end ?_
      refine cw_ret (xw_blkr (xw_thenr (xw_thenr (xw_blkr (xw_thenr ?_)))))
      refine xw_ret1 Tryz.results64 (rv_tmp rfl) ?_
      intro w hw
      exact ⟨reti (by rw [hE, firstE_of (k := k + 1) (by rw [hq]; exact he), hq]), hw.below⟩
     ·have he : rightE fs (mcAt l k) = 0 := he
      have hq : firstE (rightE fs) (l.take (k + 1)) = rightE fs (mcAt l k) := hq
      refine cw_skip (xw_blkn (xw_then ?_))
      refine cw_region ?_
      refine rw_s (qs_add rfl rfl rfl (by omega)) rfl rfl ?_
      refine rw_run tab_ok 1 [(2, _), (25, _), (26, _), (27, _)] rfl ⟨rfl, rfl, rfl, rfl, trivial⟩ ?_
      refine rw_round (k + 1) (⟨by show k + 1 ≤ _; omega, hq.trans he⟩) (by show _ - _ < _ - _; omega) ⟨rfl, rfl, rfl, rfl, trivial⟩ me
    ·obtain rfl : k = l.length := by omega
     rw [List.take_length] at hz
     refine cw_exit (xw_thenx (xw_thenx (xw_blk (xw_then ?_))))
     refine cw_seq ?_
     refine cw_region ?_
     refine rw_run tab_ok 1 [(4, _)] rfl ⟨rfl, trivial⟩ ?_
     refine rw_end ?_
     refine cw_ret ?_
     refine xw_ret1 Tryz.results64 (rv_tmp rfl) ?_
     intro w hw
     exact ⟨reti (by rw [hE, hz]), hw.below⟩
set_option maxRecDepth 100000 in
set_option maxHeartbeats 2000000 in
theorem wown_any (Aw : Option Addr) (cw : Nat) (fs : List MFunc) (l : List MMach) (w : World) (hl : Sl w (.slice Aw l.length cw) l) (hW : WOk fs l) :
  Calls Tryz.prog 111 #[.agg #[.slice Aw l.length cw]] w fun e w' => ∃ g : Nat × Option Addr × Nat, True ∧ e = .returned (.pointer (some ⟨g.1, 0, none⟩)) ∧ Cw w.heap.size w [RBox g.1 [.slice g.2.1 l.length g.2.2] 138, ROw (.slice g.2.1 l.length g.2.2) l] w' := by
 have bl := len_bd hl
 have h4 := hW.n4
 refine enter Tryz.func111 rfl Tryz.ntmps111 rfl ?_
 refine cw_seq ?_
 refine cw_region ?_
 refine rw_op (ot_box rfl rfl rfl) rfl rfl (fun g1 _ => ?_)
 refine rw_run tab_ok 1 [(1, _)] rfl ⟨rfl, trivial⟩ ?_
 refine rw_end ?_
 refine cw_seq ?_
 refine cw_region ?_
 refine rw_s (qs_bst (cs := [_]) plT138 Tryz.zeroValue138 rfl rfl (by rfl)) rfl rfl ?_
 refine rw_op (ot_box rfl rfl rfl) rfl rfl (fun g2 _ => ?_)
 refine rw_run tab_ok 1 [(1, _), (3, _)] rfl ⟨rfl, rfl, trivial⟩ ?_
 refine rw_end ?_
 refine cw_seq ?_
 refine cw_seq ?_
 refine cw_region ?_
 refine rw_run tab_ok 1 [(3, _), (8, _)] rfl ⟨rfl, rfl, trivial⟩ ?_
 refine rw_s (qs_ldb fc Tryz.isAgg75 rfl rfl (by rfl)) rfl rfl ?_
 refine rw_s (qs_len Tryz.underlying75 rfl rfl) rfl rfl ?_
 refine rw_run tab_ok 1 [(3, _), (9, _), (10, _), (11, _)] rfl ⟨rfl, rfl, rfl, rfl, trivial⟩ ?_
 refine rw_end ?_
 refine cw_mem (fun w h => Cw.nilO MMach h) ?_
 refine cw_block (cw_loop (fun g : Nat × Option Addr × Nat => g.1 ≤ l.length) (fun g => l.length - g.1) (fun g => [(3, .pointer (some ⟨g2, 0, none⟩)), (9, .slice Aw l.length cw), (10, .int .i64 (l.length : Int)), (11, .int .i64 (g.1 : Int))]) (fun g => [RBox g2 [.slice g.2.1 (l.take g.1).length g.2.2] 138, ROw (.slice g.2.1 (l.take g.1).length g.2.2) (l.take g.1)]) (0, none, 0) (Nat.zero_le _) ⟨rfl, rfl, rfl, rfl, trivial⟩ me ?_)
 rintro ⟨k, A', c'⟩ hk
 try dsimp only
 have hk : k ≤ l.length := hk
 have htl : (l.take k).length = k := by rw [List.length_take]; omega
 refine cw_seq ?_
 refine cw_region ?_
 refine rw_run tab_ok 1 [(3, _), (9, _), (10, _), (11, _), (12, _)] rfl ⟨rfl, rfl, rfl, rfl, rfl, trivial⟩ ?_
 refine rw_end ?_
 refine cw_seq ?_
 refine cw_condD rfl (fun hlt => ?_) (fun hlt => ?_)
 ·have hkl : k < l.length := by omega
  obtain ⟨a, hm, hcell⟩ := hl.mc hkl
  have hI := hW.i64 hkl
  have htk := take_mc hkl
  refine cw_skip (xw_then ?_)
  refine cw_seq ?_
  refine cw_block ?_
  refine cw_seq ?_
  refine cw_region ?_
  refine rw_s (qs_idx (k := k) Tryz.underlying75 Tryz.sizeOf29 (.ro hl) (by omega) rfl rfl rfl) rfl rfl ?_
  refine rw_s (qs_ldA (hcell _) rfl rfl Tryz.isAgg29 Tryz.sizeOf29) rfl rfl ?_
  refine rw_op (ot_alloc Tryz.zeroValue29 rfl rfl) rfl rfl (fun g3 _ => ?_)
  refine rw_op (ot_stb _ fc Tryz.sizeOf29 rfl rfl rfl rfl rfl (by rfl) rfl (by rfl)) rfl rfl (fun _ _ => ?_)
  refine rw_end ?_
  refine cw_drawq (.still 0 (.still 1 (.still 2 (.still 3 (.still 4 (.still 5 (.still 6 (.pick 7 (.pick 8 (.pick 9 (.still 10 (.still 11 (.still 12 (.pick 13 .done .stop)))) .stop) .stop) .stop)))))))) [13] rfl (by kernel_rfl) (by kernel_rfl) [RBox g2 [.slice A' (l.take k).length c'] 138, RBox g3 [.slice a.Af (mcAt l k).frames.length a.cf, .slice a.Ab (mcAt l k).blocks.length a.cb, .slice a.Ai (mcAt l k).inn.length a.ci, .slice a.Ao (mcAt l k).out.length a.co, .int .i64 (mcAt l k).status, .int .i64 (mcAt l k).trap] 29] ?_
  refine ro_run tab_ok ha 5 [(3, _), (5, _), (9, _), (10, _), (11, _), (15, _), (19, _)] rfl ⟨rfl, rfl, rfl, rfl, rfl, rfl, rfl, trivial⟩ ?_
  refine ro_s2 rfl (qs_ldb fc Tryz.isAgg75 rfl rfl (by rfl)) rfl rfl ha ?_
  refine ro_s2 rfl (qs_ldbA (vs := [_, _, _, _, _, _]) fc Tryz.isAgg29 Tryz.sizeOf29 rfl rfl (by rfl) rfl) rfl rfl ha ?_
  refine ro_op2 rfl (ot_c rfl rfl rfl Tryz.call133 (fun w hw => ownm_any a (mcAt l k) w (hm.ro hw) (fitM_of hW.f (hW.r _ (mc_mem hkl))))) rfl rfl (.inr fun _ => ha) (fun ga _ => ?_) ro_stop
  refine ro_op2 rfl (ot_bsl (cs := [_, _, _, _, _, _]) Tryz.underlying75 Tryz.sizeOf29 Tryz.zeroValue29 rfl rfl rfl rfl rfl) rfl rfl (.inr fun _ => ha) (fun g4 _ => ?_) ro_stop
  refine ro_op2 rfl (ot_app1 (α := MMach) (bytes := 112) (mcAt l k) [ROw (.slice ga.Af (mcAt l k).frames.length ga.cf) (mcAt l k).frames, ROw (.slice ga.Ab (mcAt l k).blocks.length ga.cb) (mcAt l k).blocks, ROw (.slice ga.Ai (mcAt l k).inn.length ga.ci) (mcAt l k).inn, ROw (.slice ga.Ao (mcAt l k).out.length ga.co) (mcAt l k).out] htk Tryz.underlying75 (info_ex Tryz.inMach) rfl (perm6 fc fc fc fc fc fc) (hel_mc hI) (by omega) (by omega) rfl rfl rfl) rfl rfl (.inr fun _ => ha) (fun ⟨A5, c5⟩ _ => ?_) ro_stop
  try dsimp only
  refine ro_run tab_ok ha 3 [(3, _), (9, _), (10, _), (11, _), (24, _), (27, _)] rfl ⟨rfl, rfl, rfl, rfl, rfl, rfl, trivial⟩ ?_
  refine ro_op2 rfl (ot_stb _ fc Tryz.sizeOf75 rfl rfl rfl rfl rfl (by rfl) rfl (by rfl)) rfl rfl (.inl rfl) (fun _ _ => ?_) ro_stop
  refine ro_endx (xw_blkn (xw_then ?_))
  refine cw_region ?_
  refine rw_s (qs_add rfl rfl rfl (by omega)) rfl rfl ?_
  refine rw_run tab_ok 1 [(3, _), (9, _), (10, _), (11, _)] rfl ⟨rfl, rfl, rfl, rfl, trivial⟩ ?_
  refine rw_round (k + 1, A5, c5) (by show k + 1 ≤ _; omega) (by show _ - _ < _ - _; omega) ⟨rfl, rfl, rfl, rfl, trivial⟩ me
 ·obtain rfl : k = l.length := by omega
  rw [List.take_length]
  refine cw_exit (xw_thenx (xw_thenx (xw_blk (xw_then ?_))))
  refine cw_seq ?_
  refine cw_region ?_
  refine rw_run tab_ok 2 [(2, _)] rfl ⟨rfl, trivial⟩ ?_
  refine rw_end ?_
  refine cw_ret ?_
  refine xw_ret1 Tryz.results111 (rv_tmp rfl) ?_
  intro w hw
  exact ⟨(g2, A', c'), trivial, rfl, hw.msub ms⟩
end Go.Proofs.YtmnkaalchcomlaaGreat
-- Rs1
/- Machines (the reference): a step: numbers, blocks, what is given up. -/
namespace Go.Proofs.YtmnkaalchcomlaaGreat
open Go.RowKit
theorem int_i64 {z : Int} (h : isInt z = true) : I64 z := by
 unfold isInt at h
 simp only [Bool.and_eq_true, decide_eq_true_eq] at h
 unfold I64
 omega
theorem numV_i64 (z : Int) : I64 (numV z).n := int_i64 (isInt_wrap z)
set_option maxRecDepth 100000 in
theorem rnum_any (z : Int) (hz : I64 z) (w : World) : Calls Tryz.prog 89 #[.int .i64 z] w fun e w' => e = .returned (.agg #[.bool (numV z).ref, .int .i64 (numV z).n]) ∧ Below w.heap.size w w' := by
 refine enter Tryz.func89 rfl Tryz.ntmps89 rfl ?_
 refine cw_seq ?_
 refine cw_region ?_
 refine rw_op (ot_alloc Tryz.zeroValue68 rfl rfl) rfl rfl (fun g1 _ => ?_)
 refine rw_end ?_
 refine cw_seq ?_
 refine cw_region ?_
 refine rw_run tab_ok 1 [(2, _), (3, _)] rfl ⟨rfl, rfl, trivial⟩ ?_
 refine rw_op (ot_c0 rfl rfl rfl Tryz.call90 (fun w hw => (rwrap_any z w hz).mono fun e w' h => by obtain ⟨h1, rfl⟩ := h; exact ⟨h1, Below.refl _ _⟩)) rfl rfl (fun _ _ => ?_)
 refine rw_s (qs_bst (cs := [_, _]) plT68 Tryz.zeroValue68 rfl rfl (by rfl)) rfl rfl ?_
 refine rw_op (ot_stb _ fc Tryz.sizeOf68 rfl rfl rfl rfl rfl (by rfl) rfl (by rfl)) rfl rfl (fun _ _ => ?_)
 refine rw_end ?_
 refine cw_ret ?_
 refine xw_ret1 Tryz.results89 (rv_box (cs := [_, _]) fc Tryz.isAgg68 Tryz.sizeOf68 rfl) ?_
 intro w hw
 exact ⟨rfl, hw.below⟩
section
variable {B : Nat} {w0 : World} {H : List Res}
end
end Go.Proofs.YtmnkaalchcomlaaGreat
-- Rs2
/- Machines (the reference): a step: ops that are done on the stack alone. -/
namespace Go.Proofs.YtmnkaalchcomlaaGreat
open Go.RowKit
section
variable {P : Program} {n : NF} {B : Nat} {w0 : World} {H H' : List Res} {Q : Exit → Act → World → Prop} {env : Env} {x : Code} {ops : Array Oper} {os : List Oper} {Hq : List Res} {fin : List Nat} {r : Odr}
end
structure StR (B : Nat) (w0 : World) (fs : List MFunc) (m : MMach) (a : MA) (li : List (HFrame × MFrame)) (k : Nat) (Ap : Option Addr) (cp : Nat) (f p0 p1 : Int) (l s : List MVal) (o : MOp) (fr : Int) : Prop where
 hk : li.length = k
 hok : OpnOk li
 hp : SlB w0 B (.slice Ap fs.length cp) fs
 hm : MIn B w0 a m
 fit : FitM m
 nd : Needs fs m.blocks.length ⟨f, p1, l, s⟩ o
 bl : checkB m.blocks = 0
 sl : s.length ≤ 900
 ol : m.out.length ≤ 1000
 k6 : k ≤ 1000
 hst : ∀ q ∈ li, q.2.stack.length ≤ 1000
 oa : I64 o.a
 pi : I64 f ∧ I64 p0 ∧ I64 p1
 si : ∀ v ∈ s, I64 v.n
 lv : ∀ v ∈ l, I64 v.n
 hms : I64 m.status
 fn : 0 ≤ f ∧ f < fs.length ∧ fr = (fnAt fs f.toNat).result ∧ 0 ≤ fr
 mf : m.frames.length = k + 1
 isn : o.c = 19 → 0 ≤ (lst s).n ∧ (lst s).n ≤ m.blocks.length
 of : opOf fs m = o
 fs : m.frames = li.map Prod.snd ++ [⟨f, p0, l, s⟩]
 ib : m.inn.length ≤ 1000
 ii : ∀ z ∈ m.inn, I64 z
 sI : ∀ v ∈ s, v.n ≤ 2147483647
section
variable {B : Nat} {w0 : World} {Q : Exit → Act → World → Prop} (gp gm gr go gc gf gs gn k : Nat) (li : List (HFrame × MFrame)) (A Al As Ap Ab Ai Ao : Option Addr) (c cl cs cp cb ci co : Nat) (a : MA) (m : MMach) (f p0 p1 fr : Int) (l s : List MVal) (o : MOp) (fs : List MFunc) (rz : List Value) (fx0 fx1 fx3 : Value) (hrz : rz.length = 6)
end
end Go.Proofs.YtmnkaalchcomlaaGreat
-- Rs4
/- Machines (the reference): a step: ops of blocks, and what is sent. -/
namespace Go.Proofs.YtmnkaalchcomlaaGreat
open Go.RowKit
theorem six_of {α : Type} : ∀ (l : List α), l.length = 6 → ∃ a b c d e f, l = [a, b, c, d, e, f]
 | [a, b, c, d, e, f], _ => ⟨a, b, c, d, e, f, rfl⟩
 | [], h => by cases h
 | [_], h => by cases h
 | [_, _], h => by cases h
 | [_, _, _], h => by cases h
 | [_, _, _, _], h => by cases h
 | [_, _, _, _, _], h => by cases h
 | _ :: _ :: _ :: _ :: _ :: _ :: _ :: _, h => by simp only [List.length_cons] at h; omega
section
variable {P : Program} {n : NF} {B : Nat} {w0 : World} {H H' : List Res} {Q : Exit → Act → World → Prop} {env : Env} {x : Code} {ops : Array Oper} {os : List Oper} {Hq : List Res} {fin : List Nat} {r : Odr}
end
section
variable {B : Nat} {w0 : World} {Q : Exit → Act → World → Prop} (gp gm gr go gc gf gs gn k : Nat) (li : List (HFrame × MFrame)) (A Al As Ap Ab Ai Ao : Option Addr) (c cl cs cp cb ci co : Nat) (a : MA) (m : MMach) (f p0 p1 fr : Int) (l s : List MVal) (o : MOp) (fs : List MFunc) (rz : List Value) (fx0 fx1 fx3 : Value)
end
end Go.Proofs.YtmnkaalchcomlaaGreat
