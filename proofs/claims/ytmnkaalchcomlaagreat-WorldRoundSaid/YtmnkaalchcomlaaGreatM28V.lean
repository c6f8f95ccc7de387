/- Texts of one proof, one behind the other: lemmas alone. -/
import Derived.Lib.LazyBuf
import Derived.Test.YtmnkaalchcomlaaGreatM27V
import Derived.Test.YtmnkaalchcomlaaGreatM17V

-- V6
/- Verify: slices that are cloned, held against each other, looked through by what writes. -/
namespace Go.Proofs.YtmnkaalchcomlaaGreat
open Go.RowKit
theorem qs_isnil {P : Program} {n : NF} {B : Nat} {w0 : World} {env : Env} {H : List Res} {o : Oper} {i : Operand} {t u e : TypeId} {A : Option Addr} {m c : Nat} (hu : P.underlying t = some (.slice e)) (hop : o.op = .binOp .eql t i (.const (.slice none 0 0)) u) (hi : opv env i = some (.slice A m c)) : QS P n B w0 o env H (.bool A.isNone) :=
 qs_eqnil (e := e) (fun w => Lib.run_eql_slice_nil w t e A m c 0 0 hu) hop hi fun w => by unfold eqGuard; simp
set_option maxRecDepth 100000 in
theorem clone_ints (A : Option Addr) (c : Nat) (l : List Int) (w : World) (hs : Sl w (.slice A l.length c) l) (hl : l.length ≤ 1000000) :
  Calls Tryz.prog 171 #[.slice A l.length c] w fun e w' => ∃ u, e = .returned u ∧ Below w.heap.size w w' ∧ OwN w' w.heap.size u l := by
 refine enter Tryz.func171 rfl Tryz.ntmps171 rfl ?_
 refine cw_seq ?_
 refine cw_region ?_
 refine rw_run tab_ok 1 [(0, _)] rfl ⟨rfl, trivial⟩ ?_
 refine rw_end ?_
 refine cw_seq ?_
 refine cw_seq ?_
 refine cw_region ?_
 refine rw_run tab_ok 1 [(0, _), (3, _)] rfl ⟨rfl, rfl, trivial⟩ ?_
 refine rw_s (qs_isnil Tryz.underlying27 rfl rfl) rfl rfl ?_
 refine rw_end ?_
 refine cw_cond rfl (fun h => ?_) (fun h => ?_)
 ·have h0 : l = [] := by
   rcases Nat.eq_zero_or_pos l.length with h0 | h0
   ·exact List.eq_nil_of_length_eq_zero h0
   ·obtain ⟨b, o, e⟩ := hs.addr h0
    subst e
    cases h
  subst h0
  refine cw_seq ?_
  refine cw_region ?_
  refine rw_run tab_ok 1 [(2, _)] rfl ⟨rfl, trivial⟩ ?_
  refine rw_end ?_
  refine cw_ret (xw_thenr ?_)
  refine xw_ret1 Tryz.results171 (rv_tmp rfl) ?_
  intro w hw
  exact ⟨_, rfl, nil_ret hw⟩
 ·refine cw_skip (xw_then ?_)
  refine cw_seq ?_
  refine cw_region ?_
  refine rw_op (ot_bsl (cs := []) Tryz.underlying27 Tryz.sizeOf3 Tryz.zeroValue3 rfl rfl rfl rfl rfl) rfl rfl (fun g1 _ => ?_)
  refine rw_run tab_ok 1 [(5, _), (6, _)] rfl ⟨rfl, rfl, trivial⟩ ?_
  refine rw_mem (fun w h => row_ow (α := Int) (m := 0) [] rfl (by simp) rfl (by decide) h) ?_
  refine rw_op (ot_appS (α := Int) (bytes := 8) (xs := []) (ys := l) rfl Tryz.underlying27 (info_ex Tryz.inI) rfl fc (.ro hs) (by simp only [List.length_nil]; omega) (by simp only [List.length_nil]; omega) rfl rfl rfl) rfl rfl (fun ⟨A5, c5⟩ _ => ?_)
  try dsimp only
  refine rw_run tab_ok 1 [(2, _)] rfl ⟨rfl, trivial⟩ ?_
  refine rw_end ?_
  refine cw_ret ?_
  refine xw_ret1 Tryz.results171 (rv_tmp rfl) ?_
  intro w hw
  exact ⟨_, rfl, own_ret hw⟩
theorem take_eq_step {a b : List Int} {i : Nat} (h1 : i < a.length) (h2 : i < b.length) (h : a.take i = b.take i) (e : a.getD i 0 = b.getD i 0) : a.take (i + 1) = b.take (i + 1) := by
 rw [List.getD_eq_getElem?_getD, List.getElem?_eq_getElem h1, List.getD_eq_getElem?_getD, List.getElem?_eq_getElem h2, Option.getD_some, Option.getD_some] at e
 rw [List.take_succ_eq_append_getElem h1, List.take_succ_eq_append_getElem h2, h, e]
set_option maxRecDepth 100000 in
theorem equal_ints (A1 A2 : Option Addr) (c1 c2 : Nat) (a b : List Int) (w : World) (h1 : Sl w (.slice A1 a.length c1) a) (h2 : Sl w (.slice A2 b.length c2) b) :
  Calls Tryz.prog 190 #[.slice A1 a.length c1, .slice A2 b.length c2] w fun e w' => e = .returned (.bool (decide (a = b))) ∧ Below w.heap.size w w' := by
 have b1 := len_bd h1
 refine enter Tryz.func190 rfl Tryz.ntmps190 rfl ?_
 refine cw_seq ?_
 refine cw_region ?_
 refine rw_run tab_ok 1 [(0, _), (1, _)] rfl ⟨rfl, rfl, trivial⟩ ?_
 refine rw_end ?_
 refine cw_seq ?_
 refine cw_seq ?_
 refine cw_region ?_
 refine rw_run tab_ok 1 [(0, _), (1, _), (6, _)] rfl ⟨rfl, rfl, rfl, trivial⟩ ?_
 refine rw_s (qs_len Tryz.underlying27 rfl rfl) rfl rfl ?_
 refine rw_run tab_ok 1 [(0, _), (1, _), (7, _), (8, _)] rfl ⟨rfl, rfl, rfl, rfl, trivial⟩ ?_
 refine rw_s (qs_len Tryz.underlying27 rfl rfl) rfl rfl ?_
 refine rw_run tab_ok 1 [(0, _), (1, _), (10, _)] rfl ⟨rfl, rfl, rfl, trivial⟩ ?_
 refine rw_end ?_
 refine cw_condN rfl (fun hl => ?_) (fun hl => ?_)
 ·refine cw_seq ?_
  refine cw_region ?_
  refine rw_run tab_ok 1 [(4, _)] rfl ⟨rfl, trivial⟩ ?_
  refine rw_end ?_
  refine cw_ret (xw_thenr ?_)
  refine xw_ret1 Tryz.results190 (rv_tmp rfl) ?_
  intro w hw
  exact ⟨ret_bool (by rw [decide_eq_false (fun e => hl (by rw [e]))]), hw.below⟩
 ·have hl : a.length = b.length := by omega
  refine cw_skip (xw_then ?_)
  refine cw_seq ?_
  refine cw_seq ?_
  refine cw_region ?_
  refine rw_run tab_ok 1 [(0, _), (1, _), (11, _)] rfl ⟨rfl, rfl, rfl, trivial⟩ ?_
  refine rw_s (qs_len Tryz.underlying27 rfl rfl) rfl rfl ?_
  refine rw_run tab_ok 1 [(0, _), (1, _), (12, _), (13, _)] rfl ⟨rfl, rfl, rfl, rfl, trivial⟩ ?_
  refine rw_end ?_
  refine cw_block (cw_loop (fun i : Nat => i ≤ a.length ∧ a.take i = b.take i) (fun i => a.length - i) (fun i => [(0, .slice A1 a.length c1), (1, .slice A2 b.length c2), (12, .int .i64 (a.length : Int)), (13, .int .i64 (i : Int))]) (fun _ => []) 0 (⟨Nat.zero_le _, rfl⟩) ⟨rfl, rfl, rfl, rfl, trivial⟩ me ?_)
  rintro i hi'
  obtain ⟨hi, hj⟩ : i ≤ a.length ∧ a.take i = b.take i := hi'
  refine cw_seq ?_
  refine cw_region ?_
  refine rw_run tab_ok 1 [(0, _), (1, _), (12, _), (13, _), (14, _)] rfl ⟨rfl, rfl, rfl, rfl, rfl, trivial⟩ ?_
  refine rw_end ?_
  refine cw_seq ?_
  refine cw_condD rfl (fun hlt => ?_) (fun hlt => ?_)
  ·have hil : i < a.length := by omega
   refine cw_skip (xw_then ?_)
   refine cw_seq ?_
   refine cw_block ?_
   refine cw_seq ?_
   refine cw_region ?_
   refine rw_run tab_ok 2 [(0, _), (1, _), (5, _), (12, _), (13, _)] rfl ⟨rfl, rfl, rfl, rfl, rfl, trivial⟩ ?_
   refine rw_end ?_
   refine cw_seq ?_
   refine cw_draw (.still 0 (.still 1 (.still 2 (.still 3 (.still 4 (.still 5 (.still 6 (.still 7 (.still 8 .done))))))))) [] rfl (by kernel_rfl) (by kernel_rfl) ?_
   refine ro_run tab_ok ha 2 [(0, _), (1, _), (5, _), (12, _), (13, _), (16, _), (17, _)] rfl ⟨rfl, rfl, rfl, rfl, rfl, rfl, rfl, trivial⟩ ?_
   refine ro_s2 rfl (qs_idx Tryz.underlying27 Tryz.sizeOf3 (.ro h1) (by omega) rfl rfl rfl) rfl rfl ha ?_
   refine ro_s2 rfl (qs_ld (SF.int (.ro h1) (by omega)) rfl rfl Tryz.isAgg3) rfl rfl ha ?_
   refine ro_run tab_ok ha 2 [(0, _), (1, _), (12, _), (13, _), (19, _), (20, _), (21, _)] rfl ⟨rfl, rfl, rfl, rfl, rfl, rfl, rfl, trivial⟩ ?_
   refine ro_s2 rfl (qs_idx Tryz.underlying27 Tryz.sizeOf3 (.ro h2) (by omega) rfl rfl rfl) rfl rfl ha ?_
   refine ro_s2 rfl (qs_ld (SF.int (.ro h2) (by omega)) rfl rfl Tryz.isAgg3) rfl rfl ha ?_
   refine ro_run tab_ok ha 1 [(0, _), (1, _), (12, _), (13, _), (24, _)] rfl ⟨rfl, rfl, rfl, rfl, rfl, trivial⟩ ?_
   refine ro_end ?_
   refine cw_condN rfl (fun hne => ?_) (fun hne => ?_)
   ·refine cw_seq ?_
    refine cw_region ?_
    refine rw_run tab_ok 1 [(4, _)] rfl ⟨rfl, trivial⟩ ?_
    refine rw_end ?_
    refine cw_ret (xw_blkr (xw_thenr (xw_thenr (xw_blkr (xw_thenr ?_)))))
    refine xw_ret1 Tryz.results190 (rv_tmp rfl) ?_
    intro w hw
    exact ⟨ret_bool (by rw [decide_eq_false (fun e => hne (by rw [e]))]), hw.below⟩
   ·refine cw_skip (xw_blkn (xw_then ?_))
    refine cw_region ?_
    refine rw_s (qs_add rfl rfl rfl (by omega)) rfl rfl ?_
    refine rw_run tab_ok 1 [(0, _), (1, _), (12, _), (13, _)] rfl ⟨rfl, rfl, rfl, rfl, trivial⟩ ?_
    refine rw_round (i + 1) (⟨hil, take_eq_step hil (by omega) hj (by simpa using hne)⟩) (by show _ - _ < _ - _; omega) ⟨rfl, rfl, rfl, rfl, trivial⟩ me
  ·obtain rfl : i = a.length := by omega
   rw [List.take_length, hl, List.take_length] at hj
   refine cw_exit (xw_thenx (xw_thenx (xw_blk (xw_then ?_))))
   refine cw_seq ?_
   refine cw_region ?_
   refine rw_run tab_ok 1 [(4, _)] rfl ⟨rfl, trivial⟩ ?_
   refine rw_end ?_
   refine cw_ret ?_
   refine xw_ret1 Tryz.results190 (rv_tmp rfl) ?_
   intro w hw
   exact ⟨ret_bool (by rw [decide_eq_true hj]), hw.below⟩
section
variable {B : Nat} {w0 : World}
set_option maxRecDepth 100000 in
theorem indexf_st {γ : Type} (Φ : Nat → γ → Prop) (Ψ : γ → Prop) (Hg : γ → List Res) (A : Option Addr) (c : Nat) (l : List Int) (f : FuncId) (cap : Array Value) (hcall : ∀ a w, (callFunc f a).run Tryz.prog w = .ok (.enter f a) w) (hs : ∀ g, SF B w0 (Hg g) A l.length c l) (hll : l.length ≤ 1000000)
  (hf : ∀ k g, k < l.length → Φ k g → ∀ w, Cw B w0 (Hg g) w → Calls Tryz.prog f ([Value.int .i64 (l.getD k 0)] ++ cap.toList).toArray w fun e w' => ∃ p : Bool × γ, (if p.1 then Ψ p.2 else Φ (k + 1) p.2) ∧ e = .returned (.bool p.1) ∧ Cw B w0 (Hg p.2) w')
  (g0 : γ) (h0 : Φ 0 g0) (w : World) (hw : Cw B w0 (Hg g0) w) :
  Calls Tryz.prog 177 #[.slice A l.length c, .func (.func f) #[] cap] w fun e w' => ∃ p : Int × γ, (if 0 ≤ p.1 then Ψ p.2 else Φ l.length p.2) ∧ e = .returned (.int .i64 p.1) ∧ Cw B w0 (Hg p.2) w' := by
 refine enter_own Tryz.func177 rfl Tryz.ntmps177 rfl hw ?_
 refine cw_seq ?_
 refine cw_region ?_
 refine rw_run tab_ok 1 [(0, _), (1, _)] rfl ⟨rfl, rfl, trivial⟩ ?_
 refine rw_end ?_
 refine cw_seq ?_
 refine cw_seq ?_
 refine cw_region ?_
 refine rw_run tab_ok 1 [(0, _), (1, _), (6, _)] rfl ⟨rfl, rfl, rfl, trivial⟩ ?_
 refine rw_s (qs_len Tryz.underlying27 rfl rfl) rfl rfl ?_
 refine rw_run tab_ok 1 [(0, _), (1, _), (7, _), (8, _)] rfl ⟨rfl, rfl, rfl, rfl, trivial⟩ ?_
 refine rw_end ?_
 refine cw_block (cw_loop (fun p : Nat × γ => p.1 ≤ l.length ∧ Φ p.1 p.2) (fun p => l.length - p.1) (fun p => [(0, .slice A l.length c), (1, .func (.func f) #[] cap), (7, .int .i64 (l.length : Int)), (8, .int .i64 (p.1 : Int))]) (fun p => Hg p.2) (0, g0) (⟨Nat.zero_le _, h0⟩) ⟨rfl, rfl, rfl, rfl, trivial⟩ me ?_)
 rintro ⟨k, g⟩ hk'
 try dsimp only
 obtain ⟨hk, hp⟩ : k ≤ l.length ∧ Φ k g := hk'
 try dsimp only
 refine cw_seq ?_
 refine cw_region ?_
 refine rw_run tab_ok 1 [(0, _), (1, _), (7, _), (8, _), (9, _)] rfl ⟨rfl, rfl, rfl, rfl, rfl, trivial⟩ ?_
 refine rw_end ?_
 refine cw_seq ?_
 refine cw_condD rfl (fun hlt => ?_) (fun hlt => ?_)
 ·have hkl : k < l.length := by omega
  refine cw_skip (xw_then ?_)
  refine cw_seq ?_
  refine cw_block ?_
  refine cw_seq ?_
  refine cw_region ?_
  refine rw_run tab_ok 2 [(0, _), (1, _), (5, _), (7, _), (8, _)] rfl ⟨rfl, rfl, rfl, rfl, rfl, trivial⟩ ?_
  refine rw_end ?_
  refine cw_seq ?_
  refine cw_region ?_
  refine rw_run tab_ok 3 [(0, _), (1, _), (5, _), (7, _), (8, _), (11, _), (12, _), (13, _)] rfl ⟨rfl, rfl, rfl, rfl, rfl, rfl, rfl, rfl, trivial⟩ ?_
  refine rw_s (qs_idx Tryz.underlying27 Tryz.sizeOf3 (hs g) (by omega) rfl rfl rfl) rfl rfl ?_
  refine rw_s (qs_ld (SF.int (hs g) (by omega)) rfl rfl Tryz.isAgg3) rfl rfl ?_
  refine rw_op (ot_callK rfl rfl rfl hcall (fun w hw => hf k g hkl hp w hw)) rfl rfl (fun ⟨b, g2⟩ hb => ?_)
  try dsimp only
  refine rw_end ?_
  refine cw_cond rfl (fun hbb => ?_) (fun hbb => ?_)
  ·have hbb : b = true := hbb
   subst hbb
   have hb : Ψ g2 := hb
   refine cw_seq ?_
   refine cw_region ?_
   refine rw_run tab_ok 2 [(4, _)] rfl ⟨rfl, trivial⟩ ?_
   refine rw_end ?_
   refine cw_ret (xw_blkr (xw_thenr (xw_thenr (xw_blkr (xw_thenr ?_)))))
   refine xw_ret1 Tryz.results177 (rv_tmp rfl) ?_
   intro w hw
   exact ⟨((k : Int), g2), by rw [if_pos (show (0 : Int) ≤ (k : Int) from by omega)]; exact hb, rfl, hw⟩
  ·have hbb : b = false := hbb
   subst hbb
   have hb : Φ (k + 1) g2 := by simpa using hb
   refine cw_skip (xw_blkn (xw_then ?_))
   refine cw_region ?_
   refine rw_s (qs_add rfl rfl rfl (by omega)) rfl rfl ?_
   refine rw_run tab_ok 1 [(0, _), (1, _), (7, _), (8, _)] rfl ⟨rfl, rfl, rfl, rfl, trivial⟩ ?_
   refine rw_round (k + 1, g2) (⟨hkl, hb⟩) (by show _ - _ < _ - _; omega) ⟨rfl, rfl, rfl, rfl, trivial⟩ me
 ·obtain rfl : k = l.length := by omega
  refine cw_exit (xw_thenx (xw_thenx (xw_blk (xw_then ?_))))
  refine cw_seq ?_
  refine cw_region ?_
  refine rw_run tab_ok 1 [(4, _)] rfl ⟨rfl, trivial⟩ ?_
  refine rw_end ?_
  refine cw_ret ?_
  refine xw_ret1 Tryz.results177 (rv_tmp rfl) ?_
  intro w hw
  exact ⟨(-1, g), by rw [if_neg (show ¬ (0 : Int) ≤ -1 from by decide)]; exact hp, rfl, hw⟩
set_option maxRecDepth 100000 in
theorem containsf_st {γ : Type} (Φ : Nat → γ → Prop) (Ψ : γ → Prop) (Hg : γ → List Res) (A : Option Addr) (c : Nat) (l : List Int) (f : FuncId) (cap : Array Value) (hcall : ∀ a w, (callFunc f a).run Tryz.prog w = .ok (.enter f a) w) (hs : ∀ g, SF B w0 (Hg g) A l.length c l) (hll : l.length ≤ 1000000)
  (hf : ∀ k g, k < l.length → Φ k g → ∀ w, Cw B w0 (Hg g) w → Calls Tryz.prog f ([Value.int .i64 (l.getD k 0)] ++ cap.toList).toArray w fun e w' => ∃ p : Bool × γ, (if p.1 then Ψ p.2 else Φ (k + 1) p.2) ∧ e = .returned (.bool p.1) ∧ Cw B w0 (Hg p.2) w')
  (g0 : γ) (h0 : Φ 0 g0) (w : World) (hw : Cw B w0 (Hg g0) w) :
  Calls Tryz.prog 136 #[.slice A l.length c, .func (.func f) #[] cap] w fun e w' => ∃ p : Bool × γ, (if p.1 then Ψ p.2 else Φ l.length p.2) ∧ e = .returned (.bool p.1) ∧ Cw B w0 (Hg p.2) w' := by
 refine enter_own Tryz.func136 rfl Tryz.ntmps136 rfl hw ?_
 refine cw_seq ?_
 refine cw_region ?_
 refine rw_run tab_ok 1 [(0, _), (1, _)] rfl ⟨rfl, rfl, trivial⟩ ?_
 refine rw_end ?_
 refine cw_seq ?_
 refine cw_region ?_
 refine rw_run tab_ok 2 [(5, _), (6, _)] rfl ⟨rfl, rfl, trivial⟩ ?_
 refine rw_op (ot_call rfl rfl rfl Tryz.call177 (fun w hw => indexf_st Φ Ψ Hg A c l f cap hcall hs hll hf g0 h0 w hw)) rfl rfl (fun ⟨r, g2⟩ hr => ?_)
 try dsimp only
 refine rw_run tab_ok 2 [(4, _)] rfl ⟨rfl, trivial⟩ ?_
 refine rw_end ?_
 refine cw_ret ?_
 refine xw_ret1 Tryz.results136 (rv_tmp rfl) ?_
 intro w hw
 refine ⟨(decide (0 ≤ r), g2), ?_, rfl, hw⟩
 have hr : if 0 ≤ r then Ψ g2 else Φ l.length g2 := hr
 by_cases h : 0 ≤ r
 ·rw [if_pos h] at hr
  rw [decide_eq_true h]
  exact hr
 ·rw [if_neg h] at hr
  rw [decide_eq_false h]
  simpa using hr
end
end Go.Proofs.YtmnkaalchcomlaaGreat
-- V7
/- Verify: coming to a place. -/
namespace Go.Proofs.YtmnkaalchcomlaaGreat
open Go.RowKit
structure FSt where
 at_ : List (List Int)
 met : List Bool
 todo : List Int
def comeS (n : Nat) (s : FSt) (k : Nat) (l : List Int) : Bool × FSt :=
 if k = n then (false, s) else if s.met.getD k false = true then
  (match joinL (s.at_.getD k []) l with
  | none => (false, s)
  | some j => if j = s.at_.getD k [] then (true, s) else (true, ⟨s.at_.set k j, s.met.set k true, s.todo ++ [(k : Int)]⟩))
 else (true, ⟨s.at_.set k l, s.met.set k true, s.todo ++ [(k : Int)]⟩)
structure FC where
 gx : Nat
 fs : List MFunc
 f : MFunc
 Ap : Option Addr
 cp : Nat
 A1 : Option Addr
 c1 : Nat
 A2 : Option Addr
 c2 : Nat
 Aa : Option Addr
 ca : Nat
 Am : Option Addr
 cm : Nat
abbrev fitH (C : FC) (s : FSt) (hd : List Hdr) (L : List (Value × List Int)) (At : Option Addr) (ct : Nat) : List Res :=
 [RBox C.gx [.slice C.Ap C.fs.length C.cp, .int .i64 C.f.params, .slice C.A1 C.f.locals.length C.c1, .int .i64 C.f.result, .slice C.A2 C.f.code.length C.c2, .slice C.Aa C.f.code.length C.ca, .slice C.Am C.f.code.length C.cm, .slice At s.todo.length ct] 191,
  ROw (.slice C.Aa C.f.code.length C.ca) hd, ROw (.slice C.Am C.f.code.length C.cm) s.met, ROw (.slice At s.todo.length ct) s.todo, RPool L]
structure Rel (n : Nat) (hd : List Hdr) (L : List (Value × List Int)) (at_ : List (List Int)) : Prop where
 hl : hd.length = n
 al : at_.length = n
 el : ∀ i, i < n → InP L (hd.getD i nilH).v (at_.getD i [])
theorem getD_set {α : Type} {l : List α} {k i : Nat} {x d : α} (hk : k < l.length) : (l.set k x).getD i d = if i = k then x else l.getD i d := by
 rw [List.getD_eq_getElem?_getD, List.getD_eq_getElem?_getD, List.getElem?_set]
 by_cases h : k = i
 ·subst h; rw [if_pos rfl, if_pos hk, if_pos rfl]; rfl
 ·rw [if_neg h, if_neg (fun e => h e.symm)]
theorem Rel.cons {n : Nat} {hd : List Hdr} {L : List (Value × List Int)} {at_ : List (List Int)} (h : Rel n hd L at_) (p : Value × List Int) : Rel n hd (p :: L) at_ := ⟨h.hl, h.al, fun i hi => (h.el i hi).cons⟩
theorem Rel.set {n : Nat} {hd : List Hdr} {L : List (Value × List Int)} {at_ : List (List Int)} (h : Rel n hd L at_) {k : Nat} (hk : k < n) {v : Value} {l : List Int} (hp : InP L v l) : Rel n (hd.set k ⟨v⟩) L (at_.set k l) :=
 ⟨by rw [List.length_set, h.hl], by rw [List.length_set, h.al], fun i hi => by
  rw [getD_set (by rw [h.hl]; exact hk), getD_set (by rw [h.al]; exact hk)]
  split
  ·exact hp
  ·exact h.el i hi⟩
set_option maxRecDepth 100000 in
set_option maxHeartbeats 2000000 in
theorem come_any {B : Nat} {w0 : World} {H : List Res} (C : FC) (s : FSt) (hd : List Hdr) (L : List (Value × List Int)) (At : Option Addr) (ct : Nat) (k : Nat) (hk : k ≤ C.f.code.length) (hn : C.f.code.length ≤ 40) (l : List Int) (Al : Option Addr) (cl : Nat) (hl : InP L (.slice Al l.length cl) l)
  (hR : Rel C.f.code.length hd L s.at_) (hm : s.met.length = C.f.code.length) (hT : s.todo.length ≤ 10000) (h8 : ∀ i, (s.at_.getD i []).length ≤ 1000) (w : World) (hw : Cw B w0 (fitH C s hd L At ct ++ H) w) :
  Calls Tryz.prog 154 #[.pointer (some ⟨C.gx, 0, none⟩), .int .i64 (k : Int), .slice Al l.length cl] w fun e w' => ∃ g : List Hdr × List (Value × List Int) × Option Addr × Nat, Rel C.f.code.length g.1 g.2.1 (comeS C.f.code.length s k l).2.at_ ∧
   e = .returned (.bool (comeS C.f.code.length s k l).1) ∧ Cw B w0 (fitH C (comeS C.f.code.length s k l).2 g.1 g.2.1 g.2.2.1 g.2.2.2 ++ H) w' := by
 obtain ⟨gx, fs, f, Ap, cp, A1, c1, A2, c2, Aa, ca, Am, cm⟩ := C
 obtain ⟨at_, met, todo⟩ := s
 dsimp only [fitH, List.cons_append, List.nil_append] at *
 refine enter_own Tryz.func154 rfl Tryz.ntmps154 rfl hw ?_
 refine cw_seq ?_
 refine cw_region ?_
 refine rw_run tab_ok 1 [(0, _), (1, _), (2, _)] rfl ⟨rfl, rfl, rfl, trivial⟩ ?_
 refine rw_end ?_
 refine cw_seq ?_
 refine cw_seq ?_
 refine cw_region ?_
 refine rw_run tab_ok 5 [(0, _), (1, _), (2, _), (10, _), (14, _)] rfl ⟨rfl, rfl, rfl, rfl, rfl, trivial⟩ ?_
 refine rw_s (qs_ldb fc Tryz.isAgg111 rfl rfl (by rfl)) rfl rfl ?_
 refine rw_s (qs_len Tryz.underlying111 rfl rfl) rfl rfl ?_
 refine rw_run tab_ok 1 [(0, _), (1, _), (2, _), (17, _)] rfl ⟨rfl, rfl, rfl, rfl, trivial⟩ ?_
 refine rw_end ?_
 refine cw_condD rfl (fun hkn => ?_) (fun hkn => ?_)
 ·have hc : comeS f.code.length ⟨at_, met, todo⟩ k l = (false, ⟨at_, met, todo⟩) := by unfold comeS; rw [if_pos (by omega)]
  rw [hc]
  refine cw_seq ?_
  refine cw_region ?_
  refine rw_run tab_ok 1 [(6, _)] rfl ⟨rfl, trivial⟩ ?_
  refine rw_end ?_
  refine cw_ret (xw_thenr ?_)
  refine xw_ret1 Tryz.results154 (rv_tmp rfl) ?_
  intro w hw
  exact ⟨(hd, L, At, ct), hR, rfl, hw⟩
 ·have hkl : k < f.code.length := by omega
  refine cw_skip (xw_then ?_)
  refine cw_seq ?_
  refine cw_region ?_
  refine rw_run tab_ok 2 [(0, _), (1, _), (2, _), (7, _)] rfl ⟨rfl, rfl, rfl, rfl, trivial⟩ ?_
  refine rw_end ?_
  refine cw_cut (fun g : List Int × List (Value × List Int) × Option Addr × Nat => (InP g.2.1 (.slice g.2.2.1 g.1.length g.2.2.2) g.1 ∧ Rel f.code.length hd g.2.1 at_) ∧ comeS f.code.length ⟨at_, met, todo⟩ k l = (true, ⟨at_.set k g.1, met.set k true, todo ++ [(k : Int)]⟩)) (fun g => [(0, .pointer (some ⟨gx, 0, none⟩)), (1, .int .i64 (k : Int)), (7, .slice g.2.2.1 g.1.length g.2.2.2)]) (fun g => [RBox gx [.slice Ap fs.length cp, .int .i64 f.params, .slice A1 f.locals.length c1, .int .i64 f.result, .slice A2 f.code.length c2, .slice Aa f.code.length ca, .slice Am f.code.length cm, .slice At todo.length ct] 191, ROw (.slice Aa f.code.length ca) hd, ROw (.slice Am f.code.length cm) met, ROw (.slice At todo.length ct) todo, RPool g.2.1] ++ H) ?_ ?_
  ·refine cw_seq ?_
   refine cw_region ?_
   refine rw_run tab_ok 3 [(0, _), (1, _), (2, _), (7, _), (21, _)] rfl ⟨rfl, rfl, rfl, rfl, rfl, trivial⟩ ?_
   refine rw_s (qs_ldb fc Tryz.isAgg162 rfl rfl (by rfl)) rfl rfl ?_
   refine rw_run tab_ok 1 [(0, _), (1, _), (2, _), (7, _), (22, _), (23, _)] rfl ⟨rfl, rfl, rfl, rfl, rfl, rfl, trivial⟩ ?_
   refine rw_s (qs_idx Tryz.underlying162 Tryz.sizeOf4 (SF.own hm fc) (by omega) rfl rfl rfl) rfl rfl ?_
   refine rw_s (qs_ld (SF.bool (SF.own hm fc) (by omega)) rfl rfl Tryz.isAgg4) rfl rfl ?_
   refine rw_end ?_
   refine cw_cond rfl (fun hmet => ?_) (fun hmet => ?_)
   ·have hin := hR.el k hkl
    refine cw_seq ?_
    refine cw_region ?_
    refine rw_run tab_ok 3 [(0, _), (1, _), (2, _), (29, _)] rfl ⟨rfl, rfl, rfl, rfl, trivial⟩ ?_
    refine rw_s (qs_ldb fc Tryz.isAgg26 rfl rfl (by rfl)) rfl rfl ?_
    refine rw_run tab_ok 1 [(0, _), (1, _), (2, _), (30, _), (31, _)] rfl ⟨rfl, rfl, rfl, rfl, rfl, trivial⟩ ?_
    refine rw_s (qs_idx Tryz.underlying26 Tryz.sizeOf27 (SF.own hR.hl fc) (by omega) rfl rfl rfl) rfl rfl ?_
    refine rw_s (qs_ld (SF.hdr (SF.own hR.hl fc) hkl) rfl rfl Tryz.isAgg27) rfl rfl ?_
    refine rw_run tab_ok 1 [(0, _), (1, _), (33, _), (34, _)] rfl ⟨rfl, rfl, rfl, rfl, trivial⟩ ?_
    refine rw_fact (fun w h => hin.form h fc) ?_
    rintro ⟨A3, c3, hv⟩
    rw [hv] at hin
    refine rw_as (t := 33) (v' := .slice A3 (at_.getD k []).length c3) rfl (hv) ?_
    refine rw_op (ot_cO rfl rfl rfl Tryz.call138 (fun w hw => joined_any A3 Al c3 cl (at_.getD k []) l w (hin.sl hw fc) (hl.sl hw fc) (by have := h8 k; omega))) rfl rfl (fun ⟨A4, c4⟩ _ => ?_)
    try dsimp only
    refine rw_run tab_ok 5 [(0, _), (1, _), (8, _), (9, _)] rfl ⟨rfl, rfl, rfl, rfl, trivial⟩ ?_
    refine rw_end ?_
    refine cw_seq ?_
    refine cw_seq ?_
    refine cw_region ?_
    refine rw_run tab_ok 2 [(0, _), (1, _), (8, _), (39, _)] rfl ⟨rfl, rfl, rfl, rfl, trivial⟩ ?_
    refine rw_end ?_
    refine cw_cond rfl (fun hj => ?_) (fun hj => ?_)
    ·have hj : joinL (at_.getD k []) l = none := by
      cases e : joinL (at_.getD k []) l with
      | none => rfl
      | some j => rw [e] at hj; cases hj
     have hc : comeS f.code.length ⟨at_, met, todo⟩ k l = (false, ⟨at_, met, todo⟩) := by
      unfold comeS
      rw [if_neg (by omega), if_pos hmet]
      simp only [hj]
     rw [hc]
     refine cw_seq ?_
     refine cw_region ?_
     refine rw_run tab_ok 1 [(6, _)] rfl ⟨rfl, trivial⟩ ?_
     refine rw_end ?_
     refine cw_ret (xw_thenr (xw_thenr ?_))
     refine xw_ret1 Tryz.results154 (rv_tmp rfl) ?_
     intro w hw
     exact ⟨(hd, L, At, ct), hR, rfl, hw.msub ms⟩
    ·obtain ⟨j, hj⟩ : ∃ j, joinL (at_.getD k []) l = some j := by
      cases e : joinL (at_.getD k []) l with
      | none => rw [e] at hj; cases hj
      | some j => exact ⟨j, rfl⟩
     rw [hj, Option.getD_some]
     refine cw_skip (xw_then ?_)
     refine cw_seq ?_
     refine cw_seq ?_
     refine cw_region ?_
     refine rw_run tab_ok 4 [(0, _), (1, _), (8, _), (40, _), (43, _)] rfl ⟨rfl, rfl, rfl, rfl, rfl, trivial⟩ ?_
     refine rw_s (qs_ldb fc Tryz.isAgg26 rfl rfl (by rfl)) rfl rfl ?_
     refine rw_run tab_ok 1 [(0, _), (1, _), (8, _), (40, _), (44, _), (45, _)] rfl ⟨rfl, rfl, rfl, rfl, rfl, rfl, trivial⟩ ?_
     refine rw_s (qs_idx Tryz.underlying26 Tryz.sizeOf27 (SF.own hR.hl fc) (by omega) rfl rfl rfl) rfl rfl ?_
     refine rw_s (qs_ld (SF.hdr (SF.own hR.hl fc) hkl) rfl rfl Tryz.isAgg27) rfl rfl ?_
     refine rw_as (t := 47) (v' := .slice A3 (at_.getD k []).length c3) rfl (hv) ?_
     refine rw_op (ot_c0 rfl rfl rfl Tryz.call190 (fun w hw => equal_ints A4 A3 c4 c3 j (at_.getD k []) w (SF.at_ (SF.own rfl fc) hw) (hin.sl hw fc))) rfl rfl (fun _ _ => ?_)
     refine rw_end ?_
     refine cw_condD rfl (fun he => ?_) (fun he => ?_)
     ·have hc : comeS f.code.length ⟨at_, met, todo⟩ k l = (true, ⟨at_, met, todo⟩) := by
       unfold comeS
       rw [if_neg (by omega), if_pos hmet]
       simp only [hj]
       rw [if_pos he]
      rw [hc]
      refine cw_seq ?_
      refine cw_region ?_
      refine rw_run tab_ok 1 [(6, _)] rfl ⟨rfl, trivial⟩ ?_
      refine rw_end ?_
      refine cw_ret (xw_thenr (xw_thenr ?_))
      refine xw_ret1 Tryz.results154 (rv_tmp rfl) ?_
      intro w hw
      exact ⟨(hd, L, At, ct), hR, rfl, hw.msub ms⟩
     ·have hc : comeS f.code.length ⟨at_, met, todo⟩ k l = (true, ⟨at_.set k j, met.set k true, todo ++ [(k : Int)]⟩) := by
       unfold comeS
       rw [if_neg (by omega), if_pos hmet]
       simp only [hj]
       rw [if_neg he]
      refine cw_mem (fun w h => pool_add (freeze (h.msub (T := ROw (.slice A4 j.length c4) j :: RPool L :: ([RBox gx [.slice Ap fs.length cp, .int .i64 f.params, .slice A1 f.locals.length c1, .int .i64 f.result, .slice A2 f.code.length c2, .slice Aa f.code.length ca, .slice Am f.code.length cm, .slice At todo.length ct] 191, ROw (.slice Aa f.code.length ca) hd, ROw (.slice Am f.code.length cm) met, ROw (.slice At todo.length ct) todo] ++ H)) ms)) ) ?_
      refine cw_skip (xw_then ?_)
      refine cw_region ?_
      refine rw_run tab_ok 2 [(0, _), (1, _), (7, _)] rfl ⟨rfl, rfl, rfl, trivial⟩ ?_
      refine rw_join (j, (.slice A4 j.length c4, j) :: L, A4, c4) (⟨⟨.new, hR.cons _⟩, hc⟩) ⟨rfl, rfl, rfl, trivial⟩ (fun _ h => h.msub ms)
   ·have hc : comeS f.code.length ⟨at_, met, todo⟩ k l = (true, ⟨at_.set k l, met.set k true, todo ++ [(k : Int)]⟩) := by
     unfold comeS
     rw [if_neg (by omega), if_neg (by rw [hmet]; decide)]
    refine cw_skip ?_
    refine xw_join (l, L, Al, cl) (⟨⟨hl, hR⟩, hc⟩) ⟨rfl, rfl, rfl, trivial⟩ (fun _ h => h.msub ms)
  ·rintro ⟨wl, L2, Aw, cw⟩ hg
   obtain ⟨⟨hwl, hR2⟩, hc⟩ : (InP L2 (.slice Aw wl.length cw) wl ∧ Rel f.code.length hd L2 at_) ∧ comeS f.code.length ⟨at_, met, todo⟩ k l = (true, ⟨at_.set k wl, met.set k true, todo ++ [(k : Int)]⟩) := hg
   rw [hc]
   try dsimp only [List.cons_append, List.nil_append]
   refine cw_fact (fun w h => SF.addr (SF.own hR.hl (H := [RBox gx [.slice Ap fs.length cp, .int .i64 f.params, .slice A1 f.locals.length c1, .int .i64 f.result, .slice A2 f.code.length c2, .slice Aa f.code.length ca, .slice Am f.code.length cm, .slice At todo.length ct] 191, ROw (.slice Aa f.code.length ca) hd, ROw (.slice Am f.code.length cm) met, ROw (.slice At todo.length ct) todo, RPool L2] ++ H) fc) (by omega) h) ?_
   rintro ⟨ba, oa, hAa⟩
   refine cw_fact (fun w h => SF.addr (SF.own hm (H := [RBox gx [.slice Ap fs.length cp, .int .i64 f.params, .slice A1 f.locals.length c1, .int .i64 f.result, .slice A2 f.code.length c2, .slice Aa f.code.length ca, .slice Am f.code.length cm, .slice At todo.length ct] 191, ROw (.slice Aa f.code.length ca) hd, ROw (.slice Am f.code.length cm) met, ROw (.slice At todo.length ct) todo, RPool L2] ++ H) fc) (by omega) h) ?_
   rintro ⟨bm, om, hAm⟩
   refine cw_cut (fun _ : Unit => True) (fun _ => [(0, .pointer (some ⟨gx, 0, none⟩)), (1, .int .i64 (k : Int))]) (fun _ => [RBox gx [.slice Ap fs.length cp, .int .i64 f.params, .slice A1 f.locals.length c1, .int .i64 f.result, .slice A2 f.code.length c2, .slice Aa f.code.length ca, .slice Am f.code.length cm, .slice At todo.length ct] 191, ROw (.slice Aa f.code.length ca) (hd.set k ⟨.slice Aw wl.length cw⟩), ROw (.slice Am f.code.length cm) (met.set k true), ROw (.slice At todo.length ct) todo, RPool L2] ++ H) ?_ ?_
   ·refine cw_drawq (.still 0 (.still 1 (.still 2 (.still 3 (.still 4 (.still 5 (.still 6 (.still 7 (.still 8 (.still 9 (.still 10 (.still 11 (.pick 12 (.still 13 (.pick 14 .done .stop)) .stop))))))))))))) [14] rfl (by kernel_rfl) (by kernel_rfl) [RBox gx [.slice Ap fs.length cp, .int .i64 f.params, .slice A1 f.locals.length c1, .int .i64 f.result, .slice A2 f.code.length c2, .slice Aa f.code.length ca, .slice Am f.code.length cm, .slice At todo.length ct] 191] ?_
    refine ro_run tab_ok ha 3 [(0, _), (1, _), (7, _), (52, _)] rfl ⟨rfl, rfl, rfl, rfl, trivial⟩ ?_
    refine ro_s2 rfl (qs_ldb fc Tryz.isAgg26 rfl rfl (by rfl)) rfl rfl ha ?_
    refine ro_run tab_ok ha 4 [(0, _), (1, _), (7, _), (53, _), (54, _), (57, _)] rfl ⟨rfl, rfl, rfl, rfl, rfl, rfl, trivial⟩ ?_
    refine ro_s2 rfl (qs_ldb fc Tryz.isAgg162 rfl rfl (by rfl)) rfl rfl ha ?_
    refine ro_run tab_ok ha 2 [(0, _), (1, _), (53, _), (54, _), (58, _), (59, _), (60, _)] rfl ⟨rfl, rfl, rfl, rfl, rfl, rfl, rfl, trivial⟩ ?_
    refine ro_s2 rfl (qs_idxP Tryz.underlying26 Tryz.sizeOf27 hAa hkl rfl rfl rfl) rfl rfl ha ?_
    refine ro_op2 rfl (ot_stE0 (α := Hdr) ⟨.slice Aw wl.length cw⟩ nilH rfl fc hkl rfl Tryz.sizeOf27 rfl rfl rfl rfl rfl rfl rfl rfl) rfl rfl (.inr fun _ => ha) (fun _ _ => ?_) ro_stop
    refine ro_s2 rfl (qs_idxP Tryz.underlying162 Tryz.sizeOf4 hAm hkl rfl rfl rfl) rfl rfl ha ?_
    refine ro_op2 rfl (ot_stE0 (α := Bool) true false rfl fc hkl trivial Tryz.sizeOf4 rfl rfl rfl rfl rfl rfl rfl rfl) rfl rfl (.inl rfl) (fun _ _ => ?_) ro_stop
    refine ro_endx <| xw_join () (trivial) ⟨rfl, rfl, trivial⟩ (fun _ h => h.msub ms)
   ·rintro _ _
    refine cw_seq ?_
    refine cw_region ?_
    refine rw_run tab_ok 4 [(1, _), (63, _), (66, _)] rfl ⟨rfl, rfl, rfl, trivial⟩ ?_
    refine rw_s (qs_ldb fc Tryz.isAgg27 rfl rfl (by rfl)) rfl rfl ?_
    refine rw_run tab_ok 1 [(63, _), (67, _), (68, _)] rfl ⟨rfl, rfl, rfl, trivial⟩ ?_
    refine rw_op (ot_bsl (cs := [_]) Tryz.underlying27 Tryz.sizeOf3 Tryz.zeroValue3 rfl rfl rfl rfl rfl) rfl rfl (fun g1 _ => ?_)
    refine rw_op (ot_app1 (α := Int) (bytes := 8) (k : Int) [] rfl Tryz.underlying27 (info_ex Tryz.inI) rfl (perm2 fc fc) (hel_flat ⟨by omega, by omega⟩) (by omega) (by omega) rfl rfl rfl) rfl rfl (fun ⟨A5, c5⟩ _ => ?_)
    try dsimp only
    refine rw_run tab_ok 2 [(70, _), (72, _)] rfl ⟨rfl, rfl, trivial⟩ ?_
    refine rw_op (ot_stb _ fc Tryz.sizeOf27 rfl rfl rfl rfl rfl (by rfl) rfl (by rfl)) rfl rfl (fun _ _ => ?_)
    refine rw_end ?_
    refine cw_seq ?_
    refine cw_region ?_
    refine rw_run tab_ok 1 [(6, _)] rfl ⟨rfl, trivial⟩ ?_
    refine rw_end ?_
    refine cw_ret ?_
    refine xw_ret1 Tryz.results154 (rv_tmp rfl) ?_
    intro w hw
    exact ⟨(hd.set k ⟨.slice Aw wl.length cw⟩, L2, A5, c5), hR2.set hkl hwl, rfl, hw.msub ms⟩
end Go.Proofs.YtmnkaalchcomlaaGreat
