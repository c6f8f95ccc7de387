/- Texts of one proof, one behind the other: lemmas alone. -/
import Derived.Test.YtmnkaalchcomlaaGreatM37V
import Derived.Test.YtmnkaalchcomlaaGreatM34V

-- Rs3
/- Machines (the reference): a step: calls and returns; what came. -/
namespace Go.Proofs.YtmnkaalchcomlaaGreat
open Go.RowKit
theorem own_drop {α : Type} [Ow α] {B : Nat} {w0 : World} {H : List Res} {A : Option Addr} {c : Nat} {s : List α} {w : World} (h1 : 1 ≤ s.length) (h : Cw B w0 (ROw (.slice A s.length c) s :: H) w) : Cw B w0 (ROw (.slice (cutA A 1 c (Rep.k α)) (s.drop 1).length (c - 1)) (s.drop 1) :: H) w := by
 rw [List.length_drop]
 exact drop_ow h1 h
section
variable {B : Nat} {w0 : World} {Q : Exit → Act → World → Prop} (gp gm gr go gc gf gs gn k : Nat) (li : List (HFrame × MFrame)) (A Al As Ap Ab Ai Ao : Option Addr) (c cl cs cp cb ci co : Nat) (a : MA) (m : MMach) (f p0 p1 fr : Int) (l s : List MVal) (o : MOp) (fs : List MFunc) (rz : List Value) (fx0 fx1 fx3 : Value)
set_option maxRecDepth 100000 in
set_option maxHeartbeats 1000000 in
theorem rst21 (R : StR B w0 fs m a li k Ap cp f p0 p1 l s o fr) (hrz : rz.length = 6) (K : ∀ (As' : Option Addr) (cs' : Nat) (Ai' : Option Addr) (ci' : Nat), m.inn ≠ [] → XW ⟨551, []⟩ B w0 Q .normal [(4, .pointer (some ⟨gr, 0, none⟩)), (5, .pointer (some ⟨go, 0, none⟩)), (6, .pointer (some ⟨ab A, ao A + k * 4, none⟩)), (9, .pointer (some ⟨gs, 0, none⟩)), (13, .int .i64 p1)] (RBox gs [.slice As' (s ++ [numV (m.inn.getD 0 0)]).length cs'] 64 :: ROw (.slice As' (s ++ [numV (m.inn.getD 0 0)]).length cs') (s ++ [numV (m.inn.getD 0 0)]) :: RBox gr rz 29 :: RBox go [.slice A (k + 1) c, .slice Ab m.blocks.length cb, .slice Ai' (m.inn.drop 1).length ci', .slice Ao m.out.length co, .int .i64 0, .int .i64 m.trap] 29 :: ROw (.slice A (k + 1) c) (li.map Prod.fst ++ [(⟨f, p0, .slice Al l.length cl, .slice As s.length cs⟩ : HFrame)]) :: ROw (.slice Al l.length cl) l :: RPL li :: ROw (.slice Ab m.blocks.length cb) m.blocks :: ROw (.slice Ai' (m.inn.drop 1).length ci') (m.inn.drop 1) :: ROw (.slice Ao m.out.length co) m.out :: [])) (KR : ∀ g : MA, m.inn = [] → XW ⟨551, []⟩ B w0 Q .ret [(4, .pointer (some ⟨gr, 0, none⟩))] (RBox gr [.slice g.Af m.frames.length g.cf, .slice g.Ab m.blocks.length g.cb, .slice g.Ai m.inn.length g.ci, .slice g.Ao m.out.length g.co, .int .i64 1, .int .i64 m.trap] 29 :: ROw (.slice g.Af m.frames.length g.cf) m.frames :: ROw (.slice g.Ab m.blocks.length g.cb) m.blocks :: ROw (.slice g.Ai m.inn.length g.ci) m.inn :: ROw (.slice g.Ao m.out.length g.co) m.out :: [])) : CW Tryz.prog ⟨551, []⟩ B w0 (nav [true, true, true, true, true, true, true, true, true, true, true, false, true, false, true, true, true, true, true, true, true, true, true, true, true, true, true, true, true, true, true, true, true, true, true, true, true, true, true, true, true, true, true, true, true, true, true, true, true, true, true, true, true, true, true, false] (bodyOf Tryz.f34)) Q [(4, .pointer (some ⟨gr, 0, none⟩)), (5, .pointer (some ⟨go, 0, none⟩)), (6, .pointer (some ⟨ab A, ao A + k * 4, none⟩)), (9, .pointer (some ⟨gs, 0, none⟩)), (11, .func (.func 89) #[] #[]), (13, .int .i64 p1)] [RBox gs [.slice As s.length cs] 64, ROw (.slice As s.length cs) s, RBox gp [.slice Ap fs.length cp] 24, RBox gm [.slice a.Af m.frames.length a.cf, .slice a.Ab m.blocks.length a.cb, .slice a.Ai m.inn.length a.ci, .slice a.Ao m.out.length a.co, .int .i64 m.status, .int .i64 m.trap] 29, RBox gr rz 29, RBox go [.slice A (k + 1) c, .slice Ab m.blocks.length cb, .slice Ai m.inn.length ci, .slice Ao m.out.length co, .int .i64 m.status, .int .i64 m.trap] 29, RBox gc [.int .i64 o.c, .int .i64 o.a] 51, RBox gf [fx0, fx1, .int .i64 fr, fx3] 113, RBox gn [.int .i64 (s.length : Int)] 3, ROw (.slice A (k + 1) c) (li.map Prod.fst ++ [(⟨f, p0, .slice Al l.length cl, .slice As s.length cs⟩ : HFrame)]), ROw (.slice Al l.length cl) l, RPL li, ROw (.slice Ab m.blocks.length cb) m.blocks, ROw (.slice Ai m.inn.length ci) m.inn, ROw (.slice Ao m.out.length co) m.out] := by
 have hsl := R.sl
 have hib := R.ib
 obtain ⟨z0, z1, z2, z3, z4, z5, rfl⟩ : ∃ z0 z1 z2 z3 z4 z5, rz = [z0, z1, z2, z3, z4, z5] := six_of rz hrz
 refine cw_fact (fun w h => own_cap h (xs := m.inn) (A := Ai) (m := m.inn.length) (c := ci) fc) fun hcap => ?_
 refine cw_seq ?_
 refine cw_region ?_
 refine rw_run tab_ok 1 [(4, _), (5, _), (6, _), (9, _), (11, _), (13, _), (522, _)] rfl ⟨rfl, rfl, rfl, rfl, rfl, rfl, rfl, trivial⟩ ?_
 refine rw_op (ot_stb _ fc Tryz.sizeOf3 rfl rfl rfl rfl rfl (by rfl) rfl (by rfl)) rfl rfl (fun _ _ => ?_)
 refine rw_end ?_
 refine cw_seq ?_
 refine cw_seq ?_
 refine cw_region ?_
 refine rw_run tab_ok 1 [(4, _), (5, _), (6, _), (9, _), (11, _), (13, _), (523, _)] rfl ⟨rfl, rfl, rfl, rfl, rfl, rfl, rfl, trivial⟩ ?_
 refine rw_s (qs_ldb fc Tryz.isAgg27 rfl rfl (by rfl)) rfl rfl ?_
 refine rw_s (qs_len Tryz.underlying27 rfl rfl) rfl rfl ?_
 refine rw_run tab_ok 1 [(4, _), (5, _), (6, _), (9, _), (11, _), (13, _), (526, _)] rfl ⟨rfl, rfl, rfl, rfl, rfl, rfl, rfl, trivial⟩ ?_
 refine rw_end ?_
 refine cw_condD rfl (fun h0 => ?_) (fun h0 => ?_)
 ·have h0 : m.inn = [] := List.eq_nil_of_length_eq_zero (by have h0 : (m.inn.length : Int) = 0 := h0; omega)
  refine cw_seq ?_
  refine cw_region ?_
  refine rw_s (qs_ldbA (vs := [_, _, _, _, _, _]) fc Tryz.isAgg29 Tryz.sizeOf29 rfl rfl (by rfl) rfl) rfl rfl ?_
  refine rw_op (ot_stb _ fc Tryz.sizeOf29 rfl rfl rfl rfl rfl (by rfl) rfl (by rfl)) rfl rfl (fun _ _ => ?_)
  refine rw_end ?_
  refine cw_ret (xw_thenr ?_)
  refine xw_to (KR ⟨A, c, Ab, cb, Ai, ci, Ao, co⟩ h0) ⟨rfl, trivial⟩ (fun w h => by dsimp only; rw [R.mf, R.fs]; exact (close_top (li := li) (h := ⟨f, p0, .slice Al l.length cl, .slice As s.length cs⟩) (x := ⟨f, p0, l, s⟩) R.hok ⟨rfl, rfl⟩ (h.msub (T := ROw (.slice A (k + 1) c) (li.map Prod.fst ++ [(⟨f, p0, .slice Al l.length cl, .slice As s.length cs⟩ : HFrame)]) :: ROw (.slice Al l.length cl) l :: ROw (.slice As s.length cs) s :: RPL li :: RBox gr [.slice A (k + 1) c, .slice Ab m.blocks.length cb, .slice Ai m.inn.length ci, .slice Ao m.out.length co, .int .i64 1, .int .i64 m.trap] 29 :: ROw (.slice Ab m.blocks.length cb) m.blocks :: ROw (.slice Ai m.inn.length ci) m.inn :: ROw (.slice Ao m.out.length co) m.out :: []) ms)).msub ms)
 ·have h0 : ¬ m.inn.length = 0 := by have h0 : ¬ (m.inn.length : Int) = 0 := h0; omega
  have hz : I64 (m.inn.getD 0 0) := R.ii _ (getD_mem (by omega))
  have hd1 : (m.inn.drop 1).length = m.inn.length - 1 := List.length_drop
  refine cw_skip (xw_then ?_)
  refine cw_seq ?_
  refine cw_region ?_
  refine rw_run tab_ok 1 [(4, _), (5, _), (6, _), (9, _), (11, _), (13, _), (528, _)] rfl ⟨rfl, rfl, rfl, rfl, rfl, rfl, rfl, trivial⟩ ?_
  refine rw_op (ot_stb _ fc Tryz.sizeOf3 rfl rfl rfl rfl rfl (by rfl) rfl (by rfl)) rfl rfl (fun _ _ => ?_)
  refine rw_end ?_
  refine cw_seq ?_
  refine cw_draw (.still 0 (.still 1 (.still 2 (.still 3 (.still 4 (.still 5 (.pick 6 (.pick 7 (.pick 8 (.pick 9 .done .stop) .stop) .stop) .stop))))))) [8, 9] rfl (by kernel_rfl) (by kernel_rfl) ?_
  refine ro_s2 rfl (qs_ldb fc Tryz.isAgg64 rfl rfl (by rfl)) rfl rfl ha ?_
  refine ro_run tab_ok ha 2 [(4, _), (5, _), (6, _), (9, _), (13, _), (529, _), (530, _), (531, _)] rfl ⟨rfl, rfl, rfl, rfl, rfl, rfl, rfl, rfl, trivial⟩ ?_
  refine ro_s2 rfl (qs_ldb fc Tryz.isAgg27 rfl rfl (by rfl)) rfl rfl ha ?_
  refine ro_s2 rfl (qs_idx (k := 0) Tryz.underlying27 Tryz.sizeOf3 (SF.own (xs := m.inn) rfl fc) (by omega) rfl rfl rfl) rfl rfl ha ?_
  refine ro_s2 rfl (qs_ld (SF.int (SF.own (xs := m.inn) rfl fc) (by omega)) rfl rfl Tryz.isAgg3) rfl rfl ha ?_
  refine ro_op2 rfl (ot_c0K rfl rfl rfl Tryz.call89 (fun w hw => rnum_any (m.inn.getD 0 0) hz w)) rfl rfl (.inr fun _ => ha) (fun _ _ => ?_) ro_stop
  refine ro_op2 rfl (ot_bsl (cs := [_, _]) Tryz.underlying64 Tryz.sizeOf68 Tryz.zeroValue68 rfl rfl rfl rfl rfl) rfl rfl (.inr fun _ => ha) (fun g1 _ => ?_) ro_stop
  refine ro_op2 rfl (ot_app1 (α := MVal) (bytes := 16) (numV (m.inn.getD 0 0)) [] rfl Tryz.underlying64 (info_ex Tryz.inVal) rfl (perm2 (R := ROw (.slice As s.length cs) s) fc fc) (hel_flat (numV_i64 _)) (by omega) (by omega) rfl rfl rfl) rfl rfl (.inl rfl) (fun ⟨A3, c3⟩ _ => ?_) ro_stop
  try dsimp only
  refine ro_op2 rfl (ot_stb _ fc Tryz.sizeOf64 rfl rfl rfl rfl rfl (by rfl) rfl (by rfl)) rfl rfl (.inl rfl) (fun _ _ => ?_) ro_stop
  refine ro_end ?_
  refine cw_region ?_
  refine rw_run tab_ok 1 [(4, _), (5, _), (6, _), (9, _), (13, _), (538, _)] rfl ⟨rfl, rfl, rfl, rfl, rfl, rfl, trivial⟩ ?_
  refine rw_s (qs_ldb fc Tryz.isAgg27 rfl rfl (by rfl)) rfl rfl ?_
  refine rw_s (qs_sliceK (k := (m.inn.drop 1).length) Tryz.underlying27 Tryz.sizeOf3 ⟨by omega, by omega⟩ hd1.symm rfl rfl rfl rfl) rfl rfl ?_
  refine rw_run tab_ok 1 [(4, _), (5, _), (6, _), (9, _), (13, _), (540, _), (541, _)] rfl ⟨rfl, rfl, rfl, rfl, rfl, rfl, rfl, trivial⟩ ?_
  refine rw_op (ot_stb _ fc Tryz.sizeOf27 rfl rfl rfl rfl rfl (by rfl) rfl (by rfl)) rfl rfl (fun _ _ => ?_)
  refine rw_endx <| xw_to (K A3 c3 (cutA Ai 1 ci 1) (ci - 1) (fun e => h0 (by rw [e]; rfl))) ⟨rfl, rfl, rfl, rfl, rfl, trivial⟩ (fun w h => (own_drop (s := m.inn) (A := Ai) (c := ci) (by omega) (h.msub (.s fc .r))).msub ms)
end
end Go.Proofs.YtmnkaalchcomlaaGreat
-- Wd2
/- Worlds: a number is brought; mail. -/
namespace Go.Proofs.YtmnkaalchcomlaaGreat
open Go.RowKit
theorem getD_set_self {α : Type} {l : List α} {k : Nat} (h : k < l.length) (x d : α) : (l.set k x).getD k d = x := by
 rw [List.getD_eq_getElem?_getD, List.getElem?_set_self h]
 rfl
theorem qs_remN {P : Program} {n : NF} {o : Oper} {env : Env} {B : Nat} {w0 : World} {H : List Res} {i j : Operand} {t u : TypeId} {x y : Int} {a b : Nat} (ha : x = a ∧ a ≤ 1000000) (hb : y = b ∧ 0 < b) (hop : o.op = .binOp .rem t i j u) (hi : opv env i = some (.int .i64 x)) (hj : opv env j = some (.int .i64 y)) : QS P n B w0 o env H (.int .i64 (((a % b : Nat)) : Int)) := by
 obtain ⟨rfl, ha⟩ := ha
 obtain ⟨rfl, hb⟩ := hb
 refine qs_arith hop hi hj (by decide) fun w => ?_
 have e : (a : Int).tmod b = ((a % b : Nat) : Int) := by rw [Int.tmod_eq_emod_of_nonneg (by omega)]; omega
 have h1 : (a % b : Nat) ≤ 1000000 := Nat.le_trans (Nat.mod_le _ _) ha
 simp only [binOp, Op.intDiv, ne_eq, not_true_eq_false, if_false]
 rw [if_neg (by omega), e]
 simp
section
variable {B : Nat} {w0 : World} {H : List Res}
set_option maxRecDepth 100000 in
set_option maxHeartbeats 2000000 in
theorem bring_own (gx i n c : Nat) (A : Option Addr) (l : List MMach) (z : Int) (hl : l.length = n) (hi : i < n) (hz : I64 z) (hb : (mcAt l i).inn.length ≤ 10) (w : World)
  (hw : Cw B w0 (RBox gx [.slice A n c] 138 :: ROw (.slice A n c) l :: H) w) :
  Calls Tryz.prog 114 #[.pointer (some ⟨gx, 0, none⟩), .int .i64 (i : Int), .int .i64 z] w fun e w' => ∃ _ : Unit, True ∧ e = .returned (.bool (!decide ((mcAt l i).inn.length = 10))) ∧
   Cw B w0 (RBox gx [.slice A n c] 138 :: ROw (.slice A n c) (if (mcAt l i).inn.length = 10 then l else l.set i (bringM (mcAt l i) z)) :: H) w' := by
 have b1 : n ≤ 140737488355328 := len_bd (SF.at_ (SF.own (xs := l) hl (.s .a)) hw)
 refine enter_own Tryz.func114 rfl Tryz.ntmps114 rfl hw ?_
 refine cw_atW (L := l) (k := i) (by omega) fc fun X hs a hA => ?_
 have hhl : hs.length = n := hA.len.trans hl
 have hhd := hA.hd
 have hI := hA.i64
 refine cw_seq ?_
 refine cw_region ?_
 refine rw_run tab_ok 1 [(0, _), (1, _), (2, _)] rfl ⟨rfl, rfl, rfl, trivial⟩ ?_
 refine rw_end ?_
 refine cw_seq ?_
 refine cw_region ?_
 refine rw_run tab_ok 4 [(1, _), (2, _), (11, _)] rfl ⟨rfl, rfl, rfl, trivial⟩ ?_
 refine rw_s (qs_ldb fc Tryz.isAgg75 rfl rfl (by rfl)) rfl rfl ?_
 refine rw_run tab_ok 1 [(2, _), (12, _), (13, _)] rfl ⟨rfl, rfl, rfl, trivial⟩ ?_
 refine rw_s (qs_idx (k := i) Tryz.underlying75 Tryz.sizeOf29 (SF.own (xs := hs) hhl fc) (by omega) rfl rfl rfl) rfl rfl ?_
 refine rw_run tab_ok 1 [(2, _), (7, _)] rfl ⟨rfl, rfl, trivial⟩ ?_
 refine rw_end ?_
 refine cw_seq ?_
 refine cw_seq ?_
 refine cw_region ?_
 refine rw_run tab_ok 3 [(2, _), (7, _), (17, _)] rfl ⟨rfl, rfl, rfl, trivial⟩ ?_
 refine rw_s (qs_ld (fun w hw => (SF.hmc (SF.own (xs := hs) hhl fc) hi hhd) w hw 2 _ rfl) rfl rfl Tryz.isAgg27) rfl rfl ?_
 refine rw_s (qs_len Tryz.underlying27 rfl rfl) rfl rfl ?_
 refine rw_run tab_ok 1 [(2, _), (7, _), (20, _)] rfl ⟨rfl, rfl, rfl, trivial⟩ ?_
 refine rw_end ?_
 refine cw_condD rfl (fun h10 => ?_) (fun h10 => ?_)
 ·have h10 : (mcAt l i).inn.length = 10 := by have h10 : ((mcAt l i).inn.length : Int) = 10 := h10; omega
  refine cw_seq ?_
  refine cw_region ?_
  refine rw_run tab_ok 1 [(6, _)] rfl ⟨rfl, trivial⟩ ?_
  refine rw_end ?_
  refine cw_ret (xw_thenr ?_)
  refine xw_ret1 Tryz.results114 (rv_tmp rfl) ?_
  intro w hw
  refine ⟨(), trivial, ?_, ?_⟩
  ·rw [decide_eq_true h10]; rfl
  ·rw [if_pos h10]
   exact (hA.same (by omega) (hw.msub (.s fc (.s fc (.s fc (.s fc (.s fc (.s fc .r)))))))).msub ms
 ·have h10 : ¬ (mcAt l i).inn.length = 10 := by have h10 : ¬ ((mcAt l i).inn.length : Int) = 10 := h10; omega
  refine cw_skip (xw_then ?_)
  refine cw_seq ?_
  refine cw_region ?_
  refine rw_run tab_ok 4 [(2, _), (7, _), (21, _), (24, _)] rfl ⟨rfl, rfl, rfl, rfl, trivial⟩ ?_
  refine rw_s (qs_ld (fun w hw => (SF.hmc (SF.own (xs := hs) hhl fc) hi hhd) w hw 2 _ rfl) rfl rfl Tryz.isAgg27) rfl rfl ?_
  refine rw_run tab_ok 1 [(7, _), (21, _), (25, _), (26, _)] rfl ⟨rfl, rfl, rfl, rfl, trivial⟩ ?_
  refine rw_op (ot_bsl (cs := [_]) Tryz.underlying27 Tryz.sizeOf3 Tryz.zeroValue3 rfl rfl rfl rfl rfl) rfl rfl (fun g1 _ => ?_)
  refine rw_op (ot_app1 (α := Int) (bytes := 8) z [] rfl Tryz.underlying27 (info_ex Tryz.inI) rfl (perm2 (R := ROw (.slice a.Ai (mcAt l i).inn.length a.ci) (mcAt l i).inn) fc fc) (hel_int hz) (by omega) (by omega) rfl rfl rfl) rfl rfl (fun ⟨A5, c5⟩ _ => ?_)
  try dsimp only
  refine rw_run tab_ok 2 [(7, _), (28, _), (30, _)] rfl ⟨rfl, rfl, rfl, trivial⟩ ?_
  refine rw_op (ot_stE (α := HMach) (A := A) (c := c) (m := n) (f := 2) (us := [.slice A5 ((mcAt l i).inn ++ [z]).length c5]) (hdM ⟨a.Af, a.cf, a.Ab, a.cb, A5, c5, a.Ao, a.co⟩ { mcAt l i with inn := (mcAt l i).inn ++ [z] }) default rfl fc hi (hdM_wf hI) Tryz.sizeOf27 rfl rfl rfl rfl rfl rfl (by rw [hhd]; rfl) rfl) rfl rfl (fun _ _ => ?_)
  refine rw_end ?_
  refine cw_seq ?_
  refine cw_seq ?_
  refine cw_region ?_
  refine rw_run tab_ok 3 [(7, _), (33, _)] rfl ⟨rfl, rfl, trivial⟩ ?_
  have hhl2 : (hs.set i (hdM ⟨a.Af, a.cf, a.Ab, a.cb, A5, c5, a.Ao, a.co⟩ { mcAt l i with inn := (mcAt l i).inn ++ [z] })).length = n := by rw [List.length_set]; exact hhl
  have hhd2 : (hs.set i (hdM ⟨a.Af, a.cf, a.Ab, a.cb, A5, c5, a.Ao, a.co⟩ { mcAt l i with inn := (mcAt l i).inn ++ [z] })).getD i default = hdM ⟨a.Af, a.cf, a.Ab, a.cb, A5, c5, a.Ao, a.co⟩ { mcAt l i with inn := (mcAt l i).inn ++ [z] } := getD_set_self (by omega) _ _
  refine rw_s (qs_ld (fun w hw => (SF.hmc (SF.own (A := A) (c := c) hhl2 fc) hi hhd2) w hw 4 _ rfl) rfl rfl Tryz.isAgg3) rfl rfl ?_
  refine rw_run tab_ok 1 [(7, _), (35, _)] rfl ⟨rfl, rfl, trivial⟩ ?_
  refine rw_end ?_
  refine cw_condD rfl (fun h1 => ?_) (fun h1 => ?_)
  ·have h1 : (mcAt l i).status = 1 := h1
   refine cw_region ?_
   refine rw_run tab_ok 3 [(38, _)] rfl ⟨rfl, trivial⟩ ?_
   refine rw_op (ot_stE (α := HMach) (A := A) (c := c) (m := n) (f := 4) (us := [.int .i64 0]) (hdM ⟨a.Af, a.cf, a.Ab, a.cb, A5, c5, a.Ao, a.co⟩ (bringM (mcAt l i) z)) default (List.set_set ..).symm fc hi (hdM_wf ⟨by unfold bringM; dsimp only; rw [if_pos h1]; decide, hI.2⟩) Tryz.sizeOf3 rfl rfl rfl rfl rfl rfl (by rw [hhd2]; unfold bringM; rw [if_pos h1]; rfl) rfl) rfl rfl (fun _ _ => ?_)
   refine rw_end ?_
   refine cw_seq ?_
   refine cw_region ?_
   refine rw_run tab_ok 1 [(6, _)] rfl ⟨rfl, trivial⟩ ?_
   refine rw_end ?_
   refine cw_ret ?_
   refine xw_ret1 Tryz.results114 (rv_tmp rfl) ?_
   intro w hw
   refine ⟨(), trivial, ?_, ?_⟩
   ·rw [decide_eq_false h10]; rfl
   ·rw [if_neg h10]
    exact (hA.back _ ⟨a.Af, a.cf, a.Ab, a.cb, A5, c5, a.Ao, a.co⟩ (bringM (mcAt l i) z) _ _ (hw.msub (.s fc (.s fc (.s fc (.s fc (.s fc (.s fc .r)))))))).msub ms
  ·have h1 : ¬ (mcAt l i).status = 1 := h1
   have e1 : bringM (mcAt l i) z = { mcAt l i with inn := (mcAt l i).inn ++ [z] } := by unfold bringM; rw [if_neg h1]
   refine cw_skip (xw_then ?_)
   refine cw_seq ?_
   refine cw_region ?_
   refine rw_run tab_ok 1 [(6, _)] rfl ⟨rfl, trivial⟩ ?_
   refine rw_end ?_
   refine cw_ret ?_
   refine xw_ret1 Tryz.results114 (rv_tmp rfl) ?_
   intro w hw
   refine ⟨(), trivial, ?_, ?_⟩
   ·rw [decide_eq_false h10]; rfl
   ·rw [if_neg h10, e1]
    exact (hA.back _ ⟨a.Af, a.cf, a.Ab, a.cb, A5, c5, a.Ao, a.co⟩ { mcAt l i with inn := (mcAt l i).inn ++ [z] } _ _ (hw.msub (.s fc (.s fc (.s fc (.s fc (.s fc (.s fc .r)))))))).msub ms
end
end Go.Proofs.YtmnkaalchcomlaaGreat
-- Wd3
/- Worlds: mail. -/
namespace Go.Proofs.YtmnkaalchcomlaaGreat
open Go.RowKit
section
variable {B : Nat} {w0 : World} {H : List Res}
set_option maxRecDepth 100000 in
set_option maxHeartbeats 4000000 in
theorem mail_own (gx n c : Nat) (A : Option Addr) (fs : List MFunc) (l : List MMach) (hl : l.length = n) (hR : ∀ m ∈ l, RightM fs m) (hn : 1 ≤ n ∧ n ≤ 4) (r : List MMach × Nat) (hr : mailW l = r) (w : World)
  (hw : Cw B w0 (RBox gx [.slice A n c] 138 :: ROw (.slice A n c) l :: H) w) :
  Calls Tryz.prog 112 #[.pointer (some ⟨gx, 0, none⟩)] w fun e w' => ∃ _ : Unit, True ∧ e = .returned (.int .i64 (r.2 : Int)) ∧
   Cw B w0 (RBox gx [.slice A n c] 138 :: ROw (.slice A n c) r.1 :: H) w' := by
 subst hr
 have hsum : ∀ k, k ≤ n → (mailTo l k).2 ≤ 1000 := fun k hk => by
  have h := (mailTo_facts (fs := fs) l k (by omega)).1
  have e := h.cnt (fun j => (mcAt l j).out.length - (mcAt (mailTo l k).1 j).out.length) fun j hj => by have := h.fewer j hj; omega
  have hb : ∀ j, j < l.length → (mcAt l j).out.length ≤ 10 := fun j hj => (hR _ (mc_mem hj)).ob
  have : ∀ q, q ≤ l.length → ((List.range q).map fun j => (mcAt l j).out.length - (mcAt (mailTo l k).1 j).out.length).sum ≤ 10 * q := by
   intro q
   induction q with
   | zero => exact fun _ => Nat.le_refl _
   | succ q ih =>
    intro hq
    have h1 := ih (by omega)
    have h2 := hb q (by omega)
    rw [List.range_succ, List.map_append, List.sum_append]
    simp only [List.map_cons, List.map_nil, List.sum_cons, List.sum_nil]
    omega
  have h2 := this l.length (Nat.le_refl _)
  rw [e] at h2
  omega
 refine enter_own Tryz.func112 rfl Tryz.ntmps112 rfl hw ?_
 refine cw_seq ?_
 refine cw_region ?_
 refine rw_run tab_ok 1 [(0, _)] rfl ⟨rfl, trivial⟩ ?_
 refine rw_end ?_
 refine cw_seq ?_
 refine cw_region ?_
 refine rw_run tab_ok 1 [(0, _), (3, _)] rfl ⟨rfl, rfl, trivial⟩ ?_
 refine rw_end ?_
 refine cw_seq ?_
 refine cw_seq ?_
 refine cw_region ?_
 refine rw_run tab_ok 4 [(0, _), (3, _), (10, _)] rfl ⟨rfl, rfl, rfl, trivial⟩ ?_
 refine rw_s (qs_ldb fc Tryz.isAgg75 rfl rfl (by rfl)) rfl rfl ?_
 refine rw_s (qs_len Tryz.underlying75 rfl rfl) rfl rfl ?_
 refine rw_run tab_ok 1 [(0, _), (3, _), (12, _), (13, _)] rfl ⟨rfl, rfl, rfl, rfl, trivial⟩ ?_
 refine rw_end ?_
 refine cw_block (cw_loop (fun k : Nat => k ≤ n) (fun k => n - k) (fun k => [(0, .pointer (some ⟨gx, 0, none⟩)), (3, .int .i64 ((mailTo l k).2 : Int)), (12, .int .i64 (n : Int)), (13, .int .i64 (k : Int))]) (fun k => RBox gx [.slice A n c] 138 :: ROw (.slice A n c) (mailTo l k).1 :: H) 0 (Nat.zero_le _) ⟨rfl, rfl, rfl, rfl, trivial⟩ me ?_)
 rintro k hk'
 have hk : k ≤ n := hk'
 have hf := (mailTo_facts (fs := fs) l k (by omega)).1
 have hlen := hf.len
 refine cw_seq ?_
 refine cw_region ?_
 refine rw_run tab_ok 1 [(0, _), (3, _), (12, _), (13, _), (14, _)] rfl ⟨rfl, rfl, rfl, rfl, rfl, trivial⟩ ?_
 refine rw_end ?_
 refine cw_seq ?_
 refine cw_condD rfl (fun hlt => ?_) (fun hlt => ?_)
 ·have hkn : k < n := by omega
  have hto : nxt k l.length < n := by have := nxt_lt (i := k) (n := l.length) (by omega); omega
  obtain ⟨to_, hto2⟩ : ∃ t, nxt k l.length = t := ⟨_, rfl⟩
  rw [hto2] at hto
  have hs1 : (mailTo l (k + 1)).1 = (sendsW (mailTo l k).1 k to_).1 := by rw [← hto2]; rfl
  have hs2 : (mailTo l (k + 1)).2 = (mailTo l k).2 + (sendsW (mailTo l k).1 k to_).2 := by rw [← hto2]; rfl
  have hsk := hsum (k + 1) (by omega)
  have hsk0 := hsum k (by omega)
  refine cw_skip (xw_then ?_)
  refine cw_seq ?_
  refine cw_block ?_
  refine cw_seq ?_
  refine cw_region ?_
  refine rw_run tab_ok 2 [(0, _), (3, _), (4, _), (12, _), (13, _)] rfl ⟨rfl, rfl, rfl, rfl, rfl, trivial⟩ ?_
  refine rw_end ?_
  refine cw_seq ?_
  refine cw_region ?_
  refine rw_run tab_ok 4 [(0, _), (3, _), (4, _), (12, _), (13, _), (19, _)] rfl ⟨rfl, rfl, rfl, rfl, rfl, rfl, trivial⟩ ?_
  refine rw_s (qs_ldb fc Tryz.isAgg75 rfl rfl (by rfl)) rfl rfl ?_
  refine rw_run tab_ok 1 [(0, _), (3, _), (4, _), (12, _), (13, _), (20, _), (21, _)] rfl ⟨rfl, rfl, rfl, rfl, rfl, rfl, rfl, trivial⟩ ?_
  refine rw_s (qs_idx (k := k) Tryz.underlying75 Tryz.sizeOf29 (SF.own (xs := (mailTo l k).1) (A := A) (c := c) (m := n) (by omega) fc) (by omega) rfl rfl rfl) rfl rfl ?_
  refine rw_run tab_ok 1 [(0, _), (3, _), (4, _), (5, _), (12, _), (13, _)] rfl ⟨rfl, rfl, rfl, rfl, rfl, rfl, trivial⟩ ?_
  refine rw_end ?_
  refine cw_seq ?_
  refine cw_region ?_
  refine rw_run tab_ok 1 [(0, _), (3, _), (5, _), (12, _), (13, _), (23, _)] rfl ⟨rfl, rfl, rfl, rfl, rfl, rfl, trivial⟩ ?_
  refine rw_s (qs_add rfl rfl rfl (by omega)) rfl rfl ?_
  refine rw_run tab_ok 4 [(0, _), (3, _), (5, _), (12, _), (13, _), (24, _), (28, _)] rfl ⟨rfl, rfl, rfl, rfl, rfl, rfl, rfl, trivial⟩ ?_
  refine rw_s (qs_ldb fc Tryz.isAgg75 rfl rfl (by rfl)) rfl rfl ?_
  refine rw_s (qs_len Tryz.underlying75 rfl rfl) rfl rfl ?_
  refine rw_s (qs_remN (a := k + 1) (b := n) (by omega) (by omega) rfl rfl rfl) rfl rfl ?_
  refine rw_run tab_ok 1 [(0, _), (3, _), (5, _), (6, _), (12, _), (13, _)] rfl ⟨rfl, rfl, rfl, rfl, rfl, rfl, trivial⟩ ?_
  refine rw_end ?_
  refine cw_as (t := 6) (v' := .int .i64 (to_ : Int)) rfl (by rw [← hto2, ← hl]; rfl) ?_
  refine cw_block (cw_loop (fun g : List MMach × Nat => ((g.1.length = n ∧ ∀ m ∈ g.1, RightM fs m) ∧ (sendsW g.1 k to_).1 = (mailTo l (k + 1)).1) ∧ (mailTo l k).2 + g.2 + (sendsW g.1 k to_).2 = (mailTo l (k + 1)).2) (fun g => (mcAt g.1 k).out.length) (fun g => [(0, .pointer (some ⟨gx, 0, none⟩)), (3, .int .i64 (((mailTo l k).2 + g.2 : Nat) : Int)), (5, .pointer (some ⟨ab A, ao A + k * 6, none⟩)), (6, .int .i64 (to_ : Int)), (12, .int .i64 (n : Int)), (13, .int .i64 (k : Int))]) (fun g => RBox gx [.slice A n c] 138 :: ROw (.slice A n c) g.1 :: H) ((mailTo l k).1, 0) (⟨⟨⟨by show (mailTo l k).1.length = n; omega, hf.right hR⟩, hs1.symm⟩, by show (mailTo l k).2 + 0 + (sendsW (mailTo l k).1 k to_).2 = _; rw [hs2]; omega⟩) ⟨rfl, rfl, rfl, rfl, rfl, rfl, trivial⟩ me ?_)
  rintro ⟨l', q⟩ hq'
  try dsimp only
  obtain ⟨⟨⟨hl', hR'⟩, hq1⟩, hq2⟩ : ((l'.length = n ∧ ∀ m ∈ l', RightM fs m) ∧ (sendsW l' k to_).1 = (mailTo l (k + 1)).1) ∧ (mailTo l k).2 + q + (sendsW l' k to_).2 = (mailTo l (k + 1)).2 := hq'
  have hse := sends_eq (l := l') (i := k) (to_ := to_) (by omega) (by omega)
  have hRk := hR' _ (mc_mem (l := l') (k := k) (by omega))
  have hRt := hR' _ (mc_mem (l := l') (k := to_) (by omega))
  have hob := hRk.ob
  have hib := hRt.ib
  refine cw_atW (L := l') (k := k) (by omega) fc fun X hs a hA => ?_
  have hhl : hs.length = n := hA.len.trans hl'
  have hhd := hA.hd
  refine cw_seq ?_
  refine cw_seq ?_
  refine cw_region ?_
  refine rw_run tab_ok 3 [(0, _), (3, _), (5, _), (6, _), (12, _), (13, _), (34, _)] rfl ⟨rfl, rfl, rfl, rfl, rfl, rfl, rfl, trivial⟩ ?_
  refine rw_s (qs_ld (fun w hw => (SF.hmc (SF.own (xs := hs) (A := A) (c := c) hhl fc) hkn hhd) w hw 3 _ rfl) rfl rfl Tryz.isAgg27) rfl rfl ?_
  refine rw_s (qs_len Tryz.underlying27 rfl rfl) rfl rfl ?_
  refine rw_run tab_ok 2 [(0, _), (3, _), (5, _), (6, _), (12, _), (13, _), (38, _)] rfl ⟨rfl, rfl, rfl, rfl, rfl, rfl, rfl, trivial⟩ ?_
  refine rw_split (t := 38) rfl (fun h0 => ?_) (fun h0 => ?_)
  ·have h0 : 0 < (mcAt l' k).out.length := by have := of_decide_eq_true h0; omega
   have hz : I64 ((mcAt l' k).out.getD 0 0) := int_i64 (hRk.oi _ (getD_mem h0))
   refine rw_run tab_ok 5 [(0, _), (3, _), (5, _), (6, _), (12, _), (13, _), (38, _), (39, _), (40, _), (43, _)] rfl ⟨rfl, rfl, rfl, rfl, rfl, rfl, rfl, rfl, rfl, rfl, trivial⟩ ?_
   refine rw_s (qs_ld (fun w hw => (SF.hmc (SF.own (xs := hs) (A := A) (c := c) hhl fc) hkn hhd) w hw 3 _ rfl) rfl rfl Tryz.isAgg27) rfl rfl ?_
   refine rw_s (qs_idx (k := 0) Tryz.underlying27 Tryz.sizeOf3 (SF.own (xs := (mcAt l' k).out) (A := a.Ao) (c := a.co) rfl fc) (by omega) rfl rfl rfl) rfl rfl ?_
   refine rw_s (qs_ld (SF.int (SF.own (xs := (mcAt l' k).out) (A := a.Ao) (c := a.co) rfl fc) (by omega)) rfl rfl Tryz.isAgg3) rfl rfl ?_
   refine rw_mem (fun w h => hA.same (by omega) (h.msub (.s fc (.s fc (.s fc (.s fc (.s fc (.s fc .r)))))))) ?_
   refine rw_op (ot_call rfl rfl rfl Tryz.call114 (fun w hw => bring_own gx to_ n c A l' ((mcAt l' k).out.getD 0 0) hl' hto hz hib w (hw.msub (.s fc (.s fc .r))))) rfl rfl (fun _ _ => ?_)
   refine rw_run tab_ok 1 [(0, _), (3, _), (5, _), (6, _), (12, _), (13, _), (48, _)] rfl ⟨rfl, rfl, rfl, rfl, rfl, rfl, rfl, trivial⟩ ?_
   refine rw_end ?_
   refine cw_condN rfl (fun h10 => ?_) (fun h10 => ?_)
   ·have h10 : ¬ (mcAt l' to_).inn.length = 10 := h10
    have hg : goW l' k to_ := ⟨h0, h10⟩
    rw [if_pos hg] at hse
    rw [if_neg h10]
    have hbl : (broughtW l' k to_).length = n := by unfold broughtW; rw [List.length_set]; exact hl'
    have hol := oneW_len l' k to_
    have hoa := (oneW_at (l := l') (i := k) (to_ := to_) (by omega) (by omega) k).1
    rw [if_pos rfl] at hoa
    have hbo : (mcAt (broughtW l' k to_) k).out = (mcAt l' k).out := by
     rw [brought_at (by omega)]
     split
     ·subst_vars; rfl
     ·rfl
    have hb0 : 1 ≤ (mcAt (broughtW l' k to_) k).out.length := by rw [hbo]; exact h0
    refine cw_atW (L := broughtW l' k to_) (k := k) (by omega) fc fun X hs a hA => ?_
    have hhl : hs.length = n := hA.len.trans hbl
    have hhd := hA.hd
    have hI := hA.i64
    refine cw_fact (fun w h => own_cap h (xs := (mcAt (broughtW l' k to_) k).out) (A := a.Ao) (c := a.co) fc) fun hcap => ?_
    have hd1 : ((mcAt (broughtW l' k to_) k).out.drop 1).length = (mcAt (broughtW l' k to_) k).out.length - 1 := List.length_drop
    refine cw_skip (xw_then ?_)
    refine cw_block ?_
    refine cw_seq ?_
    refine cw_region ?_
    refine rw_run tab_ok 4 [(0, _), (3, _), (5, _), (6, _), (12, _), (13, _), (49, _), (52, _)] rfl ⟨rfl, rfl, rfl, rfl, rfl, rfl, rfl, rfl, trivial⟩ ?_
    refine rw_s (qs_ld (fun w hw => (SF.hmc (SF.own (xs := hs) (A := A) (c := c) hhl fc) hkn hhd) w hw 3 _ rfl) rfl rfl Tryz.isAgg27) rfl rfl ?_
    refine rw_s (qs_sliceK (k := ((mcAt (broughtW l' k to_) k).out.drop 1).length) Tryz.underlying27 Tryz.sizeOf3 ⟨by omega, by omega⟩ hd1.symm rfl rfl rfl rfl) rfl rfl ?_
    refine rw_run tab_ok 2 [(0, _), (3, _), (5, _), (6, _), (12, _), (13, _), (54, _), (56, _)] rfl ⟨rfl, rfl, rfl, rfl, rfl, rfl, rfl, rfl, trivial⟩ ?_
    refine rw_op (ot_stE (α := HMach) (A := A) (c := c) (m := n) (f := 3) (us := [.slice (cutA a.Ao 1 a.co 1) ((mcAt (broughtW l' k to_) k).out.drop 1).length (a.co - 1)]) (hdM ⟨a.Af, a.cf, a.Ab, a.cb, a.Ai, a.ci, cutA a.Ao 1 a.co 1, a.co - 1⟩ (popM (mcAt (broughtW l' k to_) k))) default rfl fc hkn (hdM_wf hI) Tryz.sizeOf27 rfl rfl rfl rfl rfl rfl (by rw [hhd]; rfl) rfl) rfl rfl (fun _ _ => ?_)
    refine rw_end ?_
    refine cw_region ?_
    refine rw_run tab_ok 1 [(0, _), (5, _), (6, _), (12, _), (13, _), (57, _)] rfl ⟨rfl, rfl, rfl, rfl, rfl, rfl, trivial⟩ ?_
    refine rw_s (qs_add rfl rfl rfl (by omega)) rfl rfl ?_
    refine rw_run tab_ok 1 [(0, _), (3, _), (5, _), (6, _), (12, _), (13, _)] rfl ⟨rfl, rfl, rfl, rfl, rfl, rfl, trivial⟩ ?_
    refine rw_endx (xw_blkn ?_)
    have hq3 : (mailTo l k).2 + q + ((sendsW (oneW l' k to_) k to_).2 + 1) = (mailTo l (k + 1)).2 := by rw [hse] at hq2; exact hq2
    refine xw_round (oneW l' k to_, q + 1) (⟨⟨⟨hol.trans hl', oneW_right (by omega) (by omega) hg hR'⟩, by rw [hse] at hq1; exact hq1⟩, by show (mailTo l k).2 + (q + 1) + (sendsW (oneW l' k to_) k to_).2 = _; omega⟩) (by show (mcAt (oneW l' k to_) k).out.length < _; rw [hoa, List.length_drop]; omega) ⟨rfl, rfl, rfl, rfl, rfl, rfl, trivial⟩ (fun w h => (hA.back _ ⟨a.Af, a.cf, a.Ab, a.cb, a.Ai, a.ci, cutA a.Ao 1 a.co 1, a.co - 1⟩ (popM (mcAt (broughtW l' k to_) k)) _ _ ((own_drop hb0 (h.msub (.s fc .r))).msub (.s fc (.s fc (.s fc (.s fc (.s fc (.s fc .r)))))))).msub ms)
   ·have h10 : (mcAt l' to_).inn.length = 10 := h10
    have hg : ¬ goW l' k to_ := fun h => h.2 h10
    rw [if_neg hg] at hse
    rw [hse] at hq1 hq2
    have hq2 : (mailTo l k).2 + q + 0 = (mailTo l (k + 1)).2 := hq2
    have hq1 : l' = (mailTo l (k + 1)).1 := hq1
    rw [if_pos h10, hq1, show (mailTo l k).2 + q = (mailTo l (k + 1)).2 from by omega]
    refine cw_exit (xw_thenx (xw_thenx (xw_blk (xw_blkn (xw_then ?_)))))
    refine cw_region ?_
    refine rw_s (qs_add rfl rfl rfl (by omega)) rfl rfl ?_
    refine rw_run tab_ok 1 [(0, _), (3, _), (12, _), (13, _)] rfl ⟨rfl, rfl, rfl, rfl, trivial⟩ ?_
    refine rw_round (k + 1) (by show k + 1 ≤ _; omega) (by show _ - _ < _ - _; omega) ⟨rfl, rfl, rfl, rfl, trivial⟩ me
  ·have h0 : ¬ 0 < (mcAt l' k).out.length := by have := of_decide_eq_false h0; omega
   have hg : ¬ goW l' k to_ := fun h => h0 h.1
   rw [if_neg hg] at hse
   rw [hse] at hq1 hq2
   have hq2 : (mailTo l k).2 + q + 0 = (mailTo l (k + 1)).2 := hq2
   have hq1 : l' = (mailTo l (k + 1)).1 := hq1
   rw [show (mailTo l k).2 + q = (mailTo l (k + 1)).2 from by omega]
   refine rw_run tab_ok 10 [(0, _), (3, _), (5, _), (6, _), (12, _), (13, _), (48, _)] rfl ⟨rfl, rfl, rfl, rfl, rfl, rfl, rfl, trivial⟩ ?_
   refine rw_end ?_
   refine cw_cond_f rfl ?_
   refine cw_exit (xw_thenx (xw_thenx (xw_blk (xw_blkn (xw_then ?_)))))
   refine cw_region ?_
   refine rw_s (qs_add rfl rfl rfl (by omega)) rfl rfl ?_
   refine rw_run tab_ok 1 [(0, _), (3, _), (12, _), (13, _)] rfl ⟨rfl, rfl, rfl, rfl, trivial⟩ ?_
   refine rw_round (k + 1) (by show k + 1 ≤ _; omega) (by show _ - _ < _ - _; omega) ⟨rfl, rfl, rfl, rfl, trivial⟩ (fun w h => by rw [← hq1]; exact (hA.same (by omega) (h.msub (.s fc (.s fc (.s fc (.s fc (.s fc (.s fc .r)))))))).msub ms)
 ·obtain rfl : k = n := by omega
  refine cw_exit (xw_thenx (xw_thenx (xw_blk (xw_then ?_))))
  refine cw_seq ?_
  refine cw_region ?_
  refine rw_run tab_ok 2 [(2, _)] rfl ⟨rfl, trivial⟩ ?_
  refine rw_end ?_
  refine cw_ret ?_
  refine xw_ret1 Tryz.results112 (rv_tmp rfl) ?_
  intro w hw
  have e1 : mailW l = mailTo l k := by unfold mailW; rw [hl]
  exact ⟨(), trivial, by rw [e1], by rw [e1]; exact hw.msub ms⟩
end
end Go.Proofs.YtmnkaalchcomlaaGreat
-- Wd4
/- Worlds: mail goes; turns; numbers are sent. -/
namespace Go.Proofs.YtmnkaalchcomlaaGreat
open Go.RowKit
def mailR (fs : List MFunc) (l : List MMach) : List MMach × Nat := if worldE fs l = 0 then mailW l else ([], 0)
def turnE (fs : List MFunc) (l : List MMach) (k : Int) : Int := if worldE fs l = 0 ∧ (k < 0 ∨ 10000 < k) then 3 else worldE fs l
def ranW (fs : List MFunc) (l : List MMach) (k : Int) : List MMach := l.map fun m => (runM fs m k).1
def turnR (fs : List MFunc) (l : List MMach) (k : Int) : List MMach := if turnE fs l k = 0 then (mailW (ranW fs l k)).1 else []
def sendE0 (fs : List MFunc) (l : List MMach) (i z : Int) : Int := if worldE fs l = 0 ∧ (i < 0 ∨ (l.length : Int) ≤ i ∨ isInt z = false) then 3 else worldE fs l
def sendE (fs : List MFunc) (l : List MMach) (i z : Int) : Int := if sendE0 fs l i z ≠ 0 then sendE0 fs l i z else if (mcAt l i.toNat).inn.length = 10 then 7 else 0
def sendR (fs : List MFunc) (l : List MMach) (i z : Int) : List MMach := if sendE fs l i z = 0 then l.set i.toNat (bringM (mcAt l i.toNat) z) else []
theorem mailW_len (l : List MMach) : (mailW l).1.length = l.length := (mail_facts (fs := []) l).1.len
theorem turn_ok {fs : List MFunc} {l : List MMach} {k : Int} (h : turnE fs l k = 0) : worldE fs l = 0 ∧ 0 ≤ k ∧ k ≤ 10000 := by
 unfold turnE at h
 split at h
 ·cases h
 ·rename_i h2
  exact ⟨h, by omega, by omega⟩
theorem send_ok0 {fs : List MFunc} {l : List MMach} {i z : Int} (h : sendE0 fs l i z = 0) : worldE fs l = 0 ∧ (0 ≤ i ∧ i < l.length) ∧ isInt z = true := by
 unfold sendE0 at h
 split at h
 ·cases h
 ·rename_i h2
  refine ⟨h, ⟨by omega, by omega⟩, ?_⟩
  cases hz : isInt z with
  | true => rfl
  | false => exact absurd ⟨h, .inr (.inr hz)⟩ h2
theorem ranW_right {fs : List MFunc} {l : List MMach} {k : Int} (hW : WOk fs l) (hk : 0 ≤ k) : ∀ m ∈ ranW fs l k, RightM fs m := fun m hm => by
 obtain ⟨x, hx, rfl⟩ := List.mem_map.1 hm
 exact (run_facts hW.f x k (hW.r x hx) hk).right
theorem ranW_len (fs : List MFunc) (l : List MMach) (k : Int) : (ranW fs l k).length = l.length := List.length_map ..
set_option maxRecDepth 100000 in
set_option maxHeartbeats 2000000 in
theorem wmail_any (Ap Aw : Option Addr) (cp cw : Nat) (fs : List MFunc) (l : List MMach) (r : List MMach × Nat) (hr : mailR fs l = r) (w : World) (hs : Sl w (.slice Ap fs.length cp) fs) (hl : Sl w (.slice Aw l.length cw) l) (hfit : FitW l) :
  Calls Tryz.prog 55 #[.agg #[.slice Ap fs.length cp], .agg #[.slice Aw l.length cw]] w fun e w' => ∃ g : Option Addr × Nat, True ∧ e = .returned (.tuple #[.agg #[.slice g.1 r.1.length g.2], .int .i64 (r.2 : Int), .int .i64 (worldE fs l)]) ∧ Cw w.heap.size w [ROw (.slice g.1 r.1.length g.2) r.1] w' := by
 refine enter Tryz.func55 rfl Tryz.ntmps55 rfl ?_
 refine cw_seq ?_
 refine cw_region ?_
 refine rw_op (ot_box rfl rfl rfl) rfl rfl (fun g1 _ => ?_)
 refine rw_op (ot_box rfl rfl rfl) rfl rfl (fun g2 _ => ?_)
 refine rw_op (ot_alloc Tryz.zeroValue77 rfl rfl) rfl rfl (fun g3 _ => ?_)
 refine rw_run tab_ok 2 [(2, _), (3, _), (4, _)] rfl ⟨rfl, rfl, rfl, trivial⟩ ?_
 refine rw_end ?_
 refine cw_seq ?_
 refine cw_seq ?_
 refine cw_region ?_
 refine rw_s (qs_ldbA (vs := [_]) fc Tryz.isAgg24 Tryz.sizeOf24 rfl rfl (by rfl) rfl) rfl rfl ?_
 refine rw_s (qs_ldbA (vs := [_]) fc Tryz.isAgg77 Tryz.sizeOf77 rfl rfl (by rfl) rfl) rfl rfl ?_
 refine rw_op (ot_c0 rfl rfl rfl Tryz.call64 (fun w hw => wcheck_any Ap Aw cp cw fs l w (hw.ro hs) (hw.ro hl) hfit)) rfl rfl (fun _ _ => ?_)
 refine rw_run tab_ok 1 [(3, _), (4, _), (7, _)] rfl ⟨rfl, rfl, rfl, trivial⟩ ?_
 refine rw_end ?_
 refine cw_seq ?_
 refine cw_region ?_
 refine rw_run tab_ok 2 [(3, _), (4, _), (7, _), (14, _)] rfl ⟨rfl, rfl, rfl, rfl, trivial⟩ ?_
 refine rw_end ?_
 refine cw_condN rfl (fun hp => ?_) (fun hp => ?_)
 ·have hp : ¬ worldE fs l = 0 := hp
  have e : r = ([], 0) := by rw [← hr]; unfold mailR; rw [if_neg hp]
  subst e
  refine cw_seq ?_
  refine cw_region ?_
  refine rw_s (qs_bst (cs := [_]) plT77 Tryz.zeroValue77 rfl rfl (by rfl)) rfl rfl ?_
  refine rw_run tab_ok 1 [(4, _), (15, _), (16, _)] rfl ⟨rfl, rfl, rfl, trivial⟩ ?_
  refine rw_op (ot_stb _ fc Tryz.sizeOf77 rfl rfl rfl rfl rfl (by rfl) rfl (by rfl)) rfl rfl (fun _ _ => ?_)
  refine rw_run tab_ok 2 [(4, _), (5, _), (6, _)] rfl ⟨rfl, rfl, rfl, trivial⟩ ?_
  refine rw_end ?_
  refine cw_ret (xw_thenr ?_)
  refine xw_ret3 Tryz.results55 (rv_box (cs := [_]) fc Tryz.isAgg77 Tryz.sizeOf77 rfl) (rv_tmp rfl) (rv_tmp rfl) ?_
  intro w hw
  exact ⟨(none, 0), trivial, rfl, (Cw.nilO MMach hw).msub ms⟩
 ·have hp : worldE fs l = 0 := hp
  have hW := world_ok hp
  have e : mailW l = r := by rw [← hr]; unfold mailR; rw [if_pos hp]
  have hrl : r.1.length = l.length := by rw [← e]; exact mailW_len l
  refine cw_skip (xw_then ?_)
  refine cw_seq ?_
  refine cw_region ?_
  refine rw_s (qs_ldbA (vs := [_]) fc Tryz.isAgg77 Tryz.sizeOf77 rfl rfl (by rfl) rfl) rfl rfl ?_
  refine rw_op (ot_c rfl rfl rfl Tryz.call111 (fun w hw => wown_any Aw cw fs l w (hw.ro hl) hW)) rfl rfl (fun ⟨gx, A, c⟩ _ => ?_)
  try dsimp only
  refine rw_run tab_ok 1 [(4, _), (8, _)] rfl ⟨rfl, rfl, trivial⟩ ?_
  refine rw_end ?_
  refine cw_seq ?_
  refine cw_region ?_
  refine rw_run tab_ok 1 [(4, _), (8, _), (19, _)] rfl ⟨rfl, rfl, rfl, trivial⟩ ?_
  refine rw_op (ot_call rfl rfl rfl Tryz.call112 (fun w hw => mail_own gx l.length c A fs l rfl hW.r ⟨hW.n0, hW.n4⟩ r e w (hw.msub (.s fc (.s fc .r))))) rfl rfl (fun _ _ => ?_)
  refine rw_run tab_ok 1 [(4, _), (8, _), (9, _)] rfl ⟨rfl, rfl, rfl, trivial⟩ ?_
  refine rw_end ?_
  refine cw_seq ?_
  refine cw_region ?_
  refine rw_run tab_ok 3 [(4, _), (9, _), (23, _)] rfl ⟨rfl, rfl, rfl, trivial⟩ ?_
  refine rw_s (qs_ldbA (vs := [_]) fc Tryz.isAgg77 Tryz.sizeOf77 rfl rfl (by rfl) rfl) rfl rfl ?_
  refine rw_run tab_ok 1 [(4, _), (24, _), (25, _)] rfl ⟨rfl, rfl, rfl, trivial⟩ ?_
  refine rw_op (ot_stb _ fc Tryz.sizeOf77 rfl rfl rfl rfl rfl (by rfl) rfl (by rfl)) rfl rfl (fun _ _ => ?_)
  refine rw_run tab_ok 2 [(4, _), (5, _), (6, _)] rfl ⟨rfl, rfl, rfl, trivial⟩ ?_
  refine rw_end ?_
  refine cw_ret ?_
  refine xw_ret3 Tryz.results55 (rv_box (cs := [_]) fc Tryz.isAgg77 Tryz.sizeOf77 rfl) (rv_tmp rfl) (rv_tmp rfl) ?_
  intro w hw
  refine ⟨(A, c), trivial, ?_, ?_⟩
  ·rw [hrl, hp]
  ·rw [hrl]; exact hw.msub ms
set_option maxRecDepth 100000 in
set_option maxHeartbeats 4000000 in
theorem wturn_any (Ap Aw : Option Addr) (cp cw : Nat) (fs : List MFunc) (l : List MMach) (k : Int) (r : List MMach) (hr : turnR fs l k = r) (w : World) (hs : Sl w (.slice Ap fs.length cp) fs) (hl : Sl w (.slice Aw l.length cw) l) (hfit : FitW l) :
  Calls Tryz.prog 56 #[.agg #[.slice Ap fs.length cp], .agg #[.slice Aw l.length cw], .int .i64 k] w fun e w' => ∃ g : Option Addr × Nat, True ∧ e = .returned (.tuple #[.agg #[.slice g.1 r.length g.2], .int .i64 (turnE fs l k)]) ∧ Cw w.heap.size w [ROw (.slice g.1 r.length g.2) r] w' := by
 have bl := len_bd hl
 refine enter Tryz.func56 rfl Tryz.ntmps56 rfl ?_
 refine cw_seq ?_
 refine cw_region ?_
 refine rw_op (ot_box rfl rfl rfl) rfl rfl (fun g1 _ => ?_)
 refine rw_op (ot_box rfl rfl rfl) rfl rfl (fun g2 _ => ?_)
 refine rw_op (ot_alloc Tryz.zeroValue77 rfl rfl) rfl rfl (fun g3 _ => ?_)
 refine rw_run tab_ok 1 [(2, _), (3, _), (4, _), (6, _)] rfl ⟨rfl, rfl, rfl, rfl, trivial⟩ ?_
 refine rw_end ?_
 refine cw_seq ?_
 refine cw_region ?_
 refine rw_s (qs_ldbA (vs := [_]) fc Tryz.isAgg24 Tryz.sizeOf24 rfl rfl (by rfl) rfl) rfl rfl ?_
 refine rw_s (qs_ldbA (vs := [_]) fc Tryz.isAgg77 Tryz.sizeOf77 rfl rfl (by rfl) rfl) rfl rfl ?_
 refine rw_op (ot_c0 rfl rfl rfl Tryz.call64 (fun w hw => wcheck_any Ap Aw cp cw fs l w (hw.ro hs) (hw.ro hl) hfit)) rfl rfl (fun _ _ => ?_)
 refine rw_run tab_ok 1 [(2, _), (3, _), (4, _), (6, _), (8, _)] rfl ⟨rfl, rfl, rfl, rfl, rfl, trivial⟩ ?_
 refine rw_end ?_
 refine cw_cut (fun _ : Unit => True) (fun _ => [(2, .int .i64 k), (3, .pointer (some ⟨g1, 0, none⟩)), (4, .pointer (some ⟨g2, 0, none⟩)), (6, .pointer (some ⟨g3, 0, none⟩)), (8, .int .i64 (turnE fs l k))]) (fun _ => [RBox g1 [.slice Ap fs.length cp] 24, RBox g2 [.slice Aw l.length cw] 77, RBox g3 [.slice none 0 0] 77]) ?_ ?_
 ·refine cw_seq ?_
  refine cw_region ?_
  refine rw_run tab_ok 3 [(2, _), (3, _), (4, _), (6, _), (8, _), (19, _)] rfl ⟨rfl, rfl, rfl, rfl, rfl, rfl, trivial⟩ ?_
  refine rw_share 7 rfl [(2, _), (3, _), (4, _), (6, _), (8, _)] [(26, .bool (decide (worldE fs l = 0 ∧ (k < 0 ∨ 10000 < k))))] ⟨rfl, rfl, rfl, rfl, rfl, trivial⟩ (fun K => ?_) ?_
  ·refine rw_split (t := 19) rfl (fun q1 => ?_) (fun q1 => ?_)
   ·have q1 := of_decide_eq_true q1
    refine rw_run tab_ok 3 [(2, _), (3, _), (4, _), (6, _), (8, _), (19, _), (22, _)] rfl ⟨rfl, rfl, rfl, rfl, rfl, rfl, rfl, trivial⟩ ?_
    refine rw_split (t := 22) rfl (fun q2 => ?_) (fun q2 => ?_)
    ·have q2 := of_decide_eq_true q2
     refine rw_run tab_ok 4 [(2, _), (3, _), (4, _), (6, _), (8, _), (26, _)] rfl ⟨rfl, rfl, rfl, rfl, rfl, rfl, trivial⟩ ?_
     refine rw_as (t := 26) (v' := .bool (decide (worldE fs l = 0 ∧ (k < 0 ∨ 10000 < k)))) rfl (congrArg Value.bool (decide_eq_true ⟨q1, .inl q2⟩).symm) ?_
     exact rw_subK K ⟨rfl, rfl, rfl, rfl, rfl, rfl, trivial⟩
    ·have q2 := of_decide_eq_false q2
     refine rw_run tab_ok 4 [(2, _), (3, _), (4, _), (6, _), (8, _), (26, _)] rfl ⟨rfl, rfl, rfl, rfl, rfl, rfl, trivial⟩ ?_
     refine rw_as (t := 26) (v' := .bool (decide (worldE fs l = 0 ∧ (k < 0 ∨ 10000 < k)))) rfl (congrArg Value.bool (decide_eq_decide.2 ⟨fun h => ⟨q1, .inr h⟩, fun h => h.2.resolve_left q2⟩)) ?_
     exact rw_subK K ⟨rfl, rfl, rfl, rfl, rfl, rfl, trivial⟩
   ·have q1 := of_decide_eq_false q1
    refine rw_run tab_ok 7 [(2, _), (3, _), (4, _), (6, _), (8, _), (26, _)] rfl ⟨rfl, rfl, rfl, rfl, rfl, rfl, trivial⟩ ?_
    refine rw_as (t := 26) (v' := .bool (decide (worldE fs l = 0 ∧ (k < 0 ∨ 10000 < k)))) rfl (congrArg Value.bool (decide_eq_false (fun h => q1 h.1)).symm) ?_
    exact rw_subK K ⟨rfl, rfl, rfl, rfl, rfl, rfl, trivial⟩
  ·refine rw_end ?_
   refine cw_condD rfl (fun q => ?_) (fun q => ?_)
   ·refine cw_region ?_
    refine rw_run tab_ok 1 [(2, _), (3, _), (4, _), (6, _), (8, _)] rfl ⟨rfl, rfl, rfl, rfl, rfl, trivial⟩ ?_
    refine rw_as (t := 8) (v' := .int .i64 (turnE fs l k)) rfl (by unfold turnE; rw [if_pos q]) ?_
    refine rw_join () (trivial) ⟨rfl, rfl, rfl, rfl, rfl, trivial⟩ me
   ·refine cw_as (t := 8) (v' := .int .i64 (turnE fs l k)) rfl (by unfold turnE; rw [if_neg q]) ?_
    refine cw_skip ?_
    refine xw_join () (trivial) ⟨rfl, rfl, rfl, rfl, rfl, trivial⟩ me
 ·rintro ⟨⟩ _
  try dsimp only
  refine cw_seq ?_
  refine cw_seq ?_
  refine cw_region ?_
  refine rw_run tab_ok 2 [(2, _), (3, _), (4, _), (6, _), (8, _), (28, _)] rfl ⟨rfl, rfl, rfl, rfl, rfl, rfl, trivial⟩ ?_
  refine rw_end ?_
  refine cw_condN rfl (fun hp => ?_) (fun hp => ?_)
  ·have hp : ¬ turnE fs l k = 0 := hp
   have e : r = [] := by rw [← hr]; unfold turnR; rw [if_neg hp]
   subst e
   refine cw_seq ?_
   refine cw_region ?_
   refine rw_s (qs_bst (cs := [_]) plT77 Tryz.zeroValue77 rfl rfl (by rfl)) rfl rfl ?_
   refine rw_run tab_ok 1 [(6, _), (29, _), (30, _)] rfl ⟨rfl, rfl, rfl, trivial⟩ ?_
   refine rw_op (ot_stb _ fc Tryz.sizeOf77 rfl rfl rfl rfl rfl (by rfl) rfl (by rfl)) rfl rfl (fun _ _ => ?_)
   refine rw_run tab_ok 1 [(6, _), (7, _)] rfl ⟨rfl, rfl, trivial⟩ ?_
   refine rw_end ?_
   refine cw_ret (xw_thenr ?_)
   refine xw_ret2 Tryz.results56 (rv_box (cs := [_]) fc Tryz.isAgg77 Tryz.sizeOf77 rfl) (rv_tmp rfl) ?_
   intro w hw
   exact ⟨(none, 0), trivial, rfl, (Cw.nilO MMach hw).msub ms⟩
  ·have hp : turnE fs l k = 0 := hp
   obtain ⟨h0, hk⟩ := turn_ok hp
   have hW := world_ok h0
   have h4 := hW.n4
   obtain ⟨q, hq⟩ : ∃ q, mailW (ranW fs l k) = q := ⟨_, rfl⟩
   have e : q.1 = r := by rw [← hr, ← hq]; unfold turnR; rw [if_pos hp]
   have hql : q.1.length = l.length := by rw [← hq, mailW_len, ranW_len]
   refine cw_skip (xw_then ?_)
   refine cw_seq ?_
   refine cw_region ?_
   refine rw_s (qs_bst (cs := [_]) plT138 Tryz.zeroValue138 rfl rfl (by rfl)) rfl rfl ?_
   refine rw_op (ot_box rfl rfl rfl) rfl rfl (fun g4 _ => ?_)
   refine rw_run tab_ok 1 [(2, _), (3, _), (4, _), (6, _), (9, _)] rfl ⟨rfl, rfl, rfl, rfl, rfl, trivial⟩ ?_
   refine rw_end ?_
   refine cw_seq ?_
   refine cw_seq ?_
   refine cw_region ?_
   refine rw_run tab_ok 1 [(2, _), (3, _), (6, _), (9, _), (33, _)] rfl ⟨rfl, rfl, rfl, rfl, rfl, trivial⟩ ?_
   refine rw_s (qs_ldb fc Tryz.isAgg75 rfl rfl (by rfl)) rfl rfl ?_
   refine rw_s (qs_len Tryz.underlying75 rfl rfl) rfl rfl ?_
   refine rw_run tab_ok 1 [(2, _), (3, _), (6, _), (9, _), (34, _), (35, _), (36, _)] rfl ⟨rfl, rfl, rfl, rfl, rfl, rfl, rfl, trivial⟩ ?_
   refine rw_end ?_
   refine cw_mem (fun w h => Cw.nilO MMach h) ?_
   refine cw_block (cw_loop (fun g : Nat × Option Addr × Nat => g.1 ≤ l.length) (fun g => l.length - g.1) (fun g => [(2, .int .i64 k), (3, .pointer (some ⟨g1, 0, none⟩)), (6, .pointer (some ⟨g3, 0, none⟩)), (9, .pointer (some ⟨g4, 0, none⟩)), (34, .slice Aw l.length cw), (35, .int .i64 (l.length : Int)), (36, .int .i64 (g.1 : Int))]) (fun g => [RBox g4 [.slice g.2.1 (((l.take g.1).map fun m => (runM fs m k).1)).length g.2.2] 138, ROw (.slice g.2.1 (((l.take g.1).map fun m => (runM fs m k).1)).length g.2.2) (((l.take g.1).map fun m => (runM fs m k).1)), RBox g1 [.slice Ap fs.length cp] 24, RBox g3 [.slice none 0 0] 77]) (0, none, 0) (Nat.zero_le _) ⟨rfl, rfl, rfl, rfl, rfl, rfl, rfl, trivial⟩ me ?_)
   rintro ⟨j, A', c'⟩ hj
   try dsimp only
   have hj : j ≤ l.length := hj
   have htl : ((l.take j).map fun m => (runM fs m k).1).length = j := by rw [List.length_map, List.length_take]; omega
   refine cw_seq ?_
   refine cw_region ?_
   refine rw_run tab_ok 1 [(2, _), (3, _), (6, _), (9, _), (34, _), (35, _), (36, _), (37, _)] rfl ⟨rfl, rfl, rfl, rfl, rfl, rfl, rfl, rfl, trivial⟩ ?_
   refine rw_end ?_
   refine cw_seq ?_
   refine cw_condD rfl (fun hlt => ?_) (fun hlt => ?_)
   ·have hjl : j < l.length := by omega
    obtain ⟨a, hm, hcell⟩ := hl.mc hjl
    have hRj := hW.r _ (mc_mem hjl)
    obtain ⟨x, hx⟩ : ∃ x, runM fs (mcAt l j) k = x := ⟨_, rfl⟩
    have hI : I64 x.1.status ∧ I64 x.1.trap := by rw [← hx]; exact right_i64 (run_facts hW.f _ k hRj hk.1).right
    have htk : ((l.take (j + 1)).map fun m => (runM fs m k).1) = ((l.take j).map fun m => (runM fs m k).1) ++ [x.1] := by rw [take_mc hjl, List.map_append, ← hx]; rfl
    refine cw_skip (xw_then ?_)
    refine cw_seq ?_
    refine cw_block ?_
    refine cw_seq ?_
    refine cw_region ?_
    refine rw_s (qs_idx (k := j) Tryz.underlying75 Tryz.sizeOf29 (.ro hl) (by omega) rfl rfl rfl) rfl rfl ?_
    refine rw_s (qs_ldA (hcell _) rfl rfl Tryz.isAgg29 Tryz.sizeOf29) rfl rfl ?_
    refine rw_op (ot_alloc Tryz.zeroValue29 rfl rfl) rfl rfl (fun g5 _ => ?_)
    refine rw_op (ot_stb _ fc Tryz.sizeOf29 rfl rfl rfl rfl rfl (by rfl) rfl (by rfl)) rfl rfl (fun _ _ => ?_)
    refine rw_end ?_
    refine cw_seq ?_
    refine cw_region ?_
    refine rw_s (qs_ldbA (vs := [_]) fc Tryz.isAgg24 Tryz.sizeOf24 rfl rfl (by rfl) rfl) rfl rfl ?_
    refine rw_s (qs_ldbA (vs := [_, _, _, _, _, _]) fc Tryz.isAgg29 Tryz.sizeOf29 rfl rfl (by rfl) rfl) rfl rfl ?_
    refine rw_run tab_ok 1 [(2, _), (3, _), (6, _), (9, _), (34, _), (35, _), (36, _), (41, _), (42, _), (43, _)] rfl ⟨rfl, rfl, rfl, rfl, rfl, rfl, rfl, rfl, rfl, rfl, trivial⟩ ?_
    refine rw_op (ot_c rfl rfl rfl Tryz.call100 (fun w hw => mraw_any Ap cp fs a (mcAt l j) k x hx w (hw.ro hs) (hm.ro hw) hW.f hRj hk)) rfl rfl (fun ga _ => ?_)
    refine rw_run tab_ok 3 [(2, _), (3, _), (6, _), (9, _), (34, _), (35, _), (36, _), (45, _), (46, _)] rfl ⟨rfl, rfl, rfl, rfl, rfl, rfl, rfl, rfl, rfl, trivial⟩ ?_
    refine rw_op (ot_alloc Tryz.zeroValue29 rfl rfl) rfl rfl (fun g6 _ => ?_)
    refine rw_op (ot_stb _ fc Tryz.sizeOf29 rfl rfl rfl rfl rfl (by rfl) rfl (by rfl)) rfl rfl (fun _ _ => ?_)
    refine rw_run tab_ok 1 [(2, _), (3, _), (6, _), (9, _), (12, _), (34, _), (35, _), (36, _)] rfl ⟨rfl, rfl, rfl, rfl, rfl, rfl, rfl, rfl, trivial⟩ ?_
    refine rw_end ?_
    refine cw_drawq (.still 0 (.still 1 (.still 2 (.still 3 (.still 4 (.still 5 (.still 6 (.pick 7 (.pick 8 (.still 9 (.still 10 (.still 11 (.pick 12 .done .stop)))) .stop) .stop)))))))) [12] rfl (by kernel_rfl) (by kernel_rfl) [RBox g4 [.slice A' ((l.take j).map fun m => (runM fs m k).1).length c'] 138, RBox g6 [.slice ga.Af x.1.frames.length ga.cf, .slice ga.Ab x.1.blocks.length ga.cb, .slice ga.Ai x.1.inn.length ga.ci, .slice ga.Ao x.1.out.length ga.co, .int .i64 x.1.status, .int .i64 x.1.trap] 29] ?_
    refine ro_run tab_ok ha 5 [(2, _), (3, _), (6, _), (9, _), (12, _), (34, _), (35, _), (36, _), (47, _), (51, _)] rfl ⟨rfl, rfl, rfl, rfl, rfl, rfl, rfl, rfl, rfl, rfl, trivial⟩ ?_
    refine ro_s2 rfl (qs_ldb fc Tryz.isAgg75 rfl rfl (by rfl)) rfl rfl ha ?_
    refine ro_s2 rfl (qs_ldbA (vs := [_, _, _, _, _, _]) fc Tryz.isAgg29 Tryz.sizeOf29 rfl rfl (by rfl) rfl) rfl rfl ha ?_
    refine ro_op2 rfl (ot_bsl (cs := [_, _, _, _, _, _]) Tryz.underlying75 Tryz.sizeOf29 Tryz.zeroValue29 rfl rfl rfl rfl rfl) rfl rfl (.inr fun _ => ha) (fun g7 _ => ?_) ro_stop
    refine ro_op2 rfl (ot_app1 (α := MMach) (bytes := 112) x.1 [ROw (.slice ga.Af x.1.frames.length ga.cf) x.1.frames, ROw (.slice ga.Ab x.1.blocks.length ga.cb) x.1.blocks, ROw (.slice ga.Ai x.1.inn.length ga.ci) x.1.inn, ROw (.slice ga.Ao x.1.out.length ga.co) x.1.out] htk Tryz.underlying75 (info_ex Tryz.inMach) rfl (perm6 fc fc fc fc fc fc) (hel_mc hI) (by omega) (by omega) rfl rfl rfl) rfl rfl (.inr fun _ => ha) (fun ⟨A5, c5⟩ _ => ?_) ro_stop
    try dsimp only
    refine ro_run tab_ok ha 3 [(2, _), (3, _), (6, _), (9, _), (34, _), (35, _), (36, _), (55, _), (58, _)] rfl ⟨rfl, rfl, rfl, rfl, rfl, rfl, rfl, rfl, rfl, trivial⟩ ?_
    refine ro_op2 rfl (ot_stb _ fc Tryz.sizeOf75 rfl rfl rfl rfl rfl (by rfl) rfl (by rfl)) rfl rfl (.inl rfl) (fun _ _ => ?_) ro_stop
    refine ro_endx (xw_blkn (xw_then ?_))
    refine cw_region ?_
    refine rw_s (qs_add rfl rfl rfl (by omega)) rfl rfl ?_
    refine rw_run tab_ok 1 [(2, _), (3, _), (6, _), (9, _), (34, _), (35, _), (36, _)] rfl ⟨rfl, rfl, rfl, rfl, rfl, rfl, rfl, trivial⟩ ?_
    refine rw_round (j + 1, A5, c5) (by show j + 1 ≤ _; omega) (by show _ - _ < _ - _; omega) ⟨rfl, rfl, rfl, rfl, rfl, rfl, rfl, trivial⟩ me
   ·obtain rfl : j = l.length := by omega
    have e2 : ((l.take l.length).map fun m => (runM fs m k).1) = ranW fs l k := by rw [List.take_length]; rfl
    rw [e2, ranW_len]
    refine cw_exit (xw_thenx (xw_thenx (xw_blk (xw_then ?_))))
    refine cw_seq ?_
    refine cw_region ?_
    refine rw_run tab_ok 1 [(6, _), (9, _), (60, _)] rfl ⟨rfl, rfl, rfl, trivial⟩ ?_
    refine rw_op (ot_call rfl rfl rfl Tryz.call112 (fun w hw => mail_own g4 l.length c' A' fs (ranW fs l k) (ranW_len fs l k) (ranW_right hW hk.1) ⟨hW.n0, hW.n4⟩ q hq w (hw.msub (.s fc (.s fc .r))))) rfl rfl (fun _ _ => ?_)
    refine rw_end ?_
    refine cw_seq ?_
    refine cw_region ?_
    refine rw_run tab_ok 3 [(6, _), (64, _)] rfl ⟨rfl, rfl, trivial⟩ ?_
    refine rw_s (qs_ldbA (vs := [_]) fc Tryz.isAgg77 Tryz.sizeOf77 rfl rfl (by rfl) rfl) rfl rfl ?_
    refine rw_op (ot_stb _ fc Tryz.sizeOf77 rfl rfl rfl rfl rfl (by rfl) rfl (by rfl)) rfl rfl (fun _ _ => ?_)
    refine rw_run tab_ok 1 [(6, _), (7, _)] rfl ⟨rfl, rfl, trivial⟩ ?_
    refine rw_end ?_
    refine cw_ret ?_
    refine xw_ret2 Tryz.results56 (rv_box (cs := [_]) fc Tryz.isAgg77 Tryz.sizeOf77 rfl) (rv_tmp rfl) ?_
    intro w hw
    refine ⟨(A', c'), trivial, ?_, ?_⟩
    ·rw [← e, hql, hp]
    ·rw [← e, hql]; exact hw.msub ms
end Go.Proofs.YtmnkaalchcomlaaGreat
-- Wd5
/- Worlds: numbers are sent. -/
namespace Go.Proofs.YtmnkaalchcomlaaGreat
open Go.RowKit
theorem bad_int {fs : List MFunc} {l : List MMach} {i z : Int} (q1 : worldE fs l = 0) (q2 : ¬ i < 0) (q3 : ¬ (l.length : Int) ≤ i) : (!isInt z) = decide (worldE fs l = 0 ∧ (i < 0 ∨ (l.length : Int) ≤ i ∨ isInt z = false)) := by
 cases hi : isInt z with
 | false => exact (decide_eq_true ⟨q1, .inr (.inr rfl)⟩).symm
 | true => exact (decide_eq_false (fun h => h.2.elim q2 fun h => h.elim q3 fun h => by cases h)).symm
set_option maxRecDepth 100000 in
set_option maxHeartbeats 4000000 in
theorem wsend_any (Ap Aw : Option Addr) (cp cw : Nat) (fs : List MFunc) (l : List MMach) (i z : Int) (hz : I64 z) (r : List MMach) (hr : sendR fs l i z = r) (w : World) (hs : Sl w (.slice Ap fs.length cp) fs) (hl : Sl w (.slice Aw l.length cw) l) (hfit : FitW l) :
  Calls Tryz.prog 57 #[.agg #[.slice Ap fs.length cp], .agg #[.slice Aw l.length cw], .int .i64 i, .int .i64 z] w fun e w' => ∃ g : Option Addr × Nat, True ∧ e = .returned (.tuple #[.agg #[.slice g.1 r.length g.2], .int .i64 (sendE fs l i z)]) ∧ Cw w.heap.size w [ROw (.slice g.1 r.length g.2) r] w' := by
 have bl := len_bd hl
 refine enter Tryz.func57 rfl Tryz.ntmps57 rfl ?_
 refine cw_seq ?_
 refine cw_region ?_
 refine rw_op (ot_box rfl rfl rfl) rfl rfl (fun g1 _ => ?_)
 refine rw_op (ot_box rfl rfl rfl) rfl rfl (fun g2 _ => ?_)
 refine rw_op (ot_alloc Tryz.zeroValue77 rfl rfl) rfl rfl (fun g3 _ => ?_)
 refine rw_run tab_ok 1 [(2, _), (3, _), (4, _), (5, _), (8, _)] rfl ⟨rfl, rfl, rfl, rfl, rfl, trivial⟩ ?_
 refine rw_end ?_
 refine cw_seq ?_
 refine cw_region ?_
 refine rw_s (qs_ldbA (vs := [_]) fc Tryz.isAgg24 Tryz.sizeOf24 rfl rfl (by rfl) rfl) rfl rfl ?_
 refine rw_s (qs_ldbA (vs := [_]) fc Tryz.isAgg77 Tryz.sizeOf77 rfl rfl (by rfl) rfl) rfl rfl ?_
 refine rw_op (ot_c0 rfl rfl rfl Tryz.call64 (fun w hw => wcheck_any Ap Aw cp cw fs l w (hw.ro hs) (hw.ro hl) hfit)) rfl rfl (fun _ _ => ?_)
 refine rw_run tab_ok 1 [(2, _), (3, _), (5, _), (8, _), (10, _)] rfl ⟨rfl, rfl, rfl, rfl, rfl, trivial⟩ ?_
 refine rw_end ?_
 refine cw_cut (fun _ : Unit => True) (fun _ => [(2, .int .i64 i), (3, .int .i64 z), (5, .pointer (some ⟨g2, 0, none⟩)), (8, .pointer (some ⟨g3, 0, none⟩)), (10, .int .i64 (sendE0 fs l i z))]) (fun _ => [RBox g1 [.slice Ap fs.length cp] 24, RBox g2 [.slice Aw l.length cw] 77, RBox g3 [.slice none 0 0] 77]) ?_ ?_
 ·refine cw_seq ?_
  refine cw_region ?_
  refine rw_run tab_ok 3 [(2, _), (3, _), (5, _), (8, _), (10, _), (17, _)] rfl ⟨rfl, rfl, rfl, rfl, rfl, rfl, trivial⟩ ?_
  refine rw_share 15 rfl [(2, _), (3, _), (5, _), (8, _), (10, _)] [(32, .bool (decide (worldE fs l = 0 ∧ (i < 0 ∨ (l.length : Int) ≤ i ∨ isInt z = false))))] ⟨rfl, rfl, rfl, rfl, rfl, trivial⟩ (fun K => ?_) ?_
  ·refine rw_split (t := 17) rfl (fun q1 => ?_) (fun q1 => ?_)
   ·have q1 := of_decide_eq_true q1
    refine rw_run tab_ok 3 [(2, _), (3, _), (5, _), (8, _), (10, _), (17, _), (20, _)] rfl ⟨rfl, rfl, rfl, rfl, rfl, rfl, rfl, trivial⟩ ?_
    refine rw_split (t := 20) rfl (fun q2 => ?_) (fun q2 => ?_)
    ·have q2 := of_decide_eq_true q2
     refine rw_run tab_ok 12 [(2, _), (3, _), (5, _), (8, _), (10, _), (32, _)] rfl ⟨rfl, rfl, rfl, rfl, rfl, rfl, trivial⟩ ?_
     refine rw_as (t := 32) (v' := .bool (decide (worldE fs l = 0 ∧ (i < 0 ∨ (l.length : Int) ≤ i ∨ isInt z = false)))) rfl (congrArg Value.bool (decide_eq_true ⟨q1, .inl q2⟩).symm) ?_
     exact rw_subK K ⟨rfl, rfl, rfl, rfl, rfl, rfl, trivial⟩
    ·have q2 := of_decide_eq_false q2
     refine rw_run tab_ok 2 [(2, _), (3, _), (5, _), (8, _), (10, _), (17, _), (20, _), (21, _), (22, _)] rfl ⟨rfl, rfl, rfl, rfl, rfl, rfl, rfl, rfl, rfl, trivial⟩ ?_
     refine rw_s (qs_ldb fc Tryz.isAgg75 rfl rfl (by rfl)) rfl rfl ?_
     refine rw_s (qs_len Tryz.underlying75 rfl rfl) rfl rfl ?_
     refine rw_run tab_ok 3 [(2, _), (3, _), (5, _), (8, _), (10, _), (17, _), (27, _)] rfl ⟨rfl, rfl, rfl, rfl, rfl, rfl, rfl, trivial⟩ ?_
     refine rw_split (t := 27) rfl (fun q3 => ?_) (fun q3 => ?_)
     ·have q3 : (l.length : Int) ≤ i := of_decide_eq_true q3
      refine rw_run tab_ok 5 [(2, _), (3, _), (5, _), (8, _), (10, _), (32, _)] rfl ⟨rfl, rfl, rfl, rfl, rfl, rfl, trivial⟩ ?_
      refine rw_as (t := 32) (v' := .bool (decide (worldE fs l = 0 ∧ (i < 0 ∨ (l.length : Int) ≤ i ∨ isInt z = false)))) rfl (congrArg Value.bool (decide_eq_true ⟨q1, .inr (.inl q3)⟩).symm) ?_
      exact rw_subK K ⟨rfl, rfl, rfl, rfl, rfl, rfl, trivial⟩
     ·have q3 : ¬ (l.length : Int) ≤ i := of_decide_eq_false q3
      refine rw_run tab_ok 1 [(2, _), (3, _), (5, _), (8, _), (10, _), (17, _), (27, _), (28, _)] rfl ⟨rfl, rfl, rfl, rfl, rfl, rfl, rfl, rfl, trivial⟩ ?_
      refine rw_op (ot_c0 rfl rfl rfl Tryz.call113 (fun w hw => cbelow (int_any z w))) rfl rfl (fun _ _ => ?_)
      refine rw_run tab_ok 3 [(2, _), (3, _), (5, _), (8, _), (10, _), (32, _)] rfl ⟨rfl, rfl, rfl, rfl, rfl, rfl, trivial⟩ ?_
      refine rw_as (t := 32) (v' := .bool (decide (worldE fs l = 0 ∧ (i < 0 ∨ (l.length : Int) ≤ i ∨ isInt z = false)))) rfl (congrArg Value.bool (bad_int q1 q2 q3)) ?_
      exact rw_subK K ⟨rfl, rfl, rfl, rfl, rfl, rfl, trivial⟩
   ·have q1 := of_decide_eq_false q1
    refine rw_run tab_ok 15 [(2, _), (3, _), (5, _), (8, _), (10, _), (32, _)] rfl ⟨rfl, rfl, rfl, rfl, rfl, rfl, trivial⟩ ?_
    refine rw_as (t := 32) (v' := .bool (decide (worldE fs l = 0 ∧ (i < 0 ∨ (l.length : Int) ≤ i ∨ isInt z = false)))) rfl (congrArg Value.bool (decide_eq_false (fun h => q1 h.1)).symm) ?_
    exact rw_subK K ⟨rfl, rfl, rfl, rfl, rfl, rfl, trivial⟩
  ·refine rw_end ?_
   refine cw_condD rfl (fun q => ?_) (fun q => ?_)
   ·refine cw_region ?_
    refine rw_run tab_ok 1 [(2, _), (3, _), (5, _), (8, _), (10, _)] rfl ⟨rfl, rfl, rfl, rfl, rfl, trivial⟩ ?_
    refine rw_as (t := 10) (v' := .int .i64 (sendE0 fs l i z)) rfl (by unfold sendE0; rw [if_pos q]) ?_
    refine rw_join () (trivial) ⟨rfl, rfl, rfl, rfl, rfl, trivial⟩ me
   ·refine cw_as (t := 10) (v' := .int .i64 (sendE0 fs l i z)) rfl (by unfold sendE0; rw [if_neg q]) ?_
    refine cw_skip ?_
    refine xw_join () (trivial) ⟨rfl, rfl, rfl, rfl, rfl, trivial⟩ me
 ·rintro ⟨⟩ _
  try dsimp only
  refine cw_seq ?_
  refine cw_seq ?_
  refine cw_region ?_
  refine rw_run tab_ok 2 [(2, _), (3, _), (5, _), (8, _), (10, _), (34, _)] rfl ⟨rfl, rfl, rfl, rfl, rfl, rfl, trivial⟩ ?_
  refine rw_end ?_
  refine cw_condN rfl (fun hp => ?_) (fun hp => ?_)
  ·have hp : ¬ sendE0 fs l i z = 0 := hp
   have he : sendE fs l i z = sendE0 fs l i z := by unfold sendE; rw [if_pos hp]
   have e : r = [] := by rw [← hr]; unfold sendR; rw [if_neg (by rw [he]; exact hp)]
   subst e
   refine cw_seq ?_
   refine cw_region ?_
   refine rw_s (qs_bst (cs := [_]) plT77 Tryz.zeroValue77 rfl rfl (by rfl)) rfl rfl ?_
   refine rw_run tab_ok 1 [(8, _), (35, _), (36, _)] rfl ⟨rfl, rfl, rfl, trivial⟩ ?_
   refine rw_op (ot_stb _ fc Tryz.sizeOf77 rfl rfl rfl rfl rfl (by rfl) rfl (by rfl)) rfl rfl (fun _ _ => ?_)
   refine rw_run tab_ok 1 [(8, _), (9, _)] rfl ⟨rfl, rfl, trivial⟩ ?_
   refine rw_end ?_
   refine cw_ret (xw_thenr ?_)
   refine xw_ret2 Tryz.results57 (rv_box (cs := [_]) fc Tryz.isAgg77 Tryz.sizeOf77 rfl) (rv_tmp rfl) ?_
   intro w hw
   exact ⟨(none, 0), trivial, by rw [he]; rfl, (Cw.nilO MMach hw).msub ms⟩
  ·have hp : sendE0 fs l i z = 0 := hp
   obtain ⟨h0, hi, hzi⟩ := send_ok0 hp
   have hW := world_ok h0
   obtain ⟨k, rfl⟩ : ∃ k : Nat, i = k := ⟨i.toNat, by omega⟩
   have hkl : k < l.length := by omega
   refine cw_skip (xw_then ?_)
   refine cw_seq ?_
   refine cw_region ?_
   refine rw_s (qs_ldbA (vs := [_]) fc Tryz.isAgg77 Tryz.sizeOf77 rfl rfl (by rfl) rfl) rfl rfl ?_
   refine rw_op (ot_c rfl rfl rfl Tryz.call111 (fun w hw => wown_any Aw cw fs l w (hw.ro hl) hW)) rfl rfl (fun ⟨gx, A, c⟩ _ => ?_)
   try dsimp only
   refine rw_run tab_ok 1 [(2, _), (3, _), (8, _), (11, _)] rfl ⟨rfl, rfl, rfl, rfl, trivial⟩ ?_
   refine rw_end ?_
   refine cw_seq ?_
   refine cw_seq ?_
   refine cw_region ?_
   refine rw_run tab_ok 3 [(8, _), (11, _), (39, _), (40, _), (41, _)] rfl ⟨rfl, rfl, rfl, rfl, rfl, trivial⟩ ?_
   refine rw_op (ot_call rfl rfl rfl Tryz.call114 (fun w hw => bring_own gx k l.length c A l z rfl hkl hz (hW.r _ (mc_mem hkl)).ib w (hw.msub (.s fc (.s fc .r))))) rfl rfl (fun _ _ => ?_)
   refine rw_run tab_ok 1 [(8, _), (11, _), (43, _)] rfl ⟨rfl, rfl, rfl, trivial⟩ ?_
   refine rw_end ?_
   refine cw_as (t := 43) (v' := .bool (decide ((mcAt l k).inn.length = 10))) rfl (by rw [Bool.not_not]) ?_
   refine cw_condD rfl (fun h10 => ?_) (fun h10 => ?_)
   ·have h10 : (mcAt l k).inn.length = 10 := h10
    have he : sendE fs l k z = 7 := by unfold sendE; rw [if_neg (fun h => h hp), if_pos (by rw [Int.toNat_natCast]; exact h10)]
    have e : r = [] := by rw [← hr]; unfold sendR; rw [if_neg (by rw [he]; decide)]
    subst e
    refine cw_seq ?_
    refine cw_region ?_
    refine rw_s (qs_bst (cs := [_]) plT77 Tryz.zeroValue77 rfl rfl (by rfl)) rfl rfl ?_
    refine rw_op (ot_stb _ fc Tryz.sizeOf77 rfl rfl rfl rfl rfl (by rfl) rfl (by rfl)) rfl rfl (fun _ _ => ?_)
    refine rw_run tab_ok 1 [(8, _), (9, _)] rfl ⟨rfl, rfl, trivial⟩ ?_
    refine rw_end ?_
    refine cw_ret (xw_thenr ?_)
    refine xw_ret2 Tryz.results57 (rv_box (cs := [_]) fc Tryz.isAgg77 Tryz.sizeOf77 rfl) (rv_tmp rfl) ?_
    intro w hw
    exact ⟨(none, 0), trivial, by rw [he]; rfl, (Cw.nilO MMach hw).msub ms⟩
   ·have h10 : ¬ (mcAt l k).inn.length = 10 := h10
    have he : sendE fs l k z = 0 := by unfold sendE; rw [if_neg (fun h => h hp), if_neg (by rw [Int.toNat_natCast]; exact h10)]
    have e : l.set k (bringM (mcAt l k) z) = r := by rw [← hr]; unfold sendR; rw [if_pos he, Int.toNat_natCast]
    have hrl : r.length = l.length := by rw [← e, List.length_set]
    rw [if_neg h10, e]
    refine cw_skip (xw_then ?_)
    refine cw_seq ?_
    refine cw_region ?_
    refine rw_run tab_ok 3 [(8, _), (47, _)] rfl ⟨rfl, rfl, trivial⟩ ?_
    refine rw_s (qs_ldbA (vs := [_]) fc Tryz.isAgg77 Tryz.sizeOf77 rfl rfl (by rfl) rfl) rfl rfl ?_
    refine rw_op (ot_stb _ fc Tryz.sizeOf77 rfl rfl rfl rfl rfl (by rfl) rfl (by rfl)) rfl rfl (fun _ _ => ?_)
    refine rw_run tab_ok 1 [(8, _), (9, _)] rfl ⟨rfl, rfl, trivial⟩ ?_
    refine rw_end ?_
    refine cw_ret ?_
    refine xw_ret2 Tryz.results57 (rv_box (cs := [_]) fc Tryz.isAgg77 Tryz.sizeOf77 rfl) (rv_tmp rfl) ?_
    intro w hw
    refine ⟨(A, c), trivial, ?_, ?_⟩
    ·rw [hrl, he]
    ·rw [hrl]; exact hw.msub ms
end Go.Proofs.YtmnkaalchcomlaaGreat
-- Wd6
/- Worlds: two worlds are the same. -/
namespace Go.Proofs.YtmnkaalchcomlaaGreat
open Go.RowKit
set_option maxRecDepth 100000 in
set_option maxHeartbeats 2000000 in
theorem sameWorld_any (A1 A2 : Option Addr) (n1 n2 c1 c2 : Nat) (l1 l2 : List MMach) (w : World) (h1 : SlB w w.heap.size (.slice A1 n1 c1) l1) (h2 : SlB w w.heap.size (.slice A2 n2 c2) l2) (e1 : l1.length = n1) (e2 : l2.length = n2) :
  Calls Tryz.prog 66 #[.agg #[.slice A1 n1 c1], .agg #[.slice A2 n2 c2]] w fun e w' => e = .returned (.bool (decide (l1 = l2))) ∧ Below w.heap.size w w' := by
 subst e1 e2
 have b1 := len_bd h1
 refine enter Tryz.func66 rfl Tryz.ntmps66 rfl ?_
 refine cw_seq ?_
 refine cw_region ?_
 refine rw_op (ot_box rfl rfl rfl) rfl rfl (fun g1 _ => ?_)
 refine rw_op (ot_box rfl rfl rfl) rfl rfl (fun g2 _ => ?_)
 refine rw_run tab_ok 1 [(2, _), (3, _)] rfl ⟨rfl, rfl, trivial⟩ ?_
 refine rw_end ?_
 refine cw_seq ?_
 refine cw_seq ?_
 refine cw_region ?_
 refine rw_run tab_ok 1 [(2, _), (3, _), (6, _)] rfl ⟨rfl, rfl, rfl, trivial⟩ ?_
 refine rw_s (qs_ldb fc Tryz.isAgg75 rfl rfl (by rfl)) rfl rfl ?_
 refine rw_s (qs_len Tryz.underlying75 rfl rfl) rfl rfl ?_
 refine rw_run tab_ok 1 [(2, _), (3, _), (8, _), (9, _)] rfl ⟨rfl, rfl, rfl, rfl, trivial⟩ ?_
 refine rw_s (qs_ldb fc Tryz.isAgg75 rfl rfl (by rfl)) rfl rfl ?_
 refine rw_s (qs_len Tryz.underlying75 rfl rfl) rfl rfl ?_
 refine rw_run tab_ok 1 [(2, _), (3, _), (12, _)] rfl ⟨rfl, rfl, rfl, trivial⟩ ?_
 refine rw_end ?_
 refine cw_condN rfl (fun e6 => ?_) (fun e6 => ?_)
 ·refine cw_seq ?_
  refine cw_region ?_
  refine rw_run tab_ok 1 [(4, _)] rfl ⟨rfl, trivial⟩ ?_
  refine rw_end ?_
  refine cw_ret (xw_thenr ?_)
  refine xw_ret1 Tryz.results66 (rv_tmp rfl) ?_
  intro w hw
  exact ⟨ret_bool (by rw [decide_eq_false (fun h => e6 (by rw [h]))]), hw.below⟩
 ·have e6 : l1.length = l2.length := by omega
  refine cw_skip (xw_then ?_)
  refine cw_seq ?_
  refine cw_seq ?_
  refine cw_region ?_
  refine rw_run tab_ok 1 [(2, _), (3, _), (5, _)] rfl ⟨rfl, rfl, rfl, trivial⟩ ?_
  refine rw_end ?_
  refine cw_block (cw_loop (fun i : Nat => i ≤ l1.length ∧ l1.take i = l2.take i) (fun i => l1.length - i) (fun i => [(2, .pointer (some ⟨g1, 0, none⟩)), (3, .pointer (some ⟨g2, 0, none⟩)), (5, .int .i64 (i : Int))]) (fun _ => [RBox g1 [.slice A1 l1.length c1] 77, RBox g2 [.slice A2 l2.length c2] 77]) 0 (⟨Nat.zero_le _, rfl⟩) ⟨rfl, rfl, rfl, trivial⟩ me ?_)
  rintro i hi'
  obtain ⟨hi, hj⟩ : i ≤ l1.length ∧ l1.take i = l2.take i := hi'
  refine cw_seq ?_
  refine cw_seq ?_
  refine cw_region ?_
  refine rw_run tab_ok 2 [(2, _), (3, _), (5, _), (13, _), (14, _)] rfl ⟨rfl, rfl, rfl, rfl, rfl, trivial⟩ ?_
  refine rw_s (qs_ldb fc Tryz.isAgg75 rfl rfl (by rfl)) rfl rfl ?_
  refine rw_s (qs_len Tryz.underlying75 rfl rfl) rfl rfl ?_
  refine rw_run tab_ok 1 [(2, _), (3, _), (5, _), (17, _)] rfl ⟨rfl, rfl, rfl, rfl, trivial⟩ ?_
  refine rw_end ?_
  refine cw_condD rfl (fun hlt => ?_) (fun hlt => ?_)
  ·have hil : i < l1.length := by omega
   have hil2 : i < l2.length := by omega
   obtain ⟨a, hm1, hc1⟩ := h1.mc hil
   obtain ⟨b, hm2, hc2⟩ := h2.mc hil2
   refine cw_skip (xw_then ?_)
   refine cw_seq ?_
   refine cw_block ?_
   refine cw_cut (fun _ : Unit => True) (fun _ => [(2, .pointer (some ⟨g1, 0, none⟩)), (3, .pointer (some ⟨g2, 0, none⟩)), (5, .int .i64 (i : Int)), (31, .bool (!decide (mcAt l1 i = mcAt l2 i)))]) (fun _ => [RBox g1 [.slice A1 l1.length c1] 77, RBox g2 [.slice A2 l2.length c2] 77]) ?_ ?_
   ·refine cw_draw (.still 0 (.still 1 (.still 2 (.still 3 (.still 4 (.still 5 (.still 6 (.still 7 (.still 8 (.still 9 (.pick 10 (.still 11 .done) .stop))))))))))) [] rfl (by kernel_rfl) (by kernel_rfl) ?_
    refine ro_run tab_ok ha 1 [(2, _), (3, _), (5, _), (20, _)] rfl ⟨rfl, rfl, rfl, rfl, trivial⟩ ?_
    refine ro_s2 rfl (qs_ldb fc Tryz.isAgg75 rfl rfl (by rfl)) rfl rfl ha ?_
    refine ro_run tab_ok ha 1 [(2, _), (3, _), (5, _), (21, _), (22, _)] rfl ⟨rfl, rfl, rfl, rfl, rfl, trivial⟩ ?_
    refine ro_s2 rfl (qs_idx (k := i) Tryz.underlying75 Tryz.sizeOf29 (.ro h1) (by omega) rfl rfl rfl) rfl rfl ha ?_
    refine ro_s2 rfl (qs_ldA (hc1 _) rfl rfl Tryz.isAgg29 Tryz.sizeOf29) rfl rfl ha ?_
    refine ro_run tab_ok ha 1 [(2, _), (3, _), (5, _), (24, _), (25, _)] rfl ⟨rfl, rfl, rfl, rfl, rfl, trivial⟩ ?_
    refine ro_s2 rfl (qs_ldb fc Tryz.isAgg75 rfl rfl (by rfl)) rfl rfl ha ?_
    refine ro_run tab_ok ha 1 [(2, _), (3, _), (5, _), (24, _), (26, _), (27, _)] rfl ⟨rfl, rfl, rfl, rfl, rfl, rfl, trivial⟩ ?_
    refine ro_s2 rfl (qs_idx (k := i) Tryz.underlying75 Tryz.sizeOf29 (.ro h2) (by omega) rfl rfl rfl) rfl rfl ha ?_
    refine ro_s2 rfl (qs_ldA (hc2 _) rfl rfl Tryz.isAgg29 Tryz.sizeOf29) rfl rfl ha ?_
    refine ro_op2 rfl (ot_c0 rfl rfl rfl Tryz.call37 (fun w hw => sameMach_any a b (mcAt l1 i) (mcAt l2 i) w (hm1.ro hw) (hm2.ro hw))) rfl rfl (.inr fun _ => ha) (fun _ _ => ?_) ro_stop
    refine ro_run tab_ok ha 1 [(2, _), (3, _), (5, _), (31, _)] rfl ⟨rfl, rfl, rfl, rfl, trivial⟩ ?_
    refine ro_endx <| xw_join () (trivial) ⟨rfl, rfl, rfl, rfl, trivial⟩ me
   ·rintro ⟨⟩ _
    try dsimp only
    refine cw_cond rfl (fun f => ?_) (fun f => ?_)
    ·refine cw_seq ?_
     refine cw_region ?_
     refine rw_run tab_ok 1 [(4, _)] rfl ⟨rfl, trivial⟩ ?_
     refine rw_end ?_
     refine cw_ret (xw_blkr (xw_thenr (xw_thenr (xw_blkr (xw_thenr ?_)))))
     refine xw_ret1 Tryz.results66 (rv_tmp rfl) ?_
     intro w hw
     exact ⟨ret_bool (by rw [decide_eq_false (fun h => not_dec f (by rw [h]))]), hw.below⟩
    ·have f := not_dec' f
     refine cw_skip (xw_blkn (xw_then ?_))
     refine cw_region ?_
     refine rw_run tab_ok 1 [(2, _), (3, _), (18, _)] rfl ⟨rfl, rfl, rfl, trivial⟩ ?_
     refine rw_s (qs_add rfl rfl rfl (by omega)) rfl rfl ?_
     refine rw_run tab_ok 1 [(2, _), (3, _), (5, _)] rfl ⟨rfl, rfl, rfl, trivial⟩ ?_
     refine rw_round (i + 1) (⟨by show i + 1 ≤ _; omega, take_eqS default hil hil2 hj f⟩) (by show _ - _ < _ - _; omega) ⟨rfl, rfl, rfl, trivial⟩ me
  ·obtain rfl : i = l1.length := by omega
   rw [List.take_length, e6, List.take_length] at hj
   refine cw_exit (xw_thenx (xw_thenx (xw_blk (xw_then ?_))))
   refine cw_seq ?_
   refine cw_region ?_
   refine rw_run tab_ok 1 [(4, _)] rfl ⟨rfl, trivial⟩ ?_
   refine rw_end ?_
   refine cw_ret ?_
   refine xw_ret1 Tryz.results66 (rv_tmp rfl) ?_
   intro w hw
   exact ⟨ret_bool (by rw [decide_eq_true hj]), hw.below⟩
end Go.Proofs.YtmnkaalchcomlaaGreat
-- Wd7
/- Worlds: what must be in any case. -/
namespace Go.Proofs.YtmnkaalchcomlaaGreat
open Go.RowKit
def mcS (i : List Int) (s : Int) : MMach := ⟨[⟨0, 0, [], []⟩], [], i, [], s, 0⟩
def pairW : List MMach := [mc1, mc1]
def wwA : List MMach := [mcS [3] 0, mcS [] 0]
def wwB : List MMach := [mcS [] 1, mcS [9] 0]
def wwC : List MMach := [mcS [81] 0, mcS [] 1]
set_option maxRecDepth 100000 in
theorem world_facts : worldE squareM pairW = 0 ∧ sendE squareM pairW 0 3 = 0 ∧ sendR squareM pairW 0 3 = wwA ∧ turnE squareM wwA 50 = 0 ∧ turnR squareM wwA 50 = wwB ∧ turnE squareM wwB 50 = 0 ∧ turnR squareM wwB 50 = wwC ∧ worldE squareM wwC = 0 ∧ mailR squareM wwC = (wwC, 0) := by
 refine ⟨?_, ?_, ?_, ?_, ?_, ?_, ?_, ?_, ?_⟩ <;> kernel_rfl
theorem fit_two {a b : MMach} (h1 : a.frames = mc1.frames) (h2 : b.frames = mc1.frames) : FitW [a, b] := by
 refine ⟨by show 2 * 112 ≤ _; decide, fun m hm => ?_⟩
 have : m = a ∨ m = b := by simpa using hm
 rcases this with rfl | rfl
 ·rw [h1]; exact fit_mc1
 ·rw [h2]; exact fit_mc1
theorem fit_pair : FitW pairW := fit_two rfl rfl
theorem fit_wA : FitW wwA := fit_two rfl rfl
theorem fit_wB : FitW wwB := fit_two rfl rfl
theorem fit_wC : FitW wwC := fit_two rfl rfl
theorem len_wA : wwA.length = 2 := rfl
theorem len_wB : wwB.length = 2 := rfl
theorem len_wC : wwC.length = 2 := rfl
theorem len_pair : pairW.length = 2 := rfl
theorem wB_one : mcAt wwB 1 = mcS [9] 0 := rfl
theorem wC_zero : mcAt wwC 0 = mcS [81] 0 := rfl
section
variable {A Aw : Option Addr} {c cw : Nat} {w : World}
theorem two_check (A Aw : Option Addr) (c cw : Nat) (w : World) (hs : Sl w (.slice A 2 c) squareM) (hl : Sl w (.slice Aw 2 cw) pairW) :
  Calls Tryz.prog 64 #[.agg #[.slice A 2 c], .agg #[.slice Aw 2 cw]] w fun e w' => e = .returned (.int .i64 0) ∧ Below w.heap.size w w' := by
 have := wcheck_any A Aw c cw squareM pairW w hs hl fit_pair
 rw [world_facts.1] at this
 exact this
theorem two_send (A Aw : Option Addr) (c cw : Nat) (w : World) (hs : Sl w (.slice A 2 c) squareM) (hl : Sl w (.slice Aw 2 cw) pairW) :
  Calls Tryz.prog 57 #[.agg #[.slice A 2 c], .agg #[.slice Aw 2 cw], .int .i64 0, .int .i64 3] w fun e w' => ∃ g : Option Addr × Nat, True ∧ e = .returned (.tuple #[.agg #[.slice g.1 2 g.2], .int .i64 0]) ∧ Cw w.heap.size w [ROw (.slice g.1 2 g.2) wwA] w' := by
 have := wsend_any A Aw c cw squareM pairW 0 3 (by decide) wwA world_facts.2.2.1 w hs hl fit_pair
 rw [world_facts.2.1] at this
 exact this
theorem two_turn {l r : List MMach} (h2 : l.length = 2) (h3 : r.length = 2) (hf : FitW l) (he : turnE squareM l 50 = 0) (hr : turnR squareM l 50 = r) (A Aw : Option Addr) (c cw : Nat) (w : World) (hs : Sl w (.slice A 2 c) squareM) (hl : Sl w (.slice Aw 2 cw) l) :
  Calls Tryz.prog 56 #[.agg #[.slice A 2 c], .agg #[.slice Aw 2 cw], .int .i64 50] w fun e w' => ∃ g : Option Addr × Nat, True ∧ e = .returned (.tuple #[.agg #[.slice g.1 2 g.2], .int .i64 0]) ∧ Cw w.heap.size w [ROw (.slice g.1 2 g.2) r] w' := by
 have := wturn_any A Aw c cw squareM l 50 r hr w hs (by rw [h2]; exact hl) hf
 rw [he, h2, h3] at this
 exact this
theorem two_mail (A Aw : Option Addr) (c cw : Nat) (w : World) (hs : Sl w (.slice A 2 c) squareM) (hl : Sl w (.slice Aw 2 cw) wwC) :
  Calls Tryz.prog 55 #[.agg #[.slice A 2 c], .agg #[.slice Aw 2 cw]] w fun e w' => ∃ g : Option Addr × Nat, True ∧ e = .returned (.tuple #[.agg #[.slice g.1 2 g.2], .int .i64 0, .int .i64 0]) ∧ Cw w.heap.size w [ROw (.slice g.1 2 g.2) wwC] w' := by
 obtain ⟨_, _, _, _, _, _, _, f8, f9⟩ := world_facts
 have := wmail_any A Aw c cw squareM wwC (wwC, 0) f9 w hs hl fit_wC
 rw [f8] at this
 exact this
end
set_option maxRecDepth 100000 in
set_option maxHeartbeats 4000000 in
theorem pair_any (w : World) : Calls Tryz.prog 116 #[] w fun e w' => ∃ g : Option Addr × Nat, True ∧ e = .returned (.agg #[.slice g.1 2 g.2]) ∧ Cw w.heap.size w [ROw (.slice g.1 2 g.2) pairW] w' := by
 obtain ⟨f1, f2, f3, f4, f5, f6, f7, f8, f9⟩ := mach_facts
 refine enter Tryz.func116 rfl Tryz.ntmps116 rfl ?_
 refine cw_seq ?_
 refine cw_region ?_
 refine rw_op (ot_alloc Tryz.zeroValue77 rfl rfl) rfl rfl (fun g1 _ => ?_)
 refine rw_end ?_
 refine cw_seq ?_
 refine cw_region ?_
 refine rw_op (ot_c rfl rfl rfl Tryz.call95 (fun w hw => square_any w)) rfl rfl (fun gp _ => ?_)
 refine rw_op (ot_c rfl rfl rfl Tryz.call31 (fun w hw => begun_start f6 f7 rfl _ _ w (SF.at_ (SF.own rfl fc) hw))) rfl rfl (fun a1 _ => ?_)
 refine rw_run tab_ok 3 [(0, _), (8, _), (9, _)] rfl ⟨rfl, rfl, rfl, trivial⟩ ?_
 refine rw_op (ot_alloc Tryz.zeroValue29 rfl rfl) rfl rfl (fun g2 _ => ?_)
 refine rw_op (ot_stb _ fc Tryz.sizeOf29 rfl rfl rfl rfl rfl (by rfl) rfl (by rfl)) rfl rfl (fun _ _ => ?_)
 refine rw_run tab_ok 1 [(0, _), (1, _)] rfl ⟨rfl, rfl, trivial⟩ ?_
 refine rw_end ?_
 refine cw_seq ?_
 refine cw_region ?_
 refine rw_op (ot_c rfl rfl rfl Tryz.call95 (fun w hw => square_any w)) rfl rfl (fun gq _ => ?_)
 refine rw_op (ot_c rfl rfl rfl Tryz.call31 (fun w hw => begun_start f6 f7 rfl _ _ w (SF.at_ (SF.own rfl fc) hw))) rfl rfl (fun a2 _ => ?_)
 refine rw_run tab_ok 3 [(0, _), (1, _), (13, _), (14, _)] rfl ⟨rfl, rfl, rfl, rfl, trivial⟩ ?_
 refine rw_op (ot_alloc Tryz.zeroValue29 rfl rfl) rfl rfl (fun g3 _ => ?_)
 refine rw_op (ot_stb _ fc Tryz.sizeOf29 rfl rfl rfl rfl rfl (by rfl) rfl (by rfl)) rfl rfl (fun _ _ => ?_)
 refine rw_run tab_ok 1 [(0, _), (1, _), (3, _)] rfl ⟨rfl, rfl, rfl, trivial⟩ ?_
 refine rw_end ?_
 refine cw_seq ?_
 refine cw_region ?_
 refine rw_s (qs_ldbA (vs := [_, _, _, _, _, _]) fc Tryz.isAgg29 Tryz.sizeOf29 rfl rfl (by rfl) rfl) rfl rfl ?_
 refine rw_s (qs_ldbA (vs := [_, _, _, _, _, _]) fc Tryz.isAgg29 Tryz.sizeOf29 rfl rfl (by rfl) rfl) rfl rfl ?_
 refine rw_op (ot_bsl (cs := [_, _, _, _, _, _, _, _, _, _, _, _]) Tryz.underlying75 Tryz.sizeOf29 Tryz.zeroValue29 rfl rfl rfl rfl rfl) rfl rfl (fun g4 _ => ?_)
 refine rw_s (qs_bst (cs := [_]) plT77 Tryz.zeroValue77 rfl rfl (by rfl)) rfl rfl ?_
 refine rw_op (ot_stb _ fc Tryz.sizeOf77 rfl rfl rfl rfl rfl (by rfl) rfl (by rfl)) rfl rfl (fun _ _ => ?_)
 refine rw_end ?_
 refine cw_ret ?_
 refine xw_ret1 Tryz.results116 (rv_box (cs := [_]) fc Tryz.isAgg77 Tryz.sizeOf77 rfl) ?_
 intro w hw
 refine ⟨(some ⟨g4, 0, none⟩, 2), trivial, rfl, ?_⟩
 refine row_els (H := []) (xs := pairW) (Els.cons (Hel := [ROw (.slice a1.Af 1 a1.cf) mc1.frames, ROw (.slice a1.Ab 0 a1.cb) mc1.blocks, ROw (.slice a1.Ai 0 a1.ci) mc1.inn, ROw (.slice a1.Ao 0 a1.co) mc1.out]) (cs := [_, _, _, _, _, _]) (hel_mc (m := mc1) (by decide))
  (Els.cons (Hel := [ROw (.slice a2.Af 1 a2.cf) mc1.frames, ROw (.slice a2.Ab 0 a2.cb) mc1.blocks, ROw (.slice a2.Ai 0 a2.ci) mc1.inn, ROw (.slice a2.Ao 0 a2.co) mc1.out]) (cs := [_, _, _, _, _, _]) (hel_mc (m := mc1) (by decide)) Els.nil_)) rfl (by decide) ?_
 exact hw.msub ms
theorem one_same (A1 A2 : Option Addr) (c1 : Nat) (n : Int) (w : World) (h1 : Sl w (.slice A1 1 c1) [n]) (h2 : Sl w (.slice A2 1 1) [n]) : Calls Tryz.prog 38 #[.slice A1 1 c1, .slice A2 1 1] w fun e w' => e = .returned (.bool true) ∧ Below w.heap.size w w' := by
 have := sameInts_w A1 A2 c1 1 [n] [n] w h1 h2
 rw [decide_eq_true rfl] at this
 exact this
attribute [irreducible] wwA wwB wwC pairW
set_option maxRecDepth 100000 in
set_option maxHeartbeats 400000 in
theorem worldBegun_any (w : World) : Calls Tryz.prog 63 #[] w fun e w' => e = .returned (.bool true) ∧ Below w.heap.size w w' := by
 obtain ⟨f1, f2, f3, f4, f5, f6, f7, f8, f9⟩ := world_facts
 refine enter Tryz.func63 rfl Tryz.ntmps63 rfl ?_
 refine cw_seq ?_
 refine cw_region ?_
 refine rw_run tab_ok 1 [] rfl trivial ?_
 refine rw_end ?_
 refine cw_seq ?_
 refine cw_region ?_
 refine rw_op (ot_c rfl rfl rfl Tryz.call95 (fun w hw => square_any w)) rfl rfl (fun gp _ => ?_)
 refine rw_op (ot_c rfl rfl rfl Tryz.call116 (fun w hw => pair_any w)) rfl rfl (fun ⟨P1, p1⟩ _ => ?_)
 try dsimp only
 refine rw_op (ot_c rfl rfl rfl Tryz.call57 (fun w hw => two_send _ P1 _ p1 w (SF.at_ (SF.own rfl fc) hw) (SF.at_ (SF.own (xs := pairW) len_pair fc) hw))) rfl rfl (fun ⟨A1, a1⟩ _ => ?_)
 try dsimp only
 refine rw_run tab_ok 3 [(14, _), (15, _)] rfl ⟨rfl, rfl, trivial⟩ ?_
 refine rw_op (ot_alloc Tryz.zeroValue77 rfl rfl) rfl rfl (fun g1 _ => ?_)
 refine rw_op (ot_stb _ fc Tryz.sizeOf77 rfl rfl rfl rfl rfl (by rfl) rfl (by rfl)) rfl rfl (fun _ _ => ?_)
 refine rw_run tab_ok 1 [(1, _), (2, _)] rfl ⟨rfl, rfl, trivial⟩ ?_
 refine rw_end ?_
 refine cw_cut (fun _ : Nat × Option Addr × Nat => True) (fun g => [(2, .int .i64 0), (3, .pointer (some ⟨g.1, 0, none⟩)), (4, .int .i64 0)]) (fun g => [RBox g.1 [.slice g.2.1 2 g.2.2] 77, ROw (.slice g.2.1 2 g.2.2) wwB]) ?_ ?_
 ·refine cw_draw (.still 1 (.pick 0 (.pick 2 (.calm 3 (.calm 4 (.calm 5 (.pick 6 (.pick 7 (.calm 8 .done) .stop) .stop)))) (.pick 6 (.pick 2 (.calm 3 (.calm 4 (.calm 5 (.pick 7 (.calm 8 .done) .stop)))) .stop) .stop)) (.pick 6 (.pick 0 (.pick 2 (.calm 3 (.calm 4 (.calm 5 (.pick 7 (.calm 8 .done) .stop)))) .stop) .stop) .stop))) [2, 3, 4, 5, 7, 8] rfl (by kernel_rfl) (by kernel_rfl) ?_
  refine ro_s2 rfl (qs_ldbA (vs := [_]) fc Tryz.isAgg77 Tryz.sizeOf77 rfl rfl (by rfl) rfl) rfl rfl ha ?_
  refine ro_op2 rfl (ot_c rfl rfl rfl Tryz.call95 (fun w hw => square_any w)) rfl rfl (.inr fun _ => ha) (fun gq _ => ?_) ?_
  ·refine ro_op2 rfl (ot_c rfl rfl rfl Tryz.call56 (fun w hw => two_turn (l := wwA) (r := wwB) len_wA len_wB fit_wA f4 f5 _ A1 _ a1 w (SF.at_ (SF.own rfl fc) hw) (SF.at_ (SF.own (xs := wwA) len_wA fc) hw))) rfl rfl (.inl rfl) (fun ⟨A2, a2⟩ _ => ?_) ?_
   ·try dsimp only
    refine ro_runC tab_ok 3 [(2, _), (20, _), (21, _)] rfl ⟨rfl, rfl, rfl, trivial⟩ ?_
    refine ro_op2 rfl (ot_alloc Tryz.zeroValue77 rfl rfl) rfl rfl (.inr fun _ => ha) (fun q _ => ?_) ro_stop
    refine ro_op2 rfl (ot_stb [_] fc Tryz.sizeOf77 rfl rfl rfl rfl rfl (by rfl) rfl (by rfl)) rfl rfl (.inl rfl) (fun _ _ => ?_) ro_stop
    refine ro_runC tab_ok 1 [(2, _), (3, _), (4, _)] rfl ⟨rfl, rfl, rfl, trivial⟩ ?_
    refine ro_endx <| xw_join (q, A2, a2) (trivial) ⟨rfl, rfl, rfl, trivial⟩ (fun _ h => h.msub ms)
   ·refine ro_op2 rfl (ot_alloc Tryz.zeroValue77 rfl rfl) rfl rfl (.inr fun _ => ha) (fun q _ => ?_) ro_stop
    refine ro_op2 rfl (ot_c rfl rfl rfl Tryz.call56 (fun w hw => two_turn (l := wwA) (r := wwB) len_wA len_wB fit_wA f4 f5 _ A1 _ a1 w (SF.at_ (SF.own rfl fc) hw) (SF.at_ (SF.own (xs := wwA) len_wA fc) hw))) rfl rfl (.inl rfl) (fun ⟨A2, a2⟩ _ => ?_) ro_stop
    try dsimp only
    refine ro_runC tab_ok 3 [(2, _), (3, _), (20, _), (21, _)] rfl ⟨rfl, rfl, rfl, rfl, trivial⟩ ?_
    refine ro_op2 rfl (ot_stb [_] fc Tryz.sizeOf77 rfl rfl rfl rfl rfl (by rfl) rfl (by rfl)) rfl rfl (.inl rfl) (fun _ _ => ?_) ro_stop
    refine ro_runC tab_ok 1 [(2, _), (3, _), (4, _)] rfl ⟨rfl, rfl, rfl, trivial⟩ ?_
    refine ro_endx <| xw_join (q, A2, a2) (trivial) ⟨rfl, rfl, rfl, trivial⟩ (fun _ h => h.msub ms)
  ·refine ro_op2 rfl (ot_alloc Tryz.zeroValue77 rfl rfl) rfl rfl (.inr fun _ => ha) (fun q _ => ?_) ro_stop
   refine ro_op2 rfl (ot_c rfl rfl rfl Tryz.call95 (fun w hw => square_any w)) rfl rfl (.inr fun _ => ha) (fun gq _ => ?_) ro_stop
   refine ro_op2 rfl (ot_c rfl rfl rfl Tryz.call56 (fun w hw => two_turn (l := wwA) (r := wwB) len_wA len_wB fit_wA f4 f5 _ A1 _ a1 w (SF.at_ (SF.own rfl fc) hw) (SF.at_ (SF.own (xs := wwA) len_wA fc) hw))) rfl rfl (.inl rfl) (fun ⟨A2, a2⟩ _ => ?_) ro_stop
   try dsimp only
   refine ro_runC tab_ok 3 [(2, _), (3, _), (20, _), (21, _)] rfl ⟨rfl, rfl, rfl, rfl, trivial⟩ ?_
   refine ro_op2 rfl (ot_stb [_] fc Tryz.sizeOf77 rfl rfl rfl rfl rfl (by rfl) rfl (by rfl)) rfl rfl (.inl rfl) (fun _ _ => ?_) ro_stop
   refine ro_runC tab_ok 1 [(2, _), (3, _), (4, _)] rfl ⟨rfl, rfl, rfl, trivial⟩ ?_
   refine ro_endx <| xw_join (q, A2, a2) (trivial) ⟨rfl, rfl, rfl, trivial⟩ (fun _ h => h.msub ms)
 ·rintro ⟨gb, A2, a2⟩ _
  try dsimp only
  refine cw_cut (fun _ : Nat × Option Addr × Nat => True) (fun g => [(2, .int .i64 0), (3, .pointer (some ⟨gb, 0, none⟩)), (4, .int .i64 0), (5, .pointer (some ⟨g.1, 0, none⟩)), (6, .int .i64 0)]) (fun g => [RBox g.1 [.slice g.2.1 2 g.2.2] 77, ROw (.slice g.2.1 2 g.2.2) wwC, RBox gb [.slice A2 2 a2] 77, ROw (.slice A2 2 a2) wwB]) ?_ ?_
  ·refine cw_draw (.still 1 (.pick 0 (.pick 2 (.calm 3 (.calm 4 (.calm 5 (.pick 6 (.pick 7 (.calm 8 .done) .stop) .stop)))) (.pick 6 (.pick 2 (.calm 3 (.calm 4 (.calm 5 (.pick 7 (.calm 8 .done) .stop)))) .stop) .stop)) (.pick 6 (.pick 0 (.pick 2 (.calm 3 (.calm 4 (.calm 5 (.pick 7 (.calm 8 .done) .stop)))) .stop) .stop) .stop))) [2, 3, 4, 5, 7, 8] rfl (by kernel_rfl) (by kernel_rfl) ?_
   refine ro_s2 rfl (qs_ldbA (vs := [_]) fc Tryz.isAgg77 Tryz.sizeOf77 rfl rfl (by rfl) rfl) rfl rfl ha ?_
   refine ro_op2 rfl (ot_c rfl rfl rfl Tryz.call95 (fun w hw => square_any w)) rfl rfl (.inr fun _ => ha) (fun gq _ => ?_) ?_
   ·refine ro_op2 rfl (ot_c rfl rfl rfl Tryz.call56 (fun w hw => two_turn (l := wwB) (r := wwC) len_wB len_wC fit_wB f6 f7 _ A2 _ a2 w (SF.at_ (SF.own rfl fc) hw) (SF.at_ (SF.own (xs := wwB) len_wB fc) hw))) rfl rfl (.inl rfl) (fun ⟨A3, a3⟩ _ => ?_) ?_
    ·try dsimp only
     refine ro_runC tab_ok 3 [(2, _), (3, _), (4, _), (26, _), (27, _)] rfl ⟨rfl, rfl, rfl, rfl, rfl, trivial⟩ ?_
     refine ro_op2 rfl (ot_alloc Tryz.zeroValue77 rfl rfl) rfl rfl (.inr fun _ => ha) (fun q _ => ?_) ro_stop
     refine ro_op2 rfl (ot_stb [_] fc Tryz.sizeOf77 rfl rfl rfl rfl rfl (by rfl) rfl (by rfl)) rfl rfl (.inl rfl) (fun _ _ => ?_) ro_stop
     refine ro_runC tab_ok 1 [(2, _), (3, _), (4, _), (5, _), (6, _)] rfl ⟨rfl, rfl, rfl, rfl, rfl, trivial⟩ ?_
     refine ro_endx <| xw_join (q, A3, a3) (trivial) ⟨rfl, rfl, rfl, rfl, rfl, trivial⟩ (fun _ h => h.msub ms)
    ·refine ro_op2 rfl (ot_alloc Tryz.zeroValue77 rfl rfl) rfl rfl (.inr fun _ => ha) (fun q _ => ?_) ro_stop
     refine ro_op2 rfl (ot_c rfl rfl rfl Tryz.call56 (fun w hw => two_turn (l := wwB) (r := wwC) len_wB len_wC fit_wB f6 f7 _ A2 _ a2 w (SF.at_ (SF.own rfl fc) hw) (SF.at_ (SF.own (xs := wwB) len_wB fc) hw))) rfl rfl (.inl rfl) (fun ⟨A3, a3⟩ _ => ?_) ro_stop
     try dsimp only
     refine ro_runC tab_ok 3 [(2, _), (3, _), (4, _), (5, _), (26, _), (27, _)] rfl ⟨rfl, rfl, rfl, rfl, rfl, rfl, trivial⟩ ?_
     refine ro_op2 rfl (ot_stb [_] fc Tryz.sizeOf77 rfl rfl rfl rfl rfl (by rfl) rfl (by rfl)) rfl rfl (.inl rfl) (fun _ _ => ?_) ro_stop
     refine ro_runC tab_ok 1 [(2, _), (3, _), (4, _), (5, _), (6, _)] rfl ⟨rfl, rfl, rfl, rfl, rfl, trivial⟩ ?_
     refine ro_endx <| xw_join (q, A3, a3) (trivial) ⟨rfl, rfl, rfl, rfl, rfl, trivial⟩ (fun _ h => h.msub ms)
   ·refine ro_op2 rfl (ot_alloc Tryz.zeroValue77 rfl rfl) rfl rfl (.inr fun _ => ha) (fun q _ => ?_) ro_stop
    refine ro_op2 rfl (ot_c rfl rfl rfl Tryz.call95 (fun w hw => square_any w)) rfl rfl (.inr fun _ => ha) (fun gq _ => ?_) ro_stop
    refine ro_op2 rfl (ot_c rfl rfl rfl Tryz.call56 (fun w hw => two_turn (l := wwB) (r := wwC) len_wB len_wC fit_wB f6 f7 _ A2 _ a2 w (SF.at_ (SF.own rfl fc) hw) (SF.at_ (SF.own (xs := wwB) len_wB fc) hw))) rfl rfl (.inl rfl) (fun ⟨A3, a3⟩ _ => ?_) ro_stop
    try dsimp only
    refine ro_runC tab_ok 3 [(2, _), (3, _), (4, _), (5, _), (26, _), (27, _)] rfl ⟨rfl, rfl, rfl, rfl, rfl, rfl, trivial⟩ ?_
    refine ro_op2 rfl (ot_stb [_] fc Tryz.sizeOf77 rfl rfl rfl rfl rfl (by rfl) rfl (by rfl)) rfl rfl (.inl rfl) (fun _ _ => ?_) ro_stop
    refine ro_runC tab_ok 1 [(2, _), (3, _), (4, _), (5, _), (6, _)] rfl ⟨rfl, rfl, rfl, rfl, rfl, trivial⟩ ?_
    refine ro_endx <| xw_join (q, A3, a3) (trivial) ⟨rfl, rfl, rfl, rfl, rfl, trivial⟩ (fun _ h => h.msub ms)
  ·rintro ⟨gc, A3, a3⟩ _
   try dsimp only
   refine cw_cut (fun _ : Nat × Option Addr × Nat => True) (fun g => [(2, .int .i64 0), (3, .pointer (some ⟨gb, 0, none⟩)), (4, .int .i64 0), (5, .pointer (some ⟨gc, 0, none⟩)), (6, .int .i64 0), (7, .pointer (some ⟨g.1, 0, none⟩)), (8, .int .i64 0), (9, .int .i64 0)]) (fun g => [RBox g.1 [.slice g.2.1 2 g.2.2] 77, ROw (.slice g.2.1 2 g.2.2) wwC, RBox gc [.slice A3 2 a3] 77, ROw (.slice A3 2 a3) wwC, RBox gb [.slice A2 2 a2] 77, ROw (.slice A2 2 a2) wwB]) ?_ ?_
   ·refine cw_draw (.still 1 (.pick 0 (.pick 2 (.calm 3 (.calm 4 (.calm 5 (.calm 6 (.pick 7 (.pick 8 (.calm 9 (.calm 10 .done)) .stop) .stop))))) (.pick 7 (.pick 2 (.calm 3 (.calm 4 (.calm 5 (.calm 6 (.pick 8 (.calm 9 (.calm 10 .done)) .stop))))) .stop) .stop)) (.pick 7 (.pick 0 (.pick 2 (.calm 3 (.calm 4 (.calm 5 (.calm 6 (.pick 8 (.calm 9 (.calm 10 .done)) .stop))))) .stop) .stop) .stop))) [2, 3, 4, 5, 6, 8, 9, 10] rfl (by kernel_rfl) (by kernel_rfl) ?_
    refine ro_s2 rfl (qs_ldbA (vs := [_]) fc Tryz.isAgg77 Tryz.sizeOf77 rfl rfl (by rfl) rfl) rfl rfl ha ?_
    refine ro_op2 rfl (ot_c rfl rfl rfl Tryz.call95 (fun w hw => square_any w)) rfl rfl (.inr fun _ => ha) (fun gq _ => ?_) ?_
    ·refine ro_op2 rfl (ot_c rfl rfl rfl Tryz.call55 (fun w hw => two_mail _ A3 _ a3 w (SF.at_ (SF.own rfl fc) hw) (SF.at_ (SF.own (xs := wwC) len_wC fc) hw))) rfl rfl (.inl rfl) (fun ⟨A4, a4⟩ _ => ?_) ?_
     ·try dsimp only
      refine ro_runC tab_ok 4 [(2, _), (3, _), (4, _), (5, _), (6, _), (32, _), (33, _), (34, _)] rfl ⟨rfl, rfl, rfl, rfl, rfl, rfl, rfl, rfl, trivial⟩ ?_
      refine ro_op2 rfl (ot_alloc Tryz.zeroValue77 rfl rfl) rfl rfl (.inr fun _ => ha) (fun q _ => ?_) ro_stop
      refine ro_op2 rfl (ot_stb [_] fc Tryz.sizeOf77 rfl rfl rfl rfl rfl (by rfl) rfl (by rfl)) rfl rfl (.inl rfl) (fun _ _ => ?_) ro_stop
      refine ro_runC tab_ok 2 [(2, _), (3, _), (4, _), (5, _), (6, _), (7, _), (8, _), (9, _)] rfl ⟨rfl, rfl, rfl, rfl, rfl, rfl, rfl, rfl, trivial⟩ ?_
      refine ro_endx <| xw_join (q, A4, a4) (trivial) ⟨rfl, rfl, rfl, rfl, rfl, rfl, rfl, rfl, trivial⟩ (fun _ h => h.msub ms)
     ·refine ro_op2 rfl (ot_alloc Tryz.zeroValue77 rfl rfl) rfl rfl (.inr fun _ => ha) (fun q _ => ?_) ro_stop
      refine ro_op2 rfl (ot_c rfl rfl rfl Tryz.call55 (fun w hw => two_mail _ A3 _ a3 w (SF.at_ (SF.own rfl fc) hw) (SF.at_ (SF.own (xs := wwC) len_wC fc) hw))) rfl rfl (.inl rfl) (fun ⟨A4, a4⟩ _ => ?_) ro_stop
      try dsimp only
      refine ro_runC tab_ok 4 [(2, _), (3, _), (4, _), (5, _), (6, _), (7, _), (32, _), (33, _), (34, _)] rfl ⟨rfl, rfl, rfl, rfl, rfl, rfl, rfl, rfl, rfl, trivial⟩ ?_
      refine ro_op2 rfl (ot_stb [_] fc Tryz.sizeOf77 rfl rfl rfl rfl rfl (by rfl) rfl (by rfl)) rfl rfl (.inl rfl) (fun _ _ => ?_) ro_stop
      refine ro_runC tab_ok 2 [(2, _), (3, _), (4, _), (5, _), (6, _), (7, _), (8, _), (9, _)] rfl ⟨rfl, rfl, rfl, rfl, rfl, rfl, rfl, rfl, trivial⟩ ?_
      refine ro_endx <| xw_join (q, A4, a4) (trivial) ⟨rfl, rfl, rfl, rfl, rfl, rfl, rfl, rfl, trivial⟩ (fun _ h => h.msub ms)
    ·refine ro_op2 rfl (ot_alloc Tryz.zeroValue77 rfl rfl) rfl rfl (.inr fun _ => ha) (fun q _ => ?_) ro_stop
     refine ro_op2 rfl (ot_c rfl rfl rfl Tryz.call95 (fun w hw => square_any w)) rfl rfl (.inr fun _ => ha) (fun gq _ => ?_) ro_stop
     refine ro_op2 rfl (ot_c rfl rfl rfl Tryz.call55 (fun w hw => two_mail _ A3 _ a3 w (SF.at_ (SF.own rfl fc) hw) (SF.at_ (SF.own (xs := wwC) len_wC fc) hw))) rfl rfl (.inl rfl) (fun ⟨A4, a4⟩ _ => ?_) ro_stop
     try dsimp only
     refine ro_runC tab_ok 4 [(2, _), (3, _), (4, _), (5, _), (6, _), (7, _), (32, _), (33, _), (34, _)] rfl ⟨rfl, rfl, rfl, rfl, rfl, rfl, rfl, rfl, rfl, trivial⟩ ?_
     refine ro_op2 rfl (ot_stb [_] fc Tryz.sizeOf77 rfl rfl rfl rfl rfl (by rfl) rfl (by rfl)) rfl rfl (.inl rfl) (fun _ _ => ?_) ro_stop
     refine ro_runC tab_ok 2 [(2, _), (3, _), (4, _), (5, _), (6, _), (7, _), (8, _), (9, _)] rfl ⟨rfl, rfl, rfl, rfl, rfl, rfl, rfl, rfl, trivial⟩ ?_
     refine ro_endx <| xw_join (q, A4, a4) (trivial) ⟨rfl, rfl, rfl, rfl, rfl, rfl, rfl, rfl, trivial⟩ (fun _ h => h.msub ms)
   ·rintro ⟨gd, A4, a4⟩ _
    try dsimp only
    refine cw_rdW (v := .slice A2 2 a2) (L := wwB) fc fun X hsX hX => ?_
    refine cw_rdW (v := .slice A3 2 a3) (L := wwC) fc fun Y hsY hY => ?_
    obtain ⟨b1, e1, _, hX1⟩ := hX.el 1 (by rw [len_wB]; decide)
    obtain ⟨c0, e2, _, hY1⟩ := hY.el 0 (by rw [len_wC]; decide)
    rw [wB_one] at e1 hX1
    rw [wC_zero] at e2 hY1
    have lX := hX.len.trans len_wB
    have lY := hY.len.trans len_wC
    have R1 : ∀ H H', Foc H (ROw (.slice A2 2 a2) hsX) H' → ∀ w1, Cw w.heap.size w H w1 → w1.cell? ⟨ab A2, ao A2 + 1 * 6 + 2, none⟩ = some (.slice b1.Ai 1 b1.ci) := fun _ _ f w1 hw => (SF.hmc (SF.own (α := HMach) (m := 2) lX f) (k := 1) (by decide) e1) w1 hw 2 _ rfl
    have R2 : ∀ H H', Foc H (ROw (.slice A3 2 a3) hsY) H' → ∀ w1, Cw w.heap.size w H w1 → w1.cell? ⟨ab A3, ao A3 + 0 * 6 + 2, none⟩ = some (.slice c0.Ai 1 c0.ci) := fun _ _ f w1 hw => (SF.hmc (SF.own (α := HMach) (m := 2) lY f) (k := 0) (by decide) e2) w1 hw 2 _ rfl
    have T1 : ∀ H H', Foc H X H' → SF w.heap.size w H b1.Ai 1 b1.ci [(9 : Int)] := fun _ _ f => (hX1 _ _ f).2.2.1
    have T2 : ∀ H H', Foc H Y H' → SF w.heap.size w H c0.Ai 1 c0.ci [(81 : Int)] := fun _ _ f => (hY1 _ _ f).2.2.1
    clear hX1 hY1 e1 e2
    refine cw_seq ?_
    refine cw_seq ?_
    refine cw_region ?_
    refine rw_op (ot_c rfl rfl rfl Tryz.call95 (fun w hw => square_any w)) rfl rfl (fun gs _ => ?_)
    refine rw_op (ot_c rfl rfl rfl Tryz.call116 (fun w hw => pair_any w)) rfl rfl (fun ⟨P5, p5⟩ _ => ?_)
    try dsimp only
    refine rw_op (ot_c0 rfl rfl rfl Tryz.call64 (fun w hw => two_check _ P5 _ p5 w (SF.at_ (SF.own rfl fc) hw) (SF.at_ (SF.own (xs := pairW) len_pair fc) hw))) rfl rfl (fun _ _ => ?_)
    refine rw_run tab_ok 2 [(2, _), (3, _), (4, _), (5, _), (6, _), (7, _), (8, _), (9, _), (39, _)] rfl ⟨rfl, rfl, rfl, rfl, rfl, rfl, rfl, rfl, rfl, trivial⟩ ?_
    refine rw_as (t := 39) (v' := .bool false) rfl (rfl) ?_
    refine rw_run tab_ok 4 [(3, _), (4, _), (5, _), (6, _), (7, _), (8, _), (9, _), (43, _)] rfl ⟨rfl, rfl, rfl, rfl, rfl, rfl, rfl, rfl, trivial⟩ ?_
    refine rw_as (t := 43) (v' := .bool false) rfl (rfl) ?_
    refine rw_run tab_ok 4 [(3, _), (5, _), (6, _), (7, _), (8, _), (9, _), (47, _)] rfl ⟨rfl, rfl, rfl, rfl, rfl, rfl, rfl, trivial⟩ ?_
    refine rw_as (t := 47) (v' := .bool false) rfl (rfl) ?_
    refine rw_run tab_ok 4 [(3, _), (5, _), (7, _), (8, _), (9, _), (51, _)] rfl ⟨rfl, rfl, rfl, rfl, rfl, rfl, trivial⟩ ?_
    refine rw_as (t := 51) (v' := .bool false) rfl (rfl) ?_
    refine rw_run tab_ok 4 [(3, _), (5, _), (7, _), (8, _), (55, _)] rfl ⟨rfl, rfl, rfl, rfl, rfl, trivial⟩ ?_
    refine rw_as (t := 55) (v' := .bool false) rfl (rfl) ?_
    refine rw_run tab_ok 1 [(3, _), (5, _), (7, _), (8, _), (55, _), (56, _)] rfl ⟨rfl, rfl, rfl, rfl, rfl, rfl, trivial⟩ ?_
    refine rw_s (qs_ldb fc Tryz.isAgg75 rfl rfl (by rfl)) rfl rfl ?_
    refine rw_s (qs_len Tryz.underlying75 rfl rfl) rfl rfl ?_
    refine rw_run tab_ok 3 [(3, _), (5, _), (7, _), (8, _), (61, _)] rfl ⟨rfl, rfl, rfl, rfl, rfl, trivial⟩ ?_
    refine rw_as (t := 61) (v' := .bool false) rfl (rfl) ?_
    refine rw_run tab_ok 1 [(3, _), (5, _), (7, _), (8, _), (61, _), (62, _)] rfl ⟨rfl, rfl, rfl, rfl, rfl, rfl, trivial⟩ ?_
    refine rw_s (qs_ldb fc Tryz.isAgg75 rfl rfl (by rfl)) rfl rfl ?_
    refine rw_s (qs_len Tryz.underlying75 rfl rfl) rfl rfl ?_
    refine rw_run tab_ok 3 [(3, _), (5, _), (7, _), (8, _), (67, _)] rfl ⟨rfl, rfl, rfl, rfl, rfl, trivial⟩ ?_
    refine rw_as (t := 67) (v' := .bool false) rfl (rfl) ?_
    refine rw_run tab_ok 1 [(3, _), (5, _), (8, _), (67, _), (68, _)] rfl ⟨rfl, rfl, rfl, rfl, rfl, trivial⟩ ?_
    refine rw_s (qs_ldb fc Tryz.isAgg75 rfl rfl (by rfl)) rfl rfl ?_
    refine rw_s (qs_len Tryz.underlying75 rfl rfl) rfl rfl ?_
    refine rw_run tab_ok 2 [(3, _), (5, _), (8, _), (72, _)] rfl ⟨rfl, rfl, rfl, rfl, trivial⟩ ?_
    refine rw_end ?_
    refine cw_as (t := 72) (v' := .bool false) rfl (rfl) ?_
    refine cw_cond_f rfl ?_
    refine cw_skip (xw_then ?_)
    refine cw_seq ?_
    refine cw_region ?_
    refine rw_run tab_ok 1 [(5, _), (8, _), (73, _)] rfl ⟨rfl, rfl, rfl, trivial⟩ ?_
    refine rw_s (qs_ldb fc Tryz.isAgg75 rfl rfl (by rfl)) rfl rfl ?_
    refine rw_s (qs_idx (k := 1) Tryz.underlying75 Tryz.sizeOf29 (SF.own (α := HMach) (m := 2) lX fc) (by omega) rfl rfl rfl) rfl rfl ?_
    refine rw_run tab_ok 1 [(5, _), (8, _), (76, _)] rfl ⟨rfl, rfl, rfl, trivial⟩ ?_
    refine rw_s (qs_ld (R1 _ _ fc) rfl rfl Tryz.isAgg27) rfl rfl ?_
    refine rw_op (ot_bsl (cs := [_]) Tryz.underlying27 Tryz.sizeOf3 Tryz.zeroValue3 rfl rfl rfl rfl rfl) rfl rfl (fun g2 _ => ?_)
    refine rw_mem (fun w h => row_ow (α := Int) (m := 1) [9] rfl (one_i64 (by decide)) rfl (by decide) h) ?_
    refine rw_op (ot_c0 rfl rfl rfl Tryz.call38 (fun w hw => one_same b1.Ai (some ⟨g2, 0, none⟩) b1.ci 9 w (SF.at_ (T1 _ _ fc) hw) (SF.at_ (SF.own (A := some ⟨g2, 0, none⟩) (m := 1) (c := 1) (xs := [(9 : Int)]) rfl fc) hw))) rfl rfl (fun _ _ => ?_)
    refine rw_run tab_ok 1 [(5, _), (8, _), (80, _)] rfl ⟨rfl, rfl, rfl, trivial⟩ ?_
    refine rw_as (t := 80) (v' := .bool true) rfl (rfl) ?_
    refine rw_run tab_ok 1 [(8, _), (80, _), (81, _)] rfl ⟨rfl, rfl, rfl, trivial⟩ ?_
    refine rw_s (qs_ldb fc Tryz.isAgg75 rfl rfl (by rfl)) rfl rfl ?_
    refine rw_s (qs_idx (k := 0) Tryz.underlying75 Tryz.sizeOf29 (SF.own (α := HMach) (m := 2) lY fc) (by omega) rfl rfl rfl) rfl rfl ?_
    refine rw_run tab_ok 1 [(8, _), (80, _), (84, _)] rfl ⟨rfl, rfl, rfl, trivial⟩ ?_
    refine rw_s (qs_ld (R2 _ _ fc) rfl rfl Tryz.isAgg27) rfl rfl ?_
    refine rw_op (ot_bsl (cs := [_]) Tryz.underlying27 Tryz.sizeOf3 Tryz.zeroValue3 rfl rfl rfl rfl rfl) rfl rfl (fun g3 _ => ?_)
    refine rw_mem (fun w h => row_ow (α := Int) (m := 1) [81] rfl (one_i64 (by decide)) rfl (by decide) h) ?_
    refine rw_op (ot_c0 rfl rfl rfl Tryz.call38 (fun w hw => one_same c0.Ai (some ⟨g3, 0, none⟩) c0.ci 81 w (SF.at_ (T2 _ _ fc) hw) (SF.at_ (SF.own (A := some ⟨g3, 0, none⟩) (m := 1) (c := 1) (xs := [(81 : Int)]) rfl fc) hw))) rfl rfl (fun _ _ => ?_)
    refine rw_run tab_ok 2 [(8, _), (89, _)] rfl ⟨rfl, rfl, trivial⟩ ?_
    refine rw_as (t := 89) (v' := .bool true) rfl (rfl) ?_
    refine rw_run tab_ok 4 [(0, _)] rfl ⟨rfl, trivial⟩ ?_
    refine rw_end ?_
    refine cw_ret ?_
    refine xw_ret1 Tryz.results63 (rv_tmp rfl) ?_
    intro w hw
    exact ⟨rfl, hw.below⟩
end Go.Proofs.YtmnkaalchcomlaaGreat
-- Wl1
/- Worlds: a turn without fuel is mail alone. -/
namespace Go.Proofs.YtmnkaalchcomlaaGreat
open Go.RowKit
theorem turnE_zero (fs : List MFunc) (l : List MMach) : turnE fs l 0 = worldE fs l := by
 unfold turnE
 rw [if_neg (by omega)]
theorem ranW_zero (fs : List MFunc) (l : List MMach) : ranW fs l 0 = l := by
 unfold ranW
 rw [List.map_congr_left (g := id) (fun m _ => by rw [run_zero]; rfl), List.map_id]
theorem turnR_zero (fs : List MFunc) (l : List MMach) : turnR fs l 0 = (mailR fs l).1 := by
 unfold turnR mailR
 rw [turnE_zero, ranW_zero]
 split <;> rfl
set_option maxRecDepth 100000 in
set_option maxHeartbeats 2000000 in
theorem worldRound_any (Ap Aw : Option Addr) (cp cw : Nat) (fs : List MFunc) (l : List MMach) (w : World) (hs : Sl w (.slice Ap fs.length cp) fs) (hl : Sl w (.slice Aw l.length cw) l) (hfit : FitW l) :
  Calls Tryz.prog 17 #[.agg #[.slice Ap fs.length cp], .agg #[.slice Aw l.length cw]] w fun e w' => e = .returned (.bool true) ∧ Below w.heap.size w w' := by
 obtain ⟨r, hr⟩ : ∃ r, mailR fs l = r := ⟨_, rfl⟩
 have ht : turnR fs l 0 = r.1 := by rw [turnR_zero, hr]
 refine enter Tryz.func17 rfl Tryz.ntmps17 rfl ?_
 refine cw_seq ?_
 refine cw_region ?_
 refine rw_op (ot_box rfl rfl rfl) rfl rfl (fun g1 _ => ?_)
 refine rw_op (ot_box rfl rfl rfl) rfl rfl (fun g2 _ => ?_)
 refine rw_run tab_ok 1 [(2, _), (3, _)] rfl ⟨rfl, rfl, trivial⟩ ?_
 refine rw_end ?_
 refine cw_seq ?_
 refine cw_region ?_
 refine rw_s (qs_ldbA (vs := [_]) fc Tryz.isAgg24 Tryz.sizeOf24 rfl rfl (by rfl) rfl) rfl rfl ?_
 refine rw_s (qs_ldbA (vs := [_]) fc Tryz.isAgg77 Tryz.sizeOf77 rfl rfl (by rfl) rfl) rfl rfl ?_
 refine rw_op (ot_c rfl rfl rfl Tryz.call56 (fun w hw => wturn_any Ap Aw cp cw fs l 0 r.1 ht w (hw.ro hs) (hw.ro hl) hfit)) rfl rfl (fun ⟨A1, c1⟩ _ => ?_)
 try dsimp only
 refine rw_run tab_ok 3 [(2, _), (3, _), (14, _), (15, _)] rfl ⟨rfl, rfl, rfl, rfl, trivial⟩ ?_
 refine rw_op (ot_alloc Tryz.zeroValue77 rfl rfl) rfl rfl (fun g3 _ => ?_)
 refine rw_op (ot_stb _ fc Tryz.sizeOf77 rfl rfl rfl rfl rfl (by rfl) rfl (by rfl)) rfl rfl (fun _ _ => ?_)
 refine rw_run tab_ok 1 [(2, _), (3, _), (5, _), (6, _)] rfl ⟨rfl, rfl, rfl, rfl, trivial⟩ ?_
 refine rw_end ?_
 refine cw_seq ?_
 refine cw_region ?_
 refine rw_s (qs_ldbA (vs := [_]) fc Tryz.isAgg24 Tryz.sizeOf24 rfl rfl (by rfl) rfl) rfl rfl ?_
 refine rw_s (qs_ldbA (vs := [_]) fc Tryz.isAgg77 Tryz.sizeOf77 rfl rfl (by rfl) rfl) rfl rfl ?_
 refine rw_op (ot_c rfl rfl rfl Tryz.call55 (fun w hw => wmail_any Ap Aw cp cw fs l r hr w (hw.ro hs) (hw.ro hl) hfit)) rfl rfl (fun ⟨A2, c2⟩ _ => ?_)
 try dsimp only
 refine rw_run tab_ok 4 [(5, _), (6, _), (20, _), (21, _), (22, _)] rfl ⟨rfl, rfl, rfl, rfl, rfl, trivial⟩ ?_
 refine rw_op (ot_alloc Tryz.zeroValue77 rfl rfl) rfl rfl (fun g4 _ => ?_)
 refine rw_op (ot_stb _ fc Tryz.sizeOf77 rfl rfl rfl rfl rfl (by rfl) rfl (by rfl)) rfl rfl (fun _ _ => ?_)
 refine rw_run tab_ok 2 [(5, _), (6, _), (7, _), (9, _)] rfl ⟨rfl, rfl, rfl, rfl, trivial⟩ ?_
 refine rw_end ?_
 refine cw_seq ?_
 refine cw_region ?_
 refine rw_op (ot_c0 rfl rfl rfl Tryz.call63 (fun w hw => worldBegun_any w)) rfl rfl (fun _ _ => ?_)
 refine rw_run tab_ok 1 [(5, _), (6, _), (7, _), (9, _), (24, _)] rfl ⟨rfl, rfl, rfl, rfl, rfl, trivial⟩ ?_
 refine rw_as (t := 24) (v' := .bool true) rfl (rfl) ?_
 refine rw_run tab_ok 5 [(5, _), (7, _), (29, _)] rfl ⟨rfl, rfl, rfl, trivial⟩ ?_
 refine rw_as (t := 29) (v' := .bool true) rfl (congrArg Value.bool (decide_eq_true (turnE_zero fs l))) ?_
 refine rw_s (qs_ldbA (vs := [_]) fc Tryz.isAgg77 Tryz.sizeOf77 rfl rfl (by rfl) rfl) rfl rfl ?_
 refine rw_s (qs_ldbA (vs := [_]) fc Tryz.isAgg77 Tryz.sizeOf77 rfl rfl (by rfl) rfl) rfl rfl ?_
 refine rw_op (ot_c0 rfl rfl rfl Tryz.call66 (fun w hw => sameWorld_any A1 A2 r.1.length r.1.length c1 c2 r.1 r.1 w (SF.at_ (SF.own rfl fc) hw) (SF.at_ (SF.own rfl fc) hw) rfl rfl)) rfl rfl (fun _ _ => ?_)
 refine rw_run tab_ok 2 [(4, _)] rfl ⟨rfl, trivial⟩ ?_
 refine rw_end ?_
 refine cw_ret ?_
 refine xw_ret1 Tryz.results17 (rv_tmp rfl) ?_
 intro w hw
 exact ⟨ret_bool (by rw [decide_eq_true rfl]), hw.below⟩
end Go.Proofs.YtmnkaalchcomlaaGreat
-- Wl2
/- Worlds: nothing that is sent is lost, or told twice. -/
namespace Go.Proofs.YtmnkaalchcomlaaGreat
open Go.RowKit
def wnt (l t : List MMach) (g : Nat) : Nat := ((List.range g).map fun j => (mcAt l j).out.length - (mcAt t j).out.length).sum
theorem wnt_succ (l t : List MMach) (g : Nat) : wnt l t (g + 1) = wnt l t g + ((mcAt l g).out.length - (mcAt t g).out.length) := by
 unfold wnt
 rw [List.range_succ, List.map_append, List.sum_append]
 rfl
theorem wnt_le {l t : List MMach} (h : ∀ j, j < l.length → (mcAt l j).out.length ≤ 10) : ∀ g, g ≤ l.length → wnt l t g ≤ g * 10
 | 0, _ => Nat.le_refl _
 | g + 1, hg => by
  have := wnt_le (t := t) h g (by omega)
  have := h g (by omega)
  rw [wnt_succ]
  omega
theorem WOk.fit {fs : List MFunc} {l : List MMach} (h : WOk fs l) : FitW l := ⟨by have := h.n4; omega, fun m hm => (fitM_of h.f (h.r m hm)).f⟩
theorem WOk.mail {fs : List MFunc} {l r : List MMach} {n : Nat} (h : WOk fs l) (F : MailR fs l r n) : WOk fs r := ⟨h.p, h.f, F.right h.r, by rw [F.len]; exact h.n0, by rw [F.len]; exact h.n4⟩
theorem wmail_ok (Ap Aw : Option Addr) (cp cw : Nat) (fs : List MFunc) (l : List MMach) (n : Nat) (hn : l.length = n) (r : List MMach × Nat) (hr : mailW l = r) (hW : WOk fs l) (w : World) (hs : Sl w (.slice Ap fs.length cp) fs) (hl : Sl w (.slice Aw n cw) l) :
  Calls Tryz.prog 55 #[.agg #[.slice Ap fs.length cp], .agg #[.slice Aw n cw]] w fun e w' => ∃ g : Option Addr × Nat, True ∧ e = .returned (.tuple #[.agg #[.slice g.1 n g.2], .int .i64 (r.2 : Int), .int .i64 0]) ∧ Cw w.heap.size w [ROw (.slice g.1 n g.2) r.1] w' := by
 subst hn
 have := wmail_any Ap Aw cp cw fs l r (by unfold mailR; rw [if_pos hW.world, hr]) w hs hl hW.fit
 have e : r.1.length = l.length := by rw [← hr]; exact mailW_len l
 rw [hW.world, e] at this
 exact this
set_option maxRecDepth 100000 in
set_option maxHeartbeats 2000000 in
theorem worldMail_bad (Ap Aw : Option Addr) (cp cw : Nat) (fs : List MFunc) (l : List MMach) (w : World) (hs : Sl w (.slice Ap fs.length cp) fs) (hl : Sl w (.slice Aw l.length cw) l) (hfit : FitW l) (hp : ¬ worldE fs l = 0) :
  Calls Tryz.prog 16 #[.agg #[.slice Ap fs.length cp], .agg #[.slice Aw l.length cw]] w fun e w' => e = .returned (.bool true) ∧ Below w.heap.size w w' := by
 have hr : mailR fs l = ([], 0) := by unfold mailR; rw [if_neg hp]
 refine enter Tryz.func16 rfl Tryz.ntmps16 rfl ?_
 refine cw_seq ?_
 refine cw_region ?_
 refine rw_op (ot_box rfl rfl rfl) rfl rfl (fun g1 _ => ?_)
 refine rw_op (ot_box rfl rfl rfl) rfl rfl (fun g2 _ => ?_)
 refine rw_run tab_ok 1 [(2, _), (3, _)] rfl ⟨rfl, rfl, trivial⟩ ?_
 refine rw_end ?_
 refine cw_seq ?_
 refine cw_region ?_
 refine rw_s (qs_ldbA (vs := [_]) fc Tryz.isAgg24 Tryz.sizeOf24 rfl rfl (by rfl) rfl) rfl rfl ?_
 refine rw_s (qs_ldbA (vs := [_]) fc Tryz.isAgg77 Tryz.sizeOf77 rfl rfl (by rfl) rfl) rfl rfl ?_
 refine rw_op (ot_c rfl rfl rfl Tryz.call55 (fun w hw => wmail_any Ap Aw cp cw fs l ([], 0) hr w (hw.ro hs) (hw.ro hl) hfit)) rfl rfl (fun ⟨A, c⟩ _ => ?_)
 try dsimp only
 refine rw_run tab_ok 4 [(2, _), (3, _), (19, _), (20, _), (21, _)] rfl ⟨rfl, rfl, rfl, rfl, rfl, trivial⟩ ?_
 refine rw_op (ot_alloc Tryz.zeroValue77 rfl rfl) rfl rfl (fun g3 _ => ?_)
 refine rw_op (ot_stb _ fc Tryz.sizeOf77 rfl rfl rfl rfl rfl (by rfl) rfl (by rfl)) rfl rfl (fun _ _ => ?_)
 refine rw_run tab_ok 2 [(2, _), (3, _), (5, _), (6, _), (7, _)] rfl ⟨rfl, rfl, rfl, rfl, rfl, trivial⟩ ?_
 refine rw_end ?_
 refine cw_seq ?_
 refine cw_seq ?_
 refine cw_region ?_
 refine rw_op (ot_c0 rfl rfl rfl Tryz.call63 (fun w hw => worldBegun_any w)) rfl rfl (fun _ _ => ?_)
 refine rw_run tab_ok 1 [(2, _), (3, _), (5, _), (6, _), (7, _), (23, _)] rfl ⟨rfl, rfl, rfl, rfl, rfl, rfl, trivial⟩ ?_
 refine rw_end ?_
 refine cw_as (t := 23) (v' := .bool false) rfl (rfl) ?_
 refine cw_cond_f rfl ?_
 refine cw_skip (xw_then ?_)
 refine cw_seq ?_
 refine cw_seq ?_
 refine cw_region ?_
 refine rw_run tab_ok 2 [(2, _), (3, _), (5, _), (6, _), (25, _)] rfl ⟨rfl, rfl, rfl, rfl, rfl, trivial⟩ ?_
 refine rw_end ?_
 refine cw_condN rfl (fun hq => ?_) (fun hq => ?_)
 ·refine cw_seq ?_
  refine cw_region ?_
  refine rw_run tab_ok 3 [(5, _), (28, _)] rfl ⟨rfl, rfl, trivial⟩ ?_
  refine rw_as (t := 28) (v' := .bool true) rfl (rfl) ?_
  refine rw_run tab_ok 1 [(28, _), (29, _)] rfl ⟨rfl, rfl, trivial⟩ ?_
  refine rw_s (qs_ldb fc Tryz.isAgg75 rfl rfl (by rfl)) rfl rfl ?_
  refine rw_s (qs_len Tryz.underlying75 rfl rfl) rfl rfl ?_
  refine rw_run tab_ok 3 [(4, _)] rfl ⟨rfl, trivial⟩ ?_
  refine rw_end ?_
  refine cw_ret (xw_thenr ?_)
  refine xw_ret1 Tryz.results16 (rv_tmp rfl) ?_
  intro w hw
  exact ⟨rfl, hw.below⟩
 ·exact absurd hq hp
set_option maxRecDepth 100000 in
set_option maxHeartbeats 4000000 in
theorem worldMail_ok (Ap Aw : Option Addr) (cp cw : Nat) (fs : List MFunc) (l : List MMach) (w : World) (hs : Sl w (.slice Ap fs.length cp) fs) (hl : Sl w (.slice Aw l.length cw) l) (hW : WOk fs l) :
  Calls Tryz.prog 16 #[.agg #[.slice Ap fs.length cp], .agg #[.slice Aw l.length cw]] w fun e w' => e = .returned (.bool true) ∧ Below w.heap.size w w' := by
 have bl := len_bd hl
 obtain ⟨r, hr⟩ : ∃ r, mailW l = r := ⟨_, rfl⟩
 obtain ⟨F, hstuck⟩ := mail_facts (fs := fs) l
 have htw := mail_twice l
 rw [hr] at F hstuck htw
 have hn4 := hW.n4
 refine enter Tryz.func16 rfl Tryz.ntmps16 rfl ?_
 refine cw_seq ?_
 refine cw_region ?_
 refine rw_op (ot_box rfl rfl rfl) rfl rfl (fun g1 _ => ?_)
 refine rw_op (ot_box rfl rfl rfl) rfl rfl (fun g2 _ => ?_)
 refine rw_run tab_ok 1 [(2, _), (3, _)] rfl ⟨rfl, rfl, trivial⟩ ?_
 refine rw_end ?_
 refine cw_seq ?_
 refine cw_region ?_
 refine rw_s (qs_ldbA (vs := [_]) fc Tryz.isAgg24 Tryz.sizeOf24 rfl rfl (by rfl) rfl) rfl rfl ?_
 refine rw_s (qs_ldbA (vs := [_]) fc Tryz.isAgg77 Tryz.sizeOf77 rfl rfl (by rfl) rfl) rfl rfl ?_
 refine rw_op (ot_c rfl rfl rfl Tryz.call55 (fun w hw => wmail_ok Ap Aw cp cw fs l l.length rfl r hr hW w (hw.ro hs) (hw.ro hl))) rfl rfl (fun ⟨A, c⟩ _ => ?_)
 try dsimp only
 refine rw_run tab_ok 4 [(2, _), (3, _), (19, _), (20, _), (21, _)] rfl ⟨rfl, rfl, rfl, rfl, rfl, trivial⟩ ?_
 refine rw_op (ot_alloc Tryz.zeroValue77 rfl rfl) rfl rfl (fun g3 _ => ?_)
 refine rw_op (ot_stb _ fc Tryz.sizeOf77 rfl rfl rfl rfl rfl (by rfl) rfl (by rfl)) rfl rfl (fun _ _ => ?_)
 refine rw_run tab_ok 2 [(2, _), (3, _), (5, _), (6, _), (7, _)] rfl ⟨rfl, rfl, rfl, rfl, rfl, trivial⟩ ?_
 refine rw_end ?_
 refine cw_seq ?_
 refine cw_seq ?_
 refine cw_region ?_
 refine rw_op (ot_c0 rfl rfl rfl Tryz.call63 (fun w hw => worldBegun_any w)) rfl rfl (fun _ _ => ?_)
 refine rw_run tab_ok 1 [(2, _), (3, _), (5, _), (6, _), (7, _), (23, _)] rfl ⟨rfl, rfl, rfl, rfl, rfl, rfl, trivial⟩ ?_
 refine rw_end ?_
 refine cw_as (t := 23) (v' := .bool false) rfl (rfl) ?_
 refine cw_cond_f rfl ?_
 refine cw_skip (xw_then ?_)
 refine cw_seq ?_
 refine cw_seq ?_
 refine cw_region ?_
 refine rw_run tab_ok 2 [(2, _), (3, _), (5, _), (6, _), (25, _)] rfl ⟨rfl, rfl, rfl, rfl, rfl, trivial⟩ ?_
 refine rw_end ?_
 refine cw_as (t := 25) (v' := .bool false) rfl (rfl) ?_
 refine cw_cond_f rfl ?_
 refine cw_skip (xw_then ?_)
 refine cw_seq ?_
 refine cw_region ?_
 refine rw_run tab_ok 1 [(2, _), (3, _), (5, _), (6, _), (8, _)] rfl ⟨rfl, rfl, rfl, rfl, rfl, trivial⟩ ?_
 refine rw_end ?_
 refine cw_seq ?_
 refine cw_seq ?_
 refine cw_region ?_
 refine rw_run tab_ok 1 [(2, _), (3, _), (5, _), (6, _), (8, _), (9, _)] rfl ⟨rfl, rfl, rfl, rfl, rfl, rfl, trivial⟩ ?_
 refine rw_end ?_
 refine cw_rdW (v := .slice A l.length c) (L := r.1) fc fun X hsX hX => ?_
 have lX : hsX.length = l.length := hX.len.trans F.len
 refine cw_block (cw_loop (fun g : Nat => g ≤ l.length) (fun g => l.length - g) (fun g => [(2, .pointer (some ⟨g1, 0, none⟩)), (3, .pointer (some ⟨g2, 0, none⟩)), (5, .pointer (some ⟨g3, 0, none⟩)), (6, .int .i64 (r.2 : Int)), (8, .int .i64 ((wnt l r.1 g : Nat) : Int)), (9, .int .i64 (g : Int))]) (fun _ => [RBox g1 [.slice Ap fs.length cp] 24, RBox g2 [.slice Aw l.length cw] 77, RBox g3 [.slice A l.length c] 77, ROw (.slice A l.length c) hsX, X]) 0 (Nat.zero_le _) ⟨rfl, rfl, rfl, rfl, rfl, rfl, trivial⟩ me ?_)
 rintro i hi'
 have hi : i ≤ l.length := hi'
 refine cw_seq ?_
 refine cw_seq ?_
 refine cw_region ?_
 refine rw_run tab_ok 2 [(2, _), (3, _), (5, _), (6, _), (8, _), (9, _), (34, _), (35, _)] rfl ⟨rfl, rfl, rfl, rfl, rfl, rfl, rfl, rfl, trivial⟩ ?_
 refine rw_s (qs_ldb fc Tryz.isAgg75 rfl rfl (by rfl)) rfl rfl ?_
 refine rw_s (qs_len Tryz.underlying75 rfl rfl) rfl rfl ?_
 refine rw_run tab_ok 1 [(2, _), (3, _), (5, _), (6, _), (8, _), (9, _), (38, _)] rfl ⟨rfl, rfl, rfl, rfl, rfl, rfl, rfl, trivial⟩ ?_
 refine rw_end ?_
 refine cw_condD rfl (fun hlt => ?_) (fun hlt => ?_)
 ·have hil : i < l.length := by omega
  obtain ⟨k, hk⟩ : ∃ k, nxt i l.length = k := ⟨_, rfl⟩
  have hkl : k < l.length := by rw [← hk]; exact nxt_lt hil
  have hsum := F.sum i hil
  have hst := hstuck i hil
  rw [hk] at hsum hst
  have hfw := F.fewer i hil
  have hob := (hW.r _ (mc_mem hil)).ob
  have hib := (hW.r _ (mc_mem hkl)).ib
  have hob2 := (F.right hW.r _ (mc_mem (l := r.1) (k := i) (by rw [F.len]; exact hil))).ob
  have hib2 := (F.right hW.r _ (mc_mem (l := r.1) (k := k) (by rw [F.len]; exact hkl))).ib
  have hwn := wnt_le (l := l) (t := r.1) (fun j hj => (hW.r _ (mc_mem hj)).ob) i hi
  obtain ⟨ai, hmi, hci⟩ := hl.mc hil
  obtain ⟨ak, hmk, hck⟩ := hl.mc hkl
  obtain ⟨bi, ei, _, Xi⟩ := hX.el i (by rw [F.len]; exact hil)
  obtain ⟨bk, ek, _, Xk⟩ := hX.el k (by rw [F.len]; exact hkl)
  refine cw_skip (xw_then ?_)
  refine cw_seq ?_
  refine cw_block ?_
  refine cw_seq ?_
  refine cw_region ?_
  refine rw_run tab_ok 1 [(2, _), (3, _), (5, _), (6, _), (8, _), (9, _), (41, _)] rfl ⟨rfl, rfl, rfl, rfl, rfl, rfl, rfl, trivial⟩ ?_
  refine rw_s (qs_add rfl rfl rfl (by omega)) rfl rfl ?_
  refine rw_run tab_ok 1 [(2, _), (3, _), (5, _), (6, _), (8, _), (9, _), (42, _), (43, _)] rfl ⟨rfl, rfl, rfl, rfl, rfl, rfl, rfl, rfl, trivial⟩ ?_
  refine rw_s (qs_ldb fc Tryz.isAgg75 rfl rfl (by rfl)) rfl rfl ?_
  refine rw_s (qs_len Tryz.underlying75 rfl rfl) rfl rfl ?_
  refine rw_s (qs_remN (a := i + 1) (b := l.length) (by omega) (by omega) rfl rfl rfl) rfl rfl ?_
  refine rw_run tab_ok 1 [(2, _), (3, _), (5, _), (6, _), (8, _), (9, _), (10, _)] rfl ⟨rfl, rfl, rfl, rfl, rfl, rfl, rfl, trivial⟩ ?_
  refine rw_end ?_
  refine cw_as (t := 10) (v' := .int .i64 (k : Int)) rfl (by rw [← hk]; rfl) ?_
  refine cw_cut (fun _ : Option Addr × Nat => True) (fun g => [(2, .pointer (some ⟨g1, 0, none⟩)), (3, .pointer (some ⟨g2, 0, none⟩)), (5, .pointer (some ⟨g3, 0, none⟩)), (6, .int .i64 (r.2 : Int)), (8, .int .i64 ((wnt l r.1 i : Nat) : Int)), (9, .int .i64 (i : Int)), (10, .int .i64 (k : Int)), (11, .slice g.1 ((mcAt l k).inn ++ (mcAt l i).out).length g.2)]) (fun g => [ROw (.slice g.1 ((mcAt l k).inn ++ (mcAt l i).out).length g.2) ((mcAt l k).inn ++ (mcAt l i).out), RBox g1 [.slice Ap fs.length cp] 24, RBox g2 [.slice Aw l.length cw] 77, RBox g3 [.slice A l.length c] 77, ROw (.slice A l.length c) hsX, X]) ?_ ?_
  ·refine cw_draw (.still 1 (.still 2 (.still 3 (.still 4 (.still 5 (.still 6 (.still 8 (.still 9 (.still 10 (.still 11 (.still 12 (.still 13 (.pick 0 (.pick 7 (.pick 14 (.still 15 .done) .stop) .stop) .stop))))))))))))) [] rfl (by kernel_rfl) (by kernel_rfl) ?_
   refine ro_run tab_ok ha 1 [(2, _), (3, _), (5, _), (6, _), (8, _), (9, _), (10, _), (48, _)] rfl ⟨rfl, rfl, rfl, rfl, rfl, rfl, rfl, rfl, trivial⟩ ?_
   refine ro_s2 rfl (qs_ldb fc Tryz.isAgg75 rfl rfl (by rfl)) rfl rfl ha ?_
   refine ro_run tab_ok ha 1 [(2, _), (3, _), (5, _), (6, _), (8, _), (9, _), (10, _), (49, _), (50, _)] rfl ⟨rfl, rfl, rfl, rfl, rfl, rfl, rfl, rfl, rfl, trivial⟩ ?_
   refine ro_s2 rfl (qs_idx (k := k) Tryz.underlying75 Tryz.sizeOf29 (.ro hl) (by omega) rfl rfl rfl) rfl rfl ha ?_
   refine ro_run tab_ok ha 1 [(2, _), (3, _), (5, _), (6, _), (8, _), (9, _), (10, _), (52, _)] rfl ⟨rfl, rfl, rfl, rfl, rfl, rfl, rfl, rfl, trivial⟩ ?_
   refine ro_s2 rfl (qs_ld (fun w hw => hck _ w hw 2 _ rfl) rfl rfl Tryz.isAgg27) rfl rfl ha ?_
   refine ro_run tab_ok ha 1 [(2, _), (3, _), (5, _), (6, _), (8, _), (9, _), (10, _), (53, _), (55, _)] rfl ⟨rfl, rfl, rfl, rfl, rfl, rfl, rfl, rfl, rfl, trivial⟩ ?_
   refine ro_s2 rfl (qs_ldb fc Tryz.isAgg75 rfl rfl (by rfl)) rfl rfl ha ?_
   refine ro_run tab_ok ha 1 [(2, _), (3, _), (5, _), (6, _), (8, _), (9, _), (10, _), (53, _), (56, _), (57, _)] rfl ⟨rfl, rfl, rfl, rfl, rfl, rfl, rfl, rfl, rfl, rfl, trivial⟩ ?_
   refine ro_s2 rfl (qs_idx (k := i) Tryz.underlying75 Tryz.sizeOf29 (.ro hl) (by omega) rfl rfl rfl) rfl rfl ha ?_
   refine ro_run tab_ok ha 1 [(2, _), (3, _), (5, _), (6, _), (8, _), (9, _), (10, _), (53, _), (59, _)] rfl ⟨rfl, rfl, rfl, rfl, rfl, rfl, rfl, rfl, rfl, trivial⟩ ?_
   refine ro_s2 rfl (qs_ld (fun w hw => hci _ w hw 3 _ rfl) rfl rfl Tryz.isAgg27) rfl rfl ha ?_
   refine ro_op2 rfl ((ot_bsl (cs := []) Tryz.underlying27 Tryz.sizeOf3 Tryz.zeroValue3 rfl rfl rfl rfl rfl).mem (H'' := fun g => ROw (.slice (some ⟨g, 0, none⟩) 0 0) ([] : List Int) :: _) fun g w h => row_ow (α := Int) (m := 0) [] rfl (by simp) rfl (by decide) h) rfl rfl (.inr fun _ => ha) (fun ge _ => ?_) ro_stop
   refine ro_op2 rfl (ot_appS (α := Int) (bytes := 8) (xs := []) (ys := (mcAt l k).inn) (List.nil_append _).symm Tryz.underlying27 (info_ex Tryz.inI) rfl fc (.ro hmk.i) (by simp only [List.length_nil]; omega) (by simp only [List.length_nil]; omega) rfl rfl rfl) rfl rfl (.inr fun _ => ha) (fun ⟨A5, c5⟩ _ => ?_) ro_stop
   try dsimp only
   refine ro_op2 rfl (ot_appS (α := Int) (bytes := 8) (xs := (mcAt l k).inn) (ys := (mcAt l i).out) rfl Tryz.underlying27 (info_ex Tryz.inI) rfl fc (.ro hmi.o) (by omega) (by omega) rfl rfl rfl) rfl rfl (.inr fun _ => ha) (fun ⟨A6, c6⟩ _ => ?_) ro_stop
   try dsimp only
   refine ro_run tab_ok ha 1 [(2, _), (3, _), (5, _), (6, _), (8, _), (9, _), (10, _), (11, _)] rfl ⟨rfl, rfl, rfl, rfl, rfl, rfl, rfl, rfl, trivial⟩ ?_
   refine ro_endx <| xw_join (A6, c6) (trivial) ⟨rfl, rfl, rfl, rfl, rfl, rfl, rfl, rfl, trivial⟩ (fun _ h => h.msub ms)
  ·rintro ⟨A7, c7⟩ _
   try dsimp only
   refine cw_cut (fun _ : Option Addr × Nat => True) (fun g => [(2, .pointer (some ⟨g1, 0, none⟩)), (3, .pointer (some ⟨g2, 0, none⟩)), (5, .pointer (some ⟨g3, 0, none⟩)), (6, .int .i64 (r.2 : Int)), (8, .int .i64 ((wnt l r.1 i : Nat) : Int)), (9, .int .i64 (i : Int)), (10, .int .i64 (k : Int)), (11, .slice A7 ((mcAt l k).inn ++ (mcAt l i).out).length c7), (12, .slice g.1 ((mcAt r.1 k).inn ++ (mcAt r.1 i).out).length g.2)]) (fun g => [ROw (.slice g.1 ((mcAt r.1 k).inn ++ (mcAt r.1 i).out).length g.2) ((mcAt r.1 k).inn ++ (mcAt r.1 i).out), ROw (.slice A7 ((mcAt l k).inn ++ (mcAt l i).out).length c7) ((mcAt l k).inn ++ (mcAt l i).out), RBox g1 [.slice Ap fs.length cp] 24, RBox g2 [.slice Aw l.length cw] 77, RBox g3 [.slice A l.length c] 77, ROw (.slice A l.length c) hsX, X]) ?_ ?_
   ·refine cw_draw (.still 1 (.still 2 (.still 3 (.still 4 (.still 5 (.still 6 (.still 8 (.still 9 (.still 10 (.still 11 (.still 12 (.still 13 (.pick 0 (.pick 7 (.pick 14 (.still 15 .done) .stop) .stop) .stop))))))))))))) [] rfl (by kernel_rfl) (by kernel_rfl) ?_
    refine ro_run tab_ok ha 1 [(2, _), (3, _), (5, _), (6, _), (8, _), (9, _), (10, _), (11, _), (63, _)] rfl ⟨rfl, rfl, rfl, rfl, rfl, rfl, rfl, rfl, rfl, trivial⟩ ?_
    refine ro_s2 rfl (qs_ldb fc Tryz.isAgg75 rfl rfl (by rfl)) rfl rfl ha ?_
    refine ro_run tab_ok ha 1 [(2, _), (3, _), (5, _), (6, _), (8, _), (9, _), (10, _), (11, _), (64, _), (65, _)] rfl ⟨rfl, rfl, rfl, rfl, rfl, rfl, rfl, rfl, rfl, rfl, trivial⟩ ?_
    refine ro_s2 rfl (qs_idx (k := k) Tryz.underlying75 Tryz.sizeOf29 (SF.own (α := HMach) lX fc) (by omega) rfl rfl rfl) rfl rfl ha ?_
    refine ro_run tab_ok ha 1 [(2, _), (3, _), (5, _), (6, _), (8, _), (9, _), (10, _), (11, _), (67, _)] rfl ⟨rfl, rfl, rfl, rfl, rfl, rfl, rfl, rfl, rfl, trivial⟩ ?_
    refine ro_s2 rfl (qs_ld (fun w hw => SF.hmc (SF.own (α := HMach) lX fc) hkl ek w hw 2 _ rfl) rfl rfl Tryz.isAgg27) rfl rfl ha ?_
    refine ro_run tab_ok ha 1 [(2, _), (3, _), (5, _), (6, _), (8, _), (9, _), (10, _), (11, _), (68, _), (70, _)] rfl ⟨rfl, rfl, rfl, rfl, rfl, rfl, rfl, rfl, rfl, rfl, trivial⟩ ?_
    refine ro_s2 rfl (qs_ldb fc Tryz.isAgg75 rfl rfl (by rfl)) rfl rfl ha ?_
    refine ro_run tab_ok ha 1 [(2, _), (3, _), (5, _), (6, _), (8, _), (9, _), (10, _), (11, _), (68, _), (71, _), (72, _)] rfl ⟨rfl, rfl, rfl, rfl, rfl, rfl, rfl, rfl, rfl, rfl, rfl, trivial⟩ ?_
    refine ro_s2 rfl (qs_idx (k := i) Tryz.underlying75 Tryz.sizeOf29 (SF.own (α := HMach) lX fc) (by omega) rfl rfl rfl) rfl rfl ha ?_
    refine ro_run tab_ok ha 1 [(2, _), (3, _), (5, _), (6, _), (8, _), (9, _), (10, _), (11, _), (68, _), (74, _)] rfl ⟨rfl, rfl, rfl, rfl, rfl, rfl, rfl, rfl, rfl, rfl, trivial⟩ ?_
    refine ro_s2 rfl (qs_ld (fun w hw => SF.hmc (SF.own (α := HMach) lX fc) hil ei w hw 3 _ rfl) rfl rfl Tryz.isAgg27) rfl rfl ha ?_
    refine ro_op2 rfl ((ot_bsl (cs := []) Tryz.underlying27 Tryz.sizeOf3 Tryz.zeroValue3 rfl rfl rfl rfl rfl).mem (H'' := fun g => ROw (.slice (some ⟨g, 0, none⟩) 0 0) ([] : List Int) :: _) fun g w h => row_ow (α := Int) (m := 0) [] rfl (by simp) rfl (by decide) h) rfl rfl (.inr fun _ => ha) (fun ge _ => ?_) ro_stop
    refine ro_op2 rfl (ot_appS (α := Int) (bytes := 8) (xs := []) (ys := (mcAt r.1 k).inn) (List.nil_append _).symm Tryz.underlying27 (info_ex Tryz.inI) rfl fc (Xk _ _ fc).2.2.1 (by simp only [List.length_nil]; omega) (by simp only [List.length_nil]; omega) rfl rfl rfl) rfl rfl (.inr fun _ => ha) (fun ⟨A5, c5⟩ _ => ?_) ro_stop
    try dsimp only
    refine ro_op2 rfl (ot_appS (α := Int) (bytes := 8) (xs := (mcAt r.1 k).inn) (ys := (mcAt r.1 i).out) rfl Tryz.underlying27 (info_ex Tryz.inI) rfl fc (Xi _ _ fc).2.2.2 (by omega) (by omega) rfl rfl rfl) rfl rfl (.inr fun _ => ha) (fun ⟨A6, c6⟩ _ => ?_) ro_stop
    try dsimp only
    refine ro_run tab_ok ha 1 [(2, _), (3, _), (5, _), (6, _), (8, _), (9, _), (10, _), (11, _), (12, _)] rfl ⟨rfl, rfl, rfl, rfl, rfl, rfl, rfl, rfl, rfl, trivial⟩ ?_
    refine ro_endx <| xw_join (A6, c6) (trivial) ⟨rfl, rfl, rfl, rfl, rfl, rfl, rfl, rfl, rfl, trivial⟩ (fun _ h => h.msub ms)
   ·rintro ⟨A8, c8⟩ _
    try dsimp only
    refine cw_seq ?_
    refine cw_cut (fun _ : Unit => True) (fun _ => [(2, .pointer (some ⟨g1, 0, none⟩)), (3, .pointer (some ⟨g2, 0, none⟩)), (5, .pointer (some ⟨g3, 0, none⟩)), (6, .int .i64 (r.2 : Int)), (8, .int .i64 ((wnt l r.1 i : Nat) : Int)), (9, .int .i64 (i : Int)), (100, .bool false)]) (fun _ => [RBox g1 [.slice Ap fs.length cp] 24, RBox g2 [.slice Aw l.length cw] 77, RBox g3 [.slice A l.length c] 77, ROw (.slice A l.length c) hsX, X]) ?_ ?_
    ·refine cw_region ?_
     refine rw_run tab_ok 2 [(2, _), (3, _), (5, _), (6, _), (8, _), (9, _), (10, _), (77, _), (78, _)] rfl ⟨rfl, rfl, rfl, rfl, rfl, rfl, rfl, rfl, rfl, trivial⟩ ?_
     refine rw_op (ot_c0 rfl rfl rfl Tryz.call38 (fun w hw => sameInts_w A7 A8 c7 c8 ((mcAt l k).inn ++ (mcAt l i).out) ((mcAt r.1 k).inn ++ (mcAt r.1 i).out) w (SF.at_ (SF.own rfl fc) hw) (SF.at_ (SF.own rfl fc) hw))) rfl rfl (fun _ _ => ?_)
     refine rw_run tab_ok 2 [(2, _), (3, _), (5, _), (6, _), (8, _), (9, _), (10, _), (81, _)] rfl ⟨rfl, rfl, rfl, rfl, rfl, rfl, rfl, rfl, trivial⟩ ?_
     refine rw_as (t := 81) (v' := .bool false) rfl (by rw [decide_eq_true hsum.symm]; rfl) ?_
     refine rw_run tab_ok 1 [(2, _), (3, _), (5, _), (6, _), (8, _), (9, _), (10, _), (81, _), (82, _)] rfl ⟨rfl, rfl, rfl, rfl, rfl, rfl, rfl, rfl, rfl, trivial⟩ ?_
     refine rw_s (qs_ldb fc Tryz.isAgg75 rfl rfl (by rfl)) rfl rfl ?_
     refine rw_run tab_ok 1 [(2, _), (3, _), (5, _), (6, _), (8, _), (9, _), (10, _), (81, _), (83, _), (84, _)] rfl ⟨rfl, rfl, rfl, rfl, rfl, rfl, rfl, rfl, rfl, rfl, trivial⟩ ?_
     refine rw_s (qs_idx (k := i) Tryz.underlying75 Tryz.sizeOf29 (SF.own (α := HMach) lX fc) (by omega) rfl rfl rfl) rfl rfl ?_
     refine rw_run tab_ok 1 [(2, _), (3, _), (5, _), (6, _), (8, _), (9, _), (10, _), (81, _), (86, _)] rfl ⟨rfl, rfl, rfl, rfl, rfl, rfl, rfl, rfl, rfl, trivial⟩ ?_
     refine rw_s (qs_ld (fun w hw => SF.hmc (SF.own (α := HMach) lX fc) hil ei w hw 3 _ rfl) rfl rfl Tryz.isAgg27) rfl rfl ?_
     refine rw_s (qs_len Tryz.underlying27 rfl rfl) rfl rfl ?_
     refine rw_run tab_ok 2 [(2, _), (3, _), (5, _), (6, _), (8, _), (9, _), (10, _), (81, _), (90, _)] rfl ⟨rfl, rfl, rfl, rfl, rfl, rfl, rfl, rfl, rfl, trivial⟩ ?_
     refine rw_split (t := 90) rfl (fun hg => ?_) (fun hg => ?_)
     ·have hg : 0 < (mcAt r.1 i).out.length := by have := of_decide_eq_true hg; omega
      have hin : (mcAt r.1 k).inn.length = 10 := Classical.not_not.1 fun h => hst ⟨hg, h⟩
      refine rw_run tab_ok 1 [(2, _), (3, _), (5, _), (6, _), (8, _), (9, _), (10, _), (81, _), (90, _), (91, _)] rfl ⟨rfl, rfl, rfl, rfl, rfl, rfl, rfl, rfl, rfl, rfl, trivial⟩ ?_
      refine rw_s (qs_ldb fc Tryz.isAgg75 rfl rfl (by rfl)) rfl rfl ?_
      refine rw_run tab_ok 1 [(2, _), (3, _), (5, _), (6, _), (8, _), (9, _), (81, _), (90, _), (92, _), (93, _)] rfl ⟨rfl, rfl, rfl, rfl, rfl, rfl, rfl, rfl, rfl, rfl, trivial⟩ ?_
      refine rw_s (qs_idx (k := k) Tryz.underlying75 Tryz.sizeOf29 (SF.own (α := HMach) lX fc) (by omega) rfl rfl rfl) rfl rfl ?_
      refine rw_run tab_ok 1 [(2, _), (3, _), (5, _), (6, _), (8, _), (9, _), (81, _), (90, _), (95, _)] rfl ⟨rfl, rfl, rfl, rfl, rfl, rfl, rfl, rfl, rfl, trivial⟩ ?_
      refine rw_s (qs_ld (fun w hw => SF.hmc (SF.own (α := HMach) lX fc) hkl ek w hw 2 _ rfl) rfl rfl Tryz.isAgg27) rfl rfl ?_
      refine rw_s (qs_len Tryz.underlying27 rfl rfl) rfl rfl ?_
      refine rw_run tab_ok 3 [(2, _), (3, _), (5, _), (6, _), (8, _), (9, _), (100, _)] rfl ⟨rfl, rfl, rfl, rfl, rfl, rfl, rfl, trivial⟩ ?_
      refine rw_as (t := 100) (v' := .bool false) rfl (congrArg Value.bool (decide_eq_false (by omega))) ?_
      refine rw_join () (trivial) ⟨rfl, rfl, rfl, rfl, rfl, rfl, rfl, trivial⟩ me
     ·refine rw_run tab_ok 10 [(2, _), (3, _), (5, _), (6, _), (8, _), (9, _), (100, _)] rfl ⟨rfl, rfl, rfl, rfl, rfl, rfl, rfl, trivial⟩ ?_
      refine rw_join () (trivial) ⟨rfl, rfl, rfl, rfl, rfl, rfl, rfl, trivial⟩ me
    ·rintro ⟨⟩ _
     try dsimp only
     refine cw_as (t := 100) (v' := .bool false) rfl (rfl) ?_
     refine cw_cond_f rfl ?_
     refine cw_skip (xw_then ?_)
     refine cw_draw (.still 0 (.still 1 (.still 2 (.still 3 (.still 4 (.still 5 (.still 6 (.still 7 (.still 8 (.still 9 (.still 10 (.still 11 (.still 12 (.still 13 (.still 14 (.still 15 (.still 16 (.still 17 .done)))))))))))))))))) [] rfl (by kernel_rfl) (by kernel_rfl) ?_
     refine ro_run tab_ok ha 2 [(2, _), (3, _), (5, _), (6, _), (8, _), (9, _), (101, _), (102, _)] rfl ⟨rfl, rfl, rfl, rfl, rfl, rfl, rfl, rfl, trivial⟩ ?_
     refine ro_s2 rfl (qs_ldb fc Tryz.isAgg75 rfl rfl (by rfl)) rfl rfl ha ?_
     refine ro_run tab_ok ha 1 [(2, _), (3, _), (5, _), (6, _), (8, _), (9, _), (101, _), (103, _), (104, _)] rfl ⟨rfl, rfl, rfl, rfl, rfl, rfl, rfl, rfl, rfl, trivial⟩ ?_
     refine ro_s2 rfl (qs_idx (k := i) Tryz.underlying75 Tryz.sizeOf29 (.ro hl) (by omega) rfl rfl rfl) rfl rfl ha ?_
     refine ro_run tab_ok ha 1 [(2, _), (3, _), (5, _), (6, _), (8, _), (9, _), (101, _), (106, _)] rfl ⟨rfl, rfl, rfl, rfl, rfl, rfl, rfl, rfl, trivial⟩ ?_
     refine ro_s2 rfl (qs_ld (fun w hw => hci _ w hw 3 _ rfl) rfl rfl Tryz.isAgg27) rfl rfl ha ?_
     refine ro_s2 rfl (qs_len Tryz.underlying27 rfl rfl) rfl rfl ha ?_
     refine ro_run tab_ok ha 1 [(2, _), (3, _), (5, _), (6, _), (8, _), (9, _), (101, _), (108, _), (109, _)] rfl ⟨rfl, rfl, rfl, rfl, rfl, rfl, rfl, rfl, rfl, trivial⟩ ?_
     refine ro_s2 rfl (qs_ldb fc Tryz.isAgg75 rfl rfl (by rfl)) rfl rfl ha ?_
     refine ro_run tab_ok ha 1 [(2, _), (3, _), (5, _), (6, _), (8, _), (9, _), (101, _), (108, _), (110, _), (111, _)] rfl ⟨rfl, rfl, rfl, rfl, rfl, rfl, rfl, rfl, rfl, rfl, trivial⟩ ?_
     refine ro_s2 rfl (qs_idx (k := i) Tryz.underlying75 Tryz.sizeOf29 (SF.own (α := HMach) lX fc) (by omega) rfl rfl rfl) rfl rfl ha ?_
     refine ro_run tab_ok ha 1 [(2, _), (3, _), (5, _), (6, _), (8, _), (9, _), (101, _), (108, _), (113, _)] rfl ⟨rfl, rfl, rfl, rfl, rfl, rfl, rfl, rfl, rfl, trivial⟩ ?_
     refine ro_s2 rfl (qs_ld (fun w hw => SF.hmc (SF.own (α := HMach) lX fc) hil ei w hw 3 _ rfl) rfl rfl Tryz.isAgg27) rfl rfl ha ?_
     refine ro_s2 rfl (qs_len Tryz.underlying27 rfl rfl) rfl rfl ha ?_
     refine ro_s2 rfl (qs_sub rfl rfl rfl (by omega)) rfl rfl ha ?_
     refine ro_s2 rfl (qs_add rfl rfl rfl (by omega)) rfl rfl ha ?_
     refine ro_run tab_ok ha 1 [(2, _), (3, _), (5, _), (6, _), (8, _), (9, _)] rfl ⟨rfl, rfl, rfl, rfl, rfl, rfl, trivial⟩ ?_
     refine ro_endx (xw_blkn (xw_then ?_))
     refine cw_region ?_
     refine rw_run tab_ok 1 [(2, _), (3, _), (5, _), (6, _), (8, _), (39, _)] rfl ⟨rfl, rfl, rfl, rfl, rfl, rfl, trivial⟩ ?_
     refine rw_s (qs_add rfl rfl rfl (by omega)) rfl rfl ?_
     refine rw_run tab_ok 1 [(2, _), (3, _), (5, _), (6, _), (8, _), (9, _)] rfl ⟨rfl, rfl, rfl, rfl, rfl, rfl, trivial⟩ ?_
     refine rw_as (t := 8) (v' := .int .i64 ((wnt l r.1 (i + 1) : Nat) : Int)) rfl (congrArg (Value.int .i64) (by rw [wnt_succ]; omega)) ?_
     refine rw_round (i + 1) (by show i + 1 ≤ _; omega) (by show _ - _ < _ - _; omega) ⟨rfl, rfl, rfl, rfl, rfl, rfl, trivial⟩ me
 ·obtain rfl : i = l.length := by omega
  have hcnt : wnt l r.1 l.length = r.2 := F.cnt _ fun j hj => by have := F.fewer j hj; omega
  refine cw_mem (fun w h => hX.back _ _ _ (.slice A l.length c) w fc fc h) ?_
  refine cw_exit (xw_thenx (xw_thenx (xw_blk (xw_then ?_))))
  refine cw_seq ?_
  refine cw_region ?_
  refine rw_s (qs_ldbA (vs := [_]) fc Tryz.isAgg24 Tryz.sizeOf24 rfl rfl (by rfl) rfl) rfl rfl ?_
  refine rw_s (qs_ldbA (vs := [_]) fc Tryz.isAgg77 Tryz.sizeOf77 rfl rfl (by rfl) rfl) rfl rfl ?_
  refine rw_op (ot_c rfl rfl rfl Tryz.call55 (fun w hw => wmail_ok Ap A cp c fs r.1 l.length F.len (r.1, 0) htw (hW.mail F) w (hw.ro hs) (SF.at_ (SF.own F.len fc) hw))) rfl rfl (fun ⟨A9, c9⟩ _ => ?_)
  try dsimp only
  refine rw_run tab_ok 4 [(5, _), (6, _), (8, _), (122, _), (123, _), (124, _)] rfl ⟨rfl, rfl, rfl, rfl, rfl, rfl, trivial⟩ ?_
  refine rw_op (ot_alloc Tryz.zeroValue77 rfl rfl) rfl rfl (fun g4 _ => ?_)
  refine rw_op (ot_stb _ fc Tryz.sizeOf77 rfl rfl rfl rfl rfl (by rfl) rfl (by rfl)) rfl rfl (fun _ _ => ?_)
  refine rw_run tab_ok 2 [(5, _), (6, _), (7, _), (8, _), (13, _), (14, _)] rfl ⟨rfl, rfl, rfl, rfl, rfl, rfl, trivial⟩ ?_
  refine rw_end ?_
  refine cw_seq ?_
  refine cw_region ?_
  refine rw_run tab_ok 4 [(5, _), (7, _), (13, _), (14, _), (128, _)] rfl ⟨rfl, rfl, rfl, rfl, rfl, trivial⟩ ?_
  refine rw_as (t := 128) (v' := .bool true) rfl (congrArg Value.bool (decide_eq_true (by rw [hcnt]))) ?_
  refine rw_run tab_ok 4 [(5, _), (13, _), (14, _), (132, _)] rfl ⟨rfl, rfl, rfl, rfl, trivial⟩ ?_
  refine rw_as (t := 132) (v' := .bool true) rfl (rfl) ?_
  refine rw_run tab_ok 4 [(5, _), (13, _), (136, _)] rfl ⟨rfl, rfl, rfl, trivial⟩ ?_
  refine rw_as (t := 136) (v' := .bool true) rfl (rfl) ?_
  refine rw_s (qs_ldbA (vs := [_]) fc Tryz.isAgg77 Tryz.sizeOf77 rfl rfl (by rfl) rfl) rfl rfl ?_
  refine rw_s (qs_ldbA (vs := [_]) fc Tryz.isAgg77 Tryz.sizeOf77 rfl rfl (by rfl) rfl) rfl rfl ?_
  refine rw_op (ot_c0 rfl rfl rfl Tryz.call66 (fun w hw => sameWorld_any A9 A l.length l.length c9 c r.1 r.1 w (SF.at_ (SF.own F.len fc) hw) (SF.at_ (SF.own F.len fc) hw) F.len F.len)) rfl rfl (fun _ _ => ?_)
  refine rw_run tab_ok 2 [(4, _)] rfl ⟨rfl, trivial⟩ ?_
  refine rw_end ?_
  refine cw_ret ?_
  refine xw_ret1 Tryz.results16 (rv_tmp rfl) ?_
  intro w hw
  exact ⟨ret_bool (by rw [decide_eq_true rfl]), hw.below⟩
theorem worldMail_any (Ap Aw : Option Addr) (cp cw : Nat) (fs : List MFunc) (l : List MMach) (w : World) (hs : Sl w (.slice Ap fs.length cp) fs) (hl : Sl w (.slice Aw l.length cw) l) (hfit : FitW l) :
  Calls Tryz.prog 16 #[.agg #[.slice Ap fs.length cp], .agg #[.slice Aw l.length cw]] w fun e w' => e = .returned (.bool true) ∧ Below w.heap.size w w' := by
 by_cases h : worldE fs l = 0
 ·exact worldMail_ok Ap Aw cp cw fs l w hs hl (world_ok h)
 ·exact worldMail_bad Ap Aw cp cw fs l w hs hl hfit h
end Go.Proofs.YtmnkaalchcomlaaGreat
-- Wl3
/- Worlds: what is sent is behind all that came. -/
namespace Go.Proofs.YtmnkaalchcomlaaGreat
open Go.RowKit
theorem same_intsT (A1 A2 : Option Addr) (c1 c2 n1 n2 : Nat) (xs ys : List Int) (e : xs = ys) (e1 : xs.length = n1) (e2 : ys.length = n2) (w : World) (h1 : Sl w (.slice A1 n1 c1) xs) (h2 : Sl w (.slice A2 n2 c2) ys) : Calls Tryz.prog 38 #[.slice A1 n1 c1, .slice A2 n2 c2] w fun e w' => e = .returned (.bool true) ∧ Below w.heap.size w w' := by
 subst e1 e2
 have := sameInts_w A1 A2 c1 c2 xs ys w h1 h2
 rw [decide_eq_true e] at this
 exact this
theorem same_mach (a b : MA) (m1 m2 : MMach) (e : m1 = m2) (w : World) (h1 : MIn w.heap.size w a m1) (h2 : MIn w.heap.size w b m2) :
  Calls Tryz.prog 37 #[.agg #[.slice a.Af m1.frames.length a.cf, .slice a.Ab m1.blocks.length a.cb, .slice a.Ai m1.inn.length a.ci, .slice a.Ao m1.out.length a.co, .int .i64 m1.status, .int .i64 m1.trap],
   .agg #[.slice b.Af m2.frames.length b.cf, .slice b.Ab m2.blocks.length b.cb, .slice b.Ai m2.inn.length b.ci, .slice b.Ao m2.out.length b.co, .int .i64 m2.status, .int .i64 m2.trap]] w fun e w' => e = .returned (.bool true) ∧ Below w.heap.size w w' := by
 have := sameMach_any a b m1 m2 w h1 h2
 rw [decide_eq_true e] at this
 exact this
theorem send_ok {fs : List MFunc} {l : List MMach} {i z : Int} (h : sendE fs l i z = 0) : sendE0 fs l i z = 0 ∧ (mcAt l i.toNat).inn.length ≠ 10 := by
 unfold sendE at h
 split at h
 ·exact absurd h (by assumption)
 ·rename_i h0
  split at h
  ·cases h
  ·exact ⟨Classical.not_not.1 h0, by assumption⟩
theorem wsend_ok (Ap Aw : Option Addr) (cp cw : Nat) (fs : List MFunc) (l : List MMach) (i z : Int) (hz : I64 z) (he : sendE fs l i z = 0) (w : World) (hs : Sl w (.slice Ap fs.length cp) fs) (hl : Sl w (.slice Aw l.length cw) l) (hfit : FitW l) :
  Calls Tryz.prog 57 #[.agg #[.slice Ap fs.length cp], .agg #[.slice Aw l.length cw], .int .i64 i, .int .i64 z] w fun e w' => ∃ g : Option Addr × Nat, True ∧ e = .returned (.tuple #[.agg #[.slice g.1 l.length g.2], .int .i64 0]) ∧ Cw w.heap.size w [ROw (.slice g.1 l.length g.2) (l.set i.toNat (bringM (mcAt l i.toNat) z))] w' := by
 have := wsend_any Ap Aw cp cw fs l i z hz (l.set i.toNat (bringM (mcAt l i.toNat) z)) (by unfold sendR; rw [if_pos he]) w hs hl hfit
 rw [he, List.length_set] at this
 exact this
theorem wcheck_ok (Ap Aw : Option Addr) (cp cw : Nat) (fs : List MFunc) (l : List MMach) (n : Nat) (hn : l.length = n) (hW : WOk fs l) (w : World) (hs : Sl w (.slice Ap fs.length cp) fs) (hl : Sl w (.slice Aw n cw) l) :
  Calls Tryz.prog 64 #[.agg #[.slice Ap fs.length cp], .agg #[.slice Aw n cw]] w fun e w' => e = .returned (.int .i64 0) ∧ Below w.heap.size w w' := by
 subst hn
 have := wcheck_any Ap Aw cp cw fs l w hs hl hW.fit
 rw [hW.world] at this
 exact this
set_option maxRecDepth 100000 in
set_option maxHeartbeats 2000000 in
theorem worldSends_bad (Ap Aw : Option Addr) (cp cw : Nat) (fs : List MFunc) (l : List MMach) (i z : Int) (hz : I64 z) (w : World) (hs : Sl w (.slice Ap fs.length cp) fs) (hl : Sl w (.slice Aw l.length cw) l) (hfit : FitW l) (hp : ¬ sendE fs l i z = 0) :
  Calls Tryz.prog 18 #[.agg #[.slice Ap fs.length cp], .agg #[.slice Aw l.length cw], .int .i64 i, .int .i64 z] w fun e w' => e = .returned (.bool true) ∧ Below w.heap.size w w' := by
 have hr : sendR fs l i z = [] := by unfold sendR; rw [if_neg hp]
 refine enter Tryz.func18 rfl Tryz.ntmps18 rfl ?_
 refine cw_seq ?_
 refine cw_region ?_
 refine rw_op (ot_box rfl rfl rfl) rfl rfl (fun g1 _ => ?_)
 refine rw_op (ot_box rfl rfl rfl) rfl rfl (fun g2 _ => ?_)
 refine rw_run tab_ok 1 [(2, _), (3, _), (4, _), (5, _)] rfl ⟨rfl, rfl, rfl, rfl, trivial⟩ ?_
 refine rw_end ?_
 refine cw_seq ?_
 refine cw_region ?_
 refine rw_s (qs_ldbA (vs := [_]) fc Tryz.isAgg24 Tryz.sizeOf24 rfl rfl (by rfl) rfl) rfl rfl ?_
 refine rw_s (qs_ldbA (vs := [_]) fc Tryz.isAgg77 Tryz.sizeOf77 rfl rfl (by rfl) rfl) rfl rfl ?_
 refine rw_run tab_ok 2 [(2, _), (3, _), (4, _), (5, _), (15, _), (16, _), (17, _), (18, _)] rfl ⟨rfl, rfl, rfl, rfl, rfl, rfl, rfl, rfl, trivial⟩ ?_
 refine rw_op (ot_c rfl rfl rfl Tryz.call57 (fun w hw => wsend_any Ap Aw cp cw fs l i z hz [] hr w (hw.ro hs) (hw.ro hl) hfit)) rfl rfl (fun ⟨A, c⟩ _ => ?_)
 try dsimp only
 refine rw_run tab_ok 3 [(2, _), (3, _), (4, _), (5, _), (20, _), (21, _)] rfl ⟨rfl, rfl, rfl, rfl, rfl, rfl, trivial⟩ ?_
 refine rw_op (ot_alloc Tryz.zeroValue77 rfl rfl) rfl rfl (fun g3 _ => ?_)
 refine rw_op (ot_stb _ fc Tryz.sizeOf77 rfl rfl rfl rfl rfl (by rfl) rfl (by rfl)) rfl rfl (fun _ _ => ?_)
 refine rw_run tab_ok 1 [(2, _), (3, _), (4, _), (5, _), (9, _), (10, _)] rfl ⟨rfl, rfl, rfl, rfl, rfl, rfl, trivial⟩ ?_
 refine rw_end ?_
 refine cw_seq ?_
 refine cw_seq ?_
 refine cw_region ?_
 refine rw_op (ot_c0 rfl rfl rfl Tryz.call63 (fun w hw => worldBegun_any w)) rfl rfl (fun _ _ => ?_)
 refine rw_run tab_ok 1 [(2, _), (3, _), (4, _), (5, _), (9, _), (10, _), (23, _)] rfl ⟨rfl, rfl, rfl, rfl, rfl, rfl, rfl, trivial⟩ ?_
 refine rw_end ?_
 refine cw_as (t := 23) (v' := .bool false) rfl (rfl) ?_
 refine cw_cond_f rfl ?_
 refine cw_skip (xw_then ?_)
 refine cw_seq ?_
 refine cw_seq ?_
 refine cw_region ?_
 refine rw_run tab_ok 2 [(2, _), (3, _), (4, _), (5, _), (9, _), (25, _)] rfl ⟨rfl, rfl, rfl, rfl, rfl, rfl, trivial⟩ ?_
 refine rw_end ?_
 refine cw_condN rfl (fun hq => ?_) (fun hq => ?_)
 ·refine cw_seq ?_
  refine cw_region ?_
  refine rw_run tab_ok 1 [(26, _)] rfl ⟨rfl, trivial⟩ ?_
  refine rw_s (qs_ldb fc Tryz.isAgg75 rfl rfl (by rfl)) rfl rfl ?_
  refine rw_s (qs_len Tryz.underlying75 rfl rfl) rfl rfl ?_
  refine rw_run tab_ok 2 [(8, _)] rfl ⟨rfl, trivial⟩ ?_
  refine rw_end ?_
  refine cw_ret (xw_thenr ?_)
  refine xw_ret1 Tryz.results18 (rv_tmp rfl) ?_
  intro w hw
  exact ⟨rfl, hw.below⟩
 ·exact absurd hq hp
set_option maxRecDepth 100000 in
set_option maxHeartbeats 4000000 in
theorem worldSends_ok (Ap Aw : Option Addr) (cp cw : Nat) (fs : List MFunc) (l : List MMach) (i z : Int) (hz : I64 z) (w : World) (hs : Sl w (.slice Ap fs.length cp) fs) (hl : Sl w (.slice Aw l.length cw) l) (hfit : FitW l) (hp : sendE fs l i z = 0) :
  Calls Tryz.prog 18 #[.agg #[.slice Ap fs.length cp], .agg #[.slice Aw l.length cw], .int .i64 i, .int .i64 z] w fun e w' => e = .returned (.bool true) ∧ Below w.heap.size w w' := by
 have bl := len_bd hl
 obtain ⟨h0, h10⟩ := send_ok hp
 obtain ⟨hp0, hi, hzi⟩ := send_ok0 h0
 have hW := world_ok hp0
 have hn4 := hW.n4
 obtain ⟨k, rfl⟩ : ∃ k : Nat, i = k := ⟨i.toNat, by omega⟩
 have hkl : k < l.length := by omega
 rw [Int.toNat_natCast] at h10
 obtain ⟨r, hr⟩ : ∃ r, l.set k (bringM (mcAt l k) z) = r := ⟨_, rfl⟩
 have hrl : r.length = l.length := by rw [← hr, List.length_set]
 have hat : ∀ j, mcAt r j = if j = k then bringM (mcAt l k) z else mcAt l j := fun j => by rw [← hr]; exact mc_set hkl
 have hWr : WOk fs r := ⟨hW.p, hW.f, by rw [← hr]; exact all_set hW.r (bring_right (hW.r _ (mc_mem hkl)) hzi h10), by rw [hrl]; exact hW.n0, by rw [hrl]; exact hW.n4⟩
 have hsend : ∀ w1, Sl w1 (.slice Ap fs.length cp) fs → Sl w1 (.slice Aw l.length cw) l → Calls Tryz.prog 57 #[.agg #[.slice Ap fs.length cp], .agg #[.slice Aw l.length cw], .int .i64 k, .int .i64 z] w1 fun e w' => ∃ g : Option Addr × Nat, True ∧ e = .returned (.tuple #[.agg #[.slice g.1 l.length g.2], .int .i64 0]) ∧ Cw w1.heap.size w1 [ROw (.slice g.1 l.length g.2) r] w' := fun w1 a b => by
  have := wsend_ok Ap Aw cp cw fs l k z hz hp w1 a b hfit
  rw [Int.toNat_natCast, hr] at this
  exact this
 refine enter Tryz.func18 rfl Tryz.ntmps18 rfl ?_
 refine cw_seq ?_
 refine cw_region ?_
 refine rw_op (ot_box rfl rfl rfl) rfl rfl (fun g1 _ => ?_)
 refine rw_op (ot_box rfl rfl rfl) rfl rfl (fun g2 _ => ?_)
 refine rw_run tab_ok 1 [(2, _), (3, _), (4, _), (5, _)] rfl ⟨rfl, rfl, rfl, rfl, trivial⟩ ?_
 refine rw_end ?_
 refine cw_seq ?_
 refine cw_region ?_
 refine rw_s (qs_ldbA (vs := [_]) fc Tryz.isAgg24 Tryz.sizeOf24 rfl rfl (by rfl) rfl) rfl rfl ?_
 refine rw_s (qs_ldbA (vs := [_]) fc Tryz.isAgg77 Tryz.sizeOf77 rfl rfl (by rfl) rfl) rfl rfl ?_
 refine rw_run tab_ok 2 [(2, _), (3, _), (4, _), (5, _), (15, _), (16, _), (17, _), (18, _)] rfl ⟨rfl, rfl, rfl, rfl, rfl, rfl, rfl, rfl, trivial⟩ ?_
 refine rw_op (ot_c rfl rfl rfl Tryz.call57 (fun w hw => hsend w (hw.ro hs) (hw.ro hl))) rfl rfl (fun ⟨A, c⟩ _ => ?_)
 try dsimp only
 refine rw_run tab_ok 3 [(2, _), (3, _), (4, _), (5, _), (20, _), (21, _)] rfl ⟨rfl, rfl, rfl, rfl, rfl, rfl, trivial⟩ ?_
 refine rw_op (ot_alloc Tryz.zeroValue77 rfl rfl) rfl rfl (fun g3 _ => ?_)
 refine rw_op (ot_stb _ fc Tryz.sizeOf77 rfl rfl rfl rfl rfl (by rfl) rfl (by rfl)) rfl rfl (fun _ _ => ?_)
 refine rw_run tab_ok 1 [(2, _), (3, _), (4, _), (5, _), (9, _), (10, _)] rfl ⟨rfl, rfl, rfl, rfl, rfl, rfl, trivial⟩ ?_
 refine rw_end ?_
 refine cw_seq ?_
 refine cw_seq ?_
 refine cw_region ?_
 refine rw_op (ot_c0 rfl rfl rfl Tryz.call63 (fun w hw => worldBegun_any w)) rfl rfl (fun _ _ => ?_)
 refine rw_run tab_ok 1 [(2, _), (3, _), (4, _), (5, _), (9, _), (10, _), (23, _)] rfl ⟨rfl, rfl, rfl, rfl, rfl, rfl, rfl, trivial⟩ ?_
 refine rw_end ?_
 refine cw_as (t := 23) (v' := .bool false) rfl (rfl) ?_
 refine cw_cond_f rfl ?_
 refine cw_skip (xw_then ?_)
 refine cw_seq ?_
 refine cw_seq ?_
 refine cw_region ?_
 refine rw_run tab_ok 2 [(2, _), (3, _), (4, _), (5, _), (9, _), (25, _)] rfl ⟨rfl, rfl, rfl, rfl, rfl, rfl, trivial⟩ ?_
 refine rw_end ?_
 refine cw_as (t := 25) (v' := .bool false) rfl (rfl) ?_
 refine cw_cond_f rfl ?_
 refine cw_skip (xw_then ?_)
 refine cw_seq ?_
 refine cw_seq ?_
 refine cw_region ?_
 refine rw_run tab_ok 1 [(2, _), (3, _), (4, _), (5, _), (9, _), (30, _)] rfl ⟨rfl, rfl, rfl, rfl, rfl, rfl, trivial⟩ ?_
 refine rw_s (qs_ldb fc Tryz.isAgg75 rfl rfl (by rfl)) rfl rfl ?_
 refine rw_s (qs_len Tryz.underlying75 rfl rfl) rfl rfl ?_
 refine rw_run tab_ok 1 [(2, _), (3, _), (4, _), (5, _), (9, _), (32, _), (33, _)] rfl ⟨rfl, rfl, rfl, rfl, rfl, rfl, rfl, trivial⟩ ?_
 refine rw_s (qs_ldb fc Tryz.isAgg75 rfl rfl (by rfl)) rfl rfl ?_
 refine rw_s (qs_len Tryz.underlying75 rfl rfl) rfl rfl ?_
 refine rw_run tab_ok 2 [(2, _), (3, _), (4, _), (5, _), (9, _), (37, _)] rfl ⟨rfl, rfl, rfl, rfl, rfl, rfl, trivial⟩ ?_
 refine rw_as (t := 37) (v' := .bool false) rfl (by simp) ?_
 refine rw_s (qs_ldbA (vs := [_]) fc Tryz.isAgg24 Tryz.sizeOf24 rfl rfl (by rfl) rfl) rfl rfl ?_
 refine rw_s (qs_ldbA (vs := [_]) fc Tryz.isAgg77 Tryz.sizeOf77 rfl rfl (by rfl) rfl) rfl rfl ?_
 refine rw_op (ot_c0 rfl rfl rfl Tryz.call64 (fun w hw => wcheck_ok Ap A cp c fs r l.length hrl hWr w (hw.ro hs) (SF.at_ (SF.own hrl fc) hw))) rfl rfl (fun _ _ => ?_)
 refine rw_run tab_ok 2 [(2, _), (3, _), (5, _), (9, _), (42, _)] rfl ⟨rfl, rfl, rfl, rfl, rfl, trivial⟩ ?_
 refine rw_end ?_
 refine cw_as (t := 42) (v' := .bool false) rfl (rfl) ?_
 refine cw_cond_f rfl ?_
 refine cw_skip (xw_then ?_)
 refine cw_seq ?_
 refine cw_seq ?_
 refine cw_region ?_
 refine rw_run tab_ok 1 [(2, _), (3, _), (5, _), (9, _), (11, _)] rfl ⟨rfl, rfl, rfl, rfl, rfl, trivial⟩ ?_
 refine rw_end ?_
 refine cw_rdW (v := .slice A l.length c) (L := r) fc fun X hsX hX => ?_
 have lX : hsX.length = l.length := hX.len.trans hrl
 refine cw_block (cw_loop (fun g : Nat => g ≤ l.length) (fun g => l.length - g) (fun g => [(2, .int .i64 (k : Int)), (3, .int .i64 z), (5, .pointer (some ⟨g2, 0, none⟩)), (9, .pointer (some ⟨g3, 0, none⟩)), (11, .int .i64 (g : Int))]) (fun _ => [RBox g1 [.slice Ap fs.length cp] 24, RBox g2 [.slice Aw l.length cw] 77, RBox g3 [.slice A l.length c] 77, ROw (.slice A l.length c) hsX, X]) 0 (Nat.zero_le _) ⟨rfl, rfl, rfl, rfl, rfl, trivial⟩ me ?_)
 rintro j hj'
 have hj : j ≤ l.length := hj'
 refine cw_seq ?_
 refine cw_seq ?_
 refine cw_region ?_
 refine rw_run tab_ok 2 [(2, _), (3, _), (5, _), (9, _), (11, _), (43, _), (44, _)] rfl ⟨rfl, rfl, rfl, rfl, rfl, rfl, rfl, trivial⟩ ?_
 refine rw_s (qs_ldb fc Tryz.isAgg75 rfl rfl (by rfl)) rfl rfl ?_
 refine rw_s (qs_len Tryz.underlying75 rfl rfl) rfl rfl ?_
 refine rw_run tab_ok 1 [(2, _), (3, _), (5, _), (9, _), (11, _), (47, _)] rfl ⟨rfl, rfl, rfl, rfl, rfl, rfl, trivial⟩ ?_
 refine rw_end ?_
 refine cw_condD rfl (fun hlt => ?_) (fun hlt => ?_)
 ·have hjl : j < l.length := by omega
  obtain ⟨aj, hmj, hcj⟩ := hl.mc hjl
  obtain ⟨bj, ej, Ij, Xj⟩ := hX.el j (by rw [hrl]; exact hjl)
  have hatj := hat j
  obtain ⟨x, hx⟩ : ∃ x, mcAt l j = x := ⟨_, rfl⟩
  obtain ⟨y, hy⟩ : ∃ y, mcAt r j = y := ⟨_, rfl⟩
  have hib : x.inn.length ≤ 10 := by rw [← hx]; exact (hW.r _ (mc_mem hjl)).ib
  rw [hx] at hmj hcj
  rw [hy] at ej Ij Xj hatj
  refine cw_skip (xw_then ?_)
  refine cw_seq ?_
  refine cw_block ?_
  refine cw_cut (fun _ : Nat × Nat => True) (fun g => [(2, .int .i64 (k : Int)), (3, .int .i64 z), (5, .pointer (some ⟨g2, 0, none⟩)), (9, .pointer (some ⟨g3, 0, none⟩)), (11, .int .i64 (j : Int)), (12, .pointer (some ⟨g.1, 0, none⟩)), (13, .pointer (some ⟨g.2, 0, none⟩))]) (fun g => [RBox g.1 [.slice aj.Af x.frames.length aj.cf, .slice aj.Ab x.blocks.length aj.cb, .slice aj.Ai x.inn.length aj.ci, .slice aj.Ao x.out.length aj.co, .int .i64 x.status, .int .i64 x.trap] 29, RBox g.2 [.slice bj.Af y.frames.length bj.cf, .slice bj.Ab y.blocks.length bj.cb, .slice bj.Ai y.inn.length bj.ci, .slice bj.Ao y.out.length bj.co, .int .i64 y.status, .int .i64 y.trap] 29, RBox g1 [.slice Ap fs.length cp] 24, RBox g2 [.slice Aw l.length cw] 77, RBox g3 [.slice A l.length c] 77, ROw (.slice A l.length c) hsX, X]) ?_ ?_
  ·refine cw_draw (.still 0 (.still 1 (.still 2 (.still 3 (.still 4 (.still 5 (.still 6 (.still 7 (.still 8 (.still 9 (.pick 10 (.pick 11 (.pick 12 (.pick 13 .done .stop) .stop) .stop) (.pick 11 (.pick 10 (.pick 12 (.pick 13 .done .stop) .stop) .stop) .stop)))))))))))) [13] rfl (by kernel_rfl) (by kernel_rfl) ?_
   refine ro_run tab_ok ha 1 [(2, _), (3, _), (5, _), (9, _), (11, _), (50, _)] rfl ⟨rfl, rfl, rfl, rfl, rfl, rfl, trivial⟩ ?_
   refine ro_s2 rfl (qs_ldb fc Tryz.isAgg75 rfl rfl (by rfl)) rfl rfl ha ?_
   refine ro_run tab_ok ha 1 [(2, _), (3, _), (5, _), (9, _), (11, _), (51, _), (52, _)] rfl ⟨rfl, rfl, rfl, rfl, rfl, rfl, rfl, trivial⟩ ?_
   refine ro_s2 rfl (qs_idx (k := j) Tryz.underlying75 Tryz.sizeOf29 (.ro hl) (by omega) rfl rfl rfl) rfl rfl ha ?_
   refine ro_s2 rfl (qs_ldA (hcj _) rfl rfl Tryz.isAgg29 Tryz.sizeOf29) rfl rfl ha ?_
   refine ro_run tab_ok ha 1 [(2, _), (3, _), (5, _), (9, _), (11, _), (54, _), (55, _)] rfl ⟨rfl, rfl, rfl, rfl, rfl, rfl, rfl, trivial⟩ ?_
   refine ro_s2 rfl (qs_ldb fc Tryz.isAgg75 rfl rfl (by rfl)) rfl rfl ha ?_
   refine ro_run tab_ok ha 1 [(2, _), (3, _), (5, _), (9, _), (11, _), (54, _), (56, _), (57, _)] rfl ⟨rfl, rfl, rfl, rfl, rfl, rfl, rfl, rfl, trivial⟩ ?_
   refine ro_s2 rfl (qs_idx (k := j) Tryz.underlying75 Tryz.sizeOf29 (SF.own (α := HMach) lX fc) (by omega) rfl rfl rfl) rfl rfl ha ?_
   refine ro_s2 rfl (qs_ldA (SF.hmc (SF.own (α := HMach) lX fc) hjl ej) rfl rfl Tryz.isAgg29 Tryz.sizeOf29) rfl rfl ha ?_
   refine ro_op2 rfl (ot_alloc Tryz.zeroValue29 rfl rfl) rfl rfl (.inr fun _ => ha) (fun q1 _ => ?_) ?_
   ·refine ro_op2 rfl (ot_alloc Tryz.zeroValue29 rfl rfl) rfl rfl (.inr fun _ => ha) (fun q2 _ => ?_) ro_stop
    refine ro_op2 rfl (ot_stb [_, _, _, _, _, _] fc Tryz.sizeOf29 rfl rfl rfl rfl rfl (by rfl) rfl (by rfl)) rfl rfl (.inr fun _ => ha) (fun _ _ => ?_) ro_stop
    refine ro_op2 rfl (ot_stb [_, _, _, _, _, _] fc Tryz.sizeOf29 rfl rfl rfl rfl rfl (by rfl) rfl (by rfl)) rfl rfl (.inl rfl) (fun _ _ => ?_) ro_stop
    refine ro_endx <| xw_join (q1, q2) (trivial) ⟨rfl, rfl, rfl, rfl, rfl, rfl, rfl, trivial⟩ (fun _ h => h.msub ms)
   ·refine ro_op2 rfl (ot_alloc Tryz.zeroValue29 rfl rfl) rfl rfl (.inr fun _ => ha) (fun q2 _ => ?_) ro_stop
    refine ro_op2 rfl (ot_alloc Tryz.zeroValue29 rfl rfl) rfl rfl (.inr fun _ => ha) (fun q1 _ => ?_) ro_stop
    refine ro_op2 rfl (ot_stb [_, _, _, _, _, _] fc Tryz.sizeOf29 rfl rfl rfl rfl rfl (by rfl) rfl (by rfl)) rfl rfl (.inr fun _ => ha) (fun _ _ => ?_) ro_stop
    refine ro_op2 rfl (ot_stb [_, _, _, _, _, _] fc Tryz.sizeOf29 rfl rfl rfl rfl rfl (by rfl) rfl (by rfl)) rfl rfl (.inl rfl) (fun _ _ => ?_) ro_stop
    refine ro_endx <| xw_join (q1, q2) (trivial) ⟨rfl, rfl, rfl, rfl, rfl, rfl, rfl, trivial⟩ (fun _ h => h.msub ms)
  ·rintro ⟨gx, gy⟩ _
   try dsimp only
   refine cw_seq ?_
   refine cw_seq ?_
   refine cw_region ?_
   refine rw_run tab_ok 3 [(2, _), (3, _), (5, _), (9, _), (11, _), (12, _), (13, _), (62, _)] rfl ⟨rfl, rfl, rfl, rfl, rfl, rfl, rfl, rfl, trivial⟩ ?_
   refine rw_end ?_
   refine cw_condN rfl (fun hne => ?_) (fun hne => ?_)
   ·have hyx : x = y := by rw [hatj, if_neg (by omega), ← hx]
    refine cw_seq ?_
    refine cw_seq ?_
    refine cw_region ?_
    refine rw_s (qs_ldbA (vs := [_, _, _, _, _, _]) fc Tryz.isAgg29 Tryz.sizeOf29 rfl rfl (by rfl) rfl) rfl rfl ?_
    refine rw_s (qs_ldbA (vs := [_, _, _, _, _, _]) fc Tryz.isAgg29 Tryz.sizeOf29 rfl rfl (by rfl) rfl) rfl rfl ?_
    refine rw_op (ot_c0 rfl rfl rfl Tryz.call37 (fun w hw => same_mach aj bj x y hyx w (hmj.ro hw) (SF.min (Xj _ _ fc) Ij hw))) rfl rfl (fun _ _ => ?_)
    refine rw_run tab_ok 1 [(2, _), (3, _), (5, _), (9, _), (11, _), (66, _)] rfl ⟨rfl, rfl, rfl, rfl, rfl, rfl, trivial⟩ ?_
    refine rw_end ?_
    refine cw_as (t := 66) (v' := .bool false) rfl (rfl) ?_
    refine cw_cond_f rfl ?_
    refine cw_skip (xw_then ?_)
    refine cw_exit (xw_thenx (xw_blk (xw_then ?_)))
    refine cw_region ?_
    refine rw_run tab_ok 1 [(2, _), (3, _), (5, _), (9, _), (48, _)] rfl ⟨rfl, rfl, rfl, rfl, rfl, trivial⟩ ?_
    refine rw_s (qs_add rfl rfl rfl (by omega)) rfl rfl ?_
    refine rw_run tab_ok 1 [(2, _), (3, _), (5, _), (9, _), (11, _)] rfl ⟨rfl, rfl, rfl, rfl, rfl, trivial⟩ ?_
    refine rw_round (j + 1) (by show j + 1 ≤ _; omega) (by show _ - _ < _ - _; omega) ⟨rfl, rfl, rfl, rfl, rfl, trivial⟩ (fun w h => h.msub ms)
   ·have hjk : j = k := by omega
    rw [if_pos hjk, ← hjk, hx] at hatj
    refine cw_skip (xw_then ?_)
    refine cw_seq ?_
    refine cw_cut (fun _ : Unit => True) (fun _ => [(2, .int .i64 (k : Int)), (3, .int .i64 z), (5, .pointer (some ⟨g2, 0, none⟩)), (9, .pointer (some ⟨g3, 0, none⟩)), (11, .int .i64 (j : Int)), (12, .pointer (some ⟨gx, 0, none⟩)), (13, .pointer (some ⟨gy, 0, none⟩)), (82, .bool false)]) (fun _ => [RBox gx [.slice aj.Af x.frames.length aj.cf, .slice aj.Ab x.blocks.length aj.cb, .slice aj.Ai x.inn.length aj.ci, .slice aj.Ao x.out.length aj.co, .int .i64 x.status, .int .i64 x.trap] 29, RBox gy [.slice bj.Af y.frames.length bj.cf, .slice bj.Ab y.blocks.length bj.cb, .slice bj.Ai y.inn.length bj.ci, .slice bj.Ao y.out.length bj.co, .int .i64 y.status, .int .i64 y.trap] 29, RBox g1 [.slice Ap fs.length cp] 24, RBox g2 [.slice Aw l.length cw] 77, RBox g3 [.slice A l.length c] 77, ROw (.slice A l.length c) hsX, X]) ?_ ?_
    ·refine cw_draw (.still 0 (.still 1 (.still 3 (.still 4 (.still 6 (.pick 2 (.pick 5 (.pick 7 (.pick 8 (.pick 9 (.still 10 (.still 11 (.still 12 (.still 13 (.still 14 (.still 15 .done)))))) .stop) .stop) .stop) (.pick 7 (.pick 5 (.pick 8 (.pick 9 (.still 10 (.still 11 (.still 12 (.still 13 (.still 14 (.still 15 .done)))))) .stop) .stop) .stop) .stop)) (.pick 7 (.pick 2 (.pick 5 (.pick 8 (.pick 9 (.still 10 (.still 11 (.still 12 (.still 13 (.still 14 (.still 15 .done)))))) .stop) .stop) .stop) .stop) .stop))))))) [] rfl (by kernel_rfl) (by kernel_rfl) ?_
     refine ro_run tab_ok ha 1 [(2, _), (3, _), (5, _), (9, _), (11, _), (12, _), (13, _), (67, _)] rfl ⟨rfl, rfl, rfl, rfl, rfl, rfl, rfl, rfl, trivial⟩ ?_
     refine ro_s2 rfl (qs_ldb fc Tryz.isAgg27 rfl rfl (by rfl)) rfl rfl ha ?_
     refine ro_run tab_ok ha 1 [(2, _), (3, _), (5, _), (9, _), (11, _), (12, _), (13, _), (68, _), (70, _)] rfl ⟨rfl, rfl, rfl, rfl, rfl, rfl, rfl, rfl, rfl, trivial⟩ ?_
     refine ro_s2 rfl (qs_ldb fc Tryz.isAgg27 rfl rfl (by rfl)) rfl rfl ha ?_
     refine ro_run tab_ok ha 1 [(2, _), (3, _), (5, _), (9, _), (11, _), (12, _), (13, _), (68, _), (71, _), (73, _)] rfl ⟨rfl, rfl, rfl, rfl, rfl, rfl, rfl, rfl, rfl, rfl, trivial⟩ ?_
     refine ro_op2 rfl ((ot_bsl (cs := []) Tryz.underlying27 Tryz.sizeOf3 Tryz.zeroValue3 rfl rfl rfl rfl rfl).mem (H'' := fun g => ROw (.slice (some ⟨g, 0, none⟩) 0 0) ([] : List Int) :: _) fun g w h => row_ow (α := Int) (m := 0) [] rfl (by simp) rfl (by decide) h) rfl rfl (.inr fun _ => ha) (fun ge _ => ?_) ?_
     ·refine ro_op2 rfl (ot_appS (α := Int) (bytes := 8) (xs := []) (ys := x.inn) (List.nil_append _).symm Tryz.underlying27 (info_ex Tryz.inI) rfl fc (.ro hmj.i) (by simp only [List.length_nil]; omega) (by simp only [List.length_nil]; omega) rfl rfl rfl) rfl rfl (.inr fun _ => ha) (fun ⟨A5, c5⟩ _ => ?_) ?_
      ·try dsimp only
       refine ro_op2 rfl ((ot_bsl (cs := [.int .i64 z]) Tryz.underlying27 Tryz.sizeOf3 Tryz.zeroValue3 rfl rfl rfl rfl rfl).mem (H'' := fun g => ROw (.slice (some ⟨g, 0, none⟩) 1 1) [z] :: _) fun g w h => row_ow (α := Int) (m := 1) [z] rfl (one_i64 hz) rfl (by decide) h) rfl rfl (.inr fun _ => ha) (fun gn _ => ?_) ro_stop
       refine ro_op2 rfl (ot_appS (α := Int) (bytes := 8) (xs := x.inn) (ys := [z]) rfl Tryz.underlying27 (info_ex Tryz.inI) rfl fc (SF.own (xs := [z]) rfl fc) (by simp only [List.length_singleton]; omega) (by simp only [List.length_singleton]; omega) rfl rfl rfl) rfl rfl (.inr fun _ => ha) (fun ⟨A6, c6⟩ _ => ?_) ro_stop
       try dsimp only
       refine ro_op2 rfl (ot_c0 rfl rfl rfl Tryz.call38 (fun w hw => same_intsT bj.Ai A6 bj.ci c6 y.inn.length (x.inn ++ [z]).length y.inn (x.inn ++ [z]) (by rw [hatj]; rfl) rfl rfl w (SF.at_ (Xj _ _ fc).2.2.1 hw) (SF.at_ (SF.own rfl fc) hw))) rfl rfl (.inr fun _ => ha) (fun _ _ => ?_) ro_stop
       refine ro_run tab_ok ha 3 [(2, _), (3, _), (5, _), (9, _), (11, _), (12, _), (13, _), (78, _), (79, _)] rfl ⟨rfl, rfl, rfl, rfl, rfl, rfl, rfl, rfl, rfl, trivial⟩ ?_
       refine ro_s2 rfl (qs_ldb fc Tryz.isAgg3 rfl rfl (by rfl)) rfl rfl ha ?_
       refine ro_run tab_ok ha 2 [(2, _), (3, _), (5, _), (9, _), (11, _), (12, _), (13, _), (82, _)] rfl ⟨rfl, rfl, rfl, rfl, rfl, rfl, rfl, rfl, trivial⟩ ?_
       refine ro_as (t := 82) (v' := .bool false) rfl (congrArg Value.bool (decide_eq_false (by rw [hatj]; show ¬ (if x.status = 1 then 0 else x.status) = 1; split <;> omega))) ?_
       refine ro_endx <| xw_join () (trivial) ⟨rfl, rfl, rfl, rfl, rfl, rfl, rfl, rfl, trivial⟩ (fun _ h => h.msub ms)
      ·refine ro_op2 rfl ((ot_bsl (cs := [.int .i64 z]) Tryz.underlying27 Tryz.sizeOf3 Tryz.zeroValue3 rfl rfl rfl rfl rfl).mem (H'' := fun g => ROw (.slice (some ⟨g, 0, none⟩) 1 1) [z] :: _) fun g w h => row_ow (α := Int) (m := 1) [z] rfl (one_i64 hz) rfl (by decide) h) rfl rfl (.inr fun _ => ha) (fun gn _ => ?_) ro_stop
       refine ro_op2 rfl (ot_appS (α := Int) (bytes := 8) (xs := []) (ys := x.inn) (List.nil_append _).symm Tryz.underlying27 (info_ex Tryz.inI) rfl fc (.ro hmj.i) (by simp only [List.length_nil]; omega) (by simp only [List.length_nil]; omega) rfl rfl rfl) rfl rfl (.inr fun _ => ha) (fun ⟨A5, c5⟩ _ => ?_) ro_stop
       try dsimp only
       refine ro_op2 rfl (ot_appS (α := Int) (bytes := 8) (xs := x.inn) (ys := [z]) rfl Tryz.underlying27 (info_ex Tryz.inI) rfl fc (SF.own (xs := [z]) rfl fc) (by simp only [List.length_singleton]; omega) (by simp only [List.length_singleton]; omega) rfl rfl rfl) rfl rfl (.inr fun _ => ha) (fun ⟨A6, c6⟩ _ => ?_) ro_stop
       try dsimp only
       refine ro_op2 rfl (ot_c0 rfl rfl rfl Tryz.call38 (fun w hw => same_intsT bj.Ai A6 bj.ci c6 y.inn.length (x.inn ++ [z]).length y.inn (x.inn ++ [z]) (by rw [hatj]; rfl) rfl rfl w (SF.at_ (Xj _ _ fc).2.2.1 hw) (SF.at_ (SF.own rfl fc) hw))) rfl rfl (.inr fun _ => ha) (fun _ _ => ?_) ro_stop
       refine ro_run tab_ok ha 3 [(2, _), (3, _), (5, _), (9, _), (11, _), (12, _), (13, _), (78, _), (79, _)] rfl ⟨rfl, rfl, rfl, rfl, rfl, rfl, rfl, rfl, rfl, trivial⟩ ?_
       refine ro_s2 rfl (qs_ldb fc Tryz.isAgg3 rfl rfl (by rfl)) rfl rfl ha ?_
       refine ro_run tab_ok ha 2 [(2, _), (3, _), (5, _), (9, _), (11, _), (12, _), (13, _), (82, _)] rfl ⟨rfl, rfl, rfl, rfl, rfl, rfl, rfl, rfl, trivial⟩ ?_
       refine ro_as (t := 82) (v' := .bool false) rfl (congrArg Value.bool (decide_eq_false (by rw [hatj]; show ¬ (if x.status = 1 then 0 else x.status) = 1; split <;> omega))) ?_
       refine ro_endx <| xw_join () (trivial) ⟨rfl, rfl, rfl, rfl, rfl, rfl, rfl, rfl, trivial⟩ (fun _ h => h.msub ms)
     ·refine ro_op2 rfl ((ot_bsl (cs := [.int .i64 z]) Tryz.underlying27 Tryz.sizeOf3 Tryz.zeroValue3 rfl rfl rfl rfl rfl).mem (H'' := fun g => ROw (.slice (some ⟨g, 0, none⟩) 1 1) [z] :: _) fun g w h => row_ow (α := Int) (m := 1) [z] rfl (one_i64 hz) rfl (by decide) h) rfl rfl (.inr fun _ => ha) (fun gn _ => ?_) ro_stop
      refine ro_op2 rfl ((ot_bsl (cs := []) Tryz.underlying27 Tryz.sizeOf3 Tryz.zeroValue3 rfl rfl rfl rfl rfl).mem (H'' := fun g => ROw (.slice (some ⟨g, 0, none⟩) 0 0) ([] : List Int) :: _) fun g w h => row_ow (α := Int) (m := 0) [] rfl (by simp) rfl (by decide) h) rfl rfl (.inr fun _ => ha) (fun ge _ => ?_) ro_stop
      refine ro_op2 rfl (ot_appS (α := Int) (bytes := 8) (xs := []) (ys := x.inn) (List.nil_append _).symm Tryz.underlying27 (info_ex Tryz.inI) rfl fc (.ro hmj.i) (by simp only [List.length_nil]; omega) (by simp only [List.length_nil]; omega) rfl rfl rfl) rfl rfl (.inr fun _ => ha) (fun ⟨A5, c5⟩ _ => ?_) ro_stop
      try dsimp only
      refine ro_op2 rfl (ot_appS (α := Int) (bytes := 8) (xs := x.inn) (ys := [z]) rfl Tryz.underlying27 (info_ex Tryz.inI) rfl fc (SF.own (xs := [z]) rfl fc) (by simp only [List.length_singleton]; omega) (by simp only [List.length_singleton]; omega) rfl rfl rfl) rfl rfl (.inr fun _ => ha) (fun ⟨A6, c6⟩ _ => ?_) ro_stop
      try dsimp only
      refine ro_op2 rfl (ot_c0 rfl rfl rfl Tryz.call38 (fun w hw => same_intsT bj.Ai A6 bj.ci c6 y.inn.length (x.inn ++ [z]).length y.inn (x.inn ++ [z]) (by rw [hatj]; rfl) rfl rfl w (SF.at_ (Xj _ _ fc).2.2.1 hw) (SF.at_ (SF.own rfl fc) hw))) rfl rfl (.inr fun _ => ha) (fun _ _ => ?_) ro_stop
      refine ro_run tab_ok ha 3 [(2, _), (3, _), (5, _), (9, _), (11, _), (12, _), (13, _), (78, _), (79, _)] rfl ⟨rfl, rfl, rfl, rfl, rfl, rfl, rfl, rfl, rfl, trivial⟩ ?_
      refine ro_s2 rfl (qs_ldb fc Tryz.isAgg3 rfl rfl (by rfl)) rfl rfl ha ?_
      refine ro_run tab_ok ha 2 [(2, _), (3, _), (5, _), (9, _), (11, _), (12, _), (13, _), (82, _)] rfl ⟨rfl, rfl, rfl, rfl, rfl, rfl, rfl, rfl, trivial⟩ ?_
      refine ro_as (t := 82) (v' := .bool false) rfl (congrArg Value.bool (decide_eq_false (by rw [hatj]; show ¬ (if x.status = 1 then 0 else x.status) = 1; split <;> omega))) ?_
      refine ro_endx <| xw_join () (trivial) ⟨rfl, rfl, rfl, rfl, rfl, rfl, rfl, rfl, trivial⟩ (fun _ h => h.msub ms)
    ·rintro ⟨⟩ _
     try dsimp only
     refine cw_as (t := 82) (v' := .bool false) rfl (rfl) ?_
     refine cw_cond_f rfl ?_
     refine cw_skip (xw_then ?_)
     refine cw_cut (fun _ : Unit => True) (fun _ => [(2, .int .i64 (k : Int)), (3, .int .i64 z), (5, .pointer (some ⟨g2, 0, none⟩)), (9, .pointer (some ⟨g3, 0, none⟩)), (11, .int .i64 (j : Int)), (12, .pointer (some ⟨gx, 0, none⟩)), (13, .pointer (some ⟨gy, 0, none⟩))]) (fun _ => [RBox gx [.slice aj.Af x.frames.length aj.cf, .slice aj.Ab x.blocks.length aj.cb, .slice aj.Ai x.inn.length aj.ci, .slice aj.Ao x.out.length aj.co, .int .i64 x.status, .int .i64 x.trap] 29, RBox gy [.slice bj.Af y.frames.length bj.cf, .slice bj.Ab y.blocks.length bj.cb, .slice aj.Ai x.inn.length aj.ci, .slice bj.Ao y.out.length bj.co, .int .i64 x.status, .int .i64 y.trap] 29, RBox g1 [.slice Ap fs.length cp] 24, RBox g2 [.slice Aw l.length cw] 77, RBox g3 [.slice A l.length c] 77, ROw (.slice A l.length c) hsX, X]) ?_ ?_
     ·refine cw_drawq (.still 0 (.still 1 (.still 2 (.still 3 (.still 4 (.pick 5 (.still 6 (.pick 7 .done .stop)) .stop)))))) [7] rfl (by kernel_rfl) (by kernel_rfl) [RBox gx [.slice aj.Af x.frames.length aj.cf, .slice aj.Ab x.blocks.length aj.cb, .slice aj.Ai x.inn.length aj.ci, .slice aj.Ao x.out.length aj.co, .int .i64 x.status, .int .i64 x.trap] 29] ?_
      refine ro_run tab_ok ha 1 [(2, _), (3, _), (5, _), (9, _), (11, _), (12, _), (13, _), (83, _)] rfl ⟨rfl, rfl, rfl, rfl, rfl, rfl, rfl, rfl, trivial⟩ ?_
      refine ro_s2 rfl (qs_ldb fc Tryz.isAgg27 rfl rfl (by rfl)) rfl rfl ha ?_
      refine ro_run tab_ok ha 1 [(2, _), (3, _), (5, _), (9, _), (11, _), (12, _), (13, _), (84, _), (85, _)] rfl ⟨rfl, rfl, rfl, rfl, rfl, rfl, rfl, rfl, rfl, trivial⟩ ?_
      refine ro_s2 rfl (qs_ldb fc Tryz.isAgg3 rfl rfl (by rfl)) rfl rfl ha ?_
      refine ro_run tab_ok ha 1 [(2, _), (3, _), (5, _), (9, _), (11, _), (12, _), (13, _), (84, _), (86, _), (87, _)] rfl ⟨rfl, rfl, rfl, rfl, rfl, rfl, rfl, rfl, rfl, rfl, trivial⟩ ?_
      refine ro_op2 rfl (ot_stb _ fc Tryz.sizeOf27 rfl rfl rfl rfl rfl (by rfl) rfl (by rfl)) rfl rfl (.inr fun _ => ha) (fun _ _ => ?_) ro_stop
      refine ro_run tab_ok ha 1 [(2, _), (3, _), (5, _), (9, _), (11, _), (12, _), (13, _), (86, _), (88, _)] rfl ⟨rfl, rfl, rfl, rfl, rfl, rfl, rfl, rfl, rfl, trivial⟩ ?_
      refine ro_op2 rfl (ot_stb _ fc Tryz.sizeOf3 rfl rfl rfl rfl rfl (by rfl) rfl (by rfl)) rfl rfl (.inl rfl) (fun _ _ => ?_) ro_stop
      refine ro_endx <| xw_join () (trivial) ⟨rfl, rfl, rfl, rfl, rfl, rfl, rfl, trivial⟩ (fun _ h => h.msub ms)
     ·rintro ⟨⟩ _
      try dsimp only
      refine cw_seq ?_
      refine cw_region ?_
      refine rw_s (qs_ldbA (vs := [_, _, _, _, _, _]) fc Tryz.isAgg29 Tryz.sizeOf29 rfl rfl (by rfl) rfl) rfl rfl ?_
      refine rw_s (qs_ldbA (vs := [_, _, _, _, _, _]) fc Tryz.isAgg29 Tryz.sizeOf29 rfl rfl (by rfl) rfl) rfl rfl ?_
      refine rw_op (ot_c0 rfl rfl rfl Tryz.call37 (fun w hw => same_mach aj ⟨bj.Af, bj.cf, bj.Ab, bj.cb, aj.Ai, aj.ci, bj.Ao, bj.co⟩ x { y with inn := x.inn, status := x.status } (by rw [hatj]; rfl) w (hmj.ro hw) ⟨SF.at_ (Xj _ _ fc).1 hw, SF.at_ (Xj _ _ fc).2.1 hw, hw.ro hmj.i, SF.at_ (Xj _ _ fc).2.2.2 hw, hmj.s, Ij.2⟩)) rfl rfl (fun _ _ => ?_)
      refine rw_run tab_ok 1 [(2, _), (3, _), (5, _), (9, _), (11, _), (92, _)] rfl ⟨rfl, rfl, rfl, rfl, rfl, rfl, trivial⟩ ?_
      refine rw_end ?_
      refine cw_as (t := 92) (v' := .bool false) rfl (rfl) ?_
      refine cw_cond_f rfl ?_
      refine cw_skip (xw_blkn (xw_then ?_))
      refine cw_region ?_
      refine rw_run tab_ok 1 [(2, _), (3, _), (5, _), (9, _), (48, _)] rfl ⟨rfl, rfl, rfl, rfl, rfl, trivial⟩ ?_
      refine rw_s (qs_add rfl rfl rfl (by omega)) rfl rfl ?_
      refine rw_run tab_ok 1 [(2, _), (3, _), (5, _), (9, _), (11, _)] rfl ⟨rfl, rfl, rfl, rfl, rfl, trivial⟩ ?_
      refine rw_round (j + 1) (by show j + 1 ≤ _; omega) (by show _ - _ < _ - _; omega) ⟨rfl, rfl, rfl, rfl, rfl, trivial⟩ (fun w h => h.msub ms)
 ·obtain rfl : j = l.length := by omega
  refine cw_exit (xw_thenx (xw_thenx (xw_blk (xw_then ?_))))
  refine cw_seq ?_
  refine cw_region ?_
  refine rw_run tab_ok 1 [(8, _)] rfl ⟨rfl, trivial⟩ ?_
  refine rw_end ?_
  refine cw_ret ?_
  refine xw_ret1 Tryz.results18 (rv_tmp rfl) ?_
  intro w hw
  exact ⟨rfl, hw.below⟩
theorem worldSends_any (Ap Aw : Option Addr) (cp cw : Nat) (fs : List MFunc) (l : List MMach) (i z : Int) (hz : I64 z) (w : World) (hs : Sl w (.slice Ap fs.length cp) fs) (hl : Sl w (.slice Aw l.length cw) l) (hfit : FitW l) :
  Calls Tryz.prog 18 #[.agg #[.slice Ap fs.length cp], .agg #[.slice Aw l.length cw], .int .i64 i, .int .i64 z] w fun e w' => e = .returned (.bool true) ∧ Below w.heap.size w w' := by
 by_cases h : sendE fs l i z = 0
 ·exact worldSends_ok Ap Aw cp cw fs l i z hz w hs hl hfit h
 ·exact worldSends_bad Ap Aw cp cw fs l i z hz w hs hl hfit h
end Go.Proofs.YtmnkaalchcomlaaGreat
