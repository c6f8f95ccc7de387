/- Texts of one proof, one behind the other: lemmas alone. -/
import Derived.Tactics
import Derived.Tactics2
import Derived.Laws.Pointers
import Derived.Test.YtpacloheigifkaaGreatM33V
import Derived.Test.YtpacloheigifkaaGreatM20V

-- Mc9
/- Machines: a step: what is given up is met. -/
namespace Go.Proofs.YtpacloheigifkaaGreat
open Go.RowKit
theorem Tryz.ifaceNe (why : Int) (w : World) : (binOp .neq 20 (.iface 160 (.int .i64 why)) .nilIface).run Tryz.prog w = .ok (.bool true) w := by kernel_rfl
theorem Tryz.nilNe (w : World) : (binOp .neq 20 .nilIface .nilIface).run Tryz.prog w = .ok (.bool false) w := by kernel_rfl
theorem Tryz.assertTrap (why : Int) (w : World) : (Instr.typeAssert (.iface 160 (.int .i64 why)) 20 160 true).run Tryz.prog w = .ok (.tuple #[.int .i64 why, .bool true]) w := by kernel_rfl
section
variable {B : Nat} {w0 : World} {H : List Res}
set_option maxRecDepth 100000 in
theorem catch_pan (g : Nat) (why : Int) (w : World) (hw : Cw B w0 (RBox g [.int .i64 0] 160 :: H) w) :
    CallsD Tryz.prog 150 #[.pointer (some ⟨g, 0, none⟩)] (.panicking (trapP why)) w fun e u' w' => (∃ v, e = .returned v) ∧ settle u' = .returning ∧ Cw B w0 (RBox g [.int .i64 why] 160 :: H) w' := by
  refine callsD_of_wpS Tryz.func150 rfl fun c₀ cs hu => ?_
  apply wpS_seq
  apply wpS_region
  simp [wpOpsS, go_sem, recoverD, hu, Tryz.ntmps150, Exit.thenS, trapP]
  refine wpS_of_wp ?_
  refine (show CW Tryz.prog ⟨16, []⟩ B w0 _ _ [(0, .pointer (some ⟨g, 0, none⟩)), (1, .iface 160 (.int .i64 why))] (RBox g [.int .i64 0] 160 :: H) from ?_) _ w ?_ hw
  · refine cw_seq ?_
    refine cw_region ?_
    refine rw_run tab_ok 1 [(0, _), (1, _), (5, _)] rfl ⟨rfl, rfl, rfl, trivial⟩ ?_
    refine rw_s (qs_binop rfl rfl rfl (Tryz.ifaceNe why) (fun _ => rfl)) rfl rfl ?_
    refine rw_end ?_
    refine cw_cond_t rfl ?_
    refine cw_seq ?_
    refine cw_region ?_
    refine rw_run tab_ok 1 [(0, _), (1, _), (8, _)] rfl ⟨rfl, rfl, rfl, trivial⟩ ?_
    refine rw_s (qs_tassert (Tryz.assertTrap why) rfl rfl) rfl rfl ?_
    refine rw_run tab_ok 5 [(0, _), (1, _), (2, _), (3, _)] rfl ⟨rfl, rfl, rfl, rfl, trivial⟩ ?_
    refine rw_end ?_
    refine cw_seq ?_
    refine cw_seq ?_
    refine cw_region ?_
    refine rw_run tab_ok 2 [(0, _), (1, _), (2, _), (13, _)] rfl ⟨rfl, rfl, rfl, rfl, trivial⟩ ?_
    refine rw_end ?_
    refine cw_as (t := 13) (v' := .bool false) rfl (rfl) ?_
    refine cw_cond_f rfl ?_
    refine cw_skip (xw_then ?_)
    refine cw_region ?_
    refine rw_run tab_ok 1 [(0, _), (15, _)] rfl ⟨rfl, rfl, trivial⟩ ?_
    refine rw_op (ot_stb _ fc Tryz.sizeOf160 rfl rfl rfl rfl rfl (by rfl) rfl (by rfl)) rfl rfl (fun _ _ => ?_)
    intro a w hf hw
    refine ⟨hf.2.1, _, rfl, .tuple #[], ?_, ⟨_, rfl⟩, rfl, hw.msub ms⟩
    simp [results, Tryz.results150]
  · refine ⟨by simp, rfl, fun t v e => ?_⟩
    simp only [lk] at e
    split at e
    · rename_i h
      have h := Nat.eq_of_beq_eq_true h
      subst h
      injection e with e
      subst e
      exact ⟨by show _ < 16; decide, by simp⟩
    · split at e
      · rename_i h
        have h := Nat.eq_of_beq_eq_true h
        subst h
        injection e with e
        subst e
        exact ⟨by show _ < 16; decide, by simp⟩
      · cases e
set_option maxRecDepth 100000 in
theorem catch_idle (g : Nat) (v0 : Value) (w : World) (hw : Cw B w0 (RBox g [v0] 160 :: H) w) :
    CallsD Tryz.prog 150 #[.pointer (some ⟨g, 0, none⟩)] .returning w fun e u' w' => (∃ v, e = .returned v) ∧ u' = .returning ∧ Cw B w0 (RBox g [v0] 160 :: H) w' := by
  refine callsD_of_wpS Tryz.func150 rfl fun c₀ cs hu => ?_
  apply wpS_seq
  apply wpS_region
  simp [wpOpsS, go_sem, recoverD, hu, Tryz.ntmps150, Exit.thenS]
  refine wpS_of_wp ?_
  refine (show CW Tryz.prog ⟨16, []⟩ B w0 _ _ [(0, .pointer (some ⟨g, 0, none⟩)), (1, .nilIface)] (RBox g [v0] 160 :: H) from ?_) _ w ?_ hw
  · refine cw_seq ?_
    refine cw_region ?_
    refine rw_run tab_ok 1 [(0, _), (1, _), (5, _)] rfl ⟨rfl, rfl, rfl, trivial⟩ ?_
    refine rw_s (qs_binop rfl rfl rfl Tryz.nilNe (fun _ => rfl)) rfl rfl ?_
    refine rw_end ?_
    refine cw_as (t := 6) (v' := .bool false) rfl (rfl) ?_
    refine cw_cond_f rfl ?_
    refine cw_skip ?_
    intro a w hf hw
    refine ⟨hf.2.1, .returning, ?_, .tuple #[], ?_, ⟨_, rfl⟩, rfl, hw.msub ms⟩
    · rw [← hu]
    · simp [results, Tryz.results150]
  · refine ⟨by simp, rfl, fun t v e => ?_⟩
    simp only [lk] at e
    split at e
    · rename_i h
      have h := Nat.eq_of_beq_eq_true h
      subst h
      injection e with e
      subst e
      exact ⟨by show _ < 16; decide, by simp⟩
    · split at e
      · rename_i h
        have h := Nat.eq_of_beq_eq_true h
        subst h
        injection e with e
        subst e
        exact ⟨by show _ < 16; decide, by simp⟩
      · cases e
end
end Go.Proofs.YtpacloheigifkaaGreat
-- Mc10
/- Machines: a step of a doer. -/
namespace Go.Proofs.YtpacloheigifkaaGreat
open Go.RowKit
structure StepOk (fs : List MFunc) (m : MMach) (li : List MFrame) (x : MFrame) (kf : Nat) : Prop where
 fr : m.frames = li ++ [x]
 fn : x.func = kf
 hkf : kf < fs.length
 pc : 0 ≤ x.pc ∧ x.pc < (fnAt fs kf).code.length
 nd : Needs fs m.blocks.length { x with pc := x.pc + 1 } (opAt (fnAt fs kf).code x.pc.toNat)
 bl : checkB m.blocks = 0
 sl : x.stack.length ≤ 900
 st : ∀ y ∈ li, y.stack.length ≤ 1000
 ol : m.out.length ≤ 1000
 n6 : li.length ≤ 1000
 oa : I64 (opAt (fnAt fs kf).code x.pc.toNat).a
 cl : (fnAt fs kf).code.length ≤ 1000
def stV : (MMach × MA) ⊕ Int → Int
 | .inl _ => 0
 | .inr why => why
def stR : (MMach × MA) ⊕ Int → Int ⊕ MMach
 | .inl r => .inr r.1
 | .inr why => .inl why
def machB (u : MA) (m : MMach) : List Value := [.slice u.Af m.frames.length u.cf, .slice u.Ab m.blocks.length u.cb, .slice u.Ai m.inn.length u.ci, .slice u.Ao m.out.length u.co, .int .i64 m.status, .int .i64 m.trap]
def machP (u : MA) (m : MMach) : List Res := [ROw (.slice u.Af m.frames.length u.cf) m.frames, ROw (.slice u.Ab m.blocks.length u.cb) m.blocks, ROw (.slice u.Ai m.inn.length u.ci) m.inn, ROw (.slice u.Ao m.out.length u.co) m.out]
def stH (gd : Nat) (pv : Value) (T : TypeId) (H : List Res) : (MMach × MA) ⊕ Int → List Res
 | .inl r => RBox gd [.slice r.2.Af r.1.frames.length r.2.cf, .slice r.2.Ab r.1.blocks.length r.2.cb, .slice r.2.Ai r.1.inn.length r.2.ci, .slice r.2.Ao r.1.out.length r.2.co, .int .i64 r.1.status, .int .i64 r.1.trap, pv] T ::
   ROw (.slice r.2.Af r.1.frames.length r.2.cf) r.1.frames :: ROw (.slice r.2.Ab r.1.blocks.length r.2.cb) r.1.blocks :: ROw (.slice r.2.Ai r.1.inn.length r.2.ci) r.1.inn :: ROw (.slice r.2.Ao r.1.out.length r.2.co) r.1.out :: H
 | .inr _ => H
theorem map_split {α β : Type} {f : α → β} {l : List α} {a : List β} {b : β} (h : l.map f = a ++ [b]) : ∃ l' q, l = l' ++ [q] ∧ l'.map f = a ∧ f q = b := by
 rcases List.eq_nil_or_concat l with h1 | ⟨l', q, h1⟩
 ·rw [h1] at h; simp at h
 ·have h1 : l = l' ++ [q] := by rw [h1]; simp
  subst h1
  rw [List.map_append] at h
  obtain ⟨h2, h3⟩ := List.append_inj' h rfl
  simp at h3
  exact ⟨l', q, rfl, h2, h3⟩
section
variable {B : Nat} {w0 : World} {H : List Res}
theorem cw_opnF {P : Program} {n : NF} {Q : Exit → Act → World → Prop} {env : Env} {x : Code} {H' : List Res} {A : Option Addr} {c : Nat} {li : List MFrame} {y : MFrame} (hp : Foc H (ROw (.slice A (li ++ [y]).length c) (li ++ [y])) H')
  (h : ∀ (l : List (HFrame × MFrame)) (Al As : Option Addr) (cl cs : Nat), l.map Prod.snd = li → OpnOk l → CW P n B w0 x Q env (ROw (.slice A (li ++ [y]).length c) (l.map Prod.fst ++ [(⟨y.func, y.pc, .slice Al y.locals.length cl, .slice As y.stack.length cs⟩ : HFrame)]) :: ROw (.slice As y.stack.length cs) y.stack :: ROw (.slice Al y.locals.length cl) y.locals :: RPL l :: H')) :
  CW P n B w0 x Q env H := by
 refine cw_opn hp fun l hl hok => ?_
 obtain ⟨l', ⟨h0, y'⟩, rfl, hl', hy⟩ := map_split hl
 have hy : y' = y := hy
 subst hy
 have hok3 : h0.func = y'.func ∧ h0.pc = y'.pc := hok (h0, y') (by simp)
 obtain ⟨a1, a2, hlv, hsv⟩ := h0
 obtain ⟨e1, e2⟩ := hok3
 have e1 : a1 = y'.func := e1
 have e2 : a2 = y'.pc := e2
 subst e1 e2
 refine cw_mem (fun w hw => open_top (hw.msub (T := RPL (l' ++ [(⟨y'.func, y'.pc, hlv, hsv⟩, y')]) :: ROw (.slice A (li ++ [y']).length c) ((l' ++ [((⟨y'.func, y'.pc, hlv, hsv⟩ : HFrame), y')]).map Prod.fst) :: H') ms)) ?_
 refine cw_fact (fun w hw => hw.oform (v := hsv) (xs := y'.stack) .b) ?_
 rintro ⟨As, cs, rfl⟩
 refine cw_fact (fun w hw => hw.oform (v := hlv) (xs := y'.locals) .a) ?_
 rintro ⟨Al, cl, rfl⟩
 simp only [List.map_append, List.map_cons, List.map_nil]
 refine cw_mem (fun w hw => ?_) (h l' Al As cl cs hl' hok.left)
 exact hw.msub ms
set_option maxRecDepth 100000 in
set_option maxHeartbeats 8000000 in
theorem mstep_any (gd : Nat) (u : MA) (m : MMach) (Ap : Option Addr) (cp : Nat) (fs : List MFunc) (hp : SlB w0 B (.slice Ap fs.length cp) fs) (li0 : List MFrame) (x : MFrame) (kf : Nat) (hS : StepOk fs m li0 x kf) (w : World)
    (hw : Cw B w0 (RBox gd [.slice u.Af m.frames.length u.cf, .slice u.Ab m.blocks.length u.cb, .slice u.Ai m.inn.length u.ci, .slice u.Ao m.out.length u.co, .int .i64 m.status, .int .i64 m.trap, .slice Ap fs.length cp] 159 ::
      ROw (.slice u.Af m.frames.length u.cf) m.frames :: ROw (.slice u.Ab m.blocks.length u.cb) m.blocks :: ROw (.slice u.Ai m.inn.length u.ci) m.inn :: ROw (.slice u.Ao m.out.length u.co) m.out :: H) w) :
    Calls Tryz.prog 116 #[.pointer (some ⟨gd, 0, none⟩)] w fun e w' => ∃ g, stepT fs m = stR g ∧ e = .returned (.int .i64 (stV g)) ∧ Cw B w0 (stH gd (.slice Ap fs.length cp) 159 H g) w' := by
  obtain ⟨hfr, hfn, hkf, hpc, hnd, hbl, hsl, hst, hol, hn6, hoa, hcl⟩ := hS
  obtain ⟨fr, bl, inn, out, st, tr⟩ := m
  obtain ⟨xf, xp, xl, xs⟩ := x
  have hfr : fr = li0 ++ [⟨xf, xp, xl, xs⟩] := hfr
  subst hfr
  have hfn : xf = kf := hfn
  subst hfn
  have hpc : 0 ≤ xp ∧ xp < (fnAt fs kf).code.length := hpc
  have hsl2 : xs.length ≤ 900 := hsl
  have hbl2 : checkB bl = 0 := hbl
  have hol2 : out.length ≤ 1000 := hol
  have hoa2 : I64 (opAt (fnAt fs kf).code xp.toNat).a := hoa
  have hnd2 : Needs fs bl.length ⟨kf, xp + 1, xl, xs⟩ (opAt (fnAt fs kf).code xp.toNat) := hnd
  have hlen : (li0 ++ [(⟨kf, xp, xl, xs⟩ : MFrame)]).length = li0.length + 1 := by simp
  have hopT : opOf fs ⟨li0 ++ [⟨kf, xp, xl, xs⟩], bl, inn, out, st, tr⟩ = opAt (fnAt fs kf).code xp.toNat := by
    unfold opOf frTop
    simp
  have hstep : stepT fs ⟨li0 ++ [⟨kf, xp, xl, xs⟩], bl, inn, out, st, tr⟩ = if (opAt (fnAt fs kf).code xp.toNat).c = 21 then
      (if inn = [] then .inr ⟨li0 ++ [⟨kf, xp, xl, xs⟩], bl, inn, out, 1, tr⟩
      else .inr ⟨li0 ++ [⟨kf, xp + 1, xl, xs ++ [numV (inn.getD 0 0)]⟩], bl, inn.drop 1, out, 0, tr⟩)
      else doOp fs ⟨li0 ++ [⟨kf, xp, xl, xs⟩], bl, inn, out, st, tr⟩ li0 ⟨kf, xp + 1, xl, xs⟩ (opAt (fnAt fs kf).code xp.toNat) := by
    unfold stepT
    rw [hopT]
    unfold frTop
    simp
  obtain ⟨o, ho⟩ : ∃ o, opAt (fnAt fs kf).code xp.toNat = o := ⟨_, rfl⟩
  rw [ho] at hnd2 hoa2 hstep
  obtain ⟨A1, c1, A2, c2, hlo, hco, hi, hcell⟩ := hp.fn hkf
  refine enter_ownD Tryz.func116 rfl Tryz.ntmps116 rfl hw ?_
  dsimp only
  refine cw_opnF fc fun li Al As cl cs hli hok => ?_
  rw [hlen]
  subst hli
  rw [List.length_map]
  have hli9 : li.length ≤ 1000 := by rw [List.length_map] at hn6; exact hn6
  have hst : ∀ q ∈ li, q.2.stack.length ≤ 1000 := fun q hq => hst q.2 (List.mem_map_of_mem hq)
  obtain ⟨k, hk⟩ : ∃ k, li.length = k := ⟨_, rfl⟩
  rw [hk]
  have hlm : (li.map Prod.fst).length = k := by rw [List.length_map]; exact hk
  have hlk : ∀ h : HFrame, (li.map Prod.fst ++ [h]).length = k + 1 := fun h => by rw [List.length_append, hlm]; rfl
  refine cw_fact (fun w hw => last_wf hw .a) ?_
  intro hwf
  have hwf : HFrame.wf _ := hwf
  have hxp1 : I64 (xp + 1) := by unfold I64; omega
  have bp := len_bd hp
  have bc := len_bd hco
  obtain ⟨pn, hpn⟩ : ∃ pn : Nat, xp = pn := ⟨xp.toNat, by omega⟩
  subst hpn
  rw [Int.toNat_natCast] at ho
  have hpn : pn < (fnAt fs kf).code.length := by omega
  refine cw_seq ?_
  refine cw_region ?_
  refine rw_op (ot_alloc Tryz.zeroValue160 rfl rfl) rfl rfl (fun g1 _ => ?_)
  refine rw_end ?_
  refine cw_seq ?_
  refine cw_region ?_
  refine rw_run tab_ok 1 [(0, _), (2, _), (5, _)] rfl ⟨rfl, rfl, rfl, trivial⟩ ?_
  refine rw_defer rfl rfl rfl rfl ?_
  refine rw_end ?_
  refine cw_seq ?_
  refine cw_region ?_
  refine rw_run tab_ok 1 [(0, _), (2, _), (6, _)] rfl ⟨rfl, rfl, rfl, trivial⟩ ?_
  refine rw_op (ot_c0 rfl rfl rfl Tryz.call151 (fun w hw => dtop_any gd k u.cf u.Af (li.map Prod.fst ++ [(⟨kf, pn, .slice Al xl.length cl, .slice As xs.length cs⟩ : HFrame)]) w (box_cell fc rfl w hw) (box_lt hw fc) (SF.at_ (SF.own (hlk _) fc) hw))) rfl rfl (fun _ _ => ?_)
  refine rw_run tab_ok 1 [(0, _), (2, _), (3, _)] rfl ⟨rfl, rfl, rfl, trivial⟩ ?_
  refine rw_end ?_
  refine cw_seq ?_
  refine cw_draw (.still 0 (.still 1 (.still 2 (.still 3 (.still 4 (.still 5 (.still 6 (.still 7 (.still 8 (.still 9 (.still 10 (.still 11 (.still 12 (.still 13 (.still 14 (.still 15 (.still 16 (.still 17 (.pick 18 (.pick 19 .done .stop) .stop))))))))))))))))))) [19] rfl (by kernel_rfl) (by kernel_rfl) ?_
  refine ro_run tab_ok ha 4 [(0, _), (2, _), (3, _), (11, _)] rfl ⟨rfl, rfl, rfl, rfl, trivial⟩ ?_
  refine ro_s2 rfl (qs_ldb fc Tryz.isAgg22 rfl rfl (by rfl)) rfl rfl ha ?_
  refine ro_run tab_ok ha 3 [(0, _), (2, _), (3, _), (12, _), (15, _)] rfl ⟨rfl, rfl, rfl, rfl, rfl, trivial⟩ ?_
  refine ro_s2 rfl (qs_ld (last_cell (j := 0) hlm fc rfl) rfl rfl Tryz.isAgg3) rfl rfl ha ?_
  refine ro_s2 rfl (qs_idx (k := kf) Tryz.underlying22 Tryz.sizeOf110 (.ro hp) (by omega) rfl rfl rfl) rfl rfl ha ?_
  refine ro_run tab_ok ha 1 [(0, _), (2, _), (3, _), (18, _)] rfl ⟨rfl, rfl, rfl, rfl, trivial⟩ ?_
  refine ro_s2 rfl (qs_ld (fun w hw => hcell _ w hw 3 _ rfl) rfl rfl Tryz.isAgg108) rfl rfl ha ?_
  refine ro_run tab_ok ha 3 [(0, _), (2, _), (3, _), (19, _), (22, _)] rfl ⟨rfl, rfl, rfl, rfl, rfl, trivial⟩ ?_
  refine ro_s2 rfl (qs_ld (last_cell (j := 1) hlm fc rfl) rfl rfl Tryz.isAgg3) rfl rfl ha ?_
  refine ro_s2 rfl (qs_idx (k := pn) Tryz.underlying108 Tryz.sizeOf49 (.ro hco) (by omega) rfl rfl rfl) rfl rfl ha ?_
  refine ro_s2 rfl (qs_ldA (cs := [_, _]) (SF.op (.ro hco) (by omega)) rfl rfl Tryz.isAgg49 Tryz.sizeOf49) rfl rfl ha ?_
  refine ro_op2 rfl (ot_alloc Tryz.zeroValue49 rfl rfl) rfl rfl (.inr fun _ => ha) (fun g2 _ => ?_) ro_stop
  refine ro_op2 rfl (ot_stb _ fc Tryz.sizeOf49 rfl rfl rfl rfl rfl (by rfl) rfl (by rfl)) rfl rfl (.inl rfl) (fun _ _ => ?_) ro_stop
  refine ro_end ?_
  refine cw_seq ?_
  refine cw_seq ?_
  refine cw_region ?_
  refine rw_run tab_ok 1 [(0, _), (2, _), (3, _), (4, _), (26, _)] rfl ⟨rfl, rfl, rfl, rfl, rfl, trivial⟩ ?_
  refine rw_s (qs_ldb fc Tryz.isAgg3 rfl rfl (by rfl)) rfl rfl ?_
  refine rw_run tab_ok 1 [(0, _), (2, _), (3, _), (4, _), (28, _)] rfl ⟨rfl, rfl, rfl, rfl, rfl, trivial⟩ ?_
  refine rw_end ?_
  rw [ho]
  refine cw_condD rfl (fun h21 => ?_) (fun h21 => ?_)
  · rw [if_pos h21] at hstep
    rcases inn with _ | ⟨z, r⟩
    · rw [if_pos rfl] at hstep
      refine cw_seq ?_
      refine cw_seq ?_
      refine cw_region ?_
      refine rw_run tab_ok 1 [(2, _), (3, _), (29, _)] rfl ⟨rfl, rfl, rfl, trivial⟩ ?_
      refine rw_op (ot_call rfl rfl rfl Tryz.call152 (fun w hw => dfetch_none gd (.slice u.Af (k + 1) u.cf) (.slice u.Ab bl.length u.cb) (.slice u.Ao out.length u.co) (.int .i64 tr) (.slice Ap fs.length cp) u.Ai u.ci st w (hw.msub (.s fc .r)))) rfl rfl (fun _ _ => ?_)
      refine rw_end ?_
      refine cw_as (t := 30) (v' := .bool false) rfl (rfl) ?_
      refine cw_cond_f rfl ?_
      refine cw_skip (xw_then ?_)
      refine cw_seq ?_
      refine cw_region ?_
      refine rw_op (ot_stb _ fc Tryz.sizeOf160 rfl rfl rfl rfl rfl (by rfl) rfl (by rfl)) rfl rfl (fun _ _ => ?_)
      refine rw_end ?_
      refine cw_ret (xw_thenr ?_)
      refine xw_retD (fun _ => by simp [go_sem]) (fun w hw => catch_idle g1 _ w (hw.perm fc)) Tryz.results116 (rv_box1 .a Tryz.isAgg160 rfl) (fun w hw => ?_)
      exact ⟨.inl (⟨li.map Prod.snd ++ [(⟨kf, pn, xl, xs⟩ : MFrame)], bl, [], out, 1, tr⟩, u), hstep, rfl, fin_op (h := ⟨kf, pn, .slice Al xl.length cl, .slice As xs.length cs⟩) (x := ⟨kf, pn, xl, xs⟩) hk hok ⟨rfl, rfl⟩ (hw.msub ms)⟩
    · rw [if_neg (by simp)] at hstep
      refine cw_seq ?_
      refine cw_seq ?_
      refine cw_region ?_
      refine rw_run tab_ok 1 [(2, _), (3, _), (29, _)] rfl ⟨rfl, rfl, rfl, trivial⟩ ?_
      refine rw_op (ot_call rfl rfl rfl Tryz.call152 (fun w hw => dfetch_some gd k (li.map Prod.fst) hlm u.Af As u.Ai u.cf cs u.ci (.slice u.Ab bl.length u.cb) (.slice u.Ao out.length u.co) (.int .i64 tr) (.slice Ap fs.length cp) st kf pn (.slice Al xl.length cl) xs z r w (by omega) (hw.msub (.s fc (.s fc (.s fc (.s fc .r))))))) rfl rfl (fun ⟨⟨A5, d5⟩, ⟨A6, d6⟩⟩ _ => ?_)
      try dsimp only
      refine rw_end ?_
      refine cw_as (t := 30) (v' := .bool true) rfl (rfl) ?_
      refine cw_cond_t rfl ?_
      refine cw_region ?_
      refine rw_run tab_ok 3 [(2, _), (31, _), (33, _)] rfl ⟨rfl, rfl, rfl, trivial⟩ ?_
      refine rw_s (qs_ld (last_cell (v := .int .i64 (pn : Int)) (j := 1) hlm fc rfl) rfl rfl Tryz.isAgg3) rfl rfl ?_
      refine rw_s (qs_add rfl rfl rfl (by omega)) rfl rfl ?_
      refine rw_run tab_ok 2 [(2, _), (35, _), (37, _)] rfl ⟨rfl, rfl, rfl, trivial⟩ ?_
      refine rw_op (ot_stL (α := HFrame) ⟨kf, pn, .slice Al xl.length cl, .slice A5 (xs ++ [numV z]).length d5⟩ ⟨kf, (pn : Int) + 1, .slice Al xl.length cl, .slice A5 (xs ++ [numV z]).length d5⟩ hlm fc ⟨⟨hwf.1.1, hxp1⟩, rfl, rfl⟩ Tryz.sizeOf3 rfl rfl rfl rfl rfl rfl rfl rfl) rfl rfl (fun _ _ => ?_)
      refine rw_end ?_
      refine cw_seq ?_
      refine cw_region ?_
      refine rw_op (ot_stb _ fc Tryz.sizeOf160 rfl rfl rfl rfl rfl (by rfl) rfl (by rfl)) rfl rfl (fun _ _ => ?_)
      refine rw_end ?_
      refine cw_ret (xw_thenr ?_)
      refine xw_retD (fun _ => by simp [go_sem]) (fun w hw => catch_idle g1 _ w (hw.perm fc)) Tryz.results116 (rv_box1 .a Tryz.isAgg160 rfl) (fun w hw => ?_)
      exact ⟨.inl (⟨li.map Prod.snd ++ [(⟨kf, (pn : Int) + 1, xl, xs ++ [numV z]⟩ : MFrame)], bl, r, out, 0, tr⟩, ⟨u.Af, u.cf, u.Ab, u.cb, A6, d6, u.Ao, u.co⟩), hstep, rfl, fin_op (h := ⟨kf, (pn : Int) + 1, .slice Al xl.length cl, .slice A5 (xs ++ [numV z]).length d5⟩) (x := ⟨kf, (pn : Int) + 1, xl, xs ++ [numV z]⟩) hk hok ⟨rfl, rfl⟩ (hw.msub ms)⟩
  · rw [if_neg h21] at hstep
    refine cw_skip (xw_then ?_)
    refine cw_seq ?_
    refine cw_region ?_
    refine rw_run tab_ok 3 [(0, _), (2, _), (4, _), (38, _), (40, _)] rfl ⟨rfl, rfl, rfl, rfl, rfl, trivial⟩ ?_
    refine rw_s (qs_ld (last_cell (v := .int .i64 (pn : Int)) (j := 1) hlm fc rfl) rfl rfl Tryz.isAgg3) rfl rfl ?_
    refine rw_s (qs_add rfl rfl rfl (by omega)) rfl rfl ?_
    refine rw_run tab_ok 2 [(0, _), (2, _), (4, _), (42, _), (44, _)] rfl ⟨rfl, rfl, rfl, rfl, rfl, trivial⟩ ?_
    refine rw_op (ot_stL (α := HFrame) ⟨kf, pn, .slice Al xl.length cl, .slice As xs.length cs⟩ ⟨kf, (pn : Int) + 1, .slice Al xl.length cl, .slice As xs.length cs⟩ hlm fc ⟨⟨hwf.1.1, hxp1⟩, rfl, rfl⟩ Tryz.sizeOf3 rfl rfl rfl rfl rfl rfl rfl rfl) rfl rfl (fun _ _ => ?_)
    refine rw_end ?_
    refine cw_seq ?_
    refine cw_region ?_
    refine rw_run tab_ok 1 [(2, _), (4, _), (45, _)] rfl ⟨rfl, rfl, rfl, trivial⟩ ?_
    refine rw_s (qs_ldbA (vs := [_, _]) fc Tryz.isAgg49 Tryz.sizeOf49 rfl rfl (by rfl) rfl) rfl rfl ?_
    refine rw_opp (ot_callp rfl rfl rfl Tryz.call153 (fun w hw => dop_any (H := RBox g1 [.int .i64 0] 160 :: H) gd k li hk hok u.Af Al As Ap u.cf cl cs cp u ⟨li.map Prod.snd ++ [(⟨kf, pn, xl, xs⟩ : MFrame)], bl, inn, out, st, tr⟩ kf ((pn : Int) + 1) xl xs o fs hp hnd2 hbl2 hsl2 hol2 (by omega) hst hoa2 w (hw.msub ms))) rfl rfl (fun ch a w hf hp' => by obtain ⟨⟨why, h1, rfl⟩, h2⟩ := hp'; exact leave_panicD hf (fun _ => by simp [go_sem]) (catch_pan g1 why w (h2.perm fc)) Tryz.results116 (rv_box1 .a Tryz.isAgg160 rfl) (fun w hw => ⟨.inr why, hstep.trans h1, rfl, hw.msub ms⟩)) (fun ⟨m', u'⟩ hr => ?_)
    try dsimp only
    refine rw_end ?_
    refine cw_seq ?_
    refine cw_region ?_
    refine rw_op (ot_stb _ fc Tryz.sizeOf160 rfl rfl rfl rfl rfl (by rfl) rfl (by rfl)) rfl rfl (fun _ _ => ?_)
    refine rw_end ?_
    refine cw_ret ?_
    refine xw_retD (fun _ => by simp [go_sem]) (fun w hw => catch_idle g1 _ w (hw.perm fc)) Tryz.results116 (rv_box1 .a Tryz.isAgg160 rfl) (fun w hw => ?_)
    exact ⟨.inl (m', u'), hstep.trans hr, rfl, hw.msub ms⟩
end
end Go.Proofs.YtpacloheigifkaaGreat
-- Mc11
/- Machines: a step of a machine; the machine at first. -/
namespace Go.Proofs.YtpacloheigifkaaGreat
open Go.RowKit
theorem stepT_inl {fs : List MFunc} {m : MMach} {why : Int} (h : stepT fs m = .inl why) : 1 ≤ why ∧ why ≤ 5 := by
 unfold stepT at h
 split at h
 ·split at h <;> cases h
 ·have := doOp_inl h
  omega
theorem stepM_inl {fs : List MFunc} {m : MMach} {why : Int} (h1 : ¬ m.status = 2) (h2 : ¬ m.status = 3) (h : stepT fs m = .inl why) : stepM fs m = { m with status := 3, trap := why } := by
 unfold stepM
 rw [if_neg (fun h => h.elim h1 h2), h]
theorem stepM_inr {fs : List MFunc} {m m' : MMach} (h1 : ¬ m.status = 2) (h2 : ¬ m.status = 3) (h : stepT fs m = .inr m') : stepM fs m = m' := by
 unfold stepM
 rw [if_neg (fun h => h.elim h1 h2), h]
set_option maxRecDepth 100000 in
set_option maxHeartbeats 4000000 in
theorem raw_any (Ap : Option Addr) (cp : Nat) (fs : List MFunc) (a : MA) (m m2 : MMach) (hm2 : stepM fs m = m2) (w : World) (hs : Sl w (.slice Ap fs.length cp) fs) (hm : MIn w.heap.size w a m) (hfit : FitM m) (hS : ¬ (m.status = 2 ∨ m.status = 3) → ∃ li x kf, StepOk fs m li x kf) :
  Calls Tryz.prog 73 #[.agg #[.slice Ap fs.length cp], .agg #[.slice a.Af m.frames.length a.cf, .slice a.Ab m.blocks.length a.cb, .slice a.Ai m.inn.length a.ci, .slice a.Ao m.out.length a.co, .int .i64 m.status, .int .i64 m.trap]] w fun e w' => ∃ g : MA, True ∧
   e = .returned (.agg #[.slice g.Af m2.frames.length g.cf, .slice g.Ab m2.blocks.length g.cb, .slice g.Ai m2.inn.length g.ci, .slice g.Ao m2.out.length g.co, .int .i64 m2.status, .int .i64 m2.trap]) ∧
   Cw w.heap.size w [ROw (.slice g.Af m2.frames.length g.cf) m2.frames, ROw (.slice g.Ab m2.blocks.length g.cb) m2.blocks, ROw (.slice g.Ai m2.inn.length g.ci) m2.inn, ROw (.slice g.Ao m2.out.length g.co) m2.out] w' := by
 refine enter Tryz.func73 rfl Tryz.ntmps73 rfl ?_
 refine cw_seq ?_
 refine cw_region ?_
 refine rw_op (ot_box rfl rfl rfl) rfl rfl (fun g1 _ => ?_)
 refine rw_op (ot_box rfl rfl rfl) rfl rfl (fun g2 _ => ?_)
 refine rw_op (ot_alloc Tryz.zeroValue29 rfl rfl) rfl rfl (fun g3 _ => ?_)
 refine rw_end ?_
 refine cw_seq ?_
 refine cw_seq ?_
 refine cw_region ?_
 refine rw_run tab_ok 1 [(2, _), (3, _), (4, _), (8, _)] rfl ⟨rfl, rfl, rfl, rfl, trivial⟩ ?_
 refine rw_s (qs_ldb fc Tryz.isAgg3 rfl rfl (by rfl)) rfl rfl ?_
 refine rw_run tab_ok 2 [(2, _), (3, _), (4, _), (11, _)] rfl ⟨rfl, rfl, rfl, rfl, trivial⟩ ?_
 refine rw_split (t := 11) rfl (fun h1 => ?_) (fun h1 => ?_)
 ·have h1 := of_decide_eq_true h1
  have e : m = m2 := by rw [← hm2]; unfold stepM; rw [if_pos (.inl h1)]
  subst e
  refine rw_run tab_ok 4 [(2, _), (3, _), (4, _), (15, _)] rfl ⟨rfl, rfl, rfl, rfl, trivial⟩ ?_
  refine rw_end ?_
  refine cw_cond_t rfl ?_
  refine cw_seq ?_
  refine cw_region ?_
  refine rw_s (qs_ldbA (vs := [_, _, _, _, _, _]) fc Tryz.isAgg29 Tryz.sizeOf29 rfl rfl (by rfl) rfl) rfl rfl ?_
  refine rw_op (ot_c rfl rfl rfl Tryz.call115 (fun w hw => ownm_any a m w (MIn.ro hw hm) hfit)) rfl rfl (fun g _ => ?_)
  refine rw_op (ot_stb _ fc Tryz.sizeOf29 rfl rfl rfl rfl rfl (by rfl) rfl (by rfl)) rfl rfl (fun _ _ => ?_)
  refine rw_end ?_
  refine cw_ret (xw_thenr ?_)
  refine xw_ret1 Tryz.results73 (rv_box (cs := [_, _, _, _, _, _]) fc Tryz.isAgg29 Tryz.sizeOf29 rfl) ?_
  intro w hw
  exact ⟨g, trivial, rfl, hw.msub ms⟩
 ·have h1 := of_decide_eq_false h1
  refine rw_run tab_ok 1 [(2, _), (3, _), (4, _), (11, _), (12, _)] rfl ⟨rfl, rfl, rfl, rfl, rfl, trivial⟩ ?_
  refine rw_s (qs_ldb fc Tryz.isAgg3 rfl rfl (by rfl)) rfl rfl ?_
  refine rw_run tab_ok 2 [(2, _), (3, _), (4, _), (15, _)] rfl ⟨rfl, rfl, rfl, rfl, trivial⟩ ?_
  refine rw_end ?_
  refine cw_condD rfl (fun h2 => ?_) (fun h2 => ?_)
  ·have e : m = m2 := by rw [← hm2]; unfold stepM; rw [if_pos (.inr h2)]
   subst e
   refine cw_seq ?_
   refine cw_region ?_
   refine rw_s (qs_ldbA (vs := [_, _, _, _, _, _]) fc Tryz.isAgg29 Tryz.sizeOf29 rfl rfl (by rfl) rfl) rfl rfl ?_
   refine rw_op (ot_c rfl rfl rfl Tryz.call115 (fun w hw => ownm_any a m w (MIn.ro hw hm) hfit)) rfl rfl (fun g _ => ?_)
   refine rw_op (ot_stb _ fc Tryz.sizeOf29 rfl rfl rfl rfl rfl (by rfl) rfl (by rfl)) rfl rfl (fun _ _ => ?_)
   refine rw_end ?_
   refine cw_ret (xw_thenr ?_)
   refine xw_ret1 Tryz.results73 (rv_box (cs := [_, _, _, _, _, _]) fc Tryz.isAgg29 Tryz.sizeOf29 rfl) ?_
   intro w hw
   exact ⟨g, trivial, rfl, hw.msub ms⟩
  ·obtain ⟨li, x, kf, hS⟩ := hS (fun h => h.elim h1 h2)
   refine cw_skip (xw_then ?_)
   refine cw_seq ?_
   refine cw_draw (.still 0 (.still 2 (.pick 1 (.still 3 (.pick 4 (.calm 5 .done) .stop)) .stop))) [4, 5] rfl (by kernel_rfl) (by kernel_rfl) ?_
   refine ro_s2 rfl (qs_ldbA (vs := [_, _, _, _, _, _]) fc Tryz.isAgg29 Tryz.sizeOf29 rfl rfl (by rfl) rfl) rfl rfl ha ?_
   refine ro_s2 rfl (qs_ldbA (vs := [_]) fc Tryz.isAgg24 Tryz.sizeOf24 rfl rfl (by rfl) rfl) rfl rfl ha ?_
   refine ro_op2 rfl (ot_c rfl rfl rfl Tryz.call115 (fun w hw => ownm_any a m w (MIn.ro hw hm) hfit)) rfl rfl (.inr fun _ => ha) (fun g _ => ?_) ro_stop
   refine ro_s2 rfl (qs_bst (cs := [_, _, _, _, _, _, _]) plT159 Tryz.zeroValue159 rfl rfl (by rfl)) rfl rfl ha ?_
   refine ro_op2 rfl (ot_box rfl rfl rfl) rfl rfl (.inl rfl) (fun g4 _ => ?_) ro_stop
   refine ro_runC tab_ok 1 [(3, _), (4, _), (5, _)] rfl ⟨rfl, rfl, rfl, trivial⟩ ?_
   refine ro_end ?_
   refine cw_seq ?_
   refine cw_seq ?_
   refine cw_region ?_
   refine rw_run tab_ok 1 [(3, _), (4, _), (5, _), (23, _)] rfl ⟨rfl, rfl, rfl, rfl, trivial⟩ ?_
   refine rw_op (ot_call rfl rfl rfl Tryz.call116 (fun w hw => mstep_any g4 g m Ap cp fs hs li x kf hS w (hw.msub (.s fc (.s fc (.s fc (.s fc (.s fc .r)))))))) rfl rfl (fun g0 hg => ?_)
   refine rw_run tab_ok 1 [(3, _), (4, _), (5, _), (6, _)] rfl ⟨rfl, rfl, rfl, rfl, trivial⟩ ?_
   refine rw_end ?_
   refine cw_seq ?_
   refine cw_region ?_
   refine rw_run tab_ok 2 [(3, _), (4, _), (5, _), (6, _), (26, _)] rfl ⟨rfl, rfl, rfl, rfl, rfl, trivial⟩ ?_
   refine rw_end ?_
   rcases g0 with ⟨m', u'⟩ | why
   ·have e : m' = m2 := by rw [← hm2]; exact (stepM_inr h1 h2 hg).symm
    subst e
    dsimp only [stV, stH]
    refine cw_as (t := 26) (v' := .bool false) rfl (rfl) ?_
    refine cw_cond_f rfl ?_
    refine cw_skip (xw_then ?_)
    refine cw_seq ?_
    refine cw_region ?_
    refine rw_run tab_ok 3 [(4, _), (35, _)] rfl ⟨rfl, rfl, trivial⟩ ?_
    refine rw_s (qs_ldbA (vs := [_, _, _, _, _, _]) fc Tryz.isAgg29 Tryz.sizeOf29 rfl rfl (by rfl) rfl) rfl rfl ?_
    refine rw_op (ot_stb _ fc Tryz.sizeOf29 rfl rfl rfl rfl rfl (by rfl) rfl (by rfl)) rfl rfl (fun _ _ => ?_)
    refine rw_end ?_
    refine cw_ret ?_
    refine xw_ret1 Tryz.results73 (rv_box (cs := [_, _, _, _, _, _]) fc Tryz.isAgg29 Tryz.sizeOf29 rfl) ?_
    intro w hw
    exact ⟨u', trivial, rfl, hw.msub ms⟩
   ·have e := stepM_inl h1 h2 hg
    have hwhy := stepT_inl hg
    rw [hm2] at e
    subst e
    dsimp only [stV, stH]
    refine cw_as (t := 26) (v' := .bool true) rfl (by show Value.bool (!decide (why = 0)) = .bool true; rw [decide_eq_false (show ¬ why = 0 by omega)]; rfl) ?_
    refine cw_cond_t rfl ?_
    refine cw_seq ?_
    refine cw_region ?_
    refine rw_s (qs_ldbA (vs := [_, _, _, _, _, _]) fc Tryz.isAgg29 Tryz.sizeOf29 rfl rfl (by rfl) rfl) rfl rfl ?_
    refine rw_op (ot_c rfl rfl rfl Tryz.call115 (fun w hw => ownm_any a m w (MIn.ro hw hm) hfit)) rfl rfl (fun v _ => ?_)
    refine rw_op (ot_alloc Tryz.zeroValue29 rfl rfl) rfl rfl (fun g5 _ => ?_)
    refine rw_op (ot_stb _ fc Tryz.sizeOf29 rfl rfl rfl rfl rfl (by rfl) rfl (by rfl)) rfl rfl (fun _ _ => ?_)
    refine rw_end ?_
    refine cw_seq ?_
    refine cw_region ?_
    refine rw_run tab_ok 2 [(4, _), (7, _), (29, _), (30, _)] rfl ⟨rfl, rfl, rfl, rfl, trivial⟩ ?_
    refine rw_op (ot_stb _ fc Tryz.sizeOf3 rfl rfl rfl rfl rfl (by rfl) rfl (by rfl)) rfl rfl (fun _ _ => ?_)
    refine rw_run tab_ok 1 [(4, _), (7, _), (29, _), (31, _)] rfl ⟨rfl, rfl, rfl, rfl, trivial⟩ ?_
    refine rw_op (ot_stb _ fc Tryz.sizeOf3 rfl rfl rfl rfl rfl (by rfl) rfl (by rfl)) rfl rfl (fun _ _ => ?_)
    refine rw_end ?_
    refine cw_seq ?_
    refine cw_region ?_
    refine rw_s (qs_ldbA (vs := [_, _, _, _, _, _]) fc Tryz.isAgg29 Tryz.sizeOf29 rfl rfl (by rfl) rfl) rfl rfl ?_
    refine rw_op (ot_stb _ fc Tryz.sizeOf29 rfl rfl rfl rfl rfl (by rfl) rfl (by rfl)) rfl rfl (fun _ _ => ?_)
    refine rw_end ?_
    refine cw_ret (xw_thenr ?_)
    refine xw_ret1 Tryz.results73 (rv_box (cs := [_, _, _, _, _, _]) fc Tryz.isAgg29 Tryz.sizeOf29 rfl) ?_
    intro w hw
    exact ⟨v, trivial, rfl, hw.msub ms⟩
end Go.Proofs.YtpacloheigifkaaGreat
