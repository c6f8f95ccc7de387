/- Texts of one proof, one behind the other: lemmas alone. -/
import Derived.Test.YtpacloheigifkaaGreatM0D
import Derived.Tactics
import Derived.Tactics2
import Derived.Laws.Pointers
import Derived.Test.YtpacloheigifkaaGreatM34D
import Derived.Test.YtpacloheigifkaaGreatM20D

namespace Go.Proofs.YtpacloheigifkaaGreat
open Go.RowKit
section
theorem ur (why:Int) (w:World):(binOp .neq 20 (.iface 160 (.int .i64 why)) .nilIface).run Tryz.prog w= .ok (.bool true) w:=by kernel_rfl
theorem xu (w:World):(binOp .neq 20 .nilIface .nilIface).run Tryz.prog w= .ok (.bool false) w:=by kernel_rfl
theorem qY (why:Int) (w:World):(Instr.typeAssert (.iface 160 (.int .i64 why)) 20 160 true).run Tryz.prog w= .ok (.tuple #[.int .i64 why,.bool true]) w:=by kernel_rfl
section
variable {B:Nat} {w0:World} {H:List bj}
set_option maxRecDepth 100000 in
theorem ze (g : Nat) (why : Int) (w : World) (hw : Cw B w0 (am g [.int .i64 0] 160 :: H) w) :
    CallsD Tryz.prog 150 #[.pointer (some ⟨g, 0, none⟩)] (.panicking (mj why)) w fun e u' w' => (∃ v, e = .returned v) ∧ settle u' = .returning ∧ Cw B w0 (am g [.int .i64 why] 160 :: H) w' := by
  refine callsD_of_wpS Tryz.func150 rfl fun c₀ cs hu => ?_
  apply wpS_seq
  apply wpS_region
  simp [wpOpsS, go_sem, recoverD, hu, Tryz.ntmps150, Exit.thenS, mj]
  refine wpS_of_wp ?_
  refine (show CW Tryz.prog ⟨16, []⟩ B w0 _ _ [(0, .pointer (some ⟨g, 0, none⟩)), (1, .iface 160 (.int .i64 why))] (am g [.int .i64 0] 160 :: H) from ?_) _ w ?_ hw
  · refine ac ?_
    refine aa ?_
    refine rn 1 [0, 1, 5] rfl ?_
    refine af (nu rfl rfl rfl (ur why) (fun _ => rfl)) rfl rfl ?_
    refine ae ?_
    refine bR rfl ?_
    refine ac ?_
    refine aa ?_
    refine rn 1 [0, 1, 8] rfl ?_
    refine af (wF (qY why) rfl rfl) rfl rfl ?_
    refine rn 5 [0, 1, 2, 3] rfl ?_
    refine ae ?_
    refine ac ?_
    refine ac ?_
    refine aa ?_
    refine rn 2 [0, 1, 2, 13] rfl ?_
    refine ae ?_
    refine cP (t := 13) (v' := .bool false) rfl (rfl) ?_
    refine dg rfl ?_
    refine ax (ap ?_)
    refine aa ?_
    refine rn 1 [0, 15] rfl ?_
    refine ag (aH _ fc xD rfl rfl rfl rfl rfl (by rfl) rfl (by rfl)) rfl rfl (fun _ _ => ?_)
    intro a w hf hw
    refine ⟨hf.2.1, _, rfl, .tuple #[], ?_, ⟨_, rfl⟩, rfl, hw.msub ms⟩
    simp [results, Tryz.results150]
  · refine ⟨by simp, rfl, fun t v e => ?_⟩
    simp only [lk] at e
    split at e
    · rename_i h
      have h := Nat.eq_of_beq_eq_true h
      subst h
      injection e with e
      subst e
      exact ⟨by show _ < 16; decide, by simp⟩
    · split at e
      · rename_i h
        have h := Nat.eq_of_beq_eq_true h
        subst h
        injection e with e
        subst e
        exact ⟨by show _ < 16; decide, by simp⟩
      · cases e
set_option maxRecDepth 100000 in
theorem nM (g : Nat) (v0 : Value) (w : World) (hw : Cw B w0 (am g [v0] 160 :: H) w) :
    CallsD Tryz.prog 150 #[.pointer (some ⟨g, 0, none⟩)] .returning w fun e u' w' => (∃ v, e = .returned v) ∧ u' = .returning ∧ Cw B w0 (am g [v0] 160 :: H) w' := by
  refine callsD_of_wpS Tryz.func150 rfl fun c₀ cs hu => ?_
  apply wpS_seq
  apply wpS_region
  simp [wpOpsS, go_sem, recoverD, hu, Tryz.ntmps150, Exit.thenS]
  refine wpS_of_wp ?_
  refine (show CW Tryz.prog ⟨16, []⟩ B w0 _ _ [(0, .pointer (some ⟨g, 0, none⟩)), (1, .nilIface)] (am g [v0] 160 :: H) from ?_) _ w ?_ hw
  · refine ac ?_
    refine aa ?_
    refine rn 1 [0, 1, 5] rfl ?_
    refine af (nu rfl rfl rfl xu (fun _ => rfl)) rfl rfl ?_
    refine ae ?_
    refine cP (t := 6) (v' := .bool false) rfl (rfl) ?_
    refine dg rfl ?_
    refine ax ?_
    intro a w hf hw
    refine ⟨hf.2.1, .returning, ?_, .tuple #[], ?_, ⟨_, rfl⟩, rfl, hw.msub ms⟩
    · rw [← hu]
    · simp [results, Tryz.results150]
  · refine ⟨by simp, rfl, fun t v e => ?_⟩
    simp only [lk] at e
    split at e
    · rename_i h
      have h := Nat.eq_of_beq_eq_true h
      subst h
      injection e with e
      subst e
      exact ⟨by show _ < 16; decide, by simp⟩
    · split at e
      · rename_i h
        have h := Nat.eq_of_beq_eq_true h
        subst h
        injection e with e
        subst e
        exact ⟨by show _ < 16; decide, by simp⟩
      · cases e
end
end
section
structure ux (fs:List aC) (m:aD) (li:List aW) (x:aW) (kf:Nat):Prop where
 fr:m.frames=li++ [x]
 fn:x.func=kf
 hkf:kf<fs.length
 pc:0≤x.pc∧x.pc<(av fs kf).code.length
 nd:nO fs m.blocks.length {x with pc:=x.pc+1} (bB (av fs kf).code x.pc.toNat)
 bl:cK m.blocks=0
 sl:x.stack.length≤900
 st:∀y∈li,y.stack.length≤1000
 ol:m.out.length≤1000
 n6:li.length≤1000
 oa:aX (bB (av fs kf).code x.pc.toNat).a
 cl:(av fs kf).code.length≤1000
def CY:(aD×MA)⊕Int→Int
 | .inl _=>0
 | .inr why=>why
def Fq:(aD×MA)⊕Int→Int⊕aD
 | .inl r=> .inr r.1
 | .inr why=> .inl why
def FL (u:MA) (m:aD):List Value:= [.slice u.Af m.frames.length u.cf,.slice u.Ab m.blocks.length u.cb,.slice u.Ai m.inn.length u.ci,.slice u.Ao m.out.length u.co,.int .i64 m.status,.int .i64 m.trap]
def FK (u:MA) (m:aD):List bj:= [aj (.slice u.Af m.frames.length u.cf) m.frames,aj (.slice u.Ab m.blocks.length u.cb) m.blocks,aj (.slice u.Ai m.inn.length u.ci) m.inn,aj (.slice u.Ao m.out.length u.co) m.out]
def C0 (gd:Nat) (pv:Value) (T:TypeId) (H:List bj):(aD×MA)⊕Int→List bj
 | .inl r=>am gd [.slice r.2.Af r.1.frames.length r.2.cf,.slice r.2.Ab r.1.blocks.length r.2.cb,.slice r.2.Ai r.1.inn.length r.2.ci,.slice r.2.Ao r.1.out.length r.2.co,.int .i64 r.1.status,.int .i64 r.1.trap,pv] T::
   aj (.slice r.2.Af r.1.frames.length r.2.cf) r.1.frames::aj (.slice r.2.Ab r.1.blocks.length r.2.cb) r.1.blocks::aj (.slice r.2.Ai r.1.inn.length r.2.ci) r.1.inn::aj (.slice r.2.Ao r.1.out.length r.2.co) r.1.out::H
 | .inr _=>H
theorem yC {α β:Type} {f:α→β} {l:List α} {a:List β} {b:β} (h:l.map f=a++ [b]):∃l' q,l=l'++ [q]∧l'.map f=a∧f q=b:=by
 rcases List.eq_nil_or_concat l with h1 | ⟨l',q,h1⟩
 ·rw[h1] at h;simp at h
 have h1:l=l'++ [q]:=by rw[h1];simp
 subst h1
 rw[List.map_append] at h
 obtain⟨h2,h3⟩:=List.append_inj' h rfl
 simp at h3
 exact⟨l',q,rfl,h2,h3⟩
section
variable {B:Nat} {w0:World} {H:List bj}
theorem v7 {P:Program} {n:NF} {Q:Exit→Act→World→Prop} {env:de} {x:Code} {H':List bj} {A:Option Addr} {c:Nat} {li:List aW} {y:aW} (hp:cC H (aj (.slice A (li++ [y]).length c) (li++ [y])) H')
  (h:∀(l:List (aT×aW)) (Al As:Option Addr) (cl cs:Nat),l.map Prod.snd=li→fu l→CW P n B w0 x Q env (aj (.slice A (li++ [y]).length c) (l.map Prod.fst++ [(⟨y.func,y.pc,.slice Al y.locals.length cl,.slice As y.stack.length cs⟩:aT)])::aj (.slice As y.stack.length cs) y.stack::aj (.slice Al y.locals.length cl) y.locals::cR l::H')) :
  CW P n B w0 x Q env H:=by
 refine DM hp fun l hl hok=>?_
 obtain⟨l',⟨h0,y'⟩,rfl,hl',hy⟩:=yC hl
 have hy:y'=y:=hy
 subst hy
 have hok3:h0.func=y'.func∧h0.pc=y'.pc:=hok (h0,y') (by simp)
 obtain⟨a1,a2,hlv,hsv⟩:=h0
 obtain⟨e1,e2⟩:=hok3
 have e1:a1=y'.func:=e1
 have e2:a2=y'.pc:=e2
 subst e1 e2
 refine dO (fun w hw=>pS (hw.msub (T:=cR (l'++ [(⟨y'.func,y'.pc,hlv,hsv⟩,y')])::aj (.slice A (li++ [y']).length c) ((l'++ [((⟨y'.func,y'.pc,hlv,hsv⟩:aT),y')]).map Prod.fst)::H') ms)) ?_
 refine dD (fun w hw=>hw.oform (v:=hsv) (xs:=y'.stack) .b) ?_
 rintro⟨As,cs,rfl⟩
 refine dD (fun w hw=>hw.oform (v:=hlv) (xs:=y'.locals) .a) ?_
 rintro⟨Al,cl,rfl⟩
 simp only[List.map_append,List.map_cons,List.map_nil]
 refine dO (fun w hw=>?_) (h l' Al As cl cs hl' hok.left)
 exact hw.msub ms
set_option maxRecDepth 100000 in
set_option maxHeartbeats 8000000 in
theorem yy (gd : Nat) (u : MA) (m : aD) (Ap : Option Addr) (cp : Nat) (fs : List aC) (hp : bX w0 B (.slice Ap fs.length cp) fs) (li0 : List aW) (x : aW) (kf : Nat) (hS : ux fs m li0 x kf) (w : World)
    (hw : Cw B w0 (am gd [.slice u.Af m.frames.length u.cf, .slice u.Ab m.blocks.length u.cb, .slice u.Ai m.inn.length u.ci, .slice u.Ao m.out.length u.co, .int .i64 m.status, .int .i64 m.trap, .slice Ap fs.length cp] 159 ::
      aj (.slice u.Af m.frames.length u.cf) m.frames :: aj (.slice u.Ab m.blocks.length u.cb) m.blocks :: aj (.slice u.Ai m.inn.length u.ci) m.inn :: aj (.slice u.Ao m.out.length u.co) m.out :: H) w) :
    Calls Tryz.prog 116 #[.pointer (some ⟨gd, 0, none⟩)] w fun e w' => ∃ g, iO fs m = Fq g ∧ e = .returned (.int .i64 (CY g)) ∧ Cw B w0 (C0 gd (.slice Ap fs.length cp) 159 H g) w' := by
  obtain ⟨hfr, hfn, hkf, hpc, hnd, hbl, hsl, hst, hol, hn6, hoa, hcl⟩ := hS
  obtain ⟨fr, bl, inn, out, st, tr⟩ := m
  obtain ⟨xf, xp, xl, xs⟩ := x
  have hfr : fr = li0 ++ [⟨xf, xp, xl, xs⟩] := hfr
  subst hfr
  have hfn : xf = kf := hfn
  subst hfn
  have hpc : 0 ≤ xp ∧ xp < (av fs kf).code.length := hpc
  have hsl2 : xs.length ≤ 900 := hsl
  have hbl2 : cK bl = 0 := hbl
  have hol2 : out.length ≤ 1000 := hol
  have hoa2 : aX (bB (av fs kf).code xp.toNat).a := hoa
  have hnd2 : nO fs bl.length ⟨kf, xp + 1, xl, xs⟩ (bB (av fs kf).code xp.toNat) := hnd
  have hlen : (li0 ++ [(⟨kf, xp, xl, xs⟩ : aW)]).length = li0.length + 1 := by simp
  have hopT : be fs ⟨li0 ++ [⟨kf, xp, xl, xs⟩], bl, inn, out, st, tr⟩ = bB (av fs kf).code xp.toNat := by
    unfold be fE
    simp
  have hstep : iO fs ⟨li0 ++ [⟨kf, xp, xl, xs⟩], bl, inn, out, st, tr⟩ = if (bB (av fs kf).code xp.toNat).c = 21 then
      (if inn = [] then .inr ⟨li0 ++ [⟨kf, xp, xl, xs⟩], bl, inn, out, 1, tr⟩
      else .inr ⟨li0 ++ [⟨kf, xp + 1, xl, xs ++ [cF (inn.getD 0 0)]⟩], bl, inn.drop 1, out, 0, tr⟩)
      else bP fs ⟨li0 ++ [⟨kf, xp, xl, xs⟩], bl, inn, out, st, tr⟩ li0 ⟨kf, xp + 1, xl, xs⟩ (bB (av fs kf).code xp.toNat) := by
    unfold iO
    rw [hopT]
    unfold fE
    simp
  obtain ⟨o, ho⟩ : ∃ o, bB (av fs kf).code xp.toNat = o := ⟨_, rfl⟩
  rw [ho] at hnd2 hoa2 hstep
  obtain ⟨A1, c1, A2, c2, hlo, hco, hi, hcell⟩ := hp.fn hkf
  refine w9 Tryz.func116 rfl Tryz.ntmps116 rfl hw ?_
  dsimp only
  refine v7 fc fun li Al As cl cs hli hok => ?_
  rw [hlen]
  subst hli
  rw [List.length_map]
  have hli9 : li.length ≤ 1000 := by rw [List.length_map] at hn6; exact hn6
  have hst : ∀ q ∈ li, q.2.stack.length ≤ 1000 := fun q hq => hst q.2 (List.mem_map_of_mem hq)
  obtain ⟨k, hk⟩ : ∃ k, li.length = k := ⟨_, rfl⟩
  rw [hk]
  have hlm : (li.map Prod.fst).length = k := by rw [List.length_map]; exact hk
  have hlk : ∀ h : aT, (li.map Prod.fst ++ [h]).length = k + 1 := fun h => by rw [List.length_append, hlm]; rfl
  refine dD (fun w hw => m6 hw .a) ?_
  intro hwf
  have hwf : aT.wf _ := hwf
  have hxp1 : aX (xp + 1) := by unfold aX; omega
  have bp := bO hp
  have bc := bO hco
  obtain ⟨pn, hpn⟩ : ∃ pn : Nat, xp = pn := ⟨xp.toNat, by omega⟩
  subst hpn
  rw [Int.toNat_natCast] at ho
  have hpn : pn < (av fs kf).code.length := by omega
  refine ac ?_
  refine aa ?_
  refine ag (aZ Tryz.zeroValue160 rfl rfl) rfl rfl (fun g1 _ => ?_)
  refine ae ?_
  refine ac ?_
  refine aa ?_
  refine rn 1 [0, 2, 5] rfl ?_
  refine zV rfl rfl rfl rfl ?_
  refine ae ?_
  refine ac ?_
  refine aa ?_
  refine rn 1 [0, 2, 6] rfl ?_
  refine ag (bK rfl rfl rfl uJ (fun w hw => lU gd k u.cf u.Af (li.map Prod.fst ++ [(⟨kf, pn, .slice Al xl.length cl, .slice As xs.length cs⟩ : aT)]) w (fJ fc rfl w hw) (iZ hw fc) (SF.at_ (SF.own (hlk _) fc) hw))) rfl rfl (fun _ _ => ?_)
  refine rn 1 [0, 2, 3] rfl ?_
  refine ae ?_
  refine ac ?_
  refine bQ (.still 0 (.still 1 (.still 2 (.still 3 (.still 4 (.still 5 (.still 6 (.still 7 (.still 8 (.still 9 (.still 10 (.still 11 (.still 12 (.still 13 (.still 14 (.still 15 (.still 16 (.still 17 (.pick 18 (.pick 19 .done .stop) .stop))))))))))))))))))) [19] rfl (by kernel_rfl) (by kernel_rfl) ?_
  refine aV ha 4 [0, 2, 3, 11] rfl ?_
  refine an rfl (ai fc cQ rfl rfl (by rfl)) rfl rfl ha ?_
  refine aV ha 3 [0, 2, 3, 12, 15] rfl ?_
  refine an rfl (a8 (eq (j := 0) hlm fc rfl) rfl rfl ar) rfl rfl ha ?_
  refine an rfl (aO (k := kf) bI bq (.ro hp) (by omega) rfl rfl rfl) rfl rfl ha ?_
  refine aV ha 1 [0, 2, 3, 18] rfl ?_
  refine an rfl (a8 (fun w hw => hcell _ w hw 3 _ rfl) rfl rfl dE) rfl rfl ha ?_
  refine aV ha 3 [0, 2, 3, 19, 22] rfl ?_
  refine an rfl (a8 (eq (j := 1) hlm fc rfl) rfl rfl ar) rfl rfl ha ?_
  refine an rfl (aO (k := pn) bz cG (.ro hco) (by omega) rfl rfl rfl) rfl rfl ha ?_
  refine an rfl (cr (cs := [_, _]) (SF.op (.ro hco) (by omega)) rfl rfl gK cG) rfl rfl ha ?_
  refine aB rfl (aZ dP rfl rfl) rfl rfl (.inr fun _ => ha) (fun g2 _ => ?_) ay
  refine aB rfl (aH _ fc cG rfl rfl rfl rfl rfl (by rfl) rfl (by rfl)) rfl rfl (.inl rfl) (fun _ _ => ?_) ay
  refine cJ ?_
  refine ac ?_
  refine ac ?_
  refine aa ?_
  refine rn 1 [0, 2, 3, 4, 26] rfl ?_
  refine af (ai fc ar rfl rfl (by rfl)) rfl rfl ?_
  refine rn 1 [0, 2, 3, 4, 28] rfl ?_
  refine ae ?_
  rw [ho]
  refine aw rfl (fun h21 => ?_) (fun h21 => ?_)
  · rw [if_pos h21] at hstep
    rcases inn with _ | ⟨z, r⟩
    · rw [if_pos rfl] at hstep
      refine ac ?_
      refine ac ?_
      refine aa ?_
      refine rn 1 [2, 3, 29] rfl ?_
      refine ag (bC rfl rfl rfl Tryz.call152 (fun w hw => u9 gd (.slice u.Af (k + 1) u.cf) (.slice u.Ab bl.length u.cb) (.slice u.Ao out.length u.co) (.int .i64 tr) (.slice Ap fs.length cp) u.Ai u.ci st w (hw.msub (.s fc .r)))) rfl rfl (fun _ _ => ?_)
      refine ae ?_
      refine cP (t := 30) (v' := .bool false) rfl (rfl) ?_
      refine dg rfl ?_
      refine ax (ap ?_)
      refine ac ?_
      refine aa ?_
      refine ag (aH _ fc xD rfl rfl rfl rfl rfl (by rfl) rfl (by rfl)) rfl rfl (fun _ _ => ?_)
      refine ae ?_
      refine au (ak ?_)
      refine q7 (fun _ => by simp [go_sem]) (fun w hw => nM g1 _ w (hw.perm fc)) uF (oZ .a zA rfl) (fun w hw => ?_)
      exact ⟨.inl (⟨li.map Prod.snd ++ [(⟨kf, pn, xl, xs⟩ : aW)], bl, [], out, 1, tr⟩, u), hstep, rfl, fS (h := ⟨kf, pn, .slice Al xl.length cl, .slice As xs.length cs⟩) (x := ⟨kf, pn, xl, xs⟩) hk hok ⟨rfl, rfl⟩ (hw.msub ms)⟩
    · rw [if_neg (by simp)] at hstep
      refine ac ?_
      refine ac ?_
      refine aa ?_
      refine rn 1 [2, 3, 29] rfl ?_
      refine ag (bC rfl rfl rfl Tryz.call152 (fun w hw => u7 gd k (li.map Prod.fst) hlm u.Af As u.Ai u.cf cs u.ci (.slice u.Ab bl.length u.cb) (.slice u.Ao out.length u.co) (.int .i64 tr) (.slice Ap fs.length cp) st kf pn (.slice Al xl.length cl) xs z r w (by omega) (hw.msub (.s fc (.s fc (.s fc (.s fc .r))))))) rfl rfl (fun ⟨⟨A5, d5⟩, ⟨A6, d6⟩⟩ _ => ?_)
      try dsimp only
      refine ae ?_
      refine cP (t := 30) (v' := .bool true) rfl (rfl) ?_
      refine bR rfl ?_
      refine aa ?_
      refine rn 3 [2, 31, 33] rfl ?_
      refine af (a8 (eq (v := .int .i64 (pn : Int)) (j := 1) hlm fc rfl) rfl rfl ar) rfl rfl ?_
      refine af (bH rfl rfl rfl (by omega)) rfl rfl ?_
      refine rn 2 [2, 35, 37] rfl ?_
      refine ag (iS (α := aT) ⟨kf, pn, .slice Al xl.length cl, .slice A5 (xs ++ [cF z]).length d5⟩ ⟨kf, (pn : Int) + 1, .slice Al xl.length cl, .slice A5 (xs ++ [cF z]).length d5⟩ hlm fc ⟨⟨hwf.1.1, hxp1⟩, rfl, rfl⟩ aI rfl rfl rfl rfl rfl rfl rfl rfl) rfl rfl (fun _ _ => ?_)
      refine ae ?_
      refine ac ?_
      refine aa ?_
      refine ag (aH _ fc xD rfl rfl rfl rfl rfl (by rfl) rfl (by rfl)) rfl rfl (fun _ _ => ?_)
      refine ae ?_
      refine au (ak ?_)
      refine q7 (fun _ => by simp [go_sem]) (fun w hw => nM g1 _ w (hw.perm fc)) uF (oZ .a zA rfl) (fun w hw => ?_)
      exact ⟨.inl (⟨li.map Prod.snd ++ [(⟨kf, (pn : Int) + 1, xl, xs ++ [cF z]⟩ : aW)], bl, r, out, 0, tr⟩, ⟨u.Af, u.cf, u.Ab, u.cb, A6, d6, u.Ao, u.co⟩), hstep, rfl, fS (h := ⟨kf, (pn : Int) + 1, .slice Al xl.length cl, .slice A5 (xs ++ [cF z]).length d5⟩) (x := ⟨kf, (pn : Int) + 1, xl, xs ++ [cF z]⟩) hk hok ⟨rfl, rfl⟩ (hw.msub ms)⟩
  · rw [if_neg h21] at hstep
    refine ax (ap ?_)
    refine ac ?_
    refine aa ?_
    refine rn 3 [0, 2, 4, 38, 40] rfl ?_
    refine af (a8 (eq (v := .int .i64 (pn : Int)) (j := 1) hlm fc rfl) rfl rfl ar) rfl rfl ?_
    refine af (bH rfl rfl rfl (by omega)) rfl rfl ?_
    refine rn 2 [0, 2, 4, 42, 44] rfl ?_
    refine ag (iS (α := aT) ⟨kf, pn, .slice Al xl.length cl, .slice As xs.length cs⟩ ⟨kf, (pn : Int) + 1, .slice Al xl.length cl, .slice As xs.length cs⟩ hlm fc ⟨⟨hwf.1.1, hxp1⟩, rfl, rfl⟩ aI rfl rfl rfl rfl rfl rfl rfl rfl) rfl rfl (fun _ _ => ?_)
    refine ae ?_
    refine ac ?_
    refine aa ?_
    refine rn 1 [2, 4, 45] rfl ?_
    refine af (aQ (vs := [_, _]) fc gK cG rfl rfl (by rfl) rfl) rfl rfl ?_
    refine jU (ip rfl rfl rfl Tryz.call153 (fun w hw => CK (H := am g1 [.int .i64 0] 160 :: H) gd k li hk hok u.Af Al As Ap u.cf cl cs cp u ⟨li.map Prod.snd ++ [(⟨kf, pn, xl, xs⟩ : aW)], bl, inn, out, st, tr⟩ kf ((pn : Int) + 1) xl xs o fs hp hnd2 hbl2 hsl2 hol2 (by omega) hst hoa2 w (hw.msub ms))) rfl rfl (fun ch a w hf hp' => by obtain ⟨⟨why, h1, rfl⟩, h2⟩ := hp'; exact tL hf (fun _ => by simp [go_sem]) (ze g1 why w (h2.perm fc)) uF (oZ .a zA rfl) (fun w hw => ⟨.inr why, hstep.trans h1, rfl, hw.msub ms⟩)) (fun ⟨m', u'⟩ hr => ?_)
    try dsimp only
    refine ae ?_
    refine ac ?_
    refine aa ?_
    refine ag (aH _ fc xD rfl rfl rfl rfl rfl (by rfl) rfl (by rfl)) rfl rfl (fun _ _ => ?_)
    refine ae ?_
    refine au ?_
    refine q7 (fun _ => by simp [go_sem]) (fun w hw => nM g1 _ w (hw.perm fc)) uF (oZ .a zA rfl) (fun w hw => ?_)
    exact ⟨.inl (m', u'), hstep.trans hr, rfl, hw.msub ms⟩
end
end
section
theorem xP {fs:List aC} {m:aD} {why:Int} (h:iO fs m= .inl why):1≤why∧why≤5:=by
 unfold iO at h
 split at h
 ·split at h <;> cases h
 have:=p9 h
 omega
theorem rO {fs:List aC} {m:aD} {why:Int} (h1:¬m.status=2) (h2:¬m.status=3) (h:iO fs m= .inl why):dK fs m= {m with status:=3,trap:=why} :=by
 unfold dK
 rw[if_neg (fun h=>h.elim h1 h2),h]
theorem mm {fs:List aC} {m m':aD} (h1:¬m.status=2) (h2:¬m.status=3) (h:iO fs m= .inr m'):dK fs m=m':=by
 unfold dK
 rw[if_neg (fun h=>h.elim h1 h2),h]
set_option maxRecDepth 100000 in
set_option maxHeartbeats 4000000 in
theorem B6 (Ap:Option Addr) (cp:Nat) (fs:List aC) (a:MA) (m m2:aD) (hm2:dK fs m=m2) (w:World) (hs:Sl w (.slice Ap fs.length cp) fs) (hm:gk w.heap.size w a m) (hfit:rC m) (hS:¬(m.status=2∨m.status=3)→∃li x kf,ux fs m li x kf) :
  Calls Tryz.prog 73 #[.agg #[.slice Ap fs.length cp],.agg #[.slice a.Af m.frames.length a.cf,.slice a.Ab m.blocks.length a.cb,.slice a.Ai m.inn.length a.ci,.slice a.Ao m.out.length a.co,.int .i64 m.status,.int .i64 m.trap]] w fun e w'=> ∃g:MA,True∧
   e= .returned (.agg #[.slice g.Af m2.frames.length g.cf,.slice g.Ab m2.blocks.length g.cb,.slice g.Ai m2.inn.length g.ci,.slice g.Ao m2.out.length g.co,.int .i64 m2.status,.int .i64 m2.trap])∧
   Cw w.heap.size w [aj (.slice g.Af m2.frames.length g.cf) m2.frames,aj (.slice g.Ab m2.blocks.length g.cb) m2.blocks,aj (.slice g.Ai m2.inn.length g.ci) m2.inn,aj (.slice g.Ao m2.out.length g.co) m2.out] w':=by
 refine enter Tryz.func73 rfl Tryz.ntmps73 rfl ?_
 refine ac<|aa<|ag (bF rfl rfl rfl) rfl rfl (fun g1 _=>?_)
 refine ag (bF rfl rfl rfl) rfl rfl (fun g2 _=>?_)
 refine ag (aZ bW rfl rfl) rfl rfl (fun g3 _=>?_)
 refine ae<|ac<|ac<|aa<|rn 1 [2,3,4,8] rfl<|af (ai fc ar rfl rfl (by rfl)) rfl rfl ?_
 refine rn 2 [2,3,4,11] rfl<|bw (t:=11) rfl (fun h1=>?_) (fun h1=>?_)
 ·have h1:=of_decide_eq_true h1
  have e:m=m2:=by rw[←hm2];unfold dK;rw[if_pos (.inl h1)]
  subst e
  refine rn 4 [2,3,4,15] rfl<|ae<|bR rfl<|ac<|aa<|af (aQ (vs:= [_,_,_,_,_,_]) fc bd aF rfl rfl (by rfl) rfl) rfl rfl ?_
  refine ag (cO rfl rfl rfl qb (fun w hw=>kC a m w (gk.ro hw hm) hfit)) rfl rfl (fun g _=>?_)
  refine ag (aH _ fc aF rfl rfl rfl rfl rfl (by rfl) rfl (by rfl)) rfl rfl (fun _ _=>?_)
  refine ae<|au (ak ?_)
  refine aA xE (dp (cs:= [_,_,_,_,_,_]) fc bd aF rfl) ?_
  intro w hw
  exact⟨g,trivial,rfl,hw.msub ms⟩
 have h1:=of_decide_eq_false h1
 refine rn 1 [2,3,4,11,12] rfl<|af (ai fc ar rfl rfl (by rfl)) rfl rfl ?_
 refine rn 2 [2,3,4,15] rfl<|ae<|aw rfl (fun h2=>?_) (fun h2=>?_)
 ·have e:m=m2:=by rw[←hm2];unfold dK;rw[if_pos (.inr h2)]
  subst e
  refine ac<|aa<|af (aQ (vs:= [_,_,_,_,_,_]) fc bd aF rfl rfl (by rfl) rfl) rfl rfl ?_
  refine ag (cO rfl rfl rfl qb (fun w hw=>kC a m w (gk.ro hw hm) hfit)) rfl rfl (fun g _=>?_)
  refine ag (aH _ fc aF rfl rfl rfl rfl rfl (by rfl) rfl (by rfl)) rfl rfl (fun _ _=>?_)
  refine ae<|au (ak ?_)
  refine aA xE (dp (cs:= [_,_,_,_,_,_]) fc bd aF rfl) ?_
  intro w hw
  exact⟨g,trivial,rfl,hw.msub ms⟩
 obtain⟨li,x,kf,hS⟩:=hS (fun h=>h.elim h1 h2)
 refine ax (ap ?_)
 refine ac<|bQ (.still 0 (.still 2 (.pick 1 (.still 3 (.pick 4 (.calm 5 .done) .stop)) .stop))) [4,5] rfl (by kernel_rfl) (by kernel_rfl) ?_
 refine an rfl (aQ (vs:= [_,_,_,_,_,_]) fc bd aF rfl rfl (by rfl) rfl) rfl rfl ha ?_
 refine an rfl (aQ (vs:= [_]) fc cE cg rfl rfl (by rfl) rfl) rfl rfl ha ?_
 refine aB rfl (cO rfl rfl rfl qb (fun w hw=>kC a m w (gk.ro hw hm) hfit)) rfl rfl (.inr fun _=>ha) (fun g _=>?_) ay
 refine an rfl (cT (cs:= [_,_,_,_,_,_,_]) Dg Tryz.zeroValue159 rfl rfl (by rfl)) rfl rfl ha ?_
 refine aB rfl (bF rfl rfl rfl) rfl rfl (.inl rfl) (fun g4 _=>?_) ay
 refine dZ 1 [3,4,5] rfl<|cJ<|ac<|ac<|aa<|rn 1 [3,4,5,23] rfl<|ag (bC rfl rfl rfl Tryz.call116 (fun w hw=>yy g4 g m Ap cp fs hs li x kf hS w (hw.msub (.s fc (.s fc (.s fc (.s fc (.s fc .r)))))))) rfl rfl (fun g0 hg=>?_)
 refine rn 1 [3,4,5,6] rfl<|ae<|ac<|aa<|rn 2 [3,4,5,6,26] rfl<|ae ?_
 rcases g0 with ⟨m',u'⟩ | why
 ·have e:m'=m2:=by rw[←hm2];exact(mm h1 h2 hg).symm
  subst e
  dsimp only[CY,C0]
  refine cP (t:=26) (v':= .bool false) rfl (rfl) ?_
  refine dg rfl<|ax (ap ?_)
  refine ac<|aa<|rn 3 [4,35] rfl<|af (aQ (vs:= [_,_,_,_,_,_]) fc bd aF rfl rfl (by rfl) rfl) rfl rfl ?_
  refine ag (aH _ fc aF rfl rfl rfl rfl rfl (by rfl) rfl (by rfl)) rfl rfl (fun _ _=>?_)
  refine ae<|au<|aA xE (dp (cs:= [_,_,_,_,_,_]) fc bd aF rfl) ?_
  intro w hw
  exact⟨u',trivial,rfl,hw.msub ms⟩
 have e:=rO h1 h2 hg
 have hwhy:=xP hg
 rw[hm2] at e
 subst e
 dsimp only[CY,C0]
 refine cP (t:=26) (v':= .bool true) rfl (by show Value.bool (!decide (why=0))= .bool true;rw[decide_eq_false (show¬why=0 by omega)];rfl) ?_
 refine bR rfl<|ac<|aa<|af (aQ (vs:= [_,_,_,_,_,_]) fc bd aF rfl rfl (by rfl) rfl) rfl rfl ?_
 refine ag (cO rfl rfl rfl qb (fun w hw=>kC a m w (gk.ro hw hm) hfit)) rfl rfl (fun v _=>?_)
 refine ag (aZ bW rfl rfl) rfl rfl (fun g5 _=>?_)
 refine ag (aH _ fc aF rfl rfl rfl rfl rfl (by rfl) rfl (by rfl)) rfl rfl (fun _ _=>?_)
 refine ae<|ac<|aa<|rn 2 [4,7,29,30] rfl<|ag (aH _ fc aI rfl rfl rfl rfl rfl (by rfl) rfl (by rfl)) rfl rfl (fun _ _=>?_)
 refine rn 1 [4,7,29,31] rfl<|ag (aH _ fc aI rfl rfl rfl rfl rfl (by rfl) rfl (by rfl)) rfl rfl (fun _ _=>?_)
 refine ae<|ac<|aa<|af (aQ (vs:= [_,_,_,_,_,_]) fc bd aF rfl rfl (by rfl) rfl) rfl rfl ?_
 refine ag (aH _ fc aF rfl rfl rfl rfl rfl (by rfl) rfl (by rfl)) rfl rfl (fun _ _=>?_)
 refine ae<|au (ak ?_)
 refine aA xE (dp (cs:= [_,_,_,_,_,_]) fc bd aF rfl) ?_
 intro w hw
 exact⟨v,trivial,rfl,hw.msub ms⟩
end
end Go.Proofs.YtpacloheigifkaaGreat
