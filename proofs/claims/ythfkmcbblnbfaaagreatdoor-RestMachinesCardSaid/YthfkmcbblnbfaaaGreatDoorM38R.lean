/- Lemmas of one proof. -/
import Derived.Test.YthfkmcbblnbfaaaGreatDoorM0R
import Derived.Tactics
import Derived.Tactics2
import Derived.Laws.Pointers
import Derived.Test.YthfkmcbblnbfaaaGreatDoorM37R
import Derived.Test.YthfkmcbblnbfaaaGreatDoorM21R

namespace Go.Proofs.YthfkmcbblnbfaaaGreatDoor
set_option maxRecDepth 100000
set_option maxHeartbeats 16000000
open Go.RowKit
section
theorem Dh (why:Int) (w:World):(binOp .neq 20 (.iface 213 (.int .i64 why)) .nilIface).run Tryz.prog w= .ok (.bool true) w:=by kernel_rfl
theorem yu (w:World):(binOp .neq 20 .nilIface .nilIface).run Tryz.prog w= .ok (.bool false) w:=by kernel_rfl
theorem yx (why:Int) (w:World):(Instr.typeAssert (.iface 213 (.int .i64 why)) 20 213 true).run Tryz.prog w= .ok (.tuple #[.int .i64 why,.bool true]) w:=by kernel_rfl
section
variable {B:Nat} {w0:World} {H:List aJ}
theorem IX (g : Nat) (why : Int) (w : World) (hw : Cw B w0 (am g [.int .i64 0] 213 :: H) w) :
    CallsD Tryz.prog 215 #[.pointer (some ⟨g, 0, none⟩)] (.panicking (qz why)) w fun e u' w' => (∃ v, e = .returned v) /\ settle u' = .returning /\ Cw B w0 (am g [.int .i64 why] 213 :: H) w' := by
  refine callsD_of_wpS Tryz.func215 rfl fun c₀ cs hu => ?_
  apply wpS_seq
  apply wpS_region
  simp [wpOpsS, go_sem, recoverD, hu, Tryz.ntmps215, Exit.thenS, qz]
  refine wpS_of_wp ?_
  refine (show CW Tryz.prog ⟨16, []⟩ B w0 _ _ [(0, .pointer (some ⟨g, 0, none⟩)), (1, .iface 213 (.int .i64 why))] (am g [.int .i64 0] 213 :: H) from ?_) _ w ?_ hw
  · refine aj ?_
    refine sE (mL rfl rfl rfl (Dh why) (fun _ => rfl)) <| aj ?_
    refine aU rfl <| aj ?_
    refine sE (xr (yx why) rfl rfl) <| aj ?_
    refine cK (t := 13) (v' := .bool false) rfl (rfl) ?_
    refine cu rfl <| aj ?_
    intro a w hf hw
    refine ⟨hf.2.1, _, rfl, .tuple #[], ?_, ⟨_, rfl⟩, rfl, hw.msub ms⟩
    simp [results, Tryz.results215]
  · refine ⟨by simp, rfl, fun t v e => ?_⟩
    simp only [lk] at e
    split at e
    · rename_i h
      have h := bW h
      subst h
      injection e with e
      subst e
      exact ⟨by show _ < 16; decide, by simp⟩
    · split at e
      · rename_i h
        have h := bW h
        subst h
        injection e with e
        subst e
        exact ⟨by show _ < 16; decide, by simp⟩
      · cases e
theorem sU (g : Nat) (v0 : Value) (w : World) (hw : Cw B w0 (am g [v0] 213 :: H) w) :
    CallsD Tryz.prog 215 #[.pointer (some ⟨g, 0, none⟩)] .returning w fun e u' w' => (∃ v, e = .returned v) /\ u' = .returning /\ Cw B w0 (am g [v0] 213 :: H) w' := by
  refine callsD_of_wpS Tryz.func215 rfl fun c₀ cs hu => ?_
  apply wpS_seq
  apply wpS_region
  simp [wpOpsS, go_sem, recoverD, hu, Tryz.ntmps215, Exit.thenS]
  refine wpS_of_wp ?_
  refine (show CW Tryz.prog ⟨16, []⟩ B w0 _ _ [(0, .pointer (some ⟨g, 0, none⟩)), (1, .nilIface)] (am g [v0] 213 :: H) from ?_) _ w ?_ hw
  · refine aj ?_
    refine sE (mL rfl rfl rfl yu (fun _ => rfl)) <| aj ?_
    refine cK (t := 6) (v' := .bool false) rfl (rfl) ?_
    refine cu rfl <| aj ?_
    intro a w hf hw
    refine ⟨hf.2.1, .returning, ?_, .tuple #[], ?_, ⟨_, rfl⟩, rfl, hw.msub ms⟩
    · rw [← hu]
    · simp [results, Tryz.results215]
  · refine ⟨by simp, rfl, fun t v e => ?_⟩
    simp only [lk] at e
    split at e
    · rename_i h
      have h := bW h
      subst h
      injection e with e
      subst e
      exact ⟨by show _ < 16; decide, by simp⟩
    · split at e
      · rename_i h
        have h := bW h
        subst h
        injection e with e
        subst e
        exact ⟨by show _ < 16; decide, by simp⟩
      · cases e
end
end
section
structure Dl (fs:List au) (m:az) (li:List aG) (x:aG) (kf:Nat):Prop where
 fr:m.F=li++ [x]
 fn:x.func=kf
 hkf:kf<fs.length
 pc:0<=x.pc/\x.pc<(aq fs kf).C.length
 nd:tg fs m.B.length {x with pc:=x.pc+1} (bx (aq fs kf).C x.pc.toNat)
 bl:cz m.B=0
 sl:x.K.length<=900
 st:∀y∈li,y.K.length<=1000
 ol:m.out.length<=1000
 n6:li.length<=1000
 oa:aH (bx (aq fs kf).C x.pc.toNat).a
 cl:(aq fs kf).C.length<=1000
def Of:(az×MA)⊕Int->Int
 | .inl _=>0
 | .inr why=>why
def Rb:(az×MA)⊕Int->Int⊕az
 | .inl r=> .inr r.1
 | .inr why=> .inl why
def Oh (gd:Nat) (pv:Value) (T:TypeId) (H:List aJ):(az×MA)⊕Int->List aJ
 | .inl r=>am gd [.slice r.2.Af r.1.F.length r.2.cf,.slice r.2.Ab r.1.B.length r.2.cb,.slice r.2.Ai r.1.I.length r.2.ci,.slice r.2.Ao r.1.out.length r.2.co,.int .i64 r.1.S,.int .i64 r.1.T,pv] T::
   ak (.slice r.2.Af r.1.F.length r.2.cf) r.1.F::ak (.slice r.2.Ab r.1.B.length r.2.cb) r.1.B::ak (.slice r.2.Ai r.1.I.length r.2.ci) r.1.I::ak (.slice r.2.Ao r.1.out.length r.2.co) r.1.out::H
 | .inr _=>H
theorem If {α β:Type} {f:α->β} {l:List α} {a:List β} {b:β} (h:l.map f=a++ [b]):∃l' q,l=l'++ [q]/\l'.map f=a/\f q=b:=by
 rcases fj l with h1 | ⟨l',q,h1⟩
 ·rw[h1] at h;simp at h
 have h1:l=l'++ [q]:=by rw[h1];simp
 subst h1
 rw[fd] at h
 obtain⟨h2,h3⟩:=List.append_inj' h rfl
 simp at h3
 exact⟨l',q,rfl,h2,h3⟩
section
variable {B:Nat} {w0:World} {H:List aJ}
theorem Fe {P:Program} {n:NF} {Q:Exit->Act->World->Prop} {env:cy} {x:Code} {H':List aJ} {A:Option Addr} {c:Nat} {li:List aG} {y:aG} (hp:cN H (ak (.slice A (li++ [y]).length c) (li++ [y])) H')
  (h:∀(l:List (aB×aG)) (Al As:Option Addr) (cl cs:Nat),l.map Prod.snd=li->gZ l->CW P n B w0 x Q env (ak (.slice A (li++ [y]).length c) (l.map Prod.fst++ [(⟨y.func,y.pc,.slice Al y.L.length cl,.slice As y.K.length cs⟩:aB)])::ak (.slice As y.K.length cs) y.K::ak (.slice Al y.L.length cl) y.L::cM l::H')) :
  CW P n B w0 x Q env H:=by
 refine IR hp fun l hl hok=>?_
 obtain⟨l',⟨h0,y'⟩,rfl,hl',hy⟩:=If hl
 have hy:y'=y:=hy
 subst hy
 have hok3:h0.func=y'.func/\h0.pc=y'.pc:=hok (h0,y') (by simp)
 obtain⟨a1,a2,hlv,hsv⟩:=h0
 obtain⟨e1,e2⟩:=hok3
 have e1:a1=y'.func:=e1
 have e2:a2=y'.pc:=e2
 subst e1 e2
 refine dK (fun w hw=>wo (hw.msub (T:=cM (l'++ [(⟨y'.func,y'.pc,hlv,hsv⟩,y')])::ak (.slice A (li++ [y']).length c) ((l'++ [((⟨y'.func,y'.pc,hlv,hsv⟩:aB),y')]).map Prod.fst)::H') ms)) ?_
 refine dY (fun w hw=>hw.oform (v:=hsv) (xs:=y'.K) .b) ?_
 rintro⟨As,cs,rfl⟩
 refine dY (fun w hw=>hw.oform (v:=hlv) (xs:=y'.L) .a) ?_
 rintro⟨Al,cl,rfl⟩
 simp only[fd,et,iX]
 refine dK (fun w hw=>?_) (h l' Al As cl cs hl' hok.left)
 exact hw.msub ms
theorem Id (gd : Nat) (u : MA) (m : az) (Ap : Option Addr) (cp : Nat) (fs : List au) (hp : bJ w0 B (.slice Ap fs.length cp) fs) (li0 : List aG) (x : aG) (kf : Nat) (hS : Dl fs m li0 x kf) (w : World)
    (hw : Cw B w0 (am gd [.slice u.Af m.F.length u.cf, .slice u.Ab m.B.length u.cb, .slice u.Ai m.I.length u.ci, .slice u.Ao m.out.length u.co, .int .i64 m.S, .int .i64 m.T, .slice Ap fs.length cp] 212 ::
      ak (.slice u.Af m.F.length u.cf) m.F :: ak (.slice u.Ab m.B.length u.cb) m.B :: ak (.slice u.Ai m.I.length u.ci) m.I :: ak (.slice u.Ao m.out.length u.co) m.out :: H) w) :
    Calls Tryz.prog 161 #[.pointer (some ⟨gd, 0, none⟩)] w fun e w' => ∃ g, lL fs m = Rb g /\ e = .returned (.int .i64 (Of g)) /\ Cw B w0 (Oh gd (.slice Ap fs.length cp) 212 H g) w' := by
  obtain ⟨hfr, hfn, hkf, hpc, hnd, hbl, hsl, hst, hol, hn6, hoa, hcl⟩ := hS
  obtain ⟨fr, bl, I, out, st, tr⟩ := m
  obtain ⟨xf, xp, xl, xs⟩ := x
  have hfr : fr = li0 ++ [⟨xf, xp, xl, xs⟩] := hfr
  subst hfr
  have hfn : xf = kf := hfn
  subst hfn
  have hpc : 0 <= xp /\ xp < (aq fs kf).C.length := hpc
  have hsl2 : xs.length <= 900 := hsl
  have hbl2 : cz bl = 0 := hbl
  have hol2 : out.length <= 1000 := hol
  have hoa2 : aH (bx (aq fs kf).C xp.toNat).a := hoa
  have hnd2 : tg fs bl.length ⟨kf, xp + 1, xl, xs⟩ (bx (aq fs kf).C xp.toNat) := hnd
  have hlen : (li0 ++ [(⟨kf, xp, xl, xs⟩ : aG)]).length = li0.length + 1 := by simp
  have hopT : bB fs ⟨li0 ++ [⟨kf, xp, xl, xs⟩], bl, I, out, st, tr⟩ = bx (aq fs kf).C xp.toNat := by
    unfold bB gY
    simp
  have hstep : lL fs ⟨li0 ++ [⟨kf, xp, xl, xs⟩], bl, I, out, st, tr⟩ = if (bx (aq fs kf).C xp.toNat).c = 21 then
      (if I = [] then .inr ⟨li0 ++ [⟨kf, xp, xl, xs⟩], bl, I, out, 1, tr⟩
      else .inr ⟨li0 ++ [⟨kf, xp + 1, xl, xs ++ [cA (I.getD 0 0)]⟩], bl, I.drop 1, out, 0, tr⟩)
      else bN fs ⟨li0 ++ [⟨kf, xp, xl, xs⟩], bl, I, out, st, tr⟩ li0 ⟨kf, xp + 1, xl, xs⟩ (bx (aq fs kf).C xp.toNat) := by
    unfold lL
    rw [hopT]
    unfold gY
    simp
  obtain ⟨o, ho⟩ : ∃ o, bx (aq fs kf).C xp.toNat = o := ⟨_, rfl⟩
  rw [ho] at hnd2 hoa2 hstep
  obtain ⟨A1, c1, A2, c2, hlo, hco, hi, hcell⟩ := hp.fn hkf
  refine yb Tryz.func161 rfl Tryz.ntmps161 rfl hw ?_
  dsimp only
  refine Fe fc fun li Al As cl cs hli hok => ?_
  rw [hlen]
  subst hli
  rw [aQ]
  have hli9 : li.length <= 1000 := by rw [aQ] at hn6; exact hn6
  have hst : ∀ q ∈ li, q.2.K.length <= 1000 := fun q hq => hst q.2 (qt hq)
  obtain ⟨k, hk⟩ : ∃ k, li.length = k := ⟨_, rfl⟩
  rw [hk]
  have hlm : (li.map Prod.fst).length = k := by rw [aQ]; exact hk
  have hlk : ∀ h : aB, (li.map Prod.fst ++ [h]).length = k + 1 := fun h => by rw [ar, hlm]; rfl
  refine dY (fun w hw => rC hw .a) ?_
  intro hwf
  have hwf : aB.wf _ := hwf
  have hxp1 : aH (xp + 1) := by unfold aH; omega
  have bp := bE hp
  have bc := bE hco
  obtain ⟨pn, hpn⟩ : ∃ pn : Nat, xp = pn := ⟨xp.toNat, by omega⟩
  subst hpn
  rw [bw] at ho
  have hpn : pn < (aq fs kf).C.length := by omega
  refine aj ?_
  refine fun g1 _ => aj ?_
  refine BP rfl rfl rfl rfl ?_
  refine aj ?_
  refine bX rfl Dv (fun w hw => qh gd k u.cf u.Af (li.map Prod.fst ++ [(⟨kf, pn, .slice Al xl.length cl, .slice As xs.length cs⟩ : aB)]) w (fP fc rfl w hw) (lD hw fc) (SF.at_ (SF.own (hlk _) fc) hw)) <| aj ?_
  refine bz [0, 3, 6, 9, 12, 15, 18, 21, 24, 27, 30, 33, 36, 39, 42, 45, 48, 51, 56, 59] [19] rfl <| aj ?_
  refine tE rfl (bQ (fw (j := 0) hlm fc rfl) rfl rfl be) ?_
  refine tE rfl (bg (k := kf) eC eK (.ro hp) (by omega) rfl rfl rfl) <| aj ?_
  refine tE rfl (bQ (fun w hw => hcell _ w hw 3 _ rfl) rfl rfl pB) <| aj ?_
  refine tE rfl (bQ (fw (j := 1) hlm fc rfl) rfl rfl be) ?_
  refine tE rfl (bg (k := pn) dW fM (.ro hco) (by omega) rfl rfl rfl) ?_
  refine tE rfl (eF (cs := [_, _]) (SF.op (.ro hco) (by omega)) rfl rfl wM fM) <| aj ?_
  refine fun g2 _ => aj ?_
  rw [ho]
  refine eo rfl (fun h21 => ?_) (fun h21 => ?_)
  · rw [if_pos h21] at hstep
    rcases I with _ | ⟨z, r⟩
    · rw [if_pos rfl] at hstep
      refine aj ?_
      refine cT rfl Tryz.call217 (fun w hw => DY gd (.slice u.Af (k + 1) u.cf) (.slice u.Ab bl.length u.cb) (.slice u.Ao out.length u.co) (.int .i64 tr) (.slice Ap fs.length cp) u.Ai u.ci st w (hw.msub (.s fc .r))) (fun _ _ => aj ?_)
      refine cK (t := 30) (v' := .bool false) rfl (rfl) ?_
      refine cu rfl ?_
      refine gI (gF ?_)
      refine cc ?_
      refine bO ?_
      refine dr (cV _ fc QG rfl rfl rfl rfl rfl (by rfl) rfl (by rfl)) rfl rfl (fun _ _ => ?_)
      refine bH ?_
      refine ik (eL ?_)
      refine yC (fun _ => by simp [go_sem]) (fun w hw => sU g1 _ w (hw.perm fc)) Ds (pH .a Js rfl) (fun w hw => ?_)
      exact ⟨.inl (⟨li.map Prod.snd ++ [(⟨kf, pn, xl, xs⟩ : aG)], bl, [], out, 1, tr⟩, u), hstep, rfl, iF (h := ⟨kf, pn, .slice Al xl.length cl, .slice As xs.length cs⟩) (x := ⟨kf, pn, xl, xs⟩) hk hok ⟨rfl, rfl⟩ (hw.msub ms)⟩
    · rw [if_neg (by simp)] at hstep
      refine aj ?_
      refine cT rfl Tryz.call217 (fun w hw => DX gd k (li.map Prod.fst) hlm u.Af As u.Ai u.cf cs u.ci (.slice u.Ab bl.length u.cb) (.slice u.Ao out.length u.co) (.int .i64 tr) (.slice Ap fs.length cp) st kf pn (.slice Al xl.length cl) xs z r w (by omega) (hw.msub (.s fc (.s fc (.s fc (.s fc .r)))))) (fun ⟨⟨A5, d5⟩, ⟨A6, d6⟩⟩ _ => ?_)
      refine aO ?_
      refine cK (t := 30) (v' := .bool true) rfl (rfl) ?_
      refine aU rfl <| aj ?_
      refine eH rfl (fw (v := .int .i64 (pn : Int)) (j := 1) hlm fc rfl) ?_
      refine dT (rs rfl rfl rfl (by omega)) rfl rfl ?_
      refine ay ?_
      refine ay ?_
      refine oE (lx (α := aB) ⟨kf, pn, .slice Al xl.length cl, .slice A5 (xs ++ [cA z]).length d5⟩ ⟨kf, (pn : Int) + 1, .slice Al xl.length cl, .slice A5 (xs ++ [cA z]).length d5⟩ hlm fc ⟨⟨hwf.1.1, hxp1⟩, rfl, rfl⟩ bj rfl rfl rfl rfl rfl rfl rfl rfl) (fun _ _ => ?_)
      refine bH ?_
      refine cc ?_
      refine bO ?_
      refine dr (cV _ fc QG rfl rfl rfl rfl rfl (by rfl) rfl (by rfl)) rfl rfl (fun _ _ => ?_)
      refine bH ?_
      refine ik (eL ?_)
      refine yC (fun _ => by simp [go_sem]) (fun w hw => sU g1 _ w (hw.perm fc)) Ds (pH .a Js rfl) (fun w hw => ?_)
      exact ⟨.inl (⟨li.map Prod.snd ++ [(⟨kf, (pn : Int) + 1, xl, xs ++ [cA z]⟩ : aG)], bl, r, out, 0, tr⟩, ⟨u.Af, u.cf, u.Ab, u.cb, A6, d6, u.Ao, u.co⟩), hstep, rfl, iF (h := ⟨kf, (pn : Int) + 1, .slice Al xl.length cl, .slice A5 (xs ++ [cA z]).length d5⟩) (x := ⟨kf, (pn : Int) + 1, xl, xs ++ [cA z]⟩) hk hok ⟨rfl, rfl⟩ (hw.msub ms)⟩
  · rw [if_neg h21] at hstep
    refine aj ?_
    refine eH rfl (fw (v := .int .i64 (pn : Int)) (j := 1) hlm fc rfl) ?_
    refine dT (rs rfl rfl rfl (by omega)) rfl rfl ?_
    refine ay ?_
    refine ay ?_
    refine oE (lx (α := aB) ⟨kf, pn, .slice Al xl.length cl, .slice As xs.length cs⟩ ⟨kf, (pn : Int) + 1, .slice Al xl.length cl, .slice As xs.length cs⟩ hlm fc ⟨⟨hwf.1.1, hxp1⟩, rfl, rfl⟩ bj rfl rfl rfl rfl rfl rfl rfl rfl) (fun _ _ => aj ?_)
    refine ff (dO rfl rfl rfl Tryz.call218 (fun w hw => ND (H := am g1 [.int .i64 0] 213 :: H) gd k li hk hok u.Af Al As Ap u.cf cl cs cp u ⟨li.map Prod.snd ++ [(⟨kf, pn, xl, xs⟩ : aG)], bl, I, out, st, tr⟩ kf ((pn : Int) + 1) xl xs o fs hp hnd2 hbl2 hsl2 hol2 (by omega) hst hoa2 w (hw.msub ms))) rfl rfl (fun ch a w hf hp' => by obtain ⟨⟨why, h1, rfl⟩, h2⟩ := hp'; exact Ct hf (fun _ => by simp [go_sem]) (IX g1 why w (h2.perm fc)) Ds (pH .a Js rfl) (fun w hw => ⟨.inr why, hstep.trans h1, rfl, hw.msub ms⟩)) (fun ⟨m', u'⟩ hr => ?_)
    try dsimp only
    refine bH ?_
    refine cc ?_
    refine bO ?_
    refine dr (cV _ fc QG rfl rfl rfl rfl rfl (by rfl) rfl (by rfl)) rfl rfl (fun _ _ => ?_)
    refine bH ?_
    refine ik ?_
    refine yC (fun _ => by simp [go_sem]) (fun w hw => sU g1 _ w (hw.perm fc)) Ds (pH .a Js rfl) (fun w hw => ?_)
    exact ⟨.inl (m', u'), hstep.trans hr, rfl, hw.msub ms⟩
end
end
section
theorem G9 {fs:List au} {m:az} {why:Int} (h:lL fs m= .inl why):1<=why/\why<=5:=by
 unfold lL at h
 split at h
 ·split at h <;> cases h
 have:=CO h
 omega
theorem zv {fs:List au} {m:az} {why:Int} (h1:¬m.S=2) (h2:¬m.S=3) (h:lL fs m= .inl why):eX fs m= {m with S:=3,T:=why} :=by
 unfold eX
 rw[if_neg (fun h=>h.elim h1 h2),h]
theorem qA {fs:List au} {m m':az} (h1:¬m.S=2) (h2:¬m.S=3) (h:lL fs m= .inr m'):eX fs m=m':=by
 unfold eX
 rw[if_neg (fun h=>h.elim h1 h2),h]
theorem EF (Ap:Option Addr) (cp:Nat) (fs:List au) (a:MA) (m m2:az) (hm2:eX fs m=m2) (w:World) (hs:Sl w (.slice Ap fs.length cp) fs) (hm:dS w.heap.size w a m) (hfit:uJ m) (hS:¬(m.S=2\/m.S=3)->∃li x kf,Dl fs m li x kf) :
  Calls Tryz.prog 114 #[.agg #[.slice Ap fs.length cp],.agg #[.slice a.Af m.F.length a.cf,.slice a.Ab m.B.length a.cb,.slice a.Ai m.I.length a.ci,.slice a.Ao m.out.length a.co,.int .i64 m.S,.int .i64 m.T]] w fun e w'=> ∃g:MA,True/\
   e= .returned (.agg #[.slice g.Af m2.F.length g.cf,.slice g.Ab m2.B.length g.cb,.slice g.Ai m2.I.length g.ci,.slice g.Ao m2.out.length g.co,.int .i64 m2.S,.int .i64 m2.T])/\
   Cw w.heap.size w [ak (.slice g.Af m2.F.length g.cf) m2.F,ak (.slice g.Ab m2.B.length g.cb) m2.B,ak (.slice g.Ai m2.I.length g.ci) m2.I,ak (.slice g.Ao m2.out.length g.co) m2.out] w':=by
 refine enter Tryz.func114 rfl Tryz.ntmps114 rfl<|aj ?_
 refine fun g1 _=>aj ?_
 refine fun g2 _=>aj ?_
 refine fun g3 _=>dG 11 (fun h1=>?_) (fun h1=>?_)
 ·have h1:=of_decide_eq_true h1
  have e:m=m2:=by rw[<-hm2];unfold eX;rw[if_pos (.inl h1)]
  subst e
  refine aj ?_
  refine aU rfl<|aj ?_
  refine eb rfl wP (fun w hw=>od a m w (dS.ro hw hm) hfit) (fun g _=>aj ?_)
  intro w hw
  exact⟨g,trivial,rfl,hw.msub ms⟩
 have h1:=of_decide_eq_false h1
 refine av (fun h2=>?_) (fun h2=>?_)
 ·have e:m=m2:=by rw[<-hm2];unfold eX;rw[if_pos (.inr h2)]
  subst e
  refine aj ?_
  refine eb rfl wP (fun w hw=>od a m w (dS.ro hw hm) hfit) (fun g _=>aj ?_)
  intro w hw
  exact⟨g,trivial,rfl,hw.msub ms⟩
 obtain⟨li,x,kf,hS⟩:=hS (fun h=>h.elim h1 h2)
 refine aj ?_
 refine bz [0,6,5,9,14,16] [4,5] rfl<|aj ?_
 refine ia rfl rfl wP (fun w hw=>od a m w (dS.ro hw hm) hfit) (fun g _=>aj ?_)
 refine fun g4 _=>aj ?_
 refine cT rfl Tryz.call161 (fun w hw=>Id g4 g m Ap cp fs hs li x kf hS w (hw.msub (.s fc (.s fc (.s fc (.s fc (.s fc .r))))))) (fun g0 hg=>aj ?_)
 rcases g0 with ⟨m',u'⟩ | why
 ·have e:m'=m2:=by rw[<-hm2];exact(qA h1 h2 hg).symm
  subst e
  dsimp only[Of,Oh]
  refine cK (t:=26) (v':= .bool false) rfl (rfl) ?_
  refine cu rfl<|aj ?_
  intro w hw
  exact⟨u',trivial,rfl,hw.msub ms⟩
 have e:=zv h1 h2 hg
 have hwhy:=G9 hg
 rw[hm2] at e
 subst e
 dsimp only[Of,Oh]
 refine cK (t:=26) (v':= .bool true) rfl (by show Value.bool (!decide (why=0))= .bool true;rw[decide_eq_false (show¬why=0 by omega)];rfl) ?_
 refine aU rfl<|aj ?_
 refine eb rfl wP (fun w hw=>od a m w (dS.ro hw hm) hfit) (fun v _=>aj ?_)
 refine fun g5 _=>aj ?_
 intro w hw
 exact⟨v,trivial,rfl,hw.msub ms⟩
end
