/- Lemmas of one proof. -/
import Derived.Test.YthfkmcbblnbfaaaGreatDoorM0R
import Derived.Test.YthfkmcbblnbfaaaGreatDoorM50R

namespace Go.Proofs.YthfkmcbblnbfaaaGreatDoor
set_option maxRecDepth 100000
set_option maxHeartbeats 16000000
open Go.RowKit
section
theorem O3 (a b:Int) (w:World):(Instr.field 86 (.agg #[.int .i64 a,.int .i64 b]) 0).run Tryz.prog w= .ok (.int .i64 a) w:=by kernel_rfl
theorem BB {fs:List au} {m:az} {li:List aG} {x:aG} (e:m.F=li++ [x]):aN m.F li.length=x/\m.F.length=li.length+1/\bB fs m=bx (aq fs x.func.toNat).C x.pc.toNat:=by
 refine⟨by rw[e,lW],by rw[e];simp,?_⟩
 unfold bB gY
 rw[e,AV]
theorem Kk (Ap:Option Addr) (cp:Nat) (fs:List au) (a:MA) (m:az) (w:World) (hs:Sl w (.slice Ap fs.length cp) fs) (hm:dS w.heap.size w a m) (hF:gu fs) (hR:dL fs m) (hne:m.F≠[]) :
  Calls Tryz.prog 108 #[.agg #[.slice Ap fs.length cp],.agg #[.slice a.Af m.F.length a.cf,.slice a.Ab m.B.length a.cb,.slice a.Ai m.I.length a.ci,.slice a.Ao m.out.length a.co,.int .i64 m.S,.int .i64 m.T]] w fun e w'=>e= .returned (.agg #[.int .i64 (bB fs m).c,.int .i64 (bB fs m).a])/\Below w.heap.size w w':=by
 have b1:=bE hm.f
 obtain⟨li,x,e⟩:∃li x,m.F=li++ [x]:=by
  rcases fj m.F with h1 | ⟨l,z,h1⟩
  ·exact absurd h1 hne
  exact⟨l,z,by rw[h1];simp⟩
 obtain⟨hx,hk,hop⟩:=BB (fs:=fs) e
 obtain⟨k,hkl⟩:∃k,li.length=k:=⟨_,rfl⟩
 rw[hkl] at hx hk
 obtain⟨hfn,hloc,t,he,hts⟩:=hR.top e
 obtain⟨hp0,hp1,_⟩:=(hF.e x.func.toNat (by omega)).at_ _ _ he
 obtain⟨A1,c1,A2,c2,h1,h2,hi,hc⟩:=hm.f.fr (k:=k) (by omega)
 rw[hx] at h1 h2 hi hc
 obtain⟨kf,hkf⟩:∃kf:Nat,x.func=kf:=⟨x.func.toNat,by omega⟩
 obtain⟨kp,hkp⟩:∃kp:Nat,x.pc=kp:=⟨x.pc.toNat,by omega⟩
 rw[hkf,bw] at hp1 hop
 rw[hkp,bw] at hop
 rw[hkp] at hp1
 have hkfl:kf<fs.length:=by omega
 have hkpl:kp<(aq fs kf).C.length:=by omega
 obtain⟨F1,d1,F2,d2,hfl,hfc,hfi,hfcell⟩:=hs.fn hkfl
 have bp:=bE hs
 have bc:=bE hfc
 rw[hop]
 refine enter Tryz.func108 rfl Tryz.ntmps108 rfl<|aj ?_
 refine fun g1 _=>aj ?_
 refine fun g2 _=>aj ?_
 refine fun g3 _=>aj ?_
 refine bh (t:=11) (v':= .int .i64 (k:Int)) rfl (congrArg (Value.int .i64) (by omega)) ?_
 refine sE (bg (k:=k) cD dI (.ro hm.f) (by omega) rfl rfl rfl) ?_
 refine iY rfl (hc _)<|aj ?_
 refine fun g4 _=>aj ?_
 refine bz [0,3,6,9,12,15,18,21,24,27,30,35] [11] rfl<|aj ?_
 refine cC (t:=17) (v':= .int .i64 (kf:Int)) rfl (congrArg (Value.int .i64) hkf) ?_
 refine tE rfl (bg (k:=kf) eC eK (.ro hs) (by omega) rfl rfl rfl)<|aj ?_
 refine tE rfl (bQ (fun w hw=>hfcell _ w hw 3 _ rfl) rfl rfl pB)<|aj ?_
 refine cC (t:=22) (v':= .int .i64 (kp:Int)) rfl (congrArg (Value.int .i64) hkp) ?_
 refine tE rfl (bg (k:=kp) dW fM (.ro hfc) (by omega) rfl rfl rfl) ?_
 refine tE rfl (eF (cs:= [_,_]) (SF.op (.ro hfc) (by omega)) rfl rfl wM fM)<|aj ?_
 intro w hw
 exact⟨rfl,hw.below⟩
end
section
theorem Fj {l r:List Int} :dq (l++r)=true↔dq l=true\/dq r=true:=by
 unfold dq
 rw[List.any_append,Bool.or_eq_true]
theorem PG {l:List Int} {k:Nat} (hk:k<l.length) (h:cd (l.getD k 0)=false):dq l=true:=cG.2 ⟨_,cI (d:=0) hk,by rw[h];rfl⟩
theorem PF {l:List Int} (h:∀j,j<l.length->cd (l.getD j 0)=true):¬dq l=true:=fun hb=>by
 obtain⟨x,hx,h2⟩:=cG.1 hb
 obtain⟨j,hj,rfl⟩:=cg hx
 have:=h j hj
 rw[an,ap hj] at this
 have this:cd l[j]=true:=this
 rw[this] at h2
 cases h2
theorem FG (a:MA) (m:az) (Ap:Option Addr) (cp:Nat) (fs:List au) (w:World) (hs:Sl w (.slice Ap fs.length cp) fs) (hm:dS w.heap.size w a m) (hF:gu fs) (hfit:jX m.F) (E:Int) (hE:ls fs m=E) :
  Calls Tryz.prog 79 #[.agg #[.slice Ap fs.length cp],.agg #[.slice a.Af m.F.length a.cf,.slice a.Ab m.B.length a.cb,.slice a.Ai m.I.length a.ci,.slice a.Ao m.out.length a.co,.int .i64 m.S,.int .i64 m.T]] w fun e w'=>e= .returned (.int .i64 E)/\Below w.heap.size w w':=by
 have bf:=bE hm.f
 have bp:=bE hs
 have bi:=bE hm.i
 have bo:=bE hm.o
 have hp1:=tZ hF
 obtain⟨sb,hsb⟩:∃b,bq m.S 0 3=b:=⟨_,rfl⟩
 obtain⟨tb,htb⟩:∃b,bq m.T (if m.S=3 then 1 else 0) (if m.S=3 then 5 else 0)=b:=⟨_,rfl⟩
 unfold ls at hE
 rw[hsb,htb] at hE
 refine enter Tryz.func79 rfl Tryz.ntmps79 rfl<|aj ?_
 refine fun g1 _=>aj ?_
 refine fun g2 _=>aj ?_
 refine bX rfl jA ((fun w hw=>fX ((fun w hw=>fk _ _ _ w) w hw)))<|aj ?_
 rw[hsb]
 cases sb
 ·rw[if_pos rfl] at hE
  subst hE
  refine cK (t:=15) (v':= .bool true) rfl (rfl) ?_
  refine aU rfl<|aj ?_
  intro w hw
  exact⟨rfl,hw.below⟩
 rw[if_neg (by decide)] at hE
 refine cK (t:=15) (v':= .bool false) rfl (rfl) ?_
 refine cu rfl<|aj ?_
 refine nS 15 rfl [(2,_),(3,_)] [(34,.bool (!tb))] ⟨rfl,rfl,trivial⟩ (fun K=>?_) ?_
 ·refine jo (t:=19) rfl (fun s3=>?_) (fun s3=>?_)
  ·have s3:=of_decide_eq_true s3
   rw[if_pos s3,if_pos s3] at htb
   refine aj ?_
   refine bX rfl jA ((fun w hw=>fX ((fun w hw=>fk _ _ _ w) w hw)))<|aj ?_
   rw[htb]
   cases tb
   ·refine bh (t:=25) (v':= .bool true) rfl (rfl) ?_
    refine ay ?_
    refine ay ?_
    refine ay ?_
    refine ay ?_
    refine ay ?_
    refine ay ?_
    refine ay ?_
    refine ay ?_
    refine ay ?_
    refine bh (t:=34) (v':= .bool (!false)) rfl (rfl) ?_
    exact iL K ⟨rfl,rfl,rfl,trivial⟩
   refine bh (t:=25) (v':= .bool false) rfl (rfl) ?_
   refine ay ?_
   refine dT (cE fc be rfl rfl (by rfl)) rfl rfl ?_
   refine ay ?_
   refine ay ?_
   refine bh (t:=29) (v':= .bool false) rfl (congrArg Value.bool (by rw[s3];rfl)) ?_
   refine ay ?_
   refine ay ?_
   refine ay ?_
   refine ay ?_
   refine ay ?_
   refine bh (t:=34) (v':= .bool (!true)) rfl (rfl) ?_
   exact iL K ⟨rfl,rfl,rfl,trivial⟩
  have s3:=of_decide_eq_false s3
  rw[if_neg s3,if_neg s3] at htb
  refine ay ?_
  refine ay ?_
  refine ay ?_
  refine ay ?_
  refine ay ?_
  refine ay ?_
  refine ay ?_
  refine dT (cE fc be rfl rfl (by rfl)) rfl rfl ?_
  refine ay ?_
  refine ay ?_
  refine bh (t:=29) (v':= .bool true) rfl (congrArg Value.bool (by simp[s3])) ?_
  refine ay ?_
  refine dT (cE fc be rfl rfl (by rfl)) rfl rfl ?_
  refine ay ?_
  refine ay ?_
  refine ay ?_
  refine bh (t:=34) (v':= .bool (!tb)) rfl (congrArg Value.bool (by rw[<-htb];unfold bq;by_cases h0:m.T=0;rw[h0];rfl;rw[Bool.eq_iff_iff];simp[h0];omega)) ?_
  exact iL K ⟨rfl,rfl,rfl,trivial⟩
 refine aj ?_
 cases tb
 ·rw[if_pos rfl] at hE
  subst hE
  refine cK (t:=34) (v':= .bool true) rfl (rfl) ?_
  refine aU rfl<|aj ?_
  intro w hw
  exact⟨rfl,hw.below⟩
 rw[if_neg (by decide)] at hE
 refine cK (t:=34) (v':= .bool false) rfl (rfl) ?_
 refine cu rfl<|aj ?_
 refine bX rfl Tryz.call140 ((fun w hw=>fX ((fun w hw=>wh _ m.B w (hw.ro hm.b)) w hw)))<|cQ (fun hb=>?_) (fun hb=>?_)
 ·have hb:¬cz m.B=0:=hb
  rw[if_pos hb] at hE
  refine aj ?_
  intro w hw
  exact⟨by rw[<-hE],hw.below⟩
 have hb:cz m.B=0:=hb
 rw[if_neg (fun h=>h hb)] at hE
 refine aj ?_
 refine nS 5 rfl [(2,_),(3,_)] [(50,.bool (decide (10<m.I.length\/10<m.out.length)))] ⟨rfl,rfl,trivial⟩ (fun K=>?_) ?_
 ·refine jo (t:=45) rfl (fun u1=>?_) (fun u1=>?_)
  ·have u1:=of_decide_eq_true u1
   refine ay ?_
   refine ay ?_
   refine ay ?_
   refine ay ?_
   refine ay ?_
   refine bh (t:=50) (v':= .bool (decide (10<m.I.length\/10<m.out.length))) rfl (congrArg Value.bool (decide_eq_true (.inl (by omega))).symm) ?_
   exact iL K ⟨rfl,rfl,rfl,trivial⟩
  have u1:=of_decide_eq_false u1
  refine ay ?_
  refine dT (cE fc gv rfl rfl (by rfl)) rfl rfl ?_
  refine dT (kT aw rfl rfl) rfl rfl<|ay ?_
  refine ay ?_
  refine bh (t:=50) (v':= .bool (decide (10<m.I.length\/10<m.out.length))) rfl (congrArg Value.bool (decide_eq_decide.2 (by omega))) ?_
  exact iL K ⟨rfl,rfl,rfl,trivial⟩
 refine av (fun h10=>?_) (fun h10=>?_)
 ·rw[if_pos h10] at hE
  subst hE
  refine aj ?_
  intro w hw
  exact⟨rfl,hw.below⟩
 have h10:¬(10<m.I.length\/10<m.out.length):=h10
 rw[if_neg h10] at hE
 have hal:(m.I++m.out).length=m.I.length+m.out.length:=ar
 refine gI (gF ?_)
 refine eh (fun _:Option Addr×Nat=>True) (fun g=> [(2,.pointer (some ⟨g1,0,none⟩)),(3,.pointer (some ⟨g2,0,none⟩)),(6,.slice g.1 (m.I++m.out).length g.2)]) (fun g=> [ak (.slice g.1 (m.I++m.out).length g.2) (m.I++m.out),am g2 [.slice a.Af m.F.length a.cf,.slice a.Ab m.B.length a.cb,.slice a.Ai m.I.length a.ci,.slice a.Ao m.out.length a.co,.int .i64 m.S,.int .i64 m.T] 43,am g1 [.slice Ap fs.length cp] 24]) ?_ ?_
 ·refine bz [3,6,12,15,2,11,20,22] [6,7] rfl ?_
  refine ay ?_
  refine cY rfl (cE fc gv rfl rfl (by rfl)) rfl rfl ha ?_
  refine ay ?_
  refine cY rfl (cE fc gv rfl rfl (by rfl)) rfl rfl ha ?_
  refine pE rfl ((fg (cs:= []) aw bj fB rfl rfl rfl rfl rfl).mem (H'':=fun g=>ak (.slice (some ⟨g,0,none⟩) 0 0) ([]:List Int)::_) fun g w h=>bt (α:=Int) (m:=0) [] rfl (by simp) rfl (by decide) h) (fun ge _=>?_)
  refine pE rfl (di (α:=Int) (bytes:=8) (xs:= []) (ys:=m.I) (bU m.I).symm aw (aV cO) rfl fc (.ro hm.i) (by simp only[aD];omega) (by simp only[aD];omega) rfl rfl rfl) (fun⟨A5,c5⟩ _=>?_)
  try dsimp only
  refine pE rfl (di (α:=Int) (bytes:=8) (xs:=m.I) (ys:=m.out) rfl aw (aV cO) rfl fc (.ro hm.o) (by omega) (by omega) rfl rfl rfl) (fun⟨A6,c6⟩ _=>?_)
  refine aO ?_
  refine bu<|bS (A6,c6) (trivial) (hh:=(fun _ h=>h.msub ms))
 rintro⟨A6,c6⟩ _
 refine aO ?_
 refine dA (fun k:Nat=>k<=(m.I++m.out).length/\∀j,j<k->cd ((m.I++m.out).getD j 0)=true) (fun k=>(m.I++m.out).length - k) (fun k=> [(2,.pointer (some ⟨g1,0,none⟩)),(3,.pointer (some ⟨g2,0,none⟩)),(6,.slice A6 (m.I++m.out).length c6),(7,.int .i64 (k:Int))]) (fun _=> [ak (.slice A6 (m.I++m.out).length c6) (m.I++m.out),am g2 [.slice a.Af m.F.length a.cf,.slice a.Ab m.B.length a.cb,.slice a.Ai m.I.length a.ci,.slice a.Ao m.out.length a.co,.int .i64 m.S,.int .i64 m.T] 43,am g1 [.slice Ap fs.length cp] 24]) 0 (⟨aX _,fun _ h=>absurd h (gN _)⟩) ?_
 rintro k hk'
 obtain⟨hk,hno⟩:k<=(m.I++m.out).length/\∀j,j<k->cd ((m.I++m.out).getD j 0)=true:=hk'
 refine av (fun hlt=>?_) (fun hlt=>?_)
 ·have hkl:k<(m.I++m.out).length:=by omega
  refine aj ?_
  refine cS (k) rfl ((SF.own rfl fc)) ?_
  refine ma rfl ((SF.own rfl fc)) ?_
  refine bX rfl Tryz.call81 ((fun w hw=>fX ((fun w hw=>nt _ w) w hw)))<|aj ?_
  refine bT rfl (fun hb2=>?_) (fun hb2=>?_)
  ·have hb2:cd ((m.I++m.out).getD k 0)=false:=by simpa using hb2
   rw[if_pos (Fj.1 (PG hkl hb2))] at hE
   subst hE
   refine aj ?_
   intro w hw
   exact⟨rfl,hw.below⟩
  have hb2:cd ((m.I++m.out).getD k 0)=true:=by simpa using hb2
  refine aj ?_
  refine cU (k+1) (⟨by show k+1<=_;omega,fun j hj=>(fK j k).elim (hno j) (fun h=>by obtain rfl:j=k:=(by omega);exact hb2)⟩) (by show _ - _<_ - _;omega)
 obtain rfl:k=(m.I++m.out).length:=by omega
 rw[if_neg (fun h=>PF hno (Fj.2 h))] at hE
 obtain⟨FE,hFE⟩:∃e,lU fs m=e:=⟨_,rfl⟩
 rw[hFE] at hE
 unfold lU at hFE
 have hbadE:FE≠0->E=FE:=fun h=>by rw[if_pos h] at hE;exact hE.symm
 refine av (fun h6=>?_) (fun h6=>?_)
 ·rw[if_pos (by omega)] at hFE
  subst hFE
  refine aj ?_
  intro w hw
  exact⟨by rw[hbadE (by decide)],hw.below⟩
 have h6:¬6<m.F.length:=by omega
 rw[if_neg h6] at hFE
 refine aj ?_
 refine nS 4 rfl [(2,_),(3,_),(8,_)] [(81,.bool (decide (m.F.length=0/\m.S≠2)))] ⟨rfl,rfl,rfl,trivial⟩ (fun K=>?_) ?_
 ·refine jo (t:=77) rfl (fun v1=>?_) (fun v1=>?_)
  ·have v1:=of_decide_eq_true v1
   refine ay ?_
   refine dT (cE fc be rfl rfl (by rfl)) rfl rfl ?_
   refine ay ?_
   refine ay ?_
   refine bh (t:=81) (v':= .bool (decide (m.F.length=0/\m.S≠2))) rfl (congrArg Value.bool (by rw[<-decide_not];exact decide_eq_decide.2 ⟨fun h=>⟨by omega,h⟩,fun h=>h.2⟩)) ?_
   exact iL K ⟨rfl,rfl,rfl,rfl,trivial⟩
  have v1:=of_decide_eq_false v1
  refine ay ?_
  refine ay ?_
  refine ay ?_
  refine ay ?_
  refine bh (t:=81) (v':= .bool (decide (m.F.length=0/\m.S≠2))) rfl (congrArg Value.bool (decide_eq_false (by omega)).symm) ?_
  exact iL K ⟨rfl,rfl,rfl,rfl,trivial⟩
 refine av (fun v2=>?_) (fun v2=>?_)
 ·rw[if_pos v2] at hFE
  subst hFE
  refine aj ?_
  intro w hw
  exact⟨by rw[hbadE (by decide)],hw.below⟩
 rw[if_neg v2] at hFE
 refine aj ?_
 refine nS 4 rfl [(2,_),(3,_),(8,_)] [(88,.bool (decide (0<m.F.length/\m.S=2)))] ⟨rfl,rfl,rfl,trivial⟩ (fun K=>?_) ?_
 ·refine jo (t:=84) rfl (fun v3=>?_) (fun v3=>?_)
  ·have v3:=of_decide_eq_true v3
   refine ay ?_
   refine dT (cE fc be rfl rfl (by rfl)) rfl rfl ?_
   refine ay ?_
   refine ay ?_
   refine bh (t:=88) (v':= .bool (decide (0<m.F.length/\m.S=2))) rfl (congrArg Value.bool (decide_eq_decide.2 (by omega))) ?_
   exact iL K ⟨rfl,rfl,rfl,rfl,trivial⟩
  have v3:=of_decide_eq_false v3
  refine ay ?_
  refine ay ?_
  refine ay ?_
  refine ay ?_
  refine bh (t:=88) (v':= .bool (decide (0<m.F.length/\m.S=2))) rfl (congrArg Value.bool (decide_eq_false (by omega)).symm) ?_
  exact iL K ⟨rfl,rfl,rfl,rfl,trivial⟩
 refine av (fun v4=>?_) (fun v4=>?_)
 ·rw[if_pos v4] at hFE
  subst hFE
  refine aj ?_
  intro w hw
  exact⟨by rw[hbadE (by decide)],hw.below⟩
 rw[if_neg v4] at hFE
 refine aj ?_
 refine dA (fun k:Nat=>k<=m.F.length/\∀j,j<k->bq (aN m.F j).func 0 ((fs.length:Int) - 1)=true) (fun k=>m.F.length - k) (fun k=> [(2,.pointer (some ⟨g1,0,none⟩)),(3,.pointer (some ⟨g2,0,none⟩)),(8,.int .i64 (m.F.length:Int)),(9,.int .i64 (k:Int))]) (fun _=> [am g2 [.slice a.Af m.F.length a.cf,.slice a.Ab m.B.length a.cb,.slice a.Ai m.I.length a.ci,.slice a.Ao m.out.length a.co,.int .i64 m.S,.int .i64 m.T] 43,am g1 [.slice Ap fs.length cp] 24]) 0 (⟨aX _,fun _ h=>absurd h (gN _)⟩) ?_
 rintro k hk'
 obtain⟨hk,hno2⟩:k<=m.F.length/\∀j,j<k->bq (aN m.F j).func 0 ((fs.length:Int) - 1)=true:=hk'
 refine av (fun hlt=>?_) (fun hlt=>?_)
 ·have hkl:k<m.F.length:=by omega
  obtain⟨A1,c1,A2,c2,hl,hst,hI,hcell⟩:=hm.f.fr hkl
  refine aj ?_
  refine bz [0,3,6,9,12,15,18,21,24,27,32,33] [] rfl<|aj ?_
  refine tE rfl (bg (k:=k) cD dI (.ro hm.f) (by omega) rfl rfl rfl)<|aj ?_
  refine tE rfl (bQ (fun w hw=>hcell _ w hw 0 _ rfl) rfl rfl be)<|aj ?_
  refine km rfl rfl jA ((fun w hw=>fX ((fun w hw=>fk _ _ _ w) w hw)))<|aj ?_
  refine bT rfl (fun hb2=>?_) (fun hb2=>?_)
  ·have hb2:bq (aN m.F k).func 0 ((fs.length:Int) - 1)=false:=by simpa using hb2
   rw[if_pos (Iw hkl hb2)] at hFE
   subst hFE
   refine aj ?_
   intro w hw
   exact⟨by rw[hbadE (by decide)],hw.below⟩
  have hb2:bq (aN m.F k).func 0 ((fs.length:Int) - 1)=true:=by simpa using hb2
  refine aj ?_
  refine cU (k+1) (⟨by show k+1<=_;omega,fun j hj=>(fK j k).elim (hno2 j) (fun h=>by obtain rfl:j=k:=(by omega);exact hb2)⟩) (by show _ - _<_ - _;omega)
 obtain rfl:k=m.F.length:=by omega
 obtain⟨hany,hfn⟩:=E5 hno2
 rw[if_neg hany] at hFE
 refine aj ?_
 refine nS 7 rfl [(2,_),(3,_),(8,_)] [(115,.bool (decide (0<m.F.length/\(aN m.F 0).func≠0)))] ⟨rfl,rfl,rfl,trivial⟩ (fun K=>?_) ?_
 ·refine jo (t:=108) rfl (fun w1=>?_) (fun w1=>?_)
  ·have w1:=of_decide_eq_true w1
   obtain⟨A1,c1,A2,c2,hl,hst,hI,hcell⟩:=hm.f.fr (k:=0) (by omega)
   refine aj ?_
   refine cS (0) rfl ((.ro hm.f))<|aj ?_
   refine eH rfl (fun w hw=>hcell _ w hw 0 _ rfl) ?_
   refine ay ?_
   refine ay ?_
   refine bh (t:=115) (v':= .bool (decide (0<m.F.length/\(aN m.F 0).func≠0))) rfl (congrArg Value.bool (by rw[<-decide_not];exact decide_eq_decide.2 ⟨fun h=>⟨by omega,h⟩,fun h=>h.2⟩)) ?_
   exact iL K ⟨rfl,rfl,rfl,rfl,trivial⟩
  have w1:=of_decide_eq_false w1
  refine ay ?_
  refine ay ?_
  refine ay ?_
  refine ay ?_
  refine ay ?_
  refine ay ?_
  refine ay ?_
  refine bh (t:=115) (v':= .bool (decide (0<m.F.length/\(aN m.F 0).func≠0))) rfl (congrArg Value.bool (decide_eq_false (fun h=>by omega)).symm) ?_
  exact iL K ⟨rfl,rfl,rfl,rfl,trivial⟩
 refine av (fun w2=>?_) (fun w2=>?_)
 ·rw[if_pos w2] at hFE
  subst hFE
  refine aj ?_
  intro w hw
  exact⟨by rw[hbadE (by decide)],hw.below⟩
 rw[if_neg w2] at hFE
 refine aj ?_
 refine dA (fun k:Nat=>k<=m.F.length/\eU (fO fs m.B.length m.F) ((List.range m.F.length).take k)=0) (fun k=>m.F.length - k) (fun k=> [(2,.pointer (some ⟨g1,0,none⟩)),(3,.pointer (some ⟨g2,0,none⟩)),(8,.int .i64 (m.F.length:Int)),(10,.int .i64 (k:Int))]) (fun _=> [am g2 [.slice a.Af m.F.length a.cf,.slice a.Ab m.B.length a.cb,.slice a.Ai m.I.length a.ci,.slice a.Ao m.out.length a.co,.int .i64 m.S,.int .i64 m.T] 43,am g1 [.slice Ap fs.length cp] 24]) 0 (⟨aX _,rfl⟩) ?_
 rintro k hk'
 obtain⟨hk,hno3⟩:k<=m.F.length/\eU (fO fs m.B.length m.F) ((List.range m.F.length).take k)=0:=hk'
 refine av (fun hlt=>?_) (fun hlt=>?_)
 ·have hkl:k<m.F.length:=by omega
  have hsn:=jT (g:=fO fs m.B.length m.F) (l:=List.range m.F.length) 0 (by rw[mz];exact hkl) hno3
  rw[ny hkl] at hsn
  refine aj ?_
  refine bX rfl Tryz.call141 (fun w hw=>FO a m Ap cp fs k w (hw.ro hs) (dS.ro hw hm) hF hfit hkl hfn _ rfl)<|cQ (fun he=>?_) (fun he=>?_)
  ·have he:fO fs m.B.length m.F k≠0:=he
   rw[oN (k:=k+1) (by rw[hsn];exact he),hsn] at hFE
   rw[hFE] at he
   refine aj ?_
   intro w hw
   exact⟨by rw[hbadE he,<-hFE],hw.below⟩
  have he:fO fs m.B.length m.F k=0:=he
  rw[he] at hsn
  refine aj ?_
  refine cU (k+1) (⟨by show k+1<=_;omega,hsn⟩) (by show _ - _<_ - _;omega)
 obtain rfl:k=m.F.length:=by omega
 rw[bA (by rw[mz];exact aK _)] at hno3
 rw[hno3] at hFE
 subst hFE
 rw[if_neg (fun h=>h rfl)] at hE
 refine aj ?_
 refine bz [0,3,6,9,12,15,18,21,24,27,30,33,36,39,42,45,48,51,54,57,60,63,66,69,72,75,78,81,84,87,90,93,96,99] [] rfl ?_
 refine ay ?_
 refine cY rfl (cE fc be rfl rfl (by rfl)) rfl rfl ha ?_
 refine ay ?_
 refine ay ?_
 by_cases s1:m.S=1
 ·rw[if_neg (fun h=>h s1)] at hE
  refine cC (t:=131) (v':= .bool true) rfl (congrArg Value.bool (by rw[s1];rfl)) ?_
  refine ay ?_
  refine cY rfl (cE fc gv rfl rfl (by rfl)) rfl rfl ha ?_
  refine cY rfl (kT aw rfl rfl) rfl rfl ha ?_
  refine ay ?_
  refine ay ?_
  by_cases i0:0<m.I.length
  ·rw[if_pos (.inl i0)] at hE
   subst hE
   refine cC (t:=136) (v':= .bool true) rfl (congrArg Value.bool (decide_eq_true (by omega)))<|aj ?_
   refine aU rfl<|aj ?_
   intro w hw
   exact⟨rfl,hw.below⟩
  have hne:m.F≠[]:=fun e=>v2 ⟨by rw[e];rfl,by omega⟩
  obtain⟨li,x,e⟩:∃li x,m.F=li++ [x]:=by
   rcases fj m.F with h1 | ⟨l,z,h1⟩
   ·exact absurd h1 hne
   exact⟨l,z,by rw[h1];simp⟩
  obtain⟨hx,hkk,hop⟩:=BB (fs:=fs) e
  obtain⟨k,hkl⟩:∃k,li.length=k:=⟨_,rfl⟩
  rw[hkl] at hx hkk
  have hfr:=sM.1 (px hno3 k (kV.2 (by omega)))
  have hfx:=hfn x (by rw[e];simp)
  rw[e,<-hkl] at hfr
  obtain⟨_,hloc,t,he,hts⟩:=(rg hfx).1 hfr
  obtain⟨hp0,hp1',_⟩:=(hF.e x.func.toNat (by omega)).at_ _ _ he
  obtain⟨A1,c1,A2,c2,h1,h2,hi,hc⟩:=hm.f.fr (k:=k) (by omega)
  rw[hx] at h1 h2 hi hc
  obtain⟨kf,hkf⟩:∃kf:Nat,x.func=kf:=⟨x.func.toNat,by omega⟩
  obtain⟨kp,hkp⟩:∃kp:Nat,x.pc=kp:=⟨x.pc.toNat,by omega⟩
  rw[hkf,bw] at hp1' hop
  rw[hkp,bw] at hop
  rw[hkp] at hp1'
  have hkfl:kf<fs.length:=by omega
  have hkpl:kp<(aq fs kf).C.length:=by omega
  obtain⟨F1,d1,F2,d2,hfl,hfc,hfi,hfcell⟩:=hs.fn hkfl
  have bc:=bE hfc
  rw[hop] at hE
  refine cC (t:=136) (v':= .bool false) rfl (congrArg Value.bool (decide_eq_false (by omega)))<|aj ?_
  refine cC (t:=142) (v':= .int .i64 (k:Int)) rfl (congrArg (Value.int .i64) (by omega)) ?_
  refine tE rfl (bg (k:=k) cD dI (.ro hm.f) (by omega) rfl rfl rfl)<|aj ?_
  refine tE rfl (bQ (fun w hw=>hc _ w hw 0 _ rfl) rfl rfl be) ?_
  refine cC (t:=145) (v':= .int .i64 (kf:Int)) rfl (congrArg (Value.int .i64) hkf) ?_
  refine tE rfl (bg (k:=kf) eC eK (.ro hs) (by omega) rfl rfl rfl)<|aj ?_
  refine tE rfl (bQ (fun w hw=>hfcell _ w hw 3 _ rfl) rfl rfl pB)<|aj ?_
  refine cC (t:=152) (v':= .int .i64 (k:Int)) rfl (congrArg (Value.int .i64) (by omega)) ?_
  refine tE rfl (bg (k:=k) cD dI (.ro hm.f) (by omega) rfl rfl rfl)<|aj ?_
  refine tE rfl (bQ (fun w hw=>hc _ w hw 1 _ rfl) rfl rfl be) ?_
  refine cC (t:=155) (v':= .int .i64 (kp:Int)) rfl (congrArg (Value.int .i64) hkp) ?_
  refine tE rfl (bg (k:=kp) dW fM (.ro hfc) (by omega) rfl rfl rfl)<|aj ?_
  refine tE rfl (bQ (SF.opc (.ro hfc) hkpl) rfl rfl be)<|cQ (fun c21=>?_) (fun c21=>?_)
  ·rw[if_pos (.inr c21)] at hE
   subst hE
   refine aj ?_
   intro w hw
   exact⟨rfl,hw.below⟩
  have c21:(bx (aq fs kf).C kp).c=21:=c21
  rw[if_neg (fun h=>h.elim i0 (fun h=>h c21))] at hE
  subst hE
  refine aj ?_
  intro w hw
  exact⟨rfl,hw.below⟩
 rw[if_pos s1] at hE
 subst hE
 refine cC (t:=131) (v':= .bool false) rfl (congrArg Value.bool (decide_eq_false s1))<|aj ?_
 refine cu rfl<|aj ?_
 intro w hw
 exact⟨rfl,hw.below⟩
theorem HA (Ap:Option Addr) (cp:Nat) (fs:List au) (a:MA) (m:az) (w:World) (hs:Sl w (.slice Ap fs.length cp) fs) (hm:dS w.heap.size w a m) (hfit:jX m.F) :
  Calls Tryz.prog 23 #[.agg #[.slice Ap fs.length cp],.agg #[.slice a.Af m.F.length a.cf,.slice a.Ab m.B.length a.cb,.slice a.Ai m.I.length a.ci,.slice a.Ao m.out.length a.co,.int .i64 m.S,.int .i64 m.T]] w fun e w'=>e= .returned (.int .i64 (dF fs m))/\Below w.heap.size w w':=by
 refine enter Tryz.func23 rfl Tryz.ntmps23 rfl<|aj ?_
 refine fun g1 _=>aj ?_
 refine fun g2 _=>aj ?_
 refine bX rfl Tryz.call78 (fun w hw=>yP Ap cp fs w (hw.ro hs))<|av (fun h=>?_) (fun h=>?_)
 ·have h:fl fs=0:=h
  refine aj ?_
  refine bX rfl Tryz.call79 (fun w hw=>FG a m Ap cp fs w (hw.ro hs) (dS.ro hw hm) (sP h) hfit _ rfl)<|aj ?_
  intro w hw
  exact⟨by unfold dF;rw[if_neg (fun h'=>h' h)],hw.below⟩
 have h:¬fl fs=0:=h
 refine aj ?_
 intro w hw
 exact⟨by unfold dF;rw[if_pos h],hw.below⟩
end
section
theorem fR (a:MA) (m:az) (w:World) (hm:dS w.heap.size w a m) (hfit:yA m) :
  Calls Tryz.prog 50 #[.agg #[.slice a.Af m.F.length a.cf,.slice a.Ab m.B.length a.cb,.slice a.Ai m.I.length a.ci,.slice a.Ao m.out.length a.co,.int .i64 m.S,.int .i64 m.T]] w fun e w'=> ∃g:MA,True/\
   e= .returned (.agg #[.slice g.Af m.F.length g.cf,.slice g.Ab m.B.length g.cb,.slice g.Ai m.I.length g.ci,.slice g.Ao m.out.length g.co,.int .i64 m.S,.int .i64 m.T])/\
   Cw w.heap.size w [ak (.slice g.Af m.F.length g.cf) m.F,ak (.slice g.Ab m.B.length g.cb) m.B,ak (.slice g.Ai m.I.length g.ci) m.I,ak (.slice g.Ao m.out.length g.co) m.out] w':=by
 have b1:=bE hm.f
 have hf64:=hfit.f.1
 have hfi:=hfit.i
 have hfo:=hfit.o
 refine enter Tryz.func50 rfl Tryz.ntmps50 rfl<|aj ?_
 refine fun g1 _=>aj ?_
 refine fun g2 _=>aj ?_
 intro g3 _
 refine dr (cV _ fc cX rfl rfl rfl rfl rfl (by rfl) rfl (by rfl)) rfl rfl (fun _ _=>?_)
 refine bH<|eh (fun _:(Option Addr×Nat)×(Option Addr×Nat)×(Option Addr×Nat)=>True) (fun g=> [(1,.pointer (some ⟨g1,0,none⟩)),(2,.pointer (some ⟨g2,0,none⟩)),(3,.pointer (some ⟨g3,0,none⟩))]) (fun g=> [am g1 [.slice a.Af m.F.length a.cf,.slice a.Ab m.B.length a.cb,.slice a.Ai m.I.length a.ci,.slice a.Ao m.out.length a.co,.int .i64 m.S,.int .i64 m.T] 43,am g2 [.slice none 0 0,.slice none 0 0,.slice none 0 0,.slice none 0 0,.int .i64 0,.int .i64 0] 43,am g3 [.slice none 0 0,.slice g.1.1 m.B.length g.1.2,.slice g.2.1.1 m.I.length g.2.1.2,.slice g.2.2.1 m.out.length g.2.2.2,.int .i64 m.S,.int .i64 m.T] 43,ak (.slice g.1.1 m.B.length g.1.2) m.B,ak (.slice g.2.1.1 m.I.length g.2.1.2) m.I,ak (.slice g.2.2.1 m.out.length g.2.2.2) m.out]) ?_ ?_
 ·refine iq (.still 0 (.still 1 (.still 4 (.still 5 (.still 8 (.still 9 (.pick 2 (.still 11 (.pick 3 (.pick 6 (.pick 7 (.pick 10 (.pick 12 (.calm 13 (.pick 14 (.calm 15 (.pick 16 (.calm 17 (.pick 18 .done .stop)) .stop)) .stop)) .stop) .stop) .stop) (.pick 7 (.pick 6 (.pick 10 (.pick 12 (.calm 13 (.pick 14 (.calm 15 (.pick 16 (.calm 17 (.pick 18 .done .stop)) .stop)) .stop)) .stop) .stop) .stop) .stop)) (.pick 7 (.pick 3 (.pick 6 (.pick 10 (.pick 12 (.calm 13 (.pick 14 (.calm 15 (.pick 16 (.calm 17 (.pick 18 .done .stop)) .stop)) .stop)) .stop) .stop) .stop) .stop) .stop))) (.pick 3 (.pick 2 (.still 11 (.pick 6 (.pick 7 (.pick 10 (.pick 12 (.calm 13 (.pick 14 (.calm 15 (.pick 16 (.calm 17 (.pick 18 .done .stop)) .stop)) .stop)) .stop) .stop) .stop) (.pick 7 (.pick 6 (.pick 10 (.pick 12 (.calm 13 (.pick 14 (.calm 15 (.pick 16 (.calm 17 (.pick 18 .done .stop)) .stop)) .stop)) .stop) .stop) .stop) .stop))) (.pick 7 (.pick 2 (.still 11 (.pick 6 (.pick 10 (.pick 12 (.calm 13 (.pick 14 (.calm 15 (.pick 16 (.calm 17 (.pick 18 .done .stop)) .stop)) .stop)) .stop) .stop) .stop)) .stop) .stop)) (.pick 7 (.pick 2 (.still 11 (.pick 3 (.pick 6 (.pick 10 (.pick 12 (.calm 13 (.pick 14 (.calm 15 (.pick 16 (.calm 17 (.pick 18 .done .stop)) .stop)) .stop)) .stop) .stop) .stop) .stop)) (.pick 3 (.pick 2 (.still 11 (.pick 6 (.pick 10 (.pick 12 (.calm 13 (.pick 14 (.calm 15 (.pick 16 (.calm 17 (.pick 18 .done .stop)) .stop)) .stop)) .stop) .stop) .stop)) .stop) .stop)) .stop))))))))) [12,13,14,15,16,17,18] rfl (by kernel_rfl) (by kernel_rfl) ?_
  refine aj ?_
  refine cP rfl (eR rfl rfl rfl Dy (fun w hw=>nv _ m.B w (hw.ro hm.b) hfit.b)) rfl rfl (.inr fun _=>ha) (fun⟨A1,c1⟩ _=>?_) ?_
  ·try dsimp only
   refine ay ?_
   refine cP rfl ((fg (cs:= []) aw bj fB rfl rfl rfl rfl rfl).mem (H'':=fun g=>ak (.slice (some ⟨g,0,none⟩) 0 0) ([]:List Int)::_) fun g w h=>bt (α:=Int) (m:=0) [] rfl (by simp) rfl (by decide) h) rfl rfl (.inr fun _=>ha) (fun ge _=>?_) ?_
   ·refine cP rfl (di (α:=Int) (bytes:=8) (xs:= []) (ys:=m.I) (bU m.I).symm aw (aV cO) rfl fc (.ro hm.i) (by simp only[aD];omega) (by simp only[aD];omega) rfl rfl rfl) rfl rfl (.inr fun _=>ha) (fun⟨A2,c2⟩ _=>?_) ?_
    ·try dsimp only
     refine pE rfl ((fg (cs:= []) aw bj fB rfl rfl rfl rfl rfl).mem (H'':=fun g=>ak (.slice (some ⟨g,0,none⟩) 0 0) ([]:List Int)::_) fun g w h=>bt (α:=Int) (m:=0) [] rfl (by simp) rfl (by decide) h) (fun gf _=>?_)
     refine pE rfl (di (α:=Int) (bytes:=8) (xs:= []) (ys:=m.out) (bU m.out).symm aw (aV cO) rfl fc (.ro hm.o) (by simp only[aD];omega) (by simp only[aD];omega) rfl rfl rfl) (fun⟨A3,c3⟩ _=>?_)
     refine aO ?_
     refine bu<|bS ((A1,c1),(A2,c2),(A3,c3)) (trivial) (hh:=(fun _ h=>h.msub ms))
    refine pE rfl ((fg (cs:= []) aw bj fB rfl rfl rfl rfl rfl).mem (H'':=fun g=>ak (.slice (some ⟨g,0,none⟩) 0 0) ([]:List Int)::_) fun g w h=>bt (α:=Int) (m:=0) [] rfl (by simp) rfl (by decide) h) (fun gf _=>?_)
    refine pE rfl (di (α:=Int) (bytes:=8) (xs:= []) (ys:=m.I) (bU m.I).symm aw (aV cO) rfl fc (.ro hm.i) (by simp only[aD];omega) (by simp only[aD];omega) rfl rfl rfl) (fun⟨A2,c2⟩ _=>?_)
    try dsimp only
    refine pE rfl (di (α:=Int) (bytes:=8) (xs:= []) (ys:=m.out) (bU m.out).symm aw (aV cO) rfl fc (.ro hm.o) (by simp only[aD];omega) (by simp only[aD];omega) rfl rfl rfl) (fun⟨A3,c3⟩ _=>?_)
    refine aO ?_
    refine bu<|bS ((A1,c1),(A2,c2),(A3,c3)) (trivial) (hh:=(fun _ h=>h.msub ms))
   refine pE rfl ((fg (cs:= []) aw bj fB rfl rfl rfl rfl rfl).mem (H'':=fun g=>ak (.slice (some ⟨g,0,none⟩) 0 0) ([]:List Int)::_) fun g w h=>bt (α:=Int) (m:=0) [] rfl (by simp) rfl (by decide) h) (fun gf _=>?_)
   refine pE rfl ((fg (cs:= []) aw bj fB rfl rfl rfl rfl rfl).mem (H'':=fun g=>ak (.slice (some ⟨g,0,none⟩) 0 0) ([]:List Int)::_) fun g w h=>bt (α:=Int) (m:=0) [] rfl (by simp) rfl (by decide) h) (fun ge _=>?_)
   refine pE rfl (di (α:=Int) (bytes:=8) (xs:= []) (ys:=m.I) (bU m.I).symm aw (aV cO) rfl fc (.ro hm.i) (by simp only[aD];omega) (by simp only[aD];omega) rfl rfl rfl) (fun⟨A2,c2⟩ _=>?_)
   try dsimp only
   refine pE rfl (di (α:=Int) (bytes:=8) (xs:= []) (ys:=m.out) (bU m.out).symm aw (aV cO) rfl fc (.ro hm.o) (by simp only[aD];omega) (by simp only[aD];omega) rfl rfl rfl) (fun⟨A3,c3⟩ _=>?_)
   refine aO ?_
   refine bu<|bS ((A1,c1),(A2,c2),(A3,c3)) (trivial) (hh:=(fun _ h=>h.msub ms))
  refine cP rfl ((fg (cs:= []) aw bj fB rfl rfl rfl rfl rfl).mem (H'':=fun g=>ak (.slice (some ⟨g,0,none⟩) 0 0) ([]:List Int)::_) fun g w h=>bt (α:=Int) (m:=0) [] rfl (by simp) rfl (by decide) h) rfl rfl (.inr fun _=>ha) (fun ge _=>?_) ?_
  ·refine cP rfl (eR rfl rfl rfl Dy (fun w hw=>nv _ m.B w (hw.ro hm.b) hfit.b)) rfl rfl (.inr fun _=>ha) (fun⟨A1,c1⟩ _=>?_) ?_
   ·refine aO ?_
    refine cP rfl (di (α:=Int) (bytes:=8) (xs:= []) (ys:=m.I) (bU m.I).symm aw (aV cO) rfl fc (.ro hm.i) (by simp only[aD];omega) (by simp only[aD];omega) rfl rfl rfl) rfl rfl (.inr fun _=>ha) (fun⟨A2,c2⟩ _=>?_) ?_
    ·try dsimp only
     refine pE rfl ((fg (cs:= []) aw bj fB rfl rfl rfl rfl rfl).mem (H'':=fun g=>ak (.slice (some ⟨g,0,none⟩) 0 0) ([]:List Int)::_) fun g w h=>bt (α:=Int) (m:=0) [] rfl (by simp) rfl (by decide) h) (fun gf _=>?_)
     refine pE rfl (di (α:=Int) (bytes:=8) (xs:= []) (ys:=m.out) (bU m.out).symm aw (aV cO) rfl fc (.ro hm.o) (by simp only[aD];omega) (by simp only[aD];omega) rfl rfl rfl) (fun⟨A3,c3⟩ _=>?_)
     refine aO ?_
     refine bu<|bS ((A1,c1),(A2,c2),(A3,c3)) (trivial) (hh:=(fun _ h=>h.msub ms))
    refine pE rfl ((fg (cs:= []) aw bj fB rfl rfl rfl rfl rfl).mem (H'':=fun g=>ak (.slice (some ⟨g,0,none⟩) 0 0) ([]:List Int)::_) fun g w h=>bt (α:=Int) (m:=0) [] rfl (by simp) rfl (by decide) h) (fun gf _=>?_)
    refine pE rfl (di (α:=Int) (bytes:=8) (xs:= []) (ys:=m.I) (bU m.I).symm aw (aV cO) rfl fc (.ro hm.i) (by simp only[aD];omega) (by simp only[aD];omega) rfl rfl rfl) (fun⟨A2,c2⟩ _=>?_)
    try dsimp only
    refine pE rfl (di (α:=Int) (bytes:=8) (xs:= []) (ys:=m.out) (bU m.out).symm aw (aV cO) rfl fc (.ro hm.o) (by simp only[aD];omega) (by simp only[aD];omega) rfl rfl rfl) (fun⟨A3,c3⟩ _=>?_)
    refine aO ?_
    refine bu<|bS ((A1,c1),(A2,c2),(A3,c3)) (trivial) (hh:=(fun _ h=>h.msub ms))
   refine pE rfl ((fg (cs:= []) aw bj fB rfl rfl rfl rfl rfl).mem (H'':=fun g=>ak (.slice (some ⟨g,0,none⟩) 0 0) ([]:List Int)::_) fun g w h=>bt (α:=Int) (m:=0) [] rfl (by simp) rfl (by decide) h) (fun gf _=>?_)
   refine pE rfl (eR rfl rfl rfl Dy (fun w hw=>nv _ m.B w (hw.ro hm.b) hfit.b)) (fun⟨A1,c1⟩ _=>?_)
   refine aO ?_
   refine pE rfl (di (α:=Int) (bytes:=8) (xs:= []) (ys:=m.I) (bU m.I).symm aw (aV cO) rfl fc (.ro hm.i) (by simp only[aD];omega) (by simp only[aD];omega) rfl rfl rfl) (fun⟨A2,c2⟩ _=>?_)
   try dsimp only
   refine pE rfl (di (α:=Int) (bytes:=8) (xs:= []) (ys:=m.out) (bU m.out).symm aw (aV cO) rfl fc (.ro hm.o) (by simp only[aD];omega) (by simp only[aD];omega) rfl rfl rfl) (fun⟨A3,c3⟩ _=>?_)
   refine aO ?_
   refine bu<|bS ((A1,c1),(A2,c2),(A3,c3)) (trivial) (hh:=(fun _ h=>h.msub ms))
  refine pE rfl ((fg (cs:= []) aw bj fB rfl rfl rfl rfl rfl).mem (H'':=fun g=>ak (.slice (some ⟨g,0,none⟩) 0 0) ([]:List Int)::_) fun g w h=>bt (α:=Int) (m:=0) [] rfl (by simp) rfl (by decide) h) (fun gf _=>?_)
  refine cP rfl (eR rfl rfl rfl Dy (fun w hw=>nv _ m.B w (hw.ro hm.b) hfit.b)) rfl rfl (.inr fun _=>ha) (fun⟨A1,c1⟩ _=>?_) ?_
  ·try dsimp only
   refine ay ?_
   refine pE rfl ((fg (cs:= []) aw bj fB rfl rfl rfl rfl rfl).mem (H'':=fun g=>ak (.slice (some ⟨g,0,none⟩) 0 0) ([]:List Int)::_) fun g w h=>bt (α:=Int) (m:=0) [] rfl (by simp) rfl (by decide) h) (fun ge _=>?_)
   refine pE rfl (di (α:=Int) (bytes:=8) (xs:= []) (ys:=m.I) (bU m.I).symm aw (aV cO) rfl fc (.ro hm.i) (by simp only[aD];omega) (by simp only[aD];omega) rfl rfl rfl) (fun⟨A2,c2⟩ _=>?_)
   try dsimp only
   refine pE rfl (di (α:=Int) (bytes:=8) (xs:= []) (ys:=m.out) (bU m.out).symm aw (aV cO) rfl fc (.ro hm.o) (by simp only[aD];omega) (by simp only[aD];omega) rfl rfl rfl) (fun⟨A3,c3⟩ _=>?_)
   refine aO ?_
   refine bu<|bS ((A1,c1),(A2,c2),(A3,c3)) (trivial) (hh:=(fun _ h=>h.msub ms))
  refine pE rfl ((fg (cs:= []) aw bj fB rfl rfl rfl rfl rfl).mem (H'':=fun g=>ak (.slice (some ⟨g,0,none⟩) 0 0) ([]:List Int)::_) fun g w h=>bt (α:=Int) (m:=0) [] rfl (by simp) rfl (by decide) h) (fun ge _=>?_)
  refine pE rfl (eR rfl rfl rfl Dy (fun w hw=>nv _ m.B w (hw.ro hm.b) hfit.b)) (fun⟨A1,c1⟩ _=>?_)
  refine aO ?_
  refine pE rfl (di (α:=Int) (bytes:=8) (xs:= []) (ys:=m.I) (bU m.I).symm aw (aV cO) rfl fc (.ro hm.i) (by simp only[aD];omega) (by simp only[aD];omega) rfl rfl rfl) (fun⟨A2,c2⟩ _=>?_)
  try dsimp only
  refine pE rfl (di (α:=Int) (bytes:=8) (xs:= []) (ys:=m.out) (bU m.out).symm aw (aV cO) rfl fc (.ro hm.o) (by simp only[aD];omega) (by simp only[aD];omega) rfl rfl rfl) (fun⟨A3,c3⟩ _=>?_)
  refine aO ?_
  refine bu<|bS ((A1,c1),(A2,c2),(A3,c3)) (trivial) (hh:=(fun _ h=>h.msub ms))
 rintro⟨⟨Ab,cb⟩,⟨Ai,ci⟩,⟨Ao,co⟩⟩ _
 try dsimp only
 refine dK (fun w h=>Cw.nilO aG h)<|aj ?_
 refine dA (fun g:Nat×Option Addr×Nat=>g.1<=m.F.length) (fun g=>m.F.length - g.1) (fun g=> [(1,.pointer (some ⟨g1,0,none⟩)),(2,.pointer (some ⟨g2,0,none⟩)),(3,.pointer (some ⟨g3,0,none⟩)),(4,.int .i64 (g.1:Int))]) (fun g=> [ak (.slice g.2.1 (m.F.take g.1).length g.2.2) (m.F.take g.1),am g1 [.slice a.Af m.F.length a.cf,.slice a.Ab m.B.length a.cb,.slice a.Ai m.I.length a.ci,.slice a.Ao m.out.length a.co,.int .i64 m.S,.int .i64 m.T] 43,am g2 [.slice none 0 0,.slice none 0 0,.slice none 0 0,.slice none 0 0,.int .i64 0,.int .i64 0] 43,ak (.slice Ab m.B.length cb) m.B,ak (.slice Ai m.I.length ci) m.I,ak (.slice Ao m.out.length co) m.out,am g3 [.slice g.2.1 (m.F.take g.1).length g.2.2,.slice Ab m.B.length cb,.slice Ai m.I.length ci,.slice Ao m.out.length co,.int .i64 m.S,.int .i64 m.T] 43]) (0,none,0) (aX _) ?_
 rintro⟨k,A',c'⟩ hk
 try dsimp only
 have hk:k<=m.F.length:=hk
 have htl:(m.F.take k).length=k:=by rw[aA];omega
 refine av (fun hlt=>?_) (fun hlt=>?_)
 ·have hkl:k<m.F.length:=by omega
  obtain⟨A1,c1,A2,c2,hl,hst,hi,hcell⟩:=hm.f.fr hkl
  obtain⟨hb1,hb2⟩:=hfit.f.2 (aN m.F k) (fE hkl)
  have htk:=yG hkl
  refine aj ?_
  refine cS (k) rfl ((.ro hm.f)) ?_
  refine iY rfl (hcell _)<|aj ?_
  intro g4 _
  refine dr (cV _ fc dI rfl rfl rfl rfl rfl (by rfl) rfl (by rfl)) rfl rfl (fun _ _=>?_)
  refine bH<|eh (fun _:(Option Addr×Nat)×(Option Addr×Nat)=>True) (fun g=> [(1,.pointer (some ⟨g1,0,none⟩)),(2,.pointer (some ⟨g2,0,none⟩)),(3,.pointer (some ⟨g3,0,none⟩)),(4,.int .i64 (k:Int)),(5,.pointer (some ⟨g4,0,none⟩))]) (fun g=> [am g4 [.int .i64 (aN m.F k).func,.int .i64 (aN m.F k).pc,.slice g.1.1 (aN m.F k).L.length g.1.2,.slice g.2.1 (aN m.F k).K.length g.2.2] 118,ak (.slice g.1.1 (aN m.F k).L.length g.1.2) (aN m.F k).L,ak (.slice g.2.1 (aN m.F k).K.length g.2.2) (aN m.F k).K,ak (.slice A' (m.F.take k).length c') (m.F.take k),am g1 [.slice a.Af m.F.length a.cf,.slice a.Ab m.B.length a.cb,.slice a.Ai m.I.length a.ci,.slice a.Ao m.out.length a.co,.int .i64 m.S,.int .i64 m.T] 43,am g2 [.slice none 0 0,.slice none 0 0,.slice none 0 0,.slice none 0 0,.int .i64 0,.int .i64 0] 43,ak (.slice Ab m.B.length cb) m.B,ak (.slice Ai m.I.length ci) m.I,ak (.slice Ao m.out.length co) m.out,am g3 [.slice A' (m.F.take k).length c',.slice Ab m.B.length cb,.slice Ai m.I.length ci,.slice Ao m.out.length co,.int .i64 m.S,.int .i64 m.T] 43]) ?_ ?_
  ·refine iq (.still 1 (.still 2 (.still 5 (.still 6 (.pick 0 (.pick 3 (.calm 8 (.pick 4 (.pick 7 (.pick 9 (.calm 10 (.pick 11 .done .stop)) .stop) .stop) .stop)) (.pick 4 (.pick 3 (.calm 8 (.pick 7 (.pick 9 (.calm 10 (.pick 11 .done .stop)) .stop) .stop)) .stop) .stop)) (.pick 4 (.pick 0 (.pick 3 (.calm 8 (.pick 7 (.pick 9 (.calm 10 (.pick 11 .done .stop)) .stop) .stop)) .stop) .stop) .stop)))))) [7,8,9,10,11] rfl (by kernel_rfl) (by kernel_rfl) ?_
   refine ay ?_
   refine cY rfl (cE fc dR rfl rfl (by rfl)) rfl rfl ha ?_
   refine ay ?_
   refine cY rfl (cE fc dR rfl rfl (by rfl)) rfl rfl ha ?_
   refine cP rfl ((fg (cs:= []) ax aI lI rfl rfl rfl rfl rfl).mem (H'':=fun g=>ak (.slice (some ⟨g,0,none⟩) 0 0) ([]:List aC)::_) fun g w h=>bt (α:=aC) (m:=0) [] rfl (by simp) rfl (by decide) h) rfl rfl (.inr fun _=>ha) (fun ge _=>?_) ?_
   ·refine cP rfl (di (α:=aC) (bytes:=16) (xs:= []) (ys:=(aN m.F k).L) (bU _).symm ax (aV du) rfl fc (.ro hl) (by simp only[aD];omega) (by simp only[aD];omega) rfl rfl rfl) rfl rfl (.inr fun _=>ha) (fun⟨A3,c3⟩ _=>?_) ?_
    ·try dsimp only
     refine ay ?_
     refine pE rfl ((fg (cs:= []) ax aI lI rfl rfl rfl rfl rfl).mem (H'':=fun g=>ak (.slice (some ⟨g,0,none⟩) 0 0) ([]:List aC)::_) fun g w h=>bt (α:=aC) (m:=0) [] rfl (by simp) rfl (by decide) h) (fun gf _=>?_)
     refine pE rfl (di (α:=aC) (bytes:=16) (xs:= []) (ys:=(aN m.F k).K) (bU _).symm ax (aV du) rfl fc (.ro hst) (by simp only[aD];omega) (by simp only[aD];omega) rfl rfl rfl) (fun⟨A4,c4⟩ _=>?_)
     refine aO ?_
     refine bu<|bS ((A3,c3),(A4,c4)) (trivial) (hh:=(fun _ h=>h.msub ms))
    refine pE rfl ((fg (cs:= []) ax aI lI rfl rfl rfl rfl rfl).mem (H'':=fun g=>ak (.slice (some ⟨g,0,none⟩) 0 0) ([]:List aC)::_) fun g w h=>bt (α:=aC) (m:=0) [] rfl (by simp) rfl (by decide) h) (fun gf _=>?_)
    refine pE rfl (di (α:=aC) (bytes:=16) (xs:= []) (ys:=(aN m.F k).L) (bU _).symm ax (aV du) rfl fc (.ro hl) (by simp only[aD];omega) (by simp only[aD];omega) rfl rfl rfl) (fun⟨A3,c3⟩ _=>?_)
    refine aO ?_
    refine pE rfl (di (α:=aC) (bytes:=16) (xs:= []) (ys:=(aN m.F k).K) (bU _).symm ax (aV du) rfl fc (.ro hst) (by simp only[aD];omega) (by simp only[aD];omega) rfl rfl rfl) (fun⟨A4,c4⟩ _=>?_)
    refine aO ?_
    refine bu<|bS ((A3,c3),(A4,c4)) (trivial) (hh:=(fun _ h=>h.msub ms))
   refine pE rfl ((fg (cs:= []) ax aI lI rfl rfl rfl rfl rfl).mem (H'':=fun g=>ak (.slice (some ⟨g,0,none⟩) 0 0) ([]:List aC)::_) fun g w h=>bt (α:=aC) (m:=0) [] rfl (by simp) rfl (by decide) h) (fun gf _=>?_)
   refine pE rfl ((fg (cs:= []) ax aI lI rfl rfl rfl rfl rfl).mem (H'':=fun g=>ak (.slice (some ⟨g,0,none⟩) 0 0) ([]:List aC)::_) fun g w h=>bt (α:=aC) (m:=0) [] rfl (by simp) rfl (by decide) h) (fun ge _=>?_)
   refine pE rfl (di (α:=aC) (bytes:=16) (xs:= []) (ys:=(aN m.F k).L) (bU _).symm ax (aV du) rfl fc (.ro hl) (by simp only[aD];omega) (by simp only[aD];omega) rfl rfl rfl) (fun⟨A3,c3⟩ _=>?_)
   refine aO ?_
   refine pE rfl (di (α:=aC) (bytes:=16) (xs:= []) (ys:=(aN m.F k).K) (bU _).symm ax (aV du) rfl fc (.ro hst) (by simp only[aD];omega) (by simp only[aD];omega) rfl rfl rfl) (fun⟨A4,c4⟩ _=>?_)
   refine aO ?_
   refine bu<|bS ((A3,c3),(A4,c4)) (trivial) (hh:=(fun _ h=>h.msub ms))
  rintro⟨⟨A3,c3⟩,⟨A4,c4⟩⟩ _
  refine aO ?_
  intro g5 _
  refine oE (cH (α:=aG) (bytes:=64) (aN m.F k) [ak (.slice A3 (aN m.F k).L.length c3) (aN m.F k).L,ak (.slice A4 (aN m.F k).K.length c4) (aN m.F k).K] htk cD (aV lE) rfl (xv fc fc fc fc) (xS hi) (by omega) (by omega) rfl rfl rfl) (fun⟨A5,c5⟩ _=>?_)
  refine aO ?_
  refine cU (k+1,A5,c5) (by show k+1<=_;omega) (by show _ - _<_ - _;omega)
 obtain rfl:k=m.F.length:=by omega
 rw[aT]
 refine aj ?_
 intro w hw
 exact⟨⟨A',c',Ab,cb,Ai,ci,Ao,co⟩,trivial,rfl,hw.msub ms⟩
theorem sf (a:MA) (m:az) (w:World) (hm:dS w.heap.size w a m) (hfit:uJ m) :
  Calls Tryz.prog 50 #[.agg #[.slice a.Af m.F.length a.cf,.slice a.Ab m.B.length a.cb,.slice a.Ai m.I.length a.ci,.slice a.Ao m.out.length a.co,.int .i64 m.S,.int .i64 m.T]] w fun e w'=> ∃g:MA,True/\
   e= .returned (.agg #[.slice g.Af m.F.length g.cf,.slice g.Ab m.B.length g.cb,.slice g.Ai m.I.length g.ci,.slice g.Ao m.out.length g.co,.int .i64 m.S,.int .i64 m.T])/\
   Cw w.heap.size w [ak (.slice g.Af m.F.length g.cf) m.F,ak (.slice g.Ab m.B.length g.cb) m.B,ak (.slice g.Ai m.I.length g.ci) m.I,ak (.slice g.Ao m.out.length g.co) m.out] w':=fR a m w hm hfit.to8
end
section
theorem oo {z:Int} (h:cd z=true):aH z:=by
 unfold cd at h
 simp only[db,decide_eq_true_eq] at h
 unfold aH
 omega
theorem kK (z:Int):aH (cA z).n:=oo (xO z)
theorem kD (z:Int) (hz:aH z) (w:World):Calls Tryz.prog 109 #[.int .i64 z] w fun e w'=>e= .returned (.agg #[.bool (cA z).ref,.int .i64 (cA z).n])/\Below w.heap.size w w':=by
 refine enter Tryz.func109 rfl Tryz.ntmps109 rfl<|aj ?_
 refine fun g1 _=>aj ?_
 refine bX rfl Tryz.call110 (fun w hw=>(zy z w hz).mono fun e w' h=>by obtain⟨h1,rfl⟩:=h;exact⟨h1,Below.refl _ _⟩)<|aj ?_
 intro w hw
 exact⟨rfl,hw.below⟩
section
variable {B:Nat} {w0:World} {H:List aJ}
theorem pm (gs gn go n nb:Nat) (As Ab:Option Addr) (cs cb:Nat) (x0 x2 x3 x4 x5:Value) (s:List aC) (bs:List (List Int)) (back:Nat) (v:aC) (hn:s.length=n) (hnb:bs.length=nb) (hb:1<=back/\back<=n) (hvs:s.getD (n - back) default=v) (hv:0<=v.n/\v.n<=bs.length) (w:World)
  (hw:Cw B w0 (am go [x0,.slice Ab nb cb,x2,x3,x4,x5] 43::am gs [.slice As n cs] 116::am gn [.int .i64 (n:Int)] 3::ak (.slice As n cs) s::ak (.slice Ab nb cb) bs::H) w) :
  Calls Tryz.prog 111 #[.int .i64 (back:Int),.pointer (some ⟨gs,0,none⟩),.pointer (some ⟨gn,0,none⟩),.pointer (some ⟨go,0,none⟩)] w fun e w'=>
   ∃g:Option Addr×Nat,True/\e= .returned (.tuple #[.slice g.1 (if v.n=0 then 0 else (blk bs v.n).length) g.2,.bool (!decide (v.n=0))])/\Cw B w0 (am go [x0,.slice Ab nb cb,x2,x3,x4,x5] 43::am gs [.slice As n cs] 116::am gn [.int .i64 (n:Int)] 3::ak (.slice As n cs) s::(if v.n=0 then ak (.slice Ab nb cb) bs else tB (.slice Ab nb cb) bs (v.n - 1).toNat (.slice g.1 (blk bs v.n).length g.2))::H) w':=by
 have b1:n<=140737488355328:=bE (SF.at_ (SF.own (xs:=s) hn (.s (.s (.s .a)))) hw)
 have hvb:0<=(s.getD (n - back) default).n/\(s.getD (n - back) default).n<=nb:=by rw[hvs];omega
 have b2:nb<=140737488355328:=bE (SF.at_ (SF.own (xs:=bs) hnb (.s (.s (.s (.s .a))))) hw)
 refine bG Tryz.func111 rfl Tryz.ntmps111 rfl hw<|aj ?_
 refine bh (t:=10) (v':= .int .i64 ((n - back:Nat):Int)) rfl (by congr 1;omega) ?_
 refine cS ((n - back)) rfl ((SF.own (xs:=s) hn fc))<|aj ?_
 refine eH rfl (fun w hw=>(SF.val (SF.own (xs:=s) hn fc) (show n - back<n by omega) default) w hw 1 _ rfl)<|aj ?_
 rw[hvs]
 refine eo rfl (fun h0=>?_) (fun h0=>?_)
 ·have h0:v.n=0:=h0
  refine aj ?_
  intro w hw
  refine⟨(none,0),trivial,?_,?_⟩
  ·rw[if_pos h0,decide_eq_true h0];rfl
  rw[if_pos h0];exact hw.msub ms
 obtain⟨k,hk⟩:∃k:Nat,(v.n - 1).toNat=k:=⟨_,rfl⟩
 have h0:¬v.n=0:=h0
 refine IQ (A:=Ab) (m:=nb) (c:=cb) (xs:=bs) k fc (by omega) fun A' c'=>?_
 refine aj ?_
 refine fx [0,3,6,9,12,15,18,21,24,27,30,33,36,39] [] rfl [tB (.slice Ab nb cb) bs k (.slice A' (bs.getD k []).length c'),am go [x0,.slice Ab nb cb,x2,x3,x4,x5] 43,am gs [.slice As n cs] 116,am gn [.int .i64 (n:Int)] 3,ak (.slice As n cs) s]<|aj ?_
 refine cC (t:=20) (v':= .int .i64 ((n - back:Nat):Int)) rfl (by congr 1;omega) ?_
 refine tE rfl (bg (k:=(n - back)) ax aI (SF.own (xs:=s) hn fc) (by omega) rfl rfl rfl)<|aj ?_
 refine tE rfl (bQ (fun w hw=>(SF.val (SF.own (xs:=s) hn fc) (show n - back<n by omega) default) w hw 1 _ rfl) rfl rfl be)<|aj ?_
 rw[hvs]
 refine cC (t:=24) (v':= .int .i64 (k:Int)) rfl (by congr 1;omega) ?_
 refine tE rfl (bg (k:=k) dX iJ (SF.rino hnb fc) (by omega) rfl rfl rfl) ?_
 refine tE rfl (Cb fc gv rfl rfl)<|aj ?_
 intro w hw
 refine⟨(A',c'),trivial,?_,?_⟩
 ·rw[if_neg h0,decide_eq_false h0];unfold blk;rw[hk];rfl
 rw[if_neg h0];unfold blk;rw[hk];exact hw.msub ms
end
theorem iC (a:MA) (m:az) (why:Int) (_:1<=why/\why<=5) (w:World) (hm:dS w.heap.size w a m) (hfit:uJ m) :
  Calls Tryz.prog 112 #[.agg #[.slice a.Af m.F.length a.cf,.slice a.Ab m.B.length a.cb,.slice a.Ai m.I.length a.ci,.slice a.Ao m.out.length a.co,.int .i64 m.S,.int .i64 m.T],.int .i64 why] w fun e w'=> ∃g:MA,True/\
   e= .returned (.agg #[.slice g.Af m.F.length g.cf,.slice g.Ab m.B.length g.cb,.slice g.Ai m.I.length g.ci,.slice g.Ao m.out.length g.co,.int .i64 3,.int .i64 why])/\
   Cw w.heap.size w [ak (.slice g.Af m.F.length g.cf) m.F,ak (.slice g.Ab m.B.length g.cb) m.B,ak (.slice g.Ai m.I.length g.ci) m.I,ak (.slice g.Ao m.out.length g.co) m.out] w':=by
 refine enter Tryz.func112 rfl Tryz.ntmps112 rfl<|aj ?_
 refine fun g1 _=>aj ?_
 refine fun g2 _=>aj ?_
 refine eb rfl jB (fun w hw=>sf a m w (hm.ro hw) hfit) (fun ga _=>aj ?_)
 refine fun g3 _=>aj ?_
 intro w hw
 exact⟨ga,trivial,rfl,hw.msub ms⟩
end
section
theorem oO (s:List aC):dl s <+: s:=List.dropLast_prefix s
theorem rG (s:List aC):dl (dl s) <+: s:=(oO _).trans (oO _)
theorem NE (s:List aC):dl (dl (dl s)) <+: s:=(oO _).trans (rG _)
theorem uZ (s:List aC):(dl (dl s)).length=s.length - 2:=by rw[iG,iG];omega
theorem NG (s:List aC):(dl (dl (dl s))).length=s.length - 3:=by rw[iG,iG,iG];omega
section
variable {P:Program} {n:NF} {B:Nat} {w0:World} {H H':List aJ} {Q:Exit->Act->World->Prop} {env:cy} {x:Code} {ops:Array Oper} {os:List Oper} {Hq:List aJ} {fin:List Nat} {r:il}
theorem yT {α:Type} [Ow α] {A:Option Addr} {c:Nat} {s t:List α} (ht:t <+: s) {w:World} (h:Cw B w0 (ak (.slice A s.length c) s::H) w):Cw B w0 (ak (.slice A t.length c) t::H) w:=by
 have:=ri (k:=t.length) ht.length_le h
 rwa [<-List.prefix_iff_eq_take.1 ht] at this
theorem rk {α:Type} [Ow α] {A:Option Addr} {c:Nat} {s:List α} (t:List α) (hp:cN H (ak (.slice A s.length c) s) H') (ht:t <+: s) (h:RW P n B w0 ops Q os env (ak (.slice A t.length c) t::H')):RW P n B w0 ops Q os env H:=ee (fun _ hw=>yT ht (hw.perm hp)) h
theorem xg {α:Type} [Ow α] {A:Option Addr} {c:Nat} {s:List α} (t:List α) (hp:cN H (ak (.slice A s.length c) s) H') (ht:t <+: s) (h:RO P n B w0 ops Q Hq fin r env (ak (.slice A t.length c) t::H')):RO P n B w0 ops Q Hq fin r env H:=xh (fun _ hw=>yT ht (hw.perm hp)) h
end
theorem PD {s:List aC} (h:1<=s.length):dl s++ [aF s,aF s]=s++ [aF s]:=by
 obtain⟨a,v1,rfl⟩:=dP (l:=s) h
 rw[dU,df,bD]
 rfl
theorem yH {s:List aC} (h:2<=s.length):(s.set (s.length - 1) (aF (dl s))).set (s.length - 2) (aF s)=dl (dl s)++ [aF s,aF (dl s)]:=by
 obtain⟨a0,v1,rfl⟩:=dP (l:=s) (by omega)
 obtain⟨a,v2,rfl⟩:=dP (l:=a0) (by rw[ar,aP] at h;omega)
 rw[df,dU,df,dU,bD]
 have e:(a++([v2]++ [v1])).length=a.length+2:=by simp
 rw[e,tj _ _ (by omega),tj _ _ (by omega),show a.length+2 - 1 - a.length=1 from by omega,show a.length+2 - 2 - a.length=0 from by omega]
 rfl
theorem pG {s:List aC} (h:1<=s.length) (v:aC):s.set (s.length - 1) v=dl s++ [v]:=by
 obtain⟨a,v1,rfl⟩:=dP (l:=s) h
 rw[dU,ar,aP,vX a v1 v (by omega)]
structure mh (B:Nat) (w0:World) (fs:List au) (m:az) (a:MA) (li:List (aB×aG)) (k:Nat) (Ap:Option Addr) (cp:Nat) (f p0 p1:Int) (l s:List aC) (o:bC) (fr:Int):Prop where
 hk:li.length=k
 hok:gZ li
 hp:bJ w0 B (.slice Ap fs.length cp) fs
 hm:dS B w0 a m
 fit:uJ m
 nd:tg fs m.B.length ⟨f,p1,l,s⟩ o
 bl:cz m.B=0
 sl:s.length<=900
 ol:m.out.length<=1000
 k6:k<=1000
 hst:∀q∈li,q.2.K.length<=1000
 oa:aH o.a
 pi:aH f/\aH p0/\aH p1
 si:∀v∈s,aH v.n
 lv:∀v∈l,aH v.n
 hms:aH m.S
 fn:0<=f/\f<fs.length/\fr=(aq fs f.toNat).result/\0<=fr
 mf:m.F.length=k+1
 isn:o.c=19->0<=(aF s).n/\(aF s).n<=m.B.length
 of:bB fs m=o
 fs:m.F=li.map Prod.snd++ [⟨f,p0,l,s⟩]
 ib:m.I.length<=1000
 ii:∀z∈m.I,aH z
 sI:∀v∈s,v.n<=2147483647
section
variable {B:Nat} {w0:World} {Q:Exit->Act->World->Prop} (gp gm gr go gc gf gs gn k:Nat) (li:List (aB×aG)) (A Al As Ap Ab Ai Ao:Option Addr) (c cl cs cp cb ci co:Nat) (a:MA) (m:az) (f p0 p1 fr:Int) (l s:List aC) (o:bC) (fs:List au) (rz:List Value) (fx0 fx1 fx3:Value) (hrz:rz.length=6)
theorem QQ (R:mh B w0 fs m a li k Ap cp f p0 p1 l s o fr) (hc:o.c=1) (K:∀(s':List aC) (As':Option Addr) (cs':Nat) (l':List aC) (b':List (List Int)) (Ab':Option Addr) (cb':Nat) (i':List Int) (Ai':Option Addr) (ci':Nat) (o':List Int) (Ao':Option Addr) (co':Nat) (st' nx:Int),aH nx/\aH st'->bN fs m (li.map Prod.snd) ⟨f,p1,l,s⟩ o= .inr ⟨li.map Prod.snd++ [⟨f,nx,l',s'⟩],b',i',o',st',m.T⟩->XW ⟨551,[]⟩ B w0 Q .normal [(4,.pointer (some ⟨gr,0,none⟩)),(5,.pointer (some ⟨go,0,none⟩)),(6,.pointer (some ⟨ab A,ao A+k*4,none⟩)),(9,.pointer (some ⟨gs,0,none⟩)),(13,.int .i64 nx)] (am gs [.slice As' s'.length cs'] 116::ak (.slice As' s'.length cs') s'::am gr rz 43::am go [.slice A (k+1) c,.slice Ab' b'.length cb',.slice Ai' i'.length ci',.slice Ao' o'.length co',.int .i64 st',.int .i64 m.T] 43::ak (.slice A (k+1) c) (li.map Prod.fst++ [(⟨f,p0,.slice Al l'.length cl,.slice As s.length cs⟩:aB)])::ak (.slice Al l'.length cl) l'::cM li::ak (.slice Ab' b'.length cb') b'::ak (.slice Ai' i'.length ci') i'::ak (.slice Ao' o'.length co') o':: [])):CW Tryz.prog ⟨551,[]⟩ B w0 (kU [true,true,true,true,true,true,true,true,true,true,true,false,true,false,true,false] (gt Tryz.f51)) Q [(4,.pointer (some ⟨gr,0,none⟩)),(5,.pointer (some ⟨go,0,none⟩)),(6,.pointer (some ⟨ab A,ao A+k*4,none⟩)),(7,.pointer (some ⟨gc,0,none⟩)),(9,.pointer (some ⟨gs,0,none⟩)),(11,.func (.func 109) #[] #[]),(13,.int .i64 p1)] [am gs [.slice As s.length cs] 116,ak (.slice As s.length cs) s,am gp [.slice Ap fs.length cp] 24,am gm [.slice a.Af m.F.length a.cf,.slice a.Ab m.B.length a.cb,.slice a.Ai m.I.length a.ci,.slice a.Ao m.out.length a.co,.int .i64 m.S,.int .i64 m.T] 43,am gr rz 43,am go [.slice A (k+1) c,.slice Ab m.B.length cb,.slice Ai m.I.length ci,.slice Ao m.out.length co,.int .i64 m.S,.int .i64 m.T] 43,am gc [.int .i64 o.c,.int .i64 o.a] 86,am gf [fx0,fx1,.int .i64 fr,fx3] 84,am gn [.int .i64 (s.length:Int)] 3,ak (.slice A (k+1) c) (li.map Prod.fst++ [(⟨f,p0,.slice Al l.length cl,.slice As s.length cs⟩:aB)]),ak (.slice Al l.length cl) l,cM li,ak (.slice Ab m.B.length cb) m.B,ak (.slice Ai m.I.length ci) m.I,ak (.slice Ao m.out.length co) m.out]:=by
 have hsl:=R.sl
 refine bz [0,3,6,9,14,17,20,23] [6,7] rfl ?_
 refine cY rfl (cE fc dR rfl rfl (by rfl)) rfl rfl ha ?_
 refine aj ?_
 refine pE rfl (ko rfl rfl rfl nL (fun w hw=>kD o.a R.oa w)) (fun _ _=>aj ?_)
 intro g1 _
 refine pE rfl (cH (α:=aC) (bytes:=16) (cA o.a) [] rfl ax (aV du) rfl (eD fc fc) (dm (kK _)) (by omega) (by omega) rfl rfl rfl) (fun⟨A3,c3⟩ _=>?_)
 refine aO ?_
 refine bu<|eQ (K (s++ [cA o.a]) A3 c3 l m.B Ab cb m.I Ai ci m.out Ao co m.S p1 ⟨R.pi.2.2,R.hms⟩ (by dsimp only[bN];rw[if_pos hc])) ⟨rfl,rfl,rfl,rfl,rfl,trivial⟩ me
theorem vP (z:Int):aH (IntKind.i64.wrap z):=by
 rw[IntWalk.i64_left]
 unfold wrap64 aH
 omega
theorem QP (R:mh B w0 fs m a li k Ap cp f p0 p1 l s o fr) (hc:o.c=2) (K:∀(s':List aC) (As':Option Addr) (cs':Nat) (l':List aC) (b':List (List Int)) (Ab':Option Addr) (cb':Nat) (i':List Int) (Ai':Option Addr) (ci':Nat) (o':List Int) (Ao':Option Addr) (co':Nat) (st' nx:Int),aH nx/\aH st'->bN fs m (li.map Prod.snd) ⟨f,p1,l,s⟩ o= .inr ⟨li.map Prod.snd++ [⟨f,nx,l',s'⟩],b',i',o',st',m.T⟩->XW ⟨551,[]⟩ B w0 Q .normal [(4,.pointer (some ⟨gr,0,none⟩)),(5,.pointer (some ⟨go,0,none⟩)),(6,.pointer (some ⟨ab A,ao A+k*4,none⟩)),(9,.pointer (some ⟨gs,0,none⟩)),(13,.int .i64 nx)] (am gs [.slice As' s'.length cs'] 116::ak (.slice As' s'.length cs') s'::am gr rz 43::am go [.slice A (k+1) c,.slice Ab' b'.length cb',.slice Ai' i'.length ci',.slice Ao' o'.length co',.int .i64 st',.int .i64 m.T] 43::ak (.slice A (k+1) c) (li.map Prod.fst++ [(⟨f,p0,.slice Al l'.length cl,.slice As s.length cs⟩:aB)])::ak (.slice Al l'.length cl) l'::cM li::ak (.slice Ab' b'.length cb') b'::ak (.slice Ai' i'.length ci') i'::ak (.slice Ao' o'.length co') o':: [])):CW Tryz.prog ⟨551,[]⟩ B w0 (kU [true,true,true,true,true,true,true,true,true,true,true,false,true,false,true,true,true,false] (gt Tryz.f51)) Q [(4,.pointer (some ⟨gr,0,none⟩)),(5,.pointer (some ⟨go,0,none⟩)),(6,.pointer (some ⟨ab A,ao A+k*4,none⟩)),(9,.pointer (some ⟨gs,0,none⟩)),(10,.pointer (some ⟨gn,0,none⟩)),(13,.int .i64 p1)] [am gs [.slice As s.length cs] 116,ak (.slice As s.length cs) s,am gp [.slice Ap fs.length cp] 24,am gm [.slice a.Af m.F.length a.cf,.slice a.Ab m.B.length a.cb,.slice a.Ai m.I.length a.ci,.slice a.Ao m.out.length a.co,.int .i64 m.S,.int .i64 m.T] 43,am gr rz 43,am go [.slice A (k+1) c,.slice Ab m.B.length cb,.slice Ai m.I.length ci,.slice Ao m.out.length co,.int .i64 m.S,.int .i64 m.T] 43,am gc [.int .i64 o.c,.int .i64 o.a] 86,am gf [fx0,fx1,.int .i64 fr,fx3] 84,am gn [.int .i64 (s.length:Int)] 3,ak (.slice A (k+1) c) (li.map Prod.fst++ [(⟨f,p0,.slice Al l.length cl,.slice As s.length cs⟩:aB)]),ak (.slice Al l.length cl) l,cM li,ak (.slice Ab m.B.length cb) m.B,ak (.slice Ai m.I.length ci) m.I,ak (.slice Ao m.out.length co) m.out]:=by
 have hsl:=R.sl
 have h1:1<=s.length:=R.nd.one (.inl hc)
 have hd:=iG s
 refine dY (fun w h=>gG h (xs:=s) (.s .a)) fun hcap=>?_
 refine bO<|aj ?_
 refine bh (t:=79) (v':= .int .i64 ((dl s).length:Int)) rfl (by congr 1;omega) ?_
 refine sE (ij (k:=(dl s).length) ax aI (by omega) rfl rfl rfl) ?_
 refine dr (cV _ fc ft rfl rfl rfl rfl rfl (by rfl) rfl (by rfl)) rfl rfl (fun _ _=>?_)
 refine rk (dl s) fc (oO s) ?_
 refine iM<|eQ (K (dl s) As cs l m.B Ab cb m.I Ai ci m.out Ao co m.S p1 ⟨R.pi.2.2,R.hms⟩ (by dsimp only[bN];rw[if_neg (by omega),if_pos hc])) ⟨rfl,rfl,rfl,rfl,rfl,trivial⟩ me
theorem QO (R:mh B w0 fs m a li k Ap cp f p0 p1 l s o fr) (hc:o.c=3) (K:∀(s':List aC) (As':Option Addr) (cs':Nat) (l':List aC) (b':List (List Int)) (Ab':Option Addr) (cb':Nat) (i':List Int) (Ai':Option Addr) (ci':Nat) (o':List Int) (Ao':Option Addr) (co':Nat) (st' nx:Int),aH nx/\aH st'->bN fs m (li.map Prod.snd) ⟨f,p1,l,s⟩ o= .inr ⟨li.map Prod.snd++ [⟨f,nx,l',s'⟩],b',i',o',st',m.T⟩->XW ⟨551,[]⟩ B w0 Q .normal [(4,.pointer (some ⟨gr,0,none⟩)),(5,.pointer (some ⟨go,0,none⟩)),(6,.pointer (some ⟨ab A,ao A+k*4,none⟩)),(9,.pointer (some ⟨gs,0,none⟩)),(13,.int .i64 nx)] (am gs [.slice As' s'.length cs'] 116::ak (.slice As' s'.length cs') s'::am gr rz 43::am go [.slice A (k+1) c,.slice Ab' b'.length cb',.slice Ai' i'.length ci',.slice Ao' o'.length co',.int .i64 st',.int .i64 m.T] 43::ak (.slice A (k+1) c) (li.map Prod.fst++ [(⟨f,p0,.slice Al l'.length cl,.slice As s.length cs⟩:aB)])::ak (.slice Al l'.length cl) l'::cM li::ak (.slice Ab' b'.length cb') b'::ak (.slice Ai' i'.length ci') i'::ak (.slice Ao' o'.length co') o':: [])):CW Tryz.prog ⟨551,[]⟩ B w0 (kU [true,true,true,true,true,true,true,true,true,true,true,false,true,false,true,true,true,true,true,false] (gt Tryz.f51)) Q [(4,.pointer (some ⟨gr,0,none⟩)),(5,.pointer (some ⟨go,0,none⟩)),(6,.pointer (some ⟨ab A,ao A+k*4,none⟩)),(9,.pointer (some ⟨gs,0,none⟩)),(10,.pointer (some ⟨gn,0,none⟩)),(13,.int .i64 p1)] [am gs [.slice As s.length cs] 116,ak (.slice As s.length cs) s,am gp [.slice Ap fs.length cp] 24,am gm [.slice a.Af m.F.length a.cf,.slice a.Ab m.B.length a.cb,.slice a.Ai m.I.length a.ci,.slice a.Ao m.out.length a.co,.int .i64 m.S,.int .i64 m.T] 43,am gr rz 43,am go [.slice A (k+1) c,.slice Ab m.B.length cb,.slice Ai m.I.length ci,.slice Ao m.out.length co,.int .i64 m.S,.int .i64 m.T] 43,am gc [.int .i64 o.c,.int .i64 o.a] 86,am gf [fx0,fx1,.int .i64 fr,fx3] 84,am gn [.int .i64 (s.length:Int)] 3,ak (.slice A (k+1) c) (li.map Prod.fst++ [(⟨f,p0,.slice Al l.length cl,.slice As s.length cs⟩:aB)]),ak (.slice Al l.length cl) l,cM li,ak (.slice Ab m.B.length cb) m.B,ak (.slice Ai m.I.length ci) m.I,ak (.slice Ao m.out.length co) m.out]:=by
 have hsl:=R.sl
 have h1:1<=s.length:=R.nd.one (.inr (.inl hc))
 have hv:s.getD (s.length - 1) default=aF s:=eG.symm
 have hvi:aH (aF s).n:=by rw[eG];exact R.si _ (cI (by omega))
 refine bz [0,3,6,9,12,15,20,23,26] [7,8] rfl ?_
 refine cY rfl (cE fc dR rfl rfl (by rfl)) rfl rfl ha ?_
 refine aj ?_
 refine cC (t:=86) (v':= .int .i64 ((s.length - 1:Nat):Int)) rfl (by congr 1;omega) ?_
 refine tE rfl (bg (k:=(s.length - 1)) ax aI (SF.own (xs:=s) rfl fc) (by omega) rfl rfl rfl) ?_
 refine tE rfl (eF (SF.val (SF.own rfl fc) (show s.length - 1<s.length by omega) default) rfl rfl ie aI)<|aj ?_
 intro g1 _
 rw[hv]
 refine pE rfl (cH (α:=aC) (bytes:=16) (aF s) [] rfl ax (aV du) rfl (eD fc fc) (dm hvi) (by omega) (by omega) rfl rfl rfl) (fun⟨A3,c3⟩ _=>?_)
 refine aO ?_
 refine bu<|eQ (K (s++ [aF s]) A3 c3 l m.B Ab cb m.I Ai ci m.out Ao co m.S p1 ⟨R.pi.2.2,R.hms⟩ (by dsimp only[bN];rw[if_neg (by omega),if_neg (by omega),if_pos hc];conv=>lhs;rw[show dl s++ [aF s,aF s]=s++ [aF s] from by exact PD h1])) ⟨rfl,rfl,rfl,rfl,rfl,trivial⟩ me
theorem QN (R:mh B w0 fs m a li k Ap cp f p0 p1 l s o fr) (hc:o.c=4) (K:∀(s':List aC) (As':Option Addr) (cs':Nat) (l':List aC) (b':List (List Int)) (Ab':Option Addr) (cb':Nat) (i':List Int) (Ai':Option Addr) (ci':Nat) (o':List Int) (Ao':Option Addr) (co':Nat) (st' nx:Int),aH nx/\aH st'->bN fs m (li.map Prod.snd) ⟨f,p1,l,s⟩ o= .inr ⟨li.map Prod.snd++ [⟨f,nx,l',s'⟩],b',i',o',st',m.T⟩->XW ⟨551,[]⟩ B w0 Q .normal [(4,.pointer (some ⟨gr,0,none⟩)),(5,.pointer (some ⟨go,0,none⟩)),(6,.pointer (some ⟨ab A,ao A+k*4,none⟩)),(9,.pointer (some ⟨gs,0,none⟩)),(13,.int .i64 nx)] (am gs [.slice As' s'.length cs'] 116::ak (.slice As' s'.length cs') s'::am gr rz 43::am go [.slice A (k+1) c,.slice Ab' b'.length cb',.slice Ai' i'.length ci',.slice Ao' o'.length co',.int .i64 st',.int .i64 m.T] 43::ak (.slice A (k+1) c) (li.map Prod.fst++ [(⟨f,p0,.slice Al l'.length cl,.slice As s.length cs⟩:aB)])::ak (.slice Al l'.length cl) l'::cM li::ak (.slice Ab' b'.length cb') b'::ak (.slice Ai' i'.length ci') i'::ak (.slice Ao' o'.length co') o':: [])):CW Tryz.prog ⟨551,[]⟩ B w0 (kU [true,true,true,true,true,true,true,true,true,true,true,false,true,false,true,true,true,true,true,true,true,false] (gt Tryz.f51)) Q [(4,.pointer (some ⟨gr,0,none⟩)),(5,.pointer (some ⟨go,0,none⟩)),(6,.pointer (some ⟨ab A,ao A+k*4,none⟩)),(9,.pointer (some ⟨gs,0,none⟩)),(10,.pointer (some ⟨gn,0,none⟩)),(13,.int .i64 p1)] [am gs [.slice As s.length cs] 116,ak (.slice As s.length cs) s,am gp [.slice Ap fs.length cp] 24,am gm [.slice a.Af m.F.length a.cf,.slice a.Ab m.B.length a.cb,.slice a.Ai m.I.length a.ci,.slice a.Ao m.out.length a.co,.int .i64 m.S,.int .i64 m.T] 43,am gr rz 43,am go [.slice A (k+1) c,.slice Ab m.B.length cb,.slice Ai m.I.length ci,.slice Ao m.out.length co,.int .i64 m.S,.int .i64 m.T] 43,am gc [.int .i64 o.c,.int .i64 o.a] 86,am gf [fx0,fx1,.int .i64 fr,fx3] 84,am gn [.int .i64 (s.length:Int)] 3,ak (.slice A (k+1) c) (li.map Prod.fst++ [(⟨f,p0,.slice Al l.length cl,.slice As s.length cs⟩:aB)]),ak (.slice Al l.length cl) l,cM li,ak (.slice Ab m.B.length cb) m.B,ak (.slice Ai m.I.length ci) m.I,ak (.slice Ao m.out.length co) m.out]:=by
 have hsl:=R.sl
 have h1:2<=s.length:=R.nd.two (.inl hc)
 have hv:s.getD (s.length - 1) default=aF s:=eG.symm
 have hvi:aH (aF s).n:=by rw[eG];exact R.si _ (cI (by omega))
 have hv2:s.getD (s.length - 2) default=aF (dl s):=(jI h1).symm
 have hvi2:aH (aF (dl s)).n:=by rw[jI h1];exact R.si _ (cI (by omega))
 have e2:(dl (dl s)++ [aF s,aF (dl s)]).length=s.length:=by rw[<-yH h1,ea,ea]
 refine dY (fun w hw=>(SF.at_ (SF.own (xs:=s) rfl (.s .a)) hw).addr (show 0<s.length by omega)) fun hAs=>?_
 refine wI (.still 0 (.still 1 (.still 2 (.still 3 (.still 4 (.still 5 (.still 6 (.still 7 (.still 8 (.still 9 (.still 11 (.still 12 (.still 13 (.still 14 (.pick 10 (.pick 15 (.still 16 (.pick 17 (.still 18 (.pick 19 .done .stop)) .stop)) .stop) (.pick 15 (.pick 10 (.still 16 (.pick 17 (.still 18 (.pick 19 .done .stop)) .stop)) .stop) .stop)))))))))))))))) [19] rfl (by kernel_rfl) (by kernel_rfl) [am gs [.slice As s.length cs] 116,am gn [.int .i64 (s.length:Int)] 3] ?_
 refine cY rfl (cE fc dR rfl rfl (by rfl)) rfl rfl ha ?_
 refine cY rfl (cE fc be rfl rfl (by rfl)) rfl rfl ha ?_
 refine tE rfl (uO (c:=((s.length - 1:Nat):Int)) (by omega) rfl rfl rfl (by omega)) ?_
 refine cY rfl (cE fc dR rfl rfl (by rfl)) rfl rfl ha ?_
 refine cY rfl (cE fc be rfl rfl (by rfl)) rfl rfl ha ?_
 refine tE rfl (uO (c:=((s.length - 2:Nat):Int)) (by omega) rfl rfl rfl (by omega)) ?_
 refine cY rfl (cE fc dR rfl rfl (by rfl)) rfl rfl ha ?_
 refine cY rfl (cE fc be rfl rfl (by rfl)) rfl rfl ha ?_
 refine tE rfl (uO (c:=((s.length - 2:Nat):Int)) (by omega) rfl rfl rfl (by omega)) ?_
 refine tE rfl (pK (k:=s.length - 2) hAs ax aI (by omega) rfl rfl rfl) ?_
 refine cY rfl (cE fc dR rfl rfl (by rfl)) rfl rfl ha ?_
 refine cY rfl (cE fc be rfl rfl (by rfl)) rfl rfl ha ?_
 refine tE rfl (uO (c:=((s.length - 1:Nat):Int)) (by omega) rfl rfl rfl (by omega)) ?_
 refine tE rfl (pK (k:=s.length - 1) hAs ax aI (by omega) rfl rfl rfl) ?_
 refine cP rfl (FX (eF (cs:= [.bool (aF (dl s)).ref,.int .i64 (aF (dl s)).n]) (fun w hw j v h=>(SF.val (SF.own rfl fc) (show s.length - 2<s.length by omega) default) w hw j v (by rw[hv2];exact h)) rfl rfl ie aI)) rfl rfl (.inr fun _=>ha) (fun _ _=>?_) ?_
 ·refine pE rfl (FX (eF (cs:= [.bool (aF s).ref,.int .i64 (aF s).n]) (fun w hw j v h=>(SF.val (SF.own rfl fc) (show s.length - 1<s.length by omega) default) w hw j v (by rw[hv];exact h)) rfl rfl ie aI)) (fun _ _=>?_)
  refine tE rfl (pK (k:=s.length - 1) hAs ax aI (by omega) rfl rfl rfl) ?_
  refine pE rfl (fS (α:=aC) (A:=As) (c:=cs) (aF (dl s)) default (xs':=s.set (s.length - 1) (aF (dl s))) rfl fc (by omega) hvi2 aI rfl rfl rfl rfl rfl rfl rfl rfl) (fun _ _=>?_)
  refine tE rfl (pK (k:=s.length - 2) hAs ax aI (by omega) rfl rfl rfl) ?_
  refine pE rfl (fS (α:=aC) (A:=As) (c:=cs) (aF s) default (xs':=dl (dl s)++ [aF s,aF (dl s)]) (yH h1).symm fc (by omega) hvi aI rfl rfl rfl rfl rfl rfl rfl rfl) (fun _ _=>?_)
  refine bu<|eQ (K (dl (dl s)++ [aF s,aF (dl s)]) As cs l m.B Ab cb m.I Ai ci m.out Ao co m.S p1 ⟨R.pi.2.2,R.hms⟩ (by dsimp only[bN];rw[if_neg (by omega)];rw[if_neg (by omega)];rw[if_neg (by omega)];rw[if_pos hc])) ⟨rfl,rfl,rfl,rfl,rfl,trivial⟩ (fun w h=>by rw[e2];exact h.msub ms)
 refine pE rfl (FX (eF (cs:= [.bool (aF s).ref,.int .i64 (aF s).n]) (fun w hw j v h=>(SF.val (SF.own rfl fc) (show s.length - 1<s.length by omega) default) w hw j v (by rw[hv];exact h)) rfl rfl ie aI)) (fun _ _=>?_)
 refine pE rfl (FX (eF (cs:= [.bool (aF (dl s)).ref,.int .i64 (aF (dl s)).n]) (fun w hw j v h=>(SF.val (SF.own rfl fc) (show s.length - 2<s.length by omega) default) w hw j v (by rw[hv2];exact h)) rfl rfl ie aI)) (fun _ _=>?_)
 refine tE rfl (pK (k:=s.length - 1) hAs ax aI (by omega) rfl rfl rfl) ?_
 refine pE rfl (fS (α:=aC) (A:=As) (c:=cs) (aF (dl s)) default (xs':=s.set (s.length - 1) (aF (dl s))) rfl fc (by omega) hvi2 aI rfl rfl rfl rfl rfl rfl rfl rfl) (fun _ _=>?_)
 refine tE rfl (pK (k:=s.length - 2) hAs ax aI (by omega) rfl rfl rfl) ?_
 refine pE rfl (fS (α:=aC) (A:=As) (c:=cs) (aF s) default (xs':=dl (dl s)++ [aF s,aF (dl s)]) (yH h1).symm fc (by omega) hvi aI rfl rfl rfl rfl rfl rfl rfl rfl) (fun _ _=>?_)
 refine bu<|eQ (K (dl (dl s)++ [aF s,aF (dl s)]) As cs l m.B Ab cb m.I Ai ci m.out Ao co m.S p1 ⟨R.pi.2.2,R.hms⟩ (by dsimp only[bN];rw[if_neg (by omega)];rw[if_neg (by omega)];rw[if_neg (by omega)];rw[if_pos hc])) ⟨rfl,rfl,rfl,rfl,rfl,trivial⟩ (fun w h=>by rw[e2];exact h.msub ms)
theorem QM (R:mh B w0 fs m a li k Ap cp f p0 p1 l s o fr) (hc:o.c=5) (K:∀(s':List aC) (As':Option Addr) (cs':Nat) (l':List aC) (b':List (List Int)) (Ab':Option Addr) (cb':Nat) (i':List Int) (Ai':Option Addr) (ci':Nat) (o':List Int) (Ao':Option Addr) (co':Nat) (st' nx:Int),aH nx/\aH st'->bN fs m (li.map Prod.snd) ⟨f,p1,l,s⟩ o= .inr ⟨li.map Prod.snd++ [⟨f,nx,l',s'⟩],b',i',o',st',m.T⟩->XW ⟨551,[]⟩ B w0 Q .normal [(4,.pointer (some ⟨gr,0,none⟩)),(5,.pointer (some ⟨go,0,none⟩)),(6,.pointer (some ⟨ab A,ao A+k*4,none⟩)),(9,.pointer (some ⟨gs,0,none⟩)),(13,.int .i64 nx)] (am gs [.slice As' s'.length cs'] 116::ak (.slice As' s'.length cs') s'::am gr rz 43::am go [.slice A (k+1) c,.slice Ab' b'.length cb',.slice Ai' i'.length ci',.slice Ao' o'.length co',.int .i64 st',.int .i64 m.T] 43::ak (.slice A (k+1) c) (li.map Prod.fst++ [(⟨f,p0,.slice Al l'.length cl,.slice As s.length cs⟩:aB)])::ak (.slice Al l'.length cl) l'::cM li::ak (.slice Ab' b'.length cb') b'::ak (.slice Ai' i'.length ci') i'::ak (.slice Ao' o'.length co') o':: [])):CW Tryz.prog ⟨551,[]⟩ B w0 (kU [true,true,true,true,true,true,true,true,true,true,true,false,true,false,true,true,true,true,true,true,true,true,true,false] (gt Tryz.f51)) Q [(4,.pointer (some ⟨gr,0,none⟩)),(5,.pointer (some ⟨go,0,none⟩)),(6,.pointer (some ⟨ab A,ao A+k*4,none⟩)),(9,.pointer (some ⟨gs,0,none⟩)),(10,.pointer (some ⟨gn,0,none⟩)),(11,.func (.func 109) #[] #[]),(13,.int .i64 p1)] [am gs [.slice As s.length cs] 116,ak (.slice As s.length cs) s,am gp [.slice Ap fs.length cp] 24,am gm [.slice a.Af m.F.length a.cf,.slice a.Ab m.B.length a.cb,.slice a.Ai m.I.length a.ci,.slice a.Ao m.out.length a.co,.int .i64 m.S,.int .i64 m.T] 43,am gr rz 43,am go [.slice A (k+1) c,.slice Ab m.B.length cb,.slice Ai m.I.length ci,.slice Ao m.out.length co,.int .i64 m.S,.int .i64 m.T] 43,am gc [.int .i64 o.c,.int .i64 o.a] 86,am gf [fx0,fx1,.int .i64 fr,fx3] 84,am gn [.int .i64 (s.length:Int)] 3,ak (.slice A (k+1) c) (li.map Prod.fst++ [(⟨f,p0,.slice Al l.length cl,.slice As s.length cs⟩:aB)]),ak (.slice Al l.length cl) l,cM li,ak (.slice Ab m.B.length cb) m.B,ak (.slice Ai m.I.length ci) m.I,ak (.slice Ao m.out.length co) m.out]:=by
 have hsl:=R.sl
 have h1:2<=s.length:=R.nd.two (by omega)
 have hv:s.getD (s.length - 1) default=aF s:=eG.symm
 have hvi:aH (aF s).n:=by rw[eG];exact R.si _ (cI (by omega))
 have hv2:s.getD (s.length - 2) default=aF (dl s):=(jI h1).symm
 have hvi2:aH (aF (dl s)).n:=by rw[jI h1];exact R.si _ (cI (by omega))
 refine dY (fun w h=>gG h (xs:=s) (.s .a)) fun hcap=>?_
 have hd:=uZ s
 refine bz [0,3,6,9,12,15,18,21,24,27,30,33,36,39,42,45,48,51,56,59,62,65] [20,21] rfl ?_
 refine cY rfl (cE fc dR rfl rfl (by rfl)) rfl rfl ha ?_
 refine aj ?_
 refine cC (t:=115) (v':= .int .i64 ((dl (dl s)).length:Int)) rfl (by congr 1;omega) ?_
 refine tE rfl (ij (k:=(dl (dl s)).length) ax aI (by omega) rfl rfl rfl)<|aj ?_
 refine cC (t:=120) (v':= .int .i64 ((s.length - 2:Nat):Int)) rfl (by congr 1;omega) ?_
 refine tE rfl (bg (k:=(s.length - 2)) ax aI (SF.own (xs:=s) rfl fc) (by omega) rfl rfl rfl)<|aj ?_
 refine tE rfl (bQ (fun w hw=>(SF.val (SF.own rfl fc) (show s.length - 2<s.length by omega) default) w hw 1 _ rfl) rfl rfl be)<|aj ?_
 rw[hv2]
 refine cC (t:=126) (v':= .int .i64 ((s.length - 1:Nat):Int)) rfl (by congr 1;omega) ?_
 refine tE rfl (bg (k:=(s.length - 1)) ax aI (SF.own (xs:=s) rfl fc) (by omega) rfl rfl rfl)<|aj ?_
 refine tE rfl (bQ (fun w hw=>(SF.val (SF.own rfl fc) (show s.length - 1<s.length by omega) default) w hw 1 _ rfl) rfl rfl be) ?_
 rw[hv]
 refine tE rfl (EO rfl rfl rfl) ?_
 refine pE rfl (ko rfl rfl rfl nL (fun w hw=>kD (uB (aF (dl s)).n (aF s).n) (vP _) w)) (fun _ _=>aj ?_)
 intro g1 _
 refine xg (dl (dl s)) fc (rG s) ?_
 refine pE rfl (cH (α:=aC) (bytes:=16) (cA (uB (aF (dl s)).n (aF s).n)) [] rfl ax (aV du) rfl (eD fc fc) (dm (kK _)) (by omega) (by omega) rfl rfl rfl) (fun⟨A3,c3⟩ _=>?_)
 refine aO ?_
 refine bu<|eQ (K (dl (dl s)++ [cA (uB (aF (dl s)).n (aF s).n)]) A3 c3 l m.B Ab cb m.I Ai ci m.out Ao co m.S p1 ⟨R.pi.2.2,R.hms⟩ (by dsimp only[bN];rw[if_neg (by omega)];rw[if_neg (by omega)];rw[if_neg (by omega)];rw[if_neg (by omega)];rw[if_pos hc])) ⟨rfl,rfl,rfl,rfl,rfl,trivial⟩ me
theorem QL (R:mh B w0 fs m a li k Ap cp f p0 p1 l s o fr) (hc:o.c=6) (K:∀(s':List aC) (As':Option Addr) (cs':Nat) (l':List aC) (b':List (List Int)) (Ab':Option Addr) (cb':Nat) (i':List Int) (Ai':Option Addr) (ci':Nat) (o':List Int) (Ao':Option Addr) (co':Nat) (st' nx:Int),aH nx/\aH st'->bN fs m (li.map Prod.snd) ⟨f,p1,l,s⟩ o= .inr ⟨li.map Prod.snd++ [⟨f,nx,l',s'⟩],b',i',o',st',m.T⟩->XW ⟨551,[]⟩ B w0 Q .normal [(4,.pointer (some ⟨gr,0,none⟩)),(5,.pointer (some ⟨go,0,none⟩)),(6,.pointer (some ⟨ab A,ao A+k*4,none⟩)),(9,.pointer (some ⟨gs,0,none⟩)),(13,.int .i64 nx)] (am gs [.slice As' s'.length cs'] 116::ak (.slice As' s'.length cs') s'::am gr rz 43::am go [.slice A (k+1) c,.slice Ab' b'.length cb',.slice Ai' i'.length ci',.slice Ao' o'.length co',.int .i64 st',.int .i64 m.T] 43::ak (.slice A (k+1) c) (li.map Prod.fst++ [(⟨f,p0,.slice Al l'.length cl,.slice As s.length cs⟩:aB)])::ak (.slice Al l'.length cl) l'::cM li::ak (.slice Ab' b'.length cb') b'::ak (.slice Ai' i'.length ci') i'::ak (.slice Ao' o'.length co') o':: [])):CW Tryz.prog ⟨551,[]⟩ B w0 (kU [true,true,true,true,true,true,true,true,true,true,true,false,true,false,true,true,true,true,true,true,true,true,true,true,true,false] (gt Tryz.f51)) Q [(4,.pointer (some ⟨gr,0,none⟩)),(5,.pointer (some ⟨go,0,none⟩)),(6,.pointer (some ⟨ab A,ao A+k*4,none⟩)),(9,.pointer (some ⟨gs,0,none⟩)),(10,.pointer (some ⟨gn,0,none⟩)),(11,.func (.func 109) #[] #[]),(13,.int .i64 p1)] [am gs [.slice As s.length cs] 116,ak (.slice As s.length cs) s,am gp [.slice Ap fs.length cp] 24,am gm [.slice a.Af m.F.length a.cf,.slice a.Ab m.B.length a.cb,.slice a.Ai m.I.length a.ci,.slice a.Ao m.out.length a.co,.int .i64 m.S,.int .i64 m.T] 43,am gr rz 43,am go [.slice A (k+1) c,.slice Ab m.B.length cb,.slice Ai m.I.length ci,.slice Ao m.out.length co,.int .i64 m.S,.int .i64 m.T] 43,am gc [.int .i64 o.c,.int .i64 o.a] 86,am gf [fx0,fx1,.int .i64 fr,fx3] 84,am gn [.int .i64 (s.length:Int)] 3,ak (.slice A (k+1) c) (li.map Prod.fst++ [(⟨f,p0,.slice Al l.length cl,.slice As s.length cs⟩:aB)]),ak (.slice Al l.length cl) l,cM li,ak (.slice Ab m.B.length cb) m.B,ak (.slice Ai m.I.length ci) m.I,ak (.slice Ao m.out.length co) m.out]:=by
 have hsl:=R.sl
 have h1:2<=s.length:=R.nd.two (by omega)
 have hv:s.getD (s.length - 1) default=aF s:=eG.symm
 have hvi:aH (aF s).n:=by rw[eG];exact R.si _ (cI (by omega))
 have hv2:s.getD (s.length - 2) default=aF (dl s):=(jI h1).symm
 have hvi2:aH (aF (dl s)).n:=by rw[jI h1];exact R.si _ (cI (by omega))
 refine dY (fun w h=>gG h (xs:=s) (.s .a)) fun hcap=>?_
 have hd:=uZ s
 refine bz [0,3,6,9,12,15,18,21,24,27,30,33,36,39,42,45,48,51,56,59,62,65] [20,21] rfl ?_
 refine cY rfl (cE fc dR rfl rfl (by rfl)) rfl rfl ha ?_
 refine aj ?_
 refine cC (t:=138) (v':= .int .i64 ((dl (dl s)).length:Int)) rfl (by congr 1;omega) ?_
 refine tE rfl (ij (k:=(dl (dl s)).length) ax aI (by omega) rfl rfl rfl)<|aj ?_
 refine cC (t:=143) (v':= .int .i64 ((s.length - 2:Nat):Int)) rfl (by congr 1;omega) ?_
 refine tE rfl (bg (k:=(s.length - 2)) ax aI (SF.own (xs:=s) rfl fc) (by omega) rfl rfl rfl)<|aj ?_
 refine tE rfl (bQ (fun w hw=>(SF.val (SF.own rfl fc) (show s.length - 2<s.length by omega) default) w hw 1 _ rfl) rfl rfl be)<|aj ?_
 rw[hv2]
 refine cC (t:=149) (v':= .int .i64 ((s.length - 1:Nat):Int)) rfl (by congr 1;omega) ?_
 refine tE rfl (bg (k:=(s.length - 1)) ax aI (SF.own (xs:=s) rfl fc) (by omega) rfl rfl rfl)<|aj ?_
 refine tE rfl (bQ (fun w hw=>(SF.val (SF.own rfl fc) (show s.length - 1<s.length by omega) default) w hw 1 _ rfl) rfl rfl be) ?_
 rw[hv]
 refine tE rfl (EG rfl rfl rfl) ?_
 refine pE rfl (ko rfl rfl rfl nL (fun w hw=>kD (tJ (aF (dl s)).n (aF s).n) (vP _) w)) (fun _ _=>aj ?_)
 intro g1 _
 refine xg (dl (dl s)) fc (rG s) ?_
 refine pE rfl (cH (α:=aC) (bytes:=16) (cA (tJ (aF (dl s)).n (aF s).n)) [] rfl ax (aV du) rfl (eD fc fc) (dm (kK _)) (by omega) (by omega) rfl rfl rfl) (fun⟨A3,c3⟩ _=>?_)
 refine aO ?_
 refine bu<|eQ (K (dl (dl s)++ [cA (tJ (aF (dl s)).n (aF s).n)]) A3 c3 l m.B Ab cb m.I Ai ci m.out Ao co m.S p1 ⟨R.pi.2.2,R.hms⟩ (by dsimp only[bN];rw[if_neg (by omega)];rw[if_neg (by omega)];rw[if_neg (by omega)];rw[if_neg (by omega)];rw[if_neg (by omega)];rw[if_pos hc])) ⟨rfl,rfl,rfl,rfl,rfl,trivial⟩ me
theorem QK (R:mh B w0 fs m a li k Ap cp f p0 p1 l s o fr) (hc:o.c=7) (K:∀(s':List aC) (As':Option Addr) (cs':Nat) (l':List aC) (b':List (List Int)) (Ab':Option Addr) (cb':Nat) (i':List Int) (Ai':Option Addr) (ci':Nat) (o':List Int) (Ao':Option Addr) (co':Nat) (st' nx:Int),aH nx/\aH st'->bN fs m (li.map Prod.snd) ⟨f,p1,l,s⟩ o= .inr ⟨li.map Prod.snd++ [⟨f,nx,l',s'⟩],b',i',o',st',m.T⟩->XW ⟨551,[]⟩ B w0 Q .normal [(4,.pointer (some ⟨gr,0,none⟩)),(5,.pointer (some ⟨go,0,none⟩)),(6,.pointer (some ⟨ab A,ao A+k*4,none⟩)),(9,.pointer (some ⟨gs,0,none⟩)),(13,.int .i64 nx)] (am gs [.slice As' s'.length cs'] 116::ak (.slice As' s'.length cs') s'::am gr rz 43::am go [.slice A (k+1) c,.slice Ab' b'.length cb',.slice Ai' i'.length ci',.slice Ao' o'.length co',.int .i64 st',.int .i64 m.T] 43::ak (.slice A (k+1) c) (li.map Prod.fst++ [(⟨f,p0,.slice Al l'.length cl,.slice As s.length cs⟩:aB)])::ak (.slice Al l'.length cl) l'::cM li::ak (.slice Ab' b'.length cb') b'::ak (.slice Ai' i'.length ci') i'::ak (.slice Ao' o'.length co') o':: [])):CW Tryz.prog ⟨551,[]⟩ B w0 (kU [true,true,true,true,true,true,true,true,true,true,true,false,true,false,true,true,true,true,true,true,true,true,true,true,true,true,true,false] (gt Tryz.f51)) Q [(4,.pointer (some ⟨gr,0,none⟩)),(5,.pointer (some ⟨go,0,none⟩)),(6,.pointer (some ⟨ab A,ao A+k*4,none⟩)),(9,.pointer (some ⟨gs,0,none⟩)),(10,.pointer (some ⟨gn,0,none⟩)),(11,.func (.func 109) #[] #[]),(13,.int .i64 p1)] [am gs [.slice As s.length cs] 116,ak (.slice As s.length cs) s,am gp [.slice Ap fs.length cp] 24,am gm [.slice a.Af m.F.length a.cf,.slice a.Ab m.B.length a.cb,.slice a.Ai m.I.length a.ci,.slice a.Ao m.out.length a.co,.int .i64 m.S,.int .i64 m.T] 43,am gr rz 43,am go [.slice A (k+1) c,.slice Ab m.B.length cb,.slice Ai m.I.length ci,.slice Ao m.out.length co,.int .i64 m.S,.int .i64 m.T] 43,am gc [.int .i64 o.c,.int .i64 o.a] 86,am gf [fx0,fx1,.int .i64 fr,fx3] 84,am gn [.int .i64 (s.length:Int)] 3,ak (.slice A (k+1) c) (li.map Prod.fst++ [(⟨f,p0,.slice Al l.length cl,.slice As s.length cs⟩:aB)]),ak (.slice Al l.length cl) l,cM li,ak (.slice Ab m.B.length cb) m.B,ak (.slice Ai m.I.length ci) m.I,ak (.slice Ao m.out.length co) m.out]:=by
 have hsl:=R.sl
 have h1:2<=s.length:=R.nd.two (by omega)
 have hv:s.getD (s.length - 1) default=aF s:=eG.symm
 have hvi:aH (aF s).n:=by rw[eG];exact R.si _ (cI (by omega))
 have hv2:s.getD (s.length - 2) default=aF (dl s):=(jI h1).symm
 have hvi2:aH (aF (dl s)).n:=by rw[jI h1];exact R.si _ (cI (by omega))
 refine dY (fun w h=>gG h (xs:=s) (.s .a)) fun hcap=>?_
 have hd:=uZ s
 refine bz [0,3,6,9,12,15,18,21,24,27,30,33,36,39,42,45,48,51,56,59,62,65] [20,21] rfl ?_
 refine cY rfl (cE fc dR rfl rfl (by rfl)) rfl rfl ha ?_
 refine aj ?_
 refine cC (t:=161) (v':= .int .i64 ((dl (dl s)).length:Int)) rfl (by congr 1;omega) ?_
 refine tE rfl (ij (k:=(dl (dl s)).length) ax aI (by omega) rfl rfl rfl)<|aj ?_
 refine cC (t:=166) (v':= .int .i64 ((s.length - 2:Nat):Int)) rfl (by congr 1;omega) ?_
 refine tE rfl (bg (k:=(s.length - 2)) ax aI (SF.own (xs:=s) rfl fc) (by omega) rfl rfl rfl)<|aj ?_
 refine tE rfl (bQ (fun w hw=>(SF.val (SF.own rfl fc) (show s.length - 2<s.length by omega) default) w hw 1 _ rfl) rfl rfl be)<|aj ?_
 rw[hv2]
 refine cC (t:=172) (v':= .int .i64 ((s.length - 1:Nat):Int)) rfl (by congr 1;omega) ?_
 refine tE rfl (bg (k:=(s.length - 1)) ax aI (SF.own (xs:=s) rfl fc) (by omega) rfl rfl rfl)<|aj ?_
 refine tE rfl (bQ (fun w hw=>(SF.val (SF.own rfl fc) (show s.length - 1<s.length by omega) default) w hw 1 _ rfl) rfl rfl be) ?_
 rw[hv]
 refine tE rfl (EH rfl rfl rfl) ?_
 refine pE rfl (ko rfl rfl rfl nL (fun w hw=>kD (ue (aF (dl s)).n (aF s).n) (vP _) w)) (fun _ _=>aj ?_)
 intro g1 _
 refine xg (dl (dl s)) fc (rG s) ?_
 refine pE rfl (cH (α:=aC) (bytes:=16) (cA (ue (aF (dl s)).n (aF s).n)) [] rfl ax (aV du) rfl (eD fc fc) (dm (kK _)) (by omega) (by omega) rfl rfl rfl) (fun⟨A3,c3⟩ _=>?_)
 refine aO ?_
 refine bu<|eQ (K (dl (dl s)++ [cA (ue (aF (dl s)).n (aF s).n)]) A3 c3 l m.B Ab cb m.I Ai ci m.out Ao co m.S p1 ⟨R.pi.2.2,R.hms⟩ (by dsimp only[bN];rw[if_neg (by omega)];rw[if_neg (by omega)];rw[if_neg (by omega)];rw[if_neg (by omega)];rw[if_neg (by omega)];rw[if_neg (by omega)];rw[if_pos hc])) ⟨rfl,rfl,rfl,rfl,rfl,trivial⟩ me
theorem QJ (R:mh B w0 fs m a li k Ap cp f p0 p1 l s o fr) (hc:o.c=8) (K:∀(s':List aC) (As':Option Addr) (cs':Nat) (l':List aC) (b':List (List Int)) (Ab':Option Addr) (cb':Nat) (i':List Int) (Ai':Option Addr) (ci':Nat) (o':List Int) (Ao':Option Addr) (co':Nat) (st' nx:Int),aH nx/\aH st'->bN fs m (li.map Prod.snd) ⟨f,p1,l,s⟩ o= .inr ⟨li.map Prod.snd++ [⟨f,nx,l',s'⟩],b',i',o',st',m.T⟩->XW ⟨551,[]⟩ B w0 Q .normal [(4,.pointer (some ⟨gr,0,none⟩)),(5,.pointer (some ⟨go,0,none⟩)),(6,.pointer (some ⟨ab A,ao A+k*4,none⟩)),(9,.pointer (some ⟨gs,0,none⟩)),(13,.int .i64 nx)] (am gs [.slice As' s'.length cs'] 116::ak (.slice As' s'.length cs') s'::am gr rz 43::am go [.slice A (k+1) c,.slice Ab' b'.length cb',.slice Ai' i'.length ci',.slice Ao' o'.length co',.int .i64 st',.int .i64 m.T] 43::ak (.slice A (k+1) c) (li.map Prod.fst++ [(⟨f,p0,.slice Al l'.length cl,.slice As s.length cs⟩:aB)])::ak (.slice Al l'.length cl) l'::cM li::ak (.slice Ab' b'.length cb') b'::ak (.slice Ai' i'.length ci') i'::ak (.slice Ao' o'.length co') o':: [])):CW Tryz.prog ⟨551,[]⟩ B w0 (kU [true,true,true,true,true,true,true,true,true,true,true,false,true,false,true,true,true,true,true,true,true,true,true,true,true,true,true,true,true,false] (gt Tryz.f51)) Q [(4,.pointer (some ⟨gr,0,none⟩)),(5,.pointer (some ⟨go,0,none⟩)),(6,.pointer (some ⟨ab A,ao A+k*4,none⟩)),(7,.pointer (some ⟨gc,0,none⟩)),(9,.pointer (some ⟨gs,0,none⟩)),(13,.int .i64 p1)] [am gs [.slice As s.length cs] 116,ak (.slice As s.length cs) s,am gp [.slice Ap fs.length cp] 24,am gm [.slice a.Af m.F.length a.cf,.slice a.Ab m.B.length a.cb,.slice a.Ai m.I.length a.ci,.slice a.Ao m.out.length a.co,.int .i64 m.S,.int .i64 m.T] 43,am gr rz 43,am go [.slice A (k+1) c,.slice Ab m.B.length cb,.slice Ai m.I.length ci,.slice Ao m.out.length co,.int .i64 m.S,.int .i64 m.T] 43,am gc [.int .i64 o.c,.int .i64 o.a] 86,am gf [fx0,fx1,.int .i64 fr,fx3] 84,am gn [.int .i64 (s.length:Int)] 3,ak (.slice A (k+1) c) (li.map Prod.fst++ [(⟨f,p0,.slice Al l.length cl,.slice As s.length cs⟩:aB)]),ak (.slice Al l.length cl) l,cM li,ak (.slice Ab m.B.length cb) m.B,ak (.slice Ai m.I.length ci) m.I,ak (.slice Ao m.out.length co) m.out]:=by
 have hsl:=R.sl
 have hloc:0<=o.a/\o.a<l.length:=R.nd.loc (.inl hc)
 have hvi:aH (l.getD o.a.toNat default).n:=R.lv _ (cI (by omega))
 have hlm:(li.map Prod.fst).length=k:=by rw[aQ];exact R.hk
 refine bz [0,3,6,9,12,15,18,21,24,29,32,35] [10,11] rfl ?_
 refine cY rfl (cE fc dR rfl rfl (by rfl)) rfl rfl ha ?_
 refine aj ?_
 refine tE rfl (bQ (fw (j:=2) hlm fc rfl) rfl rfl dR)<|aj ?_
 refine cC (t:=188) (v':= .int .i64 ((o.a.toNat:Nat):Int)) rfl (by congr 1;omega) ?_
 refine tE rfl (bg (k:=o.a.toNat) ax aI (SF.own (xs:=l) rfl fc) (by omega) rfl rfl rfl) ?_
 refine tE rfl (eF (SF.val (SF.own rfl fc) (show o.a.toNat<l.length by omega) default) rfl rfl ie aI)<|aj ?_
 intro g1 _
 refine pE rfl (cH (α:=aC) (bytes:=16) (l.getD o.a.toNat default) [] rfl ax (aV du) rfl (eD (R:=ak (.slice As s.length cs) s) fc fc) (dm hvi) (by omega) (by omega) rfl rfl rfl) (fun⟨A3,c3⟩ _=>?_)
 refine aO ?_
 refine bu<|eQ (K (s++ [l.getD o.a.toNat default]) A3 c3 l m.B Ab cb m.I Ai ci m.out Ao co m.S p1 ⟨R.pi.2.2,R.hms⟩ (by dsimp only[bN];rw[if_neg (by omega)];rw[if_neg (by omega)];rw[if_neg (by omega)];rw[if_neg (by omega)];rw[if_neg (by omega)];rw[if_neg (by omega)];rw[if_neg (by omega)];rw[if_pos hc])) ⟨rfl,rfl,rfl,rfl,rfl,trivial⟩ me
theorem QI (R:mh B w0 fs m a li k Ap cp f p0 p1 l s o fr) (hc:o.c=9) (K:∀(s':List aC) (As':Option Addr) (cs':Nat) (l':List aC) (b':List (List Int)) (Ab':Option Addr) (cb':Nat) (i':List Int) (Ai':Option Addr) (ci':Nat) (o':List Int) (Ao':Option Addr) (co':Nat) (st' nx:Int),aH nx/\aH st'->bN fs m (li.map Prod.snd) ⟨f,p1,l,s⟩ o= .inr ⟨li.map Prod.snd++ [⟨f,nx,l',s'⟩],b',i',o',st',m.T⟩->XW ⟨551,[]⟩ B w0 Q .normal [(4,.pointer (some ⟨gr,0,none⟩)),(5,.pointer (some ⟨go,0,none⟩)),(6,.pointer (some ⟨ab A,ao A+k*4,none⟩)),(9,.pointer (some ⟨gs,0,none⟩)),(13,.int .i64 nx)] (am gs [.slice As' s'.length cs'] 116::ak (.slice As' s'.length cs') s'::am gr rz 43::am go [.slice A (k+1) c,.slice Ab' b'.length cb',.slice Ai' i'.length ci',.slice Ao' o'.length co',.int .i64 st',.int .i64 m.T] 43::ak (.slice A (k+1) c) (li.map Prod.fst++ [(⟨f,p0,.slice Al l'.length cl,.slice As s.length cs⟩:aB)])::ak (.slice Al l'.length cl) l'::cM li::ak (.slice Ab' b'.length cb') b'::ak (.slice Ai' i'.length ci') i'::ak (.slice Ao' o'.length co') o':: [])):CW Tryz.prog ⟨551,[]⟩ B w0 (kU [true,true,true,true,true,true,true,true,true,true,true,false,true,false,true,true,true,true,true,true,true,true,true,true,true,true,true,true,true,true,true,false] (gt Tryz.f51)) Q [(4,.pointer (some ⟨gr,0,none⟩)),(5,.pointer (some ⟨go,0,none⟩)),(6,.pointer (some ⟨ab A,ao A+k*4,none⟩)),(7,.pointer (some ⟨gc,0,none⟩)),(9,.pointer (some ⟨gs,0,none⟩)),(10,.pointer (some ⟨gn,0,none⟩)),(13,.int .i64 p1)] [am gs [.slice As s.length cs] 116,ak (.slice As s.length cs) s,am gp [.slice Ap fs.length cp] 24,am gm [.slice a.Af m.F.length a.cf,.slice a.Ab m.B.length a.cb,.slice a.Ai m.I.length a.ci,.slice a.Ao m.out.length a.co,.int .i64 m.S,.int .i64 m.T] 43,am gr rz 43,am go [.slice A (k+1) c,.slice Ab m.B.length cb,.slice Ai m.I.length ci,.slice Ao m.out.length co,.int .i64 m.S,.int .i64 m.T] 43,am gc [.int .i64 o.c,.int .i64 o.a] 86,am gf [fx0,fx1,.int .i64 fr,fx3] 84,am gn [.int .i64 (s.length:Int)] 3,ak (.slice A (k+1) c) (li.map Prod.fst++ [(⟨f,p0,.slice Al l.length cl,.slice As s.length cs⟩:aB)]),ak (.slice Al l.length cl) l,cM li,ak (.slice Ab m.B.length cb) m.B,ak (.slice Ai m.I.length ci) m.I,ak (.slice Ao m.out.length co) m.out]:=by
 have hsl:=R.sl
 have hloc:0<=o.a/\o.a<l.length:=R.nd.loc (.inr hc)
 have h1:1<=s.length:=R.nd.one (by omega)
 have hv:s.getD (s.length - 1) default=aF s:=eG.symm
 have hvi:aH (aF s).n:=by rw[eG];exact R.si _ (cI (by omega))
 have hlm:(li.map Prod.fst).length=k:=by rw[aQ];exact R.hk
 have hd:=iG s
 refine dY (fun w h=>gG h (xs:=s) (.s .a)) fun hcap=>?_
 refine cc<|bz [0,3,6,9,12,15,18,21,24,27,30,33,38] [12] rfl<|aj ?_
 refine tE rfl (bQ (fw (j:=2) hlm fc rfl) rfl rfl dR)<|aj ?_
 refine cC (t:=203) (v':= .int .i64 ((s.length - 1:Nat):Int)) rfl (by congr 1;omega) ?_
 refine tE rfl (bg (k:=(s.length - 1)) ax aI (SF.own (xs:=s) rfl fc) (by omega) rfl rfl rfl) ?_
 refine tE rfl (eF (SF.val (SF.own rfl fc) (show s.length - 1<s.length by omega) default) rfl rfl ie aI) ?_
 rw[hv]
 refine cC (t:=200) (v':= .int .i64 ((o.a.toNat:Nat):Int)) rfl (by congr 1;omega) ?_
 refine tE rfl (bg (k:=o.a.toNat) ax aI (SF.own (xs:=l) rfl fc) (by omega) rfl rfl rfl) ?_
 refine pE rfl (fS (α:=aC) (A:=Al) (c:=cl) (aF s) default (xs':=l.set o.a.toNat (aF s)) rfl fc (by omega) hvi aI rfl rfl rfl rfl rfl rfl rfl rfl) (fun _ _=>aj ?_)
 refine bh (t:=209) (v':= .int .i64 ((dl s).length:Int)) rfl (by congr 1;omega) ?_
 refine sE (ij (k:=(dl s).length) ax aI (by omega) rfl rfl rfl) ?_
 refine dr (cV _ fc ft rfl rfl rfl rfl rfl (by rfl) rfl (by rfl)) rfl rfl (fun _ _=>?_)
 refine rk (dl s) fc (oO s) ?_
 refine iM<|eQ (K (dl s) As cs (l.set o.a.toNat (aF s)) m.B Ab cb m.I Ai ci m.out Ao co m.S p1 ⟨R.pi.2.2,R.hms⟩ (by dsimp only[bN];rw[if_neg (by omega)];rw[if_neg (by omega)];rw[if_neg (by omega)];rw[if_neg (by omega)];rw[if_neg (by omega)];rw[if_neg (by omega)];rw[if_neg (by omega)];rw[if_neg (by omega)];rw[if_pos hc])) ⟨rfl,rfl,rfl,rfl,rfl,trivial⟩ (fun w h=>by rw[ea];exact h.msub ms)
theorem P3 (R:mh B w0 fs m a li k Ap cp f p0 p1 l s o fr) (hc:o.c=10) (K:∀(s':List aC) (As':Option Addr) (cs':Nat) (l':List aC) (b':List (List Int)) (Ab':Option Addr) (cb':Nat) (i':List Int) (Ai':Option Addr) (ci':Nat) (o':List Int) (Ao':Option Addr) (co':Nat) (st' nx:Int),aH nx/\aH st'->bN fs m (li.map Prod.snd) ⟨f,p1,l,s⟩ o= .inr ⟨li.map Prod.snd++ [⟨f,nx,l',s'⟩],b',i',o',st',m.T⟩->XW ⟨551,[]⟩ B w0 Q .normal [(4,.pointer (some ⟨gr,0,none⟩)),(5,.pointer (some ⟨go,0,none⟩)),(6,.pointer (some ⟨ab A,ao A+k*4,none⟩)),(9,.pointer (some ⟨gs,0,none⟩)),(13,.int .i64 nx)] (am gs [.slice As' s'.length cs'] 116::ak (.slice As' s'.length cs') s'::am gr rz 43::am go [.slice A (k+1) c,.slice Ab' b'.length cb',.slice Ai' i'.length ci',.slice Ao' o'.length co',.int .i64 st',.int .i64 m.T] 43::ak (.slice A (k+1) c) (li.map Prod.fst++ [(⟨f,p0,.slice Al l'.length cl,.slice As s.length cs⟩:aB)])::ak (.slice Al l'.length cl) l'::cM li::ak (.slice Ab' b'.length cb') b'::ak (.slice Ai' i'.length ci') i'::ak (.slice Ao' o'.length co') o':: [])):CW Tryz.prog ⟨551,[]⟩ B w0 (kU [true,true,true,true,true,true,true,true,true,true,true,false,true,false,true,true,true,true,true,true,true,true,true,true,true,true,true,true,true,true,true,true,true,false] (gt Tryz.f51)) Q [(4,.pointer (some ⟨gr,0,none⟩)),(5,.pointer (some ⟨go,0,none⟩)),(6,.pointer (some ⟨ab A,ao A+k*4,none⟩)),(7,.pointer (some ⟨gc,0,none⟩)),(9,.pointer (some ⟨gs,0,none⟩))] [am gs [.slice As s.length cs] 116,ak (.slice As s.length cs) s,am gp [.slice Ap fs.length cp] 24,am gm [.slice a.Af m.F.length a.cf,.slice a.Ab m.B.length a.cb,.slice a.Ai m.I.length a.ci,.slice a.Ao m.out.length a.co,.int .i64 m.S,.int .i64 m.T] 43,am gr rz 43,am go [.slice A (k+1) c,.slice Ab m.B.length cb,.slice Ai m.I.length ci,.slice Ao m.out.length co,.int .i64 m.S,.int .i64 m.T] 43,am gc [.int .i64 o.c,.int .i64 o.a] 86,am gf [fx0,fx1,.int .i64 fr,fx3] 84,am gn [.int .i64 (s.length:Int)] 3,ak (.slice A (k+1) c) (li.map Prod.fst++ [(⟨f,p0,.slice Al l.length cl,.slice As s.length cs⟩:aB)]),ak (.slice Al l.length cl) l,cM li,ak (.slice Ab m.B.length cb) m.B,ak (.slice Ai m.I.length ci) m.I,ak (.slice Ao m.out.length co) m.out]:=by
 have hsl:=R.sl
 refine bO<|aj ?_
 refine iM<|eQ (K s As cs l m.B Ab cb m.I Ai ci m.out Ao co m.S o.a ⟨R.oa,R.hms⟩ (by dsimp only[bN];rw[if_neg (by omega)];rw[if_neg (by omega)];rw[if_neg (by omega)];rw[if_neg (by omega)];rw[if_neg (by omega)];rw[if_neg (by omega)];rw[if_neg (by omega)];rw[if_neg (by omega)];rw[if_neg (by omega)];rw[if_pos hc])) ⟨rfl,rfl,rfl,rfl,rfl,trivial⟩ me
theorem P2 (R:mh B w0 fs m a li k Ap cp f p0 p1 l s o fr) (hc:o.c=11) (K:∀(s':List aC) (As':Option Addr) (cs':Nat) (l':List aC) (b':List (List Int)) (Ab':Option Addr) (cb':Nat) (i':List Int) (Ai':Option Addr) (ci':Nat) (o':List Int) (Ao':Option Addr) (co':Nat) (st' nx:Int),aH nx/\aH st'->bN fs m (li.map Prod.snd) ⟨f,p1,l,s⟩ o= .inr ⟨li.map Prod.snd++ [⟨f,nx,l',s'⟩],b',i',o',st',m.T⟩->XW ⟨551,[]⟩ B w0 Q .normal [(4,.pointer (some ⟨gr,0,none⟩)),(5,.pointer (some ⟨go,0,none⟩)),(6,.pointer (some ⟨ab A,ao A+k*4,none⟩)),(9,.pointer (some ⟨gs,0,none⟩)),(13,.int .i64 nx)] (am gs [.slice As' s'.length cs'] 116::ak (.slice As' s'.length cs') s'::am gr rz 43::am go [.slice A (k+1) c,.slice Ab' b'.length cb',.slice Ai' i'.length ci',.slice Ao' o'.length co',.int .i64 st',.int .i64 m.T] 43::ak (.slice A (k+1) c) (li.map Prod.fst++ [(⟨f,p0,.slice Al l'.length cl,.slice As s.length cs⟩:aB)])::ak (.slice Al l'.length cl) l'::cM li::ak (.slice Ab' b'.length cb') b'::ak (.slice Ai' i'.length ci') i'::ak (.slice Ao' o'.length co') o':: [])):CW Tryz.prog ⟨551,[]⟩ B w0 (kU [true,true,true,true,true,true,true,true,true,true,true,false,true,false,true,true,true,true,true,true,true,true,true,true,true,true,true,true,true,true,true,true,true,true,true,false] (gt Tryz.f51)) Q [(4,.pointer (some ⟨gr,0,none⟩)),(5,.pointer (some ⟨go,0,none⟩)),(6,.pointer (some ⟨ab A,ao A+k*4,none⟩)),(7,.pointer (some ⟨gc,0,none⟩)),(9,.pointer (some ⟨gs,0,none⟩)),(10,.pointer (some ⟨gn,0,none⟩)),(13,.int .i64 p1)] [am gs [.slice As s.length cs] 116,ak (.slice As s.length cs) s,am gp [.slice Ap fs.length cp] 24,am gm [.slice a.Af m.F.length a.cf,.slice a.Ab m.B.length a.cb,.slice a.Ai m.I.length a.ci,.slice a.Ao m.out.length a.co,.int .i64 m.S,.int .i64 m.T] 43,am gr rz 43,am go [.slice A (k+1) c,.slice Ab m.B.length cb,.slice Ai m.I.length ci,.slice Ao m.out.length co,.int .i64 m.S,.int .i64 m.T] 43,am gc [.int .i64 o.c,.int .i64 o.a] 86,am gf [fx0,fx1,.int .i64 fr,fx3] 84,am gn [.int .i64 (s.length:Int)] 3,ak (.slice A (k+1) c) (li.map Prod.fst++ [(⟨f,p0,.slice Al l.length cl,.slice As s.length cs⟩:aB)]),ak (.slice Al l.length cl) l,cM li,ak (.slice Ab m.B.length cb) m.B,ak (.slice Ai m.I.length ci) m.I,ak (.slice Ao m.out.length co) m.out]:=by
 have hsl:=R.sl
 have h1:1<=s.length:=R.nd.one (by omega)
 have hv:s.getD (s.length - 1) default=aF s:=eG.symm
 have hvi:aH (aF s).n:=by rw[eG];exact R.si _ (cI (by omega))
 have hd:=iG s
 refine dY (fun w h=>gG h (xs:=s) (.s .a)) fun hcap=>?_
 refine cc<|aj ?_
 refine bh (t:=219) (v':= .int .i64 ((s.length - 1:Nat):Int)) rfl (by congr 1;omega) ?_
 refine cS ((s.length - 1)) rfl ((SF.own (xs:=s) rfl fc))<|aj ?_
 refine eH rfl (fun w hw=>(SF.val (SF.own rfl fc) (show s.length - 1<s.length by omega) default) w hw 1 _ rfl)<|aj ?_
 rw[hv]
 refine eo rfl (fun h0=>?_) (fun h0=>?_)
 ·have h0:(aF s).n=0:=h0
  refine aj ?_
  refine bh (t:=228) (v':= .int .i64 ((dl s).length:Int)) rfl (by congr 1;omega) ?_
  refine sE (ij (k:=(dl s).length) ax aI (by omega) rfl rfl rfl) ?_
  refine dr (cV _ fc ft rfl rfl rfl rfl rfl (by rfl) rfl (by rfl)) rfl rfl (fun _ _=>?_)
  refine rk (dl s) fc (oO s) ?_
  refine iM<|eQ (K (dl s) As cs l m.B Ab cb m.I Ai ci m.out Ao co m.S o.a ⟨R.oa,R.hms⟩ (by dsimp only[bN];rw[if_neg (by omega)];rw[if_neg (by omega)];rw[if_neg (by omega)];rw[if_neg (by omega)];rw[if_neg (by omega)];rw[if_neg (by omega)];rw[if_neg (by omega)];rw[if_neg (by omega)];rw[if_neg (by omega)];rw[if_neg (by omega)];rw[if_pos hc,if_pos h0])) ⟨rfl,rfl,rfl,rfl,rfl,trivial⟩ me
 have h0:¬(aF s).n=0:=h0
 refine aj ?_
 refine bh (t:=228) (v':= .int .i64 ((dl s).length:Int)) rfl (by congr 1;omega) ?_
 refine sE (ij (k:=(dl s).length) ax aI (by omega) rfl rfl rfl) ?_
 refine dr (cV _ fc ft rfl rfl rfl rfl rfl (by rfl) rfl (by rfl)) rfl rfl (fun _ _=>?_)
 refine rk (dl s) fc (oO s) ?_
 refine iM<|eQ (K (dl s) As cs l m.B Ab cb m.I Ai ci m.out Ao co m.S p1 ⟨R.pi.2.2,R.hms⟩ (by dsimp only[bN];rw[if_neg (by omega)];rw[if_neg (by omega)];rw[if_neg (by omega)];rw[if_neg (by omega)];rw[if_neg (by omega)];rw[if_neg (by omega)];rw[if_neg (by omega)];rw[if_neg (by omega)];rw[if_neg (by omega)];rw[if_neg (by omega)];rw[if_pos hc,if_neg h0])) ⟨rfl,rfl,rfl,rfl,rfl,trivial⟩ me
end
end
