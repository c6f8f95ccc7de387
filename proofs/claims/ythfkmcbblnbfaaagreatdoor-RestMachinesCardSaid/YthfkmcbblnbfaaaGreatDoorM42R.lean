/- Lemmas of one proof. -/
import Derived.Test.YthfkmcbblnbfaaaGreatDoorM0R
import Derived.Test.YthfkmcbblnbfaaaGreatDoorM38R
import Derived.Test.YthfkmcbblnbfaaaGreatDoorM23R
import Derived.Test.YthfkmcbblnbfaaaGreatDoorM34R

namespace Go.Proofs.YthfkmcbblnbfaaaGreatDoor
set_option maxRecDepth 100000
set_option maxHeartbeats 16000000
open Go.RowKit
section
theorem mr (n a b:Int) (w:World):Calls Tryz.prog 181 #[.int .i64 n,.int .i64 a,.int .i64 b] w fun e w'=>e= .returned (.bool (bq n a b))/\Below w.heap.size w w':=by
 refine enter Tryz.func181 rfl Tryz.ntmps181 rfl<|dG 10 (fun h1=>?_) (fun h1=>?_)
 ·refine aj ?_
  intro w hw
  exact⟨aS (by unfold bq;rw[h1];rfl),hw.below⟩
 refine aj ?_
 intro w hw
 exact⟨aS (by unfold bq;rw[h1];rfl),hw.below⟩
theorem It (n:Nat) (hn:n*16<=140737488355328) (w:World):Calls Tryz.prog 315 #[.slice none 0 0,.int .i64 (n:Int)] w fun e w'=> ∃g:Option Addr×Nat,True/\e= .returned (.slice g.1 0 g.2)/\Cw w.heap.size w [ak (α:=aC) (.slice g.1 0 g.2) []] w':=by
 refine enter Tryz.func315 rfl Tryz.ntmps315 rfl<|av (fun h0=>?_) (fun h0=>?_)
 ·exact absurd h0 (by omega)
 refine aj ?_
 refine sE (HT ax rfl rfl)<|aj ?_
 refine cK (t:=1) (v':= .int .i64 (n:Int)) rfl (by congr 1) ?_
 refine eo rfl (fun h1=>?_) (fun h1=>?_)
 ·refine aj ?_
  refine sE (HT ax rfl rfl) ?_
  refine sE (ij (k:=0) ax aI (aK _) rfl rfl rfl)<|aj ?_
  refine oE (MF (α:=aC) (bytes:=16) ax tC du rfl (by decide) (by omega) (by omega) rfl rfl rfl) (fun⟨g,c⟩ _=>?_)
  refine aO ?_
  refine sE (ij (k:=0) ax aI (aX _) rfl rfl rfl)<|aj ?_
  intro w hw
  exact⟨(some ⟨g,0,none⟩,c),trivial,rfl,hw⟩
 refine aj ?_
 intro w hw
 exact⟨(none,0),trivial,rfl,Cw.nilO aC hw⟩
theorem PI (v:aC) (t:Int):fL v t=((v.ref == !decide (t=1)) && ((!decide (t=3)) || decide (v.n=0))):=by
 unfold fL
 cases v.ref <;> by_cases h1:t=1 <;> simp[h1]
theorem EY (v:aC) (t:Int) (w:World):Calls Tryz.prog 293 #[.agg #[.bool v.ref,.int .i64 v.n],.int .i64 t] w fun e w'=>e= .returned (.bool (fL v t))/\Below w.heap.size w w':=by
 have ha:=PI v t
 generalize hq:fL v t=q at ha
 refine enter Tryz.func293 rfl Tryz.ntmps293 rfl<|aj ?_
 refine fun g1 _=>aj ?_
 refine sE (Oy Tryz.underlying4 rfl rfl rfl)<|dG 10 (fun h1=>?_) (fun h1=>?_)
 ·rw[h1,Bool.true_and] at ha
  refine dG 13 (fun h2=>?_) (fun h2=>?_)
  ·rw[h2,Bool.true_or] at ha
   refine aj ?_
   intro w hw
   exact⟨aS ha.symm,hw.below⟩
  rw[h2,Bool.false_or] at ha
  refine aj ?_
  intro w hw
  exact⟨aS ha.symm,hw.below⟩
 rw[h1,Bool.false_and] at ha
 refine aj ?_
 intro w hw
 exact⟨aS ha.symm,hw.below⟩
section
variable {B:Nat} {w0:World} {H:List aJ}
theorem Gt (gc:Nat) (a:MA) (m:az) (pv:Value) (v:aC) (w:World) (hw:Cw B w0 (am gc [.slice a.Af m.F.length a.cf,.slice a.Ab m.B.length a.cb,.slice a.Ai m.I.length a.ci,.slice a.Ao m.out.length a.co,.int .i64 m.S,.int .i64 m.T,pv] 190::H) w) :
  Calls Tryz.prog 292 #[.pointer (some ⟨gc,0,none⟩),.agg #[.bool v.ref,.int .i64 v.n]] w fun e w'=> ∃_:Unit,True/\e= .returned (.int .i64 (if eM m.B.length v=true then 0 else 3))/\Cw B w0 (am gc [.slice a.Af m.F.length a.cf,.slice a.Ab m.B.length a.cb,.slice a.Ai m.I.length a.ci,.slice a.Ao m.out.length a.co,.int .i64 m.S,.int .i64 m.T,pv] 190::H) w':=by
 obtain⟨q,hq⟩:∃q,eM m.B.length v=q:=⟨_,rfl⟩
 rw[hq]
 obtain⟨r,z⟩:=v
 refine bG Tryz.func292 rfl Tryz.ntmps292 rfl hw<|aj ?_
 refine fun g1 _=>aj ?_
 refine bz [0,3,6,9,12,15,18,21,24,27,30,35,36,39,42,45,48,51,54,57,60,65,66,69,72] [] rfl<|aj ?_
 refine pV (t:=7) rfl (fun hr=>?_) (fun hr=>?_)
 ·have hq2:bq z 0 m.B.length=q:=by rw[<-hq];unfold eM;rw[if_pos hr]
  refine aj ?_
  refine km rfl rfl Dw (fun w hw=>mr z 0 m.B.length w)<|aj ?_
  rw[hq2]
  refine pV (t:=19) rfl (fun hb=>?_) (fun hb=>?_)
  ·have hq3:q=false:=by simpa using hb
   subst hq3
   refine aj ?_
   refine nU rfl rfl rfl (.inr ha) ?_ gh
   refine aj ?_
   refine aU rfl<|aj ?_
   intro w hw
   exact⟨(),trivial,rfl,hw.msub ms⟩
  have hq3:q=true:=by simpa using hb
  subst hq3
  refine aj ?_
  refine pV (t:=23) rfl (fun h3=>?_) (fun h3=>?_)
  ·rw[hr] at h3
   cases h3
  refine aj ?_
  refine nU rfl rfl rfl (.inr ha) ?_ gh
  refine aj ?_
  refine cu rfl<|aj ?_
  intro w hw
  exact⟨(),trivial,rfl,hw.msub ms⟩
 have hq2:cd z=q:=by rw[<-hq];unfold eM;rw[if_neg (by rw[hr];decide)]
 refine aj ?_
 refine nU rfl rfl rfl (.inr ha) ?_ gh
 refine aj ?_
 refine pV (t:=23) rfl (fun h2=>?_) (fun h2=>?_)
 ·refine aj ?_
  refine km rfl rfl RQ ((fun w hw=>fX ((fun w hw=>rF z w) w hw)))<|aj ?_
  rw[hq2]
  refine bT rfl (fun h4=>?_) (fun h4=>?_)
  ·have hq3:q=false:=by simpa using h4
   subst hq3
   refine aj ?_
   intro w hw
   exact⟨(),trivial,rfl,hw.msub ms⟩
  have hq3:q=true:=by simpa using h4
  subst hq3
  refine aj ?_
  intro w hw
  exact⟨(),trivial,rfl,hw.msub ms⟩
 rw[hr] at h2
 cases h2
end
end
section
def hent (l:List fJ) (k:Nat):fJ:=l.getD k ⟨0,.slice none 0 0⟩
theorem SF.hent {B:Nat} {w0:World} {H:List aJ} {A:Option Addr} {xs:List fJ} {m c k:Nat} (hs:SF B w0 H A m c xs) (hk:k<m):∀w,Cw B w0 H w->∀j v,([.int .i64 (hent xs k).pc,(hent xs k).v]:List Value)[j]? =some v->w.cell? ⟨ab A,ao A+k*2+j,none⟩=some v:=fun w hw _ _ hv=>SF.cell hs hk _ hv w hw
theorem K2 (g:Nat) (pc q:Int) (v:Value) (w:World) (hlt:g<w.heap.size) (hc:w.cell? ⟨g,0,none⟩=some (.int .i64 pc)) :
  Calls Tryz.prog 323 #[.agg #[.int .i64 q,v],.pointer (some ⟨g,0,none⟩)] w fun e w'=>e= .returned (.bool (decide (q=pc)))/\Below w.heap.size w w':=by
 refine enter Tryz.func323 rfl Tryz.ntmps323 rfl<|aj ?_
 refine fun g1 _=>aj ?_
 refine eH rfl (fun w' hw=>(hw.below.cell hlt).trans hc)<|aj ?_
 intro w hw
 exact⟨rfl,hw.below⟩
theorem M1 (A:Option Addr) (c:Nat) (es:List fJ) (g:Nat) (pc:Int) (w:World) (hs:Sl w (.slice A es.length c) es) (hlt:g<w.heap.size) (hc:w.cell? ⟨g,0,none⟩=some (.int .i64 pc)) :
  Calls Tryz.prog 322 #[.slice A es.length c,.func (.func 323) #[] #[.pointer (some ⟨g,0,none⟩)]] w fun e w'=> ∃r:Int,((r= -1/\∀i,i<es.length->(hent es i).pc≠pc)\/∃i:Nat,r=i/\i<es.length/\(hent es i).pc=pc/\∀j,j<i->(hent es j).pc≠pc)/\e= .returned (.int .i64 r)/\Cw w.heap.size w [] w':=by
 have b1:=bE hs
 refine enter Tryz.func322 rfl Tryz.ntmps322 rfl<|aj ?_
 refine dA (fun k:Nat=>k<=es.length/\∀j,j<k->(hent es j).pc≠pc) (fun k=>es.length - k) (fun k=> [(0,.slice A es.length c),(1,.func (.func 323) #[] #[.pointer (some ⟨g,0,none⟩)]),(7,.int .i64 (es.length:Int)),(8,.int .i64 (k:Int))]) (fun _=> []) 0 (⟨aX _,fun _ h=>absurd h (gN _)⟩) ?_
 rintro k hk'
 obtain⟨hk,hno⟩:k<=es.length/\∀j,j<k->(hent es j).pc≠pc:=hk'
 refine av (fun hlt'=>?_) (fun hlt'=>?_)
 ·have hkl:k<es.length:=by omega
  refine aj ?_
  refine cS (_) rfl ((.ro hs)) ?_
  refine iY rfl (SF.hent (SF.ro hs) hkl) ?_
  refine oE (ko rfl rfl rfl Tryz.call323 (fun w hw=>K2 g pc _ _ w (Nat.lt_of_lt_of_le hlt hw.le) ((hw.below.cell hlt).trans hc))) (fun _ _=>av (fun hp=>?_) (fun hp=>?_))
  ·refine aj ?_
   intro w hw
   exact⟨(k:Int),.inr ⟨k,rfl,hkl,hp,hno⟩,rfl,hw⟩
  refine aj ?_
  refine cU (k+1) (⟨by show k+1<=_;omega,fun j hj=>(fK j k).elim (hno j) (fun h=>by obtain rfl:j=k:=(by omega);exact hp)⟩) (by show _ - _<_ - _;omega)
 obtain rfl:k=es.length:=by omega
 refine aj ?_
 intro w hw
 exact⟨-1,.inl ⟨rfl,hno⟩,rfl,hw⟩
section
variable {B:Nat} {w0:World} {H:List aJ}
theorem wj {L:List (Value×List Int)} {v:Value} {xs:List Int} {w:World} (hi:iH L v xs) (h:Cw B w0 (fa L::H) w):Cw B w0 (lG v xs::H) w:=by
 rcases hi with ⟨rfl,rfl⟩ | hi
 ·exact h.upd fun F ho _=>⟨fun _=>False,⟨fun _ h=>h.elim,fun _ _=>Sl.nil_⟩,rfl,rfl,rfl,aK _,fun _ _ _=>rfl,fun b hb=>hb.elim⟩
 refine h.upd fun F ho _=>?_
 obtain⟨F',h5,h6⟩:=Hs.mem (qt (f:=mI) hi) (show Hs w _ F from ho)
 have h5:cL w F' v xs:=h5
 exact⟨F',⟨fun b hb=>h5.lt hb,fun w' hw'=>cL.sl (h5.frame hw')⟩,rfl,rfl,rfl,aK _,fun _ _ _=>rfl,fun b hb=> .inl (h6 b hb)⟩
theorem Mq {A:Option Addr} {m c k:Nat} {xs:List Int} {w:World} (hk:k<=m) (h:Cw B w0 (lG (.slice A m c) xs::H) w):Cw B w0 (lG (.slice A k c) (xs.take k)::H) w:=by
 refine h.upd fun F ho _=>⟨F,⟨ho.1,fun w' hw'=>?_⟩,rfl,rfl,rfl,aK _,fun _ _ _=>rfl,fun b hb=> .inl hb⟩
 have:=(ho.2 w' hw').cut 0 k (aX _) hk
 rw[CR,th,th,oy] at this
 exact this
theorem pX {w:World} (h:Cw B w0 H w):Cw B w0 (lG (.slice none 0 0) ([]:List Int)::H) w:=wj iH.nil_ (kH h)
end
theorem E9 {xs:List im} {pc:Int} {i:Nat} (hi:i<xs.length) (h1:xs[i].pc=pc) (h2:∀j (_:j<i) (h:j<xs.length),xs[j].pc≠pc):(xs.find? fun e=>decide (e.pc=pc))=some xs[i]:=by
 induction xs generalizing i with
 | nil=>simp at hi
 | cons x xs ih=>
  cases i with
  | zero=>rw[List.find?_cons_of_pos (by simpa using h1)];rfl
  | succ i=>
   rw[List.find?_cons_of_neg (by have h3:=h2 0 (by omega) (by simp);rw[List.getElem_cons_zero] at h3;simpa using h3)]
   exact ih (by simpa using hi) h1 fun j hj h=>h2 (j+1) (by omega) (by simpa using h)
theorem E8 {xs:List im} {pc:Int} (h2:∀j (h:j<xs.length),xs[j].pc≠pc):(xs.find? fun e=>decide (e.pc=pc))=none:=by
 rw[List.find?_eq_none]
 intro e he
 obtain⟨j,hj,rfl⟩:=cg he
 simpa using h2 j hj
theorem mY {es:List fJ} {i:Nat} (h:i<es.length):hent es i=es[i]:=by
 unfold hent
 rw[an,ap h]
 rfl
theorem AA (Ap:Option Addr) (cp:Nat) (fs:List au) (k:Nat) (pc:Int) (q:Option (List Int)) (hq:fy fs (aq fs k) pc=q) (w:World) (hs:Sl w (.slice Ap fs.length cp) fs) (hk:k<fs.length) (hok:mm fs (aq fs k)) (hn0:0<(aq fs k).C.length) :
  Calls Tryz.prog 316 #[.agg #[.slice Ap fs.length cp],.int .i64 (k:Int),.int .i64 pc] w fun e w'=> ∃g:Option Addr×Nat,True/\e= .returned (.tuple #[.slice g.1 (q.getD []).length g.2,.bool q.isSome])/\
   Cw w.heap.size w [lG (.slice g.1 (q.getD []).length g.2) (q.getD [])] w':=by
 refine enter Tryz.func316 rfl Tryz.ntmps316 rfl<|aj ?_
 refine fun g1 _=>aj ?_
 refine fun g2 _=>aj ?_
 refine eb rfl RD (fun w hw=>qQ Ap cp fs k w (hw.ro hs) hk hok hn0) (fun⟨⟨A1,c1⟩,es,L⟩ hre=>?_)
 refine aO ?_
 refine eb rfl Tryz.call322 (fun w hw=>M1 A1 c1 es g2 pc w (SF.at_ (SF.own rfl fc) hw) (lD hw fc) (fP fc rfl w hw)) (fun r hr=>aj ?_)
 have hre:jW es L (bZ fs (aq fs k)).1:=hre
 have hl:=hre.len
 refine eo rfl (fun h0=>?_) (fun h0=>?_)
 ·have hq2:q=none:=by
   rcases hr with ⟨_,h⟩ | ⟨i,h,_⟩
   ·rw[<-hq]
    unfold fy
    rw[E8 (fun j hj=>by
     have hj':j<es.length:=by omega
     have:=h j hj'
     rw[mY hj',(hre.el j hj' hj).1] at this
     exact this)]
    rfl
   omega
  subst hq2
  refine aj ?_
  intro w hw
  exact⟨(none,0),trivial,rfl,(pX hw).msub ms⟩
 obtain⟨i,hi,hlt,hpc,hno⟩:∃i:Nat,r=i/\i<es.length/\(hent es i).pc=pc/\∀j,j<i->(hent es j).pc≠pc:=hr.elim (fun h=>by omega) id
 subst hi
 have hlt2:i<(bZ fs (aq fs k)).1.length:=by omega
 obtain⟨e1,e2⟩:=hre.el i hlt hlt2
 have hq2:q=some (bZ fs (aq fs k)).1[i].K:=by
  rw[<-hq]
  unfold fy
  rw[E9 hlt2 (by rw[<-e1,<-mY hlt];exact hpc) (fun j hj h=>by
   have hj':j<es.length:=by omega
   have:=hno j hj
   rw[mY hj',(hre.el j hj' h).1] at this
   exact this)]
  rfl
 subst hq2
 rw[<-mY hlt] at e2
 refine aj ?_
 refine cS (i) rfl ((SF.own (xs:=es) rfl fc))<|aj ?_
 refine eH rfl (fun w hw=>SF.hent (SF.own (xs:=es) rfl fc) hlt w hw 1 _ rfl)<|aj ?_
 intro w hw
 obtain⟨A5,c5,e5⟩:=e2.form hw fc
 rw[e5] at e2⊢
 exact⟨(A5,c5),trivial,rfl,(wj e2 (hw.msub (T:=fa L:: []) ms)).msub ms⟩
end
section
theorem D9 {fs:List au} (hF:gu fs) {k:Nat} (hk:k<fs.length) {pc to_:Int} {t0 t:List Int} (hc:gJ (aq fs k) pc to_=true) (h0:fy fs (aq fs k) (pc - 1)=some t0) (h1:fy fs (aq fs k) pc=some t) (hr:(aq fs to_.toNat).result≠0):1<=t.length:=by
 unfold gJ at hc
 simp only[db,decide_eq_true_eq] at hc
 obtain⟨_,hcc,hca⟩:=hc
 obtain⟨_,_,_,_,v0,hv0,hn0⟩:=(hF.e _ hk).at_ _ _ h0
 generalize bx (aq fs k).C (pc - 1).toNat=oz at hcc hca hv0 hn0
 obtain⟨t',ht',hle⟩:=hn0 pc (by simp[dy,hcc])
 rw[h1] at ht'
 have ht':=eq ht'
 subst ht'
 obtain⟨T0,V0,e0,_,_,_,rfl⟩:=jm.1 hv0
 simp[tl,hcc] at e0
 obtain⟨rfl,rfl⟩:=e0
 rw[hca] at hle
 unfold bL at hle
 rw[if_neg hr] at hle
 have:=(uU hle).2.1
 omega
theorem qJ {f:au} {pc to_:Int} :gJ f pc to_=(bq pc 1 f.C.length && (decide ((bx f.C (pc - 1).toNat).c=12) && decide ((bx f.C (pc - 1).toNat).a=to_))):=rfl
section
variable {B:Nat} {w0:World} {H:List aJ}
theorem IP (gc:Nat) (a:MA) (m:az) (Ap:Option Addr) (cp:Nat) (fs:List au) (hs:bJ w0 B (.slice Ap fs.length cp) fs) (hm:dS B w0 a m) (hF:gu fs) (i:Nat) (hi:i<m.F.length) (hfn:∀x∈m.F,0<=x.func/\x.func<fs.length) (q:Option (List Int)) (hq:ig fs m.F i=q) (w:World) (hw:Cw B w0 (am gc [.slice a.Af m.F.length a.cf,.slice a.Ab m.B.length a.cb,.slice a.Ai m.I.length a.ci,.slice a.Ao m.out.length a.co,.int .i64 m.S,.int .i64 m.T,.slice Ap fs.length cp] 190::H) w) :
  Calls Tryz.prog 294 #[.pointer (some ⟨gc,0,none⟩),.int .i64 (i:Int)] w fun e w'=> ∃g:Option Addr×Nat,True/\e= .returned (.tuple #[.slice g.1 (q.getD []).length g.2,.bool q.isSome])/\Cw B w0 (lG (.slice g.1 (q.getD []).length g.2) (q.getD [])::am gc [.slice a.Af m.F.length a.cf,.slice a.Ab m.B.length a.cb,.slice a.Ai m.I.length a.ci,.slice a.Ao m.out.length a.co,.int .i64 m.S,.int .i64 m.T,.slice Ap fs.length cp] 190::H) w':=by
 have bf:=bE hm.f
 have bp:=bE hs
 obtain⟨A1,c1,A2,c2,hl,hst,hI,hcell⟩:=hm.f.fr hi
 have hx:=hfn _ (fE hi)
 obtain⟨kf,hkf⟩:∃kf:Nat,(aN m.F i).func=kf:=⟨(aN m.F i).func.toNat,by omega⟩
 have hkl:kf<fs.length:=by omega
 obtain⟨hok,hn0⟩:=jM hF.p hkl
 obtain⟨F1,d1,F2,d2,hfl,hfc,hfi,hfcell⟩:=hs.fn hkl
 have bc:=bE hfc
 have hff:ji fs m.F i=aq fs kf:=by unfold ji;rw[hkf,bw]
 obtain⟨pc,hpc⟩:∃pc,(aN m.F i).pc=pc:=⟨_,rfl⟩
 unfold ig at hq
 rw[hff,hpc] at hq
 rw[hkf,hpc] at hcell
 rw[hpc] at hI
 obtain⟨q1,hq1⟩:∃q1,fy fs (aq fs kf) pc=q1:=⟨_,rfl⟩
 rw[hq1] at hq
 refine bG Tryz.func294 rfl Tryz.ntmps294 rfl hw<|aj ?_
 refine cS (i) rfl ((.ro hm.f)) ?_
 refine iY rfl (hcell _)<|aj ?_
 refine fun g1 _=>aj ?_
 refine bz [0,3,6,9,12,15,18,21,26,27,30,33,36,39] [] rfl<|aj ?_
 refine ia rfl rfl Tryz.call316 (fun w hw=>AA Ap cp fs kf pc q1 hq1 w (hw.ro hs) hkl hok hn0) (fun⟨A5,c5⟩ _=>?_)
 refine aO ?_
 refine eo rfl (fun h1=>?_) (fun h1=>?_)
 ·rw[if_pos (show i+1=m.F.length by omega)] at hq
  subst hq
  refine aj ?_
  intro w hw
  exact⟨(A5,c5),trivial,rfl,hw.msub ms⟩
 rw[if_neg (show¬i+1=m.F.length by omega)] at hq
 have hi2:i+1<m.F.length:=by omega
 obtain⟨A3,c3,A4,c4,hl2,hst2,hI2,hcell2⟩:=hm.f.fr hi2
 have hy:=hfn _ (fE hi2)
 obtain⟨ky,hky⟩:∃ky:Nat,(aN m.F (i+1)).func=ky:=⟨(aN m.F (i+1)).func.toNat,by omega⟩
 have hkyl:ky<fs.length:=by omega
 have hfy:ji fs m.F (i+1)=aq fs ky:=by unfold ji;rw[hky,bw]
 rw[hky] at hcell2
 rw[hfy,hky] at hq
 refine aj ?_
 refine cS ((i+1)) rfl ((.ro hm.f))<|aj ?_
 refine eH rfl (fun w hw=>hcell2 _ w hw 0 _ rfl)<|aj ?_
 refine bz [0,3,6,9,12,15,18,21,24,27,30] [] rfl<|aj ?_
 refine tE rfl (bg (k:=kf) eC eK (.ro hs) (by omega) rfl rfl rfl)<|aj ?_
 refine tE rfl (bQ (fun w hw=>hfcell _ w hw 3 _ rfl) rfl rfl pB)<|aj ?_
 refine bX rfl Dw (fun w hw=>mr pc 1 (aq fs kf).C.length w)<|dG 70 (fun h2=>?_) (fun h2=>?_)
 ·have hc:gJ (aq fs kf) pc ky=false:=by
   rw[qJ,show bq pc 1 (aq fs kf).C.length=false from by simpa using h2]
   rfl
  rw[if_pos hc] at hq
  subst hq
  refine aj ?_
  refine aU rfl<|aj ?_
  intro w hw
  exact⟨(none,0),trivial,rfl,(pX hw).msub ms⟩
 have hw1:bq pc 1 (aq fs kf).C.length=true:=by simpa using h2
 have hw2:=dN.1 hw1
 refine aj ?_
 refine sF rfl ((.ro hfc))<|aj ?_
 refine eH rfl (SF.opc (.ro hfc) (by omega))<|dG 80 (fun h3=>?_) (fun h3=>?_)
 ·have hc:gJ (aq fs kf) pc ky=false:=by
   have h3:decide ((bx (aq fs kf).C (pc - 1).toNat).c=12)=false:=by simpa using h3
   rw[qJ,h3]
   simp
  rw[if_pos hc] at hq
  subst hq
  refine aj ?_
  refine aU rfl<|aj ?_
  intro w hw
  exact⟨(none,0),trivial,rfl,(pX hw).msub ms⟩
 have h3:decide ((bx (aq fs kf).C (pc - 1).toNat).c=12)=true:=by simpa using h3
 refine aj ?_
 refine sF rfl ((.ro hfc))<|aj ?_
 refine eH rfl (SF.opa (.ro hfc) (by omega))<|cQ (fun h4=>?_) (fun h4=>?_)
 ·have hc:gJ (aq fs kf) pc ky=false:=by
   rw[qJ,decide_eq_false (p:=(bx (aq fs kf).C (pc - 1).toNat).a=ky) h4]
   simp
  rw[if_pos hc] at hq
  subst hq
  refine aj ?_
  intro w hw
  exact⟨(none,0),trivial,rfl,(pX hw).msub ms⟩
 have hc:gJ (aq fs kf) pc ky=true:=by
  rw[qJ,hw1,h3,decide_eq_true (p:=(bx (aq fs kf).C (pc - 1).toNat).a=ky) h4]
  rfl
 rw[if_neg (by rw[hc];decide)] at hq
 obtain⟨q0,hq0⟩:∃q0,fy fs (aq fs kf) (pc - 1)=q0:=⟨_,rfl⟩
 rw[hq0] at hq
 refine aj ?_
 refine bz [0,3,6,9,12,15,18,21,24,29,30,33,36,39,42] [] rfl<|aj ?_
 refine ia rfl rfl Tryz.call316 (fun w hw=>AA Ap cp fs kf (pc - 1) q0 hq0 w (hw.ro hs) hkl hok hn0) (fun⟨A6,c6⟩ _=>?_)
 refine aO ?_
 refine jo (t:=106) rfl (fun h5=>?_) (fun h5=>?_)
 ·have h5:q0.isSome=false:=by simpa using h5
  rw[if_pos h5] at hq
  subst hq
  refine aj ?_
  refine aU rfl<|aj ?_
  intro w hw
  exact⟨(none,0),trivial,rfl,(pX hw).msub ms⟩
 have h5:q0.isSome=true:=by simpa using h5
 rw[if_neg (by rw[h5];decide)] at hq
 refine aj ?_
 refine bT rfl (fun h6=>?_) (fun h6=>?_)
 ·have h6:q1=none:=by simpa using h6
  subst h6
  have hq:none=q:=hq
  subst hq
  refine aj ?_
  intro w hw
  exact⟨(none,0),trivial,rfl,(pX hw).msub ms⟩
 obtain⟨t,rfl⟩:∃t,q1=some t:=by cases q1 with
  | none=>simp at h6
  | some t=>exact⟨t,rfl⟩
 obtain⟨t0,rfl⟩:∃t0,q0=some t0:=by cases q0 with
  | none=>simp at h5
  | some t0=>exact⟨t0,rfl⟩
 obtain⟨G1,b1,G2,b2,hgl,hgc,hgi,hgcell⟩:=hs.fn hkyl
 have hq:some (if (aq fs ky).result≠0 then t.dropLast else t)=q:=hq
 subst hq
 refine aj ?_
 refine cS (ky) rfl ((.ro hs))<|aj ?_
 refine eH rfl (fun w hw=>hgcell _ w hw 2 _ rfl)<|cQ (fun h7=>?_) (fun h7=>?_)
 ·have hone:=D9 hF hkl hc hq0 hq1 (by rw[bw];exact h7)
  rw[if_pos h7,tk]
  refine dY (fun w hw=>(hw.rdSl (v:= .slice A5 t.length c5) (xs:=t) fc).form) ?_
  rintro⟨_,_,e,hle,_⟩
  injection e with _ _ e
  have ht8:=((hF.e _ hkl).at_ _ _ hq1).2.2.1
  refine cK (t:=7) (v':= .slice A5 t.length c5) rfl (rfl)<|aj ?_
  refine bh (t:=123) (v':= .int .i64 ((t.length - 1:Nat):Int)) rfl (by show Value.int _ ((t.length:Int) - 1)=_;congr 1;omega) ?_
  refine sE (ij (k:=t.length - 1) aw bj (by omega) rfl rfl rfl)<|aj ?_
  intro w hw
  have hlt:(t.take (t.length - 1)).length=t.length - 1:=by rw[aA];omega
  refine⟨(A5,c5),trivial,by show _=Ending.returned (.tuple #[.slice A5 (t.take (t.length - 1)).length c5,.bool true]);rw[hlt],?_⟩
  show Cw B w0 (lG (.slice A5 (t.take (t.length - 1)).length c5) (t.take (t.length - 1))::_::H) w
  rw[hlt]
  exact(Mq (k:=t.length - 1) (by omega) (hw.msub (T:=lG (.slice A5 t.length c5) t::am gc [.slice a.Af m.F.length a.cf,.slice a.Ab m.B.length a.cb,.slice a.Ai m.I.length a.ci,.slice a.Ao m.out.length a.co,.int .i64 m.S,.int .i64 m.T,.slice Ap fs.length cp] 190::H) ms)).msub ms
 rw[if_neg (fun h=>h h7)]
 refine aj ?_
 intro w hw
 exact⟨(A5,c5),trivial,rfl,hw.msub ms⟩
end
end
section
theorem An {α:Type} {L:List (List α)} {k:Nat} (hk:k<L.length):(L.take (k+1)).flatten=(L.take k).flatten++L.getD k []:=by
 rw[fe L k [] hk,List.flatten_append]
 simp
theorem DS {α:Type} (L:List (List α)) (k:Nat):(L.take k).flatten.length<=L.flatten.length:=by
 rw[<-congrArg List.length (congrArg List.flatten (nM k L)),List.flatten_append,ar]
 omega
theorem Gu (g n:Nat) (hd:Nat->Option Addr×Nat) (L:List (List aC)) (hn:L.length=n) (w:World) (hlt:g<w.heap.size) (hc:∀k,k<n->w.cell? ⟨g,0+k*1,none⟩=some (.slice (hd k).1 (L.getD k []).length (hd k).2))
  (hs:∀k,k<n->Sl w (.slice (hd k).1 (L.getD k []).length (hd k).2) (L.getD k [])) (hb:L.flatten.length*16<=140737488355328) (hn':n<=1000) :
  Calls Tryz.prog 291 #[.slice (some ⟨g,0,none⟩) n n] w fun e w'=> ∃u,e= .returned u/\Below w.heap.size w w'/\ef w' w.heap.size u L.flatten:=by
 subst hn
 have hfl:=DS L
 refine enter Tryz.func291 rfl Tryz.ntmps291 rfl<|aj ?_
 refine dA (fun k:Nat=>k<=L.length) (fun k=>L.length - k) (fun k=> [(0,.slice (some ⟨g,0,none⟩) L.length L.length),(3,.int .i64 ((L.take k).flatten.length:Int)),(9,.slice (some ⟨g,0,none⟩) L.length L.length),(10,.int .i64 (L.length:Int)),(11,.int .i64 (k:Int))]) (fun _=> []) 0 (aX _) ?_
 rintro k hk
 have hk:k<=L.length:=hk
 refine av (fun h1=>?_) (fun h1=>?_)
 ·have hkn:k<L.length:=by omega
  have hft:=congrArg List.length (An (L:=L) (k:=k) (by omega))
  rw[ar] at hft
  have hfk:=hfl (k+1)
  refine aj ?_
  refine sE (jy (k:=k) nh ft rfl hkn rfl rfl rfl) ?_
  refine eH rfl (fun w' hw=>(hw.below.cell hlt).trans (hc k hkn))<|av (fun h2=>?_) (fun h2=>?_)
  ·exact absurd h2 (by omega)
  refine cK (t:=3) (v':= .int .i64 ((L.take (k+1)).flatten.length:Int)) rfl (by congr 1;omega)<|aj ?_
  refine cU (k+1) (by show k+1<=_;omega) (by show _ - _<_ - _;omega)
 obtain rfl:k=L.length:=by omega
 rw[aT]
 refine aj ?_
 refine eb rfl Tryz.call315 (fun w hw=>It L.flatten.length hb w) (fun⟨A2,c2⟩ _=>?_)
 refine aO ?_
 refine dA (fun g:Nat×Option Addr×Nat=>g.1<=L.length) (fun g=>L.length - g.1) (fun q=> [(6,.slice q.2.1 (L.take q.1).flatten.length q.2.2),(25,.slice (some ⟨g,0,none⟩) L.length L.length),(26,.int .i64 (L.length:Int)),(27,.int .i64 (q.1:Int))]) (fun q=> [ak (.slice q.2.1 (L.take q.1).flatten.length q.2.2) (L.take q.1).flatten]) (0,A2,c2) (aX _) ?_
 rintro⟨k,A3,c3⟩ hk
 try dsimp only
 have hk:k<=L.length:=hk
 refine av (fun h1=>?_) (fun h1=>?_)
 ·have hkn:k<L.length:=by omega
  have hft:=An (L:=L) (k:=k) (by omega)
  have hft2:=congrArg List.length hft
  rw[ar] at hft2
  have hfk:=hfl (k+1)
  refine aj ?_
  refine sE (jy (k:=k) nh ft rfl hkn rfl rfl rfl) ?_
  refine eH rfl (fun w' hw=>(hw.below.cell hlt).trans (hc k hkn))<|aj ?_
  refine oE (di (α:=aC) (bytes:=16) (xs:=(L.take k).flatten) (ys:=L.getD k []) hft ax (aV du) rfl fc (.ro (hs k hkn)) (by omega) (by omega) rfl rfl rfl) (fun⟨A5,c5⟩ _=>?_)
  refine aO ?_
  refine cU (k+1,A5,c5) (by show k+1<=_;omega) (by show _ - _<_ - _;omega)
 obtain rfl:k=L.length:=by omega
 rw[aT]
 refine aj ?_
 intro w hw
 exact⟨_,rfl,kX hw⟩
end
section
theorem Fo {nb:Nat} {l:List aC} {k:Nat} (hk:k<l.length) (h:eM nb (l.getD k default)=false):l.any (fun v=>!eM nb v)=true:=cG.2 ⟨_,cI hk,by rw[h];rfl⟩
theorem De {nb:Nat} {l:List aC} (h:∀j,j<l.length->eM nb (l.getD j default)=true):¬l.any (fun v=>!eM nb v)=true:=fun ha=>by
 obtain⟨v,hv,h2⟩:=cG.1 ha
 obtain⟨j,hj,rfl⟩:=cg hv
 have:=h j hj
 rw[an,ap hj,qv] at this
 rw[this] at h2
 cases h2
theorem ve {s:List aC} {t:List Int} {n k:Nat} (hk:k<n) (h:fL (s.getD k default) (t.getD k 0)=false):Fk s t n=false:=by
 cases e:Fk s t n with
 | false=>rfl
 | true=>rw[lY.1 e k hk] at h;cases h
section
variable {B:Nat} {w0:World} {H:List aJ}
theorem yn (gc:Nat) (a:MA) (m:az) (Ap:Option Addr) (cp:Nat) (fs:List au) (hs:bJ w0 B (.slice Ap fs.length cp) fs) (hm:dS B w0 a m) (hF:gu fs) (hfit:jX m.F) (i:Nat) (hi:i<m.F.length) (hfn:∀x∈m.F,0<=x.func/\x.func<fs.length) (E:Int) (hE:fO fs m.B.length m.F i=E) (w:World) (hw:Cw B w0 (am gc [.slice a.Af m.F.length a.cf,.slice a.Ab m.B.length a.cb,.slice a.Ai m.I.length a.ci,.slice a.Ao m.out.length a.co,.int .i64 m.S,.int .i64 m.T,.slice Ap fs.length cp] 190::H) w) :
  Calls Tryz.prog 238 #[.pointer (some ⟨gc,0,none⟩),.int .i64 (i:Int)] w fun e w'=> ∃_:Unit,True/\e= .returned (.int .i64 E)/\Cw B w0 (am gc [.slice a.Af m.F.length a.cf,.slice a.Ab m.B.length a.cb,.slice a.Ai m.I.length a.ci,.slice a.Ao m.out.length a.co,.int .i64 m.S,.int .i64 m.T,.slice Ap fs.length cp] 190::H) w':=by
 have bf:=bE hm.f
 have bp:=bE hs
 obtain⟨A1,c1,A2,c2,hl,hst,hI,hcell⟩:=hm.f.fr hi
 obtain⟨hb1,hb2⟩:=hfit.2 (aN m.F i) (fE hi)
 have hx:=hfn _ (fE hi)
 obtain⟨kf,hkf⟩:∃kf:Nat,(aN m.F i).func=kf:=⟨(aN m.F i).func.toNat,by omega⟩
 have hkl:kf<fs.length:=by omega
 obtain⟨hok,hn0⟩:=jM hF.p hkl
 obtain⟨F1,d1,F2,d2,hfl,hfc,hfi,hfcell⟩:=hs.fn hkl
 have hfl6:(aq fs kf).L.length<=6:=(hok.op 0 hn0).par kf hkl |>.2
 have hff:ji fs m.F i=aq fs kf:=by unfold ji;rw[hkf,bw]
 unfold fO at hE
 rw[hff] at hE
 rw[hkf] at hcell
 obtain⟨q,hq⟩:∃q,ig fs m.F i=q:=⟨_,rfl⟩
 rw[hq] at hE
 generalize aq fs kf=f at hE hfl hfc hfi hfcell hfl6
 generalize aN m.F i=x at hE hl hst hI hcell hb1 hb2
 have bx1:=bE hl
 have bx2:=bE hst
 refine bG Tryz.func238 rfl Tryz.ntmps238 rfl hw<|aj ?_
 refine cS (i) rfl ((.ro hm.f)) ?_
 refine iY rfl (hcell _)<|aj ?_
 refine fun g1 _=>aj ?_
 refine bz [0,3,6,9,12,15,18,21,24,29,32] [10] rfl<|aj ?_
 refine tE rfl (bg (k:=kf) eC eK (.ro hs) (by omega) rfl rfl rfl) ?_
 refine tE rfl (eF (hfcell _) rfl rfl wN eK)<|aj ?_
 refine fun g2 _=>cQ (fun h1=>?_) (fun h1=>?_)
 ·rw[if_pos (show x.L.length≠f.L.length from fun e=>h1 (by rw[e]))] at hE
  subst hE
  refine aj ?_
  intro w hw
  exact⟨(),trivial,rfl,hw.msub ms⟩
 have h1:x.L.length=f.L.length:=by omega
 rw[if_neg (fun h=>h h1)] at hE
 have hcat: [x.L,x.K].flatten.length*16<=140737488355328:=by simp only[List.flatten_cons,List.flatten_nil,ar,aD];omega
 refine aj ?_
 intro g3 _
 refine oE (eR rfl rfl rfl Tryz.call291 (fun w hw=>Gu g3 2 (fun k=>if k=0 then (A1,c1) else (A2,c2)) [x.L,x.K] rfl w (lD hw fc) (fun k hk=>by rcases(show k=0\/k=1 by omega) with rfl | rfl;exact fP fc rfl w hw;exact fP fc rfl w hw) (fun k hk=>by rcases(show k=0\/k=1 by omega) with rfl | rfl;exact hw.ro hl;exact hw.ro hst) hcat (by decide))) (fun⟨A5,c5⟩ _=>?_)
 refine aO ?_
 have hfe: [x.L,x.K].flatten=x.L++x.K:=by simp
 rw[hfe]
 rw[hfe] at hcat
 refine dA (fun k:Nat=>k<=(x.L++x.K).length/\∀j,j<k->eM m.B.length ((x.L++x.K).getD j default)=true) (fun k=>(x.L++x.K).length - k) (fun k=> [(0,.pointer (some ⟨gc,0,none⟩)),(1,.int .i64 (i:Int)),(5,.pointer (some ⟨g1,0,none⟩)),(6,.pointer (some ⟨g2,0,none⟩)),(45,.slice A5 (x.L++x.K).length c5),(46,.int .i64 ((x.L++x.K).length:Int)),(47,.int .i64 (k:Int))]) (fun _=>ak (.slice A5 (x.L++x.K).length c5) (x.L++x.K)::am g1 [.int .i64 (kf:Int),.int .i64 x.pc,.slice A1 x.L.length c1,.slice A2 x.K.length c2] 118::am g2 [.int .i64 f.params,.slice F1 f.L.length d1,.int .i64 f.result,.slice F2 f.C.length d2] 84::am gc [.slice a.Af m.F.length a.cf,.slice a.Ab m.B.length a.cb,.slice a.Ai m.I.length a.ci,.slice a.Ao m.out.length a.co,.int .i64 m.S,.int .i64 m.T,.slice Ap fs.length cp] 190::H) 0 (⟨aX _,fun _ h=>absurd h (gN _)⟩) ?_ (hh:=(fun w h=>h.msub ms))
 rintro k hk'
 obtain⟨hk,hno⟩:k<=(x.L++x.K).length/\∀j,j<k->eM m.B.length ((x.L++x.K).getD j default)=true:=hk'
 refine av (fun hlt=>?_) (fun hlt=>?_)
 ·have hkl2:k<(x.L++x.K).length:=by omega
  refine aj ?_
  refine cS (_) rfl ((SF.own rfl fc)) ?_
  refine iY rfl (SF.val (SF.own rfl fc) hkl2 default)<|aj ?_
  refine fun g4 _=>aj ?_
  refine cT rfl Tryz.call292 (fun w hw=>Gt gc a m (.slice Ap fs.length cp) ((x.L++x.K).getD k default) w (hw.msub (.s fc .r))) (fun _ _=>aj ?_)
  obtain⟨vb,hvb⟩:∃b,eM m.B.length ((x.L++x.K).getD k default)=b:=⟨_,rfl⟩
  rw[hvb]
  cases vb
  ·rw[if_pos (Fo hkl2 hvb)] at hE
   subst hE
   rw[if_neg (by decide)]
   refine jq rfl (fun hz=>?_) (fun hz=>?_)
   ·refine aj ?_
    intro w hw
    exact⟨(),trivial,rfl,hw.msub ms⟩
   exact absurd hz (by decide)
  rw[if_pos rfl]
  refine jq rfl (fun hz=>?_) (fun hz=>?_)
  ·exact absurd rfl hz
  refine aj ?_
  refine cU (k+1) (⟨by show k+1<=_;omega,fun j hj=>(fK j k).elim (hno j) (fun h=>by obtain rfl:j=k:=(by omega);exact hvb)⟩) (by show _ - _<_ - _;omega) (hh:=(fun w h=>h.msub ms))
 obtain rfl:k=(x.L++x.K).length:=by omega
 rw[if_neg (De hno)] at hE
 refine aj ?_
 refine dA (fun k:Nat=>k<=x.L.length/\∀j,j<k->fL (x.L.getD j default) (f.L.getD j 0)=true) (fun k=>x.L.length - k) (fun k=> [(0,.pointer (some ⟨gc,0,none⟩)),(1,.int .i64 (i:Int)),(5,.pointer (some ⟨g1,0,none⟩)),(6,.pointer (some ⟨g2,0,none⟩)),(59,.slice A1 x.L.length c1),(60,.int .i64 (x.L.length:Int)),(61,.int .i64 (k:Int))]) (fun _=>am g1 [.int .i64 (kf:Int),.int .i64 x.pc,.slice A1 x.L.length c1,.slice A2 x.K.length c2] 118::am g2 [.int .i64 f.params,.slice F1 f.L.length d1,.int .i64 f.result,.slice F2 f.C.length d2] 84::am gc [.slice a.Af m.F.length a.cf,.slice a.Ab m.B.length a.cb,.slice a.Ai m.I.length a.ci,.slice a.Ao m.out.length a.co,.int .i64 m.S,.int .i64 m.T,.slice Ap fs.length cp] 190::H) 0 (⟨aX _,fun _ h=>absurd h (gN _)⟩) ?_ (hh:=(fun w h=>h.msub ms))
 rintro k hk'
 obtain⟨hk,hno2⟩:k<=x.L.length/\∀j,j<k->fL (x.L.getD j default) (f.L.getD j 0)=true:=hk'
 refine av (fun hlt=>?_) (fun hlt=>?_)
 ·have hkl2:k<x.L.length:=by omega
  refine aj ?_
  refine cS (_) rfl ((.ro hl)) ?_
  refine iY rfl (SF.val (SF.ro hl) hkl2 default)<|aj ?_
  refine fun g5 _=>aj ?_
  refine bz [0,3,6,9,12,15,20,21] [] rfl<|aj ?_
  refine tE rfl (bg (k:=k) aw bj (.ro hfl) (by omega) rfl rfl rfl) ?_
  refine tE rfl (bQ (SF.int (.ro hfl) (by omega)) rfl rfl be) ?_
  refine km rfl rfl Tryz.call293 (fun w hw=>EY (x.L.getD k default) (f.L.getD k 0) w)<|aj ?_
  refine bT rfl (fun hb=>?_) (fun hb=>?_)
  ·have hb:fL (x.L.getD k default) (f.L.getD k 0)=false:=by simpa using hb
   rw[if_pos (ve hkl2 hb)] at hE
   subst hE
   refine aj ?_
   intro w hw
   exact⟨(),trivial,rfl,hw.msub ms⟩
  have hb:fL (x.L.getD k default) (f.L.getD k 0)=true:=by simpa using hb
  refine aj ?_
  refine cU (k+1) (⟨by show k+1<=_;omega,fun j hj=>(fK j k).elim (hno2 j) (fun h=>by obtain rfl:j=k:=(by omega);exact hb)⟩) (by show _ - _<_ - _;omega) (hh:=(fun w h=>h.msub ms))
 obtain rfl:k=x.L.length:=by omega
 rw[if_neg (by rw[lY.2 hno2];decide)] at hE
 refine aj ?_
 refine cT rfl Tryz.call294 (fun w hw=>IP (H:=am g1 [.int .i64 (kf:Int),.int .i64 x.pc,.slice A1 x.L.length c1,.slice A2 x.K.length c2] 118::am g2 [.int .i64 f.params,.slice F1 f.L.length d1,.int .i64 f.result,.slice F2 f.C.length d2] 84::H) gc a m Ap cp fs hs hm hF i hi hfn q hq w (hw.msub ms)) (fun⟨A6,c6⟩ _=>?_)
 refine aO ?_
 refine bT rfl (fun hn=>?_) (fun hn=>?_)
 ·have hn:q=none:=by simpa using hn
  subst hn
  subst hE
  refine aj ?_
  intro w hw
  exact⟨(),trivial,rfl,hw.msub ms⟩
 obtain⟨t,rfl⟩:∃t,q=some t:=by cases q with
  | none=>simp at hn
  | some t=>exact⟨t,rfl⟩
 dsimp only[qv] at hE⊢
 refine cQ (fun h2=>?_) (fun h2=>?_)
 ·have h2:¬(t.length:Int)=x.K.length:=h2
  rw[if_pos (show t.length≠x.K.length from fun e=>h2 (by rw[e]))] at hE
  subst hE
  refine aj ?_
  intro w hw
  exact⟨(),trivial,rfl,hw.msub ms⟩
 have h2:(t.length:Int)=x.K.length:=h2
 have h2:t.length=x.K.length:=by omega
 rw[if_neg (fun h=>h h2)] at hE
 refine aj ?_
 refine dA (fun k:Nat=>k<=x.K.length/\∀j,j<k->fL (x.K.getD j default) (t.getD j 0)=true) (fun k=>x.K.length - k) (fun k=> [(12,.slice A6 t.length c6),(90,.slice A2 x.K.length c2),(91,.int .i64 (x.K.length:Int)),(92,.int .i64 (k:Int))]) (fun _=>lG (.slice A6 t.length c6) t::am gc [.slice a.Af m.F.length a.cf,.slice a.Ab m.B.length a.cb,.slice a.Ai m.I.length a.ci,.slice a.Ao m.out.length a.co,.int .i64 m.S,.int .i64 m.T,.slice Ap fs.length cp] 190::H) 0 (⟨aX _,fun _ h=>absurd h (gN _)⟩) ?_ (hh:=(fun w h=>h.msub ms))
 rintro k hk'
 obtain⟨hk,hno3⟩:k<=x.K.length/\∀j,j<k->fL (x.K.getD j default) (t.getD j 0)=true:=hk'
 refine av (fun hlt=>?_) (fun hlt=>?_)
 ·have hkl2:k<x.K.length:=by omega
  refine aj ?_
  refine cS (_) rfl ((.ro hst)) ?_
  refine iY rfl (SF.val (SF.ro hst) hkl2 default)<|aj ?_
  refine fun g6 _=>aj ?_
  refine bz [0,3,6,9,12,17,18] [] rfl<|aj ?_
  refine tE rfl (bg (k:=k) aw bj (SF.rd (xs:=t) rfl fc) (by omega) rfl rfl rfl) ?_
  refine tE rfl (bQ (SF.int (SF.rd (xs:=t) rfl fc) (by omega)) rfl rfl be) ?_
  refine km rfl rfl Tryz.call293 (fun w hw=>EY (x.K.getD k default) (t.getD k 0) w)<|aj ?_
  refine bT rfl (fun hb=>?_) (fun hb=>?_)
  ·have hb:fL (x.K.getD k default) (t.getD k 0)=false:=by simpa using hb
   rw[if_pos (ve (by omega) hb)] at hE
   subst hE
   refine aj ?_
   intro w hw
   exact⟨(),trivial,rfl,hw.msub ms⟩
  have hb:fL (x.K.getD k default) (t.getD k 0)=true:=by simpa using hb
  refine aj ?_
  refine cU (k+1) (⟨by show k+1<=_;omega,fun j hj=>(fK j k).elim (hno3 j) (fun h=>by obtain rfl:j=k:=(by omega);exact hb)⟩) (by show _ - _<_ - _;omega) (hh:=(fun w h=>h.msub ms))
 obtain rfl:k=x.K.length:=by omega
 rw[if_neg (by rw[h2,lY.2 hno3];decide)] at hE
 subst hE
 refine aj ?_
 intro w hw
 exact⟨(),trivial,rfl,hw.msub ms⟩
end
end
section
theorem ny {n k:Nat} (hk:k<n):(List.range n).getD k 0=k:=by
 rw[an,List.getElem?_range hk]
 rfl
theorem Iw {l:List aG} {k n:Nat} (hk:k<l.length) (h:bq (aN l k).func 0 ((n:Int) - 1)=false):l.any (fun x=>!bq x.func 0 ((n:Int) - 1))=true:=cG.2 ⟨_,fE hk,by rw[h];rfl⟩
theorem E5 {l:List aG} {n:Nat} (h:∀j,j<l.length->bq (aN l j).func 0 ((n:Int) - 1)=true):(¬l.any (fun x=>!bq x.func 0 ((n:Int) - 1))=true)/\∀x∈l,0<=x.func/\x.func<n:=by
 have h2:∀x∈l,bq x.func 0 ((n:Int) - 1)=true:=fun x hx=>by
  obtain⟨j,hj,rfl⟩:=cg hx
  have:=h j hj
  unfold aN at this
  rwa [an,ap hj] at this
 refine⟨fun ha=>?_,fun x hx=>?_⟩
 ·obtain⟨x,hx,h3⟩:=cG.1 ha
  rw[h2 x hx] at h3
  cases h3
 have:=dN.1 (h2 x hx)
 omega
section
variable {B:Nat} {w0:World} {H:List aJ}
theorem D4 (gc:Nat) (a:MA) (m:az) (Ap:Option Addr) (cp:Nat) (fs:List au) (hs:bJ w0 B (.slice Ap fs.length cp) fs) (hm:dS B w0 a m) (hF:gu fs) (hfit:jX m.F) (E:Int) (hE:lU fs m=E) (w:World) (hw:Cw B w0 (am gc [.slice a.Af m.F.length a.cf,.slice a.Ab m.B.length a.cb,.slice a.Ai m.I.length a.ci,.slice a.Ao m.out.length a.co,.int .i64 m.S,.int .i64 m.T,.slice Ap fs.length cp] 190::H) w) :
  Calls Tryz.prog 184 #[.pointer (some ⟨gc,0,none⟩)] w fun e w'=> ∃_:Unit,True/\e= .returned (.int .i64 E)/\Cw B w0 (am gc [.slice a.Af m.F.length a.cf,.slice a.Ab m.B.length a.cb,.slice a.Ai m.I.length a.ci,.slice a.Ao m.out.length a.co,.int .i64 m.S,.int .i64 m.T,.slice Ap fs.length cp] 190::H) w':=by
 have bf:=bE hm.f
 have bp:=bE hs
 unfold lU at hE
 refine bG Tryz.func184 rfl Tryz.ntmps184 rfl hw ?_
 refine cc<|bO<|ay ?_
 refine bH<|eh (fun _:Unit=> ¬6<m.F.length/\¬(m.F.length=0/\m.S≠2)/\¬(0<m.F.length/\m.S=2)) (fun _=> [(0,.pointer (some ⟨gc,0,none⟩))]) (fun _=>am gc [.slice a.Af m.F.length a.cf,.slice a.Ab m.B.length a.cb,.slice a.Ai m.I.length a.ci,.slice a.Ao m.out.length a.co,.int .i64 m.S,.int .i64 m.T,.slice Ap fs.length cp] 190::H) ?_ ?_
 ·refine av (fun h6=>?_) (fun h6=>?_)
  ·rw[if_pos (by omega)] at hE
   subst hE
   refine aj ?_
   intro w hw
   exact⟨(),trivial,rfl,hw.msub ms⟩
  have h6:¬6<m.F.length:=by omega
  rw[if_neg h6] at hE
  refine dG 21 (fun h0=>?_) (fun h0=>?_)
  ·have h0:=of_decide_eq_true h0
   have h0:m.F.length=0:=by omega
   refine cQ (fun h2=>?_) (fun h2=>?_)
   ·rw[if_pos ⟨h0,h2⟩] at hE
    subst hE
    refine aj ?_
    intro w hw
    exact⟨(),trivial,rfl,hw.msub ms⟩
   refine dG 32 (fun h3=>?_) (fun h3=>?_)
   ·have h3:=of_decide_eq_true h3
    exact absurd h3 (by omega)
   refine aj ?_
   refine cu rfl<|aj ?_
   refine bS () (⟨h6,fun h=>h.2 h2,fun h=>by omega⟩) (hh:=(fun _ h=>h.msub ms))
  have h0:=of_decide_eq_false h0
  have h0:¬m.F.length=0:=by omega
  rw[if_neg (fun h=>h0 h.1)] at hE
  refine aj ?_
  refine cu rfl<|dG 32 (fun h3=>?_) (fun h3=>?_)
  ·refine av (fun h2=>?_) (fun h2=>?_)
   ·rw[if_pos ⟨by omega,h2⟩] at hE
    subst hE
    refine aj ?_
    intro w hw
    exact⟨(),trivial,rfl,hw.msub ms⟩
   refine aj ?_
   refine bS () (⟨h6,fun h=>h0 h.1,fun h=>h2 h.2⟩) (hh:=(fun _ h=>h.msub ms))
  have h3:=of_decide_eq_false h3
  exact absurd h3 (by omega)
 rintro⟨⟩ ⟨h1,h2,h3⟩
 rw[if_neg h1,if_neg h2,if_neg h3] at hE
 refine aj ?_
 refine dA (fun k:Nat=>k<=m.F.length/\∀j,j<k->bq (aN m.F j).func 0 ((fs.length:Int) - 1)=true) (fun k=>m.F.length - k) (fun k=> [(0,.pointer (some ⟨gc,0,none⟩)),(44,.slice a.Af m.F.length a.cf),(45,.int .i64 (m.F.length:Int)),(46,.int .i64 (k:Int))]) (fun _=>am gc [.slice a.Af m.F.length a.cf,.slice a.Ab m.B.length a.cb,.slice a.Ai m.I.length a.ci,.slice a.Ao m.out.length a.co,.int .i64 m.S,.int .i64 m.T,.slice Ap fs.length cp] 190::H) 0 (⟨aX _,fun _ h=>absurd h (gN _)⟩) ?_ (hh:=(fun w h=>h.msub ms))
 rintro k hk'
 obtain⟨hk,hno⟩:k<=m.F.length/\∀j,j<k->bq (aN m.F j).func 0 ((fs.length:Int) - 1)=true:=hk'
 refine av (fun hlt=>?_) (fun hlt=>?_)
 ·have hkl:k<m.F.length:=by omega
  obtain⟨A1,c1,A2,c2,hl,hst,hI,hcell⟩:=hm.f.fr hkl
  refine aj ?_
  refine cS (_) rfl ((.ro hm.f)) ?_
  refine iY rfl (hcell _)<|aj ?_
  refine fun g1 _=>aj ?_
  refine bz [0,3,6,9,12,15,18,21,24,29,30] [] rfl<|aj ?_
  refine km rfl rfl Dw (fun w hw=>mr (aN m.F k).func 0 ((fs.length:Int) - 1) w)<|aj ?_
  refine bT rfl (fun hb=>?_) (fun hb=>?_)
  ·have hb:bq (aN m.F k).func 0 ((fs.length:Int) - 1)=false:=by simpa using hb
   rw[if_pos (Iw hkl hb)] at hE
   subst hE
   refine aj ?_
   intro w hw
   exact⟨(),trivial,rfl,hw.msub ms⟩
  have hb:bq (aN m.F k).func 0 ((fs.length:Int) - 1)=true:=by simpa using hb
  refine aj ?_
  refine cU (k+1) (⟨by show k+1<=_;omega,fun j hj=>(fK j k).elim (hno j) (fun h=>by obtain rfl:j=k:=(by omega);exact hb)⟩) (by show _ - _<_ - _;omega) (hh:=(fun w h=>h.msub ms))
 obtain rfl:k=m.F.length:=by omega
 obtain⟨hany,hfn⟩:=E5 hno
 rw[if_neg hany] at hE
 refine aj ?_
 refine dA (fun k:Nat=>k<=m.F.length/\(0<k->¬(0<m.F.length/\(aN m.F 0).func≠0))/\eU (fO fs m.B.length m.F) ((List.range m.F.length).take k)=0) (fun k=>m.F.length - k) (fun k=> [(0,.pointer (some ⟨gc,0,none⟩)),(66,.slice a.Af m.F.length a.cf),(67,.int .i64 (m.F.length:Int)),(68,.int .i64 (k:Int))]) (fun _=>am gc [.slice a.Af m.F.length a.cf,.slice a.Ab m.B.length a.cb,.slice a.Ai m.I.length a.ci,.slice a.Ao m.out.length a.co,.int .i64 m.S,.int .i64 m.T,.slice Ap fs.length cp] 190::H) 0 (⟨aX _,fun h=>absurd h (gN _),rfl⟩) ?_ (hh:=(fun w h=>h.msub ms))
 rintro k hk'
 obtain⟨hk,hz0,hno2⟩:k<=m.F.length/\(0<k->¬(0<m.F.length/\(aN m.F 0).func≠0))/\eU (fO fs m.B.length m.F) ((List.range m.F.length).take k)=0:=hk'
 refine av (fun hlt=>?_) (fun hlt=>?_)
 ·have hkl:k<m.F.length:=by omega
  obtain⟨A1,c1,A2,c2,hl,hst,hI,hcell⟩:=hm.f.fr hkl
  refine aj ?_
  refine cS (_) rfl ((.ro hm.f)) ?_
  refine iY rfl (hcell _)<|aj ?_
  refine fun g2 _=>dG 75 (fun hz=>?_) (fun hz=>?_)
  ·have hz:=of_decide_eq_true hz
   obtain rfl:k=0:=by omega
   refine cQ (fun hf=>?_) (fun hf=>?_)
   ·rw[if_pos ⟨hkl,hf⟩] at hE
    subst hE
    refine aj ?_
    intro w hw
    exact⟨(),trivial,rfl,hw.msub ms⟩
   have h0:¬(0<m.F.length/\(aN m.F 0).func≠0):=fun h=>h.2 hf
   refine aj ?_
   refine cT rfl Tryz.call238 (fun w hw=>yn gc a m Ap cp fs hs hm hF hfit 0 hkl hfn _ rfl w (hw.msub (.s fc .r))) (fun _ _=>cQ (fun he=>?_) (fun he=>?_))
   ·have he:fO fs m.B.length m.F 0≠0:=he
    have hsn:=jT (g:=fO fs m.B.length m.F) (l:=List.range m.F.length) 0 (by rw[mz];exact hkl) hno2
    rw[ny hkl] at hsn
    rw[if_neg h0,oN (k:=0+1) (by rw[hsn];exact he),hsn] at hE
    subst hE
    refine aj ?_
    intro w hw
    exact⟨(),trivial,rfl,hw.msub ms⟩
   have he:fO fs m.B.length m.F 0=0:=he
   have hsn:=jT (g:=fO fs m.B.length m.F) (l:=List.range m.F.length) 0 (by rw[mz];exact hkl) hno2
   rw[ny hkl,he] at hsn
   refine aj ?_
   refine cU 1 (⟨by show 1<=_;omega,fun _=>h0,hsn⟩) (by show _ - _<_ - _;omega) (hh:=(fun w h=>h.msub ms))
  have hz:=of_decide_eq_false hz
  have h0:=hz0 (by omega)
  refine aj ?_
  refine cu rfl<|aj ?_
  refine cT rfl Tryz.call238 (fun w hw=>yn gc a m Ap cp fs hs hm hF hfit k hkl hfn _ rfl w (hw.msub (.s fc .r))) (fun _ _=>cQ (fun he=>?_) (fun he=>?_))
  ·have he:fO fs m.B.length m.F k≠0:=he
   have hsn:=jT (g:=fO fs m.B.length m.F) (l:=List.range m.F.length) 0 (by rw[mz];exact hkl) hno2
   rw[ny hkl] at hsn
   rw[if_neg h0,oN (k:=k+1) (by rw[hsn];exact he),hsn] at hE
   subst hE
   refine aj ?_
   intro w hw
   exact⟨(),trivial,rfl,hw.msub ms⟩
  have he:fO fs m.B.length m.F k=0:=he
  have hsn:=jT (g:=fO fs m.B.length m.F) (l:=List.range m.F.length) 0 (by rw[mz];exact hkl) hno2
  rw[ny hkl,he] at hsn
  refine aj ?_
  refine cU (k+1) (⟨by show k+1<=_;omega,fun _=>h0,hsn⟩) (by show _ - _<_ - _;omega) (hh:=(fun w h=>h.msub ms))
 obtain rfl:k=m.F.length:=by omega
 rw[bA (by rw[mz];exact aK _)] at hno2
 have h0:¬(0<m.F.length/\(aN m.F 0).func≠0):=fun h=>hz0 h.1 h
 rw[if_neg h0,hno2] at hE
 subst hE
 refine aj ?_
 intro w hw
 exact⟨(),trivial,rfl,hw.msub ms⟩
end
end
section
theorem Ie (n:Int) (w:World):Calls Tryz.prog 237 #[.int .i64 n] w fun e w'=>e= .returned (.bool (!cd n))/\Below w.heap.size w w':=by
 refine enter Tryz.func237 rfl Tryz.ntmps237 rfl<|aj ?_
 refine bX rfl RQ ((fun w hw=>fX ((fun w hw=>rF n w) w hw)))<|aj ?_
 intro w hw
 exact⟨rfl,hw.below⟩
theorem Cq (A:Option Addr) (c:Nat) (l:List Int) (w:World) (hs:Sl w (.slice A l.length c) l):Calls Tryz.prog 183 #[.slice A l.length c] w fun e w'=>e= .returned (.bool (dq l))/\Below w.heap.size w w':=by
 refine enter Tryz.func183 rfl Tryz.ntmps183 rfl<|aj ?_
 refine bX rfl Dx (fun w hw=>nF A c l 237 #[] (fun n=>!cd n) w (hw.ro hs) Tryz.call237 (fun w1 _ x _=>Ie x w1))<|aj ?_
 intro w hw
 exact⟨rfl,hw.below⟩
theorem KP (m:az):gY m=aN m.F (m.F.length - 1):=by
 unfold gY aN
 rw[List.getLastD_eq_getLast?,List.getLast?_eq_getElem?,an]
section
variable {B:Nat} {w0:World} {H:List aJ}
theorem C5 (gc:Nat) (a:MA) (m:az) (Ap:Option Addr) (cp:Nat) (fs:List au) (hs:bJ w0 B (.slice Ap fs.length cp) fs) (hm:dS B w0 a m) (hF:gu fs) (hfit:jX m.F) (E:Int) (hE:ls fs m=E) (w:World) (hw:Cw B w0 (am gc [.slice a.Af m.F.length a.cf,.slice a.Ab m.B.length a.cb,.slice a.Ai m.I.length a.ci,.slice a.Ao m.out.length a.co,.int .i64 m.S,.int .i64 m.T,.slice Ap fs.length cp] 190::H) w) :
  Calls Tryz.prog 131 #[.pointer (some ⟨gc,0,none⟩)] w fun e w'=> ∃_:Unit,True/\e= .returned (.int .i64 E)/\Cw B w0 (am gc [.slice a.Af m.F.length a.cf,.slice a.Ab m.B.length a.cb,.slice a.Ai m.I.length a.ci,.slice a.Ao m.out.length a.co,.int .i64 m.S,.int .i64 m.T,.slice Ap fs.length cp] 190::H) w':=by
 have bf:=bE hm.f
 have bp:=bE hs
 unfold ls at hE
 refine bG Tryz.func131 rfl Tryz.ntmps131 rfl hw ?_
 refine cc<|bO<|ay ?_
 refine bH<|cc<|bO<|ay ?_
 refine ay ?_
 refine bH<|eh (fun _:Unit=>True) (fun _=> [(0,.pointer (some ⟨gc,0,none⟩)),(3,.int .i64 (if m.S=3 then 1 else 0)),(4,.int .i64 (if m.S=3 then 5 else 0))]) (fun _=>am gc [.slice a.Af m.F.length a.cf,.slice a.Ab m.B.length a.cb,.slice a.Ai m.I.length a.ci,.slice a.Ao m.out.length a.co,.int .i64 m.S,.int .i64 m.T,.slice Ap fs.length cp] 190::H) ?_ ?_
 ·refine av (fun h3=>?_) (fun h3=>?_)
  ·rw[if_pos h3,if_pos h3]
   refine aj ?_
   refine tp () (trivial) (hh:=(fun _ h=>h.msub ms))
  rw[if_neg h3,if_neg h3]
  refine aj ?_
  refine bS () (trivial) (hh:=(fun _ h=>h.msub ms))
 rintro⟨⟩ _
 refine aj ?_
 refine bX rfl Dw (fun w hw=>mr m.S 0 3 w)<|aj ?_
 refine bT rfl (fun h1=>?_) (fun h1=>?_)
 ·rw[if_pos (by simpa using h1)] at hE
  subst hE
  refine aj ?_
  intro w hw
  exact⟨(),trivial,rfl,hw.msub ms⟩
 rw[if_neg (by simpa using h1)] at hE
 refine aj ?_
 refine bX rfl Dw (fun w hw=>mr m.T _ _ w)<|aj ?_
 refine bT rfl (fun h2=>?_) (fun h2=>?_)
 ·rw[if_pos (by simpa using h2)] at hE
  subst hE
  refine aj ?_
  intro w hw
  exact⟨(),trivial,rfl,hw.msub ms⟩
 rw[if_neg (by simpa using h2)] at hE
 refine aj ?_
 refine bX rfl Tryz.call182 (fun w hw=>Gy _ m.B w (hw.ro hm.b))<|cQ (fun h3=>?_) (fun h3=>?_)
 ·rw[if_pos h3] at hE
  subst hE
  refine aj ?_
  intro w hw
  exact⟨(),trivial,rfl,hw.msub ms⟩
 rw[if_neg (fun h=>h h3)] at hE
 refine gI (gF ?_)
 refine eh (fun _:Unit=>(¬(10<m.I.length\/10<m.out.length))/\¬(dq m.I=true\/dq m.out=true)) (fun _=> [(0,.pointer (some ⟨gc,0,none⟩))]) (fun _=>am gc [.slice a.Af m.F.length a.cf,.slice a.Ab m.B.length a.cb,.slice a.Ai m.I.length a.ci,.slice a.Ao m.out.length a.co,.int .i64 m.S,.int .i64 m.T,.slice Ap fs.length cp] 190::H) ?_ ?_
 ·refine dG 49 (fun h4=>?_) (fun h4=>?_)
  ·have h4:=of_decide_eq_true h4
   rw[if_pos (.inl (by omega))] at hE
   subst hE
   refine aj ?_
   refine aU rfl<|aj ?_
   intro w hw
   exact⟨(),trivial,rfl,hw.msub ms⟩
  have h4:=of_decide_eq_false h4
  refine av (fun h5=>?_) (fun h5=>?_)
  ·rw[if_pos (.inr (by omega))] at hE
   subst hE
   refine aj ?_
   intro w hw
   exact⟨(),trivial,rfl,hw.msub ms⟩
  have h45:¬(10<m.I.length\/10<m.out.length):=by omega
  rw[if_neg h45] at hE
  refine aj ?_
  refine bX rfl Tryz.call183 (fun w hw=>Cq a.Ai a.ci m.I w (hw.ro hm.i))<|dG 65 (fun h6=>?_) (fun h6=>?_)
  ·rw[if_pos (.inl h6)] at hE
   subst hE
   refine aj ?_
   refine aU rfl<|aj ?_
   intro w hw
   exact⟨(),trivial,rfl,hw.msub ms⟩
  refine aj ?_
  refine bX rfl Tryz.call183 (fun w hw=>Cq a.Ao a.co m.out w (hw.ro hm.o))<|aj ?_
  refine bT rfl (fun h7=>?_) (fun h7=>?_)
  ·rw[if_pos (.inr h7)] at hE
   subst hE
   refine aj ?_
   intro w hw
   exact⟨(),trivial,rfl,hw.msub ms⟩
  have h67:¬(dq m.I=true\/dq m.out=true):=by rw[h6,h7];simp
  refine aj ?_
  refine bS () (⟨h45,h67⟩) (hh:=(fun _ h=>h.msub ms))
 rintro⟨⟩ ⟨h4,h5⟩
 rw[if_neg h4,if_neg h5] at hE
 refine aj ?_
 refine cT rfl Tryz.call184 (fun w hw=>D4 gc a m Ap cp fs hs hm hF hfit _ rfl w (hw.msub (.s fc .r))) (fun _ _=>cQ (fun h6=>?_) (fun h6=>?_))
 ·rw[if_pos h6] at hE
  subst hE
  refine aj ?_
  intro w hw
  exact⟨(),trivial,rfl,hw.msub ms⟩
 rw[if_neg (fun h=>h h6)] at hE
 refine cQ (fun h7=>?_) (fun h7=>?_)
 ·rw[if_pos h7] at hE
  subst hE
  refine aj ?_
  intro w hw
  exact⟨(),trivial,rfl,hw.msub ms⟩
 rw[if_neg (fun h=>h h7)] at hE
 obtain⟨_,hdn,hfn,_,hfr⟩:=qP.1 h6
 have hne:m.F.length≠0:=fun h=>by
  have:=hdn.1 (aY h)
  omega
 obtain⟨k,hk⟩:∃k,m.F.length=k+1:=⟨m.F.length - 1,by omega⟩
 have hkl:k<m.F.length:=by omega
 obtain⟨A1,c1,A2,c2,hl,hst,hI,hcell⟩:=hm.f.fr hkl
 have hx:=hfn _ (fE hkl)
 obtain⟨kf,hkf⟩:∃kf:Nat,(aN m.F k).func=kf:=⟨(aN m.F k).func.toNat,by omega⟩
 have hkfl:kf<fs.length:=by omega
 obtain⟨F1,d1,F2,d2,hfl,hfc,hfi,hfcell⟩:=hs.fn hkfl
 obtain⟨t,ht,_⟩:=hfr k hkl
 unfold ig ji at ht
 rw[if_pos hk.symm,hkf,bw] at ht
 obtain⟨hp0,hp1,_⟩:=(hF.e _ hkfl).at_ _ _ ht
 have hop:bB fs m=bx (aq fs kf).C (aN m.F k).pc.toNat:=by
  unfold bB
  rw[KP,hk,rc,hkf,bw]
 rw[hop] at hE
 rw[hkf] at hcell
 refine aj ?_
 refine bz [0,3,6,9,12,15,18,21,24,27,30,33,36,39,44,47] [15] rfl<|aj ?_
 refine cC (t:=95) (v':= .int .i64 (k:Int)) rfl (by rw[hk];congr 1;omega) ?_
 refine tE rfl (bg (k:=k) cD dI (.ro hm.f) hkl rfl rfl rfl) ?_
 refine tE rfl (eF (hcell _) rfl rfl Ra dI)<|aj ?_
 refine fun g1 _=>aj ?_
 refine bz [0,3,6,9,12,15,18,21,24,27,30,33,36,39,42,45,48,51,54,57,60,63,66,69,72] [] rfl<|aj ?_
 refine pV (t:=105) rfl (fun h8=>?_) (fun h8=>?_)
 ·have h8:=of_decide_eq_true h8
  rw[if_pos (.inl (by omega))] at hE
  subst hE
  refine aj ?_
  refine aU rfl<|aj ?_
  intro w hw
  exact⟨(),trivial,rfl,hw.msub ms⟩
 have h8:=of_decide_eq_false h8
 refine aj ?_
 refine tE rfl (bg (k:=kf) eC eK (.ro hs) (by omega) rfl rfl rfl)<|aj ?_
 refine tE rfl (bQ (fun w hw=>hfcell _ w hw 3 _ rfl) rfl rfl pB)<|aj ?_
 refine tE rfl (lO dW fM (.ro hfc) (by omega) rfl rfl rfl)<|aj ?_
 refine tE rfl (bQ (SF.opc (.ro hfc) (by omega)) rfl rfl be)<|cQ (fun h9=>?_) (fun h9=>?_)
 ·rw[if_pos (.inr h9)] at hE
  subst hE
  refine aj ?_
  intro w hw
  exact⟨(),trivial,rfl,hw.msub ms⟩
 have h9:(bx (aq fs kf).C (aN m.F k).pc.toNat).c=21:=h9
 rw[if_neg (fun h=>h.elim (fun h=>h8 (by omega)) (fun h=>h h9))] at hE
 subst hE
 refine aj ?_
 intro w hw
 exact⟨(),trivial,rfl,hw.msub ms⟩
end
theorem xC (Ap:Option Addr) (cp:Nat) (fs:List au) (a:MA) (m:az) (w:World) (hs:Sl w (.slice Ap fs.length cp) fs) (hm:dS w.heap.size w a m) (hF:gu fs) (hfit:jX m.F) :
  Calls Tryz.prog 74 #[.agg #[.slice Ap fs.length cp],.agg #[.slice a.Af m.F.length a.cf,.slice a.Ab m.B.length a.cb,.slice a.Ai m.I.length a.ci,.slice a.Ao m.out.length a.co,.int .i64 m.S,.int .i64 m.T]] w fun e w'=>e= .returned (.int .i64 (ls fs m))/\Below w.heap.size w w':=by
 refine enter Tryz.func74 rfl Tryz.ntmps74 rfl<|aj ?_
 refine fun g1 _=>aj ?_
 refine fun g2 _=>aj ?_
 refine fun g3 _=>aj ?_
 refine cT rfl Tryz.call131 (fun w hw=>C5 g3 a m Ap cp fs hs hm hF hfit _ rfl w (hw.msub (.s fc .r))) (fun _ _=>aj ?_)
 intro w hw
 exact⟨rfl,hw.below⟩
theorem kL (Ap:Option Addr) (cp:Nat) (fs:List au) (a:MA) (m:az) (w:World) (hs:Sl w (.slice Ap fs.length cp) fs) (hm:dS w.heap.size w a m) (hfit:jX m.F) :
  Calls Tryz.prog 45 #[.agg #[.slice Ap fs.length cp],.agg #[.slice a.Af m.F.length a.cf,.slice a.Ab m.B.length a.cb,.slice a.Ai m.I.length a.ci,.slice a.Ao m.out.length a.co,.int .i64 m.S,.int .i64 m.T]] w fun e w'=>e= .returned (.int .i64 (dF fs m))/\Below w.heap.size w w':=by
 obtain⟨E,hE⟩:∃E,dF fs m=E:=⟨_,rfl⟩
 rw[hE]
 unfold dF at hE
 refine enter Tryz.func45 rfl Tryz.ntmps45 rfl<|aj ?_
 refine fun g1 _=>aj ?_
 refine fun g2 _=>aj ?_
 refine bX rfl GR (fun w hw=>oI Ap cp fs w (hw.ro hs))<|cQ (fun h=>?_) (fun h=>?_)
 ·rw[if_pos h] at hE
  subst hE
  refine aj ?_
  intro w hw
  exact⟨rfl,hw.below⟩
 have h:fl fs=0:=h
 rw[if_neg (fun h'=>h' h)] at hE
 subst hE
 refine aj ?_
 refine bX rfl Tryz.call74 (fun w hw=>xC Ap cp fs a m w (hw.ro hs) (dS.ro hw hm) (sP h) hfit)<|aj ?_
 intro w hw
 exact⟨rfl,hw.below⟩
end
section
theorem tK {B:Nat} {w:World} {Ap:Option Addr} {cp:Nat} {fs:List au} (hs:bJ w B (.slice Ap fs.length cp) fs) (hF:gu fs) {m:az} (hR:dL fs m) (hst:¬(m.S=2\/m.S=3)):∃li x kf,Dl fs m li x kf:=by
 have hne:m.F≠[]:=fun e=>hst (.inl (hR.dn.1 e))
 obtain⟨li,x,e⟩:∃li x,m.F=li++ [x]:=by
  rcases fj m.F with h1 | ⟨l,z,h1⟩
  ·exact absurd h1 hne
  exact⟨l,z,by rw[h1];simp⟩
 obtain⟨hfn,hloc,t,he,hts⟩:=hR.top e
 obtain⟨kf,hkf⟩:∃kf:Nat,x.func=kf:=⟨x.func.toNat,by omega⟩
 rw[hkf,bw] at he hloc
 have hkl:kf<fs.length:=by omega
 obtain⟨hp0,hp1,ht8,_⟩:=(hF.e _ hkl).at_ _ _ he
 obtain⟨hok,_⟩:=jM hF.p hkl
 obtain⟨F1,d1,F2,d2,hfl,hfc,hfi,hfcell⟩:=hs.fn hkl
 have hn6:=hR.n6
 rw[e,ar,aP] at hn6
 refine⟨li,x,kf,e,hkf,hkl,⟨hp0,hp1⟩,Kq hF hkl (x:= {x with pc:=x.pc+1}) hkf he hts hloc.len,hR.bl,by rw[hts.len];omega,fun y hy=>?_,by have:=hR.ob;omega,by omega,(Cl hfc (by omega)).2,by have:=hok.n40;omega⟩
 obtain⟨i,hi,rfl⟩:=cg hy
 obtain⟨u,hu,_,hus⟩:=hR.fr i (by rw[e,ar];omega)
 have hfi2:aN m.F i=li[i]:=by
  rw[e,lV hi]
  unfold aN
  rw[an,ap hi]
  rfl
 rw[hfi2] at hus
 rw[hus.len]
 have hz:=hR.fn _ (fE (l:=m.F) (k:=i) (by rw[e,ar];omega))
 have hkz:(aN m.F i).func.toNat<fs.length:=by omega
 unfold ig ji at hu
 split at hu
 ·have:=((hF.e _ hkz).at_ _ _ hu).2.2.1
  omega
 split at hu
 ·cases hu
 split at hu
 ·cases hu
 cases h5:fy fs (aq fs (aN m.F i).func.toNat) (aN m.F i).pc with
 | none=>rw[h5] at hu;cases hu
 | some t2=>
  rw[h5] at hu
  have hu:(if (aq fs (aN m.F (i+1)).func.toNat).result≠0 then t2.dropLast else t2)=u:=eq hu
  have:=((hF.e _ hkz).at_ _ _ h5).2.2.1
  rw[<-hu]
  split
  ·rw[List.length_dropLast];omega
  omega
theorem tZ {fs:List au} (hF:gu fs):0<fs.length:=by
 have:=(iz hF.p).1
 omega
theorem wD {fs:List au} (hF:gu fs) {m:az} (hR:dL fs m) {i:Nat} (hi:i<m.F.length):(aN m.F i).K.length<=8/\(aN m.F i).L.length<=1000:=by
 obtain⟨u,hu,hul,hus⟩:=hR.fr i hi
 have hz:=hR.fn _ (fE hi)
 have hkz:(aN m.F i).func.toNat<fs.length:=by omega
 rw[hus.len,hul.len]
 have hn40:=((jM hF.p (tZ hF)).1.op 0 (jM hF.p (tZ hF)).2).par _ hkz |>.2
 refine⟨?_,by unfold ji;omega⟩
 unfold ig ji at hu
 split at hu
 ·have:=((hF.e _ hkz).at_ _ _ hu).2.2.1
  omega
 split at hu
 ·cases hu
 split at hu
 ·cases hu
 cases h5:fy fs (aq fs (aN m.F i).func.toNat) (aN m.F i).pc with
 | none=>rw[h5] at hu;cases hu
 | some t2=>
  rw[h5] at hu
  have hu:(if (aq fs (aN m.F (i+1)).func.toNat).result≠0 then t2.dropLast else t2)=u:=eq hu
  have:=((hF.e _ hkz).at_ _ _ h5).2.2.1
  rw[<-hu]
  split
  ·rw[List.length_dropLast];omega
  omega
theorem pM {fs:List au} (hF:gu fs) {m:az} (hR:dL fs m):uJ m:=by
 refine⟨⟨by have:=hR.n6;omega,fun x hx=>?_⟩,vN.of_check hR.bl,by have:=hR.ib;omega,by have:=hR.ob;omega⟩
 obtain⟨i,hi,rfl⟩:=cg hx
 have h:=wD hF hR hi
 have e:aN m.F i=m.F[i]:=by
  unfold aN
  rw[an,ap hi]
  rfl
 rw[e] at h
 omega
def mj (fs:List au):az:=⟨[⟨0,0,dg (aq fs 0).L,[]⟩],[],[],[],0,0⟩
def pS (fs:List au):az:=if fl fs=0 then mj fs else default
def lM (fs:List au) (m:az):az:=if dF fs m=0 then eX fs m else default
theorem sj {fs:List au} (h:fl fs=0):0<fs.length:=by
 have:=(iz (sP h).p).1
 omega
theorem Ku (Ap:Option Addr) (cp:Nat) (fs:List au) (w:World) (hs:Sl w (.slice Ap fs.length cp) fs) (h0:0<fs.length) (hl6:(aq fs 0).L.length<=1000) :
  Calls Tryz.prog 73 #[.agg #[.slice Ap fs.length cp]] w fun e w'=> ∃g:MA,True/\
   e= .returned (.agg #[.slice g.Af (mj fs).F.length g.cf,.slice g.Ab (mj fs).B.length g.cb,.slice g.Ai (mj fs).I.length g.ci,.slice g.Ao (mj fs).out.length g.co,.int .i64 (mj fs).S,.int .i64 (mj fs).T])/\
   Cw w.heap.size w [ak (.slice g.Af (mj fs).F.length g.cf) (mj fs).F,ak (.slice g.Ab (mj fs).B.length g.cb) (mj fs).B,ak (.slice g.Ai (mj fs).I.length g.ci) (mj fs).I,ak (.slice g.Ao (mj fs).out.length g.co) (mj fs).out] w':=by
 obtain⟨A1,c1,A2,c2,hl,hc,hi,hcell⟩:=hs.fn h0
 have hF:(dg (aq fs 0).L).length=(aq fs 0).L.length:=kM _
 refine enter Tryz.func73 rfl Tryz.ntmps73 rfl<|aj ?_
 refine fun g1 _=>aj ?_
 refine fun g2 _=>aj ?_
 refine cS (0) rfl ((.ro hs)) ?_
 refine iY rfl (hcell _) ?_
 refine oE (eR rfl rfl rfl Tryz.call130 (fun w hw=>Ad (aq fs 0).params (aq fs 0).result A1 A2 c1 c2 _ (aq fs 0).L w (hw.ro hl) (by omega))) (fun⟨A3,c3⟩ _=>?_)
 refine aO ?_
 refine fun g3 _=>aj ?_
 intro w hw
 refine⟨⟨some ⟨g3,0,none⟩,1,none,0,none,0,none,0⟩,trivial,rfl,?_⟩
 have h1:=rn (H:= []) (xs:=(mj fs).F) (g:=g3) (oU.cons (Hel:= [ak (.slice A3 (dg (aq fs 0).L).length c3) (dg (aq fs 0).L),ak (.slice none 0 0) ([]:List aC)]) (cs:= [_,_,_,_]) (xS (x:=⟨0,0,dg (aq fs 0).L,[]⟩) (by show aH 0/\aH 0;decide)) oU.nil_) rfl (by show 1<=_;decide) ((Cw.nilO aC hw).msub (T:= [am g3 _ _,ak (.slice A3 (dg (aq fs 0).L).length c3) (dg (aq fs 0).L),ak (.slice none 0 0) ([]:List aC)]) ms)
 exact(Cw.nilO (List Int) (Cw.nilO Int (Cw.nilO Int h1))).msub ms
theorem jS {B:Nat} {w0 w:World} {H:List aJ} (h:Cw B w0 H w):Cw B w0 (ak (α:=aG) (.slice none 0 0) []::ak (α:=List Int) (.slice none 0 0) []::ak (α:=Int) (.slice none 0 0) []::ak (α:=Int) (.slice none 0 0) []::H) w:=Cw.nilO aG (Cw.nilO (List Int) (Cw.nilO Int (Cw.nilO Int h)))
theorem sw (Ap:Option Addr) (cp:Nat) (fs:List au) (m:az) (hmm:pS fs=m) (w:World) (hs:Sl w (.slice Ap fs.length cp) fs) :
  Calls Tryz.prog 54 #[.agg #[.slice Ap fs.length cp]] w fun e w'=> ∃g:MA,True/\
   e= .returned (.tuple #[.agg #[.slice g.Af m.F.length g.cf,.slice g.Ab m.B.length g.cb,.slice g.Ai m.I.length g.ci,.slice g.Ao m.out.length g.co,.int .i64 m.S,.int .i64 m.T],.int .i64 (fl fs)])/\Cw w.heap.size w [ak (.slice g.Af m.F.length g.cf) m.F,ak (.slice g.Ab m.B.length g.cb) m.B,ak (.slice g.Ai m.I.length g.ci) m.I,ak (.slice g.Ao m.out.length g.co) m.out] w':=by
 refine enter Tryz.func54 rfl Tryz.ntmps54 rfl<|aj ?_
 refine fun g1 _=>aj ?_
 refine fun g2 _=>aj ?_
 refine bX rfl GR (fun w hw=>oI Ap cp fs w (hw.ro hs))<|aj ?_
 unfold pS at hmm
 refine jq rfl (fun h=>?_) (fun h=>?_)
 ·rw[if_neg h] at hmm
  subst hmm
  refine aj ?_
  intro w hw
  exact⟨⟨none,0,none,0,none,0,none,0⟩,trivial,rfl,(jS hw).msub ms⟩
 have h:fl fs=0:=h
 rw[if_pos h] at hmm
 subst hmm
 refine aj ?_
 refine eb rfl Tryz.call73 (fun w hw=>Ku Ap cp fs w (hw.ro hs) (sj h) (by have:=((jM (sP h).p (sj h)).1.op 0 (jM (sP h).p (sj h)).2).par 0 (sj h) |>.2;omega)) (fun g _=>aj ?_)
 intro w hw
 exact⟨g,trivial,by rw[h],hw.msub ms⟩
theorem uf (Ap:Option Addr) (cp:Nat) (fs:List au) (a:MA) (m m2:az) (hm2:lM fs m=m2) (w:World) (hs:Sl w (.slice Ap fs.length cp) fs) (hm:dS w.heap.size w a m) (hfit:jX m.F) :
  Calls Tryz.prog 52 #[.agg #[.slice Ap fs.length cp],.agg #[.slice a.Af m.F.length a.cf,.slice a.Ab m.B.length a.cb,.slice a.Ai m.I.length a.ci,.slice a.Ao m.out.length a.co,.int .i64 m.S,.int .i64 m.T]] w fun e w'=> ∃g:MA,True/\
   e= .returned (.tuple #[.agg #[.slice g.Af m2.F.length g.cf,.slice g.Ab m2.B.length g.cb,.slice g.Ai m2.I.length g.ci,.slice g.Ao m2.out.length g.co,.int .i64 m2.S,.int .i64 m2.T],.int .i64 (dF fs m)])/\Cw w.heap.size w [ak (.slice g.Af m2.F.length g.cf) m2.F,ak (.slice g.Ab m2.B.length g.cb) m2.B,ak (.slice g.Ai m2.I.length g.ci) m2.I,ak (.slice g.Ao m2.out.length g.co) m2.out] w':=by
 refine enter Tryz.func52 rfl Tryz.ntmps52 rfl<|aj ?_
 refine fun g1 _=>aj ?_
 refine fun g2 _=>aj ?_
 refine fun g3 _=>aj ?_
 refine bX rfl vm (fun w hw=>kL Ap cp fs a m w (hw.ro hs) (dS.ro hw hm) hfit)<|aj ?_
 unfold lM at hm2
 refine jq rfl (fun h=>?_) (fun h=>?_)
 ·rw[if_neg h] at hm2
  subst hm2
  refine aj ?_
  intro w hw
  exact⟨⟨none,0,none,0,none,0,none,0⟩,trivial,rfl,(jS hw).msub ms⟩
 have h:dF fs m=0:=h
 rw[if_pos h] at hm2
 have h1:fl fs=0:=by
  unfold dF at h
  split at h
  ·rename_i h2;exact absurd h h2
  rename_i h2;exact iI.1 h2
 have hR:dL fs m:=zE.1 (by unfold dF at h;rwa [if_neg (fun h2=>h2 h1)] at h)
 refine aj ?_
 refine eb rfl Tryz.call114 (fun w hw=>EF Ap cp fs a m m2 hm2 w (hw.ro hs) (dS.ro hw hm) (pM (sP h1) hR) (fun hst=>tK hs (sP h1) hR hst)) (fun g _=>aj ?_)
 intro w hw
 exact⟨g,trivial,by rw[h],hw.msub ms⟩
end
section
theorem rZ {α:Type} :∀(l:List α) (k:Nat) (d:α),l.set k (l.getD k d)=l
 | [],_,_=>rfl
 | _::_,0,_=>rfl
 | x::l,k+1,d=>congrArg (x:: ·) (rZ l k d)
def LB (a:MA) (m:az):lq:=⟨.slice a.Af m.F.length a.cf,.slice a.Ab m.B.length a.cb,.slice a.Ai m.I.length a.ci,.slice a.Ao m.out.length a.co,m.S,m.T⟩
section
variable {P:Program} {n:NF} {B:Nat} {w0:World} {H H':List aJ} {Q:Exit->Act->World->Prop} {env:cy} {x:Code} {ops:Array Oper} {os:List Oper}
abbrev RM (a:MA) (m:az) (H:List aJ):List aJ:=ak (.slice a.Af m.F.length a.cf) m.F::ak (.slice a.Ab m.B.length a.cb) m.B::ak (.slice a.Ai m.I.length a.ci) m.I::ak (.slice a.Ao m.out.length a.co) m.out::H
structure QF (B:Nat) (w0:World) (X:aJ) (L:List az) (k:Nat) (hs:List lq) (a:MA):Prop where
 len:hs.length=L.length
 hd:hs.getD k default=LB a (lg L k)
 i64:aH (lg L k).S/\aH (lg L k).T
 back:∀(v:Value) (g:MA) (m:az) H w,Cw B w0 (ak v (hs.set k (LB g m))::RM g m (X::H)) w->Cw B w0 (ak v (L.set k m)::H) w
theorem QF.same {X:aJ} {L:List az} {k:Nat} {hs:List lq} {a:MA} (h:QF B w0 X L k hs a) (_:k<L.length) {v:Value} {w:World} (hw:Cw B w0 (ak v hs::RM a (lg L k) (X::H)) w):Cw B w0 (ak v L::H) w:=by
 have e1:hs.set k (LB a (lg L k))=hs:=by
  rw[<-h.hd]
  exact rZ hs k default
 have e2:L.set k (lg L k)=L:=rZ L k default
 have:=h.back v a (lg L k) H w (by rw[e1];exact hw)
 rwa [e2] at this
structure RN (B:Nat) (w0:World) (X:aJ) (L:List az) (hs:List lq):Prop where
 el:∀i,i<L.length->∃a:MA,hs.getD i default=LB a (lg L i)/\(aH (lg L i).S/\aH (lg L i).T)/\
  ∀H H',cN H X H'->SF B w0 H a.Af (lg L i).F.length a.cf (lg L i).F/\SF B w0 H a.Ab (lg L i).B.length a.cb (lg L i).B/\SF B w0 H a.Ai (lg L i).I.length a.ci (lg L i).I/\SF B w0 H a.Ao (lg L i).out.length a.co (lg L i).out
 len:hs.length=L.length
 back:∀H H' H'' v w,cN H (ak v hs) H'->cN H' X H''->Cw B w0 H w->Cw B w0 (ak v L::H'') w
theorem SF.min {a:MA} {m:az} {w:World} (h:SF B w0 H a.Af m.F.length a.cf m.F/\SF B w0 H a.Ab m.B.length a.cb m.B/\SF B w0 H a.Ai m.I.length a.ci m.I/\SF B w0 H a.Ao m.out.length a.co m.out) (hi:aH m.S/\aH m.T) (hw:Cw B w0 H w):dS w.heap.size w a m:=
 ⟨SF.at_ h.1 hw,SF.at_ h.2.1 hw,SF.at_ h.2.2.1 hw,SF.at_ h.2.2.2 hw,hi.1,hi.2⟩
end
end
section
instance:gC (List Int) gO where
 parts h xs:= [ak h.v xs]
 ok _ _:=True
 kk:=rfl
 tt:=rfl
 opn {w F cs xs} h:=by
  obtain⟨u,hcs,ho⟩:=h
  exact⟨⟨u⟩,⟨hcs,pZ ho⟩,trivial,F,fun _=>False,ho,fun _ h=>h,fun _ _ h=>h,fun b=>by simp⟩
 cls {w F h xs} _ _ hH:=xR (u:=h.v) (ys:=xs) w F hH
section
variable {α η:Type} [Ow α] [cF η] [gC α η] {P:Program} {n:NF} {B:Nat} {w0:World} {Q:Exit->Act->World->Prop} {env:cy} {H H':List aJ} {x:Code} {ops:Array Oper} {os:List Oper}
structure LJ (B:Nat) (w0:World) (X:aJ) (L:List α) (k:Nat) (hs:List η) (q:η) (y:α):Prop where
 len:hs.length=L.length
 hd:hs[k]? =some q
 at_:L[k]? =some y
 wf:cF.wf q
 ok:gC.ok q y
 back:∀(v:Value) (q':η) (y':α) H w,gC.ok q' y'->Cw B w0 (ak v (hs.set k q')::(gC.parts q' y'++X::H)) w->Cw B w0 (ak v (L.set k y')::H) w
theorem Ci {β:Type} (a:β) (A:List β) (x:β) (H:List β):(A++x::a::H).Perm (a::(A++x::H)):=by
 have:=(List.Perm.append_left A (List.Perm.swap a x H)).trans (List.perm_middle (a:=a) (l₁:=A) (l₂:=x::H))
 exact this
theorem PH {v:Value} {L:List α} {k:Nat} (hk:k<L.length) (hp:cN H (ak v L) H') {w:World} (hw:Cw B w0 H w) :
  ∃(X:aJ) (hs:List η) (q:η) (y:α),LJ B w0 X L k hs q y/\Cw B w0 (ak v hs::(gC.parts q y++X::H')) w:=by
 obtain⟨l,hl,hok,h3⟩:=Ck (hw.perm hp)
 have hkl:k<l.length:=by rw[<-aQ (f:=Prod.snd),hl];exact hk
 have h5:=BW hkl (h3.perm (List.Perm.swap ..))
 have hwf:cF.wf l[k].1:=oL h3 .a (qt (da hkl))
 refine⟨cM (l.eraseIdx k),l.map Prod.fst,l[k].1,l[k].2,⟨by rw[<-hl,aQ,aQ],by rw[dc,ap hkl];rfl,by rw[<-hl,dc,ap hkl];rfl,hwf,hok _ (da hkl),fun u q' y' H1 w1 hq h=>?_⟩,h5.perm (Ci _ _ _ _)⟩
 have h7:=Ew (q:=(q',y')) hkl (h.perm (Ci _ _ _ _).symm)
 have e1:(l.map Prod.fst).set k q'=(l.set k (q',y')).map Prod.fst:=by rw[List.map_set]
 rw[e1] at h7
 have h8:=rJ (hok.set (q:=(q',y')) hq) (h7.perm (List.Perm.swap ..))
 rw[List.map_set,hl] at h8
 exact h8
theorem getD_some {β:Type} {l:List β} {k:Nat} {q:β} (h:l[k]? =some q) (d:β):l.getD k d=q:=by rw[an,h];rfl
theorem LJ.put {X:aJ} {L:List α} {k:Nat} {hs:List η} {q:η} {y:α} (h:LJ B w0 X L k hs q y) (v:Value) (y':α) (H:List aJ) (w:World) (ok:gC.ok q y') (hw:Cw B w0 (ak v hs::(gC.parts q y'++X::H)) w):Cw B w0 (ak v (L.set k y')::H) w:=
 h.back v q y' H w ok (by
  have:=rZ hs k q
  rw[getD_some h.hd q] at this
  rw[this]
  exact hw)
theorem IS {v:Value} {L:List α} {k:Nat} (hk:k<L.length) (hp:cN H (ak v L) H') (h:∀(X:aJ) (hs:List η) (q:η) (y:α),LJ B w0 X L k hs q y->CW P n B w0 x Q env (ak v hs::(gC.parts q y++X::H'))):CW P n B w0 x Q env H:=fun a w hf hw=>by
 obtain⟨X,hs,q,y,h1,h2⟩:=PH hk hp hw
 exact h X hs q y h1 a w hf h2
theorem vc {A:Type} [Ow A] {v:Value} {L:List A} (hp:cN H (ak v L) H') (h:∀(D:Option Addr) (c:Nat),v= .slice D L.length c->CW P n B w0 x Q env H):CW P n B w0 x Q env H:=fun a w hf hw=>by
 obtain⟨F,h1,_⟩:=hw.rd hp
 obtain⟨D,c,e,_⟩:=(cL.sl h1).form
 exact h D c e a w hf hw
theorem pN {A:Type} [Ow A] {D:Option Addr} {m c:Nat} {L:List A} (hp:cN H (ak (.slice D m c) L) H') (h:m<=140737488355328->CW P n B w0 x Q env H):CW P n B w0 x Q env H:=fun a w hf hw=>by
 obtain⟨F,h1,_⟩:=hw.rd hp
 have e:L.length=m:=bJ.len_eq (cL.sl h1)
 subst e
 exact h (bE (cL.sl h1)) a w hf hw
end
theorem lN {B:Nat} {w0:World} {H:List aJ} (A:Option Addr) (c n:Nat) (xs:List Int) (hn:xs.length=n) (w:World) (hw:Cw B w0 (ak (.slice A n c) xs::H) w) :
  Calls Tryz.prog 43 #[.slice A n c] w fun e w'=> ∃ys:List Int,ys.length=n/\e= .returned (.tuple #[])/\Cw B w0 (ak (.slice A n c) ys::H) w':=by
 refine bG Tryz.func43 rfl Tryz.ntmps43 rfl hw ?_
 refine pN fc fun bn=>?_
 refine aj ?_
 refine dA (fun g:Nat×List Int=>g.1<=n/\g.2.length=n) (fun g=>n - g.1) (fun g=> [(0,.slice A n c),(2,.int .i64 (g.1:Int))]) (fun g=>ak (.slice A n c) g.2::H) (0,xs) (⟨aX _,hn⟩) ?_
 rintro⟨k,ys⟩ hk
 try dsimp only
 obtain⟨hk,hy⟩:k<=n/\ys.length=n:=hk
 refine av (fun hlt=>?_) (fun hlt=>?_)
 ·have hkn:k<n:=by omega
  refine aj ?_
  refine cS (k) rfl ((SF.own hy fc)) ?_
  refine oE (H6 (k:=k) (z:= -7) rfl fc hkn (by decide) bj rfl rfl rfl) (fun _ _=>aj ?_)
  refine cU (k+1,ys.set k (-7)) (⟨by show k+1<=_;omega,by show (ys.set k (-7)).length=n;rw[ea];exact hy⟩) (by show _ - _<_ - _;omega)
 refine aj ?_
 intro w hw
 exact⟨ys,hy,rfl,hw.msub ms⟩
end
section
theorem nq {B:Nat} {w0:World} {H:List aJ} (a:MA) (m:az) (w:World) (hw:Cw B w0 (RM a m H) w) :
  Calls Tryz.prog 42 #[.agg #[.slice a.Af m.F.length a.cf,.slice a.Ab m.B.length a.cb,.slice a.Ai m.I.length a.ci,.slice a.Ao m.out.length a.co,.int .i64 m.S,.int .i64 m.T]] w fun e w'=> ∃_:Unit,True/\e= .returned (.tuple #[])/\Cw B w0 H w':=by
 refine bG Tryz.func42 rfl Tryz.ntmps42 rfl hw ?_
 refine pN (D:=a.Af) (m:=m.F.length) (c:=a.cf) (L:=m.F) fc fun bf=>?_
 refine pN (D:=a.Ab) (m:=m.B.length) (c:=a.cb) (L:=m.B) fc fun bb=>?_
 refine aj ?_
 refine fun g1 _=>aj ?_
 refine dA (fun g:Nat×List (List Int)=>g.1<=m.B.length/\g.2.length=m.B.length) (fun g=>m.B.length - g.1) (fun g=> [(1,.pointer (some ⟨g1,0,none⟩)),(2,.int .i64 (g.1:Int))]) (fun g=>am g1 [.slice a.Af m.F.length a.cf,.slice a.Ab m.B.length a.cb,.slice a.Ai m.I.length a.ci,.slice a.Ao m.out.length a.co,.int .i64 m.S,.int .i64 m.T] 43::ak (.slice a.Ab m.B.length a.cb) g.2::ak (.slice a.Af m.F.length a.cf) m.F::ak (.slice a.Ai m.I.length a.ci) m.I::ak (.slice a.Ao m.out.length a.co) m.out::H) (0,m.B) (⟨aX _,rfl⟩) ?_
 rintro⟨k,L⟩ hk
 try dsimp only
 obtain⟨hk,hL⟩:k<=m.B.length/\L.length=m.B.length:=hk
 refine av (fun hlt=>?_) (fun hlt=>?_)
 ·have hkn:k<m.B.length:=by omega
  refine IS (v:= .slice a.Ab m.B.length a.cb) (L:=L) (k:=k) (by omega) fc fun X hs q y hA=>?_
  obtain⟨u⟩:=q
  refine dK (fun w (h:Cw _ _ (ak (.slice a.Ab m.B.length a.cb) hs::ak u y::X::_) w)=>h) ?_
  refine vc (v:=u) (L:=y) fc fun D d e=>?_
  subst e
  have hhd:=hA.hd
  have hhl:hs.length=m.B.length:=hA.len.trans hL
  refine aj ?_
  refine cS (k) rfl ((SF.own (xs:=hs) hhl fc)) ?_
  refine eH rfl (fun w hw=>by have:=SF.hdr (SF.own (xs:=hs) hhl fc) hkn w hw;rw[getD_some hhd] at this;exact this) ?_
  refine cT rfl AM (fun w hw=>lN D d y.length y rfl w (hw.msub (.s fc .r))) (fun ys hys=>aj ?_)
  refine cU (k+1,L.set k ys) (⟨by show k+1<=_;omega,by show (L.set k ys).length=_;rw[ea];exact hL⟩) (by show _ - _<_ - _;omega) (hh:=(fun w h=>(hA.put (.slice a.Ab m.B.length a.cb) ys _ w trivial (h.msub (.s fc (.s fc (.s fc .r))))).msub ms))
 refine aj ?_
 refine cT rfl AM (fun w hw=>lN a.Ai a.ci m.I.length m.I rfl w (hw.msub (.s fc .r))) (fun yi hyi=>aj ?_)
 refine cT rfl AM (fun w hw=>lN a.Ao a.co m.out.length m.out rfl w (hw.msub (.s fc .r))) (fun yo hyo=>aj ?_)
 refine dA (fun g:Nat×List aG=>g.1<=m.F.length/\g.2.length=m.F.length) (fun g=>m.F.length - g.1) (fun g=> [(1,.pointer (some ⟨g1,0,none⟩)),(3,.int .i64 (g.1:Int))]) (fun g=>am g1 [.slice a.Af m.F.length a.cf,.slice a.Ab m.B.length a.cb,.slice a.Ai m.I.length a.ci,.slice a.Ao m.out.length a.co,.int .i64 m.S,.int .i64 m.T] 43::ak (.slice a.Af m.F.length a.cf) g.2::H) (0,m.F) (⟨aX _,rfl⟩) ?_
 rintro⟨j,M⟩ hj
 try dsimp only
 obtain⟨hj,hM⟩:j<=m.F.length/\M.length=m.F.length:=hj
 refine av (fun hlt2=>?_) (fun hlt2=>?_)
 ·have hjn:j<m.F.length:=by omega
  refine IS (v:= .slice a.Af m.F.length a.cf) (L:=M) (k:=j) (by omega) fc fun X hs q y hA=>?_
  obtain⟨fu,pc,lv,sv⟩:=q
  refine dK (fun w (h:Cw _ _ (ak (.slice a.Af m.F.length a.cf) hs::ak lv y.L::ak sv y.K::X::_) w)=>h) ?_
  refine vc (v:=lv) (L:=y.L) fc fun A1 c1 e=>?_
  subst e
  refine vc (v:=sv) (L:=y.K) fc fun A2 c2 e=>?_
  subst e
  refine pN (D:=A1) (m:=y.L.length) (c:=c1) (L:=y.L) fc fun b1=>?_
  refine pN (D:=A2) (m:=y.K.length) (c:=c2) (L:=y.K) fc fun b2=>?_
  have hhd:=hA.hd
  have hhl:hs.length=m.F.length:=hA.len.trans hM
  have hwf:aB.wf _:=hA.wf
  refine aj ?_
  refine dA (fun g:Nat×List aC=>g.1<=y.L.length/\g.2.length=y.L.length) (fun g=>y.L.length - g.1) (fun g=> [(1,.pointer (some ⟨g1,0,none⟩)),(3,.int .i64 (j:Int)),(4,.int .i64 (g.1:Int))]) (fun g=>am g1 [.slice a.Af m.F.length a.cf,.slice a.Ab m.B.length a.cb,.slice a.Ai m.I.length a.ci,.slice a.Ao m.out.length a.co,.int .i64 m.S,.int .i64 m.T] 43::ak (.slice a.Af m.F.length a.cf) hs::ak (.slice A1 y.L.length c1) g.2::ak (.slice A2 y.K.length c2) y.K::X::H) (0,y.L) (⟨aX _,rfl⟩) ?_
  rintro⟨i,xs⟩ hi
  try dsimp only
  obtain⟨hi,hx⟩:i<=y.L.length/\xs.length=y.L.length:=hi
  refine aj ?_
  refine cS (j) rfl ((SF.own (xs:=hs) hhl fc))<|aj ?_
  refine eH rfl (fun w hw=>SF.cell (SF.own (xs:=hs) hhl fc) hjn default (j:=2) (by rw[getD_some hhd];rfl) w hw)<|av (fun hlt3=>?_) (fun hlt3=>?_)
  ·have hin:i<y.L.length:=by omega
   refine aj ?_
   refine cS (j) rfl ((SF.own (xs:=hs) hhl fc))<|aj ?_
   refine eH rfl (fun w hw=>SF.cell (SF.own (xs:=hs) hhl fc) hjn default (j:=2) (by rw[getD_some hhd];rfl) w hw)<|aj ?_
   refine cS (i) rfl ((SF.own (xs:=xs) hx fc)) ?_
   refine ay ?_
   refine oE (ry (α:=aC) (A:=A1) (c:=c1) (m:=y.L.length) (f:=1) (us:= [.int .i64 (-7)]) ⟨(xs.getD i default).ref, -7⟩ default rfl fc hin (by show aH (-7);decide) bj rfl rfl rfl rfl rfl rfl rfl rfl) (fun _ _=>aj ?_)
   refine cU (i+1,xs.set i ⟨(xs.getD i default).ref, -7⟩) (⟨by show i+1<=_;omega,by show (xs.set i _).length=_;rw[ea];exact hx⟩) (by show _ - _<_ - _;omega)
  refine aj ?_
  refine dA (fun g:Nat×List aC=>g.1<=y.K.length/\g.2.length=y.K.length) (fun g=>y.K.length - g.1) (fun g=> [(1,.pointer (some ⟨g1,0,none⟩)),(3,.int .i64 (j:Int)),(5,.int .i64 (g.1:Int))]) (fun g=>am g1 [.slice a.Af m.F.length a.cf,.slice a.Ab m.B.length a.cb,.slice a.Ai m.I.length a.ci,.slice a.Ao m.out.length a.co,.int .i64 m.S,.int .i64 m.T] 43::ak (.slice a.Af m.F.length a.cf) hs::ak (.slice A1 y.L.length c1) xs::ak (.slice A2 y.K.length c2) g.2::X::H) (0,y.K) (⟨aX _,rfl⟩) ?_
  rintro⟨i2,zs⟩ hi2
  try dsimp only
  obtain⟨hi2,hz⟩:i2<=y.K.length/\zs.length=y.K.length:=hi2
  refine aj ?_
  refine cS (j) rfl ((SF.own (xs:=hs) hhl fc))<|aj ?_
  refine eH rfl (fun w hw=>SF.cell (SF.own (xs:=hs) hhl fc) hjn default (j:=3) (by rw[getD_some hhd];rfl) w hw)<|av (fun hlt4=>?_) (fun hlt4=>?_)
  ·have hin2:i2<y.K.length:=by omega
   refine aj ?_
   refine cS (j) rfl ((SF.own (xs:=hs) hhl fc))<|aj ?_
   refine eH rfl (fun w hw=>SF.cell (SF.own (xs:=hs) hhl fc) hjn default (j:=3) (by rw[getD_some hhd];rfl) w hw)<|aj ?_
   refine cS (i2) rfl ((SF.own (xs:=zs) hz fc)) ?_
   refine ay ?_
   refine oE (ry (α:=aC) (A:=A2) (c:=c2) (m:=y.K.length) (f:=1) (us:= [.int .i64 (-7)]) ⟨(zs.getD i2 default).ref, -7⟩ default rfl fc hin2 (by show aH (-7);decide) bj rfl rfl rfl rfl rfl rfl rfl rfl) (fun _ _=>aj ?_)
   refine cU (i2+1,zs.set i2 ⟨(zs.getD i2 default).ref, -7⟩) (⟨by show i2+1<=_;omega,by show (zs.set i2 _).length=_;rw[ea];exact hz⟩) (by show _ - _<_ - _;omega)
  refine aj ?_
  refine cS (j) rfl ((SF.own (xs:=hs) hhl fc)) ?_
  refine ay ?_
  refine oE (ry (α:=aB) (A:=a.Af) (c:=a.cf) (m:=m.F.length) (f:=1) (us:= [.int .i64 (-7)]) ⟨fu, -7,.slice A1 y.L.length c1,.slice A2 y.K.length c2⟩ default rfl fc hjn ⟨⟨hwf.1.1,by show aH (-7);decide⟩,hwf.2⟩ bj rfl rfl rfl rfl rfl rfl (by rw[getD_some hhd];rfl) rfl) (fun _ _=>aj ?_)
  have hl2:xs.length=y.L.length:=hx
  have hl3:zs.length=y.K.length:=hz
  refine cU (j+1,M.set j ⟨fu, -7,xs,zs⟩) (⟨by show j+1<=_;omega,by show (M.set j _).length=_;rw[ea];exact hM⟩) (by show _ - _<_ - _;omega) (hh:=(fun w h=>(hA.back (.slice a.Af m.F.length a.cf) ⟨fu, -7,.slice A1 y.L.length c1,.slice A2 y.K.length c2⟩ ⟨fu, -7,xs,zs⟩ _ w ⟨rfl,rfl⟩ (h.msub (.s fc (.s fc (.s fc (.s fc .r)))))).msub ms))
 refine aj ?_
 intro w hw
 exact⟨(),trivial,rfl,hw.msub ms⟩
end
section
section
variable {P:Program} {n:NF} {B:Nat} {w0:World} {Q:Exit->Act->World->Prop} {env:cy} {H H':List aJ} {x:Code}
theorem M2 {L:List (Value×List Int)} {j:Nat} (hj:j<L.length) {v:Value} {ys:List Int} (e:L[j]=(v,ys)) (z:List Int) (v2:Value) (zs:List Int) (h:iH L v2 zs):∃zs',iH (L.set j (v,z)) v2 zs':=by
 rcases h with ⟨h1,_⟩ | h
 ·exact⟨[],.inl ⟨h1,rfl⟩⟩
 obtain⟨i,hi,e2⟩:=cg h
 by_cases hij:i=j
 ·subst hij
  rw[e] at e2
  injection e2 with e3 _
  subst e3
  exact⟨z,.inr (eJ (i:=i) (by rw[List.getElem?_set_self hi]))⟩
 exact⟨zs,.inr (eJ (i:=i) (by rw[List.getElem?_set_ne (fun h=>hij h.symm),ap hi,e2]))⟩
theorem NH {v:Value} {ys:List Int} {L:List (Value×List Int)} (hi:iH L v ys) (hp:cN H (fa L) H')
  (h:∀(X:aJ) (clo:List Int->List (Value×List Int)),(∀z v2 zs,iH L v2 zs->∃zs',iH (clo z) v2 zs')->(∀z H w,Cw B w0 (ak v z::X::H) w->Cw B w0 (fa (clo z)::H) w)->CW P n B w0 x Q env (ak v ys::X::H')):CW P n B w0 x Q env H:=by
 rcases hi with ⟨rfl,rfl⟩ | hi
 ·exact fun a w hf hw=>h (fa L) (fun _=>L) (fun _ _ zs h=>⟨zs,h⟩) (fun z H w hw=>hw.msub (.d .r)) a w hf (Cw.nilO Int (hw.perm hp))
 obtain⟨j,hj,e⟩:=cg hi
 intro a w hf hw
 refine h (aJ.pack ((L.eraseIdx j).map mI)) (fun z=>L.set j (v,z)) (fun z v2 zs h=>M2 hj e z v2 zs h) (fun z H w hw=>?_) a w hf ?_
 ·have h1:Cw B w0 ((L.eraseIdx j).map mI++ak v z::H) w:=Cw.unpack (hw.perm (List.Perm.swap ..))
  have h2:Cw B w0 ((L.set j (v,z)).map mI++H) w:=h1.perm (List.perm_middle.trans (List.Perm.append_right H ((wk hj (v,z)).map mI).symm))
  exact Cw.pack h2
 have h1:Cw B w0 (L.map mI++H') w:=Cw.unpack (show Cw B w0 (aJ.pack (L.map mI)::H') w from hw.perm hp)
 have h2:Cw B w0 ((L.eraseIdx j).map mI++mI L[j]::H') w:=h1.perm ((List.Perm.append_right H' ((yS hj).map mI)).trans List.perm_middle.symm)
 have h3:=(Cw.pack h2).perm (List.Perm.swap ..)
 rw[e] at h3
 exact h3
end
theorem jW.has {es:List fJ} {L:List (Value×List Int)} {xs:List im} (h:jW es L xs) (i:Nat) (hi:i<es.length):∃ys,iH L es[i].v ys:=⟨_,(h.el i hi (by have:=h.len;omega)).2⟩
end
section
theorem NX {r:Bool} {n t:Int} (h:1<=t/\t<=3):fL ⟨r,n⟩ t=if t=1 then !r else (r && (decide (t=2) || decide (n=0))):=by
 unfold fL
 rcases(show t=1\/t=2\/t=3 by omega) with rfl | rfl | rfl <;> cases r <;> simp
theorem zC (v:aC) (t:Int) (ht:1<=t/\t<=3) (w:World):Calls Tryz.prog 198 #[.agg #[.bool v.ref,.int .i64 v.n],.int .i64 t] w fun e w'=>e= .returned (.bool (fL v t))/\Below w.heap.size w w':=by
 obtain⟨r,n⟩:=v
 have h2:=NX (r:=r) (n:=n) ht
 refine enter Tryz.func198 rfl Tryz.ntmps198 rfl<|aj ?_
 refine fun g1 _=>av (fun h1=>?_) (fun h1=>?_)
 ·have h1:t=1:=h1
  rw[if_pos h1] at h2
  refine aj ?_
  intro w hw
  exact⟨aS h2.symm,hw.below⟩
 have h1:¬t=1:=h1
 rw[if_neg h1] at h2
 refine gI (gF ?_)
 refine cc<|bO<|ay ?_
 refine dT (cE fc AL rfl rfl (by rfl)) rfl rfl ?_
 refine ay ?_
 cases r with
 | false=>
  refine bh (t:=12) (v':= .bool false) rfl (rfl)<|aj ?_
  intro w hw
  exact⟨aS (by rw[h2];rfl),hw.below⟩
 | true=>
  refine bh (t:=12) (v':= .bool true) rfl (rfl)<|dG 15 (fun q=>?_) (fun q=>?_)
  ·have q:t=2:=of_decide_eq_true q
   refine aj ?_
   intro w hw
   exact⟨aS (by rw[h2];simp[q]),hw.below⟩
  have q:¬t=2:=of_decide_eq_false q
  refine aj ?_
  intro w hw
  exact⟨aS (by rw[h2];simp[q]),hw.below⟩
theorem FQ (Ap:Option Addr) (cp:Nat) (fs:List au) (k:Nat) (pc:Int) (q:Option (List Int)) (hq:fy fs (aq fs k) pc=q) (w:World) (hs:Sl w (.slice Ap fs.length cp) fs) (hk:k<fs.length) (hok:mm fs (aq fs k)) (hty:qr fs (aq fs k)) (hn0:0<(aq fs k).C.length) :
  Calls Tryz.prog 199 #[.agg #[.slice Ap fs.length cp],.int .i64 (k:Int),.int .i64 pc] w fun e w'=> ∃g:Option Addr×Nat,True/\e= .returned (.tuple #[.slice g.1 (q.getD []).length g.2,.bool q.isSome])/\
   Cw w.heap.size w [lG (.slice g.1 (q.getD []).length g.2) (q.getD [])] w':=by
 refine enter Tryz.func199 rfl Tryz.ntmps199 rfl<|aj ?_
 refine fun g1 _=>aj ?_
 refine eb rfl Tryz.call139 (fun w hw=>tY Ap cp fs k w (hw.ro hs) hk hok hty hn0) (fun⟨⟨A1,c1⟩,es,L⟩ hre=>?_)
 refine aO ?_
 have hre:jW es L (bZ fs (aq fs k)).1:=hre
 have hl:=hre.len
 refine dY (p:=es.length<=140737488355328) (fun w hw=>bE (SF.at_ (SF.own (α:=fJ) (xs:=es) rfl fc) hw)) fun b1=>?_
 refine dA (fun i:Nat=>i<=es.length/\∀j,j<i->(hent es j).pc≠pc) (fun i=>es.length - i) (fun i=> [(2,.int .i64 pc),(8,.slice A1 es.length c1),(10,.int .i64 (i:Int))]) (fun _=> [ak (.slice A1 es.length c1) es,fa L]) 0 (⟨aX _,fun _ h=>absurd h (gN _)⟩) ?_
 rintro i hi'
 obtain⟨hi,hno⟩:i<=es.length/\∀j,j<i->(hent es j).pc≠pc:=hi'
 refine av (fun hlt'=>?_) (fun hlt'=>?_)
 ·have hlt:i<es.length:=by omega
  have hlt2:i<(bZ fs (aq fs k)).1.length:=by omega
  obtain⟨e1,e2⟩:=hre.el i hlt hlt2
  refine aj ?_
  refine cS (i) rfl ((SF.own (xs:=es) rfl fc))<|aj ?_
  refine eH rfl (fun w hw=>SF.hent (SF.own (xs:=es) rfl fc) hlt w hw 0 _ rfl)<|av (fun hp=>?_) (fun hp=>?_)
  ·have hp:(hent es i).pc=pc:=hp
   have hq2:q=some (bZ fs (aq fs k)).1[i].K:=by
    rw[<-hq]
    unfold fy
    rw[E9 hlt2 (by rw[<-e1,<-mY hlt];exact hp) (fun j hj h=>by
     have hj':j<es.length:=by omega
     have:=hno j hj
     rw[mY hj',(hre.el j hj' h).1] at this
     exact this)]
    rfl
   subst hq2
   rw[<-mY hlt] at e2
   refine aj ?_
   refine cS (i) rfl ((SF.own (xs:=es) rfl fc))<|aj ?_
   refine eH rfl (fun w hw=>SF.hent (SF.own (xs:=es) rfl fc) hlt w hw 1 _ rfl)<|aj ?_
   intro w hw
   obtain⟨A5,c5,e5⟩:=e2.form hw fc
   rw[e5] at e2⊢
   exact⟨(A5,c5),trivial,rfl,(wj e2 (hw.msub (T:=fa L:: []) ms)).msub ms⟩
  have hp:¬(hent es i).pc=pc:=hp
  refine aj ?_
  refine cU (i+1) (⟨by show i+1<=_;omega,fun j hj=>(fK j i).elim (hno j) (fun h=>by obtain rfl:j=i:=(by omega);exact hp)⟩) (by show _ - _<_ - _;omega)
 obtain rfl:i=es.length:=by omega
 have hq2:q=none:=by
  rw[<-hq]
  unfold fy
  rw[E8 (fun j hj=>by
   have hj':j<es.length:=by omega
   have:=hno j hj'
   rw[mY hj',(hre.el j hj' hj).1] at this
   exact this)]
  rfl
 subst hq2
 refine aj ?_
 intro w hw
 exact⟨(none,0),trivial,rfl,(pX hw).msub ms⟩
end
section
theorem CL:Tryz.prog.eqGuardType Tryz.prog.depth 159=false:=by kernel_rfl
theorem LA:Tryz.prog.stoodInHeld 159=false:=by kernel_rfl
theorem Qg (w : World) (a c : Bool) (b d : Int) : (binOp .neq 159 (.agg #[.bool a, .int .i64 b]) (.agg #[.bool c, .int .i64 d])).run Tryz.prog w = .ok (.bool (!(a == c && b == d))) w := by
  have h := LA
  by_cases h1 : a = c <;> by_cases h2 : b = d <;> simp [go_sem, h, h1, h2]
theorem Qi (x y : Operand) (u v : Array Value) (w : World) : (eqGuard .neq 159 x y (.agg u) (.agg v)).run Tryz.prog w = .ok () w := by
  have h := CL
  simp [eqGuard, go_sem, h]
theorem O7 {v u:aC} :(v.ref == u.ref && v.n == u.n)=decide (v=u):=by
 obtain⟨a,b⟩:=v
 obtain⟨c,d⟩:=u
 by_cases h1:a=c <;> by_cases h2:b=d <;> simp[h1,h2]
theorem vU {α:Type} {a b:List α} {i:Nat} (d:α) (h1:i<a.length) (h2:i<b.length) (h:a.take i=b.take i) (e:a.getD i d=b.getD i d):a.take (i+1)=b.take (i+1):=by
 rw[fe a i d h1,fe b i d h2,h,e]
theorem BD {α:Type} {a b:List α} {i:Nat} (d:α) (e:¬a.getD i d=b.getD i d):¬a=b:=fun h=>e (by rw[h])
theorem rj (A1 A2:Option Addr) (c1 c2:Nat) (a b:List aC) (w:World) (h1:Sl w (.slice A1 a.length c1) a) (h2:Sl w (.slice A2 b.length c2) b) :
  Calls Tryz.prog 69 #[.slice A1 a.length c1,.slice A2 b.length c2] w fun e w'=>e= .returned (.bool (decide (a=b)))/\Below w.heap.size w w':=by
 have b1:=bE h1
 refine enter Tryz.func69 rfl Tryz.ntmps69 rfl<|cQ (fun hl=>?_) (fun hl=>?_)
 ·refine aj ?_
  intro w hw
  exact⟨aS (by rw[decide_eq_false (fun e=>hl (by rw[e]))]),hw.below⟩
 have hl:a.length=b.length:=by omega
 refine aj ?_
 refine dA (fun i:Nat=>i<=a.length/\a.take i=b.take i) (fun i=>a.length - i) (fun i=> [(0,.slice A1 a.length c1),(1,.slice A2 b.length c2),(5,.int .i64 (i:Int))]) (fun _=> []) 0 (⟨aX _,rfl⟩) ?_
 rintro i hi'
 obtain⟨hi,hj⟩:i<=a.length/\a.take i=b.take i:=hi'
 refine av (fun hlt=>?_) (fun hlt=>?_)
 ·have hil:i<a.length:=by omega
  have hil2:i<b.length:=by omega
  refine aj ?_
  refine bz [0,3,6,9,12,15,18,21,24] [] rfl<|aj ?_
  refine tE rfl (bg (k:=i) ax aI (.ro h1) (by omega) rfl rfl rfl) ?_
  refine tE rfl (eF (SF.val (SF.ro h1) hil default) rfl rfl ie aI)<|aj ?_
  refine tE rfl (bg (k:=i) ax aI (.ro h2) (by omega) rfl rfl rfl) ?_
  refine tE rfl (eF (SF.val (SF.ro h2) hil2 default) rfl rfl ie aI) ?_
  refine tE rfl (mL rfl rfl rfl (fun w=>Qg w _ _ _ _) (fun w=>Qi _ _ _ _ w))<|aj ?_
  rw[O7]
  refine jq rfl (fun he=>?_) (fun he=>?_)
  ·refine aj ?_
   intro w hw
   exact⟨aS (by rw[decide_eq_false (BD default he)]),hw.below⟩
  refine aj ?_
  refine cU (i+1) (⟨by show i+1<=_;omega,vU default hil hil2 hj he⟩) (by show _ - _<_ - _;omega)
 obtain rfl:i=a.length:=by omega
 rw[aT,hl,aT] at hj
 refine aj ?_
 intro w hw
 exact⟨aS (by rw[decide_eq_true hj]),hw.below⟩
theorem yK (A1 A2:Option Addr) (c1 c2:Nat) (a b:List (List Int)) (w:World) (h1:Sl w (.slice A1 a.length c1) a) (h2:Sl w (.slice A2 b.length c2) b) :
  Calls Tryz.prog 68 #[.slice A1 a.length c1,.slice A2 b.length c2] w fun e w'=>e= .returned (.bool (decide (a=b)))/\Below w.heap.size w w':=by
 have b1:=bE h1
 refine enter Tryz.func68 rfl Tryz.ntmps68 rfl<|cQ (fun hl=>?_) (fun hl=>?_)
 ·refine aj ?_
  intro w hw
  exact⟨aS (by rw[decide_eq_false (fun e=>hl (by rw[e]))]),hw.below⟩
 have hl:a.length=b.length:=by omega
 refine aj ?_
 refine dA (fun i:Nat=>i<=a.length/\a.take i=b.take i) (fun i=>a.length - i) (fun i=> [(0,.slice A1 a.length c1),(1,.slice A2 b.length c2),(5,.int .i64 (i:Int))]) (fun _=> []) 0 (⟨aX _,rfl⟩) ?_
 rintro i hi'
 obtain⟨hi,hj⟩:i<=a.length/\a.take i=b.take i:=hi'
 refine av (fun hlt=>?_) (fun hlt=>?_)
 ·have hil:i<a.length:=by omega
  have hil2:i<b.length:=by omega
  obtain⟨A3,c3,hb1,hc1⟩:=h1.sub hil
  obtain⟨A4,c4,hb2,hc2⟩:=h2.sub hil2
  refine aj ?_
  refine bz [0,3,6,9,12,15,18,21,26,27] [] rfl<|aj ?_
  refine tE rfl (bg (k:=i) dX iJ (.ro h1) (by omega) rfl rfl rfl) ?_
  refine tE rfl (bQ (hc1 _) rfl rfl gv)<|aj ?_
  refine tE rfl (bg (k:=i) dX iJ (.ro h2) (by omega) rfl rfl rfl) ?_
  refine tE rfl (bQ (hc2 _) rfl rfl gv) ?_
  refine km rfl rfl nJ (fun w hw=>is _ _ _ _ (a.getD i []) (b.getD i []) w (hw.ro hb1) (hw.ro hb2))<|cQ (fun he=>?_) (fun he=>?_)
  ·refine aj ?_
   intro w hw
   exact⟨aS (by rw[decide_eq_false (BD [] he)]),hw.below⟩
  refine aj ?_
  refine cU (i+1) (⟨by show i+1<=_;omega,vU [] hil hil2 hj he⟩) (by show _ - _<_ - _;omega)
 obtain rfl:i=a.length:=by omega
 rw[aT,hl,aT] at hj
 refine aj ?_
 intro w hw
 exact⟨aS (by rw[decide_eq_true hj]),hw.below⟩
theorem gQ {α:Type} {f:az->α} {m1 m2:az} (h:¬f m1=f m2):¬m1=m2:=fun e=>h (by rw[e])
theorem MW {m1 m2:az} (h1:m1.S=m2.S) (h2:m1.T=m2.T) (h3:m1.B=m2.B) (h4:m1.I=m2.I) (h5:m1.out=m2.out) (h6:m1.F=m2.F):m1=m2:=by
 cases m1;cases m2;simp_all
theorem Bn {l1 l2:List aG} {i:Nat} {α:Type} {f:aG->α} (h:¬f (aN l1 i)=f (aN l2 i)):¬l1=l2:=fun e=>h (by rw[e])
theorem Pc {x y:aG} (h1:x.func=y.func) (h2:x.pc=y.pc) (h3:x.L=y.L) (h4:x.K=y.K):x=y:=by
 cases x;cases y;simp_all
theorem mW {p:Prop} [Decidable p] (h:(!decide p)=true):¬p:=by simpa using h
theorem lz {p:Prop} [Decidable p] (h:(!decide p)=false):p:=by simpa using h
theorem pU (a b:MA) (m1 m2:az) (w:World) (h1:dS w.heap.size w a m1) (h2:dS w.heap.size w b m2) :
  Calls Tryz.prog 15 #[.agg #[.slice a.Af m1.F.length a.cf,.slice a.Ab m1.B.length a.cb,.slice a.Ai m1.I.length a.ci,.slice a.Ao m1.out.length a.co,.int .i64 m1.S,.int .i64 m1.T],
   .agg #[.slice b.Af m2.F.length b.cf,.slice b.Ab m2.B.length b.cb,.slice b.Ai m2.I.length b.ci,.slice b.Ao m2.out.length b.co,.int .i64 m2.S,.int .i64 m2.T]] w fun e w'=>e= .returned (.bool (decide (m1=m2)))/\Below w.heap.size w w':=by
 have b1:=bE h1.f
 refine enter Tryz.func15 rfl Tryz.ntmps15 rfl<|aj ?_
 refine fun g1 _=>aj ?_
 refine fun g2 _=>dG 13 (fun e1=>?_) (fun e1=>?_)
 ·refine aj ?_
  refine aU rfl<|aj ?_
  intro w hw
  exact⟨aS (by rw[decide_eq_false (gQ (f:=az.S) (mW e1))]),hw.below⟩
 have e1:=lz e1
 refine dG 20 (fun e2=>?_) (fun e2=>?_)
 ·refine aj ?_
  refine aU rfl<|aj ?_
  intro w hw
  exact⟨aS (by rw[decide_eq_false (gQ (f:=az.T) (mW e2))]),hw.below⟩
 have e2:=lz e2
 refine aj ?_
 refine bX rfl Tryz.call68 (fun w hw=>yK _ _ _ _ m1.B m2.B w (hw.ro h1.b) (hw.ro h2.b))<|dG 28 (fun e3=>?_) (fun e3=>?_)
 ·refine aj ?_
  refine aU rfl<|aj ?_
  intro w hw
  exact⟨aS (by rw[decide_eq_false (gQ (f:=az.B) (mW e3))]),hw.below⟩
 have e3:=lz e3
 refine aj ?_
 refine bX rfl nJ (fun w hw=>is _ _ _ _ m1.I m2.I w (hw.ro h1.i) (hw.ro h2.i))<|dG 36 (fun e4=>?_) (fun e4=>?_)
 ·refine aj ?_
  refine aU rfl<|aj ?_
  intro w hw
  exact⟨aS (by rw[decide_eq_false (gQ (f:=az.I) (mW e4))]),hw.below⟩
 have e4:=lz e4
 refine aj ?_
 refine bX rfl nJ (fun w hw=>is _ _ _ _ m1.out m2.out w (hw.ro h1.o) (hw.ro h2.o))<|dG 44 (fun e5=>?_) (fun e5=>?_)
 ·refine aj ?_
  refine aU rfl<|aj ?_
  intro w hw
  exact⟨aS (by rw[decide_eq_false (gQ (f:=az.out) (mW e5))]),hw.below⟩
 have e5:=lz e5
 refine cQ (fun e6=>?_) (fun e6=>?_)
 ·refine aj ?_
  intro w hw
  exact⟨aS (by rw[decide_eq_false (gQ (f:=fun m=>m.F.length) (fun h=>e6 (by rw[show m1.F.length=m2.F.length from h])))]),hw.below⟩
 have e6:m1.F.length=m2.F.length:=by omega
 refine aj ?_
 refine dA (fun i:Nat=>i<=m1.F.length/\m1.F.take i=m2.F.take i) (fun i=>m1.F.length - i) (fun i=> [(2,.pointer (some ⟨g1,0,none⟩)),(3,.pointer (some ⟨g2,0,none⟩)),(5,.int .i64 (i:Int))]) (fun _=> [am g1 [.slice a.Af m1.F.length a.cf,.slice a.Ab m1.B.length a.cb,.slice a.Ai m1.I.length a.ci,.slice a.Ao m1.out.length a.co,.int .i64 m1.S,.int .i64 m1.T] 43,am g2 [.slice b.Af m2.F.length b.cf,.slice b.Ab m2.B.length b.cb,.slice b.Ai m2.I.length b.ci,.slice b.Ao m2.out.length b.co,.int .i64 m2.S,.int .i64 m2.T] 43]) 0 (⟨aX _,rfl⟩) ?_
 rintro i hi'
 obtain⟨hi,hj⟩:i<=m1.F.length/\m1.F.take i=m2.F.take i:=hi'
 refine av (fun hlt=>?_) (fun hlt=>?_)
 ·have hil:i<m1.F.length:=by omega
  have hil2:i<m2.F.length:=by omega
  obtain⟨A1,c1,A2,c2,hl1,hs1,hI1,hc1⟩:=h1.f.fr hil
  obtain⟨A3,c3,A4,c4,hl2,hs2,hI2,hc2⟩:=h2.f.fr hil2
  refine gI (gF ?_)
  refine cc<|jV<|eh (fun _:Nat×Nat=>True) (fun g=> [(2,.pointer (some ⟨g1,0,none⟩)),(3,.pointer (some ⟨g2,0,none⟩)),(5,.int .i64 (i:Int)),(6,.pointer (some ⟨g.1,0,none⟩)),(7,.pointer (some ⟨g.2,0,none⟩))]) (fun g=> [am g1 [.slice a.Af m1.F.length a.cf,.slice a.Ab m1.B.length a.cb,.slice a.Ai m1.I.length a.ci,.slice a.Ao m1.out.length a.co,.int .i64 m1.S,.int .i64 m1.T] 43,am g2 [.slice b.Af m2.F.length b.cf,.slice b.Ab m2.B.length b.cb,.slice b.Ai m2.I.length b.ci,.slice b.Ao m2.out.length b.co,.int .i64 m2.S,.int .i64 m2.T] 43,am g.1 [.int .i64 (aN m1.F i).func,.int .i64 (aN m1.F i).pc,.slice A1 (aN m1.F i).L.length c1,.slice A2 (aN m1.F i).K.length c2] 118,am g.2 [.int .i64 (aN m2.F i).func,.int .i64 (aN m2.F i).pc,.slice A3 (aN m2.F i).L.length c3,.slice A4 (aN m2.F i).K.length c4] 118]) ?_ ?_
  ·refine wI (.still 0 (.still 1 (.still 2 (.still 3 (.still 4 (.still 5 (.still 6 (.still 7 (.still 8 (.still 9 (.pick 10 (.pick 11 (.pick 12 (.pick 13 .done .stop) .stop) .stop) (.pick 11 (.pick 10 (.pick 12 (.pick 13 .done .stop) .stop) .stop) .stop)))))))))))) [13] rfl (by kernel_rfl) (by kernel_rfl) [am g1 [.slice a.Af m1.F.length a.cf,.slice a.Ab m1.B.length a.cb,.slice a.Ai m1.I.length a.ci,.slice a.Ao m1.out.length a.co,.int .i64 m1.S,.int .i64 m1.T] 43,am g2 [.slice b.Af m2.F.length b.cf,.slice b.Ab m2.B.length b.cb,.slice b.Ai m2.I.length b.ci,.slice b.Ao m2.out.length b.co,.int .i64 m2.S,.int .i64 m2.T] 43] ?_
   refine aj ?_
   refine tE rfl (bg (k:=i) cD dI (.ro h1.f) (by omega) rfl rfl rfl) ?_
   refine tE rfl (eF (hc1 _) rfl rfl Ra dI)<|aj ?_
   refine tE rfl (bg (k:=i) cD dI (.ro h2.f) (by omega) rfl rfl rfl) ?_
   refine tE rfl (eF (hc2 _) rfl rfl Ra dI) ?_
   refine cP rfl (og Tryz.zeroValue118 rfl rfl) rfl rfl (.inr fun _=>ha) (fun q1 _=>?_) ?_
   ·refine aj ?_
    intro q2 _
    refine aj ?_
    refine bu<|bS (q1,q2) (trivial) (hh:=(fun _ h=>h.msub ms))
   refine aj ?_
   intro q2 _
   refine aj ?_
   intro q1 _
   refine aj ?_
   refine bu<|bS (q1,q2) (trivial) (hh:=(fun _ h=>h.msub ms))
  rintro⟨q1,q2⟩ _
  dsimp only
  refine dG 75 (fun f1=>?_) (fun f1=>?_)
  ·refine aj ?_
   refine aU rfl<|aj ?_
   intro w hw
   exact⟨aS (by rw[decide_eq_false (gQ (f:=az.F) (Bn (i:=i) (f:=aG.func) (mW f1)))]),hw.below⟩
  have f1:=lz f1
  refine dG 82 (fun f2=>?_) (fun f2=>?_)
  ·refine aj ?_
   refine aU rfl<|aj ?_
   intro w hw
   exact⟨aS (by rw[decide_eq_false (gQ (f:=az.F) (Bn (i:=i) (f:=aG.pc) (mW f2)))]),hw.below⟩
  have f2:=lz f2
  refine aj ?_
  refine bX rfl Tryz.call69 (fun w hw=>rj _ _ _ _ (aN m1.F i).L (aN m2.F i).L w (hw.ro hl1) (hw.ro hl2))<|dG 90 (fun f3=>?_) (fun f3=>?_)
  ·refine aj ?_
   refine aU rfl<|aj ?_
   intro w hw
   exact⟨aS (by rw[decide_eq_false (gQ (f:=az.F) (Bn (i:=i) (f:=aG.L) (mW f3)))]),hw.below⟩
  have f3:=lz f3
  refine aj ?_
  refine bX rfl Tryz.call69 (fun w hw=>rj _ _ _ _ (aN m1.F i).K (aN m2.F i).K w (hw.ro hs1) (hw.ro hs2))<|cQ (fun f4=>?_) (fun f4=>?_)
  ·refine aj ?_
   intro w hw
   exact⟨aS (by rw[decide_eq_false (gQ (f:=az.F) (Bn (i:=i) (f:=aG.K) f4))]),hw.below⟩
  refine aj ?_
  refine cU (i+1) (⟨by show i+1<=_;omega,vU default hil hil2 hj (Pc f1 f2 f3 f4)⟩) (by show _ - _<_ - _;omega) (hh:=(fun w h=>h.msub ms))
 obtain rfl:i=m1.F.length:=by omega
 rw[aT,e6,aT] at hj
 refine aj ?_
 intro w hw
 exact⟨aS (by rw[decide_eq_true (MW e1 e2 e3 e4 e5 hj)]),hw.below⟩
end
