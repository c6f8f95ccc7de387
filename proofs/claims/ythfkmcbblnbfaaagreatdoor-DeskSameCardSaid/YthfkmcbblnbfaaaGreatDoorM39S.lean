/- Lemmas of one proof. -/
import Derived.Test.YthfkmcbblnbfaaaGreatDoorM0S
import Derived.Test.YthfkmcbblnbfaaaGreatDoorM35S
import Derived.Test.YthfkmcbblnbfaaaGreatDoorM23S

namespace Go.Proofs.YthfkmcbblnbfaaaGreatDoor
set_option maxRecDepth 100000
set_option maxHeartbeats 16000000
open Go.RowKit
section
theorem lf (n a b:Int) (w:World):Calls Tryz.prog 181 #[.int .i64 n,.int .i64 a,.int .i64 b] w fun e w'=>e= .returned (.bool (bF n a b))/\Below w.heap.size w w':=by
 refine enter Tryz.func181 rfl Tryz.ntmps181 rfl<|dc 10 (fun h1=>?_) (fun h1=>?_)
 ·refine aj ?_
  intro w hw
  exact⟨aM (by unfold bF;rw[h1];rfl),hw.below⟩
 refine aj ?_
 intro w hw
 exact⟨aM (by unfold bF;rw[h1];rfl),hw.below⟩
theorem HI (n:Nat) (hn:n*16<=140737488355328) (w:World):Calls Tryz.prog 315 #[.slice none 0 0,.int .i64 (n:Int)] w fun e w'=> ∃g:Option Addr×Nat,True/\e= .returned (.slice g.1 0 g.2)/\Cw w.heap.size w [ap (α:=aF) (.slice g.1 0 g.2) []] w':=by
 refine enter Tryz.func315 rfl Tryz.ntmps315 rfl<|az (fun h0=>?_) (fun h0=>?_)
 ·exact absurd h0 (by omega)
 refine aj ?_
 refine sE (GL cA rfl rfl)<|aj ?_
 refine di (t:=1) (v':= .int .i64 (n:Int)) rfl (by congr 1) ?_
 refine gY rfl (fun h1=>?_) (fun h1=>?_)
 ·refine aj ?_
  refine sE (GL cA rfl rfl) ?_
  refine sE (pz (k:=0) cA fe (aA _) rfl rfl rfl)<|aj ?_
  refine oE (Mc (α:=aF) (bytes:=16) cA rX iV rfl (by decide) (by omega) (by omega) rfl rfl rfl) (fun⟨g,c⟩ _=>?_)
  refine aL ?_
  refine sE (pz (k:=0) cA fe (bn _) rfl rfl rfl)<|aj ?_
  intro w hw
  exact⟨(some ⟨g,0,none⟩,c),trivial,rfl,hw⟩
 refine aj ?_
 intro w hw
 exact⟨(none,0),trivial,rfl,Cw.nilO aF hw⟩
theorem PJ (v:aF) (t:Int):gu v t=((v.ref == !decide (t=1)) && ((!decide (t=3)) || decide (v.n=0))):=by
 unfold gu
 cases v.ref <;> by_cases h1:t=1 <;> simp[h1]
theorem DV (v:aF) (t:Int) (w:World):Calls Tryz.prog 293 #[.agg #[.bool v.ref,.int .i64 v.n],.int .i64 t] w fun e w'=>e= .returned (.bool (gu v t))/\Below w.heap.size w w':=by
 have ha:=PJ v t
 generalize hq:gu v t=q at ha
 refine enter Tryz.func293 rfl Tryz.ntmps293 rfl<|aj ?_
 refine fun g1 _=>aj ?_
 refine sE (Ov Tryz.underlying4 rfl rfl rfl)<|dc 10 (fun h1=>?_) (fun h1=>?_)
 ·rw[h1,Bool.true_and] at ha
  refine dc 13 (fun h2=>?_) (fun h2=>?_)
  ·rw[h2,Bool.true_or] at ha
   refine aj ?_
   intro w hw
   exact⟨aM ha.symm,hw.below⟩
  rw[h2,Bool.false_or] at ha
  refine aj ?_
  intro w hw
  exact⟨aM ha.symm,hw.below⟩
 rw[h1,Bool.false_and] at ha
 refine aj ?_
 intro w hw
 exact⟨aM ha.symm,hw.below⟩
def Rz (a:MA) (m:ar) (pv:Value):List Value:= [.slice a.Af m.F.length a.cf,.slice a.Ab m.B.length a.cb,.slice a.Ai m.I.length a.ci,.slice a.Ao m.out.length a.co,.int .i64 m.S,.int .i64 m.T,pv]
section
variable {B:Nat} {w0:World} {H:List aC}
theorem Fd (gc:Nat) (a:MA) (m:ar) (pv:Value) (v:aF) (w:World) (hw:Cw B w0 (am gc [.slice a.Af m.F.length a.cf,.slice a.Ab m.B.length a.cb,.slice a.Ai m.I.length a.ci,.slice a.Ao m.out.length a.co,.int .i64 m.S,.int .i64 m.T,pv] 190::H) w) :
  Calls Tryz.prog 292 #[.pointer (some ⟨gc,0,none⟩),.agg #[.bool v.ref,.int .i64 v.n]] w fun e w'=> ∃_:Unit,True/\e= .returned (.int .i64 (if eE m.B.length v=true then 0 else 3))/\Cw B w0 (am gc [.slice a.Af m.F.length a.cf,.slice a.Ab m.B.length a.cb,.slice a.Ai m.I.length a.ci,.slice a.Ao m.out.length a.co,.int .i64 m.S,.int .i64 m.T,pv] 190::H) w':=by
 obtain⟨q,hq⟩:∃q,eE m.B.length v=q:=⟨_,rfl⟩
 rw[hq]
 obtain⟨r,z⟩:=v
 refine aY Tryz.func292 rfl Tryz.ntmps292 rfl hw<|aj ?_
 refine fun g1 _=>aj ?_
 refine bR [0,3,6,9,12,15,18,21,24,27,30,35,36,39,42,45,48,51,54,57,60,65,66,69,72] [] rfl<|aj ?_
 refine lA (t:=7) rfl (fun hr=>?_) (fun hr=>?_)
 ·have hq2:bF z 0 m.B.length=q:=by rw[<-hq];unfold eE;rw[if_pos hr]
  refine aj ?_
  refine kT rfl rfl CA (fun w hw=>lf z 0 m.B.length w)<|aj ?_
  rw[hq2]
  refine lA (t:=19) rfl (fun hb=>?_) (fun hb=>?_)
  ·have hq3:q=false:=by simpa using hb
   subst hq3
   refine aj ?_
   refine qU rfl rfl rfl (.inr ha) ?_ fW
   refine aj ?_
   refine bo rfl<|aj ?_
   intro w hw
   exact⟨(),trivial,rfl,hw.msub ms⟩
  have hq3:q=true:=by simpa using hb
  subst hq3
  refine aj ?_
  refine lA (t:=23) rfl (fun h3=>?_) (fun h3=>?_)
  ·rw[hr] at h3
   cases h3
  refine aj ?_
  refine qU rfl rfl rfl (.inr ha) ?_ fW
  refine aj ?_
  refine cB rfl<|aj ?_
  intro w hw
  exact⟨(),trivial,rfl,hw.msub ms⟩
 have hq2:bA z=q:=by rw[<-hq];unfold eE;rw[if_neg (by rw[hr];decide)]
 refine aj ?_
 refine qU rfl rfl rfl (.inr ha) ?_ fW
 refine aj ?_
 refine lA (t:=23) rfl (fun h2=>?_) (fun h2=>?_)
 ·refine aj ?_
  refine kT rfl rfl PO ((fun w hw=>nD ((fun w hw=>oB z w) w hw)))<|aj ?_
  rw[hq2]
  refine cg rfl (fun h4=>?_) (fun h4=>?_)
  ·have hq3:q=false:=by simpa using h4
   subst hq3
   refine aj ?_
   intro w hw
   exact⟨(),trivial,rfl,hw.msub ms⟩
  have hq3:q=true:=by simpa using h4
  subst hq3
  refine aj ?_
  intro w hw
  exact⟨(),trivial,rfl,hw.msub ms⟩
 rw[hr] at h2
 cases h2
end
end
section
def Rh (pc:Int) (es:List jc):Option Nat:=es.findIdx? fun x=>decide (x.pc=pc)
def hent (l:List jc) (k:Nat):jc:=l.getD k ⟨0,.slice none 0 0⟩
theorem SF.hent {B:Nat} {w0:World} {H:List aC} {A:Option Addr} {xs:List jc} {m c k:Nat} (hs:SF B w0 H A m c xs) (hk:k<m):∀w,Cw B w0 H w->∀j v,([.int .i64 (hent xs k).pc,(hent xs k).v]:List Value)[j]? =some v->w.cell? ⟨ab A,ao A+k*2+j,none⟩=some v:=fun w hw _ _ hv=>SF.cell hs hk _ hv w hw
theorem Kq (g:Nat) (pc q:Int) (v:Value) (w:World) (hlt:g<w.heap.size) (hc:w.cell? ⟨g,0,none⟩=some (.int .i64 pc)) :
  Calls Tryz.prog 323 #[.agg #[.int .i64 q,v],.pointer (some ⟨g,0,none⟩)] w fun e w'=>e= .returned (.bool (decide (q=pc)))/\Below w.heap.size w w':=by
 refine enter Tryz.func323 rfl Tryz.ntmps323 rfl<|aj ?_
 refine fun g1 _=>aj ?_
 refine eR rfl (fun w' hw=>(hw.below.cell hlt).trans hc)<|aj ?_
 intro w hw
 exact⟨rfl,hw.below⟩
theorem My (A:Option Addr) (c:Nat) (es:List jc) (g:Nat) (pc:Int) (w:World) (hs:Sl w (.slice A es.length c) es) (hlt:g<w.heap.size) (hc:w.cell? ⟨g,0,none⟩=some (.int .i64 pc)) :
  Calls Tryz.prog 322 #[.slice A es.length c,.func (.func 323) #[] #[.pointer (some ⟨g,0,none⟩)]] w fun e w'=> ∃r:Int,((r= -1/\∀i,i<es.length->(hent es i).pc≠pc)\/∃i:Nat,r=i/\i<es.length/\(hent es i).pc=pc/\∀j,j<i->(hent es j).pc≠pc)/\e= .returned (.int .i64 r)/\Cw w.heap.size w [] w':=by
 have b1:=bB hs
 refine enter Tryz.func322 rfl Tryz.ntmps322 rfl<|aj ?_
 refine dG (fun k:Nat=>k<=es.length/\∀j,j<k->(hent es j).pc≠pc) (fun k=>es.length - k) (fun k=> [(0,.slice A es.length c),(1,.func (.func 323) #[] #[.pointer (some ⟨g,0,none⟩)]),(7,.int .i64 (es.length:Int)),(8,.int .i64 (k:Int))]) (fun _=> []) 0 (⟨bn _,fun _ h=>absurd h (lH _)⟩) ?_
 rintro k hk'
 obtain⟨hk,hno⟩:k<=es.length/\∀j,j<k->(hent es j).pc≠pc:=hk'
 refine az (fun hlt'=>?_) (fun hlt'=>?_)
 ·have hkl:k<es.length:=by omega
  refine aj ?_
  refine dB (_) rfl ((.ro hs)) ?_
  refine iQ rfl (SF.hent (SF.ro hs) hkl) ?_
  refine oE (sC rfl rfl rfl Tryz.call323 (fun w hw=>Kq g pc _ _ w (Nat.lt_of_lt_of_le hlt hw.le) ((hw.below.cell hlt).trans hc))) (fun _ _=>az (fun hp=>?_) (fun hp=>?_))
  ·refine aj ?_
   intro w hw
   exact⟨(k:Int),.inr ⟨k,rfl,hkl,hp,hno⟩,rfl,hw⟩
  refine aj ?_
  refine dw (k+1) (⟨by show k+1<=_;omega,fun j hj=>(jl j k).elim (hno j) (fun h=>by obtain rfl:j=k:=(by omega);exact hp)⟩) (by show _ - _<_ - _;omega)
 obtain rfl:k=es.length:=by omega
 refine aj ?_
 intro w hw
 exact⟨-1,.inl ⟨rfl,hno⟩,rfl,hw⟩
section
variable {B:Nat} {w0:World} {H:List aC}
theorem AQ {L:List (Value×List Int)} {v:Value} {xs:List Int} {w:World} (hi:kV L v xs) (h:Cw B w0 (iB L::H) w):Cw B w0 (kU v xs::H) w:=by
 rcases hi with ⟨rfl,rfl⟩ | hi
 ·exact h.upd fun F ho _=>⟨fun _=>False,⟨fun _ h=>h.elim,fun _ _=>Sl.nil_⟩,rfl,rfl,rfl,aA _,fun _ _ _=>rfl,fun b hb=>hb.elim⟩
 refine h.upd fun F ho _=>?_
 obtain⟨F',h5,h6⟩:=Hs.mem (ph (f:=fun p:Value×List Int=>kU p.1 p.2) hi) (show Hs w _ F from ho)
 exact⟨F',h5,rfl,rfl,rfl,aA _,fun _ _ _=>rfl,fun b hb=> .inl (h6 b hb)⟩
theorem LP {A:Option Addr} {m c k:Nat} {xs:List Int} {w:World} (hk:k<=m) (h:Cw B w0 (kU (.slice A m c) xs::H) w):Cw B w0 (kU (.slice A k c) (xs.take k)::H) w:=by
 refine h.upd fun F ho _=>⟨F,⟨ho.1,fun w' hw'=>?_⟩,rfl,rfl,rfl,aA _,fun _ _ _=>rfl,fun b hb=> .inl hb⟩
 have:=(ho.2 w' hw').cut 0 k (bn _) hk
 rw[BQ,vu,vu,pH] at this
 exact this
theorem qk {w:World} (h:Cw B w0 H w):Cw B w0 (kU (.slice none 0 0) ([]:List Int)::H) w:=AQ kV.nil_ (oJ h)
end
theorem ME {xs:List jK} {pc:Int} {i:Nat} (hi:i<xs.length) (h1:xs[i].pc=pc) (h2:∀j (_:j<i) (h:j<xs.length),xs[j].pc≠pc):(xs.find? fun e=>decide (e.pc=pc))=some xs[i]:=by
 induction xs generalizing i with
 | nil=>simp at hi
 | cons x xs ih=>
  cases i with
  | zero=>rw[List.find?_cons_of_pos (by simpa using h1)];rfl
  | succ i=>
   rw[List.find?_cons_of_neg (by have h3:=h2 0 (by omega) (by simp);rw[List.getElem_cons_zero] at h3;simpa using h3)]
   exact ih (by simpa using hi) h1 fun j hj h=>h2 (j+1) (by omega) (by simpa using h)
theorem MD {xs:List jK} {pc:Int} (h2:∀j (h:j<xs.length),xs[j].pc≠pc):(xs.find? fun e=>decide (e.pc=pc))=none:=by
 rw[List.find?_eq_none]
 intro e he
 obtain⟨j,hj,rfl⟩:=cz he
 simpa using h2 j hj
theorem tL {es:List jc} {i:Nat} (h:i<es.length):hent es i=es[i]:=by
 unfold hent
 rw[ak,an h]
 rfl
theorem yq (Ap:Option Addr) (cp:Nat) (fs:List au) (k:Nat) (pc:Int) (q:Option (List Int)) (hq:gh fs (av fs k) pc=q) (w:World) (hs:Sl w (.slice Ap fs.length cp) fs) (hk:k<fs.length) (hok:pS fs (av fs k)) (hn0:0<(av fs k).C.length) :
  Calls Tryz.prog 316 #[.agg #[.slice Ap fs.length cp],.int .i64 (k:Int),.int .i64 pc] w fun e w'=> ∃g:Option Addr×Nat,True/\e= .returned (.tuple #[.slice g.1 (q.getD []).length g.2,.bool q.isSome])/\
   Cw w.heap.size w [kU (.slice g.1 (q.getD []).length g.2) (q.getD [])] w':=by
 refine enter Tryz.func316 rfl Tryz.ntmps316 rfl<|aj ?_
 refine fun g1 _=>aj ?_
 refine fun g2 _=>aj ?_
 refine eQ rfl Rv (fun w hw=>pN Ap cp fs k w (hw.ro hs) hk hok hn0) (fun⟨⟨A1,c1⟩,es,L⟩ hre=>?_)
 refine aL ?_
 refine eQ rfl Tryz.call322 (fun w hw=>My A1 c1 es g2 pc w (SF.at_ (SF.own rfl fc) hw) (kD hw fc) (fb fc rfl w hw)) (fun r hr=>aj ?_)
 have hre:pb es L (de fs (av fs k)).1:=hre
 have hl:=hre.len
 refine gY rfl (fun h0=>?_) (fun h0=>?_)
 ·have hq2:q=none:=by
   rcases hr with ⟨_,h⟩ | ⟨i,h,_⟩
   ·rw[<-hq]
    unfold gh
    rw[MD (fun j hj=>by
     have hj':j<es.length:=by omega
     have:=h j hj'
     rw[tL hj',(hre.el j hj' hj).1] at this
     exact this)]
    rfl
   omega
  subst hq2
  refine aj ?_
  intro w hw
  exact⟨(none,0),trivial,rfl,(qk hw).msub ms⟩
 obtain⟨i,hi,hlt,hpc,hno⟩:∃i:Nat,r=i/\i<es.length/\(hent es i).pc=pc/\∀j,j<i->(hent es j).pc≠pc:=hr.elim (fun h=>by omega) id
 subst hi
 have hlt2:i<(de fs (av fs k)).1.length:=by omega
 obtain⟨e1,e2⟩:=hre.el i hlt hlt2
 have hq2:q=some (de fs (av fs k)).1[i].K:=by
  rw[<-hq]
  unfold gh
  rw[ME hlt2 (by rw[<-e1,<-tL hlt];exact hpc) (fun j hj h=>by
   have hj':j<es.length:=by omega
   have:=hno j hj
   rw[tL hj',(hre.el j hj' h).1] at this
   exact this)]
  rfl
 subst hq2
 rw[<-tL hlt] at e2
 refine aj ?_
 refine dB (i) rfl ((SF.own (xs:=es) rfl fc))<|aj ?_
 refine eR rfl (fun w hw=>SF.hent (SF.own (xs:=es) rfl fc) hlt w hw 1 _ rfl)<|aj ?_
 intro w hw
 obtain⟨A5,c5,e5⟩:=e2.form hw fc
 rw[e5] at e2⊢
 exact⟨(A5,c5),trivial,rfl,(AQ e2 (hw.msub (T:=iB L:: []) ms)).msub ms⟩
end
section
theorem C9 {fs:List au} (hF:fk fs) {k:Nat} (hk:k<fs.length) {pc to_:Int} {t0 t:List Int} (hc:jv (av fs k) pc to_=true) (h0:gh fs (av fs k) (pc - 1)=some t0) (h1:gh fs (av fs k) pc=some t) (hr:(av fs to_.toNat).result≠0):1<=t.length:=by
 unfold jv at hc
 simp only[cW,decide_eq_true_eq] at hc
 obtain⟨_,hcc,hca⟩:=hc
 obtain⟨_,_,_,_,v0,hv0,hn0⟩:=(hF.e _ hk).at_ _ _ h0
 generalize bu (av fs k).C (pc - 1).toNat=oz at hcc hca hv0 hn0
 obtain⟨t',ht',hle⟩:=hn0 pc (by simp[dg,hcc])
 rw[h1] at ht'
 have ht':=dM ht'
 subst ht'
 obtain⟨T0,V0,e0,_,_,_,rfl⟩:=kj.1 hv0
 simp[tl,hcc] at e0
 obtain⟨rfl,rfl⟩:=e0
 rw[hca] at hle
 unfold bN at hle
 rw[if_neg hr] at hle
 have:=(xj hle).2.1
 omega
theorem pG {f:au} {pc to_:Int} :jv f pc to_=(bF pc 1 f.C.length && (decide ((bu f.C (pc - 1).toNat).c=12) && decide ((bu f.C (pc - 1).toNat).a=to_))):=rfl
section
variable {B:Nat} {w0:World} {H:List aC}
theorem H9 (gc:Nat) (a:MA) (m:ar) (Ap:Option Addr) (cp:Nat) (fs:List au) (hs:br w0 B (.slice Ap fs.length cp) fs) (hm:fd B w0 a m) (hF:fk fs) (i:Nat) (hi:i<m.F.length) (hfn:∀x∈m.F,0<=x.func/\x.func<fs.length) (q:Option (List Int)) (hq:gL fs m.F i=q) (w:World) (hw:Cw B w0 (am gc [.slice a.Af m.F.length a.cf,.slice a.Ab m.B.length a.cb,.slice a.Ai m.I.length a.ci,.slice a.Ao m.out.length a.co,.int .i64 m.S,.int .i64 m.T,.slice Ap fs.length cp] 190::H) w) :
  Calls Tryz.prog 294 #[.pointer (some ⟨gc,0,none⟩),.int .i64 (i:Int)] w fun e w'=> ∃g:Option Addr×Nat,True/\e= .returned (.tuple #[.slice g.1 (q.getD []).length g.2,.bool q.isSome])/\Cw B w0 (kU (.slice g.1 (q.getD []).length g.2) (q.getD [])::am gc [.slice a.Af m.F.length a.cf,.slice a.Ab m.B.length a.cb,.slice a.Ai m.I.length a.ci,.slice a.Ao m.out.length a.co,.int .i64 m.S,.int .i64 m.T,.slice Ap fs.length cp] 190::H) w':=by
 have bf:=bB hm.f
 have bp:=bB hs
 obtain⟨A1,c1,A2,c2,hl,hst,hI,hcell⟩:=hm.f.fr hi
 have hx:=hfn _ (fT hi)
 obtain⟨kf,hkf⟩:∃kf:Nat,(aQ m.F i).func=kf:=⟨(aQ m.F i).func.toNat,by omega⟩
 have hkl:kf<fs.length:=by omega
 obtain⟨hok,hn0⟩:=jj hF.p hkl
 obtain⟨F1,d1,F2,d2,hfl,hfc,hfi,hfcell⟩:=hs.fn hkl
 have bc:=bB hfc
 have hff:iR fs m.F i=av fs kf:=by unfold iR;rw[hkf,bi]
 obtain⟨pc,hpc⟩:∃pc,(aQ m.F i).pc=pc:=⟨_,rfl⟩
 unfold gL at hq
 rw[hff,hpc] at hq
 rw[hkf,hpc] at hcell
 rw[hpc] at hI
 obtain⟨q1,hq1⟩:∃q1,gh fs (av fs kf) pc=q1:=⟨_,rfl⟩
 rw[hq1] at hq
 refine aY Tryz.func294 rfl Tryz.ntmps294 rfl hw<|aj ?_
 refine dB (i) rfl ((.ro hm.f)) ?_
 refine iQ rfl (hcell _)<|aj ?_
 refine fun g1 _=>aj ?_
 refine bR [0,3,6,9,12,15,18,21,26,27,30,33,36,39] [] rfl<|aj ?_
 refine jJ rfl rfl Tryz.call316 (fun w hw=>yq Ap cp fs kf pc q1 hq1 w (hw.ro hs) hkl hok hn0) (fun⟨A5,c5⟩ _=>?_)
 refine aL ?_
 refine gY rfl (fun h1=>?_) (fun h1=>?_)
 ·rw[if_pos (show i+1=m.F.length by omega)] at hq
  subst hq
  refine aj ?_
  intro w hw
  exact⟨(A5,c5),trivial,rfl,hw.msub ms⟩
 rw[if_neg (show¬i+1=m.F.length by omega)] at hq
 have hi2:i+1<m.F.length:=by omega
 obtain⟨A3,c3,A4,c4,hl2,hst2,hI2,hcell2⟩:=hm.f.fr hi2
 have hy:=hfn _ (fT hi2)
 obtain⟨ky,hky⟩:∃ky:Nat,(aQ m.F (i+1)).func=ky:=⟨(aQ m.F (i+1)).func.toNat,by omega⟩
 have hkyl:ky<fs.length:=by omega
 have hfy:iR fs m.F (i+1)=av fs ky:=by unfold iR;rw[hky,bi]
 rw[hky] at hcell2
 rw[hfy,hky] at hq
 refine aj ?_
 refine dB ((i+1)) rfl ((.ro hm.f))<|aj ?_
 refine eR rfl (fun w hw=>hcell2 _ w hw 0 _ rfl)<|aj ?_
 refine bR [0,3,6,9,12,15,18,21,24,27,30] [] rfl<|aj ?_
 refine tE rfl (bX (k:=kf) fz ge (.ro hs) (by omega) rfl rfl rfl)<|aj ?_
 refine tE rfl (dO (fun w hw=>hfcell _ w hw 3 _ rfl) rfl rfl Cu)<|aj ?_
 refine cy rfl CA (fun w hw=>lf pc 1 (av fs kf).C.length w)<|dc 70 (fun h2=>?_) (fun h2=>?_)
 ·have hc:jv (av fs kf) pc ky=false:=by
   rw[pG,show bF pc 1 (av fs kf).C.length=false from by simpa using h2]
   rfl
  rw[if_pos hc] at hq
  subst hq
  refine aj ?_
  refine bo rfl<|aj ?_
  intro w hw
  exact⟨(none,0),trivial,rfl,(qk hw).msub ms⟩
 have hw1:bF pc 1 (av fs kf).C.length=true:=by simpa using h2
 have hw2:=cU.1 hw1
 refine aj ?_
 refine xn rfl ((.ro hfc))<|aj ?_
 refine eR rfl (SF.opc (.ro hfc) (by omega))<|dc 80 (fun h3=>?_) (fun h3=>?_)
 ·have hc:jv (av fs kf) pc ky=false:=by
   have h3:decide ((bu (av fs kf).C (pc - 1).toNat).c=12)=false:=by simpa using h3
   rw[pG,h3]
   simp
  rw[if_pos hc] at hq
  subst hq
  refine aj ?_
  refine bo rfl<|aj ?_
  intro w hw
  exact⟨(none,0),trivial,rfl,(qk hw).msub ms⟩
 have h3:decide ((bu (av fs kf).C (pc - 1).toNat).c=12)=true:=by simpa using h3
 refine aj ?_
 refine xn rfl ((.ro hfc))<|aj ?_
 refine eR rfl (SF.opa (.ro hfc) (by omega))<|bU (fun h4=>?_) (fun h4=>?_)
 ·have hc:jv (av fs kf) pc ky=false:=by
   rw[pG,decide_eq_false (p:=(bu (av fs kf).C (pc - 1).toNat).a=ky) h4]
   simp
  rw[if_pos hc] at hq
  subst hq
  refine aj ?_
  intro w hw
  exact⟨(none,0),trivial,rfl,(qk hw).msub ms⟩
 have hc:jv (av fs kf) pc ky=true:=by
  rw[pG,hw1,h3,decide_eq_true (p:=(bu (av fs kf).C (pc - 1).toNat).a=ky) h4]
  rfl
 rw[if_neg (by rw[hc];decide)] at hq
 obtain⟨q0,hq0⟩:∃q0,gh fs (av fs kf) (pc - 1)=q0:=⟨_,rfl⟩
 rw[hq0] at hq
 refine aj ?_
 refine bR [0,3,6,9,12,15,18,21,24,29,30,33,36,39,42] [] rfl<|aj ?_
 refine jJ rfl rfl Tryz.call316 (fun w hw=>yq Ap cp fs kf (pc - 1) q0 hq0 w (hw.ro hs) hkl hok hn0) (fun⟨A6,c6⟩ _=>?_)
 refine aL ?_
 refine lz (t:=106) rfl (fun h5=>?_) (fun h5=>?_)
 ·have h5:q0.isSome=false:=by simpa using h5
  rw[if_pos h5] at hq
  subst hq
  refine aj ?_
  refine bo rfl<|aj ?_
  intro w hw
  exact⟨(none,0),trivial,rfl,(qk hw).msub ms⟩
 have h5:q0.isSome=true:=by simpa using h5
 rw[if_neg (by rw[h5];decide)] at hq
 refine aj ?_
 refine cg rfl (fun h6=>?_) (fun h6=>?_)
 ·have h6:q1=none:=by simpa using h6
  subst h6
  have hq:none=q:=hq
  subst hq
  refine aj ?_
  intro w hw
  exact⟨(none,0),trivial,rfl,(qk hw).msub ms⟩
 obtain⟨t,rfl⟩:∃t,q1=some t:=by cases q1 with
  | none=>simp at h6
  | some t=>exact⟨t,rfl⟩
 obtain⟨t0,rfl⟩:∃t0,q0=some t0:=by cases q0 with
  | none=>simp at h5
  | some t0=>exact⟨t0,rfl⟩
 obtain⟨G1,b1,G2,b2,hgl,hgc,hgi,hgcell⟩:=hs.fn hkyl
 have hq:some (if (av fs ky).result≠0 then t.dropLast else t)=q:=hq
 subst hq
 refine aj ?_
 refine dB (ky) rfl ((.ro hs))<|aj ?_
 refine eR rfl (fun w hw=>hgcell _ w hw 2 _ rfl)<|bU (fun h7=>?_) (fun h7=>?_)
 ·have hone:=C9 hF hkl hc hq0 hq1 (by rw[bi];exact h7)
  rw[if_pos h7,List.dropLast_eq_take]
  refine gR (fun w hw=>(hw.rdSl (v:= .slice A5 t.length c5) (xs:=t) fc).form) ?_
  rintro⟨_,_,e,hle,_⟩
  injection e with _ _ e
  have ht8:=((hF.e _ hkl).at_ _ _ hq1).2.2.1
  refine di (t:=7) (v':= .slice A5 t.length c5) rfl (rfl)<|aj ?_
  refine cH (t:=123) (v':= .int .i64 ((t.length - 1:Nat):Int)) rfl (by show Value.int _ ((t.length:Int) - 1)=_;congr 1;omega) ?_
  refine sE (pz (k:=t.length - 1) aW cG (by omega) rfl rfl rfl)<|aj ?_
  intro w hw
  have hlt:(t.take (t.length - 1)).length=t.length - 1:=by rw[ax];omega
  refine⟨(A5,c5),trivial,by show _=Ending.returned (.tuple #[.slice A5 (t.take (t.length - 1)).length c5,.bool true]);rw[hlt],?_⟩
  show Cw B w0 (kU (.slice A5 (t.take (t.length - 1)).length c5) (t.take (t.length - 1))::_::H) w
  rw[hlt]
  exact(LP (k:=t.length - 1) (by omega) (hw.msub (T:=kU (.slice A5 t.length c5) t::am gc [.slice a.Af m.F.length a.cf,.slice a.Ab m.B.length a.cb,.slice a.Ai m.I.length a.ci,.slice a.Ao m.out.length a.co,.int .i64 m.S,.int .i64 m.T,.slice Ap fs.length cp] 190::H) ms)).msub ms
 rw[if_neg (fun h=>h h7)]
 refine aj ?_
 intro w hw
 exact⟨(A5,c5),trivial,rfl,hw.msub ms⟩
end
end
section
theorem yo {α:Type} {L:List (List α)} {k:Nat} (hk:k<L.length):(L.take (k+1)).flatten=(L.take k).flatten++L.getD k []:=by
 rw[ed L k [] hk,List.flatten_append]
 simp
theorem CQ {α:Type} (L:List (List α)) (k:Nat):(L.take k).flatten.length<=L.flatten.length:=by
 rw[<-congrArg List.length (congrArg List.flatten (mI k L)),List.flatten_append,aq]
 omega
theorem Ff (g n:Nat) (hd:Nat->Option Addr×Nat) (L:List (List aF)) (hn:L.length=n) (w:World) (hlt:g<w.heap.size) (hc:∀k,k<n->w.cell? ⟨g,0+k*1,none⟩=some (.slice (hd k).1 (L.getD k []).length (hd k).2))
  (hs:∀k,k<n->Sl w (.slice (hd k).1 (L.getD k []).length (hd k).2) (L.getD k [])) (hb:L.flatten.length*16<=140737488355328) (hn':n<=1000) :
  Calls Tryz.prog 291 #[.slice (some ⟨g,0,none⟩) n n] w fun e w'=> ∃u,e= .returned u/\Below w.heap.size w w'/\eh w' w.heap.size u L.flatten:=by
 subst hn
 have hfl:=CQ L
 refine enter Tryz.func291 rfl Tryz.ntmps291 rfl<|aj ?_
 refine dG (fun k:Nat=>k<=L.length) (fun k=>L.length - k) (fun k=> [(0,.slice (some ⟨g,0,none⟩) L.length L.length),(3,.int .i64 ((L.take k).flatten.length:Int)),(9,.slice (some ⟨g,0,none⟩) L.length L.length),(10,.int .i64 (L.length:Int)),(11,.int .i64 (k:Int))]) (fun _=> []) 0 (bn _) ?_
 rintro k hk
 have hk:k<=L.length:=hk
 refine az (fun h1=>?_) (fun h1=>?_)
 ·have hkn:k<L.length:=by omega
  have hft:=congrArg List.length (yo (L:=L) (k:=k) (by omega))
  rw[aq] at hft
  have hfk:=hfl (k+1)
  refine aj ?_
  refine sE (lO (k:=k) lW lK rfl hkn rfl rfl rfl) ?_
  refine eR rfl (fun w' hw=>(hw.below.cell hlt).trans (hc k hkn))<|az (fun h2=>?_) (fun h2=>?_)
  ·exact absurd h2 (by omega)
  refine di (t:=3) (v':= .int .i64 ((L.take (k+1)).flatten.length:Int)) rfl (by congr 1;omega)<|aj ?_
  refine dw (k+1) (by show k+1<=_;omega) (by show _ - _<_ - _;omega)
 obtain rfl:k=L.length:=by omega
 rw[aR]
 refine aj ?_
 refine eQ rfl Tryz.call315 (fun w hw=>HI L.flatten.length hb w) (fun⟨A2,c2⟩ _=>?_)
 refine aL ?_
 refine dG (fun g:Nat×Option Addr×Nat=>g.1<=L.length) (fun g=>L.length - g.1) (fun q=> [(6,.slice q.2.1 (L.take q.1).flatten.length q.2.2),(25,.slice (some ⟨g,0,none⟩) L.length L.length),(26,.int .i64 (L.length:Int)),(27,.int .i64 (q.1:Int))]) (fun q=> [ap (.slice q.2.1 (L.take q.1).flatten.length q.2.2) (L.take q.1).flatten]) (0,A2,c2) (bn _) ?_
 rintro⟨k,A3,c3⟩ hk
 try dsimp only
 have hk:k<=L.length:=hk
 refine az (fun h1=>?_) (fun h1=>?_)
 ·have hkn:k<L.length:=by omega
  have hft:=yo (L:=L) (k:=k) (by omega)
  have hft2:=congrArg List.length hft
  rw[aq] at hft2
  have hfk:=hfl (k+1)
  refine aj ?_
  refine sE (lO (k:=k) lW lK rfl hkn rfl rfl rfl) ?_
  refine eR rfl (fun w' hw=>(hw.below.cell hlt).trans (hc k hkn))<|aj ?_
  refine oE (jp (α:=aF) (bytes:=16) (xs:=(L.take k).flatten) (ys:=L.getD k []) hft cA (bJ iV) rfl fc (.ro (hs k hkn)) (by omega) (by omega) rfl rfl rfl) (fun⟨A5,c5⟩ _=>?_)
  refine aL ?_
  refine dw (k+1,A5,c5) (by show k+1<=_;omega) (by show _ - _<_ - _;omega)
 obtain rfl:k=L.length:=by omega
 rw[aR]
 refine aj ?_
 intro w hw
 exact⟨_,rfl,ou hw⟩
end
section
theorem NM {nb:Nat} {l:List aF} {k:Nat} (hk:k<l.length) (h:eE nb (l.getD k default)=false):l.any (fun v=>!eE nb v)=true:=cV.2 ⟨_,fR hk,by rw[h];rfl⟩
theorem KM {nb:Nat} {l:List aF} (h:∀j,j<l.length->eE nb (l.getD j default)=true):¬l.any (fun v=>!eE nb v)=true:=fun ha=>by
 obtain⟨v,hv,h2⟩:=cV.1 ha
 obtain⟨j,hj,rfl⟩:=cz hv
 have:=h j hj
 rw[ak,an hj,uD] at this
 rw[this] at h2
 cases h2
theorem Ee {s:List aF} {t:List Int} {n k:Nat} (hk:k<n) (h:gu (s.getD k default) (t.getD k 0)=false):Ef s t n=false:=by
 cases e:Ef s t n with
 | false=>rfl
 | true=>rw[nm.1 e k hk] at h;cases h
section
variable {B:Nat} {w0:World} {H:List aC}
theorem wG (gc:Nat) (a:MA) (m:ar) (Ap:Option Addr) (cp:Nat) (fs:List au) (hs:br w0 B (.slice Ap fs.length cp) fs) (hm:fd B w0 a m) (hF:fk fs) (hfit:mF m.F) (i:Nat) (hi:i<m.F.length) (hfn:∀x∈m.F,0<=x.func/\x.func<fs.length) (E:Int) (hE:gj fs m.B.length m.F i=E) (w:World) (hw:Cw B w0 (am gc [.slice a.Af m.F.length a.cf,.slice a.Ab m.B.length a.cb,.slice a.Ai m.I.length a.ci,.slice a.Ao m.out.length a.co,.int .i64 m.S,.int .i64 m.T,.slice Ap fs.length cp] 190::H) w) :
  Calls Tryz.prog 238 #[.pointer (some ⟨gc,0,none⟩),.int .i64 (i:Int)] w fun e w'=> ∃_:Unit,True/\e= .returned (.int .i64 E)/\Cw B w0 (am gc [.slice a.Af m.F.length a.cf,.slice a.Ab m.B.length a.cb,.slice a.Ai m.I.length a.ci,.slice a.Ao m.out.length a.co,.int .i64 m.S,.int .i64 m.T,.slice Ap fs.length cp] 190::H) w':=by
 have bf:=bB hm.f
 have bp:=bB hs
 obtain⟨A1,c1,A2,c2,hl,hst,hI,hcell⟩:=hm.f.fr hi
 obtain⟨hb1,hb2⟩:=hfit.2 (aQ m.F i) (fT hi)
 have hx:=hfn _ (fT hi)
 obtain⟨kf,hkf⟩:∃kf:Nat,(aQ m.F i).func=kf:=⟨(aQ m.F i).func.toNat,by omega⟩
 have hkl:kf<fs.length:=by omega
 obtain⟨hok,hn0⟩:=jj hF.p hkl
 obtain⟨F1,d1,F2,d2,hfl,hfc,hfi,hfcell⟩:=hs.fn hkl
 have hfl6:(av fs kf).L.length<=6:=(hok.op 0 hn0).par kf hkl |>.2
 have hff:iR fs m.F i=av fs kf:=by unfold iR;rw[hkf,bi]
 unfold gj at hE
 rw[hff] at hE
 rw[hkf] at hcell
 obtain⟨q,hq⟩:∃q,gL fs m.F i=q:=⟨_,rfl⟩
 rw[hq] at hE
 generalize av fs kf=f at hE hfl hfc hfi hfcell hfl6
 generalize aQ m.F i=x at hE hl hst hI hcell hb1 hb2
 have bx1:=bB hl
 have bx2:=bB hst
 refine aY Tryz.func238 rfl Tryz.ntmps238 rfl hw<|aj ?_
 refine dB (i) rfl ((.ro hm.f)) ?_
 refine iQ rfl (hcell _)<|aj ?_
 refine fun g1 _=>aj ?_
 refine bR [0,3,6,9,12,15,18,21,24,29,32] [10] rfl<|aj ?_
 refine tE rfl (bX (k:=kf) fz ge (.ro hs) (by omega) rfl rfl rfl) ?_
 refine tE rfl (fj (hfcell _) rfl rfl NP ge)<|aj ?_
 refine fun g2 _=>bU (fun h1=>?_) (fun h1=>?_)
 ·rw[if_pos (show x.L.length≠f.L.length from fun e=>h1 (by rw[e]))] at hE
  subst hE
  refine aj ?_
  intro w hw
  exact⟨(),trivial,rfl,hw.msub ms⟩
 have h1:x.L.length=f.L.length:=by omega
 rw[if_neg (fun h=>h h1)] at hE
 have hcat: [x.L,x.K].flatten.length*16<=140737488355328:=by simp only[List.flatten_cons,List.flatten_nil,aq,aZ];omega
 refine aj ?_
 intro g3 _
 refine oE (fC rfl rfl rfl Tryz.call291 (fun w hw=>Ff g3 2 (fun k=>if k=0 then (A1,c1) else (A2,c2)) [x.L,x.K] rfl w (kD hw fc) (fun k hk=>by rcases(show k=0\/k=1 by omega) with rfl | rfl;exact fb fc rfl w hw;exact fb fc rfl w hw) (fun k hk=>by rcases(show k=0\/k=1 by omega) with rfl | rfl;exact hw.ro hl;exact hw.ro hst) hcat (by decide))) (fun⟨A5,c5⟩ _=>?_)
 refine aL ?_
 have hfe: [x.L,x.K].flatten=x.L++x.K:=by simp
 rw[hfe]
 rw[hfe] at hcat
 refine dG (fun k:Nat=>k<=(x.L++x.K).length/\∀j,j<k->eE m.B.length ((x.L++x.K).getD j default)=true) (fun k=>(x.L++x.K).length - k) (fun k=> [(0,.pointer (some ⟨gc,0,none⟩)),(1,.int .i64 (i:Int)),(5,.pointer (some ⟨g1,0,none⟩)),(6,.pointer (some ⟨g2,0,none⟩)),(45,.slice A5 (x.L++x.K).length c5),(46,.int .i64 ((x.L++x.K).length:Int)),(47,.int .i64 (k:Int))]) (fun _=>ap (.slice A5 (x.L++x.K).length c5) (x.L++x.K)::am g1 [.int .i64 (kf:Int),.int .i64 x.pc,.slice A1 x.L.length c1,.slice A2 x.K.length c2] 118::am g2 [.int .i64 f.params,.slice F1 f.L.length d1,.int .i64 f.result,.slice F2 f.C.length d2] 84::am gc [.slice a.Af m.F.length a.cf,.slice a.Ab m.B.length a.cb,.slice a.Ai m.I.length a.ci,.slice a.Ao m.out.length a.co,.int .i64 m.S,.int .i64 m.T,.slice Ap fs.length cp] 190::H) 0 (⟨bn _,fun _ h=>absurd h (lH _)⟩) ?_ (hh:=(fun w h=>h.msub ms))
 rintro k hk'
 obtain⟨hk,hno⟩:k<=(x.L++x.K).length/\∀j,j<k->eE m.B.length ((x.L++x.K).getD j default)=true:=hk'
 refine az (fun hlt=>?_) (fun hlt=>?_)
 ·have hkl2:k<(x.L++x.K).length:=by omega
  refine aj ?_
  refine dB (_) rfl ((SF.own rfl fc)) ?_
  refine iQ rfl (SF.val (SF.own rfl fc) hkl2 default)<|aj ?_
  refine fun g4 _=>aj ?_
  refine cc rfl Tryz.call292 (fun w hw=>Fd gc a m (.slice Ap fs.length cp) ((x.L++x.K).getD k default) w (hw.msub (.s fc .r))) (fun _ _=>aj ?_)
  obtain⟨vb,hvb⟩:∃b,eE m.B.length ((x.L++x.K).getD k default)=b:=⟨_,rfl⟩
  rw[hvb]
  cases vb
  ·rw[if_pos (NM hkl2 hvb)] at hE
   subst hE
   rw[if_neg (by decide)]
   refine jF rfl (fun hz=>?_) (fun hz=>?_)
   ·refine aj ?_
    intro w hw
    exact⟨(),trivial,rfl,hw.msub ms⟩
   exact absurd hz (by decide)
  rw[if_pos rfl]
  refine jF rfl (fun hz=>?_) (fun hz=>?_)
  ·exact absurd rfl hz
  refine aj ?_
  refine dw (k+1) (⟨by show k+1<=_;omega,fun j hj=>(jl j k).elim (hno j) (fun h=>by obtain rfl:j=k:=(by omega);exact hvb)⟩) (by show _ - _<_ - _;omega) (hh:=(fun w h=>h.msub ms))
 obtain rfl:k=(x.L++x.K).length:=by omega
 rw[if_neg (KM hno)] at hE
 refine aj ?_
 refine dG (fun k:Nat=>k<=x.L.length/\∀j,j<k->gu (x.L.getD j default) (f.L.getD j 0)=true) (fun k=>x.L.length - k) (fun k=> [(0,.pointer (some ⟨gc,0,none⟩)),(1,.int .i64 (i:Int)),(5,.pointer (some ⟨g1,0,none⟩)),(6,.pointer (some ⟨g2,0,none⟩)),(59,.slice A1 x.L.length c1),(60,.int .i64 (x.L.length:Int)),(61,.int .i64 (k:Int))]) (fun _=>am g1 [.int .i64 (kf:Int),.int .i64 x.pc,.slice A1 x.L.length c1,.slice A2 x.K.length c2] 118::am g2 [.int .i64 f.params,.slice F1 f.L.length d1,.int .i64 f.result,.slice F2 f.C.length d2] 84::am gc [.slice a.Af m.F.length a.cf,.slice a.Ab m.B.length a.cb,.slice a.Ai m.I.length a.ci,.slice a.Ao m.out.length a.co,.int .i64 m.S,.int .i64 m.T,.slice Ap fs.length cp] 190::H) 0 (⟨bn _,fun _ h=>absurd h (lH _)⟩) ?_ (hh:=(fun w h=>h.msub ms))
 rintro k hk'
 obtain⟨hk,hno2⟩:k<=x.L.length/\∀j,j<k->gu (x.L.getD j default) (f.L.getD j 0)=true:=hk'
 refine az (fun hlt=>?_) (fun hlt=>?_)
 ·have hkl2:k<x.L.length:=by omega
  refine aj ?_
  refine dB (_) rfl ((.ro hl)) ?_
  refine iQ rfl (SF.val (SF.ro hl) hkl2 default)<|aj ?_
  refine fun g5 _=>aj ?_
  refine bR [0,3,6,9,12,15,20,21] [] rfl<|aj ?_
  refine tE rfl (bX (k:=k) aW cG (.ro hfl) (by omega) rfl rfl rfl) ?_
  refine tE rfl (dO (SF.int (.ro hfl) (by omega)) rfl rfl dq) ?_
  refine kT rfl rfl Tryz.call293 (fun w hw=>DV (x.L.getD k default) (f.L.getD k 0) w)<|aj ?_
  refine cg rfl (fun hb=>?_) (fun hb=>?_)
  ·have hb:gu (x.L.getD k default) (f.L.getD k 0)=false:=by simpa using hb
   rw[if_pos (Ee hkl2 hb)] at hE
   subst hE
   refine aj ?_
   intro w hw
   exact⟨(),trivial,rfl,hw.msub ms⟩
  have hb:gu (x.L.getD k default) (f.L.getD k 0)=true:=by simpa using hb
  refine aj ?_
  refine dw (k+1) (⟨by show k+1<=_;omega,fun j hj=>(jl j k).elim (hno2 j) (fun h=>by obtain rfl:j=k:=(by omega);exact hb)⟩) (by show _ - _<_ - _;omega) (hh:=(fun w h=>h.msub ms))
 obtain rfl:k=x.L.length:=by omega
 rw[if_neg (by rw[nm.2 hno2];decide)] at hE
 refine aj ?_
 refine cc rfl Tryz.call294 (fun w hw=>H9 (H:=am g1 [.int .i64 (kf:Int),.int .i64 x.pc,.slice A1 x.L.length c1,.slice A2 x.K.length c2] 118::am g2 [.int .i64 f.params,.slice F1 f.L.length d1,.int .i64 f.result,.slice F2 f.C.length d2] 84::H) gc a m Ap cp fs hs hm hF i hi hfn q hq w (hw.msub ms)) (fun⟨A6,c6⟩ _=>?_)
 refine aL ?_
 refine cg rfl (fun hn=>?_) (fun hn=>?_)
 ·have hn:q=none:=by simpa using hn
  subst hn
  subst hE
  refine aj ?_
  intro w hw
  exact⟨(),trivial,rfl,hw.msub ms⟩
 obtain⟨t,rfl⟩:∃t,q=some t:=by cases q with
  | none=>simp at hn
  | some t=>exact⟨t,rfl⟩
 dsimp only[uD] at hE⊢
 refine bU (fun h2=>?_) (fun h2=>?_)
 ·have h2:¬(t.length:Int)=x.K.length:=h2
  rw[if_pos (show t.length≠x.K.length from fun e=>h2 (by rw[e]))] at hE
  subst hE
  refine aj ?_
  intro w hw
  exact⟨(),trivial,rfl,hw.msub ms⟩
 have h2:(t.length:Int)=x.K.length:=h2
 have h2:t.length=x.K.length:=by omega
 rw[if_neg (fun h=>h h2)] at hE
 refine aj ?_
 refine dG (fun k:Nat=>k<=x.K.length/\∀j,j<k->gu (x.K.getD j default) (t.getD j 0)=true) (fun k=>x.K.length - k) (fun k=> [(12,.slice A6 t.length c6),(90,.slice A2 x.K.length c2),(91,.int .i64 (x.K.length:Int)),(92,.int .i64 (k:Int))]) (fun _=>kU (.slice A6 t.length c6) t::am gc [.slice a.Af m.F.length a.cf,.slice a.Ab m.B.length a.cb,.slice a.Ai m.I.length a.ci,.slice a.Ao m.out.length a.co,.int .i64 m.S,.int .i64 m.T,.slice Ap fs.length cp] 190::H) 0 (⟨bn _,fun _ h=>absurd h (lH _)⟩) ?_ (hh:=(fun w h=>h.msub ms))
 rintro k hk'
 obtain⟨hk,hno3⟩:k<=x.K.length/\∀j,j<k->gu (x.K.getD j default) (t.getD j 0)=true:=hk'
 refine az (fun hlt=>?_) (fun hlt=>?_)
 ·have hkl2:k<x.K.length:=by omega
  refine aj ?_
  refine dB (_) rfl ((.ro hst)) ?_
  refine iQ rfl (SF.val (SF.ro hst) hkl2 default)<|aj ?_
  refine fun g6 _=>aj ?_
  refine bR [0,3,6,9,12,17,18] [] rfl<|aj ?_
  refine tE rfl (bX (k:=k) aW cG (SF.rd (xs:=t) rfl fc) (by omega) rfl rfl rfl) ?_
  refine tE rfl (dO (SF.int (SF.rd (xs:=t) rfl fc) (by omega)) rfl rfl dq) ?_
  refine kT rfl rfl Tryz.call293 (fun w hw=>DV (x.K.getD k default) (t.getD k 0) w)<|aj ?_
  refine cg rfl (fun hb=>?_) (fun hb=>?_)
  ·have hb:gu (x.K.getD k default) (t.getD k 0)=false:=by simpa using hb
   rw[if_pos (Ee (by omega) hb)] at hE
   subst hE
   refine aj ?_
   intro w hw
   exact⟨(),trivial,rfl,hw.msub ms⟩
  have hb:gu (x.K.getD k default) (t.getD k 0)=true:=by simpa using hb
  refine aj ?_
  refine dw (k+1) (⟨by show k+1<=_;omega,fun j hj=>(jl j k).elim (hno3 j) (fun h=>by obtain rfl:j=k:=(by omega);exact hb)⟩) (by show _ - _<_ - _;omega) (hh:=(fun w h=>h.msub ms))
 obtain rfl:k=x.K.length:=by omega
 rw[if_neg (by rw[h2,nm.2 hno3];decide)] at hE
 subst hE
 refine aj ?_
 intro w hw
 exact⟨(),trivial,rfl,hw.msub ms⟩
end
end
section
theorem nX {n k:Nat} (hk:k<n):(List.range n).getD k 0=k:=by
 rw[ak,List.getElem?_range hk]
 rfl
theorem Pa {l:List aB} {k n:Nat} (hk:k<l.length) (h:bF (aQ l k).func 0 ((n:Int) - 1)=false):l.any (fun x=>!bF x.func 0 ((n:Int) - 1))=true:=cV.2 ⟨_,fT hk,by rw[h];rfl⟩
theorem Mz {l:List aB} {n:Nat} (h:∀j,j<l.length->bF (aQ l j).func 0 ((n:Int) - 1)=true):(¬l.any (fun x=>!bF x.func 0 ((n:Int) - 1))=true)/\∀x∈l,0<=x.func/\x.func<n:=by
 have h2:∀x∈l,bF x.func 0 ((n:Int) - 1)=true:=fun x hx=>by
  obtain⟨j,hj,rfl⟩:=cz hx
  have:=h j hj
  unfold aQ at this
  rwa [ak,an hj] at this
 refine⟨fun ha=>?_,fun x hx=>?_⟩
 ·obtain⟨x,hx,h3⟩:=cV.1 ha
  rw[h2 x hx] at h3
  cases h3
 have:=cU.1 (h2 x hx)
 omega
section
variable {B:Nat} {w0:World} {H:List aC}
theorem C3 (gc:Nat) (a:MA) (m:ar) (Ap:Option Addr) (cp:Nat) (fs:List au) (hs:br w0 B (.slice Ap fs.length cp) fs) (hm:fd B w0 a m) (hF:fk fs) (hfit:mF m.F) (E:Int) (hE:kN fs m=E) (w:World) (hw:Cw B w0 (am gc [.slice a.Af m.F.length a.cf,.slice a.Ab m.B.length a.cb,.slice a.Ai m.I.length a.ci,.slice a.Ao m.out.length a.co,.int .i64 m.S,.int .i64 m.T,.slice Ap fs.length cp] 190::H) w) :
  Calls Tryz.prog 184 #[.pointer (some ⟨gc,0,none⟩)] w fun e w'=> ∃_:Unit,True/\e= .returned (.int .i64 E)/\Cw B w0 (am gc [.slice a.Af m.F.length a.cf,.slice a.Ab m.B.length a.cb,.slice a.Ai m.I.length a.ci,.slice a.Ao m.out.length a.co,.int .i64 m.S,.int .i64 m.T,.slice Ap fs.length cp] 190::H) w':=by
 have bf:=bB hm.f
 have bp:=bB hs
 unfold kN at hE
 refine aY Tryz.func184 rfl Tryz.ntmps184 rfl hw ?_
 refine cM<|bM<|aH ?_
 refine bL<|dD (fun _:Unit=> ¬6<m.F.length/\¬(m.F.length=0/\m.S≠2)/\¬(0<m.F.length/\m.S=2)) (fun _=> [(0,.pointer (some ⟨gc,0,none⟩))]) (fun _=>am gc [.slice a.Af m.F.length a.cf,.slice a.Ab m.B.length a.cb,.slice a.Ai m.I.length a.ci,.slice a.Ao m.out.length a.co,.int .i64 m.S,.int .i64 m.T,.slice Ap fs.length cp] 190::H) ?_ ?_
 ·refine az (fun h6=>?_) (fun h6=>?_)
  ·rw[if_pos (by omega)] at hE
   subst hE
   refine aj ?_
   intro w hw
   exact⟨(),trivial,rfl,hw.msub ms⟩
  have h6:¬6<m.F.length:=by omega
  rw[if_neg h6] at hE
  refine dc 21 (fun h0=>?_) (fun h0=>?_)
  ·have h0:=of_decide_eq_true h0
   have h0:m.F.length=0:=by omega
   refine bU (fun h2=>?_) (fun h2=>?_)
   ·rw[if_pos ⟨h0,h2⟩] at hE
    subst hE
    refine aj ?_
    intro w hw
    exact⟨(),trivial,rfl,hw.msub ms⟩
   refine dc 32 (fun h3=>?_) (fun h3=>?_)
   ·have h3:=of_decide_eq_true h3
    exact absurd h3 (by omega)
   refine aj ?_
   refine cB rfl<|aj ?_
   refine du () (⟨h6,fun h=>h.2 h2,fun h=>by omega⟩) (hh:=(fun _ h=>h.msub ms))
  have h0:=of_decide_eq_false h0
  have h0:¬m.F.length=0:=by omega
  rw[if_neg (fun h=>h0 h.1)] at hE
  refine aj ?_
  refine cB rfl<|dc 32 (fun h3=>?_) (fun h3=>?_)
  ·refine az (fun h2=>?_) (fun h2=>?_)
   ·rw[if_pos ⟨by omega,h2⟩] at hE
    subst hE
    refine aj ?_
    intro w hw
    exact⟨(),trivial,rfl,hw.msub ms⟩
   refine aj ?_
   refine du () (⟨h6,fun h=>h0 h.1,fun h=>h2 h.2⟩) (hh:=(fun _ h=>h.msub ms))
  have h3:=of_decide_eq_false h3
  exact absurd h3 (by omega)
 rintro⟨⟩ ⟨h1,h2,h3⟩
 rw[if_neg h1,if_neg h2,if_neg h3] at hE
 refine aj ?_
 refine dG (fun k:Nat=>k<=m.F.length/\∀j,j<k->bF (aQ m.F j).func 0 ((fs.length:Int) - 1)=true) (fun k=>m.F.length - k) (fun k=> [(0,.pointer (some ⟨gc,0,none⟩)),(44,.slice a.Af m.F.length a.cf),(45,.int .i64 (m.F.length:Int)),(46,.int .i64 (k:Int))]) (fun _=>am gc [.slice a.Af m.F.length a.cf,.slice a.Ab m.B.length a.cb,.slice a.Ai m.I.length a.ci,.slice a.Ao m.out.length a.co,.int .i64 m.S,.int .i64 m.T,.slice Ap fs.length cp] 190::H) 0 (⟨bn _,fun _ h=>absurd h (lH _)⟩) ?_ (hh:=(fun w h=>h.msub ms))
 rintro k hk'
 obtain⟨hk,hno⟩:k<=m.F.length/\∀j,j<k->bF (aQ m.F j).func 0 ((fs.length:Int) - 1)=true:=hk'
 refine az (fun hlt=>?_) (fun hlt=>?_)
 ·have hkl:k<m.F.length:=by omega
  obtain⟨A1,c1,A2,c2,hl,hst,hI,hcell⟩:=hm.f.fr hkl
  refine aj ?_
  refine dB (_) rfl ((.ro hm.f)) ?_
  refine iQ rfl (hcell _)<|aj ?_
  refine fun g1 _=>aj ?_
  refine bR [0,3,6,9,12,15,18,21,24,29,30] [] rfl<|aj ?_
  refine kT rfl rfl CA (fun w hw=>lf (aQ m.F k).func 0 ((fs.length:Int) - 1) w)<|aj ?_
  refine cg rfl (fun hb=>?_) (fun hb=>?_)
  ·have hb:bF (aQ m.F k).func 0 ((fs.length:Int) - 1)=false:=by simpa using hb
   rw[if_pos (Pa hkl hb)] at hE
   subst hE
   refine aj ?_
   intro w hw
   exact⟨(),trivial,rfl,hw.msub ms⟩
  have hb:bF (aQ m.F k).func 0 ((fs.length:Int) - 1)=true:=by simpa using hb
  refine aj ?_
  refine dw (k+1) (⟨by show k+1<=_;omega,fun j hj=>(jl j k).elim (hno j) (fun h=>by obtain rfl:j=k:=(by omega);exact hb)⟩) (by show _ - _<_ - _;omega) (hh:=(fun w h=>h.msub ms))
 obtain rfl:k=m.F.length:=by omega
 obtain⟨hany,hfn⟩:=Mz hno
 rw[if_neg hany] at hE
 refine aj ?_
 refine dG (fun k:Nat=>k<=m.F.length/\(0<k->¬(0<m.F.length/\(aQ m.F 0).func≠0))/\dS (gj fs m.B.length m.F) ((List.range m.F.length).take k)=0) (fun k=>m.F.length - k) (fun k=> [(0,.pointer (some ⟨gc,0,none⟩)),(66,.slice a.Af m.F.length a.cf),(67,.int .i64 (m.F.length:Int)),(68,.int .i64 (k:Int))]) (fun _=>am gc [.slice a.Af m.F.length a.cf,.slice a.Ab m.B.length a.cb,.slice a.Ai m.I.length a.ci,.slice a.Ao m.out.length a.co,.int .i64 m.S,.int .i64 m.T,.slice Ap fs.length cp] 190::H) 0 (⟨bn _,fun h=>absurd h (lH _),rfl⟩) ?_ (hh:=(fun w h=>h.msub ms))
 rintro k hk'
 obtain⟨hk,hz0,hno2⟩:k<=m.F.length/\(0<k->¬(0<m.F.length/\(aQ m.F 0).func≠0))/\dS (gj fs m.B.length m.F) ((List.range m.F.length).take k)=0:=hk'
 refine az (fun hlt=>?_) (fun hlt=>?_)
 ·have hkl:k<m.F.length:=by omega
  obtain⟨A1,c1,A2,c2,hl,hst,hI,hcell⟩:=hm.f.fr hkl
  refine aj ?_
  refine dB (_) rfl ((.ro hm.f)) ?_
  refine iQ rfl (hcell _)<|aj ?_
  refine fun g2 _=>dc 75 (fun hz=>?_) (fun hz=>?_)
  ·have hz:=of_decide_eq_true hz
   obtain rfl:k=0:=by omega
   refine bU (fun hf=>?_) (fun hf=>?_)
   ·rw[if_pos ⟨hkl,hf⟩] at hE
    subst hE
    refine aj ?_
    intro w hw
    exact⟨(),trivial,rfl,hw.msub ms⟩
   have h0:¬(0<m.F.length/\(aQ m.F 0).func≠0):=fun h=>h.2 hf
   refine aj ?_
   refine cc rfl Tryz.call238 (fun w hw=>wG gc a m Ap cp fs hs hm hF hfit 0 hkl hfn _ rfl w (hw.msub (.s fc .r))) (fun _ _=>bU (fun he=>?_) (fun he=>?_))
   ·have he:gj fs m.B.length m.F 0≠0:=he
    have hsn:=jO (g:=gj fs m.B.length m.F) (l:=List.range m.F.length) 0 (by rw[nN];exact hkl) hno2
    rw[nX hkl] at hsn
    rw[if_neg h0,pD (k:=0+1) (by rw[hsn];exact he),hsn] at hE
    subst hE
    refine aj ?_
    intro w hw
    exact⟨(),trivial,rfl,hw.msub ms⟩
   have he:gj fs m.B.length m.F 0=0:=he
   have hsn:=jO (g:=gj fs m.B.length m.F) (l:=List.range m.F.length) 0 (by rw[nN];exact hkl) hno2
   rw[nX hkl,he] at hsn
   refine aj ?_
   refine dw 1 (⟨by show 1<=_;omega,fun _=>h0,hsn⟩) (by show _ - _<_ - _;omega) (hh:=(fun w h=>h.msub ms))
  have hz:=of_decide_eq_false hz
  have h0:=hz0 (by omega)
  refine aj ?_
  refine cB rfl<|aj ?_
  refine cc rfl Tryz.call238 (fun w hw=>wG gc a m Ap cp fs hs hm hF hfit k hkl hfn _ rfl w (hw.msub (.s fc .r))) (fun _ _=>bU (fun he=>?_) (fun he=>?_))
  ·have he:gj fs m.B.length m.F k≠0:=he
   have hsn:=jO (g:=gj fs m.B.length m.F) (l:=List.range m.F.length) 0 (by rw[nN];exact hkl) hno2
   rw[nX hkl] at hsn
   rw[if_neg h0,pD (k:=k+1) (by rw[hsn];exact he),hsn] at hE
   subst hE
   refine aj ?_
   intro w hw
   exact⟨(),trivial,rfl,hw.msub ms⟩
  have he:gj fs m.B.length m.F k=0:=he
  have hsn:=jO (g:=gj fs m.B.length m.F) (l:=List.range m.F.length) 0 (by rw[nN];exact hkl) hno2
  rw[nX hkl,he] at hsn
  refine aj ?_
  refine dw (k+1) (⟨by show k+1<=_;omega,fun _=>h0,hsn⟩) (by show _ - _<_ - _;omega) (hh:=(fun w h=>h.msub ms))
 obtain rfl:k=m.F.length:=by omega
 rw[bg (by rw[nN];exact aA _)] at hno2
 have h0:¬(0<m.F.length/\(aQ m.F 0).func≠0):=fun h=>hz0 h.1 h
 rw[if_neg h0,hno2] at hE
 subst hE
 refine aj ?_
 intro w hw
 exact⟨(),trivial,rfl,hw.msub ms⟩
end
end
section
theorem Hb (n:Int) (w:World):Calls Tryz.prog 237 #[.int .i64 n] w fun e w'=>e= .returned (.bool (!bA n))/\Below w.heap.size w w':=by
 refine enter Tryz.func237 rfl Tryz.ntmps237 rfl<|aj ?_
 refine cy rfl PO ((fun w hw=>nD ((fun w hw=>oB n w) w hw)))<|aj ?_
 intro w hw
 exact⟨rfl,hw.below⟩
theorem Bi (A:Option Addr) (c:Nat) (l:List Int) (w:World) (hs:Sl w (.slice A l.length c) l):Calls Tryz.prog 183 #[.slice A l.length c] w fun e w'=>e= .returned (.bool (dL l))/\Below w.heap.size w w':=by
 refine enter Tryz.func183 rfl Tryz.ntmps183 rfl<|aj ?_
 refine cy rfl NS (fun w hw=>oV A c l 237 #[] (fun n=>!bA n) w (hw.ro hs) Tryz.call237 (fun w1 _ x _=>Hb x w1))<|aj ?_
 intro w hw
 exact⟨rfl,hw.below⟩
theorem Kg (m:ar):im m=aQ m.F (m.F.length - 1):=by
 unfold im aQ
 rw[List.getLastD_eq_getLast?,List.getLast?_eq_getElem?,ak]
section
variable {B:Nat} {w0:World} {H:List aC}
theorem B6 (gc:Nat) (a:MA) (m:ar) (Ap:Option Addr) (cp:Nat) (fs:List au) (hs:br w0 B (.slice Ap fs.length cp) fs) (hm:fd B w0 a m) (hF:fk fs) (hfit:mF m.F) (E:Int) (hE:fh fs m=E) (w:World) (hw:Cw B w0 (am gc [.slice a.Af m.F.length a.cf,.slice a.Ab m.B.length a.cb,.slice a.Ai m.I.length a.ci,.slice a.Ao m.out.length a.co,.int .i64 m.S,.int .i64 m.T,.slice Ap fs.length cp] 190::H) w) :
  Calls Tryz.prog 131 #[.pointer (some ⟨gc,0,none⟩)] w fun e w'=> ∃_:Unit,True/\e= .returned (.int .i64 E)/\Cw B w0 (am gc [.slice a.Af m.F.length a.cf,.slice a.Ab m.B.length a.cb,.slice a.Ai m.I.length a.ci,.slice a.Ao m.out.length a.co,.int .i64 m.S,.int .i64 m.T,.slice Ap fs.length cp] 190::H) w':=by
 have bf:=bB hm.f
 have bp:=bB hs
 unfold fh at hE
 refine aY Tryz.func131 rfl Tryz.ntmps131 rfl hw ?_
 refine cM<|bM<|aH ?_
 refine bL<|cM<|bM<|aH ?_
 refine aH ?_
 refine bL<|dD (fun _:Unit=>True) (fun _=> [(0,.pointer (some ⟨gc,0,none⟩)),(3,.int .i64 (if m.S=3 then 1 else 0)),(4,.int .i64 (if m.S=3 then 5 else 0))]) (fun _=>am gc [.slice a.Af m.F.length a.cf,.slice a.Ab m.B.length a.cb,.slice a.Ai m.I.length a.ci,.slice a.Ao m.out.length a.co,.int .i64 m.S,.int .i64 m.T,.slice Ap fs.length cp] 190::H) ?_ ?_
 ·refine az (fun h3=>?_) (fun h3=>?_)
  ·rw[if_pos h3,if_pos h3]
   refine aj ?_
   refine nR () (trivial) (hh:=(fun _ h=>h.msub ms))
  rw[if_neg h3,if_neg h3]
  refine aj ?_
  refine du () (trivial) (hh:=(fun _ h=>h.msub ms))
 rintro⟨⟩ _
 refine aj ?_
 refine cy rfl CA (fun w hw=>lf m.S 0 3 w)<|aj ?_
 refine cg rfl (fun h1=>?_) (fun h1=>?_)
 ·rw[if_pos (by simpa using h1)] at hE
  subst hE
  refine aj ?_
  intro w hw
  exact⟨(),trivial,rfl,hw.msub ms⟩
 rw[if_neg (by simpa using h1)] at hE
 refine aj ?_
 refine cy rfl CA (fun w hw=>lf m.T _ _ w)<|aj ?_
 refine cg rfl (fun h2=>?_) (fun h2=>?_)
 ·rw[if_pos (by simpa using h2)] at hE
  subst hE
  refine aj ?_
  intro w hw
  exact⟨(),trivial,rfl,hw.msub ms⟩
 rw[if_neg (by simpa using h2)] at hE
 refine aj ?_
 refine cy rfl Tryz.call182 (fun w hw=>Fm _ m.B w (hw.ro hm.b))<|bU (fun h3=>?_) (fun h3=>?_)
 ·rw[if_pos h3] at hE
  subst hE
  refine aj ?_
  intro w hw
  exact⟨(),trivial,rfl,hw.msub ms⟩
 rw[if_neg (fun h=>h h3)] at hE
 refine gB (gz ?_)
 refine dD (fun _:Unit=>(¬(10<m.I.length\/10<m.out.length))/\¬(dL m.I=true\/dL m.out=true)) (fun _=> [(0,.pointer (some ⟨gc,0,none⟩))]) (fun _=>am gc [.slice a.Af m.F.length a.cf,.slice a.Ab m.B.length a.cb,.slice a.Ai m.I.length a.ci,.slice a.Ao m.out.length a.co,.int .i64 m.S,.int .i64 m.T,.slice Ap fs.length cp] 190::H) ?_ ?_
 ·refine dc 49 (fun h4=>?_) (fun h4=>?_)
  ·have h4:=of_decide_eq_true h4
   rw[if_pos (.inl (by omega))] at hE
   subst hE
   refine aj ?_
   refine bo rfl<|aj ?_
   intro w hw
   exact⟨(),trivial,rfl,hw.msub ms⟩
  have h4:=of_decide_eq_false h4
  refine az (fun h5=>?_) (fun h5=>?_)
  ·rw[if_pos (.inr (by omega))] at hE
   subst hE
   refine aj ?_
   intro w hw
   exact⟨(),trivial,rfl,hw.msub ms⟩
  have h45:¬(10<m.I.length\/10<m.out.length):=by omega
  rw[if_neg h45] at hE
  refine aj ?_
  refine cy rfl Tryz.call183 (fun w hw=>Bi a.Ai a.ci m.I w (hw.ro hm.i))<|dc 65 (fun h6=>?_) (fun h6=>?_)
  ·rw[if_pos (.inl h6)] at hE
   subst hE
   refine aj ?_
   refine bo rfl<|aj ?_
   intro w hw
   exact⟨(),trivial,rfl,hw.msub ms⟩
  refine aj ?_
  refine cy rfl Tryz.call183 (fun w hw=>Bi a.Ao a.co m.out w (hw.ro hm.o))<|aj ?_
  refine cg rfl (fun h7=>?_) (fun h7=>?_)
  ·rw[if_pos (.inr h7)] at hE
   subst hE
   refine aj ?_
   intro w hw
   exact⟨(),trivial,rfl,hw.msub ms⟩
  have h67:¬(dL m.I=true\/dL m.out=true):=by rw[h6,h7];simp
  refine aj ?_
  refine du () (⟨h45,h67⟩) (hh:=(fun _ h=>h.msub ms))
 rintro⟨⟩ ⟨h4,h5⟩
 rw[if_neg h4,if_neg h5] at hE
 refine aj ?_
 refine cc rfl Tryz.call184 (fun w hw=>C3 gc a m Ap cp fs hs hm hF hfit _ rfl w (hw.msub (.s fc .r))) (fun _ _=>bU (fun h6=>?_) (fun h6=>?_))
 ·rw[if_pos h6] at hE
  subst hE
  refine aj ?_
  intro w hw
  exact⟨(),trivial,rfl,hw.msub ms⟩
 rw[if_neg (fun h=>h h6)] at hE
 refine bU (fun h7=>?_) (fun h7=>?_)
 ·rw[if_pos h7] at hE
  subst hE
  refine aj ?_
  intro w hw
  exact⟨(),trivial,rfl,hw.msub ms⟩
 rw[if_neg (fun h=>h h7)] at hE
 obtain⟨_,hdn,hfn,_,hfr⟩:=pM.1 h6
 have hne:m.F.length≠0:=fun h=>by
  have:=hdn.1 (aT h)
  omega
 obtain⟨k,hk⟩:∃k,m.F.length=k+1:=⟨m.F.length - 1,by omega⟩
 have hkl:k<m.F.length:=by omega
 obtain⟨A1,c1,A2,c2,hl,hst,hI,hcell⟩:=hm.f.fr hkl
 have hx:=hfn _ (fT hkl)
 obtain⟨kf,hkf⟩:∃kf:Nat,(aQ m.F k).func=kf:=⟨(aQ m.F k).func.toNat,by omega⟩
 have hkfl:kf<fs.length:=by omega
 obtain⟨F1,d1,F2,d2,hfl,hfc,hfi,hfcell⟩:=hs.fn hkfl
 obtain⟨t,ht,_⟩:=hfr k hkl
 unfold gL iR at ht
 rw[if_pos hk.symm,hkf,bi] at ht
 obtain⟨hp0,hp1,_⟩:=(hF.e _ hkfl).at_ _ _ ht
 have hop:bQ fs m=bu (av fs kf).C (aQ m.F k).pc.toNat:=by
  unfold bQ
  rw[Kg,hk,pU,hkf,bi]
 rw[hop] at hE
 rw[hkf] at hcell
 refine aj ?_
 refine bR [0,3,6,9,12,15,18,21,24,27,30,33,36,39,44,47] [15] rfl<|aj ?_
 refine jY (t:=95) (v':= .int .i64 (k:Int)) rfl (by rw[hk];congr 1;omega) ?_
 refine tE rfl (bX (k:=k) eL fx (.ro hm.f) hkl rfl rfl rfl) ?_
 refine tE rfl (fj (hcell _) rfl rfl QV fx)<|aj ?_
 refine fun g1 _=>aj ?_
 refine bR [0,3,6,9,12,15,18,21,24,27,30,33,36,39,42,45,48,51,54,57,60,63,66,69,72] [] rfl<|aj ?_
 refine lA (t:=105) rfl (fun h8=>?_) (fun h8=>?_)
 ·have h8:=of_decide_eq_true h8
  rw[if_pos (.inl (by omega))] at hE
  subst hE
  refine aj ?_
  refine bo rfl<|aj ?_
  intro w hw
  exact⟨(),trivial,rfl,hw.msub ms⟩
 have h8:=of_decide_eq_false h8
 refine aj ?_
 refine tE rfl (bX (k:=kf) fz ge (.ro hs) (by omega) rfl rfl rfl)<|aj ?_
 refine tE rfl (dO (fun w hw=>hfcell _ w hw 3 _ rfl) rfl rfl Cu)<|aj ?_
 refine tE rfl (tC eK jR (.ro hfc) (by omega) rfl rfl rfl)<|aj ?_
 refine tE rfl (dO (SF.opc (.ro hfc) (by omega)) rfl rfl dq)<|bU (fun h9=>?_) (fun h9=>?_)
 ·rw[if_pos (.inr h9)] at hE
  subst hE
  refine aj ?_
  intro w hw
  exact⟨(),trivial,rfl,hw.msub ms⟩
 have h9:(bu (av fs kf).C (aQ m.F k).pc.toNat).c=21:=h9
 rw[if_neg (fun h=>h.elim (fun h=>h8 (by omega)) (fun h=>h h9))] at hE
 subst hE
 refine aj ?_
 intro w hw
 exact⟨(),trivial,rfl,hw.msub ms⟩
end
theorem rh (Ap:Option Addr) (cp:Nat) (fs:List au) (a:MA) (m:ar) (w:World) (hs:Sl w (.slice Ap fs.length cp) fs) (hm:fd w.heap.size w a m) (hF:fk fs) (hfit:mF m.F) :
  Calls Tryz.prog 74 #[.agg #[.slice Ap fs.length cp],.agg #[.slice a.Af m.F.length a.cf,.slice a.Ab m.B.length a.cb,.slice a.Ai m.I.length a.ci,.slice a.Ao m.out.length a.co,.int .i64 m.S,.int .i64 m.T]] w fun e w'=>e= .returned (.int .i64 (fh fs m))/\Below w.heap.size w w':=by
 refine enter Tryz.func74 rfl Tryz.ntmps74 rfl<|aj ?_
 refine fun g1 _=>aj ?_
 refine fun g2 _=>aj ?_
 refine fun g3 _=>aj ?_
 refine cc rfl Tryz.call131 (fun w hw=>B6 g3 a m Ap cp fs hs hm hF hfit _ rfl w (hw.msub (.s fc .r))) (fun _ _=>aj ?_)
 intro w hw
 exact⟨rfl,hw.below⟩
theorem vY (Ap:Option Addr) (cp:Nat) (fs:List au) (a:MA) (m:ar) (w:World) (hs:Sl w (.slice Ap fs.length cp) fs) (hm:fd w.heap.size w a m) (hfit:mF m.F) :
  Calls Tryz.prog 45 #[.agg #[.slice Ap fs.length cp],.agg #[.slice a.Af m.F.length a.cf,.slice a.Ab m.B.length a.cb,.slice a.Ai m.I.length a.ci,.slice a.Ao m.out.length a.co,.int .i64 m.S,.int .i64 m.T]] w fun e w'=>e= .returned (.int .i64 (fu fs m))/\Below w.heap.size w w':=by
 obtain⟨E,hE⟩:∃E,fu fs m=E:=⟨_,rfl⟩
 rw[hE]
 unfold fu at hE
 refine enter Tryz.func45 rfl Tryz.ntmps45 rfl<|aj ?_
 refine fun g1 _=>aj ?_
 refine fun g2 _=>aj ?_
 refine cy rfl FK (fun w hw=>nx Ap cp fs w (hw.ro hs))<|bU (fun h=>?_) (fun h=>?_)
 ·rw[if_pos h] at hE
  subst hE
  refine aj ?_
  intro w hw
  exact⟨rfl,hw.below⟩
 have h:dU fs=0:=h
 rw[if_neg (fun h'=>h' h)] at hE
 subst hE
 refine aj ?_
 refine cy rfl RE (fun w hw=>rh Ap cp fs a m w (hw.ro hs) (fd.ro hw hm) (nJ h) hfit)<|aj ?_
 intro w hw
 exact⟨rfl,hw.below⟩
end
section
theorem F9 {B:Nat} {w:World} {Ap:Option Addr} {cp:Nat} {fs:List au} (hs:br w B (.slice Ap fs.length cp) fs) (hF:fk fs) {m:ar} (hR:bx fs m) (hst:¬(m.S=2\/m.S=3)):∃li x kf,Cn fs m li x kf:=by
 have hne:m.F≠[]:=fun e=>hst (.inl (hR.dn.1 e))
 obtain⟨li,x,e⟩:∃li x,m.F=li++ [x]:=by
  rcases fw m.F with h1 | ⟨l,z,h1⟩
  ·exact absurd h1 hne
  exact⟨l,z,by rw[h1];simp⟩
 obtain⟨hfn,hloc,t,he,hts⟩:=hR.top e
 obtain⟨kf,hkf⟩:∃kf:Nat,x.func=kf:=⟨x.func.toNat,by omega⟩
 rw[hkf,bi] at he hloc
 have hkl:kf<fs.length:=by omega
 obtain⟨hp0,hp1,ht8,_⟩:=(hF.e _ hkl).at_ _ _ he
 obtain⟨hok,_⟩:=jj hF.p hkl
 obtain⟨F1,d1,F2,d2,hfl,hfc,hfi,hfcell⟩:=hs.fn hkl
 have hn6:=hR.n6
 rw[e,aq,aK] at hn6
 refine⟨li,x,kf,e,hkf,hkl,⟨hp0,hp1⟩,JU hF hkl (x:= {x with pc:=x.pc+1}) hkf he hts hloc.len,hR.bl,by rw[hts.len];omega,fun y hy=>?_,by have:=hR.ob;omega,by omega,(AZ hfc (by omega)).2,by have:=hok.n40;omega⟩
 obtain⟨i,hi,rfl⟩:=cz hy
 obtain⟨u,hu,_,hus⟩:=hR.fr i (by rw[e,aq];omega)
 have hfi2:aQ m.F i=li[i]:=by
  rw[e,gE hi]
  unfold aQ
  rw[ak,an hi]
  rfl
 rw[hfi2] at hus
 rw[hus.len]
 have hz:=hR.fn _ (fT (l:=m.F) (k:=i) (by rw[e,aq];omega))
 have hkz:(aQ m.F i).func.toNat<fs.length:=by omega
 unfold gL iR at hu
 split at hu
 ·have:=((hF.e _ hkz).at_ _ _ hu).2.2.1
  omega
 split at hu
 ·cases hu
 split at hu
 ·cases hu
 cases h5:gh fs (av fs (aQ m.F i).func.toNat) (aQ m.F i).pc with
 | none=>rw[h5] at hu;cases hu
 | some t2=>
  rw[h5] at hu
  have hu:(if (av fs (aQ m.F (i+1)).func.toNat).result≠0 then t2.dropLast else t2)=u:=dM hu
  have:=((hF.e _ hkz).at_ _ _ h5).2.2.1
  rw[<-hu]
  split
  ·rw[List.length_dropLast];omega
  omega
theorem xU {fs:List au} (hF:fk fs):0<fs.length:=by
 have:=(ip hF.p).1
 omega
theorem ve {fs:List au} (hF:fk fs) {m:ar} (hR:bx fs m) {i:Nat} (hi:i<m.F.length):(aQ m.F i).K.length<=8/\(aQ m.F i).L.length<=1000:=by
 obtain⟨u,hu,hul,hus⟩:=hR.fr i hi
 have hz:=hR.fn _ (fT hi)
 have hkz:(aQ m.F i).func.toNat<fs.length:=by omega
 rw[hus.len,hul.len]
 have hn40:=((jj hF.p (xU hF)).1.op 0 (jj hF.p (xU hF)).2).par _ hkz |>.2
 refine⟨?_,by unfold iR;omega⟩
 unfold gL iR at hu
 split at hu
 ·have:=((hF.e _ hkz).at_ _ _ hu).2.2.1
  omega
 split at hu
 ·cases hu
 split at hu
 ·cases hu
 cases h5:gh fs (av fs (aQ m.F i).func.toNat) (aQ m.F i).pc with
 | none=>rw[h5] at hu;cases hu
 | some t2=>
  rw[h5] at hu
  have hu:(if (av fs (aQ m.F (i+1)).func.toNat).result≠0 then t2.dropLast else t2)=u:=dM hu
  have:=((hF.e _ hkz).at_ _ _ h5).2.2.1
  rw[<-hu]
  split
  ·rw[List.length_dropLast];omega
  omega
theorem jt {fs:List au} (hF:fk fs) {m:ar} (hR:bx fs m):FH m:=by
 refine⟨⟨by have:=hR.n6;omega,fun x hx=>?_⟩,uC.of_check hR.bl,by have:=hR.ib;omega,by have:=hR.ob;omega⟩
 obtain⟨i,hi,rfl⟩:=cz hx
 have h:=ve hF hR hi
 have e:aQ m.F i=m.F[i]:=by
  unfold aQ
  rw[ak,an hi]
  rfl
 rw[e] at h
 omega
def eF (fs:List au):ar:=⟨[⟨0,0,dJ (av fs 0).L,[]⟩],[],[],[],0,0⟩
def pY (fs:List au):ar:=if dU fs=0 then eF fs else default
def KT (fs:List au) (m:ar):ar:=if fu fs m=0 then dT fs m else default
theorem mS {fs:List au} (h:dU fs=0):0<fs.length:=by
 have:=(ip (nJ h).p).1
 omega
theorem Bg (Ap:Option Addr) (cp:Nat) (fs:List au) (w:World) (hs:Sl w (.slice Ap fs.length cp) fs) (h0:0<fs.length) (hl6:(av fs 0).L.length<=1000) :
  Calls Tryz.prog 73 #[.agg #[.slice Ap fs.length cp]] w fun e w'=> ∃g:MA,True/\
   e= .returned (.agg #[.slice g.Af (eF fs).F.length g.cf,.slice g.Ab (eF fs).B.length g.cb,.slice g.Ai (eF fs).I.length g.ci,.slice g.Ao (eF fs).out.length g.co,.int .i64 (eF fs).S,.int .i64 (eF fs).T])/\
   Cw w.heap.size w [ap (.slice g.Af (eF fs).F.length g.cf) (eF fs).F,ap (.slice g.Ab (eF fs).B.length g.cb) (eF fs).B,ap (.slice g.Ai (eF fs).I.length g.ci) (eF fs).I,ap (.slice g.Ao (eF fs).out.length g.co) (eF fs).out] w':=by
 obtain⟨A1,c1,A2,c2,hl,hc,hi,hcell⟩:=hs.fn h0
 have hF:(dJ (av fs 0).L).length=(av fs 0).L.length:=my _
 refine enter Tryz.func73 rfl Tryz.ntmps73 rfl<|aj ?_
 refine fun g1 _=>aj ?_
 refine fun g2 _=>aj ?_
 refine dB (0) rfl ((.ro hs)) ?_
 refine iQ rfl (hcell _) ?_
 refine oE (fC rfl rfl rfl Tryz.call130 (fun w hw=>yl (av fs 0).params (av fs 0).result A1 A2 c1 c2 _ (av fs 0).L w (hw.ro hl) (by omega))) (fun⟨A3,c3⟩ _=>?_)
 refine aL ?_
 refine fun g3 _=>aj ?_
 intro w hw
 refine⟨⟨some ⟨g3,0,none⟩,1,none,0,none,0,none,0⟩,trivial,rfl,?_⟩
 have h1:=tx (H:= []) (xs:=(eF fs).F) (g:=g3) (nU.cons (Hel:= [ap (.slice A3 (dJ (av fs 0).L).length c3) (dJ (av fs 0).L),ap (.slice none 0 0) ([]:List aF)]) (cs:= [_,_,_,_]) (Bt (x:=⟨0,0,dJ (av fs 0).L,[]⟩) (by show aD 0/\aD 0;decide)) nU.nil_) rfl (by show 1<=_;decide) ((Cw.nilO aF hw).msub (T:= [am g3 _ _,ap (.slice A3 (dJ (av fs 0).L).length c3) (dJ (av fs 0).L),ap (.slice none 0 0) ([]:List aF)]) ms)
 exact(Cw.nilO (List Int) (Cw.nilO Int (Cw.nilO Int h1))).msub ms
theorem oL {B:Nat} {w0 w:World} {H:List aC} (h:Cw B w0 H w):Cw B w0 (ap (α:=aB) (.slice none 0 0) []::ap (α:=List Int) (.slice none 0 0) []::ap (α:=Int) (.slice none 0 0) []::ap (α:=Int) (.slice none 0 0) []::H) w:=Cw.nilO aB (Cw.nilO (List Int) (Cw.nilO Int (Cw.nilO Int h)))
theorem vW (Ap:Option Addr) (cp:Nat) (fs:List au) (m:ar) (hmm:pY fs=m) (w:World) (hs:Sl w (.slice Ap fs.length cp) fs) :
  Calls Tryz.prog 54 #[.agg #[.slice Ap fs.length cp]] w fun e w'=> ∃g:MA,True/\
   e= .returned (.tuple #[.agg #[.slice g.Af m.F.length g.cf,.slice g.Ab m.B.length g.cb,.slice g.Ai m.I.length g.ci,.slice g.Ao m.out.length g.co,.int .i64 m.S,.int .i64 m.T],.int .i64 (dU fs)])/\Cw w.heap.size w [ap (.slice g.Af m.F.length g.cf) m.F,ap (.slice g.Ab m.B.length g.cb) m.B,ap (.slice g.Ai m.I.length g.ci) m.I,ap (.slice g.Ao m.out.length g.co) m.out] w':=by
 refine enter Tryz.func54 rfl Tryz.ntmps54 rfl<|aj ?_
 refine fun g1 _=>aj ?_
 refine fun g2 _=>aj ?_
 refine cy rfl FK (fun w hw=>nx Ap cp fs w (hw.ro hs))<|aj ?_
 unfold pY at hmm
 refine jF rfl (fun h=>?_) (fun h=>?_)
 ·rw[if_neg h] at hmm
  subst hmm
  refine aj ?_
  intro w hw
  exact⟨⟨none,0,none,0,none,0,none,0⟩,trivial,rfl,(oL hw).msub ms⟩
 have h:dU fs=0:=h
 rw[if_pos h] at hmm
 subst hmm
 refine aj ?_
 refine eQ rfl Tryz.call73 (fun w hw=>Bg Ap cp fs w (hw.ro hs) (mS h) (by have:=((jj (nJ h).p (mS h)).1.op 0 (jj (nJ h).p (mS h)).2).par 0 (mS h) |>.2;omega)) (fun g _=>aj ?_)
 intro w hw
 exact⟨g,trivial,by rw[h],hw.msub ms⟩
end
section
theorem uL {α:Type} :∀(l:List α) (k:Nat) (d:α),l.set k (l.getD k d)=l
 | [],_,_=>rfl
 | _::_,0,_=>rfl
 | x::l,k+1,d=>congrArg (x:: ·) (uL l k d)
def lg (a:MA) (m:ar):dR:=⟨.slice a.Af m.F.length a.cf,.slice a.Ab m.B.length a.cb,.slice a.Ai m.I.length a.ci,.slice a.Ao m.out.length a.co,m.S,m.T⟩
theorem Bu {a:MA} {m:ar} (h:aD m.S/\aD m.T):dR.wf (lg a m):=⟨h,rfl,rfl,rfl,rfl⟩
section
variable {P:Program} {n:NF} {B:Nat} {w0:World} {H H':List aC} {Q:Exit->Act->World->Prop} {env:bH} {x:Code} {ops:Array Oper} {os:List Oper}
theorem tI {α:Type} [Ow α] {w:World} {F:Nat->Prop} {v:Value} {xs:List α} (h:bS w F v xs):∃A c,v= .slice A xs.length c:=by
 obtain⟨A,c,e,_⟩:=(bS.sl h).form
 exact⟨A,c,e⟩
theorem Gt {l:List (dR×ar)} (hok:fG l) {i:Nat} (hi:i<l.length) {w:World} (h:Cw B w0 (dz l::H) w):∃a:MA,l[i].1=lg a l[i].2:=by
 have h1:Cw B w0 (ap l[i].1.fv l[i].2.F::ap l[i].1.bv l[i].2.B::ap l[i].1.iv l[i].2.I::ap l[i].1.ov l[i].2.out::(dz (l.eraseIdx i)::H)) w:=sr hi h
 obtain⟨F1,k1,_⟩:=h1.rd bz.a
 obtain⟨F2,k2,_⟩:=h1.rd (bz.s bz.a)
 obtain⟨F3,k3,_⟩:=h1.rd (bz.s (bz.s bz.a))
 obtain⟨F4,k4,_⟩:=h1.rd (bz.s (bz.s (bz.s bz.a)))
 obtain⟨Af,cf,e1⟩:=tI k1
 obtain⟨Ab,cb,e2⟩:=tI k2
 obtain⟨Ai,ci,e3⟩:=tI k3
 obtain⟨Ao,co,e4⟩:=tI k4
 obtain⟨s1,s2⟩:=hok l[i] (cP hi)
 refine⟨⟨Af,cf,Ab,cb,Ai,ci,Ao,co⟩,?_⟩
 cases h:l[i] with
 | mk a b=>
  rw[h] at e1 e2 e3 e4 s1 s2
  cases a
  simp only at e1 e2 e3 e4 s1 s2
  subst e1 e2 e3 e4 s1 s2
  rfl
theorem Og {l:List (dR×ar)} {i:Nat} (hi:i<l.length) {w:World} (h:Cw B w0 (dz l::H) w):Sl w l[i].1.fv l[i].2.F/\Sl w l[i].1.bv l[i].2.B/\Sl w l[i].1.iv l[i].2.I/\Sl w l[i].1.ov l[i].2.out:=by
 have h1:Cw B w0 (ap l[i].1.fv l[i].2.F::ap l[i].1.bv l[i].2.B::ap l[i].1.iv l[i].2.I::ap l[i].1.ov l[i].2.out::(dz (l.eraseIdx i)::H)) w:=sr hi h
 obtain⟨F1,k1,_⟩:=h1.rd bz.a
 obtain⟨F2,k2,_⟩:=h1.rd (bz.s bz.a)
 obtain⟨F3,k3,_⟩:=h1.rd (bz.s (bz.s bz.a))
 obtain⟨F4,k4,_⟩:=h1.rd (bz.s (bz.s (bz.s bz.a)))
 exact⟨bS.sl k1,bS.sl k2,bS.sl k3,bS.sl k4⟩
theorem Ha {l:List (dR×ar)} {i:Nat} (hi:i<l.length):aw (l.map Prod.snd) i=l[i].2:=by
 unfold aw
 rw[ak,cJ,an hi]
 rfl
theorem HH {l:List (dR×ar)} {i:Nat} (hi:i<l.length) (d:dR):(l.map Prod.fst).getD i d=l[i].1:=by
 rw[ak,cJ,an hi]
 rfl
abbrev RM (a:MA) (m:ar) (H:List aC):List aC:=ap (.slice a.Af m.F.length a.cf) m.F::ap (.slice a.Ab m.B.length a.cb) m.B::ap (.slice a.Ai m.I.length a.ci) m.I::ap (.slice a.Ao m.out.length a.co) m.out::H
structure La (B:Nat) (w0:World) (X:aC) (L:List ar) (k:Nat) (hs:List dR) (a:MA):Prop where
 len:hs.length=L.length
 hd:hs.getD k default=lg a (aw L k)
 i64:aD (aw L k).S/\aD (aw L k).T
 back:∀(v:Value) (g:MA) (m:ar) H w,Cw B w0 (ap v (hs.set k (lg g m))::RM g m (X::H)) w->Cw B w0 (ap v (L.set k m)::H) w
theorem PH {v:Value} {L:List ar} {k:Nat} (hk:k<L.length) (hp:bz H (ap v L) H') {w:World} (hw:Cw B w0 H w) :
  ∃X hs a,La B w0 X L k hs a/\Cw B w0 (ap v hs::RM a (aw L k) (X::H')) w:=by
 obtain⟨l,hl,hok,h3⟩:=AX (hw.perm hp)
 have hkl:k<l.length:=by rw[<-aN (f:=Prod.snd),hl];exact hk
 have h4:=h3.perm (List.Perm.swap ..)
 obtain⟨a,ea⟩:=Gt hok hkl h4
 have em:aw L k=l[k].2:=by rw[<-hl];exact Ha hkl
 have h5:Cw B w0 (ap l[k].1.fv l[k].2.F::ap l[k].1.bv l[k].2.B::ap l[k].1.iv l[k].2.I::ap l[k].1.ov l[k].2.out::(dz (l.eraseIdx k)::ap v (l.map Prod.fst)::H')) w:=sr hkl h4
 rw[ea,<-em] at h5
 have hwf:dR.wf l[k].1:=mj h3 .a (ph (cP hkl))
 have hI:aD (aw L k).S/\aD (aw L k).T:=by
  rw[ea,<-em] at hwf
  exact hwf.1
 refine⟨dz (l.eraseIdx k),l.map Prod.fst,a,⟨by rw[<-hl,aN,aN],by rw[HH hkl,ea,em],hI,fun u g m H1 w1 h=>?_⟩,h5.msub ms⟩
 have hq:fG (l.set k (lg g m,m)):=hok.set (q:=(lg g m,m)) ⟨rfl,rfl⟩
 have h6:Cw B w0 (gT.parts (lg g m,m).1 (lg g m,m).2++dz (l.eraseIdx k)::ap u ((l.map Prod.fst).set k (lg g m))::H1) w1:=h.msub (T:=RM g m (dz (l.eraseIdx k)::ap u ((l.map Prod.fst).set k (lg g m))::H1)) ms
 have h7:=Dy hkl h6
 have e1:(l.map Prod.fst).set k (lg g m)=(l.set k (lg g m,m)).map Prod.fst:=by rw[List.map_set]
 rw[e1] at h7
 have h8:=sW hq (h7.perm (List.Perm.swap ..))
 rw[List.map_set,hl] at h8
 exact h8
theorem BP {v:Value} {L:List ar} {k:Nat} (hk:k<L.length) (hp:bz H (ap v L) H') (h:∀X hs a,La B w0 X L k hs a->CW P n B w0 x Q env (ap v hs::RM a (aw L k) (X::H'))):CW P n B w0 x Q env H:=fun a w hf hw=>by
 obtain⟨X,hs,g,h1,h2⟩:=PH hk hp hw
 exact h X hs g h1 a w hf h2
theorem La.same {X:aC} {L:List ar} {k:Nat} {hs:List dR} {a:MA} (h:La B w0 X L k hs a) (_:k<L.length) {v:Value} {w:World} (hw:Cw B w0 (ap v hs::RM a (aw L k) (X::H)) w):Cw B w0 (ap v L::H) w:=by
 have e1:hs.set k (lg a (aw L k))=hs:=by
  rw[<-h.hd]
  exact uL hs k default
 have e2:L.set k (aw L k)=L:=uL L k default
 have:=h.back v a (aw L k) H w (by rw[e1];exact hw)
 rwa [e2] at this
structure Qz (B:Nat) (w0:World) (X:aC) (L:List ar) (hs:List dR):Prop where
 el:∀i,i<L.length->∃a:MA,hs.getD i default=lg a (aw L i)/\(aD (aw L i).S/\aD (aw L i).T)/\
  ∀H H',bz H X H'->SF B w0 H a.Af (aw L i).F.length a.cf (aw L i).F/\SF B w0 H a.Ab (aw L i).B.length a.cb (aw L i).B/\SF B w0 H a.Ai (aw L i).I.length a.ci (aw L i).I/\SF B w0 H a.Ao (aw L i).out.length a.co (aw L i).out
 len:hs.length=L.length
 back:∀H H' H'' v w,bz H (ap v hs) H'->bz H' X H''->Cw B w0 H w->Cw B w0 (ap v L::H'') w
theorem Oq {v:Value} {L:List ar} (hp:bz H (ap v L) H') {w:World} (hw:Cw B w0 H w):∃X hs,Qz B w0 X L hs/\Cw B w0 (ap v hs::X::H') w:=by
 obtain⟨l,hl,hok,h3⟩:=AX (hw.perm hp)
 have hll:l.length=L.length:=by rw[<-hl,aN]
 refine⟨dz l,l.map Prod.fst,⟨fun i hi=>?_,by rw[aN,hll],fun H1 H2 H3 v w f1 f2 hw=>?_⟩,h3⟩
 ·have hi':i<l.length:=by omega
  have h4:=h3.perm (List.Perm.swap ..)
  obtain⟨a,ea⟩:=Gt hok hi' h4
  have em:aw L i=l[i].2:=by rw[<-hl];exact Ha hi'
  have hwf:dR.wf l[i].1:=mj h3 .a (ph (cP hi'))
  have hI:aD (aw L i).S/\aD (aw L i).T:=by
   rw[ea,<-em] at hwf
   exact hwf.1
  refine⟨a,by rw[HH hi',ea,em],hI,fun H1 H2 f=>?_⟩
  have key:∀w,Cw B w0 H1 w->Sl w (.slice a.Af (aw L i).F.length a.cf) (aw L i).F/\Sl w (.slice a.Ab (aw L i).B.length a.cb) (aw L i).B/\Sl w (.slice a.Ai (aw L i).I.length a.ci) (aw L i).I/\Sl w (.slice a.Ao (aw L i).out.length a.co) (aw L i).out:=fun w hw=>by
   have:=Og hi' (hw.perm f)
   rw[ea,<-em] at this
   exact this
  exact⟨⟨rfl,fun w hw=>(key w hw).1⟩,⟨rfl,fun w hw=>(key w hw).2.1⟩,⟨rfl,fun w hw=>(key w hw).2.2.1⟩,⟨rfl,fun w hw=>(key w hw).2.2.2⟩⟩
 have:=sW (v:=v) (H:=H3) hok ((hw.perm f1).perm (List.Perm.cons _ f2))
 rw[hl] at this
 exact this
theorem sT {v:Value} {L:List ar} (hp:bz H (ap v L) H') (h:∀X hs,Qz B w0 X L hs->CW P n B w0 x Q env (ap v hs::X::H')):CW P n B w0 x Q env H:=fun a w hf hw=>by
 obtain⟨X,hs,h1,h2⟩:=Oq hp hw
 exact h X hs h1 a w hf h2
theorem SF.hmc {A:Option Addr} {xs:List dR} {m c k:Nat} {a:MA} {y:ar} (hs:SF B w0 H A m c xs) (hk:k<m) (e:xs.getD k default=lg a y) :
  ∀w,Cw B w0 H w->∀j v,([.slice a.Af y.F.length a.cf,.slice a.Ab y.B.length a.cb,.slice a.Ai y.I.length a.ci,.slice a.Ao y.out.length a.co,.int .i64 y.S,.int .i64 y.T]:List Value)[j]? =some v->w.cell? ⟨ab A,ao A+k*6+j,none⟩=some v:=
 fun w hw j v hv=>SF.cell hs hk default (by rw[e];exact hv) w hw
theorem SF.min {a:MA} {m:ar} {w:World} (h:SF B w0 H a.Af m.F.length a.cf m.F/\SF B w0 H a.Ab m.B.length a.cb m.B/\SF B w0 H a.Ai m.I.length a.ci m.I/\SF B w0 H a.Ao m.out.length a.co m.out) (hi:aD m.S/\aD m.T) (hw:Cw B w0 H w):fd w.heap.size w a m:=
 ⟨SF.at_ h.1 hw,SF.at_ h.2.1 hw,SF.at_ h.2.2.1 hw,SF.at_ h.2.2.2 hw,hi.1,hi.2⟩
theorem vQ {R1 R2 R3 R4 R5 R6:aC} {H1 H2 H3 H4 H5 H6:List aC} (h1:bz H R1 H1) (h2:bz H1 R2 H2) (h3:bz H2 R3 H3) (h4:bz H3 R4 H4) (h5:bz H4 R5 H5) (h6:bz H5 R6 H6):H.Perm ((R1::R2:: [R3,R4,R5,R6])++H6):=
 h1.trans (.cons _ (h2.trans (.cons _ (h3.trans (.cons _ (h4.trans (.cons _ (h5.trans (.cons _ h6)))))))))
theorem oP {v1 v2 v3 v4:Value} {m:ar} (hi:aD m.S/\aD m.T):∀(w:World) (F:Nat->Prop),Hs w [ap v1 m.F,ap v2 m.B,ap v3 m.I,ap v4 m.out] F->Ow.own w F [v1,v2,v3,v4,.int .i64 m.S,.int .i64 m.T] m:=
 fun _ _ h=>⟨v1,v2,v3,v4,rfl,hi,h⟩
end
end
section
theorem Kp:Tryz.prog.eqGuardType Tryz.prog.depth 159=false:=by kernel_rfl
theorem Qd:Tryz.prog.stoodInHeld 159=false:=by kernel_rfl
theorem P7 (w : World) (a c : Bool) (b d : Int) : (binOp .neq 159 (.agg #[.bool a, .int .i64 b]) (.agg #[.bool c, .int .i64 d])).run Tryz.prog w = .ok (.bool (!(a == c && b == d))) w := by
  have h := Qd
  by_cases h1 : a = c <;> by_cases h2 : b = d <;> simp [go_sem, h, h1, h2]
theorem P8 (x y : Operand) (u v : Array Value) (w : World) : (eqGuard .neq 159 x y (.agg u) (.agg v)).run Tryz.prog w = .ok () w := by
  have h := Kp
  simp [eqGuard, go_sem, h]
theorem O3 {v u:aF} :(v.ref == u.ref && v.n == u.n)=decide (v=u):=by
 obtain⟨a,b⟩:=v
 obtain⟨c,d⟩:=u
 by_cases h1:a=c <;> by_cases h2:b=d <;> simp[h1,h2]
theorem qL {α:Type} {a b:List α} {i:Nat} (d:α) (h1:i<a.length) (h2:i<b.length) (h:a.take i=b.take i) (e:a.getD i d=b.getD i d):a.take (i+1)=b.take (i+1):=by
 rw[ed a i d h1,ed b i d h2,h,e]
theorem zG {α:Type} {a b:List α} {i:Nat} (d:α) (e:¬a.getD i d=b.getD i d):¬a=b:=fun h=>e (by rw[h])
theorem pZ (A1 A2:Option Addr) (c1 c2:Nat) (a b:List aF) (w:World) (h1:Sl w (.slice A1 a.length c1) a) (h2:Sl w (.slice A2 b.length c2) b) :
  Calls Tryz.prog 69 #[.slice A1 a.length c1,.slice A2 b.length c2] w fun e w'=>e= .returned (.bool (decide (a=b)))/\Below w.heap.size w w':=by
 have b1:=bB h1
 refine enter Tryz.func69 rfl Tryz.ntmps69 rfl<|bU (fun hl=>?_) (fun hl=>?_)
 ·refine aj ?_
  intro w hw
  exact⟨aM (by rw[decide_eq_false (fun e=>hl (by rw[e]))]),hw.below⟩
 have hl:a.length=b.length:=by omega
 refine aj ?_
 refine dG (fun i:Nat=>i<=a.length/\a.take i=b.take i) (fun i=>a.length - i) (fun i=> [(0,.slice A1 a.length c1),(1,.slice A2 b.length c2),(5,.int .i64 (i:Int))]) (fun _=> []) 0 (⟨bn _,rfl⟩) ?_
 rintro i hi'
 obtain⟨hi,hj⟩:i<=a.length/\a.take i=b.take i:=hi'
 refine az (fun hlt=>?_) (fun hlt=>?_)
 ·have hil:i<a.length:=by omega
  have hil2:i<b.length:=by omega
  refine aj ?_
  refine bR [0,3,6,9,12,15,18,21,24] [] rfl<|aj ?_
  refine tE rfl (bX (k:=i) cA fe (.ro h1) (by omega) rfl rfl rfl) ?_
  refine tE rfl (fj (SF.val (SF.ro h1) hil default) rfl rfl IK fe)<|aj ?_
  refine tE rfl (bX (k:=i) cA fe (.ro h2) (by omega) rfl rfl rfl) ?_
  refine tE rfl (fj (SF.val (SF.ro h2) hil2 default) rfl rfl IK fe) ?_
  refine tE rfl (oI rfl rfl rfl (fun w=>P7 w _ _ _ _) (fun w=>P8 _ _ _ _ w))<|aj ?_
  rw[O3]
  refine jF rfl (fun he=>?_) (fun he=>?_)
  ·refine aj ?_
   intro w hw
   exact⟨aM (by rw[decide_eq_false (zG default he)]),hw.below⟩
  refine aj ?_
  refine dw (i+1) (⟨by show i+1<=_;omega,qL default hil hil2 hj he⟩) (by show _ - _<_ - _;omega)
 obtain rfl:i=a.length:=by omega
 rw[aR,hl,aR] at hj
 refine aj ?_
 intro w hw
 exact⟨aM (by rw[decide_eq_true hj]),hw.below⟩
theorem wX (A1 A2:Option Addr) (c1 c2:Nat) (a b:List (List Int)) (w:World) (h1:Sl w (.slice A1 a.length c1) a) (h2:Sl w (.slice A2 b.length c2) b) :
  Calls Tryz.prog 68 #[.slice A1 a.length c1,.slice A2 b.length c2] w fun e w'=>e= .returned (.bool (decide (a=b)))/\Below w.heap.size w w':=by
 have b1:=bB h1
 refine enter Tryz.func68 rfl Tryz.ntmps68 rfl<|bU (fun hl=>?_) (fun hl=>?_)
 ·refine aj ?_
  intro w hw
  exact⟨aM (by rw[decide_eq_false (fun e=>hl (by rw[e]))]),hw.below⟩
 have hl:a.length=b.length:=by omega
 refine aj ?_
 refine dG (fun i:Nat=>i<=a.length/\a.take i=b.take i) (fun i=>a.length - i) (fun i=> [(0,.slice A1 a.length c1),(1,.slice A2 b.length c2),(5,.int .i64 (i:Int))]) (fun _=> []) 0 (⟨bn _,rfl⟩) ?_
 rintro i hi'
 obtain⟨hi,hj⟩:i<=a.length/\a.take i=b.take i:=hi'
 refine az (fun hlt=>?_) (fun hlt=>?_)
 ·have hil:i<a.length:=by omega
  have hil2:i<b.length:=by omega
  obtain⟨A3,c3,hb1,hc1⟩:=h1.sub hil
  obtain⟨A4,c4,hb2,hc2⟩:=h2.sub hil2
  refine aj ?_
  refine bR [0,3,6,9,12,15,18,21,26,27] [] rfl<|aj ?_
  refine tE rfl (bX (k:=i) iq kZ (.ro h1) (by omega) rfl rfl rfl) ?_
  refine tE rfl (dO (hc1 _) rfl rfl vq)<|aj ?_
  refine tE rfl (bX (k:=i) iq kZ (.ro h2) (by omega) rfl rfl rfl) ?_
  refine tE rfl (dO (hc2 _) rfl rfl vq) ?_
  refine kT rfl rfl nV (fun w hw=>jC _ _ _ _ (a.getD i []) (b.getD i []) w (hw.ro hb1) (hw.ro hb2))<|bU (fun he=>?_) (fun he=>?_)
  ·refine aj ?_
   intro w hw
   exact⟨aM (by rw[decide_eq_false (zG [] he)]),hw.below⟩
  refine aj ?_
  refine dw (i+1) (⟨by show i+1<=_;omega,qL [] hil hil2 hj he⟩) (by show _ - _<_ - _;omega)
 obtain rfl:i=a.length:=by omega
 rw[aR,hl,aR] at hj
 refine aj ?_
 intro w hw
 exact⟨aM (by rw[decide_eq_true hj]),hw.below⟩
theorem fI {α:Type} {f:ar->α} {m1 m2:ar} (h:¬f m1=f m2):¬m1=m2:=fun e=>h (by rw[e])
theorem Mq {m1 m2:ar} (h1:m1.S=m2.S) (h2:m1.T=m2.T) (h3:m1.B=m2.B) (h4:m1.I=m2.I) (h5:m1.out=m2.out) (h6:m1.F=m2.F):m1=m2:=by
 cases m1;cases m2;simp_all
theorem zp {l1 l2:List aB} {i:Nat} {α:Type} {f:aB->α} (h:¬f (aQ l1 i)=f (aQ l2 i)):¬l1=l2:=fun e=>h (by rw[e])
theorem O9 {x y:aB} (h1:x.func=y.func) (h2:x.pc=y.pc) (h3:x.L=y.L) (h4:x.K=y.K):x=y:=by
 cases x;cases y;simp_all
theorem kI {p:Prop} [Decidable p] (h:(!decide p)=true):¬p:=by simpa using h
theorem jE {p:Prop} [Decidable p] (h:(!decide p)=false):p:=by simpa using h
theorem sj (a b:MA) (m1 m2:ar) (w:World) (h1:fd w.heap.size w a m1) (h2:fd w.heap.size w b m2) :
  Calls Tryz.prog 15 #[.agg #[.slice a.Af m1.F.length a.cf,.slice a.Ab m1.B.length a.cb,.slice a.Ai m1.I.length a.ci,.slice a.Ao m1.out.length a.co,.int .i64 m1.S,.int .i64 m1.T],
   .agg #[.slice b.Af m2.F.length b.cf,.slice b.Ab m2.B.length b.cb,.slice b.Ai m2.I.length b.ci,.slice b.Ao m2.out.length b.co,.int .i64 m2.S,.int .i64 m2.T]] w fun e w'=>e= .returned (.bool (decide (m1=m2)))/\Below w.heap.size w w':=by
 have b1:=bB h1.f
 refine enter Tryz.func15 rfl Tryz.ntmps15 rfl<|aj ?_
 refine fun g1 _=>aj ?_
 refine fun g2 _=>dc 13 (fun e1=>?_) (fun e1=>?_)
 ·refine aj ?_
  refine bo rfl<|aj ?_
  intro w hw
  exact⟨aM (by rw[decide_eq_false (fI (f:=ar.S) (kI e1))]),hw.below⟩
 have e1:=jE e1
 refine dc 20 (fun e2=>?_) (fun e2=>?_)
 ·refine aj ?_
  refine bo rfl<|aj ?_
  intro w hw
  exact⟨aM (by rw[decide_eq_false (fI (f:=ar.T) (kI e2))]),hw.below⟩
 have e2:=jE e2
 refine aj ?_
 refine cy rfl Tryz.call68 (fun w hw=>wX _ _ _ _ m1.B m2.B w (hw.ro h1.b) (hw.ro h2.b))<|dc 28 (fun e3=>?_) (fun e3=>?_)
 ·refine aj ?_
  refine bo rfl<|aj ?_
  intro w hw
  exact⟨aM (by rw[decide_eq_false (fI (f:=ar.B) (kI e3))]),hw.below⟩
 have e3:=jE e3
 refine aj ?_
 refine cy rfl nV (fun w hw=>jC _ _ _ _ m1.I m2.I w (hw.ro h1.i) (hw.ro h2.i))<|dc 36 (fun e4=>?_) (fun e4=>?_)
 ·refine aj ?_
  refine bo rfl<|aj ?_
  intro w hw
  exact⟨aM (by rw[decide_eq_false (fI (f:=ar.I) (kI e4))]),hw.below⟩
 have e4:=jE e4
 refine aj ?_
 refine cy rfl nV (fun w hw=>jC _ _ _ _ m1.out m2.out w (hw.ro h1.o) (hw.ro h2.o))<|dc 44 (fun e5=>?_) (fun e5=>?_)
 ·refine aj ?_
  refine bo rfl<|aj ?_
  intro w hw
  exact⟨aM (by rw[decide_eq_false (fI (f:=ar.out) (kI e5))]),hw.below⟩
 have e5:=jE e5
 refine bU (fun e6=>?_) (fun e6=>?_)
 ·refine aj ?_
  intro w hw
  exact⟨aM (by rw[decide_eq_false (fI (f:=fun m=>m.F.length) (fun h=>e6 (by rw[show m1.F.length=m2.F.length from h])))]),hw.below⟩
 have e6:m1.F.length=m2.F.length:=by omega
 refine aj ?_
 refine dG (fun i:Nat=>i<=m1.F.length/\m1.F.take i=m2.F.take i) (fun i=>m1.F.length - i) (fun i=> [(2,.pointer (some ⟨g1,0,none⟩)),(3,.pointer (some ⟨g2,0,none⟩)),(5,.int .i64 (i:Int))]) (fun _=> [am g1 [.slice a.Af m1.F.length a.cf,.slice a.Ab m1.B.length a.cb,.slice a.Ai m1.I.length a.ci,.slice a.Ao m1.out.length a.co,.int .i64 m1.S,.int .i64 m1.T] 43,am g2 [.slice b.Af m2.F.length b.cf,.slice b.Ab m2.B.length b.cb,.slice b.Ai m2.I.length b.ci,.slice b.Ao m2.out.length b.co,.int .i64 m2.S,.int .i64 m2.T] 43]) 0 (⟨bn _,rfl⟩) ?_
 rintro i hi'
 obtain⟨hi,hj⟩:i<=m1.F.length/\m1.F.take i=m2.F.take i:=hi'
 refine az (fun hlt=>?_) (fun hlt=>?_)
 ·have hil:i<m1.F.length:=by omega
  have hil2:i<m2.F.length:=by omega
  obtain⟨A1,c1,A2,c2,hl1,hs1,hI1,hc1⟩:=h1.f.fr hil
  obtain⟨A3,c3,A4,c4,hl2,hs2,hI2,hc2⟩:=h2.f.fr hil2
  refine gB (gz ?_)
  refine cM<|gZ<|dD (fun _:Nat×Nat=>True) (fun g=> [(2,.pointer (some ⟨g1,0,none⟩)),(3,.pointer (some ⟨g2,0,none⟩)),(5,.int .i64 (i:Int)),(6,.pointer (some ⟨g.1,0,none⟩)),(7,.pointer (some ⟨g.2,0,none⟩))]) (fun g=> [am g1 [.slice a.Af m1.F.length a.cf,.slice a.Ab m1.B.length a.cb,.slice a.Ai m1.I.length a.ci,.slice a.Ao m1.out.length a.co,.int .i64 m1.S,.int .i64 m1.T] 43,am g2 [.slice b.Af m2.F.length b.cf,.slice b.Ab m2.B.length b.cb,.slice b.Ai m2.I.length b.ci,.slice b.Ao m2.out.length b.co,.int .i64 m2.S,.int .i64 m2.T] 43,am g.1 [.int .i64 (aQ m1.F i).func,.int .i64 (aQ m1.F i).pc,.slice A1 (aQ m1.F i).L.length c1,.slice A2 (aQ m1.F i).K.length c2] 118,am g.2 [.int .i64 (aQ m2.F i).func,.int .i64 (aQ m2.F i).pc,.slice A3 (aQ m2.F i).L.length c3,.slice A4 (aQ m2.F i).K.length c4] 118]) ?_ ?_
  ·refine BO (.still 0 (.still 1 (.still 2 (.still 3 (.still 4 (.still 5 (.still 6 (.still 7 (.still 8 (.still 9 (.pick 10 (.pick 11 (.pick 12 (.pick 13 .done .stop) .stop) .stop) (.pick 11 (.pick 10 (.pick 12 (.pick 13 .done .stop) .stop) .stop) .stop)))))))))))) [13] rfl (by kernel_rfl) (by kernel_rfl) [am g1 [.slice a.Af m1.F.length a.cf,.slice a.Ab m1.B.length a.cb,.slice a.Ai m1.I.length a.ci,.slice a.Ao m1.out.length a.co,.int .i64 m1.S,.int .i64 m1.T] 43,am g2 [.slice b.Af m2.F.length b.cf,.slice b.Ab m2.B.length b.cb,.slice b.Ai m2.I.length b.ci,.slice b.Ao m2.out.length b.co,.int .i64 m2.S,.int .i64 m2.T] 43] ?_
   refine aj ?_
   refine tE rfl (bX (k:=i) eL fx (.ro h1.f) (by omega) rfl rfl rfl) ?_
   refine tE rfl (fj (hc1 _) rfl rfl QV fx)<|aj ?_
   refine tE rfl (bX (k:=i) eL fx (.ro h2.f) (by omega) rfl rfl rfl) ?_
   refine tE rfl (fj (hc2 _) rfl rfl QV fx) ?_
   refine en rfl (mY Tryz.zeroValue118 rfl rfl) rfl rfl (.inr fun _=>ha) (fun q1 _=>?_) ?_
   ·refine aj ?_
    intro q2 _
    refine aj ?_
    refine cu<|du (q1,q2) (trivial) (hh:=(fun _ h=>h.msub ms))
   refine aj ?_
   intro q2 _
   refine aj ?_
   intro q1 _
   refine aj ?_
   refine cu<|du (q1,q2) (trivial) (hh:=(fun _ h=>h.msub ms))
  rintro⟨q1,q2⟩ _
  dsimp only
  refine dc 75 (fun f1=>?_) (fun f1=>?_)
  ·refine aj ?_
   refine bo rfl<|aj ?_
   intro w hw
   exact⟨aM (by rw[decide_eq_false (fI (f:=ar.F) (zp (i:=i) (f:=aB.func) (kI f1)))]),hw.below⟩
  have f1:=jE f1
  refine dc 82 (fun f2=>?_) (fun f2=>?_)
  ·refine aj ?_
   refine bo rfl<|aj ?_
   intro w hw
   exact⟨aM (by rw[decide_eq_false (fI (f:=ar.F) (zp (i:=i) (f:=aB.pc) (kI f2)))]),hw.below⟩
  have f2:=jE f2
  refine aj ?_
  refine cy rfl Tryz.call69 (fun w hw=>pZ _ _ _ _ (aQ m1.F i).L (aQ m2.F i).L w (hw.ro hl1) (hw.ro hl2))<|dc 90 (fun f3=>?_) (fun f3=>?_)
  ·refine aj ?_
   refine bo rfl<|aj ?_
   intro w hw
   exact⟨aM (by rw[decide_eq_false (fI (f:=ar.F) (zp (i:=i) (f:=aB.L) (kI f3)))]),hw.below⟩
  have f3:=jE f3
  refine aj ?_
  refine cy rfl Tryz.call69 (fun w hw=>pZ _ _ _ _ (aQ m1.F i).K (aQ m2.F i).K w (hw.ro hs1) (hw.ro hs2))<|bU (fun f4=>?_) (fun f4=>?_)
  ·refine aj ?_
   intro w hw
   exact⟨aM (by rw[decide_eq_false (fI (f:=ar.F) (zp (i:=i) (f:=aB.K) f4))]),hw.below⟩
  refine aj ?_
  refine dw (i+1) (⟨by show i+1<=_;omega,qL default hil hil2 hj (O9 f1 f2 f3 f4)⟩) (by show _ - _<_ - _;omega) (hh:=(fun w h=>h.msub ms))
 obtain rfl:i=m1.F.length:=by omega
 rw[aR,e6,aR] at hj
 refine aj ?_
 intro w hw
 exact⟨aM (by rw[decide_eq_true (Mq e1 e2 e3 e4 e5 hj)]),hw.below⟩
end
section
def iP:ar:=⟨[⟨0,0,[],[]⟩],[],[],[],0,0⟩
def Qu:ar:=⟨[⟨0,1,[],[⟨false,3⟩]⟩],[],[],[],0,0⟩
def QX:ar:=⟨[⟨0,0,[],[]⟩],[],[],[],1,0⟩
theorem EO:dU oU=0/\pY oU=iP/\fu oU iP=0/\KT oU iP=Qu/\fu oU Qu=0/\dU aP=0/\pY aP=iP/\fu aP iP=0/\KT aP iP=QX:=by
 refine⟨?_,?_,?_,?_,?_,?_,?_,?_,?_⟩ <;> kernel_rfl
theorem D3:mF iP.F:=by
 refine⟨by decide,fun x hx=>?_⟩
 have:x=⟨0,0,[],[]⟩:=by simpa [iP] using hx
 subst this
 decide
section
variable {fs:List au} {m:ar} {n:Nat}
theorem ut (hp:dU fs=0) (hm:pY fs=iP) (hn:fs.length=n) (A:Option Addr) (c:Nat) (w:World) (hs:Sl w (.slice A n c) fs) :
  Calls Tryz.prog 54 #[.agg #[.slice A n c]] w fun e w'=> ∃g:MA,True/\
   e= .returned (.tuple #[.agg #[.slice g.Af 1 g.cf,.slice g.Ab 0 g.cb,.slice g.Ai 0 g.ci,.slice g.Ao 0 g.co,.int .i64 0,.int .i64 0],.int .i64 0])/\Cw w.heap.size w [ap (.slice g.Af 1 g.cf) iP.F,ap (.slice g.Ab 0 g.cb) iP.B,ap (.slice g.Ai 0 g.ci) iP.I,ap (.slice g.Ao 0 g.co) iP.out] w':=by
 subst hn
 have:=vW A c fs iP hm w hs
 rw[hp] at this
 exact this
end
section
variable {B:Nat} {w0 w:World} {H H1 H2 H3 H4:List aC}
theorem oA {g:MA} {m:ar} {nf nb ni no:Nat} (hw:Cw B w0 H w) (hf:bz H (ap (.slice g.Af nf g.cf) m.F) H1) (hb:bz H (ap (.slice g.Ab nb g.cb) m.B) H2) (hi:bz H (ap (.slice g.Ai ni g.ci) m.I) H3) (ho:bz H (ap (.slice g.Ao no g.co) m.out) H4) (e1:m.F.length=nf) (e2:m.B.length=nb) (e3:m.I.length=ni) (e4:m.out.length=no) (hs:aD m.S) (ht:aD m.T):fd w.heap.size w g m:=by
 subst e1 e2 e3 e4
 exact⟨SF.at_ (SF.own rfl hf) hw,SF.at_ (SF.own rfl hb) hw,SF.at_ (SF.own rfl hi) hw,SF.at_ (SF.own rfl ho) hw,hs,ht⟩
end
section
variable {P:Program} {n:NF} {B:Nat} {w0:World} {H H':List aC} {Q:Exit->Act->World->Prop} {env:bH} {x:Code}
structure RC (B:Nat) (w0:World) (X:aC) (k:Nat) (A:Option Addr) (c:Nat) (fr:List aB) (hs:List aI):Prop where
 el:∀i,i<k->∃Al cl As cs,hs.getD i default=⟨(aQ fr i).func,(aQ fr i).pc,.slice Al (aQ fr i).L.length cl,.slice As (aQ fr i).K.length cs⟩/\
  (∀H H',bz H X H'->SF B w0 H Al (aQ fr i).L.length cl (aQ fr i).L/\SF B w0 H As (aQ fr i).K.length cs (aQ fr i).K)
 len:hs.length=k
 back:∀H H' H'' w,bz H (ap (.slice A k c) hs) H'->bz H' X H''->Cw B w0 H w->Cw B w0 (ap (.slice A k c) fr::H'') w
theorem SF.hfr {A:Option Addr} {xs:List aI} {m c k:Nat} {h:aI} (hs:SF B w0 H A m c xs) (hk:k<m) (e:xs.getD k default=h):∀w,Cw B w0 H w->∀j v,([.int .i64 h.func,.int .i64 h.pc,h.lv,h.sv]:List Value)[j]? =some v->w.cell? ⟨ab A,ao A+k*4+j,none⟩=some v:=fun w hw j v hv=>SF.cell hs hk default (by rw[e];exact hv) w hw
theorem Of {l:List (aI×aB)} {i:Nat} (hi:i<l.length) {w:World} (h:Cw B w0 (dz l::H) w):Sl w l[i].1.lv l[i].2.L/\Sl w l[i].1.sv l[i].2.K:=by
 have h1:Cw B w0 (ap l[i].1.lv l[i].2.L::ap l[i].1.sv l[i].2.K::(dz (l.eraseIdx i)::H)) w:=sr hi h
 obtain⟨F1,k1,_⟩:=h1.rd bz.a
 obtain⟨F2,k2,_⟩:=h1.rd (bz.s bz.a)
 exact⟨bS.sl k1,bS.sl k2⟩
end
end
section
theorem O0 (a b:Int) (w:World):(Instr.field 86 (.agg #[.int .i64 a,.int .i64 b]) 0).run Tryz.prog w= .ok (.int .i64 a) w:=by kernel_rfl
theorem N2 {fs:List au} {m:ar} {li:List aB} {x:aB} (e:m.F=li++ [x]):aQ m.F li.length=x/\m.F.length=li.length+1/\bQ fs m=bu (av fs x.func.toNat).C x.pc.toNat:=by
 refine⟨by rw[e,lu],by rw[e];simp,?_⟩
 unfold bQ im
 rw[e,yO]
end
section
theorem DW {fs:List au} {m:ar} (h:fu fs m=0):fk fs/\bx fs m:=by
 unfold fu at h
 split at h
 ·rename_i h2;exact absurd h h2
 rename_i h2;exact⟨nJ (iD.1 h2),pw.1 h⟩
end
section
theorem Fe (c:Int) (w:World):Calls Tryz.prog 158 #[.int .i64 c] w fun e w'=>e= .returned (.int .i64 (eC c))/\Below w.heap.size w w':=by
 refine enter Tryz.func158 rfl Tryz.ntmps158 rfl<|az (fun h1=>?_) (fun h1=>?_)
 ·have h1:c=14:=h1
  refine aj ?_
  intro w hw
  exact⟨by rw[h1];rfl,hw.below⟩
 have h1:¬c=14:=h1
 refine az (fun h2=>?_) (fun h2=>?_)
 ·have h2:c=12:=h2
  refine aj ?_
  intro w hw
  exact⟨by rw[h2];rfl,hw.below⟩
 have h2:¬c=12:=h2
 refine aj ?_
 intro w hw
 exact⟨by unfold eC;rw[if_neg h1,if_neg h2],hw.below⟩
theorem JT (Ap:Option Addr) (cp:Nat) (fs:List au) (a:MA) (m:ar) (w:World) (hs:Sl w (.slice Ap fs.length cp) fs) (hm:fd w.heap.size w a m) (hF:fk fs) (hR:bx fs m) (hne:m.F≠[]) :
  Calls Tryz.prog 211 #[.agg #[.slice Ap fs.length cp],.agg #[.slice a.Af m.F.length a.cf,.slice a.Ab m.B.length a.cb,.slice a.Ai m.I.length a.ci,.slice a.Ao m.out.length a.co,.int .i64 m.S,.int .i64 m.T]] w fun e w'=>e= .returned (.agg #[.int .i64 (bQ fs m).c,.int .i64 (bQ fs m).a])/\Below w.heap.size w w':=by
 have b1:=bB hm.f
 obtain⟨li,x,e⟩:∃li x,m.F=li++ [x]:=by
  rcases fw m.F with h1 | ⟨l,z,h1⟩
  ·exact absurd h1 hne
  exact⟨l,z,by rw[h1];simp⟩
 obtain⟨hx,hk,hop⟩:=N2 (fs:=fs) e
 obtain⟨k,hkl⟩:∃k,li.length=k:=⟨_,rfl⟩
 rw[hkl] at hx hk
 obtain⟨hfn,hloc,t,he,hts⟩:=hR.top e
 obtain⟨hp0,hp1,_⟩:=(hF.e x.func.toNat (by omega)).at_ _ _ he
 obtain⟨A1,c1,A2,c2,h1,h2,hi,hc⟩:=hm.f.fr (k:=k) (by omega)
 rw[hx] at h1 h2 hi hc
 obtain⟨kf,hkf⟩:∃kf:Nat,x.func=kf:=⟨x.func.toNat,by omega⟩
 obtain⟨kp,hkp⟩:∃kp:Nat,x.pc=kp:=⟨x.pc.toNat,by omega⟩
 rw[hkf,bi] at hp1 hop
 rw[hkp,bi] at hop
 rw[hkp] at hp1
 have hkfl:kf<fs.length:=by omega
 have hkpl:kp<(av fs kf).C.length:=by omega
 obtain⟨F1,d1,F2,d2,hfl,hfc,hfi,hfcell⟩:=hs.fn hkfl
 have bp:=bB hs
 have bc:=bB hfc
 rw[hop]
 refine enter Tryz.func211 rfl Tryz.ntmps211 rfl<|aj ?_
 refine fun g1 _=>aj ?_
 refine fun g2 _=>aj ?_
 refine fun g3 _=>aj ?_
 refine cH (t:=11) (v':= .int .i64 (k:Int)) rfl (congrArg (Value.int .i64) (by omega)) ?_
 refine sE (bX (k:=k) eL fx (.ro hm.f) (by omega) rfl rfl rfl) ?_
 refine iQ rfl (hc _)<|aj ?_
 refine fun g4 _=>aj ?_
 refine bR [0,3,6,9,12,15,18,21,24,27,30,35] [11] rfl<|aj ?_
 refine jY (t:=17) (v':= .int .i64 (kf:Int)) rfl (congrArg (Value.int .i64) hkf) ?_
 refine tE rfl (bX (k:=kf) fz ge (.ro hs) (by omega) rfl rfl rfl)<|aj ?_
 refine tE rfl (dO (fun w hw=>hfcell _ w hw 3 _ rfl) rfl rfl Cu)<|aj ?_
 refine jY (t:=22) (v':= .int .i64 (kp:Int)) rfl (congrArg (Value.int .i64) hkp) ?_
 refine tE rfl (bX (k:=kp) eK jR (.ro hfc) (by omega) rfl rfl rfl) ?_
 refine tE rfl (fj (cs:= [_,_]) (SF.op (.ro hfc) (by omega)) rfl rfl Rm jR)<|aj ?_
 intro w hw
 exact⟨rfl,hw.below⟩
def Ri (o:bd):Int:=if eY o=0 then eC o.c else 0
def rf (fs:List au) (m:ar) (k:Int):ar×Int:=if gD m then (m,k) else if k<eC (bQ fs m).c then (m,k) else (dT fs m,k - eC (bQ fs m).c)
def qs (fs:List au) (m:ar) (k:Int):Prop:= ¬gD m/\eC (bQ fs m).c<=k/\(dT fs m).S=0
instance (fs:List au) (m:ar) (k:Int):Decidable (qs fs m k):=by unfold qs;infer_instance
theorem uV {fs:List au} {m:ar} {k:Int} (h:gD m):rf fs m k=(m,k):=if_pos h
theorem Ba {fs:List au} {m:ar} {k:Int} (h:¬gD m) (h2:k<eC (bQ fs m).c):rf fs m k=(m,k):=(if_neg h).trans (if_pos h2)
theorem uT {fs:List au} {m:ar} {k:Int} (h:¬gD m) (h2:¬k<eC (bQ fs m).c):rf fs m k=(dT fs m,k - eC (bQ fs m).c):=(if_neg h).trans (if_neg h2)
theorem Dv (fs:List au) (m:ar) (k:Int):gV fs m k=if qs fs m k then gV fs (rf fs m k).1 (rf fs m k).2 else rf fs m k:=by
 rw[Dx]
 by_cases h1:gD m
 ·rw[if_pos h1,if_neg (show¬qs fs m k from fun h=>h.1 h1),uV h1]
 rw[if_neg h1]
 by_cases h2:k<eC (bQ fs m).c
 ·rw[if_pos h2,if_neg (show¬qs fs m k from fun h=>by have:=h.2.1;omega),Ba h1 h2]
 rw[if_neg h2,uT h1 h2]
 by_cases h3:(dT fs m).S=0
 ·rw[if_pos h3,if_pos (show qs fs m k from⟨h1,by omega,h3⟩)]
 rw[if_neg h3,if_neg (show¬qs fs m k from fun h=>h3 h.2.2)]
section
variable {B:Nat} {w0:World} {H:List aC}
theorem Gq (gd:Nat) (a:MA) (m:ar) (k:Int) (Ap:Option Addr) (cp:Nat) (fs:List au) (hs:br w0 B (.slice Ap fs.length cp) fs) (hF:fk fs) (hR:bx fs m) (hk:0<=k/\k<=10000) (p:ar×Int) (hpe:rf fs m k=p) (w:World)
  (hw:Cw B w0 (am gd [.slice a.Af m.F.length a.cf,.slice a.Ab m.B.length a.cb,.slice a.Ai m.I.length a.ci,.slice a.Ao m.out.length a.co,.int .i64 m.S,.int .i64 m.T,.int .i64 k] 205::ap (.slice a.Af m.F.length a.cf) m.F::ap (.slice a.Ab m.B.length a.cb) m.B::ap (.slice a.Ai m.I.length a.ci) m.I::ap (.slice a.Ao m.out.length a.co) m.out::H) w) :
  Calls Tryz.prog 154 #[.pointer (some ⟨gd,0,none⟩),.agg #[.slice Ap fs.length cp]] w fun e w'=> ∃g:MA,True/\e= .returned (.bool (decide (qs fs m k)))/\
   Cw B w0 (am gd [.slice g.Af p.1.F.length g.cf,.slice g.Ab p.1.B.length g.cb,.slice g.Ai p.1.I.length g.ci,.slice g.Ao p.1.out.length g.co,.int .i64 p.1.S,.int .i64 p.1.T,.int .i64 p.2] 205::ap (.slice g.Af p.1.F.length g.cf) p.1.F::ap (.slice g.Ab p.1.B.length g.cb) p.1.B::ap (.slice g.Ai p.1.I.length g.ci) p.1.I::ap (.slice g.Ao p.1.out.length g.co) p.1.out::H) w':=by
 have hp:=kC (bQ fs m).c
 have hst:=hR.st
 have hst2:aD m.S:=⟨by omega,by omega⟩
 have htr2:aD m.T:=by
  rcases Decidable.em (m.S=3) with h3 | h3
  ·have:=hR.t3 h3;exact⟨by omega,by omega⟩
  have:=hR.t0 h3;exact⟨by omega,by omega⟩
 refine aY Tryz.func154 rfl Tryz.ntmps154 rfl hw<|aj ?_
 refine fun g1 _=>dc 13 (fun q1=>?_) (fun q1=>?_)
 ·have hh:gD m:= .inl (aT (by have:=of_decide_eq_true q1;omega))
  have e:p=(m,k):=by rw[<-hpe,uV hh]
  subst e
  refine aj ?_
  refine bo rfl<|aj ?_
  intro w hw
  exact⟨a,trivial,aM (decide_eq_false (fun h=>h.1 hh)).symm,hw.msub ms⟩
 have hne:m.F≠[]:=fun e=>by have:=of_decide_eq_false q1;rw[e] at this;simp at this
 refine az (fun q2=>?_) (fun q2=>?_)
 ·have hh:gD m:= .inr q2
  have e:p=(m,k):=by rw[<-hpe,uV hh]
  subst e
  refine aj ?_
  intro w hw
  exact⟨a,trivial,aM (decide_eq_false (fun h=>h.1 hh)).symm,hw.msub ms⟩
 have q2:¬m.S=3:=q2
 have hh:¬gD m:=fun h=>h.elim hne q2
 have hst3:¬(m.S=2\/m.S=3):=(not_congr (J9 hR)).1 hh
 obtain⟨c,hc⟩:∃c,eC (bQ fs m).c=c:=⟨_,rfl⟩
 refine aj ?_
 refine bR [0,3,6,9,12,17,18,23,24] [] rfl<|aj ?_
 refine kT rfl rfl Tryz.call211 (fun w hw=>JT Ap cp fs a m w (hw.ro hs) (oA hw fc fc fc fc rfl rfl rfl rfl hst2 htr2) hF hR hne) ?_
 refine tE rfl (iX (O0 _ _) rfl rfl) ?_
 refine kT rfl rfl Tryz.call158 (fun w hw=>Fe _ w)<|aj ?_
 rw[hc] at hp
 rw[hc]
 have hc3:=NG (bQ fs m).c
 refine gY rfl (fun q3=>?_) (fun q3=>?_)
 ·have q3:k<c:=q3
  have e:p=(m,k):=by rw[<-hpe,Ba hh (by rw[hc];exact q3)]
  subst e
  refine aj ?_
  intro w hw
  exact⟨a,trivial,aM (decide_eq_false (fun h=>by have:=h.2.1;omega)).symm,hw.msub ms⟩
 have q3:¬k<c:=q3
 obtain⟨m2,hm2⟩:∃m2,dT fs m=m2:=⟨_,rfl⟩
 have e:p=(m2,k - c):=by rw[<-hpe,uT hh (by rw[hc];exact q3),hm2,hc]
 subst e
 have hon:qs fs m k↔m2.S=0:=by
  unfold qs
  rw[hm2,hc]
  exact⟨fun h=>h.2.2,fun h=>⟨hh,by omega,h⟩⟩
 refine aj ?_
 refine bR [0,3,6,9,12,15,20,21,24,29] [9] rfl<|aj ?_
 refine jJ rfl rfl Tryz.call114 (fun w hw=>LW Ap cp fs a m m2 hm2 w (hw.ro hs) (oA hw fc fc fc fc rfl rfl rfl rfl hst2 htr2) (jt hF hR) (fun hst=>F9 hs hF hR hst)) (fun g5 _=>aj ?_)
 intro w hw
 exact⟨g5,trivial,aM (decide_eq_decide.2 hon).symm,hw.msub ms⟩
end
end
section
theorem GW {fs:List au} (_:fk fs) {m:ar} (_:bx fs m) {k:Int} (hon:qs fs m k):rf fs m k=(dT fs m,k - eC (bQ fs m).c):=by
 exact uT hon.1 (by have:=hon.2.1;omega)
theorem JV (Ap:Option Addr) (cp:Nat) (fs:List au) (a:MA) (m:ar) (k:Int) (r:ar×Int) (hr:gV fs m k=r) (w:World) (hs:Sl w (.slice Ap fs.length cp) fs) (hm:fd w.heap.size w a m) (hF:fk fs) (hR:bx fs m) (hk:0<=k/\k<=10000) :
  Calls Tryz.prog 98 #[.agg #[.slice Ap fs.length cp],.agg #[.slice a.Af m.F.length a.cf,.slice a.Ab m.B.length a.cb,.slice a.Ai m.I.length a.ci,.slice a.Ao m.out.length a.co,.int .i64 m.S,.int .i64 m.T],.int .i64 k] w fun e w'=> ∃g:MA,True/\
   e= .returned (.tuple #[.agg #[.slice g.Af r.1.F.length g.cf,.slice g.Ab r.1.B.length g.cb,.slice g.Ai r.1.I.length g.ci,.slice g.Ao r.1.out.length g.co,.int .i64 r.1.S,.int .i64 r.1.T],.int .i64 r.2])/\Cw w.heap.size w [ap (.slice g.Af r.1.F.length g.cf) r.1.F,ap (.slice g.Ab r.1.B.length g.cb) r.1.B,ap (.slice g.Ai r.1.I.length g.ci) r.1.I,ap (.slice g.Ao r.1.out.length g.co) r.1.out] w':=by
 refine enter Tryz.func98 rfl Tryz.ntmps98 rfl<|aj ?_
 refine fun g1 _=>aj ?_
 refine fun g2 _=>aj ?_
 refine fun g3 _=>aj ?_
 refine eQ rfl oq (fun w hw=>ko a m w (fd.ro hw hm) (jt hF hR)) (fun g0 _=>aj ?_)
 refine fun g4 _=>aj ?_
 refine dG (fun g:(ar×Int)×MA=>(bx fs g.1.1/\0<=g.1.2/\g.1.2<=10000)/\gV fs g.1.1 g.1.2=r) (fun g=>g.1.2.toNat) (fun _=> [(3,.pointer (some ⟨g1,0,none⟩)),(6,.pointer (some ⟨g3,0,none⟩)),(8,.pointer (some ⟨g4,0,none⟩))]) (fun g=> [am g4 [.slice g.2.Af g.1.1.F.length g.2.cf,.slice g.2.Ab g.1.1.B.length g.2.cb,.slice g.2.Ai g.1.1.I.length g.2.ci,.slice g.2.Ao g.1.1.out.length g.2.co,.int .i64 g.1.1.S,.int .i64 g.1.1.T,.int .i64 g.1.2] 205,ap (.slice g.2.Af g.1.1.F.length g.2.cf) g.1.1.F,ap (.slice g.2.Ab g.1.1.B.length g.2.cb) g.1.1.B,ap (.slice g.2.Ai g.1.1.I.length g.2.ci) g.1.1.I,ap (.slice g.2.Ao g.1.1.out.length g.2.co) g.1.1.out,am g1 [.slice Ap fs.length cp] 24,am g3 [.slice none 0 0,.slice none 0 0,.slice none 0 0,.slice none 0 0,.int .i64 0,.int .i64 0] 43]) ((m,k),g0) (⟨⟨hR,hk⟩,hr⟩) ?_
 rintro⟨⟨q,z⟩,g⟩ hq
 try dsimp only
 obtain⟨⟨hRq,hz⟩,hrq⟩:(bx fs q/\0<=z/\z<=10000)/\gV fs q z=r:=hq
 obtain⟨p,hpe⟩:∃p,rf fs q z=p:=⟨_,rfl⟩
 refine aj ?_
 refine cc rfl Tryz.call154 (fun w hw=>Gq g4 g q z Ap cp fs hs hF hRq hz p hpe w (hw.msub (.s fc (.s fc (.s fc (.s fc (.s fc .r))))))) (fun g5 _=>az (fun hon=>?_) (fun hon=>?_))
 ·have hon:qs fs q z:=hon
  have e1:=(GW hF hRq hon).symm.trans hpe
  have hp:=kC (bQ fs q).c
  have h2:=hon.2.1
  refine aj ?_
  refine NZ (p,g5) (by rw[<-e1];exact⟨⟨qN hF hRq,by show 0<=z - _;omega,by show z - _<=_;omega⟩,by show gV fs (dT fs q) _=r;rw[<-hrq,Dv fs q z,if_pos hon,hpe,<-e1]⟩) (by rw[<-e1];show (z - _).toNat<z.toNat;omega)
 have hon:¬qs fs q z:=hon
 have e1:p=r:=by rw[<-hrq,Dv fs q z,if_neg hon,hpe]
 subst e1
 refine aj ?_
 refine dK [0,3,6,9,12,15,18,21,26,27] [] rfl [am g4 [.slice g5.Af p.1.F.length g5.cf,.slice g5.Ab p.1.B.length g5.cb,.slice g5.Ai p.1.I.length g5.ci,.slice g5.Ao p.1.out.length g5.co,.int .i64 p.1.S,.int .i64 p.1.T,.int .i64 p.2] 205]<|aj ?_
 intro w hw
 exact⟨g5,trivial,rfl,hw.msub ms⟩
def Oe (fs:List au) (m:ar) (k:Int):Int:=if fu fs m≠0 then fu fs m else if k<0\/10000<k then 3 else 0
def QD (fs:List au) (m:ar) (k:Int):ar×Int:=if Oe fs m k=0 then gV fs m k else (default,0)
end
section
theorem px {fs:List au} {m:ar} (h:bx fs m):aD m.S/\aD m.T:=by
 have hs:=h.st
 refine⟨⟨by omega,by omega⟩,?_⟩
 rcases Decidable.em (m.S=3) with h3 | h3
 ·have:=h.t3 h3;exact⟨by omega,by omega⟩
 have:=h.t0 h3;exact⟨by omega,by omega⟩
end
section
def kW (l:List ar):Prop:=l.length*112<=140737488355328/\∀m∈l,mF m.F
def cS (fs:List au) (l:List ar):Int:=
 if dU fs≠0 then dU fs else if l.length=0 then 5 else if 4<l.length then 2 else dS (fh fs) l
structure mz (fs:List au) (l:List ar):Prop where
 p:dU fs=0
 f:fk fs
 r:∀m∈l,bx fs m
 n0:1<=l.length
 n4:l.length<=4
theorem mM {fs:List au} {l:List ar} (h:cS fs l=0):mz fs l:=by
 unfold cS at h
 split at h
 ·exact absurd h (by assumption)
 rename_i h1
 have hp:dU fs=0:=eB h1
 split at h
 ·cases h
 split at h
 ·cases h
 exact⟨hp,nJ hp,fun m hm=>pw.1 (rt h m hm),by omega,by omega⟩
theorem mz.i64 {fs:List au} {l:List ar} (h:mz fs l) {k:Nat} (hk:k<l.length):aD (aw l k).S/\aD (aw l k).T:=px (h.r _ (fP hk))
theorem wU {l:List ar} {k:Nat} (hk:k<l.length):l.take (k+1)=l.take k++ [aw l k]:=ed l k default hk
theorem mb (Ap Aw:Option Addr) (cp cw:Nat) (fs:List au) (l:List ar) (w:World) (hs:Sl w (.slice Ap fs.length cp) fs) (hl:Sl w (.slice Aw l.length cw) l) (hfit:kW l) :
  Calls Tryz.prog 20 #[.agg #[.slice Ap fs.length cp],.agg #[.slice Aw l.length cw]] w fun e w'=>e= .returned (.int .i64 (cS fs l))/\Below w.heap.size w w':=by
 have bl:=bB hl
 refine enter Tryz.func20 rfl Tryz.ntmps20 rfl<|aj ?_
 refine fun g1 _=>aj ?_
 refine fun g2 _=>aj ?_
 refine cy rfl FK (fun w hw=>nx Ap cp fs w (hw.ro hs))<|bU (fun hp=>?_) (fun hp=>?_)
 ·have hp:¬dU fs=0:=hp
  refine aj ?_
  intro w hw
  exact⟨gA (by unfold cS;rw[if_pos hp]),hw.below⟩
 have hp:dU fs=0:=hp
 have hF:=nJ hp
 refine az (fun h0=>?_) (fun h0=>?_)
 ·have h0:l.length=0:=by have h0:(l.length:Int)=0:=h0;omega
  refine aj ?_
  intro w hw
  exact⟨gA (by unfold cS;rw[if_neg (fun h=>h hp),if_pos h0]),hw.below⟩
 have h0:¬l.length=0:=by have h0:¬(l.length:Int)=0:=h0;omega
 refine az (fun h4=>?_) (fun h4=>?_)
 ·have h4:4<l.length:=by have h4:(4:Int)<l.length:=h4;omega
  refine aj ?_
  intro w hw
  exact⟨gA (by unfold cS;rw[if_neg (fun h=>h hp),if_neg h0,if_pos h4]),hw.below⟩
 have h4:¬4<l.length:=by have h4:¬(4:Int)<l.length:=h4;omega
 have hE:cS fs l=dS (fh fs) l:=by unfold cS;rw[if_neg (fun h=>h hp),if_neg h0,if_neg h4]
 refine aj ?_
 refine dG (fun k:Nat=>k<=l.length/\dS (fh fs) (l.take k)=0) (fun k=>l.length - k) (fun k=> [(2,.pointer (some ⟨g1,0,none⟩)),(25,.slice Aw l.length cw),(26,.int .i64 (l.length:Int)),(27,.int .i64 (k:Int))]) (fun _=> [am g1 [.slice Ap fs.length cp] 24]) 0 (⟨bn _,rfl⟩) ?_
 rintro k hk'
 obtain⟨hk,hz⟩:k<=l.length/\dS (fh fs) (l.take k)=0:=hk'
 refine az (fun hlt=>?_) (fun hlt=>?_)
 ·have hkl:k<l.length:=by omega
  obtain⟨a,hm,hcell⟩:=hl.mc hkl
  have hq:=jO (g:=fh fs) default hkl hz
  refine aj ?_
  refine dB (k) rfl ((.ro hl)) ?_
  refine iQ rfl (hcell _)<|aj ?_
  refine fun g3 _=>aj ?_
  refine cy rfl RE (fun w hw=>rh Ap cp fs a (aw l k) w (hw.ro hs) (hm.ro hw) hF (hfit.2 _ (fP hkl)))<|bU (fun he=>?_) (fun he=>?_)
  ·have he:¬fh fs (aw l k)=0:=he
   have hq:dS (fh fs) (l.take (k+1))=fh fs (aw l k):=hq
   refine aj ?_
   intro w hw
   exact⟨gA (by rw[hE,pD (k:=k+1) (by rw[hq];exact he),hq]),hw.below⟩
  have he:fh fs (aw l k)=0:=he
  have hq:dS (fh fs) (l.take (k+1))=fh fs (aw l k):=hq
  refine aj ?_
  refine dw (k+1) (⟨by show k+1<=_;omega,hq.trans he⟩) (by show _ - _<_ - _;omega)
 obtain rfl:k=l.length:=by omega
 rw[aR] at hz
 refine aj ?_
 intro w hw
 exact⟨gA (by rw[hE,hz]),hw.below⟩
theorem zv (Aw:Option Addr) (cw:Nat) (fs:List au) (l:List ar) (w:World) (hl:Sl w (.slice Aw l.length cw) l) (hW:mz fs l) :
  Calls Tryz.prog 96 #[.agg #[.slice Aw l.length cw]] w fun e w'=> ∃g:Nat×Option Addr×Nat,True/\e= .returned (.pointer (some ⟨g.1,0,none⟩))/\Cw w.heap.size w [am g.1 [.slice g.2.1 l.length g.2.2] 148,ap (.slice g.2.1 l.length g.2.2) l] w':=by
 have bl:=bB hl
 have h4:=hW.n4
 refine enter Tryz.func96 rfl Tryz.ntmps96 rfl<|aj ?_
 refine fun g1 _=>aj ?_
 refine fun g2 _=>aj ?_
 refine dC (fun w h=>Cw.nilO ar h) ?_
 refine dG (fun g:Nat×Option Addr×Nat=>g.1<=l.length) (fun g=>l.length - g.1) (fun g=> [(3,.pointer (some ⟨g2,0,none⟩)),(9,.slice Aw l.length cw),(10,.int .i64 (l.length:Int)),(11,.int .i64 (g.1:Int))]) (fun g=> [am g2 [.slice g.2.1 (l.take g.1).length g.2.2] 148,ap (.slice g.2.1 (l.take g.1).length g.2.2) (l.take g.1)]) (0,none,0) (bn _) ?_
 rintro⟨k,A',c'⟩ hk
 try dsimp only
 have hk:k<=l.length:=hk
 have htl:(l.take k).length=k:=by rw[ax];omega
 refine az (fun hlt=>?_) (fun hlt=>?_)
 ·have hkl:k<l.length:=by omega
  obtain⟨a,hm,hcell⟩:=hl.mc hkl
  have hI:=hW.i64 hkl
  have htk:=wU hkl
  refine aj ?_
  refine dB (k) rfl ((.ro hl)) ?_
  refine iQ rfl (hcell _)<|aj ?_
  refine fun g3 _=>aj ?_
  refine dK [0,3,6,9,12,15,18,23,26,29,30,33,36,41] [13] rfl [am g2 [.slice A' (l.take k).length c'] 148,am g3 [.slice a.Af (aw l k).F.length a.cf,.slice a.Ab (aw l k).B.length a.cb,.slice a.Ai (aw l k).I.length a.ci,.slice a.Ao (aw l k).out.length a.co,.int .i64 (aw l k).S,.int .i64 (aw l k).T] 43]<|aj ?_
  refine jJ rfl rfl oq (fun w hw=>ko a (aw l k) w (hm.ro hw) (jt hW.f (hW.r _ (fP hkl)))) (fun ga _=>aj ?_)
  intro g4 _
  refine pE rfl (cT (α:=ar) (bytes:=112) (aw l k) [ap (.slice ga.Af (aw l k).F.length ga.cf) (aw l k).F,ap (.slice ga.Ab (aw l k).B.length ga.cb) (aw l k).B,ap (.slice ga.Ai (aw l k).I.length ga.ci) (aw l k).I,ap (.slice ga.Ao (aw l k).out.length ga.co) (aw l k).out] htk dZ (bJ ll) rfl (vQ fc fc fc fc fc fc) (oP hI) (by omega) (by omega) rfl rfl rfl) (fun⟨A5,c5⟩ _=>?_)
  refine aL ?_
  refine dw (k+1,A5,c5) (by show k+1<=_;omega) (by show _ - _<_ - _;omega)
 obtain rfl:k=l.length:=by omega
 rw[aR]
 refine aj ?_
 intro w hw
 exact⟨(g2,A',c'),trivial,rfl,hw.msub ms⟩
end
section
theorem qx {z:Int} (h:bA z=true):aD z:=by
 unfold bA at h
 simp only[cW,decide_eq_true_eq] at h
 unfold aD
 omega
theorem JQ (z:Int):aD (cK z).n:=qx (wk z)
theorem Jr (z:Int) (hz:aD z) (w:World):Calls Tryz.prog 109 #[.int .i64 z] w fun e w'=>e= .returned (.agg #[.bool (cK z).ref,.int .i64 (cK z).n])/\Below w.heap.size w w':=by
 refine enter Tryz.func109 rfl Tryz.ntmps109 rfl<|aj ?_
 refine fun g1 _=>aj ?_
 refine cy rfl Tryz.call110 (fun w hw=>(xN z w hz).mono fun e w' h=>by obtain⟨h1,rfl⟩:=h;exact⟨h1,Below.refl _ _⟩)<|aj ?_
 intro w hw
 exact⟨rfl,hw.below⟩
section
variable {B:Nat} {w0:World} {H:List aC}
end
end
section
section
variable {P:Program} {n:NF} {B:Nat} {w0:World} {H H':List aC} {Q:Exit->Act->World->Prop} {env:bH} {x:Code} {ops:Array Oper} {os:List Oper} {Hq:List aC} {fin:List Nat} {r:gv}
end
structure Q4 (B:Nat) (w0:World) (fs:List au) (m:ar) (a:MA) (li:List (aI×aB)) (k:Nat) (Ap:Option Addr) (cp:Nat) (f p0 p1:Int) (l s:List aF) (o:bd) (fr:Int):Prop where
 hk:li.length=k
 hok:fG li
 hp:br w0 B (.slice Ap fs.length cp) fs
 hm:fd B w0 a m
 fit:FH m
 nd:rI fs m.B.length ⟨f,p1,l,s⟩ o
 bl:bV m.B=0
 sl:s.length<=900
 ol:m.out.length<=1000
 k6:k<=1000
 hst:∀q∈li,q.2.K.length<=1000
 oa:aD o.a
 pi:aD f/\aD p0/\aD p1
 si:∀v∈s,aD v.n
 lv:∀v∈l,aD v.n
 hms:aD m.S
 fn:0<=f/\f<fs.length/\fr=(av fs f.toNat).result/\0<=fr
 mf:m.F.length=k+1
 isn:o.c=19->0<=(bj s).n/\(bj s).n<=m.B.length
 of:bQ fs m=o
 fs:m.F=li.map Prod.snd++ [⟨f,p0,l,s⟩]
 ib:m.I.length<=1000
 ii:∀z∈m.I,aD z
 sI:∀v∈s,v.n<=2147483647
section
variable {B:Nat} {w0:World} {Q:Exit->Act->World->Prop} (gp gm gr go gc gf gs gn k:Nat) (li:List (aI×aB)) (A Al As Ap Ab Ai Ao:Option Addr) (c cl cs cp cb ci co:Nat) (a:MA) (m:ar) (f p0 p1 fr:Int) (l s:List aF) (o:bd) (fs:List au) (rz:List Value) (fx0 fx1 fx3:Value) (hrz:rz.length=6)
end
end
section
theorem N9 {α:Type} :∀(l:List α),l.length=6->∃a b c d e f,l= [a,b,c,d,e,f]
 | [a,b,c,d,e,f],_=>⟨a,b,c,d,e,f,rfl⟩
 | [],h=>by cases h
 | [_],h=>by cases h
 | [_,_],h=>by cases h
 | [_,_,_],h=>by cases h
 | [_,_,_,_],h=>by cases h
 | [_,_,_,_,_],h=>by cases h
 | _::_::_::_::_::_::_::_,h=>by simp only[aS] at h;omega
section
variable {P:Program} {n:NF} {B:Nat} {w0:World} {H H':List aC} {Q:Exit->Act->World->Prop} {env:bH} {x:Code} {ops:Array Oper} {os:List Oper} {Hq:List aC} {fin:List Nat} {r:gv}
end
section
variable {B:Nat} {w0:World} {Q:Exit->Act->World->Prop} (gp gm gr go gc gf gs gn k:Nat) (li:List (aI×aB)) (A Al As Ap Ab Ai Ao:Option Addr) (c cl cs cp cb ci co:Nat) (a:MA) (m:ar) (f p0 p1 fr:Int) (l s:List aF) (o:bd) (fs:List au) (rz:List Value) (fx0 fx1 fx3:Value)
end
end
section
theorem AV {α:Type} [Ow α] {B:Nat} {w0:World} {H:List aC} {A:Option Addr} {c:Nat} {s:List α} {w:World} (h1:1<=s.length) (h:Cw B w0 (ap (.slice A s.length c) s::H) w):Cw B w0 (ap (.slice (jb A 1 c (ay.k α)) (s.drop 1).length (c - 1)) (s.drop 1)::H) w:=by
 rw[aE]
 exact xt h1 h
section
variable {B:Nat} {w0:World} {Q:Exit->Act->World->Prop} (gp gm gr go gc gf gs gn k:Nat) (li:List (aI×aB)) (A Al As Ap Ab Ai Ao:Option Addr) (c cl cs cp cb ci co:Nat) (a:MA) (m:ar) (f p0 p1 fr:Int) (l s:List aF) (o:bd) (fs:List au) (rz:List Value) (fx0 fx1 fx3:Value)
theorem Q9 (R:Q4 B w0 fs m a li k Ap cp f p0 p1 l s o fr) (hrz:rz.length=6) (K:∀(As':Option Addr) (cs':Nat) (Ai':Option Addr) (ci':Nat),m.I≠[]->XW ⟨551,[]⟩ B w0 Q .normal [(4,.pointer (some ⟨gr,0,none⟩)),(5,.pointer (some ⟨go,0,none⟩)),(6,.pointer (some ⟨ab A,ao A+k*4,none⟩)),(9,.pointer (some ⟨gs,0,none⟩)),(13,.int .i64 p1)] (am gs [.slice As' (s++ [cK (m.I.getD 0 0)]).length cs'] 116::ap (.slice As' (s++ [cK (m.I.getD 0 0)]).length cs') (s++ [cK (m.I.getD 0 0)])::am gr rz 43::am go [.slice A (k+1) c,.slice Ab m.B.length cb,.slice Ai' (m.I.drop 1).length ci',.slice Ao m.out.length co,.int .i64 0,.int .i64 m.T] 43::ap (.slice A (k+1) c) (li.map Prod.fst++ [(⟨f,p0,.slice Al l.length cl,.slice As s.length cs⟩:aI)])::ap (.slice Al l.length cl) l::dz li::ap (.slice Ab m.B.length cb) m.B::ap (.slice Ai' (m.I.drop 1).length ci') (m.I.drop 1)::ap (.slice Ao m.out.length co) m.out:: [])) (KR:∀g:MA,m.I= []->XW ⟨551,[]⟩ B w0 Q .ret [(4,.pointer (some ⟨gr,0,none⟩))] (am gr [.slice g.Af m.F.length g.cf,.slice g.Ab m.B.length g.cb,.slice g.Ai m.I.length g.ci,.slice g.Ao m.out.length g.co,.int .i64 1,.int .i64 m.T] 43::ap (.slice g.Af m.F.length g.cf) m.F::ap (.slice g.Ab m.B.length g.cb) m.B::ap (.slice g.Ai m.I.length g.ci) m.I::ap (.slice g.Ao m.out.length g.co) m.out:: [])):CW Tryz.prog ⟨551,[]⟩ B w0 (G7 [true,true,true,true,true,true,true,true,true,true,true,false,true,false,true,true,true,true,true,true,true,true,true,true,true,true,true,true,true,true,true,true,true,true,true,true,true,true,true,true,true,true,true,true,true,true,true,true,true,true,true,true,true,true,true,false] (PF Tryz.f51)) Q [(4,.pointer (some ⟨gr,0,none⟩)),(5,.pointer (some ⟨go,0,none⟩)),(6,.pointer (some ⟨ab A,ao A+k*4,none⟩)),(9,.pointer (some ⟨gs,0,none⟩)),(11,.func (.func 109) #[] #[]),(13,.int .i64 p1)] [am gs [.slice As s.length cs] 116,ap (.slice As s.length cs) s,am gp [.slice Ap fs.length cp] 24,am gm [.slice a.Af m.F.length a.cf,.slice a.Ab m.B.length a.cb,.slice a.Ai m.I.length a.ci,.slice a.Ao m.out.length a.co,.int .i64 m.S,.int .i64 m.T] 43,am gr rz 43,am go [.slice A (k+1) c,.slice Ab m.B.length cb,.slice Ai m.I.length ci,.slice Ao m.out.length co,.int .i64 m.S,.int .i64 m.T] 43,am gc [.int .i64 o.c,.int .i64 o.a] 86,am gf [fx0,fx1,.int .i64 fr,fx3] 84,am gn [.int .i64 (s.length:Int)] 3,ap (.slice A (k+1) c) (li.map Prod.fst++ [(⟨f,p0,.slice Al l.length cl,.slice As s.length cs⟩:aI)]),ap (.slice Al l.length cl) l,dz li,ap (.slice Ab m.B.length cb) m.B,ap (.slice Ai m.I.length ci) m.I,ap (.slice Ao m.out.length co) m.out]:=by
 have hsl:=R.sl
 have hib:=R.ib
 obtain⟨z0,z1,z2,z3,z4,z5,rfl⟩:∃z0 z1 z2 z3 z4 z5,rz= [z0,z1,z2,z3,z4,z5]:=N9 rz hrz
 refine gR (fun w h=>mV h (xs:=m.I) (A:=Ai) (m:=m.I.length) (c:=ci) fc) fun hcap=>?_
 refine cM<|az (fun h0=>?_) (fun h0=>?_)
 ·have h0:m.I= []:=aT (by have h0:(m.I.length:Int)=0:=h0;omega)
  refine cM<|bM<|dY (tB (vs:= [_,_,_,_,_,_]) fc mH dX rfl rfl (by rfl) rfl) rfl rfl ?_
  refine eP (ey _ fc dX rfl rfl rfl rfl rfl (by rfl) rfl (by rfl)) rfl rfl (fun _ _=>?_)
  refine bL<|oT (qI ?_)
  refine KQ (KR ⟨A,c,Ab,cb,Ai,ci,Ao,co⟩ h0) ⟨rfl,trivial⟩ (fun w h=>by dsimp only;rw[R.mf,R.fs];exact(sX (li:=li) (h:=⟨f,p0,.slice Al l.length cl,.slice As s.length cs⟩) (x:=⟨f,p0,l,s⟩) R.hok ⟨rfl,rfl⟩ (h.msub (T:=ap (.slice A (k+1) c) (li.map Prod.fst++ [(⟨f,p0,.slice Al l.length cl,.slice As s.length cs⟩:aI)])::ap (.slice Al l.length cl) l::ap (.slice As s.length cs) s::dz li::am gr [.slice A (k+1) c,.slice Ab m.B.length cb,.slice Ai m.I.length ci,.slice Ao m.out.length co,.int .i64 1,.int .i64 m.T] 43::ap (.slice Ab m.B.length cb) m.B::ap (.slice Ai m.I.length ci) m.I::ap (.slice Ao m.out.length co) m.out:: []) ms)).msub ms)
 have h0:¬m.I.length=0:=by have h0:¬(m.I.length:Int)=0:=h0;omega
 have hz:aD (m.I.getD 0 0):=R.ii _ (fR (by omega))
 have kz:(m.I.drop 1).length=m.I.length - 1:=aE
 refine aj ?_
 refine bR [0,3,6,9,12,15,20,23,26,29] [8,9] rfl<|aj ?_
 refine tE rfl (bX (k:=0) aW cG (SF.own (xs:=m.I) rfl fc) (by omega) rfl rfl rfl) ?_
 refine tE rfl (dO (SF.int (SF.own (xs:=m.I) rfl fc) (by omega)) rfl rfl dq) ?_
 refine pE rfl (sC rfl rfl rfl Tryz.call109 (fun w hw=>Jr (m.I.getD 0 0) hz w)) (fun _ _=>aj ?_)
 intro g1 _
 refine pE rfl (cT (α:=aF) (bytes:=16) (cK (m.I.getD 0 0)) [] rfl cA (bJ iV) rfl (fN (R:=ap (.slice As s.length cs) s) fc fc) (eG (JQ _)) (by omega) (by omega) rfl rfl rfl) (fun⟨A3,c3⟩ _=>?_)
 refine aL ?_
 refine sE (xS (k:=(m.I.drop 1).length) aW cG ⟨by omega,by omega⟩ kz.symm rfl rfl rfl rfl)<|aj ?_
 refine qc<|KQ (K A3 c3 (jb Ai 1 ci 1) (ci - 1) (fun e=>h0 (by rw[e];rfl))) ⟨rfl,rfl,rfl,rfl,rfl,trivial⟩ (fun w h=>(AV (s:=m.I) (A:=Ai) (c:=ci) (by omega) (h.msub (.s fc .r))).msub ms)
end
end
section
theorem yP {α:Type} {l:List α} {k:Nat} (h:k<l.length) (x d:α):(l.set k x).getD k d=x:=by
 rw[ak,List.getElem?_set_self h]
 rfl
theorem L0 {P:Program} {n:NF} {o:Oper} {env:bH} {B:Nat} {w0:World} {H:List aC} {i j:Operand} {t u:TypeId} {x y:Int} {a b:Nat} (ha:x=a/\a<=1000000) (hb:y=b/\0<b) (hop:o.op= .binOp .rem t i j u) (hi:opv env i=some (.int .i64 x)) (hj:opv env j=some (.int .i64 y)):QS P n B w0 o env H (.int .i64 (((a % b:Nat)):Int)):=by
 obtain⟨rfl,ha⟩:=ha
 obtain⟨rfl,hb⟩:=hb
 refine km hop hi hj (by decide) fun w=>?_
 have e:(a:Int).tmod b=((a % b:Nat):Int):=by rw[Int.tmod_eq_emod_of_nonneg (by omega)];omega
 have h1:(a % b:Nat)<=1000000:=cY (Nat.mod_le _ _) ha
 simp only[binOp,Op.intDiv,ne_eq,not_true_eq_false,if_false]
 rw[if_neg (by omega),e]
 simp
section
variable {B:Nat} {w0:World} {H:List aC}
theorem yA (gx i n c:Nat) (A:Option Addr) (l:List ar) (z:Int) (hl:l.length=n) (hi:i<n) (hz:aD z) (hb:(aw l i).I.length<=10) (w:World)
  (hw:Cw B w0 (am gx [.slice A n c] 148::ap (.slice A n c) l::H) w) :
  Calls Tryz.prog 100 #[.pointer (some ⟨gx,0,none⟩),.int .i64 (i:Int),.int .i64 z] w fun e w'=> ∃_:Unit,True/\e= .returned (.bool (!decide ((aw l i).I.length=10)))/\
   Cw B w0 (am gx [.slice A n c] 148::ap (.slice A n c) (if (aw l i).I.length=10 then l else l.set i (it (aw l i) z))::H) w':=by
 have b1:n<=140737488355328:=bB (SF.at_ (SF.own (xs:=l) hl (.s .a)) hw)
 refine aY Tryz.func100 rfl Tryz.ntmps100 rfl hw ?_
 refine BP (L:=l) (k:=i) (by omega) fc fun X hs a hA=>?_
 have hhl:hs.length=n:=hA.len.trans hl
 have hhd:=hA.hd
 have hI:=hA.i64
 refine aj ?_
 refine dB (i) rfl ((SF.own (xs:=hs) hhl fc))<|aj ?_
 refine eR rfl (fun w hw=>(SF.hmc (SF.own (xs:=hs) hhl fc) hi hhd) w hw 2 _ rfl)<|az (fun h10=>?_) (fun h10=>?_)
 ·have h10:(aw l i).I.length=10:=by have h10:((aw l i).I.length:Int)=10:=h10;omega
  refine aj ?_
  intro w hw
  refine⟨(),trivial,?_,?_⟩
  ·rw[decide_eq_true h10];rfl
  rw[if_pos h10]
  exact(hA.same (by omega) (hw.msub (.s fc (.s fc (.s fc (.s fc (.s fc (.s fc .r)))))))).msub ms
 have h10:¬(aw l i).I.length=10:=by have h10:¬((aw l i).I.length:Int)=10:=h10;omega
 refine aj ?_
 refine eR rfl (fun w hw=>(SF.hmc (SF.own (xs:=hs) hhl fc) hi hhd) w hw 2 _ rfl)<|aj ?_
 intro g1 _
 refine oE (cT (α:=Int) (bytes:=8) z [] rfl aW (bJ fU) rfl (fN (R:=ap (.slice a.Ai (aw l i).I.length a.ci) (aw l i).I) fc fc) (tM hz) (by omega) (by omega) rfl rfl rfl) (fun⟨A5,c5⟩ _=>?_)
 try dsimp only
 refine aH ?_
 refine aH ?_
 refine oE (qq (α:=dR) (A:=A) (c:=c) (m:=n) (f:=2) (us:= [.slice A5 ((aw l i).I++ [z]).length c5]) (lg ⟨a.Af,a.cf,a.Ab,a.cb,A5,c5,a.Ao,a.co⟩ {aw l i with I:=(aw l i).I++ [z]}) default rfl fc hi (Bu hI) kZ rfl rfl rfl rfl rfl rfl (by rw[hhd];rfl) rfl) (fun _ _=>aj ?_)
 have hhl2:(hs.set i (lg ⟨a.Af,a.cf,a.Ab,a.cb,A5,c5,a.Ao,a.co⟩ {aw l i with I:=(aw l i).I++ [z]})).length=n:=by rw[dp];exact hhl
 have hhd2:(hs.set i (lg ⟨a.Af,a.cf,a.Ab,a.cb,A5,c5,a.Ao,a.co⟩ {aw l i with I:=(aw l i).I++ [z]})).getD i default=lg ⟨a.Af,a.cf,a.Ab,a.cb,A5,c5,a.Ao,a.co⟩ {aw l i with I:=(aw l i).I++ [z]} :=yP (by omega) _ _
 refine eR rfl (fun w hw=>(SF.hmc (SF.own (A:=A) (c:=c) hhl2 fc) hi hhd2) w hw 4 _ rfl)<|az (fun h1=>?_) (fun h1=>?_)
 ·have h1:(aw l i).S=1:=h1
  refine bM<|aH ?_
  refine aH ?_
  refine aH ?_
  refine oE (qq (α:=dR) (A:=A) (c:=c) (m:=n) (f:=4) (us:= [.int .i64 0]) (lg ⟨a.Af,a.cf,a.Ab,a.cb,A5,c5,a.Ao,a.co⟩ (it (aw l i) z)) default (List.set_set ..).symm fc hi (Bu ⟨by unfold it;dsimp only;rw[if_pos h1];decide,hI.2⟩) cG rfl rfl rfl rfl rfl rfl (by rw[hhd2];unfold it;rw[if_pos h1];rfl) rfl) (fun _ _=>aj ?_)
  intro w hw
  refine⟨(),trivial,?_,?_⟩
  ·rw[decide_eq_false h10];rfl
  rw[if_neg h10]
  exact(hA.back _ ⟨a.Af,a.cf,a.Ab,a.cb,A5,c5,a.Ao,a.co⟩ (it (aw l i) z) _ _ (hw.msub (.s fc (.s fc (.s fc (.s fc (.s fc (.s fc .r)))))))).msub ms
 have h1:¬(aw l i).S=1:=h1
 have e1:it (aw l i) z= {aw l i with I:=(aw l i).I++ [z]} :=by unfold it;rw[if_neg h1]
 refine aj ?_
 intro w hw
 refine⟨(),trivial,?_,?_⟩
 ·rw[decide_eq_false h10];rfl
 rw[if_neg h10,e1]
 exact(hA.back _ ⟨a.Af,a.cf,a.Ab,a.cb,A5,c5,a.Ao,a.co⟩ {aw l i with I:=(aw l i).I++ [z]} _ _ (hw.msub (.s fc (.s fc (.s fc (.s fc (.s fc (.s fc .r)))))))).msub ms
end
end
section
section
variable {B:Nat} {w0:World} {H:List aC}
theorem Bl (gx n c:Nat) (A:Option Addr) (fs:List au) (l:List ar) (hl:l.length=n) (hR:∀m∈l,bx fs m) (hn:1<=n/\n<=4) (r:List ar×Nat) (hr:mv l=r) (w:World)
  (hw:Cw B w0 (am gx [.slice A n c] 148::ap (.slice A n c) l::H) w) :
  Calls Tryz.prog 97 #[.pointer (some ⟨gx,0,none⟩)] w fun e w'=> ∃_:Unit,True/\e= .returned (.int .i64 (r.2:Int))/\
   Cw B w0 (am gx [.slice A n c] 148::ap (.slice A n c) r.1::H) w':=by
 subst hr
 have hsum:∀k,k<=n->(bY l k).2<=1000:=fun k hk=>by
  have h:=(mw (fs:=fs) l k (by omega)).1
  have e:=h.cnt (fun j=>(aw l j).out.length - (aw (bY l k).1 j).out.length) fun j hj=>by have:=h.fewer j hj;omega
  have hb:∀j,j<l.length->(aw l j).out.length<=10:=fun j hj=>(hR _ (fP hj)).ob
  have:∀q,q<=l.length->((List.range q).map fun j=>(aw l j).out.length - (aw (bY l k).1 j).out.length).sum<=10*q:=by
   intro q
   induction q with
   | zero=>exact fun _=>aA _
   | succ q ih=>
    intro hq
    have h1:=ih (by omega)
    have h2:=hb q (by omega)
    rw[lI,dm,List.sum_append]
    simp only[dW,hZ,List.sum_cons,List.sum_nil]
    omega
  have h2:=this l.length (aA _)
  rw[e] at h2
  omega
 refine aY Tryz.func97 rfl Tryz.ntmps97 rfl hw<|aj ?_
 refine dG (fun k:Nat=>k<=n) (fun k=>n - k) (fun k=> [(0,.pointer (some ⟨gx,0,none⟩)),(3,.int .i64 ((bY l k).2:Int)),(12,.int .i64 (n:Int)),(13,.int .i64 (k:Int))]) (fun k=>am gx [.slice A n c] 148::ap (.slice A n c) (bY l k).1::H) 0 (bn _) ?_
 rintro k hk'
 have hk:k<=n:=hk'
 have hf:=(mw (fs:=fs) l k (by omega)).1
 have hlen:=hf.len
 refine az (fun hlt=>?_) (fun hlt=>?_)
 ·have hkn:k<n:=by omega
  have hto:gi k l.length<n:=by have:=sF (i:=k) (n:=l.length) (by omega);omega
  obtain⟨to_,hto2⟩:∃t,gi k l.length=t:=⟨_,rfl⟩
  rw[hto2] at hto
  have hs1:(bY l (k+1)).1=(fa (bY l k).1 k to_).1:=by rw[<-hto2];rfl
  have hs2:(bY l (k+1)).2=(bY l k).2+(fa (bY l k).1 k to_).2:=by rw[<-hto2];rfl
  have hsk:=hsum (k+1) (by omega)
  have hsk0:=hsum k (by omega)
  refine aj ?_
  refine dB (k) rfl ((SF.own (xs:=(bY l k).1) (A:=A) (c:=c) (m:=n) (by omega) fc))<|aj ?_
  refine sE (L0 (a:=k+1) (b:=n) (by omega) (by omega) rfl rfl rfl)<|aj ?_
  refine di (t:=6) (v':= .int .i64 (to_:Int)) rfl (by rw[<-hto2,<-hl];rfl) ?_
  refine dG (fun g:List ar×Nat=>((g.1.length=n/\∀m∈g.1,bx fs m)/\(fa g.1 k to_).1=(bY l (k+1)).1)/\(bY l k).2+g.2+(fa g.1 k to_).2=(bY l (k+1)).2) (fun g=>(aw g.1 k).out.length) (fun g=> [(0,.pointer (some ⟨gx,0,none⟩)),(3,.int .i64 (((bY l k).2+g.2:Nat):Int)),(5,.pointer (some ⟨ab A,ao A+k*6,none⟩)),(6,.int .i64 (to_:Int)),(12,.int .i64 (n:Int)),(13,.int .i64 (k:Int))]) (fun g=>am gx [.slice A n c] 148::ap (.slice A n c) g.1::H) ((bY l k).1,0) (⟨⟨⟨by show (bY l k).1.length=n;omega,hf.right hR⟩,hs1.symm⟩,by show (bY l k).2+0+(fa (bY l k).1 k to_).2=_;rw[hs2];omega⟩) ?_
  rintro⟨l',q⟩ hq'
  try dsimp only
  obtain⟨⟨⟨hl',hR'⟩,hq1⟩,hq2⟩:((l'.length=n/\∀m∈l',bx fs m)/\(fa l' k to_).1=(bY l (k+1)).1)/\(bY l k).2+q+(fa l' k to_).2=(bY l (k+1)).2:=hq'
  have hse:=zT (l:=l') (i:=k) (to_:=to_) (by omega) (by omega)
  have hRk:=hR' _ (fP (l:=l') (k:=k) (by omega))
  have hRt:=hR' _ (fP (l:=l') (k:=to_) (by omega))
  have hob:=hRk.ob
  have hib:=hRt.ib
  refine BP (L:=l') (k:=k) (by omega) fc fun X hs a hA=>?_
  have hhl:hs.length=n:=hA.len.trans hl'
  have hhd:=hA.hd
  refine aj ?_
  refine eR rfl (fun w hw=>(SF.hmc (SF.own (xs:=hs) (A:=A) (c:=c) hhl fc) hkn hhd) w hw 3 _ rfl)<|dc 38 (fun h0=>?_) (fun h0=>?_)
  ·have h0:0<(aw l' k).out.length:=by have:=of_decide_eq_true h0;omega
   have hz:aD ((aw l' k).out.getD 0 0):=qx (hRk.oi _ (fR h0))
   refine aj ?_
   refine eR rfl (fun w hw=>(SF.hmc (SF.own (xs:=hs) (A:=A) (c:=c) hhl fc) hkn hhd) w hw 3 _ rfl) ?_
   refine dB (0) rfl ((SF.own (xs:=(aw l' k).out) (A:=a.Ao) (c:=a.co) rfl fc)) ?_
   refine oN rfl ((SF.own (xs:=(aw l' k).out) (A:=a.Ao) (c:=a.co) rfl fc)) ?_
   refine ew (fun w h=>hA.same (by omega) (h.msub (.s fc (.s fc (.s fc (.s fc (.s fc (.s fc .r)))))))) ?_
   refine cc rfl Tryz.call100 (fun w hw=>yA gx to_ n c A l' ((aw l' k).out.getD 0 0) hl' hto hz hib w (hw.msub (.s fc (.s fc .r)))) (fun _ _=>bU (fun h10=>?_) (fun h10=>?_))
   ·have h10:¬(aw l' to_).I.length=10:=h10
    have hg:mL l' k to_:=⟨h0,h10⟩
    rw[if_pos hg] at hse
    rw[if_neg h10]
    have hbl:(ek l' k to_).length=n:=by unfold ek;rw[dp];exact hl'
    have hol:=lE l' k to_
    have hoa:=(ow (l:=l') (i:=k) (to_:=to_) (by omega) (by omega) k).1
    rw[if_pos rfl] at hoa
    have hbo:(aw (ek l' k to_) k).out=(aw l' k).out:=by
     rw[rD (by omega)]
     split
     ·subst_vars;rfl
     rfl
    have hb0:1<=(aw (ek l' k to_) k).out.length:=by rw[hbo];exact h0
    refine BP (L:=ek l' k to_) (k:=k) (by omega) fc fun X hs a hA=>?_
    have hhl:hs.length=n:=hA.len.trans hbl
    have hhd:=hA.hd
    have hI:=hA.i64
    refine gR (fun w h=>mV h (xs:=(aw (ek l' k to_) k).out) (A:=a.Ao) (c:=a.co) fc) fun hcap=>?_
    have kz:((aw (ek l' k to_) k).out.drop 1).length=(aw (ek l' k to_) k).out.length - 1:=aE
    refine aj ?_
    refine eR rfl (fun w hw=>(SF.hmc (SF.own (xs:=hs) (A:=A) (c:=c) hhl fc) hkn hhd) w hw 3 _ rfl) ?_
    refine sE (xS (k:=((aw (ek l' k to_) k).out.drop 1).length) aW cG ⟨by omega,by omega⟩ kz.symm rfl rfl rfl rfl) ?_
    refine aH ?_
    refine aH ?_
    refine oE (qq (α:=dR) (A:=A) (c:=c) (m:=n) (f:=3) (us:= [.slice (jb a.Ao 1 a.co 1) ((aw (ek l' k to_) k).out.drop 1).length (a.co - 1)]) (lg ⟨a.Af,a.cf,a.Ab,a.cb,a.Ai,a.ci,jb a.Ao 1 a.co 1,a.co - 1⟩ (xc (aw (ek l' k to_) k))) default rfl fc hkn (Bu hI) kZ rfl rfl rfl rfl rfl rfl (by rw[hhd];rfl) rfl) (fun _ _=>aj ?_)
    have hq3:(bY l k).2+q+((fa (iY l' k to_) k to_).2+1)=(bY l (k+1)).2:=by rw[hse] at hq2;exact hq2
    refine NZ (iY l' k to_,q+1) (⟨⟨⟨hol.trans hl',vS (by omega) (by omega) hg hR'⟩,by rw[hse] at hq1;exact hq1⟩,by show (bY l k).2+(q+1)+(fa (iY l' k to_) k to_).2=_;omega⟩) (by show (aw (iY l' k to_) k).out.length<_;rw[hoa,aE];omega) (hh:=(fun w h=>(hA.back _ ⟨a.Af,a.cf,a.Ab,a.cb,a.Ai,a.ci,jb a.Ao 1 a.co 1,a.co - 1⟩ (xc (aw (ek l' k to_) k)) _ _ ((AV hb0 (h.msub (.s fc .r))).msub (.s fc (.s fc (.s fc (.s fc (.s fc (.s fc .r)))))))).msub ms))
   have h10:(aw l' to_).I.length=10:=h10
   have hg:¬mL l' k to_:=fun h=>h.2 h10
   rw[if_neg hg] at hse
   rw[hse] at hq1 hq2
   have hq2:(bY l k).2+q+0=(bY l (k+1)).2:=hq2
   have hq1:l'=(bY l (k+1)).1:=hq1
   rw[if_pos h10,hq1,show (bY l k).2+q=(bY l (k+1)).2 from by omega]
   refine aj ?_
   refine dw (k+1) (by show k+1<=_;omega) (by show _ - _<_ - _;omega)
  have h0:¬0<(aw l' k).out.length:=by have:=of_decide_eq_false h0;omega
  have hg:¬mL l' k to_:=fun h=>h0 h.1
  rw[if_neg hg] at hse
  rw[hse] at hq1 hq2
  have hq2:(bY l k).2+q+0=(bY l (k+1)).2:=hq2
  have hq1:l'=(bY l (k+1)).1:=hq1
  rw[show (bY l k).2+q=(bY l (k+1)).2 from by omega]
  refine aj ?_
  refine cB rfl<|aj ?_
  refine dw (k+1) (by show k+1<=_;omega) (by show _ - _<_ - _;omega) (hh:=(fun w h=>by rw[<-hq1];exact(hA.same (by omega) (h.msub (.s fc (.s fc (.s fc (.s fc (.s fc (.s fc .r)))))))).msub ms))
 obtain rfl:k=n:=by omega
 refine aj ?_
 intro w hw
 have e1:mv l=bY l k:=by unfold mv;rw[hl]
 exact⟨(),trivial,by rw[e1],by rw[e1];exact hw.msub ms⟩
end
end
section
def zk (fs:List au) (l:List ar):List ar×Nat:=if cS fs l=0 then mv l else ([],0)
def iz (fs:List au) (l:List ar) (k:Int):Int:=if cS fs l=0/\(k<0\/10000<k) then 3 else cS fs l
def sA (fs:List au) (l:List ar) (k:Int):List ar:=l.map fun m=>(gV fs m k).1
def mh (fs:List au) (l:List ar) (k:Int):List ar:=if iz fs l k=0 then (mv (sA fs l k)).1 else []
def iO (fs:List au) (l:List ar) (i z:Int):Int:=if cS fs l=0/\(i<0\/(l.length:Int)<=i\/bA z=false) then 3 else cS fs l
def jB (fs:List au) (l:List ar) (i z:Int):Int:=if iO fs l i z≠0 then iO fs l i z else if (aw l i.toNat).I.length=10 then 7 else 0
def nt (fs:List au) (l:List ar) (i z:Int):List ar:=if jB fs l i z=0 then l.set i.toNat (it (aw l i.toNat) z) else []
theorem sH (l:List ar):(mv l).1.length=l.length:=(wa (fs:= []) l).1.len
theorem Do {fs:List au} {l:List ar} {k:Int} (h:iz fs l k=0):cS fs l=0/\0<=k/\k<=10000:=by
 unfold iz at h
 split at h
 ·cases h
 rename_i h2
 exact⟨h,by omega,by omega⟩
theorem zV {fs:List au} {l:List ar} {i z:Int} (h:iO fs l i z=0):cS fs l=0/\(0<=i/\i<l.length)/\bA z=true:=by
 unfold iO at h
 split at h
 ·cases h
 rename_i h2
 refine⟨h,⟨by omega,by omega⟩,?_⟩
 cases hz:bA z with
 | true=>rfl
 | false=>exact absurd ⟨h,.inr (.inr hz)⟩ h2
theorem vM {fs:List au} {l:List ar} {k:Int} (hW:mz fs l) (hk:0<=k):∀m∈sA fs l k,bx fs m:=fun m hm=>by
 obtain⟨x,hx,rfl⟩:=kY.1 hm
 exact(xP hW.f x k (hW.r x hx) hk).right
theorem qY (fs:List au) (l:List ar) (k:Int):(sA fs l k).length=l.length:=aN ..
theorem FO (Ap Aw:Option Addr) (cp cw:Nat) (fs:List au) (l:List ar) (r:List ar×Nat) (hr:zk fs l=r) (w:World) (hs:Sl w (.slice Ap fs.length cp) fs) (hl:Sl w (.slice Aw l.length cw) l) (hfit:kW l) :
  Calls Tryz.prog 37 #[.agg #[.slice Ap fs.length cp],.agg #[.slice Aw l.length cw]] w fun e w'=> ∃g:Option Addr×Nat,True/\e= .returned (.tuple #[.agg #[.slice g.1 r.1.length g.2],.int .i64 (r.2:Int),.int .i64 (cS fs l)])/\Cw w.heap.size w [ap (.slice g.1 r.1.length g.2) r.1] w':=by
 refine enter Tryz.func37 rfl Tryz.ntmps37 rfl<|aj ?_
 refine fun g1 _=>aj ?_
 refine fun g2 _=>aj ?_
 refine fun g3 _=>aj ?_
 refine cy rfl FL (fun w hw=>mb Ap Aw cp cw fs l w (hw.ro hs) (hw.ro hl) hfit)<|bU (fun hp=>?_) (fun hp=>?_)
 ·have hp:¬cS fs l=0:=hp
  have e:r=([],0):=by rw[<-hr];unfold zk;rw[if_neg hp]
  subst e
  refine aj ?_
  intro w hw
  exact⟨(none,0),trivial,rfl,(Cw.nilO ar hw).msub ms⟩
 have hp:cS fs l=0:=hp
 have hW:=mM hp
 have e:mv l=r:=by rw[<-hr];unfold zk;rw[if_pos hp]
 have hrl:r.1.length=l.length:=by rw[<-e];exact sH l
 refine aj ?_
 refine eQ rfl Tryz.call96 (fun w hw=>zv Aw cw fs l w (hw.ro hl) hW) (fun⟨gx,A,c⟩ _=>?_)
 refine aL ?_
 refine cc rfl Tryz.call97 (fun w hw=>Bl gx l.length c A fs l rfl hW.r ⟨hW.n0,hW.n4⟩ r e w (hw.msub (.s fc (.s fc .r)))) (fun _ _=>aj ?_)
 intro w hw
 refine⟨(A,c),trivial,?_,?_⟩
 ·rw[hrl,hp]
 rw[hrl];exact hw.msub ms
theorem xC (Ap Aw:Option Addr) (cp cw:Nat) (fs:List au) (l:List ar) (k:Int) (r:List ar) (hr:mh fs l k=r) (w:World) (hs:Sl w (.slice Ap fs.length cp) fs) (hl:Sl w (.slice Aw l.length cw) l) (hfit:kW l) :
  Calls Tryz.prog 38 #[.agg #[.slice Ap fs.length cp],.agg #[.slice Aw l.length cw],.int .i64 k] w fun e w'=> ∃g:Option Addr×Nat,True/\e= .returned (.tuple #[.agg #[.slice g.1 r.length g.2],.int .i64 (iz fs l k)])/\Cw w.heap.size w [ap (.slice g.1 r.length g.2) r] w':=by
 have bl:=bB hl
 refine enter Tryz.func38 rfl Tryz.ntmps38 rfl<|aj ?_
 refine fun g1 _=>aj ?_
 refine fun g2 _=>aj ?_
 refine fun g3 _=>aj ?_
 refine cy rfl FL (fun w hw=>mb Ap Aw cp cw fs l w (hw.ro hs) (hw.ro hl) hfit) ?_
 refine aH ?_
 refine bL<|dD (fun _:Unit=>True) (fun _=> [(2,.int .i64 k),(3,.pointer (some ⟨g1,0,none⟩)),(4,.pointer (some ⟨g2,0,none⟩)),(6,.pointer (some ⟨g3,0,none⟩)),(8,.int .i64 (iz fs l k))]) (fun _=> [am g1 [.slice Ap fs.length cp] 24,am g2 [.slice Aw l.length cw] 27,am g3 [.slice none 0 0] 27]) ?_ ?_
 ·refine aj ?_
  refine zX 7 rfl [(2,_),(3,_),(4,_),(6,_),(8,_)] [(26,.bool (decide (cS fs l=0/\(k<0\/10000<k))))] ⟨rfl,rfl,rfl,rfl,rfl,trivial⟩ (fun K=>?_) ?_
  ·refine lz (t:=19) rfl (fun q1=>?_) (fun q1=>?_)
   ·have q1:=of_decide_eq_true q1
    refine dc 22 (fun q2=>?_) (fun q2=>?_)
    ·have q2:=of_decide_eq_true q2
     refine aH ?_
     refine aH ?_
     refine aH ?_
     refine aH ?_
     refine cH (t:=26) (v':= .bool (decide (cS fs l=0/\(k<0\/10000<k)))) rfl (congrArg Value.bool (decide_eq_true ⟨q1,.inl q2⟩).symm) ?_
     exact mQ K ⟨rfl,rfl,rfl,rfl,rfl,rfl,trivial⟩
    have q2:=of_decide_eq_false q2
    refine aH ?_
    refine aH ?_
    refine aH ?_
    refine aH ?_
    refine cH (t:=26) (v':= .bool (decide (cS fs l=0/\(k<0\/10000<k)))) rfl (congrArg Value.bool (decide_eq_decide.2 ⟨fun h=>⟨q1,.inr h⟩,fun h=>h.2.resolve_left q2⟩)) ?_
    exact mQ K ⟨rfl,rfl,rfl,rfl,rfl,rfl,trivial⟩
   have q1:=of_decide_eq_false q1
   refine aH ?_
   refine aH ?_
   refine aH ?_
   refine aH ?_
   refine aH ?_
   refine aH ?_
   refine aH ?_
   refine cH (t:=26) (v':= .bool (decide (cS fs l=0/\(k<0\/10000<k)))) rfl (congrArg Value.bool (decide_eq_false (fun h=>q1 h.1)).symm) ?_
   exact mQ K ⟨rfl,rfl,rfl,rfl,rfl,rfl,trivial⟩
  refine az (fun q=>?_) (fun q=>?_)
  ·refine aj ?_
   refine cH (t:=8) (v':= .int .i64 (iz fs l k)) rfl (by unfold iz;rw[if_pos q]) ?_
   refine nR () (trivial)
  refine di (t:=8) (v':= .int .i64 (iz fs l k)) rfl (by unfold iz;rw[if_neg q])<|aj ?_
  refine du () (trivial)
 rintro⟨⟩ _
 refine aL ?_
 refine jF rfl (fun hp=>?_) (fun hp=>?_)
 ·have hp:¬iz fs l k=0:=hp
  have e:r= []:=by rw[<-hr];unfold mh;rw[if_neg hp]
  subst e
  refine aj ?_
  intro w hw
  exact⟨(none,0),trivial,rfl,(Cw.nilO ar hw).msub ms⟩
 have hp:iz fs l k=0:=hp
 obtain⟨h0,hk⟩:=Do hp
 have hW:=mM h0
 have h4:=hW.n4
 obtain⟨q,hq⟩:∃q,mv (sA fs l k)=q:=⟨_,rfl⟩
 have e:q.1=r:=by rw[<-hr,<-hq];unfold mh;rw[if_pos hp]
 have hql:q.1.length=l.length:=by rw[<-hq,sH,qY]
 refine aj ?_
 refine fun g4 _=>aj ?_
 refine dC (fun w h=>Cw.nilO ar h) ?_
 refine dG (fun g:Nat×Option Addr×Nat=>g.1<=l.length) (fun g=>l.length - g.1) (fun g=> [(2,.int .i64 k),(3,.pointer (some ⟨g1,0,none⟩)),(6,.pointer (some ⟨g3,0,none⟩)),(9,.pointer (some ⟨g4,0,none⟩)),(34,.slice Aw l.length cw),(35,.int .i64 (l.length:Int)),(36,.int .i64 (g.1:Int))]) (fun g=> [am g4 [.slice g.2.1 (((l.take g.1).map fun m=>(gV fs m k).1)).length g.2.2] 148,ap (.slice g.2.1 (((l.take g.1).map fun m=>(gV fs m k).1)).length g.2.2) (((l.take g.1).map fun m=>(gV fs m k).1)),am g1 [.slice Ap fs.length cp] 24,am g3 [.slice none 0 0] 27]) (0,none,0) (bn _) ?_
 rintro⟨j,A',c'⟩ hj
 try dsimp only
 have hj:j<=l.length:=hj
 have htl:((l.take j).map fun m=>(gV fs m k).1).length=j:=by rw[aN,ax];omega
 refine az (fun hlt=>?_) (fun hlt=>?_)
 ·have hjl:j<l.length:=by omega
  obtain⟨a,hm,hcell⟩:=hl.mc hjl
  have hRj:=hW.r _ (fP hjl)
  obtain⟨x,hx⟩:∃x,gV fs (aw l j) k=x:=⟨_,rfl⟩
  have hI:aD x.1.S/\aD x.1.T:=by rw[<-hx];exact px (xP hW.f _ k hRj hk.1).right
  have htk:((l.take (j+1)).map fun m=>(gV fs m k).1)=((l.take j).map fun m=>(gV fs m k).1)++ [x.1]:=by rw[wU hjl,dm,<-hx];rfl
  refine aj ?_
  refine dB (j) rfl ((.ro hl)) ?_
  refine iQ rfl (hcell _)<|aj ?_
  refine fun g5 _=>aj ?_
  refine eQ rfl Tryz.call98 (fun w hw=>JV Ap cp fs a (aw l j) k x hx w (hw.ro hs) (hm.ro hw) hW.f hRj hk) (fun ga _=>aj ?_)
  intro g6 _
  refine eP (ey _ fc dX rfl rfl rfl rfl rfl (by rfl) rfl (by rfl)) rfl rfl (fun _ _=>?_)
  refine aH ?_
  refine bL<|dK [0,3,6,9,12,15,18,23,26,27,30,33,38] [12] rfl [am g4 [.slice A' ((l.take j).map fun m=>(gV fs m k).1).length c'] 148,am g6 [.slice ga.Af x.1.F.length ga.cf,.slice ga.Ab x.1.B.length ga.cb,.slice ga.Ai x.1.I.length ga.ci,.slice ga.Ao x.1.out.length ga.co,.int .i64 x.1.S,.int .i64 x.1.T] 43]<|aj ?_
  intro g7 _
  refine pE rfl (cT (α:=ar) (bytes:=112) x.1 [ap (.slice ga.Af x.1.F.length ga.cf) x.1.F,ap (.slice ga.Ab x.1.B.length ga.cb) x.1.B,ap (.slice ga.Ai x.1.I.length ga.ci) x.1.I,ap (.slice ga.Ao x.1.out.length ga.co) x.1.out] htk dZ (bJ ll) rfl (vQ fc fc fc fc fc fc) (oP hI) (by omega) (by omega) rfl rfl rfl) (fun⟨A5,c5⟩ _=>?_)
  refine aL ?_
  refine dw (j+1,A5,c5) (by show j+1<=_;omega) (by show _ - _<_ - _;omega)
 obtain rfl:j=l.length:=by omega
 have e2:((l.take l.length).map fun m=>(gV fs m k).1)=sA fs l k:=by rw[aR];rfl
 rw[e2,qY]
 refine aj ?_
 refine cc rfl Tryz.call97 (fun w hw=>Bl g4 l.length c' A' fs (sA fs l k) (qY fs l k) (vM hW hk.1) ⟨hW.n0,hW.n4⟩ q hq w (hw.msub (.s fc (.s fc .r)))) (fun _ _=>aj ?_)
 intro w hw
 refine⟨(A',c'),trivial,?_,?_⟩
 ·rw[<-e,hql,hp]
 rw[<-e,hql];exact hw.msub ms
end
section
theorem NI {fs:List au} {l:List ar} {i z:Int} (q1:cS fs l=0) (q2:¬i<0) (q3:¬(l.length:Int)<=i):(!bA z)=decide (cS fs l=0/\(i<0\/(l.length:Int)<=i\/bA z=false)):=by
 cases hi:bA z with
 | false=>exact(decide_eq_true ⟨q1,.inr (.inr rfl)⟩).symm
 | true=>exact(decide_eq_false (fun h=>h.2.elim q2 fun h=>h.elim q3 fun h=>by cases h)).symm
theorem xD (Ap Aw:Option Addr) (cp cw:Nat) (fs:List au) (l:List ar) (i z:Int) (hz:aD z) (r:List ar) (hr:nt fs l i z=r) (w:World) (hs:Sl w (.slice Ap fs.length cp) fs) (hl:Sl w (.slice Aw l.length cw) l) (hfit:kW l) :
  Calls Tryz.prog 39 #[.agg #[.slice Ap fs.length cp],.agg #[.slice Aw l.length cw],.int .i64 i,.int .i64 z] w fun e w'=> ∃g:Option Addr×Nat,True/\e= .returned (.tuple #[.agg #[.slice g.1 r.length g.2],.int .i64 (jB fs l i z)])/\Cw w.heap.size w [ap (.slice g.1 r.length g.2) r] w':=by
 have bl:=bB hl
 refine enter Tryz.func39 rfl Tryz.ntmps39 rfl<|aj ?_
 refine fun g1 _=>aj ?_
 refine fun g2 _=>aj ?_
 refine fun g3 _=>aj ?_
 refine cy rfl FL (fun w hw=>mb Ap Aw cp cw fs l w (hw.ro hs) (hw.ro hl) hfit) ?_
 refine aH ?_
 refine bL<|dD (fun _:Unit=>True) (fun _=> [(2,.int .i64 i),(3,.int .i64 z),(5,.pointer (some ⟨g2,0,none⟩)),(8,.pointer (some ⟨g3,0,none⟩)),(10,.int .i64 (iO fs l i z))]) (fun _=> [am g1 [.slice Ap fs.length cp] 24,am g2 [.slice Aw l.length cw] 27,am g3 [.slice none 0 0] 27]) ?_ ?_
 ·refine aj ?_
  refine zX 15 rfl [(2,_),(3,_),(5,_),(8,_),(10,_)] [(32,.bool (decide (cS fs l=0/\(i<0\/(l.length:Int)<=i\/bA z=false))))] ⟨rfl,rfl,rfl,rfl,rfl,trivial⟩ (fun K=>?_) ?_
  ·refine lz (t:=17) rfl (fun q1=>?_) (fun q1=>?_)
   ·have q1:=of_decide_eq_true q1
    refine dc 20 (fun q2=>?_) (fun q2=>?_)
    ·have q2:=of_decide_eq_true q2
     refine aH ?_
     refine aH ?_
     refine aH ?_
     refine aH ?_
     refine aH ?_
     refine aH ?_
     refine aH ?_
     refine aH ?_
     refine aH ?_
     refine aH ?_
     refine aH ?_
     refine aH ?_
     refine cH (t:=32) (v':= .bool (decide (cS fs l=0/\(i<0\/(l.length:Int)<=i\/bA z=false)))) rfl (congrArg Value.bool (decide_eq_true ⟨q1,.inl q2⟩).symm) ?_
     exact mQ K ⟨rfl,rfl,rfl,rfl,rfl,rfl,trivial⟩
    have q2:=of_decide_eq_false q2
    refine dc 27 (fun q3=>?_) (fun q3=>?_)
    ·have q3:(l.length:Int)<=i:=of_decide_eq_true q3
     refine aH ?_
     refine aH ?_
     refine aH ?_
     refine aH ?_
     refine aH ?_
     refine cH (t:=32) (v':= .bool (decide (cS fs l=0/\(i<0\/(l.length:Int)<=i\/bA z=false)))) rfl (congrArg Value.bool (decide_eq_true ⟨q1,.inr (.inl q3)⟩).symm) ?_
     exact mQ K ⟨rfl,rfl,rfl,rfl,rfl,rfl,trivial⟩
    have q3:¬(l.length:Int)<=i:=of_decide_eq_false q3
    refine aj ?_
    refine cy rfl PO (fun w hw=>nD (oB z w)) ?_
    refine aH ?_
    refine aH ?_
    refine aH ?_
    refine cH (t:=32) (v':= .bool (decide (cS fs l=0/\(i<0\/(l.length:Int)<=i\/bA z=false)))) rfl (congrArg Value.bool (NI q1 q2 q3)) ?_
    exact mQ K ⟨rfl,rfl,rfl,rfl,rfl,rfl,trivial⟩
   have q1:=of_decide_eq_false q1
   refine aH ?_
   refine aH ?_
   refine aH ?_
   refine aH ?_
   refine aH ?_
   refine aH ?_
   refine aH ?_
   refine aH ?_
   refine aH ?_
   refine aH ?_
   refine aH ?_
   refine aH ?_
   refine aH ?_
   refine aH ?_
   refine aH ?_
   refine cH (t:=32) (v':= .bool (decide (cS fs l=0/\(i<0\/(l.length:Int)<=i\/bA z=false)))) rfl (congrArg Value.bool (decide_eq_false (fun h=>q1 h.1)).symm) ?_
   exact mQ K ⟨rfl,rfl,rfl,rfl,rfl,rfl,trivial⟩
  refine az (fun q=>?_) (fun q=>?_)
  ·refine aj ?_
   refine cH (t:=10) (v':= .int .i64 (iO fs l i z)) rfl (by unfold iO;rw[if_pos q]) ?_
   refine nR () (trivial)
  refine di (t:=10) (v':= .int .i64 (iO fs l i z)) rfl (by unfold iO;rw[if_neg q])<|aj ?_
  refine du () (trivial)
 rintro⟨⟩ _
 refine aL ?_
 refine jF rfl (fun hp=>?_) (fun hp=>?_)
 ·have hp:¬iO fs l i z=0:=hp
  have he:jB fs l i z=iO fs l i z:=by unfold jB;rw[if_pos hp]
  have e:r= []:=by rw[<-hr];unfold nt;rw[if_neg (by rw[he];exact hp)]
  subst e
  refine aj ?_
  intro w hw
  exact⟨(none,0),trivial,by rw[he];rfl,(Cw.nilO ar hw).msub ms⟩
 have hp:iO fs l i z=0:=hp
 obtain⟨h0,hi,hzi⟩:=zV hp
 have hW:=mM h0
 obtain⟨k,rfl⟩:∃k:Nat,i=k:=⟨i.toNat,by omega⟩
 have hkl:k<l.length:=by omega
 refine aj ?_
 refine eQ rfl Tryz.call96 (fun w hw=>zv Aw cw fs l w (hw.ro hl) hW) (fun⟨gx,A,c⟩ _=>?_)
 refine aL ?_
 refine cc rfl Tryz.call100 (fun w hw=>yA gx k l.length c A l z rfl hkl hz (hW.r _ (fP hkl)).ib w (hw.msub (.s fc (.s fc .r)))) (fun _ _=>aj ?_)
 refine di (t:=43) (v':= .bool (decide ((aw l k).I.length=10))) rfl (by rw[Bool.not_not]) ?_
 refine gY rfl (fun h10=>?_) (fun h10=>?_)
 ·have h10:(aw l k).I.length=10:=h10
  have he:jB fs l k z=7:=by unfold jB;rw[if_neg (fun h=>h hp),if_pos (by rw[bi];exact h10)]
  have e:r= []:=by rw[<-hr];unfold nt;rw[if_neg (by rw[he];decide)]
  subst e
  refine aj ?_
  intro w hw
  exact⟨(none,0),trivial,by rw[he];rfl,(Cw.nilO ar hw).msub ms⟩
 have h10:¬(aw l k).I.length=10:=h10
 have he:jB fs l k z=0:=by unfold jB;rw[if_neg (fun h=>h hp),if_neg (by rw[bi];exact h10)]
 have e:l.set k (it (aw l k) z)=r:=by rw[<-hr];unfold nt;rw[if_pos he,bi]
 have hrl:r.length=l.length:=by rw[<-e,dp]
 rw[if_neg h10,e]
 refine aj ?_
 intro w hw
 refine⟨(A,c),trivial,?_,?_⟩
 ·rw[hrl,he]
 rw[hrl];exact hw.msub ms
end
section
def ls (s:List UInt8):Int:=if (eX s).2=0 then dU (eX s).1 else (eX s).2
def jh (s:List UInt8) (n:Int):Int:=if ls s=0/\(n<1\/4<n) then 3 else ls s
def gP (s:List UInt8) (n:Int):(List au×List ar)×Int:=if jh s n=0 then (((eX s).1,List.replicate n.toNat (eF (eX s).1)),0) else (([],[]),jh s n)
theorem Js {α:Type} (x:α) (k:Nat):List.replicate (k+1) x=List.replicate k x++ [x]:=List.replicate_succ' ..
theorem Bn (s:List UInt8) (n:Int) (hl:s.length<=140737488355320) (w:World) :
  Calls Tryz.prog 19 #[.string ⟨s.toArray⟩,.int .i64 n] w fun e w'=> ∃g:(Option Addr×Nat)×Option Addr×Nat,True/\e= .returned (.tuple #[.agg #[.slice g.1.1 (gP s n).1.1.length g.1.2],.agg #[.slice g.2.1 (gP s n).1.2.length g.2.2],.int .i64 (gP s n).2])/\
   Cw w.heap.size w [ap (.slice g.1.1 (gP s n).1.1.length g.1.2) (gP s n).1.1,ap (.slice g.2.1 (gP s n).1.2.length g.2.2) (gP s n).1.2] w':=by
 obtain⟨fs,hfs⟩:∃fs,(eX s).1=fs:=⟨_,rfl⟩
 have hE:ls s=if (eX s).2=0 then dU fs else (eX s).2:=by unfold ls;rw[hfs]
 have hdec:=fun w=>pK s w hl
 rw[hfs] at hdec
 refine enter Tryz.func19 rfl Tryz.ntmps19 rfl<|aj ?_
 refine fun g1 _=>aj ?_
 refine fun g2 _=>aj ?_
 refine oE (fC rfl rfl rfl RJ (fun w hw=>hdec w)) (fun⟨Af,cf⟩ _=>?_)
 refine aL ?_
 intro g3 _
 refine eP (ey _ fc II rfl rfl rfl rfl rfl (by rfl) rfl (by rfl)) rfl rfl (fun _ _=>?_)
 refine aH ?_
 refine bL<|dD (fun _:Unit=>True) (fun _=> [(1,.int .i64 n),(4,.pointer (some ⟨g1,0,none⟩)),(5,.pointer (some ⟨g2,0,none⟩)),(7,.pointer (some ⟨g3,0,none⟩)),(8,.int .i64 (ls s))]) (fun _=> [am g1 [.slice none 0 0] 24,am g2 [.slice none 0 0] 27,am g3 [.slice Af fs.length cf] 24,ap (.slice Af fs.length cf) fs]) ?_ ?_
 ·refine az (fun hz=>?_) (fun hz=>?_)
  ·have hz:(eX s).2=0:=hz
   rw[if_pos hz] at hE
   refine aj ?_
   refine cy rfl FK (fun w hw=>nx Af cf fs w (SF.at_ (SF.own rfl fc) hw))<|aj ?_
   rw[<-hE]
   refine nR () (trivial)
  have hz:¬(eX s).2=0:=hz
  rw[if_neg hz] at hE
  rw[<-hE]
  refine aj ?_
  refine du () (trivial)
 rintro⟨⟩ _
 refine dD (fun _:Unit=>True) (fun _=> [(1,.int .i64 n),(4,.pointer (some ⟨g1,0,none⟩)),(5,.pointer (some ⟨g2,0,none⟩)),(7,.pointer (some ⟨g3,0,none⟩)),(8,.int .i64 (jh s n))]) (fun _=> [am g1 [.slice none 0 0] 24,am g2 [.slice none 0 0] 27,am g3 [.slice Af fs.length cf] 24,ap (.slice Af fs.length cf) fs]) ?_ ?_
 ·refine dc 21 (fun q1=>?_) (fun q1=>?_)
  ·have q1:ls s=0:=of_decide_eq_true q1
   refine dc 24 (fun q2=>?_) (fun q2=>?_)
   ·have q2:n<1:=of_decide_eq_true q2
    have hN:jh s n=3:=by unfold jh;rw[if_pos ⟨q1,.inl q2⟩]
    rw[hN]
    refine aj ?_
    refine bo rfl<|aj ?_
    refine nR () (trivial)
   have q2:¬n<1:=of_decide_eq_false q2
   refine az (fun q3=>?_) (fun q3=>?_)
   ·have q3:4<n:=q3
    have hN:jh s n=3:=by unfold jh;rw[if_pos ⟨q1,.inr q3⟩]
    rw[hN]
    refine aj ?_
    refine nR () (trivial)
   have q3:¬4<n:=q3
   have hN:jh s n=ls s:=by unfold jh;rw[if_neg (fun h=>h.2.elim q2 q3)]
   rw[hN]
   refine aj ?_
   refine du () (trivial)
  have q1:¬ls s=0:=of_decide_eq_false q1
  have hN:jh s n=ls s:=by unfold jh;rw[if_neg (fun h=>q1 h.1)]
  rw[hN]
  refine aj ?_
  refine cB rfl<|aj ?_
  refine du () (trivial)
 rintro⟨⟩ _
 refine bU (fun hn=>?_) (fun hn=>?_)
 ·have hn:¬jh s n=0:=hn
  have hP:gP s n=(([],[]),jh s n):=by unfold gP;rw[if_neg hn]
  rw[hP]
  refine aj ?_
  intro w hw
  exact⟨((none,0),(none,0)),trivial,rfl,(Cw.nilO au (Cw.nilO ar hw)).msub ms⟩
 have hn:jh s n=0:=hn
 obtain⟨hz,hn1,hn4⟩:ls s=0/\1<=n/\n<=4:=by
  unfold jh at hn
  split at hn
  ·cases hn
  rename_i h;exact⟨hn,by omega,by omega⟩
 obtain⟨N,rfl⟩:=pm (show 0<=n by omega)
 have hp:dU fs=0:=by
  rw[hz] at hE
  split at hE
  ·exact hE.symm
  rename_i h;exact absurd hE.symm h
 have hP:gP s (N:Int)=((fs,List.replicate N (eF fs)),0):=by unfold gP;rw[if_pos hn,hfs];rfl
 rw[hP]
 have hpos:=mS hp
 refine aj ?_
 refine fun g4 _=>aj ?_
 refine dC (fun w h=>Cw.nilO ar h) ?_
 have hl6:(av fs 0).L.length<=1000:=by have:=((jj (nJ hp).p hpos).1.op 0 (jj (nJ hp).p hpos).2).par 0 hpos |>.2;omega
 have hI:aD (eF fs).S/\aD (eF fs).T:=by show aD 0/\aD 0;decide
 refine dG (fun g:Nat×Option Addr×Nat=>g.1<=N) (fun g=>N - g.1) (fun g=> [(4,.pointer (some ⟨g1,0,none⟩)),(5,.pointer (some ⟨g2,0,none⟩)),(7,.pointer (some ⟨g3,0,none⟩)),(9,.pointer (some ⟨g4,0,none⟩)),(34,.int .i64 (N:Int)),(35,.int .i64 (g.1:Int))]) (fun g=> [am g1 [.slice none 0 0] 24,am g2 [.slice none 0 0] 27,am g3 [.slice Af fs.length cf] 24,ap (.slice Af fs.length cf) fs,am g4 [.slice g.2.1 (List.replicate g.1 (eF fs)).length g.2.2] 27,ap (.slice g.2.1 (List.replicate g.1 (eF fs)).length g.2.2) (List.replicate g.1 (eF fs))]) (0,none,0) (bn _) ?_
 rintro⟨k,A1,c1⟩ hk'
 try dsimp only
 have hk:k<=N:=hk'
 have hrl:(List.replicate k (eF fs)).length=k:=List.length_replicate
 refine az (fun hlt=>?_) (fun hlt=>?_)
 ·have hkN:k<N:=by omega
  refine gB (gz ?_)
  refine dD (fun _:Option Addr×Nat=>True) (fun g=> [(4,.pointer (some ⟨g1,0,none⟩)),(5,.pointer (some ⟨g2,0,none⟩)),(7,.pointer (some ⟨g3,0,none⟩)),(9,.pointer (some ⟨g4,0,none⟩)),(34,.int .i64 (N:Int)),(35,.int .i64 (k:Int))]) (fun g=> [am g1 [.slice none 0 0] 24,am g2 [.slice none 0 0] 27,am g3 [.slice Af fs.length cf] 24,ap (.slice Af fs.length cf) fs,am g4 [.slice g.1 (List.replicate (k+1) (eF fs)).length g.2] 27,ap (.slice g.1 (List.replicate (k+1) (eF fs)).length g.2) (List.replicate (k+1) (eF fs))]) ?_ ?_
  ·refine aj ?_
   refine bR [0,3,6,11,14,17,19,23] [5,6,7] rfl<|aj ?_
   refine jJ rfl rfl Tryz.call73 (fun w hw=>Bg Af cf fs w (SF.at_ (SF.own rfl fc) hw) hpos hl6) (fun ga _=>aj ?_)
   intro g5 _
   refine pE rfl (cT (α:=ar) (bytes:=112) (eF fs) [ap (.slice ga.Af (eF fs).F.length ga.cf) (eF fs).F,ap (.slice ga.Ab (eF fs).B.length ga.cb) (eF fs).B,ap (.slice ga.Ai (eF fs).I.length ga.ci) (eF fs).I,ap (.slice ga.Ao (eF fs).out.length ga.co) (eF fs).out] (Js (eF fs) k) dZ (bJ ll) rfl (vQ fc fc fc fc fc fc) (oP hI) (by omega) (by omega) rfl rfl rfl) (fun⟨A5,c5⟩ _=>?_)
   refine aL ?_
   refine du (A5,c5) (trivial) (hh:=(fun _ h=>h.msub ms))
  rintro⟨A5,c5⟩ _
  refine aL ?_
  refine dw (k+1,A5,c5) (by show k+1<=_;omega) (by show _ - _<_ - _;omega)
 obtain rfl:k=N:=by omega
 refine aj ?_
 refine dK [0,3,8,11,13] [3,4] rfl [am g3 [.slice Af fs.length cf] 24,am g4 [.slice A1 (List.replicate k (eF fs)).length c1] 27]<|aj ?_
 intro w hw
 exact⟨((Af,cf),(A1,c1)),trivial,rfl,hw.msub ms⟩
end
section
def fD (l:List Int):List UInt8:=aG l.length::l.flatMap dr
def fL (v:aF):List UInt8:=aG (if v.ref=true then 1 else 0)::dr v.n
def gM (l:List aF):List UInt8:=aG l.length::l.flatMap fL
def gt (x:aB):List UInt8:=aG x.func::aG x.pc::(gM x.L++gM x.K)
def js (m:ar):List UInt8:=
 aG m.S::aG m.T::(fD m.I++(fD m.out++(aG m.B.length::(m.B.flatMap fD++(aG m.F.length::m.F.flatMap gt)))))
abbrev ke (α:Type):=List UInt8->Option (α×List UInt8)
def kt:ke Int
 | []=>none
 | b::l=>some ((b.toNat:Int),l)
def kO:ke Int:=fun s=>if s.length<4 then none else some (cR (s.take 4),s.drop 4)
def ft {α:Type} (p:ke α):Nat->ke (List α)
 | 0,s=>some ([],s)
 | k+1,s=>match p s with
  | none=>none
  | some (x,r)=>match ft p k r with
   | none=>none
   | some (l,t)=>some (x::l,t)
def ig {α:Type} (p:ke α):ke (List α):=fun s=>match kt s with
 | none=>none
 | some (n,r)=>ft p n.toNat r
def jZ:ke (List Int):=ig kO
def ia:ke aF:=fun s=>match kt s with
 | none=>none
 | some (n,r)=>if 1<n then none else match kO r with
  | none=>none
  | some (z,t)=>some (⟨decide (n=1),z⟩,t)
def mN:ke (List aF):=ig ia
def gJ:ke aB:=fun s=>match kt s with
 | none=>none
 | some (f,s1)=>match kt s1 with
  | none=>none
  | some (p,s2)=>match mN s2 with
   | none=>none
   | some (l,s3)=>match mN s3 with
    | none=>none
    | some (t,s4)=>some (⟨f,p,l,t⟩,s4)
def ka:ke ar:=fun s=>match kt s with
 | none=>none
 | some (st,s1)=>match kt s1 with
  | none=>none
  | some (tr,s2)=>match jZ s2 with
   | none=>none
   | some (i,s3)=>match jZ s3 with
    | none=>none
    | some (o,s4)=>match ig jZ s4 with
     | none=>none
     | some (b,s5)=>match ig gJ s5 with
      | none=>none
      | some (f,s6)=>some (⟨f,b,i,o,st,tr⟩,s6)
def iA (s:List UInt8):Option ar:=match ka s with
 | none=>none
 | some (m,r)=>if r= [] then some m else none
def mD {α:Type} (p:ke α) (x:α) (b:List UInt8):Prop:= ∀r,p (b++r)=some (x,r)
theorem oy {n:Int} (h:0<=n/\n<=255):mD kt n [aG n]:=fun r=>by
 show some ((((aG n).toNat:Nat):Int),r)=_
 rw[B7 h]
theorem vg (n:Int):(dr n).length=4:=rfl
theorem BA {n:Int} (h:bA n=true):mD kO n (dr n):=fun r=>by
 unfold kO
 rw[if_neg (by rw[aq,vg];omega),List.take_left' (vg n),List.drop_left' (vg n),rO n h]
theorem Bk {α:Type} {p:ke α} {f:α->List UInt8} :∀(l:List α),(∀x∈l,mD p x (f x))->mD (ft p l.length) l (l.flatMap f)
 | [],_=>fun r=>rfl
 | x::l,h=>fun r=>by
  rw[aS,ft,eD,aX,h x (by simp),]
  simp only
  rw[Bk l (fun y hy=>h y (by simp[hy]))]
theorem qQ {α:Type} {p:ke α} {f:α->List UInt8} (l:List α) (hl:l.length<=255) (h:∀x∈l,mD p x (f x)):mD (ig p) l (aG l.length::l.flatMap f):=fun r=>by
 unfold ig
 have:=oy (n:=l.length) (by omega) (l.flatMap f++r)
 rw[rL] at this
 rw[dt,this]
 simp only[bi]
 exact Bk l h r
theorem uW {l:List Int} (hl:l.length<=255) (h:∀n∈l,bA n=true):mD jZ l (fD l):=qQ l hl fun n hn=>BA (h n hn)
theorem FU {v:aF} (h:bA v.n=true):mD ia v (fL v):=fun r=>by
 obtain⟨b,n⟩:=v
 unfold ia fL
 have h1:=oy (n:=if b=true then 1 else 0) (by cases b <;> decide) (dr n++r)
 rw[rL] at h1
 rw[dt,h1]
 simp only
 rw[if_neg (by cases b <;> decide),BA h]
 cases b <;> rfl
theorem vB {l:List aF} (hl:l.length<=255) (h:∀v∈l,bA v.n=true):mD mN l (gM l):=qQ l hl fun n hn=>FU (h n hn)
structure K9 (x:aB):Prop where
 f:0<=x.func/\x.func<=255
 p:0<=x.pc/\x.pc<=255
 l:x.L.length<=255/\∀v∈x.L,bA v.n=true
 s:x.K.length<=255/\∀v∈x.K,bA v.n=true
theorem HM {x:aB} (h:K9 x):mD gJ x (gt x):=fun r=>by
 unfold gJ gt
 have h1:=oy h.f (aG x.pc::(gM x.L++gM x.K)++r)
 rw[rL] at h1
 rw[dt,h1]
 have h2:=oy h.p ((gM x.L++gM x.K)++r)
 rw[rL] at h2
 rw[dt,]
 simp only
 rw[h2]
 simp only
 rw[aX,vB h.l.1 h.l.2]
 simp only
 rw[vB h.s.1 h.s.2]
structure MI (m:ar):Prop where
 s:0<=m.S/\m.S<=255
 t:0<=m.T/\m.T<=255
 i:m.I.length<=255/\∀n∈m.I,bA n=true
 o:m.out.length<=255/\∀n∈m.out,bA n=true
 b:m.B.length<=255/\∀l∈m.B,l.length<=255/\∀n∈l,bA n=true
 f:m.F.length<=255/\∀x∈m.F,K9 x
theorem JY {m:ar} (h:MI m):mD ka m (js m):=fun r=>by
 have h1:=fun r=>oy h.s r
 have h2:=fun r=>oy h.t r
 have h5:=qQ (p:=jZ) m.B h.b.1 fun l hl=>uW (h.b.2 l hl).1 (h.b.2 l hl).2
 have h6:=qQ (p:=gJ) m.F h.f.1 fun x hx=>HM (h.f.2 x hx)
 simp only[rL] at h1 h2
 unfold ka js
 rw[dt,h1]
 simp only
 rw[dt,h2]
 simp only
 rw[aX,uW h.i.1 h.i.2]
 simp only
 rw[aX,uW h.o.1 h.o.2]
 simp only
 rw[show (aG m.B.length::(m.B.flatMap fD++(aG m.F.length::m.F.flatMap gt)))++r=(aG m.B.length::m.B.flatMap fD)++((aG m.F.length::m.F.flatMap gt)++r) from by simp,h5]
 simp only
 rw[h6]
theorem En {m:ar} (h:MI m):iA (js m)=some m:=by
 unfold iA
 have:=JY h []
 rw[dN] at this
 rw[this]
 rfl
def K6 {α:Type} (p:ke α) (f:α->List UInt8):Prop:= ∀s x r,p s=some (x,r)->s=f x++r
theorem Mg {s:List UInt8} {x:Int} {r:List UInt8} (h:kt s=some (x,r)):0<=x/\x<=255:=by
 cases s with
 | nil=>cases h
 | cons b l=>
  obtain⟨rfl,rfl⟩:(b.toNat:Int)=x/\l=r:=by simpa [kt] using h
  have:=b.toNat_lt
  omega
theorem QU:∀(s:List UInt8),¬s.length<4->∃a b c d l,s=a::b::c::d::l
 | [],h=>absurd (by simp) h
 | [_],h=>absurd (by simp) h
 | [_,_],h=>absurd (by simp) h
 | [_,_,_],h=>absurd (by simp) h
 | a::b::c::d::l,_=>⟨a,b,c,d,l,rfl⟩
theorem EN {α:Type} {p:ke α} {f:α->List UInt8} (h:K6 p f):∀k,K6 (ft p k) (fun l=>l.flatMap f)
 | 0=>fun s x r e=>by
  obtain⟨rfl,rfl⟩: []=x/\s=r:=by simpa [ft] using e
  rfl
 | k+1=>fun s x r e=>by
  unfold ft at e
  split at e
  ·cases e
  rename_i y t e1
  split at e
  ·cases e
  rename_i l u e2
  obtain⟨rfl,rfl⟩:y::l=x/\u=r:=by simpa using e
  rw[h _ _ _ e1,EN h k _ _ _ e2]
  show _=(y::l).flatMap f++u
  rw[eD,aX]
theorem ya {α:Type} {p:ke α} :∀k s x r,ft p k s=some (x,r)->x.length=k
 | 0,s,x,r,e=>by
  obtain⟨rfl,rfl⟩: []=x/\s=r:=by simpa [ft] using e
  rfl
 | k+1,s,x,r,e=>by
  unfold ft at e
  split at e
  ·cases e
  rename_i y t e1
  split at e
  ·cases e
  rename_i l u e2
  obtain⟨rfl,rfl⟩:y::l=x/\u=r:=by simpa using e
  rw[aS,ya k _ _ _ e2]
theorem zy {nb:Nat} {v:aF} (hn:nb<=8) (h:eE nb v=true):bA v.n=true:=by
 unfold eE at h
 split at h
 ·have:=cU.1 h
  unfold bA
  simp only[cW,decide_eq_true_eq]
  omega
 exact h
theorem Id {l:List (List Int)} {x:List Int} (h:x∈l):x.length<=cn l:=by
 unfold cn
 induction l with
 | nil=>cases h
 | cons y l ih=>
  rw[dW,List.sum_cons]
  rcases cZ.1 h with rfl | h
  ·omega
  have:=ih h
  omega
theorem IY {fs:List au} {l:List aB} {i:Nat} {t:List Int} (h:gL fs l i=some t):∃t',gh fs (iR fs l i) (aQ l i).pc=some t':=by
 unfold gL at h
 split at h
 ·exact⟨t,h⟩
 split at h
 ·cases h
 split at h
 ·cases h
 cases h5:gh fs (iR fs l i) (aQ l i).pc with
 | none=>rw[h5] at h;cases h
 | some t'=>exact⟨t',rfl⟩
theorem Qe {fs:List au} (hF:fk fs) {m:ar} (h:bx fs m) {i:Nat} (hi:i<m.F.length):K9 (aQ m.F i):=by
 obtain⟨t,hw,hl,hs⟩:=h.fr i hi
 obtain⟨t',he⟩:=IY hw
 have hz:=h.fn _ (fT hi)
 have hk:(aQ m.F i).func.toNat<fs.length:=by omega
 have h5:fs.length<=5:=by
  have:=hF.p
  unfold dy at this
  split at this
  ·cases this
  split at this
  ·cases this
  omega
 obtain⟨p0,p1,_⟩:=(hF.e _ hk).at_ _ _ he
 have h40:=(jj hF.p hk).1.n40
 have h6:=(kr ((ip hF.p).2.2 _ (iZ hk))).1
 have hb:=(iS h.bl).1
 have hsm:=(ve hF h hi).1
 have hll:=hl.len
 unfold iR at hll
 exact⟨by omega,by omega,⟨by omega,fun v hv=>zy hb (hl.val v hv)⟩,⟨by omega,fun v hv=>zy hb (hs.val v hv)⟩⟩
theorem AC {fs:List au} (hF:fk fs) {m:ar} (h:bx fs m):MI m where
 s:=by have:=h.st;omega
 t:=by
  by_cases e:m.S=3
  ·have:=h.t3 e;omega
  have:=h.t0 e;omega
 i:=⟨by have:=h.ib;omega,h.ii⟩
 o:=⟨by have:=h.ob;omega,h.oi⟩
 b:=by
  obtain⟨h1,h2,h3⟩:=nw h.bl
  refine⟨by omega,fun l hl=>⟨by have:=Id hl;omega,fun n hn=>?_⟩⟩
  refine eB fun hno=>?_
  have:m.B.any dL=true:=cV.2 ⟨l,hl,by unfold dL;exact cV.2 ⟨n,hn,by simpa using hno⟩⟩
  rw[h3] at this
  cases this
 f:=by
  refine⟨by have:=h.n6;omega,fun x hx=>?_⟩
  obtain⟨i,hi,rfl⟩:=cz hx
  have:=Qe hF h hi
  unfold aQ at this
  rwa [ak,an hi] at this
end
section
section
variable {B:Nat} {w0:World} {H:List aC}
def Fw (B:Nat) (w0:World) (H:List aC) (gb:Nat) (bs:List UInt8) (e:Ending) (w':World):Prop:= ∃g:Option Addr×Nat,True/\e= .returned (.tuple #[])/\Cw B w0 (am gb [.slice g.1 bs.length g.2] 228::ap (.slice g.1 bs.length g.2) bs::H) w'
theorem ly (gb:Nat) (xs:List Int) (A:Option Addr) (c:Nat) (hs:SF B w0 H A xs.length c xs) (bs:List UInt8) (Ab:Option Addr) (cb:Nat) (hbd:bs.length+xs.length<=1000000) (w:World) (hw:Cw B w0 (am gb [.slice Ab bs.length cb] 228::ap (.slice Ab bs.length cb) bs::H) w) :
  Calls Tryz.prog 171 #[.pointer (some ⟨gb,0,none⟩),.slice A xs.length c] w (Fw B w0 H gb (bs++xs.map aG)):=by
 refine aY Tryz.func171 rfl Tryz.ntmps171 rfl hw<|aj ?_
 refine dG (fun g:Nat×Option Addr×Nat=>g.1<=xs.length) (fun g=>xs.length - g.1) (fun g=> [(0,.pointer (some ⟨gb,0,none⟩)),(6,.slice A xs.length c),(7,.int .i64 (xs.length:Int)),(8,.int .i64 (g.1:Int))]) (fun g=> [am gb [.slice g.2.1 (bs++(xs.take g.1).map aG).length g.2.2] 228,ap (.slice g.2.1 (bs++(xs.take g.1).map aG).length g.2.2) (bs++(xs.take g.1).map aG)]++H) (0,Ab,cb) (bn _) ?_ (hh:=(fun _ h=>by simpa using h))
 rintro⟨j,Aj,cj⟩ hj'
 try dsimp only
 have hj:j<=xs.length:=hj'
 have hlj:(bs++(xs.take j).map aG).length<=bs.length+xs.length:=by rw[aq,aN,ax];omega
 refine az (fun hlt=>?_) (fun hlt=>?_)
 ·have hjl:j<xs.length:=by omega
  refine aj ?_
  refine dB (_) rfl ((.s (.s hs))) ?_
  refine oN rfl ((.s (.s hs)))<|aj ?_
  refine sE (GK rX nQ rfl rfl)<|aj ?_
  intro g1 _
  refine oE (cT (α:=UInt8) (bytes:=1) (aG (xs.getD j 0)) [] (Bj hjl) jQ (bJ nG) rfl (fN fc fc) (eG trivial) (by omega) (by omega) rfl rfl rfl) (fun⟨A4,c4⟩ _=>?_)
  refine aL ?_
  refine dw (j+1,A4,c4) (by show j+1<=_;omega) (by show _ - _<_ - _;omega) (hh:=(fun _ h=>h.msub ms))
 obtain rfl:j=xs.length:=by omega
 refine aj ?_
 intro w hw
 refine⟨(Aj,cj),trivial,rfl,?_⟩
 rw[aR] at hw
 exact hw.msub ms
theorem og {α:Type} {f:α->List UInt8} {l:List α} {k:Nat} (hk:k<l.length) (d:α) (b:List UInt8):b++(l.take (k+1)).flatMap f=(b++(l.take k).flatMap f)++f (l.getD k d):=by
 rw[cN hk,pk,aX,ak,an hk]
 simp
theorem rs {α:Type} {f:α->List UInt8} {m:Nat} (l:List α) (h:∀x∈l,(f x).length<=m) (k:Nat):((l.take k).flatMap f).length<=m*l.length:=by
 induction l generalizing k with
 | nil=>simp
 | cons x l ih=>
  cases k with
  | zero=>simp
  | succ k=>
   have h1:=h x (by simp)
   have h2:=ih (fun y hy=>h y (by simp[hy])) k
   rw[fy,eD,aq,aS,Nat.mul_add]
   omega
theorem sP {α:Type} {f:α->List UInt8} {m:Nat} (l:List α) (h:∀x∈l,(f x).length<=m):(l.flatMap f).length<=m*l.length:=by
 have:=rs l h l.length
 rwa [aR] at this
theorem G0 (l:List Int):(fD l).length=1+(l.flatMap dr).length:=by simp[fD];omega
theorem D2 (l:List Int) (k:Nat):((l.take k).flatMap dr).length<=4*l.length:=rs l (fun _ _=>aA 4) k
theorem tq (l:List aF) (k:Nat):((l.take k).flatMap fL).length<=5*l.length:=rs l (fun _ _=>aA 5) k
theorem sa (gb:Nat) (xs:List Int) (A:Option Addr) (c:Nat) (hs:br w0 B (.slice A xs.length c) xs) (bs:List UInt8) (Ab:Option Addr) (cb:Nat) (hbd:bs.length+4*xs.length+1<=1000000) (w:World) (hw:Cw B w0 (am gb [.slice Ab bs.length cb] 228::ap (.slice Ab bs.length cb) bs::H) w) :
  Calls Tryz.prog 172 #[.pointer (some ⟨gb,0,none⟩),.slice A xs.length c] w (Fw B w0 H gb (bs++fD xs)):=by
 have hl1:(bs++ [aG (xs.length:Int)]).length=bs.length+1:=by simp
 refine aY Tryz.func172 rfl Tryz.ntmps172 rfl hw<|aj ?_
 intro g1 _
 refine ew (fun w h=>bG (α:=Int) (m:=1) [(xs.length:Int)] rfl (fY (by unfold aD;omega)) rfl (by decide) h) ?_
 refine cc rfl qG (fun w hw=>ly gb [(xs.length:Int)] _ _ (.own rfl .a) bs Ab cb (by show _+1<=_;omega) w (hw.msub (.s fc (.s fc .r)))) (fun⟨A1,c1⟩ _=>?_)
 refine aL ?_
 refine dG (fun g:Nat×Option Addr×Nat=>g.1<=xs.length) (fun g=>xs.length - g.1) (fun g=> [(0,.pointer (some ⟨gb,0,none⟩)),(11,.slice A xs.length c),(12,.int .i64 (xs.length:Int)),(13,.int .i64 (g.1:Int))]) (fun g=> [am gb [.slice g.2.1 ((bs++ [aG xs.length])++(xs.take g.1).flatMap dr).length g.2.2] 228,ap (.slice g.2.1 ((bs++ [aG xs.length])++(xs.take g.1).flatMap dr).length g.2.2) ((bs++ [aG xs.length])++(xs.take g.1).flatMap dr)]++H) (0,A1,c1) (bn _) ?_ (hh:=(fun w h=>by have h:=h.msub (T:=am gb _ _::ap _ (bs++ [aG (xs.length:Int)])::H) ms;simpa using h))
 rintro⟨j,Aj,cj⟩ hj'
 try dsimp only
 have hj:j<=xs.length:=hj'
 have h4:=D2 xs j
 have hlj:((bs++ [aG (xs.length:Int)])++(xs.take j).flatMap dr).length<=bs.length+1+4*xs.length:=by rw[aq,hl1];omega
 refine az (fun hlt=>?_) (fun hlt=>?_)
 ·have hjl:j<xs.length:=by omega
  refine aj ?_
  refine dB (_) rfl ((.ro hs)) ?_
  refine oN rfl ((.ro hs))<|aj ?_
  refine dK [0,3,6,9,12,15,20,23,24,27,32] [10] rfl [am gb [.slice Aj ((bs++ [aG (xs.length:Int)])++(xs.take j).flatMap dr).length cj] 228]<|aj ?_
  refine kT rfl rfl Tryz.call176 (fun w hw=>vh (xs.getD j 0) w) ?_
  refine pE rfl (xg (bytes:=1) (og hjl 0 _) jQ jM (bJ nG) rfl fc (by show _+4<=_;omega) (by show (_+4)*1<=_;omega) rfl rfl rfl) (fun⟨A4,c4⟩ _=>?_)
  refine aL ?_
  refine dw (j+1,A4,c4) (by show j+1<=_;omega) (by show _ - _<_ - _;omega) (hh:=(fun _ h=>h.msub ms))
 obtain rfl:j=xs.length:=by omega
 refine aj ?_
 intro w hw
 refine⟨(Aj,cj),trivial,rfl,?_⟩
 rw[aR,show (bs++ [aG (xs.length:Int)])++xs.flatMap dr=bs++fD xs from by simp[fD]] at hw
 exact hw.msub ms
theorem xB (gb:Nat) (xs:List aF) (A:Option Addr) (c:Nat) (hs:br w0 B (.slice A xs.length c) xs) (bs:List UInt8) (Ab:Option Addr) (cb:Nat) (hbd:bs.length+5*xs.length+3<=1000000) (w:World) (hw:Cw B w0 (am gb [.slice Ab bs.length cb] 228::ap (.slice Ab bs.length cb) bs::H) w) :
  Calls Tryz.prog 173 #[.pointer (some ⟨gb,0,none⟩),.slice A xs.length c] w (Fw B w0 H gb (bs++gM xs)):=by
 have hl1:(bs++ [aG (xs.length:Int)]).length=bs.length+1:=by simp
 refine aY Tryz.func173 rfl Tryz.ntmps173 rfl hw<|aj ?_
 intro g1 _
 refine ew (fun w h=>bG (α:=Int) (m:=1) [(xs.length:Int)] rfl (fY (by unfold aD;omega)) rfl (by decide) h) ?_
 refine cc rfl qG (fun w hw=>ly gb [(xs.length:Int)] _ _ (.own rfl .a) bs Ab cb (by show _+1<=_;omega) w (hw.msub (.s fc (.s fc .r)))) (fun⟨A1,c1⟩ _=>?_)
 refine aL ?_
 refine dG (fun g:Nat×Option Addr×Nat=>g.1<=xs.length) (fun g=>xs.length - g.1) (fun g=> [(0,.pointer (some ⟨gb,0,none⟩)),(12,.slice A xs.length c),(13,.int .i64 (xs.length:Int)),(14,.int .i64 (g.1:Int))]) (fun g=> [am gb [.slice g.2.1 ((bs++ [aG xs.length])++(xs.take g.1).flatMap fL).length g.2.2] 228,ap (.slice g.2.1 ((bs++ [aG xs.length])++(xs.take g.1).flatMap fL).length g.2.2) ((bs++ [aG xs.length])++(xs.take g.1).flatMap fL)]++H) (0,A1,c1) (bn _) ?_ (hh:=(fun w h=>by have h:=h.msub (T:=am gb _ _::ap _ (bs++ [aG (xs.length:Int)])::H) ms;simpa using h))
 rintro⟨j,Aj,cj⟩ hj'
 try dsimp only
 have hj:j<=xs.length:=hj'
 have h4:=tq xs j
 have hlj:((bs++ [aG (xs.length:Int)])++(xs.take j).flatMap fL).length<=bs.length+1+5*xs.length:=by rw[aq,hl1];omega
 refine az (fun hlt=>?_) (fun hlt=>?_)
 ·have hjl:j<xs.length:=by omega
  obtain⟨V,hV⟩:∃V,xs.getD j default=V:=⟨_,rfl⟩
  have hstep:=og (f:=fL) hjl default (bs++ [aG (xs.length:Int)])
  rw[hV] at hstep
  refine aj ?_
  refine dB (_) rfl ((.ro hs)) ?_
  refine iQ rfl (SF.val (.ro hs) hjl default)<|aj ?_
  refine fun g2 _=>aj ?_
  rw[hV]
  refine tQ (fun _:Unit=>True) (fun _=> [(0,.pointer (some ⟨gb,0,none⟩)),(5,.pointer (some ⟨g2,0,none⟩)),(6,.int .i64 (if V.ref=true then 1 else 0)),(12,.slice A xs.length c),(13,.int .i64 (xs.length:Int)),(14,.int .i64 (j:Int))]) (fun _=> [am g2 [.bool V.ref,.int .i64 V.n] 159,am gb [.slice Aj ((bs++ [aG (xs.length:Int)])++(xs.take j).flatMap fL).length cj] 228,ap (.slice Aj ((bs++ [aG (xs.length:Int)])++(xs.take j).flatMap fL).length cj) ((bs++ [aG (xs.length:Int)])++(xs.take j).flatMap fL)]++H) ?_ ?_
  ·refine cg rfl (fun hr=>?_) (fun hr=>?_)
   ·rw[if_pos hr]
    refine aj ?_
    refine nR () (trivial) (hh:=(fun _ h=>h.msub ms))
   rw[if_neg (by rw[hr];decide)]
   refine aj ?_
   refine du () (trivial) (hh:=(fun _ h=>h.msub ms))
  rintro _ _
  refine aL ?_
  intro g3 _
  refine ew (fun w h=>bG (α:=Int) (m:=1) [(if V.ref=true then 1 else 0:Int)] rfl (fY (by unfold aD;split <;> omega)) rfl (by decide) h) ?_
  refine cc rfl qG (fun w hw=>ly gb [(if V.ref=true then 1 else 0:Int)] _ _ (.own rfl .a) ((bs++ [aG (xs.length:Int)])++(xs.take j).flatMap fL) Aj cj (by show _+1<=_;omega) w (hw.msub (.s fc (.s fc .r)))) (fun⟨A2,c2⟩ _=>?_)
  try dsimp only
  refine bL ?_
  have hl2:(((bs++ [aG (xs.length:Int)])++(xs.take j).flatMap fL)++ [(if V.ref=true then 1 else 0:Int)].map aG).length<=bs.length+2+5*xs.length:=by rw[aq];show _+1<=_;omega
  refine dK [0,3,6,9,12,15,18,23,26,27,30,35] [11] rfl [am gb [.slice A2 (((bs++ [aG (xs.length:Int)])++(xs.take j).flatMap fL)++ [(if V.ref=true then 1 else 0:Int)].map aG).length c2] 228,am g2 [.bool V.ref,.int .i64 V.n] 159]<|aj ?_
  refine kT rfl rfl Tryz.call176 (fun w hw=>vh V.n w) ?_
  refine pE rfl (xg (bytes:=1) (xs:=((bs++ [aG (xs.length:Int)])++(xs.take j).flatMap fL)++ [(if V.ref=true then 1 else 0:Int)].map aG) (xs':=(bs++ [aG (xs.length:Int)])++(xs.take (j+1)).flatMap fL) (by rw[hstep];simp[fL]) jQ jM (bJ nG) rfl fc (by show _+4<=_;omega) (by show (_+4)*1<=_;omega) rfl rfl rfl) (fun⟨A4,c4⟩ _=>?_)
  refine aL ?_
  refine dw (j+1,A4,c4) (by show j+1<=_;omega) (by show _ - _<_ - _;omega) (hh:=(fun _ h=>h.msub ms))
 obtain rfl:j=xs.length:=by omega
 refine aj ?_
 intro w hw
 refine⟨(Aj,cj),trivial,rfl,?_⟩
 rw[aR,show (bs++ [aG (xs.length:Int)])++xs.flatMap fL=bs++gM xs from by simp[gM]] at hw
 exact hw.msub ms
end
end
section
abbrev QC (s:List UInt8):Value:= .string ⟨s.toArray⟩
def oD:List PanicEntry:=OS (.iface 231 (.agg #[]))
section
variable {B:Nat} {w0:World} {H:List aC}
def kg {α γ:Type} (B:Nat) (w0:World) (gr:Nat) (r:Option (α×List UInt8)) (val:α->γ->Value) (H':α->γ->List aC) (H:List aC) (e:Ending) (w':World):Prop:=
 (∃g:(α×List UInt8)×γ,r=some g.1/\e= .returned (val g.1.1 g.2)/\Cw B w0 (am gr [.string ⟨g.1.2.toArray⟩] 235::H' g.1.1 g.2) w')\/∃ch,e= .panicked ch/\(r=none/\ch=oD)/\Cw B w0 H w'
theorem ND {s:List UInt8} {k:Nat} (h:k<=s.length):eU s (k:Int)=(s.take k,s.drop k,true):=by
 unfold eU
 rw[if_neg (by omega),bi]
theorem NE {s:List UInt8} {k:Nat} (h:s.length<k):eU s (k:Int)=([],[],false):=by
 unfold eU
 rw[if_pos (by omega)]
def iN (k:Nat):ke (List UInt8):=fun s=>if s.length<k then none else some (s.take k,s.drop k)
theorem sq (gr k:Nat) (s:List UInt8) (hl:s.length<=140737488355328) (w:World) (hw:Cw B w0 (am gr [.string ⟨s.toArray⟩] 235::H) w) :
  Calls Tryz.prog 280 #[.pointer (some ⟨gr,0,none⟩),.int .i64 (k:Int)] w (kg B w0 gr (iN k s) (fun a (_:Unit)=>QC a) (fun _ _=>H) H):=by
 refine aY Tryz.func280 rfl Tryz.ntmps280 rfl hw<|aj ?_
 refine cy rfl Tryz.call212 (fun w hw=>xx s (k:Int) w (by omega) hl)<|aj ?_
 by_cases h:s.length<k
 ·rw[NE h]
  have hn:iN k s=none:=by unfold iN;rw[if_pos h]
  refine di (t:=19) (v':= .bool true) rfl (rfl) ?_
  refine bo rfl<|aj ?_
  refine sE (pJ IG rfl rfl) ?_
  refine jD rfl rfl rfl ?_
  intro a w hf hw
  exact⟨hf.2.1,.inr ⟨_,rfl,⟨hn,rfl⟩,hw.msub ms⟩⟩
 rw[ND (by omega)]
 have hn:iN k s=some (s.take k,s.drop k):=by unfold iN;rw[if_neg h]
 refine di (t:=19) (v':= .bool false) rfl (rfl) ?_
 refine cB rfl<|aj ?_
 intro w hw
 exact .inl ⟨((s.take k,s.drop k),()),hn,rfl,hw⟩
theorem PR {s a r:List UInt8} (h:iN 1 s=some (a,r)):∃b,s=b::r/\a= [b]:=by
 unfold iN at h
 split at h
 ·cases h
 cases s with
 | nil=>simp at *
 | cons b l=>
  simp at h
  exact⟨b,by rw[h.2],h.1.symm⟩
theorem I5 {s:List UInt8} (h:iN 1 s=none):kt s=none:=by
 unfold iN at h
 split at h
 ·rename_i h1
  have:s= []:=aT (by omega)
  rw[this];rfl
 cases h
theorem tw (s:List UInt8):kO s=(iN 4 s).map fun p=>(cR p.1,p.2):=by
 unfold kO iN
 split <;> rfl
theorem uJ {k:Nat} {s a r:List UInt8} (h:iN k s=some (a,r)):a.length<=s.length/\r.length<=s.length:=by
 unfold iN at h
 split at h
 ·cases h
 simp at h
 obtain⟨rfl,rfl⟩:=h
 rw[ax,aE]
 omega
theorem lN (gr:Nat) (s:List UInt8) (hl:s.length<=140737488355328) (w:World) (hw:Cw B w0 (am gr [.string ⟨s.toArray⟩] 235::H) w) :
  Calls Tryz.prog 225 #[.pointer (some ⟨gr,0,none⟩)] w (kg B w0 gr (kt s) (fun a (_:Unit)=> .int .i64 a) (fun _ _=>H) H):=by
 refine aY Tryz.func225 rfl Tryz.ntmps225 rfl hw<|aj ?_
 refine eu (cX rfl rfl rfl Ro (fun w hw=>sq gr 1 s hl w hw)) rfl rfl (fun _ _ _ hf hp=>⟨hf.2.1,.inr ⟨_,rfl,⟨I5 hp.1.1,hp.1.2⟩,hp.2⟩⟩) (fun⟨⟨a,r⟩,_⟩ hr=>?_)
 try dsimp only
 obtain⟨b,rfl,rfl⟩:=PR hr
 refine sE (DH (k:=0) jM (by simp) rfl rfl rfl) ?_
 refine sE (GN nQ rX rfl rfl)<|aj ?_
 intro w hw
 exact .inl ⟨(((b.toNat:Int),r),()),rfl,rfl,hw⟩
theorem ir {s r:List UInt8} {z:Int} (h:kt s=some (z,r)):r.length<=s.length/\(0<=z/\z<=255):=by
 have hb:=Mg h
 cases s with
 | nil=>cases h
 | cons b l=>
  obtain⟨_,rfl⟩:(b.toNat:Int)=z/\l=r:=by simpa [kt] using h
  exact⟨by simp,hb⟩
def pR {α:Type} (p:ke α):Prop:= ∀s x r,p s=some (x,r)->r.length<=s.length
theorem vZ {α:Type} {p:ke α} (h:pR p):∀k,pR (ft p k)
 | 0=>fun s x r e=>by
  obtain⟨rfl,rfl⟩: []=x/\s=r:=by simpa [ft] using e
  exact aA _
 | k+1=>fun s x r e=>by
  unfold ft at e
  split at e
  ·cases e
  rename_i y t e1
  split at e
  ·cases e
  rename_i l u e2
  obtain⟨rfl,rfl⟩:y::l=x/\u=r:=by simpa using e
  exact cY (vZ h k _ _ _ e2) (h _ _ _ e1)
theorem qR {α:Type} {p:ke α} (h:pR p):pR (ig p):=fun s x r e=>by
 unfold ig at e
 split at e
 ·cases e
 rename_i n t e1
 exact cY (vZ h _ _ _ _ e) (ir e1).1
theorem rr:pR kO:=fun s x r e=>by
 rw[tw] at e
 cases h:iN 4 s with
 | none=>rw[h] at e;cases e
 | some p=>
  rw[h] at e
  obtain⟨_,rfl⟩:cR p.1=x/\p.2=r:=by simpa using e
  exact(uJ h).2
theorem sd {α:Type} {p:ke α} {s r:List UInt8} {x:List α} (e:ig p s=some (x,r)):x.length<=255:=by
 unfold ig at e
 split at e
 ·cases e
 rename_i n t e1
 rw[ya _ _ _ _ e]
 have:=(ir e1).2
 omega
theorem EM {α:Type} {p:ke α} {acc:List α} {x:α} {u:List UInt8} {n:Nat} :Option.map (fun q:List α×List UInt8=>(acc++q.1,q.2)) (match ft p n u with
  | none=>none
  | some (l,t)=>some (x::l,t))=(ft p n u).map (fun q=>((acc++ [x])++q.1,q.2)):=by cases ft p n u <;> simp
theorem If {P:Program} {f:FuncId} {cap:List Value} {w:World} {R:Ending->World->Prop} (h:Calls P f cap.toArray w R):Calls P f (([]:List Value)++cap.toArray.toList).toArray w R:=by simpa using h
def Qo {α γ:Type} (B:Nat) (w0:World) (gr:Nat) (r:Option (List α×List UInt8)) (K:List α->γ->List aC) (H:List aC):Ending->World->Prop:=kg B w0 gr r (fun _ (_:γ)=> .tuple #[]) (fun a g=>K a g++H) H
theorem pu {α γ:Type} (gr:Nat) (f:FuncId) (cap:List Value) (p:ke α) (hpl:pR p) (K:List α->γ->List aC) (hcall:∀a w,(callFunc f a).run Tryz.prog w= .ok (.enter f a) w)
  (hdo:∀(s:List UInt8) (acc:List α) (g:γ) (w:World),s.length<=140737488355320->acc.length<=254->Cw B w0 (am gr [.string ⟨s.toArray⟩] 235::(K acc g++H)) w->
   Calls Tryz.prog f cap.toArray w (kg B w0 gr (p s) (fun _ (_:γ)=> .tuple #[]) (fun x g'=>K (acc++ [x]) g'++H) H))
  (s:List UInt8) (g0:γ) (hl:s.length<=140737488355320) (w:World) (hw:Cw B w0 (am gr [.string ⟨s.toArray⟩] 235::(K [] g0++H)) w) :
  Calls Tryz.prog 227 #[.pointer (some ⟨gr,0,none⟩),.func (.func f) #[] cap.toArray] w (Qo B w0 gr (ig p s) K H):=by
 refine aY Tryz.func227 rfl Tryz.ntmps227 rfl hw<|aj ?_
 refine eu (cX rfl rfl rfl vr (fun w hw=>lN gr s (by omega) w hw)) rfl rfl (fun _ _ _ hf hp=>⟨hf.2.1,.inr ⟨_,rfl,⟨by unfold ig;rw[hp.1.1],hp.1.2⟩,Cw.msub hp.2 (by exact⟨_,List.perm_append_comm⟩)⟩⟩) (fun⟨⟨n,r⟩,_⟩ hr=>?_)
 refine aL ?_
 have hn:=ir hr
 have h8:ig p s=ft p n.toNat r:=by unfold ig;rw[hr]
 refine dG (fun g:(Int×List α×List UInt8)×γ=>(ig p s=(ft p g.1.1.toNat g.1.2.2).map (fun q=>(g.1.2.1++q.1,q.2))/\(g.1.1<=255/\g.1.2.1.length+g.1.1.toNat<=255))/\g.1.2.2.length<=140737488355320) (fun g=>g.1.1.toNat) (fun g=> [(1,.func (.func f) #[] cap.toArray),(4,.int .i64 g.1.1)]) (fun g=>am gr [.string ⟨g.1.2.2.toArray⟩] 235::(K g.1.2.1 g.2++H)) ((n,[],r),g0) (⟨⟨by rw[h8];cases ft p n.toNat r <;> simp,⟨hn.2.2,by show 0+n.toNat<=255;omega⟩⟩,by show r.length<=_;omega⟩) ?_
 rintro⟨⟨k,acc,t⟩,g⟩ hj
 try dsimp only
 obtain⟨⟨hj1,hj2,hj3⟩,hj4⟩:(ig p s=(ft p k.toNat t).map (fun q=>(acc++q.1,q.2))/\(k<=255/\acc.length+k.toNat<=255))/\t.length<=140737488355320:=hj
 refine az (fun hk=>?_) (fun hk=>?_)
 ·have hk1:k.toNat=(k - 1).toNat+1:=by omega
  rw[hk1,ft] at hj1
  refine aj ?_
  refine eu (xX rfl rfl rfl hcall (fun w hw=>If (hdo t acc g w hj4 (by omega) hw))) rfl rfl (fun _ _ _ hf hp=>⟨hf.2.1,.inr ⟨_,rfl,⟨by rw[hj1,hp.1.1];rfl,hp.1.2⟩,hp.2⟩⟩) (fun⟨⟨x,u⟩,g'⟩ hx=>?_)
  refine aL ?_
  have hx:p t=some (x,u):=hx
  have hu:=hpl _ _ _ hx
  rw[hx] at hj1
  refine dw ((k - 1,acc++ [x],u),g') (⟨⟨hj1.trans EM,⟨by show k - 1<=_;omega,by show (acc++ [x]).length+(k - 1).toNat<=_;rw[aq,aK];omega⟩⟩,by show u.length<=_;omega⟩) (by show (k - 1).toNat<k.toNat;omega)
 have hk1:k.toNat=0:=by omega
 rw[hk1] at hj1
 refine aj ?_
 intro w hw
 exact .inl ⟨((acc,t),g),by rw[hj1];simp[ft],rfl,hw⟩
end
end
section
section
variable {B:Nat} {w0:World} {H:List aC}
theorem kg.map {α β γ δ:Type} {gr:Nat} {r:Option (α×List UInt8)} {r':Option (β×List UInt8)} {val:α->γ->Value} {val':β->δ->Value} {K:α->γ->List aC} {K':β->δ->List aC} {H H':List aC} {e:Ending} {w:World} (h:kg B w0 gr r val K H e w) (f:α->γ->β) (d:α->γ->δ)
  (h1:∀x t g,r=some (x,t)->r'=some (f x g,t)/\val x g=val' (f x g) (d x g)/\∀w,Cw B w0 (am gr [.string ⟨t.toArray⟩] 235::K x g) w->Cw B w0 (am gr [.string ⟨t.toArray⟩] 235::K' (f x g) (d x g)) w) (h2:r=none->r'=none) (h3:∀w,Cw B w0 H w->Cw B w0 H' w):kg B w0 gr r' val' K' H' e w:=by
 rcases h with ⟨⟨⟨x,t⟩,g⟩,e1,e2,e3⟩ | ⟨ch,e1,⟨e2,e3⟩,e4⟩
 ·obtain⟨k1,k2,k3⟩:=h1 x t g e1
  exact .inl ⟨((f x g,t),d x g),k1,e2.trans (congrArg _ k2),k3 _ e3⟩
 exact .inr ⟨ch,e1,⟨h2 e2,e3⟩,h3 _ e4⟩
theorem vV (l:List UInt8):aD (cR l):=by
 have:=qw l
 unfold bA at this
 simp only[cW,decide_eq_true_eq] at this
 unfold aD
 omega
theorem EB (gr go gp:Nat) (s:List UInt8) (acc:List Int) (A:Option Addr) (c:Nat) (hl:s.length<=140737488355320) (hac:acc.length<=254) (w:World)
  (hw:Cw B w0 (am gr [.string ⟨s.toArray⟩] 235::am go [.slice A acc.length c] 35::ap (.slice A acc.length c) acc::am gp [.pointer (some ⟨gr,0,none⟩)] 233::H) w) :
  Calls Tryz.prog 281 #[.pointer (some ⟨go,0,none⟩),.pointer (some ⟨gp,0,none⟩)] w (kg B w0 gr (kO s) (fun _ (_:Option Addr×Nat)=> .tuple #[])
   (fun x g=>am go [.slice g.1 (acc++ [x]).length g.2] 35::ap (.slice g.1 (acc++ [x]).length g.2) (acc++ [x])::am gp [.pointer (some ⟨gr,0,none⟩)] 233::H) (am gp [.pointer (some ⟨gr,0,none⟩)] 233::H)):=by
 refine aY Tryz.func281 rfl Tryz.ntmps281 rfl hw ?_
 refine sU (.still 0 (.still 1 (.pick 2 (.pick 3 (.pick 4 (.pick 5 (.pick 6 .done .stop) .stop) .stop) .stop) .stop))) [5,6] rfl (by kernel_rfl) (by kernel_rfl) [am go [.slice A acc.length c] 35,am gp [.pointer (some ⟨gr,0,none⟩)] 233] (fun ch w=>(kO s=none/\ch=oD)/\Cw B w0 (am gp [.pointer (some ⟨gr,0,none⟩)] 233::H) w) (fun _ _ _ hf hp=>⟨hf,.inr ⟨_,rfl,hp⟩⟩) ?_
 refine aj ?_
 refine AA rfl (cX rfl rfl rfl Ro (fun w hw=>sq (H:=am go [.slice A acc.length c] 35::ap (.slice A acc.length c) acc::am gp [.pointer (some ⟨gr,0,none⟩)] 233::H) gr 4 s (by omega) w (hw.msub ms))) rfl rfl (.inr fun _=>ha) (fun _ _ hp=>⟨⟨by rw[tw,hp.1.1];rfl,hp.1.2⟩,hp.2.msub ms⟩) (fun⟨⟨a,r⟩,_⟩ hr=>?_) fW
 try dsimp only
 have hr:iN 4 s=some (a,r):=hr
 have hle:=uJ hr
 have h4:kO s=some (cR a,r):=by rw[tw,hr];rfl
 refine kT rfl rfl Tryz.call213 (fun w hw=>rg a w (by omega))<|aj ?_
 intro g1 _
 refine pE rfl (cT (α:=Int) (bytes:=8) (cR a) [] rfl aW (bJ fU) rfl (fN fc fc) (eG (vV a)) (by omega) (by omega) rfl rfl rfl) (fun⟨A5,c5⟩ _=>?_)
 refine aL ?_
 refine uO<|pV Tryz.results281 ?_
 intro w hw
 exact .inl ⟨((cR a,r),(A5,c5)),h4,rfl,hw.msub ms⟩
theorem su (gr:Nat) (s:List UInt8) (hl:s.length<=140737488355320) (w:World) (hw:Cw B w0 (am gr [.string ⟨s.toArray⟩] 235::H) w) :
  Calls Tryz.prog 226 #[.pointer (some ⟨gr,0,none⟩)] w (kg B w0 gr (jZ s) (fun x (g:Option Addr×Nat)=> .slice g.1 x.length g.2) (fun x g=>ap (.slice g.1 x.length g.2) x::H) H):=by
 refine aY Tryz.func226 rfl Tryz.ntmps226 rfl hw<|aj ?_
 refine fun g1 _=>aj ?_
 refine fun g2 _=>aj ?_
 refine ew (fun w h=>Cw.nilO Int h) ?_
 refine eu (cX rfl rfl rfl NR (fun w hw=>pu (H:=am g1 [.pointer (some ⟨gr,0,none⟩)] 233::H) gr 281 [.pointer (some ⟨g2,0,none⟩),.pointer (some ⟨g1,0,none⟩)] kO rr (fun acc (g:Option Addr×Nat)=> [am g2 [.slice g.1 acc.length g.2] 35,ap (.slice g.1 acc.length g.2) acc]) Tryz.call281 (fun s acc g w h1 h2 hw=>EB gr g2 g1 s acc g.1 g.2 h1 h2 w hw) s (none,0) hl w (hw.msub ms))) rfl rfl (fun _ _ _ hf hp=>⟨hf.2.1,.inr ⟨_,rfl,hp.1,hp.2.msub ms⟩⟩) (fun⟨⟨x,r⟩,⟨A,c⟩⟩ hr=>?_)
 refine aL ?_
 intro w hw
 exact .inl ⟨((x,r),(A,c)),hr,rfl,hw.msub ms⟩
theorem uc:pR ia:=fun s x r e=>by
 unfold ia at e
 split at e
 ·cases e
 rename_i n t e1
 split at e
 ·cases e
 split at e
 ·cases e
 rename_i z u e2
 obtain⟨_,rfl⟩:(⟨decide (n=1),z⟩:aF)=x/\u=r:=by simpa using e
 exact cY (rr _ _ _ e2) (ir e1).1
theorem El {s r:List UInt8} {x:aF} (e:ia s=some (x,r)):aD x.n:=by
 unfold ia at e
 split at e
 ·cases e
 rename_i n t e1
 split at e
 ·cases e
 split at e
 ·cases e
 rename_i z u e2
 ·obtain⟨rfl,_⟩:(⟨decide (n=1),z⟩:aF)=x/\u=r:=by simpa using e
  rw[tw] at e2
  cases h:iN 4 t with
  | none=>rw[h] at e2;cases e2
  | some p=>
   rw[h] at e2
   obtain⟨rfl,_⟩:cR p.1=z/\p.2=u:=by simpa using e2
   exact vV _
theorem Ey (gr:Nat) (s:List UInt8) (hl:s.length<=140737488355320) (w:World) (hw:Cw B w0 (am gr [.string ⟨s.toArray⟩] 235::H) w) :
  Calls Tryz.prog 283 #[.pointer (some ⟨gr,0,none⟩)] w (kg B w0 gr (ia s) (fun x (_:Unit)=> .agg #[.bool x.ref,.int .i64 x.n]) (fun _ _=>H) H):=by
 refine aY Tryz.func283 rfl Tryz.ntmps283 rfl hw<|aj ?_
 refine fun g1 _=>aj ?_
 refine eu (cX rfl rfl rfl vr (fun w hw=>lN gr s (by omega) w (hw.msub (.s fc .r)))) rfl rfl (fun _ _ _ hf hp=>⟨hf.2.1,.inr ⟨_,rfl,⟨by unfold ia;rw[hp.1.1],hp.1.2⟩,hp.2.msub ms⟩⟩) (fun⟨⟨n,r⟩,_⟩ hr=>?_)
 refine aL ?_
 have hn:=ir hr
 refine gY rfl (fun h1=>?_) (fun h1=>?_)
 ·refine aj ?_
  refine sE (pJ IG rfl rfl) ?_
  refine jD rfl rfl rfl ?_
  intro a w hf hw
  exact⟨hf.2.1,.inr ⟨_,rfl,⟨by unfold ia;rw[hr];simp only;rw[if_pos h1],rfl⟩,hw.msub ms⟩⟩
 have hv:ia s=(kO r).map fun q=>((⟨decide (n=1),q.1⟩:aF),q.2):=by
  unfold ia
  rw[hr]
  simp only
  rw[if_neg h1]
  cases kO r <;> rfl
 refine aj ?_
 refine eu (cX rfl rfl rfl Ro (fun w hw=>sq gr 4 r (by omega) w (hw.msub (.s fc .r)))) rfl rfl (fun _ _ _ hf hp=>⟨hf.2.1,.inr ⟨_,rfl,⟨by rw[hv,tw,hp.1.1];rfl,hp.1.2⟩,hp.2.msub ms⟩⟩) (fun⟨⟨a,t⟩,_⟩ ht=>?_)
 try dsimp only
 have ht:iN 4 r=some (a,t):=ht
 have hle:=uJ ht
 refine cy rfl Tryz.call213 (fun w hw=>rg a w (by omega))<|aj ?_
 intro w hw
 exact .inl ⟨((⟨decide (n=1),cR a⟩,t),()),by rw[hv,tw,ht];rfl,rfl,hw.msub ms⟩
theorem Ez (gr go gp:Nat) (s:List UInt8) (acc:List aF) (A:Option Addr) (c:Nat) (hl:s.length<=140737488355320) (hac:acc.length<=254) (w:World)
  (hw:Cw B w0 (am gr [.string ⟨s.toArray⟩] 235::am go [.slice A acc.length c] 116::ap (.slice A acc.length c) acc::am gp [.pointer (some ⟨gr,0,none⟩)] 233::H) w) :
  Calls Tryz.prog 282 #[.pointer (some ⟨go,0,none⟩),.pointer (some ⟨gp,0,none⟩)] w (kg B w0 gr (ia s) (fun _ (_:Option Addr×Nat)=> .tuple #[])
   (fun x g=>am go [.slice g.1 (acc++ [x]).length g.2] 116::ap (.slice g.1 (acc++ [x]).length g.2) (acc++ [x])::am gp [.pointer (some ⟨gr,0,none⟩)] 233::H) (am gp [.pointer (some ⟨gr,0,none⟩)] 233::H)):=by
 refine aY Tryz.func282 rfl Tryz.ntmps282 rfl hw ?_
 refine sU (.still 0 (.still 1 (.pick 2 (.pick 3 (.pick 4 (.pick 5 .done .stop) .stop) .stop) .stop))) [4,5] rfl (by kernel_rfl) (by kernel_rfl) [am go [.slice A acc.length c] 116,am gp [.pointer (some ⟨gr,0,none⟩)] 233] (fun ch w=>(ia s=none/\ch=oD)/\Cw B w0 (am gp [.pointer (some ⟨gr,0,none⟩)] 233::H) w) (fun _ _ _ hf hp=>⟨hf,.inr ⟨_,rfl,hp⟩⟩) ?_
 refine aj ?_
 refine AA rfl (cX rfl rfl rfl Tryz.call283 (fun w hw=>Ey (H:=am go [.slice A acc.length c] 116::ap (.slice A acc.length c) acc::am gp [.pointer (some ⟨gr,0,none⟩)] 233::H) gr s hl w (hw.msub ms))) rfl rfl (.inr fun _=>ha) (fun _ _ hp=>⟨hp.1,hp.2.msub ms⟩) (fun⟨⟨v,r⟩,_⟩ hr=>?_) fW
 refine aL ?_
 intro g1 _
 have hr:ia s=some (v,r):=hr
 refine pE rfl (cT (α:=aF) (bytes:=16) v [] rfl cA (bJ iV) rfl (fN fc fc) (eG (show aD v.n from El hr)) (by omega) (by omega) rfl rfl rfl) (fun⟨A5,c5⟩ _=>?_)
 refine aL ?_
 refine uO<|pV Tryz.results282 ?_
 intro w hw
 exact .inl ⟨((v,r),(A5,c5)),hr,rfl,hw.msub ms⟩
theorem xO (gr:Nat) (s:List UInt8) (hl:s.length<=140737488355320) (w:World) (hw:Cw B w0 (am gr [.string ⟨s.toArray⟩] 235::H) w) :
  Calls Tryz.prog 230 #[.pointer (some ⟨gr,0,none⟩)] w (kg B w0 gr (mN s) (fun x (g:Option Addr×Nat)=> .slice g.1 x.length g.2) (fun x g=>ap (.slice g.1 x.length g.2) x::H) H):=by
 refine aY Tryz.func230 rfl Tryz.ntmps230 rfl hw<|aj ?_
 refine fun g1 _=>aj ?_
 refine fun g2 _=>aj ?_
 refine ew (fun w h=>Cw.nilO aF h) ?_
 refine eu (cX rfl rfl rfl NR (fun w hw=>pu (H:=am g1 [.pointer (some ⟨gr,0,none⟩)] 233::H) gr 282 [.pointer (some ⟨g2,0,none⟩),.pointer (some ⟨g1,0,none⟩)] ia uc (fun acc (g:Option Addr×Nat)=> [am g2 [.slice g.1 acc.length g.2] 116,ap (.slice g.1 acc.length g.2) acc]) Tryz.call282 (fun s acc g w h1 h2 hw=>Ez gr g2 g1 s acc g.1 g.2 h1 h2 w hw) s (none,0) hl w (hw.msub ms))) rfl rfl (fun _ _ _ hf hp=>⟨hf.2.1,.inr ⟨_,rfl,hp.1,hp.2.msub ms⟩⟩) (fun⟨⟨x,r⟩,⟨A,c⟩⟩ hr=>?_)
 refine aL ?_
 intro w hw
 exact .inl ⟨((x,r),(A,c)),hr,rfl,hw.msub ms⟩
end
end
section
section
variable {B:Nat} {w0:World} {H:List aC}
theorem Iv:(Tryz.prog.info? 35).map (fun i=>(i.zero,i.size,i.bytes))=some (some (.slice none 0 0),1,24):=by kernel_rfl
theorem EE (gr gm gp:Nat) (vf vi vo vs vt:Value) (s:List UInt8) (acc:List (List Int)) (A:Option Addr) (c:Nat) (hl:s.length<=140737488355320) (hac:acc.length<=254) (w:World)
  (hw:Cw B w0 (am gr [.string ⟨s.toArray⟩] 235::am gm [vf,.slice A acc.length c,vi,vo,vs,vt] 43::ap (.slice A acc.length c) acc::am gp [.pointer (some ⟨gr,0,none⟩)] 233::H) w) :
  Calls Tryz.prog 228 #[.pointer (some ⟨gm,0,none⟩),.pointer (some ⟨gp,0,none⟩)] w (kg B w0 gr (jZ s) (fun _ (_:Option Addr×Nat)=> .tuple #[])
   (fun x g=>am gm [vf,.slice g.1 (acc++ [x]).length g.2,vi,vo,vs,vt] 43::ap (.slice g.1 (acc++ [x]).length g.2) (acc++ [x])::am gp [.pointer (some ⟨gr,0,none⟩)] 233::H) (am gp [.pointer (some ⟨gr,0,none⟩)] 233::H)):=by
 refine aY Tryz.func228 rfl Tryz.ntmps228 rfl hw ?_
 refine sU (.still 0 (.still 1 (.still 2 (.pick 3 (.pick 4 (.pick 5 (.calm 6 (.pick 7 .done .stop)) .stop) .stop) .stop)))) [5,6,7] rfl (by kernel_rfl) (by kernel_rfl) [am gm [vf,.slice A acc.length c,vi,vo,vs,vt] 43,am gp [.pointer (some ⟨gr,0,none⟩)] 233] (fun ch w=>(jZ s=none/\ch=oD)/\Cw B w0 (am gp [.pointer (some ⟨gr,0,none⟩)] 233::H) w) (fun _ _ _ hf hp=>⟨hf,.inr ⟨_,rfl,hp⟩⟩) ?_
 refine aj ?_
 refine AA rfl (cX rfl rfl rfl Rr (fun w hw=>su (H:=am gm [vf,.slice A acc.length c,vi,vo,vs,vt] 43::ap (.slice A acc.length c) acc::am gp [.pointer (some ⟨gr,0,none⟩)] 233::H) gr s hl w (hw.msub ms))) rfl rfl (.inr fun _=>ha) (fun _ _ hp=>⟨hp.1,hp.2.msub ms⟩) (fun⟨⟨x,r⟩,⟨Ax,cx⟩⟩ hr=>?_) fW
 refine aL ?_
 intro g1 _
 have hr:jZ s=some (x,r):=hr
 refine pE rfl (cT (α:=List Int) (bytes:=24) x [ap (.slice Ax x.length cx) x] rfl iq (bJ Iv) rfl (KV fc fc fc) HG (by omega) (by omega) rfl rfl rfl) (fun⟨A5,c5⟩ _=>?_)
 refine aL ?_
 refine uO<|pV Tryz.results228 ?_
 intro w hw
 exact .inl ⟨((x,r),(A5,c5)),hr,rfl,hw.msub ms⟩
theorem oC:pR mN:=qR uc
theorem nY:pR jZ:=qR rr
theorem CP:pR gJ:=fun s x r e=>by
 unfold gJ at e
 split at e
 ·cases e
 rename_i f s1 e1
 split at e
 ·cases e
 rename_i p s2 e2
 split at e
 ·cases e
 rename_i l s3 e3
 split at e
 ·cases e
 rename_i t s4 e4
 obtain⟨_,rfl⟩:(⟨f,p,l,t⟩:aB)=x/\s4=r:=by simpa using e
 have:=(ir e1).1
 have:=(ir e2).1
 have:=oC _ _ _ e3
 have:=oC _ _ _ e4
 omega
theorem ED (gr gm gp:Nat) (vb vi vo vs vt:Value) (s:List UInt8) (acc:List aB) (A:Option Addr) (c:Nat) (hl:s.length<=140737488355320) (hac:acc.length<=254) (w:World)
  (hw:Cw B w0 (am gr [.string ⟨s.toArray⟩] 235::am gm [.slice A acc.length c,vb,vi,vo,vs,vt] 43::ap (.slice A acc.length c) acc::am gp [.pointer (some ⟨gr,0,none⟩)] 233::H) w) :
  Calls Tryz.prog 229 #[.pointer (some ⟨gp,0,none⟩),.pointer (some ⟨gm,0,none⟩)] w (kg B w0 gr (gJ s) (fun _ (_:Option Addr×Nat)=> .tuple #[])
   (fun x g=>am gm [.slice g.1 (acc++ [x]).length g.2,vb,vi,vo,vs,vt] 43::ap (.slice g.1 (acc++ [x]).length g.2) (acc++ [x])::am gp [.pointer (some ⟨gr,0,none⟩)] 233::H) (am gp [.pointer (some ⟨gr,0,none⟩)] 233::H)):=by
 refine aY Tryz.func229 rfl Tryz.ntmps229 rfl hw<|aj ?_
 refine eu (cX rfl rfl rfl vr (fun w hw=>lN (H:=am gm [.slice A acc.length c,vb,vi,vo,vs,vt] 43::ap (.slice A acc.length c) acc::am gp [.pointer (some ⟨gr,0,none⟩)] 233::H) gr s (by omega) w (hw.msub ms))) rfl rfl (fun _ _ _ hf hp=>⟨hf.2.1,.inr ⟨_,rfl,⟨by unfold gJ;rw[hp.1.1],hp.1.2⟩,hp.2.msub ms⟩⟩) (fun⟨⟨f,s1⟩,_⟩ e1=>?_)
 refine aL ?_
 refine fun g1 _=>aj ?_
 have e1:kt s=some (f,s1):=e1
 have k1:=ir e1
 refine eu (cX rfl rfl rfl vr (fun w hw=>lN (H:=am g1 [.int .i64 f,.int .i64 0,.slice none 0 0,.slice none 0 0] 118::am gm [.slice A acc.length c,vb,vi,vo,vs,vt] 43::ap (.slice A acc.length c) acc::am gp [.pointer (some ⟨gr,0,none⟩)] 233::H) gr s1 (by omega) w (hw.msub ms))) rfl rfl (fun _ _ _ hf hp=>⟨hf.2.1,.inr ⟨_,rfl,⟨by unfold gJ;rw[e1];simp only;rw[hp.1.1],hp.1.2⟩,hp.2.msub ms⟩⟩) (fun⟨⟨p,s2⟩,_⟩ e2=>?_)
 refine aL ?_
 have e2:kt s1=some (p,s2):=e2
 have k2:=ir e2
 refine eu (cX rfl rfl rfl Tryz.call230 (fun w hw=>xO (H:=am g1 [.int .i64 f,.int .i64 p,.slice none 0 0,.slice none 0 0] 118::am gm [.slice A acc.length c,vb,vi,vo,vs,vt] 43::ap (.slice A acc.length c) acc::am gp [.pointer (some ⟨gr,0,none⟩)] 233::H) gr s2 (by omega) w (hw.msub ms))) rfl rfl (fun _ _ _ hf hp=>⟨hf.2.1,.inr ⟨_,rfl,⟨by unfold gJ;rw[e1];simp only;rw[e2];simp only;rw[hp.1.1],hp.1.2⟩,hp.2.msub ms⟩⟩) (fun⟨⟨l,s3⟩,⟨Al,cl⟩⟩ e3=>?_)
 refine aL ?_
 have e3:mN s2=some (l,s3):=e3
 have k3:=oC _ _ _ e3
 refine eu (cX rfl rfl rfl Tryz.call230 (fun w hw=>xO (H:=am g1 [.int .i64 f,.int .i64 p,.slice Al l.length cl,.slice none 0 0] 118::ap (.slice Al l.length cl) l::am gm [.slice A acc.length c,vb,vi,vo,vs,vt] 43::ap (.slice A acc.length c) acc::am gp [.pointer (some ⟨gr,0,none⟩)] 233::H) gr s3 (by omega) w (hw.msub ms))) rfl rfl (fun _ _ _ hf hp=>⟨hf.2.1,.inr ⟨_,rfl,⟨by unfold gJ;rw[e1];simp only;rw[e2];simp only;rw[e3];simp only;rw[hp.1.1],hp.1.2⟩,hp.2.msub ms⟩⟩) (fun⟨⟨t,s4⟩,⟨At,ct⟩⟩ e4=>?_)
 refine aL ?_
 intro g2 _
 have e4:mN s3=some (t,s4):=e4
 have hx:gJ s=some (⟨f,p,l,t⟩,s4):=by unfold gJ;rw[e1];simp only;rw[e2];simp only;rw[e3];simp only;rw[e4]
 refine oE (cT (α:=aB) (bytes:=64) ⟨f,p,l,t⟩ [ap (.slice Al l.length cl) l,ap (.slice At t.length ct) t] rfl eL (bJ oZ) rfl (zh fc fc fc fc) (Bt (x:=⟨f,p,l,t⟩) ⟨⟨by show _<=f;omega,by show f<=_;omega⟩,⟨by show _<=p;omega,by show p<=_;omega⟩⟩) (by omega) (by omega) rfl rfl rfl) (fun⟨A5,c5⟩ _=>?_)
 refine aL ?_
 intro w hw
 exact .inl ⟨((⟨f,p,l,t⟩,s4),(A5,c5)),hx,rfl,hw.msub ms⟩
end
end
section
section
variable {B:Nat} {w0:World} {H:List aC}
theorem kJ {s:List UInt8} (h:ka s=none):iA s=none:=by unfold iA;rw[h]
theorem EC (gr:Nat) (s:List UInt8) (hl:s.length<=140737488355320) (w:World) (hw:Cw B w0 (am gr [.string ⟨s.toArray⟩] 235::H) w) :
  Calls Tryz.prog 175 #[.pointer (some ⟨gr,0,none⟩)] w fun e w'=>(∃g:ar×MA,iA s=some g.1/\e= .returned (.agg #[.slice g.2.Af g.1.F.length g.2.cf,.slice g.2.Ab g.1.B.length g.2.cb,.slice g.2.Ai g.1.I.length g.2.ci,.slice g.2.Ao g.1.out.length g.2.co,.int .i64 g.1.S,.int .i64 g.1.T])/\Cw B w0 (ap (.slice g.2.Af g.1.F.length g.2.cf) g.1.F::ap (.slice g.2.Ab g.1.B.length g.2.cb) g.1.B::ap (.slice g.2.Ai g.1.I.length g.2.ci) g.1.I::ap (.slice g.2.Ao g.1.out.length g.2.co) g.1.out::H) w')\/∃ch,e= .panicked ch/\(iA s=none/\ch=oD)/\Cw B w0 H w':=by
 refine aY Tryz.func175 rfl Tryz.ntmps175 rfl hw<|aj ?_
 refine fun g1 _=>aj ?_
 refine fun g2 _=>aj ?_
 refine eu (cX rfl rfl rfl vr (fun w hw=>lN (H:=am g1 [.pointer (some ⟨gr,0,none⟩)] 233::am g2 [.slice none 0 0,.slice none 0 0,.slice none 0 0,.slice none 0 0,.int .i64 0,.int .i64 0] 43::H) gr s (by omega) w (hw.msub ms))) rfl rfl (fun _ _ _ hf hp=>⟨hf.2.1,.inr ⟨_,rfl,⟨kJ (by unfold ka;rw[hp.1.1]),hp.1.2⟩,hp.2.msub ms⟩⟩) (fun⟨⟨st,s1⟩,_⟩ e1=>?_)
 refine aL ?_
 refine fun g3 _=>aj ?_
 have e1:kt s=some (st,s1):=e1
 have k1:=ir e1
 refine eu (cX rfl rfl rfl vr (fun w hw=>lN (H:=am g3 [.slice none 0 0,.slice none 0 0,.slice none 0 0,.slice none 0 0,.int .i64 st,.int .i64 0] 43::am g1 [.pointer (some ⟨gr,0,none⟩)] 233::am g2 [.slice none 0 0,.slice none 0 0,.slice none 0 0,.slice none 0 0,.int .i64 0,.int .i64 0] 43::H) gr s1 (by omega) w (hw.msub ms))) rfl rfl (fun _ _ _ hf hp=>⟨hf.2.1,.inr ⟨_,rfl,⟨kJ (by unfold ka;rw[e1];simp only;rw[hp.1.1]),hp.1.2⟩,hp.2.msub ms⟩⟩) (fun⟨⟨tr,s2⟩,_⟩ e2=>?_)
 refine aL ?_
 have e2:kt s1=some (tr,s2):=e2
 have k2:=ir e2
 refine eu (cX rfl rfl rfl Rr (fun w hw=>su (H:=am g3 [.slice none 0 0,.slice none 0 0,.slice none 0 0,.slice none 0 0,.int .i64 st,.int .i64 tr] 43::am g1 [.pointer (some ⟨gr,0,none⟩)] 233::am g2 [.slice none 0 0,.slice none 0 0,.slice none 0 0,.slice none 0 0,.int .i64 0,.int .i64 0] 43::H) gr s2 (by omega) w (hw.msub ms))) rfl rfl (fun _ _ _ hf hp=>⟨hf.2.1,.inr ⟨_,rfl,⟨kJ (by unfold ka;rw[e1];simp only;rw[e2];simp only;rw[hp.1.1]),hp.1.2⟩,hp.2.msub ms⟩⟩) (fun⟨⟨i,s3⟩,⟨Ai,ci⟩⟩ e3=>?_)
 refine aL ?_
 have e3:jZ s2=some (i,s3):=e3
 have k3:=nY _ _ _ e3
 refine eu (cX rfl rfl rfl Rr (fun w hw=>su (H:=am g3 [.slice none 0 0,.slice none 0 0,.slice Ai i.length ci,.slice none 0 0,.int .i64 st,.int .i64 tr] 43::ap (.slice Ai i.length ci) i::am g1 [.pointer (some ⟨gr,0,none⟩)] 233::am g2 [.slice none 0 0,.slice none 0 0,.slice none 0 0,.slice none 0 0,.int .i64 0,.int .i64 0] 43::H) gr s3 (by omega) w (hw.msub ms))) rfl rfl (fun _ _ _ hf hp=>⟨hf.2.1,.inr ⟨_,rfl,⟨kJ (by unfold ka;rw[e1];simp only;rw[e2];simp only;rw[e3];simp only;rw[hp.1.1]),hp.1.2⟩,hp.2.msub ms⟩⟩) (fun⟨⟨o,s4⟩,⟨Ao,co⟩⟩ e4=>?_)
 refine aL ?_
 have e4:jZ s3=some (o,s4):=e4
 have k4:=nY _ _ _ e4
 refine ew (fun w h=>Cw.nilO (List Int) h) ?_
 refine eu (cX rfl rfl rfl NR (fun w hw=>pu (H:=am g1 [.pointer (some ⟨gr,0,none⟩)] 233::ap (.slice Ai i.length ci) i::ap (.slice Ao o.length co) o::am g2 [.slice none 0 0,.slice none 0 0,.slice none 0 0,.slice none 0 0,.int .i64 0,.int .i64 0] 43::H) gr 228 [.pointer (some ⟨g3,0,none⟩),.pointer (some ⟨g1,0,none⟩)] jZ nY (fun acc (g:Option Addr×Nat)=> [am g3 [.slice none 0 0,.slice g.1 acc.length g.2,.slice Ai i.length ci,.slice Ao o.length co,.int .i64 st,.int .i64 tr] 43,ap (.slice g.1 acc.length g.2) acc]) Tryz.call228 (fun s acc g w h1 h2 hw=>EE gr g3 g1 _ _ _ _ _ s acc g.1 g.2 h1 h2 w hw) s4 (none,0) (by omega) w (hw.msub ms))) rfl rfl (fun _ _ _ hf hp=>⟨hf.2.1,.inr ⟨_,rfl,⟨kJ (by unfold ka;rw[e1];simp only;rw[e2];simp only;rw[e3];simp only;rw[e4];simp only;rw[hp.1.1]),hp.1.2⟩,hp.2.msub ms⟩⟩) (fun⟨⟨b,s5⟩,⟨Ab,cb⟩⟩ e5=>?_)
 refine aL ?_
 have e5:ig jZ s4=some (b,s5):=e5
 have k5:=qR nY _ _ _ e5
 refine ew (fun w h=>Cw.nilO aB h) ?_
 refine eu (cX rfl rfl rfl NR (fun w hw=>pu (H:=am g1 [.pointer (some ⟨gr,0,none⟩)] 233::ap (.slice Ab b.length cb) b::ap (.slice Ai i.length ci) i::ap (.slice Ao o.length co) o::am g2 [.slice none 0 0,.slice none 0 0,.slice none 0 0,.slice none 0 0,.int .i64 0,.int .i64 0] 43::H) gr 229 [.pointer (some ⟨g1,0,none⟩),.pointer (some ⟨g3,0,none⟩)] gJ CP (fun acc (g:Option Addr×Nat)=> [am g3 [.slice g.1 acc.length g.2,.slice Ab b.length cb,.slice Ai i.length ci,.slice Ao o.length co,.int .i64 st,.int .i64 tr] 43,ap (.slice g.1 acc.length g.2) acc]) Tryz.call229 (fun s acc g w h1 h2 hw=>ED gr g3 g1 _ _ _ _ _ s acc g.1 g.2 h1 h2 w hw) s5 (none,0) (by omega) w (hw.msub ms))) rfl rfl (fun _ _ _ hf hp=>⟨hf.2.1,.inr ⟨_,rfl,⟨kJ (by unfold ka;rw[e1];simp only;rw[e2];simp only;rw[e3];simp only;rw[e4];simp only;rw[e5];simp only;rw[hp.1.1]),hp.1.2⟩,hp.2.msub ms⟩⟩) (fun⟨⟨f,s6⟩,⟨Af,cf⟩⟩ e6=>?_)
 refine aL ?_
 have e6:ig gJ s5=some (f,s6):=e6
 have hm:ka s=some (⟨f,b,i,o,st,tr⟩,s6):=by unfold ka;rw[e1];simp only;rw[e2];simp only;rw[e3];simp only;rw[e4];simp only;rw[e5];simp only;rw[e6]
 refine sE (AJ rfl rfl rfl)<|bU (fun h7=>?_) (fun h7=>?_)
 ·have ht:iA s=none:=by unfold iA;rw[hm];simp only;rw[if_neg h7]
  refine aj ?_
  refine sE (pJ IG rfl rfl) ?_
  refine jD rfl rfl rfl ?_
  intro a w hf hw
  exact⟨hf.2.1,.inr ⟨_,rfl,⟨ht,rfl⟩,hw.msub ms⟩⟩
 have ht:iA s=some ⟨f,b,i,o,st,tr⟩:=by unfold iA;rw[hm];simp only;rw[if_pos h7]
 refine aj ?_
 intro w hw
 exact .inl ⟨(⟨f,b,i,o,st,tr⟩,⟨Af,cf,Ab,cb,Ai,ci,Ao,co⟩),ht,rfl,hw.msub ms⟩
theorem Cg (w:World):(binOp .neq 20 (.iface 231 (.agg #[])) .nilIface).run Tryz.prog w= .ok (.bool true) w:=by kernel_rfl
theorem vn (w:World):(Instr.typeAssert (.iface 231 (.agg #[])) 20 231 true).run Tryz.prog w= .ok (.tuple #[.agg #[],.bool true]) w:=by kernel_rfl
theorem Eo (ga gb : Nat) (v1 v2 v3 v4 v5 v6 vb : Value) (w : World) (hw : Cw B w0 (am ga [v1, v2, v3, v4, v5, v6] 43 :: am gb [vb] 4 :: H) w) :
    CallsD Tryz.prog 174 #[.pointer (some ⟨ga, 0, none⟩), .pointer (some ⟨gb, 0, none⟩)] (.panicking oD) w fun e u' w' => (∃ v, e = .returned v) /\ settle u' = .returning /\ Cw B w0 (am ga [.slice none 0 0, .slice none 0 0, .slice none 0 0, .slice none 0 0, .int .i64 0, .int .i64 0] 43 :: am gb [.bool false] 4 :: H) w' := by
  refine callsD_of_wpS Tryz.func174 rfl fun c₀ cs hu => ?_
  apply wpS_seq
  apply wpS_region
  simp [wpOpsS, go_sem, recoverD, hu, Tryz.ntmps174, Exit.thenS, oD]
  refine wpS_of_wp ?_
  refine (show CW Tryz.prog ⟨17, []⟩ B w0 _ _ [(0, .pointer (some ⟨ga, 0, none⟩)), (1, .pointer (some ⟨gb, 0, none⟩)), (2, .iface 231 (.agg #[]))] (am ga [v1, v2, v3, v4, v5, v6] 43 :: am gb [vb] 4 :: H) from ?_) _ w ?_ hw
  · refine aj ?_
    refine sE (oI rfl rfl rfl Cg (fun _ => rfl)) <| aj ?_
    refine di (t := 7) (v' := .bool true) rfl (rfl) ?_
    refine bo rfl <| aj ?_
    refine sE (vN vn rfl rfl) <| aj ?_
    refine fun g1 _ => aj ?_
    refine di (t := 14) (v' := .bool false) rfl (rfl) ?_
    refine cB rfl <| aj ?_
    intro a w hf hw
    refine ⟨hf.2.1, _, rfl, .tuple #[], ?_, ⟨_, rfl⟩, rfl, hw.msub ms⟩
    simp [results, Tryz.results174]
  · refine ⟨by simp, rfl, fun t v e => ?_⟩
    simp only [lk] at e
    split at e
    · rename_i h
      have h := bC h
      subst h
      injection e with e
      subst e
      exact ⟨by show _ < 17; decide, by simp⟩
    · split at e
      · rename_i h
        have h := bC h
        subst h
        injection e with e
        subst e
        exact ⟨by show _ < 17; decide, by simp⟩
      · split at e
        · rename_i h
          have h := bC h
          subst h
          injection e with e
          subst e
          exact ⟨by show _ < 17; decide, by simp⟩
        · cases e
theorem CB (ga gb : Nat) (v1 v2 v3 v4 v5 v6 vb : Value) (w : World) (hw : Cw B w0 (am ga [v1, v2, v3, v4, v5, v6] 43 :: am gb [vb] 4 :: H) w) :
    CallsD Tryz.prog 174 #[.pointer (some ⟨ga, 0, none⟩), .pointer (some ⟨gb, 0, none⟩)] .returning w fun e u' w' => (∃ v, e = .returned v) /\ u' = .returning /\ Cw B w0 (am ga [v1, v2, v3, v4, v5, v6] 43 :: am gb [vb] 4 :: H) w' := by
  refine callsD_of_wpS Tryz.func174 rfl fun c₀ cs hu => ?_
  apply wpS_seq
  apply wpS_region
  simp [wpOpsS, go_sem, recoverD, hu, Tryz.ntmps174, Exit.thenS]
  refine wpS_of_wp ?_
  refine (show CW Tryz.prog ⟨17, []⟩ B w0 _ _ [(0, .pointer (some ⟨ga, 0, none⟩)), (1, .pointer (some ⟨gb, 0, none⟩)), (2, .nilIface)] (am ga [v1, v2, v3, v4, v5, v6] 43 :: am gb [vb] 4 :: H) from ?_) _ w ?_ hw
  · refine aj ?_
    refine sE (oI rfl rfl rfl wL (fun _ => rfl)) <| aj ?_
    refine di (t := 7) (v' := .bool false) rfl (rfl) ?_
    refine cB rfl <| aj ?_
    intro a w hf hw
    refine ⟨hf.2.1, .returning, ?_, .tuple #[], ?_, ⟨_, rfl⟩, rfl, hw.msub ms⟩
    · rw [← hu]
    · simp [results, Tryz.results174]
  · refine ⟨by simp, rfl, fun t v e => ?_⟩
    simp only [lk] at e
    split at e
    · rename_i h
      have h := bC h
      subst h
      injection e with e
      subst e
      exact ⟨by show _ < 17; decide, by simp⟩
    · split at e
      · rename_i h
        have h := bC h
        subst h
        injection e with e
        subst e
        exact ⟨by show _ < 17; decide, by simp⟩
      · split at e
        · rename_i h
          have h := bC h
          subst h
          injection e with e
          subst e
          exact ⟨by show _ < 17; decide, by simp⟩
        · cases e
end
def pq (s:List UInt8):ar×Bool:=match iA s with
 | some m=>(m,true)
 | none=>(default,false)
theorem I3 (s : List UInt8) (r : ar × Bool) (hr : pq s = r) (hl : s.length <= 140737488355320) (w : World) :
    Calls Tryz.prog 119 #[.string ⟨s.toArray⟩] w fun e w' => ∃ g : MA, True /\ e = .returned (.tuple #[.agg #[.slice g.Af r.1.F.length g.cf, .slice g.Ab r.1.B.length g.cb, .slice g.Ai r.1.I.length g.ci, .slice g.Ao r.1.out.length g.co, .int .i64 r.1.S, .int .i64 r.1.T], .bool r.2]) /\
      Cw w.heap.size w [ap (.slice g.Af r.1.F.length g.cf) r.1.F, ap (.slice g.Ab r.1.B.length g.cb) r.1.B, ap (.slice g.Ai r.1.I.length g.ci) r.1.I, ap (.slice g.Ao r.1.out.length g.co) r.1.out] w' := by
  have hw := Cw.nil_ w
  refine wA Tryz.func119 rfl Tryz.ntmps119 rfl hw ?_
  refine aj ?_
  refine fun g1 _ => aj ?_
  refine fun g2 _ => aj ?_
  refine zY rfl rfl rfl rfl ?_
  refine aj ?_
  refine fun g3 _ => aj ?_
  refine eu (cX rfl rfl rfl Tryz.call175 (fun w hw => EC (H := am g1 [.slice none 0 0, .slice none 0 0, .slice none 0 0, .slice none 0 0, .int .i64 0, .int .i64 0] 43 :: am g2 [.bool false] 4 :: []) g3 s hl w (hw.msub ms))) rfl rfl (fun ch a w hf hp => by obtain ⟨⟨h1, rfl⟩, h2⟩ := hp; exact yM hf (fun _ => by simp [go_sem]) (Eo g1 g2 _ _ _ _ _ _ _ w (h2.msub ms)) Tryz.results119 (zZ (cs := [_, _, _, _, _, _]) .a mH dX rfl) (ot .b Tryz.isAgg4 rfl) (fun w hw => by subst hr; unfold pq; rw [h1]; exact ⟨⟨none, 0, none, 0, none, 0, none, 0⟩, trivial, rfl, (oL hw).msub ms⟩)) (fun ⟨m, u⟩ e1 => ?_)
  try dsimp only
  refine eP (ey _ fc dX rfl rfl rfl rfl rfl (by rfl) rfl (by rfl)) rfl rfl (fun _ _ => ?_)
  refine eP (ey _ fc Rl rfl rfl rfl rfl rfl (by rfl) rfl (by rfl)) rfl rfl (fun _ _ => ?_)
  refine bL ?_
  have e1 : iA s = some m := e1
  refine oT ?_
  refine IM (fun _ => by simp [go_sem]) (fun w hw => CB g1 g2 _ _ _ _ _ _ _ w (hw.msub (.s fc (.s fc .r)))) Tryz.results119 (zZ (cs := [_, _, _, _, _, _]) .a mH dX rfl) (ot .b Tryz.isAgg4 rfl) (fun w hw => ?_)
  subst hr
  unfold pq
  rw [e1]
  exact ⟨u, trivial, rfl, hw.msub ms⟩
end
section
theorem wq {x:aB} (h:K9 x):(gt x).length<=2554:=by
 have h1:=tq x.L x.L.length
 have h2:=tq x.K x.K.length
 rw[aR] at h1 h2
 have:=h.l.1
 have:=h.s.1
 simp only[gt,gM,aS,aq]
 omega
theorem mZ {l:List Int} (h:l.length<=255):(fD l).length<=1021:=by
 have h1:=D2 l l.length
 rw[aR] at h1
 rw[G0]
 omega
theorem EV (a:MA) (m:ar) (w:World) (hm:fd w.heap.size w a m) (hmi:MI m) :
  Calls Tryz.prog 118 #[.agg #[.slice a.Af m.F.length a.cf,.slice a.Ab m.B.length a.cb,.slice a.Ai m.I.length a.ci,.slice a.Ao m.out.length a.co,.int .i64 m.S,.int .i64 m.T]] w fun e w'=>e= .returned (.string ⟨(js m).toArray⟩)/\Below w.heap.size w w':=by
 obtain⟨hs1,ht1,⟨hi1,hi2⟩,⟨ho1,ho2⟩,⟨hb1,hb2⟩,hf1,hf2⟩:=hmi
 have qi:=mZ hi1
 have qo:=mZ ho1
 have qb:=fun k=>rs (f:=fD) m.B (fun l hl=>mZ (hb2 l hl).1) k
 refine enter Tryz.func118 rfl Tryz.ntmps118 rfl<|aj ?_
 refine fun g1 _=>aj ?_
 refine fun g2 _=>aj ?_
 intro g3 _
 refine ew (fun w h=>Cw.nilO UInt8 (bG (α:=Int) (m:=2) [m.S,m.T] rfl (jN hm.s hm.t) rfl (by decide) h)) ?_
 refine cc rfl qG (fun w hw=>ly g2 [m.S,m.T] _ _ (.own rfl .a) [] none 0 (by simp) w (hw.msub (.s fc (.s fc .r)))) (fun⟨A1,c1⟩ _=>?_)
 refine aL ?_
 obtain⟨b1,e1⟩:∃b,[]++ [m.S,m.T].map aG=b:=⟨_,rfl⟩
 have l1:b1.length=2:=by rw[<-e1];rfl
 rw[e1]
 refine cc rfl Rs (fun w hw=>sa g2 m.I _ _ hm.i b1 A1 c1 (by omega) w (hw.msub (.s fc (.s fc .r)))) (fun⟨A2,c2⟩ _=>?_)
 refine aL ?_
 obtain⟨b2,e2⟩:∃b,b1++fD m.I=b:=⟨_,rfl⟩
 have l2:b2.length<=1023:=by rw[<-e2,aq];omega
 rw[e2]
 refine cc rfl Rs (fun w hw=>sa g2 m.out _ _ hm.o b2 A2 c2 (by omega) w (hw.msub (.s fc (.s fc .r)))) (fun⟨A3,c3⟩ _=>?_)
 refine aL ?_
 intro g4 _
 obtain⟨b3,e3⟩:∃b,b2++fD m.out=b:=⟨_,rfl⟩
 have l3:b3.length<=2044:=by rw[<-e3,aq];omega
 rw[e3]
 refine ew (fun w h=>bG (α:=Int) (m:=1) [(m.B.length:Int)] rfl (fY (by unfold aD;omega)) rfl (by decide) h) ?_
 refine cc rfl qG (fun w hw=>ly g2 [(m.B.length:Int)] _ _ (.own rfl .a) b3 A3 c3 (by show _+1<=_;omega) w (hw.msub (.s fc (.s fc .r)))) (fun⟨A4,c4⟩ _=>?_)
 refine aL ?_
 obtain⟨b4,e4⟩:∃b,b3++ [(m.B.length:Int)].map aG=b:=⟨_,rfl⟩
 have l4:b4.length<=2045:=by rw[<-e4,aq];show _+1<=_;omega
 rw[e4]
 refine dG (fun g:Nat×Option Addr×Nat=>g.1<=m.B.length) (fun g=>m.B.length - g.1) (fun g=> [(1,.pointer (some ⟨g1,0,none⟩)),(3,.pointer (some ⟨g2,0,none⟩)),(32,.slice a.Ab m.B.length a.cb),(33,.int .i64 (m.B.length:Int)),(34,.int .i64 (g.1:Int))]) (fun g=> [am g2 [.slice g.2.1 (b4++(m.B.take g.1).flatMap fD).length g.2.2] 228,ap (.slice g.2.1 (b4++(m.B.take g.1).flatMap fD).length g.2.2) (b4++(m.B.take g.1).flatMap fD),am g1 [.slice a.Af m.F.length a.cf,.slice a.Ab m.B.length a.cb,.slice a.Ai m.I.length a.ci,.slice a.Ao m.out.length a.co,.int .i64 m.S,.int .i64 m.T] 43]) (0,A4,c4) (bn _) ?_ (hh:=(fun w h=>by have h:=h.msub (T:= [am g2 _ _,ap _ b4,am g1 [.slice a.Af m.F.length a.cf,.slice a.Ab m.B.length a.cb,.slice a.Ai m.I.length a.ci,.slice a.Ao m.out.length a.co,.int .i64 m.S,.int .i64 m.T] 43]) ms;simpa using h))
 rintro⟨j,Aj,cj⟩ hj'
 try dsimp only
 have hj:j<=m.B.length:=hj'
 have hlj:(b4++(m.B.take j).flatMap fD).length<=2045+1021*m.B.length:=by rw[aq];have:=qb j;omega
 refine az (fun hlt=>?_) (fun hlt=>?_)
 ·have hjl:j<m.B.length:=by omega
  obtain⟨Ax,cx,hx,hcell⟩:=hm.b.sub hjl
  have hxl:(m.B.getD j []).length<=255:=(hb2 _ (fR hjl)).1
  refine aj ?_
  refine dB (_) rfl ((.ro hm.b)) ?_
  refine eR rfl (hcell _)<|aj ?_
  refine cc rfl Rs (fun w hw=>sa g2 (m.B.getD j []) _ _ hx (b4++(m.B.take j).flatMap fD) Aj cj (by omega) w (hw.msub (.s fc (.s fc .r)))) (fun⟨A5,c5⟩ _=>?_)
  refine aL ?_
  rw[<-og hjl [] b4]
  refine dw (j+1,A5,c5) (by show j+1<=_;omega) (by show _ - _<_ - _;omega)
 obtain rfl:j=m.B.length:=by omega
 have e5:b4++(m.B.take m.B.length).flatMap fD=b4++m.B.flatMap fD:=by rw[aR]
 rw[e5] at hlj
 rw[e5]
 obtain⟨b5,e6⟩:∃b,b4++m.B.flatMap fD=b:=⟨_,rfl⟩
 rw[e6] at hlj
 rw[e6]
 refine aj ?_
 intro g5 _
 refine ew (fun w h=>bG (α:=Int) (m:=1) [(m.F.length:Int)] rfl (fY (by unfold aD;omega)) rfl (by decide) h) ?_
 refine cc rfl qG (fun w hw=>ly g2 [(m.F.length:Int)] _ _ (.own rfl .a) b5 Aj cj (by show _+1<=_;omega) w (hw.msub (.s fc (.s fc .r)))) (fun⟨A6,c6⟩ _=>?_)
 refine aL ?_
 obtain⟨b6,e7⟩:∃b,b5++ [(m.F.length:Int)].map aG=b:=⟨_,rfl⟩
 have l6:b6.length<=2046+1021*m.B.length:=by rw[<-e7,aq];show _+1<=_;omega
 rw[e7]
 refine dG (fun g:Nat×Option Addr×Nat=>g.1<=m.F.length) (fun g=>m.F.length - g.1) (fun g=> [(3,.pointer (some ⟨g2,0,none⟩)),(49,.slice a.Af m.F.length a.cf),(50,.int .i64 (m.F.length:Int)),(51,.int .i64 (g.1:Int))]) (fun g=> [am g2 [.slice g.2.1 (b6++(m.F.take g.1).flatMap gt).length g.2.2] 228,ap (.slice g.2.1 (b6++(m.F.take g.1).flatMap gt).length g.2.2) (b6++(m.F.take g.1).flatMap gt)]) (0,A6,c6) (bn _) ?_ (hh:=(fun w h=>by have h:=h.msub (T:= [am g2 _ _,ap _ b6]) ms;simpa using h))
 rintro⟨k,Ak,ck⟩ hk'
 try dsimp only
 have hk:k<=m.F.length:=hk'
 have hlk:(b6++(m.F.take k).flatMap gt).length<=2046+1021*m.B.length+2554*k:=by
  rw[aq]
  have h1:=sP (m.F.take k) (m:=2554) (f:=gt) (fun x hx=>wq (hf2 x (kR hx)))
  rw[ax,Nat.min_eq_left hk] at h1
  omega
 refine az (fun hlt2=>?_) (fun hlt2=>?_)
 ·have hkl:k<m.F.length:=by omega
  obtain⟨Al,cl,As,cs,hl,hst,hi64,hcell⟩:=hm.f.fr hkl
  have hfr:=hf2 _ (fT hkl)
  have hfl:=hfr.l.1
  have hfs:=hfr.s.1
  have hfb:=og (f:=gt) hkl default b6
  obtain⟨X,hX⟩:∃X,aQ m.F k=X:=⟨_,rfl⟩
  rw[show m.F.getD k default=X from hX] at hfb
  rw[hX] at hfl hfs hfr hi64 hl hst hcell
  obtain⟨b7,e8⟩:∃b,b6++(m.F.take k).flatMap gt=b:=⟨_,rfl⟩
  rw[e8] at hlk hfb
  rw[e8]
  refine aj ?_
  refine dB (_) rfl ((.ro hm.f)) ?_
  refine iQ rfl (hcell _)<|aj ?_
  refine fun g6 _=>aj ?_
  intro g7 _
  refine ew (fun w h=>bG (α:=Int) (m:=2) [X.func,X.pc] rfl (jN hi64.1 hi64.2) rfl (by decide) h) ?_
  refine cc rfl qG (fun w hw=>ly g2 [X.func,X.pc] _ _ (.own rfl .a) b7 Ak ck (by show _+2<=_;omega) w (hw.msub (.s fc (.s fc .r)))) (fun⟨A7,c7⟩ _=>?_)
  refine aL ?_
  obtain⟨b8,e9⟩:∃b,b7++ [X.func,X.pc].map aG=b:=⟨_,rfl⟩
  have l8:b8.length=b7.length+2:=by rw[<-e9,aq];rfl
  rw[e9]
  refine cc rfl Tryz.call173 (fun w hw=>xB g2 X.L _ _ hl b8 A7 c7 (by omega) w (hw.msub (.s fc (.s fc .r)))) (fun⟨A8,c8⟩ _=>?_)
  refine aL ?_
  obtain⟨b9,e10⟩:∃b,b8++gM X.L=b:=⟨_,rfl⟩
  have l9:b9.length<=b7.length+1278:=by
   have h1:=tq X.L X.L.length
   rw[aR] at h1
   rw[<-e10,aq]
   simp only[gM,aS]
   omega
  rw[e10]
  refine cc rfl Tryz.call173 (fun w hw=>xB g2 X.K _ _ hst b9 A8 c8 (by omega) w (hw.msub (.s fc (.s fc .r)))) (fun⟨A9,c9⟩ _=>?_)
  refine aL ?_
  rw[show b9++gM X.K=b6++(m.F.take (k+1)).flatMap gt from by rw[hfb,<-e10,<-e9];simp[gt]]
  refine dw (k+1,A9,c9) (by show k+1<=_;omega) (by show _ - _<_ - _;omega)
 obtain rfl:k=m.F.length:=by omega
 have hall:b6++(m.F.take m.F.length).flatMap gt=js m:=by
  rw[aR,<-e7,<-e6,<-e4,<-e3,<-e2,<-e1]
  simp[js]
 rw[hall]
 refine aj ?_
 refine sE (GM jQ jM nQ (SF.own rfl fc) rfl rfl)<|aj ?_
 intro w hw
 exact⟨rfl,hw.below⟩
def Q8 (fs:List au) (m:ar):List UInt8:=if fu fs m=0 then js m else []
def mm (fs:List au) (s:List UInt8):Int:=if dU fs≠0 then dU fs else match iA s with
 | none=>1
 | some m=>fh fs m
def ze (fs:List au) (s:List UInt8):ar:=if mm fs s=0 then (pq s).1 else default
theorem zE {s:List UInt8} {m:ar} (h:iA s=some m):aD m.S/\aD m.T:=by
 unfold iA at h
 split at h
 ·cases h
 rename_i x r e
 split at h
 ·obtain rfl:=dM h
  unfold ka at e
  split at e
  ·cases e
  rename_i st s1 e1
  split at e
  ·cases e
  rename_i tr s2 e2
  split at e
  ·cases e
  split at e
  ·cases e
  split at e
  ·cases e
  split at e
  ·cases e
  injection e with e
  injection e with e _
  subst e
  have h1:=(ir e1).2
  have h2:=(ir e2).2
  exact⟨⟨by show _<=st;omega,by show st<=_;omega⟩,⟨by show _<=tr;omega,by show tr<=_;omega⟩⟩
 cases h
theorem I2 {s:List UInt8} {m:ar} (h:iA s=some m):mF m.F:=by
 unfold iA at h
 split at h
 ·cases h
 rename_i x r e
 split at h
 ·obtain rfl:=dM h
  unfold ka at e
  split at e
  ·cases e
  split at e
  ·cases e
  split at e
  ·cases e
  split at e
  ·cases e
  split at e
  ·cases e
  split at e
  ·cases e
  rename_i fr s6 e6
  injection e with e
  injection e with e _
  subst e
  have hl:=sd e6
  refine⟨by show fr.length*64<=_;omega,fun x hx=>?_⟩
  have hx:x∈fr:=hx
  have key:∀(k:Nat) (s r:List UInt8) (l:List aB),ft gJ k s=some (l,r)->∀x∈l,x.L.length<=255/\x.K.length<=255:=by
   intro k
   induction k with
   | zero=>
    intro s r l e x hx
    obtain⟨rfl,_⟩: []=l/\s=r:=by simpa [ft] using e
    cases hx
   | succ k ih=>
    intro s r l e x hx
    unfold ft at e
    split at e
    ·cases e
    rename_i y t e1
    split at e
    ·cases e
    rename_i l2 u e2
    obtain⟨rfl,_⟩:y::l2=l/\u=r:=by simpa using e
    rcases cZ.1 hx with rfl | hx
    ·unfold gJ at e1
     split at e1
     ·cases e1
     split at e1
     ·cases e1
     split at e1
     ·cases e1
     rename_i q3 s3 e3
     split at e1
     ·cases e1
     rename_i q4 s4 e4
     injection e1 with e1
     injection e1 with e1 _
     subst e1
     exact⟨sd e3,sd e4⟩
    exact ih _ _ _ e2 x hx
  unfold ig at e6
  split at e6
  ·cases e6
  have:=key _ _ _ _ e6 x hx
  omega
 cases h
theorem Hy (Ap:Option Addr) (cp:Nat) (fs:List au) (s:List UInt8) (m:ar) (hr:ze fs s=m) (hl:s.length<=140737488355320) (w:World) (hs:Sl w (.slice Ap fs.length cp) fs) :
  Calls Tryz.prog 60 #[.agg #[.slice Ap fs.length cp],.string ⟨s.toArray⟩] w fun e w'=> ∃g:MA,True/\
   e= .returned (.tuple #[.agg #[.slice g.Af m.F.length g.cf,.slice g.Ab m.B.length g.cb,.slice g.Ai m.I.length g.ci,.slice g.Ao m.out.length g.co,.int .i64 m.S,.int .i64 m.T],.int .i64 (mm fs s)])/\Cw w.heap.size w [ap (.slice g.Af m.F.length g.cf) m.F,ap (.slice g.Ab m.B.length g.cb) m.B,ap (.slice g.Ai m.I.length g.ci) m.I,ap (.slice g.Ao m.out.length g.co) m.out] w':=by
 unfold ze at hr
 refine enter Tryz.func60 rfl Tryz.ntmps60 rfl<|aj ?_
 refine fun g1 _=>aj ?_
 refine fun g2 _=>aj ?_
 refine cy rfl FK (fun w hw=>nx Ap cp fs w (hw.ro hs))<|bU (fun h=>?_) (fun h=>?_)
 ·have hE:mm fs s=dU fs:=by unfold mm;rw[if_pos h]
  rw[hE,if_neg h] at hr
  subst hr
  rw[hE]
  refine aj ?_
  intro w hw
  exact⟨⟨none,0,none,0,none,0,none,0⟩,trivial,rfl,(oL hw).msub ms⟩
 have h:dU fs=0:=by simpa using h
 have hF:=nJ h
 obtain⟨q,hq⟩:∃q,pq s=q:=⟨_,rfl⟩
 refine aj ?_
 refine eQ rfl Tryz.call119 (fun w hw=>I3 s q hq hl w) (fun g0 _=>aj ?_)
 refine fun g3 _=>aj ?_
 obtain⟨q,b⟩:=q
 cases ht:iA s with
 | none=>
  have hE:mm fs s=1:=by unfold mm;rw[if_neg (fun e=>e h),ht]
  rw[hE,if_neg (by decide)] at hr
  subst hr
  have hb:b=false:=by
   unfold pq at hq
   rw[ht] at hq
   exact(Prod.mk.inj hq).2.symm
  subst hb
  rw[hE]
  refine di (t:=22) (v':= .bool true) rfl (rfl) ?_
  refine bo rfl<|aj ?_
  intro w hw
  exact⟨⟨none,0,none,0,none,0,none,0⟩,trivial,rfl,(oL hw).msub ms⟩
 | some m0=>
  have hE:mm fs s=fh fs m0:=by unfold mm;rw[if_neg (fun e=>e h),ht]
  have hq2:m0=q/\true=b:=by
   unfold pq at hq
   rw[ht] at hq
   exact Prod.mk.inj hq
  obtain⟨rfl,rfl⟩:=hq2
  rw[hq] at hr
  have hfit:=I2 ht
  refine di (t:=22) (v':= .bool false) rfl (rfl) ?_
  refine cB rfl<|aj ?_
  refine cy rfl RE (fun w hw=>rh Ap cp fs g0 m0 w (hw.ro hs) (oA hw fc fc fc fc rfl rfl rfl rfl (zE ht).1 (zE ht).2) hF hfit)<|aj ?_
  rw[hE]
  refine jF rfl (fun h2=>?_) (fun h2=>?_)
  ·rw[hE,if_neg h2] at hr
   subst hr
   refine aj ?_
   intro w hw
   exact⟨⟨none,0,none,0,none,0,none,0⟩,trivial,rfl,(oL hw).msub ms⟩
  have h2:fh fs m0=0:=by simpa using h2
  rw[hE,if_pos h2] at hr
  subst hr
  rw[h2]
  refine aj ?_
  intro w hw
  exact⟨g0,trivial,rfl,hw.msub ms⟩
end
section
def cC (l:List aF):List Int:=(l.filter fun v=>v.ref && decide (0<v.n)).map fun v=>v.n
def py (m:ar):List Int:=m.F.flatMap fun x=>cC x.L++cC x.K
theorem Kc (a b:List aF):cC (a++b)=cC a++cC b:=by unfold cC;rw[List.filter_append,dm]
theorem Kb (v:aF):cC [v]=if v.ref=true/\0<v.n then [v.n] else []:=by
 unfold cC
 by_cases h:v.ref=true/\0<v.n
 ·rw[if_pos h,List.filter_cons_of_pos (by simp[h.1,h.2])];rfl
 rw[if_neg h,List.filter_cons_of_neg (by simpa using h)];rfl
theorem yh {l:List aF} {k:Nat} (hk:k<l.length):cC (l.take (k+1))=cC (l.take k)++cC [l.getD k default]:=by rw[ed l k default hk,Kc]
theorem ne (l:List aF):(cC l).length<=l.length:=by
 unfold cC
 rw[aN]
 exact List.length_filter_le _ _
section
variable {B:Nat} {w0:World} {H:List aC}
theorem Dk {A:Option Addr} {m c k:Nat} {xs:List aF} (h:br w0 B (.slice A m c) xs) (hk:k<m):aD (xs.getD k default).n:=by
 obtain⟨cs,⟨_,hi⟩,_⟩:=h.elr hk default
 exact hi
theorem BR (go b o:Nat) (v:aF) (hi:aD v.n) (hv:∀(H:List aC) (w:World),Cw B w0 H w->∀j u,([.bool v.ref,.int .i64 v.n]:List Value)[j]? =some u->w.cell? ⟨b,o+j,none⟩=some u) (acc:List Int) (A:Option Addr) (c:Nat) (hb:acc.length<=1000000) (w:World)
  (hw:Cw B w0 (am go [.slice A acc.length c] 35::ap (.slice A acc.length c) acc::H) w) :
  Calls Tryz.prog 166 #[.pointer (some ⟨b,o,none⟩),.pointer (some ⟨go,0,none⟩)] w fun e w'=> ∃g:Option Addr×Nat,True/\e= .returned (.tuple #[])/\Cw B w0 (am go [.slice g.1 (acc++cC [v]).length g.2] 35::ap (.slice g.1 (acc++cC [v]).length g.2) (acc++cC [v])::H) w':=by
 obtain⟨r,n⟩:=v
 have hg:=Kb ⟨r,n⟩
 refine aY Tryz.func166 rfl Tryz.ntmps166 rfl hw<|aj ?_
 refine eR rfl (fun w hw=>hv _ w hw 0 _ rfl) ?_
 refine aH ?_
 cases r
 ·rw[if_neg (by simp)] at hg
  rw[hg,dN]
  refine cH (t:=7) (v':= .bool false) rfl (rfl)<|aj ?_
  refine cB rfl<|aj ?_
  intro w hw
  exact⟨(A,c),trivial,rfl,hw.msub ms⟩
 refine cH (t:=7) (v':= .bool true) rfl (rfl)<|aj ?_
 refine eR rfl (fun w hw=>hv _ w hw 1 _ rfl)<|az (fun hn=>?_) (fun hn=>?_)
 ·have hn:0<n:=hn
  rw[if_pos ⟨rfl,hn⟩] at hg
  rw[hg]
  refine dK [0,3,6,9,12,17,20,23] [7] rfl [am go [.slice A acc.length c] 35]<|aj ?_
  refine tE rfl (dO (fun w hw=>hv _ w hw 1 _ rfl) rfl rfl dq)<|aj ?_
  intro g1 _
  refine pE rfl (cT (α:=Int) (bytes:=8) n [] rfl aW (bJ fU) rfl (fN fc fc) (tM hi) (by omega) (by omega) rfl rfl rfl) (fun⟨A3,c3⟩ _=>?_)
  refine aL ?_
  intro w hw
  exact⟨(A3,c3),trivial,rfl,hw.msub ms⟩
 have hn:¬0<n:=hn
 rw[if_neg (fun h=>hn h.2)] at hg
 rw[hg,dN]
 refine aj ?_
 intro w hw
 exact⟨(A,c),trivial,rfl,hw.msub ms⟩
theorem xH {m:ar} {i:Nat} (hi:i<m.F.length):((m.F.take (i+1)).flatMap fun x=>cC x.L++cC x.K)=((m.F.take i).flatMap fun x=>cC x.L++cC x.K)++(cC (aQ m.F i).L++cC (aQ m.F i).K):=by
 rw[Dp hi,pk]
 simp
theorem E2 {m:ar} (_:m.F.length<=6) (hf:∀x∈m.F,x.L.length<=1000/\x.K.length<=8) (i:Nat):((m.F.take i).flatMap fun x=>cC x.L++cC x.K).length<=1008*i:=by
 induction i with
 | zero=>simp
 | succ i ih=>
  by_cases h:i<m.F.length
  ·rw[xH h,aq,aq]
   have h1:=hf _ (fT h)
   have h2:=ne (aQ m.F i).L
   have h3:=ne (aQ m.F i).K
   omega
  rw[bg (by omega)]
  rw[bg (by omega)] at ih
  omega
theorem HX (g go:Nat) (a:MA) (m:ar) (hm:fd B w0 a m) (hn6:m.F.length<=6) (hfs:∀x∈m.F,x.L.length<=1000/\x.K.length<=8) (A:Option Addr) (c:Nat) (w:World)
  (hw:Cw B w0 (am g [.slice a.Af m.F.length a.cf,.slice a.Ab m.B.length a.cb,.slice a.Ai m.I.length a.ci,.slice a.Ao m.out.length a.co,.int .i64 m.S,.int .i64 m.T] 43::am go [.slice A 0 c] 35::ap (.slice A 0 c) ([]:List Int)::H) w) :
  Calls Tryz.prog 163 #[.pointer (some ⟨g,0,none⟩),.func (.func 166) #[] #[.pointer (some ⟨go,0,none⟩)]] w fun e w'=> ∃q:Option Addr×Nat,True/\e= .returned (.tuple #[])/\Cw B w0 (am g [.slice a.Af m.F.length a.cf,.slice a.Ab m.B.length a.cb,.slice a.Ai m.I.length a.ci,.slice a.Ao m.out.length a.co,.int .i64 m.S,.int .i64 m.T] 43::am go [.slice q.1 (py m).length q.2] 35::ap (.slice q.1 (py m).length q.2) (py m)::H) w':=by
 have bf:=bB hm.f
 refine aY Tryz.func163 rfl Tryz.ntmps163 rfl hw<|aj ?_
 refine dG (fun g2:Nat×(Option Addr×Nat)=>g2.1<=m.F.length) (fun g2=>m.F.length - g2.1) (fun g2=> [(0,.pointer (some ⟨g,0,none⟩)),(1,.func (.func 166) #[] #[.pointer (some ⟨go,0,none⟩)]),(12,.int .i64 (m.F.length:Int)),(13,.int .i64 (g2.1:Int))]) (fun g2=>am g [.slice a.Af m.F.length a.cf,.slice a.Ab m.B.length a.cb,.slice a.Ai m.I.length a.ci,.slice a.Ao m.out.length a.co,.int .i64 m.S,.int .i64 m.T] 43::am go [.slice g2.2.1 ((m.F.take g2.1).flatMap fun x=>cC x.L++cC x.K).length g2.2.2] 35::ap (.slice g2.2.1 ((m.F.take g2.1).flatMap fun x=>cC x.L++cC x.K).length g2.2.2) ((m.F.take g2.1).flatMap fun x=>cC x.L++cC x.K)::H) (0,(A,c)) (bn _) ?_ (hh:=(fun w h=>h.msub ms))
 rintro⟨i,⟨A1,c1⟩⟩ hi'
 try dsimp only
 have hi:i<=m.F.length:=hi'
 have hsm:=E2 hn6 hfs i
 refine az (fun hlt=>?_) (fun hlt=>?_)
 ·have hil:i<m.F.length:=by omega
  obtain⟨F1,d1,F2,d2,hl,hst,hI,hcell⟩:=hm.f.fr hil
  have hxs:=hfs _ (fT hil)
  have hsn:=xH hil
  generalize hacc:((m.F.take i).flatMap fun x=>cC x.L++cC x.K)=acc at hsm hsn
  generalize hx:aQ m.F i=x at hl hst hI hcell hxs hsn
  have hg1:=ne x.L
  have hg2:=ne x.K
  refine aj ?_
  refine bR [0,3,6,9,12,15,18,21,24,27,30,33,36,39,42,45,54,50,51] [] rfl<|aj ?_
  refine tE rfl (bX (k:=i) eL fx (.ro hm.f) (by omega) rfl rfl rfl)<|aj ?_
  refine tE rfl (dO (fun w hw=>hcell _ w hw 2 _ rfl) rfl rfl rZ)<|aj ?_
  refine tE rfl (bX (k:=i) eL fx (.ro hm.f) (by omega) rfl rfl rfl)<|aj ?_
  refine tE rfl (dO (fun w hw=>hcell _ w hw 3 _ rfl) rfl rfl rZ)<|aj ?_
  refine fun g1 _=>aj ?_
  refine dG (fun q:Nat×(Option Addr×Nat)=>q.1<=2) (fun q=>2 - q.1) (fun q=> [(0,.pointer (some ⟨g,0,none⟩)),(1,.func (.func 166) #[] #[.pointer (some ⟨go,0,none⟩)]),(12,.int .i64 (m.F.length:Int)),(13,.int .i64 (i:Int)),(32,.slice (some ⟨g1,0,none⟩) 2 2),(33,.int .i64 2),(34,.int .i64 (q.1:Int))]) (fun q=>am go [.slice q.2.1 (acc++(if q.1=0 then [] else if q.1=1 then cC x.L else cC x.L++cC x.K)).length q.2.2] 35::ap (.slice q.2.1 (acc++(if q.1=0 then [] else if q.1=1 then cC x.L else cC x.L++cC x.K)).length q.2.2) (acc++(if q.1=0 then [] else if q.1=1 then cC x.L else cC x.L++cC x.K))::am g1 [.slice F1 x.L.length d1,.slice F2 x.K.length d2] 116::am g [.slice a.Af m.F.length a.cf,.slice a.Ab m.B.length a.cb,.slice a.Ai m.I.length a.ci,.slice a.Ao m.out.length a.co,.int .i64 m.S,.int .i64 m.T] 43::H) (0,(A1,c1)) (bn _) ?_ (hh:=(fun w h=>(show Cw _ _ (am go [.slice A1 (acc++ []).length c1] 35::ap (.slice A1 (acc++ []).length c1) (acc++ [])::am g1 [.slice F1 x.L.length d1,.slice F2 x.K.length d2] 116::am g [.slice a.Af m.F.length a.cf,.slice a.Ab m.B.length a.cb,.slice a.Ai m.I.length a.ci,.slice a.Ao m.out.length a.co,.int .i64 m.S,.int .i64 m.T] 43::H) w from by rw[dN];exact h.msub ms)))
  rintro⟨j,⟨A2,c2⟩⟩ hj'
  try dsimp only
  have hj:j<=2:=hj'
  refine az (fun hlt2=>?_) (fun hlt2=>?_)
  ·rcases(show j=0\/j=1 by omega) with rfl | rfl
   ·try dsimp only
    rw[if_pos rfl,dN]
    refine aj ?_
    refine sE (lO (k:=0) lW lK rfl (by decide) rfl rfl rfl) ?_
    refine eR rfl (fun w hw=>fb (v:= .slice F1 x.L.length d1) fc rfl w hw)<|aj ?_
    refine dG (fun q:Nat×(Option Addr×Nat)=>q.1<=x.L.length) (fun q=>x.L.length - q.1) (fun q=> [(0,.pointer (some ⟨g,0,none⟩)),(1,.func (.func 166) #[] #[.pointer (some ⟨go,0,none⟩)]),(6,.slice F1 x.L.length d1),(12,.int .i64 (m.F.length:Int)),(13,.int .i64 (i:Int)),(32,.slice (some ⟨g1,0,none⟩) 2 2),(33,.int .i64 2),(34,.int .i64 0),(39,.int .i64 (x.L.length:Int)),(40,.int .i64 (q.1:Int))]) (fun q=>am go [.slice q.2.1 (acc++cC (x.L.take q.1)).length q.2.2] 35::ap (.slice q.2.1 (acc++cC (x.L.take q.1)).length q.2.2) (acc++cC (x.L.take q.1))::am g1 [.slice F1 x.L.length d1,.slice F2 x.K.length d2] 116::am g [.slice a.Af m.F.length a.cf,.slice a.Ab m.B.length a.cb,.slice a.Ai m.I.length a.ci,.slice a.Ao m.out.length a.co,.int .i64 m.S,.int .i64 m.T] 43::H) (0,(A2,c2)) (bn _) ?_ (hh:=(fun w h=>(show Cw _ _ (am go [.slice A2 (acc++cC (x.L.take 0)).length c2] 35::ap (.slice A2 (acc++cC (x.L.take 0)).length c2) (acc++cC (x.L.take 0))::am g1 [.slice F1 x.L.length d1,.slice F2 x.K.length d2] 116::am g [.slice a.Af m.F.length a.cf,.slice a.Ab m.B.length a.cb,.slice a.Ai m.I.length a.ci,.slice a.Ao m.out.length a.co,.int .i64 m.S,.int .i64 m.T] 43::H) w from by rw[List.take_zero,show cC []= [] from rfl,dN];exact h.msub ms)))
    rintro⟨k,⟨A3,c3⟩⟩ hk'
    try dsimp only
    have hk:k<=x.L.length:=hk'
    refine az (fun hlt3=>?_) (fun hlt3=>?_)
    ·have hkl:k<x.L.length:=by omega
     have hgk:=ne (x.L.take k)
     rw[ax] at hgk
     have hsk:=yh hkl
     refine aj ?_
     refine dB (k) rfl ((.ro hl)) ?_
     refine oE (fO rfl rfl rfl Tryz.call166 (fun w hw=>BR go (ab F1) (ao F1+k*2) (x.L.getD k default) (Dk hl hkl) (fun H w hw j u hu=>SF.val (SF.ro hl) hkl default w hw j u hu) (acc++cC (x.L.take k)) A3 c3 (by simp only[aq];omega) w (hw.msub (.s fc (.s fc .r))))) (fun⟨A4,c4⟩ _=>?_)
     refine aL ?_
     rw[aX,<-hsk]
     refine dw (k+1,(A4,c4)) (by show k+1<=_;omega) (by show _ - _<_ - _;omega) (hh:=(fun w h=>h.msub ms))
    obtain rfl:k=x.L.length:=by omega
    rw[aR]
    refine aj ?_
    refine dw (1,(A3,c3)) ((by decide:1<=2)) (by show 2 - 1<2 - 0;decide) (hh:=(fun w h=>h.msub ms))
   try dsimp only
   rw[if_neg (by decide),if_pos rfl]
   refine aj ?_
   refine sE (lO (k:=1) lW lK rfl (by decide) rfl rfl rfl) ?_
   refine eR rfl (fun w hw=>fb (v:= .slice F2 x.K.length d2) fc rfl w hw)<|aj ?_
   refine dG (fun q:Nat×(Option Addr×Nat)=>q.1<=x.K.length) (fun q=>x.K.length - q.1) (fun q=> [(0,.pointer (some ⟨g,0,none⟩)),(1,.func (.func 166) #[] #[.pointer (some ⟨go,0,none⟩)]),(6,.slice F2 x.K.length d2),(12,.int .i64 (m.F.length:Int)),(13,.int .i64 (i:Int)),(32,.slice (some ⟨g1,0,none⟩) 2 2),(33,.int .i64 2),(34,.int .i64 1),(39,.int .i64 (x.K.length:Int)),(40,.int .i64 (q.1:Int))]) (fun q=>am go [.slice q.2.1 ((acc++cC x.L)++cC (x.K.take q.1)).length q.2.2] 35::ap (.slice q.2.1 ((acc++cC x.L)++cC (x.K.take q.1)).length q.2.2) ((acc++cC x.L)++cC (x.K.take q.1))::am g1 [.slice F1 x.L.length d1,.slice F2 x.K.length d2] 116::am g [.slice a.Af m.F.length a.cf,.slice a.Ab m.B.length a.cb,.slice a.Ai m.I.length a.ci,.slice a.Ao m.out.length a.co,.int .i64 m.S,.int .i64 m.T] 43::H) (0,(A2,c2)) (bn _) ?_ (hh:=(fun w h=>(show Cw _ _ (am go [.slice A2 ((acc++cC x.L)++cC (x.K.take 0)).length c2] 35::ap (.slice A2 ((acc++cC x.L)++cC (x.K.take 0)).length c2) ((acc++cC x.L)++cC (x.K.take 0))::am g1 [.slice F1 x.L.length d1,.slice F2 x.K.length d2] 116::am g [.slice a.Af m.F.length a.cf,.slice a.Ab m.B.length a.cb,.slice a.Ai m.I.length a.ci,.slice a.Ao m.out.length a.co,.int .i64 m.S,.int .i64 m.T] 43::H) w from by rw[List.take_zero,show cC []= [] from rfl,dN];exact h.msub ms)))
   rintro⟨k,⟨A3,c3⟩⟩ hk'
   try dsimp only
   have hk:k<=x.K.length:=hk'
   refine az (fun hlt3=>?_) (fun hlt3=>?_)
   ·have hkl:k<x.K.length:=by omega
    have hgk:=ne (x.K.take k)
    rw[ax] at hgk
    have hsk:=yh hkl
    refine aj ?_
    refine dB (k) rfl ((.ro hst)) ?_
    refine oE (fO rfl rfl rfl Tryz.call166 (fun w hw=>BR go (ab F2) (ao F2+k*2) (x.K.getD k default) (Dk hst hkl) (fun H w hw j u hu=>SF.val (SF.ro hst) hkl default w hw j u hu) ((acc++cC x.L)++cC (x.K.take k)) A3 c3 (by simp only[aq];omega) w (hw.msub (.s fc (.s fc .r))))) (fun⟨A4,c4⟩ _=>?_)
    refine aL ?_
    rw[aX,<-hsk]
    refine dw (k+1,(A4,c4)) (by show k+1<=_;omega) (by show _ - _<_ - _;omega) (hh:=(fun w h=>h.msub ms))
   obtain rfl:k=x.K.length:=by omega
   rw[aR]
   refine aj ?_
   rw[aX]
   refine dw (2,(A3,c3)) ((by decide:2<=2)) (by show 2 - 2<2 - 1;decide) (hh:=(fun w h=>h.msub ms))
  obtain rfl:j=2:=by omega
  try dsimp only
  rw[if_neg (by decide),if_neg (by decide),<-hsn]
  refine aj ?_
  refine dw (i+1,(A2,c2)) (by show i+1<=_;omega) (by show _ - _<_ - _;omega) (hh:=(fun w h=>h.msub ms))
 obtain rfl:i=m.F.length:=by omega
 rw[aR]
 refine aj ?_
 intro w hw
 exact⟨(A1,c1),trivial,rfl,hw.msub ms⟩
end
end
section
theorem rp {l:List aF} {n:Int} :n∈cC l↔0<n/\∃v∈l,v.ref=true/\v.n=n:=by
 unfold cC
 rw[kY]
 constructor
 ·rintro⟨v,hv,rfl⟩
  obtain⟨h1,h2⟩:=List.mem_filter.1 hv
  simp only[cW,decide_eq_true_eq] at h2
  exact⟨h2.2,v,h1,h2.1,rfl⟩
 rintro⟨h0,v,hv,hr,rfl⟩
 exact⟨v,List.mem_filter.2 ⟨hv,by simp[hr,h0]⟩,rfl⟩
theorem GC {m:ar} {n:Int} :n∈py m↔0<n/\Bv m n=true:=by
 unfold py
 rw[List.mem_flatMap,vc]
 constructor
 ·rintro⟨x,hx,h⟩
  rcases cD.1 h with h | h
  ·obtain⟨h0,v,hv,hr,e⟩:=rp.1 h
   exact⟨h0,x,hx,v,fK _ hv,hr,e⟩
  obtain⟨h0,v,hv,hr,e⟩:=rp.1 h
  exact⟨h0,x,hx,v,gC _ hv,hr,e⟩
 rintro⟨h0,x,hx,v,hv,hr,e⟩
 refine⟨x,hx,?_⟩
 rcases cD.1 hv with h | h
 ·exact fK _ (rp.2 ⟨h0,v,h,hr,e⟩)
 exact gC _ (rp.2 ⟨h0,v,h,hr,e⟩)
theorem LO {fs:List au} {m:ar} (hR:bx fs m):Lib.compact (lb (py m))=eI m:=by
 obtain⟨h1,h2⟩:=wD (xM (py m))
 refine sx h1 (CE m) fun n=>?_
 rw[h2,oG]
 unfold lb
 rw[List.mem_mergeSort,GC]
 constructor
 ·rintro⟨h0,h⟩
  obtain⟨x,hx,v,hv,hr,rfl⟩:=vc.1 h
  have:=wS hR hx hv hr
  exact⟨by omega,h⟩
 rintro⟨h0,h⟩
 exact⟨by omega,h⟩
theorem GE {m:ar} :(eI m).length<=m.B.length:=by
 unfold eI
 rw[aN]
 exact cY (List.length_filter_le _ _) (by rw[nN];exact aA _)
theorem Mu (w : World) : Calls Tryz.prog 274 #[.int .u64 0] w fun e w' => e = .returned (.int .i64 0) /\ w = w' := by
  go_enter Tryz.func274, Tryz.ntmps274
  go_wp2
  all_goals (go_ret; exact ⟨ff (by kernel_rfl), rfl⟩)
theorem Qa (w : World) : Calls Tryz.prog 220 #[.int .u64 0] w fun e w' => e = .returned (.int .i64 0) /\ w = w' := by
  go_enter Tryz.func220, Tryz.ntmps220
  go_wp2_with (first
    | (go_at_call 274; refine (Mu _).mono ?_; rintro e w' ⟨rfl, rfl⟩))
  all_goals (go_ret; exact ⟨rfl, rfl⟩)
theorem J7 (A:Option Addr) (c:Nat) (w:World):Calls Tryz.prog 264 #[.slice A 0 c,.int .i64 0,.int .i64 0] w fun e w'=>e= .returned (.tuple #[])/\Below w.heap.size w w':=by
 refine enter Tryz.func264 rfl Tryz.ntmps264 rfl<|aj ?_
 refine dG (fun _:Unit=>True) (fun _=>0) (fun _=> [(0,.slice A 0 c),(1,.int .i64 0),(2,.int .i64 0),(6,.int .i64 1)]) (fun _=> []) () (trivial) ?_
 rintro _ _
 refine az (fun h=>?_) (fun h=>?_)
 ·exact absurd h (by decide)
 refine aj ?_
 intro w hw
 exact⟨rfl,hw.below⟩
theorem JL (A:Option Addr) (c:Nat) (l:Int) (w:World):Calls Tryz.prog 219 #[.slice A 0 c,.int .i64 0,.int .i64 0,.int .i64 l] w fun e w'=>e= .returned (.tuple #[])/\Below w.heap.size w w':=by
 refine enter Tryz.func219 rfl Tryz.ntmps219 rfl<|aj ?_
 refine dG (fun _:Unit=>True) (fun _=>0) (fun _=> [(0,.slice A 0 c),(1,.int .i64 0),(2,.int .i64 0),(3,.int .i64 l),(8,.bool true),(9,.bool true)]) (fun _=> []) () (trivial) ?_
 rintro _ _
 refine az (fun h=>?_) (fun h=>?_)
 ·refine aj ?_
  refine cy rfl Tryz.call264 (fun w hw=>J7 A c w)<|aj ?_
  intro w hw
  exact⟨rfl,hw.below⟩
 exact absurd (show (0:Int)<=12 by decide) h
theorem Ge (A : Option Addr) (c : Nat) (w : World) : Calls Tryz.prog 167 #[.slice A 0 c] w fun e w' => e = .returned (.tuple #[]) /\ Below w.heap.size w w' := by
  go_enter Tryz.func167, Tryz.ntmps167
  go_wp2_with (first
    | (go_at_call 220; refine (Qa _).mono ?_; rintro e w' ⟨rfl, rfl⟩)
    | (go_at_call 219; refine (JL _ _ _ _).mono ?_; rintro e w' ⟨rfl, hb⟩))
  all_goals (go_end0; exact ⟨rfl, (by repeat (first | exact Below.refl _ _ | assumption | refine Below.drew ?_ | refine Below.drewN_ ?_ _ | refine aJ ?_ _ | refine bq (by assumption) ?_ | refine bD ?_ (by simp <;> omega) _))⟩)
theorem BV (A:Option Addr) (c:Nat) (w:World):Calls Tryz.prog 168 #[.slice A 0 c] w fun e w'=>e= .returned (.slice A 0 c)/\Below w.heap.size w w':=
 (Any.slices_Compact_int_empty oY A c w).mono fun _ _ ⟨h1,h2⟩=>⟨h1,by rw[h2];exact Below.refl _ _⟩
theorem AF (fs:List au) (a:MA) (m:ar) (w:World) (hm:fd w.heap.size w a m) (hF:fk fs) (hR:bx fs m) :
  Calls Tryz.prog 116 #[.agg #[.slice a.Af m.F.length a.cf,.slice a.Ab m.B.length a.cb,.slice a.Ai m.I.length a.ci,.slice a.Ao m.out.length a.co,.int .i64 m.S,.int .i64 m.T]] w fun e w'=> ∃q:Option Addr×Nat,True/\e= .returned (.slice q.1 (eI m).length q.2)/\Cw w.heap.size w [ap (.slice q.1 (eI m).length q.2) (eI m)] w':=by
 have hfs:∀x∈m.F,x.L.length<=1000/\x.K.length<=8:=fun x hx=>by
  obtain⟨i,hi,rfl⟩:=cz hx
  have h:=ve hF hR hi
  have e:aQ m.F i=m.F[i]:=by
   unfold aQ
   rw[ak,an hi]
   rfl
  rw[e] at h
  exact⟨h.2,h.1⟩
 have heq:=LO hR
 refine enter Tryz.func116 rfl Tryz.ntmps116 rfl<|aj ?_
 refine fun g1 _=>aj ?_
 intro g2 _
 refine bL<|dC (fun w h=>Cw.nilO Int h)<|aj ?_
 refine cc rfl Tryz.call163 (fun w hw=>HX g1 g2 a m hm hR.n6 hfs none 0 w (hw.msub (.s fc (.s fc (.s fc .r))))) (fun⟨A1,c1⟩ _=>?_)
 refine aL ?_
 generalize py m=l at heq⊢
 generalize eI m=r at heq⊢
 subst heq
 rcases l with _ | ⟨x,l⟩
 ·rw[show lb ([]:List Int)= [] from by unfold lb;simp,show Lib.compact ([]:List Int)= [] from by decide]
  refine cy rfl Ru (fun w hw=>Ge A1 c1 w)<|aj ?_
  refine cy rfl Rt (fun w hw=>BV A1 c1 w)<|aj ?_
  intro w hw
  exact⟨(A1,c1),trivial,rfl,hw.msub ms⟩
 have hsl:(lb (x::l)).length=(x::l).length:=by unfold lb;exact List.length_mergeSort _
 refine cc rfl Ru (fun w hw=>zQ (hw.msub (.s fc .r)) (Nat.succ_pos _) (xd hw fc)) (fun _ _=>aj ?_)
 refine cc rfl Rt (fun w hw=>ul (hw.msub (.s fc .r)) (Nat.succ_pos _) (xd hw fc)) (fun _ _=>aj ?_)
 intro w hw
 exact⟨(A1,c1),trivial,rfl,hw.msub ms⟩
end
section
theorem HQ {l:List Int} {v:Int} (h:v∈l):∃k:Nat,oh l v=k/\k<l.length/\l.getD k 0=v:=by
 unfold oh
 cases e:l.findIdx? (· == v) with
 | none=>
  rw[List.findIdx?_eq_none_iff] at e
  have:=e v h
  simp at this
 | some k=>
  rw[mJ] at e
  obtain⟨h1,h2,_⟩:=e
  refine⟨k,rfl,h1,?_⟩
  rw[ak,an h1]
  simpa using h2
def iM {α:Type} (l:List α) (f:α->α) (k:Nat):List α:=(l.take k).map f++l.drop k
section
variable {B:Nat} {w0:World} {H:List aC}
theorem BS (g4 g6:Nat) (R:List Int) (r:Int->Int) (hri:∀n∈R,aD (r n)) (T1 R1:Option Addr) (t1 r1:Nat) (A:Option Addr) (m c k:Nat) (xs:List aF) (hk:k<m) (hok:vU (fun n=>n∈R) (xs.getD k default)) (hpos:(xs.getD k default).ref=true->0<=(xs.getD k default).n) (w:World)
  (hw:Cw B w0 (ap (.slice A m c) xs::am g6 [.slice T1 (R.map r).length t1] 35::ap (.slice T1 (R.map r).length t1) (R.map r)::am g4 [.slice R1 R.length r1] 35::ap (.slice R1 R.length r1) R::H) w) :
  Calls Tryz.prog 164 #[.pointer (some ⟨ab A,ao A+k*2,none⟩),.pointer (some ⟨g6,0,none⟩),.pointer (some ⟨g4,0,none⟩)] w fun e w'=> ∃_:Unit,True/\e= .returned (.tuple #[])/\Cw B w0 (ap (.slice A m c) (xs.set k (dh r (xs.getD k default)))::am g6 [.slice T1 (R.map r).length t1] 35::ap (.slice T1 (R.map r).length t1) (R.map r)::am g4 [.slice R1 R.length r1] 35::ap (.slice R1 R.length r1) R::H) w':=by
 have hl:xs.length=m:=by
  obtain⟨F,h,_⟩:=hw.rd bz.a
  exact br.len_eq (bS.sl (show bS w F _ xs from h))
 have hself:xs.set k (xs.getD k default)=xs:=by
  apply ef
  intro i
  rw[nO]
  split
  ·rename_i e
   subst e
   rw[ak,if_pos (by omega),an (by omega)]
   rfl
  rfl
 generalize hv:xs.getD k default=v at hok hpos hself⊢
 refine aY Tryz.func164 rfl Tryz.ntmps164 rfl hw<|aj ?_
 refine eR rfl (fun w hw=>(SF.val (SF.own hl fc) hk default) w hw 0 _ rfl) ?_
 refine aH ?_
 rw[hv]
 rcases Bool.eq_false_or_eq_true v.ref with hr | hr
 ·rw[hr]
  refine cH (t:=8) (v':= .bool true) rfl (rfl)<|aj ?_
  refine eR rfl (fun w hw=>(SF.val (SF.own hl fc) hk default) w hw 1 _ rfl)<|aj ?_
  rw[hv]
  refine gY rfl (fun hn=>?_) (fun hn=>?_)
  ·have hn:0<v.n:=hn
   have hin:=hok hr (by omega)
   obtain⟨q,hq1,hq2,hq3⟩:=HQ hin
   have hqm:q<(R.map r).length:=by rw[aN];exact hq2
   have hren:dh r v=⟨true,r v.n⟩:=by unfold dh;rw[if_pos ⟨hr,by omega⟩]
   have hat:(R.map r).getD q 0=r v.n:=by
    rw[ak,cJ,an hq2]
    rw[ak,an hq2] at hq3
    show r R[q]=_
    rw[show R[q]=v.n from hq3]
   refine bR [0,3,6,9,12,15,18,23,24,27,30,33,38] [12] rfl<|aj ?_
   refine tE rfl (dO (fun w hw=>(SF.val (SF.own hl fc) hk default) w hw 1 _ rfl) rfl rfl dq) ?_
   rw[hv]
   refine kT rfl rfl Tryz.call165 ((fun w hw=>nD ((fun w hw=>ye _ R v.n w (SF.at_ (SF.own rfl fc) hw)) w hw))) ?_
   rw[hq1]
   refine tE rfl (bX (k:=q) aW cG (SF.own (xs:=R.map r) rfl fc) (by omega) rfl rfl rfl) ?_
   refine tE rfl (dO (SF.int (SF.own (xs:=R.map r) rfl fc) (by omega)) rfl rfl dq) ?_
   refine aH ?_
   refine aH ?_
   rw[hat]
   refine pE rfl (qq (α:=aF) (f:=1) (us:= [.int .i64 (r v.n)]) ⟨true,r v.n⟩ default (xs':=xs.set k (dh r v)) (by rw[hren]) fc hk (hri _ hin) cG rfl rfl rfl rfl rfl rfl (by rw[hv];show [Value.bool v.ref,_]=_;rw[hr];rfl) rfl) (fun _ _=>aj ?_)
   intro w hw
   exact⟨(),trivial,rfl,hw.msub ms⟩
  have hn:¬0<v.n:=hn
  have hren:dh r v=v:=by unfold dh;rw[if_neg (fun h=>by have:=hpos hr;have:=h.2;omega)]
  rw[hren,hself]
  refine aj ?_
  intro w hw
  exact⟨(),trivial,rfl,hw.msub ms⟩
 rw[hr]
 have hren:dh r v=v:=AE hr
 rw[hren,hself]
 refine cH (t:=8) (v':= .bool false) rfl (rfl)<|aj ?_
 refine cB rfl<|aj ?_
 intro w hw
 exact⟨(),trivial,rfl,hw.msub ms⟩
theorem wT {α:Type} (l:List α) (f:α->α):iM l f 0=l:=by unfold iM;simp
theorem zB {α:Type} (l:List α) (f:α->α):iM l f l.length=l.map f:=by unfold iM;simp
theorem zA {α:Type} (l:List α) (f:α->α) (k:Nat):(iM l f k).length=l.length:=by unfold iM;simp;omega
theorem Em {α:Type} [Inhabited α] {l:List α} {f:α->α} {k:Nat} (hk:k<l.length):(iM l f k).getD k default=l.getD k default:=by
 unfold iM
 rw[ak,bZ (by simp;omega),aN,ax,Nat.min_eq_left (by omega),rJ,cE,ak]
 rfl
theorem zz {α:Type} [Inhabited α] {l:List α} {f:α->α} {k:Nat} (hk:k<l.length):(iM l f k).set k (f (l.getD k default))=iM l f (k+1):=by
 unfold iM
 have h1:((l.take k).map f).length=k:=by rw[aN,ax];omega
 rw[List.set_append_right _ _ (by omega),h1,rJ,ed l k default hk,dm,aX]
 congr 1
 rw[nq hk,List.set_cons_zero]
 rfl
def ij (r:Int->Int) (p:aI×aB):aI×aB:=(p.1,jT r p.2)
def er (l:List (aI×aB)) (r:Int->Int) (i:Nat):List (aI×aB):=(iM l (ij r) i).eraseIdx i
theorem Jq {l:List (aI×aB)} {i:Nat} (hi:i<l.length) {w:World} (h:Cw B w0 (dz l::H) w):∃A1 c1 A2 c2,l[i].1.lv= .slice A1 l[i].2.L.length c1/\l[i].1.sv= .slice A2 l[i].2.K.length c2:=by
 obtain⟨s1,s2⟩:=Of hi h
 obtain⟨A1,c1,e1,_⟩:=s1.form
 obtain⟨A2,c2,e2,_⟩:=s2.form
 exact⟨A1,c1,A2,c2,e1,e2⟩
theorem HW (g3 g4 g6:Nat) (R:List Int) (r:Int->Int) (hri:∀n∈R,aD (r n)) (T1 R1 Af:Option Addr) (t1 r1 n cf:Nat) (rest:List Value) (l:List (aI×aB)) (hs:List aI) (hln:l.length=n) (hls:l.map Prod.fst=hs) (hn6:n<=6)
  (hok:∀p∈l,vT (fun n=>n∈R) p.2) (hpos:∀p∈l,∀v∈p.2.L++p.2.K,v.ref=true->0<=v.n) (w:World)
  (hw:Cw B w0 (am g3 (.slice Af n cf::rest) 43::ap (.slice Af n cf) hs::dz l::am g6 [.slice T1 (R.map r).length t1] 35::ap (.slice T1 (R.map r).length t1) (R.map r)::am g4 [.slice R1 R.length r1] 35::ap (.slice R1 R.length r1) R::H) w) :
  Calls Tryz.prog 163 #[.pointer (some ⟨g3,0,none⟩),.func (.func 164) #[] #[.pointer (some ⟨g6,0,none⟩),.pointer (some ⟨g4,0,none⟩)]] w fun e w'=> ∃_:Unit,True/\e= .returned (.tuple #[])/\Cw B w0 (am g3 (.slice Af n cf::rest) 43::ap (.slice Af n cf) hs::dz (l.map (ij r))::am g6 [.slice T1 (R.map r).length t1] 35::ap (.slice T1 (R.map r).length t1) (R.map r)::am g4 [.slice R1 R.length r1] 35::ap (.slice R1 R.length r1) R::H) w':=by
 have hhl:hs.length=n:=by rw[<-hls,aN,hln]
 refine aY Tryz.func163 rfl Tryz.ntmps163 rfl hw<|aj ?_
 refine dG (fun i:Nat=>i<=n) (fun i=>n - i) (fun i=> [(0,.pointer (some ⟨g3,0,none⟩)),(1,.func (.func 164) #[] #[.pointer (some ⟨g6,0,none⟩),.pointer (some ⟨g4,0,none⟩)]),(12,.int .i64 (n:Int)),(13,.int .i64 (i:Int))]) (fun i=>dz (iM l (ij r) i)::am g3 (.slice Af n cf::rest) 43::ap (.slice Af n cf) hs::am g6 [.slice T1 (R.map r).length t1] 35::ap (.slice T1 (R.map r).length t1) (R.map r)::am g4 [.slice R1 R.length r1] 35::ap (.slice R1 R.length r1) R::H) 0 (bn _) ?_ (hh:=(fun w h=>(show Cw _ _ (dz (iM l (ij r) 0)::am g3 (.slice Af n cf::rest) 43::ap (.slice Af n cf) hs::am g6 [.slice T1 (R.map r).length t1] 35::ap (.slice T1 (R.map r).length t1) (R.map r)::am g4 [.slice R1 R.length r1] 35::ap (.slice R1 R.length r1) R::H) w from by rw[wT];exact h.msub ms)))
 rintro i hi'
 have hi:i<=n:=hi'
 refine az (fun hlt=>?_) (fun hlt=>?_)
 ·have hil:i<l.length:=by omega
  have hul:=zA l (ij r) i
  have hatI:(iM l (ij r) i)[i]'(by omega)=l[i]:=by
   have:=Em (f:=ij r) hil
   rw[ak,an (by omega),ak,an hil] at this
   exact this
  refine gR (p:= ∃A1 c1 A2 c2,l[i].1.lv= .slice A1 l[i].2.L.length c1/\l[i].1.sv= .slice A2 l[i].2.K.length c2) (fun w hw=>by
   have:=Jq (l:=iM l (ij r) i) (i:=i) (by omega) hw
   rw[hatI] at this
   exact this) fun⟨A1,c1,A2,c2,e1,e2⟩=>?_
  refine dC (fun w h=>sr (l:=iM l (ij r) i) (k:=i) (by omega) h) ?_
  rw[hatI]
  have hset:(iM l (ij r) i).set i (ij r l[i])=iM l (ij r) (i+1):=by
   have:=zz (f:=ij r) hil
   rw[ak,an hil] at this
   exact this
  have hmemI:=cP hil
  obtain⟨hok1,hok2⟩:=hok _ hmemI
  have hpos1:∀v∈l[i].2.L,v.ref=true->0<=v.n:=fun v hv=>hpos _ hmemI v (fK _ hv)
  have hpos2:∀v∈l[i].2.K,v.ref=true->0<=v.n:=fun v hv=>hpos _ hmemI v (gC _ hv)
  have hhd:hs.getD i default=⟨l[i].1.func,l[i].1.pc,.slice A1 l[i].2.L.length c1,.slice A2 l[i].2.K.length c2⟩:=by
   rw[<-hls,ak,cJ,an hil,<-e1,<-e2]
   rfl
  have hback:∀w,Cw B w0 (ap l[i].1.lv (ij r l[i]).2.L::ap l[i].1.sv (ij r l[i]).2.K::dz (er l r i)::am g3 (.slice Af n cf::rest) 43::ap (.slice Af n cf) hs::am g6 [.slice T1 (R.map r).length t1] 35::ap (.slice T1 (R.map r).length t1) (R.map r)::am g4 [.slice R1 R.length r1] 35::ap (.slice R1 R.length r1) R::H) w->Cw B w0 (dz (iM l (ij r) (i+1))::am g3 (.slice Af n cf::rest) 43::ap (.slice Af n cf) hs::am g6 [.slice T1 (R.map r).length t1] 35::ap (.slice T1 (R.map r).length t1) (R.map r)::am g4 [.slice R1 R.length r1] 35::ap (.slice R1 R.length r1) R::H) w:=fun w h=>by
   have:=Dy (l:=iM l (ij r) i) (k:=i) (q:=ij r l[i]) (by omega) h
   rwa [hset] at this
  show CW _ _ _ _ _ _ _ (ap l[i].1.lv l[i].2.L::ap l[i].1.sv l[i].2.K::dz (er l r i)::am g3 (.slice Af n cf::rest) 43::ap (.slice Af n cf) hs::am g6 [.slice T1 (R.map r).length t1] 35::ap (.slice T1 (R.map r).length t1) (R.map r)::am g4 [.slice R1 R.length r1] 35::ap (.slice R1 R.length r1) R::H)
  rw[e1,e2] at hback⊢
  have hrl:(ij r l[i]).2.L=l[i].2.L.map (dh r):=rfl
  have hrs:(ij r l[i]).2.K=l[i].2.K.map (dh r):=rfl
  rw[hrl,hrs] at hback
  generalize l[i].1.func=hf0 at hhd
  generalize l[i].1.pc=hp0 at hhd
  generalize l[i].2.L=L1 at *
  generalize l[i].2.K=L2 at *
  refine gR (p:=L1.length<=140737488355328/\L2.length<=140737488355328) (fun w hw=>⟨bB (SF.at_ (SF.own (α:=aF) (xs:=L1) rfl fc) hw),bB (SF.at_ (SF.own (α:=aF) (xs:=L2) rfl fc) hw)⟩) fun⟨lb1,lb2⟩=>?_
  refine aj ?_
  refine bR [0,3,6,9,12,15,18,21,24,27,30,33,36,39,42,45,54,50,51] [] rfl<|aj ?_
  refine tE rfl (bX (k:=i) eL fx (SF.own (α:=aI) hhl fc) (by omega) rfl rfl rfl)<|aj ?_
  refine tE rfl (dO (fun w hw=>(SF.hfr (SF.own (α:=aI) hhl fc) (k:=i) (by omega) hhd) w hw 2 _ rfl) rfl rfl rZ)<|aj ?_
  refine tE rfl (bX (k:=i) eL fx (SF.own (α:=aI) hhl fc) (by omega) rfl rfl rfl)<|aj ?_
  refine tE rfl (dO (fun w hw=>(SF.hfr (SF.own (α:=aI) hhl fc) (k:=i) (by omega) hhd) w hw 3 _ rfl) rfl rfl rZ)<|aj ?_
  refine fun g1 _=>aj ?_
  refine dG (fun j:Nat=>j<=2) (fun j=>2 - j) (fun j=> [(0,.pointer (some ⟨g3,0,none⟩)),(1,.func (.func 164) #[] #[.pointer (some ⟨g6,0,none⟩),.pointer (some ⟨g4,0,none⟩)]),(12,.int .i64 (n:Int)),(13,.int .i64 (i:Int)),(32,.slice (some ⟨g1,0,none⟩) 2 2),(33,.int .i64 2),(34,.int .i64 (j:Int))]) (fun j=>ap (.slice A1 L1.length c1) (if j=0 then L1 else L1.map (dh r))::ap (.slice A2 L2.length c2) (if j=2 then L2.map (dh r) else L2)::dz (er l r i)::am g1 [.slice A1 L1.length c1,.slice A2 L2.length c2] 116::am g3 (.slice Af n cf::rest) 43::ap (.slice Af n cf) hs::am g6 [.slice T1 (R.map r).length t1] 35::ap (.slice T1 (R.map r).length t1) (R.map r)::am g4 [.slice R1 R.length r1] 35::ap (.slice R1 R.length r1) R::H) 0 (bn _) ?_ (hh:=(fun w h=>h.msub ms))
  rintro j hj'
  have hj:j<=2:=hj'
  refine az (fun hlt2=>?_) (fun hlt2=>?_)
  ·rcases(show j=0\/j=1 by omega) with rfl | rfl
   ·rw[if_pos rfl,if_neg (by decide)]
    refine aj ?_
    refine sE (lO (k:=0) lW lK rfl (by decide) rfl rfl rfl) ?_
    refine eR rfl (fun w hw=>fb (v:= .slice A1 L1.length c1) fc rfl w hw)<|aj ?_
    refine dG (fun k:Nat=>k<=L1.length) (fun k=>L1.length - k) (fun k=> [(0,.pointer (some ⟨g3,0,none⟩)),(1,.func (.func 164) #[] #[.pointer (some ⟨g6,0,none⟩),.pointer (some ⟨g4,0,none⟩)]),(6,.slice A1 L1.length c1),(12,.int .i64 (n:Int)),(13,.int .i64 (i:Int)),(32,.slice (some ⟨g1,0,none⟩) 2 2),(33,.int .i64 2),(34,.int .i64 0),(39,.int .i64 (L1.length:Int)),(40,.int .i64 (k:Int))]) (fun k=>ap (.slice A1 L1.length c1) (iM L1 (dh r) k)::ap (.slice A2 L2.length c2) L2::dz (er l r i)::am g1 [.slice A1 L1.length c1,.slice A2 L2.length c2] 116::am g3 (.slice Af n cf::rest) 43::ap (.slice Af n cf) hs::am g6 [.slice T1 (R.map r).length t1] 35::ap (.slice T1 (R.map r).length t1) (R.map r)::am g4 [.slice R1 R.length r1] 35::ap (.slice R1 R.length r1) R::H) 0 (bn _) ?_ (hh:=(fun w h=>(show Cw _ _ (ap (.slice A1 L1.length c1) (iM L1 (dh r) 0)::ap (.slice A2 L2.length c2) L2::dz (er l r i)::am g1 [.slice A1 L1.length c1,.slice A2 L2.length c2] 116::am g3 (.slice Af n cf::rest) 43::ap (.slice Af n cf) hs::am g6 [.slice T1 (R.map r).length t1] 35::ap (.slice T1 (R.map r).length t1) (R.map r)::am g4 [.slice R1 R.length r1] 35::ap (.slice R1 R.length r1) R::H) w from by rw[wT];exact h.msub ms)))
    rintro k hk'
    have hk:k<=L1.length:=hk'
    have hul:=zA L1 (dh r) k
    refine az (fun hlt3=>?_) (fun hlt3=>?_)
    ·have hkl:k<L1.length:=by omega
     have hat:=Em (f:=dh r) hkl
     have hmem:=fR (d:=(default:aF)) hkl
     refine aj ?_
     refine dB (k) rfl ((SF.own (xs:=iM L1 (dh r) k) hul fc)) ?_
     refine oE (fO rfl rfl rfl Tryz.call164 (fun w hw=>BS g4 g6 R r hri T1 R1 t1 r1 A1 L1.length c1 k (iM L1 (dh r) k) hkl (by rw[hat];exact hok1 _ hmem) (by rw[hat];exact hpos1 _ hmem) w (hw.msub (.s fc (.s fc (.s fc (.s fc (.s fc .r)))))))) (fun _ _=>aj ?_)
     rw[hat,zz hkl]
     refine dw (k+1) (by show k+1<=_;omega) (by show _ - _<_ - _;omega) (hh:=(fun w h=>h.msub ms))
    obtain rfl:k=L1.length:=by omega
    rw[zB]
    refine aj ?_
    refine dw 1 ((by decide:1<=2)) (by show 2 - 1<2 - 0;decide) (hh:=(fun w h=>h.msub ms))
   rw[if_neg (by decide),if_neg (by decide)]
   refine aj ?_
   refine sE (lO (k:=1) lW lK rfl (by decide) rfl rfl rfl) ?_
   refine eR rfl (fun w hw=>fb (v:= .slice A2 L2.length c2) fc rfl w hw)<|aj ?_
   refine dG (fun k:Nat=>k<=L2.length) (fun k=>L2.length - k) (fun k=> [(0,.pointer (some ⟨g3,0,none⟩)),(1,.func (.func 164) #[] #[.pointer (some ⟨g6,0,none⟩),.pointer (some ⟨g4,0,none⟩)]),(6,.slice A2 L2.length c2),(12,.int .i64 (n:Int)),(13,.int .i64 (i:Int)),(32,.slice (some ⟨g1,0,none⟩) 2 2),(33,.int .i64 2),(34,.int .i64 1),(39,.int .i64 (L2.length:Int)),(40,.int .i64 (k:Int))]) (fun k=>ap (.slice A2 L2.length c2) (iM L2 (dh r) k)::ap (.slice A1 L1.length c1) (L1.map (dh r))::dz (er l r i)::am g1 [.slice A1 L1.length c1,.slice A2 L2.length c2] 116::am g3 (.slice Af n cf::rest) 43::ap (.slice Af n cf) hs::am g6 [.slice T1 (R.map r).length t1] 35::ap (.slice T1 (R.map r).length t1) (R.map r)::am g4 [.slice R1 R.length r1] 35::ap (.slice R1 R.length r1) R::H) 0 (bn _) ?_ (hh:=(fun w h=>(show Cw _ _ (ap (.slice A2 L2.length c2) (iM L2 (dh r) 0)::ap (.slice A1 L1.length c1) (L1.map (dh r))::dz (er l r i)::am g1 [.slice A1 L1.length c1,.slice A2 L2.length c2] 116::am g3 (.slice Af n cf::rest) 43::ap (.slice Af n cf) hs::am g6 [.slice T1 (R.map r).length t1] 35::ap (.slice T1 (R.map r).length t1) (R.map r)::am g4 [.slice R1 R.length r1] 35::ap (.slice R1 R.length r1) R::H) w from by rw[wT];exact h.msub ms)))
   rintro k hk'
   have hk:k<=L2.length:=hk'
   have hul:=zA L2 (dh r) k
   refine az (fun hlt3=>?_) (fun hlt3=>?_)
   ·have hkl:k<L2.length:=by omega
    have hat:=Em (f:=dh r) hkl
    have hmem:=fR (d:=(default:aF)) hkl
    refine aj ?_
    refine dB (k) rfl ((SF.own (xs:=iM L2 (dh r) k) hul fc)) ?_
    refine oE (fO rfl rfl rfl Tryz.call164 (fun w hw=>BS g4 g6 R r hri T1 R1 t1 r1 A2 L2.length c2 k (iM L2 (dh r) k) hkl (by rw[hat];exact hok2 _ hmem) (by rw[hat];exact hpos2 _ hmem) w (hw.msub (.s fc (.s fc (.s fc (.s fc (.s fc .r)))))))) (fun _ _=>aj ?_)
    rw[hat,zz hkl]
    refine dw (k+1) (by show k+1<=_;omega) (by show _ - _<_ - _;omega) (hh:=(fun w h=>h.msub ms))
   obtain rfl:k=L2.length:=by omega
   rw[zB]
   refine aj ?_
   refine dw 2 ((by decide:2<=2)) (by show 2 - 2<2 - 1;decide) (hh:=(fun w h=>h.msub ms))
  obtain rfl:j=2:=by omega
  rw[if_neg (by decide),if_pos rfl]
  refine aj ?_
  refine dw (i+1) (by show i+1<=_;omega) (by show _ - _<_ - _;omega) (hh:=(fun w h=>hback w (h.msub ms)))
 obtain rfl:i=n:=by omega
 rw[<-hln,zB]
 refine aj ?_
 intro w hw
 exact⟨(),trivial,rfl,hw.msub ms⟩
end
end
section
theorem KE (m:ar):(ei m).F.length=m.F.length:=by unfold ei;simp
theorem Jv (r:Int->Int) (l:List (aI×aB)):(l.map (ij r)).map Prod.fst=l.map Prod.fst:=by rw[List.map_map];rfl
theorem Ju (r:Int->Int) (l:List (aI×aB)):(l.map (ij r)).map Prod.snd=(l.map Prod.snd).map (jT r):=by rw[List.map_map,List.map_map];rfl
theorem LN {r:Int->Int} {l:List (aI×aB)} (h:fG l):fG (l.map (ij r)):=fun p hp=>by
 obtain⟨q,hq,rfl⟩:=kY.1 hp
 exact h q hq
theorem Fg (fs:List au) (a:MA) (m:ar) (w:World) (hm:fd w.heap.size w a m) (hF:fk fs) (hR:bx fs m) :
  Calls Tryz.prog 115 #[.agg #[.slice a.Af m.F.length a.cf,.slice a.Ab m.B.length a.cb,.slice a.Ai m.I.length a.ci,.slice a.Ao m.out.length a.co,.int .i64 m.S,.int .i64 m.T]] w fun e w'=> ∃g:MA,True/\
   e= .returned (.agg #[.slice g.Af (ei m).F.length g.cf,.slice g.Ab (ei m).B.length g.cb,.slice g.Ai (ei m).I.length g.ci,.slice g.Ao (ei m).out.length g.co,.int .i64 (ei m).S,.int .i64 (ei m).T])/\Cw w.heap.size w [ap (.slice g.Af (ei m).F.length g.cf) (ei m).F,ap (.slice g.Ab (ei m).B.length g.cb) (ei m).B,ap (.slice g.Ai (ei m).I.length g.ci) (ei m).I,ap (.slice g.Ao (ei m).out.length g.co) (ei m).out] w':=by
 have hb8:=(iS hR.bl).1
 have hrl:=GE (m:=m)
 have hin:∀r∈eI m,0<=r/\r<=m.B.length:=fun r hr=>by have:=(oG.1 hr).1;omega
 have hri:∀n∈eI m,aD (ee m.B (eI m) n):=fun n hn=>by
  have h1:=hin n hn
  have h2:=kL m.B (eI m) n.toNat
  unfold ee
  split
  ·exact⟨by omega,by omega⟩
  exact⟨by omega,by omega⟩
 rw[KE]
 refine enter Tryz.func115 rfl Tryz.ntmps115 rfl<|aj ?_
 refine fun g1 _=>aj ?_
 refine fun g2 _=>aj ?_
 refine eQ rfl oq (fun w hw=>ko a m w (fd.ro hw hm) (jt hF hR)) (fun g0 _=>aj ?_)
 refine fun g3 _=>aj ?_
 refine eQ rfl Tryz.call116 (fun w hw=>AF fs a m w (fd.ro hw hm) hF hR) (fun⟨R1,r1⟩ _=>?_)
 refine aL ?_
 refine fun g4 _=>aj ?_
 refine eQ rfl Tryz.call162 (fun w hw=>Qb a.Ab R1 a.cb r1 m.B (eI m) w (hw.ro hm.b) (SF.at_ (SF.own rfl fc) hw) (uC.of_check hR.bl) hin (by omega)) (fun⟨⟨K1,k1⟩,⟨T1,t1⟩⟩ _=>?_)
 refine aL ?_
 intro g5 _
 refine aH ?_
 refine eP (ey _ fc kZ rfl rfl rfl rfl rfl (by rfl) rfl (by rfl)) rfl rfl (fun _ _=>?_)
 refine bL<|cM<|bM<|aH ?_
 refine aH ?_
 refine eP (ey _ fc Tryz.sizeOf41 rfl rfl rfl rfl rfl (by rfl) rfl (by rfl)) rfl rfl (fun _ _=>?_)
 refine bL<|Ia (xs:=m.F) (v:= .slice g0.Af m.F.length g0.cf) fc fun l hl hok=>?_
 have hll:l.length=m.F.length:=by rw[<-hl,aN]
 have hmem:∀p∈l,p.2∈m.F:=fun p hp=>by rw[<-hl];exact ph hp
 refine aj ?_
 refine cc rfl Tryz.call163 (fun w hw=>HW g3 g4 g5 (eI m) (ee m.B (eI m)) hri T1 R1 g0.Af t1 r1 m.F.length g0.cf [.slice K1 (bT m.B (eI m) m.B.length).length k1,.slice g0.Ai m.I.length g0.ci,.slice g0.Ao m.out.length g0.co,.int .i64 m.S,.int .i64 m.T] l (l.map Prod.fst) hll rfl hR.n6 (fun p hp=>Ib hR _ (hmem p hp)) (fun p hp v hv hr=>(wS hR (hmem p hp) hv hr).1) w (hw.msub (.s fc (.s fc (.s fc (.s fc (.s fc (.s fc (.s fc .r))))))))) (fun _ _=>aj ?_)
 intro w hw
 refine⟨⟨g0.Af,g0.cf,K1,k1,g0.Ai,g0.ci,g0.Ao,g0.co⟩,trivial,rfl,?_⟩
 have h1:=sW (v:= .slice g0.Af m.F.length g0.cf) (l:=l.map (ij (ee m.B (eI m)))) (H:= [ap (.slice K1 (bT m.B (eI m) m.B.length).length k1) (bT m.B (eI m) m.B.length),ap (.slice g0.Ai m.I.length g0.ci) m.I,ap (.slice g0.Ao m.out.length g0.co) m.out]) (LN hok) (by rw[Jv];exact hw.msub ms)
 rw[Ju,hl] at h1
 exact h1
def QN (fs:List au) (m:ar):ar×Int:=if fu fs m=0 then (ei m,(m.B.length:Int) - (ei m).B.length) else (default,0)
end
section
structure iw where
 kind:Int
 of_:Int
 n:Int
 deriving DecidableEq
instance:Inhabited iw:=⟨⟨0,0,0⟩⟩
def kE (n:Nat) (a:iw):Int:=
 if a.kind<1\/4<a.kind then 6 else if (a.kind=1/\a.of_≠0)\/(2<a.kind/\a.n≠0) then 1 else if a.of_<0\/(n:Int)<=a.of_ then 3 else 0
theorem NN {B:Nat} {w0:World} {H:List aC} (gk:Nat) (Aw Ap:Option Addr) (n cw p cp:Nat) (vd:Value) (a:iw) (w:World) (_:n<=1000000) (hw:Cw B w0 (am gk [.slice Aw n cw,.slice Ap p cp,vd] 112::H) w) :
  Calls Tryz.prog 65 #[.pointer (some ⟨gk,0,none⟩),.agg #[.int .i64 a.kind,.int .i64 a.of_,.int .i64 a.n]] w fun e w'=> ∃_:Unit,True/\e= .returned (.int .i64 (kE n a))/\Cw B w0 (am gk [.slice Aw n cw,.slice Ap p cp,vd] 112::H) w':=by
 obtain⟨E,hE⟩:∃E,kE n a=E:=⟨_,rfl⟩
 rw[hE]
 unfold kE at hE
 refine aY Tryz.func65 rfl Tryz.ntmps65 rfl hw<|aj ?_
 refine fun g1 _=>dc 9 (fun q1=>?_) (fun q1=>?_)
 ·have q1:a.kind<1:=of_decide_eq_true q1
  rw[if_pos (.inl q1)] at hE
  subst hE
  refine aj ?_
  refine bo rfl<|aj ?_
  intro w hw
  exact⟨(),trivial,rfl,hw.msub ms⟩
 have q1:¬a.kind<1:=of_decide_eq_false q1
 refine az (fun q2=>?_) (fun q2=>?_)
 ·have q2:4<a.kind:=q2
  rw[if_pos (.inr q2)] at hE
  subst hE
  refine aj ?_
  intro w hw
  exact⟨(),trivial,rfl,hw.msub ms⟩
 have q2:¬4<a.kind:=q2
 rw[if_neg (fun h=>h.elim q1 q2)] at hE
 refine dD (fun d:Bool=>d=decide ((a.kind=1/\a.of_≠0)\/(2<a.kind/\a.n≠0))) (fun d=> [(0,.pointer (some ⟨gk,0,none⟩)),(3,.pointer (some ⟨g1,0,none⟩)),(14,.bool d)]) (fun _=>am g1 [.int .i64 a.kind,.int .i64 a.of_,.int .i64 a.n] 33::am gk [.slice Aw n cw,.slice Ap p cp,vd] 112::H) ?_ ?_
 ·refine dc 18 (fun q3=>?_) (fun q3=>?_)
  ·have q3:a.kind=1:=of_decide_eq_true q3
   refine dc 23 (fun q4=>?_) (fun q4=>?_)
   ·have q4:¬a.of_=0:=by simpa using q4
    refine aj ?_
    refine nR true (by rw[eq_comm,decide_eq_true_iff];exact .inl ⟨q3,q4⟩)
   have q4:a.of_=0:=by simpa using q4
   refine dc 27 (fun q5=>?_) (fun q5=>?_)
   ·exact absurd (of_decide_eq_true q5) (by omega)
   have q5:¬2<a.kind:=of_decide_eq_false q5
   refine aj ?_
   refine nR false (by rw[eq_comm,decide_eq_false_iff_not];omega)
  have q3:¬a.kind=1:=of_decide_eq_false q3
  refine dc 27 (fun q5=>?_) (fun q5=>?_)
  ·have q5:2<a.kind:=of_decide_eq_true q5
   refine aj ?_
   refine nR (!decide (a.n=0)) (by rw[Bool.eq_iff_iff];simp[q3,q5])
  have q5:¬2<a.kind:=of_decide_eq_false q5
  refine aj ?_
  refine nR false (by rw[eq_comm,decide_eq_false_iff_not];omega)
 rintro d hd
 refine cg rfl (fun hb=>?_) (fun hb=>?_)
 ·rw[hb] at hd
  rw[if_pos (of_decide_eq_true hd.symm)] at hE
  subst hE
  refine aj ?_
  intro w hw
  exact⟨(),trivial,rfl,hw.msub ms⟩
 rw[hb] at hd
 rw[if_neg (of_decide_eq_false hd.symm)] at hE
 refine aj ?_
 refine bR [0,3,6,9,12,15,18,21,24,27,30,33,36,39,42] [] rfl<|aj ?_
 refine lA (t:=37) rfl (fun q6=>?_) (fun q6=>?_)
 ·have q6:a.of_<0:=of_decide_eq_true q6
  rw[if_pos (.inl q6)] at hE
  subst hE
  refine aj ?_
  refine bo rfl<|aj ?_
  intro w hw
  exact⟨(),trivial,rfl,hw.msub ms⟩
 have q6:¬a.of_<0:=of_decide_eq_false q6
 refine az (fun q7=>?_) (fun q7=>?_)
 ·have q7:(n:Int)<=a.of_:=q7
  rw[if_pos (.inr q7)] at hE
  subst hE
  refine aj ?_
  intro w hw
  exact⟨(),trivial,rfl,hw.msub ms⟩
 have q7:¬(n:Int)<=a.of_:=q7
 rw[if_neg (fun h=>h.elim q6 q7)] at hE
 subst hE
 refine aj ?_
 intro w hw
 exact⟨(),trivial,rfl,hw.msub ms⟩
theorem Nk (fs:List au) (a:MA) (m:ar) (w:World) (hm:fd w.heap.size w a m) (hF:fk fs) (hR:bx fs m) :
  Calls Tryz.prog 123 #[.agg #[.slice a.Af m.F.length a.cf,.slice a.Ab m.B.length a.cb,.slice a.Ai m.I.length a.ci,.slice a.Ao m.out.length a.co,.int .i64 m.S,.int .i64 m.T]] w fun e w'=> ∃g:MA,True/\
   e= .returned (.tuple #[.agg #[.slice g.Af (ei m).F.length g.cf,.slice g.Ab (ei m).B.length g.cb,.slice g.Ai (ei m).I.length g.ci,.slice g.Ao (ei m).out.length g.co,.int .i64 (ei m).S,.int .i64 (ei m).T],.int .i64 0])/\Cw w.heap.size w [ap (.slice g.Af (ei m).F.length g.cf) (ei m).F,ap (.slice g.Ab (ei m).B.length g.cb) (ei m).B,ap (.slice g.Ai (ei m).I.length g.ci) (ei m).I,ap (.slice g.Ao (ei m).out.length g.co) (ei m).out] w':=by
 refine enter Tryz.func123 rfl Tryz.ntmps123 rfl<|aj ?_
 refine fun g1 _=>aj ?_
 refine fun g2 _=>aj ?_
 refine eQ rfl Tryz.call115 (fun w hw=>Fg fs a m w (fd.ro hw hm) hF hR) (fun g _=>aj ?_)
 intro w hw
 exact⟨g,trivial,rfl,hw.msub ms⟩
theorem CM {m:ar} (h:MI m):(js m).length<=1000000:=by
 have qi:=mZ h.i.1
 have qo:=mZ h.o.1
 have qb:=sP (f:=fD) m.B (fun l hl=>mZ (h.b.2 l hl).1)
 have qf:=sP (f:=gt) m.F (fun x hx=>wq (h.f.2 x hx))
 have hb:=h.b.1
 have hf:=h.f.1
 unfold js
 simp only[aS,aq]
 omega
theorem Ew {fs:List au} {m:ar} (hp:dU fs=0) (hF:fk fs) (hR:bx fs m):mm fs (js m)=0/\ze fs (js m)=m:=by
 have ht:=En (AC hF hR)
 have hE:mm fs (js m)=0:=by
  unfold mm
  rw[if_neg (fun e=>e hp),ht]
  exact pw.2 hR
 refine⟨hE,?_⟩
 unfold ze pq
 rw[if_pos hE,ht]
theorem Nj {B:Nat} {w0:World} {H:List aC} (gp gk:Nat) (vw vd:Value) (Ap:Option Addr) (cp:Nat) (fs:List au) (hs:br w0 B (.slice Ap fs.length cp) fs) (hp:dU fs=0) (hF:fk fs) (a:MA) (m:ar) (hR:bx fs m)
  (hm:fd B w0 a m) (w:World) (hw:Cw B w0 (am gp [.pointer (some ⟨gk,0,none⟩)] 110::am gk [vw,.slice Ap fs.length cp,vd] 112::H) w) :
  Calls Tryz.prog 124 #[.agg #[.slice a.Af m.F.length a.cf,.slice a.Ab m.B.length a.cb,.slice a.Ai m.I.length a.ci,.slice a.Ao m.out.length a.co,.int .i64 m.S,.int .i64 m.T],.pointer (some ⟨gp,0,none⟩)] w fun e w'=> ∃g:MA,True/\
   e= .returned (.tuple #[.agg #[.slice g.Af m.F.length g.cf,.slice g.Ab m.B.length g.cb,.slice g.Ai m.I.length g.ci,.slice g.Ao m.out.length g.co,.int .i64 m.S,.int .i64 m.T],.int .i64 0])/\Cw B w0 (ap (.slice g.Af m.F.length g.cf) m.F::ap (.slice g.Ab m.B.length g.cb) m.B::ap (.slice g.Ai m.I.length g.ci) m.I::ap (.slice g.Ao m.out.length g.co) m.out::am gp [.pointer (some ⟨gk,0,none⟩)] 110::am gk [vw,.slice Ap fs.length cp,vd] 112::H) w':=by
 obtain⟨hE,hm2⟩:=Ew hp hF hR
 have hmi:=AC hF hR
 have hil:=CM hmi
 have hrest:=fun w h=>Hy Ap cp fs (js m) m hm2 (by omega) w h
 rw[hE] at hrest
 refine aY Tryz.func124 rfl Tryz.ntmps124 rfl hw<|aj ?_
 refine fun g1 _=>aj ?_
 refine fun g2 _=>aj ?_
 refine dK [0,3,6,9,12,17,20,21,24,29,30] [] rfl [am g1 [.slice a.Af m.F.length a.cf,.slice a.Ab m.B.length a.cb,.slice a.Ai m.I.length a.ci,.slice a.Ao m.out.length a.co,.int .i64 m.S,.int .i64 m.T] 43,am gp [.pointer (some ⟨gk,0,none⟩)] 110,am gk [vw,.slice Ap fs.length cp,vd] 112]<|aj ?_
 refine kT rfl rfl Tryz.call118 (fun w hw=>EV a m w (hm.ro hw) hmi) ?_
 refine jJ rfl rfl Tryz.call60 (fun w hw=>hrest w (hw.ro hs)) (fun g _=>aj ?_)
 intro w hw
 exact⟨g,trivial,rfl,hw.msub ms⟩
theorem GT {α:Type} (X:List α) (c:α) (H Bx:List α):(X++c::(H++Bx)).Perm (X++(Bx++c::H)):=List.Perm.append_left X (show (c::H++Bx).Perm (Bx++c::H) from List.perm_append_comm)
theorem Oa {l:List ar} {m:ar} {i k:Nat} (hk:k<l.length) (h:k≠i):(l.set i m).take (k+1)=(l.set i m).take k++ [aw l k]:=by
 rw[ed _ k default (by rw[dp];exact hk),ak,nO,if_neg (by omega)]
 rfl
theorem Ob {l:List ar} {m:ar} {i:Nat} (hi:i<l.length):(l.set i m).take (i+1)=(l.set i m).take i++ [m]:=by
 rw[ed _ i default (by rw[dp];exact hi),ak,nO,if_pos rfl,if_pos hi]
 rfl
theorem zx {B:Nat} {w0:World} {H:List aC} (gk i:Nat) (Aw:Option Addr) (cw:Nat) (vp vd:Value) (fs:List au) (l:List ar) (m2:ar) (f:FuncId) (cap:Array Value) (hl:br w0 B (.slice Aw l.length cw) l) (hW:mz fs l) (hi:i<l.length) (hI2:aD m2.S/\aD m2.T)
  (hcall:∀a w,(callFunc f a).run Tryz.prog w= .ok (.enter f a) w)
  (hdo:∀(a:MA) (H':List aC) (w:World),fd B w0 a (aw l i)->Cw B w0 (am gk [.slice Aw l.length cw,vp,vd] 112::H++H') w->Calls Tryz.prog f (([.agg #[.slice a.Af (aw l i).F.length a.cf,.slice a.Ab (aw l i).B.length a.cb,.slice a.Ai (aw l i).I.length a.ci,.slice a.Ao (aw l i).out.length a.co,.int .i64 (aw l i).S,.int .i64 (aw l i).T]]:List Value)++cap.toList).toArray w fun e w'=> ∃g:MA,True/\
   e= .returned (.tuple #[.agg #[.slice g.Af m2.F.length g.cf,.slice g.Ab m2.B.length g.cb,.slice g.Ai m2.I.length g.ci,.slice g.Ao m2.out.length g.co,.int .i64 m2.S,.int .i64 m2.T],.int .i64 0])/\Cw B w0 (ap (.slice g.Af m2.F.length g.cf) m2.F::ap (.slice g.Ab m2.B.length g.cb) m2.B::ap (.slice g.Ai m2.I.length g.ci) m2.I::ap (.slice g.Ao m2.out.length g.co) m2.out::am gk [.slice Aw l.length cw,vp,vd] 112::H++H') w')
  (w:World) (hw:Cw B w0 (am gk [.slice Aw l.length cw,vp,vd] 112::H) w) :
  Calls Tryz.prog 122 #[.pointer (some ⟨gk,0,none⟩),.int .i64 (i:Int),.func (.func f) #[] cap] w fun e w'=> ∃q:Option Addr×Nat,True/\e= .returned (.tuple #[.agg #[.slice q.1 (l.set i m2).length q.2],.int .i64 0])/\Cw B w0 (ap (.slice q.1 (l.set i m2).length q.2) (l.set i m2)::am gk [.slice Aw l.length cw,vp,vd] 112::H) w':=by
 have bl:=bB hl
 have h4:=hW.n4
 have hll:(l.set i m2).length=l.length:=dp ..
 refine aY Tryz.func122 rfl Tryz.ntmps122 rfl hw<|aj ?_
 refine fun g1 _=>aj ?_
 refine fun g2 _=>aj ?_
 refine dC (fun w h=>Cw.nilO ar h) ?_
 refine dG (fun g:Nat×Option Addr×Nat=>g.1<=l.length) (fun g=>l.length - g.1) (fun g=> [(1,.int .i64 (i:Int)),(2,.func (.func f) #[] cap),(6,.pointer (some ⟨g1,0,none⟩)),(8,.pointer (some ⟨g2,0,none⟩)),(17,.slice Aw l.length cw),(18,.int .i64 (l.length:Int)),(19,.int .i64 (g.1:Int))]) (fun g=> [am g1 [.slice none 0 0] 27,am g2 [.slice g.2.1 ((l.set i m2).take g.1).length g.2.2] 27,ap (.slice g.2.1 ((l.set i m2).take g.1).length g.2.2) ((l.set i m2).take g.1)]++(am gk [.slice Aw l.length cw,vp,vd] 112::H)) (0,none,0) (bn _) ?_ (hh:=(fun _ h=>h.msub ms))
 rintro⟨k,A',c'⟩ hk
 try dsimp only
 have hk:k<=l.length:=hk
 have htl:((l.set i m2).take k).length=k:=by rw[ax];omega
 refine az (fun hlt=>?_) (fun hlt=>?_)
 ·have hkl:k<l.length:=by omega
  obtain⟨a,hm,hcell⟩:=hl.mc hkl
  have hI:=hW.i64 hkl
  refine gB (gz ?_)
  refine dD (fun _:Option Addr×Nat=>True) (fun _=> [(1,.int .i64 (i:Int)),(2,.func (.func f) #[] cap),(6,.pointer (some ⟨g1,0,none⟩)),(8,.pointer (some ⟨g2,0,none⟩)),(17,.slice Aw l.length cw),(18,.int .i64 (l.length:Int)),(19,.int .i64 (k:Int))]) (fun q=> [am g1 [.slice none 0 0] 27,am g2 [.slice q.1 ((l.set i m2).take (k+1)).length q.2] 27,ap (.slice q.1 ((l.set i m2).take (k+1)).length q.2) ((l.set i m2).take (k+1))]++(am gk [.slice Aw l.length cw,vp,vd] 112::H)) ?_ ?_
  ·refine aj ?_
   refine dB (_) rfl ((.ro hl)) ?_
   refine iQ rfl (hcell _)<|aj ?_
   refine fun g3 _=>bU (fun hki=>?_) (fun hki=>?_)
   ·have hki:k≠i:=by omega
    refine aj ?_
    refine dK [0,3,6,11,14,17,19,23] [5,6,7] rfl [am g2 [.slice A' ((l.set i m2).take k).length c'] 27,am g3 [.slice a.Af (aw l k).F.length a.cf,.slice a.Ab (aw l k).B.length a.cb,.slice a.Ai (aw l k).I.length a.ci,.slice a.Ao (aw l k).out.length a.co,.int .i64 (aw l k).S,.int .i64 (aw l k).T] 43]<|aj ?_
    refine jJ rfl rfl oq (fun w hw=>ko a (aw l k) w (hm.ro hw) (jt hW.f (hW.r _ (fP hkl)))) (fun ga _=>aj ?_)
    intro g4 _
    refine pE rfl (cT (α:=ar) (bytes:=112) (aw l k) [ap (.slice ga.Af (aw l k).F.length ga.cf) (aw l k).F,ap (.slice ga.Ab (aw l k).B.length ga.cb) (aw l k).B,ap (.slice ga.Ai (aw l k).I.length ga.ci) (aw l k).I,ap (.slice ga.Ao (aw l k).out.length ga.co) (aw l k).out] (Oa hkl hki) dZ (bJ ll) rfl (vQ fc fc fc fc fc fc) (oP hI) (by omega) (by omega) rfl rfl rfl) (fun⟨A5,c5⟩ _=>?_)
    refine aL ?_
    refine du (A5,c5) (trivial) (hh:=(fun _ h=>h.msub ms))
   obtain rfl:k=i:=by omega
   refine aj ?_
   refine oE (fO rfl rfl rfl hcall (fun w hw=>hdo a [am g1 [.slice none 0 0] 27,am g2 [.slice A' ((l.set k m2).take k).length c'] 27,ap (.slice A' ((l.set k m2).take k).length c') ((l.set k m2).take k),am g3 [.slice a.Af (aw l k).F.length a.cf,.slice a.Ab (aw l k).B.length a.cb,.slice a.Ai (aw l k).I.length a.ci,.slice a.Ao (aw l k).out.length a.co,.int .i64 (aw l k).S,.int .i64 (aw l k).T] 43] w hm (Cw.perm (show Cw B w0 ([am g1 [.slice none 0 0] 27,am g2 [.slice A' ((l.set k m2).take k).length c'] 27,ap (.slice A' ((l.set k m2).take k).length c') ((l.set k m2).take k),am g3 [.slice a.Af (aw l k).F.length a.cf,.slice a.Ab (aw l k).B.length a.cb,.slice a.Ai (aw l k).I.length a.ci,.slice a.Ao (aw l k).out.length a.co,.int .i64 (aw l k).S,.int .i64 (aw l k).T] 43]++(am gk [.slice Aw l.length cw,vp,vd] 112::H)) w from hw.msub ms) List.perm_append_comm))) (fun g _=>aj ?_)
   refine fun g5 _=>aj ?_
   refine di (t:=41) (v':= .bool false) rfl (rfl) ?_
   refine cB rfl<|gB (gz ?_)
   refine dC (fun w h=>h.perm (GT [_,_,_,_,_] _ H [am g1 [.slice none 0 0] 27,am g2 [.slice A' ((l.set k m2).take k).length c'] 27,ap (.slice A' ((l.set k m2).take k).length c') ((l.set k m2).take k),am g3 [.slice a.Af (aw l k).F.length a.cf,.slice a.Ab (aw l k).B.length a.cb,.slice a.Ai (aw l k).I.length a.ci,.slice a.Ao (aw l k).out.length a.co,.int .i64 (aw l k).S,.int .i64 (aw l k).T] 43]))<|aj ?_
   intro g6 _
   refine oE (cT (α:=ar) (bytes:=112) m2 [ap (.slice g.Af m2.F.length g.cf) m2.F,ap (.slice g.Ab m2.B.length g.cb) m2.B,ap (.slice g.Ai m2.I.length g.ci) m2.I,ap (.slice g.Ao m2.out.length g.co) m2.out] (Ob hi) dZ (bJ ll) rfl (vQ fc fc fc fc fc fc) (oP hI2) (by omega) (by omega) rfl rfl rfl) (fun⟨A5,c5⟩ _=>?_)
   refine aL ?_
   refine du (A5,c5) (trivial) (hh:=(fun _ h=>h.msub ms))
  rintro⟨A5,c5⟩ _
  refine aL ?_
  refine dw (k+1,A5,c5) (by show k+1<=_;omega) (by show _ - _<_ - _;omega) (hh:=(fun _ h=>h.msub ms))
 obtain rfl:k=l.length:=by omega
 rw[bg (by omega)]
 refine aj ?_
 intro w hw
 exact⟨(A',c'),trivial,rfl,hw.msub ms⟩
end
