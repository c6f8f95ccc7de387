/- Lemmas of one proof. -/
import Derived.Test.YthfkmcbblnbfaaaGreatDoorM0R
import Derived.Test.YthfkmcbblnbfaaaGreatDoorM43R
import Derived.Test.YthfkmcbblnbfaaaGreatDoorM44R

namespace Go.Proofs.YthfkmcbblnbfaaaGreatDoor
set_option maxRecDepth 100000
set_option maxHeartbeats 16000000
open Go.RowKit
section
def it (l:List Int):List UInt8:=aR l.length::l.flatMap eA
def iA (v:aC):List UInt8:=aR (if v.ref=true then 1 else 0)::eA v.n
def lK (l:List aC):List UInt8:=aR l.length::l.flatMap iA
def jK (x:aG):List UInt8:=aR x.func::aR x.pc::(lK x.L++lK x.K)
def qc (m:az):List UInt8:=
 aR m.S::aR m.T::(it m.I++(it m.out++(aR m.B.length::(m.B.flatMap it++(aR m.F.length::m.F.flatMap jK)))))
abbrev lF (α:Type):=List UInt8->Option (α×List UInt8)
def mi:lF Int
 | []=>none
 | b::l=>some ((b.toNat:Int),l)
def nC:lF Int:=fun s=>if s.length<4 then none else some (dJ (s.take 4),s.drop 4)
def gy {α:Type} (p:lF α):Nat->lF (List α)
 | 0,s=>some ([],s)
 | k+1,s=>match p s with
  | none=>none
  | some (x,r)=>match gy p k r with
   | none=>none
   | some (l,t)=>some (x::l,t)
def jH {α:Type} (p:lF α):lF (List α):=fun s=>match mi s with
 | none=>none
 | some (n,r)=>gy p n.toNat r
def mC:lF (List Int):=jH nC
def jE:lF aC:=fun s=>match mi s with
 | none=>none
 | some (n,r)=>if 1<n then none else match nC r with
  | none=>none
  | some (z,t)=>some (⟨decide (n=1),z⟩,t)
def pF:lF (List aC):=jH jE
def jL:lF aG:=fun s=>match mi s with
 | none=>none
 | some (f,s1)=>match mi s1 with
  | none=>none
  | some (p,s2)=>match pF s2 with
   | none=>none
   | some (l,s3)=>match pF s3 with
    | none=>none
    | some (t,s4)=>some (⟨f,p,l,t⟩,s4)
def mD:lF az:=fun s=>match mi s with
 | none=>none
 | some (st,s1)=>match mi s1 with
  | none=>none
  | some (tr,s2)=>match mC s2 with
   | none=>none
   | some (i,s3)=>match mC s3 with
    | none=>none
    | some (o,s4)=>match jH mC s4 with
     | none=>none
     | some (b,s5)=>match jH jL s5 with
      | none=>none
      | some (f,s6)=>some (⟨f,b,i,o,st,tr⟩,s6)
def ke (s:List UInt8):Option az:=match mD s with
 | none=>none
 | some (m,r)=>if r= [] then some m else none
structure PK (x:aG):Prop where
 f:0<=x.func/\x.func<=255
 p:0<=x.pc/\x.pc<=255
 l:x.L.length<=255/\∀v∈x.L,cd v.n=true
 s:x.K.length<=255/\∀v∈x.K,cd v.n=true
structure MI (m:az):Prop where
 s:0<=m.S/\m.S<=255
 t:0<=m.T/\m.T<=255
 i:m.I.length<=255/\∀n∈m.I,cd n=true
 o:m.out.length<=255/\∀n∈m.out,cd n=true
 b:m.B.length<=255/\∀l∈m.B,l.length<=255/\∀n∈l,cd n=true
 f:m.F.length<=255/\∀x∈m.F,PK x
theorem MK {s:List UInt8} {x:Int} {r:List UInt8} (h:mi s=some (x,r)):0<=x/\x<=255:=by
 cases s with
 | nil=>cases h
 | cons b l=>
  obtain⟨rfl,rfl⟩:(b.toNat:Int)=x/\l=r:=by simpa [mi] using h
  have:=b.toNat_lt
  omega
theorem zP {α:Type} {p:lF α} :∀k s x r,gy p k s=some (x,r)->x.length=k
 | 0,s,x,r,e=>by
  obtain⟨rfl,rfl⟩: []=x/\s=r:=by simpa [gy] using e
  rfl
 | k+1,s,x,r,e=>by
  unfold gy at e
  split at e
  ·cases e
  rename_i y t e1
  split at e
  ·cases e
  rename_i l u e2
  obtain⟨rfl,rfl⟩:y::l=x/\u=r:=by simpa using e
  rw[bd,zP k _ _ _ e2]
theorem Bw {nb:Nat} {v:aC} (hn:nb<=8) (h:eM nb v=true):cd v.n=true:=by
 unfold eM at h
 split at h
 ·have:=dN.1 h
  unfold cd
  simp only[db,decide_eq_true_eq]
  omega
 exact h
theorem IW {l:List (List Int)} {x:List Int} (h:x∈l):x.length<=cZ l:=by
 unfold cZ
 induction l with
 | nil=>cases h
 | cons y l ih=>
  rw[et,List.sum_cons]
  rcases dC.1 h with rfl | h
  ·omega
  have:=ih h
  omega
theorem JE {fs:List au} {l:List aG} {i:Nat} {t:List Int} (h:ig fs l i=some t):∃t',fy fs (ji fs l i) (aN l i).pc=some t':=by
 unfold ig at h
 split at h
 ·exact⟨t,h⟩
 split at h
 ·cases h
 split at h
 ·cases h
 cases h5:fy fs (ji fs l i) (aN l i).pc with
 | none=>rw[h5] at h;cases h
 | some t'=>exact⟨t',rfl⟩
theorem LC {fs:List au} (hF:gu fs) {m:az} (h:dL fs m) {i:Nat} (hi:i<m.F.length):PK (aN m.F i):=by
 obtain⟨t,hw,hl,hs⟩:=h.fr i hi
 obtain⟨t',he⟩:=JE hw
 have hz:=h.fn _ (fE hi)
 have hk:(aN m.F i).func.toNat<fs.length:=by omega
 have h5:fs.length<=5:=by
  have:=hF.p
  unfold cW at this
  split at this
  ·cases this
  split at this
  ·cases this
  omega
 obtain⟨p0,p1,_⟩:=(hF.e _ hk).at_ _ _ he
 have h40:=(jM hF.p hk).1.n40
 have h6:=(kJ ((iz hF.p).2.2 _ (jp hk))).1
 have hb:=(fZ h.bl).1
 have hsm:=(wD hF h hi).1
 have hll:=hl.len
 unfold ji at hll
 exact⟨by omega,by omega,⟨by omega,fun v hv=>Bw hb (hl.val v hv)⟩,⟨by omega,fun v hv=>Bw hb (hs.val v hv)⟩⟩
theorem B0 {fs:List au} (hF:gu fs) {m:az} (h:dL fs m):MI m where
 s:=by have:=h.st;omega
 t:=by
  by_cases e:m.S=3
  ·have:=h.t3 e;omega
  have:=h.t0 e;omega
 i:=⟨by have:=h.ib;omega,h.ii⟩
 o:=⟨by have:=h.ob;omega,h.oi⟩
 b:=by
  obtain⟨h1,h2,h3⟩:=kZ h.bl
  refine⟨by omega,fun l hl=>⟨by have:=IW hl;omega,fun n hn=>?_⟩⟩
  refine gP fun hno=>?_
  have:m.B.any dq=true:=cG.2 ⟨l,hl,by unfold dq;exact cG.2 ⟨n,hn,by simpa using hno⟩⟩
  rw[h3] at this
  cases this
 f:=by
  refine⟨by have:=h.n6;omega,fun x hx=>?_⟩
  obtain⟨i,hi,rfl⟩:=cg hx
  have:=LC hF h hi
  unfold aN at this
  rwa [an,ap hi] at this
end
section
theorem Og {B:Nat} {w0:World} {Ap:Option Addr} {cp:Nat} {fs:List au} (hs:bJ w0 B (.slice Ap fs.length cp) fs) {a:MA} {m:az} (hm:dS B w0 a m) (hF:gu fs) (hR:dL fs m) (hst:¬(m.S=2\/m.S=3)) {li0:List aG} {x:aG} (hfr:m.F=li0++ [x]) {li:List (aB×aG)} (hli:li.map Prod.snd=li0) (hok:gZ li) {k:Nat} (hk:li0.length=k) :
  ∃kf:Nat,x.func=kf/\kf<fs.length/\(0<=x.pc/\x.pc<=1000)/\mh B w0 fs m a li k Ap cp x.func x.pc (x.pc+1) x.L x.K (bB fs m) (aq fs kf).result:=by
 obtain⟨li1,x1,kf,hS⟩:=tK hs hF hR hst
 have e1:li1=li0/\x1=x:=by
  have h:=hS.fr.symm.trans hfr
  obtain⟨h1,h2⟩:=List.append_inj' h rfl
  exact⟨h1,by simpa using h2⟩
 obtain⟨rfl,rfl⟩:=e1
 have hlk:li.length=k:=by rw[<-hk,<-hli,aQ]
 have htop:gY m=x1:=by unfold gY;rw[hfr];simp
 have hop:bB fs m=bx (aq fs kf).C x1.pc.toNat:=by unfold bB;rw[htop,hS.fn];rfl
 obtain⟨_,_,_,_,_,_,⟨hi,hj⟩,_⟩:=hm.f.fr (k:=li1.length) (by rw[hfr];simp)
 have hfe:aN m.F li1.length=x1:=by rw[hfr];exact lW
 rw[hfe] at hi hj
 have hI:=LC hF hR (i:=li1.length) (by rw[hfr];simp)
 rw[hfe] at hI
 have hcl:=hS.cl
 refine⟨kf,hS.fn,hS.hkf,by have:=hS.pc;omega,⟨hlk,hok,hs,hm,pM hF hR,hop▸hS.nd,hS.bl,hS.sl,hS.ol,by have:=hS.n6;omega,fun q hq=>hS.st q.2 (by rw[<-hli];exact qt hq),hop▸hS.oa,⟨hi,hj,by have:=hS.pc;unfold aH;omega⟩,fun v hv=>oo (hI.s.2 v hv),fun v hv=>oo (hI.l.2 v hv),hm.s,⟨by rw[hS.fn];omega,by rw[hS.fn];exact_mod_cast hS.hkf,by rw[hS.fn];rfl,?_⟩,by rw[hfr,ar,hk];rfl,?_,rfl,by rw[hli];exact hfr,by have:=hR.ib;omega,fun z hz=>oo (hR.ii z hz),fun v hv=>by have:=hI.s.2 v hv;unfold cd at this;simp only[db,decide_eq_true_eq] at this;omega⟩⟩
 ·have:=(kJ ((iz hF.p).2.2 _ (jp hS.hkf))).2.2.1
  omega
 intro hc
 have ht:=hR.top hfr
 obtain⟨_,_,t,he,hty⟩:=ht
 have hkz:x1.func.toNat<fs.length:=by rw[hS.fn];simpa using hS.hkf
 obtain⟨T,V,e,hT,hTy,_⟩:=pR hF hkz he hty
 have hop2:bx (aq fs x1.func.toNat).C x1.pc.toNat=bB fs m:=by rw[hop,hS.fn];rfl
 rw[hop2] at e
 simp[tl,hc] at e
 obtain⟨rfl,rfl⟩:=e
 have h1:1<=x1.K.length:=hT
 have h2:=eB.top hTy h1
 exact(I5 (h2.cell (k:=0) rfl rfl (by show 0<1;decide))).2
structure Ri where
 s:List aC
 As:Option Addr
 cs:Nat
 l:List aC
 b:List (List Int)
 Ab:Option Addr
 cb:Nat
 i:List Int
 Ai:Option Addr
 ci:Nat
 o:List Int
 Ao:Option Addr
 co:Nat
 st:Int
 nx:Int
theorem DB (Ap:Option Addr) (cp:Nat) (fs:List au) (a:MA) (m m2:az) (hm2:eX fs m=m2) (w:World) (hs:Sl w (.slice Ap fs.length cp) fs) (hm:dS w.heap.size w a m) (hF:gu fs) (hR:dL fs m) :
  Calls Tryz.prog 51 #[.agg #[.slice Ap fs.length cp],.agg #[.slice a.Af m.F.length a.cf,.slice a.Ab m.B.length a.cb,.slice a.Ai m.I.length a.ci,.slice a.Ao m.out.length a.co,.int .i64 m.S,.int .i64 m.T]] w fun e w'=> ∃g:MA,True/\
   e= .returned (.agg #[.slice g.Af m2.F.length g.cf,.slice g.Ab m2.B.length g.cb,.slice g.Ai m2.I.length g.ci,.slice g.Ao m2.out.length g.co,.int .i64 m2.S,.int .i64 m2.T])/\
   Cw w.heap.size w [ak (.slice g.Af m2.F.length g.cf) m2.F,ak (.slice g.Ab m2.B.length g.cb) m2.B,ak (.slice g.Ai m2.I.length g.ci) m2.I,ak (.slice g.Ao m2.out.length g.co) m2.out] w':=by
 have hfit:=pM hF hR
 have hstt:=hR.st
 have bp:=bE hs
 refine enter Tryz.func51 rfl Tryz.ntmps51 rfl<|aj ?_
 refine fun g1 _=>aj ?_
 refine fun g2 _=>aj ?_
 refine fun g3 _=>av (fun h2=>?_) (fun h2=>?_)
 ·have h2:1<m.S:=h2
  obtain rfl:m=m2:=by rw[<-hm2];unfold eX;rw[if_pos (by omega)]
  refine aj ?_
  refine eb rfl jB (fun w hw=>sf a m w (hm.ro hw) hfit) (fun ga _=>aj ?_)
  intro w hw
  exact⟨ga,trivial,rfl,hw.msub ms⟩
 have h2:¬1<m.S:=h2
 have hst:¬(m.S=2\/m.S=3):=by omega
 have hne:m.F≠[]:=fun e=>by have:=hR.dn.1 e;omega
 obtain⟨li0,x,hfr⟩:∃li x,m.F=li++ [x]:=by
  rcases fj m.F with h1 | ⟨l,z,h1⟩
  ·exact absurd h1 hne
  exact⟨l,z,by rw[h1];simp⟩
 obtain⟨k,hk⟩:∃k,li0.length=k:=⟨_,rfl⟩
 have hkm:m.F.length=k+1:=by rw[hfr,ar,hk];rfl
 have hkx:(li0++ [x]).length=k+1:=by rw[ar,hk];rfl
 refine aj ?_
 refine eb rfl jB (fun w hw=>sf a m w (hm.ro hw) hfit) (fun⟨A,c,Ab,cb,Ai,ci,Ao,co⟩ _=>?_)
 refine aO ?_
 intro g4 _
 refine dr (cV _ fc cX rfl rfl rfl rfl rfl (by rfl) rfl (by rfl)) rfl rfl (fun _ _=>?_)
 refine bH<|dK (H':= [ak (.slice A (li0++ [x]).length c) (li0++ [x]),ak (.slice Ab m.B.length cb) m.B,ak (.slice Ai m.I.length ci) m.I,ak (.slice Ao m.out.length co) m.out,am g4 [.slice A (k+1) c,.slice Ab m.B.length cb,.slice Ai m.I.length ci,.slice Ao m.out.length co,.int .i64 m.S,.int .i64 m.T] 43,am g3 [.slice none 0 0,.slice none 0 0,.slice none 0 0,.slice none 0 0,.int .i64 0,.int .i64 0] 43,am g2 [.slice a.Af m.F.length a.cf,.slice a.Ab m.B.length a.cb,.slice a.Ai m.I.length a.ci,.slice a.Ao m.out.length a.co,.int .i64 m.S,.int .i64 m.T] 43,am g1 [.slice Ap fs.length cp] 24]) (fun w h=>by rw[<-hkm,<-hfr];exact h.msub ms) ?_
 refine Fe fc fun li Al As cl cs hli hok=>?_
 rw[hkx]
 obtain⟨kf,hfn,hkf,hpc,R⟩:=Og hs hm hF hR hst hfr hli hok hk
 have hlm:(li.map Prod.fst).length=k:=by rw[aQ];exact R.hk
 obtain⟨A1,d1,A2,d2,hl1,hl2,hi,hcell⟩:=hs.fn hkf
 have hk6:=R.k6
 refine aj ?_
 refine bh (t:=39) (v':= .int .i64 (k:Int)) rfl (by congr 1;omega) ?_
 refine cS (k) rfl ((SF.own (xs:=li.map Prod.fst++ [(⟨x.func,x.pc,.slice Al x.L.length cl,.slice As x.K.length cs⟩:aB)]) (by rw[ar,hlm];rfl) fc))<|aj ?_
 refine bX rfl Tryz.call108 (fun w hw=>Kk Ap cp fs a m w (hw.ro hs) (hm.ro hw) hF hR hne)<|aj ?_
 refine fun g5 _=>aj ?_
 refine bz [0,3,6,9,12,15,18,21,26,29] [9] rfl<|aj ?_
 refine tE rfl (bQ (fw (j:=0) hlm fc rfl) rfl rfl be) ?_
 refine cC (t:=49) (v':= .int .i64 (kf:Int)) rfl (by rw[hfn]) ?_
 refine tE rfl (bg (k:=kf) eC eK (.ro hs) (by omega) rfl rfl rfl) ?_
 refine tE rfl (eF (hcell _) rfl rfl wN eK)<|aj ?_
 refine fun g6 _=>aj ?_
 refine eH rfl (fw (j:=3) hlm fc rfl)<|aj ?_
 refine fun g7 _=>aj ?_
 refine fun g8 _=>aj ?_
 refine eH rfl (fw (j:=1) hlm fc rfl) ?_
 refine bh (t:=62) (v':= .int .i64 x.pc) rfl (rfl) ?_
 refine dT (rs rfl rfl rfl (by omega)) rfl rfl<|ay ?_
 refine bH<|cc<|cc<|bO<|ay ?_
 refine dT (cE fc be rfl rfl (by rfl)) rfl rfl ?_
 refine bH ?_
 have hT:(bB fs m).c≠21->lL fs m=bN fs m (li.map Prod.snd) ⟨x.func,x.pc+1,x.L,x.K⟩ (bB fs m):=fun h=>by
  unfold lL
  have e1:gY m=x:=by unfold gY;rw[hfr];simp
  rw[if_neg h,e1,hfr,List.dropLast_concat,<-hli]
 have hinl:(bB fs m).c≠21->∀y:az,(∃why,bN fs m (li.map Prod.snd) ⟨x.func,x.pc+1,x.L,x.K⟩ (bB fs m)= .inl why/\y= {m with S:=3,T:=why})->m2=y:=fun h y ⟨why,h3,h4⟩=>by
  rw[<-hm2,zv (by omega) (by omega) ((hT h).trans h3),h4]
 have hinr:(bB fs m).c≠21->∀y:az,bN fs m (li.map Prod.snd) ⟨x.func,x.pc+1,x.L,x.K⟩ (bB fs m)= .inr y->m2=y:=fun h y h3=>by
  rw[<-hm2,qA (by omega) (by omega) ((hT h).trans h3)]
 have h21:(bB fs m).c=21->m.I≠[]->m2=⟨li.map Prod.snd++ [⟨x.func,x.pc+1,x.L,x.K++ [cA (m.I.getD 0 0)]⟩],m.B,m.I.drop 1,m.out,0,m.T⟩:=fun h hi=>by
  have e1:gY m=x:=by unfold gY;rw[hfr];simp
  rw[<-hm2]
  refine qA (by omega) (by omega) ?_
  unfold lL
  rw[if_pos h,if_neg hi,e1,hfr,List.dropLast_concat,<-hli]
 have h21n:(bB fs m).c=21->m.I= []->m2= {m with S:=1} :=fun h hi=>by
  rw[<-hm2]
  refine qA (by omega) (by omega) ?_
  unfold lL
  rw[if_pos h,if_pos hi]
 refine iQ (fun g:Ri=>(aH g.nx/\aH g.st)/\m2=⟨li.map Prod.snd++ [⟨x.func,g.nx,g.l,g.s⟩],g.b,g.i,g.o,g.st,m.T⟩) (fun g=> [(4,.pointer (some ⟨g3,0,none⟩)),(5,.pointer (some ⟨g4,0,none⟩)),(6,.pointer (some ⟨ab A,ao A+k*4,none⟩)),(9,.pointer (some ⟨g7,0,none⟩)),(13,.int .i64 g.nx)]) (fun g=> [am g7 [.slice g.As g.s.length g.cs] 116,ak (.slice g.As g.s.length g.cs) g.s,am g3 [.slice none 0 0,.slice none 0 0,.slice none 0 0,.slice none 0 0,.int .i64 0,.int .i64 0] 43,am g4 [.slice A (k+1) c,.slice g.Ab g.b.length g.cb,.slice g.Ai g.i.length g.ci,.slice g.Ao g.o.length g.co,.int .i64 g.st,.int .i64 m.T] 43,ak (.slice A (k+1) c) (li.map Prod.fst++ [(⟨x.func,x.pc,.slice Al g.l.length cl,.slice As x.K.length cs⟩:aB)]),ak (.slice Al g.l.length cl) g.l,cM li,ak (.slice g.Ab g.b.length g.cb) g.b,ak (.slice g.Ai g.i.length g.ci) g.i,ak (.slice g.Ao g.o.length g.co) g.o]) ?_ ?_
 ·refine av (fun c1=>?_) (fun c1=>?_)
  ·have c1:(bB fs m).c=1:=c1
   refine iy (QQ g1 g2 g3 g4 g5 g6 g7 g8 k li A Al As Ap Ab Ai Ao c cl cs cp cb ci co a m x.func x.pc (x.pc+1) (aq fs kf).result x.L x.K (bB fs m) fs [.slice none 0 0,.slice none 0 0,.slice none 0 0,.slice none 0 0,.int .i64 0,.int .i64 0] (.int .i64 (aq fs kf).params) (.slice A1 (aq fs kf).L.length d1) (.slice A2 (aq fs kf).C.length d2) R c1 (fun s' As' cs' l' b' Ab' cb' i' Ai' ci' o' Ao' co' st' nx hI hd=>?_)) ⟨rfl,rfl,rfl,rfl,rfl,rfl,rfl,trivial⟩ me
   refine(eW ?_)
   refine bS ⟨s',As',cs',l',b',Ab',cb',i',Ai',ci',o',Ao',co',st',nx⟩ (⟨hI,hinr (by omega) _ hd⟩)
  have c1:¬(bB fs m).c=1:=c1
  refine av (fun c2=>?_) (fun c2=>?_)
  ·have c2:(bB fs m).c=2:=c2
   refine iy (QP g1 g2 g3 g4 g5 g6 g7 g8 k li A Al As Ap Ab Ai Ao c cl cs cp cb ci co a m x.func x.pc (x.pc+1) (aq fs kf).result x.L x.K (bB fs m) fs [.slice none 0 0,.slice none 0 0,.slice none 0 0,.slice none 0 0,.int .i64 0,.int .i64 0] (.int .i64 (aq fs kf).params) (.slice A1 (aq fs kf).L.length d1) (.slice A2 (aq fs kf).C.length d2) R c2 (fun s' As' cs' l' b' Ab' cb' i' Ai' ci' o' Ao' co' st' nx hI hd=>?_)) ⟨rfl,rfl,rfl,rfl,rfl,rfl,trivial⟩ me
   refine(eW ?_)
   refine bS ⟨s',As',cs',l',b',Ab',cb',i',Ai',ci',o',Ao',co',st',nx⟩ (⟨hI,hinr (by omega) _ hd⟩)
  have c2:¬(bB fs m).c=2:=c2
  refine av (fun c3=>?_) (fun c3=>?_)
  ·have c3:(bB fs m).c=3:=c3
   refine iy (QO g1 g2 g3 g4 g5 g6 g7 g8 k li A Al As Ap Ab Ai Ao c cl cs cp cb ci co a m x.func x.pc (x.pc+1) (aq fs kf).result x.L x.K (bB fs m) fs [.slice none 0 0,.slice none 0 0,.slice none 0 0,.slice none 0 0,.int .i64 0,.int .i64 0] (.int .i64 (aq fs kf).params) (.slice A1 (aq fs kf).L.length d1) (.slice A2 (aq fs kf).C.length d2) R c3 (fun s' As' cs' l' b' Ab' cb' i' Ai' ci' o' Ao' co' st' nx hI hd=>?_)) ⟨rfl,rfl,rfl,rfl,rfl,rfl,trivial⟩ me
   refine(eW ?_)
   refine bS ⟨s',As',cs',l',b',Ab',cb',i',Ai',ci',o',Ao',co',st',nx⟩ (⟨hI,hinr (by omega) _ hd⟩)
  have c3:¬(bB fs m).c=3:=c3
  refine av (fun c4=>?_) (fun c4=>?_)
  ·have c4:(bB fs m).c=4:=c4
   refine iy (QN g1 g2 g3 g4 g5 g6 g7 g8 k li A Al As Ap Ab Ai Ao c cl cs cp cb ci co a m x.func x.pc (x.pc+1) (aq fs kf).result x.L x.K (bB fs m) fs [.slice none 0 0,.slice none 0 0,.slice none 0 0,.slice none 0 0,.int .i64 0,.int .i64 0] (.int .i64 (aq fs kf).params) (.slice A1 (aq fs kf).L.length d1) (.slice A2 (aq fs kf).C.length d2) R c4 (fun s' As' cs' l' b' Ab' cb' i' Ai' ci' o' Ao' co' st' nx hI hd=>?_)) ⟨rfl,rfl,rfl,rfl,rfl,rfl,trivial⟩ me
   refine(eW ?_)
   refine bS ⟨s',As',cs',l',b',Ab',cb',i',Ai',ci',o',Ao',co',st',nx⟩ (⟨hI,hinr (by omega) _ hd⟩)
  have c4:¬(bB fs m).c=4:=c4
  refine av (fun c5=>?_) (fun c5=>?_)
  ·have c5:(bB fs m).c=5:=c5
   refine iy (QM g1 g2 g3 g4 g5 g6 g7 g8 k li A Al As Ap Ab Ai Ao c cl cs cp cb ci co a m x.func x.pc (x.pc+1) (aq fs kf).result x.L x.K (bB fs m) fs [.slice none 0 0,.slice none 0 0,.slice none 0 0,.slice none 0 0,.int .i64 0,.int .i64 0] (.int .i64 (aq fs kf).params) (.slice A1 (aq fs kf).L.length d1) (.slice A2 (aq fs kf).C.length d2) R c5 (fun s' As' cs' l' b' Ab' cb' i' Ai' ci' o' Ao' co' st' nx hI hd=>?_)) ⟨rfl,rfl,rfl,rfl,rfl,rfl,rfl,trivial⟩ me
   refine(eW ?_)
   refine bS ⟨s',As',cs',l',b',Ab',cb',i',Ai',ci',o',Ao',co',st',nx⟩ (⟨hI,hinr (by omega) _ hd⟩)
  have c5:¬(bB fs m).c=5:=c5
  refine av (fun c6=>?_) (fun c6=>?_)
  ·have c6:(bB fs m).c=6:=c6
   refine iy (QL g1 g2 g3 g4 g5 g6 g7 g8 k li A Al As Ap Ab Ai Ao c cl cs cp cb ci co a m x.func x.pc (x.pc+1) (aq fs kf).result x.L x.K (bB fs m) fs [.slice none 0 0,.slice none 0 0,.slice none 0 0,.slice none 0 0,.int .i64 0,.int .i64 0] (.int .i64 (aq fs kf).params) (.slice A1 (aq fs kf).L.length d1) (.slice A2 (aq fs kf).C.length d2) R c6 (fun s' As' cs' l' b' Ab' cb' i' Ai' ci' o' Ao' co' st' nx hI hd=>?_)) ⟨rfl,rfl,rfl,rfl,rfl,rfl,rfl,trivial⟩ me
   refine(eW ?_)
   refine bS ⟨s',As',cs',l',b',Ab',cb',i',Ai',ci',o',Ao',co',st',nx⟩ (⟨hI,hinr (by omega) _ hd⟩)
  have c6:¬(bB fs m).c=6:=c6
  refine av (fun c7=>?_) (fun c7=>?_)
  ·have c7:(bB fs m).c=7:=c7
   refine iy (QK g1 g2 g3 g4 g5 g6 g7 g8 k li A Al As Ap Ab Ai Ao c cl cs cp cb ci co a m x.func x.pc (x.pc+1) (aq fs kf).result x.L x.K (bB fs m) fs [.slice none 0 0,.slice none 0 0,.slice none 0 0,.slice none 0 0,.int .i64 0,.int .i64 0] (.int .i64 (aq fs kf).params) (.slice A1 (aq fs kf).L.length d1) (.slice A2 (aq fs kf).C.length d2) R c7 (fun s' As' cs' l' b' Ab' cb' i' Ai' ci' o' Ao' co' st' nx hI hd=>?_)) ⟨rfl,rfl,rfl,rfl,rfl,rfl,rfl,trivial⟩ me
   refine(eW ?_)
   refine bS ⟨s',As',cs',l',b',Ab',cb',i',Ai',ci',o',Ao',co',st',nx⟩ (⟨hI,hinr (by omega) _ hd⟩)
  have c7:¬(bB fs m).c=7:=c7
  refine av (fun c8=>?_) (fun c8=>?_)
  ·have c8:(bB fs m).c=8:=c8
   refine iy (QJ g1 g2 g3 g4 g5 g6 g7 g8 k li A Al As Ap Ab Ai Ao c cl cs cp cb ci co a m x.func x.pc (x.pc+1) (aq fs kf).result x.L x.K (bB fs m) fs [.slice none 0 0,.slice none 0 0,.slice none 0 0,.slice none 0 0,.int .i64 0,.int .i64 0] (.int .i64 (aq fs kf).params) (.slice A1 (aq fs kf).L.length d1) (.slice A2 (aq fs kf).C.length d2) R c8 (fun s' As' cs' l' b' Ab' cb' i' Ai' ci' o' Ao' co' st' nx hI hd=>?_)) ⟨rfl,rfl,rfl,rfl,rfl,rfl,trivial⟩ me
   refine(eW ?_)
   refine bS ⟨s',As',cs',l',b',Ab',cb',i',Ai',ci',o',Ao',co',st',nx⟩ (⟨hI,hinr (by omega) _ hd⟩)
  have c8:¬(bB fs m).c=8:=c8
  refine av (fun c9=>?_) (fun c9=>?_)
  ·have c9:(bB fs m).c=9:=c9
   refine iy (QI g1 g2 g3 g4 g5 g6 g7 g8 k li A Al As Ap Ab Ai Ao c cl cs cp cb ci co a m x.func x.pc (x.pc+1) (aq fs kf).result x.L x.K (bB fs m) fs [.slice none 0 0,.slice none 0 0,.slice none 0 0,.slice none 0 0,.int .i64 0,.int .i64 0] (.int .i64 (aq fs kf).params) (.slice A1 (aq fs kf).L.length d1) (.slice A2 (aq fs kf).C.length d2) R c9 (fun s' As' cs' l' b' Ab' cb' i' Ai' ci' o' Ao' co' st' nx hI hd=>?_)) ⟨rfl,rfl,rfl,rfl,rfl,rfl,rfl,trivial⟩ me
   refine(eW ?_)
   refine bS ⟨s',As',cs',l',b',Ab',cb',i',Ai',ci',o',Ao',co',st',nx⟩ (⟨hI,hinr (by omega) _ hd⟩)
  have c9:¬(bB fs m).c=9:=c9
  refine av (fun c10=>?_) (fun c10=>?_)
  ·have c10:(bB fs m).c=10:=c10
   refine iy (P3 g1 g2 g3 g4 g5 g6 g7 g8 k li A Al As Ap Ab Ai Ao c cl cs cp cb ci co a m x.func x.pc (x.pc+1) (aq fs kf).result x.L x.K (bB fs m) fs [.slice none 0 0,.slice none 0 0,.slice none 0 0,.slice none 0 0,.int .i64 0,.int .i64 0] (.int .i64 (aq fs kf).params) (.slice A1 (aq fs kf).L.length d1) (.slice A2 (aq fs kf).C.length d2) R c10 (fun s' As' cs' l' b' Ab' cb' i' Ai' ci' o' Ao' co' st' nx hI hd=>?_)) ⟨rfl,rfl,rfl,rfl,rfl,trivial⟩ me
   refine(eW ?_)
   refine bS ⟨s',As',cs',l',b',Ab',cb',i',Ai',ci',o',Ao',co',st',nx⟩ (⟨hI,hinr (by omega) _ hd⟩)
  have c10:¬(bB fs m).c=10:=c10
  refine av (fun c11=>?_) (fun c11=>?_)
  ·have c11:(bB fs m).c=11:=c11
   refine iy (P2 g1 g2 g3 g4 g5 g6 g7 g8 k li A Al As Ap Ab Ai Ao c cl cs cp cb ci co a m x.func x.pc (x.pc+1) (aq fs kf).result x.L x.K (bB fs m) fs [.slice none 0 0,.slice none 0 0,.slice none 0 0,.slice none 0 0,.int .i64 0,.int .i64 0] (.int .i64 (aq fs kf).params) (.slice A1 (aq fs kf).L.length d1) (.slice A2 (aq fs kf).C.length d2) R c11 (fun s' As' cs' l' b' Ab' cb' i' Ai' ci' o' Ao' co' st' nx hI hd=>?_)) ⟨rfl,rfl,rfl,rfl,rfl,rfl,rfl,trivial⟩ me
   refine(eW ?_)
   refine bS ⟨s',As',cs',l',b',Ab',cb',i',Ai',ci',o',Ao',co',st',nx⟩ (⟨hI,hinr (by omega) _ hd⟩)
  have c11:¬(bB fs m).c=11:=c11
  refine av (fun c12=>?_) (fun c12=>?_)
  ·have c12:(bB fs m).c=12:=c12
   refine iy (P1 g1 g2 g3 g4 g5 g6 g7 g8 k li A Al As Ap Ab Ai Ao c cl cs cp cb ci co a m x.func x.pc (x.pc+1) (aq fs kf).result x.L x.K (bB fs m) fs [.slice none 0 0,.slice none 0 0,.slice none 0 0,.slice none 0 0,.int .i64 0,.int .i64 0] (.int .i64 (aq fs kf).params) (.slice A1 (aq fs kf).L.length d1) (.slice A2 (aq fs kf).C.length d2) R c12 rfl (fun y g hy=>?_) (fun y g hy=>?_)) ⟨rfl,rfl,rfl,rfl,rfl,rfl,rfl,rfl,rfl,trivial⟩ me
   ·obtain rfl:m2=y:=hinl (by omega) y hy
    refine(kW (eL ?_))
    refine jP lr ?_
    intro w hw
    exact⟨g,trivial,rfl,hw.msub ms⟩
   obtain rfl:m2=y:=hinr (by omega) y hy
   refine(kW (eL ?_))
   refine jP lr ?_
   intro w hw
   exact⟨g,trivial,rfl,hw.msub ms⟩
  have c12:¬(bB fs m).c=12:=c12
  refine av (fun c13=>?_) (fun c13=>?_)
  ·have c13:(bB fs m).c=13:=c13
   refine iy (P0 g1 g2 g3 g4 g5 g6 g7 g8 k li A Al As Ap Ab Ai Ao c cl cs cp cb ci co a m x.func x.pc (x.pc+1) (aq fs kf).result x.L x.K (bB fs m) fs [.slice none 0 0,.slice none 0 0,.slice none 0 0,.slice none 0 0,.int .i64 0,.int .i64 0] (.int .i64 (aq fs kf).params) (.slice A1 (aq fs kf).L.length d1) (.slice A2 (aq fs kf).C.length d2) R c13 rfl (fun y g hy=>?_)) ⟨rfl,rfl,rfl,rfl,rfl,trivial⟩ me
   ·obtain rfl:m2=y:=hinr (by omega) y hy
    refine(kW (eL ?_))
    refine jP lr ?_
    intro w hw
    exact⟨g,trivial,rfl,hw.msub ms⟩
  have c13:¬(bB fs m).c=13:=c13
  refine av (fun c14=>?_) (fun c14=>?_)
  ·have c14:(bB fs m).c=14:=c14
   refine iy (PZ g1 g2 g3 g4 g5 g6 g7 g8 k li A Al As Ap Ab Ai Ao c cl cs cp cb ci co a m x.func x.pc (x.pc+1) (aq fs kf).result x.L x.K (bB fs m) fs [.slice none 0 0,.slice none 0 0,.slice none 0 0,.slice none 0 0,.int .i64 0,.int .i64 0] (.int .i64 (aq fs kf).params) (.slice A1 (aq fs kf).L.length d1) (.slice A2 (aq fs kf).C.length d2) R c14 rfl (fun s' As' cs' l' b' Ab' cb' i' Ai' ci' o' Ao' co' st' nx hI hd=>?_) (fun y g hy=>?_)) ⟨rfl,rfl,rfl,rfl,rfl,rfl,rfl,trivial⟩ me
   ·refine(eW ?_)
    refine bS ⟨s',As',cs',l',b',Ab',cb',i',Ai',ci',o',Ao',co',st',nx⟩ (⟨hI,hinr (by omega) _ hd⟩)
   obtain rfl:m2=y:=hinl (by omega) y hy
   refine(kW (eL ?_))
   refine jP lr ?_
   intro w hw
   exact⟨g,trivial,rfl,hw.msub ms⟩
  have c14:¬(bB fs m).c=14:=c14
  refine av (fun c15=>?_) (fun c15=>?_)
  ·have c15:(bB fs m).c=15:=c15
   refine iy (PY g1 g2 g3 g4 g5 g6 g7 g8 k li A Al As Ap Ab Ai Ao c cl cs cp cb ci co a m x.func x.pc (x.pc+1) (aq fs kf).result x.L x.K (bB fs m) fs [.slice none 0 0,.slice none 0 0,.slice none 0 0,.slice none 0 0,.int .i64 0,.int .i64 0] (.int .i64 (aq fs kf).params) (.slice A1 (aq fs kf).L.length d1) (.slice A2 (aq fs kf).C.length d2) R c15 rfl (fun s' As' cs' l' b' Ab' cb' i' Ai' ci' o' Ao' co' st' nx hI hd=>?_) (fun y g hy=>?_)) ⟨rfl,rfl,rfl,rfl,rfl,rfl,rfl,rfl,rfl,trivial⟩ me
   ·refine(eW ?_)
    refine bS ⟨s',As',cs',l',b',Ab',cb',i',Ai',ci',o',Ao',co',st',nx⟩ (⟨hI,hinr (by omega) _ hd⟩)
   obtain rfl:m2=y:=hinl (by omega) y hy
   refine(kW (eL ?_))
   refine jP lr ?_
   intro w hw
   exact⟨g,trivial,rfl,hw.msub ms⟩
  have c15:¬(bB fs m).c=15:=c15
  refine av (fun c16=>?_) (fun c16=>?_)
  ·have c16:(bB fs m).c=16:=c16
   refine iy (PX g1 g2 g3 g4 g5 g6 g7 g8 k li A Al As Ap Ab Ai Ao c cl cs cp cb ci co a m x.func x.pc (x.pc+1) (aq fs kf).result x.L x.K (bB fs m) fs [.slice none 0 0,.slice none 0 0,.slice none 0 0,.slice none 0 0,.int .i64 0,.int .i64 0] (.int .i64 (aq fs kf).params) (.slice A1 (aq fs kf).L.length d1) (.slice A2 (aq fs kf).C.length d2) R c16 rfl (fun s' As' cs' l' b' Ab' cb' i' Ai' ci' o' Ao' co' st' nx hI hd=>?_) (fun y g hy=>?_)) ⟨rfl,rfl,rfl,rfl,rfl,rfl,rfl,rfl,trivial⟩ me
   ·refine(eW ?_)
    refine bS ⟨s',As',cs',l',b',Ab',cb',i',Ai',ci',o',Ao',co',st',nx⟩ (⟨hI,hinr (by omega) _ hd⟩)
   obtain rfl:m2=y:=hinl (by omega) y hy
   refine(kW (eL ?_))
   refine jP lr ?_
   intro w hw
   exact⟨g,trivial,rfl,hw.msub ms⟩
  have c16:¬(bB fs m).c=16:=c16
  refine av (fun c17=>?_) (fun c17=>?_)
  ·have c17:(bB fs m).c=17:=c17
   refine iy (PW g1 g2 g3 g4 g5 g6 g7 g8 k li A Al As Ap Ab Ai Ao c cl cs cp cb ci co a m x.func x.pc (x.pc+1) (aq fs kf).result x.L x.K (bB fs m) fs [.slice none 0 0,.slice none 0 0,.slice none 0 0,.slice none 0 0,.int .i64 0,.int .i64 0] (.int .i64 (aq fs kf).params) (.slice A1 (aq fs kf).L.length d1) (.slice A2 (aq fs kf).C.length d2) R c17 rfl (fun s' As' cs' l' b' Ab' cb' i' Ai' ci' o' Ao' co' st' nx hI hd=>?_) (fun y g hy=>?_)) ⟨rfl,rfl,rfl,rfl,rfl,rfl,rfl,rfl,rfl,trivial⟩ me
   ·refine(eW ?_)
    refine bS ⟨s',As',cs',l',b',Ab',cb',i',Ai',ci',o',Ao',co',st',nx⟩ (⟨hI,hinr (by omega) _ hd⟩)
   obtain rfl:m2=y:=hinl (by omega) y hy
   refine(kW (eL ?_))
   refine jP lr ?_
   intro w hw
   exact⟨g,trivial,rfl,hw.msub ms⟩
  have c17:¬(bB fs m).c=17:=c17
  refine av (fun c18=>?_) (fun c18=>?_)
  ·have c18:(bB fs m).c=18:=c18
   refine iy (PV g1 g2 g3 g4 g5 g6 g7 g8 k li A Al As Ap Ab Ai Ao c cl cs cp cb ci co a m x.func x.pc (x.pc+1) (aq fs kf).result x.L x.K (bB fs m) fs [.slice none 0 0,.slice none 0 0,.slice none 0 0,.slice none 0 0,.int .i64 0,.int .i64 0] (.int .i64 (aq fs kf).params) (.slice A1 (aq fs kf).L.length d1) (.slice A2 (aq fs kf).C.length d2) R c18 (fun s' As' cs' l' b' Ab' cb' i' Ai' ci' o' Ao' co' st' nx hI hd=>?_)) ⟨rfl,rfl,rfl,rfl,rfl,trivial⟩ me
   refine(eW ?_)
   refine bS ⟨s',As',cs',l',b',Ab',cb',i',Ai',ci',o',Ao',co',st',nx⟩ (⟨hI,hinr (by omega) _ hd⟩)
  have c18:¬(bB fs m).c=18:=c18
  refine av (fun c19=>?_) (fun c19=>?_)
  ·have c19:(bB fs m).c=19:=c19
   refine iy (PU g1 g2 g3 g4 g5 g6 g7 g8 k li A Al As Ap Ab Ai Ao c cl cs cp cb ci co a m x.func x.pc (x.pc+1) (aq fs kf).result x.L x.K (bB fs m) fs [.slice none 0 0,.slice none 0 0,.slice none 0 0,.slice none 0 0,.int .i64 0,.int .i64 0] (.int .i64 (aq fs kf).params) (.slice A1 (aq fs kf).L.length d1) (.slice A2 (aq fs kf).C.length d2) R c19 (fun s' As' cs' l' b' Ab' cb' i' Ai' ci' o' Ao' co' st' nx hI hd=>?_)) ⟨rfl,rfl,rfl,rfl,rfl,rfl,rfl,rfl,trivial⟩ me
   refine(eW ?_)
   refine bS ⟨s',As',cs',l',b',Ab',cb',i',Ai',ci',o',Ao',co',st',nx⟩ (⟨hI,hinr (by omega) _ hd⟩)
  have c19:¬(bB fs m).c=19:=c19
  refine av (fun c20=>?_) (fun c20=>?_)
  ·have c20:(bB fs m).c=20:=c20
   refine iy (PT g1 g2 g3 g4 g5 g6 g7 g8 k li A Al As Ap Ab Ai Ao c cl cs cp cb ci co a m x.func x.pc (x.pc+1) (aq fs kf).result x.L x.K (bB fs m) fs [.slice none 0 0,.slice none 0 0,.slice none 0 0,.slice none 0 0,.int .i64 0,.int .i64 0] (.int .i64 (aq fs kf).params) (.slice A1 (aq fs kf).L.length d1) (.slice A2 (aq fs kf).C.length d2) R c20 rfl (fun s' As' cs' l' b' Ab' cb' i' Ai' ci' o' Ao' co' st' nx hI hd=>?_) (fun y g hy=>?_)) ⟨rfl,rfl,rfl,rfl,rfl,rfl,rfl,trivial⟩ me
   ·refine(eW ?_)
    refine bS ⟨s',As',cs',l',b',Ab',cb',i',Ai',ci',o',Ao',co',st',nx⟩ (⟨hI,hinr (by omega) _ hd⟩)
   obtain rfl:m2=y:=hinl (by omega) y hy
   refine(kW (eL ?_))
   refine jP lr ?_
   intro w hw
   exact⟨g,trivial,rfl,hw.msub ms⟩
  have c20:¬(bB fs m).c=20:=c20
  refine av (fun c21=>?_) (fun c21=>?_)
  ·have c21:(bB fs m).c=21:=c21
   refine iy (PS g1 g2 g3 g4 g5 g6 g7 g8 k li A Al As Ap Ab Ai Ao c cl cs cp cb ci co a m x.func x.pc (x.pc+1) (aq fs kf).result x.L x.K (bB fs m) fs [.slice none 0 0,.slice none 0 0,.slice none 0 0,.slice none 0 0,.int .i64 0,.int .i64 0] (.int .i64 (aq fs kf).params) (.slice A1 (aq fs kf).L.length d1) (.slice A2 (aq fs kf).C.length d2) R rfl (fun As' cs' Ai' ci' hi=>?_) (fun g hi=>?_)) ⟨rfl,rfl,rfl,rfl,rfl,rfl,trivial⟩ me
   ·refine(eW ?_)
    refine bS ⟨x.K++ [cA (m.I.getD 0 0)],As',cs',x.L,m.B,Ab,cb,m.I.drop 1,Ai',ci',m.out,Ao,co,0,x.pc+1⟩ (⟨⟨R.pi.2.2,by show aH 0;decide⟩,h21 c21 hi⟩)
   obtain rfl:m2= {m with S:=1} :=h21n c21 hi
   refine(kW (eL ?_))
   refine jP lr ?_
   intro w hw
   exact⟨g,trivial,rfl,hw.msub ms⟩
  have c21:¬(bB fs m).c=21:=c21
  refine aj ?_
  refine bS ⟨x.K,As,cs,x.L,m.B,Ab,cb,m.I,Ai,ci,m.out,Ao,co,m.S,x.pc+1⟩ (⟨⟨R.pi.2.2,R.hms⟩,hinr (by omega) _ (by dsimp only[bN];rw[if_neg (by omega)];rw[if_neg (by omega)];rw[if_neg (by omega)];rw[if_neg (by omega)];rw[if_neg (by omega)];rw[if_neg (by omega)];rw[if_neg (by omega)];rw[if_neg (by omega)];rw[if_neg (by omega)];rw[if_neg (by omega)];rw[if_neg (by omega)];rw[if_neg (by omega)];rw[if_neg (by omega)];rw[if_neg (by omega)];dsimp only[gA];rw[if_neg (by omega)];rw[if_neg (by omega)];rw[if_neg (by omega)];rw[if_neg (by omega)];rw[if_neg (by omega)];rw[if_neg (by omega)];skip)⟩)
 rintro⟨s',As',cs',l',b',Ab',cb',i',Ai',ci',o',Ao',co',st',nx⟩ ⟨⟨hnx,hst'⟩,he⟩
 dsimp only at *
 subst he
 refine cc<|bO<|ay ?_
 refine ay ?_
 refine dT (cE fc dR rfl rfl (by rfl)) rfl rfl ?_
 refine ay ?_
 refine ay ?_
 refine ay ?_
 refine oE (lx (α:=aB) ⟨x.func,x.pc,.slice Al l'.length cl,.slice As x.K.length cs⟩ ⟨x.func,x.pc,.slice Al l'.length cl,.slice As' s'.length cs'⟩ hlm fc ⟨⟨R.pi.1,R.pi.2.1⟩,rfl,rfl⟩ ft rfl rfl rfl rfl rfl rfl rfl rfl) (fun _ _=>?_)
 refine ay ?_
 refine ay ?_
 refine oE (lx (α:=aB) ⟨x.func,x.pc,.slice Al l'.length cl,.slice As' s'.length cs'⟩ ⟨x.func,nx,.slice Al l'.length cl,.slice As' s'.length cs'⟩ hlm fc ⟨⟨R.pi.1,hnx⟩,rfl,rfl⟩ bj rfl rfl rfl rfl rfl rfl rfl rfl) (fun _ _=>aj ?_)
 intro w hw
 have e3:(li.map Prod.snd++ [(⟨x.func,nx,l',s'⟩:aG)]).length=k+1:=by rw[ar,aQ,R.hk];rfl
 refine⟨⟨A,c,Ab',cb',Ai',ci',Ao',co'⟩,trivial,?_,?_⟩
 ·dsimp only;rw[e3]
 dsimp only
 rw[e3]
 exact(ne (li:=li) (h:=⟨x.func,nx,.slice Al l'.length cl,.slice As' s'.length cs'⟩) (x:=⟨x.func,nx,l',s'⟩) hok ⟨rfl,rfl⟩ (hw.msub (T:=ak (.slice A (k+1) c) (li.map Prod.fst++ [(⟨x.func,nx,.slice Al l'.length cl,.slice As' s'.length cs'⟩:aB)])::ak (.slice Al l'.length cl) l'::ak (.slice As' s'.length cs') s'::cM li:: [ak (.slice Ab' b'.length cb') b',ak (.slice Ai' i'.length ci') i',ak (.slice Ao' o'.length co') o']) ms)).msub ms
end
section
theorem mX {fs:List au} {m:az} (h:dF fs m=0):gu fs/\dL fs m:=by
 unfold dF at h
 split at h
 ·rename_i h2;exact absurd h h2
 rename_i h2;exact⟨sP (iI.1 h2),zE.1 h⟩
end
section
theorem yf (c:Int) (w:World):Calls Tryz.prog 158 #[.int .i64 c] w fun e w'=>e= .returned (.int .i64 (fp c))/\Below w.heap.size w w':=by
 refine enter Tryz.func158 rfl Tryz.ntmps158 rfl<|av (fun h1=>?_) (fun h1=>?_)
 ·have h1:c=14:=h1
  refine aj ?_
  intro w hw
  exact⟨by rw[h1];rfl,hw.below⟩
 have h1:¬c=14:=h1
 refine av (fun h2=>?_) (fun h2=>?_)
 ·have h2:c=12:=h2
  refine aj ?_
  intro w hw
  exact⟨by rw[h2];rfl,hw.below⟩
 have h2:¬c=12:=h2
 refine aj ?_
 intro w hw
 exact⟨by unfold fp;rw[if_neg h1,if_neg h2],hw.below⟩
theorem Kp (Ap:Option Addr) (cp:Nat) (fs:List au) (a:MA) (m:az) (w:World) (hs:Sl w (.slice Ap fs.length cp) fs) (hm:dS w.heap.size w a m) (hF:gu fs) (hR:dL fs m) (hne:m.F≠[]) :
  Calls Tryz.prog 211 #[.agg #[.slice Ap fs.length cp],.agg #[.slice a.Af m.F.length a.cf,.slice a.Ab m.B.length a.cb,.slice a.Ai m.I.length a.ci,.slice a.Ao m.out.length a.co,.int .i64 m.S,.int .i64 m.T]] w fun e w'=>e= .returned (.agg #[.int .i64 (bB fs m).c,.int .i64 (bB fs m).a])/\Below w.heap.size w w':=by
 have b1:=bE hm.f
 obtain⟨li,x,e⟩:∃li x,m.F=li++ [x]:=by
  rcases fj m.F with h1 | ⟨l,z,h1⟩
  ·exact absurd h1 hne
  exact⟨l,z,by rw[h1];simp⟩
 obtain⟨hx,hk,hop⟩:=BB (fs:=fs) e
 obtain⟨k,hkl⟩:∃k,li.length=k:=⟨_,rfl⟩
 rw[hkl] at hx hk
 obtain⟨hfn,hloc,t,he,hts⟩:=hR.top e
 obtain⟨hp0,hp1,_⟩:=(hF.e x.func.toNat (by omega)).at_ _ _ he
 obtain⟨A1,c1,A2,c2,h1,h2,hi,hc⟩:=hm.f.fr (k:=k) (by omega)
 rw[hx] at h1 h2 hi hc
 obtain⟨kf,hkf⟩:∃kf:Nat,x.func=kf:=⟨x.func.toNat,by omega⟩
 obtain⟨kp,hkp⟩:∃kp:Nat,x.pc=kp:=⟨x.pc.toNat,by omega⟩
 rw[hkf,bw] at hp1 hop
 rw[hkp,bw] at hop
 rw[hkp] at hp1
 have hkfl:kf<fs.length:=by omega
 have hkpl:kp<(aq fs kf).C.length:=by omega
 obtain⟨F1,d1,F2,d2,hfl,hfc,hfi,hfcell⟩:=hs.fn hkfl
 have bp:=bE hs
 have bc:=bE hfc
 rw[hop]
 refine enter Tryz.func211 rfl Tryz.ntmps211 rfl<|aj ?_
 refine fun g1 _=>aj ?_
 refine fun g2 _=>aj ?_
 refine fun g3 _=>aj ?_
 refine bh (t:=11) (v':= .int .i64 (k:Int)) rfl (congrArg (Value.int .i64) (by omega)) ?_
 refine sE (bg (k:=k) cD dI (.ro hm.f) (by omega) rfl rfl rfl) ?_
 refine iY rfl (hc _)<|aj ?_
 refine fun g4 _=>aj ?_
 refine bz [0,3,6,9,12,15,18,21,24,27,30,35] [11] rfl<|aj ?_
 refine cC (t:=17) (v':= .int .i64 (kf:Int)) rfl (congrArg (Value.int .i64) hkf) ?_
 refine tE rfl (bg (k:=kf) eC eK (.ro hs) (by omega) rfl rfl rfl)<|aj ?_
 refine tE rfl (bQ (fun w hw=>hfcell _ w hw 3 _ rfl) rfl rfl pB)<|aj ?_
 refine cC (t:=22) (v':= .int .i64 (kp:Int)) rfl (congrArg (Value.int .i64) hkp) ?_
 refine tE rfl (bg (k:=kp) dW fM (.ro hfc) (by omega) rfl rfl rfl) ?_
 refine tE rfl (eF (cs:= [_,_]) (SF.op (.ro hfc) (by omega)) rfl rfl wM fM)<|aj ?_
 intro w hw
 exact⟨rfl,hw.below⟩
def Bp (o:bC):Int:=if eY o=0 then fp o.c else 0
theorem Lc (o:bC) (w:World):Calls Tryz.prog 105 #[.agg #[.int .i64 o.c,.int .i64 o.a]] w fun e w'=>e= .returned (.tuple #[.int .i64 (Bp o),.int .i64 (eY o)])/\Below w.heap.size w w':=by
 refine enter Tryz.func105 rfl Tryz.ntmps105 rfl<|aj ?_
 refine fun g1 _=>aj ?_
 refine bX rfl Tryz.call93 (fun w hw=>AD o w)<|cQ (fun h=>?_) (fun h=>?_)
 ·have h:¬eY o=0:=h
  refine aj ?_
  intro w hw
  exact⟨by unfold Bp;rw[if_neg h],hw.below⟩
 have h:eY o=0:=h
 refine aj ?_
 refine bX rfl Tryz.call158 (fun w hw=>yf o.c w)<|aj ?_
 intro w hw
 exact⟨by unfold Bp;rw[if_pos h,h],hw.below⟩
def ss (fs:List au) (m:az) (k:Int):az×Int:=if ix m then (m,k) else if k<fp (bB fs m).c then (m,k) else (eX fs m,k - fp (bB fs m).c)
def rA (fs:List au) (m:az) (k:Int):Prop:= ¬ix m/\fp (bB fs m).c<=k/\(eX fs m).S=0
instance (fs:List au) (m:az) (k:Int):Decidable (rA fs m k):=by unfold rA;infer_instance
theorem wu {fs:List au} {m:az} {k:Int} (h:ix m):ss fs m k=(m,k):=if_pos h
theorem Cm {fs:List au} {m:az} {k:Int} (h:¬ix m) (h2:k<fp (bB fs m).c):ss fs m k=(m,k):=(if_neg h).trans (if_pos h2)
theorem wq {fs:List au} {m:az} {k:Int} (h:¬ix m) (h2:¬k<fp (bB fs m).c):ss fs m k=(eX fs m,k - fp (bB fs m).c):=(if_neg h).trans (if_neg h2)
theorem Et (fs:List au) (m:az) (k:Int):nr fs m k=if rA fs m k then nr fs (ss fs m k).1 (ss fs m k).2 else ss fs m k:=by
 rw[Eu]
 by_cases h1:ix m
 ·rw[if_pos h1,if_neg (show¬rA fs m k from fun h=>h.1 h1),wu h1]
 rw[if_neg h1]
 by_cases h2:k<fp (bB fs m).c
 ·rw[if_pos h2,if_neg (show¬rA fs m k from fun h=>by have:=h.2.1;omega),Cm h1 h2]
 rw[if_neg h2,wq h1 h2]
 by_cases h3:(eX fs m).S=0
 ·rw[if_pos h3,if_pos (show rA fs m k from⟨h1,by omega,h3⟩)]
 rw[if_neg h3,if_neg (show¬rA fs m k from fun h=>h3 h.2.2)]
section
variable {B:Nat} {w0:World} {H:List aJ}
theorem Hv (gd:Nat) (a:MA) (m:az) (k:Int) (Ap:Option Addr) (cp:Nat) (fs:List au) (hs:bJ w0 B (.slice Ap fs.length cp) fs) (hF:gu fs) (hR:dL fs m) (hk:0<=k/\k<=10000) (p:az×Int) (hpe:ss fs m k=p) (w:World)
  (hw:Cw B w0 (am gd [.slice a.Af m.F.length a.cf,.slice a.Ab m.B.length a.cb,.slice a.Ai m.I.length a.ci,.slice a.Ao m.out.length a.co,.int .i64 m.S,.int .i64 m.T,.int .i64 k] 205::ak (.slice a.Af m.F.length a.cf) m.F::ak (.slice a.Ab m.B.length a.cb) m.B::ak (.slice a.Ai m.I.length a.ci) m.I::ak (.slice a.Ao m.out.length a.co) m.out::H) w) :
  Calls Tryz.prog 154 #[.pointer (some ⟨gd,0,none⟩),.agg #[.slice Ap fs.length cp]] w fun e w'=> ∃g:MA,True/\e= .returned (.bool (decide (rA fs m k)))/\
   Cw B w0 (am gd [.slice g.Af p.1.F.length g.cf,.slice g.Ab p.1.B.length g.cb,.slice g.Ai p.1.I.length g.ci,.slice g.Ao p.1.out.length g.co,.int .i64 p.1.S,.int .i64 p.1.T,.int .i64 p.2] 205::ak (.slice g.Af p.1.F.length g.cf) p.1.F::ak (.slice g.Ab p.1.B.length g.cb) p.1.B::ak (.slice g.Ai p.1.I.length g.ci) p.1.I::ak (.slice g.Ao p.1.out.length g.co) p.1.out::H) w':=by
 have hp:=ow (bB fs m).c
 have hst:=hR.st
 have hst2:aH m.S:=⟨by omega,by omega⟩
 have htr2:aH m.T:=by
  rcases Decidable.em (m.S=3) with h3 | h3
  ·have:=hR.t3 h3;exact⟨by omega,by omega⟩
  have:=hR.t0 h3;exact⟨by omega,by omega⟩
 refine bG Tryz.func154 rfl Tryz.ntmps154 rfl hw<|aj ?_
 refine fun g1 _=>dG 13 (fun q1=>?_) (fun q1=>?_)
 ·have hh:ix m:= .inl (aY (by have:=of_decide_eq_true q1;omega))
  have e:p=(m,k):=by rw[<-hpe,wu hh]
  subst e
  refine aj ?_
  refine aU rfl<|aj ?_
  intro w hw
  exact⟨a,trivial,aS (decide_eq_false (fun h=>h.1 hh)).symm,hw.msub ms⟩
 have hne:m.F≠[]:=fun e=>by have:=of_decide_eq_false q1;rw[e] at this;simp at this
 refine av (fun q2=>?_) (fun q2=>?_)
 ·have hh:ix m:= .inr q2
  have e:p=(m,k):=by rw[<-hpe,wu hh]
  subst e
  refine aj ?_
  intro w hw
  exact⟨a,trivial,aS (decide_eq_false (fun h=>h.1 hh)).symm,hw.msub ms⟩
 have q2:¬m.S=3:=q2
 have hh:¬ix m:=fun h=>h.elim hne q2
 have hst3:¬(m.S=2\/m.S=3):=(not_congr (KI hR)).1 hh
 obtain⟨c,hc⟩:∃c,fp (bB fs m).c=c:=⟨_,rfl⟩
 refine aj ?_
 refine bz [0,3,6,9,12,17,18,23,24] [] rfl<|aj ?_
 refine km rfl rfl Tryz.call211 (fun w hw=>Kp Ap cp fs a m w (hw.ro hs) (dx hw fc fc fc fc rfl rfl rfl rfl hst2 htr2) hF hR hne) ?_
 refine tE rfl (jR (O3 _ _) rfl rfl) ?_
 refine km rfl rfl Tryz.call158 (fun w hw=>yf _ w)<|aj ?_
 rw[hc] at hp
 rw[hc]
 have hc3:=NT (bB fs m).c
 refine eo rfl (fun q3=>?_) (fun q3=>?_)
 ·have q3:k<c:=q3
  have e:p=(m,k):=by rw[<-hpe,Cm hh (by rw[hc];exact q3)]
  subst e
  refine aj ?_
  intro w hw
  exact⟨a,trivial,aS (decide_eq_false (fun h=>by have:=h.2.1;omega)).symm,hw.msub ms⟩
 have q3:¬k<c:=q3
 obtain⟨m2,hm2⟩:∃m2,eX fs m=m2:=⟨_,rfl⟩
 have e:p=(m2,k - c):=by rw[<-hpe,wq hh (by rw[hc];exact q3),hm2,hc]
 subst e
 have hon:rA fs m k↔m2.S=0:=by
  unfold rA
  rw[hm2,hc]
  exact⟨fun h=>h.2.2,fun h=>⟨hh,by omega,h⟩⟩
 refine aj ?_
 refine bz [0,3,6,9,12,15,20,21,24,29] [9] rfl<|aj ?_
 refine ia rfl rfl Tryz.call114 (fun w hw=>EF Ap cp fs a m m2 hm2 w (hw.ro hs) (dx hw fc fc fc fc rfl rfl rfl rfl hst2 htr2) (pM hF hR) (fun hst=>tK hs hF hR hst)) (fun g5 _=>aj ?_)
 intro w hw
 exact⟨g5,trivial,aS (decide_eq_decide.2 hon).symm,hw.msub ms⟩
end
end
section
theorem H7 {fs:List au} (_:gu fs) {m:az} (_:dL fs m) {k:Int} (hon:rA fs m k):ss fs m k=(eX fs m,k - fp (bB fs m).c):=by
 exact wq hon.1 (by have:=hon.2.1;omega)
theorem Kr (Ap:Option Addr) (cp:Nat) (fs:List au) (a:MA) (m:az) (k:Int) (r:az×Int) (hr:nr fs m k=r) (w:World) (hs:Sl w (.slice Ap fs.length cp) fs) (hm:dS w.heap.size w a m) (hF:gu fs) (hR:dL fs m) (hk:0<=k/\k<=10000) :
  Calls Tryz.prog 98 #[.agg #[.slice Ap fs.length cp],.agg #[.slice a.Af m.F.length a.cf,.slice a.Ab m.B.length a.cb,.slice a.Ai m.I.length a.ci,.slice a.Ao m.out.length a.co,.int .i64 m.S,.int .i64 m.T],.int .i64 k] w fun e w'=> ∃g:MA,True/\
   e= .returned (.tuple #[.agg #[.slice g.Af r.1.F.length g.cf,.slice g.Ab r.1.B.length g.cb,.slice g.Ai r.1.I.length g.ci,.slice g.Ao r.1.out.length g.co,.int .i64 r.1.S,.int .i64 r.1.T],.int .i64 r.2])/\Cw w.heap.size w [ak (.slice g.Af r.1.F.length g.cf) r.1.F,ak (.slice g.Ab r.1.B.length g.cb) r.1.B,ak (.slice g.Ai r.1.I.length g.ci) r.1.I,ak (.slice g.Ao r.1.out.length g.co) r.1.out] w':=by
 refine enter Tryz.func98 rfl Tryz.ntmps98 rfl<|aj ?_
 refine fun g1 _=>aj ?_
 refine fun g2 _=>aj ?_
 refine fun g3 _=>aj ?_
 refine eb rfl wP (fun w hw=>od a m w (dS.ro hw hm) (pM hF hR)) (fun g0 _=>aj ?_)
 refine fun g4 _=>aj ?_
 refine dA (fun g:(az×Int)×MA=>(dL fs g.1.1/\0<=g.1.2/\g.1.2<=10000)/\nr fs g.1.1 g.1.2=r) (fun g=>g.1.2.toNat) (fun _=> [(3,.pointer (some ⟨g1,0,none⟩)),(6,.pointer (some ⟨g3,0,none⟩)),(8,.pointer (some ⟨g4,0,none⟩))]) (fun g=> [am g4 [.slice g.2.Af g.1.1.F.length g.2.cf,.slice g.2.Ab g.1.1.B.length g.2.cb,.slice g.2.Ai g.1.1.I.length g.2.ci,.slice g.2.Ao g.1.1.out.length g.2.co,.int .i64 g.1.1.S,.int .i64 g.1.1.T,.int .i64 g.1.2] 205,ak (.slice g.2.Af g.1.1.F.length g.2.cf) g.1.1.F,ak (.slice g.2.Ab g.1.1.B.length g.2.cb) g.1.1.B,ak (.slice g.2.Ai g.1.1.I.length g.2.ci) g.1.1.I,ak (.slice g.2.Ao g.1.1.out.length g.2.co) g.1.1.out,am g1 [.slice Ap fs.length cp] 24,am g3 [.slice none 0 0,.slice none 0 0,.slice none 0 0,.slice none 0 0,.int .i64 0,.int .i64 0] 43]) ((m,k),g0) (⟨⟨hR,hk⟩,hr⟩) ?_
 rintro⟨⟨q,z⟩,g⟩ hq
 try dsimp only
 obtain⟨⟨hRq,hz⟩,hrq⟩:(dL fs q/\0<=z/\z<=10000)/\nr fs q z=r:=hq
 obtain⟨p,hpe⟩:∃p,ss fs q z=p:=⟨_,rfl⟩
 refine aj ?_
 refine cT rfl Tryz.call154 (fun w hw=>Hv g4 g q z Ap cp fs hs hF hRq hz p hpe w (hw.msub (.s fc (.s fc (.s fc (.s fc (.s fc .r))))))) (fun g5 _=>av (fun hon=>?_) (fun hon=>?_))
 ·have hon:rA fs q z:=hon
  have e1:=(H7 hF hRq hon).symm.trans hpe
  have hp:=ow (bB fs q).c
  have h2:=hon.2.1
  refine aj ?_
  refine Lt (p,g5) (by rw[<-e1];exact⟨⟨wV hF hRq,by show 0<=z - _;omega,by show z - _<=_;omega⟩,by show nr fs (eX fs q) _=r;rw[<-hrq,Et fs q z,if_pos hon,hpe,<-e1]⟩) (by rw[<-e1];show (z - _).toNat<z.toNat;omega)
 have hon:¬rA fs q z:=hon
 have e1:p=r:=by rw[<-hrq,Et fs q z,if_neg hon,hpe]
 subst e1
 refine aj ?_
 refine fx [0,3,6,9,12,15,18,21,26,27] [] rfl [am g4 [.slice g5.Af p.1.F.length g5.cf,.slice g5.Ab p.1.B.length g5.cb,.slice g5.Ai p.1.I.length g5.ci,.slice g5.Ao p.1.out.length g5.co,.int .i64 p.1.S,.int .i64 p.1.T,.int .i64 p.2] 205]<|aj ?_
 intro w hw
 exact⟨g5,trivial,rfl,hw.msub ms⟩
def oV (fs:List au) (m:az) (k:Int):Int:=if dF fs m≠0 then dF fs m else if k<0\/10000<k then 3 else 0
def yN (fs:List au) (m:az) (k:Int):az×Int:=if oV fs m k=0 then nr fs m k else (default,0)
theorem sx (Ap:Option Addr) (cp:Nat) (fs:List au) (a:MA) (m:az) (k:Int) (r:az×Int) (hr:yN fs m k=r) (w:World) (hs:Sl w (.slice Ap fs.length cp) fs) (hm:dS w.heap.size w a m) (hfit:jX m.F) :
  Calls Tryz.prog 55 #[.agg #[.slice Ap fs.length cp],.agg #[.slice a.Af m.F.length a.cf,.slice a.Ab m.B.length a.cb,.slice a.Ai m.I.length a.ci,.slice a.Ao m.out.length a.co,.int .i64 m.S,.int .i64 m.T],.int .i64 k] w fun e w'=> ∃g:MA,True/\
   e= .returned (.tuple #[.agg #[.slice g.Af r.1.F.length g.cf,.slice g.Ab r.1.B.length g.cb,.slice g.Ai r.1.I.length g.ci,.slice g.Ao r.1.out.length g.co,.int .i64 r.1.S,.int .i64 r.1.T],.int .i64 r.2,.int .i64 (oV fs m k)])/\Cw w.heap.size w [ak (.slice g.Af r.1.F.length g.cf) r.1.F,ak (.slice g.Ab r.1.B.length g.cb) r.1.B,ak (.slice g.Ai r.1.I.length g.ci) r.1.I,ak (.slice g.Ao r.1.out.length g.co) r.1.out] w':=by
 refine enter Tryz.func55 rfl Tryz.ntmps55 rfl<|aj ?_
 refine fun g1 _=>aj ?_
 refine fun g2 _=>aj ?_
 refine fun g3 _=>aj ?_
 refine bX rfl vm (fun w hw=>kL Ap cp fs a m w (hw.ro hs) (dS.ro hw hm) hfit) ?_
 refine ay ?_
 refine bH<|cc<|cc<|bO<|ay ?_
 refine ay ?_
 refine ay ?_
 unfold yN at hr
 by_cases hE:dF fs m=0
 ·obtain⟨hF,hR⟩:=mX hE
  have hE2:oV fs m k=if k<0\/10000<k then 3 else 0:=by unfold oV;rw[if_neg (fun h=>h hE)]
  rw[hE]
  refine bh (t:=17) (v':= .bool true) rfl (rfl) ?_
  refine ay ?_
  refine ay ?_
  refine ay ?_
  by_cases hb0:k<0
  ·have hE3:oV fs m k=3:=by rw[hE2,if_pos (.inl hb0)]
   rw[hE3,if_neg (by decide)] at hr
   subst hr
   rw[hE3]
   refine bh (t:=20) (v':= .bool true) rfl (congrArg Value.bool (decide_eq_true hb0))<|aj ?_
   refine aU rfl<|aj ?_
   refine cK (t:=26) (v':= .bool true) rfl (rfl) ?_
   refine aU rfl<|aj ?_
   intro w hw
   exact⟨⟨none,0,none,0,none,0,none,0⟩,trivial,rfl,(jS hw).msub ms⟩
  refine bh (t:=20) (v':= .bool false) rfl (congrArg Value.bool (decide_eq_false hb0))<|aj ?_
  by_cases hb1:10000<k
  ·have hE3:oV fs m k=3:=by rw[hE2,if_pos (.inr hb1)]
   rw[hE3,if_neg (by decide)] at hr
   subst hr
   rw[hE3]
   refine cK (t:=24) (v':= .bool true) rfl (congrArg Value.bool (decide_eq_true hb1)) ?_
   refine aU rfl<|aj ?_
   refine cK (t:=26) (v':= .bool true) rfl (rfl) ?_
   refine aU rfl<|aj ?_
   intro w hw
   exact⟨⟨none,0,none,0,none,0,none,0⟩,trivial,rfl,(jS hw).msub ms⟩
  have hE3:oV fs m k=0:=by rw[hE2,if_neg (by omega)]
  rw[hE3,if_pos rfl] at hr
  rw[hE3]
  refine cK (t:=24) (v':= .bool false) rfl (congrArg Value.bool (decide_eq_false hb1)) ?_
  refine cu rfl<|aj ?_
  refine cK (t:=26) (v':= .bool false) rfl (rfl) ?_
  refine cu rfl<|aj ?_
  refine eb rfl Tryz.call98 (fun w hw=>Kr Ap cp fs a m k r hr w (hw.ro hs) (dS.ro hw hm) hF hR (by omega)) (fun g _=>aj ?_)
  refine fun g4 _=>aj ?_
  intro w hw
  exact⟨g,trivial,rfl,hw.msub ms⟩
 have hE3:oV fs m k=dF fs m:=by unfold oV;rw[if_pos hE]
 rw[hE3,if_neg hE] at hr
 subst hr
 rw[hE3]
 refine bh (t:=17) (v':= .bool false) rfl (congrArg Value.bool (decide_eq_false hE))<|aj ?_
 refine cu rfl<|aj ?_
 refine cK (t:=26) (v':= .bool true) rfl (congrArg Value.bool (by simp[hE])) ?_
 refine aU rfl<|aj ?_
 intro w hw
 exact⟨⟨none,0,none,0,none,0,none,0⟩,trivial,rfl,(jS hw).msub ms⟩
end
section
def xD:az:=⟨[],[],[],[3,2,1],2,0⟩
def Cp:az:=⟨[⟨0,5,[],[⟨false,2⟩]⟩],[],[],[3],0,0⟩
theorem kY:oV eP iP 100=0/\yN eP iP 100=(xD,77)/\oV eP iP 5=0/\yN eP iP 5=(Cp,0)/\eY ⟨14,0⟩=0/\Bp ⟨14,0⟩=3:=by
 refine⟨?_,?_,?_,?_,?_,?_⟩ <;> kernel_rfl
theorem sW (A:Option Addr) (c:Nat) (a:MA) (w:World) (hs:Sl w (.slice A 1 c) eP) (hm:dS w.heap.size w a iP) :
  Calls Tryz.prog 55 #[.agg #[.slice A 1 c],.agg #[.slice a.Af 1 a.cf,.slice a.Ab 0 a.cb,.slice a.Ai 0 a.ci,.slice a.Ao 0 a.co,.int .i64 0,.int .i64 0],.int .i64 100] w fun e w'=> ∃g:MA,True/\
   e= .returned (.tuple #[.agg #[.slice g.Af 0 g.cf,.slice g.Ab 0 g.cb,.slice g.Ai 0 g.ci,.slice g.Ao 3 g.co,.int .i64 2,.int .i64 0],.int .i64 77,.int .i64 0])/\Cw w.heap.size w [ak (.slice g.Af 0 g.cf) xD.F,ak (.slice g.Ab 0 g.cb) xD.B,ak (.slice g.Ai 0 g.ci) xD.I,ak (.slice g.Ao 3 g.co) xD.out] w':=by
 have:=sx A c eP a iP 100 _ kY.2.1 w hs hm uX
 rw[kY.1] at this
 exact this
theorem sV (A:Option Addr) (c:Nat) (a:MA) (w:World) (hs:Sl w (.slice A 1 c) eP) (hm:dS w.heap.size w a iP) :
  Calls Tryz.prog 55 #[.agg #[.slice A 1 c],.agg #[.slice a.Af 1 a.cf,.slice a.Ab 0 a.cb,.slice a.Ai 0 a.ci,.slice a.Ao 0 a.co,.int .i64 0,.int .i64 0],.int .i64 5] w fun e w'=> ∃g:MA,True/\
   e= .returned (.tuple #[.agg #[.slice g.Af 1 g.cf,.slice g.Ab 0 g.cb,.slice g.Ai 0 g.ci,.slice g.Ao 1 g.co,.int .i64 0,.int .i64 0],.int .i64 0,.int .i64 0])/\Cw w.heap.size w [ak (.slice g.Af 1 g.cf) Cp.F,ak (.slice g.Ab 0 g.cb) Cp.B,ak (.slice g.Ai 0 g.ci) Cp.I,ak (.slice g.Ao 1 g.co) Cp.out] w':=by
 have:=sx A c eP a iP 5 _ kY.2.2.2.1 w hs hm uX
 rw[kY.2.2.1] at this
 exact this
theorem GC (w:World):Calls Tryz.prog 105 #[.agg #[.int .i64 14,.int .i64 0]] w fun e w'=>e= .returned (.tuple #[.int .i64 3,.int .i64 0])/\Below w.heap.size w w':=by
 have:=Lc ⟨14,0⟩ w
 rw[kY.2.2.2.2.1,kY.2.2.2.2.2] at this
 exact this
theorem yZ (w:World):Calls Tryz.prog 46 #[] w fun e w'=>e= .returned (.bool true)/\Below w.heap.size w w':=by
 obtain⟨f1,f2,f3,f4,f5,f6,f7,f8,f9⟩:=xG
 refine enter Tryz.func46 rfl Tryz.ntmps46 rfl<|aj ?_
 refine eb rfl mn (fun w hw=>gR w) (fun gp _=>?_)
 refine eb rfl vk (fun w hw=>qW f1 f2 rfl _ _ w (SF.at_ (SF.own rfl fc) hw)) (fun a1 _=>aj ?_)
 intro g1 _
 refine dr (cV _ fc cX rfl rfl rfl rfl rfl (by rfl) rfl (by rfl)) rfl rfl (fun _ _=>?_)
 refine ay ?_
 refine bH<|eh (fun _:Nat×MA=>True) (fun g=> [(1,.pointer (some ⟨g1,0,none⟩)),(3,.pointer (some ⟨g.1,0,none⟩)),(4,.int .i64 77),(5,.int .i64 0)]) (fun g=> [am g.1 [.slice g.2.Af 0 g.2.cf,.slice g.2.Ab 0 g.2.cb,.slice g.2.Ai 0 g.2.ci,.slice g.2.Ao 3 g.2.co,.int .i64 2,.int .i64 0] 43,ak (.slice g.2.Ao 3 g.2.co) xD.out,am g1 [.slice a1.Af 1 a1.cf,.slice a1.Ab 0 a1.cb,.slice a1.Ai 0 a1.ci,.slice a1.Ao 0 a1.co,.int .i64 0,.int .i64 0] 43,ak (.slice a1.Af 1 a1.cf) iP.F,ak (.slice a1.Ab 0 a1.cb) iP.B,ak (.slice a1.Ai 0 a1.ci) iP.I,ak (.slice a1.Ao 0 a1.co) iP.out]) ?_ ?_
 ·refine iq (.still 1 (.pick 0 (.pick 2 (.calm 3 (.calm 4 (.calm 5 (.calm 6 (.pick 7 (.pick 8 (.calm 9 (.calm 10 .done)) .stop) .stop))))) (.pick 7 (.pick 2 (.calm 3 (.calm 4 (.calm 5 (.calm 6 (.pick 8 (.calm 9 (.calm 10 .done)) .stop))))) .stop) .stop)) (.pick 7 (.pick 0 (.pick 2 (.calm 3 (.calm 4 (.calm 5 (.calm 6 (.pick 8 (.calm 9 (.calm 10 .done)) .stop))))) .stop) .stop) .stop))) [2,3,4,5,6,8,9,10] rfl (by kernel_rfl) (by kernel_rfl) ?_
  refine aj ?_
  refine cP rfl (jc rfl rfl rfl mn (fun w hw=>gR w)) rfl rfl (.inr fun _=>ha) (fun gq _=>?_) ?_
  ·refine cP rfl (jc rfl rfl rfl nK (fun w hw=>sW _ _ a1 w (SF.at_ (SF.own rfl fc) hw) (dx hw fc fc fc fc rfl rfl rfl rfl (by decide) (by decide)))) rfl rfl (.inl rfl) (fun a2 _=>?_) ?_
   ·refine aj ?_
    intro q _
    refine aj ?_
    refine bu<|bS (q,a2) (trivial) (hh:=(fun _ h=>h.msub ms))
   refine aj ?_
   intro q _
   refine ia rfl rfl nK (fun w hw=>sW _ _ a1 w (SF.at_ (SF.own rfl fc) hw) (dx hw fc fc fc fc rfl rfl rfl rfl (by decide) (by decide))) (fun a2 _=>aj ?_)
   refine bu<|bS (q,a2) (trivial) (hh:=(fun _ h=>h.msub ms))
  refine aj ?_
  intro q _
  refine ia rfl rfl mn (fun w hw=>gR w) (fun gq _=>?_)
  refine ia rfl rfl nK (fun w hw=>sW _ _ a1 w (SF.at_ (SF.own rfl fc) hw) (dx hw fc fc fc fc rfl rfl rfl rfl (by decide) (by decide))) (fun a2 _=>aj ?_)
  refine bu<|bS (q,a2) (trivial) (hh:=(fun _ h=>h.msub ms))
 rintro⟨ga,a2⟩ _
 try dsimp only
 refine eh (fun _:Nat×MA=>True) (fun g=> [(3,.pointer (some ⟨ga,0,none⟩)),(4,.int .i64 77),(5,.int .i64 0),(6,.pointer (some ⟨g.1,0,none⟩)),(7,.int .i64 0),(8,.int .i64 0)]) (fun g=> [am g.1 [.slice g.2.Af 1 g.2.cf,.slice g.2.Ab 0 g.2.cb,.slice g.2.Ai 0 g.2.ci,.slice g.2.Ao 1 g.2.co,.int .i64 0,.int .i64 0] 43,ak (.slice g.2.Af 1 g.2.cf) Cp.F,am ga [.slice a2.Af 0 a2.cf,.slice a2.Ab 0 a2.cb,.slice a2.Ai 0 a2.ci,.slice a2.Ao 3 a2.co,.int .i64 2,.int .i64 0] 43,ak (.slice a2.Ao 3 a2.co) xD.out]) ?_ ?_
 ·refine iq (.still 1 (.pick 0 (.pick 2 (.calm 3 (.calm 4 (.calm 5 (.calm 6 (.pick 7 (.pick 8 (.calm 9 (.calm 10 .done)) .stop) .stop))))) (.pick 7 (.pick 2 (.calm 3 (.calm 4 (.calm 5 (.calm 6 (.pick 8 (.calm 9 (.calm 10 .done)) .stop))))) .stop) .stop)) (.pick 7 (.pick 0 (.pick 2 (.calm 3 (.calm 4 (.calm 5 (.calm 6 (.pick 8 (.calm 9 (.calm 10 .done)) .stop))))) .stop) .stop) .stop))) [2,3,4,5,6,8,9,10] rfl (by kernel_rfl) (by kernel_rfl) ?_
  refine aj ?_
  refine cP rfl (jc rfl rfl rfl mn (fun w hw=>gR w)) rfl rfl (.inr fun _=>ha) (fun gq _=>?_) ?_
  ·refine cP rfl (jc rfl rfl rfl nK (fun w hw=>sV _ _ a1 w (SF.at_ (SF.own rfl fc) hw) (dx hw fc fc fc fc rfl rfl rfl rfl (by decide) (by decide)))) rfl rfl (.inl rfl) (fun a3 _=>?_) ?_
   ·refine aj ?_
    intro q _
    refine aj ?_
    refine bu<|bS (q,a3) (trivial) (hh:=(fun _ h=>h.msub ms))
   refine aj ?_
   intro q _
   refine ia rfl rfl nK (fun w hw=>sV _ _ a1 w (SF.at_ (SF.own rfl fc) hw) (dx hw fc fc fc fc rfl rfl rfl rfl (by decide) (by decide))) (fun a3 _=>aj ?_)
   refine bu<|bS (q,a3) (trivial) (hh:=(fun _ h=>h.msub ms))
  refine aj ?_
  intro q _
  refine ia rfl rfl mn (fun w hw=>gR w) (fun gq _=>?_)
  refine ia rfl rfl nK (fun w hw=>sV _ _ a1 w (SF.at_ (SF.own rfl fc) hw) (dx hw fc fc fc fc rfl rfl rfl rfl (by decide) (by decide))) (fun a3 _=>aj ?_)
  refine bu<|bS (q,a3) (trivial) (hh:=(fun _ h=>h.msub ms))
 rintro⟨gb,a3⟩ _
 try dsimp only
 refine yd (k:=1) (c:=a3.cf) (A:=a3.Af) (fr:=Cp.F) rfl fc fun X hsX hX=>?_
 obtain⟨B1,d1,B2,d2,e1,hX1⟩:=hX.el 0 (by decide)
 refine aj ?_
 refine bX rfl Tryz.call105 (fun w hw=>GC w) ?_
 refine ay ?_
 refine ay ?_
 refine ay ?_
 refine ay ?_
 refine ay ?_
 refine bH<|cc<|bO<|ay ?_
 refine ay ?_
 refine ay ?_
 refine bh (t:=37) (v':= .bool true) rfl (rfl) ?_
 refine ay ?_
 refine ay ?_
 refine ay ?_
 refine ay ?_
 refine bh (t:=41) (v':= .bool true) rfl (rfl) ?_
 refine ay ?_
 refine ay ?_
 refine ay ?_
 refine ay ?_
 refine bh (t:=45) (v':= .bool true) rfl (rfl) ?_
 refine ay ?_
 refine dT (cE fc be rfl rfl (by rfl)) rfl rfl ?_
 refine ay ?_
 refine ay ?_
 refine ay ?_
 refine bh (t:=50) (v':= .bool true) rfl (rfl)<|aj ?_
 intro g2 _
 refine ee (fun w h=>bt (α:=Int) (m:=3) [3,2,1] rfl (by intro x hx;simp at hx;rcases hx with rfl | rfl | rfl <;> (show aH _;decide)) rfl (by decide) (h.msub (T:= [am g2 _ _,ak (.slice a3.Af 1 a3.cf) hsX,X,am gb [.slice a3.Af 1 a3.cf,.slice a3.Ab 0 a3.cb,.slice a3.Ai 0 a3.ci,.slice a3.Ao 1 a3.co,.int .i64 0,.int .i64 0] 43,am ga [.slice a2.Af 0 a2.cf,.slice a2.Ab 0 a2.cb,.slice a2.Ai 0 a2.ci,.slice a2.Ao 3 a2.co,.int .i64 2,.int .i64 0] 43,ak (.slice a2.Ao 3 a2.co) xD.out]) ms)) ?_
 refine bX rfl nJ (fun w hw=>is a2.Ao (some ⟨g2,0,none⟩) a2.co 3 [3,2,1] [3,2,1] w (SF.at_ (SF.own (A:=a2.Ao) (m:=3) (c:=a2.co) (xs:=xD.out) rfl fc) hw) (SF.at_ (SF.own (A:=some ⟨g2,0,none⟩) (m:=3) (c:=3) (xs:= [3,2,1]) rfl fc) hw)) ?_
 refine ay ?_
 refine ay ?_
 refine bh (t:=56) (v':= .bool true) rfl (congrArg Value.bool (decide_eq_true rfl)) ?_
 refine ay ?_
 refine ay ?_
 refine ay ?_
 refine ay ?_
 refine bh (t:=60) (v':= .bool true) rfl (rfl) ?_
 refine ay ?_
 refine dT (cE fc be rfl rfl (by rfl)) rfl rfl ?_
 refine ay ?_
 refine ay ?_
 refine ay ?_
 refine bh (t:=65) (v':= .bool true) rfl (rfl) ?_
 refine ay ?_
 refine ay ?_
 refine ay ?_
 refine ay ?_
 refine bh (t:=69) (v':= .bool true) rfl (rfl)<|aj ?_
 refine cS (0) rfl ((SF.own (α:=aB) hX.len fc))<|aj ?_
 refine eH rfl (fun w hw=>(SF.hfr (SF.own (α:=aB) hX.len fc) (k:=0) (by decide) e1) w hw 1 _ rfl) ?_
 refine ay ?_
 refine ay ?_
 refine ay ?_
 refine bh (t:=77) (v':= .bool true) rfl (rfl)<|aj ?_
 intro w hw
 exact⟨rfl,hw.below⟩
end
section
theorem HD {fs:List au} {m:az} (h:dL fs m):aH m.S/\aH m.T:=by
 have hs:=h.st
 refine⟨⟨by omega,by omega⟩,?_⟩
 rcases Decidable.em (m.S=3) with h3 | h3
 ·have:=h.t3 h3;exact⟨by omega,by omega⟩
 have:=h.t0 h3;exact⟨by omega,by omega⟩
theorem BO (a b:MA) (m n:az) (he:m=n) (w:World) (h1:dS w.heap.size w a m) (h2:dS w.heap.size w b n) :
  Calls Tryz.prog 15 #[.agg #[.slice a.Af m.F.length a.cf,.slice a.Ab m.B.length a.cb,.slice a.Ai m.I.length a.ci,.slice a.Ao m.out.length a.co,.int .i64 m.S,.int .i64 m.T],
   .agg #[.slice b.Af n.F.length b.cf,.slice b.Ab n.B.length b.cb,.slice b.Ai n.I.length b.ci,.slice b.Ao n.out.length b.co,.int .i64 n.S,.int .i64 n.T]] w fun e w'=>e= .returned (.bool true)/\Below w.heap.size w w':=by
 have:=pU a b m n w h1 h2
 rwa [decide_eq_true he] at this
end
section
theorem Kv {B:Nat} {w:World} :dS B w ⟨none,0,none,0,none,0,none,0⟩ default:=⟨bJ.nil_,bJ.nil_,bJ.nil_,bJ.nil_,(by decide:aH 0),(by decide:aH 0)⟩
theorem AS (a b:MA) (m1 m2:az) (e:Int) (he:m1=if e≠0 then default else m2) (w:World) (h1:dS w.heap.size w a m1) (h2:dS w.heap.size w b m2) :
  Calls Tryz.prog 53 #[.agg #[.slice a.Af m1.F.length a.cf,.slice a.Ab m1.B.length a.cb,.slice a.Ai m1.I.length a.ci,.slice a.Ao m1.out.length a.co,.int .i64 m1.S,.int .i64 m1.T],.int .i64 e,.int .i64 e,
   .agg #[.slice b.Af m2.F.length b.cf,.slice b.Ab m2.B.length b.cb,.slice b.Ai m2.I.length b.ci,.slice b.Ao m2.out.length b.co,.int .i64 m2.S,.int .i64 m2.T]] w fun e w'=>e= .returned (.bool true)/\Below w.heap.size w w':=by
 refine enter Tryz.func53 rfl Tryz.ntmps53 rfl<|aj ?_
 refine fun g1 _=>aj ?_
 refine fun g2 _=>cQ (fun h=>?_) (fun h=>?_)
 ·have h:¬e=0:=h
  rw[if_pos h] at he
  subst he
  refine bO<|dT (Cf (cs:= [_,_,_,_,_,_]) Lv Tryz.zeroValue43 rfl rfl (by rfl)) rfl rfl ?_
  refine dr (cV _ fc cX rfl rfl rfl rfl rfl (by rfl) rfl (by rfl)) rfl rfl (fun _ _=>?_)
  refine bH<|cc<|bO<|ay ?_
  refine ay ?_
  refine ay ?_
  refine ay ?_
  refine bh (t:=15) (v':= .bool true) rfl (congrArg Value.bool (decide_eq_true rfl))<|aj ?_
  refine bX rfl PN (fun w hw=>BO a ⟨none,0,none,0,none,0,none,0⟩ default default rfl w (h1.ro hw) Kv)<|aj ?_
  intro w hw
  exact⟨rfl,hw.below⟩
 have h:e=0:=h
 rw[if_neg (fun h'=>h' h)] at he
 subst he
 refine gI (gF ?_)
 refine cc<|bO<|ay ?_
 refine ay ?_
 refine ay ?_
 refine ay ?_
 refine bh (t:=15) (v':= .bool true) rfl (congrArg Value.bool (decide_eq_true rfl))<|aj ?_
 refine bX rfl PN (fun w hw=>BO a b m1 m1 rfl w (h1.ro hw) (h2.ro hw))<|aj ?_
 intro w hw
 exact⟨rfl,hw.below⟩
end
