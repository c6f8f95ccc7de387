/- Lemmas of one proof. -/
import Derived.Test.YthfkmcbblnbfaaaGreatDoorM90W
import Derived.Test.YthfkmcbblnbfaaaGreatDoorM0W
import Derived.Test.YthfkmcbblnbfaaaGreatDoorM45W

namespace Go.Proofs.YthfkmcbblnbfaaaGreatDoor
set_option maxRecDepth 100000
set_option maxHeartbeats 16000000
open Go.RowKit
section
theorem Se {B:Nat} {w0:World} {w:Option Addr} {y:Nat} {fs:List aw} (E:bO w0 B (ac w fs.length y) fs) {a:MA} {m:av} (u:fV B w0 a m) (g:fP fs) (e:bU fs m) (T:¬(m.S=2\/m.S=3)) {o:List aK} {x:aK} (c:m.F=o++ [x]) {li:List (aF×aK)} (t:li.map Prod.snd=o) (O:gP li) {k:Nat} (D:o.length=k) :
  ∃f:Nat,x.func=f/\f<fs.length/\(0<=x.pc/\x.pc<=1000)/\nQ B w0 fs m a li k w y x.func x.pc (x.pc+1) x.L x.K (bd fs m) (au fs f).result:=by
 obtain⟨p,d,f,b⟩:=Ck E g e T;have F:p=o/\d=x:=by
  have G:=b.fr.symm.trans c;obtain⟨r,s⟩:=List.append_inj' G rfl;exact⟨r,ψ s⟩
 obtain⟨rfl,rfl⟩:=F;have N:li.length=k:=by rw[<-D,<-t,aL]
 have V:io m=d:=by unfold io;rw[c];simp
 have v:bd fs m=bH (au fs f).C d.pc.toNat:=by unfold bd;rw[V,b.fn];rfl
 obtain⟨_,_,_,_,_,_,⟨A,C⟩,_⟩:=u.f.fr (k:=p.length) (by rw[c];simp);have z:aQ m.F p.length=d:=by rw[c];exact nJ
 rw[z] at A C;have l:=O4 g e (i:=p.length) (by rw[c];simp);rw[z] at l;have:=b.cl;refine⟨f,b.fn,b.hkf,by have:=b.pc;omega,⟨N,O,E,u,kK g e,v▸b.nd,b.bl,b.sl,b.ol,by have:=b.n6;omega,fun Y S=>b.st Y.2 (by rw[<-t];exact kz S),v▸b.oa,⟨A,C,by have:=b.pc;unfold aI;omega⟩,fun j h=>nI (l.s.2 j h),fun j h=>nI (l.l.2 j h),u.s,⟨by rw[b.fn];omega,by rw[b.fn];exact_mod_cast b.hkf,by rw[b.fn];rfl,?_⟩,by rw[c,ar,D];rfl,?_,rfl,by rw[t];exact c,by have:=e.ib;omega,fun Z X=>nI (e.ii Z X),fun j h=>by have:=l.s.2 j h;unfold bT at this;simp only[dC,decide_eq_true_eq] at this;omega⟩⟩
 ·have:=(lj ((iE g.p).2.2 _ (jN b.hkf))).2.2.1;omega
 intro K;have U:=e.top c;obtain⟨_,_,a0,L,W⟩:=U;have M:d.func.toNat<fs.length:=by rw[b.fn];simpa using b.hkf
 obtain⟨ad,al,q,I,J,_⟩:=rX g M L W;have R:bH (au fs d.func.toNat).C d.pc.toNat=bd fs m:=by rw[v,b.fn];rfl
 rw[R] at q;simp[tl,K] at q;obtain⟨rfl,rfl⟩:=q;have r:1<=d.K.length:=I;have s:=fe.top J r;exact(Ms (s.cell (k:=0) rfl rfl (by show 0<1;decide))).2
structure VG where
 s:List aD
 As:Option Addr
 cs:Nat
 l:List aD
 b:List (List Int)
 Ab:Option Addr
 cb:Nat
 i:List Int
 Ai:Option Addr
 ci:Nat
 o:List Int
 Ao:Option Addr
 co:Nat
 st:Int
 nx:Int
theorem Gl (R:Option Addr) (W:Nat) (fs:List aw) (a:MA) (m J:av) (cf:eV fs m=J) (w:World) (cg:Sl w (ac R fs.length W) fs) (ch:fV w.heap.size w a m) (cm:fP fs) (ce:bU fs m) :
  Calls Tryz.prog 51 #[.agg #[ac R fs.length W],.agg #[ac a.Af m.F.length a.cf,ac a.Ab m.B.length a.cb,ac a.Ai m.I.length a.ci,ac a.Ao m.out.length a.co,ai m.S,ai m.T]] w fun e w'=> ∃g:MA,True/\
   e= .returned (.agg #[ac g.Af J.F.length g.cf,ac g.Ab J.B.length g.cb,ac g.Ai J.I.length g.ci,ac g.Ao J.out.length g.co,ai J.S,ai J.T])/\
   Cw w.heap.size w [an (ac g.Af J.F.length g.cf) J.F,an (ac g.Ab J.B.length g.cb) J.B,an (ac g.Ai J.I.length g.ci) J.I,an (ac g.Ao J.out.length g.co) J.out] w':=by
 have cv:=kK cm ce;have:=ce.st;have:=bx cg;refine enter Tryz.func51 rfl Tryz.ntmps51 rfl<|aj ?_;refine fun a0 _=>aj ?_;refine fun a1 _=>aj ?_;refine fun ad _=>ax (fun cd=>?_) (fun cd=>?_)
 ·have cd:1<m.S:=cd;obtain rfl:m=J:=by rw[<-cf];unfold eV;rw[if_pos ω]
  refine aj ?_;refine eu rfl xS (fun w L=>nB a m w (ch.ro L) cv) (fun c0 _=>aj ?_);intro w L;exact⟨c0,trivial,rfl,L.msub ms⟩
 have cd:¬1<m.S:=cd;have dn:¬(m.S=2\/m.S=3):=ω;have cw:m.F≠[]:=fun e=>by have:=ce.dn.1 e;omega
 obtain⟨ci,x,bg⟩:∃y x,m.F=y++ [x]:=by
  rcases eX m.F with ck | ⟨ds,d0,ck⟩
  ·exact absurd ck cw
  exact⟨ds,d0,by rw[ck];simp⟩
 obtain⟨D,co⟩:∃D,ci.length=D:=⟨_,rfl⟩
 have c8:m.F.length=D+1:=by rw[bg,ar,co];rfl
 have c9:(ci++ [x]).length=D+1:=by rw[ar,co];rfl
 refine aj ?_;refine eu rfl xS (fun w L=>nB a m w (ch.ro L) cv) (fun⟨K,M,N,U,Y,Z,O,V⟩ _=>?_);refine aP ?_;intro al _;refine dN (dk _ fc cn rfl rfl rfl rfl rfl (by rfl) rfl (by rfl)) rfl rfl (fun _ _=>?_);refine bL<|dm (H':= [ag K M (ci++ [x]),ag N U m.B,ag Y Z m.I,ag O V m.out,ak al [ac K (D+1) M,ac N m.B.length U,ac Y m.I.length Z,ac O m.out.length V,ai m.S,ai m.T] 43,ak ad [ac none 0 0,ac none 0 0,ac none 0 0,ac none 0 0,ai 0,ai 0] 43,ak a1 (ah a m) 43,ak a0 [ac R fs.length W] 24]) (fun w bb=>by rw[<-c8,<-bg];exact bb.msub ms) ?_;refine Iq fc fun y E S F X cp cx=>?_;rw[c9];obtain⟨b,c6,c7,d5,I⟩:=Se cg ch cm ce dn bg cp cx co;have cb:(y.map Prod.fst).length=D:=by rw[aL];exact I.hk
 obtain⟨a2,a4,a3,a5,d3,d4,bc,c4⟩:=cg.fn c7;have:=I.k6;refine aj ?_;refine bj (t:=39) (v':= ai (D:Int)) rfl (by congr 1;omega) ?_;refine cP D rfl ((SF.own (xs:=y.map Prod.fst++ [(⟨x.func,x.pc,ac E x.L.length F,ac S x.K.length X⟩:aF)]) (by rw[ar,cb];rfl) fc))<|aj ?_;refine cO rfl Tryz.call108 (fun w L=>EO R W fs a m w (L.ro cg) (ch.ro L) cm ce cw)<|aj ?_;refine fun a6 _=>aj ?_;refine bq [0,3,6,9,12,15,18,21,26,29] [9] rfl<|aj ?_;refine tE rfl (bY (fX (j:=0) cb fc rfl) rfl rfl bF) ?_;refine dr (t:=49) (v':= ai (b:Int)) rfl (by rw[c6]) ?_;refine tE rfl (aX (k:=b) ff fw (.ro cg) ω rfl rfl rfl) ?_;refine tE rfl (eC (c4 _) rfl rfl zv fw)<|aj ?_;refine fun a7 _=>aj ?_;refine ef rfl (fX (j:=3) cb fc rfl)<|aj ?_;refine fun am _=>aj ?_;refine fun a8 _=>aj ?_;refine ef rfl (fX (j:=1) cb fc rfl) ?_;refine bj (t:=62) (v':= ai x.pc) rfl rfl<|dR (tV rfl rfl rfl ω) rfl rfl<|aC ?_;refine bL<|cE<|cE<|bQ<|aC ?_;refine dR (df fc bF rfl rfl (by rfl)) rfl rfl ?_;refine bL ?_;have ct:(bd fs m).c≠21->mO fs m=bR fs m (y.map Prod.snd) ⟨x.func,x.pc+1,x.L,x.K⟩ (bd fs m):=fun bb=>by
  unfold mO;have cj:io m=x:=by unfold io;rw[bg];simp
  rw[if_neg bb,cj,bg,List.dropLast_concat,<-cp]
 have ca:(bd fs m).c≠21->∀G:av,(∃cq,bR fs m (y.map Prod.snd) ⟨x.func,x.pc+1,x.L,x.K⟩ (bd fs m)= .inl cq/\G= {m with S:=3,T:=cq})->J=G:=fun bb G ⟨cq,cl,c3⟩=>by
  rw[<-cf,Cl ω ω ((ct bb).trans cl),c3]
 have a9:(bd fs m).c≠21->∀G:av,bR fs m (y.map Prod.snd) ⟨x.func,x.pc+1,x.L,x.K⟩ (bd fs m)= .inr G->J=G:=fun bb G cl=>by
  rw[<-cf,sN ω ω ((ct bb).trans cl)]
 have c1:(bd fs m).c=21->m.I≠[]->J=⟨y.map Prod.snd++ [⟨x.func,x.pc+1,x.L,x.K++ [cY (m.I.getD 0 0)]⟩],m.B,m.I.drop 1,m.out,0,m.T⟩:=fun bb bc=>by
  have cj:io m=x:=by unfold io;rw[bg];simp
  rw[<-cf];refine sN ω ω ?_;unfold mO;rw[if_pos bb,if_neg bc,cj,bg,List.dropLast_concat,<-cp]
 have c2:(bd fs m).c=21->m.I= []->J= {m with S:=1} :=fun bb bc=>by
  rw[<-cf];refine sN ω ω ?_;unfold mO;rw[if_pos bb,if_pos bc]
 refine jJ (fun g:VG=>(aI g.nx/\aI g.st)/\J=⟨y.map Prod.snd++ [⟨x.func,g.nx,g.l,g.s⟩],g.b,g.i,g.o,g.st,m.T⟩) (fun g=> [(4,af ad),(5,af al),(6,.pointer (some ⟨ab K,ao K+D*4,none⟩)),(9,af am),(13,ai g.nx)]) (fun g=> [ak am [ac g.As g.s.length g.cs] 116,ag g.As g.cs g.s,ak ad [ac none 0 0,ac none 0 0,ac none 0 0,ac none 0 0,ai 0,ai 0] 43,ak al [ac K (D+1) M,ac g.Ab g.b.length g.cb,ac g.Ai g.i.length g.ci,ac g.Ao g.o.length g.co,ai g.st,ai m.T] 43,an (ac K (D+1) M) (y.map Prod.fst++ [(⟨x.func,x.pc,ac E g.l.length F,ac S x.K.length X⟩:aF)]),ag E F g.l,cJ y,ag g.Ab g.cb g.b,ag g.Ai g.ci g.i,ag g.Ao g.co g.o]) ?_ ?_
 ·refine ax (fun bi=>?_) (fun bi=>?_)
  ·have bi:(bd fs m).c=1:=bi;refine jq (Vf a0 a1 ad al a6 a7 am a8 D y K E S R N Y O M F X W U Z V a m x.func x.pc (x.pc+1) (au fs b).result x.L x.K (bd fs m) fs [ac none 0 0,ac none 0 0,ac none 0 0,ac none 0 0,ai 0,ai 0] (ai (au fs b).params) (ac a2 (au fs b).L.length a4) (ac a3 (au fs b).C.length a5) I bi (fun d f h c q o r u k l v p s z i A C=>?_)) ⟨rfl,rfl,rfl,rfl,rfl,rfl,rfl,trivial⟩ me;refine(fK ?_);refine bX ⟨d,f,h,c,q,o,r,u,k,l,v,p,s,z,i⟩ (⟨A,a9 ω _ C⟩)
  have bi:¬(bd fs m).c=1:=bi;refine ax (fun b1=>?_) (fun b1=>?_)
  ·have b1:(bd fs m).c=2:=b1;refine jq (Ve a0 a1 ad al a6 a7 am a8 D y K E S R N Y O M F X W U Z V a m x.func x.pc (x.pc+1) (au fs b).result x.L x.K (bd fs m) fs [ac none 0 0,ac none 0 0,ac none 0 0,ac none 0 0,ai 0,ai 0] (ai (au fs b).params) (ac a2 (au fs b).L.length a4) (ac a3 (au fs b).C.length a5) I b1 (fun d f h c q o r u k l v p s z i A C=>?_)) ⟨rfl,rfl,rfl,rfl,rfl,rfl,trivial⟩ me;refine(fK ?_);refine bX ⟨d,f,h,c,q,o,r,u,k,l,v,p,s,z,i⟩ (⟨A,a9 ω _ C⟩)
  have b1:¬(bd fs m).c=2:=b1;refine ax (fun b3=>?_) (fun b3=>?_)
  ·have b3:(bd fs m).c=3:=b3;refine jq (Vd a0 a1 ad al a6 a7 am a8 D y K E S R N Y O M F X W U Z V a m x.func x.pc (x.pc+1) (au fs b).result x.L x.K (bd fs m) fs [ac none 0 0,ac none 0 0,ac none 0 0,ac none 0 0,ai 0,ai 0] (ai (au fs b).params) (ac a2 (au fs b).L.length a4) (ac a3 (au fs b).C.length a5) I b3 (fun d f h c q o r u k l v p s z i A C=>?_)) ⟨rfl,rfl,rfl,rfl,rfl,rfl,trivial⟩ me;refine(fK ?_);refine bX ⟨d,f,h,c,q,o,r,u,k,l,v,p,s,z,i⟩ (⟨A,a9 ω _ C⟩)
  have b3:¬(bd fs m).c=3:=b3;refine ax (fun b4=>?_) (fun b4=>?_)
  ·have b4:(bd fs m).c=4:=b4;refine jq (Vc a0 a1 ad al a6 a7 am a8 D y K E S R N Y O M F X W U Z V a m x.func x.pc (x.pc+1) (au fs b).result x.L x.K (bd fs m) fs [ac none 0 0,ac none 0 0,ac none 0 0,ac none 0 0,ai 0,ai 0] (ai (au fs b).params) (ac a2 (au fs b).L.length a4) (ac a3 (au fs b).C.length a5) I b4 (fun d f h c q o r u k l v p s z i A C=>?_)) ⟨rfl,rfl,rfl,rfl,rfl,rfl,trivial⟩ me;refine(fK ?_);refine bX ⟨d,f,h,c,q,o,r,u,k,l,v,p,s,z,i⟩ (⟨A,a9 ω _ C⟩)
  have b4:¬(bd fs m).c=4:=b4;refine ax (fun b5=>?_) (fun b5=>?_)
  ·have b5:(bd fs m).c=5:=b5;refine jq (Vb a0 a1 ad al a6 a7 am a8 D y K E S R N Y O M F X W U Z V a m x.func x.pc (x.pc+1) (au fs b).result x.L x.K (bd fs m) fs [ac none 0 0,ac none 0 0,ac none 0 0,ac none 0 0,ai 0,ai 0] (ai (au fs b).params) (ac a2 (au fs b).L.length a4) (ac a3 (au fs b).C.length a5) I b5 (fun d f h c q o r u k l v p s z i A C=>?_)) ⟨rfl,rfl,rfl,rfl,rfl,rfl,rfl,trivial⟩ me;refine(fK ?_);refine bX ⟨d,f,h,c,q,o,r,u,k,l,v,p,s,z,i⟩ (⟨A,a9 ω _ C⟩)
  have b5:¬(bd fs m).c=5:=b5;refine ax (fun b6=>?_) (fun b6=>?_)
  ·have b6:(bd fs m).c=6:=b6;refine jq (Va a0 a1 ad al a6 a7 am a8 D y K E S R N Y O M F X W U Z V a m x.func x.pc (x.pc+1) (au fs b).result x.L x.K (bd fs m) fs [ac none 0 0,ac none 0 0,ac none 0 0,ac none 0 0,ai 0,ai 0] (ai (au fs b).params) (ac a2 (au fs b).L.length a4) (ac a3 (au fs b).C.length a5) I b6 (fun d f h c q o r u k l v p s z i A C=>?_)) ⟨rfl,rfl,rfl,rfl,rfl,rfl,rfl,trivial⟩ me;refine(fK ?_);refine bX ⟨d,f,h,c,q,o,r,u,k,l,v,p,s,z,i⟩ (⟨A,a9 ω _ C⟩)
  have b6:¬(bd fs m).c=6:=b6;refine ax (fun b7=>?_) (fun b7=>?_)
  ·have b7:(bd fs m).c=7:=b7;refine jq (U9 a0 a1 ad al a6 a7 am a8 D y K E S R N Y O M F X W U Z V a m x.func x.pc (x.pc+1) (au fs b).result x.L x.K (bd fs m) fs [ac none 0 0,ac none 0 0,ac none 0 0,ac none 0 0,ai 0,ai 0] (ai (au fs b).params) (ac a2 (au fs b).L.length a4) (ac a3 (au fs b).C.length a5) I b7 (fun d f h c q o r u k l v p s z i A C=>?_)) ⟨rfl,rfl,rfl,rfl,rfl,rfl,rfl,trivial⟩ me;refine(fK ?_);refine bX ⟨d,f,h,c,q,o,r,u,k,l,v,p,s,z,i⟩ (⟨A,a9 ω _ C⟩)
  have b7:¬(bd fs m).c=7:=b7;refine ax (fun b8=>?_) (fun b8=>?_)
  ·have b8:(bd fs m).c=8:=b8;refine jq (U8 a0 a1 ad al a6 a7 am a8 D y K E S R N Y O M F X W U Z V a m x.func x.pc (x.pc+1) (au fs b).result x.L x.K (bd fs m) fs [ac none 0 0,ac none 0 0,ac none 0 0,ac none 0 0,ai 0,ai 0] (ai (au fs b).params) (ac a2 (au fs b).L.length a4) (ac a3 (au fs b).C.length a5) I b8 (fun d f h c q o r u k l v p s z i A C=>?_)) ⟨rfl,rfl,rfl,rfl,rfl,rfl,trivial⟩ me;refine(fK ?_);refine bX ⟨d,f,h,c,q,o,r,u,k,l,v,p,s,z,i⟩ (⟨A,a9 ω _ C⟩)
  have b8:¬(bd fs m).c=8:=b8;refine ax (fun b9=>?_) (fun b9=>?_)
  ·have b9:(bd fs m).c=9:=b9;refine jq (U7 a0 a1 ad al a6 a7 am a8 D y K E S R N Y O M F X W U Z V a m x.func x.pc (x.pc+1) (au fs b).result x.L x.K (bd fs m) fs [ac none 0 0,ac none 0 0,ac none 0 0,ac none 0 0,ai 0,ai 0] (ai (au fs b).params) (ac a2 (au fs b).L.length a4) (ac a3 (au fs b).C.length a5) I b9 (fun d f h c q o r u k l v p s z i A C=>?_)) ⟨rfl,rfl,rfl,rfl,rfl,rfl,rfl,trivial⟩ me;refine(fK ?_);refine bX ⟨d,f,h,c,q,o,r,u,k,l,v,p,s,z,i⟩ (⟨A,a9 ω _ C⟩)
  have b9:¬(bd fs m).c=9:=b9;refine ax (fun bk=>?_) (fun bk=>?_)
  ·have bk:(bd fs m).c=10:=bk;refine jq (Uo a0 a1 ad al a6 a7 am a8 D y K E S R N Y O M F X W U Z V a m x.func x.pc (x.pc+1) (au fs b).result x.L x.K (bd fs m) fs [ac none 0 0,ac none 0 0,ac none 0 0,ac none 0 0,ai 0,ai 0] (ai (au fs b).params) (ac a2 (au fs b).L.length a4) (ac a3 (au fs b).C.length a5) I bk (fun d f h c q o r u k l v p s z i A C=>?_)) ⟨rfl,rfl,rfl,rfl,rfl,trivial⟩ me;refine(fK ?_);refine bX ⟨d,f,h,c,q,o,r,u,k,l,v,p,s,z,i⟩ (⟨A,a9 ω _ C⟩)
  have bk:¬(bd fs m).c=10:=bk;refine ax (fun bl=>?_) (fun bl=>?_)
  ·have bl:(bd fs m).c=11:=bl;refine jq (Un a0 a1 ad al a6 a7 am a8 D y K E S R N Y O M F X W U Z V a m x.func x.pc (x.pc+1) (au fs b).result x.L x.K (bd fs m) fs [ac none 0 0,ac none 0 0,ac none 0 0,ac none 0 0,ai 0,ai 0] (ai (au fs b).params) (ac a2 (au fs b).L.length a4) (ac a3 (au fs b).C.length a5) I bl (fun d f h c q o r u k l v p s z i A C=>?_)) ⟨rfl,rfl,rfl,rfl,rfl,rfl,rfl,trivial⟩ me;refine(fK ?_);refine bX ⟨d,f,h,c,q,o,r,u,k,l,v,p,s,z,i⟩ (⟨A,a9 ω _ C⟩)
  have bl:¬(bd fs m).c=11:=bl;refine ax (fun bm=>?_) (fun bm=>?_)
  ·have bm:(bd fs m).c=12:=bm;refine jq (Um a0 a1 ad al a6 a7 am a8 D y K E S R N Y O M F X W U Z V a m x.func x.pc (x.pc+1) (au fs b).result x.L x.K (bd fs m) fs [ac none 0 0,ac none 0 0,ac none 0 0,ac none 0 0,ai 0,ai 0] (ai (au fs b).params) (ac a2 (au fs b).L.length a4) (ac a3 (au fs b).C.length a5) I bm rfl (fun G g ba=>?_) (fun G g ba=>?_)) ⟨rfl,rfl,rfl,rfl,rfl,rfl,rfl,rfl,rfl,trivial⟩ me
   ·obtain rfl:J=G:=ca ω G ba;refine(mC (fz ?_));refine lb mU ?_;intro w L;exact⟨g,trivial,rfl,L.msub ms⟩
   obtain rfl:J=G:=a9 ω G ba;refine(mC (fz ?_));refine lb mU ?_;intro w L;exact⟨g,trivial,rfl,L.msub ms⟩
  have bm:¬(bd fs m).c=12:=bm;refine ax (fun bn=>?_) (fun bn=>?_)
  ·have bn:(bd fs m).c=13:=bn;refine jq (Ul a0 a1 ad al a6 a7 am a8 D y K E S R N Y O M F X W U Z V a m x.func x.pc (x.pc+1) (au fs b).result x.L x.K (bd fs m) fs [ac none 0 0,ac none 0 0,ac none 0 0,ac none 0 0,ai 0,ai 0] (ai (au fs b).params) (ac a2 (au fs b).L.length a4) (ac a3 (au fs b).C.length a5) I bn rfl (fun G g ba=>?_)) ⟨rfl,rfl,rfl,rfl,rfl,trivial⟩ me
   ·obtain rfl:J=G:=a9 ω G ba;refine(mC (fz ?_));refine lb mU ?_;intro w L;exact⟨g,trivial,rfl,L.msub ms⟩
  have bn:¬(bd fs m).c=13:=bn;refine ax (fun bo=>?_) (fun bo=>?_)
  ·have bo:(bd fs m).c=14:=bo;refine jq (Uk a0 a1 ad al a6 a7 am a8 D y K E S R N Y O M F X W U Z V a m x.func x.pc (x.pc+1) (au fs b).result x.L x.K (bd fs m) fs [ac none 0 0,ac none 0 0,ac none 0 0,ac none 0 0,ai 0,ai 0] (ai (au fs b).params) (ac a2 (au fs b).L.length a4) (ac a3 (au fs b).C.length a5) I bo rfl (fun d f h c q o r u k l v p s z i A C=>?_) (fun G g ba=>?_)) ⟨rfl,rfl,rfl,rfl,rfl,rfl,rfl,trivial⟩ me
   ·refine(fK ?_);refine bX ⟨d,f,h,c,q,o,r,u,k,l,v,p,s,z,i⟩ (⟨A,a9 ω _ C⟩)
   obtain rfl:J=G:=ca ω G ba;refine(mC (fz ?_));refine lb mU ?_;intro w L;exact⟨g,trivial,rfl,L.msub ms⟩
  have bo:¬(bd fs m).c=14:=bo;refine ax (fun bp=>?_) (fun bp=>?_)
  ·have bp:(bd fs m).c=15:=bp;refine jq (Uj a0 a1 ad al a6 a7 am a8 D y K E S R N Y O M F X W U Z V a m x.func x.pc (x.pc+1) (au fs b).result x.L x.K (bd fs m) fs [ac none 0 0,ac none 0 0,ac none 0 0,ac none 0 0,ai 0,ai 0] (ai (au fs b).params) (ac a2 (au fs b).L.length a4) (ac a3 (au fs b).C.length a5) I bp rfl (fun d f h c q o r u k l v p s z i A C=>?_) (fun G g ba=>?_)) ⟨rfl,rfl,rfl,rfl,rfl,rfl,rfl,rfl,rfl,trivial⟩ me
   ·refine(fK ?_);refine bX ⟨d,f,h,c,q,o,r,u,k,l,v,p,s,z,i⟩ (⟨A,a9 ω _ C⟩)
   obtain rfl:J=G:=ca ω G ba;refine(mC (fz ?_));refine lb mU ?_;intro w L;exact⟨g,trivial,rfl,L.msub ms⟩
  have bp:¬(bd fs m).c=15:=bp;refine ax (fun bs=>?_) (fun bs=>?_)
  ·have bs:(bd fs m).c=16:=bs;refine jq (Ui a0 a1 ad al a6 a7 am a8 D y K E S R N Y O M F X W U Z V a m x.func x.pc (x.pc+1) (au fs b).result x.L x.K (bd fs m) fs [ac none 0 0,ac none 0 0,ac none 0 0,ac none 0 0,ai 0,ai 0] (ai (au fs b).params) (ac a2 (au fs b).L.length a4) (ac a3 (au fs b).C.length a5) I bs rfl (fun d f h c q o r u k l v p s z i A C=>?_) (fun G g ba=>?_)) ⟨rfl,rfl,rfl,rfl,rfl,rfl,rfl,rfl,trivial⟩ me
   ·refine(fK ?_);refine bX ⟨d,f,h,c,q,o,r,u,k,l,v,p,s,z,i⟩ (⟨A,a9 ω _ C⟩)
   obtain rfl:J=G:=ca ω G ba;refine(mC (fz ?_));refine lb mU ?_;intro w L;exact⟨g,trivial,rfl,L.msub ms⟩
  have bs:¬(bd fs m).c=16:=bs;refine ax (fun bv=>?_) (fun bv=>?_)
  ·have bv:(bd fs m).c=17:=bv;refine jq (Uh a0 a1 ad al a6 a7 am a8 D y K E S R N Y O M F X W U Z V a m x.func x.pc (x.pc+1) (au fs b).result x.L x.K (bd fs m) fs [ac none 0 0,ac none 0 0,ac none 0 0,ac none 0 0,ai 0,ai 0] (ai (au fs b).params) (ac a2 (au fs b).L.length a4) (ac a3 (au fs b).C.length a5) I bv rfl (fun d f h c q o r u k l v p s z i A C=>?_) (fun G g ba=>?_)) ⟨rfl,rfl,rfl,rfl,rfl,rfl,rfl,rfl,rfl,trivial⟩ me
   ·refine(fK ?_);refine bX ⟨d,f,h,c,q,o,r,u,k,l,v,p,s,z,i⟩ (⟨A,a9 ω _ C⟩)
   obtain rfl:J=G:=ca ω G ba;refine(mC (fz ?_));refine lb mU ?_;intro w L;exact⟨g,trivial,rfl,L.msub ms⟩
  have bv:¬(bd fs m).c=17:=bv;refine ax (fun bw=>?_) (fun bw=>?_)
  ·have bw:(bd fs m).c=18:=bw;refine jq (Ug a0 a1 ad al a6 a7 am a8 D y K E S R N Y O M F X W U Z V a m x.func x.pc (x.pc+1) (au fs b).result x.L x.K (bd fs m) fs [ac none 0 0,ac none 0 0,ac none 0 0,ac none 0 0,ai 0,ai 0] (ai (au fs b).params) (ac a2 (au fs b).L.length a4) (ac a3 (au fs b).C.length a5) I bw (fun d f h c q o r u k l v p s z i A C=>?_)) ⟨rfl,rfl,rfl,rfl,rfl,trivial⟩ me;refine(fK ?_);refine bX ⟨d,f,h,c,q,o,r,u,k,l,v,p,s,z,i⟩ (⟨A,a9 ω _ C⟩)
  have bw:¬(bd fs m).c=18:=bw;refine ax (fun b0=>?_) (fun b0=>?_)
  ·have b0:(bd fs m).c=19:=b0;refine jq (Uf a0 a1 ad al a6 a7 am a8 D y K E S R N Y O M F X W U Z V a m x.func x.pc (x.pc+1) (au fs b).result x.L x.K (bd fs m) fs [ac none 0 0,ac none 0 0,ac none 0 0,ac none 0 0,ai 0,ai 0] (ai (au fs b).params) (ac a2 (au fs b).L.length a4) (ac a3 (au fs b).C.length a5) I b0 (fun d f h c q o r u k l v p s z i A C=>?_)) ⟨rfl,rfl,rfl,rfl,rfl,rfl,rfl,rfl,trivial⟩ me;refine(fK ?_);refine bX ⟨d,f,h,c,q,o,r,u,k,l,v,p,s,z,i⟩ (⟨A,a9 ω _ C⟩)
  have b0:¬(bd fs m).c=19:=b0;refine ax (fun b2=>?_) (fun b2=>?_)
  ·have b2:(bd fs m).c=20:=b2;refine jq (Ue a0 a1 ad al a6 a7 am a8 D y K E S R N Y O M F X W U Z V a m x.func x.pc (x.pc+1) (au fs b).result x.L x.K (bd fs m) fs [ac none 0 0,ac none 0 0,ac none 0 0,ac none 0 0,ai 0,ai 0] (ai (au fs b).params) (ac a2 (au fs b).L.length a4) (ac a3 (au fs b).C.length a5) I b2 rfl (fun d f h c q o r u k l v p s z i A C=>?_) (fun G g ba=>?_)) ⟨rfl,rfl,rfl,rfl,rfl,rfl,rfl,trivial⟩ me
   ·refine(fK ?_);refine bX ⟨d,f,h,c,q,o,r,u,k,l,v,p,s,z,i⟩ (⟨A,a9 ω _ C⟩)
   obtain rfl:J=G:=ca ω G ba;refine(mC (fz ?_));refine lb mU ?_;intro w L;exact⟨g,trivial,rfl,L.msub ms⟩
  have b2:¬(bd fs m).c=20:=b2;refine ax (fun bf=>?_) (fun bf=>?_)
  ·have bf:(bd fs m).c=21:=bf;refine jq (Ud a0 a1 ad al a6 a7 am a8 D y K E S R N Y O M F X W U Z V a m x.func x.pc (x.pc+1) (au fs b).result x.L x.K (bd fs m) fs [ac none 0 0,ac none 0 0,ac none 0 0,ac none 0 0,ai 0,ai 0] (ai (au fs b).params) (ac a2 (au fs b).L.length a4) (ac a3 (au fs b).C.length a5) I rfl (fun f h k l bc=>?_) (fun g bc=>?_)) ⟨rfl,rfl,rfl,rfl,rfl,rfl,trivial⟩ me
   ·refine(fK ?_);refine bX ⟨x.K++ [cY (m.I.getD 0 0)],f,h,x.L,m.B,N,U,m.I.drop 1,k,l,m.out,O,V,0,x.pc+1⟩ (⟨⟨I.pi.2.2,by show aI 0;decide⟩,c1 bf bc⟩)
   obtain rfl:J= {m with S:=1} :=c2 bf bc;refine(mC (fz ?_));refine lb mU ?_;intro w L;exact⟨g,trivial,rfl,L.msub ms⟩
  have bf:¬(bd fs m).c=21:=bf;refine aj ?_;refine bX ⟨x.K,S,X,x.L,m.B,N,U,m.I,Y,Z,m.out,O,V,m.S,x.pc+1⟩ (⟨⟨I.pi.2.2,I.hms⟩,a9 ω _ (by dsimp only[bR];rw[if_neg ω];rw[if_neg ω];rw[if_neg ω];rw[if_neg ω];rw[if_neg ω];rw[if_neg ω];rw[if_neg ω];rw[if_neg ω];rw[if_neg ω];rw[if_neg ω];rw[if_neg ω];rw[if_neg ω];rw[if_neg ω];rw[if_neg ω];dsimp only[gZ];rw[if_neg ω];rw[if_neg ω];rw[if_neg ω];rw[if_neg ω];rw[if_neg ω];rw[if_neg ω];skip)⟩)
 rintro⟨d,f,h,c,q,o,r,u,k,l,v,p,s,z,i⟩ ⟨⟨dj,d6⟩,c5⟩;dsimp only at *;subst c5;refine cE<|bQ<|aC ?_;refine aC ?_;refine dR (df fc ed rfl rfl (by rfl)) rfl rfl ?_;refine aC ?_;refine aC ?_;refine aC ?_;refine oE (mY (α:=aF) ⟨x.func,x.pc,ac E c.length F,ac S x.K.length X⟩ ⟨x.func,x.pc,ac E c.length F,ac f d.length h⟩ cb fc ⟨⟨I.pi.1,I.pi.2.1⟩,rfl,rfl⟩ fy rfl rfl rfl rfl rfl rfl rfl rfl) (fun _ _=>?_);refine aC ?_;refine aC ?_;refine oE (mY (α:=aF) ⟨x.func,x.pc,ac E c.length F,ac f d.length h⟩ ⟨x.func,i,ac E c.length F,ac f d.length h⟩ cb fc ⟨⟨I.pi.1,dj⟩,rfl,rfl⟩ aZ rfl rfl rfl rfl rfl rfl rfl rfl) (fun _ _=>aj ?_);intro w L;have cs:(y.map Prod.snd++ [(⟨x.func,i,c,d⟩:aK)]).length=D+1:=by rw[ar,aL,I.hk];rfl
 refine⟨⟨K,M,o,r,k,l,p,s⟩,trivial,?_,?_⟩
 ·dsimp only;rw[cs]
 dsimp only;rw[cs];exact(oW (li:=y) (h:=⟨x.func,i,ac E c.length F,ac f d.length h⟩) (x:=⟨x.func,i,c,d⟩) cx ⟨rfl,rfl⟩ (L.msub (T:=an (ac K (D+1) M) (y.map Prod.fst++ [(⟨x.func,i,ac E c.length F,ac f d.length h⟩:aF)])::ag E F c::ag f h d::cJ y:: [ag o r q,ag k l u,ag p s v]) ms)).msub ms
end
section
theorem Gp (c:Int) (w:World):Calls Tryz.prog 202 #[ai c] w fun e w'=>e= .returned (ai (eR c))/\Below w.heap.size w w':=by
 refine enter Tryz.func202 rfl Tryz.ntmps202 rfl<|ax (fun a=>?_) (fun a=>?_)
 ·have a:c=14:=a;refine aj ?_;intro w d;exact⟨fh (by unfold eR;rw[if_pos a]),d.below⟩
 have a:¬c=14:=a;refine ax (fun b=>?_) (fun b=>?_)
 ·have b:c=12:=b;refine aj ?_;intro w d;exact⟨fh (by unfold eR;rw[if_neg a,if_pos b]),d.below⟩
 have b:¬c=12:=b;refine aj ?_;intro w d;exact⟨fh (by unfold eR;rw[if_neg a,if_neg b]),d.below⟩
theorem zL (i:Option Addr) (j:Nat) (fs:List aw) (a:MA) (m:av) (k:Int) (r:av×Int) (O:fW fs m k=r) (w:World) (D:Sl w (ac i fs.length j) fs) (L:fV w.heap.size w a m) (s:fP fs) (C:bU fs m) (K:0<=k/\k<=10000) :
  Calls Tryz.prog 145 #[.agg #[ac i fs.length j],.agg #[ac a.Af m.F.length a.cf,ac a.Ab m.B.length a.cb,ac a.Ai m.I.length a.ci,ac a.Ao m.out.length a.co,ai m.S,ai m.T],ai k] w fun e w'=> ∃g:MA,True/\
   e= .returned (.tuple #[.agg #[ac g.Af r.1.F.length g.cf,ac g.Ab r.1.B.length g.cb,ac g.Ai r.1.I.length g.ci,ac g.Ao r.1.out.length g.co,ai r.1.S,ai r.1.T],ai r.2])/\Cw w.heap.size w [an (ac g.Af r.1.F.length g.cf) r.1.F,an (ac g.Ab r.1.B.length g.cb) r.1.B,an (ac g.Ai r.1.I.length g.ci) r.1.I,an (ac g.Ao r.1.out.length g.co) r.1.out] w':=by
 have J:=kK s C;refine enter Tryz.func145 rfl Tryz.ntmps145 rfl<|aj ?_;refine fun y _=>aj ?_;refine fun p _=>aj ?_;refine fun q _=>aj ?_;refine eu rfl xS (fun w b=>nB a m w (L.ro b) J) (fun G _=>?_);refine dN (dk _ fc cn rfl rfl rfl rfl rfl (by rfl) rfl (by rfl)) rfl rfl (fun _ _=>?_);refine bL<|dG (fun g:(av×Int)×MA=>g.1=r) (fun g=> [(2,ai g.1.2),(4,af p),(6,af q)]) (fun g=> (ak p (ah g.2 g.1.1) 43::ae g.2 g.1.1 [ak q [ac none 0 0,ac none 0 0,ac none 0 0,ac none 0 0,ai 0,ai 0] 43,ak y [ac i fs.length j] 24])) ?_ ?_
 ·refine cZ (fun g:(av×Int)×MA=>(bU fs g.1.1/\0<=g.1.2/\g.1.2<=10000)/\fW fs g.1.1 g.1.2=r) (fun g=>g.1.2.toNat) (fun g=> [(2,ai g.1.2),(3,af y),(4,af p),(6,af q)]) (fun g=> (ak p (ah g.2 g.1.1) 43::ae g.2 g.1.1 [ak q [ac none 0 0,ac none 0 0,ac none 0 0,ac none 0 0,ai 0,ai 0] 43,ak y [ac i fs.length j] 24])) ((m,k),G) (⟨⟨C,K⟩,O⟩) ?_;rintro⟨⟨x,n⟩,l⟩ N
  try dsimp only
  obtain⟨⟨h,T,U⟩,u⟩:(bU fs x/\0<=n/\n<=10000)/\fW fs x n=r:=N;obtain⟨E,F⟩:=lP h;have:=h.st;refine ax (fun o=>?_) (fun o=>?_)
  ·have o:x.S<2:=o;have t:¬iN x:=(not_congr (zh h)).2 ω;have M:x.F≠[]:=fun e=>t (.inl e);have:=mt (bd fs x).c;have:=Is (bd fs x).c;refine aj ?_;refine cO rfl Tryz.call108 (fun w b=>EO i j fs l x w (b.ro D) (oT (m:=x) b fc fc fc fc rfl rfl rfl rfl E F) s h M) ?_;refine sE (kx (Li _ _) rfl rfl) ?_;refine cO rfl Tryz.call202 (fun w b=>Gp _ w)<|ax (fun d=>?_) (fun d=>?_)
   ·have d:n<eR (bd fs x).c:=d;have er:(x,n)=r:=by rw[<-u,rN,if_neg t,if_pos d]
    refine aj ?_;refine bX ((x,n),l) er
   have d:¬n<eR (bd fs x).c:=d;obtain⟨c,v⟩:∃c,eV fs x=c:=⟨_,rfl⟩
   have I:bU fs c:=v▸rm s h;refine aj ?_;refine eu rfl Tryz.call51 (fun w b=>Gl i j fs l x c v w (b.ro D) (oT (m:=x) b fc fc fc fc rfl rfl rfl rfl E F) s h) (fun A _=>cU (fun f=>?_) (fun f=>?_))
   ·have f:¬c.S=0:=f;have er:(c,n - eR (bd fs x).c)=r:=by rw[<-u,rN,if_neg t,if_neg d,v,if_neg f]
    refine aj ?_;refine bX ((c,n - eR (bd fs x).c),A) er
   have f:c.S=0:=f;refine aj ?_;refine DM ((c,n - eR (bd fs x).c),A) (⟨⟨I,by show 0<=n - _;omega,by show n - _<=_;omega⟩,by rw[<-u,rN x,if_neg t,if_neg d,v,if_pos f]⟩) (by show (n - _).toNat<n.toNat;omega)
  have o:¬x.S<2:=o;have er:(x,n)=r:=by rw[<-u];exact(Nr ((zh h).2 ω) n).symm
  refine aj ?_;refine bX ((x,n),l) er
 rintro⟨⟨x,n⟩,l⟩ z;have z:(x,n)=r:=z;subst z;refine aP ?_;intro w b;exact⟨l,trivial,rfl,b.msub ms⟩
end
section
theorem KF (h m:Option Addr) (i o n:Nat) (fs:List aw) (l:List av) (U:l.length=n) (f:lQ fs l) (k:Int) (u:0<=k/\k<=10000) (r:List av×Nat) (W:mQ (pV fs l k)=r) (w:World) (I:Sl w (.slice h fs.length i) fs) (D:Sl w (.slice m n o) l) :
  Calls Tryz.prog 87 #[.agg #[.slice h fs.length i],.agg #[.slice m n o],.int .i64 k] w fun e w'=> ∃g:Option Addr×Nat,True/\e= .returned (.agg #[.slice g.1 n g.2])/\Cw w.heap.size w [an (.slice g.1 n g.2) r.1] w':=by
 subst U;have:=bx D;have:=f.n4;have R:lQ fs (pV fs l k):=f.right (mg fs l k) (uL f u.1);refine enter Tryz.func87 rfl Tryz.ntmps87 rfl<|aj ?_;refine fun p _=>aj ?_;refine fun q _=>aj ?_;refine fun s _=>aj ?_;refine fun t _=>aj ?_;refine dm (fun w j=>Cw.nilO av j) ?_;refine cZ (fun g:Nat×Option Addr×Nat=>g.1<=l.length) (fun g=>l.length - g.1) (fun g=> [(2,.int .i64 k),(3,.pointer (some ⟨p,0,none⟩)),(4,.pointer (some ⟨q,0,none⟩)),(6,.pointer (some ⟨s,0,none⟩)),(7,.pointer (some ⟨t,0,none⟩)),(8,.int .i64 (g.1:Int))]) (fun g=> [ak t [.slice g.2.1 (((l.take g.1).map fun a=>(fW fs a k).1)).length g.2.2] 27,an (.slice g.2.1 (((l.take g.1).map fun a=>(fW fs a k).1)).length g.2.2) (((l.take g.1).map fun a=>(fW fs a k).1)),ak p [.slice h fs.length i] 24,ak q [.slice m l.length o] 27,ak s [.slice none 0 0] 27]) (0,none,0) (aS _) ?_;rintro⟨b,y,z⟩ T
 try dsimp only
 have:b<=l.length:=T;have:(((l.take b).map fun a=>(fW fs a k).1)).length=b:=by rw[aL,aB];omega
 refine ax (fun V=>?_) (fun V=>?_)
 ·have C:b<l.length:=by omega
  obtain⟨F,G,S⟩:=D.mc C;have A:=f.r _ (gA C);obtain⟨x,v⟩:∃x,fW fs (ay l b) k=x:=⟨_,rfl⟩
  have O:aI x.1.S/\aI x.1.T:=by rw[<-v];exact lP (wn f.f _ k A u.1).right
  have X:((l.take (b+1)).map fun a=>(fW fs a k).1)=((l.take b).map fun a=>(fW fs a k).1)++ [x.1]:=by rw[rJ C,db,<-v];rfl
  refine fq (fm ?_);refine cE<|iR<|dG (fun _:Nat×MA=>True) (fun g=> [(2,.int .i64 k),(3,.pointer (some ⟨p,0,none⟩)),(4,.pointer (some ⟨q,0,none⟩)),(6,.pointer (some ⟨s,0,none⟩)),(7,.pointer (some ⟨t,0,none⟩)),(8,.int .i64 (b:Int)),(9,.pointer (some ⟨g.1,0,none⟩))]) (fun g=> [ak g.1 [.slice g.2.Af x.1.F.length g.2.cf,.slice g.2.Ab x.1.B.length g.2.cb,.slice g.2.Ai x.1.I.length g.2.ci,.slice g.2.Ao x.1.out.length g.2.co,.int .i64 x.1.S,.int .i64 x.1.T] 43,an (.slice g.2.Af x.1.F.length g.2.cf) x.1.F,an (.slice g.2.Ab x.1.B.length g.2.cb) x.1.B,an (.slice g.2.Ai x.1.I.length g.2.ci) x.1.I,an (.slice g.2.Ao x.1.out.length g.2.co) x.1.out,ak t [.slice y (((l.take b).map fun a=>(fW fs a k).1)).length z] 27,an (.slice y (((l.take b).map fun a=>(fW fs a k).1)).length z) (((l.take b).map fun a=>(fW fs a k).1)),ak p [.slice h fs.length i] 24,ak q [.slice m l.length o] 27,ak s [.slice none 0 0] 27]) ?_ ?_
  ·refine jh (.still 0 (.still 1 (.still 2 (.still 3 (.still 4 (.still 5 (.still 6 (.pick 7 (.still 8 (.still 9 (.still 10 (.pick 11 (.pick 12 (.still 13 .done) .stop) .stop)))) (.pick 11 (.pick 7 (.still 8 (.still 9 (.still 10 (.pick 12 (.still 13 .done) .stop)))) .stop) .stop))))))))) [] rfl (by kernel_rfl) (by kernel_rfl) ?_;refine aj ?_;refine tE rfl (aX (k:=b) dz cn (.ro D) (by omega) rfl rfl rfl) ?_;refine tE rfl (eC (S _) rfl rfl jQ cn)<|aj ?_;refine dx rfl (lh rfl rfl rfl Tryz.call145 (fun w d=>zL h i fs F (ay l b) k x v w (d.ro I) (G.ro d) f.f A u)) rfl rfl (.inr fun _=>ha) (fun c _=>?_) ?_
   ·refine aj ?_;intro E _;refine aj ?_;refine bJ<|bX (E,c) trivial (hh:=(fun _ j=>j.msub ms))
   refine aj ?_;intro E _;refine jc rfl rfl Tryz.call145 (fun w d=>zL h i fs F (ay l b) k x v w (d.ro I) (G.ro d) f.f A u) (fun c _=>aj ?_);refine bJ<|bX (E,c) trivial (hh:=(fun _ j=>j.msub ms))
  rintro⟨ad,c⟩ _;refine aP ?_;intro Z _;refine oE (cz (α:=av) (bytes:=112) x.1 [an (.slice c.Af x.1.F.length c.cf) x.1.F,an (.slice c.Ab x.1.B.length c.cb) x.1.B,an (.slice c.Ai x.1.I.length c.ci) x.1.I,an (.slice c.Ao x.1.out.length c.co) x.1.out] X dz (aU kl) rfl (sT fc fc fc fc fc fc) (nX O) (by omega) (by omega) rfl rfl rfl) (fun⟨J,L⟩ _=>?_);refine aP ?_;refine cG (b+1,J,L) (by show b+1<=_;omega) (by show _ - _<_ - _;omega)
 obtain rfl:b=l.length:=by omega
 have N:((l.take l.length).map fun a=>(fW fs a k).1)=pV fs l k:=by rw[aR];rfl
 rw[N,mg];refine aj ?_;refine eu rfl Tryz.call146 (fun w d=>KO y z l.length fs (pV fs l k) (mg fs l k) R r W w (SF.at_ (SF.own (mg fs l k) fc) d)) (fun⟨K,M⟩ _=>?_);refine aP ?_;intro w d;exact⟨(K,M),trivial,rfl,d.msub ms⟩
end
section
theorem Gi (d i:Option Addr) (c h f j:Nat) (l1 l2:List av) (e u:Int) (o:e=u) (g:l1=if u=0 then l2 else []) (w:World) (l:bO w w.heap.size (ac d c f) l1) (h2:bO w w.heap.size (ac i h j) l2) (k:l1.length=c) (m:l2.length=h) :
  Calls Tryz.prog 32 #[.agg #[ac d c f],ai e,ai u,.agg #[ac i h j]] w fun e w'=>e= .returned (.bool true)/\Below w.heap.size w w':=by
 subst o;refine enter Tryz.func32 rfl Tryz.ntmps32 rfl<|aj ?_;refine fun p _=>aj ?_;refine fun q _=>cU (fun b=>?_) (fun b=>?_)
 ·have b:¬e=0:=b;rw[if_neg b] at g;subst g;refine bQ<|dR (qG (cs:= [_]) OZ RZ rfl rfl (by rfl)) rfl rfl ?_;refine dN (dk _ fc pN rfl rfl rfl rfl rfl (by rfl) rfl (by rfl)) rfl rfl (fun _ _=>?_);refine bL<|cE<|bQ<|aC ?_;refine aC ?_;refine aC ?_;refine aC ?_;refine bj (t:=15) (v':= .bool true) rfl (congrArg Value.bool (decide_eq_true rfl))<|aj ?_;refine cO rfl Wq (fun w a=>qR d none c 0 f 0 [] [] w (a.ro l) bO.nil_ k rfl)<|aj ?_;intro w a;exact⟨aY (by rw[decide_eq_true rfl]),a.below⟩
 have b:e=0:=b;rw[if_pos b] at g;subst g;refine fq (fm ?_);refine cE<|bQ<|aC ?_;refine aC ?_;refine aC ?_;refine aC ?_;refine bj (t:=15) (v':= .bool true) rfl (congrArg Value.bool (decide_eq_true rfl))<|aj ?_;refine cO rfl Wq (fun w a=>qR d i c h f j l1 l1 w (a.ro l) (a.ro h2) k m)<|aj ?_;intro w a;exact⟨aY (by rw[decide_eq_true rfl]),a.below⟩
end
section
def tq (l:List aD) (n:Int):Bool:=l.any fun v=>v.ref && decide (v.n=n)
def qw (m:av) (i:Nat) (n:Int):Bool:=(m.F.take i).any fun x=>tq (x.L++x.K) n
def gC (m:av) (k:Nat):List Int:=((List.range k).filter fun j:Nat=>tp m ((j:Int)+1)).map fun j:Nat=>(j:Int)+1
theorem KL (m:av):gC m m.B.length=cF m:=rfl
theorem KK (m:av) (k:Nat):(gC m k).length<=k:=by
 unfold gC;rw[aL];exact dW (List.length_filter_le _ _) (by rw[kD];exact aH _)
theorem KJ {m:av} {k:Nat} (h:tp m ((k:Int)+1)=true):gC m (k+1)=gC m k++ [(k:Int)+1]:=by
 unfold gC;rw[iB,List.filter_append,db,List.filter_cons_of_pos (by exact h)];rfl
theorem Nw {m:av} {k:Nat} (h:¬tp m ((k:Int)+1)=true):gC m (k+1)=gC m k:=by
 unfold gC;rw[iB,List.filter_append,db,List.filter_cons_of_neg (by exact h)];simp
theorem LK (m:av) (n:Int):qw m m.F.length n=tp m n:=by unfold qw tp tq;rw[aR]
theorem Js {m:av} {i:Nat} (hi:i<m.F.length) (n:Int):qw m (i+1) n=(qw m i n || tq ((aQ m.F i).L++(aQ m.F i).K) n):=by
 unfold qw;rw[tM hi,List.any_append];simp
theorem LM {l:List aD} {k:Nat} (a:k<l.length) (n:Int):tq (l.take (k+1)) n=(tq (l.take k) n || ((l.getD k default).ref && decide ((l.getD k default).n=n))):=by
 unfold tq;rw[eF l k default a,List.any_append];simp
theorem IU (a:MA) (m:av) (w:World) (z:fV w.heap.size w a m) (L:∀x∈m.F,x.L.length<=1000/\x.K.length<=8) (a2:m.B.length<=8) (a7:m.F.length<=6) :
  Calls Tryz.prog 147 #[.agg #[ac a.Af m.F.length a.cf,ac a.Ab m.B.length a.cb,ac a.Ai m.I.length a.ci,ac a.Ao m.out.length a.co,ai m.S,ai m.T]] w fun e w'=> ∃q:Option Addr×Nat,True/\e= .returned (ac q.1 (cF m).length q.2)/\Cw w.heap.size w [an (ac q.1 (cF m).length q.2) (cF m)] w':=by
 refine enter Tryz.func147 rfl Tryz.ntmps147 rfl<|aj ?_;refine fun j _=>aj ?_;refine dm (fun w k=>Cw.nilO Int k) ?_;refine cZ (fun d:Nat×(Option Addr×Nat)=>d.1<=m.B.length) (fun d=>m.B.length - d.1) (fun d=> [(1,af j),(3,ac d.2.1 (gC m d.1).length d.2.2),(4,ai ((d.1:Int)+1))]) (fun d=> [ag d.2.1 d.2.2 (gC m d.1),ak j (ah a m) 43]) (0,(none,0)) (aS _) ?_;rintro⟨b,⟨h,i⟩⟩ R
 try dsimp only
 have:b<=m.B.length:=R;have:=KK m b;refine ax (fun S=>?_) (fun S=>?_)
 ·have:b<m.B.length:=ω;refine aj ?_;refine cZ (fun f:Nat=>f<=m.F.length) (fun f=>m.F.length - f) (fun f=> [(1,af j),(3,ac h (gC m b).length i),(4,ai ((b:Int)+1)),(5,.bool (qw m f ((b:Int)+1))),(6,ai (f:Int))]) (fun _=> [ag h i (gC m b),ak j (ah a m) 43]) 0 (aS _) ?_;rintro f N;have:f<=m.F.length:=N;refine ax (fun T=>?_) (fun T=>?_)
  ·have v:f<m.F.length:=ω;obtain⟨W,Z,X,ad,C,D,I,u⟩:=z.f.fr v;obtain⟨J,K⟩:=L (aQ m.F f) (fJ v);have E:=Js v ((b:Int)+1);generalize a9:aQ m.F f=x at C D I u J K E;refine fq (fm ?_);refine cE<|iR<|dG (fun _:Option Addr×Nat=>True) (fun d=> [(1,af j),(3,ac h (gC m b).length i),(4,ai ((b:Int)+1)),(5,.bool (qw m f ((b:Int)+1))),(6,ai (f:Int)),(7,ac d.1 (x.L++x.K).length d.2)]) (fun d=> [ag d.1 d.2 (x.L++x.K),ag h i (gC m b),ak j (ah a m) 43]) ?_ ?_
   ·refine bq [3,6,9,12,15,18,24,27,30,33,36,39,2,23,44,45] [] rfl<|aj ?_;refine tE rfl (aX (k:=f) cX dQ (.ro z.f) ω rfl rfl rfl)<|aj ?_;refine tE rfl (bY (fun w g=>u _ w g 2 _ rfl) rfl rfl ed)<|aj ?_;refine tE rfl (aX (k:=f) cX dQ (.ro z.f) ω rfl rfl rfl)<|aj ?_;refine tE rfl (bY (fun w g=>u _ w g 3 _ rfl) rfl rfl ed) ?_;refine pE rfl ((fi (cs:= []) aA aM lA rfl rfl rfl rfl rfl).mem (H'':=fun d=>an (ac (some ⟨d,0,none⟩) 0 0) ([]:List aD)::_) fun d w k=>bN (α:=aD) (m:=0) [] rfl σ rfl κ k) (fun a0 _=>?_);refine pE rfl (dv (α:=aD) (bytes:=16) (xs:= []) (ys:=x.L) (cB x.L).symm aA (aU dy) rfl fc (.ro C) (by simp only[aE];omega) (by simp only[aE];omega) rfl rfl rfl) (fun⟨Y,al⟩ _=>?_)
    try dsimp only
    refine pE rfl (dv (α:=aD) (bytes:=16) (xs:=x.L) (ys:=x.K) rfl aA (aU dy) rfl fc (.ro D) ω ω rfl rfl rfl) (fun⟨o,p⟩ _=>?_);refine aP ?_;refine bJ<|bX (o,p) trivial (hh:=(fun _ k=>k.msub ms))
   rintro⟨o,p⟩ _
   try dsimp only
   have:(x.L++x.K).length=x.L.length+x.K.length:=ar;refine aj ?_;refine cT (t:=5) (v':= .bool (qw m f ((b:Int)+1) || tq ((x.L++x.K).take 0) ((b:Int)+1))) rfl (by simp[tq]) ?_;refine cZ (fun c:Nat=>c<=(x.L++x.K).length) (fun c=>(x.L++x.K).length - c) (fun c=> [(1,af j),(3,ac h (gC m b).length i),(4,ai ((b:Int)+1)),(5,.bool (qw m f ((b:Int)+1) || tq ((x.L++x.K).take c) ((b:Int)+1))),(6,ai (f:Int)),(7,ac o (x.L++x.K).length p),(8,ai (c:Int))]) (fun _=> [ag o p (x.L++x.K),ag h i (gC m b),ak j (ah a m) 43]) 0 (aS _) ?_;rintro c O;have:c<=(x.L++x.K).length:=O;refine ax (fun U=>?_) (fun U=>?_)
   ·have y:c<(x.L++x.K).length:=ω;have V:=LM y ((b:Int)+1);refine aj ?_;generalize M:(qw m f ((b:Int)+1) || tq ((x.L++x.K).take c) ((b:Int)+1))=A;refine lV 15 rfl [(1,_),(3,_),(4,_),(6,_),(7,_),(8,_)] [(60,.bool (A || (((x.L++x.K).getD c default).ref && decide (((x.L++x.K).getD c default).n=((b:Int)+1)))))] ⟨rfl,rfl,rfl,rfl,rfl,rfl,trivial⟩ (fun s=>?_) ?_
    ·cases A
     ·refine bj (t:=45) (v':= .bool false) rfl (rfl)<|aj ?_;refine cP c rfl ((SF.own (xs:=(x.L++x.K)) rfl fc))<|aj ?_;refine ef rfl (fun w g=>(SF.val (SF.own rfl fc) y default) w g 0 _ rfl) ?_;refine aC ?_;rcases Bool.eq_false_or_eq_true ((x.L++x.K).getD c default).ref with l | l
      ·rw[l];refine bj (t:=51) (v':= .bool true) rfl (rfl)<|aj ?_;refine cP c rfl ((SF.own (xs:=(x.L++x.K)) rfl fc))<|aj ?_;refine ef rfl (fun w g=>(SF.val (SF.own rfl fc) y default) w g 1 _ rfl) ?_;refine aC ?_;refine aC ?_;refine aC ?_;refine aC ?_;refine bj (t:=60) (v':= .bool (false || (((x.L++x.K).getD c default).ref && decide (((x.L++x.K).getD c default).n=((b:Int)+1))))) rfl (by rw[l];simp) ?_;exact fL s ⟨rfl,rfl,rfl,rfl,rfl,rfl,rfl,trivial⟩
      rw[l];refine bj (t:=51) (v':= .bool false) rfl rfl<|aC ?_;refine aC ?_;refine aC ?_;refine aC ?_;refine aC ?_;refine aC ?_;refine aC ?_;refine aC ?_;refine aC ?_;refine bj (t:=60) (v':= .bool (false || (((x.L++x.K).getD c default).ref && decide (((x.L++x.K).getD c default).n=((b:Int)+1))))) rfl (by rw[l];rfl) ?_;exact fL s ⟨rfl,rfl,rfl,rfl,rfl,rfl,rfl,trivial⟩
     refine bj (t:=45) (v':= .bool true) rfl rfl<|aC ?_;refine aC ?_;refine aC ?_;refine aC ?_;refine aC ?_;refine aC ?_;refine aC ?_;refine aC ?_;refine aC ?_;refine aC ?_;refine aC ?_;refine aC ?_;refine aC ?_;refine aC ?_;refine aC ?_;exact bj (t:=60) (v':= .bool (true || (((x.L++x.K).getD c default).ref && decide (((x.L++x.K).getD c default).n=((b:Int)+1))))) rfl rfl<|fL s ⟨rfl,rfl,rfl,rfl,rfl,rfl,rfl,trivial⟩
    refine aj ?_;subst M;rw[Bool.or_assoc,<-V];refine cG (c+1) (by show c+1<=_;omega) (by show _ - _<_ - _;omega)
   obtain rfl:c=(x.L++x.K).length:=ω;rw[aR,<-E];refine aj ?_;refine cG (f+1) (by show f+1<=_;omega) (by show _ - _<_ - _;omega)
  obtain rfl:f=m.F.length:=ω;rw[LK];refine aj ?_;refine cc rfl (fun r=>?_) (fun r=>?_)
  ·refine aj ?_;intro am _;refine oE (cz (α:=Int) (bytes:=8) ((b:Int)+1) [] (KJ r) az (aU cW) rfl (eG fc fc) (qk (by unfold aI;omega)) ω ω rfl rfl rfl) (fun⟨F,G⟩ _=>?_);refine aP ?_;refine cG (b+1,(F,G)) (by show b+1<=_;omega) (by show _ - _<_ - _;omega)
  rw[<-Nw (by rw[r];decide)];refine aj ?_;refine cG (b+1,(h,i)) (by show b+1<=_;omega) (by show _ - _<_ - _;omega)
 obtain rfl:b=m.B.length:=ω;rw[KL];refine aj ?_;intro w g;exact⟨(h,i),trivial,rfl,g.msub ms⟩
end
section
def gR (R:List Int) (v:aD):Nat->aD
 | 0=>v
 | k+1=>if v.ref=true/\v.n=R.getD k 0 then ⟨v.ref,(k:Int)+1⟩ else gR R v k
theorem ET (R:List Int) (v:aD):∀k,(gR R v k).ref=v.ref
 | 0=>rfl
 | k+1=>by
  unfold gR
  split
  ·rfl
  exact ET R v k
theorem CF {R:List Int} {v:aD} :∀{k:Nat},(∀j,j<k->¬(v.ref=true/\v.n=R.getD j 0))->gR R v k=v
 | 0,_=>rfl
 | k+1,h=>by
  unfold gR;rw[if_neg (h k (yz k))];exact CF fun j a=>h j (by omega)
theorem EV {R:List Int} {v:aD} {q:Nat} (a:v.ref=true) (c:v.n=R.getD q 0):∀{k:Nat},q<k->(∀j,q<j->j<k->v.n≠R.getD j 0)->gR R v k=⟨true,(q:Int)+1⟩
 | 0,h,_=>absurd h (gu _)
 | k+1,h,b=>by
  unfold gR
  by_cases e:q=k
  ·subst e;rw[if_pos ⟨a,c⟩,a]
  rw[if_neg (fun d=>b k (by omega) (by omega) d.2)];exact EV a c (by omega) fun j f h2=>b j f (by omega)
theorem wg {R:List Int} (c:R.Pairwise (· < ·)) {i j:Nat} (b:i<j) (a:j<R.length):R.getD i 0<R.getD j 0:=by
 have:=List.pairwise_iff_getElem.1 c i j ω a b;rw[ap,aq ω,ap,aq a];exact this
theorem D9 {R:List Int} (d:R.Pairwise (· < ·)) {q:Nat} (g:q<R.length):(R.filter fun n=>decide (n<=R.getD q 0)).length=q+1:=by
 have f:(R.filter fun n=>decide (n<=R.getD q 0))=R.take (q+1):=by
  conv=>lhs;rw[<-ji (q+1) R]
  rw[List.filter_append,List.filter_eq_self.2,List.filter_eq_nil_iff.2,et]
  ·intro n c;obtain⟨a,b,rfl⟩:=cC c;rw[aN] at b;have:=wg d (i:=q) (j:=q+1+a) ω ω;rw[List.getElem_drop];rw[ap (i:=q+1+a),aq ω] at this;have this:R.getD q 0<R[q+1+a]:=this;simp only[decide_eq_true_eq];rw[ji];omega
  intro n c;obtain⟨a,b,rfl⟩:=cC c;rw[aB] at b;simp only[decide_eq_true_eq];rw[List.getElem_take,ji]
  by_cases e:a=q
  ·subst e;rw[ap,aq ω];exact Int.le_refl _
  have:=wg d (i:=a) (j:=q) ω g;rw[ap (i:=a),aq ω] at this;have this:R[a]<R.getD q 0:=this;omega
 rw[f,aB];omega
theorem NY {m:av} {v:aD} (o:yc (Ey m) v):gR (cF m) v (cF m).length=dY (mq m) v:=by
 by_cases a:v.ref=true/\v.n≠0
 ·have g:v.n∈cF m:=o a.1 a.2;obtain⟨q,c,k⟩:=cC g;have f:(cF m).getD q 0=v.n:=by rw[ap,aq c];exact k
  have e:=(lg.1 g).1;rw[EV a.1 f.symm c (fun p e j r=>by have:=wg (qu m) e j;omega)];unfold dY;rw[if_pos a];unfold mq fx;rw[if_neg a.2,CI m _ ω,aL,show (v.n.toNat:Int)=v.n from by omega,<-f,D9 (qu m) c];simp
 rw[CF (fun p l i=>?_)]
 ·unfold dY;rw[if_neg a]
 have b:v.n=0:=dM fun b=>a ⟨i.1,b⟩;have h:=cL (d:=(0:Int)) l;rw[<-i.2,b] at h;have:=(lg.1 h).1;omega
end
section
theorem Te (R:List Int) (v:aD) (k:Nat):(⟨v.ref,(gR R v k).n⟩:aD)=gR R v k:=by
 have:=ET R v k
 cases h:gR R v k
 rw[h] at this;rw[<-this]
theorem EU {R:List Int} {v:aD} (h:aI v.n):∀{k:Nat},k<=1000000->aI (gR R v k).n
 | 0,_=>h
 | k+1,a=>by
  unfold gR
  split
  ·show aI ((k:Int)+1);unfold aI;omega
  exact EU h (by omega)
theorem zO (A m:Option Addr) (c o:Nat) (l:List aD) (R:List Int) (w:World) (g:Sl w (ac A l.length c) l) (y:Sl w (ac m R.length o) R) (M:l.length<=1000) (L:R.length<=1000) :
  Calls Tryz.prog 148 #[ac A l.length c,ac m R.length o] w fun e w'=> ∃u,e= .returned u/\Below w.heap.size w w'/\eU w' w.heap.size u (l.map fun v=>gR R v R.length):=by
 refine enter Tryz.func148 rfl Tryz.ntmps148 rfl<|aj ?_;refine dm (fun w f=>Cw.nilO aD f) ?_;refine cZ (fun d:Nat×Option Addr×Nat=>d.1<=l.length) (fun d=>l.length - d.1) (fun d=> [(0,ac A l.length c),(1,ac m R.length o),(5,ac d.2.1 ((l.take d.1).map fun v=>gR R v R.length).length d.2.2),(6,ai (d.1:Int))]) (fun d=> [ag d.2.1 d.2.2 ((l.take d.1).map fun v=>gR R v R.length)]) (0,none,0) (aS _) ?_;rintro⟨a,q,r⟩ D
 try dsimp only
 have:a<=l.length:=D;have:((l.take a).map fun v=>gR R v R.length).length=a:=by rw[aL,aB];omega
 refine ax (fun F=>?_) (fun F=>?_)
 ·have h:a<l.length:=ω;have I:((l.take (a+1)).map fun v=>gR R v R.length)=((l.take a).map fun v=>gR R v R.length)++ [⟨(l.getD a default).ref,(gR R (l.getD a default) R.length).n⟩]:=by
   rw[eF l a default h,db,Te];rfl
  have J:=Bv g h;refine aj ?_;refine cP a rfl (.ro g) ?_;refine iC rfl (SF.val (SF.ro g) h default)<|aj ?_;refine fun s _=>aj ?_;refine cZ (fun b:Nat=>b<=R.length) (fun b=>R.length - b) (fun b=> [(0,ac A l.length c),(1,ac m R.length o),(5,ac q ((l.take a).map fun v=>gR R v R.length).length r),(6,ai (a:Int)),(7,af s),(8,ai (b:Int))]) (fun b=> [ak s [.bool (l.getD a default).ref,ai (gR R (l.getD a default) b).n] 159,ag q r ((l.take a).map fun v=>gR R v R.length)]) 0 (aS _) ?_;rintro b E;have:b<=R.length:=E;refine ax (fun G=>?_) (fun G=>?_)
  ·have:b<R.length:=ω;refine aj ?_;refine bq [0,3,6,9,12,15,18,21,24,27,30,33,36,39,42,45,48] [] rfl<|aj ?_;refine tE rfl (aX (k:=a) aA aM (.ro g) ω rfl rfl rfl)<|aj ?_;refine tE rfl (bY (fun w k=>(SF.val (SF.ro g) h default) w k 0 _ rfl) rfl rfl xR) ?_;refine aC ?_;rcases Bool.eq_false_or_eq_true (l.getD a default).ref with i | i
   ·rw[i];refine dr (t:=30) (v':= .bool true) rfl (rfl)<|aj ?_;refine tE rfl (aX (k:=a) aA aM (.ro g) ω rfl rfl rfl)<|aj ?_;refine tE rfl (bY (fun w k=>(SF.val (SF.ro g) h default) w k 1 _ rfl) rfl rfl bF)<|aj ?_;refine tE rfl (aX (k:=b) az aZ (.ro y) ω rfl rfl rfl) ?_;refine tE rfl (bY (SF.int (.ro y) ω) rfl rfl bF)<|ax (fun p=>?_) (fun p=>?_)
    ·have j:(gR R (l.getD a default) (b+1)).n=(b:Int)+1:=by unfold gR;rw[if_pos ⟨i,p⟩]
     refine aj ?_;refine cG (b+1) (by show b+1<=_;omega) (by show _ - _<_ - _;omega) (hh:=(fun w f=>by rw[j];exact f.msub ms))
    have j:(gR R (l.getD a default) (b+1)).n=(gR R (l.getD a default) b).n:=by rw[gR,if_neg (fun f=>p f.2)]
    refine aj ?_;refine cG (b+1) (by show b+1<=_;omega) (by show _ - _<_ - _;omega) (hh:=(fun w f=>by rw[j];exact f.msub ms))
   have j:(gR R (l.getD a default) (b+1)).n=(gR R (l.getD a default) b).n:=by rw[gR,if_neg (fun f=>by rw[i] at f;cases f.1)]
   rw[i];refine dr (t:=30) (v':= .bool false) rfl (rfl)<|aj ?_;refine cA rfl<|aj ?_;refine cG (b+1) (by show b+1<=_;omega) (by show _ - _<_ - _;omega) (hh:=(fun w f=>by rw[j];exact f.msub ms))
  obtain rfl:b=R.length:=ω;refine aj ?_;intro K _;refine oE (cz (α:=aD) (bytes:=16) ⟨(l.getD a default).ref,(gR R (l.getD a default) R.length).n⟩ [] I aA (aU dy) rfl (eG fc fc) (dt (EU J ω)) ω ω rfl rfl rfl) (fun⟨z,C⟩ _=>?_);refine aP ?_;refine cG (a+1,z,C) (by show a+1<=_;omega) (by show _ - _<_ - _;omega)
 obtain rfl:a=l.length:=ω;rw[aR];refine aj ?_;intro w k;exact⟨_,rfl,mD k⟩
end
section
section
variable {P:Program} {n:NF} {B:Nat} {w0:World} {H H':List aO} {Q:Exit->Act->World->Prop} {env:cS} {x:Code}
structure VI (B:Nat) (w0:World) (X:aO) (fr:List aK) (k:Nat) (hs:List aF) (Al:Option Addr) (cl:Nat) (As:Option Addr) (cs:Nat):Prop where
 len:hs.length=fr.length
 hd:hs.getD k default=⟨(aQ fr k).func,(aQ fr k).pc,.slice Al (aQ fr k).L.length cl,.slice As (aQ fr k).K.length cs⟩
 i64:aI (aQ fr k).func/\aI (aQ fr k).pc
 back:∀(v lv sv:Value) (y:aK) H w,Cw B w0 (an v (hs.set k ⟨y.func,y.pc,lv,sv⟩)::an lv y.L::an sv y.K::X::H) w->Cw B w0 (an v (fr.set k y)::H) w
theorem TQ {v:Value} {fr:List aK} {k:Nat} (M:k<fr.length) (N:cu H (an v fr) H') (h:∀r D g j i cs,VI B w0 r fr k D g j i cs->CW P n B w0 x Q env (an v D::an (.slice g (aQ fr k).L.length j) (aQ fr k).L::an (.slice i (aQ fr k).K.length cs) (aQ fr k).K::r::H')):CW P n B w0 x Q env H:=fun I G L R=>by
 obtain⟨a,o,C,y⟩:=wF (R.perm N);have e:k<a.length:=by rw[<-aL (f:=Prod.snd),o];exact M
 have J:=y.perm (List.Perm.swap ..);have m:Cw B w0 (an a[k].1.lv a[k].2.L::an a[k].1.sv a[k].2.K::(cJ (a.eraseIdx k)::an v (a.map Prod.fst)::H')) G:=rZ e J;have w:aQ fr k=a[k].2:=by
  unfold aQ;rw[<-o,ap,dd,aq e];rfl
 obtain⟨W,S,_⟩:=m.rd cu.a;obtain⟨X,U,_⟩:=m.rd (cu.s cu.a);obtain⟨g,j,l⟩:=rQ S;obtain⟨i,cs,s⟩:=rQ U;have t:a[k].1.func=a[k].2.func/\a[k].1.pc=a[k].2.pc:=C a[k] (cV e);have u:a[k].1=⟨(aQ fr k).func,(aQ fr k).pc,.slice g (aQ fr k).L.length j,.slice i (aQ fr k).K.length cs⟩:=by
  show _=(⟨_,_,ac _ _ _,ac _ _ _⟩:aF);rw[w,<-l,<-s,<-t.1,<-t.2]
 have E:aF.wf a[k].1:=lD y .a (kz (cV e));rw[l,s,<-w] at m;refine h (cJ (a.eraseIdx k)) (a.map Prod.fst) g j i cs ⟨by rw[<-o,aL,aL],?_,?_,fun F c d b p V h=>?_⟩ I G L (m.msub ms)
 ·rw[ap,dd,aq e];exact u
 ·rw[u] at E;exact E.1
 have O:gP (a.set k (⟨b.func,b.pc,c,d⟩,b)):=C.set (q:=(⟨b.func,b.pc,c,d⟩,b)) ⟨rfl,rfl⟩;have K:Cw B w0 (hZ.parts ((⟨b.func,b.pc,c,d⟩:aF),b).1 ((⟨b.func,b.pc,c,d⟩:aF),b).2++cJ (a.eraseIdx k)::an F ((a.map Prod.fst).set k ⟨b.func,b.pc,c,d⟩)::p) V:=h.msub (T:=an c b.L::an d b.K::cJ (a.eraseIdx k)::an F ((a.map Prod.fst).set k ⟨b.func,b.pc,c,d⟩)::p) ms;have z:=xx e K;have l:(a.map Prod.fst).set k ⟨b.func,b.pc,c,d⟩=(a.set k (⟨b.func,b.pc,c,d⟩,b)).map Prod.fst:=by rw[List.map_set]
 rw[l] at z;have A:=qL O (z.perm (List.Perm.swap ..));rw[List.map_set,o] at A;exact A
end
theorem ES {m:av} {l:List aD} (h:vM (Ey m) l):(l.map fun v=>gR (cF m) v (cF m).length)=l.map (dY (mq m)):=oJ fun v a=>NY (h v a)
theorem JR (m:av):(dT m).B=(cF m).map (blk m.B):=by
 show di m.B (cF m) m.B.length=_;rw[CI m _ (aH _),List.filter_eq_self.2];intro n a;have:=(lg.1 a).1;simp only[decide_eq_true_eq];omega
def wO (m:av) (i:Nat):List aK:=(m.F.take i).map (ld (mq m))++m.F.drop i
theorem QC (m:av) {i:Nat} (h:i<=m.F.length):(wO m i).length=m.F.length:=by unfold wO;rw[ar,aL,aB,aN];omega
theorem LS (m:av) {i:Nat} (h:i<m.F.length):aQ (wO m i) i=aQ m.F i:=by
 unfold aQ wO;rw[sY (by rw[aL,aB];omega),qx,aL,aB]
 congr 1
 omega
theorem QB (m:av) {i:Nat} (h:i<m.F.length):wO m (i+1)=(wO m i).set i (ld (mq m) (aQ m.F i)):=by
 have a:((m.F.take i).map (ld (mq m))).length=i:=by rw[aL,aB];omega
 unfold wO;rw[pK _ _ ω,a,pJ,tM h,db,bA]
 congr 1
 rw[fT h];rfl
theorem BI (fs:List aw) (a:MA) (m:av) (w:World) (z:fV w.heap.size w a m) (a3:fP fs) (F:bU fs m) :
  Calls Tryz.prog 89 #[.agg #[ac a.Af m.F.length a.cf,ac a.Ab m.B.length a.cb,ac a.Ai m.I.length a.ci,ac a.Ao m.out.length a.co,ai m.S,ai m.T]] w fun e w'=> ∃g:MA,True/\
   e= .returned (.agg #[ac g.Af (dT m).F.length g.cf,ac g.Ab (dT m).B.length g.cb,ac g.Ai (dT m).I.length g.ci,ac g.Ao (dT m).out.length g.co,ai (dT m).S,ai (dT m).T])/\Cw w.heap.size w [an (ac g.Af (dT m).F.length g.cf) (dT m).F,an (ac g.Ab (dT m).B.length g.cb) (dT m).B,an (ac g.Ai (dT m).I.length g.ci) (dT m).I,an (ac g.Ao (dT m).out.length g.co) (dT m).out] w':=by
 have bb:=kK a3 F;have ba:=(gS F.bl).1;have:=Cu (m:=m);have bg:=F.n6;have bi:=FG F;have a4:∀x∈m.F,x.L.length<=1000/\x.K.length<=8:=fun x bk=>by
  obtain⟨b,G,rfl⟩:=cC bk;have r:=vk a3 F G;unfold aQ at r;rw[ap,aq G] at r;exact⟨r.2,r.1⟩
 refine enter Tryz.func89 rfl Tryz.ntmps89 rfl<|aj ?_;refine fun C _=>aj ?_;refine fun D _=>aj ?_;refine eu rfl xS (fun w h=>nB a m w (z.ro h) bb) (fun⟨j,l,bp,bw,s,v,u,y⟩ _=>?_);refine aP ?_;refine fun E _=>aj ?_;refine eu rfl Tryz.call147 (fun w h=>IU a m w (z.ro h) a4 ba bg) (fun⟨p,q⟩ _=>?_);refine aP ?_;refine dm (fun w r=>Cw.nilO (List Int) r) ?_;refine jJ (fun g:Option Addr×Nat=>True) (fun g=> [(1,af C),(2,af D),(3,af E),(4,ac p (cF m).length q)]) (fun g=> [ak E [ac j m.F.length l,ac g.1 (dT m).B.length g.2,ac s m.I.length v,ac u m.out.length y,ai m.S,ai m.T] 43,an (ac g.1 (dT m).B.length g.2) (dT m).B,ag j l m.F,ag s v m.I,ag u y m.out,ag p q (cF m),ak C (ah a m) 43,ak D [ac none 0 0,ac none 0 0,ac none 0 0,ac none 0 0,ai 0,ai 0] 43]) ?_ ?_
 ·refine cZ (fun g:Nat×Option Addr×Nat=>g.1<=(cF m).length) (fun g=>(cF m).length - g.1) (fun g=> [(1,af C),(2,af D),(3,af E),(4,ac p (cF m).length q),(5,ai (g.1:Int))]) (fun g=> [ak E [ac j m.F.length l,ac g.2.1 (((cF m).take g.1).map (blk m.B)).length g.2.2,ac s m.I.length v,ac u m.out.length y,ai m.S,ai m.T] 43,ag g.2.1 g.2.2 (((cF m).take g.1).map (blk m.B)),ag j l m.F,ag s v m.I,ag u y m.out,ag p q (cF m),ak C (ah a m) 43,ak D [ac none 0 0,ac none 0 0,ac none 0 0,ac none 0 0,ai 0,ai 0] 43]) (0,none,0) (aS _) ?_;rintro⟨b,Z,a0⟩ W
  try dsimp only
  have G:b<=(cF m).length:=W;have:(((cF m).take b).map (blk m.B)).length=b:=by rw[aL,aB];omega
  refine ax (fun X=>?_) (fun X=>?_)
  ·have o:b<(cF m).length:=ω;have:=(lg.1 (cL (d:=(0:Int)) o)).1;obtain⟨i,bm⟩:∃i:Nat,(cF m).getD b 0 - 1=i:=⟨((cF m).getD b 0 - 1).toNat,ω⟩
   have bl:i<m.B.length:=ω;obtain⟨ad,a1,bf,L⟩:=z.b.sub bl;have:(m.B.getD i []).length<=40:=by have:=Bh F.bl ((cF m).getD b 0);unfold blk at this;rw[show ((cF m).getD b 0 - 1).toNat=i from by omega] at this;omega
   have Y:((cF m).take (b+1)).map (blk m.B)=((cF m).take b).map (blk m.B)++ [m.B.getD i []]:=by
    rw[eF _ b 0 o,db];show _++ [blk m.B ((cF m).getD b 0)]=_;unfold blk;rw[show ((cF m).getD b 0 - 1).toNat=i from by omega]
   refine aj ?_;refine bq [0,3,9,12,15,18,21,24,27,30,33,8,38,41,44,46,50] [14,15,16] rfl<|aj ?_;refine tE rfl (aX (k:=b) az aZ (SF.own (xs:=cF m) (A:=p) (c:=q) rfl fc) ω rfl rfl rfl) ?_;refine tE rfl (bY (SF.int (SF.own (xs:=cF m) (A:=p) (c:=q) rfl fc) ω) rfl rfl bF)<|aj ?_;refine dr (t:=27) (v':= ai (i:Int)) rfl (by rw[bm]) ?_;refine tE rfl (aX (k:=i) eI gv (.ro z.b) ω rfl rfl rfl) ?_;refine tE rfl (bY (L _) rfl rfl gX) ?_;refine pE rfl ((fi (cs:= []) az aZ fG rfl rfl rfl rfl rfl).mem (H'':=fun g=>an (ac (some ⟨g,0,none⟩) 0 0) ([]:List Int)::_) fun g w r=>bN (α:=Int) (m:=0) [] rfl σ rfl κ r) (fun b2 _=>?_);refine pE rfl (dv (α:=Int) (bytes:=8) (xs:= []) (ys:=m.B.getD i []) (cB _).symm az (aU cW) rfl fc (.ro bf) (by simp only[aE];omega) (by simp only[aE];omega) rfl rfl rfl) (fun⟨M,O⟩ _=>?_);refine aP ?_;intro b1 _;refine pE rfl (cz (α:=List Int) (bytes:=24) (m.B.getD i []) [ag M O (m.B.getD i [])] Y eI (aU og) rfl (DC (R:=an (ac Z (((cF m).take b).map (blk m.B)).length a0) _) fc fc fc) wM ω ω rfl rfl rfl) (fun⟨a7,a8⟩ _=>?_);refine aP ?_;refine cG (b+1,a7,a8) (by show b+1<=_;omega) (by show _ - _<_ - _;omega)
  obtain rfl:b=(cF m).length:=ω;rw[aR,<-JR];refine aj ?_;refine bX (Z,a0) trivial
 rintro⟨N,S⟩ _;refine aP ?_;refine cZ (fun b:Nat=>b<=m.F.length) (fun b=>m.F.length - b) (fun b=> [(1,af C),(2,af D),(3,af E),(4,ac p (cF m).length q),(6,ai (b:Int))]) (fun b=> [ak E [ac j m.F.length l,ac N (dT m).B.length S,ac s m.I.length v,ac u m.out.length y,ai m.S,ai m.T] 43,an (ac j m.F.length l) (wO m b),an (ac N (dT m).B.length S) (dT m).B,ag s v m.I,ag u y m.out,ag p q (cF m),ak C (ah a m) 43,ak D [ac none 0 0,ac none 0 0,ac none 0 0,ac none 0 0,ai 0,ai 0] 43]) 0 (aS _) ?_;rintro b W;have G:b<=m.F.length:=W;have V:=QC m G;refine ax (fun X=>?_) (fun X=>?_)
 ·have o:b<m.F.length:=ω;obtain⟨ad,a1,M,O,bc,Y,b4,L⟩:=z.f.fr o;obtain⟨b5,b6⟩:=a4 (aQ m.F b) (fJ o);obtain⟨bn,bo⟩:=bi (aQ m.F b) (fJ o);refine TQ (fr:=wO m b) (k:=b) ω fc fun bv a6 bs b0 am T K=>?_;have:=K.len;have a5:=K.hd;rw[LS m o] at a5⊢;have U:=K.i64;rw[LS m o] at U;refine aj ?_;refine bq [0,3,6,9,12,15,18,21,24,27,32,33,36,41] [13] rfl<|aj ?_;refine tE rfl (aX (k:=b) cX dQ (.ro z.f) ω rfl rfl rfl)<|aj ?_;refine tE rfl (bY (fun w h=>L _ w h 2 _ rfl) rfl rfl ed)<|aj ?_;refine pE rfl (fl rfl rfl rfl Tryz.call148 (fun w h=>by have:=zO ad p a1 q (aQ m.F b).L (cF m) w (h.ro bc) (SF.at_ (SF.own (xs:=cF m) rfl fc) h) ω ω;rw[ES bn] at this;exact this)) (fun⟨I,J⟩ _=>?_)
  try dsimp only
  refine tE rfl (aX (k:=b) cX dQ (SF.own (xs:=a6) (A:=j) (c:=l) ω fc) ω rfl rfl rfl) ?_;refine aC ?_;refine pE rfl (jT (α:=aF) (A:=j) (c:=l) (m:=m.F.length) (f:=2) (us:= [ac I ((aQ m.F b).L.map (dY (mq m))).length J]) ⟨(aQ m.F b).func,(aQ m.F b).pc,ac I ((aQ m.F b).L.map (dY (mq m))).length J,ac am (aQ m.F b).K.length T⟩ default rfl fc o ⟨U,rfl,rfl⟩ fy rfl rfl rfl rfl rfl rfl (by rw[a5];rfl) rfl) (fun _ _=>aj ?_);refine bq [0,3,6,9,12,15,18,21,24,27,32,33,36,41] [13] rfl<|aj ?_;refine tE rfl (aX (k:=b) cX dQ (.ro z.f) ω rfl rfl rfl)<|aj ?_;refine tE rfl (bY (fun w h=>L _ w h 3 _ rfl) rfl rfl ed)<|aj ?_;refine pE rfl (fl rfl rfl rfl Tryz.call148 (fun w h=>by have:=zO M p O q (aQ m.F b).K (cF m) w (h.ro Y) (SF.at_ (SF.own (xs:=cF m) rfl fc) h) ω ω;rw[ES bo] at this;exact this)) (fun⟨al,a2⟩ _=>?_)
  try dsimp only
  refine tE rfl (aX (k:=b) cX dQ (SF.own (xs:=a6.set b (⟨(aQ m.F b).func,(aQ m.F b).pc,ac I ((aQ m.F b).L.map (dY (mq m))).length J,ac am (aQ m.F b).K.length T⟩:aF)) (A:=j) (c:=l) (by rw[bS];omega) fc) ω rfl rfl rfl) ?_;refine aC ?_;refine pE rfl (jT (α:=aF) (A:=j) (c:=l) (m:=m.F.length) (f:=3) (us:= [ac al ((aQ m.F b).K.map (dY (mq m))).length a2]) ⟨(aQ m.F b).func,(aQ m.F b).pc,ac I ((aQ m.F b).L.map (dY (mq m))).length J,ac al ((aQ m.F b).K.map (dY (mq m))).length a2⟩ default (List.set_set ..).symm fc o ⟨U,rfl,rfl⟩ fy rfl rfl rfl rfl rfl rfl (by rw[ap,List.getElem?_set_self ω];rfl) rfl) (fun _ _=>?_);refine aj ?_;refine cG (b+1) (by show b+1<=_;omega) (by show _ - _<_ - _;omega) (hh:=(fun w r=>by rw[QB m o];exact(K.back _ _ _ (ld (mq m) (aQ m.F b)) _ w (r.msub (.s fc (.s fc (.s fc (.s fc .r)))))).msub ms))
 obtain rfl:b=m.F.length:=ω;refine aj ?_;intro w h;have a9:wO m m.F.length=(dT m).F:=by unfold wO dT;rw[aR,List.drop_length,et]
 rw[a9] at h V;exact⟨⟨j,l,N,S,s,v,u,y⟩,trivial,by rw[V];rfl,by rw[V];exact h.msub ms⟩
end
section
def mB:av:=⟨[⟨0,0,[⟨true,0⟩],[]⟩],[],[],[],0,0⟩
end
section
theorem Df (fs:List aw) (a:MA) (m c:av) (f:dT m=c) (w:World) (h:fV w.heap.size w a m) (b:fP fs) (d:bU fs m) :
  Calls Tryz.prog 89 #[.agg #[ac a.Af m.F.length a.cf,ac a.Ab m.B.length a.cb,ac a.Ai m.I.length a.ci,ac a.Ao m.out.length a.co,ai m.S,ai m.T]] w fun e w'=> ∃g:MA,True/\
   e= .returned (.agg #[ac g.Af c.F.length g.cf,ac g.Ab c.B.length g.cb,ac g.Ai c.I.length g.ci,ac g.Ao c.out.length g.co,ai c.S,ai c.T])/\Cw w.heap.size w [an (ac g.Af c.F.length g.cf) c.F,an (ac g.Ab c.B.length g.cb) c.B,an (ac g.Ai c.I.length g.ci) c.I,an (ac g.Ao c.out.length g.co) c.out] w':=by
 subst f;exact BI fs a m w h b d
end
section
theorem TO {fs:List aw} {l:List av} {a:jz} (h:¬(iV fs l a).2=0):(iV fs l a).1= []:=by
 unfold iV at h⊢
 split
 ·rfl
 rename_i d;rw[if_neg d] at h
 split
 ·rfl
 rename_i e;rw[if_neg e] at h;unfold L8 at h⊢
 split
 ·rename_i b;rw[if_pos b] at h;exact if_neg h
 rename_i b;rw[if_neg b] at h
 split
 ·rename_i c;rw[if_pos c] at h;exact if_neg h
 rename_i c;rw[if_neg c] at h
 split at h
 ·exact absurd rfl h
 exact absurd rfl h
theorem PT (T s:Option Addr) (V t:Nat) (fs:List aw) (l:List av) (c o z:Int) (R:List av×Int) (b:iV fs l ⟨c,o,z⟩=R) (bm:aI z) (N:dA fs l=0) (w:World) (bl:Sl w (ac T fs.length V) fs) (C:Sl w (ac s l.length t) l) :
  Calls Tryz.prog 30 #[.agg #[ac T fs.length V],.agg #[ac s l.length t],.agg #[ai c,ai o,ai z]] w fun e w'=> ∃q:Option Addr×Nat,True/\e= .returned (.tuple #[.agg #[ac q.1 R.1.length q.2],ai R.2])/\Cw w.heap.size w [an (ac q.1 R.1.length q.2) R.1] w':=by
 have:=bx C;have A:=pO N;have:=A.n4;unfold iV at b;rw[if_neg (fun f=>f N)] at b;obtain⟨a2,h⟩:∃a2,qq l.length ⟨c,o,z⟩=a2:=⟨_,rfl⟩
 rw[h] at b;unfold qq at h;simp only at h;refine enter Tryz.func30 rfl Tryz.ntmps30 rfl<|aj ?_;refine fun am _=>aj ?_;refine fun a0 _=>aj ?_;refine fun a1 _=>aj ?_;refine fun ad _=>aj ?_;refine cO rfl jC ((fun w a=>fY ((fun w a=>ft c 1 4 w) w a)))<|aj ?_;refine cc rfl (fun r=>?_) (fun r=>?_)
 ·have r:br c 1 4=false:=ψ r;rw[if_pos (dM fun f=>by rw[jk.2 ω] at r;cases r)] at h;subst h;rw[if_pos κ] at b;subst b;refine aj ?_;intro w a;exact⟨(none,0),trivial,rfl,(Cw.nilO av a).msub ms⟩
 have r:br c 1 4=true:=ψ r;have r:=jk.1 r;rw[if_neg ω] at h;refine fq (fm ?_);refine cE<|dG (fun Z:Bool=>Z=decide ((c=1/\o≠0)\/(2<c/\z≠0))) (fun Z=> [(3,af am),(4,af a0),(5,af a1),(6,af ad),(33,.bool Z)]) (fun _=> [ak am [ac T fs.length V] 24,ak a0 [ac s l.length t] 27,ak a1 [ai c,ai o,ai z] 33,ak ad [ac none 0 0] 27]) ?_ ?_
 ·refine dh 19 (fun I=>?_) (fun I=>?_)
  ·have I:c=1:=of_decide_eq_true I;refine dh 24 (fun O=>?_) (fun O=>?_)
   ·have O:¬o=0:=ψ O;refine aj ?_;refine lq true (by rw[eq_comm,decide_eq_true_iff];exact .inl ⟨I,O⟩)
   have O:o=0:=ψ O;refine dh 28 (fun i=>?_) (fun i=>?_)
   ·exact absurd (of_decide_eq_true i) ω
   have i:¬2<c:=of_decide_eq_false i;refine aj ?_;refine lq false (by rw[eq_comm,decide_eq_false_iff_not];omega)
  have I:¬c=1:=of_decide_eq_false I;refine dh 28 (fun i=>?_) (fun i=>?_)
  ·have i:2<c:=of_decide_eq_true i;refine aj ?_;refine lq (!decide (z=0)) (by rw[Bool.eq_iff_iff];simp[I,i])
  have i:¬2<c:=of_decide_eq_false i;refine aj ?_;refine lq false (by rw[eq_comm,decide_eq_false_iff_not];omega)
 rintro Z X;refine cc rfl (fun al=>?_) (fun al=>?_)
 ·rw[al] at X;rw[if_pos (of_decide_eq_true X.symm)] at h;subst h;rw[if_pos κ] at b;subst b;refine aj ?_;intro w a;exact⟨(none,0),trivial,rfl,(Cw.nilO av a).msub ms⟩
 rw[al] at X;rw[if_neg (of_decide_eq_false X.symm)] at h;clear X al;refine dh 38 (fun J=>?_) (fun J=>?_)
 ·have J:o<0:=of_decide_eq_true J;rw[if_pos (.inl J)] at h;subst h;rw[if_pos κ] at b;subst b;refine aj ?_;refine be rfl<|aj ?_;intro w a;exact⟨(none,0),trivial,rfl,(Cw.nilO av a).msub ms⟩
 have J:¬o<0:=of_decide_eq_false J;refine ax (fun K=>?_) (fun K=>?_)
 ·have K:(l.length:Int)<=o:=K;rw[if_pos (.inr K)] at h;subst h;rw[if_pos κ] at b;subst b;refine aj ?_;intro w a;exact⟨(none,0),trivial,rfl,(Cw.nilO av a).msub ms⟩
 have K:¬(l.length:Int)<=o:=K;rw[if_neg (fun f=>f.elim J K)] at h;subst h;rw[if_neg (fun f=>f rfl)] at b;obtain⟨d,rfl⟩:=nS (show 0<=o by omega);have Y:d<l.length:=ω;have a6:=A.r _ (gA Y);have a8:=lP (wZ a6);change (if c=1 then (lS fs l z,iK fs l z) else if c=2 then (lT fs l d z,jl fs l d z) else if c=3 then (l.set d (dT (ay l d)),0) else (l,0))=R at b;refine ax (fun E=>?_) (fun E=>?_)
 ·have E:c=1:=E;rw[if_pos E] at b;refine aj ?_;refine cO rfl jC ((fun w a=>fY ((fun w a=>ft z 0 10000 w) w a)))<|aj ?_;refine cc rfl (fun g=>?_) (fun g=>?_)
  ·have g:br z 0 10000=false:=ψ g;have e:iK fs l z=3:=by
    unfold iK;rw[if_pos ⟨N,dM fun f=>by rw[jk.2 ω] at g;cases g⟩]
   unfold lS at b;rw[e,if_neg κ] at b;subst b;refine aj ?_;intro w a;exact⟨(none,0),trivial,rfl,(Cw.nilO av a).msub ms⟩
  have g:br z 0 10000=true:=ψ g;have g:=jk.1 g;have e:iK fs l z=0:=by
   unfold iK;rw[if_neg ω,N]
  unfold lS at b;rw[e,if_pos rfl] at b;obtain⟨p,D⟩:∃p,mQ (pV fs l z)=p:=⟨_,rfl⟩
  have bk:p.1.length=l.length:=by rw[<-D,sU,mg]
  rw[D] at b;subst b;refine aj ?_;refine eu rfl Tryz.call87 (fun w a=>KF T s V t l.length fs l rfl A z g p D w (a.ro bl) (a.ro C)) (fun⟨S,U⟩ _=>?_);refine aP ?_;rw[<-bk];refine aj ?_;intro w a;exact⟨(S,U),trivial,rfl,a.msub ms⟩
 have E:¬c=1:=E;rw[if_neg E] at b;refine ax (fun F=>?_) (fun F=>?_)
 ·have F:c=2:=F;rw[if_pos F] at b;refine aj ?_;refine cO rfl Wh ((fun w a=>fY ((fun w a=>nA z w) w a)))<|aj ?_;refine cc rfl (fun g=>?_) (fun g=>?_)
  ·have g:bT z=false:=ψ g;have W:jb fs l d z=3:=by
    unfold jb;rw[if_pos ⟨N,.inr (.inr g)⟩]
   have e:jl fs l d z=3:=by
    unfold jl;rw[if_pos (by rw[W];decide),W]
   unfold lT at b;rw[e,if_neg κ] at b;subst b;refine aj ?_;intro w a;exact⟨(none,0),trivial,rfl,(Cw.nilO av a).msub ms⟩
  have g:bT z=true:=ψ g;have W:jb fs l d z=0:=by
   unfold jb;rw[if_neg (fun f=>f.2.elim ω (fun f=>f.elim ω (fun f=>by rw[g] at f;cases f))),N]
  obtain⟨p,D⟩:∃p,sP l d z=p:=⟨_,rfl⟩
  have bi:lT fs l d z=p:=by
   rw[<-D];unfold sP lT jl
   by_cases j:(ay l d).I.length=10 <;> simp[W,j]
  have bc:jl fs l d z=if (ay l d).I.length=10 then 7 else 0:=by
   unfold jl;rw[if_neg (fun f=>f W)];rfl
  rw[bi,bc] at b;refine aj ?_;refine eu rfl Wg (fun w a=>Cq s t l.length fs l rfl A d Y z bm p D w (a.ro C)) (fun⟨S,U⟩ _=>?_);refine aP ?_;refine fun bs _=>aj ?_;refine cc rfl (fun j=>?_) (fun j=>?_)
  ·have j:(ay l d).I.length=10:=ψ j;have e:p= []:=by rw[<-D];unfold sP;rw[if_pos j]
   rw[if_pos j,e] at b;subst b;refine aj ?_;intro w a;exact⟨(none,0),trivial,rfl,(Cw.nilO av a).msub ms⟩
  have j:¬(ay l d).I.length=10:=ψ j;rw[if_neg j] at b;subst b;refine aj ?_;intro w a;exact⟨(S,U),trivial,rfl,a.msub ms⟩
 have F:¬c=2:=F;rw[if_neg F] at b;refine ax (fun G=>?_) (fun G=>?_)
 ·have G:c=3:=G;rw[if_pos G] at b;subst b;obtain⟨y,a7⟩:∃y,dT (ay l d)=y:=⟨_,rfl⟩
  rw[a7] at a8⊢;rw[bS];refine aj ?_;refine eu rfl km (fun w a=>rs s t l.length fs l rfl A w (a.ro C)) (fun⟨u,M⟩ _=>?_);refine aP ?_;intro a3 _;refine dN (dk _ fc pN rfl rfl rfl rfl rfl (by rfl) rfl (by rfl)) rfl rfl (fun _ _=>?_);refine bL<|dG (fun _:Unit=>True) (fun _=> [(6,af ad),(10,af a3)]) (fun _=> [ak am [ac T fs.length V] 24,ak a0 [ac s l.length t] 27,ak a1 [ai c,ai (d:Int),ai z] 33,ak ad [ac none 0 0] 27,ak a3 [ac u l.length M] 27,an (ac u l.length M) (l.set d y)]) ?_ ?_
  ·refine uj (v:= ac u l.length M) (L:=l) (k:=d) Y fc fun bn a9 bo a5=>?_;have bf:a9.length=l.length:=a5.len;obtain⟨ba,bg,bb⟩:=C.mc Y;refine bq [0,3,6,9,12,15,18,21,24,27,32,33,38] [12] rfl<|aj ?_;refine tE rfl (aX (k:=d) dz cn (.ro C) ω rfl rfl rfl) ?_;refine tE rfl (eC (bb _) rfl rfl jQ cn) ?_;refine jc rfl rfl Tryz.call89 (fun w a=>Df fs ba (ay l d) y a7 w (bg.ro a) A.f a6) (fun a4 _=>?_);refine tE rfl (aX (k:=d) dz cn (SF.own (xs:=a9) bf fc) ω rfl rfl rfl) ?_;refine pE rfl (fZ (α:=eZ) (A:=u) (c:=M) (m:=l.length) (us:= [_,_,_,_,_,_]) (kW a4 y) default rfl fc Y (sg a8) cn rfl rfl rfl rfl rfl rfl rfl rfl) (fun _ _=>?_);refine bJ<|bX () trivial (hh:=(fun w f=>(a5.back (ac u l.length M) a4 y _ w (f.msub (.s fc (.s fc (.s fc (.s fc (.s fc (.s fc .r)))))))).msub ms))
  rintro _ _;refine aj ?_;intro w a;exact⟨(u,M),trivial,rfl,a.msub ms⟩
 have G:¬c=3:=G;rw[if_neg G] at b;subst b;refine aj ?_;refine eu rfl km (fun w a=>rs s t l.length fs l rfl A w (a.ro C)) (fun⟨S,U⟩ _=>?_);refine aP ?_;intro w a;exact⟨(S,U),trivial,rfl,a.msub ms⟩
end
