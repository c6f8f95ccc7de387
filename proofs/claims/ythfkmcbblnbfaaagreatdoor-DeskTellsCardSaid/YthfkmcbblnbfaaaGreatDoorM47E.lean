/- Lemmas of one proof. -/
import Derived.Test.YthfkmcbblnbfaaaGreatDoorM90E
import Derived.Test.YthfkmcbblnbfaaaGreatDoorM0E
import Derived.Test.YthfkmcbblnbfaaaGreatDoorM46E

namespace Go.Proofs.YthfkmcbblnbfaaaGreatDoor
set_option maxRecDepth 100000
set_option maxHeartbeats 16000000
open Go.RowKit
section
theorem RB {B:Nat} {w0:World} {w:Option Addr} {y:Nat} {fs:List aw} (E:bN w0 B (ac w fs.length y) fs) {a:MA} {m:av} (u:fZ B w0 a m) (g:fR fs) (e:bQ fs m) (T:¬(m.S=2\/m.S=3)) {o:List aL} {x:aL} (c:m.F=o++ [x]) {li:List (aG×aL)} (t:li.map Prod.snd=o) (O:hU li) {k:Nat} (D:o.length=k) :
  ∃f:Nat,x.func=f/\f<fs.length/\(0<=x.pc/\x.pc<=1000)/\nE B w0 fs m a li k w y x.func x.pc (x.pc+1) x.L x.K (aY fs m) (ar fs f).result:=by
 obtain⟨p,d,f,b⟩:=BO E g e T;have F:p=o/\d=x:=by
  have G:=b.fr.symm.trans c;obtain⟨r,s⟩:=List.append_inj' G rfl;exact⟨r,τ s⟩
 obtain⟨rfl,rfl⟩:=F;have N:li.length=k:=by rw[<-D,<-t,aQ]
 have V:im m=d:=by unfold im;rw[c];simp
 have v:aY fs m=bE (ar fs f).C d.pc.toNat:=by unfold aY;rw[V,b.fn];rfl
 obtain⟨_,_,_,_,_,_,⟨A,C⟩,_⟩:=u.f.fr (k:=p.length) (by rw[c];simp);have z:aN m.F p.length=d:=by rw[c];exact nv
 rw[z] at A C;have l:=OD g e (i:=p.length) (by rw[c];simp);rw[z] at l;have:=b.cl;refine⟨f,b.fn,b.hkf,by have:=b.pc;omega,⟨N,O,E,u,kD g e,v▸b.nd,b.bl,b.sl,b.ol,by have:=b.n6;omega,fun Y S=>b.st Y.2 (by rw[<-t];exact lZ S),v▸b.oa,⟨A,C,by have:=b.pc;unfold aI;omega⟩,fun j h=>nu (l.s.2 j h),fun j h=>nu (l.l.2 j h),u.s,⟨by rw[b.fn];omega,by rw[b.fn];exact_mod_cast b.hkf,by rw[b.fn];rfl,?_⟩,by rw[c,au,D];rfl,?_,rfl,by rw[t];exact c,by have:=e.ib;omega,fun Z X=>nu (e.ii Z X),fun j h=>by have:=l.s.2 j h;unfold bP at this;simp only[dv,decide_eq_true_eq] at this;omega⟩⟩
 ·have:=(kX ((iD g.p).2.2 _ (jL b.hkf))).2.2.1;omega
 intro K;have U:=e.top c;obtain⟨_,_,a0,L,W⟩:=U;have M:d.func.toNat<fs.length:=by rw[b.fn];simpa using b.hkf
 obtain⟨ad,al,q,I,J,_⟩:=rB g M L W;have R:bE (ar fs d.func.toNat).C d.pc.toNat=aY fs m:=by rw[v,b.fn];rfl
 rw[R] at q;simp[tl,K] at q;obtain⟨rfl,rfl⟩:=q;have r:1<=d.K.length:=I;have s:=fg.top J r;exact(LW (s.cell (k:=0) rfl rfl (by show 0<1;decide))).2
structure Vd where
 s:List aD
 As:Option Addr
 cs:Nat
 l:List aD
 b:List (List Int)
 Ab:Option Addr
 cb:Nat
 i:List Int
 Ai:Option Addr
 ci:Nat
 o:List Int
 Ao:Option Addr
 co:Nat
 st:Int
 nx:Int
theorem FI (R:Option Addr) (W:Nat) (fs:List aw) (a:MA) (m J:av) (ci:eX fs m=J) (w:World) (cj:Sl w (ac R fs.length W) fs) (ck:fZ w.heap.size w a m) (cr:fR fs) (ch:bQ fs m) :
  Calls Tryz.prog 51 #[.agg #[ac R fs.length W],.agg #[ac a.Af m.F.length a.cf,ac a.Ab m.B.length a.cb,ac a.Ai m.I.length a.ci,ac a.Ao m.out.length a.co,ai m.S,ai m.T]] w fun e w'=> ∃g:MA,True/\
   e= .returned (.agg #[ac g.Af J.F.length g.cf,ac g.Ab J.B.length g.cb,ac g.Ai J.I.length g.ci,ac g.Ao J.out.length g.co,ai J.S,ai J.T])/\
   Cw w.heap.size w [an (ac g.Af J.F.length g.cf) J.F,an (ac g.Ab J.B.length g.cb) J.B,an (ac g.Ai J.I.length g.ci) J.I,an (ac g.Ao J.out.length g.co) J.out] w':=by
 have c0:=kD cr ch;have:=ch.st;have:=bA cj;refine enter Tryz.func51 rfl Tryz.ntmps51 rfl<|aj ?_;refine fun a0 _=>aj ?_;refine fun a1 _=>aj ?_;refine fun ad _=>ax (fun cf=>?_) (fun cf=>?_)
 ·have cf:1<m.S:=cf;obtain rfl:m=J:=by rw[<-ci];unfold eX;rw[if_pos ω]
  refine aj ?_;refine et rfl CF (fun w L=>nk a m w (ck.ro L) c0) (fun c3 _=>aj ?_);intro w L;exact⟨c3,trivial,rfl,L.msub ms⟩
 have cf:¬1<m.S:=cf;have dV:¬(m.S=2\/m.S=3):=ω;have c1:m.F≠[]:=fun e=>by have:=ch.dn.1 e;omega
 obtain⟨cl,x,bi⟩:∃y x,m.F=y++ [x]:=by
  rcases eZ m.F with co | ⟨d0,d1,co⟩
  ·exact absurd co c1
  exact⟨d0,d1,by rw[co];simp⟩
 obtain⟨D,cs⟩:∃D,cl.length=D:=⟨_,rfl⟩
 have dn:m.F.length=D+1:=by rw[bi,au,cs];rfl
 have ds:(cl++ [x]).length=D+1:=by rw[au,cs];rfl
 refine aj ?_;refine et rfl CF (fun w L=>nk a m w (ck.ro L) c0) (fun⟨K,M,N,U,Y,Z,O,V⟩ _=>?_);refine aO ?_;intro al _;refine dE (cV _ fc bZ rfl rfl rfl rfl rfl (by rfl) rfl (by rfl)) rfl rfl (fun _ _=>?_);refine bG<|db (H':= [ag K M (cl++ [x]),ag N U m.B,ag Y Z m.I,ag O V m.out,ak al [ac K (D+1) M,ac N m.B.length U,ac Y m.I.length Z,ac O m.out.length V,ai m.S,ai m.T] 43,ak ad [ac none 0 0,ac none 0 0,ac none 0 0,ac none 0 0,ai 0,ai 0] 43,ak a1 (ah a m) 43,ak a0 [ac R fs.length W] 24]) (fun w bb=>by rw[<-dn,<-bi];exact bb.msub ms) ?_;refine HI fc fun y E S F X ct c2=>?_;rw[ds];obtain⟨b,c9,dj,d6,I⟩:=RB cj ck cr ch dV bi ct c2 cs;have ce:(y.map Prod.fst).length=D:=by rw[aQ];exact I.hk
 obtain⟨a2,a4,a3,a5,d4,d5,bc,c7⟩:=cj.fn dj;have:=I.k6;refine aj ?_;refine bd (t:=39) (v':= ai (D:Int)) rfl (by congr 1;omega) ?_;refine da D rfl ((SF.own (xs:=y.map Prod.fst++ [(⟨x.func,x.pc,ac E x.L.length F,ac S x.K.length X⟩:aG)]) (by rw[au,ce];rfl) fc))<|aj ?_;refine cE rfl Tryz.call108 (fun w L=>Eh R W fs a m w (L.ro cj) (ck.ro L) cr ch c1)<|aj ?_;refine fun a6 _=>aj ?_;refine bh [0,3,6,9,12,15,18,21,26,29] [9] rfl<|aj ?_;refine tE rfl (bU (fY (j:=0) ce fc rfl) rfl rfl bB) ?_;refine di (t:=49) (v':= ai (b:Int)) rfl (by rw[c9]) ?_;refine tE rfl (aW (k:=b) eR fx (.ro cj) ω rfl rfl rfl) ?_;refine tE rfl (eC (c7 _) rfl rfl yX fx)<|aj ?_;refine fun a7 _=>aj ?_;refine eK rfl (fY (j:=3) ce fc rfl)<|aj ?_;refine fun am _=>aj ?_;refine fun a8 _=>aj ?_;refine eK rfl (fY (j:=1) ce fc rfl) ?_;refine bd (t:=62) (v':= ai x.pc) rfl rfl<|dG (rF rfl rfl rfl ω) rfl rfl<|aC ?_;refine bG<|cn<|cn<|bK<|aC ?_;refine dG (cT fc bB rfl rfl (by rfl)) rfl rfl ?_;refine bG ?_;have cz:(aY fs m).c≠21->mx fs m=bM fs m (y.map Prod.snd) ⟨x.func,x.pc+1,x.L,x.K⟩ (aY fs m):=fun bb=>by
  unfold mx;have cm:im m=x:=by unfold im;rw[bi];simp
  rw[if_neg bb,cm,bi,List.dropLast_concat,<-ct]
 have cd:(aY fs m).c≠21->∀G:av,(∃cv,bM fs m (y.map Prod.snd) ⟨x.func,x.pc+1,x.L,x.K⟩ (aY fs m)= .inl cv/\G= {m with S:=3,T:=cv})->J=G:=fun bb G ⟨cv,cp,c6⟩=>by
  rw[<-ci,BP ω ω ((cz bb).trans cp),c6]
 have a9:(aY fs m).c≠21->∀G:av,bM fs m (y.map Prod.snd) ⟨x.func,x.pc+1,x.L,x.K⟩ (aY fs m)= .inr G->J=G:=fun bb G cp=>by
  rw[<-ci,sg ω ω ((cz bb).trans cp)]
 have c4:(aY fs m).c=21->m.I≠[]->J=⟨y.map Prod.snd++ [⟨x.func,x.pc+1,x.L,x.K++ [cQ (m.I.getD 0 0)]⟩],m.B,m.I.drop 1,m.out,0,m.T⟩:=fun bb bc=>by
  have cm:im m=x:=by unfold im;rw[bi];simp
  rw[<-ci];refine sg ω ω ?_;unfold mx;rw[if_pos bb,if_neg bc,cm,bi,List.dropLast_concat,<-ct]
 have c5:(aY fs m).c=21->m.I= []->J= {m with S:=1} :=fun bb bc=>by
  rw[<-ci];refine sg ω ω ?_;unfold mx;rw[if_pos bb,if_pos bc]
 refine iT (fun g:Vd=>(aI g.nx/\aI g.st)/\J=⟨y.map Prod.snd++ [⟨x.func,g.nx,g.l,g.s⟩],g.b,g.i,g.o,g.st,m.T⟩) (fun g=> [(4,af ad),(5,af al),(6,.pointer (some ⟨ab K,ao K+D*4,none⟩)),(9,af am),(13,ai g.nx)]) (fun g=> [ak am [ac g.As g.s.length g.cs] 116,ag g.As g.cs g.s,ak ad [ac none 0 0,ac none 0 0,ac none 0 0,ac none 0 0,ai 0,ai 0] 43,ak al [ac K (D+1) M,ac g.Ab g.b.length g.cb,ac g.Ai g.i.length g.ci,ac g.Ao g.o.length g.co,ai g.st,ai m.T] 43,an (ac K (D+1) M) (y.map Prod.fst++ [(⟨x.func,x.pc,ac E g.l.length F,ac S x.K.length X⟩:aG)]),ag E F g.l,cO y,ag g.Ab g.cb g.b,ag g.Ai g.ci g.i,ag g.Ao g.co g.o]) ?_ ?_
 ·refine ax (fun bk=>?_) (fun bk=>?_)
  ·have bk:(aY fs m).c=1:=bk;refine jq (UN a0 a1 ad al a6 a7 am a8 D y K E S R N Y O M F X W U Z V a m x.func x.pc (x.pc+1) (ar fs b).result x.L x.K (aY fs m) fs [ac none 0 0,ac none 0 0,ac none 0 0,ac none 0 0,ai 0,ai 0] (ai (ar fs b).params) (ac a2 (ar fs b).L.length a4) (ac a3 (ar fs b).C.length a5) I bk (fun d f h c q o r u k l v p s z i A C=>?_)) ⟨rfl,rfl,rfl,rfl,rfl,rfl,rfl,trivial⟩ me;refine(fM ?_);refine bW ⟨d,f,h,c,q,o,r,u,k,l,v,p,s,z,i⟩ (⟨A,a9 ω _ C⟩)
  have bk:¬(aY fs m).c=1:=bk;refine ax (fun b3=>?_) (fun b3=>?_)
  ·have b3:(aY fs m).c=2:=b3;refine jq (UM a0 a1 ad al a6 a7 am a8 D y K E S R N Y O M F X W U Z V a m x.func x.pc (x.pc+1) (ar fs b).result x.L x.K (aY fs m) fs [ac none 0 0,ac none 0 0,ac none 0 0,ac none 0 0,ai 0,ai 0] (ai (ar fs b).params) (ac a2 (ar fs b).L.length a4) (ac a3 (ar fs b).C.length a5) I b3 (fun d f h c q o r u k l v p s z i A C=>?_)) ⟨rfl,rfl,rfl,rfl,rfl,rfl,trivial⟩ me;refine(fM ?_);refine bW ⟨d,f,h,c,q,o,r,u,k,l,v,p,s,z,i⟩ (⟨A,a9 ω _ C⟩)
  have b3:¬(aY fs m).c=2:=b3;refine ax (fun b5=>?_) (fun b5=>?_)
  ·have b5:(aY fs m).c=3:=b5;refine jq (UL a0 a1 ad al a6 a7 am a8 D y K E S R N Y O M F X W U Z V a m x.func x.pc (x.pc+1) (ar fs b).result x.L x.K (aY fs m) fs [ac none 0 0,ac none 0 0,ac none 0 0,ac none 0 0,ai 0,ai 0] (ai (ar fs b).params) (ac a2 (ar fs b).L.length a4) (ac a3 (ar fs b).C.length a5) I b5 (fun d f h c q o r u k l v p s z i A C=>?_)) ⟨rfl,rfl,rfl,rfl,rfl,rfl,trivial⟩ me;refine(fM ?_);refine bW ⟨d,f,h,c,q,o,r,u,k,l,v,p,s,z,i⟩ (⟨A,a9 ω _ C⟩)
  have b5:¬(aY fs m).c=3:=b5;refine ax (fun b6=>?_) (fun b6=>?_)
  ·have b6:(aY fs m).c=4:=b6;refine jq (UK a0 a1 ad al a6 a7 am a8 D y K E S R N Y O M F X W U Z V a m x.func x.pc (x.pc+1) (ar fs b).result x.L x.K (aY fs m) fs [ac none 0 0,ac none 0 0,ac none 0 0,ac none 0 0,ai 0,ai 0] (ai (ar fs b).params) (ac a2 (ar fs b).L.length a4) (ac a3 (ar fs b).C.length a5) I b6 (fun d f h c q o r u k l v p s z i A C=>?_)) ⟨rfl,rfl,rfl,rfl,rfl,rfl,trivial⟩ me;refine(fM ?_);refine bW ⟨d,f,h,c,q,o,r,u,k,l,v,p,s,z,i⟩ (⟨A,a9 ω _ C⟩)
  have b6:¬(aY fs m).c=4:=b6;refine ax (fun b7=>?_) (fun b7=>?_)
  ·have b7:(aY fs m).c=5:=b7;refine jq (UJ a0 a1 ad al a6 a7 am a8 D y K E S R N Y O M F X W U Z V a m x.func x.pc (x.pc+1) (ar fs b).result x.L x.K (aY fs m) fs [ac none 0 0,ac none 0 0,ac none 0 0,ac none 0 0,ai 0,ai 0] (ai (ar fs b).params) (ac a2 (ar fs b).L.length a4) (ac a3 (ar fs b).C.length a5) I b7 (fun d f h c q o r u k l v p s z i A C=>?_)) ⟨rfl,rfl,rfl,rfl,rfl,rfl,rfl,trivial⟩ me;refine(fM ?_);refine bW ⟨d,f,h,c,q,o,r,u,k,l,v,p,s,z,i⟩ (⟨A,a9 ω _ C⟩)
  have b7:¬(aY fs m).c=5:=b7;refine ax (fun b8=>?_) (fun b8=>?_)
  ·have b8:(aY fs m).c=6:=b8;refine jq (UI a0 a1 ad al a6 a7 am a8 D y K E S R N Y O M F X W U Z V a m x.func x.pc (x.pc+1) (ar fs b).result x.L x.K (aY fs m) fs [ac none 0 0,ac none 0 0,ac none 0 0,ac none 0 0,ai 0,ai 0] (ai (ar fs b).params) (ac a2 (ar fs b).L.length a4) (ac a3 (ar fs b).C.length a5) I b8 (fun d f h c q o r u k l v p s z i A C=>?_)) ⟨rfl,rfl,rfl,rfl,rfl,rfl,rfl,trivial⟩ me;refine(fM ?_);refine bW ⟨d,f,h,c,q,o,r,u,k,l,v,p,s,z,i⟩ (⟨A,a9 ω _ C⟩)
  have b8:¬(aY fs m).c=6:=b8;refine ax (fun b9=>?_) (fun b9=>?_)
  ·have b9:(aY fs m).c=7:=b9;refine jq (UH a0 a1 ad al a6 a7 am a8 D y K E S R N Y O M F X W U Z V a m x.func x.pc (x.pc+1) (ar fs b).result x.L x.K (aY fs m) fs [ac none 0 0,ac none 0 0,ac none 0 0,ac none 0 0,ai 0,ai 0] (ai (ar fs b).params) (ac a2 (ar fs b).L.length a4) (ac a3 (ar fs b).C.length a5) I b9 (fun d f h c q o r u k l v p s z i A C=>?_)) ⟨rfl,rfl,rfl,rfl,rfl,rfl,rfl,trivial⟩ me;refine(fM ?_);refine bW ⟨d,f,h,c,q,o,r,u,k,l,v,p,s,z,i⟩ (⟨A,a9 ω _ C⟩)
  have b9:¬(aY fs m).c=7:=b9;refine ax (fun ca=>?_) (fun ca=>?_)
  ·have ca:(aY fs m).c=8:=ca;refine jq (UG a0 a1 ad al a6 a7 am a8 D y K E S R N Y O M F X W U Z V a m x.func x.pc (x.pc+1) (ar fs b).result x.L x.K (aY fs m) fs [ac none 0 0,ac none 0 0,ac none 0 0,ac none 0 0,ai 0,ai 0] (ai (ar fs b).params) (ac a2 (ar fs b).L.length a4) (ac a3 (ar fs b).C.length a5) I ca (fun d f h c q o r u k l v p s z i A C=>?_)) ⟨rfl,rfl,rfl,rfl,rfl,rfl,trivial⟩ me;refine(fM ?_);refine bW ⟨d,f,h,c,q,o,r,u,k,l,v,p,s,z,i⟩ (⟨A,a9 ω _ C⟩)
  have ca:¬(aY fs m).c=8:=ca;refine ax (fun cb=>?_) (fun cb=>?_)
  ·have cb:(aY fs m).c=9:=cb;refine jq (UF a0 a1 ad al a6 a7 am a8 D y K E S R N Y O M F X W U Z V a m x.func x.pc (x.pc+1) (ar fs b).result x.L x.K (aY fs m) fs [ac none 0 0,ac none 0 0,ac none 0 0,ac none 0 0,ai 0,ai 0] (ai (ar fs b).params) (ac a2 (ar fs b).L.length a4) (ac a3 (ar fs b).C.length a5) I cb (fun d f h c q o r u k l v p s z i A C=>?_)) ⟨rfl,rfl,rfl,rfl,rfl,rfl,rfl,trivial⟩ me;refine(fM ?_);refine bW ⟨d,f,h,c,q,o,r,u,k,l,v,p,s,z,i⟩ (⟨A,a9 ω _ C⟩)
  have cb:¬(aY fs m).c=9:=cb;refine ax (fun bl=>?_) (fun bl=>?_)
  ·have bl:(aY fs m).c=10:=bl;refine jq (TS a0 a1 ad al a6 a7 am a8 D y K E S R N Y O M F X W U Z V a m x.func x.pc (x.pc+1) (ar fs b).result x.L x.K (aY fs m) fs [ac none 0 0,ac none 0 0,ac none 0 0,ac none 0 0,ai 0,ai 0] (ai (ar fs b).params) (ac a2 (ar fs b).L.length a4) (ac a3 (ar fs b).C.length a5) I bl (fun d f h c q o r u k l v p s z i A C=>?_)) ⟨rfl,rfl,rfl,rfl,rfl,trivial⟩ me;refine(fM ?_);refine bW ⟨d,f,h,c,q,o,r,u,k,l,v,p,s,z,i⟩ (⟨A,a9 ω _ C⟩)
  have bl:¬(aY fs m).c=10:=bl;refine ax (fun bm=>?_) (fun bm=>?_)
  ·have bm:(aY fs m).c=11:=bm;refine jq (TR a0 a1 ad al a6 a7 am a8 D y K E S R N Y O M F X W U Z V a m x.func x.pc (x.pc+1) (ar fs b).result x.L x.K (aY fs m) fs [ac none 0 0,ac none 0 0,ac none 0 0,ac none 0 0,ai 0,ai 0] (ai (ar fs b).params) (ac a2 (ar fs b).L.length a4) (ac a3 (ar fs b).C.length a5) I bm (fun d f h c q o r u k l v p s z i A C=>?_)) ⟨rfl,rfl,rfl,rfl,rfl,rfl,rfl,trivial⟩ me;refine(fM ?_);refine bW ⟨d,f,h,c,q,o,r,u,k,l,v,p,s,z,i⟩ (⟨A,a9 ω _ C⟩)
  have bm:¬(aY fs m).c=11:=bm;refine ax (fun bo=>?_) (fun bo=>?_)
  ·have bo:(aY fs m).c=12:=bo;refine jq (TQ a0 a1 ad al a6 a7 am a8 D y K E S R N Y O M F X W U Z V a m x.func x.pc (x.pc+1) (ar fs b).result x.L x.K (aY fs m) fs [ac none 0 0,ac none 0 0,ac none 0 0,ac none 0 0,ai 0,ai 0] (ai (ar fs b).params) (ac a2 (ar fs b).L.length a4) (ac a3 (ar fs b).C.length a5) I bo rfl (fun G g ba=>?_) (fun G g ba=>?_)) ⟨rfl,rfl,rfl,rfl,rfl,rfl,rfl,rfl,rfl,trivial⟩ me
   ·obtain rfl:J=G:=cd ω G ba;refine(mi (fB ?_));refine kT mE ?_;intro w L;exact⟨g,trivial,rfl,L.msub ms⟩
   obtain rfl:J=G:=a9 ω G ba;refine(mi (fB ?_));refine kT mE ?_;intro w L;exact⟨g,trivial,rfl,L.msub ms⟩
  have bo:¬(aY fs m).c=12:=bo;refine ax (fun bp=>?_) (fun bp=>?_)
  ·have bp:(aY fs m).c=13:=bp;refine jq (TP a0 a1 ad al a6 a7 am a8 D y K E S R N Y O M F X W U Z V a m x.func x.pc (x.pc+1) (ar fs b).result x.L x.K (aY fs m) fs [ac none 0 0,ac none 0 0,ac none 0 0,ac none 0 0,ai 0,ai 0] (ai (ar fs b).params) (ac a2 (ar fs b).L.length a4) (ac a3 (ar fs b).C.length a5) I bp rfl (fun G g ba=>?_)) ⟨rfl,rfl,rfl,rfl,rfl,trivial⟩ me
   ·obtain rfl:J=G:=a9 ω G ba;refine(mi (fB ?_));refine kT mE ?_;intro w L;exact⟨g,trivial,rfl,L.msub ms⟩
  have bp:¬(aY fs m).c=13:=bp;refine ax (fun bs=>?_) (fun bs=>?_)
  ·have bs:(aY fs m).c=14:=bs;refine jq (TO a0 a1 ad al a6 a7 am a8 D y K E S R N Y O M F X W U Z V a m x.func x.pc (x.pc+1) (ar fs b).result x.L x.K (aY fs m) fs [ac none 0 0,ac none 0 0,ac none 0 0,ac none 0 0,ai 0,ai 0] (ai (ar fs b).params) (ac a2 (ar fs b).L.length a4) (ac a3 (ar fs b).C.length a5) I bs rfl (fun d f h c q o r u k l v p s z i A C=>?_) (fun G g ba=>?_)) ⟨rfl,rfl,rfl,rfl,rfl,rfl,rfl,trivial⟩ me
   ·refine(fM ?_);refine bW ⟨d,f,h,c,q,o,r,u,k,l,v,p,s,z,i⟩ (⟨A,a9 ω _ C⟩)
   obtain rfl:J=G:=cd ω G ba;refine(mi (fB ?_));refine kT mE ?_;intro w L;exact⟨g,trivial,rfl,L.msub ms⟩
  have bs:¬(aY fs m).c=14:=bs;refine ax (fun bt=>?_) (fun bt=>?_)
  ·have bt:(aY fs m).c=15:=bt;refine jq (TN a0 a1 ad al a6 a7 am a8 D y K E S R N Y O M F X W U Z V a m x.func x.pc (x.pc+1) (ar fs b).result x.L x.K (aY fs m) fs [ac none 0 0,ac none 0 0,ac none 0 0,ac none 0 0,ai 0,ai 0] (ai (ar fs b).params) (ac a2 (ar fs b).L.length a4) (ac a3 (ar fs b).C.length a5) I bt rfl (fun d f h c q o r u k l v p s z i A C=>?_) (fun G g ba=>?_)) ⟨rfl,rfl,rfl,rfl,rfl,rfl,rfl,rfl,rfl,trivial⟩ me
   ·refine(fM ?_);refine bW ⟨d,f,h,c,q,o,r,u,k,l,v,p,s,z,i⟩ (⟨A,a9 ω _ C⟩)
   obtain rfl:J=G:=cd ω G ba;refine(mi (fB ?_));refine kT mE ?_;intro w L;exact⟨g,trivial,rfl,L.msub ms⟩
  have bt:¬(aY fs m).c=15:=bt;refine ax (fun bv=>?_) (fun bv=>?_)
  ·have bv:(aY fs m).c=16:=bv;refine jq (TM a0 a1 ad al a6 a7 am a8 D y K E S R N Y O M F X W U Z V a m x.func x.pc (x.pc+1) (ar fs b).result x.L x.K (aY fs m) fs [ac none 0 0,ac none 0 0,ac none 0 0,ac none 0 0,ai 0,ai 0] (ai (ar fs b).params) (ac a2 (ar fs b).L.length a4) (ac a3 (ar fs b).C.length a5) I bv rfl (fun d f h c q o r u k l v p s z i A C=>?_) (fun G g ba=>?_)) ⟨rfl,rfl,rfl,rfl,rfl,rfl,rfl,rfl,trivial⟩ me
   ·refine(fM ?_);refine bW ⟨d,f,h,c,q,o,r,u,k,l,v,p,s,z,i⟩ (⟨A,a9 ω _ C⟩)
   obtain rfl:J=G:=cd ω G ba;refine(mi (fB ?_));refine kT mE ?_;intro w L;exact⟨g,trivial,rfl,L.msub ms⟩
  have bv:¬(aY fs m).c=16:=bv;refine ax (fun b0=>?_) (fun b0=>?_)
  ·have b0:(aY fs m).c=17:=b0;refine jq (TL a0 a1 ad al a6 a7 am a8 D y K E S R N Y O M F X W U Z V a m x.func x.pc (x.pc+1) (ar fs b).result x.L x.K (aY fs m) fs [ac none 0 0,ac none 0 0,ac none 0 0,ac none 0 0,ai 0,ai 0] (ai (ar fs b).params) (ac a2 (ar fs b).L.length a4) (ac a3 (ar fs b).C.length a5) I b0 rfl (fun d f h c q o r u k l v p s z i A C=>?_) (fun G g ba=>?_)) ⟨rfl,rfl,rfl,rfl,rfl,rfl,rfl,rfl,rfl,trivial⟩ me
   ·refine(fM ?_);refine bW ⟨d,f,h,c,q,o,r,u,k,l,v,p,s,z,i⟩ (⟨A,a9 ω _ C⟩)
   obtain rfl:J=G:=cd ω G ba;refine(mi (fB ?_));refine kT mE ?_;intro w L;exact⟨g,trivial,rfl,L.msub ms⟩
  have b0:¬(aY fs m).c=17:=b0;refine ax (fun b1=>?_) (fun b1=>?_)
  ·have b1:(aY fs m).c=18:=b1;refine jq (TK a0 a1 ad al a6 a7 am a8 D y K E S R N Y O M F X W U Z V a m x.func x.pc (x.pc+1) (ar fs b).result x.L x.K (aY fs m) fs [ac none 0 0,ac none 0 0,ac none 0 0,ac none 0 0,ai 0,ai 0] (ai (ar fs b).params) (ac a2 (ar fs b).L.length a4) (ac a3 (ar fs b).C.length a5) I b1 (fun d f h c q o r u k l v p s z i A C=>?_)) ⟨rfl,rfl,rfl,rfl,rfl,trivial⟩ me;refine(fM ?_);refine bW ⟨d,f,h,c,q,o,r,u,k,l,v,p,s,z,i⟩ (⟨A,a9 ω _ C⟩)
  have b1:¬(aY fs m).c=18:=b1;refine ax (fun b2=>?_) (fun b2=>?_)
  ·have b2:(aY fs m).c=19:=b2;refine jq (TJ a0 a1 ad al a6 a7 am a8 D y K E S R N Y O M F X W U Z V a m x.func x.pc (x.pc+1) (ar fs b).result x.L x.K (aY fs m) fs [ac none 0 0,ac none 0 0,ac none 0 0,ac none 0 0,ai 0,ai 0] (ai (ar fs b).params) (ac a2 (ar fs b).L.length a4) (ac a3 (ar fs b).C.length a5) I b2 (fun d f h c q o r u k l v p s z i A C=>?_)) ⟨rfl,rfl,rfl,rfl,rfl,rfl,rfl,rfl,trivial⟩ me;refine(fM ?_);refine bW ⟨d,f,h,c,q,o,r,u,k,l,v,p,s,z,i⟩ (⟨A,a9 ω _ C⟩)
  have b2:¬(aY fs m).c=19:=b2;refine ax (fun b4=>?_) (fun b4=>?_)
  ·have b4:(aY fs m).c=20:=b4;refine jq (TI a0 a1 ad al a6 a7 am a8 D y K E S R N Y O M F X W U Z V a m x.func x.pc (x.pc+1) (ar fs b).result x.L x.K (aY fs m) fs [ac none 0 0,ac none 0 0,ac none 0 0,ac none 0 0,ai 0,ai 0] (ai (ar fs b).params) (ac a2 (ar fs b).L.length a4) (ac a3 (ar fs b).C.length a5) I b4 rfl (fun d f h c q o r u k l v p s z i A C=>?_) (fun G g ba=>?_)) ⟨rfl,rfl,rfl,rfl,rfl,rfl,rfl,trivial⟩ me
   ·refine(fM ?_);refine bW ⟨d,f,h,c,q,o,r,u,k,l,v,p,s,z,i⟩ (⟨A,a9 ω _ C⟩)
   obtain rfl:J=G:=cd ω G ba;refine(mi (fB ?_));refine kT mE ?_;intro w L;exact⟨g,trivial,rfl,L.msub ms⟩
  have b4:¬(aY fs m).c=20:=b4;refine ax (fun bf=>?_) (fun bf=>?_)
  ·have bf:(aY fs m).c=21:=bf;refine jq (TH a0 a1 ad al a6 a7 am a8 D y K E S R N Y O M F X W U Z V a m x.func x.pc (x.pc+1) (ar fs b).result x.L x.K (aY fs m) fs [ac none 0 0,ac none 0 0,ac none 0 0,ac none 0 0,ai 0,ai 0] (ai (ar fs b).params) (ac a2 (ar fs b).L.length a4) (ac a3 (ar fs b).C.length a5) I rfl (fun f h k l bc=>?_) (fun g bc=>?_)) ⟨rfl,rfl,rfl,rfl,rfl,rfl,trivial⟩ me
   ·refine(fM ?_);refine bW ⟨x.K++ [cQ (m.I.getD 0 0)],f,h,x.L,m.B,N,U,m.I.drop 1,k,l,m.out,O,V,0,x.pc+1⟩ (⟨⟨I.pi.2.2,by show aI 0;decide⟩,c4 bf bc⟩)
   obtain rfl:J= {m with S:=1} :=c5 bf bc;refine(mi (fB ?_));refine kT mE ?_;intro w L;exact⟨g,trivial,rfl,L.msub ms⟩
  have bf:¬(aY fs m).c=21:=bf;refine aj ?_;refine bW ⟨x.K,S,X,x.L,m.B,N,U,m.I,Y,Z,m.out,O,V,m.S,x.pc+1⟩ (⟨⟨I.pi.2.2,I.hms⟩,a9 ω _ (by dsimp only[bM];rw[if_neg ω];rw[if_neg ω];rw[if_neg ω];rw[if_neg ω];rw[if_neg ω];rw[if_neg ω];rw[if_neg ω];rw[if_neg ω];rw[if_neg ω];rw[if_neg ω];rw[if_neg ω];rw[if_neg ω];rw[if_neg ω];rw[if_neg ω];dsimp only[gY];rw[if_neg ω];rw[if_neg ω];rw[if_neg ω];rw[if_neg ω];rw[if_neg ω];rw[if_neg ω];skip)⟩)
 rintro⟨d,f,h,c,q,o,r,u,k,l,v,p,s,z,i⟩ ⟨⟨dz,d7⟩,c8⟩;dsimp only at *;subst c8;refine cn<|bK<|aC ?_;refine aC ?_;refine dG (cT fc dX rfl rfl (by rfl)) rfl rfl ?_;refine aC ?_;refine aC ?_;refine aC ?_;refine oE (mK (α:=aG) ⟨x.func,x.pc,ac E c.length F,ac S x.K.length X⟩ ⟨x.func,x.pc,ac E c.length F,ac f d.length h⟩ ce fc ⟨⟨I.pi.1,I.pi.2.1⟩,rfl,rfl⟩ fA rfl rfl rfl rfl rfl rfl rfl rfl) (fun _ _=>?_);refine aC ?_;refine aC ?_;refine oE (mK (α:=aG) ⟨x.func,x.pc,ac E c.length F,ac f d.length h⟩ ⟨x.func,i,ac E c.length F,ac f d.length h⟩ ce fc ⟨⟨I.pi.1,dz⟩,rfl,rfl⟩ bg rfl rfl rfl rfl rfl rfl rfl rfl) (fun _ _=>aj ?_);intro w L;have cx:(y.map Prod.snd++ [(⟨x.func,i,c,d⟩:aL)]).length=D+1:=by rw[au,aQ,I.hk];rfl
 refine⟨⟨K,M,o,r,k,l,p,s⟩,trivial,?_,?_⟩
 ·dsimp only;rw[cx]
 dsimp only;rw[cx];exact(oO (li:=y) (h:=⟨x.func,i,ac E c.length F,ac f d.length h⟩) (x:=⟨x.func,i,c,d⟩) c2 ⟨rfl,rfl⟩ (L.msub (T:=an (ac K (D+1) M) (y.map Prod.fst++ [(⟨x.func,i,ac E c.length F,ac f d.length h⟩:aG)])::ag E F c::ag f h d::cO y:: [ag o r q,ag k l u,ag p s v]) ms)).msub ms
end
section
theorem FL (c:Int) (w:World):Calls Tryz.prog 202 #[ai c] w fun e w'=>e= .returned (ai (eS c))/\Below w.heap.size w w':=by
 refine enter Tryz.func202 rfl Tryz.ntmps202 rfl<|ax (fun a=>?_) (fun a=>?_)
 ·have a:c=14:=a;refine aj ?_;intro w d;exact⟨fi (by unfold eS;rw[if_pos a]),d.below⟩
 have a:¬c=14:=a;refine ax (fun b=>?_) (fun b=>?_)
 ·have b:c=12:=b;refine aj ?_;intro w d;exact⟨fi (by unfold eS;rw[if_neg a,if_pos b]),d.below⟩
 have b:¬c=12:=b;refine aj ?_;intro w d;exact⟨fi (by unfold eS;rw[if_neg a,if_neg b]),d.below⟩
theorem zn (i:Option Addr) (j:Nat) (fs:List aw) (a:MA) (m:av) (k:Int) (r:av×Int) (O:fX fs m k=r) (w:World) (D:Sl w (ac i fs.length j) fs) (L:fZ w.heap.size w a m) (s:fR fs) (C:bQ fs m) (K:0<=k/\k<=10000) :
  Calls Tryz.prog 145 #[.agg #[ac i fs.length j],.agg #[ac a.Af m.F.length a.cf,ac a.Ab m.B.length a.cb,ac a.Ai m.I.length a.ci,ac a.Ao m.out.length a.co,ai m.S,ai m.T],ai k] w fun e w'=> ∃g:MA,True/\
   e= .returned (.tuple #[.agg #[ac g.Af r.1.F.length g.cf,ac g.Ab r.1.B.length g.cb,ac g.Ai r.1.I.length g.ci,ac g.Ao r.1.out.length g.co,ai r.1.S,ai r.1.T],ai r.2])/\Cw w.heap.size w [an (ac g.Af r.1.F.length g.cf) r.1.F,an (ac g.Ab r.1.B.length g.cb) r.1.B,an (ac g.Ai r.1.I.length g.ci) r.1.I,an (ac g.Ao r.1.out.length g.co) r.1.out] w':=by
 have J:=kD s C;refine enter Tryz.func145 rfl Tryz.ntmps145 rfl<|aj ?_;refine fun y _=>aj ?_;refine fun p _=>aj ?_;refine fun q _=>aj ?_;refine et rfl CF (fun w b=>nk a m w (L.ro b) J) (fun G _=>?_);refine dE (cV _ fc bZ rfl rfl rfl rfl rfl (by rfl) rfl (by rfl)) rfl rfl (fun _ _=>?_);refine bG<|dq (fun g:(av×Int)×MA=>g.1=r) (fun g=> [(2,ai g.1.2),(4,af p),(6,af q)]) (fun g=> (ak p (ah g.2 g.1.1) 43::ae g.2 g.1.1 [ak q [ac none 0 0,ac none 0 0,ac none 0 0,ac none 0 0,ai 0,ai 0] 43,ak y [ac i fs.length j] 24])) ?_ ?_
 ·refine de (fun g:(av×Int)×MA=>(bQ fs g.1.1/\0<=g.1.2/\g.1.2<=10000)/\fX fs g.1.1 g.1.2=r) (fun g=>g.1.2.toNat) (fun g=> [(2,ai g.1.2),(3,af y),(4,af p),(6,af q)]) (fun g=> (ak p (ah g.2 g.1.1) 43::ae g.2 g.1.1 [ak q [ac none 0 0,ac none 0 0,ac none 0 0,ac none 0 0,ai 0,ai 0] 43,ak y [ac i fs.length j] 24])) ((m,k),G) (⟨⟨C,K⟩,O⟩) ?_;rintro⟨⟨x,n⟩,l⟩ N
  try dsimp only
  obtain⟨⟨h,T,U⟩,u⟩:(bQ fs x/\0<=n/\n<=10000)/\fX fs x n=r:=N;obtain⟨E,F⟩:=lE h;have:=h.st;refine ax (fun o=>?_) (fun o=>?_)
  ·have o:x.S<2:=o;have t:¬iM x:=(not_congr (yL h)).2 ω;have M:x.F≠[]:=fun e=>t (.inl e);have:=lT (aY fs x).c;have:=HK (aY fs x).c;refine aj ?_;refine cE rfl Tryz.call108 (fun w b=>Eh i j fs l x w (b.ro D) (oK (m:=x) b fc fc fc fc rfl rfl rfl rfl E F) s h M) ?_;refine sE (kh (KJ _ _) rfl rfl) ?_;refine cE rfl Tryz.call202 (fun w b=>FL _ w)<|ax (fun d=>?_) (fun d=>?_)
   ·have d:n<eS (aY fs x).c:=d;have er:(x,n)=r:=by rw[<-u,rq,if_neg t,if_pos d]
    refine aj ?_;refine bW ((x,n),l) er
   have d:¬n<eS (aY fs x).c:=d;obtain⟨c,v⟩:∃c,eX fs x=c:=⟨_,rfl⟩
   have I:bQ fs c:=v▸qR s h;refine aj ?_;refine et rfl Tryz.call51 (fun w b=>FI i j fs l x c v w (b.ro D) (oK (m:=x) b fc fc fc fc rfl rfl rfl rfl E F) s h) (fun A _=>cF (fun f=>?_) (fun f=>?_))
   ·have f:¬c.S=0:=f;have er:(c,n - eS (aY fs x).c)=r:=by rw[<-u,rq,if_neg t,if_neg d,v,if_neg f]
    refine aj ?_;refine bW ((c,n - eS (aY fs x).c),A) er
   have f:c.S=0:=f;refine aj ?_;refine Dg ((c,n - eS (aY fs x).c),A) (⟨⟨I,by show 0<=n - _;omega,by show n - _<=_;omega⟩,by rw[<-u,rq x,if_neg t,if_neg d,v,if_pos f]⟩) (by show (n - _).toNat<n.toNat;omega)
  have o:¬x.S<2:=o;have er:(x,n)=r:=by rw[<-u];exact(M1 ((yL h).2 ω) n).symm
  refine aj ?_;refine bW ((x,n),l) er
 rintro⟨⟨x,n⟩,l⟩ z;have z:(x,n)=r:=z;subst z;refine aO ?_;intro w b;exact⟨l,trivial,rfl,b.msub ms⟩
end
section
theorem J7 (h m:Option Addr) (i o n:Nat) (fs:List aw) (l:List av) (U:l.length=n) (f:lF fs l) (k:Int) (u:0<=k/\k<=10000) (r:List av×Nat) (W:mA (pK fs l k)=r) (w:World) (I:Sl w (.slice h fs.length i) fs) (D:Sl w (.slice m n o) l) :
  Calls Tryz.prog 87 #[.agg #[.slice h fs.length i],.agg #[.slice m n o],.int .i64 k] w fun e w'=> ∃g:Option Addr×Nat,True/\e= .returned (.agg #[.slice g.1 n g.2])/\Cw w.heap.size w [an (.slice g.1 n g.2) r.1] w':=by
 subst U;have:=bA D;have:=f.n4;have R:lF fs (pK fs l k):=f.right (lM fs l k) (ur f u.1);refine enter Tryz.func87 rfl Tryz.ntmps87 rfl<|aj ?_;refine fun p _=>aj ?_;refine fun q _=>aj ?_;refine fun s _=>aj ?_;refine fun t _=>aj ?_;refine db (fun w j=>Cw.nilO av j) ?_;refine de (fun g:Nat×Option Addr×Nat=>g.1<=l.length) (fun g=>l.length - g.1) (fun g=> [(2,.int .i64 k),(3,.pointer (some ⟨p,0,none⟩)),(4,.pointer (some ⟨q,0,none⟩)),(6,.pointer (some ⟨s,0,none⟩)),(7,.pointer (some ⟨t,0,none⟩)),(8,.int .i64 (g.1:Int))]) (fun g=> [ak t [.slice g.2.1 (((l.take g.1).map fun a=>(fX fs a k).1)).length g.2.2] 27,an (.slice g.2.1 (((l.take g.1).map fun a=>(fX fs a k).1)).length g.2.2) (((l.take g.1).map fun a=>(fX fs a k).1)),ak p [.slice h fs.length i] 24,ak q [.slice m l.length o] 27,ak s [.slice none 0 0] 27]) (0,none,0) (aU _) ?_;rintro⟨b,y,z⟩ T
 try dsimp only
 have:b<=l.length:=T;have:(((l.take b).map fun a=>(fX fs a k).1)).length=b:=by rw[aQ,aB];omega
 refine ax (fun V=>?_) (fun V=>?_)
 ·have C:b<l.length:=by omega
  obtain⟨F,G,S⟩:=D.mc C;have A:=f.r _ (gD C);obtain⟨x,v⟩:∃x,fX fs (az l b) k=x:=⟨_,rfl⟩
  have O:aI x.1.S/\aI x.1.T:=by rw[<-v];exact lE (vS f.f _ k A u.1).right
  have X:((l.take (b+1)).map fun a=>(fX fs a k).1)=((l.take b).map fun a=>(fX fs a k).1)++ [x.1]:=by rw[th C,cS,<-v];rfl
  refine fk (fh ?_);refine cn<|iP<|dq (fun _:Nat×MA=>True) (fun g=> [(2,.int .i64 k),(3,.pointer (some ⟨p,0,none⟩)),(4,.pointer (some ⟨q,0,none⟩)),(6,.pointer (some ⟨s,0,none⟩)),(7,.pointer (some ⟨t,0,none⟩)),(8,.int .i64 (b:Int)),(9,.pointer (some ⟨g.1,0,none⟩))]) (fun g=> [ak g.1 [.slice g.2.Af x.1.F.length g.2.cf,.slice g.2.Ab x.1.B.length g.2.cb,.slice g.2.Ai x.1.I.length g.2.ci,.slice g.2.Ao x.1.out.length g.2.co,.int .i64 x.1.S,.int .i64 x.1.T] 43,an (.slice g.2.Af x.1.F.length g.2.cf) x.1.F,an (.slice g.2.Ab x.1.B.length g.2.cb) x.1.B,an (.slice g.2.Ai x.1.I.length g.2.ci) x.1.I,an (.slice g.2.Ao x.1.out.length g.2.co) x.1.out,ak t [.slice y (((l.take b).map fun a=>(fX fs a k).1)).length z] 27,an (.slice y (((l.take b).map fun a=>(fX fs a k).1)).length z) (((l.take b).map fun a=>(fX fs a k).1)),ak p [.slice h fs.length i] 24,ak q [.slice m l.length o] 27,ak s [.slice none 0 0] 27]) ?_ ?_
  ·refine jG (.still 0 (.still 1 (.still 2 (.still 3 (.still 4 (.still 5 (.still 6 (.pick 7 (.still 8 (.still 9 (.still 10 (.pick 11 (.pick 12 (.still 13 .done) .stop) .stop)))) (.pick 11 (.pick 7 (.still 8 (.still 9 (.still 10 (.pick 12 (.still 13 .done) .stop)))) .stop) .stop))))))))) [] rfl (by kernel_rfl) (by kernel_rfl) ?_;refine aj ?_;refine tE rfl (aW (k:=b) dF bZ (.ro D) (by omega) rfl rfl rfl) ?_;refine tE rfl (eC (S _) rfl rfl kr bZ)<|aj ?_;refine eo rfl (pR rfl rfl rfl Tryz.call145 (fun w d=>zn h i fs F (az l b) k x v w (d.ro I) (G.ro d) f.f A u)) rfl rfl (.inr fun _=>ha) (fun c _=>?_) ?_
   ·refine aj ?_;intro E _;refine aj ?_;refine bR<|bW (E,c) trivial (hh:=(fun _ j=>j.msub ms))
   refine aj ?_;intro E _;refine kL rfl rfl Tryz.call145 (fun w d=>zn h i fs F (az l b) k x v w (d.ro I) (G.ro d) f.f A u) (fun c _=>aj ?_);refine bR<|bW (E,c) trivial (hh:=(fun _ j=>j.msub ms))
  rintro⟨ad,c⟩ _;refine aO ?_;intro Z _;refine oE (bV (α:=av) (bytes:=112) x.1 [an (.slice c.Af x.1.F.length c.cf) x.1.F,an (.slice c.Ab x.1.B.length c.cb) x.1.B,an (.slice c.Ai x.1.I.length c.ci) x.1.I,an (.slice c.Ao x.1.out.length c.co) x.1.out] X dF (aS ka) rfl (ss fc fc fc fc fc fc) (nL O) (by omega) (by omega) rfl rfl rfl) (fun⟨J,L⟩ _=>?_);refine aO ?_;refine cJ (b+1,J,L) (by show b+1<=_;omega) (by show _ - _<_ - _;omega)
 obtain rfl:b=l.length:=by omega
 have N:((l.take l.length).map fun a=>(fX fs a k).1)=pK fs l k:=by rw[aR];rfl
 rw[N,lM];refine aj ?_;refine et rfl Tryz.call146 (fun w d=>Ki y z l.length fs (pK fs l k) (lM fs l k) R r W w (SF.at_ (SF.own (lM fs l k) fc) d)) (fun⟨K,M⟩ _=>?_);refine aO ?_;intro w d;exact⟨(K,M),trivial,rfl,d.msub ms⟩
end
section
theorem FD (d i:Option Addr) (c h f j:Nat) (l1 l2:List av) (e k:Int) (p:e=k) (g:l1=if k=0 then l2 else []) (w:World) (m:bN w w.heap.size (ac d c f) l1) (h2:bN w w.heap.size (ac i h j) l2) (l:l1.length=c) (o:l2.length=h) :
  Calls Tryz.prog 32 #[.agg #[ac d c f],ai e,ai k,.agg #[ac i h j]] w fun e w'=>e= .returned (.bool true)/\Below w.heap.size w w':=by
 subst p;refine enter Tryz.func32 rfl Tryz.ntmps32 rfl<|aj ?_;refine fun q _=>aj ?_;refine fun r _=>cF (fun b=>?_) (fun b=>?_)
 ·have b:¬e=0:=b;rw[if_neg b] at g;subst g;refine bK<|dG (qt (cs:= [_]) Oy Rs rfl rfl (by rfl)) rfl rfl ?_;refine dE (cV _ fc vF rfl rfl rfl rfl rfl (by rfl) rfl (by rfl)) rfl rfl (fun _ _=>?_);refine bG<|cn<|bK<|aC ?_;refine aC ?_;refine aC ?_;refine aC ?_;refine bd (t:=15) (v':= .bool true) rfl (congrArg Value.bool (decide_eq_true rfl))<|aj ?_;refine cE rfl VW (fun w a=>qC d none c 0 f 0 [] [] w (a.ro m) bN.nil_ l rfl)<|aj ?_;intro w a;exact⟨aX (by rw[decide_eq_true rfl]),a.below⟩
 have b:e=0:=b;rw[if_pos b] at g;subst g;refine fk (fh ?_);refine cn<|bK<|aC ?_;refine aC ?_;refine aC ?_;refine aC ?_;refine bd (t:=15) (v':= .bool true) rfl (congrArg Value.bool (decide_eq_true rfl))<|aj ?_;refine cE rfl VW (fun w a=>qC d i c h f j l1 l1 w (a.ro m) (a.ro h2) l o)<|aj ?_;intro w a;exact⟨aX (by rw[decide_eq_true rfl]),a.below⟩
end
section
def sN (l:List aD) (n:Int):Bool:=l.any fun v=>v.ref && decide (v.n=n)
def qh (m:av) (i:Nat) (n:Int):Bool:=(m.F.take i).any fun x=>sN (x.L++x.K) n
def gB (m:av) (k:Nat):List Int:=((List.range k).filter fun j:Nat=>sM m ((j:Int)+1)).map fun j:Nat=>(j:Int)+1
theorem Kf (m:av):gB m m.B.length=cu m:=rfl
theorem Ke (m:av) (k:Nat):(gB m k).length<=k:=by
 unfold gB;rw[aQ];exact dS (List.length_filter_le _ _) (by rw[kv];exact aF _)
theorem Kc {m:av} {k:Nat} (h:sM m ((k:Int)+1)=true):gB m (k+1)=gB m k++ [(k:Int)+1]:=by
 unfold gB;rw[iA,List.filter_append,cS,List.filter_cons_of_pos (by exact h)];rfl
theorem M6 {m:av} {k:Nat} (h:¬sM m ((k:Int)+1)=true):gB m (k+1)=gB m k:=by
 unfold gB;rw[iA,List.filter_append,cS,List.filter_cons_of_neg (by exact h)];simp
theorem Lf (m:av) (n:Int):qh m m.F.length n=sM m n:=by unfold qh sM sN;rw[aR]
theorem IS {m:av} {i:Nat} (hi:i<m.F.length) (n:Int):qh m (i+1) n=(qh m i n || sN ((aN m.F i).L++(aN m.F i).K) n):=by
 unfold qh;rw[ti hi,List.any_append];simp
theorem Lg {l:List aD} {k:Nat} (a:k<l.length) (n:Int):sN (l.take (k+1)) n=(sN (l.take k) n || ((l.getD k default).ref && decide ((l.getD k default).n=n))):=by
 unfold sN;rw[eE l k default a,List.any_append];simp
theorem Il (a:MA) (m:av) (w:World) (z:fZ w.heap.size w a m) (L:∀x∈m.F,x.L.length<=1000/\x.K.length<=8) (a2:m.B.length<=8) (a7:m.F.length<=6) :
  Calls Tryz.prog 147 #[.agg #[ac a.Af m.F.length a.cf,ac a.Ab m.B.length a.cb,ac a.Ai m.I.length a.ci,ac a.Ao m.out.length a.co,ai m.S,ai m.T]] w fun e w'=> ∃q:Option Addr×Nat,True/\e= .returned (ac q.1 (cu m).length q.2)/\Cw w.heap.size w [an (ac q.1 (cu m).length q.2) (cu m)] w':=by
 refine enter Tryz.func147 rfl Tryz.ntmps147 rfl<|aj ?_;refine fun j _=>aj ?_;refine db (fun w k=>Cw.nilO Int k) ?_;refine de (fun d:Nat×(Option Addr×Nat)=>d.1<=m.B.length) (fun d=>m.B.length - d.1) (fun d=> [(1,af j),(3,ac d.2.1 (gB m d.1).length d.2.2),(4,ai ((d.1:Int)+1))]) (fun d=> [ag d.2.1 d.2.2 (gB m d.1),ak j (ah a m) 43]) (0,(none,0)) (aU _) ?_;rintro⟨b,⟨h,i⟩⟩ R
 try dsimp only
 have:b<=m.B.length:=R;have:=Ke m b;refine ax (fun S=>?_) (fun S=>?_)
 ·have:b<m.B.length:=ω;refine aj ?_;refine de (fun f:Nat=>f<=m.F.length) (fun f=>m.F.length - f) (fun f=> [(1,af j),(3,ac h (gB m b).length i),(4,ai ((b:Int)+1)),(5,.bool (qh m f ((b:Int)+1))),(6,ai (f:Int))]) (fun _=> [ag h i (gB m b),ak j (ah a m) 43]) 0 (aU _) ?_;rintro f N;have:f<=m.F.length:=N;refine ax (fun T=>?_) (fun T=>?_)
  ·have v:f<m.F.length:=ω;obtain⟨W,Z,X,ad,C,D,I,u⟩:=z.f.fr v;obtain⟨J,K⟩:=L (aN m.F f) (fL v);have E:=IS v ((b:Int)+1);generalize a9:aN m.F f=x at C D I u J K E;refine fk (fh ?_);refine cn<|iP<|dq (fun _:Option Addr×Nat=>True) (fun d=> [(1,af j),(3,ac h (gB m b).length i),(4,ai ((b:Int)+1)),(5,.bool (qh m f ((b:Int)+1))),(6,ai (f:Int)),(7,ac d.1 (x.L++x.K).length d.2)]) (fun d=> [ag d.1 d.2 (x.L++x.K),ag h i (gB m b),ak j (ah a m) 43]) ?_ ?_
   ·refine bh [3,6,9,12,15,18,24,27,30,33,36,39,2,23,44,45] [] rfl<|aj ?_;refine tE rfl (aW (k:=f) cP dM (.ro z.f) ω rfl rfl rfl)<|aj ?_;refine tE rfl (bU (fun w g=>u _ w g 2 _ rfl) rfl rfl dX)<|aj ?_;refine tE rfl (aW (k:=f) cP dM (.ro z.f) ω rfl rfl rfl)<|aj ?_;refine tE rfl (bU (fun w g=>u _ w g 3 _ rfl) rfl rfl dX) ?_;refine pE rfl ((fq (cs:= []) aA aM lm rfl rfl rfl rfl rfl).mem (H'':=fun d=>an (ac (some ⟨d,0,none⟩) 0 0) ([]:List aD)::_) fun d w k=>bI (α:=aD) (m:=0) [] rfl σ rfl κ k) (fun a0 _=>?_);refine pE rfl (dm (α:=aD) (bytes:=16) (xs:= []) (ys:=x.L) (cc x.L).symm aA (aS dr) rfl fc (.ro C) (by simp only[aE];omega) (by simp only[aE];omega) rfl rfl rfl) (fun⟨Y,al⟩ _=>?_)
    try dsimp only
    refine pE rfl (dm (α:=aD) (bytes:=16) (xs:=x.L) (ys:=x.K) rfl aA (aS dr) rfl fc (.ro D) ω ω rfl rfl rfl) (fun⟨o,p⟩ _=>?_);refine aO ?_;refine bR<|bW (o,p) trivial (hh:=(fun _ k=>k.msub ms))
   rintro⟨o,p⟩ _
   try dsimp only
   have:(x.L++x.K).length=x.L.length+x.K.length:=au;refine aj ?_;refine cN (t:=5) (v':= .bool (qh m f ((b:Int)+1) || sN ((x.L++x.K).take 0) ((b:Int)+1))) rfl (by simp[sN]) ?_;refine de (fun c:Nat=>c<=(x.L++x.K).length) (fun c=>(x.L++x.K).length - c) (fun c=> [(1,af j),(3,ac h (gB m b).length i),(4,ai ((b:Int)+1)),(5,.bool (qh m f ((b:Int)+1) || sN ((x.L++x.K).take c) ((b:Int)+1))),(6,ai (f:Int)),(7,ac o (x.L++x.K).length p),(8,ai (c:Int))]) (fun _=> [ag o p (x.L++x.K),ag h i (gB m b),ak j (ah a m) 43]) 0 (aU _) ?_;rintro c O;have:c<=(x.L++x.K).length:=O;refine ax (fun U=>?_) (fun U=>?_)
   ·have y:c<(x.L++x.K).length:=ω;have V:=Lg y ((b:Int)+1);refine aj ?_;generalize M:(qh m f ((b:Int)+1) || sN ((x.L++x.K).take c) ((b:Int)+1))=A;refine lI 15 rfl [(1,_),(3,_),(4,_),(6,_),(7,_),(8,_)] [(60,.bool (A || (((x.L++x.K).getD c default).ref && decide (((x.L++x.K).getD c default).n=((b:Int)+1)))))] ⟨rfl,rfl,rfl,rfl,rfl,rfl,trivial⟩ (fun s=>?_) ?_
    ·cases A
     ·refine bd (t:=45) (v':= .bool false) rfl (rfl)<|aj ?_;refine da c rfl ((SF.own (xs:=(x.L++x.K)) rfl fc))<|aj ?_;refine eK rfl (fun w g=>(SF.val (SF.own rfl fc) y default) w g 0 _ rfl) ?_;refine aC ?_;rcases Bool.eq_false_or_eq_true ((x.L++x.K).getD c default).ref with l | l
      ·rw[l];refine bd (t:=51) (v':= .bool true) rfl (rfl)<|aj ?_;refine da c rfl ((SF.own (xs:=(x.L++x.K)) rfl fc))<|aj ?_;refine eK rfl (fun w g=>(SF.val (SF.own rfl fc) y default) w g 1 _ rfl) ?_;refine aC ?_;refine aC ?_;refine aC ?_;refine aC ?_;refine bd (t:=60) (v':= .bool (false || (((x.L++x.K).getD c default).ref && decide (((x.L++x.K).getD c default).n=((b:Int)+1))))) rfl (by rw[l];simp) ?_;exact fN s ⟨rfl,rfl,rfl,rfl,rfl,rfl,rfl,trivial⟩
      rw[l];refine bd (t:=51) (v':= .bool false) rfl rfl<|aC ?_;refine aC ?_;refine aC ?_;refine aC ?_;refine aC ?_;refine aC ?_;refine aC ?_;refine aC ?_;refine aC ?_;refine bd (t:=60) (v':= .bool (false || (((x.L++x.K).getD c default).ref && decide (((x.L++x.K).getD c default).n=((b:Int)+1))))) rfl (by rw[l];rfl) ?_;exact fN s ⟨rfl,rfl,rfl,rfl,rfl,rfl,rfl,trivial⟩
     refine bd (t:=45) (v':= .bool true) rfl rfl<|aC ?_;refine aC ?_;refine aC ?_;refine aC ?_;refine aC ?_;refine aC ?_;refine aC ?_;refine aC ?_;refine aC ?_;refine aC ?_;refine aC ?_;refine aC ?_;refine aC ?_;refine aC ?_;refine aC ?_;exact bd (t:=60) (v':= .bool (true || (((x.L++x.K).getD c default).ref && decide (((x.L++x.K).getD c default).n=((b:Int)+1))))) rfl rfl<|fN s ⟨rfl,rfl,rfl,rfl,rfl,rfl,rfl,trivial⟩
    refine aj ?_;subst M;rw[Bool.or_assoc,<-V];refine cJ (c+1) (by show c+1<=_;omega) (by show _ - _<_ - _;omega)
   obtain rfl:c=(x.L++x.K).length:=ω;rw[aR,<-E];refine aj ?_;refine cJ (f+1) (by show f+1<=_;omega) (by show _ - _<_ - _;omega)
  obtain rfl:f=m.F.length:=ω;rw[Lf];refine aj ?_;refine bO rfl (fun r=>?_) (fun r=>?_)
  ·refine aj ?_;intro am _;refine oE (bV (α:=Int) (bytes:=8) ((b:Int)+1) [] (Kc r) ay (aS cK) rfl (eB fc fc) (pW (by unfold aI;omega)) ω ω rfl rfl rfl) (fun⟨F,G⟩ _=>?_);refine aO ?_;refine cJ (b+1,(F,G)) (by show b+1<=_;omega) (by show _ - _<_ - _;omega)
  rw[<-M6 (by rw[r];decide)];refine aj ?_;refine cJ (b+1,(h,i)) (by show b+1<=_;omega) (by show _ - _<_ - _;omega)
 obtain rfl:b=m.B.length:=ω;rw[Kf];refine aj ?_;intro w g;exact⟨(h,i),trivial,rfl,g.msub ms⟩
end
section
def gN (R:List Int) (v:aD):Nat->aD
 | 0=>v
 | k+1=>if v.ref=true/\v.n=R.getD k 0 then ⟨v.ref,(k:Int)+1⟩ else gN R v k
theorem Em (R:List Int) (v:aD):∀k,(gN R v k).ref=v.ref
 | 0=>rfl
 | k+1=>by
  unfold gN
  split
  ·rfl
  exact Em R v k
theorem Ca {R:List Int} {v:aD} :∀{k:Nat},(∀j,j<k->¬(v.ref=true/\v.n=R.getD j 0))->gN R v k=v
 | 0,_=>rfl
 | k+1,h=>by
  unfold gN;rw[if_neg (h k (yb k))];exact Ca fun j a=>h j (by omega)
theorem Eo {R:List Int} {v:aD} {q:Nat} (a:v.ref=true) (c:v.n=R.getD q 0):∀{k:Nat},q<k->(∀j,q<j->j<k->v.n≠R.getD j 0)->gN R v k=⟨true,(q:Int)+1⟩
 | 0,h,_=>absurd h (gt _)
 | k+1,h,b=>by
  unfold gN
  by_cases e:q=k
  ·subst e;rw[if_pos ⟨a,c⟩,a]
  rw[if_neg (fun d=>b k (by omega) (by omega) d.2)];exact Eo a c (by omega) fun j f h2=>b j f (by omega)
theorem vM {R:List Int} (c:R.Pairwise (· < ·)) {i j:Nat} (b:i<j) (a:j<R.length):R.getD i 0<R.getD j 0:=by
 have:=List.pairwise_iff_getElem.1 c i j ω a b;rw[ap,aq ω,ap,aq a];exact this
theorem DC {R:List Int} (d:R.Pairwise (· < ·)) {q:Nat} (g:q<R.length):(R.filter fun n=>decide (n<=R.getD q 0)).length=q+1:=by
 have f:(R.filter fun n=>decide (n<=R.getD q 0))=R.take (q+1):=by
  conv=>lhs;rw[<-ji (q+1) R]
  rw[List.filter_append,List.filter_eq_self.2,List.filter_eq_nil_iff.2,ee]
  ·intro n c;obtain⟨a,b,rfl⟩:=cA c;rw[aK] at b;have:=vM d (i:=q) (j:=q+1+a) ω ω;rw[List.getElem_drop];rw[ap (i:=q+1+a),aq ω] at this;have this:R.getD q 0<R[q+1+a]:=this;simp only[decide_eq_true_eq];rw[ji];omega
  intro n c;obtain⟨a,b,rfl⟩:=cA c;rw[aB] at b;simp only[decide_eq_true_eq];rw[List.getElem_take,ji]
  by_cases e:a=q
  ·subst e;rw[ap,aq ω];exact Int.le_refl _
  have:=vM d (i:=a) (j:=q) ω g;rw[ap (i:=a),aq ω] at this;have this:R[a]<R.getD q 0:=this;omega
 rw[f,aB];omega
theorem Nx {m:av} {v:aD} (o:xH (D0 m) v):gN (cu m) v (cu m).length=dU (lS m) v:=by
 by_cases a:v.ref=true/\v.n≠0
 ·have g:v.n∈cu m:=o a.1 a.2;obtain⟨q,c,k⟩:=cA g;have f:(cu m).getD q 0=v.n:=by rw[ap,aq c];exact k
  have e:=(kW.1 g).1;rw[Eo a.1 f.symm c (fun p e j r=>by have:=vM (qg m) e j;omega)];unfold dU;rw[if_pos a];unfold lS fy;rw[if_neg a.2,Cd m _ ω,aQ,show (v.n.toNat:Int)=v.n from by omega,<-f,DC (qg m) c];simp
 rw[Ca (fun p l i=>?_)]
 ·unfold dU;rw[if_neg a]
 have b:v.n=0:=dt fun b=>a ⟨i.1,b⟩;have h:=cC (d:=(0:Int)) l;rw[<-i.2,b] at h;have:=(kW.1 h).1;omega
end
section
theorem SO (R:List Int) (v:aD) (k:Nat):(⟨v.ref,(gN R v k).n⟩:aD)=gN R v k:=by
 have:=Em R v k
 cases h:gN R v k
 rw[h] at this;rw[<-this]
theorem En {R:List Int} {v:aD} (h:aI v.n):∀{k:Nat},k<=1000000->aI (gN R v k).n
 | 0,_=>h
 | k+1,a=>by
  unfold gN
  split
  ·show aI ((k:Int)+1);unfold aI;omega
  exact En h (by omega)
theorem zq (A m:Option Addr) (c o:Nat) (l:List aD) (R:List Int) (w:World) (g:Sl w (ac A l.length c) l) (u:Sl w (ac m R.length o) R) (M:l.length<=1000) (L:R.length<=1000) :
  Calls Tryz.prog 148 #[ac A l.length c,ac m R.length o] w fun e w'=> ∃y,e= .returned y/\Below w.heap.size w w'/\eQ w' w.heap.size y (l.map fun v=>gN R v R.length):=by
 refine enter Tryz.func148 rfl Tryz.ntmps148 rfl<|aj ?_;refine db (fun w f=>Cw.nilO aD f) ?_;refine de (fun d:Nat×Option Addr×Nat=>d.1<=l.length) (fun d=>l.length - d.1) (fun d=> [(0,ac A l.length c),(1,ac m R.length o),(5,ac d.2.1 ((l.take d.1).map fun v=>gN R v R.length).length d.2.2),(6,ai (d.1:Int))]) (fun d=> [ag d.2.1 d.2.2 ((l.take d.1).map fun v=>gN R v R.length)]) (0,none,0) (aU _) ?_;rintro⟨a,q,r⟩ D
 try dsimp only
 have:a<=l.length:=D;have:((l.take a).map fun v=>gN R v R.length).length=a:=by rw[aQ,aB];omega
 refine ax (fun F=>?_) (fun F=>?_)
 ·have h:a<l.length:=ω;have I:((l.take (a+1)).map fun v=>gN R v R.length)=((l.take a).map fun v=>gN R v R.length)++ [⟨(l.getD a default).ref,(gN R (l.getD a default) R.length).n⟩]:=by
   rw[eE l a default h,cS,SO];rfl
  have J:=AT g h;refine aj ?_;refine da a rfl (.ro g) ?_;refine iB rfl (SF.val (SF.ro g) h default)<|aj ?_;refine fun s _=>aj ?_;refine de (fun b:Nat=>b<=R.length) (fun b=>R.length - b) (fun b=> [(0,ac A l.length c),(1,ac m R.length o),(5,ac q ((l.take a).map fun v=>gN R v R.length).length r),(6,ai (a:Int)),(7,af s),(8,ai (b:Int))]) (fun b=> [ak s [.bool (l.getD a default).ref,ai (gN R (l.getD a default) b).n] 159,ag q r ((l.take a).map fun v=>gN R v R.length)]) 0 (aU _) ?_;rintro b E;have:b<=R.length:=E;refine ax (fun G=>?_) (fun G=>?_)
  ·have:b<R.length:=ω;refine aj ?_;refine bh [0,3,6,9,12,15,18,21,24,27,30,33,36,39,42,45,48] [] rfl<|aj ?_;refine tE rfl (aW (k:=a) aA aM (.ro g) ω rfl rfl rfl)<|aj ?_;refine tE rfl (bU (fun w k=>(SF.val (SF.ro g) h default) w k 0 _ rfl) rfl rfl xw) ?_;refine aC ?_;rcases Bool.eq_false_or_eq_true (l.getD a default).ref with i | i
   ·rw[i];refine di (t:=30) (v':= .bool true) rfl (rfl)<|aj ?_;refine tE rfl (aW (k:=a) aA aM (.ro g) ω rfl rfl rfl)<|aj ?_;refine tE rfl (bU (fun w k=>(SF.val (SF.ro g) h default) w k 1 _ rfl) rfl rfl bB)<|aj ?_;refine tE rfl (aW (k:=b) ay bg (.ro u) ω rfl rfl rfl) ?_;refine tE rfl (bU (SF.int (.ro u) ω) rfl rfl bB)<|ax (fun p=>?_) (fun p=>?_)
    ·have j:(gN R (l.getD a default) (b+1)).n=(b:Int)+1:=by unfold gN;rw[if_pos ⟨i,p⟩]
     refine aj ?_;refine cJ (b+1) (by show b+1<=_;omega) (by show _ - _<_ - _;omega) (hh:=(fun w f=>by rw[j];exact f.msub ms))
    have j:(gN R (l.getD a default) (b+1)).n=(gN R (l.getD a default) b).n:=by rw[gN,if_neg (fun f=>p f.2)]
    refine aj ?_;refine cJ (b+1) (by show b+1<=_;omega) (by show _ - _<_ - _;omega) (hh:=(fun w f=>by rw[j];exact f.msub ms))
   have j:(gN R (l.getD a default) (b+1)).n=(gN R (l.getD a default) b).n:=by rw[gN,if_neg (fun f=>by rw[i] at f;cases f.1)]
   rw[i];refine di (t:=30) (v':= .bool false) rfl (rfl)<|aj ?_;refine bY rfl<|aj ?_;refine cJ (b+1) (by show b+1<=_;omega) (by show _ - _<_ - _;omega) (hh:=(fun w f=>by rw[j];exact f.msub ms))
  obtain rfl:b=R.length:=ω;refine aj ?_;intro K _;refine oE (bV (α:=aD) (bytes:=16) ⟨(l.getD a default).ref,(gN R (l.getD a default) R.length).n⟩ [] I aA (aS dr) rfl (eB fc fc) (df (En J ω)) ω ω rfl rfl rfl) (fun⟨z,C⟩ _=>?_);refine aO ?_;refine cJ (a+1,z,C) (by show a+1<=_;omega) (by show _ - _<_ - _;omega)
 obtain rfl:a=l.length:=ω;rw[aR];refine aj ?_;intro w k;exact⟨_,rfl,lu k⟩
end
section
section
variable {P:Program} {n:NF} {B:Nat} {w0:World} {H H':List aP} {Q:Exit->Act->World->Prop} {env:cM} {x:Code}
structure Vf (B:Nat) (w0:World) (X:aP) (fr:List aL) (k:Nat) (hs:List aG) (Al:Option Addr) (cl:Nat) (As:Option Addr) (cs:Nat):Prop where
 len:hs.length=fr.length
 hd:hs.getD k default=⟨(aN fr k).func,(aN fr k).pc,.slice Al (aN fr k).L.length cl,.slice As (aN fr k).K.length cs⟩
 i64:aI (aN fr k).func/\aI (aN fr k).pc
 back:∀(v lv sv:Value) (y:aL) H w,Cw B w0 (an v (hs.set k ⟨y.func,y.pc,lv,sv⟩)::an lv y.L::an sv y.K::X::H) w->Cw B w0 (an v (fr.set k y)::H) w
theorem Tp {v:Value} {fr:List aL} {k:Nat} (M:k<fr.length) (N:cg H (an v fr) H') (h:∀r D g j i cs,Vf B w0 r fr k D g j i cs->CW P n B w0 x Q env (an v D::an (.slice g (aN fr k).L.length j) (aN fr k).L::an (.slice i (aN fr k).K.length cs) (aN fr k).K::r::H')):CW P n B w0 x Q env H:=fun I G L R=>by
 obtain⟨a,o,C,y⟩:=zA (R.perm N);have e:k<a.length:=by rw[<-aQ (f:=Prod.snd),o];exact M
 have J:=y.perm (List.Perm.swap ..);have m:Cw B w0 (an a[k].1.lv a[k].2.L::an a[k].1.sv a[k].2.K::(cO (a.eraseIdx k)::an v (a.map Prod.fst)::H')) G:=tu e J;have w:aN fr k=a[k].2:=by
  unfold aN;rw[<-o,ap,dw,aq e];rfl
 obtain⟨W,S,_⟩:=m.rd cg.a;obtain⟨X,U,_⟩:=m.rd (cg.s cg.a);obtain⟨g,j,l⟩:=rs S;obtain⟨i,cs,s⟩:=rs U;have t:a[k].1.func=a[k].2.func/\a[k].1.pc=a[k].2.pc:=C a[k] (dh e);have u:a[k].1=⟨(aN fr k).func,(aN fr k).pc,.slice g (aN fr k).L.length j,.slice i (aN fr k).K.length cs⟩:=by
  show _=(⟨_,_,ac _ _ _,ac _ _ _⟩:aG);rw[w,<-l,<-s,<-t.1,<-t.2]
 have E:aG.wf a[k].1:=nI y .a (lZ (dh e));rw[l,s,<-w] at m;refine h (cO (a.eraseIdx k)) (a.map Prod.fst) g j i cs ⟨by rw[<-o,aQ,aQ],?_,?_,fun F c d b p V h=>?_⟩ I G L (m.msub ms)
 ·rw[ap,dw,aq e];exact u
 ·rw[u] at E;exact E.1
 have O:hU (a.set k (⟨b.func,b.pc,c,d⟩,b)):=C.set (q:=(⟨b.func,b.pc,c,d⟩,b)) ⟨rfl,rfl⟩;have K:Cw B w0 (jy.parts ((⟨b.func,b.pc,c,d⟩:aG),b).1 ((⟨b.func,b.pc,c,d⟩:aG),b).2++cO (a.eraseIdx k)::an F ((a.map Prod.fst).set k ⟨b.func,b.pc,c,d⟩)::p) V:=h.msub (T:=an c b.L::an d b.K::cO (a.eraseIdx k)::an F ((a.map Prod.fst).set k ⟨b.func,b.pc,c,d⟩)::p) ms;have z:=Bd e K;have l:(a.map Prod.fst).set k ⟨b.func,b.pc,c,d⟩=(a.set k (⟨b.func,b.pc,c,d⟩,b)).map Prod.fst:=by rw[List.map_set]
 rw[l] at z;have A:=rO O (z.perm (List.Perm.swap ..));rw[List.map_set,o] at A;exact A
end
theorem El {m:av} {l:List aD} (h:vq (D0 m) l):(l.map fun v=>gN (cu m) v (cu m).length)=l.map (dU (lS m)):=oy fun v a=>Nx (h v a)
theorem Jh (m:av):(dP m).B=(cu m).map (blk m.B):=by
 show cW m.B (cu m) m.B.length=_;rw[Cd m _ (aF _),List.filter_eq_self.2];intro n a;have:=(kW.1 a).1;simp only[decide_eq_true_eq];omega
def wv (m:av) (i:Nat):List aL:=(m.F.take i).map (kV (lS m))++m.F.drop i
theorem P8 (m:av) {i:Nat} (h:i<=m.F.length):(wv m i).length=m.F.length:=by unfold wv;rw[au,aQ,aB,aK];omega
theorem Lm (m:av) {i:Nat} (h:i<m.F.length):aN (wv m i) i=aN m.F i:=by
 unfold aN wv;rw[sA (by rw[aQ,aB];omega),qj,aQ,aB]
 congr 1
 omega
theorem P7 (m:av) {i:Nat} (h:i<m.F.length):wv m (i+1)=(wv m i).set i (kV (lS m) (aN m.F i)):=by
 have a:((m.F.take i).map (kV (lS m))).length=i:=by rw[aQ,aB];omega
 unfold wv;rw[py _ _ ω,a,px,ti h,cS,bx]
 congr 1
 rw[jV h];rfl
theorem Bf (fs:List aw) (a:MA) (m:av) (w:World) (z:fZ w.heap.size w a m) (a3:fR fs) (F:bQ fs m) :
  Calls Tryz.prog 89 #[.agg #[ac a.Af m.F.length a.cf,ac a.Ab m.B.length a.cb,ac a.Ai m.I.length a.ci,ac a.Ao m.out.length a.co,ai m.S,ai m.T]] w fun e w'=> ∃g:MA,True/\
   e= .returned (.agg #[ac g.Af (dP m).F.length g.cf,ac g.Ab (dP m).B.length g.cb,ac g.Ai (dP m).I.length g.ci,ac g.Ao (dP m).out.length g.co,ai (dP m).S,ai (dP m).T])/\Cw w.heap.size w [an (ac g.Af (dP m).F.length g.cf) (dP m).F,an (ac g.Ab (dP m).B.length g.cb) (dP m).B,an (ac g.Ai (dP m).I.length g.ci) (dP m).I,an (ac g.Ao (dP m).out.length g.co) (dP m).out] w':=by
 have bb:=kD a3 F;have ba:=(gO F.bl).1;have:=BY (m:=m);have bi:=F.n6;have bk:=E2 F;have a4:∀x∈m.F,x.L.length<=1000/\x.K.length<=8:=fun x bl=>by
  obtain⟨b,G,rfl⟩:=cA bl;have r:=uO a3 F G;unfold aN at r;rw[ap,aq G] at r;exact⟨r.2,r.1⟩
 refine enter Tryz.func89 rfl Tryz.ntmps89 rfl<|aj ?_;refine fun C _=>aj ?_;refine fun D _=>aj ?_;refine et rfl CF (fun w h=>nk a m w (z.ro h) bb) (fun⟨j,l,bt,b1,s,v,u,y⟩ _=>?_);refine aO ?_;refine fun E _=>aj ?_;refine et rfl Tryz.call147 (fun w h=>Il a m w (z.ro h) a4 ba bi) (fun⟨p,q⟩ _=>?_);refine aO ?_;refine db (fun w r=>Cw.nilO (List Int) r) ?_;refine iT (fun g:Option Addr×Nat=>True) (fun g=> [(1,af C),(2,af D),(3,af E),(4,ac p (cu m).length q)]) (fun g=> [ak E [ac j m.F.length l,ac g.1 (dP m).B.length g.2,ac s m.I.length v,ac u m.out.length y,ai m.S,ai m.T] 43,an (ac g.1 (dP m).B.length g.2) (dP m).B,ag j l m.F,ag s v m.I,ag u y m.out,ag p q (cu m),ak C (ah a m) 43,ak D [ac none 0 0,ac none 0 0,ac none 0 0,ac none 0 0,ai 0,ai 0] 43]) ?_ ?_
 ·refine de (fun g:Nat×Option Addr×Nat=>g.1<=(cu m).length) (fun g=>(cu m).length - g.1) (fun g=> [(1,af C),(2,af D),(3,af E),(4,ac p (cu m).length q),(5,ai (g.1:Int))]) (fun g=> [ak E [ac j m.F.length l,ac g.2.1 (((cu m).take g.1).map (blk m.B)).length g.2.2,ac s m.I.length v,ac u m.out.length y,ai m.S,ai m.T] 43,ag g.2.1 g.2.2 (((cu m).take g.1).map (blk m.B)),ag j l m.F,ag s v m.I,ag u y m.out,ag p q (cu m),ak C (ah a m) 43,ak D [ac none 0 0,ac none 0 0,ac none 0 0,ac none 0 0,ai 0,ai 0] 43]) (0,none,0) (aU _) ?_;rintro⟨b,Z,a0⟩ W
  try dsimp only
  have G:b<=(cu m).length:=W;have:(((cu m).take b).map (blk m.B)).length=b:=by rw[aQ,aB];omega
  refine ax (fun X=>?_) (fun X=>?_)
  ·have o:b<(cu m).length:=ω;have:=(kW.1 (cC (d:=(0:Int)) o)).1;obtain⟨i,bo⟩:∃i:Nat,(cu m).getD b 0 - 1=i:=⟨((cu m).getD b 0 - 1).toNat,ω⟩
   have bm:i<m.B.length:=ω;obtain⟨ad,a1,bf,L⟩:=z.b.sub bm;have:(m.B.getD i []).length<=40:=by have:=AG F.bl ((cu m).getD b 0);unfold blk at this;rw[show ((cu m).getD b 0 - 1).toNat=i from by omega] at this;omega
   have Y:((cu m).take (b+1)).map (blk m.B)=((cu m).take b).map (blk m.B)++ [m.B.getD i []]:=by
    rw[eE _ b 0 o,cS];show _++ [blk m.B ((cu m).getD b 0)]=_;unfold blk;rw[show ((cu m).getD b 0 - 1).toNat=i from by omega]
   refine aj ?_;refine bh [0,3,9,12,15,18,21,24,27,30,33,8,38,41,44,46,50] [14,15,16] rfl<|aj ?_;refine tE rfl (aW (k:=b) ay bg (SF.own (xs:=cu m) (A:=p) (c:=q) rfl fc) ω rfl rfl rfl) ?_;refine tE rfl (bU (SF.int (SF.own (xs:=cu m) (A:=p) (c:=q) rfl fc) ω) rfl rfl bB)<|aj ?_;refine di (t:=27) (v':= ai (i:Int)) rfl (by rw[bo]) ?_;refine tE rfl (aW (k:=i) eG gu (.ro z.b) ω rfl rfl rfl) ?_;refine tE rfl (bU (L _) rfl rfl gX) ?_;refine pE rfl ((fq (cs:= []) ay bg fI rfl rfl rfl rfl rfl).mem (H'':=fun g=>an (ac (some ⟨g,0,none⟩) 0 0) ([]:List Int)::_) fun g w r=>bI (α:=Int) (m:=0) [] rfl σ rfl κ r) (fun b4 _=>?_);refine pE rfl (dm (α:=Int) (bytes:=8) (xs:= []) (ys:=m.B.getD i []) (cc _).symm ay (aS cK) rfl fc (.ro bf) (by simp only[aE];omega) (by simp only[aE];omega) rfl rfl rfl) (fun⟨M,O⟩ _=>?_);refine aO ?_;intro b3 _;refine pE rfl (bV (α:=List Int) (bytes:=24) (m.B.getD i []) [ag M O (m.B.getD i [])] Y eG (aS nP) rfl (C6 (R:=an (ac Z (((cu m).take b).map (blk m.B)).length a0) _) fc fc fc) zQ ω ω rfl rfl rfl) (fun⟨a7,a8⟩ _=>?_);refine aO ?_;refine cJ (b+1,a7,a8) (by show b+1<=_;omega) (by show _ - _<_ - _;omega)
  obtain rfl:b=(cu m).length:=ω;rw[aR,<-Jh];refine aj ?_;refine bW (Z,a0) trivial
 rintro⟨N,S⟩ _;refine aO ?_;refine de (fun b:Nat=>b<=m.F.length) (fun b=>m.F.length - b) (fun b=> [(1,af C),(2,af D),(3,af E),(4,ac p (cu m).length q),(6,ai (b:Int))]) (fun b=> [ak E [ac j m.F.length l,ac N (dP m).B.length S,ac s m.I.length v,ac u m.out.length y,ai m.S,ai m.T] 43,an (ac j m.F.length l) (wv m b),an (ac N (dP m).B.length S) (dP m).B,ag s v m.I,ag u y m.out,ag p q (cu m),ak C (ah a m) 43,ak D [ac none 0 0,ac none 0 0,ac none 0 0,ac none 0 0,ai 0,ai 0] 43]) 0 (aU _) ?_;rintro b W;have G:b<=m.F.length:=W;have V:=P8 m G;refine ax (fun X=>?_) (fun X=>?_)
 ·have o:b<m.F.length:=ω;obtain⟨ad,a1,M,O,bc,Y,b6,L⟩:=z.f.fr o;obtain⟨b7,b8⟩:=a4 (aN m.F b) (fL o);obtain⟨bp,bs⟩:=bk (aN m.F b) (fL o);refine Tp (fr:=wv m b) (k:=b) ω fc fun b0 a6 bv b2 am T K=>?_;have:=K.len;have a5:=K.hd;rw[Lm m o] at a5⊢;have U:=K.i64;rw[Lm m o] at U;refine aj ?_;refine bh [0,3,6,9,12,15,18,21,24,27,32,33,36,41] [13] rfl<|aj ?_;refine tE rfl (aW (k:=b) cP dM (.ro z.f) ω rfl rfl rfl)<|aj ?_;refine tE rfl (bU (fun w h=>L _ w h 2 _ rfl) rfl rfl dX)<|aj ?_;refine pE rfl (fm rfl rfl rfl Tryz.call148 (fun w h=>by have:=zq ad p a1 q (aN m.F b).L (cu m) w (h.ro bc) (SF.at_ (SF.own (xs:=cu m) rfl fc) h) ω ω;rw[El bp] at this;exact this)) (fun⟨I,J⟩ _=>?_)
  try dsimp only
  refine tE rfl (aW (k:=b) cP dM (SF.own (xs:=a6) (A:=j) (c:=l) ω fc) ω rfl rfl rfl) ?_;refine aC ?_;refine pE rfl (mL (α:=aG) (A:=j) (c:=l) (m:=m.F.length) (f:=2) (us:= [ac I ((aN m.F b).L.map (dU (lS m))).length J]) ⟨(aN m.F b).func,(aN m.F b).pc,ac I ((aN m.F b).L.map (dU (lS m))).length J,ac am (aN m.F b).K.length T⟩ default rfl fc o ⟨U,rfl,rfl⟩ fA rfl rfl rfl rfl rfl rfl (by rw[a5];rfl) rfl) (fun _ _=>aj ?_);refine bh [0,3,6,9,12,15,18,21,24,27,32,33,36,41] [13] rfl<|aj ?_;refine tE rfl (aW (k:=b) cP dM (.ro z.f) ω rfl rfl rfl)<|aj ?_;refine tE rfl (bU (fun w h=>L _ w h 3 _ rfl) rfl rfl dX)<|aj ?_;refine pE rfl (fm rfl rfl rfl Tryz.call148 (fun w h=>by have:=zq M p O q (aN m.F b).K (cu m) w (h.ro Y) (SF.at_ (SF.own (xs:=cu m) rfl fc) h) ω ω;rw[El bs] at this;exact this)) (fun⟨al,a2⟩ _=>?_)
  try dsimp only
  refine tE rfl (aW (k:=b) cP dM (SF.own (xs:=a6.set b (⟨(aN m.F b).func,(aN m.F b).pc,ac I ((aN m.F b).L.map (dU (lS m))).length J,ac am (aN m.F b).K.length T⟩:aG)) (A:=j) (c:=l) (by rw[cI];omega) fc) ω rfl rfl rfl) ?_;refine aC ?_;refine pE rfl (mL (α:=aG) (A:=j) (c:=l) (m:=m.F.length) (f:=3) (us:= [ac al ((aN m.F b).K.map (dU (lS m))).length a2]) ⟨(aN m.F b).func,(aN m.F b).pc,ac I ((aN m.F b).L.map (dU (lS m))).length J,ac al ((aN m.F b).K.map (dU (lS m))).length a2⟩ default (List.set_set ..).symm fc o ⟨U,rfl,rfl⟩ fA rfl rfl rfl rfl rfl rfl (by rw[ap,List.getElem?_set_self ω];rfl) rfl) (fun _ _=>?_);refine aj ?_;refine cJ (b+1) (by show b+1<=_;omega) (by show _ - _<_ - _;omega) (hh:=(fun w r=>by rw[P7 m o];exact(K.back _ _ _ (kV (lS m) (aN m.F b)) _ w (r.msub (.s fc (.s fc (.s fc (.s fc .r)))))).msub ms))
 obtain rfl:b=m.F.length:=ω;refine aj ?_;intro w h;have a9:wv m m.F.length=(dP m).F:=by unfold wv dP;rw[aR,List.drop_length,ee]
 rw[a9] at h V;exact⟨⟨j,l,N,S,s,v,u,y⟩,trivial,by rw[V];rfl,by rw[V];exact h.msub ms⟩
end
section
def mh:av:=⟨[⟨0,0,[⟨true,0⟩],[]⟩],[],[],[],0,0⟩
end
section
theorem CK (fs:List aw) (a:MA) (m c:av) (f:dP m=c) (w:World) (h:fZ w.heap.size w a m) (b:fR fs) (d:bQ fs m) :
  Calls Tryz.prog 89 #[.agg #[ac a.Af m.F.length a.cf,ac a.Ab m.B.length a.cb,ac a.Ai m.I.length a.ci,ac a.Ao m.out.length a.co,ai m.S,ai m.T]] w fun e w'=> ∃g:MA,True/\
   e= .returned (.agg #[ac g.Af c.F.length g.cf,ac g.Ab c.B.length g.cb,ac g.Ai c.I.length g.ci,ac g.Ao c.out.length g.co,ai c.S,ai c.T])/\Cw w.heap.size w [an (ac g.Af c.F.length g.cf) c.F,an (ac g.Ab c.B.length g.cb) c.B,an (ac g.Ai c.I.length g.ci) c.I,an (ac g.Ao c.out.length g.co) c.out] w':=by
 subst f;exact Bf fs a m w h b d
end
section
theorem Tn {fs:List aw} {l:List av} {a:jM} (h:¬(iV fs l a).2=0):(iV fs l a).1= []:=by
 unfold iV at h⊢
 split
 ·rfl
 rename_i d;rw[if_neg d] at h
 split
 ·rfl
 rename_i e;rw[if_neg e] at h;unfold LA at h⊢
 split
 ·rename_i b;rw[if_pos b] at h;exact if_neg h
 rename_i b;rw[if_neg b] at h
 split
 ·rename_i c;rw[if_pos c] at h;exact if_neg h
 rename_i c;rw[if_neg c] at h
 split at h
 ·exact absurd rfl h
 exact absurd rfl h
theorem Ps (T s:Option Addr) (V t:Nat) (fs:List aw) (l:List av) (c o z:Int) (R:List av×Int) (b:iV fs l ⟨c,o,z⟩=R) (bo:aI z) (N:du fs l=0) (w:World) (bm:Sl w (ac T fs.length V) fs) (C:Sl w (ac s l.length t) l) :
  Calls Tryz.prog 30 #[.agg #[ac T fs.length V],.agg #[ac s l.length t],.agg #[ai c,ai o,ai z]] w fun e w'=> ∃q:Option Addr×Nat,True/\e= .returned (.tuple #[.agg #[ac q.1 R.1.length q.2],ai R.2])/\Cw w.heap.size w [an (ac q.1 R.1.length q.2) R.1] w':=by
 have:=bA C;have A:=pB N;have:=A.n4;unfold iV at b;rw[if_neg (fun f=>f N)] at b;obtain⟨a2,h⟩:∃a2,qa l.length ⟨c,o,z⟩=a2:=⟨_,rfl⟩
 rw[h] at b;unfold qa at h;simp only at h;refine enter Tryz.func30 rfl Tryz.ntmps30 rfl<|aj ?_;refine fun am _=>aj ?_;refine fun a0 _=>aj ?_;refine fun a1 _=>aj ?_;refine fun ad _=>aj ?_;refine cE rfl jb ((fun w a=>fT ((fun w a=>fe c 1 4 w) w a)))<|aj ?_;refine bO rfl (fun r=>?_) (fun r=>?_)
 ·have r:be c 1 4=false:=τ r;rw[if_pos (dt fun f=>by rw[ik.2 ω] at r;cases r)] at h;subst h;rw[if_pos κ] at b;subst b;refine aj ?_;intro w a;exact⟨(none,0),trivial,rfl,(Cw.nilO av a).msub ms⟩
 have r:be c 1 4=true:=τ r;have r:=ik.1 r;rw[if_neg ω] at h;refine fk (fh ?_);refine cn<|dq (fun Z:Bool=>Z=decide ((c=1/\o≠0)\/(2<c/\z≠0))) (fun Z=> [(3,af am),(4,af a0),(5,af a1),(6,af ad),(33,.bool Z)]) (fun _=> [ak am [ac T fs.length V] 24,ak a0 [ac s l.length t] 27,ak a1 [ai c,ai o,ai z] 33,ak ad [ac none 0 0] 27]) ?_ ?_
 ·refine cR 19 (fun I=>?_) (fun I=>?_)
  ·have I:c=1:=of_decide_eq_true I;refine cR 24 (fun O=>?_) (fun O=>?_)
   ·have O:¬o=0:=τ O;refine aj ?_;refine kw true (by rw[eq_comm,decide_eq_true_iff];exact .inl ⟨I,O⟩)
   have O:o=0:=τ O;refine cR 28 (fun i=>?_) (fun i=>?_)
   ·exact absurd (of_decide_eq_true i) ω
   have i:¬2<c:=of_decide_eq_false i;refine aj ?_;refine kw false (by rw[eq_comm,decide_eq_false_iff_not];omega)
  have I:¬c=1:=of_decide_eq_false I;refine cR 28 (fun i=>?_) (fun i=>?_)
  ·have i:2<c:=of_decide_eq_true i;refine aj ?_;refine kw (!decide (z=0)) (by rw[Bool.eq_iff_iff];simp[I,i])
  have i:¬2<c:=of_decide_eq_false i;refine aj ?_;refine kw false (by rw[eq_comm,decide_eq_false_iff_not];omega)
 rintro Z X;refine bO rfl (fun al=>?_) (fun al=>?_)
 ·rw[al] at X;rw[if_pos (of_decide_eq_true X.symm)] at h;subst h;rw[if_pos κ] at b;subst b;refine aj ?_;intro w a;exact⟨(none,0),trivial,rfl,(Cw.nilO av a).msub ms⟩
 rw[al] at X;rw[if_neg (of_decide_eq_false X.symm)] at h;clear X al;refine cR 38 (fun J=>?_) (fun J=>?_)
 ·have J:o<0:=of_decide_eq_true J;rw[if_pos (.inl J)] at h;subst h;rw[if_pos κ] at b;subst b;refine aj ?_;refine aZ rfl<|aj ?_;intro w a;exact⟨(none,0),trivial,rfl,(Cw.nilO av a).msub ms⟩
 have J:¬o<0:=of_decide_eq_false J;refine ax (fun K=>?_) (fun K=>?_)
 ·have K:(l.length:Int)<=o:=K;rw[if_pos (.inr K)] at h;subst h;rw[if_pos κ] at b;subst b;refine aj ?_;intro w a;exact⟨(none,0),trivial,rfl,(Cw.nilO av a).msub ms⟩
 have K:¬(l.length:Int)<=o:=K;rw[if_neg (fun f=>f.elim J K)] at h;subst h;rw[if_neg (fun f=>f rfl)] at b;obtain⟨d,rfl⟩:=la (show 0<=o by omega);have Y:d<l.length:=ω;have a6:=A.r _ (gD Y);have a8:=lE (wG a6);change (if c=1 then (mw fs l z,iI fs l z) else if c=2 then (my fs l d z,jk fs l d z) else if c=3 then (l.set d (dP (az l d)),0) else (l,0))=R at b;refine ax (fun E=>?_) (fun E=>?_)
 ·have E:c=1:=E;rw[if_pos E] at b;refine aj ?_;refine cE rfl jb ((fun w a=>fT ((fun w a=>fe z 0 10000 w) w a)))<|aj ?_;refine bO rfl (fun g=>?_) (fun g=>?_)
  ·have g:be z 0 10000=false:=τ g;have e:iI fs l z=3:=by
    unfold iI;rw[if_pos ⟨N,dt fun f=>by rw[ik.2 ω] at g;cases g⟩]
   unfold mw at b;rw[e,if_neg κ] at b;subst b;refine aj ?_;intro w a;exact⟨(none,0),trivial,rfl,(Cw.nilO av a).msub ms⟩
  have g:be z 0 10000=true:=τ g;have g:=ik.1 g;have e:iI fs l z=0:=by
   unfold iI;rw[if_neg ω,N]
  unfold mw at b;rw[e,if_pos rfl] at b;obtain⟨p,D⟩:∃p,mA (pK fs l z)=p:=⟨_,rfl⟩
  have bl:p.1.length=l.length:=by rw[<-D,su,lM]
  rw[D] at b;subst b;refine aj ?_;refine et rfl Tryz.call87 (fun w a=>J7 T s V t l.length fs l rfl A z g p D w (a.ro bm) (a.ro C)) (fun⟨S,U⟩ _=>?_);refine aO ?_;rw[<-bl];refine aj ?_;intro w a;exact⟨(S,U),trivial,rfl,a.msub ms⟩
 have E:¬c=1:=E;rw[if_neg E] at b;refine ax (fun F=>?_) (fun F=>?_)
 ·have F:c=2:=F;rw[if_pos F] at b;refine aj ?_;refine cE rfl VN ((fun w a=>fT ((fun w a=>nj z w) w a)))<|aj ?_;refine bO rfl (fun g=>?_) (fun g=>?_)
  ·have g:bP z=false:=τ g;have W:jc fs l d z=3:=by
    unfold jc;rw[if_pos ⟨N,.inr (.inr g)⟩]
   have e:jk fs l d z=3:=by
    unfold jk;rw[if_pos (by rw[W];decide),W]
   unfold my at b;rw[e,if_neg κ] at b;subst b;refine aj ?_;intro w a;exact⟨(none,0),trivial,rfl,(Cw.nilO av a).msub ms⟩
  have g:bP z=true:=τ g;have W:jc fs l d z=0:=by
   unfold jc;rw[if_neg (fun f=>f.2.elim ω (fun f=>f.elim ω (fun f=>by rw[g] at f;cases f))),N]
  obtain⟨p,D⟩:∃p,sk l d z=p:=⟨_,rfl⟩
  have bk:my fs l d z=p:=by
   rw[<-D];unfold sk my jk
   by_cases j:(az l d).I.length=10 <;> simp[W,j]
  have bc:jk fs l d z=if (az l d).I.length=10 then 7 else 0:=by
   unfold jk;rw[if_neg (fun f=>f W)];rfl
  rw[bk,bc] at b;refine aj ?_;refine et rfl VM (fun w a=>BU s t l.length fs l rfl A d Y z bo p D w (a.ro C)) (fun⟨S,U⟩ _=>?_);refine aO ?_;refine fun bv _=>aj ?_;refine bO rfl (fun j=>?_) (fun j=>?_)
  ·have j:(az l d).I.length=10:=τ j;have e:p= []:=by rw[<-D];unfold sk;rw[if_pos j]
   rw[if_pos j,e] at b;subst b;refine aj ?_;intro w a;exact⟨(none,0),trivial,rfl,(Cw.nilO av a).msub ms⟩
  have j:¬(az l d).I.length=10:=τ j;rw[if_neg j] at b;subst b;refine aj ?_;intro w a;exact⟨(S,U),trivial,rfl,a.msub ms⟩
 have F:¬c=2:=F;rw[if_neg F] at b;refine ax (fun G=>?_) (fun G=>?_)
 ·have G:c=3:=G;rw[if_pos G] at b;subst b;obtain⟨y,a7⟩:∃y,dP (az l d)=y:=⟨_,rfl⟩
  rw[a7] at a8⊢;rw[cI];refine aj ?_;refine et rfl TB (fun w a=>qT s t l.length fs l rfl A w (a.ro C)) (fun⟨u,M⟩ _=>?_);refine aO ?_;intro a3 _;refine dE (cV _ fc vF rfl rfl rfl rfl rfl (by rfl) rfl (by rfl)) rfl rfl (fun _ _=>?_);refine bG<|dq (fun _:Unit=>True) (fun _=> [(6,af ad),(10,af a3)]) (fun _=> [ak am [ac T fs.length V] 24,ak a0 [ac s l.length t] 27,ak a1 [ai c,ai (d:Int),ai z] 33,ak ad [ac none 0 0] 27,ak a3 [ac u l.length M] 27,an (ac u l.length M) (l.set d y)]) ?_ ?_
  ·refine tS (v:= ac u l.length M) (L:=l) (k:=d) Y fc fun bp a9 bs a5=>?_;have bf:a9.length=l.length:=a5.len;obtain⟨ba,bi,bb⟩:=C.mc Y;refine bh [0,3,6,9,12,15,18,21,24,27,32,33,38] [12] rfl<|aj ?_;refine tE rfl (aW (k:=d) dF bZ (.ro C) ω rfl rfl rfl) ?_;refine tE rfl (eC (bb _) rfl rfl kr bZ) ?_;refine kL rfl rfl Tryz.call89 (fun w a=>CK fs ba (az l d) y a7 w (bi.ro a) A.f a6) (fun a4 _=>?_);refine tE rfl (aW (k:=d) dF bZ (SF.own (xs:=a9) bf fc) ω rfl rfl rfl) ?_;refine pE rfl (gI (α:=fp) (A:=u) (c:=M) (m:=l.length) (us:= [_,_,_,_,_,_]) (lf a4 y) default rfl fc Y (rI a8) bZ rfl rfl rfl rfl rfl rfl rfl rfl) (fun _ _=>?_);refine bR<|bW () trivial (hh:=(fun w f=>(a5.back (ac u l.length M) a4 y _ w (f.msub (.s fc (.s fc (.s fc (.s fc (.s fc (.s fc .r)))))))).msub ms))
  rintro _ _;refine aj ?_;intro w a;exact⟨(u,M),trivial,rfl,a.msub ms⟩
 have G:¬c=3:=G;rw[if_neg G] at b;subst b;refine aj ?_;refine et rfl TB (fun w a=>qT s t l.length fs l rfl A w (a.ro C)) (fun⟨S,U⟩ _=>?_);refine aO ?_;intro w a;exact⟨(S,U),trivial,rfl,a.msub ms⟩
end
section
theorem Kj (s:List UInt8) (n:Int) (M:s.length<=140737488355320) (w:World) :
  Calls Tryz.prog 28 #[.string ⟨s.toArray⟩,ai n] w fun e w'=> ∃g:(Option Addr×Nat)×Option Addr×Nat,True/\e= .returned (.tuple #[.agg #[ac g.1.1 (fV s n).1.1.length g.1.2],.agg #[ac g.2.1 (fV s n).1.2.length g.2.2],ai (fV s n).2])/\
   Cw w.heap.size w [an (ac g.1.1 (fV s n).1.1.length g.1.2) (fV s n).1.1,an (ac g.2.1 (fV s n).1.2.length g.2.2) (fV s n).1.2] w':=by
 obtain⟨a,E⟩:∃a,(eA s).1=a:=⟨_,rfl⟩
 have r:jE s=if (eA s).2=0 then dN a else (eA s).2:=by unfold jE;rw[E]
 have J:=fun w=>Bc s w M;rw[E] at J;refine enter Tryz.func28 rfl Tryz.ntmps28 rfl<|aj ?_;refine fun o _=>aj ?_;refine fun p _=>aj ?_;refine oE (fm rfl rfl rfl Tryz.call85 (fun w h=>J w)) (fun⟨c,d⟩ _=>?_);refine aO ?_;intro j _;refine dE (cV _ fc CE rfl rfl rfl rfl rfl (by rfl) rfl (by rfl)) rfl rfl (fun _ _=>?_);refine aC ?_;refine bG<|dq (fun _:Unit=>True) (fun _=> [(1,ai n),(4,af o),(5,af p),(7,af j),(8,ai (jE s))]) (fun _=> [ak o [ac none 0 0] 24,ak p [ac none 0 0] 27,ak j [ac c a.length d] 24,ag c d a]) ?_ ?_
 ·refine ax (fun l=>?_) (fun l=>?_)
  ·have l:(eA s).2=0:=l;rw[if_pos l] at r;refine aj ?_;refine cE rfl Tryz.call78 (fun w h=>tx c d a w (SF.at_ (SF.own rfl fc) h))<|aj ?_;rw[<-r];refine kw () trivial
  have l:¬(eA s).2=0:=l;rw[if_neg l] at r;rw[<-r];refine aj ?_;refine bW () trivial
 rintro⟨⟩ _;refine dq (fun _:Unit=>True) (fun _=> [(1,ai n),(4,af o),(5,af p),(7,af j),(8,ai (gU s n))]) (fun _=> [ak o [ac none 0 0] 24,ak p [ac none 0 0] 27,ak j [ac c a.length d] 24,ag c d a]) ?_ ?_
 ·refine cR 22 (fun u=>?_) (fun u=>?_)
  ·have u:jE s=0:=of_decide_eq_true u;refine aj ?_;refine cE rfl jb ((fun w h=>fT ((fun w h=>fe n 1 4 w) w h)))<|aj ?_;refine bO rfl (fun m=>?_) (fun m=>?_)
   ·have m:be n 1 4=false:=τ m;have y:gU s n=3:=by unfold gU;rw[if_pos ⟨u,dt fun k=>by rw[ik.2 ω] at m;cases m⟩]
    rw[y];refine aj ?_;refine kw () trivial
   have m:be n 1 4=true:=τ m;have m:=ik.1 m;have y:gU s n=jE s:=by unfold gU;rw[if_neg ω]
   rw[y];refine aj ?_;refine bW () trivial
  have u:¬jE s=0:=of_decide_eq_false u;have y:gU s n=jE s:=by unfold gU;rw[if_neg (fun k=>u k.1)]
  rw[y];refine aj ?_;refine bY rfl<|aj ?_;refine bW () trivial
 rintro⟨⟩ _;refine cF (fun f=>?_) (fun f=>?_)
 ·have f:¬gU s n=0:=f;have D:fV s n=(([],[]),gU s n):=by unfold fV;rw[if_neg f]
  rw[D];refine aj ?_;intro w h;exact⟨((none,0),(none,0)),trivial,rfl,(Cw.nilO aw (Cw.nilO av h)).msub ms⟩
 have f:gU s n=0:=f;obtain⟨l,U,V⟩:jE s=0/\1<=n/\n<=4:=by
  unfold gU at f
  split at f
  ·cases f
  rename_i k;exact⟨f,ω,ω⟩
 obtain⟨i,rfl⟩:=la (show 0<=n by omega);have F:dN a=0:=by
  rw[l] at r
  split at r
  ·exact r.symm
  rename_i k;exact absurd r.symm k
 have D:fV s (i:Int)=((a,List.replicate i (dk a)),0):=by unfold fV;rw[if_pos f,E];rfl
 rw[D];have z:=og F;refine aj ?_;refine fun v _=>aj ?_;refine cN (t:=8) (v':= ai 0) rfl (by rw[f]) ?_;refine db (fun w k=>Cw.nilO av k) ?_;have N:(ar a 0).L.length<=1000:=by have:=((jo (ot F).p z).1.op 0 (jo (ot F).p z).2).par 0 z |>.2;omega
 have K:aI (dk a).S/\aI (dk a).T:=by show aI 0/\aI 0;decide
 refine de (fun g:Nat×Option Addr×Nat=>g.1<=i) (fun g=>i - g.1) (fun g=> [(1,ai (i:Int)),(4,af o),(5,af p),(7,af j),(8,ai 0),(9,af v),(10,ai (g.1:Int))]) (fun g=> [ak o [ac none 0 0] 24,ak p [ac none 0 0] 27,ak j [ac c a.length d] 24,ag c d a,ak v [ac g.2.1 (List.replicate g.1 (dk a)).length g.2.2] 27,ag g.2.1 g.2.2 (List.replicate g.1 (dk a))]) (0,none,0) (aU _) ?_;rintro⟨b,G,I⟩ L
 try dsimp only
 have:b<=i:=L;have:(List.replicate b (dk a)).length=b:=vh;refine ax (fun O=>?_) (fun O=>?_)
 ·have:b<i:=ω;refine fk (fh ?_);refine dq (fun _:Option Addr×Nat=>True) (fun g=> [(1,ai (i:Int)),(4,af o),(5,af p),(7,af j),(8,ai 0),(9,af v),(10,ai (b:Int))]) (fun g=> [ak o [ac none 0 0] 24,ak p [ac none 0 0] 27,ak j [ac c a.length d] 24,ag c d a,ak v [ac g.1 (List.replicate (b+1) (dk a)).length g.2] 27,ag g.1 g.2 (List.replicate (b+1) (dk a))]) ?_ ?_
  ·refine aj ?_;refine bh [0,3,6,11,14,17,19,23] [5,6,7] rfl<|aj ?_;refine kL rfl rfl Tryz.call86 (fun w h=>Ik c d a w (SF.at_ (SF.own rfl fc) h) z N) (fun q _=>aj ?_);intro R _;refine pE rfl (bV (α:=av) (bytes:=112) (dk a) (ae q (dk a) []) (DX (dk a) b) dF (aS ka) rfl (ss fc fc fc fc fc fc) (nL K) ω ω rfl rfl rfl) (fun⟨A,C⟩ _=>?_);refine aO ?_;refine bW (A,C) trivial (hh:=(fun _ k=>k.msub ms))
  rintro⟨A,C⟩ _;refine aO ?_;refine cJ (b+1,A,C) (by show b+1<=_;omega) (by show _ - _<_ - _;omega)
 obtain rfl:b=i:=ω;refine aj ?_;refine eu [0,3,6,11,14,15] [] rfl [ak j [ac c a.length d] 24,ak v [ac G (List.replicate b (dk a)).length I] 27]<|aj ?_;intro w h;exact⟨((c,d),(G,I)),trivial,rfl,h.msub ms⟩
end
