/- Lemmas of one proof. -/
import Derived.Test.YthfkmcbblnbfaaaGreatDoorM90E
import Derived.Test.YthfkmcbblnbfaaaGreatDoorM0E
import Derived.Test.YthfkmcbblnbfaaaGreatDoorM34E
import Derived.Test.YthfkmcbblnbfaaaGreatDoorM28E

namespace Go.Proofs.YthfkmcbblnbfaaaGreatDoor
set_option maxRecDepth 100000
set_option maxHeartbeats 16000000
open Go.RowKit
section
theorem dr:(Tryz.prog.info? 159).map (fun i=>(i.zero,i.size,i.bytes))=some (some (.agg #[.bool false,ai 0]),2,16):=by kernel_rfl
theorem na:(Tryz.prog.info? 118).map (fun i=>(i.zero,i.size,i.bytes))=some (some (.agg #[ai 0,ai 0,ac none 0 0,ac none 0 0]),4,64):=by kernel_rfl
theorem ka:(Tryz.prog.info? 43).map (fun i=>(i.zero,i.size,i.bytes))=some (some (.agg #[ac none 0 0,ac none 0 0,ac none 0 0,ac none 0 0,ai 0,ai 0]),6,112):=by kernel_rfl
theorem AB (A:Option Addr) (c:Nat) (l:List aD) (w:World) (f:Sl w (ac A l.length c) l) (p:l.length*16<=140737488355328) :
  Calls Tryz.prog 210 #[ac A l.length c] w fun e w'=> ∃g,e= .returned g/\Below w.heap.size w w'/\eQ w' w.heap.size g l:=by
 refine enter Tryz.func210 rfl Tryz.ntmps210 rfl<|aj ?_;refine sE (D5 aA rfl rfl)<|aj ?_;refine bO rfl (fun b=>?_) (fun b=>?_)
 ·have a:l= []:=by
   rcases ic l.length with a | a
   ·exact bu a
   obtain⟨i,o,e⟩:=f.addr a;subst e
   cases b
  subst a;refine aj ?_;intro w d;exact⟨_,rfl,it d⟩
 refine aj ?_;refine fun k _=>aj ?_;refine fH (fun w b=>bI (α:=aD) (m:=0) [] rfl σ rfl κ b) ?_;refine oE (dm (α:=aD) (bytes:=16) (xs:= []) (ys:=l) rfl aA (aS dr) rfl fc (.ro f) (by simp only[aE];omega) (by simp only[aE];omega) rfl rfl rfl) (fun⟨h,j⟩ _=>?_);refine aO ?_;intro w d;exact⟨_,rfl,lu d⟩
def cX (l:List Int):List aD:=l.map fun t=>⟨decide (t=2),0⟩
theorem kP (l:List Int):(cX l).length=l.length:=by simp[cX]
theorem xL {l:List Int} {k:Nat} (a:k<l.length):cX (l.take (k+1))=cX (l.take k)++ [⟨decide (l.getD k 0=2),0⟩]:=by
 rw[eE l k 0 a];simp[cX]
theorem Cm (p r:Int) (c i:Option Addr) (d k v:Nat) (l:List Int) (w:World) (g:Sl w (ac c l.length d) l) (C:l.length*16<=140737488355328) :
  Calls Tryz.prog 130 #[.agg #[ai p,ac c l.length d,ai r,ac i v k]] w fun e w'=> ∃h,e= .returned h/\Below w.heap.size w w'/\eQ w' w.heap.size h (cX l):=by
 refine enter Tryz.func130 rfl Tryz.ntmps130 rfl<|aj ?_;refine fun z _=>aj ?_;refine db (fun w q=>Cw.nilO aD q) ?_;refine de (fun a:Nat×Option Addr×Nat=>a.1<=l.length) (fun a=>l.length - a.1) (fun a=> [(3,ac a.2.1 (cX (l.take a.1)).length a.2.2),(7,ac c l.length d),(8,ai (l.length:Int)),(9,ai (a.1:Int))]) (fun a=> [ag a.2.1 a.2.2 (cX (l.take a.1))]) (0,none,0) (aU _) ?_;rintro⟨b,x,y⟩ f
 try dsimp only
 have f:b<=l.length:=f;have:(cX (l.take b)).length=b:=by rw[kP,aB];omega
 refine ax (fun t=>?_) (fun t=>?_)
 ·have s:b<l.length:=ω;refine aj ?_;refine da _ rfl (.ro g) ?_;refine mQ rfl (.ro g)<|aj ?_;intro A _;refine oE (bV (α:=aD) (bytes:=16) ⟨decide (l.getD b 0=2),0⟩ [] (xL s) aA (aS dr) rfl (eB fc fc) (df (by show aI 0;decide)) ω ω rfl rfl rfl) (fun⟨j,m⟩ _=>?_);refine aO ?_;refine cJ (b+1,j,m) (by show b+1<=_;omega) (by show _ - _<_ - _;omega)
 obtain rfl:b=l.length:=ω;rw[aR];refine aj ?_;intro w u;exact⟨_,rfl,lu u⟩
theorem zr (p r:Int) (c f:Option Addr) (d g k:Nat) (l:List Int) (w:World) (j:Sl w (ac c l.length d) l) (C:l.length*16<=140737488355328) :
  Calls Tryz.prog 113 #[.agg #[ai p,ac c l.length d,ai r,ac f k g]] w fun e w'=> ∃m,e= .returned m/\Below w.heap.size w w'/\eQ w' w.heap.size m (cX l):=by
 refine enter Tryz.func113 rfl Tryz.ntmps113 rfl<|aj ?_;refine fun h _=>aj ?_;refine db (fun w t=>Cw.nilO aD t) ?_;refine de (fun a:Nat×Option Addr×Nat=>a.1<=l.length) (fun a=>l.length - a.1) (fun a=> [(1,af h),(3,ac a.2.1 (cX (l.take a.1)).length a.2.2),(4,ai (a.1:Int))]) (fun a=> [ag a.2.1 a.2.2 (cX (l.take a.1)),ak h [ai p,ac c l.length d,ai r,ac f k g] 84]) (0,none,0) (aU _) ?_;rintro⟨b,y,z⟩ i
 try dsimp only
 have i:b<=l.length:=i;have:(cX (l.take b)).length=b:=by rw[kP,aB];omega
 refine ax (fun v=>?_) (fun v=>?_)
 ·have u:b<l.length:=ω;refine aj ?_;refine da _ rfl (.ro j) ?_;refine mQ rfl (.ro j)<|aj ?_;intro A _;refine oE (bV (α:=aD) (bytes:=16) ⟨decide (l.getD b 0=2),0⟩ [] (xL u) aA (aS dr) rfl (eB fc fc) (df (by show aI 0;decide)) ω ω rfl rfl rfl) (fun⟨q,s⟩ _=>?_);refine aO ?_;refine cJ (b+1,q,s) (by show b+1<=_;omega) (by show _ - _<_ - _;omega)
 obtain rfl:b=l.length:=ω;rw[aR];refine aj ?_;intro w x;exact⟨_,rfl,lu (x.msub ms)⟩
def ox (l:List aL):Prop:=l.length*64<=140737488355328/\∀x∈l,x.L.length*16<=140737488351232/\x.K.length*16<=140737488351232
structure BA (m:av):Prop where
 f:ox m.F
 b:wT m.B
 i:m.I.length<=1000000
 o:m.out.length<=1000000
theorem fL {l:List aL} {k:Nat} (a:k<l.length):aN l k∈l:=by
 unfold aN;rw[ap,aq a];exact dh a
theorem ti {l:List aL} {k:Nat} (a:k<l.length):l.take (k+1)=l.take k++ [aN l k]:=eE l k default a
theorem wo {a b:Value} {x:aL} (hi:aI x.func/\aI x.pc):∀(w:World) (F:Nat->Prop),Hs w [an a x.L,an b x.K] F->Ow.own w F [ai x.func,ai x.pc,a,b] x:=fun _ _ c=>⟨a,b,rfl,hi,c⟩
theorem mJ (a:MA) (m:av) (w:World) (f:fZ w.heap.size w a m) (i:BA m) :
  Calls Tryz.prog 153 #[.agg #[ac a.Af m.F.length a.cf,ac a.Ab m.B.length a.cb,ac a.Ai m.I.length a.ci,ac a.Ao m.out.length a.co,ai m.S,ai m.T]] w fun e w'=> ∃g:MA,True/\
   e= .returned (.agg #[ac g.Af m.F.length g.cf,ac g.Ab m.B.length g.cb,ac g.Ai m.I.length g.ci,ac g.Ao m.out.length g.co,ai m.S,ai m.T])/\
   Cw w.heap.size w [an (ac g.Af m.F.length g.cf) m.F,an (ac g.Ab m.B.length g.cb) m.B,an (ac g.Ai m.I.length g.ci) m.I,an (ac g.Ao m.out.length g.co) m.out] w':=by
 have:=bA f.f;have:=i.f.1;refine enter Tryz.func153 rfl Tryz.ntmps153 rfl<|aj ?_;refine fun A _=>aj ?_;intro s _;refine bG<|dq (fun _:Nat×(Option Addr×Nat)×(Option Addr×Nat)×(Option Addr×Nat)=>True) (fun g=> [(1,af A),(2,af s),(3,af g.1)]) (fun g=> [ak A (ah a m) 43,ak s [ac none 0 0,ac none 0 0,ac none 0 0,ac none 0 0,ai 0,ai 0] 43,ak g.1 [ac none 0 0,ac g.2.1.1 m.B.length g.2.1.2,ac g.2.2.1.1 m.I.length g.2.2.1.2,ac g.2.2.2.1 m.out.length g.2.2.2.2,ai m.S,ai m.T] 43,ag g.2.1.1 g.2.1.2 m.B,ag g.2.2.1.1 g.2.2.1.2 m.I,ag g.2.2.2.1 g.2.2.2.2 m.out]) ?_ ?_
 ·refine jG (.still 0 (.still 1 (.still 3 (.still 4 (.still 6 (.still 7 (.still 9 (.still 10 (.still 11 (.still 12 (.pick 2 (.pick 5 (.pick 8 (.still 13 (.pick 14 (.pick 15 .done .stop) .stop)) (.pick 14 (.pick 8 (.still 13 (.pick 15 .done .stop)) .stop) .stop)) (.pick 14 (.pick 5 (.pick 8 (.still 13 (.pick 15 .done .stop)) .stop) .stop) .stop)) (.pick 14 (.pick 2 (.pick 5 (.pick 8 (.still 13 (.pick 15 .done .stop)) .stop) .stop) .stop) .stop)))))))))))) [15] rfl χ χ ?_;refine aj ?_;refine eo rfl (fm rfl rfl rfl Tryz.call209 (fun w b=>Bk _ m.B w (b.ro f.b) i.b)) rfl rfl (.inr fun _=>ha) (fun⟨q,r⟩ _=>?_) ?_
  ·try dsimp only
   refine eo rfl (fm rfl rfl rfl mo (fun w b=>jZ _ m.I w (b.ro f.i) i.i)) rfl rfl (.inr fun _=>ha) (fun⟨l,p⟩ _=>?_) ?_
   ·try dsimp only
    refine eo rfl (fm rfl rfl rfl mo (fun w b=>jZ _ m.out w (b.ro f.o) i.o)) rfl rfl (.inr fun _=>ha) (fun⟨j,k⟩ _=>?_) ?_
    ·refine aO ?_;refine fun d _=>aj ?_;refine bR<|bW (d,(q,r),(l,p),(j,k)) trivial (hh:=(fun _ h=>h.msub ms))
    refine aj ?_;intro d _;refine pE rfl (fm rfl rfl rfl mo (fun w b=>jZ _ m.out w (b.ro f.o) i.o)) (fun⟨j,k⟩ _=>?_);refine aO ?_;refine bR<|bW (d,(q,r),(l,p),(j,k)) trivial (hh:=(fun _ h=>h.msub ms))
   refine aj ?_;intro d _;refine pE rfl (fm rfl rfl rfl mo (fun w b=>jZ _ m.I w (b.ro f.i) i.i)) (fun⟨l,p⟩ _=>?_)
   try dsimp only
   refine pE rfl (fm rfl rfl rfl mo (fun w b=>jZ _ m.out w (b.ro f.o) i.o)) (fun⟨j,k⟩ _=>?_);refine aO ?_;refine bR<|bW (d,(q,r),(l,p),(j,k)) trivial (hh:=(fun _ h=>h.msub ms))
  refine aj ?_;intro d _;refine pE rfl (fm rfl rfl rfl Tryz.call209 (fun w b=>Bk _ m.B w (b.ro f.b) i.b)) (fun⟨q,r⟩ _=>?_)
  try dsimp only
  refine pE rfl (fm rfl rfl rfl mo (fun w b=>jZ _ m.I w (b.ro f.i) i.i)) (fun⟨l,p⟩ _=>?_)
  try dsimp only
  refine pE rfl (fm rfl rfl rfl mo (fun w b=>jZ _ m.out w (b.ro f.o) i.o)) (fun⟨j,k⟩ _=>?_);refine aO ?_;refine bR<|bW (d,(q,r),(l,p),(j,k)) trivial (hh:=(fun _ h=>h.msub ms))
 rintro⟨d,⟨t,x⟩,⟨u,y⟩,⟨v,z⟩⟩ _
 try dsimp only
 refine db (fun w h=>Cw.nilO aL h)<|aj ?_;refine de (fun g:Nat×Option Addr×Nat=>g.1<=m.F.length) (fun g=>m.F.length - g.1) (fun g=> [(2,af s),(3,af d),(21,ac a.Af m.F.length a.cf),(22,ai (m.F.length:Int)),(23,ai (g.1:Int))]) (fun g=> [ag g.2.1 g.2.2 (m.F.take g.1),ak A (ah a m) 43,ak s [ac none 0 0,ac none 0 0,ac none 0 0,ac none 0 0,ai 0,ai 0] 43,ag t x m.B,ag u y m.I,ag v z m.out,ak d [ac g.2.1 (m.F.take g.1).length g.2.2,ac t m.B.length x,ac u m.I.length y,ac v m.out.length z,ai m.S,ai m.T] 43]) (0,none,0) (aU _) ?_;rintro⟨c,G,J⟩ F
 try dsimp only
 have F:c<=m.F.length:=F;have:(m.F.take c).length=c:=by rw[aB];omega
 refine ax (fun O=>?_) (fun O=>?_)
 ·have E:c<m.F.length:=ω;obtain⟨q,r,l,p,N,Q,M,L⟩:=f.f.fr E;obtain⟨V,W⟩:=i.f.2 (aN m.F c) (fL E);have R:=ti E;refine fk (fh ?_);refine dq (fun _:Option Addr×Nat=>True) (fun g=> [(2,af s),(3,af d),(21,ac a.Af m.F.length a.cf),(22,ai (m.F.length:Int)),(23,ai (c:Int))]) (fun g=> [ag g.1 g.2 (m.F.take (c+1)),ak A (ah a m) 43,ak s [ac none 0 0,ac none 0 0,ac none 0 0,ac none 0 0,ai 0,ai 0] 43,ag t x m.B,ag u y m.I,ag v z m.out,ak d [ac g.1 (m.F.take (c+1)).length g.2,ac t m.B.length x,ac u m.I.length y,ac v m.out.length z,ai m.S,ai m.T] 43]) ?_ ?_
  ·refine aj ?_;refine da _ rfl (.ro f.f) ?_;refine iB rfl (L _)<|aj ?_;intro T _;refine dE (cV _ fc dM rfl rfl rfl rfl rfl (by rfl) rfl (by rfl)) rfl rfl (fun _ _=>?_);refine bG<|bh [0,3,6,9,12,15,18,21,27,30,26,35,36,41,44,46,50] [14,15,16] rfl<|aj ?_;refine pE rfl (fm rfl rfl rfl Tryz.call210 (fun w b=>AB _ _ (aN m.F c).L w (b.ro N) ω)) (fun⟨j,k⟩ _=>?_)
   try dsimp only
   refine pE rfl (fm rfl rfl rfl Tryz.call210 (fun w b=>AB _ _ (aN m.F c).K w (b.ro Q) ω)) (fun⟨I,K⟩ _=>?_);refine aO ?_;intro U _;refine pE rfl (bV (α:=aL) (bytes:=64) (aN m.F c) [an (ac j (aN m.F c).L.length k) (aN m.F c).L,an (ac I (aN m.F c).K.length K) (aN m.F c).K] R cP (aS na) rfl (xd fc fc fc fc) (wo M) ω ω rfl rfl rfl) (fun⟨C,D⟩ _=>?_);refine aO ?_;refine bW (C,D) trivial (hh:=(fun _ h=>h.msub ms))
  rintro⟨C,D⟩ _;refine aO ?_;refine cJ (c+1,C,D) (by show c+1<=_;omega) (by show _ - _<_ - _;omega)
 obtain rfl:c=m.F.length:=ω;rw[aR];refine aj ?_;intro w b;exact⟨⟨G,J,t,x,u,y,v,z⟩,trivial,rfl,b.msub ms⟩
end
section
theorem sy {α:Type} (xs:List α) (y d:α) {k:Nat} (a:xs.length=k):(xs++ [y]).getD k d=y:=by
 subst a;rw[ap,dx (aF _),px];rfl
theorem yn {α:Type} (xs:List α) (y a:α) {k:Nat} (b:xs.length=k):(xs++ [y]).set k a=xs++ [a]:=by
 subst b;rw[py _ _ (aF _),px];rfl
theorem JP {α:Type} (xs:List α) (y:α) {k:Nat} (a:xs.length=k):(xs++ [y]).take k=xs:=by
 subst a;exact List.take_left' rfl
section
variable {P:Program} {n:NF} {B:Nat} {w0:World} {env:cM} {H H':List aP} {o:Oper}
theorem fY {α:Type} [dd α] {xs:List α} {y:α} {A:Option Addr} {k c:Nat} (a:xs.length=k) (d:cg H (an (ac A (k+1) c) (xs++ [y])) H') {j:Nat} {v:Value} (b:(dd.enc y)[j]? =some v) :
  ∀w,Cw B w0 H w->w.cell? ⟨ab A,ao A+k*aH.k α+j,none⟩=some v:=fun w e=>by
 refine SF.cell (SF.own (by rw[au,a];rfl) d) (yb k) y ?_ w e;rw[sy xs y y a];exact b
theorem nI {α:Type} [dd α] {v:Value} {xs:List α} {w:World} (g:Cw B w0 H w) (f:cg H (an v xs) H') {x:α} (a:x∈xs):dd.wf x:=by
 obtain⟨b,c,_⟩:=g.rd f;rcases(show cY w b v xs from c) with ⟨_,rfl,_⟩ | ⟨l,m,j,k,i,e⟩
 ·cases a
 obtain⟨h,d,rfl⟩:=cA a;exact(dd.own_iff.1 (e.el h _ (aq d))).1.2
theorem tK {α:Type} [dd α] {v:Value} {xs:List α} {y:α} {w:World} (b:Cw B w0 H w) (a:cg H (an v (xs++ [y])) H'):dd.wf y:=nI b a (ip _ (cL.2 rfl))
theorem mK {α:Type} [dd α] {i j:Operand} {t:TypeId} {A:Option Addr} {c k f d:Nat} {v:Value} {us:List Value} {xs:List α} (y a:α) (b:xs.length=k) (p:cg H (an (ac A (k+1) c) (xs++ [y])) H') (r:dd.wf a) (u:∀w,(sizeOf t).run P w= .ok d w)
  (m:o.op= .store t i j) (hi:opv env i=some (.pointer (some ⟨ab A,ao A+k*aH.k α+f,none⟩))) (g:opv env j=some v) (q:v.cells=us.toArray) (h:Nat.beq us.length d=true) (e:us.all Value.oneCell'=true)
  (s:mr (dd.enc y) f us=dd.enc a) (l:Nat.ble (f+us.length) (aH.k α)=true):OT P n B w0 o env H (γ:=Unit) (fun _=>True) (fun _=>undef) (fun _=>an (ac A (k+1) c) (xs++ [a])::H'):=
 mL a y (yn xs y a b).symm p (yb k) r u m hi g q h e (by rw[sy xs y y b];exact s) l
theorem yh {α:Type} [Ow α] {A:Option Addr} {k c:Nat} {xs:List α} {y:α} (a:xs.length=k) {w:World} (h:Cw B w0 (an (ac A (k+1) c) (xs++ [y])::H) w):Cw B w0 (an (ac A k c) xs::H) w:=by
 have:=tg (k:=k) (Nat.le_succ k) h
 rwa [JP xs y a] at this
theorem rK (gd k c:Nat) (A:Option Addr) (g:List aG) (w:World) (b:w.cell? ⟨gd,0,none⟩=some (ac A (k+1) c)) (d:gd<w.heap.size) (f:Sl w (ac A (k+1) c) g) :
  Calls Tryz.prog 216 #[af gd] w fun e w'=>e= .returned (.pointer (some ⟨ab A,ao A+k*4,none⟩))/\Below w.heap.size w w':=by
 have:=bA f;refine enter Tryz.func216 rfl Tryz.ntmps216 rfl<|aj ?_;refine bh [0,3,6,9,12,15,18,21,24,27,30,33,36,39] [] rfl<|aj ?_;refine tE rfl (bU (fun w' a=>(a.below.cell d).trans b) rfl rfl Tryz.isAgg40)<|aj ?_;refine tE rfl (bU (fun w' a=>(a.below.cell d).trans b) rfl rfl Tryz.isAgg40)<|aj ?_;refine di (t:=14) (v':= ai (k:Int)) rfl (by congr 1;omega) ?_;refine tE rfl (aW (k:=k) cP dM (.ro f) ω rfl rfl rfl)<|aj ?_;intro w a;exact⟨rfl,a.below⟩
end
section
variable {B:Nat} {w0:World} {H:List aP}
theorem gi (gd k:Nat) (g:List aG) (d:g.length=k) (A b:Option Addr) (c cs:Nat) (r:List Value) (f p:Int) (h:Value) (s:List aD) (v:aD) (w:World)
  (a:Cw B w0 (ak gd (ac A (k+1) c::r) 212::an (ac A (k+1) c) (g++ [(⟨f,p,h,ac b (s.length+1) cs⟩:aG)])::an (ac b (s.length+1) cs) (s++ [v])::H) w) :
  Calls Tryz.prog 254 #[af gd] w fun e w'=> ∃_:Unit,True/\e= .returned (.agg #[.bool v.ref,ai v.n])/\
   Cw B w0 (ak gd (ac A (k+1) c::r) 212::an (ac A (k+1) c) (g++ [(⟨f,p,h,ac b s.length cs⟩:aG)])::an (ac b s.length cs) s::H) w':=by
 have u:∀i:aG,(g++ [i]).length=k+1:=fun i=>by rw[au,d];rfl
 have m:aG.wf _:=tK a .b;have l:(s++ [v]).length=s.length+1:=σ;have:s.length+1<=140737488355328:=bA (SF.at_ (SF.own l .c) a);refine bF Tryz.func254 rfl Tryz.ntmps254 rfl a<|aj ?_;refine fun x _=>aj ?_;refine cE rfl Fz (fun w a=>rK gd k c A (g++ [(⟨f,p,h,ac b (s.length+1) cs⟩:aG)]) w (gQ fc rfl w a) (mX a fc) (SF.at_ (SF.own (u _) fc) a))<|aj ?_;refine eK rfl (fY (j:=3) d fc rfl)<|aj ?_;refine eK rfl (fY (j:=3) d fc rfl)<|aj ?_;refine bd (t:=18) (v':= ai (s.length:Int)) rfl (by congr 1;omega) ?_;refine sE (aW (k:=s.length) aA aM (SF.own (xs:=s++ [v]) l fc) ω rfl rfl rfl) ?_;refine sE (eC (cs:= [.bool v.ref,ai v.n]) (fun w a j D q=>fY (α:=aD) rfl fc q w a) rfl rfl iX aM)<|aj ?_;refine fun y _=>aj ?_;refine eK rfl (fY (j:=3) d fc rfl)<|aj ?_;refine bd (t:=26) (v':= ai (s.length:Int)) rfl (by congr 1;omega) ?_;refine rm (fun w i=>gT i (xs:=s++ [v]) fc) fun C=>?_;refine sE (iZ (k:=s.length) aA aM ω rfl rfl rfl) ?_;refine aC ?_;refine aC ?_;refine oE (mK (α:=aG) ⟨f,p,h,ac b (s.length+1) cs⟩ ⟨f,p,h,ac b s.length cs⟩ d fc ⟨m.1,m.2.1,rfl⟩ fA rfl rfl rfl rfl rfl rfl rfl rfl) (fun _ _=>aj ?_);intro w a;exact⟨(),trivial,rfl,(yh rfl (a.msub (T:=an (ac b (s.length+1) cs) (s++ [v])::ak gd _ _::an (ac A (k+1) c) _::H) ms)).msub ms⟩
theorem mW (gd k:Nat) (b:List aG) (i:b.length=k) (A h m:Option Addr) (c cs t:Nat) (r:List Value) (f p:Int) (d:Value) (s ys:List aD) (w:World) (y:SF B w0 H m ys.length t ys) (z:s.length+ys.length<=1000000)
  (a:Cw B w0 (ak gd (ac A (k+1) c::r) 212::an (ac A (k+1) c) (b++ [(⟨f,p,d,ac h s.length cs⟩:aG)])::an (ac h s.length cs) s::H) w) :
  Calls Tryz.prog 255 #[af gd,ac m ys.length t] w fun e w'=> ∃g:Option Addr×Nat,True/\e= .returned (.tuple #[])/\
   Cw B w0 (ak gd (ac A (k+1) c::r) 212::an (ac A (k+1) c) (b++ [(⟨f,p,d,ac g.1 (s++ys).length g.2⟩:aG)])::an (ac g.1 (s++ys).length g.2) (s++ys)::H) w':=by
 have x:∀u:aG,(b++ [u]).length=k+1:=fun u=>by rw[au,i];rfl
 have v:aG.wf _:=tK a .b;refine bF Tryz.func255 rfl Tryz.ntmps255 rfl a<|aj ?_;refine cE rfl Fz (fun w a=>rK gd k c A (b++ [(⟨f,p,d,ac h s.length cs⟩:aG)]) w (gQ fc rfl w a) (mX a fc) (SF.at_ (SF.own (x _) fc) a))<|aj ?_;refine eK rfl (fY (j:=3) i fc rfl)<|aj ?_;refine oE (dm (α:=aD) (bytes:=16) (xs:=s) (ys:=ys) rfl aA (aS dr) rfl (cg.c) (.s (.s (.s y))) ω ω rfl rfl rfl) (fun⟨l,q⟩ _=>?_)
 try dsimp only
 refine aC ?_;refine aC ?_;refine oE (mK (α:=aG) ⟨f,p,d,ac h s.length cs⟩ ⟨f,p,d,ac l (s++ys).length q⟩ i fc ⟨v.1,v.2.1,rfl⟩ fA rfl rfl rfl rfl rfl rfl rfl rfl) (fun _ _=>aj ?_);intro w a;exact⟨(l,q),trivial,rfl,a.msub ms⟩
def cQ (z:Int):aD:=⟨false,km z⟩
theorem kY (gd k:Nat) (b:List aG) (j:b.length=k) (A h:Option Addr) (c cs:Nat) (r:List Value) (f p:Int) (i:Value) (s:List aD) (z:Int) (w:World) (u:s.length<=1000)
  (a:Cw B w0 (ak gd (ac A (k+1) c::r) 212::an (ac A (k+1) c) (b++ [(⟨f,p,i,ac h s.length cs⟩:aG)])::an (ac h s.length cs) s::H) w) :
  Calls Tryz.prog 253 #[af gd,ai z] w fun e w'=> ∃g:Option Addr×Nat,True/\e= .returned (.tuple #[])/\
   Cw B w0 (ak gd (ac A (k+1) c::r) 212::an (ac A (k+1) c) (b++ [(⟨f,p,i,ac g.1 (s++ [cQ z]).length g.2⟩:aG)])::an (ac g.1 (s++ [cQ z]).length g.2) (s++ [cQ z])::H) w':=by
 refine bF Tryz.func253 rfl Tryz.ntmps253 rfl a ?_;have:∀d:aG,(b++ [d]).length=k+1:=fun d=>by rw[au,j];rfl
 refine aj ?_;refine cE rfl Tryz.call94 ((fun w a=>fT ((fun w a=>Mp z w) w a)))<|aj ?_;intro t _;refine fH (fun w d=>bI (α:=aD) (m:=1) [cQ z] rfl (by simp[cQ,dd.wf];exact BG z) rfl κ d) ?_;refine dA rfl tX (fun w a=>mW gd k b j A h _ c cs 1 r f p i s [cQ z] w (SF.own rfl .a) (by simp only[aT];omega) (a.msub (.s fc (.s fc (.s fc .r))))) (fun⟨l,q⟩ _=>?_);refine aO ?_;intro w a;exact⟨(l,q),trivial,rfl,a.msub ms⟩
end
end
