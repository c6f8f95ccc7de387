/- Lemmas of one proof. -/
import Derived.Test.YthfkmcbblnbfaaaGreatDoorM90W
import Derived.Test.YthfkmcbblnbfaaaGreatDoorM0W
import Derived.Test.YthfkmcbblnbfaaaGreatDoorM33W
import Derived.Test.YthfkmcbblnbfaaaGreatDoorM28W

namespace Go.Proofs.YthfkmcbblnbfaaaGreatDoor
set_option maxRecDepth 100000
set_option maxHeartbeats 16000000
open Go.RowKit
section
theorem dy:(Tryz.prog.info? 159).map (fun i=>(i.zero,i.size,i.bytes))=some (some (.agg #[.bool false,ai 0]),2,16):=by kernel_rfl
theorem nw:(Tryz.prog.info? 118).map (fun i=>(i.zero,i.size,i.bytes))=some (some (.agg #[ai 0,ai 0,ac none 0 0,ac none 0 0]),4,64):=by kernel_rfl
theorem kl:(Tryz.prog.info? 43).map (fun i=>(i.zero,i.size,i.bytes))=some (some (.agg #[ac none 0 0,ac none 0 0,ac none 0 0,ac none 0 0,ai 0,ai 0]),6,112):=by kernel_rfl
theorem Bc (A:Option Addr) (c:Nat) (l:List aD) (w:World) (f:Sl w (ac A l.length c) l) (k:l.length*16<=140737488355328) :
  Calls Tryz.prog 210 #[ac A l.length c] w fun e w'=> ∃u,e= .returned u/\Below w.heap.size w w'/\eU w' w.heap.size u l:=by
 refine enter Tryz.func210 rfl Tryz.ntmps210 rfl<|aj ?_;refine sE (ED aA rfl rfl)<|aj ?_;refine cc rfl (fun b=>?_) (fun b=>?_)
 ·have a:l= []:=by
   rcases ig l.length with a | a
   ·exact bz a
   obtain⟨h,o,e⟩:=f.addr a;subst e
   cases b
  subst a;refine aj ?_;intro w d;exact⟨_,rfl,mE d⟩
 refine aj ?_;refine fun j _=>aj ?_;refine fF (fun w b=>bN (α:=aD) (m:=0) [] rfl σ rfl κ b) ?_;refine oE (dv (α:=aD) (bytes:=16) (xs:= []) (ys:=l) rfl aA (aU dy) rfl fc (.ro f) (by simp only[aE];omega) (by simp only[aE];omega) rfl rfl rfl) (fun⟨g,i⟩ _=>?_);refine aP ?_;intro w d;exact⟨_,rfl,mD d⟩
def dB (l:List Int):List aD:=l.map fun t=>⟨decide (t=2),0⟩
theorem mr (l:List Int):(dB l).length=l.length:=by simp[dB]
theorem yg {l:List Int} {k:Nat} (a:k<l.length):dB (l.take (k+1))=dB (l.take k)++ [⟨decide (l.getD k 0=2),0⟩]:=by
 rw[eF l k 0 a];simp[dB]
theorem CT (p r:Int) (c h:Option Addr) (d j v:Nat) (l:List Int) (w:World) (g:Sl w (ac c l.length d) l) (C:l.length*16<=140737488355328) :
  Calls Tryz.prog 130 #[.agg #[ai p,ac c l.length d,ai r,ac h v j]] w fun e w'=> ∃u,e= .returned u/\Below w.heap.size w w'/\eU w' w.heap.size u (dB l):=by
 refine enter Tryz.func130 rfl Tryz.ntmps130 rfl<|aj ?_;refine fun z _=>aj ?_;refine dm (fun w m=>Cw.nilO aD m) ?_;refine cZ (fun a:Nat×Option Addr×Nat=>a.1<=l.length) (fun a=>l.length - a.1) (fun a=> [(3,ac a.2.1 (dB (l.take a.1)).length a.2.2),(7,ac c l.length d),(8,ai (l.length:Int)),(9,ai (a.1:Int))]) (fun a=> [ag a.2.1 a.2.2 (dB (l.take a.1))]) (0,none,0) (aS _) ?_;rintro⟨b,x,y⟩ f
 try dsimp only
 have f:b<=l.length:=f;have:(dB (l.take b)).length=b:=by rw[mr,aB];omega
 refine ax (fun s=>?_) (fun s=>?_)
 ·have q:b<l.length:=ω;refine aj ?_;refine cP _ rfl (.ro g) ?_;refine nj rfl (.ro g)<|aj ?_;intro A _;refine oE (cz (α:=aD) (bytes:=16) ⟨decide (l.getD b 0=2),0⟩ [] (yg q) aA (aU dy) rfl (eG fc fc) (dt (by show aI 0;decide)) ω ω rfl rfl rfl) (fun⟨i,k⟩ _=>?_);refine aP ?_;refine cG (b+1,i,k) (by show b+1<=_;omega) (by show _ - _<_ - _;omega)
 obtain rfl:b=l.length:=ω;rw[aR];refine aj ?_;intro w t;exact⟨_,rfl,mD t⟩
theorem I2 (p r:Int) (c f:Option Addr) (d g k:Nat) (l:List Int) (w:World) (j:Sl w (ac c l.length d) l) (C:l.length*16<=140737488355328) :
  Calls Tryz.prog 113 #[.agg #[ai p,ac c l.length d,ai r,ac f k g]] w fun e w'=> ∃u,e= .returned u/\Below w.heap.size w w'/\eU w' w.heap.size u (dB l):=by
 refine enter Tryz.func113 rfl Tryz.ntmps113 rfl<|aj ?_;refine fun h _=>aj ?_;refine dm (fun w s=>Cw.nilO aD s) ?_;refine cZ (fun a:Nat×Option Addr×Nat=>a.1<=l.length) (fun a=>l.length - a.1) (fun a=> [(1,af h),(3,ac a.2.1 (dB (l.take a.1)).length a.2.2),(4,ai (a.1:Int))]) (fun a=> [ag a.2.1 a.2.2 (dB (l.take a.1)),ak h [ai p,ac c l.length d,ai r,ac f k g] 84]) (0,none,0) (aS _) ?_;rintro⟨b,y,z⟩ i
 try dsimp only
 have i:b<=l.length:=i;have:(dB (l.take b)).length=b:=by rw[mr,aB];omega
 refine ax (fun v=>?_) (fun v=>?_)
 ·have t:b<l.length:=ω;refine aj ?_;refine cP _ rfl (.ro j) ?_;refine nj rfl (.ro j)<|aj ?_;intro A _;refine oE (cz (α:=aD) (bytes:=16) ⟨decide (l.getD b 0=2),0⟩ [] (yg t) aA (aU dy) rfl (eG fc fc) (dt (by show aI 0;decide)) ω ω rfl rfl rfl) (fun⟨m,q⟩ _=>?_);refine aP ?_;refine cG (b+1,m,q) (by show b+1<=_;omega) (by show _ - _<_ - _;omega)
 obtain rfl:b=l.length:=ω;rw[aR];refine aj ?_;intro w x;exact⟨_,rfl,mD (x.msub ms)⟩
def pF (l:List aK):Prop:=l.length*64<=140737488355328/\∀x∈l,x.L.length*16<=140737488351232/\x.K.length*16<=140737488351232
structure xr (m:av):Prop where
 f:pF m.F
 b:yy m.B
 i:m.I.length<=1000000
 o:m.out.length<=1000000
theorem fJ {l:List aK} {k:Nat} (a:k<l.length):aQ l k∈l:=by
 unfold aQ;rw[ap,aq a];exact cV a
theorem tM {l:List aK} {k:Nat} (a:k<l.length):l.take (k+1)=l.take k++ [aQ l k]:=eF l k default a
theorem AH {a b:Value} {x:aK} (hi:aI x.func/\aI x.pc):∀(w:World) (F:Nat->Prop),Hs w [an a x.L,an b x.K] F->Ow.own w F [ai x.func,ai x.pc,a,b] x:=fun _ _ c=>⟨a,b,rfl,hi,c⟩
theorem mX (a:MA) (m:av) (w:World) (f:fV w.heap.size w a m) (i:xr m) :
  Calls Tryz.prog 153 #[.agg #[ac a.Af m.F.length a.cf,ac a.Ab m.B.length a.cb,ac a.Ai m.I.length a.ci,ac a.Ao m.out.length a.co,ai m.S,ai m.T]] w fun e w'=> ∃g:MA,True/\
   e= .returned (.agg #[ac g.Af m.F.length g.cf,ac g.Ab m.B.length g.cb,ac g.Ai m.I.length g.ci,ac g.Ao m.out.length g.co,ai m.S,ai m.T])/\
   Cw w.heap.size w [an (ac g.Af m.F.length g.cf) m.F,an (ac g.Ab m.B.length g.cb) m.B,an (ac g.Ai m.I.length g.ci) m.I,an (ac g.Ao m.out.length g.co) m.out] w':=by
 have:=bx f.f;have:=i.f.1;refine enter Tryz.func153 rfl Tryz.ntmps153 rfl<|aj ?_;refine fun A _=>aj ?_;intro s _;refine bL<|dG (fun _:Nat×(Option Addr×Nat)×(Option Addr×Nat)×(Option Addr×Nat)=>True) (fun g=> [(1,af A),(2,af s),(3,af g.1)]) (fun g=> [ak A (ah a m) 43,ak s [ac none 0 0,ac none 0 0,ac none 0 0,ac none 0 0,ai 0,ai 0] 43,ak g.1 [ac none 0 0,ac g.2.1.1 m.B.length g.2.1.2,ac g.2.2.1.1 m.I.length g.2.2.1.2,ac g.2.2.2.1 m.out.length g.2.2.2.2,ai m.S,ai m.T] 43,ag g.2.1.1 g.2.1.2 m.B,ag g.2.2.1.1 g.2.2.1.2 m.I,ag g.2.2.2.1 g.2.2.2.2 m.out]) ?_ ?_
 ·refine jh (.still 0 (.still 1 (.still 3 (.still 4 (.still 6 (.still 7 (.still 9 (.still 10 (.still 11 (.still 12 (.pick 2 (.pick 5 (.pick 8 (.still 13 (.pick 14 (.pick 15 .done .stop) .stop)) (.pick 14 (.pick 8 (.still 13 (.pick 15 .done .stop)) .stop) .stop)) (.pick 14 (.pick 5 (.pick 8 (.still 13 (.pick 15 .done .stop)) .stop) .stop) .stop)) (.pick 14 (.pick 2 (.pick 5 (.pick 8 (.still 13 (.pick 15 .done .stop)) .stop) .stop) .stop) .stop)))))))))))) [15] rfl φ φ ?_;refine aj ?_;refine dx rfl (fl rfl rfl rfl Tryz.call209 (fun w b=>BQ _ m.B w (b.ro f.b) i.b)) rfl rfl (.inr fun _=>ha) (fun⟨q,r⟩ _=>?_) ?_
  ·try dsimp only
   refine dx rfl (fl rfl rfl rfl mJ (fun w b=>kj _ m.I w (b.ro f.i) i.i)) rfl rfl (.inr fun _=>ha) (fun⟨l,p⟩ _=>?_) ?_
   ·try dsimp only
    refine dx rfl (fl rfl rfl rfl mJ (fun w b=>kj _ m.out w (b.ro f.o) i.o)) rfl rfl (.inr fun _=>ha) (fun⟨j,k⟩ _=>?_) ?_
    ·refine aP ?_;refine fun d _=>aj ?_;refine bJ<|bX (d,(q,r),(l,p),(j,k)) trivial (hh:=(fun _ h=>h.msub ms))
    refine aj ?_;intro d _;refine pE rfl (fl rfl rfl rfl mJ (fun w b=>kj _ m.out w (b.ro f.o) i.o)) (fun⟨j,k⟩ _=>?_);refine aP ?_;refine bJ<|bX (d,(q,r),(l,p),(j,k)) trivial (hh:=(fun _ h=>h.msub ms))
   refine aj ?_;intro d _;refine pE rfl (fl rfl rfl rfl mJ (fun w b=>kj _ m.I w (b.ro f.i) i.i)) (fun⟨l,p⟩ _=>?_)
   try dsimp only
   refine pE rfl (fl rfl rfl rfl mJ (fun w b=>kj _ m.out w (b.ro f.o) i.o)) (fun⟨j,k⟩ _=>?_);refine aP ?_;refine bJ<|bX (d,(q,r),(l,p),(j,k)) trivial (hh:=(fun _ h=>h.msub ms))
  refine aj ?_;intro d _;refine pE rfl (fl rfl rfl rfl Tryz.call209 (fun w b=>BQ _ m.B w (b.ro f.b) i.b)) (fun⟨q,r⟩ _=>?_)
  try dsimp only
  refine pE rfl (fl rfl rfl rfl mJ (fun w b=>kj _ m.I w (b.ro f.i) i.i)) (fun⟨l,p⟩ _=>?_)
  try dsimp only
  refine pE rfl (fl rfl rfl rfl mJ (fun w b=>kj _ m.out w (b.ro f.o) i.o)) (fun⟨j,k⟩ _=>?_);refine aP ?_;refine bJ<|bX (d,(q,r),(l,p),(j,k)) trivial (hh:=(fun _ h=>h.msub ms))
 rintro⟨d,⟨t,x⟩,⟨u,y⟩,⟨v,z⟩⟩ _
 try dsimp only
 refine dm (fun w h=>Cw.nilO aK h)<|aj ?_;refine cZ (fun g:Nat×Option Addr×Nat=>g.1<=m.F.length) (fun g=>m.F.length - g.1) (fun g=> [(2,af s),(3,af d),(21,ac a.Af m.F.length a.cf),(22,ai (m.F.length:Int)),(23,ai (g.1:Int))]) (fun g=> [ag g.2.1 g.2.2 (m.F.take g.1),ak A (ah a m) 43,ak s [ac none 0 0,ac none 0 0,ac none 0 0,ac none 0 0,ai 0,ai 0] 43,ag t x m.B,ag u y m.I,ag v z m.out,ak d [ac g.2.1 (m.F.take g.1).length g.2.2,ac t m.B.length x,ac u m.I.length y,ac v m.out.length z,ai m.S,ai m.T] 43]) (0,none,0) (aS _) ?_;rintro⟨c,G,J⟩ F
 try dsimp only
 have F:c<=m.F.length:=F;have:(m.F.take c).length=c:=by rw[aB];omega
 refine ax (fun O=>?_) (fun O=>?_)
 ·have E:c<m.F.length:=ω;obtain⟨q,r,l,p,N,Q,M,L⟩:=f.f.fr E;obtain⟨V,W⟩:=i.f.2 (aQ m.F c) (fJ E);have R:=tM E;refine fq (fm ?_);refine dG (fun _:Option Addr×Nat=>True) (fun g=> [(2,af s),(3,af d),(21,ac a.Af m.F.length a.cf),(22,ai (m.F.length:Int)),(23,ai (c:Int))]) (fun g=> [ag g.1 g.2 (m.F.take (c+1)),ak A (ah a m) 43,ak s [ac none 0 0,ac none 0 0,ac none 0 0,ac none 0 0,ai 0,ai 0] 43,ag t x m.B,ag u y m.I,ag v z m.out,ak d [ac g.1 (m.F.take (c+1)).length g.2,ac t m.B.length x,ac u m.I.length y,ac v m.out.length z,ai m.S,ai m.T] 43]) ?_ ?_
  ·refine aj ?_;refine cP _ rfl (.ro f.f) ?_;refine iC rfl (L _)<|aj ?_;intro T _;refine dN (dk _ fc dQ rfl rfl rfl rfl rfl (by rfl) rfl (by rfl)) rfl rfl (fun _ _=>?_);refine bL<|bq [0,3,6,9,12,15,18,21,27,30,26,35,36,41,44,46,50] [14,15,16] rfl<|aj ?_;refine pE rfl (fl rfl rfl rfl Tryz.call210 (fun w b=>Bc _ _ (aQ m.F c).L w (b.ro N) ω)) (fun⟨j,k⟩ _=>?_)
   try dsimp only
   refine pE rfl (fl rfl rfl rfl Tryz.call210 (fun w b=>Bc _ _ (aQ m.F c).K w (b.ro Q) ω)) (fun⟨I,K⟩ _=>?_);refine aP ?_;intro U _;refine pE rfl (cz (α:=aK) (bytes:=64) (aQ m.F c) [an (ac j (aQ m.F c).L.length k) (aQ m.F c).L,an (ac I (aQ m.F c).K.length K) (aQ m.F c).K] R cX (aU nw) rfl (zV fc fc fc fc) (AH M) ω ω rfl rfl rfl) (fun⟨C,D⟩ _=>?_);refine aP ?_;refine bX (C,D) trivial (hh:=(fun _ h=>h.msub ms))
  rintro⟨C,D⟩ _;refine aP ?_;refine cG (c+1,C,D) (by show c+1<=_;omega) (by show _ - _<_ - _;omega)
 obtain rfl:c=m.F.length:=ω;rw[aR];refine aj ?_;intro w b;exact⟨⟨G,J,t,x,u,y,v,z⟩,trivial,rfl,b.msub ms⟩
end
section
theorem sX {α:Type} (xs:List α) (y d:α) {k:Nat} (a:xs.length=k):(xs++ [y]).getD k d=y:=by
 subst a;rw[ap,dD (aH _),pJ];rfl
theorem yJ {α:Type} (xs:List α) (y a:α) {k:Nat} (b:xs.length=k):(xs++ [y]).set k a=xs++ [a]:=by
 subst b;rw[pK _ _ (aH _),pJ];rfl
theorem Kn {α:Type} (xs:List α) (y:α) {k:Nat} (a:xs.length=k):(xs++ [y]).take k=xs:=by
 subst a;exact List.take_left' rfl
section
variable {P:Program} {n:NF} {B:Nat} {w0:World} {env:cS} {H H':List aO} {o:Oper}
theorem fX {α:Type} [dc α] {xs:List α} {y:α} {A:Option Addr} {k c:Nat} (a:xs.length=k) (d:cu H (an (ac A (k+1) c) (xs++ [y])) H') {j:Nat} {v:Value} (b:(dc.enc y)[j]? =some v) :
  ∀w,Cw B w0 H w->w.cell? ⟨ab A,ao A+k*aG.k α+j,none⟩=some v:=fun w e=>by
 refine SF.cell (SF.own (by rw[ar,a];rfl) d) (yz k) y ?_ w e;rw[sX xs y y a];exact b
theorem lD {α:Type} [dc α] {v:Value} {xs:List α} {w:World} (g:Cw B w0 H w) (f:cu H (an v xs) H') {x:α} (a:x∈xs):dc.wf x:=by
 obtain⟨b,c,_⟩:=g.rd f;rcases(show da w b v xs from c) with ⟨_,rfl,_⟩ | ⟨l,m,j,k,i,e⟩
 ·cases a
 obtain⟨h,d,rfl⟩:=cC a;exact(dc.own_iff.1 (e.el h _ (aq d))).1.2
theorem ue {α:Type} [dc α] {v:Value} {xs:List α} {y:α} {w:World} (b:Cw B w0 H w) (a:cu H (an v (xs++ [y])) H'):dc.wf y:=lD b a (ip _ (cN.2 rfl))
theorem mY {α:Type} [dc α] {i j:Operand} {t:TypeId} {A:Option Addr} {c k f d:Nat} {v:Value} {us:List Value} {xs:List α} (y a:α) (b:xs.length=k) (p:cu H (an (ac A (k+1) c) (xs++ [y])) H') (r:dc.wf a) (u:∀w,(sizeOf t).run P w= .ok d w)
  (m:o.op= .store t i j) (hi:opv env i=some (.pointer (some ⟨ab A,ao A+k*aG.k α+f,none⟩))) (g:opv env j=some v) (q:v.cells=us.toArray) (h:Nat.beq us.length d=true) (e:us.all Value.oneCell'=true)
  (s:mL (dc.enc y) f us=dc.enc a) (l:Nat.ble (f+us.length) (aG.k α)=true):OT P n B w0 o env H (γ:=Unit) (fun _=>True) (fun _=>undef) (fun _=>an (ac A (k+1) c) (xs++ [a])::H'):=
 jT a y (yJ xs y a b).symm p (yz k) r u m hi g q h e (by rw[sX xs y y b];exact s) l
theorem yF {α:Type} [Ow α] {A:Option Addr} {k c:Nat} {xs:List α} {y:α} (a:xs.length=k) {w:World} (h:Cw B w0 (an (ac A (k+1) c) (xs++ [y])::H) w):Cw B w0 (an (ac A k c) xs::H) w:=by
 have:=tL (k:=k) (Nat.le_succ k) h
 rwa [Kn xs y a] at this
theorem sk (gd k c:Nat) (A:Option Addr) (g:List aF) (w:World) (b:w.cell? ⟨gd,0,none⟩=some (ac A (k+1) c)) (d:gd<w.heap.size) (f:Sl w (ac A (k+1) c) g) :
  Calls Tryz.prog 216 #[af gd] w fun e w'=>e= .returned (.pointer (some ⟨ab A,ao A+k*4,none⟩))/\Below w.heap.size w w':=by
 have:=bx f;refine enter Tryz.func216 rfl Tryz.ntmps216 rfl<|aj ?_;refine bq [0,3,6,9,12,15,18,21,24,27,30,33,36,39] [] rfl<|aj ?_;refine tE rfl (bY (fun w' a=>(a.below.cell d).trans b) rfl rfl Tryz.isAgg40)<|aj ?_;refine tE rfl (bY (fun w' a=>(a.below.cell d).trans b) rfl rfl Tryz.isAgg40)<|aj ?_;refine dr (t:=14) (v':= ai (k:Int)) rfl (by congr 1;omega) ?_;refine tE rfl (aX (k:=k) cX dQ (.ro f) ω rfl rfl rfl)<|aj ?_;intro w a;exact⟨rfl,a.below⟩
end
section
variable {B:Nat} {w0:World} {H:List aO}
theorem gj (gd k:Nat) (g:List aF) (d:g.length=k) (A b:Option Addr) (c cs:Nat) (r:List Value) (f p:Int) (h:Value) (s:List aD) (v:aD) (w:World)
  (a:Cw B w0 (ak gd (ac A (k+1) c::r) 212::an (ac A (k+1) c) (g++ [(⟨f,p,h,ac b (s.length+1) cs⟩:aF)])::an (ac b (s.length+1) cs) (s++ [v])::H) w) :
  Calls Tryz.prog 254 #[af gd] w fun e w'=> ∃_:Unit,True/\e= .returned (.agg #[.bool v.ref,ai v.n])/\
   Cw B w0 (ak gd (ac A (k+1) c::r) 212::an (ac A (k+1) c) (g++ [(⟨f,p,h,ac b s.length cs⟩:aF)])::an (ac b s.length cs) s::H) w':=by
 have u:∀i:aF,(g++ [i]).length=k+1:=fun i=>by rw[ar,d];rfl
 have m:aF.wf _:=ue a .b;have l:(s++ [v]).length=s.length+1:=σ;have:s.length+1<=140737488355328:=bx (SF.at_ (SF.own l .c) a);refine bI Tryz.func254 rfl Tryz.ntmps254 rfl a<|aj ?_;refine fun x _=>aj ?_;refine cO rfl Gf (fun w a=>sk gd k c A (g++ [(⟨f,p,h,ac b (s.length+1) cs⟩:aF)]) w (gt fc rfl w a) (nv a fc) (SF.at_ (SF.own (u _) fc) a))<|aj ?_;refine ef rfl (fX (j:=3) d fc rfl)<|aj ?_;refine ef rfl (fX (j:=3) d fc rfl)<|aj ?_;refine bj (t:=18) (v':= ai (s.length:Int)) rfl (by congr 1;omega) ?_;refine sE (aX (k:=s.length) aA aM (SF.own (xs:=s++ [v]) l fc) ω rfl rfl rfl) ?_;refine sE (eC (cs:= [.bool v.ref,ai v.n]) (fun w a j D q=>fX (α:=aD) rfl fc q w a) rfl rfl iW aM)<|aj ?_;refine fun y _=>aj ?_;refine ef rfl (fX (j:=3) d fc rfl)<|aj ?_;refine bj (t:=26) (v':= ai (s.length:Int)) rfl (by congr 1;omega) ?_;refine rL (fun w i=>gV i (xs:=s++ [v]) fc) fun C=>?_;refine sE (iY (k:=s.length) aA aM ω rfl rfl rfl) ?_;refine aC ?_;refine aC ?_;refine oE (mY (α:=aF) ⟨f,p,h,ac b (s.length+1) cs⟩ ⟨f,p,h,ac b s.length cs⟩ d fc ⟨m.1,m.2.1,rfl⟩ fy rfl rfl rfl rfl rfl rfl rfl rfl) (fun _ _=>aj ?_);intro w a;exact⟨(),trivial,rfl,(yF rfl (a.msub (T:=an (ac b (s.length+1) cs) (s++ [v])::ak gd _ _::an (ac A (k+1) c) _::H) ms)).msub ms⟩
theorem nu (gd k:Nat) (b:List aF) (i:b.length=k) (A h m:Option Addr) (c cs t:Nat) (r:List Value) (f p:Int) (d:Value) (s ys:List aD) (w:World) (y:SF B w0 H m ys.length t ys) (z:s.length+ys.length<=1000000)
  (a:Cw B w0 (ak gd (ac A (k+1) c::r) 212::an (ac A (k+1) c) (b++ [(⟨f,p,d,ac h s.length cs⟩:aF)])::an (ac h s.length cs) s::H) w) :
  Calls Tryz.prog 255 #[af gd,ac m ys.length t] w fun e w'=> ∃g:Option Addr×Nat,True/\e= .returned (.tuple #[])/\
   Cw B w0 (ak gd (ac A (k+1) c::r) 212::an (ac A (k+1) c) (b++ [(⟨f,p,d,ac g.1 (s++ys).length g.2⟩:aF)])::an (ac g.1 (s++ys).length g.2) (s++ys)::H) w':=by
 have x:∀u:aF,(b++ [u]).length=k+1:=fun u=>by rw[ar,i];rfl
 have v:aF.wf _:=ue a .b;refine bI Tryz.func255 rfl Tryz.ntmps255 rfl a<|aj ?_;refine cO rfl Gf (fun w a=>sk gd k c A (b++ [(⟨f,p,d,ac h s.length cs⟩:aF)]) w (gt fc rfl w a) (nv a fc) (SF.at_ (SF.own (x _) fc) a))<|aj ?_;refine ef rfl (fX (j:=3) i fc rfl)<|aj ?_;refine oE (dv (α:=aD) (bytes:=16) (xs:=s) (ys:=ys) rfl aA (aU dy) rfl (cu.c) (.s (.s (.s y))) ω ω rfl rfl rfl) (fun⟨l,q⟩ _=>?_)
 try dsimp only
 refine aC ?_;refine aC ?_;refine oE (mY (α:=aF) ⟨f,p,d,ac h s.length cs⟩ ⟨f,p,d,ac l (s++ys).length q⟩ i fc ⟨v.1,v.2.1,rfl⟩ fy rfl rfl rfl rfl rfl rfl rfl rfl) (fun _ _=>aj ?_);intro w a;exact⟨(l,q),trivial,rfl,a.msub ms⟩
def cY (z:Int):aD:=⟨false,jV z⟩
theorem lm (gd k:Nat) (b:List aF) (j:b.length=k) (A h:Option Addr) (c cs:Nat) (r:List Value) (f p:Int) (i:Value) (s:List aD) (z:Int) (w:World) (u:s.length<=1000)
  (a:Cw B w0 (ak gd (ac A (k+1) c::r) 212::an (ac A (k+1) c) (b++ [(⟨f,p,i,ac h s.length cs⟩:aF)])::an (ac h s.length cs) s::H) w) :
  Calls Tryz.prog 253 #[af gd,ai z] w fun e w'=> ∃g:Option Addr×Nat,True/\e= .returned (.tuple #[])/\
   Cw B w0 (ak gd (ac A (k+1) c::r) 212::an (ac A (k+1) c) (b++ [(⟨f,p,i,ac g.1 (s++ [cY z]).length g.2⟩:aF)])::an (ac g.1 (s++ [cY z]).length g.2) (s++ [cY z])::H) w':=by
 refine bI Tryz.func253 rfl Tryz.ntmps253 rfl a ?_;have:∀d:aF,(b++ [d]).length=k+1:=fun d=>by rw[ar,j];rfl
 refine aj ?_;refine cO rfl Tryz.call94 ((fun w a=>fY ((fun w a=>DN z w) w a)))<|aj ?_;intro t _;refine fF (fun w d=>bN (α:=aD) (m:=1) [cY z] rfl (by simp[cY,dc.wf];exact Cc z) rfl κ d) ?_;refine du rfl ut (fun w a=>nu gd k b j A h _ c cs 1 r f p i s [cY z] w (SF.own rfl .a) (by simp only[aV];omega) (a.msub (.s fc (.s fc (.s fc .r))))) (fun⟨l,q⟩ _=>?_);refine aP ?_;intro w a;exact⟨(l,q),trivial,rfl,a.msub ms⟩
end
end
section
def J5 (l:List (List Int)):Prop:=l.length*24<=140737488351232/\∀b∈l,b.length*8<=140737488351232
theorem J5.at_ {l:List (List Int)} (h:J5 l) (k:Nat):(l.getD k []).length*8<=140737488351232:=by
 rw[ap];rcases gL k l.length with a | a
 ·rw[aq a];exact h.2 _ (cV a)
 rw[bh a];simp
structure Bp (m:av):Prop where
 f:pF m.F
 b:J5 m.B
 i:m.I.length*8<=140737488351232
 o:m.out.length*8<=140737488351232
theorem xr.to8 {m:av} (h:xr m):Bp m:=by
 have:=h.i;have:=h.o;have:=h.b.1;exact⟨h.f,⟨ω,fun a b=>by have:=h.b.2 a b;omega⟩,ω,ω⟩
theorem pk (v:Value) (l:List (List Int)) (w:World) (hs:Sl w v l) (hfit:J5 l) :
  Calls Tryz.prog 107 #[v] w fun e w'=> ∃u,e= .returned u /\ Below w.heap.size w w' /\ eU w' w.heap.size u l:=by
 obtain⟨A,c,rfl,hlc,hc,_⟩:=hs.form
 obtain⟨i0,hi,hz0,hz1,hz2⟩:=info_parts oy
 obtain⟨i1,hi1,hy0,hy1,hy2⟩:=info_parts lO
 have hL1:=hfit.1
 have Hfit:=Lib.hid hfit;clear hfit
 generalize hL:l.length=L at *
 have HL:=Lib.hid hL;clear hL
 go_enter Tryz.func107,Tryz.ntmps107
 go_wp2
 go_loopw [3,4] (fun s t wr=> ∃k:Nat,k <= L /\ t= .int .i64 k /\ eU wr w.heap.size s (l.take k) /\ Below w.heap.size w wr) (fun _ t _=>L - (intOf t).toNat)
 case atStart=>exact⟨0,by omega,rfl,eU.nil_ _ _,(by repeat (first | exact Below.refl _ _ | assumption | refine Below.drew ?_ | refine Below.drewN_ ?_ _ | refine aT ?_ _ | refine bK (by assumption) ?_ | refine bZ ?_ (by simp <;> omega) _))⟩
 case round=>
  obtain⟨k,hk,rfl,hown,hbl⟩:=hrel
  have htl:(l.take k).length=k:=by rw[aB,HL.out];omega
  obtain⟨A1,c1,rfl,_,_,_⟩:=hown.form_n htl
  have Htl:=Lib.hid htl;clear htl
  have hsz:=hbl.size
  by_cases hlt:k<L
  ·obtain⟨b,off,u,rfl,hb,hcell,hu⟩:=(hs.via hbl).sl_at hlt
   have hfk:=Hfit.out.at_ k
   obtain⟨m,hm⟩:∃m,(l.getD k []).length=m:=⟨_,rfl⟩
   obtain⟨A',c',rfl,_,_,_⟩:=hu.form_n hm
   rw[hm] at hfk
   have Hm:=Lib.hid hm;clear hm
   go_wp2_with (at_builtin;refine pu ?_)
   unfold uo
   refine rV _ rfl _ _ 35 rfl wr.heap.size 3 i1 (.int .i64 0) 8 az hi1 hy0 hy1 hy2 rfl (by decide) _ _ _ rfl (uQ wr wr.heap.size 3 1 (aH _)) _ (l.getD k []) rfl (hu.alloc _) (by rw[Hm.out];unfold maxLen;omega) (by rw[Hm.out];omega) (by simp) ?_
   intro v1 w1 zs hzl hzr hown1 hg _
   have hbx:Below wr.heap.size wr w1:=C6 (aT (Below.refl _ _) _) (uQ wr wr.heap.size 3 1 (aH _)) hg (by simp)
   simp only[gY,cB] at hown1
   have hux:eU w1 wr.heap.size v1 (l.getD k []):=eU.of_zs hown1 hzl (fun i x hx=>Ff (hzr i x hx)) (by rw[Hm.out];omega)
   clear hown1 hzr hzl hg
   obtain⟨A2,c2,rfl,_,_,_⟩:=hux.form_n Hm.out
   go_wp2_with (at_builtin;refine pu ?_)
   unfold uo
   refine rh (α:=List Int) _ rfl _ _ 41 rfl i0 (.slice none 0 0) 24 eI hi hz0 hz1 hz2 rfl rfl ⟨w1.heap.size,0,none⟩ 1 rfl _ (l.getD k []) (un.newer hown (aT hbx _) (by omega) (tY (hux.alloc _))) (zX (by simp)) (by have:=hbx.size;simp;omega) (by rw[Htl.out];omega) (by rw[Htl.out];omega) ?_
   intro v2 w2 hown2 hbel2
   have hB2:=hbel2 w (aT (bK hbx hbl) _)
   have Hown2:eU w2 w.heap.size v2 (l.take (k+1)):=by rw[eF l k [] (by rw[HL.out];exact hlt)];exact hown2
   clear hown2 hbel2
   go_wp2
   go_roundw
   case rel=>exact⟨k+1,by omega,by go_num,Hown2,hB2⟩
   case measure=>simp[intOf];omega
  ·go_wp2
   go_ret
   have:k=L:=by omega
   subst this
   rw[←HL.out,aR,HL.out] at hown
   exact⟨_,rfl,hbl,hown⟩

end
