/- Lemmas of one proof. -/
import Derived.Test.YthfkmcbblnbfaaaGreatDoorM0R
import Derived.Test.YthfkmcbblnbfaaaGreatDoorM33R
import Derived.Test.YthfkmcbblnbfaaaGreatDoorM28R

namespace Go.Proofs.YthfkmcbblnbfaaaGreatDoor
set_option maxRecDepth 100000
set_option maxHeartbeats 16000000
open Go.RowKit
section
theorem du:(Tryz.prog.info? 159).map (fun i=>(i.zero,i.size,i.bytes))=some (some (.agg #[.bool false,.int .i64 0]),2,16):=by kernel_rfl
theorem lE:(Tryz.prog.info? 118).map (fun i=>(i.zero,i.size,i.bytes))=some (some (.agg #[.int .i64 0,.int .i64 0,.slice none 0 0,.slice none 0 0]),4,64):=by kernel_rfl
theorem yl (A:Option Addr) (c:Nat) (l:List aC) (w:World) (hs:Sl w (.slice A l.length c) l) (hl:l.length*16<=140737488355328) :
  Calls Tryz.prog 210 #[.slice A l.length c] w fun e w'=> ∃u,e= .returned u/\Below w.heap.size w w'/\ef w' w.heap.size u l:=by
 refine enter Tryz.func210 rfl Tryz.ntmps210 rfl<|aj ?_
 refine sE (Cc ax rfl rfl)<|aj ?_
 refine bT rfl (fun h=>?_) (fun h=>?_)
 ·have h0:l= []:=by
   rcases gj l.length with h0 | h0
   ·exact aY h0
   obtain⟨b,o,e⟩:=hs.addr h0
   subst e
   cases h
  subst h0
  refine aj ?_
  intro w hw
  exact⟨_,rfl,iN hw⟩
 refine aj ?_
 refine fun g1 _=>aj ?_
 refine ee (fun w h=>bt (α:=aC) (m:=0) [] rfl (by simp) rfl (by decide) h) ?_
 refine oE (di (α:=aC) (bytes:=16) (xs:= []) (ys:=l) rfl ax (aV du) rfl fc (.ro hs) (by simp only[aD];omega) (by simp only[aD];omega) rfl rfl rfl) (fun⟨A5,c5⟩ _=>?_)
 refine aO ?_
 intro w hw
 exact⟨_,rfl,kX hw⟩
def dg (l:List Int):List aC:=l.map fun t=>⟨decide (t=2),0⟩
theorem kM (l:List Int):(dg l).length=l.length:=by simp[dg]
theorem vB {l:List Int} {k:Nat} (hk:k<l.length):dg (l.take (k+1))=dg (l.take k)++ [⟨decide (l.getD k 0=2),0⟩]:=by
 rw[fe l k 0 hk]
 simp[dg]
theorem Ad (p r:Int) (A1 A2:Option Addr) (c1 c2 n2:Nat) (l:List Int) (w:World) (hs:Sl w (.slice A1 l.length c1) l) (hb:l.length*16<=140737488355328) :
  Calls Tryz.prog 130 #[.agg #[.int .i64 p,.slice A1 l.length c1,.int .i64 r,.slice A2 n2 c2]] w fun e w'=> ∃u,e= .returned u/\Below w.heap.size w w'/\ef w' w.heap.size u (dg l):=by
 refine enter Tryz.func130 rfl Tryz.ntmps130 rfl<|aj ?_
 refine fun g1 _=>aj ?_
 refine dK (fun w h=>Cw.nilO aC h) ?_
 refine dA (fun g:Nat×Option Addr×Nat=>g.1<=l.length) (fun g=>l.length - g.1) (fun g=> [(3,.slice g.2.1 (dg (l.take g.1)).length g.2.2),(7,.slice A1 l.length c1),(8,.int .i64 (l.length:Int)),(9,.int .i64 (g.1:Int))]) (fun g=> [ak (.slice g.2.1 (dg (l.take g.1)).length g.2.2) (dg (l.take g.1))]) (0,none,0) (aX _) ?_
 rintro⟨k,A,c⟩ hk
 try dsimp only
 have hk:k<=l.length:=hk
 have htl:(dg (l.take k)).length=k:=by rw[kM,aA];omega
 refine av (fun hlt=>?_) (fun hlt=>?_)
 ·have hkl:k<l.length:=by omega
  refine aj ?_
  refine cS (_) rfl ((.ro hs)) ?_
  refine ma rfl ((.ro hs))<|aj ?_
  intro g2 _
  refine oE (cH (α:=aC) (bytes:=16) ⟨decide (l.getD k 0=2),0⟩ [] (vB hkl) ax (aV du) rfl (eD fc fc) (dm (by show aH 0;decide)) (by omega) (by omega) rfl rfl rfl) (fun⟨A3,c3⟩ _=>?_)
  refine aO ?_
  refine cU (k+1,A3,c3) (by show k+1<=_;omega) (by show _ - _<_ - _;omega)
 obtain rfl:k=l.length:=by omega
 rw[aT]
 refine aj ?_
 intro w hw
 exact⟨_,rfl,kX hw⟩
theorem FN (p r:Int) (A1 A2:Option Addr) (c1 c2 n2:Nat) (l:List Int) (w:World) (hs:Sl w (.slice A1 l.length c1) l) (hb:l.length*16<=140737488355328) :
  Calls Tryz.prog 113 #[.agg #[.int .i64 p,.slice A1 l.length c1,.int .i64 r,.slice A2 n2 c2]] w fun e w'=> ∃u,e= .returned u/\Below w.heap.size w w'/\ef w' w.heap.size u (dg l):=by
 refine enter Tryz.func113 rfl Tryz.ntmps113 rfl<|aj ?_
 refine fun g1 _=>aj ?_
 refine dK (fun w h=>Cw.nilO aC h) ?_
 refine dA (fun g:Nat×Option Addr×Nat=>g.1<=l.length) (fun g=>l.length - g.1) (fun g=> [(1,.pointer (some ⟨g1,0,none⟩)),(3,.slice g.2.1 (dg (l.take g.1)).length g.2.2),(4,.int .i64 (g.1:Int))]) (fun g=> [ak (.slice g.2.1 (dg (l.take g.1)).length g.2.2) (dg (l.take g.1)),am g1 [.int .i64 p,.slice A1 l.length c1,.int .i64 r,.slice A2 n2 c2] 84]) (0,none,0) (aX _) ?_
 rintro⟨k,A,c⟩ hk
 try dsimp only
 have hk:k<=l.length:=hk
 have htl:(dg (l.take k)).length=k:=by rw[kM,aA];omega
 refine av (fun hlt=>?_) (fun hlt=>?_)
 ·have hkl:k<l.length:=by omega
  refine aj ?_
  refine cS (_) rfl ((.ro hs)) ?_
  refine ma rfl ((.ro hs))<|aj ?_
  intro g2 _
  refine oE (cH (α:=aC) (bytes:=16) ⟨decide (l.getD k 0=2),0⟩ [] (vB hkl) ax (aV du) rfl (eD fc fc) (dm (by show aH 0;decide)) (by omega) (by omega) rfl rfl rfl) (fun⟨A3,c3⟩ _=>?_)
  refine aO ?_
  refine cU (k+1,A3,c3) (by show k+1<=_;omega) (by show _ - _<_ - _;omega)
 obtain rfl:k=l.length:=by omega
 rw[aT]
 refine aj ?_
 intro w hw
 exact⟨_,rfl,kX (hw.msub ms)⟩
def jX (l:List aG):Prop:=l.length*64<=140737488355328/\∀x∈l,x.L.length*16<=140737488351232/\x.K.length*16<=140737488351232
structure uJ (m:az):Prop where
 f:jX m.F
 b:vN m.B
 i:m.I.length<=1000000
 o:m.out.length<=1000000
theorem fE {l:List aG} {k:Nat} (hk:k<l.length):aN l k∈l:=by
 unfold aN
 rw[an,ap hk]
 exact da hk
theorem yG {l:List aG} {k:Nat} (hk:k<l.length):l.take (k+1)=l.take k++ [aN l k]:=fe l k default hk
theorem xS {v1 v2:Value} {x:aG} (hi:aH x.func/\aH x.pc):∀(w:World) (F:Nat->Prop),Hs w [ak v1 x.L,ak v2 x.K] F->Ow.own w F [.int .i64 x.func,.int .i64 x.pc,v1,v2] x:=fun _ _ h=>⟨v1,v2,rfl,hi,h⟩
theorem od (a:MA) (m:az) (w:World) (hm:dS w.heap.size w a m) (hfit:uJ m) :
  Calls Tryz.prog 153 #[.agg #[.slice a.Af m.F.length a.cf,.slice a.Ab m.B.length a.cb,.slice a.Ai m.I.length a.ci,.slice a.Ao m.out.length a.co,.int .i64 m.S,.int .i64 m.T]] w fun e w'=> ∃g:MA,True/\
   e= .returned (.agg #[.slice g.Af m.F.length g.cf,.slice g.Ab m.B.length g.cb,.slice g.Ai m.I.length g.ci,.slice g.Ao m.out.length g.co,.int .i64 m.S,.int .i64 m.T])/\
   Cw w.heap.size w [ak (.slice g.Af m.F.length g.cf) m.F,ak (.slice g.Ab m.B.length g.cb) m.B,ak (.slice g.Ai m.I.length g.ci) m.I,ak (.slice g.Ao m.out.length g.co) m.out] w':=by
 have b1:=bE hm.f
 have hf64:=hfit.f.1
 refine enter Tryz.func153 rfl Tryz.ntmps153 rfl<|aj ?_
 refine fun g1 _=>aj ?_
 intro g2 _
 refine bH<|eh (fun _:Nat×(Option Addr×Nat)×(Option Addr×Nat)×(Option Addr×Nat)=>True) (fun g=> [(1,.pointer (some ⟨g1,0,none⟩)),(2,.pointer (some ⟨g2,0,none⟩)),(3,.pointer (some ⟨g.1,0,none⟩))]) (fun g=> [am g1 [.slice a.Af m.F.length a.cf,.slice a.Ab m.B.length a.cb,.slice a.Ai m.I.length a.ci,.slice a.Ao m.out.length a.co,.int .i64 m.S,.int .i64 m.T] 43,am g2 [.slice none 0 0,.slice none 0 0,.slice none 0 0,.slice none 0 0,.int .i64 0,.int .i64 0] 43,am g.1 [.slice none 0 0,.slice g.2.1.1 m.B.length g.2.1.2,.slice g.2.2.1.1 m.I.length g.2.2.1.2,.slice g.2.2.2.1 m.out.length g.2.2.2.2,.int .i64 m.S,.int .i64 m.T] 43,ak (.slice g.2.1.1 m.B.length g.2.1.2) m.B,ak (.slice g.2.2.1.1 m.I.length g.2.2.1.2) m.I,ak (.slice g.2.2.2.1 m.out.length g.2.2.2.2) m.out]) ?_ ?_
 ·refine iq (.still 0 (.still 1 (.still 3 (.still 4 (.still 6 (.still 7 (.still 9 (.still 10 (.still 11 (.still 12 (.pick 2 (.pick 5 (.pick 8 (.still 13 (.pick 14 (.pick 15 .done .stop) .stop)) (.pick 14 (.pick 8 (.still 13 (.pick 15 .done .stop)) .stop) .stop)) (.pick 14 (.pick 5 (.pick 8 (.still 13 (.pick 15 .done .stop)) .stop) .stop) .stop)) (.pick 14 (.pick 2 (.pick 5 (.pick 8 (.still 13 (.pick 15 .done .stop)) .stop) .stop) .stop) .stop)))))))))))) [15] rfl (by kernel_rfl) (by kernel_rfl) ?_
  refine aj ?_
  refine cP rfl (eR rfl rfl rfl Tryz.call209 (fun w hw=>yV _ m.B w (hw.ro hm.b) hfit.b)) rfl rfl (.inr fun _=>ha) (fun⟨A1,c1⟩ _=>?_) ?_
  ·try dsimp only
   refine cP rfl (eR rfl rfl rfl ld (fun w hw=>jj _ m.I w (hw.ro hm.i) hfit.i)) rfl rfl (.inr fun _=>ha) (fun⟨A2,c2⟩ _=>?_) ?_
   ·try dsimp only
    refine cP rfl (eR rfl rfl rfl ld (fun w hw=>jj _ m.out w (hw.ro hm.o) hfit.o)) rfl rfl (.inr fun _=>ha) (fun⟨A3,c3⟩ _=>?_) ?_
    ·refine aO ?_
     refine fun gx _=>aj ?_
     refine bu<|bS (gx,(A1,c1),(A2,c2),(A3,c3)) (trivial) (hh:=(fun _ h=>h.msub ms))
    refine aj ?_
    intro gx _
    refine pE rfl (eR rfl rfl rfl ld (fun w hw=>jj _ m.out w (hw.ro hm.o) hfit.o)) (fun⟨A3,c3⟩ _=>?_)
    refine aO ?_
    refine bu<|bS (gx,(A1,c1),(A2,c2),(A3,c3)) (trivial) (hh:=(fun _ h=>h.msub ms))
   refine aj ?_
   intro gx _
   refine pE rfl (eR rfl rfl rfl ld (fun w hw=>jj _ m.I w (hw.ro hm.i) hfit.i)) (fun⟨A2,c2⟩ _=>?_)
   try dsimp only
   refine pE rfl (eR rfl rfl rfl ld (fun w hw=>jj _ m.out w (hw.ro hm.o) hfit.o)) (fun⟨A3,c3⟩ _=>?_)
   refine aO ?_
   refine bu<|bS (gx,(A1,c1),(A2,c2),(A3,c3)) (trivial) (hh:=(fun _ h=>h.msub ms))
  refine aj ?_
  intro gx _
  refine pE rfl (eR rfl rfl rfl Tryz.call209 (fun w hw=>yV _ m.B w (hw.ro hm.b) hfit.b)) (fun⟨A1,c1⟩ _=>?_)
  try dsimp only
  refine pE rfl (eR rfl rfl rfl ld (fun w hw=>jj _ m.I w (hw.ro hm.i) hfit.i)) (fun⟨A2,c2⟩ _=>?_)
  try dsimp only
  refine pE rfl (eR rfl rfl rfl ld (fun w hw=>jj _ m.out w (hw.ro hm.o) hfit.o)) (fun⟨A3,c3⟩ _=>?_)
  refine aO ?_
  refine bu<|bS (gx,(A1,c1),(A2,c2),(A3,c3)) (trivial) (hh:=(fun _ h=>h.msub ms))
 rintro⟨gx,⟨Ab,cb⟩,⟨Ai,ci⟩,⟨Ao,co⟩⟩ _
 try dsimp only
 refine dK (fun w h=>Cw.nilO aG h)<|aj ?_
 refine dA (fun g:Nat×Option Addr×Nat=>g.1<=m.F.length) (fun g=>m.F.length - g.1) (fun g=> [(2,.pointer (some ⟨g2,0,none⟩)),(3,.pointer (some ⟨gx,0,none⟩)),(21,.slice a.Af m.F.length a.cf),(22,.int .i64 (m.F.length:Int)),(23,.int .i64 (g.1:Int))]) (fun g=> [ak (.slice g.2.1 (m.F.take g.1).length g.2.2) (m.F.take g.1),am g1 [.slice a.Af m.F.length a.cf,.slice a.Ab m.B.length a.cb,.slice a.Ai m.I.length a.ci,.slice a.Ao m.out.length a.co,.int .i64 m.S,.int .i64 m.T] 43,am g2 [.slice none 0 0,.slice none 0 0,.slice none 0 0,.slice none 0 0,.int .i64 0,.int .i64 0] 43,ak (.slice Ab m.B.length cb) m.B,ak (.slice Ai m.I.length ci) m.I,ak (.slice Ao m.out.length co) m.out,am gx [.slice g.2.1 (m.F.take g.1).length g.2.2,.slice Ab m.B.length cb,.slice Ai m.I.length ci,.slice Ao m.out.length co,.int .i64 m.S,.int .i64 m.T] 43]) (0,none,0) (aX _) ?_
 rintro⟨k,A',c'⟩ hk
 try dsimp only
 have hk:k<=m.F.length:=hk
 have htl:(m.F.take k).length=k:=by rw[aA];omega
 refine av (fun hlt=>?_) (fun hlt=>?_)
 ·have hkl:k<m.F.length:=by omega
  obtain⟨A1,c1,A2,c2,hl,hst,hi,hcell⟩:=hm.f.fr hkl
  obtain⟨hb1,hb2⟩:=hfit.f.2 (aN m.F k) (fE hkl)
  have htk:=yG hkl
  refine gI (gF ?_)
  refine eh (fun _:Option Addr×Nat=>True) (fun g=> [(2,.pointer (some ⟨g2,0,none⟩)),(3,.pointer (some ⟨gx,0,none⟩)),(21,.slice a.Af m.F.length a.cf),(22,.int .i64 (m.F.length:Int)),(23,.int .i64 (k:Int))]) (fun g=> [ak (.slice g.1 (m.F.take (k+1)).length g.2) (m.F.take (k+1)),am g1 [.slice a.Af m.F.length a.cf,.slice a.Ab m.B.length a.cb,.slice a.Ai m.I.length a.ci,.slice a.Ao m.out.length a.co,.int .i64 m.S,.int .i64 m.T] 43,am g2 [.slice none 0 0,.slice none 0 0,.slice none 0 0,.slice none 0 0,.int .i64 0,.int .i64 0] 43,ak (.slice Ab m.B.length cb) m.B,ak (.slice Ai m.I.length ci) m.I,ak (.slice Ao m.out.length co) m.out,am gx [.slice g.1 (m.F.take (k+1)).length g.2,.slice Ab m.B.length cb,.slice Ai m.I.length ci,.slice Ao m.out.length co,.int .i64 m.S,.int .i64 m.T] 43]) ?_ ?_
  ·refine aj ?_
   refine cS (_) rfl ((.ro hm.f)) ?_
   refine iY rfl (hcell _)<|aj ?_
   intro g3 _
   refine dr (cV _ fc dI rfl rfl rfl rfl rfl (by rfl) rfl (by rfl)) rfl rfl (fun _ _=>?_)
   refine bH<|bz [0,3,6,9,12,15,18,21,27,30,26,35,36,41,44,46,50] [14,15,16] rfl<|aj ?_
   refine pE rfl (eR rfl rfl rfl Tryz.call210 (fun w hw=>yl _ _ (aN m.F k).L w (hw.ro hl) (by omega))) (fun⟨A3,c3⟩ _=>?_)
   try dsimp only
   refine pE rfl (eR rfl rfl rfl Tryz.call210 (fun w hw=>yl _ _ (aN m.F k).K w (hw.ro hst) (by omega))) (fun⟨A4,c4⟩ _=>?_)
   refine aO ?_
   intro g4 _
   refine pE rfl (cH (α:=aG) (bytes:=64) (aN m.F k) [ak (.slice A3 (aN m.F k).L.length c3) (aN m.F k).L,ak (.slice A4 (aN m.F k).K.length c4) (aN m.F k).K] htk cD (aV lE) rfl (xv fc fc fc fc) (xS hi) (by omega) (by omega) rfl rfl rfl) (fun⟨A5,c5⟩ _=>?_)
   refine aO ?_
   refine bS (A5,c5) (trivial) (hh:=(fun _ h=>h.msub ms))
  rintro⟨A5,c5⟩ _
  refine aO ?_
  refine cU (k+1,A5,c5) (by show k+1<=_;omega) (by show _ - _<_ - _;omega)
 obtain rfl:k=m.F.length:=by omega
 rw[aT]
 refine aj ?_
 intro w hw
 exact⟨⟨A',c',Ab,cb,Ai,ci,Ao,co⟩,trivial,rfl,hw.msub ms⟩
end
section
theorem qH {α:Type} (xs:List α) (y d:α) {k:Nat} (hk:xs.length=k):(xs++ [y]).getD k d=y:=by
 subst hk
 rw[an,dd (aK _),pO]
 rfl
theorem vX {α:Type} (xs:List α) (y y':α) {k:Nat} (hk:xs.length=k):(xs++ [y]).set k y'=xs++ [y']:=by
 subst hk
 rw[tj _ _ (aK _),pO]
 rfl
theorem G3 {α:Type} (xs:List α) (y:α) {k:Nat} (hk:xs.length=k):(xs++ [y]).take k=xs:=by
 subst hk
 exact List.take_left' rfl
section
variable {P:Program} {n:NF} {B:Nat} {w0:World} {env:cy} {H H':List aJ} {o:Oper}
theorem fw {α:Type} [cF α] {xs:List α} {y:α} {A:Option Addr} {k c:Nat} (hk:xs.length=k) (hp:cN H (ak (.slice A (k+1) c) (xs++ [y])) H') {j:Nat} {v:Value} (hj:(cF.enc y)[j]? =some v) :
  ∀w,Cw B w0 H w->w.cell? ⟨ab A,ao A+k*aE.k α+j,none⟩=some v:=fun w hw=>by
 refine SF.cell (SF.own (by rw[ar,hk];rfl) hp) (Nat.lt_succ_self k) y ?_ w hw
 rw[qH xs y y hk]
 exact hj
theorem oL {α:Type} [cF α] {v:Value} {xs:List α} {w:World} (hw:Cw B w0 H w) (hp:cN H (ak v xs) H') {x:α} (hx:x∈xs):cF.wf x:=by
 obtain⟨F,h,_⟩:=hw.rd hp
 rcases(show cL w F v xs from h) with ⟨_,rfl,_⟩ | ⟨g,p,cap,cur,Fs,ho⟩
 ·cases hx
 obtain⟨i,hi,rfl⟩:=cg hx
 exact(cF.own_iff.1 (ho.el i _ (ap hi))).1.2
theorem rC {α:Type} [cF α] {v:Value} {xs:List α} {y:α} {w:World} (hw:Cw B w0 H w) (hp:cN H (ak v (xs++ [y])) H'):cF.wf y:=oL hw hp (gB _ (cB.2 rfl))
theorem lx {α:Type} [cF α] {i j:Operand} {t:TypeId} {A:Option Addr} {c k f sz:Nat} {v:Value} {us:List Value} {xs:List α} (y y':α) (hk:xs.length=k) (hp:cN H (ak (.slice A (k+1) c) (xs++ [y])) H') (hwf:cF.wf y') (hz:∀w,(sizeOf t).run P w= .ok sz w)
  (hop:o.op= .store t i j) (hi:opv env i=some (.pointer (some ⟨ab A,ao A+k*aE.k α+f,none⟩))) (hj:opv env j=some v) (hv:v.cells=us.toArray) (hkk:Nat.beq us.length sz=true) (h1:us.all Value.oneCell'=true)
  (hx:lh (cF.enc y) f us=cF.enc y') (hle:Nat.ble (f+us.length) (aE.k α)=true):OT P n B w0 o env H (γ:=Unit) (fun _=>True) (fun _=>undef) (fun _=>ak (.slice A (k+1) c) (xs++ [y'])::H'):=
 ry y' y (vX xs y y' hk).symm hp (Nat.lt_succ_self k) hwf hz hop hi hj hv hkk h1 (by rw[qH xs y y hk];exact hx) hle
theorem vS {α:Type} [Ow α] {A:Option Addr} {k c:Nat} {xs:List α} {y:α} (hk:xs.length=k) {w:World} (h:Cw B w0 (ak (.slice A (k+1) c) (xs++ [y])::H) w):Cw B w0 (ak (.slice A k c) xs::H) w:=by
 have:=ri (k:=k) (Nat.le_succ k) h
 rwa [G3 xs y hk] at this
theorem qh (gd k c:Nat) (A:Option Addr) (hs:List aB) (w:World) (hc:w.cell? ⟨gd,0,none⟩=some (.slice A (k+1) c)) (hlt:gd<w.heap.size) (hsl:Sl w (.slice A (k+1) c) hs) :
  Calls Tryz.prog 216 #[.pointer (some ⟨gd,0,none⟩)] w fun e w'=>e= .returned (.pointer (some ⟨ab A,ao A+k*4,none⟩))/\Below w.heap.size w w':=by
 have hb:=bE hsl
 refine enter Tryz.func216 rfl Tryz.ntmps216 rfl<|aj ?_
 refine bz [0,3,6,9,12,15,18,21,24,27,30,33,36,39] [] rfl<|aj ?_
 refine tE rfl (bQ (fun w' hw=>(hw.below.cell hlt).trans hc) rfl rfl Rt)<|aj ?_
 refine tE rfl (bQ (fun w' hw=>(hw.below.cell hlt).trans hc) rfl rfl Rt)<|aj ?_
 refine cC (t:=14) (v':= .int .i64 (k:Int)) rfl (by congr 1;omega) ?_
 refine tE rfl (bg (k:=k) cD dI (.ro hsl) (by omega) rfl rfl rfl)<|aj ?_
 intro w hw
 exact⟨rfl,hw.below⟩
end
section
variable {B:Nat} {w0:World} {H:List aJ}
theorem fz (gd k:Nat) (hl:List aB) (hk:hl.length=k) (A As:Option Addr) (c cs:Nat) (r:List Value) (f p:Int) (lv:Value) (s:List aC) (v:aC) (w:World)
  (hw:Cw B w0 (am gd (.slice A (k+1) c::r) 212::ak (.slice A (k+1) c) (hl++ [(⟨f,p,lv,.slice As (s.length+1) cs⟩:aB)])::ak (.slice As (s.length+1) cs) (s++ [v])::H) w) :
  Calls Tryz.prog 254 #[.pointer (some ⟨gd,0,none⟩)] w fun e w'=> ∃_:Unit,True/\e= .returned (.agg #[.bool v.ref,.int .i64 v.n])/\
   Cw B w0 (am gd (.slice A (k+1) c::r) 212::ak (.slice A (k+1) c) (hl++ [(⟨f,p,lv,.slice As s.length cs⟩:aB)])::ak (.slice As s.length cs) s::H) w':=by
 have hlk:∀h:aB,(hl++ [h]).length=k+1:=fun h=>by rw[ar,hk];rfl
 have hwf:aB.wf _:=rC hw .b
 have hsl:(s++ [v]).length=s.length+1:=by simp
 have hb:s.length+1<=140737488355328:=bE (SF.at_ (SF.own hsl .c) hw)
 refine bG Tryz.func254 rfl Tryz.ntmps254 rfl hw<|aj ?_
 refine fun g1 _=>aj ?_
 refine bX rfl Dv (fun w hw=>qh gd k c A (hl++ [(⟨f,p,lv,.slice As (s.length+1) cs⟩:aB)]) w (fP fc rfl w hw) (lD hw fc) (SF.at_ (SF.own (hlk _) fc) hw))<|aj ?_
 refine eH rfl (fw (j:=3) hk fc rfl)<|aj ?_
 refine eH rfl (fw (j:=3) hk fc rfl)<|aj ?_
 refine bh (t:=18) (v':= .int .i64 (s.length:Int)) rfl (by congr 1;omega) ?_
 refine sE (bg (k:=s.length) ax aI (SF.own (xs:=s++ [v]) hsl fc) (by omega) rfl rfl rfl) ?_
 refine sE (eF (cs:= [.bool v.ref,.int .i64 v.n]) (fun w hw j u hj=>fw (α:=aC) rfl fc hj w hw) rfl rfl ie aI)<|aj ?_
 refine fun g2 _=>aj ?_
 refine eH rfl (fw (j:=3) hk fc rfl)<|aj ?_
 refine bh (t:=26) (v':= .int .i64 (s.length:Int)) rfl (by congr 1;omega) ?_
 refine nT (fun w h=>gG h (xs:=s++ [v]) fc) fun hcap=>?_
 refine sE (ij (k:=s.length) ax aI (by omega) rfl rfl rfl) ?_
 refine ay ?_
 refine ay ?_
 refine oE (lx (α:=aB) ⟨f,p,lv,.slice As (s.length+1) cs⟩ ⟨f,p,lv,.slice As s.length cs⟩ hk fc ⟨hwf.1,hwf.2.1,rfl⟩ ft rfl rfl rfl rfl rfl rfl rfl rfl) (fun _ _=>aj ?_)
 intro w hw
 exact⟨(),trivial,rfl,(vS rfl (hw.msub (T:=ak (.slice As (s.length+1) cs) (s++ [v])::am gd _ _::ak (.slice A (k+1) c) _::H) ms)).msub ms⟩
theorem lC (gd k:Nat) (hl:List aB) (hk:hl.length=k) (A As Av:Option Addr) (c cs cv:Nat) (r:List Value) (f p:Int) (lv:Value) (s ys:List aC) (w:World) (hs:SF B w0 H Av ys.length cv ys) (hb:s.length+ys.length<=1000000)
  (hw:Cw B w0 (am gd (.slice A (k+1) c::r) 212::ak (.slice A (k+1) c) (hl++ [(⟨f,p,lv,.slice As s.length cs⟩:aB)])::ak (.slice As s.length cs) s::H) w) :
  Calls Tryz.prog 255 #[.pointer (some ⟨gd,0,none⟩),.slice Av ys.length cv] w fun e w'=> ∃g:Option Addr×Nat,True/\e= .returned (.tuple #[])/\
   Cw B w0 (am gd (.slice A (k+1) c::r) 212::ak (.slice A (k+1) c) (hl++ [(⟨f,p,lv,.slice g.1 (s++ys).length g.2⟩:aB)])::ak (.slice g.1 (s++ys).length g.2) (s++ys)::H) w':=by
 have hlk:∀h:aB,(hl++ [h]).length=k+1:=fun h=>by rw[ar,hk];rfl
 have hwf:aB.wf _:=rC hw .b
 refine bG Tryz.func255 rfl Tryz.ntmps255 rfl hw<|aj ?_
 refine bX rfl Dv (fun w hw=>qh gd k c A (hl++ [(⟨f,p,lv,.slice As s.length cs⟩:aB)]) w (fP fc rfl w hw) (lD hw fc) (SF.at_ (SF.own (hlk _) fc) hw))<|aj ?_
 refine eH rfl (fw (j:=3) hk fc rfl)<|aj ?_
 refine oE (di (α:=aC) (bytes:=16) (xs:=s) (ys:=ys) rfl ax (aV du) rfl (cN.c) (.s (.s (.s hs))) (by omega) (by omega) rfl rfl rfl) (fun⟨A5,c5⟩ _=>?_)
 try dsimp only
 refine ay ?_
 refine ay ?_
 refine oE (lx (α:=aB) ⟨f,p,lv,.slice As s.length cs⟩ ⟨f,p,lv,.slice A5 (s++ys).length c5⟩ hk fc ⟨hwf.1,hwf.2.1,rfl⟩ ft rfl rfl rfl rfl rfl rfl rfl rfl) (fun _ _=>aj ?_)
 intro w hw
 exact⟨(A5,c5),trivial,rfl,hw.msub ms⟩
def cA (z:Int):aC:=⟨false,jt z⟩
theorem jU (gd k:Nat) (hl:List aB) (hk:hl.length=k) (A As:Option Addr) (c cs:Nat) (r:List Value) (f p:Int) (lv:Value) (s:List aC) (z:Int) (w:World) (hb:s.length<=1000)
  (hw:Cw B w0 (am gd (.slice A (k+1) c::r) 212::ak (.slice A (k+1) c) (hl++ [(⟨f,p,lv,.slice As s.length cs⟩:aB)])::ak (.slice As s.length cs) s::H) w) :
  Calls Tryz.prog 253 #[.pointer (some ⟨gd,0,none⟩),.int .i64 z] w fun e w'=> ∃g:Option Addr×Nat,True/\e= .returned (.tuple #[])/\
   Cw B w0 (am gd (.slice A (k+1) c::r) 212::ak (.slice A (k+1) c) (hl++ [(⟨f,p,lv,.slice g.1 (s++ [cA z]).length g.2⟩:aB)])::ak (.slice g.1 (s++ [cA z]).length g.2) (s++ [cA z])::H) w':=by
 refine bG Tryz.func253 rfl Tryz.ntmps253 rfl hw ?_
 have hlk:∀h:aB,(hl++ [h]).length=k+1:=fun h=>by rw[ar,hk];rfl
 refine aj ?_
 refine bX rfl Tryz.call94 ((fun w hw=>fX ((fun w hw=>Jz z w) w hw)))<|aj ?_
 intro g1 _
 refine ee (fun w h=>bt (α:=aC) (m:=1) [cA z] rfl (by simp[cA,cF.wf];exact zo z) rfl (by decide) h) ?_
 refine cT rfl rQ (fun w hw=>lC gd k hl hk A As _ c cs 1 r f p lv s [cA z] w (SF.own rfl .a) (by simp only[aP];omega) (hw.msub (.s fc (.s fc (.s fc .r))))) (fun⟨A5,c5⟩ _=>?_)
 refine aO ?_
 intro w hw
 exact⟨(A5,c5),trivial,rfl,hw.msub ms⟩
end
end
section
def GO (l:List (List Int)):Prop:=l.length*24<=140737488351232/\∀b∈l,b.length*8<=140737488351232
theorem GO.at_ {l:List (List Int)} (h:GO l) (k:Nat):(l.getD k []).length*8<=140737488351232:=by
 rw[an]
 rcases fK k l.length with h1 | h1
 ·rw[ap h1];exact h.2 _ (da h1)
 rw[aW h1];simp
structure yA (m:az):Prop where
 f:jX m.F
 b:GO m.B
 i:m.I.length*8<=140737488351232
 o:m.out.length*8<=140737488351232
theorem uJ.to8 {m:az} (h:uJ m):yA m:=by
 have h1:=h.i
 have h2:=h.o
 have h3:=h.b.1
 exact⟨h.f,⟨by omega,fun b hb=>by have:=h.b.2 b hb;omega⟩,by omega,by omega⟩
theorem nv (v : Value) (l : List (List Int)) (w : World) (hs : Sl w v l) (hfit : GO l) :
    Calls Tryz.prog 107 #[v] w fun e w' => ∃ u, e = .returned u /\ Below w.heap.size w w' /\ ef w' w.heap.size u l := by
  obtain ⟨A, c, rfl, hlc, hc, _⟩ := hs.form
  obtain ⟨i0, hi, hz0, hz1, hz2⟩ := info_parts mG
  obtain ⟨i1, hi1, hy0, hy1, hy2⟩ := info_parts kz
  have hL1 := hfit.1
  have Hfit := Lib.hid hfit; clear hfit
  generalize hL : l.length = L at *
  have HL := Lib.hid hL; clear hL
  go_enter Tryz.func107, Tryz.ntmps107
  go_wp2
  go_loopw [3, 4] (fun s t wr => ∃ k : Nat, k <= L /\ t = .int .i64 k /\ ef wr w.heap.size s (l.take k) /\ Below w.heap.size w wr) (fun _ t _ => L - (intOf t).toNat)
  case atStart => exact ⟨0, by omega, rfl, ef.nil_ _ _, (by repeat (first | exact Below.refl _ _ | assumption | refine Below.drew ?_ | refine Below.drewN_ ?_ _ | refine aM ?_ _ | refine bF (by assumption) ?_ | refine bP ?_ (by simp <;> omega) _))⟩
  case round =>
    obtain ⟨k, hk, rfl, hown, hbl⟩ := hrel
    have htl : (l.take k).length = k := by rw [aA, HL.out]; omega
    obtain ⟨A1, c1, rfl, _, _, _⟩ := hown.form_n htl
    have Htl := Lib.hid htl; clear htl
    have hsz := hbl.size
    by_cases hlt : k < L
    · obtain ⟨b, off, u, rfl, hb, hcell, hu⟩ := (hs.via hbl).sl_at hlt
      have hfk := Hfit.out.at_ k
      obtain ⟨m, hm⟩ : ∃ m, (l.getD k []).length = m := ⟨_, rfl⟩
      obtain ⟨A', c', rfl, _, _, _⟩ := hu.form_n hm
      rw [hm] at hfk
      have Hm := Lib.hid hm; clear hm
      go_wp2_with (at_builtin; refine sy ?_)
      unfold yz
      refine pP _ rfl _ _ 35 rfl wr.heap.size 3 i1 (.int .i64 0) 8 aw hi1 hy0 hy1 hy2 rfl (by decide) _ _ _ rfl (sq wr wr.heap.size 3 1 (aK _)) _ (l.getD k []) rfl (hu.alloc _) (by rw [Hm.out]; unfold maxLen; omega) (by rw [Hm.out]; omega) (by simp) ?_
      intro v1 w1 zs hzl hzr hown1 hg _
      have hbx : Below wr.heap.size wr w1 := AG (aM (Below.refl _ _) _) (sq wr wr.heap.size 3 1 (aK _)) hg (by simp)
      simp only [ir, bU] at hown1
      have hux : ef w1 wr.heap.size v1 (l.getD k []) := ef.of_zs hown1 hzl (fun i x hx => CH (hzr i x hx)) (by rw [Hm.out]; omega)
      clear hown1 hzr hzl hg
      obtain ⟨A2, c2, rfl, _, _, _⟩ := hux.form_n Hm.out
      go_wp2_with (at_builtin; refine sy ?_)
      unfold yz
      refine pg (α := List Int) _ rfl _ _ 41 rfl i0 (.slice none 0 0) 24 dX hi hz0 hz1 hz2 rfl rfl ⟨w1.heap.size, 0, none⟩ 1 rfl _ (l.getD k []) (rM.newer hown (aM hbx _) (by omega) (rx (hux.alloc _))) (xx (by simp)) (by have := hbx.size; simp; omega) (by rw [Htl.out]; omega) (by rw [Htl.out]; omega) ?_
      intro v2 w2 hown2 hbel2
      have hB2 := hbel2 w (aM (bF hbx hbl) _)
      have Hown2 : ef w2 w.heap.size v2 (l.take (k + 1)) := by rw [fe l k [] (by rw [HL.out]; exact hlt)]; exact hown2
      clear hown2 hbel2
      go_wp2
      go_roundw
      case rel => exact ⟨k + 1, by omega, by go_num, Hown2, hB2⟩
      case measure => simp [intOf]; omega
    · go_wp2
      go_ret
      have : k = L := by omega
      subst this
      rw [← HL.out, aT, HL.out] at hown
      exact ⟨_, rfl, hbl, hown⟩

end
