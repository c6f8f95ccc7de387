/- Lemmas of one proof. -/
import Derived.Test.YthfkmcbblnbfaaaGreatDoorM0Q
import Derived.Test.YthfkmcbblnbfaaaGreatDoorM32Q
import Derived.Test.YthfkmcbblnbfaaaGreatDoorM27Q

namespace Go.Proofs.YthfkmcbblnbfaaaGreatDoor
set_option maxRecDepth 100000
set_option maxHeartbeats 16000000
open Go.RowKit
section
theorem jc:(Tryz.prog.info? 159).map (fun i=>(i.zero,i.size,i.bytes))=some (some (.agg #[.bool false,.int .i64 0]),2,16):=by kernel_rfl
theorem oZ:(Tryz.prog.info? 118).map (fun i=>(i.zero,i.size,i.bytes))=some (some (.agg #[.int .i64 0,.int .i64 0,.slice none 0 0,.slice none 0 0]),4,64):=by kernel_rfl
theorem lp:(Tryz.prog.info? 43).map (fun i=>(i.zero,i.size,i.bytes))=some (some (.agg #[.slice none 0 0,.slice none 0 0,.slice none 0 0,.slice none 0 0,.int .i64 0,.int .i64 0]),6,112):=by kernel_rfl
theorem wA (A:Option Addr) (c:Nat) (l:List aH) (w:World) (hs:Sl w (.slice A l.length c) l) (hl:l.length*16<=140737488355328) :
  Calls Tryz.prog 210 #[.slice A l.length c] w fun e w'=> ∃u,e= .returned u/\Below w.heap.size w w'/\eo w' w.heap.size u l:=by
 refine enter Tryz.func210 rfl Tryz.ntmps210 rfl<|aj ?_
 refine sE (AG cE rfl rfl)<|aj ?_
 refine cB rfl (fun h=>?_) (fun h=>?_)
 ·have h0:l= []:=by
   rcases fy l.length with h0 | h0
   ·exact aS h0
   obtain⟨b,o,e⟩:=hs.addr h0
   subst e
   cases h
  subst h0
  refine aj ?_
  intro w hw
  exact⟨_,rfl,lT hw⟩
 refine aj ?_
 refine fun g1 _=>aj ?_
 refine eA (fun w h=>bI (α:=aH) (m:=0) [] rfl (by simp) rfl (by decide) h) ?_
 refine oE (ju (α:=aH) (bytes:=16) (xs:= []) (ys:=l) rfl cE (bM jc) rfl fc (.ro hs) (by simp only[aZ];omega) (by simp only[aZ];omega) rfl rfl rfl) (fun⟨A5,c5⟩ _=>?_)
 refine aJ ?_
 intro w hw
 exact⟨_,rfl,ot hw⟩
def dO (l:List Int):List aH:=l.map fun t=>⟨decide (t=2),0⟩
theorem my (l:List Int):(dO l).length=l.length:=by simp[dO]
theorem CG {l:List Int} {k:Nat} (hk:k<l.length):dO (l.take (k+1))=dO (l.take k)++ [⟨decide (l.getD k 0=2),0⟩]:=by
 rw[ei l k 0 hk]
 simp[dO]
theorem yj (p r:Int) (A1 A2:Option Addr) (c1 c2 n2:Nat) (l:List Int) (w:World) (hs:Sl w (.slice A1 l.length c1) l) (hb:l.length*16<=140737488355328) :
  Calls Tryz.prog 130 #[.agg #[.int .i64 p,.slice A1 l.length c1,.int .i64 r,.slice A2 n2 c2]] w fun e w'=> ∃u,e= .returned u/\Below w.heap.size w w'/\eo w' w.heap.size u (dO l):=by
 refine enter Tryz.func130 rfl Tryz.ntmps130 rfl<|aj ?_
 refine fun g1 _=>aj ?_
 refine dJ (fun w h=>Cw.nilO aH h) ?_
 refine dG (fun g:Nat×Option Addr×Nat=>g.1<=l.length) (fun g=>l.length - g.1) (fun g=> [(3,.slice g.2.1 (dO (l.take g.1)).length g.2.2),(7,.slice A1 l.length c1),(8,.int .i64 (l.length:Int)),(9,.int .i64 (g.1:Int))]) (fun g=> [an (.slice g.2.1 (dO (l.take g.1)).length g.2.2) (dO (l.take g.1))]) (0,none,0) (bi _) ?_
 rintro⟨k,A,c⟩ hk
 try dsimp only
 have hk:k<=l.length:=hk
 have htl:(dO (l.take k)).length=k:=by rw[my,ax];omega
 refine az (fun hlt=>?_) (fun hlt=>?_)
 ·have hkl:k<l.length:=by omega
  refine aj ?_
  refine dA (_) rfl ((.ro hs)) ?_
  refine oN rfl ((.ro hs))<|aj ?_
  intro g2 _
  refine oE (cV (α:=aH) (bytes:=16) ⟨decide (l.getD k 0=2),0⟩ [] (CG hkl) cE (bM jc) rfl (fT fc fc) (eJ (by show aF 0;decide)) (by omega) (by omega) rfl rfl rfl) (fun⟨A3,c3⟩ _=>?_)
  refine aJ ?_
  refine dv (k+1,A3,c3) (by show k+1<=_;omega) (by show _ - _<_ - _;omega)
 obtain rfl:k=l.length:=by omega
 rw[aQ]
 refine aj ?_
 intro w hw
 exact⟨_,rfl,ot hw⟩
def nL (l:List aB):Prop:=l.length*64<=140737488355328/\∀x∈l,x.L.length*16<=140737488351232/\x.K.length*16<=140737488351232
structure Fu (m:ar):Prop where
 f:nL m.F
 b:uu m.B
 i:m.I.length<=1000000
 o:m.out.length<=1000000
theorem fY {l:List aB} {k:Nat} (hk:k<l.length):aP l k∈l:=by
 unfold aP
 rw[ak,ap hk]
 exact cR hk
theorem Dh {l:List aB} {k:Nat} (hk:k<l.length):l.take (k+1)=l.take k++ [aP l k]:=ei l k default hk
theorem Bm {v1 v2:Value} {x:aB} (hi:aF x.func/\aF x.pc):∀(w:World) (F:Nat->Prop),Hs w [an v1 x.L,an v2 x.K] F->Ow.own w F [.int .i64 x.func,.int .i64 x.pc,v1,v2] x:=fun _ _ h=>⟨v1,v2,rfl,hi,h⟩
theorem kv (a:MA) (m:ar) (w:World) (hm:fi w.heap.size w a m) (hfit:Fu m) :
  Calls Tryz.prog 153 #[.agg #[.slice a.Af m.F.length a.cf,.slice a.Ab m.B.length a.cb,.slice a.Ai m.I.length a.ci,.slice a.Ao m.out.length a.co,.int .i64 m.S,.int .i64 m.T]] w fun e w'=> ∃g:MA,True/\
   e= .returned (.agg #[.slice g.Af m.F.length g.cf,.slice g.Ab m.B.length g.cb,.slice g.Ai m.I.length g.ci,.slice g.Ao m.out.length g.co,.int .i64 m.S,.int .i64 m.T])/\
   Cw w.heap.size w [an (.slice g.Af m.F.length g.cf) m.F,an (.slice g.Ab m.B.length g.cb) m.B,an (.slice g.Ai m.I.length g.ci) m.I,an (.slice g.Ao m.out.length g.co) m.out] w':=by
 have b1:=bx hm.f
 have hf64:=hfit.f.1
 refine enter Tryz.func153 rfl Tryz.ntmps153 rfl<|aj ?_
 refine fun g1 _=>aj ?_
 intro g2 _
 refine bK<|dx (fun _:Nat×(Option Addr×Nat)×(Option Addr×Nat)×(Option Addr×Nat)=>True) (fun g=> [(1,.pointer (some ⟨g1,0,none⟩)),(2,.pointer (some ⟨g2,0,none⟩)),(3,.pointer (some ⟨g.1,0,none⟩))]) (fun g=> [am g1 [.slice a.Af m.F.length a.cf,.slice a.Ab m.B.length a.cb,.slice a.Ai m.I.length a.ci,.slice a.Ao m.out.length a.co,.int .i64 m.S,.int .i64 m.T] 43,am g2 [.slice none 0 0,.slice none 0 0,.slice none 0 0,.slice none 0 0,.int .i64 0,.int .i64 0] 43,am g.1 [.slice none 0 0,.slice g.2.1.1 m.B.length g.2.1.2,.slice g.2.2.1.1 m.I.length g.2.2.1.2,.slice g.2.2.2.1 m.out.length g.2.2.2.2,.int .i64 m.S,.int .i64 m.T] 43,an (.slice g.2.1.1 m.B.length g.2.1.2) m.B,an (.slice g.2.2.1.1 m.I.length g.2.2.1.2) m.I,an (.slice g.2.2.2.1 m.out.length g.2.2.2.2) m.out]) ?_ ?_
 ·refine gZ (.still 0 (.still 1 (.still 3 (.still 4 (.still 6 (.still 7 (.still 9 (.still 10 (.still 11 (.still 12 (.pick 2 (.pick 5 (.pick 8 (.still 13 (.pick 14 (.pick 15 .done .stop) .stop)) (.pick 14 (.pick 8 (.still 13 (.pick 15 .done .stop)) .stop) .stop)) (.pick 14 (.pick 5 (.pick 8 (.still 13 (.pick 15 .done .stop)) .stop) .stop) .stop)) (.pick 14 (.pick 2 (.pick 5 (.pick 8 (.still 13 (.pick 15 .done .stop)) .stop) .stop) .stop) .stop)))))))))))) [15] rfl (by kernel_rfl) (by kernel_rfl) ?_
  refine aj ?_
  refine ef rfl (fI rfl rfl rfl Tryz.call209 (fun w hw=>xb _ m.B w (hw.ro hm.b) hfit.b)) rfl rfl (.inr fun _=>ha) (fun⟨A1,c1⟩ _=>?_) ?_
  ·try dsimp only
   refine ef rfl (fI rfl rfl rfl jV (fun w hw=>it _ m.I w (hw.ro hm.i) hfit.i)) rfl rfl (.inr fun _=>ha) (fun⟨A2,c2⟩ _=>?_) ?_
   ·try dsimp only
    refine ef rfl (fI rfl rfl rfl jV (fun w hw=>it _ m.out w (hw.ro hm.o) hfit.o)) rfl rfl (.inr fun _=>ha) (fun⟨A3,c3⟩ _=>?_) ?_
    ·refine aJ ?_
     refine fun gx _=>aj ?_
     refine cg<|dg (gx,(A1,c1),(A2,c2),(A3,c3)) (trivial) (hh:=(fun _ h=>h.msub ms))
    refine aj ?_
    intro gx _
    refine pE rfl (fI rfl rfl rfl jV (fun w hw=>it _ m.out w (hw.ro hm.o) hfit.o)) (fun⟨A3,c3⟩ _=>?_)
    refine aJ ?_
    refine cg<|dg (gx,(A1,c1),(A2,c2),(A3,c3)) (trivial) (hh:=(fun _ h=>h.msub ms))
   refine aj ?_
   intro gx _
   refine pE rfl (fI rfl rfl rfl jV (fun w hw=>it _ m.I w (hw.ro hm.i) hfit.i)) (fun⟨A2,c2⟩ _=>?_)
   try dsimp only
   refine pE rfl (fI rfl rfl rfl jV (fun w hw=>it _ m.out w (hw.ro hm.o) hfit.o)) (fun⟨A3,c3⟩ _=>?_)
   refine aJ ?_
   refine cg<|dg (gx,(A1,c1),(A2,c2),(A3,c3)) (trivial) (hh:=(fun _ h=>h.msub ms))
  refine aj ?_
  intro gx _
  refine pE rfl (fI rfl rfl rfl Tryz.call209 (fun w hw=>xb _ m.B w (hw.ro hm.b) hfit.b)) (fun⟨A1,c1⟩ _=>?_)
  try dsimp only
  refine pE rfl (fI rfl rfl rfl jV (fun w hw=>it _ m.I w (hw.ro hm.i) hfit.i)) (fun⟨A2,c2⟩ _=>?_)
  try dsimp only
  refine pE rfl (fI rfl rfl rfl jV (fun w hw=>it _ m.out w (hw.ro hm.o) hfit.o)) (fun⟨A3,c3⟩ _=>?_)
  refine aJ ?_
  refine cg<|dg (gx,(A1,c1),(A2,c2),(A3,c3)) (trivial) (hh:=(fun _ h=>h.msub ms))
 rintro⟨gx,⟨Ab,cb⟩,⟨Ai,ci⟩,⟨Ao,co⟩⟩ _
 try dsimp only
 refine dJ (fun w h=>Cw.nilO aB h)<|aj ?_
 refine dG (fun g:Nat×Option Addr×Nat=>g.1<=m.F.length) (fun g=>m.F.length - g.1) (fun g=> [(2,.pointer (some ⟨g2,0,none⟩)),(3,.pointer (some ⟨gx,0,none⟩)),(21,.slice a.Af m.F.length a.cf),(22,.int .i64 (m.F.length:Int)),(23,.int .i64 (g.1:Int))]) (fun g=> [an (.slice g.2.1 (m.F.take g.1).length g.2.2) (m.F.take g.1),am g1 [.slice a.Af m.F.length a.cf,.slice a.Ab m.B.length a.cb,.slice a.Ai m.I.length a.ci,.slice a.Ao m.out.length a.co,.int .i64 m.S,.int .i64 m.T] 43,am g2 [.slice none 0 0,.slice none 0 0,.slice none 0 0,.slice none 0 0,.int .i64 0,.int .i64 0] 43,an (.slice Ab m.B.length cb) m.B,an (.slice Ai m.I.length ci) m.I,an (.slice Ao m.out.length co) m.out,am gx [.slice g.2.1 (m.F.take g.1).length g.2.2,.slice Ab m.B.length cb,.slice Ai m.I.length ci,.slice Ao m.out.length co,.int .i64 m.S,.int .i64 m.T] 43]) (0,none,0) (bi _) ?_
 rintro⟨k,A',c'⟩ hk
 try dsimp only
 have hk:k<=m.F.length:=hk
 have htl:(m.F.take k).length=k:=by rw[ax];omega
 refine az (fun hlt=>?_) (fun hlt=>?_)
 ·have hkl:k<m.F.length:=by omega
  obtain⟨A1,c1,A2,c2,hl,hst,hi,hcell⟩:=hm.f.fr hkl
  obtain⟨hb1,hb2⟩:=hfit.f.2 (aP m.F k) (fY hkl)
  have htk:=Dh hkl
  refine fx (fw ?_)
  refine dx (fun _:Option Addr×Nat=>True) (fun g=> [(2,.pointer (some ⟨g2,0,none⟩)),(3,.pointer (some ⟨gx,0,none⟩)),(21,.slice a.Af m.F.length a.cf),(22,.int .i64 (m.F.length:Int)),(23,.int .i64 (k:Int))]) (fun g=> [an (.slice g.1 (m.F.take (k+1)).length g.2) (m.F.take (k+1)),am g1 [.slice a.Af m.F.length a.cf,.slice a.Ab m.B.length a.cb,.slice a.Ai m.I.length a.ci,.slice a.Ao m.out.length a.co,.int .i64 m.S,.int .i64 m.T] 43,am g2 [.slice none 0 0,.slice none 0 0,.slice none 0 0,.slice none 0 0,.int .i64 0,.int .i64 0] 43,an (.slice Ab m.B.length cb) m.B,an (.slice Ai m.I.length ci) m.I,an (.slice Ao m.out.length co) m.out,am gx [.slice g.1 (m.F.take (k+1)).length g.2,.slice Ab m.B.length cb,.slice Ai m.I.length ci,.slice Ao m.out.length co,.int .i64 m.S,.int .i64 m.T] 43]) ?_ ?_
  ·refine aj ?_
   refine dA (_) rfl ((.ro hm.f)) ?_
   refine iX rfl (hcell _)<|aj ?_
   intro g3 _
   refine eV (eB _ fc fC rfl rfl rfl rfl rfl (by rfl) rfl (by rfl)) rfl rfl (fun _ _=>?_)
   refine bK<|bU [0,3,6,9,12,15,18,21,27,30,26,35,36,41,44,46,50] [14,15,16] rfl<|aj ?_
   refine pE rfl (fI rfl rfl rfl Tryz.call210 (fun w hw=>wA _ _ (aP m.F k).L w (hw.ro hl) (by omega))) (fun⟨A3,c3⟩ _=>?_)
   try dsimp only
   refine pE rfl (fI rfl rfl rfl Tryz.call210 (fun w hw=>wA _ _ (aP m.F k).K w (hw.ro hst) (by omega))) (fun⟨A4,c4⟩ _=>?_)
   refine aJ ?_
   intro g4 _
   refine pE rfl (cV (α:=aB) (bytes:=64) (aP m.F k) [an (.slice A3 (aP m.F k).L.length c3) (aP m.F k).L,an (.slice A4 (aP m.F k).K.length c4) (aP m.F k).K] htk eR (bM oZ) rfl (zf fc fc fc fc) (Bm hi) (by omega) (by omega) rfl rfl rfl) (fun⟨A5,c5⟩ _=>?_)
   refine aJ ?_
   refine dg (A5,c5) (trivial) (hh:=(fun _ h=>h.msub ms))
  rintro⟨A5,c5⟩ _
  refine aJ ?_
  refine dv (k+1,A5,c5) (by show k+1<=_;omega) (by show _ - _<_ - _;omega)
 obtain rfl:k=m.F.length:=by omega
 rw[aQ]
 refine aj ?_
 intro w hw
 exact⟨⟨A',c',Ab,cb,Ai,ci,Ao,co⟩,trivial,rfl,hw.msub ms⟩
end
section
theorem sR {α:Type} (xs:List α) (y d:α) {k:Nat} (hk:xs.length=k):(xs++ [y]).getD k d=y:=by
 subst hk
 rw[ak,cy (aA _),rN]
 rfl
theorem I4 {α:Type} (xs:List α) (y y':α) {k:Nat} (hk:xs.length=k):(xs++ [y]).set k y'=xs++ [y']:=by
 subst hk
 rw[List.set_append_right _ _ (aA _),rN]
 rfl
theorem FK {α:Type} (xs:List α) (y:α) {k:Nat} (hk:xs.length=k):(xs++ [y]).take k=xs:=by
 subst hk
 exact List.take_left' rfl
section
variable {P:Program} {n:NF} {B:Nat} {w0:World} {env:bJ} {H H':List aC} {o:Oper}
theorem gQ {α:Type} [bS α] {xs:List α} {y:α} {A:Option Addr} {k c:Nat} (hk:xs.length=k) (hp:bA H (an (.slice A (k+1) c) (xs++ [y])) H') {j:Nat} {v:Value} (hj:(bS.enc y)[j]? =some v) :
  ∀w,Cw B w0 H w->w.cell? ⟨ab A,ao A+k*ay.k α+j,none⟩=some v:=fun w hw=>by
 refine SF.cell (SF.own (by rw[aq,hk];rfl) hp) (Nat.lt_succ_self k) y ?_ w hw
 rw[sR xs y y hk]
 exact hj
theorem mm {α:Type} [bS α] {v:Value} {xs:List α} {w:World} (hw:Cw B w0 H w) (hp:bA H (an v xs) H') {x:α} (hx:x∈xs):bS.wf x:=by
 obtain⟨F,h,_⟩:=hw.rd hp
 rcases(show bX w F v xs from h) with ⟨_,rfl,_⟩ | ⟨g,p,cap,cur,Fs,ho⟩
 ·cases hx
 obtain⟨i,hi,rfl⟩:=db hx
 exact(bS.own_iff.1 (ho.el i _ (ap hi))).1.2
theorem tH {α:Type} [bS α] {v:Value} {xs:List α} {y:α} {w:World} (hw:Cw B w0 H w) (hp:bA H (an v (xs++ [y])) H'):bS.wf y:=mm hw hp (gK _ (bN.2 rfl))
theorem qm {α:Type} [bS α] {i j:Operand} {t:TypeId} {A:Option Addr} {c k f sz:Nat} {v:Value} {us:List Value} {xs:List α} (y y':α) (hk:xs.length=k) (hp:bA H (an (.slice A (k+1) c) (xs++ [y])) H') (hwf:bS.wf y') (hz:∀w,(sizeOf t).run P w= .ok sz w)
  (hop:o.op= .store t i j) (hi:opv env i=some (.pointer (some ⟨ab A,ao A+k*ay.k α+f,none⟩))) (hj:opv env j=some v) (hv:v.cells=us.toArray) (hkk:Nat.beq us.length sz=true) (h1:us.all Value.oneCell'=true)
  (hx:jY (bS.enc y) f us=bS.enc y') (hle:Nat.ble (f+us.length) (ay.k α)=true):OT P n B w0 o env H (γ:=Unit) (fun _=>True) (fun _=>undef) (fun _=>an (.slice A (k+1) c) (xs++ [y'])::H'):=
 qp y' y (I4 xs y y' hk).symm hp (Nat.lt_succ_self k) hwf hz hop hi hj hv hkk h1 (by rw[sR xs y y hk];exact hx) hle
theorem zD {α:Type} [Ow α] {A:Option Addr} {k c:Nat} {xs:List α} {y:α} (hk:xs.length=k) {w:World} (h:Cw B w0 (an (.slice A (k+1) c) (xs++ [y])::H) w):Cw B w0 (an (.slice A k c) xs::H) w:=by
 have:=tq (k:=k) (Nat.le_succ k) h
 rwa [FK xs y hk] at this
theorem oS (gd k c:Nat) (A:Option Addr) (hs:List aI) (w:World) (hc:w.cell? ⟨gd,0,none⟩=some (.slice A (k+1) c)) (hlt:gd<w.heap.size) (hsl:Sl w (.slice A (k+1) c) hs) :
  Calls Tryz.prog 216 #[.pointer (some ⟨gd,0,none⟩)] w fun e w'=>e= .returned (.pointer (some ⟨ab A,ao A+k*4,none⟩))/\Below w.heap.size w w':=by
 have hb:=bx hsl
 refine enter Tryz.func216 rfl Tryz.ntmps216 rfl<|aj ?_
 refine bU [0,3,6,9,12,15,18,21,24,27,30,33,36,39] [] rfl<|aj ?_
 refine tE rfl (dT (fun w' hw=>(hw.below.cell hlt).trans hc) rfl rfl Tryz.isAgg40)<|aj ?_
 refine tE rfl (dT (fun w' hw=>(hw.below.cell hlt).trans hc) rfl rfl Tryz.isAgg40)<|aj ?_
 refine kb (t:=14) (v':= .int .i64 (k:Int)) rfl (by congr 1;omega) ?_
 refine tE rfl (bZ (k:=k) eR fC (.ro hsl) (by omega) rfl rfl rfl)<|aj ?_
 intro w hw
 exact⟨rfl,hw.below⟩
end
section
variable {B:Nat} {w0:World} {H:List aC}
theorem eK (gd k:Nat) (hl:List aI) (hk:hl.length=k) (A As:Option Addr) (c cs:Nat) (r:List Value) (f p:Int) (lv:Value) (s:List aH) (v:aH) (w:World)
  (hw:Cw B w0 (am gd (.slice A (k+1) c::r) 212::an (.slice A (k+1) c) (hl++ [(⟨f,p,lv,.slice As (s.length+1) cs⟩:aI)])::an (.slice As (s.length+1) cs) (s++ [v])::H) w) :
  Calls Tryz.prog 254 #[.pointer (some ⟨gd,0,none⟩)] w fun e w'=> ∃_:Unit,True/\e= .returned (.agg #[.bool v.ref,.int .i64 v.n])/\
   Cw B w0 (am gd (.slice A (k+1) c::r) 212::an (.slice A (k+1) c) (hl++ [(⟨f,p,lv,.slice As s.length cs⟩:aI)])::an (.slice As s.length cs) s::H) w':=by
 have hlk:∀h:aI,(hl++ [h]).length=k+1:=fun h=>by rw[aq,hk];rfl
 have hwf:aI.wf _:=tH hw .b
 have hsl:(s++ [v]).length=s.length+1:=by simp
 have hb:s.length+1<=140737488355328:=bx (SF.at_ (SF.own hsl .c) hw)
 refine aY Tryz.func254 rfl Tryz.ntmps254 rfl hw<|aj ?_
 refine fun g1 _=>aj ?_
 refine cA rfl Cq (fun w hw=>oS gd k c A (hl++ [(⟨f,p,lv,.slice As (s.length+1) cs⟩:aI)]) w (fg fc rfl w hw) (kG hw fc) (SF.at_ (SF.own (hlk _) fc) hw))<|aj ?_
 refine eM rfl (gQ (j:=3) hk fc rfl)<|aj ?_
 refine eM rfl (gQ (j:=3) hk fc rfl)<|aj ?_
 refine bW (t:=18) (v':= .int .i64 (s.length:Int)) rfl (by congr 1;omega) ?_
 refine sE (bZ (k:=s.length) cE fj (SF.own (xs:=s++ [v]) hsl fc) (by omega) rfl rfl rfl) ?_
 refine sE (eW (cs:= [.bool v.ref,.int .i64 v.n]) (fun w hw j u hj=>gQ (α:=aH) rfl fc hj w hw) rfl rfl Iw fj)<|aj ?_
 refine fun g2 _=>aj ?_
 refine eM rfl (gQ (j:=3) hk fc rfl)<|aj ?_
 refine bW (t:=26) (v':= .int .i64 (s.length:Int)) rfl (by congr 1;omega) ?_
 refine qa (fun w h=>mS h (xs:=s++ [v]) fc) fun hcap=>?_
 refine sE (pz (k:=s.length) cE fj (by omega) rfl rfl rfl) ?_
 refine aD ?_
 refine aD ?_
 refine oE (qm (α:=aI) ⟨f,p,lv,.slice As (s.length+1) cs⟩ ⟨f,p,lv,.slice As s.length cs⟩ hk fc ⟨hwf.1,hwf.2.1,rfl⟩ lM rfl rfl rfl rfl rfl rfl rfl rfl) (fun _ _=>aj ?_)
 intro w hw
 exact⟨(),trivial,rfl,(zD rfl (hw.msub (T:=an (.slice As (s.length+1) cs) (s++ [v])::am gd _ _::an (.slice A (k+1) c) _::H) ms)).msub ms⟩
theorem kD (gd k:Nat) (hl:List aI) (hk:hl.length=k) (A As Av:Option Addr) (c cs cv:Nat) (r:List Value) (f p:Int) (lv:Value) (s ys:List aH) (w:World) (hs:SF B w0 H Av ys.length cv ys) (hb:s.length+ys.length<=1000000)
  (hw:Cw B w0 (am gd (.slice A (k+1) c::r) 212::an (.slice A (k+1) c) (hl++ [(⟨f,p,lv,.slice As s.length cs⟩:aI)])::an (.slice As s.length cs) s::H) w) :
  Calls Tryz.prog 255 #[.pointer (some ⟨gd,0,none⟩),.slice Av ys.length cv] w fun e w'=> ∃g:Option Addr×Nat,True/\e= .returned (.tuple #[])/\
   Cw B w0 (am gd (.slice A (k+1) c::r) 212::an (.slice A (k+1) c) (hl++ [(⟨f,p,lv,.slice g.1 (s++ys).length g.2⟩:aI)])::an (.slice g.1 (s++ys).length g.2) (s++ys)::H) w':=by
 have hlk:∀h:aI,(hl++ [h]).length=k+1:=fun h=>by rw[aq,hk];rfl
 have hwf:aI.wf _:=tH hw .b
 refine aY Tryz.func255 rfl Tryz.ntmps255 rfl hw<|aj ?_
 refine cA rfl Cq (fun w hw=>oS gd k c A (hl++ [(⟨f,p,lv,.slice As s.length cs⟩:aI)]) w (fg fc rfl w hw) (kG hw fc) (SF.at_ (SF.own (hlk _) fc) hw))<|aj ?_
 refine eM rfl (gQ (j:=3) hk fc rfl)<|aj ?_
 refine oE (ju (α:=aH) (bytes:=16) (xs:=s) (ys:=ys) rfl cE (bM jc) rfl (bA.c) (.s (.s (.s hs))) (by omega) (by omega) rfl rfl rfl) (fun⟨A5,c5⟩ _=>?_)
 try dsimp only
 refine aD ?_
 refine aD ?_
 refine oE (qm (α:=aI) ⟨f,p,lv,.slice As s.length cs⟩ ⟨f,p,lv,.slice A5 (s++ys).length c5⟩ hk fc ⟨hwf.1,hwf.2.1,rfl⟩ lM rfl rfl rfl rfl rfl rfl rfl rfl) (fun _ _=>aj ?_)
 intro w hw
 exact⟨(A5,c5),trivial,rfl,hw.msub ms⟩
def cL (z:Int):aH:=⟨false,iE z⟩
theorem jh (gd k:Nat) (hl:List aI) (hk:hl.length=k) (A As:Option Addr) (c cs:Nat) (r:List Value) (f p:Int) (lv:Value) (s:List aH) (z:Int) (w:World) (hb:s.length<=1000)
  (hw:Cw B w0 (am gd (.slice A (k+1) c::r) 212::an (.slice A (k+1) c) (hl++ [(⟨f,p,lv,.slice As s.length cs⟩:aI)])::an (.slice As s.length cs) s::H) w) :
  Calls Tryz.prog 253 #[.pointer (some ⟨gd,0,none⟩),.int .i64 z] w fun e w'=> ∃g:Option Addr×Nat,True/\e= .returned (.tuple #[])/\
   Cw B w0 (am gd (.slice A (k+1) c::r) 212::an (.slice A (k+1) c) (hl++ [(⟨f,p,lv,.slice g.1 (s++ [cL z]).length g.2⟩:aI)])::an (.slice g.1 (s++ [cL z]).length g.2) (s++ [cL z])::H) w':=by
 refine aY Tryz.func253 rfl Tryz.ntmps253 rfl hw ?_
 have hlk:∀h:aI,(hl++ [h]).length=k+1:=fun h=>by rw[aq,hk];rfl
 refine aj ?_
 refine cA rfl Tryz.call94 ((fun w hw=>nA ((fun w hw=>IE z w) w hw)))<|aj ?_
 intro g1 _
 refine eA (fun w h=>bI (α:=aH) (m:=1) [cL z] rfl (by simp[cL,bS.wf];exact xB z) rfl (by decide) h) ?_
 refine cz rfl qF (fun w hw=>kD gd k hl hk A As _ c cs 1 r f p lv s [cL z] w (SF.own rfl .a) (by simp only[aL];omega) (hw.msub (.s fc (.s fc (.s fc .r))))) (fun⟨A5,c5⟩ _=>?_)
 refine aJ ?_
 intro w hw
 exact⟨(A5,c5),trivial,rfl,hw.msub ms⟩
end
end
