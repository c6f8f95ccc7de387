/- Texts of one proof, one behind the other: lemmas alone. -/
import Derived.Test.YthfkmcbblnbfaaaGreatDoorM0U
import Derived.Test.YthfkmcbblnbfaaaGreatDoorM28U
import Derived.Test.YthfkmcbblnbfaaaGreatDoorM17U
import Derived.Test.YthfkmcbblnbfaaaGreatDoorM18U
import Derived.Test.YthfkmcbblnbfaaaGreatDoorM32U
import Derived.Test.YthfkmcbblnbfaaaGreatDoorM29U
import Derived.Test.YthfkmcbblnbfaaaGreatDoorM27U
import Derived.Test.YthfkmcbblnbfaaaGreatDoorM13U
import Derived.Test.YthfkmcbblnbfaaaGreatDoorM25U

namespace Go.Proofs.YthfkmcbblnbfaaaGreatDoor
set_option maxRecDepth 100000
set_option maxHeartbeats 16000000
open Go.RowKit
section
theorem gQ:(Tryz.prog.info? 159).map (fun i=>(i.zero,i.size,i.bytes))=some (some (.agg #[.bool false,.int .i64 0]),2,16):=by kernel_rfl
theorem ur:(Tryz.prog.info? 118).map (fun i=>(i.zero,i.size,i.bytes))=some (some (.agg #[.int .i64 0,.int .i64 0,.slice none 0 0,.slice none 0 0]),4,64):=by kernel_rfl
theorem qf (A:Option Addr) (c:Nat) (l:List aQ) (w:World) (hs:Sl w (.slice A l.length c) l) (hl:l.length*16<=140737488355328) :
  Calls Tryz.prog 210 #[.slice A l.length c] w fun e w'=> ∃u,e= .returned u/\Below w.heap.size w w'/\dx w' w.heap.size u l:=by
 refine enter Tryz.func210 rfl Tryz.ntmps210 rfl<|aa ?_
 refine sE (s8 bu rfl rfl)<|aa ?_
 refine aO rfl (fun h=>?_) (fun h=>?_)
 ·have h0:l= []:=by
   rcases eH l.length with h0 | h0
   ·exact aN h0
   obtain⟨b,o,e⟩:=hs.addr h0
   subst e
   cases h
  subst h0
  refine aa ?_
  intro w hw
  exact⟨_,rfl,hZ hw⟩
 refine aa ?_
 refine fun g1 _=>aa ?_
 refine lp (fun w h=>bW (α:=aQ) (m:=0) [] rfl (by simp) rfl (by decide) h) ?_
 refine oE (gE (α:=aQ) (bytes:=16) (xs:= []) (ys:=l) rfl bu (bP gQ) rfl fc (.ro hs) (by simp only[aH];omega) (by simp only[aH];omega) rfl rfl rfl) (fun⟨A5,c5⟩ _=>?_)
 refine a7 ?_
 intro w hw
 exact⟨_,rfl,jD hw⟩
def eP (l:List Int):List aQ:=l.map fun t=>⟨decide (t=2),0⟩
theorem pS (l:List Int):(eP l).length=l.length:=by simp[eP]
theorem uP {l:List Int} {k:Nat} (hk:k<l.length):eP (l.take (k+1))=eP (l.take k)++ [⟨decide (l.getD k 0=2),0⟩]:=by
 rw[eI l k 0 hk]
 simp[eP]
theorem yM (p r:Int) (A1 A2:Option Addr) (c1 c2 n2:Nat) (l:List Int) (w:World) (hs:Sl w (.slice A1 l.length c1) l) (hb:l.length*16<=140737488355328) :
  Calls Tryz.prog 130 #[.agg #[.int .i64 p,.slice A1 l.length c1,.int .i64 r,.slice A2 n2 c2]] w fun e w'=> ∃u,e= .returned u/\Below w.heap.size w w'/\dx w' w.heap.size u (eP l):=by
 refine enter Tryz.func130 rfl Tryz.ntmps130 rfl<|aa ?_
 refine fun g1 _=>aa ?_
 refine dg (fun w h=>Cw.nilO aQ h) ?_
 refine cN (fun g:Nat×Option Addr×Nat=>g.1<=l.length) (fun g=>l.length - g.1) (fun g=> [(3,.slice g.2.1 (eP (l.take g.1)).length g.2.2),(7,.slice A1 l.length c1),(8,.int .i64 (l.length:Int)),(9,.int .i64 (g.1:Int))]) (fun g=> [aj (.slice g.2.1 (eP (l.take g.1)).length g.2.2) (eP (l.take g.1))]) (0,none,0) (aC _) ?_
 rintro⟨k,A,c⟩ hk
 try dsimp only
 have hk:k<=l.length:=hk
 have htl:(eP (l.take k)).length=k:=by rw[pS,an];omega
 refine ak (fun hlt=>?_) (fun hlt=>?_)
 ·have hkl:k<l.length:=by omega
  refine aa ?_
  refine cQ (_) rfl ((.ro hs)) ?_
  refine jG rfl ((.ro hs))<|aa ?_
  intro g2 _
  refine oE (cZ (α:=aQ) (bytes:=16) ⟨decide (l.getD k 0=2),0⟩ [] (uP hkl) bu (bP gQ) rfl (eM fc fc) (du (by show aI 0;decide)) (by omega) (by omega) rfl rfl rfl) (fun⟨A3,c3⟩ _=>?_)
  refine a7 ?_
  refine bN (k+1,A3,c3) (by show k+1<=_;omega) (by show _ - _<_ - _;omega)
 obtain rfl:k=l.length:=by omega
 rw[bh]
 refine aa ?_
 intro w hw
 exact⟨_,rfl,jD hw⟩
def jw (l:List aP):Prop:=l.length*64<=140737488355328/\∀x∈l,x.locals.length*16<=140737488351232/\x.stack.length*16<=140737488351232
structure FH (m:av):Prop where
 f:jw m.frames
 b:qm m.blocks
 i:m.inn.length<=1000000
 o:m.out.length<=1000000
theorem eW {l:List aP} {k:Nat} (hk:k<l.length):aD l k∈l:=by
 unfold aD
 rw[ac,ae hk]
 exact cL hk
theorem vp {l:List aP} {k:Nat} (hk:k<l.length):l.take (k+1)=l.take k++ [aD l k]:=eI l k default hk
theorem yI {v1 v2:Value} {x:aP} (hi:aI x.func/\aI x.pc):∀(w:World) (F:Nat->Prop),Hs w [aj v1 x.locals,aj v2 x.stack] F->Ow.own w F [.int .i64 x.func,.int .i64 x.pc,v1,v2] x:=fun _ _ h=>⟨v1,v2,rfl,hi,h⟩
theorem AD (a:MA) (m:av) (w:World) (hm:fd w.heap.size w a m) (hfit:FH m) :
  Calls Tryz.prog 153 #[.agg #[.slice a.Af m.frames.length a.cf,.slice a.Ab m.blocks.length a.cb,.slice a.Ai m.inn.length a.ci,.slice a.Ao m.out.length a.co,.int .i64 m.status,.int .i64 m.trap]] w fun e w'=> ∃g:MA,True/\
   e= .returned (.agg #[.slice g.Af m.frames.length g.cf,.slice g.Ab m.blocks.length g.cb,.slice g.Ai m.inn.length g.ci,.slice g.Ao m.out.length g.co,.int .i64 m.status,.int .i64 m.trap])/\
   Cw w.heap.size w [aj (.slice g.Af m.frames.length g.cf) m.frames,aj (.slice g.Ab m.blocks.length g.cb) m.blocks,aj (.slice g.Ai m.inn.length g.ci) m.inn,aj (.slice g.Ao m.out.length g.co) m.out] w':=by
 have b1:=be hm.f
 have hf64:=hfit.f.1
 refine enter Tryz.func153 rfl Tryz.ntmps153 rfl<|aa ?_
 refine fun g1 _=>aa ?_
 intro g2 _
 refine bV<|dw (fun _:Nat×(Option Addr×Nat)×(Option Addr×Nat)×(Option Addr×Nat)=>True) (fun g=> [(1,.pointer (some ⟨g1,0,none⟩)),(2,.pointer (some ⟨g2,0,none⟩)),(3,.pointer (some ⟨g.1,0,none⟩))]) (fun g=> [af g1 [.slice a.Af m.frames.length a.cf,.slice a.Ab m.blocks.length a.cb,.slice a.Ai m.inn.length a.ci,.slice a.Ao m.out.length a.co,.int .i64 m.status,.int .i64 m.trap] 43,af g2 [.slice none 0 0,.slice none 0 0,.slice none 0 0,.slice none 0 0,.int .i64 0,.int .i64 0] 43,af g.1 [.slice none 0 0,.slice g.2.1.1 m.blocks.length g.2.1.2,.slice g.2.2.1.1 m.inn.length g.2.2.1.2,.slice g.2.2.2.1 m.out.length g.2.2.2.2,.int .i64 m.status,.int .i64 m.trap] 43,aj (.slice g.2.1.1 m.blocks.length g.2.1.2) m.blocks,aj (.slice g.2.2.1.1 m.inn.length g.2.2.1.2) m.inn,aj (.slice g.2.2.2.1 m.out.length g.2.2.2.2) m.out]) ?_ ?_
 ·refine ot (.still 0 (.still 1 (.still 3 (.still 4 (.still 6 (.still 7 (.still 9 (.still 10 (.still 11 (.still 12 (.pick 2 (.pick 5 (.pick 8 (.still 13 (.pick 14 (.pick 15 .done .stop) .stop)) (.pick 14 (.pick 8 (.still 13 (.pick 15 .done .stop)) .stop) .stop)) (.pick 14 (.pick 5 (.pick 8 (.still 13 (.pick 15 .done .stop)) .stop) .stop) .stop)) (.pick 14 (.pick 2 (.pick 5 (.pick 8 (.still 13 (.pick 15 .done .stop)) .stop) .stop) .stop) .stop)))))))))))) [15] rfl (by kernel_rfl) (by kernel_rfl) ?_
  refine aa ?_
  refine ix rfl (eO rfl rfl rfl Tryz.call209 (fun w hw=>vP _ m.blocks w (hw.ro hm.b) hfit.b)) rfl rfl (.inr fun _=>ha) (fun⟨A1,c1⟩ _=>?_) ?_
  ·try dsimp only
   refine ix rfl (eO rfl rfl rfl ik (fun w hw=>fG _ m.inn w (hw.ro hm.i) hfit.i)) rfl rfl (.inr fun _=>ha) (fun⟨A2,c2⟩ _=>?_) ?_
   ·try dsimp only
    refine ix rfl (eO rfl rfl rfl ik (fun w hw=>fG _ m.out w (hw.ro hm.o) hfit.o)) rfl rfl (.inr fun _=>ha) (fun⟨A3,c3⟩ _=>?_) ?_
    ·refine a7 ?_
     refine fun gx _=>aa ?_
     refine eS<|cG (gx,(A1,c1),(A2,c2),(A3,c3)) (trivial) (hh:=(fun _ h=>h.msub ms))
    refine aa ?_
    intro gx _
    refine pE rfl (eO rfl rfl rfl ik (fun w hw=>fG _ m.out w (hw.ro hm.o) hfit.o)) (fun⟨A3,c3⟩ _=>?_)
    refine a7 ?_
    refine eS<|cG (gx,(A1,c1),(A2,c2),(A3,c3)) (trivial) (hh:=(fun _ h=>h.msub ms))
   refine aa ?_
   intro gx _
   refine pE rfl (eO rfl rfl rfl ik (fun w hw=>fG _ m.inn w (hw.ro hm.i) hfit.i)) (fun⟨A2,c2⟩ _=>?_)
   try dsimp only
   refine pE rfl (eO rfl rfl rfl ik (fun w hw=>fG _ m.out w (hw.ro hm.o) hfit.o)) (fun⟨A3,c3⟩ _=>?_)
   refine a7 ?_
   refine eS<|cG (gx,(A1,c1),(A2,c2),(A3,c3)) (trivial) (hh:=(fun _ h=>h.msub ms))
  refine aa ?_
  intro gx _
  refine pE rfl (eO rfl rfl rfl Tryz.call209 (fun w hw=>vP _ m.blocks w (hw.ro hm.b) hfit.b)) (fun⟨A1,c1⟩ _=>?_)
  try dsimp only
  refine pE rfl (eO rfl rfl rfl ik (fun w hw=>fG _ m.inn w (hw.ro hm.i) hfit.i)) (fun⟨A2,c2⟩ _=>?_)
  try dsimp only
  refine pE rfl (eO rfl rfl rfl ik (fun w hw=>fG _ m.out w (hw.ro hm.o) hfit.o)) (fun⟨A3,c3⟩ _=>?_)
  refine a7 ?_
  refine eS<|cG (gx,(A1,c1),(A2,c2),(A3,c3)) (trivial) (hh:=(fun _ h=>h.msub ms))
 rintro⟨gx,⟨Ab,cb⟩,⟨Ai,ci⟩,⟨Ao,co⟩⟩ _
 try dsimp only
 refine dg (fun w h=>Cw.nilO aP h)<|aa ?_
 refine cN (fun g:Nat×Option Addr×Nat=>g.1<=m.frames.length) (fun g=>m.frames.length - g.1) (fun g=> [(2,.pointer (some ⟨g2,0,none⟩)),(3,.pointer (some ⟨gx,0,none⟩)),(21,.slice a.Af m.frames.length a.cf),(22,.int .i64 (m.frames.length:Int)),(23,.int .i64 (g.1:Int))]) (fun g=> [aj (.slice g.2.1 (m.frames.take g.1).length g.2.2) (m.frames.take g.1),af g1 [.slice a.Af m.frames.length a.cf,.slice a.Ab m.blocks.length a.cb,.slice a.Ai m.inn.length a.ci,.slice a.Ao m.out.length a.co,.int .i64 m.status,.int .i64 m.trap] 43,af g2 [.slice none 0 0,.slice none 0 0,.slice none 0 0,.slice none 0 0,.int .i64 0,.int .i64 0] 43,aj (.slice Ab m.blocks.length cb) m.blocks,aj (.slice Ai m.inn.length ci) m.inn,aj (.slice Ao m.out.length co) m.out,af gx [.slice g.2.1 (m.frames.take g.1).length g.2.2,.slice Ab m.blocks.length cb,.slice Ai m.inn.length ci,.slice Ao m.out.length co,.int .i64 m.status,.int .i64 m.trap] 43]) (0,none,0) (aC _) ?_
 rintro⟨k,A',c'⟩ hk
 try dsimp only
 have hk:k<=m.frames.length:=hk
 have htl:(m.frames.take k).length=k:=by rw[an];omega
 refine ak (fun hlt=>?_) (fun hlt=>?_)
 ·have hkl:k<m.frames.length:=by omega
  obtain⟨A1,c1,A2,c2,hl,hst,hi,hcell⟩:=hm.f.fr hkl
  obtain⟨hb1,hb2⟩:=hfit.f.2 (aD m.frames k) (eW hkl)
  have htk:=vp hkl
  refine fU (eR ?_)
  refine dw (fun _:Option Addr×Nat=>True) (fun g=> [(2,.pointer (some ⟨g2,0,none⟩)),(3,.pointer (some ⟨gx,0,none⟩)),(21,.slice a.Af m.frames.length a.cf),(22,.int .i64 (m.frames.length:Int)),(23,.int .i64 (k:Int))]) (fun g=> [aj (.slice g.1 (m.frames.take (k+1)).length g.2) (m.frames.take (k+1)),af g1 [.slice a.Af m.frames.length a.cf,.slice a.Ab m.blocks.length a.cb,.slice a.Ai m.inn.length a.ci,.slice a.Ao m.out.length a.co,.int .i64 m.status,.int .i64 m.trap] 43,af g2 [.slice none 0 0,.slice none 0 0,.slice none 0 0,.slice none 0 0,.int .i64 0,.int .i64 0] 43,aj (.slice Ab m.blocks.length cb) m.blocks,aj (.slice Ai m.inn.length ci) m.inn,aj (.slice Ao m.out.length co) m.out,af gx [.slice g.1 (m.frames.take (k+1)).length g.2,.slice Ab m.blocks.length cb,.slice Ai m.inn.length ci,.slice Ao m.out.length co,.int .i64 m.status,.int .i64 m.trap] 43]) ?_ ?_
  ·refine aa ?_
   refine cQ (_) rfl ((.ro hm.f)) ?_
   refine iW rfl (hcell _)<|aa ?_
   intro g3 _
   refine gu (iy _ fc fh rfl rfl rfl rfl rfl (by rfl) rfl (by rfl)) rfl rfl (fun _ _=>?_)
   refine bV<|bF [0,3,6,9,12,15,18,21,27,30,26,35,36,41,44,46,50] [14,15,16] rfl<|aa ?_
   refine pE rfl (eO rfl rfl rfl Tryz.call210 (fun w hw=>qf _ _ (aD m.frames k).locals w (hw.ro hl) (by omega))) (fun⟨A3,c3⟩ _=>?_)
   try dsimp only
   refine pE rfl (eO rfl rfl rfl Tryz.call210 (fun w hw=>qf _ _ (aD m.frames k).stack w (hw.ro hst) (by omega))) (fun⟨A4,c4⟩ _=>?_)
   refine a7 ?_
   intro g4 _
   refine pE rfl (cZ (α:=aP) (bytes:=64) (aD m.frames k) [aj (.slice A3 (aD m.frames k).locals.length c3) (aD m.frames k).locals,aj (.slice A4 (aD m.frames k).stack.length c4) (aD m.frames k).stack] htk ef (bP ur) rfl (BH fc fc fc fc) (yI hi) (by omega) (by omega) rfl rfl rfl) (fun⟨A5,c5⟩ _=>?_)
   refine a7 ?_
   refine cG (A5,c5) (trivial) (hh:=(fun _ h=>h.msub ms))
  rintro⟨A5,c5⟩ _
  refine a7 ?_
  refine bN (k+1,A5,c5) (by show k+1<=_;omega) (by show _ - _<_ - _;omega)
 obtain rfl:k=m.frames.length:=by omega
 rw[bh]
 refine aa ?_
 intro w hw
 exact⟨⟨A',c',Ab,cb,Ai,ci,Ao,co⟩,trivial,rfl,hw.msub ms⟩
end
section
theorem rt {α:Type} (xs:List α) (y d:α) {k:Nat} (hk:xs.length=k):(xs++ [y]).getD k d=y:=by
 subst hk
 rw[ac,bB (ay _),pj]
 rfl
theorem zT {α:Type} (xs:List α) (y y':α) {k:Nat} (hk:xs.length=k):(xs++ [y]).set k y'=xs++ [y']:=by
 subst hk
 rw[List.set_append_right _ _ (ay _),pj]
 rfl
theorem xH {α:Type} (xs:List α) (y:α) {k:Nat} (hk:xs.length=k):(xs++ [y]).take k=xs:=by
 subst hk
 exact List.take_left' rfl
section
variable {P:Program} {n:NF} {B:Nat} {w0:World} {env:aZ} {H H':List ar} {o:Oper}
theorem kH {α:Type} [bA α] {xs:List α} {y:α} {A:Option Addr} {k c:Nat} (hk:xs.length=k) (hp:bY H (aj (.slice A (k+1) c) (xs++ [y])) H') {j:Nat} {v:Value} (hj:(bA.enc y)[j]? =some v) :
  ∀w,Cw B w0 H w->w.cell? ⟨ab A,ao A+k*am.k α+j,none⟩=some v:=fun w hw=>by
 refine SF.cell (SF.own (by rw[ag,hk];rfl) hp) (Nat.lt_succ_self k) y ?_ w hw
 rw[rt xs y y hk]
 exact hj
theorem Ed {α:Type} [bA α] {v:Value} {xs:List α} {w:World} (hw:Cw B w0 H w) (hp:bY H (aj v xs) H') {x:α} (hx:x∈xs):bA.wf x:=by
 obtain⟨F,h,_⟩:=hw.rd hp
 rcases(show bS w F v xs from h) with ⟨_,rfl,_⟩ | ⟨g,p,cap,cur,Fs,ho⟩
 ·cases hx
 obtain⟨i,hi,rfl⟩:=bD hx
 exact(bA.own_iff.1 (ho.el i _ (ae hi))).1.2
theorem vW {α:Type} [bA α] {v:Value} {xs:List α} {y:α} {w:World} (hw:Cw B w0 H w) (hp:bY H (aj v (xs++ [y])) H'):bA.wf y:=Ed hw hp (jW _ (dd.2 rfl))
theorem yp {α:Type} [bA α] {i j:Operand} {t:TypeId} {A:Option Addr} {c k f sz:Nat} {v:Value} {us:List Value} {xs:List α} (y y':α) (hk:xs.length=k) (hp:bY H (aj (.slice A (k+1) c) (xs++ [y])) H') (hwf:bA.wf y') (hz:∀w,(sizeOf t).run P w= .ok sz w)
  (hop:o.op= .store t i j) (hi:opv env i=some (.pointer (some ⟨ab A,ao A+k*am.k α+f,none⟩))) (hj:opv env j=some v) (hv:v.cells=us.toArray) (hkk:Nat.beq us.length sz=true) (h1:us.all Value.oneCell'=true)
  (hx:il (bA.enc y) f us=bA.enc y') (hle:Nat.ble (f+us.length) (am.k α)=true):OT P n B w0 o env H (γ:=Unit) (fun _=>True) (fun _=>undef) (fun _=>aj (.slice A (k+1) c) (xs++ [y'])::H'):=
 tm y' y (zT xs y y' hk).symm hp (Nat.lt_succ_self k) hwf hz hop hi hj hv hkk h1 (by rw[rt xs y y hk];exact hx) hle
theorem zM {α:Type} [Ow α] {A:Option Addr} {k c:Nat} {xs:List α} {y:α} (hk:xs.length=k) {w:World} (h:Cw B w0 (aj (.slice A (k+1) c) (xs++ [y])::H) w):Cw B w0 (aj (.slice A k c) xs::H) w:=by
 have:=n4 (k:=k) (Nat.le_succ k) h
 rwa [xH xs y hk] at this
theorem tW (gd k c:Nat) (A:Option Addr) (hs:List bx) (w:World) (hc:w.cell? ⟨gd,0,none⟩=some (.slice A (k+1) c)) (hlt:gd<w.heap.size) (hsl:Sl w (.slice A (k+1) c) hs) :
  Calls Tryz.prog 216 #[.pointer (some ⟨gd,0,none⟩)] w fun e w'=>e= .returned (.pointer (some ⟨ab A,ao A+k*4,none⟩))/\Below w.heap.size w w':=by
 have hb:=be hsl
 refine enter Tryz.func216 rfl Tryz.ntmps216 rfl<|aa ?_
 refine bF [0,3,6,9,12,15,18,21,24,27,30,33,36,39] [] rfl<|aa ?_
 refine tE rfl (bT (fun w' hw=>(hw.below.cell hlt).trans hc) rfl rfl Tryz.isAgg40)<|aa ?_
 refine tE rfl (bT (fun w' hw=>(hw.below.cell hlt).trans hc) rfl rfl Tryz.isAgg40)<|aa ?_
 refine fN (t:=14) (v':= .int .i64 (k:Int)) rfl (by congr 1;omega) ?_
 refine tE rfl (bt (k:=k) ef fh (.ro hsl) (by omega) rfl rfl rfl)<|aa ?_
 intro w hw
 exact⟨rfl,hw.below⟩
end
section
variable {B:Nat} {w0:World} {H:List ar}
theorem tX (gd k:Nat) (hl:List bx) (hk:hl.length=k) (A As:Option Addr) (c cs:Nat) (r:List Value) (f p:Int) (lv:Value) (s:List aQ) (v:aQ) (w:World)
  (hw:Cw B w0 (af gd (.slice A (k+1) c::r) 212::aj (.slice A (k+1) c) (hl++ [(⟨f,p,lv,.slice As (s.length+1) cs⟩:bx)])::aj (.slice As (s.length+1) cs) (s++ [v])::H) w) :
  Calls Tryz.prog 254 #[.pointer (some ⟨gd,0,none⟩)] w fun e w'=> ∃_:Unit,True/\e= .returned (.agg #[.bool v.ref,.int .i64 v.n])/\
   Cw B w0 (af gd (.slice A (k+1) c::r) 212::aj (.slice A (k+1) c) (hl++ [(⟨f,p,lv,.slice As s.length cs⟩:bx)])::aj (.slice As s.length cs) s::H) w':=by
 have hlk:∀h:bx,(hl++ [h]).length=k+1:=fun h=>by rw[ag,hk];rfl
 have hwf:bx.wf _:=vW hw .b
 have hsl:(s++ [v]).length=s.length+1:=by simp
 have hb:s.length+1<=140737488355328:=be (SF.at_ (SF.own hsl .c) hw)
 refine bX Tryz.func254 rfl Tryz.ntmps254 rfl hw<|aa ?_
 refine fun g1 _=>aa ?_
 refine bw rfl Tryz.call216 (fun w hw=>tW gd k c A (hl++ [(⟨f,p,lv,.slice As (s.length+1) cs⟩:bx)]) w (eX fc rfl w hw) (kM hw fc) (SF.at_ (SF.own (hlk _) fc) hw))<|aa ?_
 refine dQ rfl (kH (j:=3) hk fc rfl)<|aa ?_
 refine dQ rfl (kH (j:=3) hk fc rfl)<|aa ?_
 refine bq (t:=18) (v':= .int .i64 (s.length:Int)) rfl (by congr 1;omega) ?_
 refine sE (bt (k:=s.length) bu dN (SF.own (xs:=s++ [v]) hsl fc) (by omega) rfl rfl rfl) ?_
 refine sE (gV (cs:= [.bool v.ref,.int .i64 v.n]) (fun w hw j u hj=>kH (α:=aQ) rfl fc hj w hw) rfl rfl GZ dN)<|aa ?_
 refine fun g2 _=>aa ?_
 refine dQ rfl (kH (j:=3) hk fc rfl)<|aa ?_
 refine bq (t:=26) (v':= .int .i64 (s.length:Int)) rfl (by congr 1;omega) ?_
 refine lh (fun w h=>qB h (xs:=s++ [v]) fc) fun hcap=>?_
 refine sE (kZ (k:=s.length) bu dN (by omega) rfl rfl rfl) ?_
 refine aw ?_
 refine aw ?_
 refine oE (yp (α:=bx) ⟨f,p,lv,.slice As (s.length+1) cs⟩ ⟨f,p,lv,.slice As s.length cs⟩ hk fc ⟨hwf.1,hwf.2.1,rfl⟩ jz rfl rfl rfl rfl rfl rfl rfl rfl) (fun _ _=>aa ?_)
 intro w hw
 exact⟨(),trivial,rfl,(zM rfl (hw.msub (T:=aj (.slice As (s.length+1) cs) (s++ [v])::af gd _ _::aj (.slice A (k+1) c) _::H) ms)).msub ms⟩
theorem yZ (gd k:Nat) (hl:List bx) (hk:hl.length=k) (A As Av:Option Addr) (c cs cv:Nat) (r:List Value) (f p:Int) (lv:Value) (s ys:List aQ) (w:World) (hs:SF B w0 H Av ys.length cv ys) (hb:s.length+ys.length<=1000000)
  (hw:Cw B w0 (af gd (.slice A (k+1) c::r) 212::aj (.slice A (k+1) c) (hl++ [(⟨f,p,lv,.slice As s.length cs⟩:bx)])::aj (.slice As s.length cs) s::H) w) :
  Calls Tryz.prog 255 #[.pointer (some ⟨gd,0,none⟩),.slice Av ys.length cv] w fun e w'=> ∃g:Option Addr×Nat,True/\e= .returned (.tuple #[])/\
   Cw B w0 (af gd (.slice A (k+1) c::r) 212::aj (.slice A (k+1) c) (hl++ [(⟨f,p,lv,.slice g.1 (s++ys).length g.2⟩:bx)])::aj (.slice g.1 (s++ys).length g.2) (s++ys)::H) w':=by
 have hlk:∀h:bx,(hl++ [h]).length=k+1:=fun h=>by rw[ag,hk];rfl
 have hwf:bx.wf _:=vW hw .b
 refine bX Tryz.func255 rfl Tryz.ntmps255 rfl hw<|aa ?_
 refine bw rfl Tryz.call216 (fun w hw=>tW gd k c A (hl++ [(⟨f,p,lv,.slice As s.length cs⟩:bx)]) w (eX fc rfl w hw) (kM hw fc) (SF.at_ (SF.own (hlk _) fc) hw))<|aa ?_
 refine dQ rfl (kH (j:=3) hk fc rfl)<|aa ?_
 refine oE (gE (α:=aQ) (bytes:=16) (xs:=s) (ys:=ys) rfl bu (bP gQ) rfl (bY.c) (.s (.s (.s hs))) (by omega) (by omega) rfl rfl rfl) (fun⟨A5,c5⟩ _=>?_)
 try dsimp only
 refine aw ?_
 refine aw ?_
 refine oE (yp (α:=bx) ⟨f,p,lv,.slice As s.length cs⟩ ⟨f,p,lv,.slice A5 (s++ys).length c5⟩ hk fc ⟨hwf.1,hwf.2.1,rfl⟩ jz rfl rfl rfl rfl rfl rfl rfl rfl) (fun _ _=>aa ?_)
 intro w hw
 exact⟨(A5,c5),trivial,rfl,hw.msub ms⟩
def iz (z:Int):aQ:=⟨false,gt z⟩
theorem uV (gd k:Nat) (hl:List bx) (hk:hl.length=k) (A As:Option Addr) (c cs:Nat) (r:List Value) (f p:Int) (lv:Value) (s:List aQ) (z:Int) (w:World) (hb:s.length<=1000)
  (hw:Cw B w0 (af gd (.slice A (k+1) c::r) 212::aj (.slice A (k+1) c) (hl++ [(⟨f,p,lv,.slice As s.length cs⟩:bx)])::aj (.slice As s.length cs) s::H) w) :
  Calls Tryz.prog 253 #[.pointer (some ⟨gd,0,none⟩),.int .i64 z] w fun e w'=> ∃g:Option Addr×Nat,True/\e= .returned (.tuple #[])/\
   Cw B w0 (af gd (.slice A (k+1) c::r) 212::aj (.slice A (k+1) c) (hl++ [(⟨f,p,lv,.slice g.1 (s++ [iz z]).length g.2⟩:bx)])::aj (.slice g.1 (s++ [iz z]).length g.2) (s++ [iz z])::H) w':=by
 refine bX Tryz.func253 rfl Tryz.ntmps253 rfl hw ?_
 have hlk:∀h:bx,(hl++ [h]).length=k+1:=fun h=>by rw[ag,hk];rfl
 refine aa ?_
 refine bw rfl Tryz.call94 ((fun w hw=>cW ((fun w hw=>zD z w) w hw)))<|aa ?_
 intro g1 _
 refine lp (fun w h=>bW (α:=aQ) (m:=1) [iz z] rfl (by simp[iz,bA.wf];exact qT z) rfl (by decide) h) ?_
 refine ei rfl Tryz.call255 (fun w hw=>yZ gd k hl hk A As _ c cs 1 r f p lv s [iz z] w (SF.own rfl .a) (by simp only[br];omega) (hw.msub (.s fc (.s fc (.s fc .r))))) (fun⟨A5,c5⟩ _=>?_)
 refine a7 ?_
 intro w hw
 exact⟨(A5,c5),trivial,rfl,hw.msub ms⟩
end
end
end Go.Proofs.YthfkmcbblnbfaaaGreatDoor
