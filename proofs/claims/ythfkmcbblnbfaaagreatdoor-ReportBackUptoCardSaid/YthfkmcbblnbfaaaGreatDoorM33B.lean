/- Texts of one proof, one behind the other: lemmas alone. -/
import Derived.Test.YthfkmcbblnbfaaaGreatDoorM0B
import Derived.Deep.QuietTactic
import Derived.BigQuiet
import Derived.Test.YthfkmcbblnbfaaaGreatDoorM28B
import Derived.Test.YthfkmcbblnbfaaaGreatDoorM32B
import Derived.Test.YthfkmcbblnbfaaaGreatDoorM29B
import Derived.Test.YthfkmcbblnbfaaaGreatDoorM19B
import Derived.Test.YthfkmcbblnbfaaaGreatDoorM27B
import Derived.Test.YthfkmcbblnbfaaaGreatDoorM14B
import Derived.Test.YthfkmcbblnbfaaaGreatDoorM17B
import Derived.Test.YthfkmcbblnbfaaaGreatDoorM25B

namespace Go.Proofs.YthfkmcbblnbfaaaGreatDoor
set_option maxRecDepth 100000
set_option maxHeartbeats 16000000
open Go.RowKit
section
theorem ik:(Tryz.prog.info? 159).map (fun i=>(i.zero,i.size,i.bytes))=some (some (.agg #[.bool false,.int .i64 0]),2,16):=by kernel_rfl
theorem np:(Tryz.prog.info? 118).map (fun i=>(i.zero,i.size,i.bytes))=some (some (.agg #[.int .i64 0,.int .i64 0,.slice none 0 0,.slice none 0 0]),4,64):=by kernel_rfl
theorem pS (A:Option Addr) (c:Nat) (l:List ax) (w:World) (hs:Sl w (.slice A l.length c) l) (hl:l.length*16<=140737488355328) :
  Calls Tryz.prog 210 #[.slice A l.length c] w fun e w'=> ∃u,e= .returned u/\Below w.heap.size w w'/\cM w' w.heap.size u l:=by
 refine enter Tryz.func210 rfl Tryz.ntmps210 rfl<|aa ?_
 refine sE (sK bK rfl rfl)<|aa ?_
 refine bw rfl (fun h=>?_) (fun h=>?_)
 ·have h0:l= []:=by
   rcases dP l.length with h0 | h0
   ·exact aE h0
   obtain⟨b,o,e⟩:=hs.addr h0
   subst e
   cases h
  subst h0
  refine aa ?_
  intro w hw
  exact⟨_,rfl,i7 hw⟩
 refine aa ?_
 refine fun g1 _=>aa ?_
 refine gE (fun w h=>bj (α:=ax) (m:=0) [] rfl (by simp) rfl (by decide) h) ?_
 refine oE (fV (α:=ax) (bytes:=16) (xs:= []) (ys:=l) rfl bK (bQ ik) rfl fc (.ro hs) (by simp only[aK];omega) (by simp only[aK];omega) rfl rfl rfl) (fun⟨A5,c5⟩ _=>?_)
 refine aT ?_
 intro w hw
 exact⟨_,rfl,ku hw⟩
def df (l:List Int):List ax:=l.map fun t=>⟨decide (t=2),0⟩
theorem mj (l:List Int):(df l).length=l.length:=by simp[df]
theorem uC {l:List Int} {k:Nat} (hk:k<l.length):df (l.take (k+1))=df (l.take k)++ [⟨decide (l.getD k 0=2),0⟩]:=by
 rw[dT l k 0 hk]
 simp[df]
theorem q8 (p r:Int) (A1 A2:Option Addr) (c1 c2 n2:Nat) (l:List Int) (w:World) (hs:Sl w (.slice A1 l.length c1) l) (hb:l.length*16<=140737488355328) :
  Calls Tryz.prog 130 #[.agg #[.int .i64 p,.slice A1 l.length c1,.int .i64 r,.slice A2 n2 c2]] w fun e w'=> ∃u,e= .returned u/\Below w.heap.size w w'/\cM w' w.heap.size u (df l):=by
 refine enter Tryz.func130 rfl Tryz.ntmps130 rfl<|aa ?_
 refine fun g1 _=>aa ?_
 refine dc (fun w h=>Cw.nilO ax h) ?_
 refine dH (fun g:Nat×Option Addr×Nat=>g.1<=l.length) (fun g=>l.length - g.1) (fun g=> [(3,.slice g.2.1 (df (l.take g.1)).length g.2.2),(7,.slice A1 l.length c1),(8,.int .i64 (l.length:Int)),(9,.int .i64 (g.1:Int))]) (fun g=> [af (.slice g.2.1 (df (l.take g.1)).length g.2.2) (df (l.take g.1))]) (0,none,0) (br _) ?_
 rintro⟨k,A,c⟩ hk
 try dsimp only
 have hk:k<=l.length:=hk
 have htl:(df (l.take k)).length=k:=by rw[mj,am];omega
 refine an (fun hlt=>?_) (fun hlt=>?_)
 ·have hkl:k<l.length:=by omega
  refine aa ?_
  refine dA (_) rfl ((.ro hs)) ?_
  refine mE rfl ((.ro hs))<|aa ?_
  intro g2 _
  refine oE (dx (α:=ax) (bytes:=16) ⟨decide (l.getD k 0=2),0⟩ [] (uC hkl) bK (bQ ik) rfl (fQ fc fc) (ew (by show ay 0;decide)) (by omega) (by omega) rfl rfl rfl) (fun⟨A3,c3⟩ _=>?_)
  refine aT ?_
  refine dm (k+1,A3,c3) (by show k+1<=_;omega) (by show _ - _<_ - _;omega)
 obtain rfl:k=l.length:=by omega
 rw[bL]
 refine aa ?_
 intro w hw
 exact⟨_,rfl,ku hw⟩
def iS (l:List au):Prop:=l.length*64<=140737488355328/\∀x∈l,x.locals.length*16<=140737488351232/\x.stack.length*16<=140737488351232
structure BD (m:ar):Prop where
 f:iS m.frames
 b:ow m.blocks
 i:m.inn.length<=1000000
 o:m.out.length<=1000000
theorem fk {l:List au} {k:Nat} (hk:k<l.length):aG l k∈l:=by
 unfold aG
 rw[ac,ae hk]
 exact cc hk
theorem ve {l:List au} {k:Nat} (hk:k<l.length):l.take (k+1)=l.take k++ [aG l k]:=dT l k default hk
theorem yB {v1 v2:Value} {x:au} (hi:ay x.func/\ay x.pc):∀(w:World) (F:Nat->Prop),Hs w [af v1 x.locals,af v2 x.stack] F->Ow.own w F [.int .i64 x.func,.int .i64 x.pc,v1,v2] x:=fun _ _ h=>⟨v1,v2,rfl,hi,h⟩
theorem kD (a:MA) (m:ar) (w:World) (hm:d9 w.heap.size w a m) (hfit:BD m) :
  Calls Tryz.prog 153 #[.agg #[.slice a.Af m.frames.length a.cf,.slice a.Ab m.blocks.length a.cb,.slice a.Ai m.inn.length a.ci,.slice a.Ao m.out.length a.co,.int .i64 m.status,.int .i64 m.trap]] w fun e w'=> ∃g:MA,True/\
   e= .returned (.agg #[.slice g.Af m.frames.length g.cf,.slice g.Ab m.blocks.length g.cb,.slice g.Ai m.inn.length g.ci,.slice g.Ao m.out.length g.co,.int .i64 m.status,.int .i64 m.trap])/\
   Cw w.heap.size w [af (.slice g.Af m.frames.length g.cf) m.frames,af (.slice g.Ab m.blocks.length g.cb) m.blocks,af (.slice g.Ai m.inn.length g.ci) m.inn,af (.slice g.Ao m.out.length g.co) m.out] w':=by
 have b1:=bt hm.f
 have hf64:=hfit.f.1
 refine enter Tryz.func153 rfl Tryz.ntmps153 rfl<|aa ?_
 refine fun g1 _=>aa ?_
 intro g2 _
 refine bE<|dV (fun _:Nat×(Option Addr×Nat)×(Option Addr×Nat)×(Option Addr×Nat)=>True) (fun g=> [(1,.pointer (some ⟨g1,0,none⟩)),(2,.pointer (some ⟨g2,0,none⟩)),(3,.pointer (some ⟨g.1,0,none⟩))]) (fun g=> [ah g1 [.slice a.Af m.frames.length a.cf,.slice a.Ab m.blocks.length a.cb,.slice a.Ai m.inn.length a.ci,.slice a.Ao m.out.length a.co,.int .i64 m.status,.int .i64 m.trap] 43,ah g2 [.slice none 0 0,.slice none 0 0,.slice none 0 0,.slice none 0 0,.int .i64 0,.int .i64 0] 43,ah g.1 [.slice none 0 0,.slice g.2.1.1 m.blocks.length g.2.1.2,.slice g.2.2.1.1 m.inn.length g.2.2.1.2,.slice g.2.2.2.1 m.out.length g.2.2.2.2,.int .i64 m.status,.int .i64 m.trap] 43,af (.slice g.2.1.1 m.blocks.length g.2.1.2) m.blocks,af (.slice g.2.2.1.1 m.inn.length g.2.2.1.2) m.inn,af (.slice g.2.2.2.1 m.out.length g.2.2.2.2) m.out]) ?_ ?_
 ·refine jd (.still 0 (.still 1 (.still 3 (.still 4 (.still 6 (.still 7 (.still 9 (.still 10 (.still 11 (.still 12 (.pick 2 (.pick 5 (.pick 8 (.still 13 (.pick 14 (.pick 15 .done .stop) .stop)) (.pick 14 (.pick 8 (.still 13 (.pick 15 .done .stop)) .stop) .stop)) (.pick 14 (.pick 5 (.pick 8 (.still 13 (.pick 15 .done .stop)) .stop) .stop) .stop)) (.pick 14 (.pick 2 (.pick 5 (.pick 8 (.still 13 (.pick 15 .done .stop)) .stop) .stop) .stop) .stop)))))))))))) [15] rfl (by kernel_rfl) (by kernel_rfl) ?_
  refine aa ?_
  refine dG rfl (ee rfl rfl rfl Tryz.call209 (fun w hw=>qj _ m.blocks w (hw.ro hm.b) hfit.b)) rfl rfl (.inr fun _=>ha) (fun⟨A1,c1⟩ _=>?_) ?_
  ·try dsimp only
   refine dG rfl (ee rfl rfl rfl gK (fun w hw=>fi _ m.inn w (hw.ro hm.i) hfit.i)) rfl rfl (.inr fun _=>ha) (fun⟨A2,c2⟩ _=>?_) ?_
   ·try dsimp only
    refine dG rfl (ee rfl rfl rfl gK (fun w hw=>fi _ m.out w (hw.ro hm.o) hfit.o)) rfl rfl (.inr fun _=>ha) (fun⟨A3,c3⟩ _=>?_) ?_
    ·refine aT ?_
     refine fun gx _=>aa ?_
     refine cG<|dh (gx,(A1,c1),(A2,c2),(A3,c3)) (trivial) (hh:=(fun _ h=>h.msub ms))
    refine aa ?_
    intro gx _
    refine pE rfl (ee rfl rfl rfl gK (fun w hw=>fi _ m.out w (hw.ro hm.o) hfit.o)) (fun⟨A3,c3⟩ _=>?_)
    refine aT ?_
    refine cG<|dh (gx,(A1,c1),(A2,c2),(A3,c3)) (trivial) (hh:=(fun _ h=>h.msub ms))
   refine aa ?_
   intro gx _
   refine pE rfl (ee rfl rfl rfl gK (fun w hw=>fi _ m.inn w (hw.ro hm.i) hfit.i)) (fun⟨A2,c2⟩ _=>?_)
   try dsimp only
   refine pE rfl (ee rfl rfl rfl gK (fun w hw=>fi _ m.out w (hw.ro hm.o) hfit.o)) (fun⟨A3,c3⟩ _=>?_)
   refine aT ?_
   refine cG<|dh (gx,(A1,c1),(A2,c2),(A3,c3)) (trivial) (hh:=(fun _ h=>h.msub ms))
  refine aa ?_
  intro gx _
  refine pE rfl (ee rfl rfl rfl Tryz.call209 (fun w hw=>qj _ m.blocks w (hw.ro hm.b) hfit.b)) (fun⟨A1,c1⟩ _=>?_)
  try dsimp only
  refine pE rfl (ee rfl rfl rfl gK (fun w hw=>fi _ m.inn w (hw.ro hm.i) hfit.i)) (fun⟨A2,c2⟩ _=>?_)
  try dsimp only
  refine pE rfl (ee rfl rfl rfl gK (fun w hw=>fi _ m.out w (hw.ro hm.o) hfit.o)) (fun⟨A3,c3⟩ _=>?_)
  refine aT ?_
  refine cG<|dh (gx,(A1,c1),(A2,c2),(A3,c3)) (trivial) (hh:=(fun _ h=>h.msub ms))
 rintro⟨gx,⟨Ab,cb⟩,⟨Ai,ci⟩,⟨Ao,co⟩⟩ _
 try dsimp only
 refine dc (fun w h=>Cw.nilO au h)<|aa ?_
 refine dH (fun g:Nat×Option Addr×Nat=>g.1<=m.frames.length) (fun g=>m.frames.length - g.1) (fun g=> [(2,.pointer (some ⟨g2,0,none⟩)),(3,.pointer (some ⟨gx,0,none⟩)),(21,.slice a.Af m.frames.length a.cf),(22,.int .i64 (m.frames.length:Int)),(23,.int .i64 (g.1:Int))]) (fun g=> [af (.slice g.2.1 (m.frames.take g.1).length g.2.2) (m.frames.take g.1),ah g1 [.slice a.Af m.frames.length a.cf,.slice a.Ab m.blocks.length a.cb,.slice a.Ai m.inn.length a.ci,.slice a.Ao m.out.length a.co,.int .i64 m.status,.int .i64 m.trap] 43,ah g2 [.slice none 0 0,.slice none 0 0,.slice none 0 0,.slice none 0 0,.int .i64 0,.int .i64 0] 43,af (.slice Ab m.blocks.length cb) m.blocks,af (.slice Ai m.inn.length ci) m.inn,af (.slice Ao m.out.length co) m.out,ah gx [.slice g.2.1 (m.frames.take g.1).length g.2.2,.slice Ab m.blocks.length cb,.slice Ai m.inn.length ci,.slice Ao m.out.length co,.int .i64 m.status,.int .i64 m.trap] 43]) (0,none,0) (br _) ?_
 rintro⟨k,A',c'⟩ hk
 try dsimp only
 have hk:k<=m.frames.length:=hk
 have htl:(m.frames.take k).length=k:=by rw[am];omega
 refine an (fun hlt=>?_) (fun hlt=>?_)
 ·have hkl:k<m.frames.length:=by omega
  obtain⟨A1,c1,A2,c2,hl,hst,hi,hcell⟩:=hm.f.fr hkl
  obtain⟨hb1,hb2⟩:=hfit.f.2 (aG m.frames k) (fk hkl)
  have htk:=ve hkl
  refine jc (iV ?_)
  refine dV (fun _:Option Addr×Nat=>True) (fun g=> [(2,.pointer (some ⟨g2,0,none⟩)),(3,.pointer (some ⟨gx,0,none⟩)),(21,.slice a.Af m.frames.length a.cf),(22,.int .i64 (m.frames.length:Int)),(23,.int .i64 (k:Int))]) (fun g=> [af (.slice g.1 (m.frames.take (k+1)).length g.2) (m.frames.take (k+1)),ah g1 [.slice a.Af m.frames.length a.cf,.slice a.Ab m.blocks.length a.cb,.slice a.Ai m.inn.length a.ci,.slice a.Ao m.out.length a.co,.int .i64 m.status,.int .i64 m.trap] 43,ah g2 [.slice none 0 0,.slice none 0 0,.slice none 0 0,.slice none 0 0,.int .i64 0,.int .i64 0] 43,af (.slice Ab m.blocks.length cb) m.blocks,af (.slice Ai m.inn.length ci) m.inn,af (.slice Ao m.out.length co) m.out,ah gx [.slice g.1 (m.frames.take (k+1)).length g.2,.slice Ab m.blocks.length cb,.slice Ai m.inn.length ci,.slice Ao m.out.length co,.int .i64 m.status,.int .i64 m.trap] 43]) ?_ ?_
  ·refine aa ?_
   refine dA (_) rfl ((.ro hm.f)) ?_
   refine i8 rfl (hcell _)<|aa ?_
   intro g3 _
   refine ed (eo _ fc ek rfl rfl rfl rfl rfl (by rfl) rfl (by rfl)) rfl rfl (fun _ _=>?_)
   refine bE<|bM [0,3,6,9,12,15,18,21,27,30,26,35,36,41,44,46,50] [14,15,16] rfl<|aa ?_
   refine pE rfl (ee rfl rfl rfl Tryz.call210 (fun w hw=>pS _ _ (aG m.frames k).locals w (hw.ro hl) (by omega))) (fun⟨A3,c3⟩ _=>?_)
   try dsimp only
   refine pE rfl (ee rfl rfl rfl Tryz.call210 (fun w hw=>pS _ _ (aG m.frames k).stack w (hw.ro hst) (by omega))) (fun⟨A4,c4⟩ _=>?_)
   refine aT ?_
   intro g4 _
   refine pE rfl (dx (α:=au) (bytes:=64) (aG m.frames k) [af (.slice A3 (aG m.frames k).locals.length c3) (aG m.frames k).locals,af (.slice A4 (aG m.frames k).stack.length c4) (aG m.frames k).stack] htk cV (bQ np) rfl (wg fc fc fc fc) (yB hi) (by omega) (by omega) rfl rfl rfl) (fun⟨A5,c5⟩ _=>?_)
   refine aT ?_
   refine dh (A5,c5) (trivial) (hh:=(fun _ h=>h.msub ms))
  rintro⟨A5,c5⟩ _
  refine aT ?_
  refine dm (k+1,A5,c5) (by show k+1<=_;omega) (by show _ - _<_ - _;omega)
 obtain rfl:k=m.frames.length:=by omega
 rw[bL]
 refine aa ?_
 intro w hw
 exact⟨⟨A',c',Ab,cb,Ai,ci,Ao,co⟩,trivial,rfl,hw.msub ms⟩
end
section
theorem qY {α:Type} (xs:List α) (y d:α) {k:Nat} (hk:xs.length=k):(xs++ [y]).getD k d=y:=by
 subst hk
 rw[ac,bq (aD _),my]
 rfl
theorem zN {α:Type} (xs:List α) (y y':α) {k:Nat} (hk:xs.length=k):(xs++ [y]).set k y'=xs++ [y']:=by
 subst hk
 rw[List.set_append_right _ _ (aD _),my]
 rfl
theorem xq {α:Type} (xs:List α) (y:α) {k:Nat} (hk:xs.length=k):(xs++ [y]).take k=xs:=by
 subst hk
 exact List.take_left' rfl
section
variable {P:Program} {n:NF} {B:Nat} {w0:World} {env:be} {H H':List aq} {o:Oper}
theorem eJ {α:Type} [bd α] {xs:List α} {y:α} {A:Option Addr} {k c:Nat} (hk:xs.length=k) (hp:bu H (af (.slice A (k+1) c) (xs++ [y])) H') {j:Nat} {v:Value} (hj:(bd.enc y)[j]? =some v) :
  ∀w,Cw B w0 H w->w.cell? ⟨ab A,ao A+k*ak.k α+j,none⟩=some v:=fun w hw=>by
 refine SF.cell (SF.own (by rw[ag,hk];rfl) hp) (Nat.lt_succ_self k) y ?_ w hw
 rw[qY xs y y hk]
 exact hj
theorem kx {α:Type} [bd α] {v:Value} {xs:List α} {w:World} (hw:Cw B w0 H w) (hp:bu H (af v xs) H') {x:α} (hx:x∈xs):bd.wf x:=by
 obtain⟨F,h,_⟩:=hw.rd hp
 rcases(show bn w F v xs from h) with ⟨_,rfl,_⟩ | ⟨g,p,cap,cur,Fs,ho⟩
 ·cases hx
 obtain⟨i,hi,rfl⟩:=bN hx
 exact(bd.own_iff.1 (ho.el i _ (ae hi))).1.2
theorem nL {α:Type} [bd α] {v:Value} {xs:List α} {y:α} {w:World} (hw:Cw B w0 H w) (hp:bu H (af v (xs++ [y])) H'):bd.wf y:=kx hw hp (ez _ (bG.2 rfl))
theorem lI {α:Type} [bd α] {i j:Operand} {t:TypeId} {A:Option Addr} {c k f sz:Nat} {v:Value} {us:List Value} {xs:List α} (y y':α) (hk:xs.length=k) (hp:bu H (af (.slice A (k+1) c) (xs++ [y])) H') (hwf:bd.wf y') (hz:∀w,(sizeOf t).run P w= .ok sz w)
  (hop:o.op= .store t i j) (hi:opv env i=some (.pointer (some ⟨ab A,ao A+k*ak.k α+f,none⟩))) (hj:opv env j=some v) (hv:v.cells=us.toArray) (hkk:Nat.beq us.length sz=true) (h1:us.all Value.oneCell'=true)
  (hx:gL (bd.enc y) f us=bd.enc y') (hle:Nat.ble (f+us.length) (ak.k α)=true):OT P n B w0 o env H (γ:=Unit) (fun _=>True) (fun _=>undef) (fun _=>af (.slice A (k+1) c) (xs++ [y'])::H'):=
 sU y' y (zN xs y y' hk).symm hp (Nat.lt_succ_self k) hwf hz hop hi hj hv hkk h1 (by rw[qY xs y y hk];exact hx) hle
theorem sc {α:Type} [Ow α] {A:Option Addr} {k c:Nat} {xs:List α} {y:α} (hk:xs.length=k) {w:World} (h:Cw B w0 (af (.slice A (k+1) c) (xs++ [y])::H) w):Cw B w0 (af (.slice A k c) xs::H) w:=by
 have:=nA (k:=k) (Nat.le_succ k) h
 rwa [xq xs y hk] at this
theorem kI (gd k c:Nat) (A:Option Addr) (hs:List ap) (w:World) (hc:w.cell? ⟨gd,0,none⟩=some (.slice A (k+1) c)) (hlt:gd<w.heap.size) (hsl:Sl w (.slice A (k+1) c) hs) :
  Calls Tryz.prog 216 #[.pointer (some ⟨gd,0,none⟩)] w fun e w'=>e= .returned (.pointer (some ⟨ab A,ao A+k*4,none⟩))/\Below w.heap.size w w':=by
 have hb:=bt hsl
 refine enter Tryz.func216 rfl Tryz.ntmps216 rfl<|aa ?_
 refine bM [0,3,6,9,12,15,18,21,24,27,30,33,36,39] [] rfl<|aa ?_
 refine tE rfl (cB (fun w' hw=>(hw.below.cell hlt).trans hc) rfl rfl Ht)<|aa ?_
 refine tE rfl (cB (fun w' hw=>(hw.below.cell hlt).trans hc) rfl rfl Ht)<|aa ?_
 refine fg (t:=14) (v':= .int .i64 (k:Int)) rfl (by congr 1;omega) ?_
 refine tE rfl (bS (k:=k) cV ek (.ro hsl) (by omega) rfl rfl rfl)<|aa ?_
 intro w hw
 exact⟨rfl,hw.below⟩
end
section
variable {B:Nat} {w0:World} {H:List aq}
theorem de (gd k:Nat) (hl:List ap) (hk:hl.length=k) (A As:Option Addr) (c cs:Nat) (r:List Value) (f p:Int) (lv:Value) (s:List ax) (v:ax) (w:World)
  (hw:Cw B w0 (ah gd (.slice A (k+1) c::r) 212::af (.slice A (k+1) c) (hl++ [(⟨f,p,lv,.slice As (s.length+1) cs⟩:ap)])::af (.slice As (s.length+1) cs) (s++ [v])::H) w) :
  Calls Tryz.prog 254 #[.pointer (some ⟨gd,0,none⟩)] w fun e w'=> ∃_:Unit,True/\e= .returned (.agg #[.bool v.ref,.int .i64 v.n])/\
   Cw B w0 (ah gd (.slice A (k+1) c::r) 212::af (.slice A (k+1) c) (hl++ [(⟨f,p,lv,.slice As s.length cs⟩:ap)])::af (.slice As s.length cs) s::H) w':=by
 have hlk:∀h:ap,(hl++ [h]).length=k+1:=fun h=>by rw[ag,hk];rfl
 have hwf:ap.wf _:=nL hw .b
 have hsl:(s++ [v]).length=s.length+1:=by simp
 have hb:s.length+1<=140737488355328:=bt (SF.at_ (SF.own hsl .c) hw)
 refine a8 Tryz.func254 rfl Tryz.ntmps254 rfl hw<|aa ?_
 refine fun g1 _=>aa ?_
 refine cd rfl um (fun w hw=>kI gd k c A (hl++ [(⟨f,p,lv,.slice As (s.length+1) cs⟩:ap)]) w (dC fc rfl w hw) (gZ hw fc) (SF.at_ (SF.own (hlk _) fc) hw))<|aa ?_
 refine eB rfl (eJ (j:=3) hk fc rfl)<|aa ?_
 refine eB rfl (eJ (j:=3) hk fc rfl)<|aa ?_
 refine eC (t:=18) (v':= .int .i64 (s.length:Int)) rfl (by congr 1;omega) ?_
 refine sE (bS (k:=s.length) bK eP (SF.own (xs:=s++ [v]) hsl fc) (by omega) rfl rfl rfl) ?_
 refine sE (gU (cs:= [.bool v.ref,.int .i64 v.n]) (fun w hw j u hj=>eJ (α:=ax) rfl fc hj w hw) rfl rfl Tryz.isAgg159 eP)<|aa ?_
 refine fun g2 _=>aa ?_
 refine eB rfl (eJ (j:=3) hk fc rfl)<|aa ?_
 refine eC (t:=26) (v':= .int .i64 (s.length:Int)) rfl (by congr 1;omega) ?_
 refine ly (fun w h=>lG h (xs:=s++ [v]) fc) fun hcap=>?_
 refine sE (kZ (k:=s.length) bK eP (by omega) rfl rfl rfl) ?_
 refine aC ?_
 refine aC ?_
 refine oE (lI (α:=ap) ⟨f,p,lv,.slice As (s.length+1) cs⟩ ⟨f,p,lv,.slice As s.length cs⟩ hk fc ⟨hwf.1,hwf.2.1,rfl⟩ iU rfl rfl rfl rfl rfl rfl rfl rfl) (fun _ _=>aa ?_)
 intro w hw
 exact⟨(),trivial,rfl,(sc rfl (hw.msub (T:=af (.slice As (s.length+1) cs) (s++ [v])::ah gd _ _::af (.slice A (k+1) c) _::H) ms)).msub ms⟩
theorem gX (gd k:Nat) (hl:List ap) (hk:hl.length=k) (A As Av:Option Addr) (c cs cv:Nat) (r:List Value) (f p:Int) (lv:Value) (s ys:List ax) (w:World) (hs:SF B w0 H Av ys.length cv ys) (hb:s.length+ys.length<=1000000)
  (hw:Cw B w0 (ah gd (.slice A (k+1) c::r) 212::af (.slice A (k+1) c) (hl++ [(⟨f,p,lv,.slice As s.length cs⟩:ap)])::af (.slice As s.length cs) s::H) w) :
  Calls Tryz.prog 255 #[.pointer (some ⟨gd,0,none⟩),.slice Av ys.length cv] w fun e w'=> ∃g:Option Addr×Nat,True/\e= .returned (.tuple #[])/\
   Cw B w0 (ah gd (.slice A (k+1) c::r) 212::af (.slice A (k+1) c) (hl++ [(⟨f,p,lv,.slice g.1 (s++ys).length g.2⟩:ap)])::af (.slice g.1 (s++ys).length g.2) (s++ys)::H) w':=by
 have hlk:∀h:ap,(hl++ [h]).length=k+1:=fun h=>by rw[ag,hk];rfl
 have hwf:ap.wf _:=nL hw .b
 refine a8 Tryz.func255 rfl Tryz.ntmps255 rfl hw<|aa ?_
 refine cd rfl um (fun w hw=>kI gd k c A (hl++ [(⟨f,p,lv,.slice As s.length cs⟩:ap)]) w (dC fc rfl w hw) (gZ hw fc) (SF.at_ (SF.own (hlk _) fc) hw))<|aa ?_
 refine eB rfl (eJ (j:=3) hk fc rfl)<|aa ?_
 refine oE (fV (α:=ax) (bytes:=16) (xs:=s) (ys:=ys) rfl bK (bQ ik) rfl (bu.c) (.s (.s (.s hs))) (by omega) (by omega) rfl rfl rfl) (fun⟨A5,c5⟩ _=>?_)
 try dsimp only
 refine aC ?_
 refine aC ?_
 refine oE (lI (α:=ap) ⟨f,p,lv,.slice As s.length cs⟩ ⟨f,p,lv,.slice A5 (s++ys).length c5⟩ hk fc ⟨hwf.1,hwf.2.1,rfl⟩ iU rfl rfl rfl rfl rfl rfl rfl rfl) (fun _ _=>aa ?_)
 intro w hw
 exact⟨(A5,c5),trivial,rfl,hw.msub ms⟩
def cI (z:Int):ax:=⟨false,fP z⟩
theorem fI (gd k:Nat) (hl:List ap) (hk:hl.length=k) (A As:Option Addr) (c cs:Nat) (r:List Value) (f p:Int) (lv:Value) (s:List ax) (z:Int) (w:World) (hb:s.length<=1000)
  (hw:Cw B w0 (ah gd (.slice A (k+1) c::r) 212::af (.slice A (k+1) c) (hl++ [(⟨f,p,lv,.slice As s.length cs⟩:ap)])::af (.slice As s.length cs) s::H) w) :
  Calls Tryz.prog 253 #[.pointer (some ⟨gd,0,none⟩),.int .i64 z] w fun e w'=> ∃g:Option Addr×Nat,True/\e= .returned (.tuple #[])/\
   Cw B w0 (ah gd (.slice A (k+1) c::r) 212::af (.slice A (k+1) c) (hl++ [(⟨f,p,lv,.slice g.1 (s++ [cI z]).length g.2⟩:ap)])::af (.slice g.1 (s++ [cI z]).length g.2) (s++ [cI z])::H) w':=by
 refine a8 Tryz.func253 rfl Tryz.ntmps253 rfl hw ?_
 have hlk:∀h:ap,(hl++ [h]).length=k+1:=fun h=>by rw[ag,hk];rfl
 refine aa ?_
 refine cd rfl Tryz.call94 ((fun w hw=>kL ((fun w hw=>zA z w) w hw)))<|aa ?_
 intro g1 _
 refine gE (fun w h=>bj (α:=ax) (m:=1) [cI z] rfl (by simp[cI,bd.wf];exact qz z) rfl (by decide) h) ?_
 refine bU rfl lT (fun w hw=>gX gd k hl hk A As _ c cs 1 r f p lv s [cI z] w (SF.own rfl .a) (by simp only[aS];omega) (hw.msub (.s fc (.s fc (.s fc .r))))) (fun⟨A5,c5⟩ _=>?_)
 refine aT ?_
 intro w hw
 exact⟨(A5,c5),trivial,rfl,hw.msub ms⟩
end
end
end Go.Proofs.YthfkmcbblnbfaaaGreatDoor
