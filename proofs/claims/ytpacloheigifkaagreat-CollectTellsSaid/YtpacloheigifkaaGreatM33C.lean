/- Texts of one proof, one behind the other: lemmas alone. -/
import Derived.Test.YtpacloheigifkaaGreatM0C
import Derived.Test.YtpacloheigifkaaGreatM28C
import Derived.Test.YtpacloheigifkaaGreatM32C
import Derived.Test.YtpacloheigifkaaGreatM29C
import Derived.Test.YtpacloheigifkaaGreatM18C
import Derived.Test.YtpacloheigifkaaGreatM27C
import Derived.Test.YtpacloheigifkaaGreatM13C
import Derived.Test.YtpacloheigifkaaGreatM25C

namespace Go.Proofs.YtpacloheigifkaaGreat
open Go.RowKit
section
theorem dy:(Tryz.prog.info? 103).map (fun i=>(i.zero,i.size,i.bytes))=some (some (.agg #[.bool false,.int .i64 0]),2,16):=by kernel_rfl
theorem kT:(Tryz.prog.info? 97).map (fun i=>(i.zero,i.size,i.bytes))=some (some (.agg #[.int .i64 0,.int .i64 0,.slice none 0 0,.slice none 0 0]),4,64):=by kernel_rfl
set_option maxRecDepth 100000 in
theorem ph (A:Option Addr) (c:Nat) (l:List aR) (w:World) (hs:Sl w (.slice A l.length c) l) (hl:l.length*16≤140737488355328) :
  Calls Tryz.prog 149 #[.slice A l.length c] w fun e w'=> ∃u,e= .returned u∧Below w.heap.size w w'∧dB w' w.heap.size u l:=by
 refine enter Tryz.func149 rfl Tryz.ntmps149 rfl ?_
 refine ac<|aa<|rn 1 [0] rfl<|ae<|ac<|ac<|aa<|rn 1 [0,3] rfl<|af (rl aD rfl rfl) rfl rfl<|ae<|b9 rfl (fun h=>?_) (fun h=>?_)
 ·have h0:l= []:=by
   rcases Nat.eq_zero_or_pos l.length with h0 | h0
   ·exact List.eq_nil_of_length_eq_zero h0
   obtain⟨b,o,e⟩:=hs.addr h0
   subst e
   cases h
  subst h0
  refine ac<|aa<|rn 1 [2] rfl<|ae<|ap (ah ?_)
  refine au Tryz.results149 (am rfl) ?_
  intro w hw
  exact⟨_,rfl,kD hw⟩
 refine aq (ak ?_)
 refine ac<|aa<|ai (a8 (cs:= []) aD aP bK rfl rfl rfl rfl rfl) rfl rfl (fun g1 _=>?_)
 refine rn 1 [5,6] rfl<|jg (fun w h=>bW (α:=aR) (m:=0) [] rfl (by simp) rfl (by decide) h) ?_
 refine ai (cT (α:=aR) (bytes:=16) (xs:= []) (ys:=l) rfl aD (bN dy) rfl fc (.ro hs) (by simp only[List.length_nil];omega) (by simp only[List.length_nil];omega) rfl rfl rfl) rfl rfl (fun⟨A5,c5⟩ _=>?_)
 try dsimp only
 refine rn 1 [2] rfl<|ae<|ap<|au Tryz.results149 (am rfl) ?_
 intro w hw
 exact⟨_,rfl,i6 hw⟩
def dw (l:List Int):List aR:=l.map fun t=>⟨decide (t=2),0⟩
theorem jo (l:List Int):(dw l).length=l.length:=by simp[dw]
theorem te {l:List Int} {k:Nat} (hk:k<l.length):dw (l.take (k+1))=dw (l.take k)++ [⟨decide (l.getD k 0=2),0⟩]:=by
 rw[dL l k 0 hk]
 simp[dw]
set_option maxRecDepth 100000 in
theorem qf (p r:Int) (A1 A2:Option Addr) (c1 c2 n2:Nat) (l:List Int) (w:World) (hs:Sl w (.slice A1 l.length c1) l) (hb:l.length*16≤140737488355328) :
  Calls Tryz.prog 114 #[.agg #[.int .i64 p,.slice A1 l.length c1,.int .i64 r,.slice A2 n2 c2]] w fun e w'=> ∃u,e= .returned u∧Below w.heap.size w w'∧dB w' w.heap.size u (dw l):=by
 refine enter Tryz.func114 rfl Tryz.ntmps114 rfl ?_
 refine ac<|aa<|ai (bH rfl rfl rfl) rfl rfl (fun g1 _=>?_)
 refine rn 1 [1] rfl<|ae<|ac<|aa<|rn 1 [1,3] rfl<|ae<|ac<|ac<|aa<|rn 1 [3,6] rfl<|af (aj fc aW rfl rfl (by rfl)) rfl rfl ?_
 refine af (aL ag rfl rfl) rfl rfl<|rn 1 [3,7,8,9] rfl<|ae<|dx (fun w h=>Cw.nilO aR h) ?_
 refine aE (bD (fun g:Nat×Option Addr×Nat=>g.1≤l.length) (fun g=>l.length - g.1) (fun g=> [(3,.slice g.2.1 (dw (l.take g.1)).length g.2.2),(7,.slice A1 l.length c1),(8,.int .i64 (l.length:Int)),(9,.int .i64 (g.1:Int))]) (fun g=> [an (.slice g.2.1 (dw (l.take g.1)).length g.2.2) (dw (l.take g.1))]) (0,none,0) (Nat.zero_le _) ⟨rfl,rfl,rfl,rfl,trivial⟩ me ?_)
 rintro⟨k,A,c⟩ hk
 try dsimp only
 have hk:k≤l.length:=hk
 have htl:(dw (l.take k)).length=k:=by rw[jo,List.length_take];omega
 refine ac<|aa<|rn 1 [3,7,8,9,10] rfl<|ae<|ac<|ar rfl (fun hlt=>?_) (fun hlt=>?_)
 ·have hkl:k<l.length:=by omega
  refine aq (ak ?_)
  refine ac<|aE<|ac<|aa<|af (aQ ag aF (.ro hs) (by omega) rfl rfl rfl) rfl rfl<|af (aZ (SF.int (.ro hs) (by omega)) rfl rfl aw) rfl rfl<|rn 1 [3,5,7,8,9] rfl<|ae<|aa<|rn 3 [7,8,9,13,15] rfl<|af (cU (cs:= [_,_]) lK bK rfl rfl (by rfl)) rfl rfl ?_
  refine ai (a8 (cs:= [_,_]) aD aP bK rfl rfl rfl rfl rfl) rfl rfl (fun g2 _=>?_)
  refine ai (dM (α:=aR) (bytes:=16) ⟨decide (l.getD k 0=2),0⟩ [] (te hkl) aD (bN dy) rfl (fH fc fc) (eI (by show a5 0;decide)) (by omega) (by omega) rfl rfl rfl) rfl rfl (fun⟨A3,c3⟩ _=>?_)
  try dsimp only
  refine rn 1 [3,7,8,9] rfl<|bu (aH (ak ?_))
  refine aa<|af (a6 rfl rfl rfl (by omega)) rfl rfl<|rn 1 [3,7,8,9] rfl<|aX (k+1,A3,c3) (by show k+1≤_;omega) (by show _ - _<_ - _;omega) ⟨rfl,rfl,rfl,rfl,trivial⟩ me
 obtain rfl:k=l.length:=by omega
 rw[List.take_length]
 refine bz (aG (aG (bO (ak ?_))))
 refine ac<|aa<|rn 2 [2] rfl<|ae<|ap<|au Tryz.results114 (am rfl) ?_
 intro w hw
 exact⟨_,rfl,i6 hw⟩
def ie (l:List aO):Prop:=l.length*64≤140737488355328∧∀x∈l,x.locals.length*16≤140737488351232∧x.stack.length*16≤140737488351232
structure sE (m:aI):Prop where
 f:ie m.frames
 b:nm m.blocks
 i:m.inn.length≤1000000
 o:m.out.length≤1000000
theorem dW {l:List aO} {k:Nat} (hk:k<l.length):aN l k∈l:=by
 unfold aN
 rw[List.getD_eq_getElem?_getD,List.getElem?_eq_getElem hk]
 exact List.getElem_mem hk
theorem lG {l:List aO} {k:Nat} (hk:k<l.length):l.take (k+1)=l.take k++ [aN l k]:=dL l k default hk
theorem rN {v1 v2:Value} {x:aO} (hi:a5 x.func∧a5 x.pc):∀(w:World) (F:Nat→Prop),Hs w [an v1 x.locals,an v2 x.stack] F→Ow.own w F [.int .i64 x.func,.int .i64 x.pc,v1,v2] x:=fun _ _ h=>⟨v1,v2,rfl,hi,h⟩
set_option maxRecDepth 100000 in
set_option maxHeartbeats 4000000 in
theorem jI (a:MA) (m:aI) (w:World) (hm:dE w.heap.size w a m) (hfit:sE m) :
  Calls Tryz.prog 115 #[.agg #[.slice a.Af m.frames.length a.cf,.slice a.Ab m.blocks.length a.cb,.slice a.Ai m.inn.length a.ci,.slice a.Ao m.out.length a.co,.int .i64 m.status,.int .i64 m.trap]] w fun e w'=> ∃g:MA,True∧
   e= .returned (.agg #[.slice g.Af m.frames.length g.cf,.slice g.Ab m.blocks.length g.cb,.slice g.Ai m.inn.length g.ci,.slice g.Ao m.out.length g.co,.int .i64 m.status,.int .i64 m.trap])∧
   Cw w.heap.size w [an (.slice g.Af m.frames.length g.cf) m.frames,an (.slice g.Ab m.blocks.length g.cb) m.blocks,an (.slice g.Ai m.inn.length g.ci) m.inn,an (.slice g.Ao m.out.length g.co) m.out] w':=by
 have b1:=bR hm.f
 have hf64:=hfit.f.1
 refine enter Tryz.func115 rfl Tryz.ntmps115 rfl ?_
 refine ac<|aa<|ai (bH rfl rfl rfl) rfl rfl (fun g1 _=>?_)
 refine ai (a9 bw rfl rfl) rfl rfl (fun g2 _=>?_)
 refine ae<|eo (fun _:Nat×(Option Addr×Nat)×(Option Addr×Nat)×(Option Addr×Nat)=>True) (fun g=> [(1,.pointer (some ⟨g1,0,none⟩)),(2,.pointer (some ⟨g2,0,none⟩)),(3,.pointer (some ⟨g.1,0,none⟩))]) (fun g=> [az g1 [.slice a.Af m.frames.length a.cf,.slice a.Ab m.blocks.length a.cb,.slice a.Ai m.inn.length a.ci,.slice a.Ao m.out.length a.co,.int .i64 m.status,.int .i64 m.trap] 29,az g2 [.slice none 0 0,.slice none 0 0,.slice none 0 0,.slice none 0 0,.int .i64 0,.int .i64 0] 29,az g.1 [.slice none 0 0,.slice g.2.1.1 m.blocks.length g.2.1.2,.slice g.2.2.1.1 m.inn.length g.2.2.1.2,.slice g.2.2.2.1 m.out.length g.2.2.2.2,.int .i64 m.status,.int .i64 m.trap] 29,an (.slice g.2.1.1 m.blocks.length g.2.1.2) m.blocks,an (.slice g.2.2.1.1 m.inn.length g.2.2.1.2) m.inn,an (.slice g.2.2.2.1 m.out.length g.2.2.2.2) m.out]) ?_ ?_
 ·refine bV (.still 0 (.still 1 (.still 3 (.still 4 (.still 6 (.still 7 (.still 9 (.still 10 (.still 11 (.still 12 (.pick 2 (.pick 5 (.pick 8 (.still 13 (.pick 14 (.pick 15 .done .stop) .stop)) (.pick 14 (.pick 8 (.still 13 (.pick 15 .done .stop)) .stop) .stop)) (.pick 14 (.pick 5 (.pick 8 (.still 13 (.pick 15 .done .stop)) .stop) .stop) .stop)) (.pick 14 (.pick 2 (.pick 5 (.pick 8 (.still 13 (.pick 15 .done .stop)) .stop) .stop) .stop) .stop)))))))))))) [15] rfl (by kernel_rfl) (by kernel_rfl) ?_
  refine aS ha 1 [1,2,6] rfl<|av rfl (aj fc dp rfl rfl (by rfl)) rfl rfl ha ?_
  refine aS ha 1 [1,2,7,9] rfl<|av rfl (aj fc aW rfl rfl (by rfl)) rfl rfl ha ?_
  refine aS ha 1 [1,2,7,10,12] rfl<|av rfl (aj fc aW rfl rfl (by rfl)) rfl rfl ha ?_
  refine aS ha 1 [1,2,7,10,13,15] rfl<|av rfl (aj fc aw rfl rfl (by rfl)) rfl rfl ha ?_
  refine aS ha 1 [1,2,7,10,13,16,17] rfl<|av rfl (aj fc aw rfl rfl (by rfl)) rfl rfl ha ?_
  refine aB rfl (d9 rfl rfl rfl Tryz.call147 (fun w hw=>pM _ m.blocks w (hw.ro hm.b) hfit.b)) rfl rfl (.inr fun _=>ha) (fun⟨A1,c1⟩ _=>?_) ?_
  ·try dsimp only
   refine aB rfl (d9 rfl rfl rfl iE (fun w hw=>f5 _ m.inn w (hw.ro hm.i) hfit.i)) rfl rfl (.inr fun _=>ha) (fun⟨A2,c2⟩ _=>?_) ?_
   ·try dsimp only
    refine aB rfl (d9 rfl rfl rfl iE (fun w hw=>f5 _ m.out w (hw.ro hm.o) hfit.o)) rfl rfl (.inr fun _=>ha) (fun⟨A3,c3⟩ _=>?_) ?_
    ·try dsimp only
     refine av rfl (cU (cs:= [_,_,_,_,_,_]) jk bw rfl rfl (by rfl)) rfl rfl ha ?_
     refine aB rfl (a9 bw rfl rfl) rfl rfl (.inr fun _=>ha) (fun gx _=>?_) ay
     refine aB rfl (aM _ fc aJ rfl rfl rfl rfl rfl (by rfl) rfl (by rfl)) rfl rfl (.inl rfl) (fun _ _=>?_) ay
     refine cD<|be (gx,(A1,c1),(A2,c2),(A3,c3)) (trivial) ⟨rfl,rfl,rfl,trivial⟩ (fun _ h=>h.msub ms)
    refine aB rfl (a9 bw rfl rfl) rfl rfl (.inr fun _=>ha) (fun gx _=>?_) ay
    refine aB rfl (d9 rfl rfl rfl iE (fun w hw=>f5 _ m.out w (hw.ro hm.o) hfit.o)) rfl rfl (.inr fun _=>ha) (fun⟨A3,c3⟩ _=>?_) ay
    try dsimp only
    refine av rfl (cU (cs:= [_,_,_,_,_,_]) jk bw rfl rfl (by rfl)) rfl rfl ha ?_
    refine aB rfl (aM _ fc aJ rfl rfl rfl rfl rfl (by rfl) rfl (by rfl)) rfl rfl (.inl rfl) (fun _ _=>?_) ay
    refine cD<|be (gx,(A1,c1),(A2,c2),(A3,c3)) (trivial) ⟨rfl,rfl,rfl,trivial⟩ (fun _ h=>h.msub ms)
   refine aB rfl (a9 bw rfl rfl) rfl rfl (.inr fun _=>ha) (fun gx _=>?_) ay
   refine aB rfl (d9 rfl rfl rfl iE (fun w hw=>f5 _ m.inn w (hw.ro hm.i) hfit.i)) rfl rfl (.inr fun _=>ha) (fun⟨A2,c2⟩ _=>?_) ay
   try dsimp only
   refine aB rfl (d9 rfl rfl rfl iE (fun w hw=>f5 _ m.out w (hw.ro hm.o) hfit.o)) rfl rfl (.inr fun _=>ha) (fun⟨A3,c3⟩ _=>?_) ay
   try dsimp only
   refine av rfl (cU (cs:= [_,_,_,_,_,_]) jk bw rfl rfl (by rfl)) rfl rfl ha ?_
   refine aB rfl (aM _ fc aJ rfl rfl rfl rfl rfl (by rfl) rfl (by rfl)) rfl rfl (.inl rfl) (fun _ _=>?_) ay
   refine cD<|be (gx,(A1,c1),(A2,c2),(A3,c3)) (trivial) ⟨rfl,rfl,rfl,trivial⟩ (fun _ h=>h.msub ms)
  refine aB rfl (a9 bw rfl rfl) rfl rfl (.inr fun _=>ha) (fun gx _=>?_) ay
  refine aB rfl (d9 rfl rfl rfl Tryz.call147 (fun w hw=>pM _ m.blocks w (hw.ro hm.b) hfit.b)) rfl rfl (.inr fun _=>ha) (fun⟨A1,c1⟩ _=>?_) ay
  try dsimp only
  refine aB rfl (d9 rfl rfl rfl iE (fun w hw=>f5 _ m.inn w (hw.ro hm.i) hfit.i)) rfl rfl (.inr fun _=>ha) (fun⟨A2,c2⟩ _=>?_) ay
  try dsimp only
  refine aB rfl (d9 rfl rfl rfl iE (fun w hw=>f5 _ m.out w (hw.ro hm.o) hfit.o)) rfl rfl (.inr fun _=>ha) (fun⟨A3,c3⟩ _=>?_) ay
  try dsimp only
  refine av rfl (cU (cs:= [_,_,_,_,_,_]) jk bw rfl rfl (by rfl)) rfl rfl ha ?_
  refine aB rfl (aM _ fc aJ rfl rfl rfl rfl rfl (by rfl) rfl (by rfl)) rfl rfl (.inl rfl) (fun _ _=>?_) ay
  refine cD<|be (gx,(A1,c1),(A2,c2),(A3,c3)) (trivial) ⟨rfl,rfl,rfl,trivial⟩ (fun _ h=>h.msub ms)
 rintro⟨gx,⟨Ab,cb⟩,⟨Ai,ci⟩,⟨Ao,co⟩⟩ _
 try dsimp only
 refine dx (fun w h=>Cw.nilO aO h) ?_
 refine ac<|ac<|aa<|rn 1 [2,3,20] rfl<|af (aj fc bG rfl rfl (by rfl)) rfl rfl ?_
 refine af (aL aT rfl rfl) rfl rfl<|rn 1 [2,3,21,22,23] rfl<|ae<|aE (bD (fun g:Nat×Option Addr×Nat=>g.1≤m.frames.length) (fun g=>m.frames.length - g.1) (fun g=> [(2,.pointer (some ⟨g2,0,none⟩)),(3,.pointer (some ⟨gx,0,none⟩)),(21,.slice a.Af m.frames.length a.cf),(22,.int .i64 (m.frames.length:Int)),(23,.int .i64 (g.1:Int))]) (fun g=> [an (.slice g.2.1 (m.frames.take g.1).length g.2.2) (m.frames.take g.1),az g1 [.slice a.Af m.frames.length a.cf,.slice a.Ab m.blocks.length a.cb,.slice a.Ai m.inn.length a.ci,.slice a.Ao m.out.length a.co,.int .i64 m.status,.int .i64 m.trap] 29,az g2 [.slice none 0 0,.slice none 0 0,.slice none 0 0,.slice none 0 0,.int .i64 0,.int .i64 0] 29,an (.slice Ab m.blocks.length cb) m.blocks,an (.slice Ai m.inn.length ci) m.inn,an (.slice Ao m.out.length co) m.out,az gx [.slice g.2.1 (m.frames.take g.1).length g.2.2,.slice Ab m.blocks.length cb,.slice Ai m.inn.length ci,.slice Ao m.out.length co,.int .i64 m.status,.int .i64 m.trap] 29]) (0,none,0) (Nat.zero_le _) ⟨rfl,rfl,rfl,rfl,rfl,trivial⟩ me ?_)
 rintro⟨k,A',c'⟩ hk
 try dsimp only
 have hk:k≤m.frames.length:=hk
 have htl:(m.frames.take k).length=k:=by rw[List.length_take];omega
 refine ac<|aa<|rn 1 [2,3,21,22,23,24] rfl<|ae<|ac<|ar rfl (fun hlt=>?_) (fun hlt=>?_)
 ·have hkl:k<m.frames.length:=by omega
  obtain⟨A1,c1,A2,c2,hl,hst,hi,hcell⟩:=hm.f.fr hkl
  obtain⟨hb1,hb2⟩:=hfit.f.2 (aN m.frames k) (dW hkl)
  have htk:=lG hkl
  refine aq (ak ?_)
  refine eo (fun _:Option Addr×Nat=>True) (fun g=> [(2,.pointer (some ⟨g2,0,none⟩)),(3,.pointer (some ⟨gx,0,none⟩)),(21,.slice a.Af m.frames.length a.cf),(22,.int .i64 (m.frames.length:Int)),(23,.int .i64 (k:Int))]) (fun g=> [an (.slice g.1 (m.frames.take (k+1)).length g.2) (m.frames.take (k+1)),az g1 [.slice a.Af m.frames.length a.cf,.slice a.Ab m.blocks.length a.cb,.slice a.Ai m.inn.length a.ci,.slice a.Ao m.out.length a.co,.int .i64 m.status,.int .i64 m.trap] 29,az g2 [.slice none 0 0,.slice none 0 0,.slice none 0 0,.slice none 0 0,.int .i64 0,.int .i64 0] 29,an (.slice Ab m.blocks.length cb) m.blocks,an (.slice Ai m.inn.length ci) m.inn,an (.slice Ao m.out.length co) m.out,az gx [.slice g.1 (m.frames.take (k+1)).length g.2,.slice Ab m.blocks.length cb,.slice Ai m.inn.length ci,.slice Ao m.out.length co,.int .i64 m.status,.int .i64 m.trap] 29]) ?_ ?_
  ·refine aE<|ac<|aa<|af (aQ aT a7 (.ro hm.f) (by omega) rfl rfl rfl) rfl rfl<|af (cL (hcell _) rfl rfl gl a7) rfl rfl<|ai (a9 cY rfl rfl) rfl rfl (fun g3 _=>?_)
   refine ai (aM _ fc a7 rfl rfl rfl rfl rfl (by rfl) rfl (by rfl)) rfl rfl (fun _ _=>?_)
   refine ae<|bV (.still 0 (.still 1 (.still 2 (.still 3 (.still 4 (.still 5 (.still 6 (.still 7 (.still 9 (.still 10 (.pick 8 (.pick 11 (.still 12 (.pick 13 (.pick 14 (.calm 15 (.pick 16 .done .stop)) .stop) .stop)) .stop) .stop))))))))))) [14,15,16] rfl (by kernel_rfl) (by kernel_rfl) ?_
   refine aS ha 1 [2,3,5,21,22,23,27] rfl<|av rfl (aj fc bG rfl rfl (by rfl)) rfl rfl ha ?_
   refine aS ha 1 [2,3,5,21,22,23,28,29] rfl<|av rfl (aj fc aw rfl rfl (by rfl)) rfl rfl ha ?_
   refine aS ha 1 [2,3,5,21,22,23,28,30,31] rfl<|av rfl (aj fc aw rfl rfl (by rfl)) rfl rfl ha ?_
   refine aS ha 1 [2,3,5,21,22,23,28,30,32,33] rfl<|av rfl (aj fc bZ rfl rfl (by rfl)) rfl rfl ha ?_
   refine aS ha 1 [2,3,21,22,23,28,30,32,34,36] rfl<|av rfl (aj fc bZ rfl rfl (by rfl)) rfl rfl ha ?_
   refine aB rfl (d9 rfl rfl rfl Tryz.call149 (fun w hw=>ph _ _ (aN m.frames k).locals w (hw.ro hl) (by omega))) rfl rfl (.inr fun _=>ha) (fun⟨A3,c3⟩ _=>?_) ay
   try dsimp only
   refine aB rfl (d9 rfl rfl rfl Tryz.call149 (fun w hw=>ph _ _ (aN m.frames k).stack w (hw.ro hst) (by omega))) rfl rfl (.inr fun _=>ha) (fun⟨A4,c4⟩ _=>?_) ay
   try dsimp only
   refine av rfl (cU (cs:= [_,_,_,_]) uG cY rfl rfl (by rfl)) rfl rfl ha ?_
   refine aB rfl (a8 (cs:= [_,_,_,_]) aT a7 cY rfl rfl rfl rfl rfl) rfl rfl (.inr fun _=>ha) (fun g4 _=>?_) ay
   refine aB rfl (dM (α:=aO) (bytes:=64) (aN m.frames k) [an (.slice A3 (aN m.frames k).locals.length c3) (aN m.frames k).locals,an (.slice A4 (aN m.frames k).stack.length c4) (aN m.frames k).stack] htk aT (bN kT) rfl (zt fc fc fc fc) (rN hi) (by omega) (by omega) rfl rfl rfl) rfl rfl (.inl rfl) (fun⟨A5,c5⟩ _=>?_) ay
   try dsimp only
   refine dY 1 [2,3,21,22,23,41,42] rfl<|aB rfl (aM _ fc fN rfl rfl rfl rfl rfl (by rfl) rfl (by rfl)) rfl rfl (.inl rfl) (fun _ _=>?_) ay
   refine cD (aH ?_)
   refine be (A5,c5) (trivial) ⟨rfl,rfl,rfl,rfl,rfl,trivial⟩ (fun _ h=>h.msub ms)
  rintro⟨A5,c5⟩ _
  try dsimp only
  refine aa<|af (a6 rfl rfl rfl (by omega)) rfl rfl<|rn 1 [2,3,21,22,23] rfl<|aX (k+1,A5,c5) (by show k+1≤_;omega) (by show _ - _<_ - _;omega) ⟨rfl,rfl,rfl,rfl,rfl,trivial⟩ me
 obtain rfl:k=m.frames.length:=by omega
 rw[List.take_length]
 refine bz (aG (aG (bO (ak ?_))))
 refine ac<|aa<|af (aY (vs:= [_,_,_,_,_,_]) fc bd aJ rfl rfl (by rfl) rfl) rfl rfl ?_
 refine ai (aM _ fc aJ rfl rfl rfl rfl rfl (by rfl) rfl (by rfl)) rfl rfl (fun _ _=>?_)
 refine ae<|ap<|au Tryz.results115 (eF (cs:= [_,_,_,_,_,_]) fc bd aJ rfl) ?_
 intro w hw
 exact⟨⟨A',c',Ab,cb,Ai,ci,Ao,co⟩,trivial,rfl,hw.msub ms⟩
end
section
theorem mR {α:Type} (xs:List α) (y d:α) {k:Nat} (hk:xs.length=k):(xs++ [y]).getD k d=y:=by
 subst hk
 rw[List.getD_eq_getElem?_getD,List.getElem?_append_right (Nat.le_refl _),Nat.sub_self]
 rfl
theorem xT {α:Type} (xs:List α) (y y':α) {k:Nat} (hk:xs.length=k):(xs++ [y]).set k y'=xs++ [y']:=by
 subst hk
 rw[List.set_append_right _ _ (Nat.le_refl _),Nat.sub_self]
 rfl
theorem vK {α:Type} (xs:List α) (y:α) {k:Nat} (hk:xs.length=k):(xs++ [y]).take k=xs:=by
 subst hk
 exact List.take_left' rfl
section
variable {P:Program} {n:NF} {B:Nat} {w0:World} {env:cM} {H H':List a4} {o:Oper}
theorem fj {α:Type} [cG α] {xs:List α} {y:α} {A:Option Addr} {k c:Nat} (hk:xs.length=k) (hp:cz H (an (.slice A (k+1) c) (xs++ [y])) H') {j:Nat} {v:Value} (hj:(cG.enc y)[j]? =some v) :
  ∀w,Cw B w0 H w→w.cell? ⟨ab A,ao A+k*aK.k α+j,none⟩=some v:=fun w hw=>by
 refine SF.cell (SF.own (by rw[List.length_append,hk];rfl) hp) (Nat.lt_succ_self k) y ?_ w hw
 rw[mR xs y y hk]
 exact hj
theorem jZ {α:Type} [cG α] {v:Value} {xs:List α} {w:World} (hw:Cw B w0 H w) (hp:cz H (an v xs) H') {x:α} (hx:x∈xs):cG.wf x:=by
 obtain⟨F,h,_⟩:=hw.rd hp
 rcases(show cy w F v xs from h) with ⟨_,rfl,_⟩ | ⟨g,p,cap,cur,Fs,ho⟩
 ·cases hx
 obtain⟨i,hi,rfl⟩:=List.getElem_of_mem hx
 exact(cG.own_iff.1 (ho.el i _ (List.getElem?_eq_getElem hi))).1.2
theorem nw {α:Type} [cG α] {v:Value} {xs:List α} {y:α} {w:World} (hw:Cw B w0 H w) (hp:cz H (an v (xs++ [y])) H'):cG.wf y:=jZ hw hp (List.mem_append_right _ (List.mem_singleton.2 rfl))
theorem lP {α:Type} [cG α] {i j:Operand} {t:TypeId} {A:Option Addr} {c k f sz:Nat} {v:Value} {us:List Value} {xs:List α} (y y':α) (hk:xs.length=k) (hp:cz H (an (.slice A (k+1) c) (xs++ [y])) H') (hwf:cG.wf y') (hz:∀w,(sizeOf t).run P w= .ok sz w)
  (hop:o.op= .store t i j) (hi:opv env i=some (.pointer (some ⟨ab A,ao A+k*aK.k α+f,none⟩))) (hj:opv env j=some v) (hv:v.cells=us.toArray) (hkk:Nat.beq us.length sz=true) (h1:us.all Value.oneCell'=true)
  (hx:jM (cG.enc y) f us=cG.enc y') (hle:Nat.ble (f+us.length) (aK.k α)=true):OT P n B w0 o env H (γ:=Unit) (fun _=>True) (fun _=>undef) (fun _=>an (.slice A (k+1) c) (xs++ [y'])::H'):=
 mP y' y (xT xs y y' hk).symm hp (Nat.lt_succ_self k) hwf hz hop hi hj hv hkk h1 (by rw[mR xs y y hk];exact hx) hle
theorem qS {α:Type} [Ow α] {A:Option Addr} {k c:Nat} {xs:List α} {y:α} (hk:xs.length=k) {w:World} (h:Cw B w0 (an (.slice A (k+1) c) (xs++ [y])::H) w):Cw B w0 (an (.slice A k c) xs::H) w:=by
 have:=np (k:=k) (Nat.le_succ k) h
 rwa [vK xs y hk] at this
set_option maxRecDepth 100000 in
theorem kR (gd k c:Nat) (A:Option Addr) (hs:List aU) (w:World) (hc:w.cell? ⟨gd,0,none⟩=some (.slice A (k+1) c)) (hlt:gd<w.heap.size) (hsl:Sl w (.slice A (k+1) c) hs) :
  Calls Tryz.prog 151 #[.pointer (some ⟨gd,0,none⟩)] w fun e w'=>e= .returned (.pointer (some ⟨ab A,ao A+k*4,none⟩))∧Below w.heap.size w w':=by
 have hb:=bR hsl
 refine enter Tryz.func151 rfl Tryz.ntmps151 rfl ?_
 refine ac<|aa<|rn 1 [0] rfl<|ae<|ac<|bV (.still 0 (.still 1 (.still 2 (.still 3 (.still 4 (.still 5 (.still 6 (.still 7 (.still 8 (.still 9 (.still 10 (.still 11 (.still 12 (.still 13 .done)))))))))))))) [] rfl (by kernel_rfl) (by kernel_rfl) ?_
 refine aS ha 4 [0,6] rfl<|av rfl (aZ (fun w' hw=>(hw.below.cell hlt).trans hc) rfl rfl bG) rfl rfl ha ?_
 refine aS ha 4 [7,11] rfl<|av rfl (aZ (fun w' hw=>(hw.below.cell hlt).trans hc) rfl rfl bG) rfl rfl ha ?_
 refine av rfl (aL aT rfl rfl) rfl rfl ha ?_
 refine av rfl (cn rfl rfl rfl (by omega)) rfl rfl ha ?_
 refine eH (t:=14) (v':= .int .i64 (k:Int)) rfl (by congr 1;omega) ?_
 refine av rfl (aQ (k:=k) aT a7 (.ro hsl) (by omega) rfl rfl rfl) rfl rfl ha ?_
 refine aS ha 1 [2] rfl<|cu<|ap<|au Tryz.results151 (am rfl) ?_
 intro w hw
 exact⟨rfl,hw.below⟩
end
section
variable {B:Nat} {w0:World} {H:List a4}
set_option maxRecDepth 100000 in
set_option maxHeartbeats 1000000 in
theorem dX (gd k:Nat) (hl:List aU) (hk:hl.length=k) (A As:Option Addr) (c cs:Nat) (r:List Value) (f p:Int) (lv:Value) (s:List aR) (v:aR) (w:World)
  (hw:Cw B w0 (az gd (.slice A (k+1) c::r) 159::an (.slice A (k+1) c) (hl++ [(⟨f,p,lv,.slice As (s.length+1) cs⟩:aU)])::an (.slice As (s.length+1) cs) (s++ [v])::H) w) :
  Calls Tryz.prog 182 #[.pointer (some ⟨gd,0,none⟩)] w fun e w'=> ∃_:Unit,True∧e= .returned (.agg #[.bool v.ref,.int .i64 v.n])∧
   Cw B w0 (az gd (.slice A (k+1) c::r) 159::an (.slice A (k+1) c) (hl++ [(⟨f,p,lv,.slice As s.length cs⟩:aU)])::an (.slice As s.length cs) s::H) w':=by
 have hlk:∀h:aU,(hl++ [h]).length=k+1:=fun h=>by rw[List.length_append,hk];rfl
 have hwf:aU.wf _:=nw hw .b
 have hsl:(s++ [v]).length=s.length+1:=by simp
 have hb:s.length+1≤140737488355328:=bR (SF.at_ (SF.own hsl .c) hw)
 refine cB Tryz.func182 rfl Tryz.ntmps182 rfl hw ?_
 refine ac<|aa<|ai (a9 bK rfl rfl) rfl rfl (fun g1 _=>?_)
 refine ae<|ac<|aa<|rn 1 [2,6] rfl<|ai (bB rfl rfl rfl sP (fun w hw=>kR gd k c A (hl++ [(⟨f,p,lv,.slice As (s.length+1) cs⟩:aU)]) w (eq fc rfl w hw) (ia hw fc) (SF.at_ (SF.own (hlk _) fc) hw))) rfl rfl (fun _ _=>?_)
 refine rn 1 [2,3] rfl<|ae<|ac<|aa<|rn 3 [2,3,10] rfl<|af (aZ (fj (j:=3) hk fc rfl) rfl rfl bZ) rfl rfl ?_
 refine af (aL aD rfl rfl) rfl rfl<|af (cn rfl rfl rfl (by omega)) rfl rfl<|rn 1 [2,3,4] rfl<|ae<|ac<|aa<|rn 3 [2,3,4,16] rfl<|af (aZ (fj (j:=3) hk fc rfl) rfl rfl bZ) rfl rfl ?_
 refine rn 1 [2,3,4,17,18] rfl<|bU (t:=18) (v':= .int .i64 (s.length:Int)) rfl (by congr 1;omega) ?_
 refine af (aQ (k:=s.length) aD aP (SF.own (xs:=s++ [v]) hsl fc) (by omega) rfl rfl rfl) rfl rfl ?_
 refine af (cL (cs:= [.bool v.ref,.int .i64 v.n]) (fun w hw j u hj=>fj (α:=aR) rfl fc hj w hw) rfl rfl dA aP) rfl rfl ?_
 refine ai (a9 bK rfl rfl) rfl rfl (fun g2 _=>?_)
 refine ai (aM _ fc aP rfl rfl rfl rfl rfl (by rfl) rfl (by rfl)) rfl rfl (fun _ _=>?_)
 refine ae<|ac<|aa<|rn 4 [2,4,5,21,24] rfl<|af (aZ (fj (j:=3) hk fc rfl) rfl rfl bZ) rfl rfl ?_
 refine rn 1 [2,5,21,25,26] rfl<|bU (t:=26) (v':= .int .i64 (s.length:Int)) rfl (by congr 1;omega) ?_
 refine kB (fun w h=>lN h (xs:=s++ [v]) fc) fun hcap=>?_
 refine af (jR (k:=s.length) aD aP (by omega) rfl rfl rfl) rfl rfl<|rn 2 [2,5,27,29] rfl<|ai (lP (α:=aU) ⟨f,p,lv,.slice As (s.length+1) cs⟩ ⟨f,p,lv,.slice As s.length cs⟩ hk fc ⟨hwf.1,hwf.2.1,rfl⟩ dF rfl rfl rfl rfl rfl rfl rfl rfl) rfl rfl (fun _ _=>?_)
 refine ae<|ac<|aa<|af (aY (vs:= [_,_]) fc dA aP rfl rfl (by rfl) rfl) rfl rfl ?_
 refine ai (aM _ fc aP rfl rfl rfl rfl rfl (by rfl) rfl (by rfl)) rfl rfl (fun _ _=>?_)
 refine ae<|ap<|au Tryz.results182 (eF (cs:= [_,_]) fc dA aP rfl) ?_
 intro w hw
 exact⟨(),trivial,rfl,(qS rfl (hw.msub (T:=an (.slice As (s.length+1) cs) (s++ [v])::az gd _ _::an (.slice A (k+1) c) _::H) ms)).msub ms⟩
set_option maxRecDepth 100000 in
set_option maxHeartbeats 1000000 in
theorem hZ (gd k:Nat) (hl:List aU) (hk:hl.length=k) (A As Av:Option Addr) (c cs cv:Nat) (r:List Value) (f p:Int) (lv:Value) (s ys:List aR) (w:World) (hs:SF B w0 H Av ys.length cv ys) (hb:s.length+ys.length≤1000000)
  (hw:Cw B w0 (az gd (.slice A (k+1) c::r) 159::an (.slice A (k+1) c) (hl++ [(⟨f,p,lv,.slice As s.length cs⟩:aU)])::an (.slice As s.length cs) s::H) w) :
  Calls Tryz.prog 183 #[.pointer (some ⟨gd,0,none⟩),.slice Av ys.length cv] w fun e w'=> ∃g:Option Addr×Nat,True∧e= .returned (.tuple #[])∧
   Cw B w0 (az gd (.slice A (k+1) c::r) 159::an (.slice A (k+1) c) (hl++ [(⟨f,p,lv,.slice g.1 (s++ys).length g.2⟩:aU)])::an (.slice g.1 (s++ys).length g.2) (s++ys)::H) w':=by
 have hlk:∀h:aU,(hl++ [h]).length=k+1:=fun h=>by rw[List.length_append,hk];rfl
 have hwf:aU.wf _:=nw hw .b
 refine cB Tryz.func183 rfl Tryz.ntmps183 rfl hw ?_
 refine ac<|aa<|rn 1 [1,5] rfl<|ai (bB rfl rfl rfl sP (fun w hw=>kR gd k c A (hl++ [(⟨f,p,lv,.slice As s.length cs⟩:aU)]) w (eq fc rfl w hw) (ia hw fc) (SF.at_ (SF.own (hlk _) fc) hw))) rfl rfl (fun _ _=>?_)
 refine rn 1 [1,4] rfl<|ae<|aa<|rn 4 [1,7,10] rfl<|af (aZ (fj (j:=3) hk fc rfl) rfl rfl bZ) rfl rfl ?_
 refine rn 1 [7,11,12] rfl<|ai (cT (α:=aR) (bytes:=16) (xs:=s) (ys:=ys) rfl aD (bN dy) rfl (cz.c) (.s (.s (.s hs))) (by omega) (by omega) rfl rfl rfl) rfl rfl (fun⟨A5,c5⟩ _=>?_)
 try dsimp only
 refine rn 2 [13,15] rfl<|ai (lP (α:=aU) ⟨f,p,lv,.slice As s.length cs⟩ ⟨f,p,lv,.slice A5 (s++ys).length c5⟩ hk fc ⟨hwf.1,hwf.2.1,rfl⟩ dF rfl rfl rfl rfl rfl rfl rfl rfl) rfl rfl (fun _ _=>?_)
 refine bu<|cq Tryz.results183 ?_
 intro w hw
 exact⟨(A5,c5),trivial,rfl,hw.msub ms⟩
def cZ (z:Int):aR:=⟨false,iL z⟩
set_option maxRecDepth 100000 in
set_option maxHeartbeats 1000000 in
theorem gj (gd k:Nat) (hl:List aU) (hk:hl.length=k) (A As:Option Addr) (c cs:Nat) (r:List Value) (f p:Int) (lv:Value) (s:List aR) (z:Int) (w:World) (hb:s.length≤1000)
  (hw:Cw B w0 (az gd (.slice A (k+1) c::r) 159::an (.slice A (k+1) c) (hl++ [(⟨f,p,lv,.slice As s.length cs⟩:aU)])::an (.slice As s.length cs) s::H) w) :
  Calls Tryz.prog 181 #[.pointer (some ⟨gd,0,none⟩),.int .i64 z] w fun e w'=> ∃g:Option Addr×Nat,True∧e= .returned (.tuple #[])∧
   Cw B w0 (az gd (.slice A (k+1) c::r) 159::an (.slice A (k+1) c) (hl++ [(⟨f,p,lv,.slice g.1 (s++ [cZ z]).length g.2⟩:aU)])::an (.slice g.1 (s++ [cZ z]).length g.2) (s++ [cZ z])::H) w':=by
 refine cB Tryz.func181 rfl Tryz.ntmps181 rfl hw ?_
 have hlk:∀h:aU,(hl++ [h]).length=k+1:=fun h=>by rw[List.length_append,hk];rfl
 refine aa<|rn 2 [4,5] rfl<|ai (bB rfl rfl rfl Tryz.call217 ((fun w hw=>eM ((fun w hw=>xH z w) w hw)))) rfl rfl (fun _ _=>?_)
 refine af (cU (cs:= [_,_]) lK bK rfl rfl (by rfl)) rfl rfl ?_
 refine ai (a8 (cs:= [_,_]) aD aP bK rfl rfl rfl rfl rfl) rfl rfl (fun g1 _=>?_)
 refine jg (fun w h=>bW (α:=aR) (m:=1) [cZ z] rfl (by simp[cZ,cG.wf];exact pS z) rfl (by decide) h) ?_
 refine ai (bg rfl rfl rfl lV (fun w hw=>hZ gd k hl hk A As _ c cs 1 r f p lv s [cZ z] w (SF.own rfl .a) (by simp only[List.length_singleton];omega) (hw.msub (.s fc (.s fc (.s fc .r)))))) rfl rfl (fun⟨A5,c5⟩ _=>?_)
 try dsimp only
 refine bu<|cq Tryz.results181 ?_
 intro w hw
 exact⟨(A5,c5),trivial,rfl,hw.msub ms⟩
end
end
end Go.Proofs.YtpacloheigifkaaGreat
