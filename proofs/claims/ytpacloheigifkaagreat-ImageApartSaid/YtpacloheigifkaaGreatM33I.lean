/- Texts of one proof, one behind the other: lemmas alone. -/
import Derived.Test.YtpacloheigifkaaGreatM0I
import Derived.Test.YtpacloheigifkaaGreatM28I
import Derived.Test.YtpacloheigifkaaGreatM32I
import Derived.Test.YtpacloheigifkaaGreatM29I
import Derived.Test.YtpacloheigifkaaGreatM18I
import Derived.Test.YtpacloheigifkaaGreatM27I
import Derived.Test.YtpacloheigifkaaGreatM13I
import Derived.Test.YtpacloheigifkaaGreatM25I

namespace Go.Proofs.YtpacloheigifkaaGreat
open Go.RowKit
section
theorem gg:(Tryz.prog.info? 103).map (fun i=>(i.zero,i.size,i.bytes))=some (some (.agg #[.bool false,.int .i64 0]),2,16):=by kernel_rfl
theorem kR:(Tryz.prog.info? 97).map (fun i=>(i.zero,i.size,i.bytes))=some (some (.agg #[.int .i64 0,.int .i64 0,.slice none 0 0,.slice none 0 0]),4,64):=by kernel_rfl
set_option maxRecDepth 100000 in
theorem sG (A:Option Addr) (c:Nat) (l:List aX) (w:World) (hs:Sl w (.slice A l.length c) l) (hl:l.length*16≤140737488355328) :
  Calls Tryz.prog 149 #[.slice A l.length c] w fun e w'=> ∃u,e= .returned u∧Below w.heap.size w w'∧ev w' w.heap.size u l:=by
 refine enter Tryz.func149 rfl Tryz.ntmps149 rfl ?_
 refine ac<|aa<|rn 1 [0] rfl<|ae<|ac<|ac<|aa<|rn 1 [0,3] rfl<|af (vv aI rfl rfl) rfl rfl<|ae<|cg rfl (fun h=>?_) (fun h=>?_)
 ·have h0:l= []:=by
   rcases Nat.eq_zero_or_pos l.length with h0 | h0
   ·exact List.eq_nil_of_length_eq_zero h0
   obtain⟨b,o,e⟩:=hs.addr h0
   subst e
   cases h
  subst h0
  refine ac<|aa<|rn 1 [2] rfl<|ae<|aq (ai ?_)
  refine av Tryz.results149 (an rfl) ?_
  intro w hw
  exact⟨_,rfl,mt hw⟩
 refine ar (am ?_)
 refine ac<|aa<|ag (bu (cs:= []) aI aV cy rfl rfl rfl rfl rfl) rfl rfl (fun g1 _=>?_)
 refine rn 1 [5,6] rfl<|fl (fun w h=>cE (α:=aX) (m:=0) [] rfl (by simp) rfl (by decide) h) ?_
 refine ag (iP (α:=aX) (bytes:=16) (xs:= []) (ys:=l) rfl aI (cU gg) rfl fc (.ro hs) (by simp only[List.length_nil];omega) (by simp only[List.length_nil];omega) rfl rfl rfl) rfl rfl (fun⟨A5,c5⟩ _=>?_)
 try dsimp only
 refine rn 1 [2] rfl<|ae<|aq<|av Tryz.results149 (an rfl) ?_
 intro w hw
 exact⟨_,rfl,ll hw⟩
def dM (l:List Int):List aX:=l.map fun t=>⟨decide (t=2),0⟩
theorem kN (l:List Int):(dM l).length=l.length:=by simp[dM]
theorem xe {l:List Int} {k:Nat} (hk:k<l.length):dM (l.take (k+1))=dM (l.take k)++ [⟨decide (l.getD k 0=2),0⟩]:=by
 rw[fx l k 0 hk]
 simp[dM]
set_option maxRecDepth 100000 in
theorem t6 (p r:Int) (A1 A2:Option Addr) (c1 c2 n2:Nat) (l:List Int) (w:World) (hs:Sl w (.slice A1 l.length c1) l) (hb:l.length*16≤140737488355328) :
  Calls Tryz.prog 114 #[.agg #[.int .i64 p,.slice A1 l.length c1,.int .i64 r,.slice A2 n2 c2]] w fun e w'=> ∃u,e= .returned u∧Below w.heap.size w w'∧ev w' w.heap.size u (dM l):=by
 refine enter Tryz.func114 rfl Tryz.ntmps114 rfl ?_
 refine ac<|aa<|ag (bH rfl rfl rfl) rfl rfl (fun g1 _=>?_)
 refine rn 1 [1] rfl<|ae<|ac<|aa<|rn 1 [1,3] rfl<|ae<|ac<|ac<|aa<|rn 1 [3,6] rfl<|af (aj fc aW rfl rfl (by rfl)) rfl rfl ?_
 refine af (aM ah rfl rfl) rfl rfl<|rn 1 [3,7,8,9] rfl<|ae<|dA (fun w h=>Cw.nilO aX h) ?_
 refine aB (bI (fun g:Nat×Option Addr×Nat=>g.1≤l.length) (fun g=>l.length - g.1) (fun g=> [(3,.slice g.2.1 (dM (l.take g.1)).length g.2.2),(7,.slice A1 l.length c1),(8,.int .i64 (l.length:Int)),(9,.int .i64 (g.1:Int))]) (fun g=> [ap (.slice g.2.1 (dM (l.take g.1)).length g.2.2) (dM (l.take g.1))]) (0,none,0) (Nat.zero_le _) ⟨rfl,rfl,rfl,rfl,trivial⟩ me ?_)
 rintro⟨k,A,c⟩ hk
 try dsimp only
 have hk:k≤l.length:=hk
 have htl:(dM (l.take k)).length=k:=by rw[kN,List.length_take];omega
 refine ac<|aa<|rn 1 [3,7,8,9,10] rfl<|ae<|ac<|aw rfl (fun hlt=>?_) (fun hlt=>?_)
 ·have hkl:k<l.length:=by omega
  refine ar (am ?_)
  refine ac<|aB<|ac<|aa<|af (aQ ah aF (.ro hs) (by omega) rfl rfl rfl) rfl rfl<|af (a8 (SF.int (.ro hs) (by omega)) rfl rfl au) rfl rfl<|rn 1 [3,5,7,8,9] rfl<|ae<|aa<|rn 3 [7,8,9,13,15] rfl<|af (bN (cs:= [_,_]) nR cy rfl rfl (by rfl)) rfl rfl ?_
  refine ag (bu (cs:= [_,_]) aI aV cy rfl rfl rfl rfl rfl) rfl rfl (fun g2 _=>?_)
  refine ag (dJ (α:=aX) (bytes:=16) ⟨decide (l.getD k 0=2),0⟩ [] (xe hkl) aI (cU gg) rfl (fV fc fc) (eD (by show be 0;decide)) (by omega) (by omega) rfl rfl rfl) rfl rfl (fun⟨A3,c3⟩ _=>?_)
  try dsimp only
  refine rn 1 [3,7,8,9] rfl<|bC (aH (am ?_))
  refine aa<|af (br rfl rfl rfl (by omega)) rfl rfl<|rn 1 [3,7,8,9] rfl<|a5 (k+1,A3,c3) (by show k+1≤_;omega) (by show _ - _<_ - _;omega) ⟨rfl,rfl,rfl,rfl,trivial⟩ me
 obtain rfl:k=l.length:=by omega
 rw[List.take_length]
 refine bz (aD (aD (bO (am ?_))))
 refine ac<|aa<|rn 2 [2] rfl<|ae<|aq<|av Tryz.results114 (an rfl) ?_
 intro w hw
 exact⟨_,rfl,ll hw⟩
def gz (l:List aO):Prop:=l.length*64≤140737488355328∧∀x∈l,x.locals.length*16≤140737488351232∧x.stack.length*16≤140737488351232
structure DQ (m:aG):Prop where
 f:gz m.frames
 b:qP m.blocks
 i:m.inn.length≤1000000
 o:m.out.length≤1000000
theorem eU {l:List aO} {k:Nat} (hk:k<l.length):bh l k∈l:=by
 unfold bh
 rw[List.getD_eq_getElem?_getD,List.getElem?_eq_getElem hk]
 exact List.getElem_mem hk
theorem xK {l:List aO} {k:Nat} (hk:k<l.length):l.take (k+1)=l.take k++ [bh l k]:=fx l k default hk
theorem si {v1 v2:Value} {x:aO} (hi:be x.func∧be x.pc):∀(w:World) (F:Nat→Prop),Hs w [ap v1 x.locals,ap v2 x.stack] F→Ow.own w F [.int .i64 x.func,.int .i64 x.pc,v1,v2] x:=fun _ _ h=>⟨v1,v2,rfl,hi,h⟩
set_option maxRecDepth 100000 in
set_option maxHeartbeats 4000000 in
theorem lj (a:MA) (m:aG) (w:World) (hm:dQ w.heap.size w a m) (hfit:DQ m) :
  Calls Tryz.prog 115 #[.agg #[.slice a.Af m.frames.length a.cf,.slice a.Ab m.blocks.length a.cb,.slice a.Ai m.inn.length a.ci,.slice a.Ao m.out.length a.co,.int .i64 m.status,.int .i64 m.trap]] w fun e w'=> ∃g:MA,True∧
   e= .returned (.agg #[.slice g.Af m.frames.length g.cf,.slice g.Ab m.blocks.length g.cb,.slice g.Ai m.inn.length g.ci,.slice g.Ao m.out.length g.co,.int .i64 m.status,.int .i64 m.trap])∧
   Cw w.heap.size w [ap (.slice g.Af m.frames.length g.cf) m.frames,ap (.slice g.Ab m.blocks.length g.cb) m.blocks,ap (.slice g.Ai m.inn.length g.ci) m.inn,ap (.slice g.Ao m.out.length g.co) m.out] w':=by
 have b1:=cn hm.f
 have hf64:=hfit.f.1
 refine enter Tryz.func115 rfl Tryz.ntmps115 rfl ?_
 refine ac<|aa<|ag (bH rfl rfl rfl) rfl rfl (fun g1 _=>?_)
 refine ag (aS aR rfl rfl) rfl rfl (fun g2 _=>?_)
 refine ae<|eb (fun _:Nat×(Option Addr×Nat)×(Option Addr×Nat)×(Option Addr×Nat)=>True) (fun g=> [(1,.pointer (some ⟨g1,0,none⟩)),(2,.pointer (some ⟨g2,0,none⟩)),(3,.pointer (some ⟨g.1,0,none⟩))]) (fun g=> [ak g1 [.slice a.Af m.frames.length a.cf,.slice a.Ab m.blocks.length a.cb,.slice a.Ai m.inn.length a.ci,.slice a.Ao m.out.length a.co,.int .i64 m.status,.int .i64 m.trap] 29,ak g2 [.slice none 0 0,.slice none 0 0,.slice none 0 0,.slice none 0 0,.int .i64 0,.int .i64 0] 29,ak g.1 [.slice none 0 0,.slice g.2.1.1 m.blocks.length g.2.1.2,.slice g.2.2.1.1 m.inn.length g.2.2.1.2,.slice g.2.2.2.1 m.out.length g.2.2.2.2,.int .i64 m.status,.int .i64 m.trap] 29,ap (.slice g.2.1.1 m.blocks.length g.2.1.2) m.blocks,ap (.slice g.2.2.1.1 m.inn.length g.2.2.1.2) m.inn,ap (.slice g.2.2.2.1 m.out.length g.2.2.2.2) m.out]) ?_ ?_
 ·refine cD (.still 0 (.still 1 (.still 3 (.still 4 (.still 6 (.still 7 (.still 9 (.still 10 (.still 11 (.still 12 (.pick 2 (.pick 5 (.pick 8 (.still 13 (.pick 14 (.pick 15 .done .stop) .stop)) (.pick 14 (.pick 8 (.still 13 (.pick 15 .done .stop)) .stop) .stop)) (.pick 14 (.pick 5 (.pick 8 (.still 13 (.pick 15 .done .stop)) .stop) .stop) .stop)) (.pick 14 (.pick 2 (.pick 5 (.pick 8 (.still 13 (.pick 15 .done .stop)) .stop) .stop) .stop) .stop)))))))))))) [15] rfl (by kernel_rfl) (by kernel_rfl) ?_
  refine aU ha 1 [1,2,6] rfl<|ax rfl (aj fc dS rfl rfl (by rfl)) rfl rfl ha ?_
  refine aU ha 1 [1,2,7,9] rfl<|ax rfl (aj fc aW rfl rfl (by rfl)) rfl rfl ha ?_
  refine aU ha 1 [1,2,7,10,12] rfl<|ax rfl (aj fc aW rfl rfl (by rfl)) rfl rfl ha ?_
  refine aU ha 1 [1,2,7,10,13,15] rfl<|ax rfl (aj fc au rfl rfl (by rfl)) rfl rfl ha ?_
  refine aU ha 1 [1,2,7,10,13,16,17] rfl<|ax rfl (aj fc au rfl rfl (by rfl)) rfl rfl ha ?_
  refine aK rfl (fR rfl rfl rfl Tryz.call147 (fun w hw=>tq _ m.blocks w (hw.ro hm.b) hfit.b)) rfl rfl (.inr fun _=>ha) (fun⟨A1,c1⟩ _=>?_) ?_
  ·try dsimp only
   refine aK rfl (fR rfl rfl rfl jS (fun w hw=>iA _ m.inn w (hw.ro hm.i) hfit.i)) rfl rfl (.inr fun _=>ha) (fun⟨A2,c2⟩ _=>?_) ?_
   ·try dsimp only
    refine aK rfl (fR rfl rfl rfl jS (fun w hw=>iA _ m.out w (hw.ro hm.o) hfit.o)) rfl rfl (.inr fun _=>ha) (fun⟨A3,c3⟩ _=>?_) ?_
    ·try dsimp only
     refine ax rfl (bN (cs:= [_,_,_,_,_,_]) ij aR rfl rfl (by rfl)) rfl rfl ha ?_
     refine aK rfl (aS aR rfl rfl) rfl rfl (.inr fun _=>ha) (fun gx _=>?_) aE
     refine aK rfl (aJ _ fc ay rfl rfl rfl rfl rfl (by rfl) rfl (by rfl)) rfl rfl (.inl rfl) (fun _ _=>?_) aE
     refine df<|bq (gx,(A1,c1),(A2,c2),(A3,c3)) (trivial) ⟨rfl,rfl,rfl,trivial⟩ (fun _ h=>h.msub ms)
    refine aK rfl (aS aR rfl rfl) rfl rfl (.inr fun _=>ha) (fun gx _=>?_) aE
    refine aK rfl (fR rfl rfl rfl jS (fun w hw=>iA _ m.out w (hw.ro hm.o) hfit.o)) rfl rfl (.inr fun _=>ha) (fun⟨A3,c3⟩ _=>?_) aE
    try dsimp only
    refine ax rfl (bN (cs:= [_,_,_,_,_,_]) ij aR rfl rfl (by rfl)) rfl rfl ha ?_
    refine aK rfl (aJ _ fc ay rfl rfl rfl rfl rfl (by rfl) rfl (by rfl)) rfl rfl (.inl rfl) (fun _ _=>?_) aE
    refine df<|bq (gx,(A1,c1),(A2,c2),(A3,c3)) (trivial) ⟨rfl,rfl,rfl,trivial⟩ (fun _ h=>h.msub ms)
   refine aK rfl (aS aR rfl rfl) rfl rfl (.inr fun _=>ha) (fun gx _=>?_) aE
   refine aK rfl (fR rfl rfl rfl jS (fun w hw=>iA _ m.inn w (hw.ro hm.i) hfit.i)) rfl rfl (.inr fun _=>ha) (fun⟨A2,c2⟩ _=>?_) aE
   try dsimp only
   refine aK rfl (fR rfl rfl rfl jS (fun w hw=>iA _ m.out w (hw.ro hm.o) hfit.o)) rfl rfl (.inr fun _=>ha) (fun⟨A3,c3⟩ _=>?_) aE
   try dsimp only
   refine ax rfl (bN (cs:= [_,_,_,_,_,_]) ij aR rfl rfl (by rfl)) rfl rfl ha ?_
   refine aK rfl (aJ _ fc ay rfl rfl rfl rfl rfl (by rfl) rfl (by rfl)) rfl rfl (.inl rfl) (fun _ _=>?_) aE
   refine df<|bq (gx,(A1,c1),(A2,c2),(A3,c3)) (trivial) ⟨rfl,rfl,rfl,trivial⟩ (fun _ h=>h.msub ms)
  refine aK rfl (aS aR rfl rfl) rfl rfl (.inr fun _=>ha) (fun gx _=>?_) aE
  refine aK rfl (fR rfl rfl rfl Tryz.call147 (fun w hw=>tq _ m.blocks w (hw.ro hm.b) hfit.b)) rfl rfl (.inr fun _=>ha) (fun⟨A1,c1⟩ _=>?_) aE
  try dsimp only
  refine aK rfl (fR rfl rfl rfl jS (fun w hw=>iA _ m.inn w (hw.ro hm.i) hfit.i)) rfl rfl (.inr fun _=>ha) (fun⟨A2,c2⟩ _=>?_) aE
  try dsimp only
  refine aK rfl (fR rfl rfl rfl jS (fun w hw=>iA _ m.out w (hw.ro hm.o) hfit.o)) rfl rfl (.inr fun _=>ha) (fun⟨A3,c3⟩ _=>?_) aE
  try dsimp only
  refine ax rfl (bN (cs:= [_,_,_,_,_,_]) ij aR rfl rfl (by rfl)) rfl rfl ha ?_
  refine aK rfl (aJ _ fc ay rfl rfl rfl rfl rfl (by rfl) rfl (by rfl)) rfl rfl (.inl rfl) (fun _ _=>?_) aE
  refine df<|bq (gx,(A1,c1),(A2,c2),(A3,c3)) (trivial) ⟨rfl,rfl,rfl,trivial⟩ (fun _ h=>h.msub ms)
 rintro⟨gx,⟨Ab,cb⟩,⟨Ai,ci⟩,⟨Ao,co⟩⟩ _
 try dsimp only
 refine dA (fun w h=>Cw.nilO aO h) ?_
 refine ac<|ac<|aa<|rn 1 [2,3,20] rfl<|af (aj fc bP rfl rfl (by rfl)) rfl rfl ?_
 refine af (aM aP rfl rfl) rfl rfl<|rn 1 [2,3,21,22,23] rfl<|ae<|aB (bI (fun g:Nat×Option Addr×Nat=>g.1≤m.frames.length) (fun g=>m.frames.length - g.1) (fun g=> [(2,.pointer (some ⟨g2,0,none⟩)),(3,.pointer (some ⟨gx,0,none⟩)),(21,.slice a.Af m.frames.length a.cf),(22,.int .i64 (m.frames.length:Int)),(23,.int .i64 (g.1:Int))]) (fun g=> [ap (.slice g.2.1 (m.frames.take g.1).length g.2.2) (m.frames.take g.1),ak g1 [.slice a.Af m.frames.length a.cf,.slice a.Ab m.blocks.length a.cb,.slice a.Ai m.inn.length a.ci,.slice a.Ao m.out.length a.co,.int .i64 m.status,.int .i64 m.trap] 29,ak g2 [.slice none 0 0,.slice none 0 0,.slice none 0 0,.slice none 0 0,.int .i64 0,.int .i64 0] 29,ap (.slice Ab m.blocks.length cb) m.blocks,ap (.slice Ai m.inn.length ci) m.inn,ap (.slice Ao m.out.length co) m.out,ak gx [.slice g.2.1 (m.frames.take g.1).length g.2.2,.slice Ab m.blocks.length cb,.slice Ai m.inn.length ci,.slice Ao m.out.length co,.int .i64 m.status,.int .i64 m.trap] 29]) (0,none,0) (Nat.zero_le _) ⟨rfl,rfl,rfl,rfl,rfl,trivial⟩ me ?_)
 rintro⟨k,A',c'⟩ hk
 try dsimp only
 have hk:k≤m.frames.length:=hk
 have htl:(m.frames.take k).length=k:=by rw[List.length_take];omega
 refine ac<|aa<|rn 1 [2,3,21,22,23,24] rfl<|ae<|ac<|aw rfl (fun hlt=>?_) (fun hlt=>?_)
 ·have hkl:k<m.frames.length:=by omega
  obtain⟨A1,c1,A2,c2,hl,hst,hi,hcell⟩:=hm.f.fr hkl
  obtain⟨hb1,hb2⟩:=hfit.f.2 (bh m.frames k) (eU hkl)
  have htk:=xK hkl
  refine ar (am ?_)
  refine eb (fun _:Option Addr×Nat=>True) (fun g=> [(2,.pointer (some ⟨g2,0,none⟩)),(3,.pointer (some ⟨gx,0,none⟩)),(21,.slice a.Af m.frames.length a.cf),(22,.int .i64 (m.frames.length:Int)),(23,.int .i64 (k:Int))]) (fun g=> [ap (.slice g.1 (m.frames.take (k+1)).length g.2) (m.frames.take (k+1)),ak g1 [.slice a.Af m.frames.length a.cf,.slice a.Ab m.blocks.length a.cb,.slice a.Ai m.inn.length a.ci,.slice a.Ao m.out.length a.co,.int .i64 m.status,.int .i64 m.trap] 29,ak g2 [.slice none 0 0,.slice none 0 0,.slice none 0 0,.slice none 0 0,.int .i64 0,.int .i64 0] 29,ap (.slice Ab m.blocks.length cb) m.blocks,ap (.slice Ai m.inn.length ci) m.inn,ap (.slice Ao m.out.length co) m.out,ak gx [.slice g.1 (m.frames.take (k+1)).length g.2,.slice Ab m.blocks.length cb,.slice Ai m.inn.length ci,.slice Ao m.out.length co,.int .i64 m.status,.int .i64 m.trap] 29]) ?_ ?_
  ·refine aB<|ac<|aa<|af (aQ aP bn (.ro hm.f) (by omega) rfl rfl rfl) rfl rfl<|af (cY (hcell _) rfl rfl gK bn) rfl rfl<|ag (aS cP rfl rfl) rfl rfl (fun g3 _=>?_)
   refine ag (aJ _ fc bn rfl rfl rfl rfl rfl (by rfl) rfl (by rfl)) rfl rfl (fun _ _=>?_)
   refine ae<|cD (.still 0 (.still 1 (.still 2 (.still 3 (.still 4 (.still 5 (.still 6 (.still 7 (.still 9 (.still 10 (.pick 8 (.pick 11 (.still 12 (.pick 13 (.pick 14 (.calm 15 (.pick 16 .done .stop)) .stop) .stop)) .stop) .stop))))))))))) [14,15,16] rfl (by kernel_rfl) (by kernel_rfl) ?_
   refine aU ha 1 [2,3,5,21,22,23,27] rfl<|ax rfl (aj fc bP rfl rfl (by rfl)) rfl rfl ha ?_
   refine aU ha 1 [2,3,5,21,22,23,28,29] rfl<|ax rfl (aj fc au rfl rfl (by rfl)) rfl rfl ha ?_
   refine aU ha 1 [2,3,5,21,22,23,28,30,31] rfl<|ax rfl (aj fc au rfl rfl (by rfl)) rfl rfl ha ?_
   refine aU ha 1 [2,3,5,21,22,23,28,30,32,33] rfl<|ax rfl (aj fc cz rfl rfl (by rfl)) rfl rfl ha ?_
   refine aU ha 1 [2,3,21,22,23,28,30,32,34,36] rfl<|ax rfl (aj fc cz rfl rfl (by rfl)) rfl rfl ha ?_
   refine aK rfl (fR rfl rfl rfl Tryz.call149 (fun w hw=>sG _ _ (bh m.frames k).locals w (hw.ro hl) (by omega))) rfl rfl (.inr fun _=>ha) (fun⟨A3,c3⟩ _=>?_) aE
   try dsimp only
   refine aK rfl (fR rfl rfl rfl Tryz.call149 (fun w hw=>sG _ _ (bh m.frames k).stack w (hw.ro hst) (by omega))) rfl rfl (.inr fun _=>ha) (fun⟨A4,c4⟩ _=>?_) aE
   try dsimp only
   refine ax rfl (bN (cs:= [_,_,_,_]) uL cP rfl rfl (by rfl)) rfl rfl ha ?_
   refine aK rfl (bu (cs:= [_,_,_,_]) aP bn cP rfl rfl rfl rfl rfl) rfl rfl (.inr fun _=>ha) (fun g4 _=>?_) aE
   refine aK rfl (dJ (α:=aO) (bytes:=64) (bh m.frames k) [ap (.slice A3 (bh m.frames k).locals.length c3) (bh m.frames k).locals,ap (.slice A4 (bh m.frames k).stack.length c4) (bh m.frames k).stack] htk aP (cU kR) rfl (yQ fc fc fc fc) (si hi) (by omega) (by omega) rfl rfl rfl) rfl rfl (.inl rfl) (fun⟨A5,c5⟩ _=>?_) aE
   try dsimp only
   refine gL 1 [2,3,21,22,23,41,42] rfl<|aK rfl (aJ _ fc un rfl rfl rfl rfl rfl (by rfl) rfl (by rfl)) rfl rfl (.inl rfl) (fun _ _=>?_) aE
   refine df (aH ?_)
   refine bq (A5,c5) (trivial) ⟨rfl,rfl,rfl,rfl,rfl,trivial⟩ (fun _ h=>h.msub ms)
  rintro⟨A5,c5⟩ _
  try dsimp only
  refine aa<|af (br rfl rfl rfl (by omega)) rfl rfl<|rn 1 [2,3,21,22,23] rfl<|a5 (k+1,A5,c5) (by show k+1≤_;omega) (by show _ - _<_ - _;omega) ⟨rfl,rfl,rfl,rfl,rfl,trivial⟩ me
 obtain rfl:k=m.frames.length:=by omega
 rw[List.take_length]
 refine bz (aD (aD (bO (am ?_))))
 refine ac<|aa<|af (aN (vs:= [_,_,_,_,_,_]) fc aT ay rfl rfl (by rfl) rfl) rfl rfl ?_
 refine ag (aJ _ fc ay rfl rfl rfl rfl rfl (by rfl) rfl (by rfl)) rfl rfl (fun _ _=>?_)
 refine ae<|aq<|av Tryz.results115 (dH (cs:= [_,_,_,_,_,_]) fc aT ay rfl) ?_
 intro w hw
 exact⟨⟨A',c',Ab,cb,Ai,ci,Ao,co⟩,trivial,rfl,hw.msub ms⟩
end
section
theorem pF {α:Type} (xs:List α) (y d:α) {k:Nat} (hk:xs.length=k):(xs++ [y]).getD k d=y:=by
 subst hk
 rw[List.getD_eq_getElem?_getD,List.getElem?_append_right (Nat.le_refl _),Nat.sub_self]
 rfl
theorem Ct {α:Type} (xs:List α) (y y':α) {k:Nat} (hk:xs.length=k):(xs++ [y]).set k y'=xs++ [y']:=by
 subst hk
 rw[List.set_append_right _ _ (Nat.le_refl _),Nat.sub_self]
 rfl
theorem zS {α:Type} (xs:List α) (y:α) {k:Nat} (hk:xs.length=k):(xs++ [y]).take k=xs:=by
 subst hk
 exact List.take_left' rfl
section
variable {P:Program} {n:NF} {B:Nat} {w0:World} {env:cK} {H H':List a7} {o:Oper}
theorem gj {α:Type} [cS α] {xs:List α} {y:α} {A:Option Addr} {k c:Nat} (hk:xs.length=k) (hp:cZ H (ap (.slice A (k+1) c) (xs++ [y])) H') {j:Nat} {v:Value} (hj:(cS.enc y)[j]? =some v) :
  ∀w,Cw B w0 H w→w.cell? ⟨ab A,ao A+k*aL.k α+j,none⟩=some v:=fun w hw=>by
 refine SF.cell (SF.own (by rw[List.length_append,hk];rfl) hp) (Nat.lt_succ_self k) y ?_ w hw
 rw[pF xs y y hk]
 exact hj
theorem mz {α:Type} [cS α] {v:Value} {xs:List α} {w:World} (hw:Cw B w0 H w) (hp:cZ H (ap v xs) H') {x:α} (hx:x∈xs):cS.wf x:=by
 obtain⟨F,h,_⟩:=hw.rd hp
 rcases(show cL w F v xs from h) with ⟨_,rfl,_⟩ | ⟨g,p,cap,cur,Fs,ho⟩
 ·cases hx
 obtain⟨i,hi,rfl⟩:=List.getElem_of_mem hx
 exact(cS.own_iff.1 (ho.el i _ (List.getElem?_eq_getElem hi))).1.2
theorem ql {α:Type} [cS α] {v:Value} {xs:List α} {y:α} {w:World} (hw:Cw B w0 H w) (hp:cZ H (ap v (xs++ [y])) H'):cS.wf y:=mz hw hp (List.mem_append_right _ (List.mem_singleton.2 rfl))
theorem nV {α:Type} [cS α] {i j:Operand} {t:TypeId} {A:Option Addr} {c k f sz:Nat} {v:Value} {us:List Value} {xs:List α} (y y':α) (hk:xs.length=k) (hp:cZ H (ap (.slice A (k+1) c) (xs++ [y])) H') (hwf:cS.wf y') (hz:∀w,(sizeOf t).run P w= .ok sz w)
  (hop:o.op= .store t i j) (hi:opv env i=some (.pointer (some ⟨ab A,ao A+k*aL.k α+f,none⟩))) (hj:opv env j=some v) (hv:v.cells=us.toArray) (hkk:Nat.beq us.length sz=true) (h1:us.all Value.oneCell'=true)
  (hx:lq (cS.enc y) f us=cS.enc y') (hle:Nat.ble (f+us.length) (aL.k α)=true):OT P n B w0 o env H (γ:=Unit) (fun _=>True) (fun _=>undef) (fun _=>ap (.slice A (k+1) c) (xs++ [y'])::H'):=
 vE y' y (Ct xs y y' hk).symm hp (Nat.lt_succ_self k) hwf hz hop hi hj hv hkk h1 (by rw[pF xs y y hk];exact hx) hle
theorem uY {α:Type} [Ow α] {A:Option Addr} {k c:Nat} {xs:List α} {y:α} (hk:xs.length=k) {w:World} (h:Cw B w0 (ap (.slice A (k+1) c) (xs++ [y])::H) w):Cw B w0 (ap (.slice A k c) xs::H) w:=by
 have:=p6 (k:=k) (Nat.le_succ k) h
 rwa [zS xs y hk] at this
set_option maxRecDepth 100000 in
theorem mI (gd k c:Nat) (A:Option Addr) (hs:List aZ) (w:World) (hc:w.cell? ⟨gd,0,none⟩=some (.slice A (k+1) c)) (hlt:gd<w.heap.size) (hsl:Sl w (.slice A (k+1) c) hs) :
  Calls Tryz.prog 151 #[.pointer (some ⟨gd,0,none⟩)] w fun e w'=>e= .returned (.pointer (some ⟨ab A,ao A+k*4,none⟩))∧Below w.heap.size w w':=by
 have hb:=cn hsl
 refine enter Tryz.func151 rfl Tryz.ntmps151 rfl ?_
 refine ac<|aa<|rn 1 [0] rfl<|ae<|ac<|cD (.still 0 (.still 1 (.still 2 (.still 3 (.still 4 (.still 5 (.still 6 (.still 7 (.still 8 (.still 9 (.still 10 (.still 11 (.still 12 (.still 13 .done)))))))))))))) [] rfl (by kernel_rfl) (by kernel_rfl) ?_
 refine aU ha 4 [0,6] rfl<|ax rfl (a8 (fun w' hw=>(hw.below.cell hlt).trans hc) rfl rfl bP) rfl rfl ha ?_
 refine aU ha 4 [7,11] rfl<|ax rfl (a8 (fun w' hw=>(hw.below.cell hlt).trans hc) rfl rfl bP) rfl rfl ha ?_
 refine ax rfl (aM aP rfl rfl) rfl rfl ha ?_
 refine ax rfl (cH rfl rfl rfl (by omega)) rfl rfl ha ?_
 refine eq (t:=14) (v':= .int .i64 (k:Int)) rfl (by congr 1;omega) ?_
 refine ax rfl (aQ (k:=k) aP bn (.ro hsl) (by omega) rfl rfl rfl) rfl rfl ha ?_
 refine aU ha 1 [2] rfl<|cT<|aq<|av Tryz.results151 (an rfl) ?_
 intro w hw
 exact⟨rfl,hw.below⟩
end
section
variable {B:Nat} {w0:World} {H:List a7}
set_option maxRecDepth 100000 in
set_option maxHeartbeats 1000000 in
theorem eB (gd k:Nat) (hl:List aZ) (hk:hl.length=k) (A As:Option Addr) (c cs:Nat) (r:List Value) (f p:Int) (lv:Value) (s:List aX) (v:aX) (w:World)
  (hw:Cw B w0 (ak gd (.slice A (k+1) c::r) 159::ap (.slice A (k+1) c) (hl++ [(⟨f,p,lv,.slice As (s.length+1) cs⟩:aZ)])::ap (.slice As (s.length+1) cs) (s++ [v])::H) w) :
  Calls Tryz.prog 182 #[.pointer (some ⟨gd,0,none⟩)] w fun e w'=> ∃_:Unit,True∧e= .returned (.agg #[.bool v.ref,.int .i64 v.n])∧
   Cw B w0 (ak gd (.slice A (k+1) c::r) 159::ap (.slice A (k+1) c) (hl++ [(⟨f,p,lv,.slice As s.length cs⟩:aZ)])::ap (.slice As s.length cs) s::H) w':=by
 have hlk:∀h:aZ,(hl++ [h]).length=k+1:=fun h=>by rw[List.length_append,hk];rfl
 have hwf:aZ.wf _:=ql hw .b
 have hsl:(s++ [v]).length=s.length+1:=by simp
 have hb:s.length+1≤140737488355328:=cn (SF.at_ (SF.own hsl .c) hw)
 refine bS Tryz.func182 rfl Tryz.ntmps182 rfl hw ?_
 refine ac<|aa<|ag (aS cy rfl rfl) rfl rfl (fun g1 _=>?_)
 refine ae<|ac<|aa<|rn 1 [2,6] rfl<|ag (aY rfl rfl rfl wV (fun w hw=>mI gd k c A (hl++ [(⟨f,p,lv,.slice As (s.length+1) cs⟩:aZ)]) w (eV fc rfl w hw) (jx hw fc) (SF.at_ (SF.own (hlk _) fc) hw))) rfl rfl (fun _ _=>?_)
 refine rn 1 [2,3] rfl<|ae<|ac<|aa<|rn 3 [2,3,10] rfl<|af (a8 (gj (j:=3) hk fc rfl) rfl rfl cz) rfl rfl ?_
 refine af (aM aI rfl rfl) rfl rfl<|af (cH rfl rfl rfl (by omega)) rfl rfl<|rn 1 [2,3,4] rfl<|ae<|ac<|aa<|rn 3 [2,3,4,16] rfl<|af (a8 (gj (j:=3) hk fc rfl) rfl rfl cz) rfl rfl ?_
 refine rn 1 [2,3,4,17,18] rfl<|bV (t:=18) (v':= .int .i64 (s.length:Int)) rfl (by congr 1;omega) ?_
 refine af (aQ (k:=s.length) aI aV (SF.own (xs:=s++ [v]) hsl fc) (by omega) rfl rfl rfl) rfl rfl ?_
 refine af (cY (cs:= [.bool v.ref,.int .i64 v.n]) (fun w hw j u hj=>gj (α:=aX) rfl fc hj w hw) rfl rfl dZ aV) rfl rfl ?_
 refine ag (aS cy rfl rfl) rfl rfl (fun g2 _=>?_)
 refine ag (aJ _ fc aV rfl rfl rfl rfl rfl (by rfl) rfl (by rfl)) rfl rfl (fun _ _=>?_)
 refine ae<|ac<|aa<|rn 4 [2,4,5,21,24] rfl<|af (a8 (gj (j:=3) hk fc rfl) rfl rfl cz) rfl rfl ?_
 refine rn 1 [2,5,21,25,26] rfl<|bV (t:=26) (v':= .int .i64 (s.length:Int)) rfl (by congr 1;omega) ?_
 refine mn (fun w h=>nT h (xs:=s++ [v]) fc) fun hcap=>?_
 refine af (lz (k:=s.length) aI aV (by omega) rfl rfl rfl) rfl rfl<|rn 2 [2,5,27,29] rfl<|ag (nV (α:=aZ) ⟨f,p,lv,.slice As (s.length+1) cs⟩ ⟨f,p,lv,.slice As s.length cs⟩ hk fc ⟨hwf.1,hwf.2.1,rfl⟩ fd rfl rfl rfl rfl rfl rfl rfl rfl) rfl rfl (fun _ _=>?_)
 refine ae<|ac<|aa<|af (aN (vs:= [_,_]) fc dZ aV rfl rfl (by rfl) rfl) rfl rfl ?_
 refine ag (aJ _ fc aV rfl rfl rfl rfl rfl (by rfl) rfl (by rfl)) rfl rfl (fun _ _=>?_)
 refine ae<|aq<|av Tryz.results182 (dH (cs:= [_,_]) fc dZ aV rfl) ?_
 intro w hw
 exact⟨(),trivial,rfl,(uY rfl (hw.msub (T:=ap (.slice As (s.length+1) cs) (s++ [v])::ak gd _ _::ap (.slice A (k+1) c) _::H) ms)).msub ms⟩
set_option maxRecDepth 100000 in
set_option maxHeartbeats 1000000 in
theorem jv (gd k:Nat) (hl:List aZ) (hk:hl.length=k) (A As Av:Option Addr) (c cs cv:Nat) (r:List Value) (f p:Int) (lv:Value) (s ys:List aX) (w:World) (hs:SF B w0 H Av ys.length cv ys) (hb:s.length+ys.length≤1000000)
  (hw:Cw B w0 (ak gd (.slice A (k+1) c::r) 159::ap (.slice A (k+1) c) (hl++ [(⟨f,p,lv,.slice As s.length cs⟩:aZ)])::ap (.slice As s.length cs) s::H) w) :
  Calls Tryz.prog 183 #[.pointer (some ⟨gd,0,none⟩),.slice Av ys.length cv] w fun e w'=> ∃g:Option Addr×Nat,True∧e= .returned (.tuple #[])∧
   Cw B w0 (ak gd (.slice A (k+1) c::r) 159::ap (.slice A (k+1) c) (hl++ [(⟨f,p,lv,.slice g.1 (s++ys).length g.2⟩:aZ)])::ap (.slice g.1 (s++ys).length g.2) (s++ys)::H) w':=by
 have hlk:∀h:aZ,(hl++ [h]).length=k+1:=fun h=>by rw[List.length_append,hk];rfl
 have hwf:aZ.wf _:=ql hw .b
 refine bS Tryz.func183 rfl Tryz.ntmps183 rfl hw ?_
 refine ac<|aa<|rn 1 [1,5] rfl<|ag (aY rfl rfl rfl wV (fun w hw=>mI gd k c A (hl++ [(⟨f,p,lv,.slice As s.length cs⟩:aZ)]) w (eV fc rfl w hw) (jx hw fc) (SF.at_ (SF.own (hlk _) fc) hw))) rfl rfl (fun _ _=>?_)
 refine rn 1 [1,4] rfl<|ae<|aa<|rn 4 [1,7,10] rfl<|af (a8 (gj (j:=3) hk fc rfl) rfl rfl cz) rfl rfl ?_
 refine rn 1 [7,11,12] rfl<|ag (iP (α:=aX) (bytes:=16) (xs:=s) (ys:=ys) rfl aI (cU gg) rfl (cZ.c) (.s (.s (.s hs))) (by omega) (by omega) rfl rfl rfl) rfl rfl (fun⟨A5,c5⟩ _=>?_)
 try dsimp only
 refine rn 2 [13,15] rfl<|ag (nV (α:=aZ) ⟨f,p,lv,.slice As s.length cs⟩ ⟨f,p,lv,.slice A5 (s++ys).length c5⟩ hk fc ⟨hwf.1,hwf.2.1,rfl⟩ fd rfl rfl rfl rfl rfl rfl rfl rfl) rfl rfl (fun _ _=>?_)
 refine bC<|cq Tryz.results183 ?_
 intro w hw
 exact⟨(A5,c5),trivial,rfl,hw.msub ms⟩
def dp (z:Int):aX:=⟨false,ia z⟩
set_option maxRecDepth 100000 in
set_option maxHeartbeats 1000000 in
theorem iG (gd k:Nat) (hl:List aZ) (hk:hl.length=k) (A As:Option Addr) (c cs:Nat) (r:List Value) (f p:Int) (lv:Value) (s:List aX) (z:Int) (w:World) (hb:s.length≤1000)
  (hw:Cw B w0 (ak gd (.slice A (k+1) c::r) 159::ap (.slice A (k+1) c) (hl++ [(⟨f,p,lv,.slice As s.length cs⟩:aZ)])::ap (.slice As s.length cs) s::H) w) :
  Calls Tryz.prog 181 #[.pointer (some ⟨gd,0,none⟩),.int .i64 z] w fun e w'=> ∃g:Option Addr×Nat,True∧e= .returned (.tuple #[])∧
   Cw B w0 (ak gd (.slice A (k+1) c::r) 159::ap (.slice A (k+1) c) (hl++ [(⟨f,p,lv,.slice g.1 (s++ [dp z]).length g.2⟩:aZ)])::ap (.slice g.1 (s++ [dp z]).length g.2) (s++ [dp z])::H) w':=by
 refine bS Tryz.func181 rfl Tryz.ntmps181 rfl hw ?_
 have hlk:∀h:aZ,(hl++ [h]).length=k+1:=fun h=>by rw[List.length_append,hk];rfl
 refine aa<|rn 2 [4,5] rfl<|ag (aY rfl rfl rfl Tryz.call217 ((fun w hw=>fm ((fun w hw=>Cf z w) w hw)))) rfl rfl (fun _ _=>?_)
 refine af (bN (cs:= [_,_]) nR cy rfl rfl (by rfl)) rfl rfl ?_
 refine ag (bu (cs:= [_,_]) aI aV cy rfl rfl rfl rfl rfl) rfl rfl (fun g1 _=>?_)
 refine fl (fun w h=>cE (α:=aX) (m:=1) [dp z] rfl (by simp[dp,cS.wf];exact tH z) rfl (by decide) h) ?_
 refine ag (bg rfl rfl rfl n7 (fun w hw=>jv gd k hl hk A As _ c cs 1 r f p lv s [dp z] w (SF.own rfl .a) (by simp only[List.length_singleton];omega) (hw.msub (.s fc (.s fc (.s fc .r)))))) rfl rfl (fun⟨A5,c5⟩ _=>?_)
 try dsimp only
 refine bC<|cq Tryz.results181 ?_
 intro w hw
 exact⟨(A5,c5),trivial,rfl,hw.msub ms⟩
end
end
end Go.Proofs.YtpacloheigifkaaGreat
