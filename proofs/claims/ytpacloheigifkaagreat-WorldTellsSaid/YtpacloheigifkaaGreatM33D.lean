/- Texts of one proof, one behind the other: lemmas alone. -/
import Derived.Test.YtpacloheigifkaaGreatM0D
import Derived.Test.YtpacloheigifkaaGreatM28D
import Derived.Test.YtpacloheigifkaaGreatM32D
import Derived.Test.YtpacloheigifkaaGreatM29D
import Derived.Test.YtpacloheigifkaaGreatM18D
import Derived.Test.YtpacloheigifkaaGreatM14D
import Derived.Test.YtpacloheigifkaaGreatM25D
import Derived.Test.YtpacloheigifkaaGreatM13D

namespace Go.Proofs.YtpacloheigifkaaGreat
open Go.RowKit
section
theorem dk:(Tryz.prog.info? 103).map (fun i=>(i.zero,i.size,i.bytes))=some (some (.agg #[.bool false,.int .i64 0]),2,16):=by kernel_rfl
theorem j7:(Tryz.prog.info? 97).map (fun i=>(i.zero,i.size,i.bytes))=some (some (.agg #[.int .i64 0,.int .i64 0,.slice none 0 0,.slice none 0 0]),4,64):=by kernel_rfl
theorem kR:(Tryz.prog.info? 29).map (fun i=>(i.zero,i.size,i.bytes))=some (some (.agg #[.slice none 0 0,.slice none 0 0,.slice none 0 0,.slice none 0 0,.int .i64 0,.int .i64 0]),6,112):=by kernel_rfl
set_option maxRecDepth 100000 in
theorem qQ (A:Option Addr) (c:Nat) (l:List aS) (w:World) (hs:Sl w (.slice A l.length c) l) (hl:l.length*16≤140737488355328) :
  Calls Tryz.prog 149 #[.slice A l.length c] w fun e w'=> ∃u,e= .returned u∧Below w.heap.size w w'∧dT w' w.heap.size u l:=by
 refine enter Tryz.func149 rfl Tryz.ntmps149 rfl ?_
 refine ac<|aa<|rn 1 [0] rfl<|ae<|ac<|ac<|aa<|rn 1 [0,3] rfl<|af (tp az rfl rfl) rfl rfl<|ae<|cH rfl (fun h=>?_) (fun h=>?_)
 ·have h0:l= []:=by
   rcases Nat.eq_zero_or_pos l.length with h0 | h0
   ·exact List.eq_nil_of_length_eq_zero h0
   obtain⟨b,o,e⟩:=hs.addr h0
   subst e
   cases h
  subst h0
  refine ac<|aa<|rn 1 [2] rfl<|ae<|au (ak ?_)
  refine aA Tryz.results149 (aq rfl) ?_
  intro w hw
  exact⟨_,rfl,lJ hw⟩
 refine ax (ap ?_)
 refine ac<|aa<|ag (bh (cs:= []) az aE bu rfl rfl rfl rfl rfl) rfl rfl (fun g1 _=>?_)
 refine rn 1 [5,6] rfl<|iD (fun w h=>cA (α:=aS) (m:=0) [] rfl (by simp) rfl (by decide) h) ?_
 refine ag (dy (α:=aS) (bytes:=16) (xs:= []) (ys:=l) rfl az (bM dk) rfl fc (.ro hs) (by simp only[List.length_nil];omega) (by simp only[List.length_nil];omega) rfl rfl rfl) rfl rfl (fun⟨A5,c5⟩ _=>?_)
 try dsimp only
 refine rn 1 [2] rfl<|ae<|au<|aA Tryz.results149 (aq rfl) ?_
 intro w hw
 exact⟨_,rfl,jL hw⟩
def cV (l:List Int):List aS:=l.map fun t=>⟨decide (t=2),0⟩
theorem ix (l:List Int):(cV l).length=l.length:=by simp[cV]
theorem pr {l:List Int} {k:Nat} (hk:k<l.length):cV (l.take (k+1))=cV (l.take k)++ [⟨decide (l.getD k 0=2),0⟩]:=by
 rw[e9 l k 0 hk]
 simp[cV]
set_option maxRecDepth 100000 in
theorem r5 (p r:Int) (A1 A2:Option Addr) (c1 c2 n2:Nat) (l:List Int) (w:World) (hs:Sl w (.slice A1 l.length c1) l) (hb:l.length*16≤140737488355328) :
  Calls Tryz.prog 114 #[.agg #[.int .i64 p,.slice A1 l.length c1,.int .i64 r,.slice A2 n2 c2]] w fun e w'=> ∃u,e= .returned u∧Below w.heap.size w w'∧dT w' w.heap.size u (cV l):=by
 refine enter Tryz.func114 rfl Tryz.ntmps114 rfl ?_
 refine ac<|aa<|ag (bF rfl rfl rfl) rfl rfl (fun g1 _=>?_)
 refine rn 1 [1] rfl<|ae<|ac<|aa<|rn 1 [1,3] rfl<|ae<|ac<|ac<|aa<|rn 1 [3,6] rfl<|af (ai fc a5 rfl rfl (by rfl)) rfl rfl ?_
 refine af (aN ah rfl rfl) rfl rfl<|rn 1 [3,7,8,9] rfl<|ae<|dO (fun w h=>Cw.nilO aS h) ?_
 refine aL (b8 (fun g:Nat×Option Addr×Nat=>g.1≤l.length) (fun g=>l.length - g.1) (fun g=> [(3,.slice g.2.1 (cV (l.take g.1)).length g.2.2),(7,.slice A1 l.length c1),(8,.int .i64 (l.length:Int)),(9,.int .i64 (g.1:Int))]) (fun g=> [aj (.slice g.2.1 (cV (l.take g.1)).length g.2.2) (cV (l.take g.1))]) (0,none,0) (Nat.zero_le _) ⟨rfl,rfl,rfl,rfl,trivial⟩ me ?_)
 rintro⟨k,A,c⟩ hk
 try dsimp only
 have hk:k≤l.length:=hk
 have htl:(cV (l.take k)).length=k:=by rw[ix,List.length_take];omega
 refine ac<|aa<|rn 1 [3,7,8,9,10] rfl<|ae<|ac<|aw rfl (fun hlt=>?_) (fun hlt=>?_)
 ·have hkl:k<l.length:=by omega
  refine ax (ap ?_)
  refine ac<|aL<|ac<|aa<|af (aO ah aI (.ro hs) (by omega) rfl rfl rfl) rfl rfl<|af (a8 (SF.int (.ro hs) (by omega)) rfl rfl ar) rfl rfl<|rn 1 [3,5,7,8,9] rfl<|ae<|aa<|rn 3 [7,8,9,13,15] rfl<|af (cT (cs:= [_,_]) kY bu rfl rfl (by rfl)) rfl rfl ?_
  refine ag (bh (cs:= [_,_]) az aE bu rfl rfl rfl rfl rfl) rfl rfl (fun g2 _=>?_)
  refine ag (dm (α:=aS) (bytes:=16) ⟨decide (l.getD k 0=2),0⟩ [] (pr hkl) az (bM dk) rfl (eA fc fc) (dI (by show aX 0;decide)) (by omega) (by omega) rfl rfl rfl) rfl rfl (fun⟨A3,c3⟩ _=>?_)
  try dsimp only
  refine rn 1 [3,7,8,9] rfl<|bE (aK (ap ?_))
  refine aa<|af (bH rfl rfl rfl (by omega)) rfl rfl<|rn 1 [3,7,8,9] rfl<|br (k+1,A3,c3) (by show k+1≤_;omega) (by show _ - _<_ - _;omega) ⟨rfl,rfl,rfl,rfl,trivial⟩ me
 obtain rfl:k=l.length:=by omega
 rw[List.take_length]
 refine bN (aM (aM (cc (ap ?_))))
 refine ac<|aa<|rn 2 [2] rfl<|ae<|au<|aA Tryz.results114 (aq rfl) ?_
 intro w hw
 exact⟨_,rfl,jL hw⟩
set_option maxRecDepth 100000 in
theorem wA (p r:Int) (A1 A2:Option Addr) (c1 c2 n2:Nat) (l:List Int) (w:World) (hs:Sl w (.slice A1 l.length c1) l) (hb:l.length*16≤140737488355328) :
  Calls Tryz.prog 74 #[.agg #[.int .i64 p,.slice A1 l.length c1,.int .i64 r,.slice A2 n2 c2]] w fun e w'=> ∃u,e= .returned u∧Below w.heap.size w w'∧dT w' w.heap.size u (cV l):=by
 refine enter Tryz.func74 rfl Tryz.ntmps74 rfl ?_
 refine ac<|aa<|ag (bF rfl rfl rfl) rfl rfl (fun g1 _=>?_)
 refine rn 1 [1] rfl<|ae<|ac<|aa<|rn 1 [1,3] rfl<|ae<|ac<|ac<|aa<|rn 1 [1,3,4] rfl<|ae<|dO (fun w h=>Cw.nilO aS h) ?_
 refine aL (b8 (fun g:Nat×Option Addr×Nat=>g.1≤l.length) (fun g=>l.length - g.1) (fun g=> [(1,.pointer (some ⟨g1,0,none⟩)),(3,.slice g.2.1 (cV (l.take g.1)).length g.2.2),(4,.int .i64 (g.1:Int))]) (fun g=> [aj (.slice g.2.1 (cV (l.take g.1)).length g.2.2) (cV (l.take g.1)),am g1 [.int .i64 p,.slice A1 l.length c1,.int .i64 r,.slice A2 n2 c2] 110]) (0,none,0) (Nat.zero_le _) ⟨rfl,rfl,rfl,trivial⟩ me ?_)
 rintro⟨k,A,c⟩ hk
 try dsimp only
 have hk:k≤l.length:=hk
 have htl:(cV (l.take k)).length=k:=by rw[ix,List.length_take];omega
 refine ac<|ac<|aa<|rn 2 [1,3,4,5,6] rfl<|af (ai fc a5 rfl rfl (by rfl)) rfl rfl ?_
 refine af (aN ah rfl rfl) rfl rfl<|rn 1 [1,3,4,9] rfl<|ae<|aw rfl (fun hlt=>?_) (fun hlt=>?_)
 ·have hkl:k<l.length:=by omega
  refine ax (ap ?_)
  refine ac<|aL<|aa<|rn 2 [1,4,12,13] rfl<|af (ai fc a5 rfl rfl (by rfl)) rfl rfl ?_
  refine rn 1 [1,4,12,14,15] rfl<|af (aO ah aI (.ro hs) (by omega) rfl rfl rfl) rfl rfl<|af (a8 (SF.int (.ro hs) (by omega)) rfl rfl ar) rfl rfl<|rn 1 [1,4,12,18] rfl<|af (cT (cs:= [_,_]) kY bu rfl rfl (by rfl)) rfl rfl ?_
  refine ag (bh (cs:= [_,_]) az aE bu rfl rfl rfl rfl rfl) rfl rfl (fun g2 _=>?_)
  refine ag (dm (α:=aS) (bytes:=16) ⟨decide (l.getD k 0=2),0⟩ [] (pr hkl) az (bM dk) rfl (eA fc fc) (dI (by show aX 0;decide)) (by omega) (by omega) rfl rfl rfl) rfl rfl (fun⟨A3,c3⟩ _=>?_)
  try dsimp only
  refine rn 1 [1,3,4] rfl<|bE (aK (ap ?_))
  refine aa<|rn 1 [1,3,10] rfl<|af (bH rfl rfl rfl (by omega)) rfl rfl<|rn 1 [1,3,4] rfl<|br (k+1,A3,c3) (by show k+1≤_;omega) (by show _ - _<_ - _;omega) ⟨rfl,rfl,rfl,trivial⟩ me
 obtain rfl:k=l.length:=by omega
 rw[List.take_length]
 refine bN (aM (aM (cc (ap ?_))))
 refine ac<|aa<|rn 2 [2] rfl<|ae<|au<|aA Tryz.results74 (aq rfl) ?_
 intro w hw
 exact⟨_,rfl,jL (hw.msub ms)⟩
def l6 (l:List aW):Prop:=l.length*64≤140737488355328∧∀x∈l,x.locals.length*16≤140737488351232∧x.stack.length*16≤140737488351232
structure rC (m:aD):Prop where
 f:l6 m.frames
 b:qZ m.blocks
 i:m.inn.length≤1000000
 o:m.out.length≤1000000
theorem ft {l:List aW} {k:Nat} (hk:k<l.length):bg l k∈l:=by
 unfold bg
 rw[List.getD_eq_getElem?_getD,List.getElem?_eq_getElem hk]
 exact List.getElem_mem hk
theorem vz {l:List aW} {k:Nat} (hk:k<l.length):l.take (k+1)=l.take k++ [bg l k]:=e9 l k default hk
theorem tO {v1 v2:Value} {x:aW} (hi:aX x.func∧aX x.pc):∀(w:World) (F:Nat→Prop),Hs w [aj v1 x.locals,aj v2 x.stack] F→Ow.own w F [.int .i64 x.func,.int .i64 x.pc,v1,v2] x:=fun _ _ h=>⟨v1,v2,rfl,hi,h⟩
set_option maxRecDepth 100000 in
set_option maxHeartbeats 4000000 in
theorem kC (a:MA) (m:aD) (w:World) (hm:gk w.heap.size w a m) (hfit:rC m) :
  Calls Tryz.prog 115 #[.agg #[.slice a.Af m.frames.length a.cf,.slice a.Ab m.blocks.length a.cb,.slice a.Ai m.inn.length a.ci,.slice a.Ao m.out.length a.co,.int .i64 m.status,.int .i64 m.trap]] w fun e w'=> ∃g:MA,True∧
   e= .returned (.agg #[.slice g.Af m.frames.length g.cf,.slice g.Ab m.blocks.length g.cb,.slice g.Ai m.inn.length g.ci,.slice g.Ao m.out.length g.co,.int .i64 m.status,.int .i64 m.trap])∧
   Cw w.heap.size w [aj (.slice g.Af m.frames.length g.cf) m.frames,aj (.slice g.Ab m.blocks.length g.cb) m.blocks,aj (.slice g.Ai m.inn.length g.ci) m.inn,aj (.slice g.Ao m.out.length g.co) m.out] w':=by
 have b1:=bO hm.f
 have hf64:=hfit.f.1
 refine enter Tryz.func115 rfl Tryz.ntmps115 rfl ?_
 refine ac<|aa<|ag (bF rfl rfl rfl) rfl rfl (fun g1 _=>?_)
 refine ag (aZ bW rfl rfl) rfl rfl (fun g2 _=>?_)
 refine ae<|dF (fun _:Nat×(Option Addr×Nat)×(Option Addr×Nat)×(Option Addr×Nat)=>True) (fun g=> [(1,.pointer (some ⟨g1,0,none⟩)),(2,.pointer (some ⟨g2,0,none⟩)),(3,.pointer (some ⟨g.1,0,none⟩))]) (fun g=> [am g1 [.slice a.Af m.frames.length a.cf,.slice a.Ab m.blocks.length a.cb,.slice a.Ai m.inn.length a.ci,.slice a.Ao m.out.length a.co,.int .i64 m.status,.int .i64 m.trap] 29,am g2 [.slice none 0 0,.slice none 0 0,.slice none 0 0,.slice none 0 0,.int .i64 0,.int .i64 0] 29,am g.1 [.slice none 0 0,.slice g.2.1.1 m.blocks.length g.2.1.2,.slice g.2.2.1.1 m.inn.length g.2.2.1.2,.slice g.2.2.2.1 m.out.length g.2.2.2.2,.int .i64 m.status,.int .i64 m.trap] 29,aj (.slice g.2.1.1 m.blocks.length g.2.1.2) m.blocks,aj (.slice g.2.2.1.1 m.inn.length g.2.2.1.2) m.inn,aj (.slice g.2.2.2.1 m.out.length g.2.2.2.2) m.out]) ?_ ?_
 ·refine bQ (.still 0 (.still 1 (.still 3 (.still 4 (.still 6 (.still 7 (.still 9 (.still 10 (.still 11 (.still 12 (.pick 2 (.pick 5 (.pick 8 (.still 13 (.pick 14 (.pick 15 .done .stop) .stop)) (.pick 14 (.pick 8 (.still 13 (.pick 15 .done .stop)) .stop) .stop)) (.pick 14 (.pick 5 (.pick 8 (.still 13 (.pick 15 .done .stop)) .stop) .stop) .stop)) (.pick 14 (.pick 2 (.pick 5 (.pick 8 (.still 13 (.pick 15 .done .stop)) .stop) .stop) .stop) .stop)))))))))))) [15] rfl (by kernel_rfl) (by kernel_rfl) ?_
  refine aV ha 1 [1,2,6] rfl<|an rfl (ai fc ew rfl rfl (by rfl)) rfl rfl ha ?_
  refine aV ha 1 [1,2,7,9] rfl<|an rfl (ai fc a5 rfl rfl (by rfl)) rfl rfl ha ?_
  refine aV ha 1 [1,2,7,10,12] rfl<|an rfl (ai fc a5 rfl rfl (by rfl)) rfl rfl ha ?_
  refine aV ha 1 [1,2,7,10,13,15] rfl<|an rfl (ai fc ar rfl rfl (by rfl)) rfl rfl ha ?_
  refine aV ha 1 [1,2,7,10,13,16,17] rfl<|an rfl (ai fc ar rfl rfl (by rfl)) rfl rfl ha ?_
  refine aB rfl (eL rfl rfl rfl Tryz.call147 (fun w hw=>rs _ m.blocks w (hw.ro hm.b) hfit.b)) rfl rfl (.inr fun _=>ha) (fun⟨A1,c1⟩ _=>?_) ?_
  ·try dsimp only
   refine aB rfl (eL rfl rfl rfl kj (fun w hw=>ig _ m.inn w (hw.ro hm.i) hfit.i)) rfl rfl (.inr fun _=>ha) (fun⟨A2,c2⟩ _=>?_) ?_
   ·try dsimp only
    refine aB rfl (eL rfl rfl rfl kj (fun w hw=>ig _ m.out w (hw.ro hm.o) hfit.o)) rfl rfl (.inr fun _=>ha) (fun⟨A3,c3⟩ _=>?_) ?_
    ·try dsimp only
     refine an rfl (cT (cs:= [_,_,_,_,_,_]) o5 bW rfl rfl (by rfl)) rfl rfl ha ?_
     refine aB rfl (aZ bW rfl rfl) rfl rfl (.inr fun _=>ha) (fun gx _=>?_) ay
     refine aB rfl (aH _ fc aF rfl rfl rfl rfl rfl (by rfl) rfl (by rfl)) rfl rfl (.inl rfl) (fun _ _=>?_) ay
     refine ck<|aY (gx,(A1,c1),(A2,c2),(A3,c3)) (trivial) ⟨rfl,rfl,rfl,trivial⟩ (fun _ h=>h.msub ms)
    refine aB rfl (aZ bW rfl rfl) rfl rfl (.inr fun _=>ha) (fun gx _=>?_) ay
    refine aB rfl (eL rfl rfl rfl kj (fun w hw=>ig _ m.out w (hw.ro hm.o) hfit.o)) rfl rfl (.inr fun _=>ha) (fun⟨A3,c3⟩ _=>?_) ay
    try dsimp only
    refine an rfl (cT (cs:= [_,_,_,_,_,_]) o5 bW rfl rfl (by rfl)) rfl rfl ha ?_
    refine aB rfl (aH _ fc aF rfl rfl rfl rfl rfl (by rfl) rfl (by rfl)) rfl rfl (.inl rfl) (fun _ _=>?_) ay
    refine ck<|aY (gx,(A1,c1),(A2,c2),(A3,c3)) (trivial) ⟨rfl,rfl,rfl,trivial⟩ (fun _ h=>h.msub ms)
   refine aB rfl (aZ bW rfl rfl) rfl rfl (.inr fun _=>ha) (fun gx _=>?_) ay
   refine aB rfl (eL rfl rfl rfl kj (fun w hw=>ig _ m.inn w (hw.ro hm.i) hfit.i)) rfl rfl (.inr fun _=>ha) (fun⟨A2,c2⟩ _=>?_) ay
   try dsimp only
   refine aB rfl (eL rfl rfl rfl kj (fun w hw=>ig _ m.out w (hw.ro hm.o) hfit.o)) rfl rfl (.inr fun _=>ha) (fun⟨A3,c3⟩ _=>?_) ay
   try dsimp only
   refine an rfl (cT (cs:= [_,_,_,_,_,_]) o5 bW rfl rfl (by rfl)) rfl rfl ha ?_
   refine aB rfl (aH _ fc aF rfl rfl rfl rfl rfl (by rfl) rfl (by rfl)) rfl rfl (.inl rfl) (fun _ _=>?_) ay
   refine ck<|aY (gx,(A1,c1),(A2,c2),(A3,c3)) (trivial) ⟨rfl,rfl,rfl,trivial⟩ (fun _ h=>h.msub ms)
  refine aB rfl (aZ bW rfl rfl) rfl rfl (.inr fun _=>ha) (fun gx _=>?_) ay
  refine aB rfl (eL rfl rfl rfl Tryz.call147 (fun w hw=>rs _ m.blocks w (hw.ro hm.b) hfit.b)) rfl rfl (.inr fun _=>ha) (fun⟨A1,c1⟩ _=>?_) ay
  try dsimp only
  refine aB rfl (eL rfl rfl rfl kj (fun w hw=>ig _ m.inn w (hw.ro hm.i) hfit.i)) rfl rfl (.inr fun _=>ha) (fun⟨A2,c2⟩ _=>?_) ay
  try dsimp only
  refine aB rfl (eL rfl rfl rfl kj (fun w hw=>ig _ m.out w (hw.ro hm.o) hfit.o)) rfl rfl (.inr fun _=>ha) (fun⟨A3,c3⟩ _=>?_) ay
  try dsimp only
  refine an rfl (cT (cs:= [_,_,_,_,_,_]) o5 bW rfl rfl (by rfl)) rfl rfl ha ?_
  refine aB rfl (aH _ fc aF rfl rfl rfl rfl rfl (by rfl) rfl (by rfl)) rfl rfl (.inl rfl) (fun _ _=>?_) ay
  refine ck<|aY (gx,(A1,c1),(A2,c2),(A3,c3)) (trivial) ⟨rfl,rfl,rfl,trivial⟩ (fun _ h=>h.msub ms)
 rintro⟨gx,⟨Ab,cb⟩,⟨Ai,ci⟩,⟨Ao,co⟩⟩ _
 try dsimp only
 refine dO (fun w h=>Cw.nilO aW h) ?_
 refine ac<|ac<|aa<|rn 1 [2,3,20] rfl<|af (ai fc cd rfl rfl (by rfl)) rfl rfl ?_
 refine af (aN a6 rfl rfl) rfl rfl<|rn 1 [2,3,21,22,23] rfl<|ae<|aL (b8 (fun g:Nat×Option Addr×Nat=>g.1≤m.frames.length) (fun g=>m.frames.length - g.1) (fun g=> [(2,.pointer (some ⟨g2,0,none⟩)),(3,.pointer (some ⟨gx,0,none⟩)),(21,.slice a.Af m.frames.length a.cf),(22,.int .i64 (m.frames.length:Int)),(23,.int .i64 (g.1:Int))]) (fun g=> [aj (.slice g.2.1 (m.frames.take g.1).length g.2.2) (m.frames.take g.1),am g1 [.slice a.Af m.frames.length a.cf,.slice a.Ab m.blocks.length a.cb,.slice a.Ai m.inn.length a.ci,.slice a.Ao m.out.length a.co,.int .i64 m.status,.int .i64 m.trap] 29,am g2 [.slice none 0 0,.slice none 0 0,.slice none 0 0,.slice none 0 0,.int .i64 0,.int .i64 0] 29,aj (.slice Ab m.blocks.length cb) m.blocks,aj (.slice Ai m.inn.length ci) m.inn,aj (.slice Ao m.out.length co) m.out,am gx [.slice g.2.1 (m.frames.take g.1).length g.2.2,.slice Ab m.blocks.length cb,.slice Ai m.inn.length ci,.slice Ao m.out.length co,.int .i64 m.status,.int .i64 m.trap] 29]) (0,none,0) (Nat.zero_le _) ⟨rfl,rfl,rfl,rfl,rfl,trivial⟩ me ?_)
 rintro⟨k,A',c'⟩ hk
 try dsimp only
 have hk:k≤m.frames.length:=hk
 have htl:(m.frames.take k).length=k:=by rw[List.length_take];omega
 refine ac<|aa<|rn 1 [2,3,21,22,23,24] rfl<|ae<|ac<|aw rfl (fun hlt=>?_) (fun hlt=>?_)
 ·have hkl:k<m.frames.length:=by omega
  obtain⟨A1,c1,A2,c2,hl,hst,hi,hcell⟩:=hm.f.fr hkl
  obtain⟨hb1,hb2⟩:=hfit.f.2 (bg m.frames k) (ft hkl)
  have htk:=vz hkl
  refine ax (ap ?_)
  refine dF (fun _:Option Addr×Nat=>True) (fun g=> [(2,.pointer (some ⟨g2,0,none⟩)),(3,.pointer (some ⟨gx,0,none⟩)),(21,.slice a.Af m.frames.length a.cf),(22,.int .i64 (m.frames.length:Int)),(23,.int .i64 (k:Int))]) (fun g=> [aj (.slice g.1 (m.frames.take (k+1)).length g.2) (m.frames.take (k+1)),am g1 [.slice a.Af m.frames.length a.cf,.slice a.Ab m.blocks.length a.cb,.slice a.Ai m.inn.length a.ci,.slice a.Ao m.out.length a.co,.int .i64 m.status,.int .i64 m.trap] 29,am g2 [.slice none 0 0,.slice none 0 0,.slice none 0 0,.slice none 0 0,.int .i64 0,.int .i64 0] 29,aj (.slice Ab m.blocks.length cb) m.blocks,aj (.slice Ai m.inn.length ci) m.inn,aj (.slice Ao m.out.length co) m.out,am gx [.slice g.1 (m.frames.take (k+1)).length g.2,.slice Ab m.blocks.length cb,.slice Ai m.inn.length ci,.slice Ao m.out.length co,.int .i64 m.status,.int .i64 m.trap] 29]) ?_ ?_
  ·refine aL<|ac<|aa<|af (aO a6 bG (.ro hm.f) (by omega) rfl rfl rfl) rfl rfl<|af (cr (hcell _) rfl rfl gJ bG) rfl rfl<|ag (aZ df rfl rfl) rfl rfl (fun g3 _=>?_)
   refine ag (aH _ fc bG rfl rfl rfl rfl rfl (by rfl) rfl (by rfl)) rfl rfl (fun _ _=>?_)
   refine ae<|bQ (.still 0 (.still 1 (.still 2 (.still 3 (.still 4 (.still 5 (.still 6 (.still 7 (.still 9 (.still 10 (.pick 8 (.pick 11 (.still 12 (.pick 13 (.pick 14 (.calm 15 (.pick 16 .done .stop)) .stop) .stop)) .stop) .stop))))))))))) [14,15,16] rfl (by kernel_rfl) (by kernel_rfl) ?_
   refine aV ha 1 [2,3,5,21,22,23,27] rfl<|an rfl (ai fc cd rfl rfl (by rfl)) rfl rfl ha ?_
   refine aV ha 1 [2,3,5,21,22,23,28,29] rfl<|an rfl (ai fc ar rfl rfl (by rfl)) rfl rfl ha ?_
   refine aV ha 1 [2,3,5,21,22,23,28,30,31] rfl<|an rfl (ai fc ar rfl rfl (by rfl)) rfl rfl ha ?_
   refine aV ha 1 [2,3,5,21,22,23,28,30,32,33] rfl<|an rfl (ai fc a9 rfl rfl (by rfl)) rfl rfl ha ?_
   refine aV ha 1 [2,3,21,22,23,28,30,32,34,36] rfl<|an rfl (ai fc a9 rfl rfl (by rfl)) rfl rfl ha ?_
   refine aB rfl (eL rfl rfl rfl Tryz.call149 (fun w hw=>qQ _ _ (bg m.frames k).locals w (hw.ro hl) (by omega))) rfl rfl (.inr fun _=>ha) (fun⟨A3,c3⟩ _=>?_) ay
   try dsimp only
   refine aB rfl (eL rfl rfl rfl Tryz.call149 (fun w hw=>qQ _ _ (bg m.frames k).stack w (hw.ro hst) (by omega))) rfl rfl (.inr fun _=>ha) (fun⟨A4,c4⟩ _=>?_) ay
   try dsimp only
   refine an rfl (cT (cs:= [_,_,_,_]) sJ df rfl rfl (by rfl)) rfl rfl ha ?_
   refine aB rfl (bh (cs:= [_,_,_,_]) a6 bG df rfl rfl rfl rfl rfl) rfl rfl (.inr fun _=>ha) (fun g4 _=>?_) ay
   refine aB rfl (dm (α:=aW) (bytes:=64) (bg m.frames k) [aj (.slice A3 (bg m.frames k).locals.length c3) (bg m.frames k).locals,aj (.slice A4 (bg m.frames k).stack.length c4) (bg m.frames k).stack] htk a6 (bM j7) rfl (Bt fc fc fc fc) (tO hi) (by omega) (by omega) rfl rfl rfl) rfl rfl (.inl rfl) (fun⟨A5,c5⟩ _=>?_) ay
   try dsimp only
   refine dZ 1 [2,3,21,22,23,41,42] rfl<|aB rfl (aH _ fc fA rfl rfl rfl rfl rfl (by rfl) rfl (by rfl)) rfl rfl (.inl rfl) (fun _ _=>?_) ay
   refine ck (aK ?_)
   refine aY (A5,c5) (trivial) ⟨rfl,rfl,rfl,rfl,rfl,trivial⟩ (fun _ h=>h.msub ms)
  rintro⟨A5,c5⟩ _
  try dsimp only
  refine aa<|af (bH rfl rfl rfl (by omega)) rfl rfl<|rn 1 [2,3,21,22,23] rfl<|br (k+1,A5,c5) (by show k+1≤_;omega) (by show _ - _<_ - _;omega) ⟨rfl,rfl,rfl,rfl,rfl,trivial⟩ me
 obtain rfl:k=m.frames.length:=by omega
 rw[List.take_length]
 refine bN (aM (aM (cc (ap ?_))))
 refine ac<|aa<|af (aQ (vs:= [_,_,_,_,_,_]) fc bd aF rfl rfl (by rfl) rfl) rfl rfl ?_
 refine ag (aH _ fc aF rfl rfl rfl rfl rfl (by rfl) rfl (by rfl)) rfl rfl (fun _ _=>?_)
 refine ae<|au<|aA Tryz.results115 (dp (cs:= [_,_,_,_,_,_]) fc bd aF rfl) ?_
 intro w hw
 exact⟨⟨A',c',Ab,cb,Ai,ci,Ao,co⟩,trivial,rfl,hw.msub ms⟩
end
section
theorem mt {α:Type} (xs:List α) (y d:α) {k:Nat} (hk:xs.length=k):(xs++ [y]).getD k d=y:=by
 subst hk
 rw[List.getD_eq_getElem?_getD,List.getElem?_append_right (Nat.le_refl _),Nat.sub_self]
 rfl
theorem pL {α:Type} (xs:List α) (y y':α) {k:Nat} (hk:xs.length=k):(xs++ [y]).set k y'=xs++ [y']:=by
 subst hk
 rw[List.set_append_right _ _ (Nat.le_refl _),Nat.sub_self]
 rfl
theorem xL {α:Type} (xs:List α) (y:α) {k:Nat} (hk:xs.length=k):(xs++ [y]).take k=xs:=by
 subst hk
 exact List.take_left' rfl
section
variable {P:Program} {n:NF} {B:Nat} {w0:World} {env:de} {H H':List bj} {o:Oper}
theorem eq {α:Type} [cX α] {xs:List α} {y:α} {A:Option Addr} {k c:Nat} (hk:xs.length=k) (hp:cC H (aj (.slice A (k+1) c) (xs++ [y])) H') {j:Nat} {v:Value} (hj:(cX.enc y)[j]? =some v) :
  ∀w,Cw B w0 H w→w.cell? ⟨ab A,ao A+k*aR.k α+j,none⟩=some v:=fun w hw=>by
 refine SF.cell (SF.own (by rw[List.length_append,hk];rfl) hp) (Nat.lt_succ_self k) y ?_ w hw
 rw[mt xs y y hk]
 exact hj
theorem jV {α:Type} [cX α] {v:Value} {xs:List α} {w:World} (hw:Cw B w0 H w) (hp:cC H (aj v xs) H') {x:α} (hx:x∈xs):cX.wf x:=by
 obtain⟨F,h,_⟩:=hw.rd hp
 rcases(show cS w F v xs from h) with ⟨_,rfl,_⟩ | ⟨g,p,cap,cur,Fs,ho⟩
 ·cases hx
 obtain⟨i,hi,rfl⟩:=List.getElem_of_mem hx
 exact(cX.own_iff.1 (ho.el i _ (List.getElem?_eq_getElem hi))).1.2
theorem m6 {α:Type} [cX α] {v:Value} {xs:List α} {y:α} {w:World} (hw:Cw B w0 H w) (hp:cC H (aj v (xs++ [y])) H'):cX.wf y:=jV hw hp (List.mem_append_right _ (List.mem_singleton.2 rfl))
theorem iS {α:Type} [cX α] {i j:Operand} {t:TypeId} {A:Option Addr} {c k f sz:Nat} {v:Value} {us:List Value} {xs:List α} (y y':α) (hk:xs.length=k) (hp:cC H (aj (.slice A (k+1) c) (xs++ [y])) H') (hwf:cX.wf y') (hz:∀w,(sizeOf t).run P w= .ok sz w)
  (hop:o.op= .store t i j) (hi:opv env i=some (.pointer (some ⟨ab A,ao A+k*aR.k α+f,none⟩))) (hj:opv env j=some v) (hv:v.cells=us.toArray) (hkk:Nat.beq us.length sz=true) (h1:us.all Value.oneCell'=true)
  (hx:kH (cX.enc y) f us=cX.enc y') (hle:Nat.ble (f+us.length) (aR.k α)=true):OT P n B w0 o env H (γ:=Unit) (fun _=>True) (fun _=>undef) (fun _=>aj (.slice A (k+1) c) (xs++ [y'])::H'):=
 kZ y' y (pL xs y y' hk).symm hp (Nat.lt_succ_self k) hwf hz hop hi hj hv hkk h1 (by rw[mt xs y y hk];exact hx) hle
theorem pH {α:Type} [Ow α] {A:Option Addr} {k c:Nat} {xs:List α} {y:α} (hk:xs.length=k) {w:World} (h:Cw B w0 (aj (.slice A (k+1) c) (xs++ [y])::H) w):Cw B w0 (aj (.slice A k c) xs::H) w:=by
 have:=mQ (k:=k) (Nat.le_succ k) h
 rwa [xL xs y hk] at this
set_option maxRecDepth 100000 in
theorem lU (gd k c:Nat) (A:Option Addr) (hs:List aT) (w:World) (hc:w.cell? ⟨gd,0,none⟩=some (.slice A (k+1) c)) (hlt:gd<w.heap.size) (hsl:Sl w (.slice A (k+1) c) hs) :
  Calls Tryz.prog 151 #[.pointer (some ⟨gd,0,none⟩)] w fun e w'=>e= .returned (.pointer (some ⟨ab A,ao A+k*4,none⟩))∧Below w.heap.size w w':=by
 have hb:=bO hsl
 refine enter Tryz.func151 rfl Tryz.ntmps151 rfl ?_
 refine ac<|aa<|rn 1 [0] rfl<|ae<|ac<|bQ (.still 0 (.still 1 (.still 2 (.still 3 (.still 4 (.still 5 (.still 6 (.still 7 (.still 8 (.still 9 (.still 10 (.still 11 (.still 12 (.still 13 .done)))))))))))))) [] rfl (by kernel_rfl) (by kernel_rfl) ?_
 refine aV ha 4 [0,6] rfl<|an rfl (a8 (fun w' hw=>(hw.below.cell hlt).trans hc) rfl rfl cd) rfl rfl ha ?_
 refine aV ha 4 [7,11] rfl<|an rfl (a8 (fun w' hw=>(hw.below.cell hlt).trans hc) rfl rfl cd) rfl rfl ha ?_
 refine an rfl (aN a6 rfl rfl) rfl rfl ha ?_
 refine an rfl (bx rfl rfl rfl (by omega)) rfl rfl ha ?_
 refine dh (t:=14) (v':= .int .i64 (k:Int)) rfl (by congr 1;omega) ?_
 refine an rfl (aO (k:=k) a6 bG (.ro hsl) (by omega) rfl rfl rfl) rfl rfl ha ?_
 refine aV ha 1 [2] rfl<|cJ<|au<|aA Tryz.results151 (aq rfl) ?_
 intro w hw
 exact⟨rfl,hw.below⟩
end
section
variable {B:Nat} {w0:World} {H:List bj}
set_option maxRecDepth 100000 in
set_option maxHeartbeats 1000000 in
theorem ev (gd k:Nat) (hl:List aT) (hk:hl.length=k) (A As:Option Addr) (c cs:Nat) (r:List Value) (f p:Int) (lv:Value) (s:List aS) (v:aS) (w:World)
  (hw:Cw B w0 (am gd (.slice A (k+1) c::r) 159::aj (.slice A (k+1) c) (hl++ [(⟨f,p,lv,.slice As (s.length+1) cs⟩:aT)])::aj (.slice As (s.length+1) cs) (s++ [v])::H) w) :
  Calls Tryz.prog 182 #[.pointer (some ⟨gd,0,none⟩)] w fun e w'=> ∃_:Unit,True∧e= .returned (.agg #[.bool v.ref,.int .i64 v.n])∧
   Cw B w0 (am gd (.slice A (k+1) c::r) 159::aj (.slice A (k+1) c) (hl++ [(⟨f,p,lv,.slice As s.length cs⟩:aT)])::aj (.slice As s.length cs) s::H) w':=by
 have hlk:∀h:aT,(hl++ [h]).length=k+1:=fun h=>by rw[List.length_append,hk];rfl
 have hwf:aT.wf _:=m6 hw .b
 have hsl:(s++ [v]).length=s.length+1:=by simp
 have hb:s.length+1≤140737488355328:=bO (SF.at_ (SF.own hsl .c) hw)
 refine db Tryz.func182 rfl Tryz.ntmps182 rfl hw ?_
 refine ac<|aa<|ag (aZ bu rfl rfl) rfl rfl (fun g1 _=>?_)
 refine ae<|ac<|aa<|rn 1 [2,6] rfl<|ag (bK rfl rfl rfl uJ (fun w hw=>lU gd k c A (hl++ [(⟨f,p,lv,.slice As (s.length+1) cs⟩:aT)]) w (fJ fc rfl w hw) (iZ hw fc) (SF.at_ (SF.own (hlk _) fc) hw))) rfl rfl (fun _ _=>?_)
 refine rn 1 [2,3] rfl<|ae<|ac<|aa<|rn 3 [2,3,10] rfl<|af (a8 (eq (j:=3) hk fc rfl) rfl rfl a9) rfl rfl ?_
 refine af (aN az rfl rfl) rfl rfl<|af (bx rfl rfl rfl (by omega)) rfl rfl<|rn 1 [2,3,4] rfl<|ae<|ac<|aa<|rn 3 [2,3,4,16] rfl<|af (a8 (eq (j:=3) hk fc rfl) rfl rfl a9) rfl rfl ?_
 refine rn 1 [2,3,4,17,18] rfl<|bA (t:=18) (v':= .int .i64 (s.length:Int)) rfl (by congr 1;omega) ?_
 refine af (aO (k:=s.length) az aE (SF.own (xs:=s++ [v]) hsl fc) (by omega) rfl rfl rfl) rfl rfl ?_
 refine af (cr (cs:= [.bool v.ref,.int .i64 v.n]) (fun w hw j u hj=>eq (α:=aS) rfl fc hj w hw) rfl rfl dr aE) rfl rfl ?_
 refine ag (aZ bu rfl rfl) rfl rfl (fun g2 _=>?_)
 refine ag (aH _ fc aE rfl rfl rfl rfl rfl (by rfl) rfl (by rfl)) rfl rfl (fun _ _=>?_)
 refine ae<|ac<|aa<|rn 4 [2,4,5,21,24] rfl<|af (a8 (eq (j:=3) hk fc rfl) rfl rfl a9) rfl rfl ?_
 refine rn 1 [2,5,21,25,26] rfl<|bA (t:=26) (v':= .int .i64 (s.length:Int)) rfl (by congr 1;omega) ?_
 refine lF (fun w h=>eK h (xs:=s++ [v]) fc) fun hcap=>?_
 refine af (fC (k:=s.length) az aE (by omega) rfl rfl rfl) rfl rfl<|rn 2 [2,5,27,29] rfl<|ag (iS (α:=aT) ⟨f,p,lv,.slice As (s.length+1) cs⟩ ⟨f,p,lv,.slice As s.length cs⟩ hk fc ⟨hwf.1,hwf.2.1,rfl⟩ dd rfl rfl rfl rfl rfl rfl rfl rfl) rfl rfl (fun _ _=>?_)
 refine ae<|ac<|aa<|af (aQ (vs:= [_,_]) fc dr aE rfl rfl (by rfl) rfl) rfl rfl ?_
 refine ag (aH _ fc aE rfl rfl rfl rfl rfl (by rfl) rfl (by rfl)) rfl rfl (fun _ _=>?_)
 refine ae<|au<|aA Tryz.results182 (dp (cs:= [_,_]) fc dr aE rfl) ?_
 intro w hw
 exact⟨(),trivial,rfl,(pH rfl (hw.msub (T:=aj (.slice As (s.length+1) cs) (s++ [v])::am gd _ _::aj (.slice A (k+1) c) _::H) ms)).msub ms⟩
set_option maxRecDepth 100000 in
set_option maxHeartbeats 1000000 in
theorem iY (gd k:Nat) (hl:List aT) (hk:hl.length=k) (A As Av:Option Addr) (c cs cv:Nat) (r:List Value) (f p:Int) (lv:Value) (s ys:List aS) (w:World) (hs:SF B w0 H Av ys.length cv ys) (hb:s.length+ys.length≤1000000)
  (hw:Cw B w0 (am gd (.slice A (k+1) c::r) 159::aj (.slice A (k+1) c) (hl++ [(⟨f,p,lv,.slice As s.length cs⟩:aT)])::aj (.slice As s.length cs) s::H) w) :
  Calls Tryz.prog 183 #[.pointer (some ⟨gd,0,none⟩),.slice Av ys.length cv] w fun e w'=> ∃g:Option Addr×Nat,True∧e= .returned (.tuple #[])∧
   Cw B w0 (am gd (.slice A (k+1) c::r) 159::aj (.slice A (k+1) c) (hl++ [(⟨f,p,lv,.slice g.1 (s++ys).length g.2⟩:aT)])::aj (.slice g.1 (s++ys).length g.2) (s++ys)::H) w':=by
 have hlk:∀h:aT,(hl++ [h]).length=k+1:=fun h=>by rw[List.length_append,hk];rfl
 have hwf:aT.wf _:=m6 hw .b
 refine db Tryz.func183 rfl Tryz.ntmps183 rfl hw ?_
 refine ac<|aa<|rn 1 [1,5] rfl<|ag (bK rfl rfl rfl uJ (fun w hw=>lU gd k c A (hl++ [(⟨f,p,lv,.slice As s.length cs⟩:aT)]) w (fJ fc rfl w hw) (iZ hw fc) (SF.at_ (SF.own (hlk _) fc) hw))) rfl rfl (fun _ _=>?_)
 refine rn 1 [1,4] rfl<|ae<|aa<|rn 4 [1,7,10] rfl<|af (a8 (eq (j:=3) hk fc rfl) rfl rfl a9) rfl rfl ?_
 refine rn 1 [7,11,12] rfl<|ag (dy (α:=aS) (bytes:=16) (xs:=s) (ys:=ys) rfl az (bM dk) rfl (cC.c) (.s (.s (.s hs))) (by omega) (by omega) rfl rfl rfl) rfl rfl (fun⟨A5,c5⟩ _=>?_)
 try dsimp only
 refine rn 2 [13,15] rfl<|ag (iS (α:=aT) ⟨f,p,lv,.slice As s.length cs⟩ ⟨f,p,lv,.slice A5 (s++ys).length c5⟩ hk fc ⟨hwf.1,hwf.2.1,rfl⟩ dd rfl rfl rfl rfl rfl rfl rfl rfl) rfl rfl (fun _ _=>?_)
 refine bE<|dt Tryz.results183 ?_
 intro w hw
 exact⟨(A5,c5),trivial,rfl,hw.msub ms⟩
def cF (z:Int):aS:=⟨false,ik z⟩
set_option maxRecDepth 100000 in
set_option maxHeartbeats 1000000 in
theorem gW (gd k:Nat) (hl:List aT) (hk:hl.length=k) (A As:Option Addr) (c cs:Nat) (r:List Value) (f p:Int) (lv:Value) (s:List aS) (z:Int) (w:World) (hb:s.length≤1000)
  (hw:Cw B w0 (am gd (.slice A (k+1) c::r) 159::aj (.slice A (k+1) c) (hl++ [(⟨f,p,lv,.slice As s.length cs⟩:aT)])::aj (.slice As s.length cs) s::H) w) :
  Calls Tryz.prog 181 #[.pointer (some ⟨gd,0,none⟩),.int .i64 z] w fun e w'=> ∃g:Option Addr×Nat,True∧e= .returned (.tuple #[])∧
   Cw B w0 (am gd (.slice A (k+1) c::r) 159::aj (.slice A (k+1) c) (hl++ [(⟨f,p,lv,.slice g.1 (s++ [cF z]).length g.2⟩:aT)])::aj (.slice g.1 (s++ [cF z]).length g.2) (s++ [cF z])::H) w':=by
 refine db Tryz.func181 rfl Tryz.ntmps181 rfl hw ?_
 have hlk:∀h:aT,(hl++ [h]).length=k+1:=fun h=>by rw[List.length_append,hk];rfl
 refine aa<|rn 2 [4,5] rfl<|ag (bK rfl rfl rfl Tryz.call217 ((fun w hw=>fe ((fun w hw=>zB z w) w hw)))) rfl rfl (fun _ _=>?_)
 refine af (cT (cs:= [_,_]) kY bu rfl rfl (by rfl)) rfl rfl ?_
 refine ag (bh (cs:= [_,_]) az aE bu rfl rfl rfl rfl rfl) rfl rfl (fun g1 _=>?_)
 refine iD (fun w h=>cA (α:=aS) (m:=1) [cF z] rfl (by simp[cF,cX.wf];exact rH z) rfl (by decide) h) ?_
 refine ag (bC rfl rfl rfl nj (fun w hw=>iY gd k hl hk A As _ c cs 1 r f p lv s [cF z] w (SF.own rfl .a) (by simp only[List.length_singleton];omega) (hw.msub (.s fc (.s fc (.s fc .r)))))) rfl rfl (fun⟨A5,c5⟩ _=>?_)
 try dsimp only
 refine bE<|dt Tryz.results181 ?_
 intro w hw
 exact⟨(A5,c5),trivial,rfl,hw.msub ms⟩
end
end
end Go.Proofs.YtpacloheigifkaaGreat
