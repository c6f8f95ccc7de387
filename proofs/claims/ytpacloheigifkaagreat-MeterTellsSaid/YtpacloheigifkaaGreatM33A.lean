/- Texts of one proof, one behind the other: lemmas alone. -/
import Derived.Test.YtpacloheigifkaaGreatM0A
import Derived.Test.YtpacloheigifkaaGreatM28A
import Derived.Test.YtpacloheigifkaaGreatM32A
import Derived.Test.YtpacloheigifkaaGreatM29A
import Derived.Test.YtpacloheigifkaaGreatM18A
import Derived.Test.YtpacloheigifkaaGreatM14A
import Derived.Test.YtpacloheigifkaaGreatM25A
import Derived.Test.YtpacloheigifkaaGreatM13A

namespace Go.Proofs.YtpacloheigifkaaGreat
open Go.RowKit
section
theorem cZ:(Tryz.prog.info? 103).map (fun i=>(i.zero,i.size,i.bytes))=some (some (.agg #[.bool false,.int .i64 0]),2,16):=by kernel_rfl
theorem jJ:(Tryz.prog.info? 97).map (fun i=>(i.zero,i.size,i.bytes))=some (some (.agg #[.int .i64 0,.int .i64 0,.slice none 0 0,.slice none 0 0]),4,64):=by kernel_rfl
set_option maxRecDepth 100000 in
theorem qc (A:Option Addr) (c:Nat) (l:List aM) (w:World) (hs:Sl w (.slice A l.length c) l) (hl:l.length*16≤140737488355328) :
  Calls Tryz.prog 149 #[.slice A l.length c] w fun e w'=> ∃u,e= .returned u∧Below w.heap.size w w'∧dK w' w.heap.size u l:=by
 refine enter Tryz.func149 rfl Tryz.ntmps149 rfl ?_
 refine ac<|aa<|rn 1 [0] rfl<|ae<|ac<|ac<|aa<|rn 1 [0,3] rfl<|af (r4 aw rfl rfl) rfl rfl<|ae<|cB rfl (fun h=>?_) (fun h=>?_)
 ·have h0:l= []:=by
   rcases Nat.eq_zero_or_pos l.length with h0 | h0
   ·exact List.eq_nil_of_length_eq_zero h0
   obtain⟨b,o,e⟩:=hs.addr h0
   subst e
   cases h
  subst h0
  refine ac<|aa<|rn 1 [2] rfl<|ae<|av (aj ?_)
  refine aB Tryz.results149 (ap rfl) ?_
  intro w hw
  exact⟨_,rfl,kZ hw⟩
 refine az (au ?_)
 refine ac<|aa<|ag (bh (cs:= []) aw aD bq rfl rfl rfl rfl rfl) rfl rfl (fun g1 _=>?_)
 refine rn 1 [5,6] rfl<|iX (fun w h=>cc (α:=aM) (m:=0) [] rfl (by simp) rfl (by decide) h) ?_
 refine ag (di (α:=aM) (bytes:=16) (xs:= []) (ys:=l) rfl aw (bO cZ) rfl fc (.ro hs) (by simp only[List.length_nil];omega) (by simp only[List.length_nil];omega) rfl rfl rfl) rfl rfl (fun⟨A5,c5⟩ _=>?_)
 try dsimp only
 refine rn 1 [2] rfl<|ae<|av<|aB Tryz.results149 (ap rfl) ?_
 intro w hw
 exact⟨_,rfl,jp hw⟩
def cE (l:List Int):List aM:=l.map fun t=>⟨decide (t=2),0⟩
theorem gF (l:List Int):(cE l).length=l.length:=by simp[cE]
theorem oB {l:List Int} {k:Nat} (hk:k<l.length):cE (l.take (k+1))=cE (l.take k)++ [⟨decide (l.getD k 0=2),0⟩]:=by
 rw[fb l k 0 hk]
 simp[cE]
set_option maxRecDepth 100000 in
theorem qY (p r:Int) (A1 A2:Option Addr) (c1 c2 n2:Nat) (l:List Int) (w:World) (hs:Sl w (.slice A1 l.length c1) l) (hb:l.length*16≤140737488355328) :
  Calls Tryz.prog 114 #[.agg #[.int .i64 p,.slice A1 l.length c1,.int .i64 r,.slice A2 n2 c2]] w fun e w'=> ∃u,e= .returned u∧Below w.heap.size w w'∧dK w' w.heap.size u (cE l):=by
 refine enter Tryz.func114 rfl Tryz.ntmps114 rfl ?_
 refine ac<|aa<|ag (bH rfl rfl rfl) rfl rfl (fun g1 _=>?_)
 refine rn 1 [1] rfl<|ae<|ac<|aa<|rn 1 [1,3] rfl<|ae<|ac<|ac<|aa<|rn 1 [3,6] rfl<|af (ai fc a7 rfl rfl (by rfl)) rfl rfl ?_
 refine af (aS ah rfl rfl) rfl rfl<|rn 1 [3,7,8,9] rfl<|ae<|dP (fun w h=>Cw.nilO aM h) ?_
 refine aP (cn (fun g:Nat×Option Addr×Nat=>g.1≤l.length) (fun g=>l.length - g.1) (fun g=> [(3,.slice g.2.1 (cE (l.take g.1)).length g.2.2),(7,.slice A1 l.length c1),(8,.int .i64 (l.length:Int)),(9,.int .i64 (g.1:Int))]) (fun g=> [ak (.slice g.2.1 (cE (l.take g.1)).length g.2.2) (cE (l.take g.1))]) (0,none,0) (Nat.zero_le _) ⟨rfl,rfl,rfl,rfl,trivial⟩ me ?_)
 rintro⟨k,A,c⟩ hk
 try dsimp only
 have hk:k≤l.length:=hk
 have htl:(cE (l.take k)).length=k:=by rw[gF,List.length_take];omega
 refine ac<|aa<|rn 1 [3,7,8,9,10] rfl<|ae<|ac<|ay rfl (fun hlt=>?_) (fun hlt=>?_)
 ·have hkl:k<l.length:=by omega
  refine az (au ?_)
  refine ac<|aP<|ac<|aa<|af (aQ ah aH (.ro hs) (by omega) rfl rfl rfl) rfl rfl<|af (a9 (SF.int (.ro hs) (by omega)) rfl rfl aq) rfl rfl<|rn 1 [3,5,7,8,9] rfl<|ae<|aa<|rn 3 [7,8,9,13,15] rfl<|af (cq (cs:= [_,_]) ko bq rfl rfl (by rfl)) rfl rfl ?_
  refine ag (bh (cs:= [_,_]) aw aD bq rfl rfl rfl rfl rfl) rfl rfl (fun g2 _=>?_)
  refine ag (dv (α:=aM) (bytes:=16) ⟨decide (l.getD k 0=2),0⟩ [] (oB hkl) aw (bO cZ) rfl (eu fc fc) (dB (by show aX 0;decide)) (by omega) (by omega) rfl rfl rfl) rfl rfl (fun⟨A3,c3⟩ _=>?_)
  try dsimp only
  refine rn 1 [3,7,8,9] rfl<|bB (aI (au ?_))
  refine aa<|af (bR rfl rfl rfl (by omega)) rfl rfl<|rn 1 [3,7,8,9] rfl<|bD (k+1,A3,c3) (by show k+1≤_;omega) (by show _ - _<_ - _;omega) ⟨rfl,rfl,rfl,rfl,trivial⟩ me
 obtain rfl:k=l.length:=by omega
 rw[List.take_length]
 refine bY (aU (aU (cz (au ?_))))
 refine ac<|aa<|rn 2 [2] rfl<|ae<|av<|aB Tryz.results114 (ap rfl) ?_
 intro w hw
 exact⟨_,rfl,jp hw⟩
set_option maxRecDepth 100000 in
theorem pA (p r:Int) (A1 A2:Option Addr) (c1 c2 n2:Nat) (l:List Int) (w:World) (hs:Sl w (.slice A1 l.length c1) l) (hb:l.length*16≤140737488355328) :
  Calls Tryz.prog 74 #[.agg #[.int .i64 p,.slice A1 l.length c1,.int .i64 r,.slice A2 n2 c2]] w fun e w'=> ∃u,e= .returned u∧Below w.heap.size w w'∧dK w' w.heap.size u (cE l):=by
 refine enter Tryz.func74 rfl Tryz.ntmps74 rfl ?_
 refine ac<|aa<|ag (bH rfl rfl rfl) rfl rfl (fun g1 _=>?_)
 refine rn 1 [1] rfl<|ae<|ac<|aa<|rn 1 [1,3] rfl<|ae<|ac<|ac<|aa<|rn 1 [1,3,4] rfl<|ae<|dP (fun w h=>Cw.nilO aM h) ?_
 refine aP (cn (fun g:Nat×Option Addr×Nat=>g.1≤l.length) (fun g=>l.length - g.1) (fun g=> [(1,.pointer (some ⟨g1,0,none⟩)),(3,.slice g.2.1 (cE (l.take g.1)).length g.2.2),(4,.int .i64 (g.1:Int))]) (fun g=> [ak (.slice g.2.1 (cE (l.take g.1)).length g.2.2) (cE (l.take g.1)),am g1 [.int .i64 p,.slice A1 l.length c1,.int .i64 r,.slice A2 n2 c2] 110]) (0,none,0) (Nat.zero_le _) ⟨rfl,rfl,rfl,trivial⟩ me ?_)
 rintro⟨k,A,c⟩ hk
 try dsimp only
 have hk:k≤l.length:=hk
 have htl:(cE (l.take k)).length=k:=by rw[gF,List.length_take];omega
 refine ac<|ac<|aa<|rn 2 [1,3,4,5,6] rfl<|af (ai fc a7 rfl rfl (by rfl)) rfl rfl ?_
 refine af (aS ah rfl rfl) rfl rfl<|rn 1 [1,3,4,9] rfl<|ae<|ay rfl (fun hlt=>?_) (fun hlt=>?_)
 ·have hkl:k<l.length:=by omega
  refine az (au ?_)
  refine ac<|aP<|aa<|rn 2 [1,4,12,13] rfl<|af (ai fc a7 rfl rfl (by rfl)) rfl rfl ?_
  refine rn 1 [1,4,12,14,15] rfl<|af (aQ ah aH (.ro hs) (by omega) rfl rfl rfl) rfl rfl<|af (a9 (SF.int (.ro hs) (by omega)) rfl rfl aq) rfl rfl<|rn 1 [1,4,12,18] rfl<|af (cq (cs:= [_,_]) ko bq rfl rfl (by rfl)) rfl rfl ?_
  refine ag (bh (cs:= [_,_]) aw aD bq rfl rfl rfl rfl rfl) rfl rfl (fun g2 _=>?_)
  refine ag (dv (α:=aM) (bytes:=16) ⟨decide (l.getD k 0=2),0⟩ [] (oB hkl) aw (bO cZ) rfl (eu fc fc) (dB (by show aX 0;decide)) (by omega) (by omega) rfl rfl rfl) rfl rfl (fun⟨A3,c3⟩ _=>?_)
  try dsimp only
  refine rn 1 [1,3,4] rfl<|bB (aI (au ?_))
  refine aa<|rn 1 [1,3,10] rfl<|af (bR rfl rfl rfl (by omega)) rfl rfl<|rn 1 [1,3,4] rfl<|bD (k+1,A3,c3) (by show k+1≤_;omega) (by show _ - _<_ - _;omega) ⟨rfl,rfl,rfl,trivial⟩ me
 obtain rfl:k=l.length:=by omega
 rw[List.take_length]
 refine bY (aU (aU (cz (au ?_))))
 refine ac<|aa<|rn 2 [2] rfl<|ae<|av<|aB Tryz.results74 (ap rfl) ?_
 intro w hw
 exact⟨_,rfl,jp (hw.msub ms)⟩
def iE (l:List aT):Prop:=l.length*64≤140737488355328∧∀x∈l,x.locals.length*16≤140737488351232∧x.stack.length*16≤140737488351232
structure qG (m:aO):Prop where
 f:iE m.frames
 b:qm m.blocks
 i:m.inn.length≤1000000
 o:m.out.length≤1000000
theorem eZ {l:List aT} {k:Nat} (hk:k<l.length):bd l k∈l:=by
 unfold bd
 rw[List.getD_eq_getElem?_getD,List.getElem?_eq_getElem hk]
 exact List.getElem_mem hk
theorem ui {l:List aT} {k:Nat} (hk:k<l.length):l.take (k+1)=l.take k++ [bd l k]:=fb l k default hk
theorem pT {v1 v2:Value} {x:aT} (hi:aX x.func∧aX x.pc):∀(w:World) (F:Nat→Prop),Hs w [ak v1 x.locals,ak v2 x.stack] F→Ow.own w F [.int .i64 x.func,.int .i64 x.pc,v1,v2] x:=fun _ _ h=>⟨v1,v2,rfl,hi,h⟩
set_option maxRecDepth 100000 in
set_option maxHeartbeats 4000000 in
theorem ll (a:MA) (m:aO) (w:World) (hm:d9 w.heap.size w a m) (hfit:qG m) :
  Calls Tryz.prog 115 #[.agg #[.slice a.Af m.frames.length a.cf,.slice a.Ab m.blocks.length a.cb,.slice a.Ai m.inn.length a.ci,.slice a.Ao m.out.length a.co,.int .i64 m.status,.int .i64 m.trap]] w fun e w'=> ∃g:MA,True∧
   e= .returned (.agg #[.slice g.Af m.frames.length g.cf,.slice g.Ab m.blocks.length g.cb,.slice g.Ai m.inn.length g.ci,.slice g.Ao m.out.length g.co,.int .i64 m.status,.int .i64 m.trap])∧
   Cw w.heap.size w [ak (.slice g.Af m.frames.length g.cf) m.frames,ak (.slice g.Ab m.blocks.length g.cb) m.blocks,ak (.slice g.Ai m.inn.length g.ci) m.inn,ak (.slice g.Ao m.out.length g.co) m.out] w':=by
 have b1:=bV hm.f
 have hf64:=hfit.f.1
 refine enter Tryz.func115 rfl Tryz.ntmps115 rfl ?_
 refine ac<|aa<|ag (bH rfl rfl rfl) rfl rfl (fun g1 _=>?_)
 refine ag (aZ a6 rfl rfl) rfl rfl (fun g2 _=>?_)
 refine ae<|dS (fun _:Nat×(Option Addr×Nat)×(Option Addr×Nat)×(Option Addr×Nat)=>True) (fun g=> [(1,.pointer (some ⟨g1,0,none⟩)),(2,.pointer (some ⟨g2,0,none⟩)),(3,.pointer (some ⟨g.1,0,none⟩))]) (fun g=> [am g1 [.slice a.Af m.frames.length a.cf,.slice a.Ab m.blocks.length a.cb,.slice a.Ai m.inn.length a.ci,.slice a.Ao m.out.length a.co,.int .i64 m.status,.int .i64 m.trap] 29,am g2 [.slice none 0 0,.slice none 0 0,.slice none 0 0,.slice none 0 0,.int .i64 0,.int .i64 0] 29,am g.1 [.slice none 0 0,.slice g.2.1.1 m.blocks.length g.2.1.2,.slice g.2.2.1.1 m.inn.length g.2.2.1.2,.slice g.2.2.2.1 m.out.length g.2.2.2.2,.int .i64 m.status,.int .i64 m.trap] 29,ak (.slice g.2.1.1 m.blocks.length g.2.1.2) m.blocks,ak (.slice g.2.2.1.1 m.inn.length g.2.2.1.2) m.inn,ak (.slice g.2.2.2.1 m.out.length g.2.2.2.2) m.out]) ?_ ?_
 ·refine bN (.still 0 (.still 1 (.still 3 (.still 4 (.still 6 (.still 7 (.still 9 (.still 10 (.still 11 (.still 12 (.pick 2 (.pick 5 (.pick 8 (.still 13 (.pick 14 (.pick 15 .done .stop) .stop)) (.pick 14 (.pick 8 (.still 13 (.pick 15 .done .stop)) .stop) .stop)) (.pick 14 (.pick 5 (.pick 8 (.still 13 (.pick 15 .done .stop)) .stop) .stop) .stop)) (.pick 14 (.pick 2 (.pick 5 (.pick 8 (.still 13 (.pick 15 .done .stop)) .stop) .stop) .stop) .stop)))))))))))) [15] rfl (by kernel_rfl) (by kernel_rfl) ?_
  refine aW ha 1 [1,2,6] rfl<|an rfl (ai fc ed rfl rfl (by rfl)) rfl rfl ha ?_
  refine aW ha 1 [1,2,7,9] rfl<|an rfl (ai fc a7 rfl rfl (by rfl)) rfl rfl ha ?_
  refine aW ha 1 [1,2,7,10,12] rfl<|an rfl (ai fc a7 rfl rfl (by rfl)) rfl rfl ha ?_
  refine aW ha 1 [1,2,7,10,13,15] rfl<|an rfl (ai fc aq rfl rfl (by rfl)) rfl rfl ha ?_
  refine aW ha 1 [1,2,7,10,13,16,17] rfl<|an rfl (ai fc aq rfl rfl (by rfl)) rfl rfl ha ?_
  refine aC rfl (ej rfl rfl rfl Tryz.call147 (fun w hw=>qz _ m.blocks w (hw.ro hm.b) hfit.b)) rfl rfl (.inr fun _=>ha) (fun⟨A1,c1⟩ _=>?_) ?_
  ·try dsimp only
   refine aC rfl (ej rfl rfl rfl jP (fun w hw=>gR _ m.inn w (hw.ro hm.i) hfit.i)) rfl rfl (.inr fun _=>ha) (fun⟨A2,c2⟩ _=>?_) ?_
   ·try dsimp only
    refine aC rfl (ej rfl rfl rfl jP (fun w hw=>gR _ m.out w (hw.ro hm.o) hfit.o)) rfl rfl (.inr fun _=>ha) (fun⟨A3,c3⟩ _=>?_) ?_
    ·try dsimp only
     refine an rfl (cq (cs:= [_,_,_,_,_,_]) jd a6 rfl rfl (by rfl)) rfl rfl ha ?_
     refine aC rfl (aZ a6 rfl rfl) rfl rfl (.inr fun _=>ha) (fun gx _=>?_) ax
     refine aC rfl (aG _ fc aA rfl rfl rfl rfl rfl (by rfl) rfl (by rfl)) rfl rfl (.inl rfl) (fun _ _=>?_) ax
     refine cd<|aY (gx,(A1,c1),(A2,c2),(A3,c3)) (trivial) ⟨rfl,rfl,rfl,trivial⟩ (fun _ h=>h.msub ms)
    refine aC rfl (aZ a6 rfl rfl) rfl rfl (.inr fun _=>ha) (fun gx _=>?_) ax
    refine aC rfl (ej rfl rfl rfl jP (fun w hw=>gR _ m.out w (hw.ro hm.o) hfit.o)) rfl rfl (.inr fun _=>ha) (fun⟨A3,c3⟩ _=>?_) ax
    try dsimp only
    refine an rfl (cq (cs:= [_,_,_,_,_,_]) jd a6 rfl rfl (by rfl)) rfl rfl ha ?_
    refine aC rfl (aG _ fc aA rfl rfl rfl rfl rfl (by rfl) rfl (by rfl)) rfl rfl (.inl rfl) (fun _ _=>?_) ax
    refine cd<|aY (gx,(A1,c1),(A2,c2),(A3,c3)) (trivial) ⟨rfl,rfl,rfl,trivial⟩ (fun _ h=>h.msub ms)
   refine aC rfl (aZ a6 rfl rfl) rfl rfl (.inr fun _=>ha) (fun gx _=>?_) ax
   refine aC rfl (ej rfl rfl rfl jP (fun w hw=>gR _ m.inn w (hw.ro hm.i) hfit.i)) rfl rfl (.inr fun _=>ha) (fun⟨A2,c2⟩ _=>?_) ax
   try dsimp only
   refine aC rfl (ej rfl rfl rfl jP (fun w hw=>gR _ m.out w (hw.ro hm.o) hfit.o)) rfl rfl (.inr fun _=>ha) (fun⟨A3,c3⟩ _=>?_) ax
   try dsimp only
   refine an rfl (cq (cs:= [_,_,_,_,_,_]) jd a6 rfl rfl (by rfl)) rfl rfl ha ?_
   refine aC rfl (aG _ fc aA rfl rfl rfl rfl rfl (by rfl) rfl (by rfl)) rfl rfl (.inl rfl) (fun _ _=>?_) ax
   refine cd<|aY (gx,(A1,c1),(A2,c2),(A3,c3)) (trivial) ⟨rfl,rfl,rfl,trivial⟩ (fun _ h=>h.msub ms)
  refine aC rfl (aZ a6 rfl rfl) rfl rfl (.inr fun _=>ha) (fun gx _=>?_) ax
  refine aC rfl (ej rfl rfl rfl Tryz.call147 (fun w hw=>qz _ m.blocks w (hw.ro hm.b) hfit.b)) rfl rfl (.inr fun _=>ha) (fun⟨A1,c1⟩ _=>?_) ax
  try dsimp only
  refine aC rfl (ej rfl rfl rfl jP (fun w hw=>gR _ m.inn w (hw.ro hm.i) hfit.i)) rfl rfl (.inr fun _=>ha) (fun⟨A2,c2⟩ _=>?_) ax
  try dsimp only
  refine aC rfl (ej rfl rfl rfl jP (fun w hw=>gR _ m.out w (hw.ro hm.o) hfit.o)) rfl rfl (.inr fun _=>ha) (fun⟨A3,c3⟩ _=>?_) ax
  try dsimp only
  refine an rfl (cq (cs:= [_,_,_,_,_,_]) jd a6 rfl rfl (by rfl)) rfl rfl ha ?_
  refine aC rfl (aG _ fc aA rfl rfl rfl rfl rfl (by rfl) rfl (by rfl)) rfl rfl (.inl rfl) (fun _ _=>?_) ax
  refine cd<|aY (gx,(A1,c1),(A2,c2),(A3,c3)) (trivial) ⟨rfl,rfl,rfl,trivial⟩ (fun _ h=>h.msub ms)
 rintro⟨gx,⟨Ab,cb⟩,⟨Ai,ci⟩,⟨Ao,co⟩⟩ _
 try dsimp only
 refine dP (fun w h=>Cw.nilO aT h) ?_
 refine ac<|ac<|aa<|rn 1 [2,3,20] rfl<|af (ai fc bL rfl rfl (by rfl)) rfl rfl ?_
 refine af (aS aV rfl rfl) rfl rfl<|rn 1 [2,3,21,22,23] rfl<|ae<|aP (cn (fun g:Nat×Option Addr×Nat=>g.1≤m.frames.length) (fun g=>m.frames.length - g.1) (fun g=> [(2,.pointer (some ⟨g2,0,none⟩)),(3,.pointer (some ⟨gx,0,none⟩)),(21,.slice a.Af m.frames.length a.cf),(22,.int .i64 (m.frames.length:Int)),(23,.int .i64 (g.1:Int))]) (fun g=> [ak (.slice g.2.1 (m.frames.take g.1).length g.2.2) (m.frames.take g.1),am g1 [.slice a.Af m.frames.length a.cf,.slice a.Ab m.blocks.length a.cb,.slice a.Ai m.inn.length a.ci,.slice a.Ao m.out.length a.co,.int .i64 m.status,.int .i64 m.trap] 29,am g2 [.slice none 0 0,.slice none 0 0,.slice none 0 0,.slice none 0 0,.int .i64 0,.int .i64 0] 29,ak (.slice Ab m.blocks.length cb) m.blocks,ak (.slice Ai m.inn.length ci) m.inn,ak (.slice Ao m.out.length co) m.out,am gx [.slice g.2.1 (m.frames.take g.1).length g.2.2,.slice Ab m.blocks.length cb,.slice Ai m.inn.length ci,.slice Ao m.out.length co,.int .i64 m.status,.int .i64 m.trap] 29]) (0,none,0) (Nat.zero_le _) ⟨rfl,rfl,rfl,rfl,rfl,trivial⟩ me ?_)
 rintro⟨k,A',c'⟩ hk
 try dsimp only
 have hk:k≤m.frames.length:=hk
 have htl:(m.frames.take k).length=k:=by rw[List.length_take];omega
 refine ac<|aa<|rn 1 [2,3,21,22,23,24] rfl<|ae<|ac<|ay rfl (fun hlt=>?_) (fun hlt=>?_)
 ·have hkl:k<m.frames.length:=by omega
  obtain⟨A1,c1,A2,c2,hl,hst,hi,hcell⟩:=hm.f.fr hkl
  obtain⟨hb1,hb2⟩:=hfit.f.2 (bd m.frames k) (eZ hkl)
  have htk:=ui hkl
  refine az (au ?_)
  refine dS (fun _:Option Addr×Nat=>True) (fun g=> [(2,.pointer (some ⟨g2,0,none⟩)),(3,.pointer (some ⟨gx,0,none⟩)),(21,.slice a.Af m.frames.length a.cf),(22,.int .i64 (m.frames.length:Int)),(23,.int .i64 (k:Int))]) (fun g=> [ak (.slice g.1 (m.frames.take (k+1)).length g.2) (m.frames.take (k+1)),am g1 [.slice a.Af m.frames.length a.cf,.slice a.Ab m.blocks.length a.cb,.slice a.Ai m.inn.length a.ci,.slice a.Ao m.out.length a.co,.int .i64 m.status,.int .i64 m.trap] 29,am g2 [.slice none 0 0,.slice none 0 0,.slice none 0 0,.slice none 0 0,.int .i64 0,.int .i64 0] 29,ak (.slice Ab m.blocks.length cb) m.blocks,ak (.slice Ai m.inn.length ci) m.inn,ak (.slice Ao m.out.length co) m.out,am gx [.slice g.1 (m.frames.take (k+1)).length g.2,.slice Ab m.blocks.length cb,.slice Ai m.inn.length ci,.slice Ao m.out.length co,.int .i64 m.status,.int .i64 m.trap] 29]) ?_ ?_
  ·refine aP<|ac<|aa<|af (aQ aV bn (.ro hm.f) (by omega) rfl rfl rfl) rfl rfl<|af (cu (hcell _) rfl rfl gj bn) rfl rfl<|ag (aZ cK rfl rfl) rfl rfl (fun g3 _=>?_)
   refine ag (aG _ fc bn rfl rfl rfl rfl rfl (by rfl) rfl (by rfl)) rfl rfl (fun _ _=>?_)
   refine ae<|bN (.still 0 (.still 1 (.still 2 (.still 3 (.still 4 (.still 5 (.still 6 (.still 7 (.still 9 (.still 10 (.pick 8 (.pick 11 (.still 12 (.pick 13 (.pick 14 (.calm 15 (.pick 16 .done .stop)) .stop) .stop)) .stop) .stop))))))))))) [14,15,16] rfl (by kernel_rfl) (by kernel_rfl) ?_
   refine aW ha 1 [2,3,5,21,22,23,27] rfl<|an rfl (ai fc bL rfl rfl (by rfl)) rfl rfl ha ?_
   refine aW ha 1 [2,3,5,21,22,23,28,29] rfl<|an rfl (ai fc aq rfl rfl (by rfl)) rfl rfl ha ?_
   refine aW ha 1 [2,3,5,21,22,23,28,30,31] rfl<|an rfl (ai fc aq rfl rfl (by rfl)) rfl rfl ha ?_
   refine aW ha 1 [2,3,5,21,22,23,28,30,32,33] rfl<|an rfl (ai fc a5 rfl rfl (by rfl)) rfl rfl ha ?_
   refine aW ha 1 [2,3,21,22,23,28,30,32,34,36] rfl<|an rfl (ai fc a5 rfl rfl (by rfl)) rfl rfl ha ?_
   refine aC rfl (ej rfl rfl rfl Tryz.call149 (fun w hw=>qc _ _ (bd m.frames k).locals w (hw.ro hl) (by omega))) rfl rfl (.inr fun _=>ha) (fun⟨A3,c3⟩ _=>?_) ax
   try dsimp only
   refine aC rfl (ej rfl rfl rfl Tryz.call149 (fun w hw=>qc _ _ (bd m.frames k).stack w (hw.ro hst) (by omega))) rfl rfl (.inr fun _=>ha) (fun⟨A4,c4⟩ _=>?_) ax
   try dsimp only
   refine an rfl (cq (cs:= [_,_,_,_]) pE cK rfl rfl (by rfl)) rfl rfl ha ?_
   refine aC rfl (bh (cs:= [_,_,_,_]) aV bn cK rfl rfl rfl rfl rfl) rfl rfl (.inr fun _=>ha) (fun g4 _=>?_) ax
   refine aC rfl (dv (α:=aT) (bytes:=64) (bd m.frames k) [ak (.slice A3 (bd m.frames k).locals.length c3) (bd m.frames k).locals,ak (.slice A4 (bd m.frames k).stack.length c4) (bd m.frames k).stack] htk aV (bO jJ) rfl (zv fc fc fc fc) (pT hi) (by omega) (by omega) rfl rfl rfl) rfl rfl (.inl rfl) (fun⟨A5,c5⟩ _=>?_) ax
   try dsimp only
   refine dF 1 [2,3,21,22,23,41,42] rfl<|aC rfl (aG _ fc fe rfl rfl rfl rfl rfl (by rfl) rfl (by rfl)) rfl rfl (.inl rfl) (fun _ _=>?_) ax
   refine cd (aI ?_)
   refine aY (A5,c5) (trivial) ⟨rfl,rfl,rfl,rfl,rfl,trivial⟩ (fun _ h=>h.msub ms)
  rintro⟨A5,c5⟩ _
  try dsimp only
  refine aa<|af (bR rfl rfl rfl (by omega)) rfl rfl<|rn 1 [2,3,21,22,23] rfl<|bD (k+1,A5,c5) (by show k+1≤_;omega) (by show _ - _<_ - _;omega) ⟨rfl,rfl,rfl,rfl,rfl,trivial⟩ me
 obtain rfl:k=m.frames.length:=by omega
 rw[List.take_length]
 refine bY (aU (aU (cz (au ?_))))
 refine ac<|aa<|af (aL (vs:= [_,_,_,_,_,_]) fc aR aA rfl rfl (by rfl) rfl) rfl rfl ?_
 refine ag (aG _ fc aA rfl rfl rfl rfl rfl (by rfl) rfl (by rfl)) rfl rfl (fun _ _=>?_)
 refine ae<|av<|aB Tryz.results115 (du (cs:= [_,_,_,_,_,_]) fc aR aA rfl) ?_
 intro w hw
 exact⟨⟨A',c',Ab,cb,Ai,ci,Ao,co⟩,trivial,rfl,hw.msub ms⟩
end
section
theorem lK {α:Type} (xs:List α) (y d:α) {k:Nat} (hk:xs.length=k):(xs++ [y]).getD k d=y:=by
 subst hk
 rw[List.getD_eq_getElem?_getD,List.getElem?_append_right (Nat.le_refl _),Nat.sub_self]
 rfl
theorem oT {α:Type} (xs:List α) (y y':α) {k:Nat} (hk:xs.length=k):(xs++ [y]).set k y'=xs++ [y']:=by
 subst hk
 rw[List.set_append_right _ _ (Nat.le_refl _),Nat.sub_self]
 rfl
theorem wm {α:Type} (xs:List α) (y:α) {k:Nat} (hk:xs.length=k):(xs++ [y]).take k=xs:=by
 subst hk
 exact List.take_left' rfl
section
variable {P:Program} {n:NF} {B:Nat} {w0:World} {env:cU} {H H':List bj} {o:Oper}
theorem d8 {α:Type} [cO α] {xs:List α} {y:α} {A:Option Addr} {k c:Nat} (hk:xs.length=k) (hp:cV H (ak (.slice A (k+1) c) (xs++ [y])) H') {j:Nat} {v:Value} (hj:(cO.enc y)[j]? =some v) :
  ∀w,Cw B w0 H w→w.cell? ⟨ab A,ao A+k*aN.k α+j,none⟩=some v:=fun w hw=>by
 refine SF.cell (SF.own (by rw[List.length_append,hk];rfl) hp) (Nat.lt_succ_self k) y ?_ w hw
 rw[lK xs y y hk]
 exact hj
theorem lc {α:Type} [cO α] {v:Value} {xs:List α} {w:World} (hw:Cw B w0 H w) (hp:cV H (ak v xs) H') {x:α} (hx:x∈xs):cO.wf x:=by
 obtain⟨F,h,_⟩:=hw.rd hp
 rcases(show cN w F v xs from h) with ⟨_,rfl,_⟩ | ⟨g,p,cap,cur,Fs,ho⟩
 ·cases hx
 obtain⟨i,hi,rfl⟩:=List.getElem_of_mem hx
 exact(cO.own_iff.1 (ho.el i _ (List.getElem?_eq_getElem hi))).1.2
theorem mq {α:Type} [cO α] {v:Value} {xs:List α} {y:α} {w:World} (hw:Cw B w0 H w) (hp:cV H (ak v (xs++ [y])) H'):cO.wf y:=lc hw hp (List.mem_append_right _ (List.mem_singleton.2 rfl))
theorem iy {α:Type} [cO α] {i j:Operand} {t:TypeId} {A:Option Addr} {c k f sz:Nat} {v:Value} {us:List Value} {xs:List α} (y y':α) (hk:xs.length=k) (hp:cV H (ak (.slice A (k+1) c) (xs++ [y])) H') (hwf:cO.wf y') (hz:∀w,(sizeOf t).run P w= .ok sz w)
  (hop:o.op= .store t i j) (hi:opv env i=some (.pointer (some ⟨ab A,ao A+k*aN.k α+f,none⟩))) (hj:opv env j=some v) (hv:v.cells=us.toArray) (hkk:Nat.beq us.length sz=true) (h1:us.all Value.oneCell'=true)
  (hx:j7 (cO.enc y) f us=cO.enc y') (hle:Nat.ble (f+us.length) (aN.k α)=true):OT P n B w0 o env H (γ:=Unit) (fun _=>True) (fun _=>undef) (fun _=>ak (.slice A (k+1) c) (xs++ [y'])::H'):=
 wS y' y (oT xs y y' hk).symm hp (Nat.lt_succ_self k) hwf hz hop hi hj hv hkk h1 (by rw[lK xs y y hk];exact hx) hle
theorem oP {α:Type} [Ow α] {A:Option Addr} {k c:Nat} {xs:List α} {y:α} (hk:xs.length=k) {w:World} (h:Cw B w0 (ak (.slice A (k+1) c) (xs++ [y])::H) w):Cw B w0 (ak (.slice A k c) xs::H) w:=by
 have:=l8 (k:=k) (Nat.le_succ k) h
 rwa [wm xs y hk] at this
set_option maxRecDepth 100000 in
theorem lr (gd k c:Nat) (A:Option Addr) (hs:List aJ) (w:World) (hc:w.cell? ⟨gd,0,none⟩=some (.slice A (k+1) c)) (hlt:gd<w.heap.size) (hsl:Sl w (.slice A (k+1) c) hs) :
  Calls Tryz.prog 151 #[.pointer (some ⟨gd,0,none⟩)] w fun e w'=>e= .returned (.pointer (some ⟨ab A,ao A+k*4,none⟩))∧Below w.heap.size w w':=by
 have hb:=bV hsl
 refine enter Tryz.func151 rfl Tryz.ntmps151 rfl ?_
 refine ac<|aa<|rn 1 [0] rfl<|ae<|ac<|bN (.still 0 (.still 1 (.still 2 (.still 3 (.still 4 (.still 5 (.still 6 (.still 7 (.still 8 (.still 9 (.still 10 (.still 11 (.still 12 (.still 13 .done)))))))))))))) [] rfl (by kernel_rfl) (by kernel_rfl) ?_
 refine aW ha 4 [0,6] rfl<|an rfl (a9 (fun w' hw=>(hw.below.cell hlt).trans hc) rfl rfl bL) rfl rfl ha ?_
 refine aW ha 4 [7,11] rfl<|an rfl (a9 (fun w' hw=>(hw.below.cell hlt).trans hc) rfl rfl bL) rfl rfl ha ?_
 refine an rfl (aS aV rfl rfl) rfl rfl ha ?_
 refine an rfl (bt rfl rfl rfl (by omega)) rfl rfl ha ?_
 refine cG (t:=14) (v':= .int .i64 (k:Int)) rfl (by congr 1;omega) ?_
 refine an rfl (aQ (k:=k) aV bn (.ro hsl) (by omega) rfl rfl rfl) rfl rfl ha ?_
 refine aW ha 1 [2] rfl<|cA<|av<|aB Tryz.results151 (ap rfl) ?_
 intro w hw
 exact⟨rfl,hw.below⟩
end
section
variable {B:Nat} {w0:World} {H:List bj}
set_option maxRecDepth 100000 in
set_option maxHeartbeats 1000000 in
theorem ec (gd k:Nat) (hl:List aJ) (hk:hl.length=k) (A As:Option Addr) (c cs:Nat) (r:List Value) (f p:Int) (lv:Value) (s:List aM) (v:aM) (w:World)
  (hw:Cw B w0 (am gd (.slice A (k+1) c::r) 159::ak (.slice A (k+1) c) (hl++ [(⟨f,p,lv,.slice As (s.length+1) cs⟩:aJ)])::ak (.slice As (s.length+1) cs) (s++ [v])::H) w) :
  Calls Tryz.prog 182 #[.pointer (some ⟨gd,0,none⟩)] w fun e w'=> ∃_:Unit,True∧e= .returned (.agg #[.bool v.ref,.int .i64 v.n])∧
   Cw B w0 (am gd (.slice A (k+1) c::r) 159::ak (.slice A (k+1) c) (hl++ [(⟨f,p,lv,.slice As s.length cs⟩:aJ)])::ak (.slice As s.length cs) s::H) w':=by
 have hlk:∀h:aJ,(hl++ [h]).length=k+1:=fun h=>by rw[List.length_append,hk];rfl
 have hwf:aJ.wf _:=mq hw .b
 have hsl:(s++ [v]).length=s.length+1:=by simp
 have hb:s.length+1≤140737488355328:=bV (SF.at_ (SF.own hsl .c) hw)
 refine cY Tryz.func182 rfl Tryz.ntmps182 rfl hw ?_
 refine ac<|aa<|ag (aZ bq rfl rfl) rfl rfl (fun g1 _=>?_)
 refine ae<|ac<|aa<|rn 1 [2,6] rfl<|ag (br rfl rfl rfl tB (fun w hw=>lr gd k c A (hl++ [(⟨f,p,lv,.slice As (s.length+1) cs⟩:aJ)]) w (fp fc rfl w hw) (iD hw fc) (SF.at_ (SF.own (hlk _) fc) hw))) rfl rfl (fun _ _=>?_)
 refine rn 1 [2,3] rfl<|ae<|ac<|aa<|rn 3 [2,3,10] rfl<|af (a9 (d8 (j:=3) hk fc rfl) rfl rfl a5) rfl rfl ?_
 refine af (aS aw rfl rfl) rfl rfl<|af (bt rfl rfl rfl (by omega)) rfl rfl<|rn 1 [2,3,4] rfl<|ae<|ac<|aa<|rn 3 [2,3,4,16] rfl<|af (a9 (d8 (j:=3) hk fc rfl) rfl rfl a5) rfl rfl ?_
 refine rn 1 [2,3,4,17,18] rfl<|bG (t:=18) (v':= .int .i64 (s.length:Int)) rfl (by congr 1;omega) ?_
 refine af (aQ (k:=s.length) aw aD (SF.own (xs:=s++ [v]) hsl fc) (by omega) rfl rfl rfl) rfl rfl ?_
 refine af (cu (cs:= [.bool v.ref,.int .i64 v.n]) (fun w hw j u hj=>d8 (α:=aM) rfl fc hj w hw) rfl rfl db aD) rfl rfl ?_
 refine ag (aZ bq rfl rfl) rfl rfl (fun g2 _=>?_)
 refine ag (aG _ fc aD rfl rfl rfl rfl rfl (by rfl) rfl (by rfl)) rfl rfl (fun _ _=>?_)
 refine ae<|ac<|aa<|rn 4 [2,4,5,21,24] rfl<|af (a9 (d8 (j:=3) hk fc rfl) rfl rfl a5) rfl rfl ?_
 refine rn 1 [2,5,21,25,26] rfl<|bG (t:=26) (v':= .int .i64 (s.length:Int)) rfl (by congr 1;omega) ?_
 refine kV (fun w h=>eL h (xs:=s++ [v]) fc) fun hcap=>?_
 refine af (ff (k:=s.length) aw aD (by omega) rfl rfl rfl) rfl rfl<|rn 2 [2,5,27,29] rfl<|ag (iy (α:=aJ) ⟨f,p,lv,.slice As (s.length+1) cs⟩ ⟨f,p,lv,.slice As s.length cs⟩ hk fc ⟨hwf.1,hwf.2.1,rfl⟩ cS rfl rfl rfl rfl rfl rfl rfl rfl) rfl rfl (fun _ _=>?_)
 refine ae<|ac<|aa<|af (aL (vs:= [_,_]) fc db aD rfl rfl (by rfl) rfl) rfl rfl ?_
 refine ag (aG _ fc aD rfl rfl rfl rfl rfl (by rfl) rfl (by rfl)) rfl rfl (fun _ _=>?_)
 refine ae<|av<|aB Tryz.results182 (du (cs:= [_,_]) fc db aD rfl) ?_
 intro w hw
 exact⟨(),trivial,rfl,(oP rfl (hw.msub (T:=ak (.slice As (s.length+1) cs) (s++ [v])::am gd _ _::ak (.slice A (k+1) c) _::H) ms)).msub ms⟩
set_option maxRecDepth 100000 in
set_option maxHeartbeats 1000000 in
theorem iC (gd k:Nat) (hl:List aJ) (hk:hl.length=k) (A As Av:Option Addr) (c cs cv:Nat) (r:List Value) (f p:Int) (lv:Value) (s ys:List aM) (w:World) (hs:SF B w0 H Av ys.length cv ys) (hb:s.length+ys.length≤1000000)
  (hw:Cw B w0 (am gd (.slice A (k+1) c::r) 159::ak (.slice A (k+1) c) (hl++ [(⟨f,p,lv,.slice As s.length cs⟩:aJ)])::ak (.slice As s.length cs) s::H) w) :
  Calls Tryz.prog 183 #[.pointer (some ⟨gd,0,none⟩),.slice Av ys.length cv] w fun e w'=> ∃g:Option Addr×Nat,True∧e= .returned (.tuple #[])∧
   Cw B w0 (am gd (.slice A (k+1) c::r) 159::ak (.slice A (k+1) c) (hl++ [(⟨f,p,lv,.slice g.1 (s++ys).length g.2⟩:aJ)])::ak (.slice g.1 (s++ys).length g.2) (s++ys)::H) w':=by
 have hlk:∀h:aJ,(hl++ [h]).length=k+1:=fun h=>by rw[List.length_append,hk];rfl
 have hwf:aJ.wf _:=mq hw .b
 refine cY Tryz.func183 rfl Tryz.ntmps183 rfl hw ?_
 refine ac<|aa<|rn 1 [1,5] rfl<|ag (br rfl rfl rfl tB (fun w hw=>lr gd k c A (hl++ [(⟨f,p,lv,.slice As s.length cs⟩:aJ)]) w (fp fc rfl w hw) (iD hw fc) (SF.at_ (SF.own (hlk _) fc) hw))) rfl rfl (fun _ _=>?_)
 refine rn 1 [1,4] rfl<|ae<|aa<|rn 4 [1,7,10] rfl<|af (a9 (d8 (j:=3) hk fc rfl) rfl rfl a5) rfl rfl ?_
 refine rn 1 [7,11,12] rfl<|ag (di (α:=aM) (bytes:=16) (xs:=s) (ys:=ys) rfl aw (bO cZ) rfl (cV.c) (.s (.s (.s hs))) (by omega) (by omega) rfl rfl rfl) rfl rfl (fun⟨A5,c5⟩ _=>?_)
 try dsimp only
 refine rn 2 [13,15] rfl<|ag (iy (α:=aJ) ⟨f,p,lv,.slice As s.length cs⟩ ⟨f,p,lv,.slice A5 (s++ys).length c5⟩ hk fc ⟨hwf.1,hwf.2.1,rfl⟩ cS rfl rfl rfl rfl rfl rfl rfl rfl) rfl rfl (fun _ _=>?_)
 refine bB<|dc Tryz.results183 ?_
 intro w hw
 exact⟨(A5,c5),trivial,rfl,hw.msub ms⟩
def cy (z:Int):aM:=⟨false,gT z⟩
set_option maxRecDepth 100000 in
set_option maxHeartbeats 1000000 in
theorem gK (gd k:Nat) (hl:List aJ) (hk:hl.length=k) (A As:Option Addr) (c cs:Nat) (r:List Value) (f p:Int) (lv:Value) (s:List aM) (z:Int) (w:World) (hb:s.length≤1000)
  (hw:Cw B w0 (am gd (.slice A (k+1) c::r) 159::ak (.slice A (k+1) c) (hl++ [(⟨f,p,lv,.slice As s.length cs⟩:aJ)])::ak (.slice As s.length cs) s::H) w) :
  Calls Tryz.prog 181 #[.pointer (some ⟨gd,0,none⟩),.int .i64 z] w fun e w'=> ∃g:Option Addr×Nat,True∧e= .returned (.tuple #[])∧
   Cw B w0 (am gd (.slice A (k+1) c::r) 159::ak (.slice A (k+1) c) (hl++ [(⟨f,p,lv,.slice g.1 (s++ [cy z]).length g.2⟩:aJ)])::ak (.slice g.1 (s++ [cy z]).length g.2) (s++ [cy z])::H) w':=by
 refine cY Tryz.func181 rfl Tryz.ntmps181 rfl hw ?_
 have hlk:∀h:aJ,(hl++ [h]).length=k+1:=fun h=>by rw[List.length_append,hk];rfl
 refine aa<|rn 2 [4,5] rfl<|ag (br rfl rfl rfl Tryz.call217 ((fun w hw=>fj ((fun w hw=>xW z w) w hw)))) rfl rfl (fun _ _=>?_)
 refine af (cq (cs:= [_,_]) ko bq rfl rfl (by rfl)) rfl rfl ?_
 refine ag (bh (cs:= [_,_]) aw aD bq rfl rfl rfl rfl rfl) rfl rfl (fun g1 _=>?_)
 refine iX (fun w h=>cc (α:=aM) (m:=1) [cy z] rfl (by simp[cy,cO.wf];exact qI z) rfl (by decide) h) ?_
 refine ag (bC rfl rfl rfl mz (fun w hw=>iC gd k hl hk A As _ c cs 1 r f p lv s [cy z] w (SF.own rfl .a) (by simp only[List.length_singleton];omega) (hw.msub (.s fc (.s fc (.s fc .r)))))) rfl rfl (fun⟨A5,c5⟩ _=>?_)
 try dsimp only
 refine bB<|dc Tryz.results181 ?_
 intro w hw
 exact⟨(A5,c5),trivial,rfl,hw.msub ms⟩
end
end
end Go.Proofs.YtpacloheigifkaaGreat
