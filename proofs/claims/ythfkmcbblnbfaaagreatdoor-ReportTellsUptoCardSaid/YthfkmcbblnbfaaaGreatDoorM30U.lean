/- Texts of one proof, one behind the other: lemmas alone. -/
import Derived.Test.YthfkmcbblnbfaaaGreatDoorM0U
import Derived.Test.YthfkmcbblnbfaaaGreatDoorM26U
import Derived.Test.YthfkmcbblnbfaaaGreatDoorM23U
import Derived.Test.YthfkmcbblnbfaaaGreatDoorM18U

namespace Go.Proofs.YthfkmcbblnbfaaaGreatDoor
set_option maxRecDepth 100000
set_option maxHeartbeats 16000000
open Go.RowKit
section
theorem zi {o:aW} (pc:Int) (h:o.c=13):cH o pc= []:=by unfold cH;rw[if_pos h]
theorem xm {o:aW} (pc:Int) (h1:¬o.c=13) (h:o.c=10):cH o pc= [o.a]:=by unfold cH;rw[if_neg h1,if_pos h]
theorem xl {o:aW} (pc:Int) (h1:¬o.c=13) (h2:¬o.c=10) (h:o.c=11):cH o pc=Lib.compact (jb [pc+1,o.a]):=by
 obtain⟨k1,k2⟩:=qa (q4 [pc+1,o.a])
 refine lP (nQ _ _) k1 fun a=>?_
 rw[k2,po,lX]
 unfold eA
 rw[if_neg h1,if_neg h2,if_pos h]
 simp
theorem xn {o:aW} (pc:Int) (h1:¬o.c=13) (h2:¬o.c=10) (h:¬o.c=11):cH o pc= [pc+1]:=by unfold cH;rw[if_neg h1,if_neg h2,if_neg h]
theorem zj (A:Option Addr) (c:Nat) (l:List aW) (pc:Nat) (w:World) (hs:Sl w (.slice A l.length c) l) (hp:pc<l.length) :
  Calls Tryz.prog 223 #[.slice A l.length c,.int .i64 (pc:Int)] w fun e w'=> ∃g:Option Addr×Nat,True/\e= .returned (.slice g.1 (cH (aK l pc) pc).length g.2)/\Cw w.heap.size w [aj (.slice g.1 (cH (aK l pc) pc).length g.2) (cH (aK l pc) pc)] w':=by
 have b1:=be hs
 have ho:=yq hs hp
 have i1:aI ((pc:Int)+1):=by unfold aI;omega
 refine enter Tryz.func223 rfl Tryz.ntmps223 rfl<|aa ?_
 refine cQ (_) rfl ((.ro hs)) ?_
 refine iW (cs:= [_,_]) rfl (SF.op (.ro hs) (by omega))<|aa ?_
 refine fun g1 _=>ak (fun h1=>?_) (fun h1=>?_)
 ·have e:=zi (o:=aK l pc) pc h1
  refine aa ?_
  intro w hw
  refine⟨(none,0),trivial,by rw[e];rfl,?_⟩
  rw[e]
  exact(Cw.nilO Int hw).msub ms
 refine ak (fun h2=>?_) (fun h2=>?_)
 ·have e:=xm (o:=aK l pc) pc h1 h2
  refine aa ?_
  refine fun g2 _=>aa ?_
  intro w hw
  replace hw:=(fun w h=>bW (α:=Int) (m:=1) [(aK l pc).a] rfl (jE ho.2) rfl (by decide) h) w hw
  refine⟨(_,_),trivial,by rw[e];rfl,?_⟩
  rw[e]
  exact hw.msub ms
 refine ak (fun h3=>?_) (fun h3=>?_)
 ·have e:=xl (o:=aK l pc) pc h1 h2 h3
  refine aa ?_
  intro g3 _
  refine aw ?_
  refine bV<|dg (fun w h=>bW (α:=Int) (m:=2) [(pc:Int)+1,(aK l pc).a] rfl (jA i1 ho.2) rfl (by decide) h) ?_
  have h2i:∀x∈[(pc:Int)+1,(aK l pc).a],aI x:=jA i1 ho.2
  refine aa ?_
  refine ei rfl Hw (fun w hw=>sI hw (by omega) h2i) (fun _ _=>aa ?_)
  refine ei rfl Hv (fun w hw=>oK hw (by omega) (fun x hx=>h2i x (po.1 hx))) (fun _ _=>aa ?_)
  intro w hw
  refine⟨(_,_),trivial,by rw[e],?_⟩
  rw[e]
  exact hw.msub ms
 have e:=xn (o:=aK l pc) pc h1 h2 h3
 refine aa ?_
 refine fun g4 _=>aa ?_
 intro w hw
 replace hw:=(fun w h=>bW (α:=Int) (m:=1) [(pc:Int)+1] rfl (jE i1) rfl (by decide) h) w hw
 refine⟨(_,_),trivial,by rw[e];rfl,?_⟩
 rw[e]
 exact hw.msub ms
theorem wY (A:Option Addr) (c:Nat) (l:List aW) (pc:Nat) (to_:Int) (w:World) (hs:Sl w (.slice A l.length c) l) (hp:pc<l.length) :
  Calls Tryz.prog 250 #[.slice A l.length c,.int .i64 (pc:Int),.int .i64 to_] w fun e w'=>e= .returned (.bool (eA (aK l pc) pc to_))/\Below w.heap.size w w':=by
 have b1:=be hs
 refine enter Tryz.func250 rfl Tryz.ntmps250 rfl<|aa ?_
 refine cQ (_) rfl ((.ro hs))<|aa ?_
 refine dQ rfl (SF.opc (.ro hs) (by omega))<|ak (fun h1=>?_) (fun h1=>?_)
 ·refine aa ?_
  intro w hw
  exact⟨aS (by unfold eA;rw[if_pos h1]),hw.below⟩
 refine ak (fun h2=>?_) (fun h2=>?_)
 ·refine aa ?_
  refine cQ (_) rfl ((.ro hs))<|aa ?_
  refine dQ rfl (SF.opa (.ro hs) (by omega))<|aa ?_
  intro w hw
  exact⟨aS (by unfold eA;rw[if_neg h1,if_pos h2]),hw.below⟩
 refine ak (fun h3=>?_) (fun h3=>?_)
 ·refine cD 29 (fun h4=>?_) (fun h4=>?_)
  ·refine aa ?_
   intro w hw
   exact⟨aS (by unfold eA;rw[if_neg h1,if_neg h2,if_pos h3,h4];rfl),hw.below⟩
  refine aa ?_
  refine cQ (_) rfl ((.ro hs))<|aa ?_
  refine dQ rfl (SF.opa (.ro hs) (by omega))<|aa ?_
  intro w hw
  exact⟨aS (by unfold eA;rw[if_neg h1,if_neg h2,if_pos h3,h4];rfl),hw.below⟩
 refine aa ?_
 intro w hw
 exact⟨aS (by unfold eA;rw[if_neg h1,if_neg h2,if_neg h3]),hw.below⟩
theorem Ct (A:Option Addr) (c:Nat) (l:List aW) (pc:Nat) (w:World) (hs:Sl w (.slice A l.length c) l) (hp:pc<l.length) (h40:l.length<=40) :
  Calls Tryz.prog 196 #[.slice A l.length c,.int .i64 (pc:Int)] w fun e w'=> ∃g:Option Addr×Nat,True/\e= .returned (.slice g.1 (oc l pc).length g.2)/\Cw w.heap.size w [aj (.slice g.1 (oc l pc).length g.2) (oc l pc)] w':=by
 have b1:=be hs
 refine enter Tryz.func196 rfl Tryz.ntmps196 rfl<|aa ?_
 refine dg (fun w h=>Cw.nilO Int h) ?_
 refine cN (fun g:Nat×Option Addr×Nat=>g.1<=l.length+1) (fun g=>l.length+1 - g.1) (fun g=> [(0,.slice A l.length c),(1,.int .i64 (pc:Int)),(5,.slice g.2.1 ((upto g.1).filter (eA (aK l pc) (pc:Int))).length g.2.2),(6,.int .i64 (g.1:Int))]) (fun g=> [aj (.slice g.2.1 ((upto g.1).filter (eA (aK l pc) (pc:Int))).length g.2.2) ((upto g.1).filter (eA (aK l pc) (pc:Int)))]) (0,none,0) (aC _) ?_
 rintro⟨k,A1,c1⟩ hk'
 try dsimp only
 have hk:k<=l.length+1:=hk'
 have hfl:=w8 (eA (aK l pc) (pc:Int)) k
 refine ak (fun hlt=>?_) (fun hlt=>?_)
 ·refine aa ?_
  refine bw rfl Tryz.call250 (fun w hw=>wY A c l pc (k:Int) w (hw.ro hs) hp)<|aa ?_
  refine aO rfl (fun hg=>?_) (fun hg=>?_)
  ·have hg:(eA (aK l pc) (pc:Int)) (k:Int)=true:=hg
   refine aa ?_
   intro g1 _
   refine oE (cZ (α:=Int) (bytes:=8) (k:Int) [] (w7 hg) ap (bP dA) rfl (eM fc fc) (qJ (by unfold aI;omega)) (by omega) (by omega) rfl rfl rfl) (fun⟨A4,c4⟩ _=>?_)
   refine a7 ?_
   refine bN (k+1,A4,c4) (by show k+1<=_;omega) (by show _ - _<_ - _;omega)
  have hg:¬(eA (aK l pc) (pc:Int)) (k:Int)=true:=by rw[hg];decide
  refine aa ?_
  rw[<-yT hg]
  refine bN (k+1,A1,c1) (by show k+1<=_;omega) (by show _ - _<_ - _;omega)
 obtain rfl:k=l.length+1:=by omega
 refine aa ?_
 intro w hw
 exact⟨(A1,c1),trivial,rfl,hw⟩
end
end Go.Proofs.YthfkmcbblnbfaaaGreatDoor
