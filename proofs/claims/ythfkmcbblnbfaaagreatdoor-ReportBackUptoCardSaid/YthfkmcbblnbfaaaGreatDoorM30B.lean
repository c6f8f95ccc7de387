/- Texts of one proof, one behind the other: lemmas alone. -/
import Derived.Test.YthfkmcbblnbfaaaGreatDoorM0B
import Derived.Test.YthfkmcbblnbfaaaGreatDoorM26B
import Derived.Test.YthfkmcbblnbfaaaGreatDoorM24B
import Derived.Test.YthfkmcbblnbfaaaGreatDoorM19B

namespace Go.Proofs.YthfkmcbblnbfaaaGreatDoor
set_option maxRecDepth 100000
set_option maxHeartbeats 16000000
open Go.RowKit
section
theorem ze {o:aM} (pc:Int) (h:o.c=13):cX o pc= []:=by unfold cX;rw[if_pos h]
theorem wZ {o:aM} (pc:Int) (h1:¬o.c=13) (h:o.c=10):cX o pc= [o.a]:=by unfold cX;rw[if_neg h1,if_pos h]
theorem wY {o:aM} (pc:Int) (h1:¬o.c=13) (h2:¬o.c=10) (h:o.c=11):cX o pc=Lib.compact (iu [pc+1,o.a]):=by
 obtain⟨k1,k2⟩:=pQ (qH [pc+1,o.a])
 refine mV (tW _ _) k1 fun a=>?_
 rw[k2,o5,rr]
 unfold ef
 rw[if_neg h1,if_neg h2,if_pos h]
 simp
theorem w3 {o:aM} (pc:Int) (h1:¬o.c=13) (h2:¬o.c=10) (h:¬o.c=11):cX o pc= [pc+1]:=by unfold cX;rw[if_neg h1,if_neg h2,if_neg h]
theorem zf (A:Option Addr) (c:Nat) (l:List aM) (pc:Nat) (w:World) (hs:Sl w (.slice A l.length c) l) (hp:pc<l.length) :
  Calls Tryz.prog 223 #[.slice A l.length c,.int .i64 (pc:Int)] w fun e w'=> ∃g:Option Addr×Nat,True/\e= .returned (.slice g.1 (cX (aY l pc) pc).length g.2)/\Cw w.heap.size w [af (.slice g.1 (cX (aY l pc) pc).length g.2) (cX (aY l pc) pc)] w':=by
 have b1:=bt hs
 have ho:=sY hs hp
 have i1:ay ((pc:Int)+1):=by unfold ay;omega
 refine enter Tryz.func223 rfl Tryz.ntmps223 rfl<|aa ?_
 refine dA (_) rfl ((.ro hs)) ?_
 refine i8 (cs:= [_,_]) rfl (SF.op (.ro hs) (by omega))<|aa ?_
 refine fun g1 _=>an (fun h1=>?_) (fun h1=>?_)
 ·have e:=ze (o:=aY l pc) pc h1
  refine aa ?_
  intro w hw
  refine⟨(none,0),trivial,by rw[e];rfl,?_⟩
  rw[e]
  exact(Cw.nilO Int hw).msub ms
 refine an (fun h2=>?_) (fun h2=>?_)
 ·have e:=wZ (o:=aY l pc) pc h1 h2
  refine aa ?_
  refine fun g2 _=>aa ?_
  intro w hw
  replace hw:=(fun w h=>bj (α:=Int) (m:=1) [(aY l pc).a] rfl (iZ ho.2) rfl (by decide) h) w hw
  refine⟨(_,_),trivial,by rw[e];rfl,?_⟩
  rw[e]
  exact hw.msub ms
 refine an (fun h3=>?_) (fun h3=>?_)
 ·have e:=wY (o:=aY l pc) pc h1 h2 h3
  refine aa ?_
  intro g3 _
  refine aC ?_
  refine bE<|dc (fun w h=>bj (α:=Int) (m:=2) [(pc:Int)+1,(aY l pc).a] rfl (iW i1 ho.2) rfl (by decide) h) ?_
  have h2i:∀x∈[(pc:Int)+1,(aY l pc).a],ay x:=iW i1 ho.2
  refine aa ?_
  refine bU rfl Hz (fun w hw=>sn hw (by omega) h2i) (fun _ _=>aa ?_)
  refine bU rfl Hy (fun w hw=>n4 hw (by omega) (fun x hx=>h2i x (o5.1 hx))) (fun _ _=>aa ?_)
  intro w hw
  refine⟨(_,_),trivial,by rw[e],?_⟩
  rw[e]
  exact hw.msub ms
 have e:=w3 (o:=aY l pc) pc h1 h2 h3
 refine aa ?_
 refine fun g4 _=>aa ?_
 intro w hw
 replace hw:=(fun w h=>bj (α:=Int) (m:=1) [(pc:Int)+1] rfl (iZ i1) rfl (by decide) h) w hw
 refine⟨(_,_),trivial,by rw[e];rfl,?_⟩
 rw[e]
 exact hw.msub ms
theorem wz (A:Option Addr) (c:Nat) (l:List aM) (pc:Nat) (to_:Int) (w:World) (hs:Sl w (.slice A l.length c) l) (hp:pc<l.length) :
  Calls Tryz.prog 250 #[.slice A l.length c,.int .i64 (pc:Int),.int .i64 to_] w fun e w'=>e= .returned (.bool (ef (aY l pc) pc to_))/\Below w.heap.size w w':=by
 have b1:=bt hs
 refine enter Tryz.func250 rfl Tryz.ntmps250 rfl<|aa ?_
 refine dA (_) rfl ((.ro hs))<|aa ?_
 refine eB rfl (SF.opc (.ro hs) (by omega))<|an (fun h1=>?_) (fun h1=>?_)
 ·refine aa ?_
  intro w hw
  exact⟨aQ (by unfold ef;rw[if_pos h1]),hw.below⟩
 refine an (fun h2=>?_) (fun h2=>?_)
 ·refine aa ?_
  refine dA (_) rfl ((.ro hs))<|aa ?_
  refine eB rfl (SF.opa (.ro hs) (by omega))<|aa ?_
  intro w hw
  exact⟨aQ (by unfold ef;rw[if_neg h1,if_pos h2]),hw.below⟩
 refine an (fun h3=>?_) (fun h3=>?_)
 ·refine dq 29 (fun h4=>?_) (fun h4=>?_)
  ·refine aa ?_
   intro w hw
   exact⟨aQ (by unfold ef;rw[if_neg h1,if_neg h2,if_pos h3,h4];rfl),hw.below⟩
  refine aa ?_
  refine dA (_) rfl ((.ro hs))<|aa ?_
  refine eB rfl (SF.opa (.ro hs) (by omega))<|aa ?_
  intro w hw
  exact⟨aQ (by unfold ef;rw[if_neg h1,if_neg h2,if_pos h3,h4];rfl),hw.below⟩
 refine aa ?_
 intro w hw
 exact⟨aQ (by unfold ef;rw[if_neg h1,if_neg h2,if_neg h3]),hw.below⟩
theorem GX (A:Option Addr) (c:Nat) (l:List aM) (pc:Nat) (w:World) (hs:Sl w (.slice A l.length c) l) (hp:pc<l.length) (h40:l.length<=40) :
  Calls Tryz.prog 196 #[.slice A l.length c,.int .i64 (pc:Int)] w fun e w'=> ∃g:Option Addr×Nat,True/\e= .returned (.slice g.1 (rT l pc).length g.2)/\Cw w.heap.size w [af (.slice g.1 (rT l pc).length g.2) (rT l pc)] w':=by
 have b1:=bt hs
 refine enter Tryz.func196 rfl Tryz.ntmps196 rfl<|aa ?_
 refine dc (fun w h=>Cw.nilO Int h) ?_
 refine dH (fun g:Nat×Option Addr×Nat=>g.1<=l.length+1) (fun g=>l.length+1 - g.1) (fun g=> [(0,.slice A l.length c),(1,.int .i64 (pc:Int)),(5,.slice g.2.1 ((upto g.1).filter (ef (aY l pc) (pc:Int))).length g.2.2),(6,.int .i64 (g.1:Int))]) (fun g=> [af (.slice g.2.1 ((upto g.1).filter (ef (aY l pc) (pc:Int))).length g.2.2) ((upto g.1).filter (ef (aY l pc) (pc:Int)))]) (0,none,0) (br _) ?_
 rintro⟨k,A1,c1⟩ hk'
 try dsimp only
 have hk:k<=l.length+1:=hk'
 have hfl:=wF (ef (aY l pc) (pc:Int)) k
 refine an (fun hlt=>?_) (fun hlt=>?_)
 ·refine aa ?_
  refine cd rfl Tryz.call250 (fun w hw=>wz A c l pc (k:Int) w (hw.ro hs) hp)<|aa ?_
  refine bw rfl (fun hg=>?_) (fun hg=>?_)
  ·have hg:(ef (aY l pc) (pc:Int)) (k:Int)=true:=hg
   refine aa ?_
   intro g1 _
   refine oE (dx (α:=Int) (bytes:=8) (k:Int) [] (wE hg) aJ (bQ e9) rfl (fQ fc fc) (qq (by unfold ay;omega)) (by omega) (by omega) rfl rfl rfl) (fun⟨A4,c4⟩ _=>?_)
   refine aT ?_
   refine dm (k+1,A4,c4) (by show k+1<=_;omega) (by show _ - _<_ - _;omega)
  have hg:¬(ef (aY l pc) (pc:Int)) (k:Int)=true:=by rw[hg];decide
  refine aa ?_
  rw[<-yI hg]
  refine dm (k+1,A1,c1) (by show k+1<=_;omega) (by show _ - _<_ - _;omega)
 obtain rfl:k=l.length+1:=by omega
 refine aa ?_
 intro w hw
 exact⟨(A1,c1),trivial,rfl,hw⟩
end
end Go.Proofs.YthfkmcbblnbfaaaGreatDoor
