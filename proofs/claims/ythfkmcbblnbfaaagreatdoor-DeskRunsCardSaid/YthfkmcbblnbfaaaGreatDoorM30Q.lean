/- Lemmas of one proof. -/
import Derived.Test.YthfkmcbblnbfaaaGreatDoorM0Q
import Derived.Test.YthfkmcbblnbfaaaGreatDoorM26Q
import Derived.Test.YthfkmcbblnbfaaaGreatDoorM24Q

namespace Go.Proofs.YthfkmcbblnbfaaaGreatDoor
set_option maxRecDepth 100000
set_option maxHeartbeats 16000000
open Go.RowKit
section
theorem Ic {o:bd} (pc:Int) (h:o.c=13):dm o pc= []:=by unfold dm;rw[if_pos h]
theorem Fj {o:bd} (pc:Int) (h1:¬o.c=13) (h:o.c=10):dm o pc= [o.a]:=by unfold dm;rw[if_neg h1,if_pos h]
theorem Fh {o:bd} (pc:Int) (h1:¬o.c=13) (h2:¬o.c=10) (h:o.c=11):dm o pc=Lib.compact (ld [pc+1,o.a]):=by
 obtain⟨k1,k2⟩:=wz (xJ [pc+1,o.a])
 refine sC (B6 _ _) k1 fun a=>?_
 rw[k2,vD,yB]
 unfold fV
 rw[if_neg h1,if_neg h2,if_pos h]
 simp
theorem Fk {o:bd} (pc:Int) (h1:¬o.c=13) (h2:¬o.c=10) (h:¬o.c=11):dm o pc= [pc+1]:=by unfold dm;rw[if_neg h1,if_neg h2,if_neg h]
theorem Id (A:Option Addr) (c:Nat) (l:List bd) (pc:Nat) (w:World) (hs:Sl w (.slice A l.length c) l) (hp:pc<l.length) :
  Calls Tryz.prog 223 #[.slice A l.length c,.int .i64 (pc:Int)] w fun e w'=> ∃g:Option Addr×Nat,True/\e= .returned (.slice g.1 (dm (bt l pc) pc).length g.2)/\Cw w.heap.size w [an (.slice g.1 (dm (bt l pc) pc).length g.2) (dm (bt l pc) pc)] w':=by
 have b1:=bx hs
 have ho:=AV hs hp
 have i1:aF ((pc:Int)+1):=by unfold aF;omega
 refine enter Tryz.func223 rfl Tryz.ntmps223 rfl<|aj ?_
 refine dA (_) rfl ((.ro hs)) ?_
 refine iX (cs:= [_,_]) rfl (SF.op (.ro hs) (by omega))<|aj ?_
 refine fun g1 _=>az (fun h1=>?_) (fun h1=>?_)
 ·have e:=Ic (o:=bt l pc) pc h1
  refine aj ?_
  intro w hw
  refine⟨(none,0),trivial,by rw[e];rfl,?_⟩
  rw[e]
  exact(Cw.nilO Int hw).msub ms
 refine az (fun h2=>?_) (fun h2=>?_)
 ·have e:=Fj (o:=bt l pc) pc h1 h2
  refine aj ?_
  refine fun g2 _=>aj ?_
  intro w hw
  replace hw:=(fun w h=>bI (α:=Int) (m:=1) [(bt l pc).a] rfl (gt ho.2) rfl (by decide) h) w hw
  refine⟨(_,_),trivial,by rw[e];rfl,?_⟩
  rw[e]
  exact hw.msub ms
 refine az (fun h3=>?_) (fun h3=>?_)
 ·have e:=Fh (o:=bt l pc) pc h1 h2 h3
  refine aj ?_
  intro g3 _
  refine aD ?_
  refine bK<|dJ (fun w h=>bI (α:=Int) (m:=2) [(pc:Int)+1,(bt l pc).a] rfl (jQ i1 ho.2) rfl (by decide) h) ?_
  have h2i:∀x∈[(pc:Int)+1,(bt l pc).a],aF x:=jQ i1 ho.2
  refine aj ?_
  refine cz rfl Rc (fun w hw=>zO hw (by omega) h2i) (fun _ _=>aj ?_)
  refine cz rfl Rb (fun w hw=>uh hw (by omega) (fun x hx=>h2i x (vD.1 hx))) (fun _ _=>aj ?_)
  intro w hw
  refine⟨(_,_),trivial,by rw[e],?_⟩
  rw[e]
  exact hw.msub ms
 have e:=Fk (o:=bt l pc) pc h1 h2 h3
 refine aj ?_
 refine fun g4 _=>aj ?_
 intro w hw
 replace hw:=(fun w h=>bI (α:=Int) (m:=1) [(pc:Int)+1] rfl (gt i1) rfl (by decide) h) w hw
 refine⟨(_,_),trivial,by rw[e];rfl,?_⟩
 rw[e]
 exact hw.msub ms
theorem EQ (A:Option Addr) (c:Nat) (l:List bd) (pc:Nat) (to_:Int) (w:World) (hs:Sl w (.slice A l.length c) l) (hp:pc<l.length) :
  Calls Tryz.prog 250 #[.slice A l.length c,.int .i64 (pc:Int),.int .i64 to_] w fun e w'=>e= .returned (.bool (fV (bt l pc) pc to_))/\Below w.heap.size w w':=by
 have b1:=bx hs
 refine enter Tryz.func250 rfl Tryz.ntmps250 rfl<|aj ?_
 refine dA (_) rfl ((.ro hs))<|aj ?_
 refine eM rfl (SF.opc (.ro hs) (by omega))<|az (fun h1=>?_) (fun h1=>?_)
 ·refine aj ?_
  intro w hw
  exact⟨aM (by unfold fV;rw[if_pos h1]),hw.below⟩
 refine az (fun h2=>?_) (fun h2=>?_)
 ·refine aj ?_
  refine dA (_) rfl ((.ro hs))<|aj ?_
  refine eM rfl (SF.opa (.ro hs) (by omega))<|aj ?_
  intro w hw
  exact⟨aM (by unfold fV;rw[if_neg h1,if_pos h2]),hw.below⟩
 refine az (fun h3=>?_) (fun h3=>?_)
 ·refine df 29 (fun h4=>?_) (fun h4=>?_)
  ·refine aj ?_
   intro w hw
   exact⟨aM (by unfold fV;rw[if_neg h1,if_neg h2,if_pos h3,h4];rfl),hw.below⟩
  refine aj ?_
  refine dA (_) rfl ((.ro hs))<|aj ?_
  refine eM rfl (SF.opa (.ro hs) (by omega))<|aj ?_
  intro w hw
  exact⟨aM (by unfold fV;rw[if_neg h1,if_neg h2,if_pos h3,h4];rfl),hw.below⟩
 refine aj ?_
 intro w hw
 exact⟨aM (by unfold fV;rw[if_neg h1,if_neg h2,if_neg h3]),hw.below⟩
theorem QA (A:Option Addr) (c:Nat) (l:List bd) (pc:Nat) (w:World) (hs:Sl w (.slice A l.length c) l) (hp:pc<l.length) (h40:l.length<=40) :
  Calls Tryz.prog 196 #[.slice A l.length c,.int .i64 (pc:Int)] w fun e w'=> ∃g:Option Addr×Nat,True/\e= .returned (.slice g.1 (zh l pc).length g.2)/\Cw w.heap.size w [an (.slice g.1 (zh l pc).length g.2) (zh l pc)] w':=by
 have b1:=bx hs
 refine enter Tryz.func196 rfl Tryz.ntmps196 rfl<|aj ?_
 refine dJ (fun w h=>Cw.nilO Int h) ?_
 refine dG (fun g:Nat×Option Addr×Nat=>g.1<=l.length+1) (fun g=>l.length+1 - g.1) (fun g=> [(0,.slice A l.length c),(1,.int .i64 (pc:Int)),(5,.slice g.2.1 ((jD g.1).filter (fV (bt l pc) (pc:Int))).length g.2.2),(6,.int .i64 (g.1:Int))]) (fun g=> [an (.slice g.2.1 ((jD g.1).filter (fV (bt l pc) (pc:Int))).length g.2.2) ((jD g.1).filter (fV (bt l pc) (pc:Int)))]) (0,none,0) (bi _) ?_
 rintro⟨k,A1,c1⟩ hk'
 try dsimp only
 have hk:k<=l.length+1:=hk'
 have hfl:=EV (fV (bt l pc) (pc:Int)) k
 refine az (fun hlt=>?_) (fun hlt=>?_)
 ·refine aj ?_
  refine cA rfl Tryz.call250 (fun w hw=>EQ A c l pc (k:Int) w (hw.ro hs) hp)<|aj ?_
  refine cB rfl (fun hg=>?_) (fun hg=>?_)
  ·have hg:(fV (bt l pc) (pc:Int)) (k:Int)=true:=hg
   refine aj ?_
   intro g1 _
   refine oE (cV (α:=Int) (bytes:=8) (k:Int) [] (EU hg) aV (bM ge) rfl (fT fc fc) (tJ (by unfold aF;omega)) (by omega) (by omega) rfl rfl rfl) (fun⟨A4,c4⟩ _=>?_)
   refine aJ ?_
   refine dv (k+1,A4,c4) (by show k+1<=_;omega) (by show _ - _<_ - _;omega)
  have hg:¬(fV (bt l pc) (pc:Int)) (k:Int)=true:=by rw[hg];decide
  refine aj ?_
  rw[<-Hz hg]
  refine dv (k+1,A1,c1) (by show k+1<=_;omega) (by show _ - _<_ - _;omega)
 obtain rfl:k=l.length+1:=by omega
 refine aj ?_
 intro w hw
 exact⟨(A1,c1),trivial,rfl,hw⟩
end
