/- Lemmas of one proof. -/
import Derived.Test.YthfkmcbblnbfaaaGreatDoorM0R
import Derived.Test.YthfkmcbblnbfaaaGreatDoorM27R
import Derived.Test.YthfkmcbblnbfaaaGreatDoorM24R

namespace Go.Proofs.YthfkmcbblnbfaaaGreatDoor
set_option maxRecDepth 100000
set_option maxHeartbeats 16000000
open Go.RowKit
section
theorem Ja {o:bC} (pc:Int) (h:o.c=13):dy o pc= []:=by unfold dy;rw[if_pos h]
theorem GF {o:bC} (pc:Int) (h1:¬o.c=13) (h:o.c=10):dy o pc= [o.a]:=by unfold dy;rw[if_neg h1,if_pos h]
theorem GE {o:bC} (pc:Int) (h1:¬o.c=13) (h2:¬o.c=10) (h:o.c=11):dy o pc=Lib.compact (mo [pc+1,o.a]):=by
 obtain⟨k1,k2⟩:=yg (zx [pc+1,o.a])
 refine qC (uA _ _) k1 fun a=>?_
 rw[k2,wZ,qK]
 unfold gW
 rw[if_neg h1,if_neg h2,if_pos h]
 simp
theorem GG {o:bC} (pc:Int) (h1:¬o.c=13) (h2:¬o.c=10) (h:¬o.c=11):dy o pc= [pc+1]:=by unfold dy;rw[if_neg h1,if_neg h2,if_neg h]
theorem Jb (A:Option Addr) (c:Nat) (l:List bC) (pc:Nat) (w:World) (hs:Sl w (.slice A l.length c) l) (hp:pc<l.length) :
  Calls Tryz.prog 223 #[.slice A l.length c,.int .i64 (pc:Int)] w fun e w'=> ∃g:Option Addr×Nat,True/\e= .returned (.slice g.1 (dy (bx l pc) pc).length g.2)/\Cw w.heap.size w [ak (.slice g.1 (dy (bx l pc) pc).length g.2) (dy (bx l pc) pc)] w':=by
 have b1:=bE hs
 have ho:=Cl hs hp
 have i1:aH ((pc:Int)+1):=by unfold aH;omega
 refine enter Tryz.func223 rfl Tryz.ntmps223 rfl<|aj ?_
 refine cS (_) rfl ((.ro hs)) ?_
 refine iY (cs:= [_,_]) rfl (SF.op (.ro hs) (by omega))<|aj ?_
 refine fun g1 _=>av (fun h1=>?_) (fun h1=>?_)
 ·have e:=Ja (o:=bx l pc) pc h1
  refine aj ?_
  intro w hw
  refine⟨(none,0),trivial,by rw[e];rfl,?_⟩
  rw[e]
  exact(Cw.nilO Int hw).msub ms
 refine av (fun h2=>?_) (fun h2=>?_)
 ·have e:=GF (o:=bx l pc) pc h1 h2
  refine aj ?_
  refine fun g2 _=>aj ?_
  intro w hw
  replace hw:=(fun w h=>bt (α:=Int) (m:=1) [(bx l pc).a] rfl (fT ho.2) rfl (by decide) h) w hw
  refine⟨(_,_),trivial,by rw[e];rfl,?_⟩
  rw[e]
  exact hw.msub ms
 refine av (fun h3=>?_) (fun h3=>?_)
 ·have e:=GE (o:=bx l pc) pc h1 h2 h3
  refine aj ?_
  intro g3 _
  refine ay ?_
  refine bH<|dK (fun w h=>bt (α:=Int) (m:=2) [(pc:Int)+1,(bx l pc).a] rfl (io i1 ho.2) rfl (by decide) h) ?_
  have h2i:∀x∈[(pc:Int)+1,(bx l pc).a],aH x:=io i1 ho.2
  refine aj ?_
  refine cT rfl RC (fun w hw=>BK hw (by omega) h2i) (fun _ _=>aj ?_)
  refine cT rfl RB (fun w hw=>vE hw (by omega) (fun x hx=>h2i x (wZ.1 hx))) (fun _ _=>aj ?_)
  intro w hw
  refine⟨(_,_),trivial,by rw[e],?_⟩
  rw[e]
  exact hw.msub ms
 have e:=GG (o:=bx l pc) pc h1 h2 h3
 refine aj ?_
 refine fun g4 _=>aj ?_
 intro w hw
 replace hw:=(fun w h=>bt (α:=Int) (m:=1) [(pc:Int)+1] rfl (fT i1) rfl (by decide) h) w hw
 refine⟨(_,_),trivial,by rw[e];rfl,?_⟩
 rw[e]
 exact hw.msub ms
theorem Ge (A:Option Addr) (c:Nat) (l:List bC) (pc:Nat) (to_:Int) (w:World) (hs:Sl w (.slice A l.length c) l) (hp:pc<l.length) :
  Calls Tryz.prog 250 #[.slice A l.length c,.int .i64 (pc:Int),.int .i64 to_] w fun e w'=>e= .returned (.bool (gW (bx l pc) pc to_))/\Below w.heap.size w w':=by
 have b1:=bE hs
 refine enter Tryz.func250 rfl Tryz.ntmps250 rfl<|aj ?_
 refine cS (_) rfl ((.ro hs))<|aj ?_
 refine eH rfl (SF.opc (.ro hs) (by omega))<|av (fun h1=>?_) (fun h1=>?_)
 ·refine aj ?_
  intro w hw
  exact⟨aS (by unfold gW;rw[if_pos h1]),hw.below⟩
 refine av (fun h2=>?_) (fun h2=>?_)
 ·refine aj ?_
  refine cS (_) rfl ((.ro hs))<|aj ?_
  refine eH rfl (SF.opa (.ro hs) (by omega))<|aj ?_
  intro w hw
  exact⟨aS (by unfold gW;rw[if_neg h1,if_pos h2]),hw.below⟩
 refine av (fun h3=>?_) (fun h3=>?_)
 ·refine dG 29 (fun h4=>?_) (fun h4=>?_)
  ·refine aj ?_
   intro w hw
   exact⟨aS (by unfold gW;rw[if_neg h1,if_neg h2,if_pos h3,h4];rfl),hw.below⟩
  refine aj ?_
  refine cS (_) rfl ((.ro hs))<|aj ?_
  refine eH rfl (SF.opa (.ro hs) (by omega))<|aj ?_
  intro w hw
  exact⟨aS (by unfold gW;rw[if_neg h1,if_neg h2,if_pos h3,h4];rfl),hw.below⟩
 refine aj ?_
 intro w hw
 exact⟨aS (by unfold gW;rw[if_neg h1,if_neg h2,if_neg h3]),hw.below⟩
theorem Mm (A:Option Addr) (c:Nat) (l:List bC) (pc:Nat) (w:World) (hs:Sl w (.slice A l.length c) l) (hp:pc<l.length) (h40:l.length<=40) :
  Calls Tryz.prog 196 #[.slice A l.length c,.int .i64 (pc:Int)] w fun e w'=> ∃g:Option Addr×Nat,True/\e= .returned (.slice g.1 (uS l pc).length g.2)/\Cw w.heap.size w [ak (.slice g.1 (uS l pc).length g.2) (uS l pc)] w':=by
 have b1:=bE hs
 refine enter Tryz.func196 rfl Tryz.ntmps196 rfl<|aj ?_
 refine dK (fun w h=>Cw.nilO Int h) ?_
 refine dA (fun g:Nat×Option Addr×Nat=>g.1<=l.length+1) (fun g=>l.length+1 - g.1) (fun g=> [(0,.slice A l.length c),(1,.int .i64 (pc:Int)),(5,.slice g.2.1 ((jl g.1).filter (gW (bx l pc) (pc:Int))).length g.2.2),(6,.int .i64 (g.1:Int))]) (fun g=> [ak (.slice g.2.1 ((jl g.1).filter (gW (bx l pc) (pc:Int))).length g.2.2) ((jl g.1).filter (gW (bx l pc) (pc:Int)))]) (0,none,0) (aX _) ?_
 rintro⟨k,A1,c1⟩ hk'
 try dsimp only
 have hk:k<=l.length+1:=hk'
 have hfl:=Gk (gW (bx l pc) (pc:Int)) k
 refine av (fun hlt=>?_) (fun hlt=>?_)
 ·refine aj ?_
  refine bX rfl Tryz.call250 (fun w hw=>Ge A c l pc (k:Int) w (hw.ro hs) hp)<|aj ?_
  refine bT rfl (fun hg=>?_) (fun hg=>?_)
  ·have hg:(gW (bx l pc) (pc:Int)) (k:Int)=true:=hg
   refine aj ?_
   intro g1 _
   refine oE (cH (α:=Int) (bytes:=8) (k:Int) [] (Gj hg) aw (aV cO) rfl (eD fc fc) (uV (by unfold aH;omega)) (by omega) (by omega) rfl rfl rfl) (fun⟨A4,c4⟩ _=>?_)
   refine aO ?_
   refine cU (k+1,A4,c4) (by show k+1<=_;omega) (by show _ - _<_ - _;omega)
  have hg:¬(gW (bx l pc) (pc:Int)) (k:Int)=true:=by rw[hg];decide
  refine aj ?_
  rw[<-ID hg]
  refine cU (k+1,A1,c1) (by show k+1<=_;omega) (by show _ - _<_ - _;omega)
 obtain rfl:k=l.length+1:=by omega
 refine aj ?_
 intro w hw
 exact⟨(A1,c1),trivial,rfl,hw⟩
end
