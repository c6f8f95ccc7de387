/- Lemmas of one proof. -/
import Derived.Test.YthfkmcbblnbfaaaGreatDoorM90W
import Derived.Test.YthfkmcbblnbfaaaGreatDoorM0W
import Derived.Test.YthfkmcbblnbfaaaGreatDoorM27W
import Derived.Test.YthfkmcbblnbfaaaGreatDoorM24W

namespace Go.Proofs.YthfkmcbblnbfaaaGreatDoor
set_option maxRecDepth 100000
set_option maxHeartbeats 16000000
open Go.RowKit
section
theorem Mx {o:bG} (pc:Int) (h:o.c=13):dX o pc= []:=by unfold dX;rw[if_pos h]
theorem JV {o:bG} (pc:Int) (a:¬o.c=13) (h:o.c=10):dX o pc= [o.a]:=by unfold dX;rw[if_neg a,if_pos h]
theorem JU {o:bG} (pc:Int) (a:¬o.c=13) (h2:¬o.c=10) (h:o.c=11):dX o pc=Lib.compact (nU [pc+1,o.a]):=by
 obtain⟨b,c⟩:=AY (Cn [pc+1,o.a]);refine qF (xe _ _) b fun d=>?_;rw[c,zH,th];unfold iO;rw[if_neg a,if_neg h2,if_pos h];simp
theorem JW {o:bG} (pc:Int) (a:¬o.c=13) (h2:¬o.c=10) (h:¬o.c=11):dX o pc= [pc+1]:=by unfold dX;rw[if_neg a,if_neg h2,if_neg h]
theorem My (A:Option Addr) (c:Nat) (l:List bG) (pc:Nat) (w:World) (h:Sl w (ac A l.length c) l) (q:pc<l.length) :
  Calls Tryz.prog 223 #[ac A l.length c,ai (pc:Int)] w fun e w'=> ∃g:Option Addr×Nat,True/\e= .returned (ac g.1 (dX (bH l pc) pc).length g.2)/\Cw w.heap.size w [an (ac g.1 (dX (bH l pc) pc).length g.2) (dX (bH l pc) pc)] w':=by
 have:=bx h;have j:=EN h q;have k:aI ((pc:Int)+1):=by unfold aI;omega
 refine enter Tryz.func223 rfl Tryz.ntmps223 rfl<|aj ?_;refine cP _ rfl (.ro h) ?_;refine iC (cs:= [_,_]) rfl (SF.op (.ro h) ω)<|aj ?_;refine fun t _=>ax (fun d=>?_) (fun d=>?_)
 ·have e:=Mx (o:=bH l pc) pc d;refine aj ?_;intro w a;refine⟨(none,0),trivial,by rw[e];rfl,?_⟩;rw[e];exact(Cw.nilO Int a).msub ms
 refine ax (fun f=>?_) (fun f=>?_)
 ·have e:=JV (o:=bH l pc) pc d f;refine aj ?_;refine fun u _=>aj ?_;intro w a;replace a:=(fun w b=>bN (α:=Int) (m:=1) [(bH l pc).a] rfl (ic j.2) rfl κ b) w a;refine⟨(_,_),trivial,by rw[e];rfl,?_⟩;rw[e];exact a.msub ms
 refine ax (fun i=>?_) (fun i=>?_)
 ·have e:=JU (o:=bH l pc) pc d f i;refine aj ?_;intro v _;refine aC ?_;refine bL<|dm (fun w b=>bN (α:=Int) (m:=2) [(pc:Int)+1,(bH l pc).a] rfl (kI k j.2) rfl κ b) ?_;have p:∀n∈[(pc:Int)+1,(bH l pc).a],aI n:=kI k j.2;refine aj ?_;refine du rfl V5 (fun w a=>Ea a ω p) (fun _ _=>aj ?_);refine du rfl V4 (fun w a=>yl a ω (fun n r=>p n (zH.1 r))) (fun _ _=>aj ?_);intro w a;refine⟨(_,_),trivial,by rw[e],?_⟩;rw[e];exact a.msub ms
 have e:=JW (o:=bH l pc) pc d f i;refine aj ?_;refine fun x _=>aj ?_;intro w a;replace a:=(fun w b=>bN (α:=Int) (m:=1) [(pc:Int)+1] rfl (ic k) rfl κ b) w a;refine⟨(_,_),trivial,by rw[e];rfl,?_⟩;rw[e];exact a.msub ms
theorem Ju (A:Option Addr) (c:Nat) (l:List bG) (pc:Nat) (to_:Int) (w:World) (b:Sl w (ac A l.length c) l) (j:pc<l.length) :
  Calls Tryz.prog 250 #[ac A l.length c,ai (pc:Int),ai to_] w fun e w'=>e= .returned (.bool (iO (bH l pc) pc to_))/\Below w.heap.size w w':=by
 have:=bx b;refine enter Tryz.func250 rfl Tryz.ntmps250 rfl<|aj ?_;refine cP _ rfl (.ro b)<|aj ?_;refine ef rfl (SF.opc (.ro b) ω)<|ax (fun d=>?_) (fun d=>?_)
 ·refine aj ?_;intro w a;exact⟨aY (by unfold iO;rw[if_pos d]),a.below⟩
 refine ax (fun f=>?_) (fun f=>?_)
 ·refine aj ?_;refine cP _ rfl (.ro b)<|aj ?_;refine ef rfl (SF.opa (.ro b) ω)<|aj ?_;intro w a;exact⟨aY (by unfold iO;rw[if_neg d,if_pos f]),a.below⟩
 refine ax (fun g=>?_) (fun g=>?_)
 ·refine dh 29 (fun h=>?_) (fun h=>?_)
  ·refine aj ?_;intro w a;exact⟨aY (by unfold iO;rw[if_neg d,if_neg f,if_pos g,h];rfl),a.below⟩
  refine aj ?_;refine cP _ rfl (.ro b)<|aj ?_;refine ef rfl (SF.opa (.ro b) ω)<|aj ?_;intro w a;exact⟨aY (by unfold iO;rw[if_neg d,if_neg f,if_pos g,h];rfl),a.below⟩
 refine aj ?_;intro w a;exact⟨aY (by unfold iO;rw[if_neg d,if_neg f,if_neg g]),a.below⟩
theorem PP (A:Option Addr) (c:Nat) (l:List bG) (pc:Nat) (w:World) (i:Sl w (ac A l.length c) l) (p:pc<l.length) (s:l.length<=40) :
  Calls Tryz.prog 196 #[ac A l.length c,ai (pc:Int)] w fun e w'=> ∃g:Option Addr×Nat,True/\e= .returned (ac g.1 (xD l pc).length g.2)/\Cw w.heap.size w [an (ac g.1 (xD l pc).length g.2) (xD l pc)] w':=by
 have:=bx i;refine enter Tryz.func196 rfl Tryz.ntmps196 rfl<|aj ?_;refine dm (fun w m=>Cw.nilO Int m) ?_;refine cZ (fun g:Nat×Option Addr×Nat=>g.1<=l.length+1) (fun g=>l.length+1 - g.1) (fun g=> [(0,ac A l.length c),(1,ai (pc:Int)),(5,ac g.2.1 ((ku g.1).filter (iO (bH l pc) (pc:Int))).length g.2.2),(6,ai (g.1:Int))]) (fun g=> [ag g.2.1 g.2.2 ((ku g.1).filter (iO (bH l pc) (pc:Int)))]) (0,none,0) (aS _) ?_;rintro⟨a,f,h⟩ n
 try dsimp only
 have:a<=l.length+1:=n;have:=JB (iO (bH l pc) (pc:Int)) a;refine ax (fun o=>?_) (fun o=>?_)
 ·refine aj ?_;refine cO rfl Tryz.call250 (fun w d=>Ju A c l pc (a:Int) w (d.ro i) p)<|aj ?_;refine cc rfl (fun b=>?_) (fun b=>?_)
  ·have b:(iO (bH l pc) (pc:Int)) (a:Int)=true:=b;refine aj ?_;intro r _;refine oE (cz (α:=Int) (bytes:=8) (a:Int) [] (JA b) az (aU cW) rfl (eG fc fc) (qk (by unfold aI;omega)) ω ω rfl rfl rfl) (fun⟨j,k⟩ _=>?_);refine aP ?_;refine cG (a+1,j,k) (by show a+1<=_;omega) (by show _ - _<_ - _;omega)
  have b:¬(iO (bH l pc) (pc:Int)) (a:Int)=true:=by rw[b];decide
  refine aj ?_;rw[<-LY b];refine cG (a+1,f,h) (by show a+1<=_;omega) (by show _ - _<_ - _;omega)
 obtain rfl:a=l.length+1:=ω;refine aj ?_;intro w d;exact⟨(f,h),trivial,rfl,d⟩
end
