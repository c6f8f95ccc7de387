/- Lemmas of one proof. -/
import Derived.Test.YthfkmcbblnbfaaaGreatDoorM90E
import Derived.Test.YthfkmcbblnbfaaaGreatDoorM0E
import Derived.Test.YthfkmcbblnbfaaaGreatDoorM27E
import Derived.Test.YthfkmcbblnbfaaaGreatDoorM24E

namespace Go.Proofs.YthfkmcbblnbfaaaGreatDoor
set_option maxRecDepth 100000
set_option maxHeartbeats 16000000
open Go.RowKit
section
theorem L4 {o:bJ} (pc:Int) (h:o.c=13):dT o pc= []:=by unfold dT;rw[if_pos h]
theorem Jm {o:bJ} (pc:Int) (a:¬o.c=13) (h:o.c=10):dT o pc= [o.a]:=by unfold dT;rw[if_neg a,if_pos h]
theorem Jk {o:bJ} (pc:Int) (a:¬o.c=13) (h2:¬o.c=10) (h:o.c=11):dT o pc=Lib.compact (nH [pc+1,o.a]):=by
 obtain⟨b,c⟩:=Au (BR [pc+1,o.a]);refine qq (wK _ _) b fun d=>?_;rw[c,zj,sF];unfold iN;rw[if_neg a,if_neg h2,if_pos h];simp
theorem Jo {o:bJ} (pc:Int) (a:¬o.c=13) (h2:¬o.c=10) (h:¬o.c=11):dT o pc= [pc+1]:=by unfold dT;rw[if_neg a,if_neg h2,if_neg h]
theorem L5 (A:Option Addr) (c:Nat) (l:List bJ) (pc:Nat) (w:World) (h:Sl w (ac A l.length c) l) (q:pc<l.length) :
  Calls Tryz.prog 223 #[ac A l.length c,ai (pc:Int)] w fun e w'=> ∃g:Option Addr×Nat,True/\e= .returned (ac g.1 (dT (bE l pc) pc).length g.2)/\Cw w.heap.size w [an (ac g.1 (dT (bE l pc) pc).length g.2) (dT (bE l pc) pc)] w':=by
 have:=bA h;have j:=Eg h q;have k:aI ((pc:Int)+1):=by unfold aI;omega
 refine enter Tryz.func223 rfl Tryz.ntmps223 rfl<|aj ?_;refine da _ rfl (.ro h) ?_;refine iB (cs:= [_,_]) rfl (SF.op (.ro h) ω)<|aj ?_;refine fun t _=>ax (fun d=>?_) (fun d=>?_)
 ·have e:=L4 (o:=bE l pc) pc d;refine aj ?_;intro w a;refine⟨(none,0),trivial,by rw[e];rfl,?_⟩;rw[e];exact(Cw.nilO Int a).msub ms
 refine ax (fun f=>?_) (fun f=>?_)
 ·have e:=Jm (o:=bE l pc) pc d f;refine aj ?_;refine fun u _=>aj ?_;intro w a;replace a:=(fun w b=>bI (α:=Int) (m:=1) [(bE l pc).a] rfl (ia j.2) rfl κ b) w a;refine⟨(_,_),trivial,by rw[e];rfl,?_⟩;rw[e];exact a.msub ms
 refine ax (fun i=>?_) (fun i=>?_)
 ·have e:=Jk (o:=bE l pc) pc d f i;refine aj ?_;intro v _;refine aC ?_;refine bG<|db (fun w b=>bI (α:=Int) (m:=2) [(pc:Int)+1,(bE l pc).a] rfl (kB k j.2) rfl κ b) ?_;have p:∀n∈[(pc:Int)+1,(bE l pc).a],aI n:=kB k j.2;refine aj ?_;refine dA rfl VB (fun w a=>DD a ω p) (fun _ _=>aj ?_);refine dA rfl VA (fun w a=>xP a ω (fun n r=>p n (zj.1 r))) (fun _ _=>aj ?_);intro w a;refine⟨(_,_),trivial,by rw[e],?_⟩;rw[e];exact a.msub ms
 have e:=Jo (o:=bE l pc) pc d f i;refine aj ?_;refine fun x _=>aj ?_;intro w a;replace a:=(fun w b=>bI (α:=Int) (m:=1) [(pc:Int)+1] rfl (ia k) rfl κ b) w a;refine⟨(_,_),trivial,by rw[e];rfl,?_⟩;rw[e];exact a.msub ms
theorem IU (A:Option Addr) (c:Nat) (l:List bJ) (pc:Nat) (to_:Int) (w:World) (b:Sl w (ac A l.length c) l) (j:pc<l.length) :
  Calls Tryz.prog 250 #[ac A l.length c,ai (pc:Int),ai to_] w fun e w'=>e= .returned (.bool (iN (bE l pc) pc to_))/\Below w.heap.size w w':=by
 have:=bA b;refine enter Tryz.func250 rfl Tryz.ntmps250 rfl<|aj ?_;refine da _ rfl (.ro b)<|aj ?_;refine eK rfl (SF.opc (.ro b) ω)<|ax (fun d=>?_) (fun d=>?_)
 ·refine aj ?_;intro w a;exact⟨aX (by unfold iN;rw[if_pos d]),a.below⟩
 refine ax (fun f=>?_) (fun f=>?_)
 ·refine aj ?_;refine da _ rfl (.ro b)<|aj ?_;refine eK rfl (SF.opa (.ro b) ω)<|aj ?_;intro w a;exact⟨aX (by unfold iN;rw[if_neg d,if_pos f]),a.below⟩
 refine ax (fun g=>?_) (fun g=>?_)
 ·refine cR 29 (fun h=>?_) (fun h=>?_)
  ·refine aj ?_;intro w a;exact⟨aX (by unfold iN;rw[if_neg d,if_neg f,if_pos g,h];rfl),a.below⟩
  refine aj ?_;refine da _ rfl (.ro b)<|aj ?_;refine eK rfl (SF.opa (.ro b) ω)<|aj ?_;intro w a;exact⟨aX (by unfold iN;rw[if_neg d,if_neg f,if_pos g,h];rfl),a.below⟩
 refine aj ?_;intro w a;exact⟨aX (by unfold iN;rw[if_neg d,if_neg f,if_neg g]),a.below⟩
theorem Po (A:Option Addr) (c:Nat) (l:List bJ) (pc:Nat) (w:World) (i:Sl w (ac A l.length c) l) (p:pc<l.length) (s:l.length<=40) :
  Calls Tryz.prog 196 #[ac A l.length c,ai (pc:Int)] w fun e w'=> ∃g:Option Addr×Nat,True/\e= .returned (ac g.1 (xg l pc).length g.2)/\Cw w.heap.size w [an (ac g.1 (xg l pc).length g.2) (xg l pc)] w':=by
 have:=bA i;refine enter Tryz.func196 rfl Tryz.ntmps196 rfl<|aj ?_;refine db (fun w m=>Cw.nilO Int m) ?_;refine de (fun g:Nat×Option Addr×Nat=>g.1<=l.length+1) (fun g=>l.length+1 - g.1) (fun g=> [(0,ac A l.length c),(1,ai (pc:Int)),(5,ac g.2.1 ((ke g.1).filter (iN (bE l pc) (pc:Int))).length g.2.2),(6,ai (g.1:Int))]) (fun g=> [ag g.2.1 g.2.2 ((ke g.1).filter (iN (bE l pc) (pc:Int)))]) (0,none,0) (aU _) ?_;rintro⟨a,f,h⟩ n
 try dsimp only
 have:a<=l.length+1:=n;have:=I0 (iN (bE l pc) (pc:Int)) a;refine ax (fun o=>?_) (fun o=>?_)
 ·refine aj ?_;refine cE rfl Tryz.call250 (fun w d=>IU A c l pc (a:Int) w (d.ro i) p)<|aj ?_;refine bO rfl (fun b=>?_) (fun b=>?_)
  ·have b:(iN (bE l pc) (pc:Int)) (a:Int)=true:=b;refine aj ?_;intro r _;refine oE (bV (α:=Int) (bytes:=8) (a:Int) [] (IZ b) ay (aS cK) rfl (eB fc fc) (pW (by unfold aI;omega)) ω ω rfl rfl rfl) (fun⟨j,k⟩ _=>?_);refine aO ?_;refine cJ (a+1,j,k) (by show a+1<=_;omega) (by show _ - _<_ - _;omega)
  have b:¬(iN (bE l pc) (pc:Int)) (a:Int)=true:=by rw[b];decide
  refine aj ?_;rw[<-Ls b];refine cJ (a+1,f,h) (by show a+1<=_;omega) (by show _ - _<_ - _;omega)
 obtain rfl:a=l.length+1:=ω;refine aj ?_;intro w d;exact⟨(f,h),trivial,rfl,d⟩
end
