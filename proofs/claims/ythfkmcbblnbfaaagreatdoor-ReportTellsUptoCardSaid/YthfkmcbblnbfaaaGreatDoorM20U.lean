/- Texts of one proof, one behind the other: lemmas alone. -/
import Derived.Recover
import Derived.Test.YthfkmcbblnbfaaaGreatDoorM19U

namespace Go.Proofs.YthfkmcbblnbfaaaGreatDoor
set_option maxRecDepth 100000
set_option maxHeartbeats 16000000
open Go.RowKit
section
section
variable {P:Program} {n:Nat} {B:Nat} {w0:World} {Q:Exit->Act->World->Prop} {env:aZ} {H H':List ar} {ops:Array Oper} {l:List Oper} {o:Oper} {fn:Func} {R:Ending->World->Prop}
theorem Aq {N:NF} {op:BinOp} {t u:TypeId} {x y:Operand} {vx vy v:Value} (hop:o.op= .binOp op t x y u) (hx:opv env x=some vx) (hy:opv env y=some vy) (hr:∀w,(binOp op t vx vy).run P w= .ok v w) (hgd:∀w,(eqGuard op t x y vx vy).run P w= .ok () w):QS P N B w0 o env H v:=by
 intro a w hf hw
 unfold execOp
 simp only[hop,hf.opv hx,hf.opv hy,Sem.run_bind,hgd,Result.andThen_ok,hr,Sem.run_pure]
variable {f:FuncId} {fv:Fn} {cap args:Array Value} {r1:ResultVar} {v1:Value}
end
end
end Go.Proofs.YthfkmcbblnbfaaaGreatDoor
