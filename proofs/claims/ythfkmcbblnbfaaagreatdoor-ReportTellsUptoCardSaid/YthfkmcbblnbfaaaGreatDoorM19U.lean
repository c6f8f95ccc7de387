/- Texts of one proof, one behind the other: lemmas alone. -/
import Derived.WalkSmall
import Derived.Test.YthfkmcbblnbfaaaGreatDoorM17U

namespace Go.Proofs.YthfkmcbblnbfaaaGreatDoor
set_option maxRecDepth 100000
set_option maxHeartbeats 16000000
open Go.RowKit
section
abbrev G0 (v:Value):List PanicEntry:= [{v:=v,recovered:=false}]
section
variable {P:Program} {n:NF} {B:Nat} {w0:World} {Q:Exit->Act->World->Prop} {env:aZ} {H:List ar} {ops:Array Oper} {l:List Oper} {o:Oper}
def HT (P:Program) (n:NF) (B:Nat) (w0:World) (o:Oper) (env:aZ) (H:List ar) {γ:Type} (Φ:γ->Prop) (val:γ->Value) (H':γ->List ar) (Pn:List PanicEntry->World->Prop):Prop:=
 ∀a w,Fr n env a->Cw B w0 H w->o.wp P a w (fun a' w'=> ∃g,Φ g/\a'=a.put o.dst (val g)/\Cw B w0 (H' g) w') (fun e a' w'=> ∃ch,e= .panic ch/\a'=a/\Pn ch w')
theorem s9 {x:Operand} {t:TypeId} {i:Nat} {v u:Value} (hr:∀w,(Instr.field t v i).run P w= .ok u w) (hop:o.op= .field t x i) (hx:opv env x=some v):QS P n B w0 o env H u:=by
 intro a w hf hw
 unfold execOp
 simp only[hop,hf.opv hx,Sem.run_bind,hr,Result.andThen_ok,Sem.run_pure]
end
end
end Go.Proofs.YthfkmcbblnbfaaaGreatDoor
