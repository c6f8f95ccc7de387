/- Lemmas of one proof. -/
import Derived.Test.YthfkmcbblnbfaaaGreatDoorM90W
import Derived.WalkSmall
import Derived.Test.YthfkmcbblnbfaaaGreatDoorM18W

namespace Go.Proofs.YthfkmcbblnbfaaaGreatDoor
set_option maxRecDepth 100000
set_option maxHeartbeats 16000000
open Go.RowKit
section
abbrev S4 (v:Value):List PanicEntry:= [{v:=v,recovered:=false}]
section
variable {P:Program} {n:NF} {B:Nat} {w0:World} {Q:Exit->Act->World->Prop} {env:cS} {H:List aO} {ops:Array Oper} {l:List Oper} {o:Oper}
def O9 (P:Program) (n:NF) (B:Nat) (w0:World) (o:Oper) (env:cS) (H:List aO) {γ:Type} (Φ:γ->Prop) (val:γ->Value) (H':γ->List aO) (Pn:List PanicEntry->World->Prop):Prop:=
 ∀a w,Fr n env a->Cw B w0 H w->o.wp P a w (fun a' w'=> ∃g,Φ g/\a'=a.put o.dst (val g)/\Cw B w0 (H' g) w') (fun e a' w'=> ∃ch,e= .panic ch/\a'=a/\Pn ch w')
theorem fR {γ:Type} {Φ:γ->Prop} {val:γ->Value} {H':γ->List aO} {e:List PanicEntry->World->Prop} (r:O9 P n B w0 o env H Φ val H' e) (p:gd ops env o=some true) (m:lL n.k o.dst=true)
  (q:∀b a w,Fr n env a->e b w->Q (.panic b) a w) (h:∀g,Φ g->RW P n B w0 ops Q l (dput o.dst (val g) env) (H' g)):RW P n B w0 ops Q (o::l) env H:=by
 intro a w c s;refine wpList_step fun t k=>?_;rw[iU p c,if_pos rfl];refine Oper.wp_mono_ (r a w c s) ?_ ?_
 ·rintro i f ⟨g,j,rfl,d⟩;exact k _ _ (h g j _ f (c.dput m _) d)
 rintro u i f ⟨b,rfl,rfl,d⟩;exact q b _ _ c d
theorem CB {γ:Type} {Φ:γ->Prop} {val:γ->Value} {H':γ->List aO} {h:List PanicEntry->World->Prop} {f:FuncId} {fo:Operand} {args:Array Operand} {i:Array TypeId} {cap:Array Value} {vs:List Value} (t:o.op= .call ⟨.value fo,args,i⟩)
  (s:opv env fo=some (.func (.func f) #[] cap)) (p:opvs env args.toList=some vs) (q:∀a w,(callFunc f a).run P w= .ok (.enter f a) w)
  (m:∀w,Cw B w0 H w->Calls P f (vs++cap.toList).toArray w fun e w'=>(∃g,Φ g/\e= .returned (val g)/\Cw B w0 (H' g) w')\/∃b,e= .panicked b/\h b w'):O9 P n B w0 o env H Φ val H' h:=by
 intro a w r u;unfold Oper.wp;rw[FK (ty:=0) t s p q r w,Oper.upon_enter];refine(m w u).mono fun e w' j=>?_;rcases j with ⟨g,c,d,k⟩ | ⟨b,c,d⟩
 ·subst d;exact⟨g,c,rfl,k⟩
 subst c;exact⟨b,rfl,rfl,d⟩
theorem ew {γ:Type} {Φ:γ->Prop} {val:γ->Value} {H':γ->List aO} {b:List PanicEntry->World->Prop} {f:FuncId} {fo:Operand} {args:Array Operand} {d:Array TypeId} {vs:List Value} (m:o.op= .call ⟨.value fo,args,d⟩)
  (k:opv env fo=some (.func (.func f) #[] #[])) (i:opvs env args.toList=some vs) (j:∀a w,(callFunc f a).run P w= .ok (.enter f a) w)
  (h:∀w,Cw B w0 H w->Calls P f vs.toArray w fun e w'=>(∃g,Φ g/\e= .returned (val g)/\Cw B w0 (H' g) w')\/∃c,e= .panicked c/\b c w'):O9 P n B w0 o env H Φ val H' b:=
 CB m k i j fun w p=>by
  have:(vs++(#[]:Array Value).toList).toArray=vs.toArray:=σ;rw[this];exact h w p
theorem lW {x:Operand} {t:TypeId} {v:Value} (d:o.op= .panic x) (f:opv env x=some (.iface t v)) (c:gd ops env o=some true) (h:∀a w,Fr n env a->Cw B w0 H w->Q (.panic (S4 (.iface t v))) a w):RW P n B w0 ops Q (o::l) env H:=by
 intro a w b e;refine wpList_step fun g i=>?_;rw[iU c b,if_pos rfl];unfold Oper.wp execOp;simp only[d,b.opv f];exact h a w b e
theorem EE {x:Operand} {t:TypeId} {v u:Value} (b:o.op= .makeInterface t x) (d:opv env x=some v) (c:∀w,(Instr.makeInterface t v).run P w= .ok u w):QS P n B w0 o env H u:=by
 intro e w a f;unfold execOp;simp only[b,a.opv d,Sem.run_bind,c,Result.andThen_ok,Sem.run_pure]
theorem pX {x:Operand} {t:TypeId} {k:IntKind} {v:Value} (b:P.underlying t=some (.int k)) (a:o.op= .makeInterface t x) (c:opv env x=some v):QS P n B w0 o env H (.iface t v):=
 EE a c fun d=>by
  unfold Instr.makeInterface;simp only[Sem.run_bind,run_underlying b,Result.andThen_ok,Sem.run_pure]
theorem tk {x:Operand} {t:TypeId} {fs:Array Field} {v:Value} (b:P.underlying t=some (.struct fs)) (a:o.op= .makeInterface t x) (c:opv env x=some v):QS P n B w0 o env H (.iface t v):=
 EE a c fun d=>by
  unfold Instr.makeInterface;simp only[Sem.run_bind,run_underlying b,Result.andThen_ok,Sem.run_pure]
theorem kx {x:Operand} {t:TypeId} {i:Nat} {v u:Value} (c:∀w,(Instr.field t v i).run P w= .ok u w) (b:o.op= .field t x i) (d:opv env x=some v):QS P n B w0 o env H u:=by
 intro e w a f;unfold execOp;simp only[b,a.opv d,Sem.run_bind,c,Result.andThen_ok,Sem.run_pure]
end
end
