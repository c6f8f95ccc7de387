/- Lemmas of one proof. -/
import Derived.WalkSmall
import Derived.Test.YthfkmcbblnbfaaaGreatDoorM18R

namespace Go.Proofs.YthfkmcbblnbfaaaGreatDoor
set_option maxRecDepth 100000
set_option maxHeartbeats 16000000
open Go.RowKit
section
abbrev OX (v:Value):List PanicEntry:= [{v:=v,recovered:=false}]
section
variable {P:Program} {n:NF} {B:Nat} {w0:World} {Q:Exit->Act->World->Prop} {env:cy} {H:List aJ} {ops:Array Oper} {l:List Oper} {o:Oper}
def LH (P:Program) (n:NF) (B:Nat) (w0:World) (o:Oper) (env:cy) (H:List aJ) {γ:Type} (Φ:γ->Prop) (val:γ->Value) (H':γ->List aJ) (Pn:List PanicEntry->World->Prop):Prop:=
 ∀a w,Fr n env a->Cw B w0 H w->o.wp P a w (fun a' w'=> ∃g,Φ g/\a'=a.put o.dst (val g)/\Cw B w0 (H' g) w') (fun e a' w'=> ∃ch,e= .panic ch/\a'=a/\Pn ch w')
theorem ff {γ:Type} {Φ:γ->Prop} {val:γ->Value} {H':γ->List aJ} {Pn:List PanicEntry->World->Prop} (ht:LH P n B w0 o env H Φ val H' Pn) (hg:gd ops env o=some true) (hd:kw n.k o.dst=true)
  (hp:∀ch a w,Fr n env a->Pn ch w->Q (.panic ch) a w) (h:∀g,Φ g->RW P n B w0 ops Q l (dput o.dst (val g) env) (H' g)):RW P n B w0 ops Q (o::l) env H:=by
 intro a w hf hw
 refine wpList_step fun K hK=>?_
 rw[ic hg hf,if_pos rfl]
 refine Oper.wp_mono_ (ht a w hf hw) ?_ ?_
 ·rintro a' w' ⟨g,h1,rfl,h2⟩
  exact hK _ _ (h g h1 _ w' (hf.dput hd _) h2)
 rintro e a' w' ⟨ch,rfl,rfl,h2⟩
 exact hp ch _ _ hf h2
theorem zM {γ:Type} {Φ:γ->Prop} {val:γ->Value} {H':γ->List aJ} {Pn:List PanicEntry->World->Prop} {f:FuncId} {fo:Operand} {args:Array Operand} {ats:Array TypeId} {cap:Array Value} {vs:List Value} (hop:o.op= .call ⟨.value fo,args,ats⟩)
  (hfo:opv env fo=some (.func (.func f) #[] cap)) (hargs:opvs env args.toList=some vs) (hc:∀a w,(callFunc f a).run P w= .ok (.enter f a) w)
  (hC:∀w,Cw B w0 H w->Calls P f (vs++cap.toList).toArray w fun e w'=>(∃g,Φ g/\e= .returned (val g)/\Cw B w0 (H' g) w')\/∃ch,e= .panicked ch/\Pn ch w'):LH P n B w0 o env H Φ val H' Pn:=by
 intro a w hf hw
 unfold Oper.wp
 rw[C4 (ty:=0) hop hfo hargs hc hf w,Oper.upon_enter]
 refine(hC w hw).mono fun e w' h=>?_
 rcases h with ⟨g,h1,h2,h3⟩ | ⟨ch,h1,h2⟩
 ·subst h2
  exact⟨g,h1,rfl,h3⟩
 subst h1
 exact⟨ch,rfl,rfl,h2⟩
theorem dO {γ:Type} {Φ:γ->Prop} {val:γ->Value} {H':γ->List aJ} {Pn:List PanicEntry->World->Prop} {f:FuncId} {fo:Operand} {args:Array Operand} {ats:Array TypeId} {vs:List Value} (hop:o.op= .call ⟨.value fo,args,ats⟩)
  (hfo:opv env fo=some (.func (.func f) #[] #[])) (hargs:opvs env args.toList=some vs) (hc:∀a w,(callFunc f a).run P w= .ok (.enter f a) w)
  (hC:∀w,Cw B w0 H w->Calls P f vs.toArray w fun e w'=>(∃g,Φ g/\e= .returned (val g)/\Cw B w0 (H' g) w')\/∃ch,e= .panicked ch/\Pn ch w'):LH P n B w0 o env H Φ val H' Pn:=
 zM hop hfo hargs hc fun w hw=>by
  have:(vs++(#[]:Array Value).toList).toArray=vs.toArray:=by simp
  rw[this]
  exact hC w hw
theorem kC {x:Operand} {t:TypeId} {v:Value} (hop:o.op= .panic x) (hx:opv env x=some (.iface t v)) (hg:gd ops env o=some true) (h:∀a w,Fr n env a->Cw B w0 H w->Q (.panic (OX (.iface t v))) a w):RW P n B w0 ops Q (o::l) env H:=by
 intro a w hf hw
 refine wpList_step fun K hK=>?_
 rw[ic hg hf,if_pos rfl]
 unfold Oper.wp execOp
 simp only[hop,hf.opv hx]
 exact h a w hf hw
theorem Cd {x:Operand} {t:TypeId} {v u:Value} (hop:o.op= .makeInterface t x) (hx:opv env x=some v) (hr:∀w,(Instr.makeInterface t v).run P w= .ok u w):QS P n B w0 o env H u:=by
 intro a w hf hw
 unfold execOp
 simp only[hop,hf.opv hx,Sem.run_bind,hr,Result.andThen_ok,Sem.run_pure]
theorem nW {x:Operand} {t:TypeId} {k:IntKind} {v:Value} (hu:P.underlying t=some (.int k)) (hop:o.op= .makeInterface t x) (hx:opv env x=some v):QS P n B w0 o env H (.iface t v):=
 Cd hop hx fun w=>by
  unfold Instr.makeInterface
  simp only[Sem.run_bind,run_underlying hu,Result.andThen_ok,Sem.run_pure]
theorem qN {x:Operand} {t:TypeId} {fs:Array Field} {v:Value} (hu:P.underlying t=some (.struct fs)) (hop:o.op= .makeInterface t x) (hx:opv env x=some v):QS P n B w0 o env H (.iface t v):=
 Cd hop hx fun w=>by
  unfold Instr.makeInterface
  simp only[Sem.run_bind,run_underlying hu,Result.andThen_ok,Sem.run_pure]
theorem jR {x:Operand} {t:TypeId} {i:Nat} {v u:Value} (hr:∀w,(Instr.field t v i).run P w= .ok u w) (hop:o.op= .field t x i) (hx:opv env x=some v):QS P n B w0 o env H u:=by
 intro a w hf hw
 unfold execOp
 simp only[hop,hf.opv hx,Sem.run_bind,hr,Result.andThen_ok,Sem.run_pure]
end
end
