/- Lemmas of one proof. -/
import Derived.Test.YthfkmcbblnbfaaaGreatDoorM0R
import Derived.Recover
import Derived.Test.YthfkmcbblnbfaaaGreatDoorM20R

namespace Go.Proofs.YthfkmcbblnbfaaaGreatDoor
set_option maxRecDepth 100000
set_option maxHeartbeats 16000000
open Go.RowKit
section
section
variable {P:Program} {n:Nat} {B:Nat} {w0:World} {Q:Exit->Act->World->Prop} {env:cy} {H H':List aJ} {ops:Array Oper} {l:List Oper} {o:Oper} {fn:Func} {R:Ending->World->Prop}
theorem yb {f:FuncId} {c:Code} {args:List Value} {w w1:World} (hf:P.funcs[f]? =some fn) (hb:fn.body=some c) (hn:fn.ntmps=n) (hl:Nat.ble args.length n=true)
  (hw:Cw B w1 H w) (h:CW P ⟨n,[]⟩ B w1 c (bodyPostD P fn R) (wF 0 args) H):Calls P f args.toArray w R:=by
 refine calls_of_wp_defers hf hb (h _ w ?_ hw)
 have hl':args.length<=n:=by simpa using hl
 refine⟨by simp;omega,rfl,fun t v e=>?_⟩
 obtain⟨_,h2⟩:=uT _ _ _ _ e
 rw[th] at h2
 have ht:=(aZ.1 h2).1
 refine⟨by show _<n;omega,?_⟩
 rw[mR,Array.getElem?_append_left (by simpa using ht)]
 simp[h2]
theorem BP {D:List Deferred} {x:Operand} {ats:Array TypeId} {fv:Fn} {cap:Array Value} (hop:o.op= .defer ⟨.value x,#[],ats⟩) (hx:opv env x=some (.func fv #[] cap)) (hg:gd ops env o=some true) (hd:o.dst=none)
  (h:RW P ⟨n,⟨.fn fv cap,#[]⟩::D⟩ B w0 ops Q l env H):RW P ⟨n,D⟩ B w0 ops Q (o::l) env H:=by
 intro a w hf hw
 refine wpList_step fun K hK=>?_
 rw[ic hg hf,if_pos rfl]
 unfold Oper.wp execOp
 simp only[hop,resolve,hf.opv hx,Deferred.ofValue,Sem.run_bind,Sem.run_pure,Result.andThen_ok,Oper.upon_defer,hd]
 refine hK _ _ (h _ w ⟨hf.1,?_,hf.2.2⟩ hw)
 have e:=hf.2.1
 show (⟨.fn fv cap,_⟩:Deferred)::a.defers=_
 rw[e]
 simp
theorem pH {N:NF} {t T':TypeId} {d g:Nat} {v:Value} (hp:cN H (am g [v] T') H') (ha:∀w,(isAgg t).run P w= .ok false w) (h:lk env d=some (.pointer (some ⟨g,0,none⟩))):RV P N B w0 env H (.cell d t) v:=fun a w hf hw=>by
 have h1:w.cell? ⟨g,0,none⟩=some v:=fP hp rfl w hw
 unfold Hr
 simp only[hf.get h,asAddr,Sem.run_bind,Sem.run_pure,Result.andThen_ok,loadVar,ha,nO,if_false]
 simp[load,Sem.run,h1]
theorem mL {N:NF} {op:BinOp} {t u:TypeId} {x y:Operand} {vx vy v:Value} (hop:o.op= .binOp op t x y u) (hx:opv env x=some vx) (hy:opv env y=some vy) (hr:∀w,(binOp op t vx vy).run P w= .ok v w) (hgd:∀w,(eqGuard op t x y vx vy).run P w= .ok () w):QS P N B w0 o env H v:=by
 intro a w hf hw
 unfold execOp
 simp only[hop,hf.opv hx,hf.opv hy,Sem.run_bind,hgd,Result.andThen_ok,hr,Sem.run_pure]
theorem xr {N:NF} {x:Operand} {t u:TypeId} {vx v:Value} {b:Bool} (hr:∀w,(Instr.typeAssert vx t u b).run P w= .ok v w) (hop:o.op= .typeAssert x t u b) (hx:opv env x=some vx):QS P N B w0 o env H v:=by
 intro a w hf hw
 unfold execOp
 simp only[hop,hf.opv hx,Sem.run_bind,Result.andThen_ok,hr,Sem.run_pure]
variable {f:FuncId} {fv:Fn} {cap args:Array Value} {r1:ResultVar} {v1:Value}
theorem yC (hi:∀w,(invoke (.fn fv cap) #[]).run P w= .ok (.enter f args) w) (hC:∀w,Cw B w0 H w->CallsD P f args .returning w fun e u' w'=>(∃v,e= .returned v)/\u'= .returning/\Cw B w0 H' w')
  (hr:fn.results= #[r1]) (h1:RV P ⟨n,[⟨.fn fv cap,#[]⟩]⟩ B w0 env H' r1 v1) (hR:∀w,Cw B w0 H' w->R (.returned v1) w):XW ⟨n,[⟨.fn fv cap,#[]⟩]⟩ B w0 (bodyPostD P fn R) .ret env H:=fun a w hf hw=>by
 show Leaves P fn a.tmps R a.defers .returning w
 rw[hf.2.1]
 refine leaves_cons (by simp) (hi w) ?_
 refine(hC w hw).mono ?_
 rintro e u' w' ⟨⟨v,rfl⟩,rfl,hw'⟩
 refine⟨v1,?_,hR w' hw'⟩
 have e1:=h1 a w' hf hw'
 rw[jQ,hr]
 simp[e1]
theorem Ct {a:Act} {w:World} {ch:List PanicEntry} (hf:Fr ⟨n,[⟨.fn fv cap,#[]⟩]⟩ env a) (hi:∀w,(invoke (.fn fv cap) #[]).run P w= .ok (.enter f args) w)
  (hC:CallsD P f args (.panicking ch) w fun e u' w'=>(∃v,e= .returned v)/\settle u'= .returning/\Cw B w0 H' w') (hr:fn.results= #[r1]) (h1:RV P ⟨n,[⟨.fn fv cap,#[]⟩]⟩ B w0 env H' r1 v1) (hR:∀w,Cw B w0 H' w->R (.returned v1) w):bodyPostD P fn R (.panic ch) a w:=by
 show Leaves P fn a.tmps R a.defers (.panicking ch) w
 rw[hf.2.1]
 refine leaves_cons (by simp) (hi w) ?_
 refine hC.mono ?_
 rintro e u' w' ⟨⟨v,rfl⟩,hu,hw'⟩
 show Leaves P fn a.tmps R [] (settle u') w'
 rw[hu]
 refine⟨v1,?_,hR w' hw'⟩
 have e1:=h1 a w' hf hw'
 rw[jQ,hr]
 simp[e1]
end
end
