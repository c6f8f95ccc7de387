/- Lemmas of one proof. -/
import Derived.Test.YthfkmcbblnbfaaaGreatDoorM90W
import Derived.Test.YthfkmcbblnbfaaaGreatDoorM0W
import Derived.Recover
import Derived.Test.YthfkmcbblnbfaaaGreatDoorM20W

namespace Go.Proofs.YthfkmcbblnbfaaaGreatDoor
set_option maxRecDepth 100000
set_option maxHeartbeats 16000000
open Go.RowKit
section
section
variable {P:Program} {n:Nat} {B:Nat} {w0:World} {Q:Exit->Act->World->Prop} {env:cS} {H H':List aO} {ops:Array Oper} {l:List Oper} {o:Oper} {fn:Func} {R:Ending->World->Prop}
theorem AR {f:FuncId} {c:Code} {args:List Value} {w b:World} (g:P.funcs[f]? =some fn) (e:fn.body=some c) (p:fn.ntmps=n) (i:Nat.ble args.length n=true)
  (k:Cw B b H w) (h:CW P ⟨n,[]⟩ B b c (bodyPostD P fn R) (zl 0 args) H):Calls P f args.toArray w R:=by
 refine calls_of_wp_defers g e (h _ w ?_ k);have:args.length<=n:=by simpa using i
 refine⟨by simp;omega,rfl,fun q r d=>?_⟩;obtain⟨_,a⟩:=xE _ _ _ _ d;rw[vE] at a;have j:=(bt.1 a).1;refine⟨by show _<n;omega,?_⟩;rw[oL,Array.getElem?_append_left (by simpa using j)];simp[a]
theorem Ei {D:List Deferred} {x:Operand} {c:Array TypeId} {fv:Fn} {cap:Array Value} (j:o.op= .defer ⟨.value x,#[],c⟩) (m:opv env x=some (.func fv #[] cap)) (i:gd ops env o=some true) (g:o.dst=none)
  (h:RW P ⟨n,⟨.fn fv cap,#[]⟩::D⟩ B w0 ops Q l env H):RW P ⟨n,D⟩ B w0 ops Q (o::l) env H:=by
 intro b p a k;refine wpList_step fun q e=>?_;rw[iU i a,if_pos rfl];unfold Oper.wp execOp;simp only[j,resolve,a.opv m,Deferred.ofValue,Sem.run_bind,Sem.run_pure,Result.andThen_ok,Oper.upon_defer,g];refine e _ _ (h _ p ⟨a.1,?_,a.2.2⟩ k);have d:=a.2.1;show (⟨.fn fv cap,_⟩:Deferred)::b.defers=_;rw[d];simp
theorem rM {a:NF} {t b:TypeId} {d g:Nat} {v:Value} (i:cu H (ak g [v] b) H') (ha:∀w,(isAgg t).run P w= .ok false w) (h:lk env d=some (af g)):RV P a B w0 env H (.cell d t) v:=fun k w e j=>by
 have c:w.cell? ⟨g,0,none⟩=some v:=gt i rfl w j;unfold KD;simp only[e.get h,asAddr,Sem.run_bind,Sem.run_pure,Result.andThen_ok,loadVar,ha,pM,if_false];simp[load,Sem.run,c]
theorem pY {e:NF} {a:BinOp} {t u:TypeId} {x y:Operand} {b c v:Value} (h:o.op= .binOp a t x y u) (j:opv env x=some b) (k:opv env y=some c) (i:∀w,(binOp a t b c).run P w= .ok v w) (g:∀w,(eqGuard a t x y b c).run P w= .ok () w):QS P e B w0 o env H v:=by
 intro m w d p;unfold execOp;simp only[h,d.opv j,d.opv k,Sem.run_bind,g,Result.andThen_ok,i,Sem.run_pure]
theorem zS {c:NF} {x:Operand} {t u:TypeId} {a v:Value} {b:Bool} (g:∀w,(Instr.typeAssert a t u b).run P w= .ok v w) (e:o.op= .typeAssert x t u b) (h:opv env x=some a):QS P c B w0 o env H v:=by
 intro i w d j;unfold execOp;simp only[e,d.opv h,Sem.run_bind,Result.andThen_ok,g,Sem.run_pure]
variable {f:FuncId} {fv:Fn} {cap args:Array Value} {r1:ResultVar} {v1:Value}
theorem Bs (hi:∀w,(invoke (.fn fv cap) #[]).run P w= .ok (.enter f args) w) (i:∀w,Cw B w0 H w->CallsD P f args .returning w fun e d w'=>(∃v,e= .returned v)/\d= .returning/\Cw B w0 H' w')
  (k:fn.results= #[r1]) (h:RV P ⟨n,[⟨.fn fv cap,#[]⟩]⟩ B w0 env H' r1 v1) (j:∀w,Cw B w0 H' w->R (.returned v1) w):XW ⟨n,[⟨.fn fv cap,#[]⟩]⟩ B w0 (bodyPostD P fn R) .ret env H:=fun a w b m=>by
 show Leaves P fn a.tmps R a.defers .returning w;rw[b.2.1];refine leaves_cons σ (hi w) ?_;refine(i w m).mono ?_;rintro e d w' ⟨⟨v,rfl⟩,rfl,c⟩;refine⟨v1,?_,j w' c⟩;have g:=h a w' b c;rw[lc,k];simp[g]
theorem E3 {a:Act} {w:World} {b:List PanicEntry} (d:Fr ⟨n,[⟨.fn fv cap,#[]⟩]⟩ env a) (hi:∀w,(invoke (.fn fv cap) #[]).run P w= .ok (.enter f args) w)
  (j:CallsD P f args (.panicking b) w fun e c w'=>(∃v,e= .returned v)/\settle c= .returning/\Cw B w0 H' w') (m:fn.results= #[r1]) (i:RV P ⟨n,[⟨.fn fv cap,#[]⟩]⟩ B w0 env H' r1 v1) (k:∀w,Cw B w0 H' w->R (.returned v1) w):bodyPostD P fn R (.panic b) a w:=by
 show Leaves P fn a.tmps R a.defers (.panicking b) w;rw[d.2.1];refine leaves_cons σ (hi w) ?_;refine j.mono ?_;rintro e c w' ⟨⟨v,rfl⟩,p,g⟩;show Leaves P fn a.tmps R [] (settle c) w';rw[p];refine⟨v1,?_,k w' g⟩;have h:=i a w' d g;rw[lc,m];simp[h]
end
end
