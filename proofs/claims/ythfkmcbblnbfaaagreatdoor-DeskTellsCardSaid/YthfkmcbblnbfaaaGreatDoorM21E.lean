/- Lemmas of one proof. -/
import Derived.Test.YthfkmcbblnbfaaaGreatDoorM90E
import Derived.Test.YthfkmcbblnbfaaaGreatDoorM0E
import Derived.Recover
import Derived.Test.YthfkmcbblnbfaaaGreatDoorM20E

namespace Go.Proofs.YthfkmcbblnbfaaaGreatDoor
set_option maxRecDepth 100000
set_option maxHeartbeats 16000000
open Go.RowKit
section
section
variable {P:Program} {n:Nat} {B:Nat} {w0:World} {Q:Exit->Act->World->Prop} {env:cM} {H H':List aP} {ops:Array Oper} {l:List Oper} {o:Oper} {fn:Func} {R:Ending->World->Prop}
theorem Ag {f:FuncId} {c:Code} {args:List Value} {w b:World} (g:P.funcs[f]? =some fn) (e:fn.body=some c) (p:fn.ntmps=n) (i:Nat.ble args.length n=true)
  (k:Cw B b H w) (h:CW P ⟨n,[]⟩ B b c (bodyPostD P fn R) (yP 0 args) H):Calls P f args.toArray w R:=by
 refine calls_of_wp_defers g e (h _ w ?_ k);have:args.length<=n:=by simpa using i
 refine⟨by simp;omega,rfl,fun q r d=>?_⟩;obtain⟨_,a⟩:=xh _ _ _ _ d;rw[va] at a;have j:=(bw.1 a).1;refine⟨by show _<n;omega,?_⟩;rw[oB,Array.getElem?_append_left (by simpa using j)];simp[a]
theorem DK {b:List Deferred} {x:Operand} {d:Array TypeId} {fv:Fn} {cap:Array Value} (k:o.op= .defer ⟨.value x,#[],d⟩) (p:opv env x=some (.func fv #[] cap)) (j:gd ops env o=some true) (i:o.dst=none)
  (h:RW P ⟨n,⟨.fn fv cap,#[]⟩::b⟩ B w0 ops Q l env H):RW P ⟨n,b⟩ B w0 ops Q (o::l) env H:=by
 intro c q a m;refine wpList_step fun r g=>?_;rw[iU j a,if_pos rfl];unfold Oper.wp execOp;simp only[k,resolve,a.opv p,Deferred.ofValue,Sem.run_bind,Sem.run_pure,Result.andThen_ok,Oper.upon_defer,i];refine g _ _ (h _ q ⟨a.1,?_,a.2.2⟩ m);have e:=a.2.1;show (⟨.fn fv cap,_⟩:Deferred)::c.defers=_;rw[e];simp
theorem rp {a:NF} {t b:TypeId} {d g:Nat} {v:Value} (i:cg H (ak g [v] b) H') (ha:∀w,(isAgg t).run P w= .ok false w) (h:lk env d=some (af g)):RV P a B w0 env H (.cell d t) v:=fun k w e j=>by
 have c:w.cell? ⟨g,0,none⟩=some v:=gQ i rfl w j;unfold J5;simp only[e.get h,asAddr,Sem.run_bind,Sem.run_pure,Result.andThen_ok,loadVar,ha,mF,if_false];simp[load,Sem.run,c]
theorem pN {e:NF} {a:BinOp} {t m:TypeId} {x y:Operand} {b c v:Value} (h:o.op= .binOp a t x y m) (j:opv env x=some b) (k:opv env y=some c) (i:∀w,(binOp a t b c).run P w= .ok v w) (g:∀w,(eqGuard a t x y b c).run P w= .ok () w):QS P e B w0 o env H v:=by
 intro p w d q;unfold execOp;simp only[h,d.opv j,d.opv k,Sem.run_bind,g,Result.andThen_ok,i,Sem.run_pure]
theorem zw {d:NF} {x:Operand} {t a:TypeId} {c v:Value} {b:Bool} (h:∀w,(Instr.typeAssert c t a b).run P w= .ok v w) (g:o.op= .typeAssert x t a b) (i:opv env x=some c):QS P d B w0 o env H v:=by
 intro j w e k;unfold execOp;simp only[g,e.opv i,Sem.run_bind,Result.andThen_ok,h,Sem.run_pure]
variable {f:FuncId} {fv:Fn} {cap args:Array Value} {r1:ResultVar} {v1:Value}
theorem AR (hi:∀w,(invoke (.fn fv cap) #[]).run P w= .ok (.enter f args) w) (i:∀w,Cw B w0 H w->CallsD P f args .returning w fun e d w'=>(∃v,e= .returned v)/\d= .returning/\Cw B w0 H' w')
  (k:fn.results= #[r1]) (h:RV P ⟨n,[⟨.fn fv cap,#[]⟩]⟩ B w0 env H' r1 v1) (j:∀w,Cw B w0 H' w->R (.returned v1) w):XW ⟨n,[⟨.fn fv cap,#[]⟩]⟩ B w0 (bodyPostD P fn R) .ret env H:=fun a w b m=>by
 show Leaves P fn a.tmps R a.defers .returning w;rw[b.2.1];refine leaves_cons σ (hi w) ?_;refine(i w m).mono ?_;rintro e d w' ⟨⟨v,rfl⟩,rfl,c⟩;refine⟨v1,?_,j w' c⟩;have g:=h a w' b c;rw[kU,k];simp[g]
theorem Ew {a:Act} {w:World} {b:List PanicEntry} (d:Fr ⟨n,[⟨.fn fv cap,#[]⟩]⟩ env a) (hi:∀w,(invoke (.fn fv cap) #[]).run P w= .ok (.enter f args) w)
  (j:CallsD P f args (.panicking b) w fun e c w'=>(∃v,e= .returned v)/\settle c= .returning/\Cw B w0 H' w') (m:fn.results= #[r1]) (i:RV P ⟨n,[⟨.fn fv cap,#[]⟩]⟩ B w0 env H' r1 v1) (k:∀w,Cw B w0 H' w->R (.returned v1) w):bodyPostD P fn R (.panic b) a w:=by
 show Leaves P fn a.tmps R a.defers (.panicking b) w;rw[d.2.1];refine leaves_cons σ (hi w) ?_;refine j.mono ?_;rintro e c w' ⟨⟨v,rfl⟩,p,g⟩;show Leaves P fn a.tmps R [] (settle c) w';rw[p];refine⟨v1,?_,k w' g⟩;have h:=i a w' d g;rw[kU,m];simp[h]
end
end
