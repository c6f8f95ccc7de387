/- Lemmas of one proof. -/
import Derived.Test.YthfkmcbblnbfaaaGreatDoorM90W
import Derived.Test.YthfkmcbblnbfaaaGreatDoorM0W
import Derived.Deep.LoopGhost
import Derived.Test.YthfkmcbblnbfaaaGreatDoorM8W

namespace Go.Proofs.YthfkmcbblnbfaaaGreatDoor
set_option maxRecDepth 100000
set_option maxHeartbeats 16000000
open Go.RowKit
section
abbrev nz:=List (Nat×Nat×Nat)
def fo:nz->Nat->Nat->Option Nat
 | [],_,_=>none
 | (t,f,k)::r,t',f'=>match Nat.beq t t' && Nat.beq f f' with
  | true=>some k
  | false=>fo r t' f'
def nz.Ok (P:Program) (T:nz):Prop:= ∀x∈T,∀a w,(Instr.fieldAt x.1 (.pointer (some a)) x.2.1).run P w= .ok (.pointer (some (a.add x.2.2))) w
theorem nz.Ok.get {P:Program} :∀{T:nz},T.Ok P->∀{t f k:Nat},fo T t f=some k->∀a w,(Instr.fieldAt t (.pointer (some a)) f).run P w= .ok (.pointer (some (a.add k))) w
 | [],_,_,_,_,h=>by simp[fo] at h
 | (t,f,k)::r,c,m,i,j,h=>by
  simp only[fo] at h
  split at h
  ·rename_i b
   cases h
   simp only[dC] at b;have d:=cI b.1;have e:=cI b.2;subst d e;exact c (t,f,k) σ
  exact nz.Ok.get (fun x g=>c x (by simp[g])) h
def FI (op:BinOp) (a b:Int):Option Value:=match op with
 | .eql=>some (.bool (decide (a=b)))
 | .neq=>some (.bool (!decide (a=b)))
 | .lss=>some (.bool (decide (a<b)))
 | .leq=>some (.bool (decide (a<=b)))
 | .gtr=>some (.bool (decide (b<a)))
 | .geq=>some (.bool (decide (b<=a)))
 | _=>none
theorem OK {P:Program} {c:BinOp} {a b:Int} {v:Value} (h:FI c a b=some v) (w:World):(Op.intCmp c a b).run P w= .ok v w:=by
 cases c <;> simp[FI] at h <;> subst h <;> rfl
theorem OL {c:BinOp} {a b:Int} {v:Value} (h:FI c a b=some v):c≠ .add/\c≠ .sub/\c≠ .mul/\c≠ .quo/\c≠ .rem/\c≠ .and/\c≠ .or/\c≠ .xor/\c≠ .andNot/\c≠ .shl/\c≠ .shr:=by
 cases c <;> simp[FI] at h <;> simp
def U0 (op:BinOp):Value->Value->Option Value
 | .int k a,.int k' b=>match decide (k=k') with
  | true=>FI op a b
  | false=>none
 | _,_=>none
def AQ (T:nz) (env:cS) (o:Oper):Option Value:=match o.op with
 | .move x=>opv env x
 | .assign x=>opv env x
 | .pick c a b=>match opv env c with
  | some (.bool true)=>opv env a
  | some (.bool false)=>opv env b
  | _=>none
 | .extract x i=>match opv env x with
  | some (.tuple vs)=>kS vs.toList i
  | _=>none
 | .unOp .not _ x=>match opv env x with
  | some (.bool b)=>some (.bool (!b))
  | _=>none
 | .binOp op _ x y _=>match opv env x,opv env y with
  | some u,some v=>U0 op u v
  | _,_=>none
 | .nilCheck x=>match opv env x with
  | some (.pointer (some a))=>some (.pointer (some a))
  | _=>none
 | .fieldAddr t x f=>match opv env x,fo T t f with
  | some (.pointer (some ⟨b,o,none⟩)),some k=>some (.pointer (some ⟨b,o+k,none⟩))
  | _,_=>none
 | .makeFunc fn first captured=>match opvs env first.toList,opvs env captured.toList with
  | some a,some b=>some (.func fn a.toArray b.toArray)
  | _,_=>none
 | _=>none
section
variable {P:Program} {n:NF} {B:Nat} {w0:World} {Q:Exit->Act->World->Prop} {env env':cS} {H H':List aO} {x y:Code} {ops:Array Oper} {l:List Oper} {o:Oper}
theorem gU (b o k:Nat):(⟨b,o,none⟩:Addr).add k=⟨b,o+k,none⟩:=by simp[Addr.add]
theorem BW {T:nz} (hT:T.Ok P) {v:Value} (h:AQ T env o=some v) {a:Act} (hf:Fr n env a) (w:World):(execOp a.eval o).run P w= .ok (.value v) w:=by
 unfold AQ at h;unfold execOp
 split at h
 case h_1 x hx=>rw[hx];simp only[Sem.run_pure,hf.opv h]
 case h_2 x hx=>rw[hx];simp only[Sem.run_pure,hf.opv h]
 case h_3 c u v' hx=>
  rw[hx]
  split at h
  ·rename_i hc;simp only[hf.opv hc,asBool,Sem.run_bind,Sem.run_pure,Result.andThen_ok,if_true,hf.opv h]
  ·rename_i hc;simp only[hf.opv hc,asBool,Sem.run_bind,Sem.run_pure,Result.andThen_ok,pM,if_false,hf.opv h]
  cases h
 case h_4 x i hx=>
  rw[hx]
  split at h
  ·rename_i vs hc;rw[ju,eB] at h;simp only[hf.opv hc,Instr.extract,h,Sem.run_bind,Sem.run_pure,Result.andThen_ok]
  cases h
 case h_5 t x hx=>
  rw[hx]
  split at h
  ·rename_i b hc;cases h;simp only[hf.opv hc,Op.unary,Sem.run_bind,Sem.run_pure,Result.andThen_ok]
  cases h
 case h_6 op t x y u hx=>
  rw[hx]
  split at h
  ·rename_i p q hp hq;unfold U0 at h
   split at h
   ·rename_i k a' k' b'
    split at h
    ·rename_i hk;have hk:k=k':=by simpa using hk
     subst hk;have hn:=OL h;have hr:=OK (P:=P) h w;have hbo:(binOp op t (.int k a') (.int k b')).run P w= .ok v w:=by
      unfold binOp
      cases op <;> simp_all
     have hgd:(eqGuard op t x y (.int k a') (.int k b')).run P w= .ok () w:=by
      unfold eqGuard
      split <;> simp
     simp only[hf.opv hp,hf.opv hq,Sem.run_bind,hgd,Result.andThen_ok,hbo,Sem.run_pure]
    cases h
   cases h
  cases h
 case h_7 x hx=>
  rw[hx]
  split at h
  ·rename_i a' hc;cases h;simp only[hf.opv hc,Sem.run_pure]
  cases h
 case h_8 t x f hx=>
  rw[hx]
  split at h
  ·rename_i b o' k hc hk
   cases h
   simp only[hf.opv hc,Sem.run_bind,hT.get hk,Result.andThen_ok,Sem.run_pure,gU]
  cases h
 case h_9 fn first captured hx=>
  rw[hx]
  split at h
  ·rename_i a' b' h1 h2
   cases h
   have e1:first.map a.eval=a'.toArray:=by
    apply Array.ext'
    rw[Array.toList_map,hf.opvs h1]
   have e2:captured.map a.eval=b'.toArray:=by
    apply Array.ext'
    rw[Array.toList_map,hf.opvs h2]
   simp only[e1,e2,Instr.makeFunc,Sem.run_bind,Sem.run_pure,Result.andThen_ok]
  cases h
 case h_10=>cases h
theorem DB {T:nz} (a:T.Ok P) {v:Value} (h:AQ T env o=some v):QS P n B w0 o env H v:=fun _ c b _=>BW a h b c
def AP (T:nz) (n:Nat) (ops:Array Oper):Nat->List Oper->cS->Option (List Oper×cS)
 | 0,l,env=>some (l,env)
 | _+1,[],_=>none
 | k+1,o::l,env=>match o.dst with
  | none=>none
  | some d=>match Nat.blt d n with
   | false=>none
   | true=>match o.guard with
    | none=>match AQ T env o with
     | some v=>AP T n ops k l ((d,v)::env)
     | none=>none
    | some (j,want)=>match rA ops j with
     | none=>none
     | some t=>match lk env t with
      | some (.bool b)=>match b == want with
       | false=>AP T n ops k l ((d,undef)::env)
       | true=>match AQ T env o with
        | some v=>AP T n ops k l ((d,v)::env)
        | none=>none
      | some (.tuple _)=>AP T n ops k l ((d,undef)::env)
      | _=>none
theorem wm {T:nz} (c:T.Ok P):∀(k:Nat) {l f:List Oper} {env d:cS} (env':cS),AP T n.k ops k l env=some (f,d)->lu d env'->RW P n B w0 ops Q f env' H->RW P n B w0 ops Q l env H
 | 0,l,f,env,d,env',h,b,a=>by
  simp only[AP,bE,cK] at h;obtain⟨rfl,rfl⟩:=h;exact KB b a
 | k+1,[],f,env,d,env',h,b,a=>by simp[AP] at h
 | k+1,o::l,f,env,d,env',h,b,a=>by
  simp only[AP] at h
  split at h
  ·cases h
  rename_i t i
  split at h
  ·cases h
  rename_i j
  split at h
  ·rename_i e
   split at h
   ·rename_i r q;exact Nq i j e (DB c q) (wm c k env' h b a)
   cases h
  rename_i u w e
  split at h
  ·cases h
  rename_i v p
  split at h
  ·rename_i s g
   split at h
   ·rename_i m;exact BD i j e p g m (wm c k env' h b a)
   rename_i m
   split at h
   ·rename_i r q;exact IR i j e p g m (DB c q) (wm c k env' h b a)
   cases h
  ·rename_i g;exact yL i j e p g (wm c k env' h b a)
  cases h
theorem eK {c:Operand} {p:Prop} [Decidable p] (d:opv env c=some (.bool (decide p))) (b:p->CW P n B w0 x Q env H) (h2:¬p->CW P n B w0 y Q env H):CW P n B w0 (.cond c x y) Q env H:=
 cc d (fun a=>b (of_decide_eq_true a)) (fun a=>h2 (of_decide_eq_false a))
theorem jP {c:Operand} {p:Prop} [Decidable p] (d:opv env c=some (.bool (!decide p))) (b:¬p->CW P n B w0 x Q env H) (h2:p->CW P n B w0 y Q env H):CW P n B w0 (.cond c x y) Q env H:=
 cc d (fun a=>b (ψ a)) (fun a=>h2 (ψ a))
def Jn {γ:Type} (n:NF) (B:Nat) (w0:World) (Φ:γ->Prop) (env:γ->cS) (H:γ->List aO) (a:Act) (w:World):Prop:= ∃g,Φ g/\Fr n (env g) a/\Cw B w0 (H g) w
theorem dG {γ:Type} (Φ:γ->Prop) (env':γ->cS) (H':γ->List aO) (h1:CW P n B w0 x (Exit.then (Jn n B w0 Φ env' H') Q) env H)
  (h2:∀g,Φ g->CW P n B w0 y Q (env' g) (H' g)):CW P n B w0 (.seq x y) Q env H:=by
 intro a w hf hw;refine wp_seq (wp_mono (h1 a w hf hw) ?_);intro e a' w' h
 cases e
 case normal=>obtain⟨g,hg,hf',hw'⟩:=h;exact h2 g hg a' w' hf' hw'
 all_goals exact h
theorem jJ {γ:Type} (Φ:γ->Prop) (env':γ->cS) (H':γ->List aO) (h1:CW P n B w0 x (Exit.then (Jn n B w0 Φ env' H') Q) env H)
  (h2:∀g,Φ g->CW P n B w0 y Q (env' g) (H' g)):CW P n B w0 x (Exit.then (y.wp P Q) Q) env H:=by
 intro a w hf hw;refine wp_mono (h1 a w hf hw) ?_;intro e a' w' h
 cases e
 case normal=>obtain⟨g,hg,hf',hw'⟩:=h;exact h2 g hg a' w' hf' hw'
 all_goals exact h
theorem G5 {γ:Type} {Φ:γ->Prop} {env':γ->cS} {H':γ->List aO} {a:Exit->Act->World->Prop} (g:γ) (c:Φ g) (d:lu env (env' g)) (hh:∀w,Cw B w0 H w->Cw B w0 (H' g) w):XW n B w0 (Exit.then (Jn n B w0 Φ env' H') a) .normal env H:=
 fun _ w b e=>⟨g,c,b.sub d,hh w e⟩
def Jl {γ:Type} (n:NF) (B:Nat) (w0:World) (Φ:γ->Prop) (μ:γ->Nat) (env:γ->cS) (H:γ->List aO) (m:Nat) (a:Act) (w:World):Prop:= ∃g,Φ g/\μ g<m/\Fr n (env g) a/\Cw B w0 (H g) w
theorem Rt {γ:Type} (Φ:γ->Prop) (μ:γ->Nat) (env':γ->cS) (H':γ->List aO) (g0:γ) (h0:Φ g0) (hs:lu env (env' g0)) (hh:∀w,Cw B w0 H w->Cw B w0 (H' g0) w)
  (round:∀g,Φ g->CW P n B w0 x (Exit.then (Jl n B w0 Φ μ env' H' (μ g)) Q) (env' g) (H' g)):CW P n B w0 (.loop x) Q env H:=by
 intro a w hf hw;refine wp_loop_ghost (fun m a w=> ∃g,Φ g/\μ g=m/\Fr n (env' g) a/\Cw B w0 (H' g) w) (μ g0) ⟨g0,h0,rfl,hf.sub hs,hh w hw⟩ ?_;rintro m a w ⟨g,hg,rfl,hf,hw⟩;refine wp_mono (round g hg a w hf hw) ?_;intro e a' w' h
 cases e
 case normal=>obtain⟨g',h1,h2,h3,h4⟩:=h;exact⟨μ g',h2,g',h1,rfl,h3,h4⟩
 all_goals exact h
theorem DL {γ:Type} {Φ:γ->Prop} {μ:γ->Nat} {env':γ->cS} {H':γ->List aO} {a:Exit->Act->World->Prop} {m:Nat} (g:γ) (c:Φ g) (d:μ g<m) (e:lu env (env' g)) (hh:∀w,Cw B w0 H w->Cw B w0 (H' g) w) :
  XW n B w0 (Exit.then (Jl n B w0 Φ μ env' H' m) a) .normal env H:=fun _ w b f=>⟨g,c,d,b.sub e,hh w f⟩
theorem Np {γ:Type} {Φ:γ->Prop} {μ:γ->Nat} {env':γ->cS} {H':γ->List aO} {a:Exit->Act->World->Prop} {m:Nat} (g:γ) (b:Φ g) (c:μ g<m) (d:lu env (env' g)) (hh:∀w,Cw B w0 H w->Cw B w0 (H' g) w) :
  RW P n B w0 ops (Exit.then (Jl n B w0 Φ μ env' H' m) a) [] env H:=jF (DL g b c d hh)
theorem PH {γ:Type} {Φ:γ->Prop} {env':γ->cS} {H':γ->List aO} {a:Exit->Act->World->Prop} (g:γ) (b:Φ g) (c:lu env (env' g)) (hh:∀w,Cw B w0 H w->Cw B w0 (H' g) w) :
  RW P n B w0 ops (Exit.then (Jn n B w0 Φ env' H') a) [] env H:=jF (G5 g b c hh)
def KD (r:ResultVar) (tmps:Array Value):Sem Value:=match r with
 | .tmp t=>pure (tmps.getD t undef)
 | .cell a t=>do loadVar t (←asAddr (tmps.getD a undef))
def RV (P:Program) (n:NF) (B:Nat) (w0:World) (env:cS) (H:List aO) (r:ResultVar) (v:Value):Prop:= ∀a w,Fr n env a->Cw B w0 H w->(KD r a.tmps).run P w= .ok v w
theorem KC {t:Nat} {v:Value} (h:lk env t=some v):RV P n B w0 env H (.tmp t) v:=fun b c a _=>by
 unfold KD;simp only[Sem.run_pure,a.get h]
theorem lc (fn:Func) (a:Array Value):results fn a=(do let vs←fn.results.mapM (fun r=>KD r a);pure (if h:vs.size=1 then vs[0] else .tuple vs)):=rfl
variable {fn:Func} {R:Ending->World->Prop} {r1 r2 r3:ResultVar} {v1 v2 v3:Value}
theorem tI {n:Nat} (c:fn.results= #[]) (a:∀w,Cw B w0 H w->R (.returned (.tuple #[])) w):XW ⟨n,[]⟩ B w0 (bodyPost P fn R) .normal env H:=fun e w b d=>by
 refine⟨b.2.1,_,?_,a w d⟩;simp[results,c]
theorem Pf {n:Nat} (b:fn.results= #[]) (a:∀w,Cw B w0 H w->R (.returned (.tuple #[])) w):XW ⟨n,[]⟩ B w0 (bodyPost P fn R) .ret env H:=tI (P:=P) b a
theorem Pi {n:Nat} (g:fn.results= #[r1]) (e:RV P ⟨n,[]⟩ B w0 env H r1 v1) (f:∀w,Cw B w0 H w->R (.returned v1) w):XW ⟨n,[]⟩ B w0 (bodyPost P fn R) .normal env H:=fun c w a b=>by
 refine⟨a.2.1,_,?_,f w b⟩;have d:=e c w a b;rw[lc,g];simp[d]
theorem G4 {n:Nat} (c:fn.results= #[r1]) (a:RV P ⟨n,[]⟩ B w0 env H r1 v1) (b:∀w,Cw B w0 H w->R (.returned v1) w):XW ⟨n,[]⟩ B w0 (bodyPost P fn R) .ret env H:=Pi c a b
theorem Ph {n:Nat} (h:fn.results= #[r1,r2]) (f:RV P ⟨n,[]⟩ B w0 env H r1 v1) (h2:RV P ⟨n,[]⟩ B w0 env H r2 v2) (g:∀w,Cw B w0 H w->R (.returned (.tuple #[v1,v2])) w):XW ⟨n,[]⟩ B w0 (bodyPost P fn R) .normal env H:=fun c w a b=>by
 refine⟨a.2.1,_,?_,g w b⟩;have d:=f c w a b;have e:=h2 c w a b;rw[lc,h];simp[d,e]
theorem Pe {n:Nat} (c:fn.results= #[r1,r2]) (a:RV P ⟨n,[]⟩ B w0 env H r1 v1) (h2:RV P ⟨n,[]⟩ B w0 env H r2 v2) (b:∀w,Cw B w0 H w->R (.returned (.tuple #[v1,v2])) w):XW ⟨n,[]⟩ B w0 (bodyPost P fn R) .ret env H:=Ph c a h2 b
theorem Pg {n:Nat} (j:fn.results= #[r1,r2,r3]) (g:RV P ⟨n,[]⟩ B w0 env H r1 v1) (h2:RV P ⟨n,[]⟩ B w0 env H r2 v2) (h:RV P ⟨n,[]⟩ B w0 env H r3 v3) (i:∀w,Cw B w0 H w->R (.returned (.tuple #[v1,v2,v3])) w):XW ⟨n,[]⟩ B w0 (bodyPost P fn R) .normal env H:=fun c w a b=>by
 refine⟨a.2.1,_,?_,i w b⟩;have d:=g c w a b;have e:=h2 c w a b;have f:=h c w a b;rw[lc,j];simp[d,e,f]
theorem Pd {n:Nat} (d:fn.results= #[r1,r2,r3]) (a:RV P ⟨n,[]⟩ B w0 env H r1 v1) (h2:RV P ⟨n,[]⟩ B w0 env H r2 v2) (b:RV P ⟨n,[]⟩ B w0 env H r3 v3) (c:∀w,Cw B w0 H w->R (.returned (.tuple #[v1,v2,v3])) w):XW ⟨n,[]⟩ B w0 (bodyPost P fn R) .ret env H:=Pg d a h2 b c
def zl:Nat->List Value->cS
 | _,[]=> []
 | k,v::l=>(k,v)::zl (k+1) l
theorem xE:∀(l:List Value) (k t:Nat) (v:Value),lk (zl k l) t=some v->k<=t/\l[t - k]? =some v
 | [],_,_,_,h=>by simp[zl,lk] at h
 | u::l,k,t,v,h=>by
  simp only[zl,lk] at h
  split at h
  ·rename_i a;have:k=t:=cI a;subst this;simp at h;simp[h]
  rename_i a;have:=Nat.ne_of_beq_eq_false a;obtain⟨c,b⟩:=xE l (k+1) t v h;refine⟨ω,?_⟩;rw[show t - k=(t - (k+1))+1 from by omega];simpa using b
theorem enter {n:Nat} {f:FuncId} {c:Code} {args:List Value} {w:World} (e:P.funcs[f]? =some fn) (d:fn.body=some c) (k:fn.ntmps=n) (g:Nat.ble args.length n=true)
  (h:CW P ⟨n,[]⟩ w.heap.size w c (bodyPost P fn R) (zl 0 args) []):Calls P f args.toArray w R:=by
 refine calls_of_wp e d (h _ w ?_ (Cw.nil_ w));have:args.length<=n:=by simpa using g
 refine⟨by simp;omega,rfl,fun m p b=>?_⟩;obtain⟨_,a⟩:=xE _ _ _ _ b;rw[vE] at a;have i:=(bt.1 a).1;refine⟨by show _<n;omega,?_⟩;rw[oL,Array.getElem?_append_left (by simpa using i)];simp[a]
theorem bI {n:Nat} {f:FuncId} {c:Code} {args:List Value} {w b:World} (g:P.funcs[f]? =some fn) (e:fn.body=some c) (p:fn.ntmps=n) (i:Nat.ble args.length n=true)
  (k:Cw B b H w) (h:CW P ⟨n,[]⟩ B b c (bodyPost P fn R) (zl 0 args) H):Calls P f args.toArray w R:=by
 refine calls_of_wp g e (h _ w ?_ k);have:args.length<=n:=by simpa using i
 refine⟨by simp;omega,rfl,fun q r d=>?_⟩;obtain⟨_,a⟩:=xE _ _ _ _ d;rw[vE] at a;have j:=(bt.1 a).1;refine⟨by show _<n;omega,?_⟩;rw[oL,Array.getElem?_append_left (by simpa using j)];simp[a]
def gd (ops:Array Oper) (env:cS) (o:Oper):Option Bool:=match o.guard with
 | none=>some true
 | some (j,want)=>match rA ops j with
  | none=>none
  | some t=>match lk env t with
   | some (.bool b)=>some (b == want)
   | some (.tuple _)=>some false
   | _=>none
theorem iU {a:Act} {b:Bool} (h:gd ops env o=some b) (e:Fr n env a):Region.wanted o (yielded ops a.tmps)=b:=by
 unfold gd at h
 split at h
 ·rename_i c
  cases h
  simp[Region.wanted,c]
 rename_i i k c
 split at h
 ·cases h
 rename_i j f
 split at h
 ·rename_i g d
  cases h
  exact wa c f e d
 ·rename_i d
  cases h
  exact Cg c f e d
 cases h
def dput (d:Option Nat) (v:Value) (env:cS):cS:=match d with
 | none=>env
 | some d=>(d,v)::env
def lL (n:Nat) (d:Option Nat):Bool:=match d with
 | none=>true
 | some d=>Nat.blt d n
theorem Fr.dput {a:Act} (h:Fr n env a) {d:Option Nat} (hd:lL n.k d=true) (v:Value):Fr n (Proofs.YthfkmcbblnbfaaaGreatDoor.dput d v env) (a.put d v):=by
 cases d with
 | none=>exact h
 | some d=>exact h.put (by simpa [lL] using hd) v
def OT (P:Program) (n:NF) (B:Nat) (w0:World) (o:Oper) (env:cS) (H:List aO) {γ:Type} (Φ:γ->Prop) (val:γ->Value) (H':γ->List aO):Prop:=
 ∀a w,Fr n env a->Cw B w0 H w->o.wp P a w (fun a' w'=> ∃g,Φ g/\a'=a.put o.dst (val g)/\Cw B w0 (H' g) w') (fun _ _ _=>False)
theorem Oper.wp_mono_ {a:Act} {w:World} {K K':Act->World->Prop} {Q Q':Exit->Act->World->Prop} (h:o.wp P a w K Q) (hk:∀a w,K a w->K' a w) (hq:∀e a w,Q e a w->Q' e a w):o.wp P a w K' Q':=by
 unfold Oper.wp at *;generalize (execOp a.eval o).run P w=r at *
 cases r with
 | ok m w'=>
  cases m <;> simp only[Oper.upon] at h⊢
  case enter f args=>
   refine h.mono fun e w'' he=>?_
   cases e with
   | returned v=>exact hk _ _ he
   | panicked c=>exact hq _ _ _ he
   | outgrown=>obtain⟨a,w,h⟩:=he;exact⟨a,w,hq _ _ _ h⟩
  case row=>exact h.mono fun v w'' he=>hk _ _ he
  all_goals exact hk _ _ h
 | halt m w'=>
  cases m <;> simp only[Oper.upon] at h⊢
  exact hq _ _ _ h
theorem dN {γ:Type} {Φ:γ->Prop} {val:γ->Value} {H':γ->List aO} (j:OT P n B w0 o env H Φ val H') (i:gd ops env o=some true) (f:lL n.k o.dst=true) (h:∀g,Φ g->RW P n B w0 ops Q l (dput o.dst (val g) env) (H' g)) :
  RW P n B w0 ops Q (o::l) env H:=by
 intro b m a k;refine wpList_step fun q e=>?_;rw[iU i a,if_pos rfl];refine Oper.wp_mono_ (j b m a k) ?_ (fun _ _ _ h=>h.elim);rintro r p ⟨g,c,rfl,d⟩;exact e _ _ (h g c _ p (a.dput f _) d)
theorem FK {f:FuncId} {ty:TypeId} {fo:Operand} {args:Array Operand} {c:Array TypeId} {cap:Array Value} {vs:List Value} (j:o.op= .call ⟨.value fo,args,c⟩) (i:opv env fo=some (.func (.func f) #[] cap)) (g:opvs env args.toList=some vs)
  (h:∀a w,(callFunc f a).run P w= .ok (.enter f a) w) {a:Act} (b:Fr n env a) (w:World):(execOp a.eval o).run P w= .ok (.enter f (vs++cap.toList).toArray) w:=by
 have d:args.map a.eval=vs.toArray:=by
  apply Array.ext'
  rw[Array.toList_map,b.opvs g]
 have e:vs.toArray++cap=(vs++cap.toList).toArray:=by
  apply Array.ext'
  simp
 unfold execOp;simp only[j,resolve,b.opv i,Deferred.ofValue,Sem.run_bind,Sem.run_pure,Result.andThen_ok,invoke,d,Array.empty_append,e,h]
theorem gF {γ:Type} {Φ:γ->Prop} {val:γ->Value} {H':γ->List aO} {f:FuncId} {fo:Operand} {args:Array Operand} {b:Array TypeId} {cap:Array Value} {vs:List Value} (q:o.op= .call ⟨.value fo,args,b⟩) (p:opv env fo=some (.func (.func f) #[] cap)) (j:opvs env args.toList=some vs)
  (k:∀a w,(callFunc f a).run P w= .ok (.enter f a) w) (i:∀w,Cw B w0 H w->Calls P f (vs++cap.toList).toArray w fun e w'=> ∃g,Φ g/\e= .returned (val g)/\Cw B w0 (H' g) w'):OT P n B w0 o env H Φ val H':=by
 intro a w m r;unfold Oper.wp;rw[FK (ty:=0) q p j k m w];simp only[Oper.upon];refine(i w r).mono fun e w' ⟨g,c,d,h⟩=>?_;subst d;exact⟨g,c,rfl,h⟩
theorem qd {γ:Type} {Φ:γ->Prop} {val:γ->Value} {H':γ->List aO} {f:FuncId} {fo:Operand} {args:Array Operand} {b:Array TypeId} {vs:List Value} (j:o.op= .call ⟨.value fo,args,b⟩) (i:opv env fo=some (.func (.func f) #[] #[])) (d:opvs env args.toList=some vs)
  (h:∀a w,(callFunc f a).run P w= .ok (.enter f a) w) (c:∀w,Cw B w0 H w->Calls P f vs.toArray w fun e w'=> ∃g,Φ g/\e= .returned (val g)/\Cw B w0 (H' g) w'):OT P n B w0 o env H Φ val H':=
 gF j i d h fun w k=>by
  have:(vs++(#[]:Array Value).toList).toArray=vs.toArray:=σ;rw[this];exact c w k
theorem O0 {v:Value} {f:FuncId} {fo:Operand} {args:Array Operand} {c:Array TypeId} {vs:List Value} (m:o.op= .call ⟨.value fo,args,c⟩) (k:opv env fo=some (.func (.func f) #[] #[])) (i:opvs env args.toList=some vs) (j:∀a w,(callFunc f a).run P w= .ok (.enter f a) w)
  (h:∀w,Cw B w0 H w->Calls P f vs.toArray w fun e w'=>e= .returned v/\Below w.heap.size w w'):OT P n B w0 o env H (γ:=Unit) (fun _=>True) (fun _=>v) (fun _=>H):=
 qd (γ:=Unit) (Φ:=fun _=>True) (val:=fun _=>v) (H':=fun _=>H) m k i j fun w b=>(h w b).mono fun _ _ ⟨d,g⟩=>⟨(),trivial,d,b.ext g⟩
theorem lG {v:Value} {f:FuncId} {fo:Operand} {args:Array Operand} {c:Array TypeId} {cap:Array Value} {vs:List Value} (m:o.op= .call ⟨.value fo,args,c⟩) (k:opv env fo=some (.func (.func f) #[] cap)) (i:opvs env args.toList=some vs) (j:∀a w,(callFunc f a).run P w= .ok (.enter f a) w)
  (h:∀w,Cw B w0 H w->Calls P f (vs++cap.toList).toArray w fun e w'=>e= .returned v/\Below w.heap.size w w'):OT P n B w0 o env H (γ:=Unit) (fun _=>True) (fun _=>v) (fun _=>H):=
 gF (γ:=Unit) (Φ:=fun _=>True) (val:=fun _=>v) (H':=fun _=>H) m k i j fun w b=>(h w b).mono fun _ _ ⟨d,g⟩=>⟨(),trivial,d,b.ext g⟩
theorem fY {f:FuncId} {args:Array Value} {w:World} {v:Value} (h:Calls P f args w fun e w'=>e= .returned v/\w=w'):Calls P f args w fun e w'=>e= .returned v/\Below w.heap.size w w':=
 h.mono fun _ _ ⟨a,b⟩=>⟨a,b▸Below.refl _ _⟩
end
end
