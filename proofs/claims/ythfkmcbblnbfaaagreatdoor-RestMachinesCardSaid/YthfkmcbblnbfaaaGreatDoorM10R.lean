/- Lemmas of one proof. -/
import Derived.Test.YthfkmcbblnbfaaaGreatDoorM0R
import Derived.Deep.LoopGhost
import Derived.Test.YthfkmcbblnbfaaaGreatDoorM8R

namespace Go.Proofs.YthfkmcbblnbfaaaGreatDoor
set_option maxRecDepth 100000
set_option maxHeartbeats 16000000
open Go.RowKit
section
abbrev lH:=List (Nat×Nat×Nat)
def fo:lH->Nat->Nat->Option Nat
 | [],_,_=>none
 | (t,f,k)::r,t',f'=>match Nat.beq t t' && Nat.beq f f' with
  | true=>some k
  | false=>fo r t' f'
def lH.Ok (P:Program) (T:lH):Prop:= ∀x∈T,∀a w,(Instr.fieldAt x.1 (.pointer (some a)) x.2.1).run P w= .ok (.pointer (some (a.add x.2.2))) w
theorem lH.Ok.get {P:Program} :∀{T:lH},T.Ok P->∀{t f k:Nat},fo T t f=some k->∀a w,(Instr.fieldAt t (.pointer (some a)) f).run P w= .ok (.pointer (some (a.add k))) w
 | [],_,_,_,_,h=>by simp[fo] at h
 | (t,f,k)::r,hT,t',f',k',h=>by
  simp only[fo] at h
  split at h
  ·rename_i hb
   cases h
   simp only[db] at hb
   have e1:=bW hb.1
   have e2:=bW hb.2
   subst e1 e2
   exact hT (t,f,k) (by simp)
  exact lH.Ok.get (fun x hx=>hT x (by simp[hx])) h
def C2 (op:BinOp) (a b:Int):Option Value:=match op with
 | .eql=>some (.bool (decide (a=b)))
 | .neq=>some (.bool (!decide (a=b)))
 | .lss=>some (.bool (decide (a<b)))
 | .leq=>some (.bool (decide (a<=b)))
 | .gtr=>some (.bool (decide (b<a)))
 | .geq=>some (.bool (decide (b<=a)))
 | _=>none
theorem Lh {P:Program} {op:BinOp} {a b:Int} {v:Value} (h:C2 op a b=some v) (w:World):(Op.intCmp op a b).run P w= .ok v w:=by
 cases op <;> simp[C2] at h <;> subst h <;> rfl
theorem Li {op:BinOp} {a b:Int} {v:Value} (h:C2 op a b=some v):op≠ .add/\op≠ .sub/\op≠ .mul/\op≠ .quo/\op≠ .rem/\op≠ .and/\op≠ .or/\op≠ .xor/\op≠ .andNot/\op≠ .shl/\op≠ .shr:=by
 cases op <;> simp[C2] at h <;> simp
def QB (op:BinOp):Value->Value->Option Value
 | .int k a,.int k' b=>match decide (k=k') with
  | true=>C2 op a b
  | false=>none
 | _,_=>none
def ya (T:lH) (env:cy) (o:Oper):Option Value:=match o.op with
 | .move x=>opv env x
 | .assign x=>opv env x
 | .pick c a b=>match opv env c with
  | some (.bool true)=>opv env a
  | some (.bool false)=>opv env b
  | _=>none
 | .extract x i=>match opv env x with
  | some (.tuple vs)=>ka vs.toList i
  | _=>none
 | .unOp .not _ x=>match opv env x with
  | some (.bool b)=>some (.bool (!b))
  | _=>none
 | .binOp op _ x y _=>match opv env x,opv env y with
  | some u,some v=>QB op u v
  | _,_=>none
 | .nilCheck x=>match opv env x with
  | some (.pointer (some a))=>some (.pointer (some a))
  | _=>none
 | .fieldAddr t x f=>match opv env x,fo T t f with
  | some (.pointer (some ⟨b,o,none⟩)),some k=>some (.pointer (some ⟨b,o+k,none⟩))
  | _,_=>none
 | .makeFunc fn first captured=>match opvs env first.toList,opvs env captured.toList with
  | some a,some b=>some (.func fn a.toArray b.toArray)
  | _,_=>none
 | _=>none
section
variable {P:Program} {n:NF} {B:Nat} {w0:World} {Q:Exit->Act->World->Prop} {env env':cy} {H H':List aJ} {x y:Code} {ops:Array Oper} {l:List Oper} {o:Oper}
theorem fQ (b o k:Nat):(⟨b,o,none⟩:Addr).add k=⟨b,o+k,none⟩:=by simp[Addr.add]
theorem zf {T:lH} (hT:T.Ok P) {v:Value} (h:ya T env o=some v) {a:Act} (hf:Fr n env a) (w:World):(execOp a.eval o).run P w= .ok (.value v) w:=by
 unfold ya at h
 unfold execOp
 split at h
 case h_1 x hx=>rw[hx];simp only[Sem.run_pure,hf.opv h]
 case h_2 x hx=>rw[hx];simp only[Sem.run_pure,hf.opv h]
 case h_3 c u v' hx=>
  rw[hx]
  split at h
  ·rename_i hc;simp only[hf.opv hc,asBool,Sem.run_bind,Sem.run_pure,Result.andThen_ok,if_true,hf.opv h]
  ·rename_i hc;simp only[hf.opv hc,asBool,Sem.run_bind,Sem.run_pure,Result.andThen_ok,nO,if_false,hf.opv h]
  cases h
 case h_4 x i hx=>
  rw[hx]
  split at h
  ·rename_i vs hc
   rw[iD,dE] at h
   simp only[hf.opv hc,Instr.extract,h,Sem.run_bind,Sem.run_pure,Result.andThen_ok]
  cases h
 case h_5 t x hx=>
  rw[hx]
  split at h
  ·rename_i b hc;cases h;simp only[hf.opv hc,Op.unary,Sem.run_bind,Sem.run_pure,Result.andThen_ok]
  cases h
 case h_6 op t x y u hx=>
  rw[hx]
  split at h
  ·rename_i p q hp hq
   unfold QB at h
   split at h
   ·rename_i k a' k' b'
    split at h
    ·rename_i hk
     have hk:k=k':=by simpa using hk
     subst hk
     have hn:=Li h
     have hr:=Lh (P:=P) h w
     have hbo:(binOp op t (.int k a') (.int k b')).run P w= .ok v w:=by
      unfold binOp
      cases op <;> simp_all
     have hgd:(eqGuard op t x y (.int k a') (.int k b')).run P w= .ok () w:=by
      unfold eqGuard
      split <;> simp
     simp only[hf.opv hp,hf.opv hq,Sem.run_bind,hgd,Result.andThen_ok,hbo,Sem.run_pure]
    cases h
   cases h
  cases h
 case h_7 x hx=>
  rw[hx]
  split at h
  ·rename_i a' hc;cases h;simp only[hf.opv hc,Sem.run_pure]
  cases h
 case h_8 t x f hx=>
  rw[hx]
  split at h
  ·rename_i b o' k hc hk
   cases h
   simp only[hf.opv hc,Sem.run_bind,hT.get hk,Result.andThen_ok,Sem.run_pure,fQ]
  cases h
 case h_9 fn first captured hx=>
  rw[hx]
  split at h
  ·rename_i a' b' h1 h2
   cases h
   have e1:first.map a.eval=a'.toArray:=by
    apply Array.ext'
    rw[Array.toList_map,hf.opvs h1]
   have e2:captured.map a.eval=b'.toArray:=by
    apply Array.ext'
    rw[Array.toList_map,hf.opvs h2]
   simp only[e1,e2,Instr.makeFunc,Sem.run_bind,Sem.run_pure,Result.andThen_ok]
  cases h
 case h_10=>cases h
theorem Bi {T:lH} (hT:T.Ok P) {v:Value} (h:ya T env o=some v):QS P n B w0 o env H v:=fun _ w hf _=>zf hT h hf w
theorem eo {c:Operand} {p:Prop} [Decidable p] (hc:opv env c=some (.bool (decide p))) (h1:p->CW P n B w0 x Q env H) (h2:¬p->CW P n B w0 y Q env H):CW P n B w0 (.cond c x y) Q env H:=
 bT hc (fun h=>h1 (of_decide_eq_true h)) (fun h=>h2 (of_decide_eq_false h))
theorem jq {c:Operand} {p:Prop} [Decidable p] (hc:opv env c=some (.bool (!decide p))) (h1:¬p->CW P n B w0 x Q env H) (h2:p->CW P n B w0 y Q env H):CW P n B w0 (.cond c x y) Q env H:=
 bT hc (fun h=>h1 (by simpa using h)) (fun h=>h2 (by simpa using h))
def Jn {γ:Type} (n:NF) (B:Nat) (w0:World) (Φ:γ->Prop) (env:γ->cy) (H:γ->List aJ) (a:Act) (w:World):Prop:= ∃g,Φ g/\Fr n (env g) a/\Cw B w0 (H g) w
theorem eh {γ:Type} (Φ:γ->Prop) (env':γ->cy) (H':γ->List aJ) (h1:CW P n B w0 x (Exit.then (Jn n B w0 Φ env' H') Q) env H)
  (h2:∀g,Φ g->CW P n B w0 y Q (env' g) (H' g)):CW P n B w0 (.seq x y) Q env H:=by
 intro a w hf hw
 refine wp_seq (wp_mono (h1 a w hf hw) ?_)
 intro e a' w' h
 cases e
 case normal=>obtain⟨g,hg,hf',hw'⟩:=h;exact h2 g hg a' w' hf' hw'
 all_goals exact h
theorem iQ {γ:Type} (Φ:γ->Prop) (env':γ->cy) (H':γ->List aJ) (h1:CW P n B w0 x (Exit.then (Jn n B w0 Φ env' H') Q) env H)
  (h2:∀g,Φ g->CW P n B w0 y Q (env' g) (H' g)):CW P n B w0 x (Exit.then (y.wp P Q) Q) env H:=by
 intro a w hf hw
 refine wp_mono (h1 a w hf hw) ?_
 intro e a' w' h
 cases e
 case normal=>obtain⟨g,hg,hf',hw'⟩:=h;exact h2 g hg a' w' hf' hw'
 all_goals exact h
theorem Eh {γ:Type} {Φ:γ->Prop} {env':γ->cy} {H':γ->List aJ} {Q':Exit->Act->World->Prop} (g:γ) (hg:Φ g) (hs:kb env (env' g)) (hh:∀w,Cw B w0 H w->Cw B w0 (H' g) w):XW n B w0 (Exit.then (Jn n B w0 Φ env' H') Q') .normal env H:=
 fun _ w hf hw=>⟨g,hg,hf.sub hs,hh w hw⟩
def Jl {γ:Type} (n:NF) (B:Nat) (w0:World) (Φ:γ->Prop) (μ:γ->Nat) (env:γ->cy) (H:γ->List aJ) (m:Nat) (a:Act) (w:World):Prop:= ∃g,Φ g/\μ g<m/\Fr n (env g) a/\Cw B w0 (H g) w
theorem NI {γ:Type} (Φ:γ->Prop) (μ:γ->Nat) (env':γ->cy) (H':γ->List aJ) (g0:γ) (h0:Φ g0) (hs:kb env (env' g0)) (hh:∀w,Cw B w0 H w->Cw B w0 (H' g0) w)
  (round:∀g,Φ g->CW P n B w0 x (Exit.then (Jl n B w0 Φ μ env' H' (μ g)) Q) (env' g) (H' g)):CW P n B w0 (.loop x) Q env H:=by
 intro a w hf hw
 refine wp_loop_ghost (fun m a w=> ∃g,Φ g/\μ g=m/\Fr n (env' g) a/\Cw B w0 (H' g) w) (μ g0) ⟨g0,h0,rfl,hf.sub hs,hh w hw⟩ ?_
 rintro m a w ⟨g,hg,rfl,hf,hw⟩
 refine wp_mono (round g hg a w hf hw) ?_
 intro e a' w' h
 cases e
 case normal=>obtain⟨g',h1,h2,h3,h4⟩:=h;exact⟨μ g',h2,g',h1,rfl,h3,h4⟩
 all_goals exact h
theorem Bs {γ:Type} {Φ:γ->Prop} {μ:γ->Nat} {env':γ->cy} {H':γ->List aJ} {Q':Exit->Act->World->Prop} {m:Nat} (g:γ) (hg:Φ g) (hm:μ g<m) (hs:kb env (env' g)) (hh:∀w,Cw B w0 H w->Cw B w0 (H' g) w) :
  XW n B w0 (Exit.then (Jl n B w0 Φ μ env' H' m) Q') .normal env H:=fun _ w hf hw=>⟨g,hg,hm,hf.sub hs,hh w hw⟩
theorem JV {γ:Type} {Φ:γ->Prop} {μ:γ->Nat} {env':γ->cy} {H':γ->List aJ} {Q':Exit->Act->World->Prop} {m:Nat} (g:γ) (hg:Φ g) (hm:μ g<m) (hs:kb env (env' g)) (hh:∀w,Cw B w0 H w->Cw B w0 (H' g) w) :
  RW P n B w0 ops (Exit.then (Jl n B w0 Φ μ env' H' m) Q') [] env H:=iM (Bs g hg hm hs hh)
theorem Me {γ:Type} {Φ:γ->Prop} {env':γ->cy} {H':γ->List aJ} {Q':Exit->Act->World->Prop} (g:γ) (hg:Φ g) (hs:kb env (env' g)) (hh:∀w,Cw B w0 H w->Cw B w0 (H' g) w) :
  RW P n B w0 ops (Exit.then (Jn n B w0 Φ env' H') Q') [] env H:=iM (Eh g hg hs hh)
def Hr (r:ResultVar) (tmps:Array Value):Sem Value:=match r with
 | .tmp t=>pure (tmps.getD t undef)
 | .cell a t=>do loadVar t (←asAddr (tmps.getD a undef))
def RV (P:Program) (n:NF) (B:Nat) (w0:World) (env:cy) (H:List aJ) (r:ResultVar) (v:Value):Prop:= ∀a w,Fr n env a->Cw B w0 H w->(Hr r a.tmps).run P w= .ok v w
theorem Oj {t:Nat} {v:Value} (h:lk env t=some v):RV P n B w0 env H (.tmp t) v:=fun a w hf _=>by
 unfold Hr
 simp only[Sem.run_pure,hf.get h]
theorem jQ (fn:Func) (tmps:Array Value):results fn tmps=(do let vs←fn.results.mapM (fun r=>Hr r tmps);pure (if h:vs.size=1 then vs[0] else .tuple vs)):=rfl
variable {fn:Func} {R:Ending->World->Prop} {r1 r2 r3:ResultVar} {v1 v2 v3:Value}
theorem rf {n:Nat} (hr:fn.results= #[]) (hR:∀w,Cw B w0 H w->R (.returned (.tuple #[])) w):XW ⟨n,[]⟩ B w0 (bodyPost P fn R) .normal env H:=fun a w hf hw=>by
 refine⟨hf.2.1,_,?_,hR w hw⟩
 simp[results,hr]
theorem LP {n:Nat} (hr:fn.results= #[]) (hR:∀w,Cw B w0 H w->R (.returned (.tuple #[])) w):XW ⟨n,[]⟩ B w0 (bodyPost P fn R) .ret env H:=rf (P:=P) hr hR
theorem LS {n:Nat} (hr:fn.results= #[r1]) (h1:RV P ⟨n,[]⟩ B w0 env H r1 v1) (hR:∀w,Cw B w0 H w->R (.returned v1) w):XW ⟨n,[]⟩ B w0 (bodyPost P fn R) .normal env H:=fun a w hf hw=>by
 refine⟨hf.2.1,_,?_,hR w hw⟩
 have e1:=h1 a w hf hw
 rw[jQ,hr]
 simp[e1]
theorem LO {n:Nat} (hr:fn.results= #[r1]) (h1:RV P ⟨n,[]⟩ B w0 env H r1 v1) (hR:∀w,Cw B w0 H w->R (.returned v1) w):XW ⟨n,[]⟩ B w0 (bodyPost P fn R) .ret env H:=LS hr h1 hR
theorem LR {n:Nat} (hr:fn.results= #[r1,r2]) (h1:RV P ⟨n,[]⟩ B w0 env H r1 v1) (h2:RV P ⟨n,[]⟩ B w0 env H r2 v2) (hR:∀w,Cw B w0 H w->R (.returned (.tuple #[v1,v2])) w):XW ⟨n,[]⟩ B w0 (bodyPost P fn R) .normal env H:=fun a w hf hw=>by
 refine⟨hf.2.1,_,?_,hR w hw⟩
 have e1:=h1 a w hf hw
 have e2:=h2 a w hf hw
 rw[jQ,hr]
 simp[e1,e2]
theorem LN {n:Nat} (hr:fn.results= #[r1,r2]) (h1:RV P ⟨n,[]⟩ B w0 env H r1 v1) (h2:RV P ⟨n,[]⟩ B w0 env H r2 v2) (hR:∀w,Cw B w0 H w->R (.returned (.tuple #[v1,v2])) w):XW ⟨n,[]⟩ B w0 (bodyPost P fn R) .ret env H:=LR hr h1 h2 hR
theorem LQ {n:Nat} (hr:fn.results= #[r1,r2,r3]) (h1:RV P ⟨n,[]⟩ B w0 env H r1 v1) (h2:RV P ⟨n,[]⟩ B w0 env H r2 v2) (h3:RV P ⟨n,[]⟩ B w0 env H r3 v3) (hR:∀w,Cw B w0 H w->R (.returned (.tuple #[v1,v2,v3])) w):XW ⟨n,[]⟩ B w0 (bodyPost P fn R) .normal env H:=fun a w hf hw=>by
 refine⟨hf.2.1,_,?_,hR w hw⟩
 have e1:=h1 a w hf hw
 have e2:=h2 a w hf hw
 have e3:=h3 a w hf hw
 rw[jQ,hr]
 simp[e1,e2,e3]
theorem LM {n:Nat} (hr:fn.results= #[r1,r2,r3]) (h1:RV P ⟨n,[]⟩ B w0 env H r1 v1) (h2:RV P ⟨n,[]⟩ B w0 env H r2 v2) (h3:RV P ⟨n,[]⟩ B w0 env H r3 v3) (hR:∀w,Cw B w0 H w->R (.returned (.tuple #[v1,v2,v3])) w):XW ⟨n,[]⟩ B w0 (bodyPost P fn R) .ret env H:=LQ hr h1 h2 h3 hR
def wF:Nat->List Value->cy
 | _,[]=> []
 | k,v::l=>(k,v)::wF (k+1) l
theorem uT:∀(l:List Value) (k t:Nat) (v:Value),lk (wF k l) t=some v->k<=t/\l[t - k]? =some v
 | [],_,_,_,h=>by simp[wF,lk] at h
 | u::l,k,t,v,h=>by
  simp only[wF,lk] at h
  split at h
  ·rename_i hk
   have:k=t:=bW hk
   subst this
   simp at h
   simp[h]
  rename_i hk
  have hne:=Nat.ne_of_beq_eq_false hk
  obtain⟨h1,h2⟩:=uT l (k+1) t v h
  refine⟨by omega,?_⟩
  rw[show t - k=(t - (k+1))+1 from by omega]
  simpa using h2
theorem enter {n:Nat} {f:FuncId} {c:Code} {args:List Value} {w:World} (hf:P.funcs[f]? =some fn) (hb:fn.body=some c) (hn:fn.ntmps=n) (hl:Nat.ble args.length n=true)
  (h:CW P ⟨n,[]⟩ w.heap.size w c (bodyPost P fn R) (wF 0 args) []):Calls P f args.toArray w R:=by
 refine calls_of_wp hf hb (h _ w ?_ (Cw.nil_ w))
 have hl':args.length<=n:=by simpa using hl
 refine⟨by simp;omega,rfl,fun t v e=>?_⟩
 obtain⟨_,h2⟩:=uT _ _ _ _ e
 rw[th] at h2
 have ht:=(aZ.1 h2).1
 refine⟨by show _<n;omega,?_⟩
 rw[mR,Array.getElem?_append_left (by simpa using ht)]
 simp[h2]
theorem bG {n:Nat} {f:FuncId} {c:Code} {args:List Value} {w w1:World} (hf:P.funcs[f]? =some fn) (hb:fn.body=some c) (hn:fn.ntmps=n) (hl:Nat.ble args.length n=true)
  (hw:Cw B w1 H w) (h:CW P ⟨n,[]⟩ B w1 c (bodyPost P fn R) (wF 0 args) H):Calls P f args.toArray w R:=by
 refine calls_of_wp hf hb (h _ w ?_ hw)
 have hl':args.length<=n:=by simpa using hl
 refine⟨by simp;omega,rfl,fun t v e=>?_⟩
 obtain⟨_,h2⟩:=uT _ _ _ _ e
 rw[th] at h2
 have ht:=(aZ.1 h2).1
 refine⟨by show _<n;omega,?_⟩
 rw[mR,Array.getElem?_append_left (by simpa using ht)]
 simp[h2]
def gd (ops:Array Oper) (env:cy) (o:Oper):Option Bool:=match o.guard with
 | none=>some true
 | some (j,want)=>match pt ops j with
  | none=>none
  | some t=>match lk env t with
   | some (.bool b)=>some (b == want)
   | some (.tuple _)=>some false
   | _=>none
theorem ic {a:Act} {b:Bool} (h:gd ops env o=some b) (hf:Fr n env a):Region.wanted o (yielded ops a.tmps)=b:=by
 unfold gd at h
 split at h
 ·rename_i hg
  cases h
  simp[Region.wanted,hg]
 rename_i j want hg
 split at h
 ·cases h
 rename_i t ht
 split at h
 ·rename_i b' hv
  cases h
  exact tG hg ht hf hv
 ·rename_i hv
  cases h
  exact zr hg ht hf hv
 cases h
def dput (d:Option Nat) (v:Value) (env:cy):cy:=match d with
 | none=>env
 | some d=>(d,v)::env
def kw (n:Nat) (d:Option Nat):Bool:=match d with
 | none=>true
 | some d=>Nat.blt d n
theorem Fr.dput {a:Act} (h:Fr n env a) {d:Option Nat} (hd:kw n.k d=true) (v:Value):Fr n (Proofs.YthfkmcbblnbfaaaGreatDoor.dput d v env) (a.put d v):=by
 cases d with
 | none=>exact h
 | some d=>exact h.put (by simpa [kw] using hd) v
def OT (P:Program) (n:NF) (B:Nat) (w0:World) (o:Oper) (env:cy) (H:List aJ) {γ:Type} (Φ:γ->Prop) (val:γ->Value) (H':γ->List aJ):Prop:=
 ∀a w,Fr n env a->Cw B w0 H w->o.wp P a w (fun a' w'=> ∃g,Φ g/\a'=a.put o.dst (val g)/\Cw B w0 (H' g) w') (fun _ _ _=>False)
theorem Oper.wp_mono_ {a:Act} {w:World} {K K':Act->World->Prop} {Q Q':Exit->Act->World->Prop} (h:o.wp P a w K Q) (hk:∀a w,K a w->K' a w) (hq:∀e a w,Q e a w->Q' e a w):o.wp P a w K' Q':=by
 unfold Oper.wp at *
 generalize (execOp a.eval o).run P w=r at *
 cases r with
 | ok m w'=>
  cases m <;> simp only[Oper.upon] at h⊢
  case enter f args=>
   refine h.mono fun e w'' he=>?_
   cases e with
   | returned v=>exact hk _ _ he
   | panicked c=>exact hq _ _ _ he
   | outgrown=>obtain⟨a,w,h⟩:=he;exact⟨a,w,hq _ _ _ h⟩
  case row=>exact h.mono fun v w'' he=>hk _ _ he
  all_goals exact hk _ _ h
 | halt m w'=>
  cases m <;> simp only[Oper.upon] at h⊢
  exact hq _ _ _ h
theorem dr {γ:Type} {Φ:γ->Prop} {val:γ->Value} {H':γ->List aJ} (ht:OT P n B w0 o env H Φ val H') (hg:gd ops env o=some true) (hd:kw n.k o.dst=true) (h:∀g,Φ g->RW P n B w0 ops Q l (dput o.dst (val g) env) (H' g)) :
  RW P n B w0 ops Q (o::l) env H:=by
 intro a w hf hw
 refine wpList_step fun K hK=>?_
 rw[ic hg hf,if_pos rfl]
 refine Oper.wp_mono_ (ht a w hf hw) ?_ (fun _ _ _ h=>h.elim)
 rintro a' w' ⟨g,h1,rfl,h2⟩
 exact hK _ _ (h g h1 _ w' (hf.dput hd _) h2)
theorem C4 {f:FuncId} {ty:TypeId} {fo:Operand} {args:Array Operand} {ats:Array TypeId} {cap:Array Value} {vs:List Value} (hop:o.op= .call ⟨.value fo,args,ats⟩) (hfo:opv env fo=some (.func (.func f) #[] cap)) (hargs:opvs env args.toList=some vs)
  (hc:∀a w,(callFunc f a).run P w= .ok (.enter f a) w) {a:Act} (hf:Fr n env a) (w:World):(execOp a.eval o).run P w= .ok (.enter f (vs++cap.toList).toArray) w:=by
 have e1:args.map a.eval=vs.toArray:=by
  apply Array.ext'
  rw[Array.toList_map,hf.opvs hargs]
 have e2:vs.toArray++cap=(vs++cap.toList).toArray:=by
  apply Array.ext'
  simp
 unfold execOp
 simp only[hop,resolve,hf.opv hfo,Deferred.ofValue,Sem.run_bind,Sem.run_pure,Result.andThen_ok,invoke,e1,Array.empty_append,e2,hc]
theorem fN {γ:Type} {Φ:γ->Prop} {val:γ->Value} {H':γ->List aJ} {f:FuncId} {fo:Operand} {args:Array Operand} {ats:Array TypeId} {cap:Array Value} {vs:List Value} (hop:o.op= .call ⟨.value fo,args,ats⟩) (hfo:opv env fo=some (.func (.func f) #[] cap)) (hargs:opvs env args.toList=some vs)
  (hc:∀a w,(callFunc f a).run P w= .ok (.enter f a) w) (hC:∀w,Cw B w0 H w->Calls P f (vs++cap.toList).toArray w fun e w'=> ∃g,Φ g/\e= .returned (val g)/\Cw B w0 (H' g) w'):OT P n B w0 o env H Φ val H':=by
 intro a w hf hw
 unfold Oper.wp
 rw[C4 (ty:=0) hop hfo hargs hc hf w]
 simp only[Oper.upon]
 refine(hC w hw).mono fun e w' ⟨g,h1,h2,h3⟩=>?_
 subst h2
 exact⟨g,h1,rfl,h3⟩
theorem oe {γ:Type} {Φ:γ->Prop} {val:γ->Value} {H':γ->List aJ} {f:FuncId} {fo:Operand} {args:Array Operand} {ats:Array TypeId} {vs:List Value} (hop:o.op= .call ⟨.value fo,args,ats⟩) (hfo:opv env fo=some (.func (.func f) #[] #[])) (hargs:opvs env args.toList=some vs)
  (hc:∀a w,(callFunc f a).run P w= .ok (.enter f a) w) (hC:∀w,Cw B w0 H w->Calls P f vs.toArray w fun e w'=> ∃g,Φ g/\e= .returned (val g)/\Cw B w0 (H' g) w'):OT P n B w0 o env H Φ val H':=
 fN hop hfo hargs hc fun w hw=>by
  have:(vs++(#[]:Array Value).toList).toArray=vs.toArray:=by simp
  rw[this]
  exact hC w hw
theorem Lw {v:Value} {f:FuncId} {fo:Operand} {args:Array Operand} {ats:Array TypeId} {vs:List Value} (hop:o.op= .call ⟨.value fo,args,ats⟩) (hfo:opv env fo=some (.func (.func f) #[] #[])) (hargs:opvs env args.toList=some vs) (hc:∀a w,(callFunc f a).run P w= .ok (.enter f a) w)
  (hC:∀w,Cw B w0 H w->Calls P f vs.toArray w fun e w'=>e= .returned v/\Below w.heap.size w w'):OT P n B w0 o env H (γ:=Unit) (fun _=>True) (fun _=>v) (fun _=>H):=
 oe (γ:=Unit) (Φ:=fun _=>True) (val:=fun _=>v) (H':=fun _=>H) hop hfo hargs hc fun w hw=>(hC w hw).mono fun _ _ ⟨h1,h2⟩=>⟨(),trivial,h1,hw.ext h2⟩
theorem ko {v:Value} {f:FuncId} {fo:Operand} {args:Array Operand} {ats:Array TypeId} {cap:Array Value} {vs:List Value} (hop:o.op= .call ⟨.value fo,args,ats⟩) (hfo:opv env fo=some (.func (.func f) #[] cap)) (hargs:opvs env args.toList=some vs) (hc:∀a w,(callFunc f a).run P w= .ok (.enter f a) w)
  (hC:∀w,Cw B w0 H w->Calls P f (vs++cap.toList).toArray w fun e w'=>e= .returned v/\Below w.heap.size w w'):OT P n B w0 o env H (γ:=Unit) (fun _=>True) (fun _=>v) (fun _=>H):=
 fN (γ:=Unit) (Φ:=fun _=>True) (val:=fun _=>v) (H':=fun _=>H) hop hfo hargs hc fun w hw=>(hC w hw).mono fun _ _ ⟨h1,h2⟩=>⟨(),trivial,h1,hw.ext h2⟩
theorem fX {f:FuncId} {args:Array Value} {w:World} {v:Value} (h:Calls P f args w fun e w'=>e= .returned v/\w=w'):Calls P f args w fun e w'=>e= .returned v/\Below w.heap.size w w':=
 h.mono fun _ _ ⟨h1,h2⟩=>⟨h1,h2▸Below.refl _ _⟩
end
end
