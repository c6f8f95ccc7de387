/- Texts of one proof, one behind the other: lemmas alone. -/
import Derived.Test.YthfkmcbblnbfaaaGreatDoorM0U
import Derived.Lib.AppendZerosOnto
import Derived.Laws.AppendOwn
import Derived.Test.YthfkmcbblnbfaaaGreatDoorM20U

namespace Go.Proofs.YthfkmcbblnbfaaaGreatDoor
set_option maxRecDepth 100000
set_option maxHeartbeats 16000000
open Go.RowKit
section
open Go.RowKit Go.Lib
section
variable {P:Program} {n:NF} {B:Nat} {w0:World} {env:aZ} {H:List ar} {o:Oper}
theorem yf {i:Operand} {t e:TypeId} {A:Option Addr} {m c:Nat} (hu:P.underlying t=some (.slice e)) (hop:o.op= .call ⟨.builtin .cap,#[i],#[t]⟩) (hi:opv env i=some (.slice A m c)):QS P n B w0 o env H (.int .i64 (c:Int)):=by
 intro a w hf hw
 unfold execOp
 simp only[hop,resolve,invoke,builtin,Sem.run_bind,Sem.run_pure,Result.andThen_ok,lL,cR,jX,hf.opv hi]
 simp[Builtin.cap_,run_underlying hu,goInt]
theorem qn (z:Array Value) (n:Nat):(Builtin.zeroCells z n).size=n*z.size:=by simp[Builtin.zeroCells]
theorem CO {α:Type} [Ow α] {i j:Operand} {t tn:TypeId} {z:Value} {bytes m:Nat} {kn kq:IntKind} (ht:P.underlying t=some (.slice (Ow.ty α))) (htn:P.underlying tn=some (.int kn))
  (hinf:(P.info? (Ow.ty α)).map (fun i=>(i.zero,i.size,i.bytes))=some (some z,am.k α,bytes)) (hzs:z.cells.size=am.k α) (hk:0<am.k α) (hm:0<m/\m<=140737488355328) (hmb:m*bytes<=140737488355328)
  (hop:o.op= .call ⟨.builtin .append,#[i,j],#[t,tn]⟩) (hi:opv env i=some (.slice none 0 0)) (hj:opv env j=some (.int kq (m:Int))) :
  OT P n B w0 o env H (γ:=Nat×Nat) (fun _=>True) (fun g=> .slice (some ⟨g.1,0,none⟩) m g.2) (fun g=>aj (α:=α) (.slice (some ⟨g.1,0,none⟩) 0 g.2) []::H):=by
 obtain⟨inf,hI,hz,hs,hby⟩:∃inf,P.info? (Ow.ty α)=some inf/\inf.zero=some z/\inf.size=am.k α/\inf.bytes=bytes:=by
  cases e:P.info? (Ow.ty α) with
  | none=>rw[e] at hinf;cases hinf
  | some inf=>
   rw[e] at hinf
   simp only[Option.map_some,au,aX] at hinf
   exact⟨inf,rfl,hinf.1,hinf.2.1,hinf.2.2⟩
 intro a w hf hw
 have hnc:Builtin.nextslicecap (0+m) 0=m:=by unfold Builtin.nextslicecap;rw[if_pos (by omega)];omega
 have hr:=run_append_grow_zeros (P:=P) w t tn o.type (Ow.ty α) inf z kq kn ht htn hI hz none 0 0 [] (run_firstCells_none w.drew inf.size 0 0 0) m hm.1 (by omega) (by omega) (by omega) (by rw[hby];omega) (by rw[hnc,hby];omega)
 have hge:=grownCap_ge w (0+m) 0 (Ow.ty α)
 have hcm:grownCap w (0+m) 0 (Ow.ty α)<=maxLen:=grownCap_le_maxLen w _ 0 _ (by unfold maxLen;omega)
 unfold Oper.wp execOp
 simp only[hop,resolve,invoke,builtin,Sem.run_bind,Sem.run_pure,Result.andThen_ok,lL,cR,jX,hf.opv hi,hf.opv hj,hr]
 refine⟨(w.heap.size,grownCap w (0+m) 0 (Ow.ty α)),trivial,by simp,?_⟩
 refine hw.drew.more ((Below.refl _ _).alloc (ay _) _) (R:=aj _ _) (F:=fun b=>b=w.heap.size) (.inr ⟨w.heap.size,0,grownCap w (0+m) 0 (Ow.ty α),#[]++Builtin.zeroCells z.cells m++Builtin.zeroCells z.cells (grownCap w (0+m) 0 (Ow.ty α) - (0+m)),fun _ _=>False,⟨rfl,?_,by simp,hcm,?_,by simp,fun i x h=>by simp at h,fun b=>by simp,fun i h=>by simp at h,fun i j b h=>by simp at h⟩⟩) fun b hb=>?_
 ·show (w.heap.push _)[w.heap.size]? =_
  rw[Array.getElem?_push_size]
 ·simp only[Array.size_append,qn,hzs,jg,aH]
  rw[eY,eY,eY,<-Nat.add_mul]
  rw[eY] at hge
  exact b8 _ (by omega)
 subst hb
 exact ay _
end
end
section
def BS {α:Type} :Nat->List α->Option (List α)
 | 0,l=>some l
 | k+1,_::l=>BS k l
 | _+1,[]=>none
section
variable {P:Program} {n:NF} {B:Nat} {w0:World} {ops:Array Oper} {Q:Exit->Act->World->Prop} {H:List ar}
theorem ln {l l':List Oper} {env:aZ} (d:Nat) (_:BS d l=some l') (E0 add:aZ) (_:fP env E0) (h1:RW P n B w0 ops Q l' (add++E0) H->RW P n B w0 ops Q l env H) (h2:RW P n B w0 ops Q l' (add++E0) H):RW P n B w0 ops Q l env H:=h1 h2
theorem gB {l:List Oper} {env env':aZ} (h:RW P n B w0 ops Q l env' H) (hs:fP env env'):RW P n B w0 ops Q l env H:=xS hs h
end
section
variable {P:Program} {n:NF} {B:Nat} {w0:World} {H:List ar} {env:aZ} {o:Oper}
theorem yd {t e:TypeId} {sz:Nat} {A:Option Addr} {m c lo hi k:Nat} {lo' hi':Option Operand} {x:Operand} (hu:P.underlying t=some (.slice e)) (hz:∀w,(sizeOf e).run P w= .ok sz w) (hb:lo<=hi/\hi<=c) (hk:hi - lo=k) (hop:o.op= .slice t x lo' hi' none)
  (hx:opv env x=some (.slice A m c)) (hl:iH env lo' 0=some (lo:Int)) (hh:iH env hi' m=some (hi:Int)):QS P n B w0 o env H (.slice (fS A lo c sz) k (c - lo)):=by
 subst hk
 exact lu hu hz hb hop hx hl hh
end
end
section
def BJ:List Bool->Code->Code
 | [],c=>c
 | b::l,.seq x y=>BJ l (match b with | true=>y | false=>x)
 | b::l,.cond _ x y=>BJ l (match b with | true=>y | false=>x)
 | _::l,.block _ x=>BJ l x
 | _::l,.loop x=>BJ l x
 | _::_,c=>c
def G4 (f:Func):Code:=match f.body with
 | some c=>c
 | none=> .skip
section
variable {n:NF} {B:Nat} {w0:World} {Q:Exit->Act->World->Prop} {env env':aZ} {H H':List ar} {e:Exit}
variable {P:Program} {ops:Array Oper} {o:Oper} {Hq:List ar} {O:Exit->Act->World->Prop} {fin:List Nat} {r:fy} {i:Nat}
theorem dW {v:Value} (hq:QS P n B w0 o env H v):OT P n B w0 o env H (γ:=Unit) (fun _=>True) (fun _=>v) (fun _=>H):=fun a w hf hw=>by
 unfold Oper.wp
 rw[hq a w hf hw,Oper.upon_value]
 exact⟨(),trivial,rfl,hw⟩
end
end
section
inductive bU (P:Program) (n:NF) (B:Nat) (w0:World) (H:List ar) (E F:aZ):List Oper->aZ->List (List Nat×List Nat)->Prop
 | z:bU P n B w0 H E F [] [] []
 | s {o:Oper} {l:List Oper} {d:Nat} {v:Value} {M:aZ} {S:List (List Nat×List Nat)} (e f:aZ):o.dst=some d->o.guard=none->fP E e->fP F f->OT P n B w0 o (e++f) H (γ:=Unit) (fun _=>True) (fun _=>v) (fun _=>H)->bU P n B w0 H E F l M S->bU P n B w0 H E F (o::l) ((d,v)::M) ((e.map Prod.fst,f.map Prod.fst)::S)
def o9:List Nat->Bool
 | []=>true
 | x::l=>!l.contains x && o9 l
def od (ops:Array Oper) (nk:Nat) (D:List Nat):Nat->List Oper->List (List Nat×List Nat)->Bool
 | _,[],[]=>true
 | i,o::l,s::S=>(match fa D i with | some d=>Nat.blt d nk | none=>false) && s.1.all (fun t=>o.after.any fun e=>Region.binds .any e && (match fa D e.on with | some d=>Nat.beq d t | none=>false)) &&
   s.2.all (fun t=>(List.range D.length).all fun j=>match fa D j with | some d=>!Nat.beq d t || kU .any ops i 12 j | none=>true) &&
   o.after.all (fun e=>!Region.binds .any e || Nat.blt e.on i) && od ops nk D (i+1) l S
 | _,_,_=>false
section
variable {P:Program} {n:NF} {B:Nat} {w0:World} {Q:Exit->Act->World->Prop} {env E F M:aZ} {H:List ar} {l:List Oper} {S:List (List Nat×List Nat)} {D:List Nat} {ops:Array Oper}
theorem bU.at_ (h:bU P n B w0 H E F l M S):∀(i:Nat) (o:Oper),l[i]? =some o->∃d v e f,M[i]? =some (d,v)/\S[i]? =some (e.map Prod.fst,f.map Prod.fst)/\o.dst=some d/\o.guard=none/\fP E e/\fP F f/\OT P n B w0 o (e++f) H (γ:=Unit) (fun _=>True) (fun _=>v) (fun _=>H):=by
 induction h with
 | z=>intro i o h;simp at h
 | s e f h1 h2 h3 h3' h4 _ ih=>
  intro i o h
  cases i with
  | zero=>
   simp only[List.getElem?_cons_zero,au] at h
   subst h
   exact⟨_,_,e,f,rfl,rfl,h1,h2,h3,h3',h4⟩
  | succ i=>exact ih i o (by simpa using h)
theorem bU.len (h:bU P n B w0 H E F l M S):M.length=l.length:=by
 induction h with
 | z=>rfl
 | s _ _ _ _ _ _ _ _ ih=>simp[ih]
theorem pb {nk:Nat} :∀{l:List Oper} {S:List (List Nat×List Nat)} {q:Nat},od ops nk D q l S=true->∀(i:Nat) (o:Oper) (s:List Nat×List Nat),l[i]? =some o->S[i]? =some s->
  (∃d,fa D (q+i)=some d/\d<nk)/\(∀t∈s.1,∃e∈o.after,Region.binds .any e=true/\fa D e.on=some t)/\(∀t∈s.2,∀j,fa D j=some t->kU .any ops (q+i) 12 j=true)/\∀e∈o.after,Region.binds .any e=true->e.on<q+i
 | [],_,_,_,i,o,s,h,_=>by simp at h
 | _::_,[],_,h,_,_,_,_,_=>by simp[od] at h
 | o::l,s::S,q,h,i,o',s',ho,hs=>by
  simp only[od,bI] at h
  obtain⟨⟨⟨⟨h1,h2⟩,h2'⟩,h3⟩,h4⟩:=h
  cases i with
  | zero=>
   simp only[List.getElem?_cons_zero,au] at ho hs
   subst ho hs
   refine⟨?_,fun t ht=>?_,fun t ht j hj=>?_,fun e he hb=>?_⟩
   ·split at h1
    ·rename_i d hd
     exact⟨d,by simpa using hd,by simpa using h1⟩
    cases h1
   ·have:=gy.1 h2 t ht
    simp only[Array.any_eq_true',bI] at this
    obtain⟨e,he,hb,hd⟩:=this
    split at hd
    ·rename_i d hd2
     exact⟨e,he,hb,by rw[hd2,b9 hd]⟩
    cases hd
   ·have hjl:j<D.length:=by rw[ey] at hj;exact(aq.1 hj).1
    have:=gy.1 (gy.1 h2' t ht) j (fe.2 hjl)
    rw[hj] at this
    simpa using this
   have:=Array.all_eq_true_iff_forall_mem.1 h3 e he
   rcases(Bool.or_eq_true _ _).mp this with h | h
   ·rw[hb] at h;cases h
   simpa using h
  | succ i=>
   have:=pb h4 i o' s' (by simpa using ho) (by simpa using hs)
   rw[show q+1+i=q+(i+1) from by omega] at this
   exact this
theorem Gu {M env:aZ} {t:Nat} (h:t∉M.map Prod.fst):lk (M++env) t=lk env t:=by
 induction M with
 | nil=>rfl
 | cons p M ih=>
  obtain⟨d,v⟩:=p
  simp only[cR,cc,not_or] at h
  show (match Nat.beq d t with | true=>some v | false=>lk (M++env) t)=_
  rw[ly (fun e=>h.1 e.symm)]
  exact ih h.2
theorem rm {env:aZ} :∀{M:aZ} {i t:Nat} {v:Value},o9 (M.map Prod.fst)=true->M[i]? =some (t,v)->lk (M++env) t=some v
 | [],i,_,_,_,h=>by simp at h
 | (d,u)::M,i,t,v,hn,h=>by
  simp only[cR,o9,bI,Bool.not_eq_true',List.contains_eq_mem,decide_eq_false_iff_not] at hn
  show (match Nat.beq d t with | true=>some u | false=>lk (M++env) t)=_
  cases i with
  | zero=>
   simp at h
   obtain⟨rfl,rfl⟩:=h
   simp
  | succ i=>
   have h:M[i]? =some (t,v):=by simpa using h
   have hm:t∈M.map Prod.fst:=i7.2 ⟨(t,v),cJ h,rfl⟩
   rw[ly (a:=d) (b:=t) (fun e=>hn.1 (by rw[e];exact hm))]
   exact rm hn.2 h
theorem AN {M env:aZ} {t:Nat} {v:Value} (h:lk (M++env) t=some v):(∃i:Nat,M[i]? =some (t,v))\/(t∉M.map Prod.fst/\lk env t=some v):=by
 induction M with
 | nil=>exact .inr ⟨by simp,h⟩
 | cons p M ih=>
  obtain⟨d,u⟩:=p
  have h:(match Nat.beq d t with | true=>some u | false=>lk (M++env) t)=some v:=h
  by_cases hd:d=t
  ·subst hd
   rw[Nat.beq_refl] at h
   have h:some u=some v:=h
   injection h with h
   exact .inl ⟨0,by simp[h]⟩
  rw[ly hd] at h
  rcases ih h with ⟨i,hi⟩ | ⟨h1,h2⟩
  ·exact .inl ⟨i+1,by simpa using hi⟩
  exact .inr ⟨by simp only[cR,cc,not_or];exact⟨fun e=>hd e.symm,h1⟩,h2⟩
def qx (m:Nat) (L:Array Bool):Nat:=((List.range m).filter fun i=>!L.getD i true).length
theorem rB {p q:Nat->Bool} :∀{l:List Nat},(∀x∈l,q x=true->p x=true)->(∃x∈l,p x=true/\q x=false)->(l.filter q).length<(l.filter p).length
 | [],_,h=>by obtain⟨x,hx,_⟩:=h;cases hx
 | y::l,h1,h2=>by
  have hle:∀{l:List Nat},(∀x∈l,q x=true->p x=true)->(l.filter q).length<=(l.filter p).length:=by
   intro l
   induction l with
   | nil=>intro _;simp
   | cons z l ih=>
    intro h
    have h3:=ih fun x hx=>h x (by simp[hx])
    have h4:=h z (by simp)
    simp only[List.filter_cons]
    split <;> rename_i h5
    ·rw[if_pos (h4 h5)];simpa using h3
    split <;> simp <;> omega
  obtain⟨x,hx,h3,h4⟩:=h2
  simp only[List.filter_cons]
  rcases cc.1 hx with rfl | hx
  ·rw[if_neg (by rw[h4];decide),if_pos h3]
   have:=hle (l:=l) fun x hx=>h1 x (by simp[hx])
   simp;omega
  have h5:=rB (l:=l) (fun x hx=>h1 x (by simp[hx])) ⟨x,hx,h3,h4⟩
  split <;> rename_i h6
  ·rw[if_pos (h1 y (by simp) h6)];simpa using h5
  split <;> simp <;> omega
theorem kw {L:Array Bool} {i:Nat} {x:Bool} (h:L.getD i true=false):(L.setIfInBounds i true).getD i x=true:=by
 have hi:i<L.size:=by
  rcases dZ i L.size with h' | h'
  ·exact h'
  simp[jK h'] at h
 simp[hi]
theorem og {L:Array Bool} {i:Nat} (hi:i<L.size):L.getD i true=L.getD i false:=by simp[hi]
theorem yw {e:aZ} {t:Nat} {x:Value} (h:lk e t=some x):t∈e.map Prod.fst:=by
 induction e with
 | nil=>simp[lk] at h
 | cons p e ihe=>
  obtain⟨q,u⟩:=p
  simp only[lk] at h
  split at h
  ·rename_i hq
   simp[b9 hq]
  simp only[cR,cc]
  exact .inr (ihe h)
theorem Gb {e f:aZ} {t:Nat} {x:Value} (h:lk (e++f) t=some x):lk e t=some x\/(t∉e.map Prod.fst/\lk f t=some x):=by
 induction e with
 | nil=>exact .inr ⟨by simp,h⟩
 | cons p e ih=>
  obtain⟨d,u⟩:=p
  have h:(match Nat.beq d t with | true=>some u | false=>lk (e++f) t)=some x:=h
  by_cases hd:d=t
  ·subst hd
   rw[Nat.beq_refl] at h
   exact .inl (by simpa [lk] using h)
  rw[ly hd] at h
  rcases ih h with h1 | ⟨h1,h2⟩
  ·refine .inl ?_
   simp only[lk,ly hd]
   exact h1
  exact .inr ⟨by simp only[cR,cc,not_or];exact⟨fun e=>hd e.symm,h1⟩,h2⟩
theorem CZ:∀{M:aZ} {i j d:Nat} {v u:Value},o9 (M.map Prod.fst)=true->M[i]? =some (d,v)->M[j]? =some (d,u)->i=j:=by
 intro M
 induction M with
 | nil=>intro i j d v u _ h;simp at h
 | cons p M ihM=>
  intro i j d v u hn h h'
  simp only[cR,o9,bI,Bool.not_eq_true',List.contains_eq_mem,decide_eq_false_iff_not] at hn
  cases i with
  | zero=>
   cases j with
   | zero=>rfl
   | succ j=>
    simp at h h'
    subst h
    exact absurd (i7.2 ⟨(d,u),cJ h',rfl⟩) hn.1
  | succ i=>
   cases j with
   | zero=>
    simp at h h'
    subst h'
    exact absurd (i7.2 ⟨(d,v),cJ h,rfl⟩) hn.1
   | succ j=>
    have:= @ihM i j d v u hn.2 (by simpa using h) (by simpa using h')
    omega
theorem uB (hM : bU P n B w0 H M env l M S) (hB : od l.toArray n.k D 0 l S = true) (hD : M.map Prod.fst = D) (hn : o9 D = true) (h : XW n B w0 Q .normal (M ++ env) H) :
    ∀ (k : Nat) (L : Array Bool) (a : Act) (w : World), L.size = l.length -> iJ .any l.toArray L -> qx l.length L <= k -> Cw B w0 H w -> (a.tmps.size = n.k /\ a.defers = n.D) -> (∀ t v, (∀ j, fa D j = some t -> L.getD j true = false) -> lk env t = some v -> t < n.k /\ a.tmps.getD t undef = v) ->
      (∀ i d v, M[i]? = some (d, v) -> L.getD i true = true -> d < n.k /\ a.tmps.getD d undef = v) -> wpAny P .any l.toArray Q k L a w := by
  have hlen := hM.len
  have hDM : ∀ j t, fa D j = some t -> ∃ v, M[j]? = some (t, v) := fun j t hj => by
    rw [ey, ← hD, cE] at hj
    obtain ⟨⟨t2, x2⟩, hj2, rfl⟩ := Option.map_eq_some_iff.1 hj
    exact ⟨x2, hj2⟩
  -- nothing is ready: all is done
  have hall : ∀ (L : Array Bool), L.size = l.length -> Region.ready .any l.toArray L = [] -> ∀ i, i < l.length -> L.getD i true = true := by
    intro L hL hr i
    induction i using Nat.strongRecOn with
    | ind i ih =>
      intro hi
      refine gZ fun hno => ?_
      have ho : l[i]? = some l[i] := ae hi
      obtain ⟨d, v, e, f, _, hS, _⟩ := hM.at_ i _ ho
      obtain ⟨_, _, _, h3⟩ := pb hB i _ _ ho hS
      have : i ∈ Region.ready .any l.toArray L := mem_ready.2 ⟨by simpa using hno, l[i], by simp, fun e he hb => by
        have := h3 e he hb
        rw [← og (by omega)]
        exact ih e.on (by omega) (by omega)⟩
      rw [hr] at this
      cases this
  -- the end
  have hend : ∀ (L : Array Bool) (a : Act) (w : World), L.size = l.length -> (∀ i, i < l.length -> L.getD i true = true) -> Cw B w0 H w -> (a.tmps.size = n.k /\ a.defers = n.D) -> (∀ t v, (∀ j, fa D j = some t -> L.getD j true = false) -> lk env t = some v -> t < n.k /\ a.tmps.getD t undef = v) ->
      (∀ i d v, M[i]? = some (d, v) -> L.getD i true = true -> d < n.k /\ a.tmps.getD d undef = v) -> Q .normal a w := by
    intro L a w hL hd hw hs h1 h2
    refine h a w ⟨hs.1, hs.2, fun t v e => ?_⟩ hw
    rcases AN e with ⟨i, hi⟩ | ⟨h3, h4⟩
    · have hlt := (aq.1 hi).1
      exact h2 i t v hi (hd i (by omega))
    · refine h1 t v (fun j hj => ?_) h4
      obtain ⟨v2, hv2⟩ := hDM j t hj
      exact absurd (i7.2 ⟨(t, v2), cJ hv2, rfl⟩) h3
  intro k
  induction k with
  | zero =>
    intro L a w hL _ hk hw hs h1 h2
    have hd : ∀ i, i < l.length -> L.getD i true = true := fun i hi => by
      refine gZ fun hno => ?_
      have : i ∈ (List.range l.length).filter fun i => !L.getD i true := List.mem_filter.2 ⟨fe.2 hi, by simpa using hno⟩
      unfold qx at hk
      have := List.length_pos_of_mem this
      omega
    refine ⟨?_, hend L a w hL hd hw hs h1 h2⟩
    rcases hr : Region.ready .any l.toArray L with _ | ⟨i, r⟩
    · rfl
    · have hi : i ∈ Region.ready .any l.toArray L := by rw [hr]; simp
      obtain ⟨h3, o, ho, _⟩ := mem_ready.1 hi
      have ho : l[i]? = some o := by simpa using ho
      rw [hd i (aq.1 ho).1] at h3
      cases h3
  | succ k ih =>
    intro L a w hL hcl hk hw hs h1 h2
    refine ⟨fun hr => hend L a w hL (hall L hL hr) hw hs h1 h2, fun i hi => ?_⟩
    obtain ⟨hni, o, ho, hdep⟩ := mem_ready.1 hi
    have ho : l[i]? = some o := by simpa using ho
    have hil := (aq.1 ho).1
    obtain ⟨d, v, e, f, hMi, hS, hdst, hg, hsub, hsubf, hot⟩ := hM.at_ i _ ho
    obtain ⟨⟨d', hd', hdn⟩, hlook, hlook2, _⟩ := pb hB i _ _ ho hS
    have hdd : d' = d := by
      have := congrArg (Option.map Prod.fst) hMi
      rw [← cE, hD] at this
      rw [eY, ey, this] at hd'
      simpa using hd'.symm
    subst hdd
    have hfr : Fr n (e ++ f) a := by
      refine ⟨hs.1, hs.2, fun t x ht => ?_⟩
      rcases Gb ht with ht | ⟨_, ht⟩
      · have hx := hsub.lk t x ht
        obtain ⟨e', he', hb, hD'⟩ := hlook t (yw ht)
        obtain ⟨x2, hj⟩ := hDM _ _ hD'
        have := rm (env := []) (by rw [hD]; exact hn) hj
        rw [fD, hx] at this
        injection this with this
        subst this
        have hjl := (aq.1 hj).1
        exact h2 e'.on t x hj (by rw [og (by omega)]; exact hdep e' he' hb)
      · refine h1 t x (fun j hj => ?_) (hsubf.lk t x ht)
        refine Bool.eq_false_iff.2 fun hdone => ?_
        have hw2 := hlook2 t (yw ht) j hj
        rw [eY] at hw2
        obtain ⟨v2, hv2⟩ := hDM j t hj
        have hjl : j < l.length := by have := (aq.1 hv2).1; omega
        have := my hcl 12 j hw2 fun oj hoj e2 he2 hb2 => hcl j oj hoj (by rw [← og (by omega)]; exact hdone) e2 he2 hb2
        rw [← og (by omega), hni] at this
        cases this
    unfold wpOp
    have hoa : l.toArray[i]? = some o := by simpa using ho
    simp only [hoa]
    rw [fY (b := true) (by unfold gd; rw [hg]) hfr, if_pos rfl]
    refine .inl (Oper.wp_mono_ (hot a w hfr hw) ?_ (fun _ _ _ h => h.elim))
    rintro a' w' ⟨_, _, rfl, hw'⟩
    rw [hdst]
    have hne : ∀ t, t ≠ d' -> (a.put (some d') v).tmps.getD t undef = a.tmps.getD t undef := fun t ht => by
      simp only [Act.put, jy, Array.getElem?_setIfInBounds_ne (Ne.symm ht)]
    refine ih _ _ w' (by simpa using hL) (hcl.set hi) ?_ hw' ⟨by simp [Act.put, hs.1], hs.2⟩ (fun t x ht hx => ?_) (fun j d2 v2 hj hLj => ?_)
    · have : qx l.length (L.setIfInBounds i true) < qx l.length L := by
        unfold qx
        refine rB (fun x hx hq => ?_) ⟨i, fe.2 hil, by rw [hni]; rfl, by rw [kw hni]; rfl⟩
        by_cases hxi : i = x
        · subst hxi; rw [kw hni] at hq; cases hq
        · rw [getD_set_ne true hxi] at hq; exact hq
      omega
    · have hti : t ≠ d' := fun e2 => by
        have := ht i (by rw [eY] at hd'; rw [e2]; exact hd')
        rw [kw hni] at this
        cases this
      rw [hne t hti]
      refine h1 t x (fun j hj => ?_) hx
      have hji : i ≠ j := fun e2 => by
        subst e2
        have := ht i hj
        rw [kw hni] at this
        cases this
      have := ht j hj
      rw [getD_set_ne true hji] at this
      exact this
    · by_cases hji : i = j
      · subst hji
        rw [hMi] at hj
        injection hj with hj
        injection hj with e1 e2
        subst e1 e2
        refine ⟨hdn, ?_⟩
        simp [Act.put, hs.1, hdn]
      · rw [getD_set_ne true hji] at hLj
        have h5 := h2 j d2 v2 hj hLj
        have hd2 : d2 ≠ d' := by
          rintro rfl
          exact hji (CZ (by rw [hD]; exact hn) hMi hj)
        rw [hne d2 hd2]
        exact h5
theorem qP {id:Nat} (M:aZ) (D:List Nat) (hm:P.follows .mixedOrders=true) (hM:bU P n B w0 H M env l M S) (hB:od l.toArray n.k D 0 l S=true) (hD:M.map Prod.fst=D) (hn:o9 D=true) (h:XW n B w0 Q .normal (M++env) H) :
  CW P n B w0 (.region id l.toArray true) Q env H:=fun a w hf hw=>by
 refine wp_region_any hm ?_
 refine uB hM hB hD hn h _ _ a _ (by simp) (.none_ _) ?_ hw.drew ⟨hf.1,hf.2.1⟩ (fun t v _ e=>hf.2.2 t v e) (fun i d v hi hL=>?_)
 ·unfold qx
  have h1:=List.length_filter_le (fun i=>!(Array.replicate l.toArray.size false).getD i true) (List.range l.length)
  rw[gR] at h1
  simpa using h1
 have hil:=(aq.1 hi).1
 have:=hM.len
 have hil2:i<l.length:=by omega
 have h2:(Array.replicate l.toArray.size false).getD i true=false:=by simp[hil2]
 rw[h2] at hL
 cases hL
end
end
end Go.Proofs.YthfkmcbblnbfaaaGreatDoor
