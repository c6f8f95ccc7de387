/- Lemmas of one proof. -/
import Derived.Test.YthfkmcbblnbfaaaGreatDoorM90W
import Derived.Test.YthfkmcbblnbfaaaGreatDoorM0W
import Derived.OrdersHeld
import Derived.Deep.QuietTactic
import Derived.Test.YthfkmcbblnbfaaaGreatDoorM6W

namespace Go.Proofs.YthfkmcbblnbfaaaGreatDoor
set_option maxRecDepth 100000
set_option maxHeartbeats 16000000
open Go.RowKit
section
theorem BT {a b:Nat} (h:¬a=b):Nat.beq a b=false:=rc.2 fun c=>h (cI c)
abbrev cS:=List (Nat×Value)
def lk:cS->Nat->Option Value
 | [],_=>none
 | (k,v)::r,t=>match Nat.beq k t with
  | true=>some v
  | false=>lk r t
structure NF where
 k:Nat
 D:List Deferred
def Fr (n:NF) (env:cS) (a:Act):Prop:=a.tmps.size=n.k/\a.defers=n.D/\∀t v,lk env t=some v->t<n.k/\a.tmps.getD t undef=v
theorem Fr.get {n:NF} {env:cS} {a:Act} (h:Fr n env a) {t:Nat} {v:Value} (e:lk env t=some v):a.tmps.getD t undef=v:=(h.2.2 t v e).2
theorem Fr.put {n:NF} {env:cS} {a:Act} (h:Fr n env a) {d:Nat} (hd:d<n.k) (v:Value):Fr n ((d,v)::env) (a.put (some d) v):=by
 obtain⟨h1,h2,h3⟩:=h
 refine⟨by simp[Act.put,h1],h2,fun t u e=>?_⟩
 simp only[lk] at e
 by_cases hdt:d=t
 ·subst hdt
  simp at e
  subst e
  refine⟨hd,?_⟩
  simp[Act.put,h1,hd]
 have:Nat.beq d t=false:=BT hdt
 rw[this] at e
 obtain⟨h4,h5⟩:=h3 t u e
 refine⟨h4,?_⟩
 simp only[Act.put,oL,Array.getElem?_setIfInBounds_ne hdt] at h5⊢
 exact h5
def lu (env:cS):cS->Prop
 | []=>True
 | (t,v)::r=>lk env t=some v/\lu env r
theorem lu.lk {env:cS} :∀{env':cS},lu env env'->∀t v,lk env' t=some v->lk env t=some v
 | [],_,t,v,e=>by simp[Proofs.YthfkmcbblnbfaaaGreatDoor.lk] at e
 | (k,u)::r,h,t,v,e=>by
  simp only[Proofs.YthfkmcbblnbfaaaGreatDoor.lk] at e
  split at e
  ·rename_i hk
   have:k=t:=by simpa using hk
   subst this
   cases e
   exact h.1
  exact lu.lk h.2 t v e
theorem Fr.sub {n:NF} {env env':cS} {a:Act} (h:Fr n env a) (e:lu env env'):Fr n env' a:=⟨h.1,h.2.1,fun b c d=>h.2.2 b c (e.lk b c d)⟩
def opv (env:cS):Operand->Option Value
 | .tmp t=>lk env t
 | .const v=>some v
 | .global g=>some (.pointer (some ⟨g,0,none⟩))
 | .func f=>some (.func (.func f) #[] #[])
theorem Fr.opv {n:NF} {env:cS} {a:Act} (h:Fr n env a) {x:Operand} {v:Value} (e:opv env x=some v):a.eval x=v:=by
 cases x <;> simp only[Proofs.YthfkmcbblnbfaaaGreatDoor.opv] at e
 ·exact h.get e
 all_goals (cases e;rfl)
def opvs (env:cS):List Operand->Option (List Value)
 | []=>some []
 | x::l=>match opv env x,opvs env l with
  | some v,some vs=>some (v::vs)
  | _,_=>none
theorem Fr.opvs {n:NF} {env:cS} {a:Act} (h:Fr n env a):∀{l:List Operand} {vs:List Value},opvs env l=some vs->l.map a.eval=vs
 | [],vs,e=>by simp[Proofs.YthfkmcbblnbfaaaGreatDoor.opvs] at e;subst e;rfl
 | x::l,vs,e=>by
  simp only[Proofs.YthfkmcbblnbfaaaGreatDoor.opvs] at e
  split at e
  ·rename_i v us hv hus
   cases e
   rw[eM,h.opv hv,Fr.opvs h hus]
  cases e
structure aO where
 P:World->(Nat->Prop)->Prop
 loc:∀{w w':World} {F:Nat->Prop},P w F->(∀b,F b->w'.heap[b]? =w.heap[b]?)->P w' F
 lt:∀{w:World} {F:Nat->Prop} {b:Nat},P w F->F b->b<w.heap.size
def Hs (w:World):List aO->(Nat->Prop)->Prop
 | [],F=> ∀b,¬F b
 | R::l,F=> ∃F1 F2,R.P w F1/\Hs w l F2/\(∀b,F1 b->F2 b->False)/\∀b,F b↔F1 b\/F2 b
theorem Hs.loc {w w':World} :∀{l:List aO} {F:Nat->Prop},Hs w l F->(∀b,F b->w'.heap[b]? =w.heap[b]?)->Hs w' l F
 | [],_,h,_=>h
 | R::_,_,⟨F1,F2,h1,h2,h3,h4⟩,hw=>⟨F1,F2,R.loc h1 fun b hb=>hw b ((h4 b).2 (.inl hb)),Hs.loc h2 fun b hb=>hw b ((h4 b).2 (.inr hb)),h3,h4⟩
theorem Hs.lt {w:World} :∀{l:List aO} {F:Nat->Prop} {b:Nat},Hs w l F->F b->b<w.heap.size
 | [],_,_,h,hb=>(h _ hb).elim
 | R::l,F,b,⟨F1,F2,h1,h2,h3,h4⟩,hb=>by
  rcases(h4 b).1 hb with h | h
  ·exact R.lt h1 h
  exact Hs.lt h2 h
theorem Hs.perm {w:World} {l l':List aO} (hp:l.Perm l'):∀{F:Nat->Prop},Hs w l F->Hs w l' F:=by
 induction hp with
 | nil=>exact fun h=>h
 | cons R _ ih=>rintro F ⟨F1,F2,h1,h2,h3,h4⟩;exact⟨F1,F2,h1,ih h2,h3,h4⟩
 | swap R S l=>
  rintro F ⟨F1,F2,h1,⟨F3,F4,h5,h6,h7,h8⟩,h3,h4⟩;refine⟨F3,fun b=>F1 b\/F4 b,h5,⟨F1,F4,h1,h6,fun b hb hb'=>h3 b hb ((h8 b).2 (.inr hb')),fun b=>kA⟩,?_,?_⟩
  ·rintro b hb (hb' | hb')
   ·exact h3 b hb' ((h8 b).2 (.inl hb))
   exact h7 b hb hb'
  intro b;rw[h4 b,h8 b];constructor
  ·rintro(h | h | h)
   ·exact .inr (.inl h)
   ·exact .inl h
   exact .inr (.inr h)
  rintro(h | h | h)
  ·exact .inr (.inl h)
  ·exact .inl h
  exact .inr (.inr h)
 | trans _ _ ih1 ih2=>exact fun h=>ih2 (ih1 h)
def Cw (B:Nat) (w0:World) (H:List aO) (w:World):Prop:=B<=w0.heap.size/\Below B w0 w/\∃F,Hs w H F/\∀b,F b->B<=b
section
variable {B:Nat} {w0:World} {H H':List aO} {w w':World}
theorem Cw.below (h:Cw B w0 H w):Below B w0 w:=h.2.1
theorem Cw.le (h:Cw B w0 H w):B<=w.heap.size:=dW h.1 h.2.1.size
theorem Cw.perm (h:Cw B w0 H w) (f:H.Perm H'):Cw B w0 H' w:=by
 obtain⟨b,c,a,d,e⟩:=h;exact⟨b,c,a,d.perm f,e⟩
theorem Cw.nil_ (w0:World):Cw w0.heap.size w0 [] w0:=⟨aH _,Below.refl _ _,fun _=>False,fun _ a=>a,fun _ a=>a.elim⟩
theorem Cw.ext (h:Cw B w0 H w) (d:Below w.heap.size w w'):Cw B w0 H w':=by
 obtain⟨a,b,e,c,g⟩:=h;exact⟨a,b.trans (d.mono (dW a b.size)),e,c.loc fun f i=>d.block f (c.lt i),g⟩
theorem Cw.drew (h:Cw B w0 H w):Cw B w0 H {w with drawn:=w.drawn+1} :=h.ext (Below.refl _ _).drew
theorem Cw.more (h:Cw B w0 H w) (i:Below w.heap.size w w') {R:aO} {F:Nat->Prop} (k:R.P w' F) (g:∀b,F b->w.heap.size<=b):Cw B w0 (R::H) w':=by
 obtain⟨c,d,f,e,j⟩:=h;refine⟨c,d.trans (i.mono (dW c d.size)),fun b=>F b\/f b,⟨F,f,k,e.loc fun b a=>i.block b (e.lt a),fun b m p=>?_,fun b=>kA⟩,?_⟩
 ·have:=g b m;have:=e.lt p;omega
 rintro b (a | a)
 ·exact dW (dW c d.size) (g b a)
 exact j b a
theorem Cw.tail {R:aO} (h:Cw B w0 (R::H) w):Cw B w0 H w:=by
 obtain⟨c,d,j,⟨k,b,m,f,p,g⟩,e⟩:=h;exact⟨c,d,b,f,fun a i=>e a ((g a).2 (.inr i))⟩
theorem Cw.head {R:aO} (h:Cw B w0 (R::H) w):∃F,R.P w F/\∀b,F b->B<=b:=by
 obtain⟨i,j,F,⟨a,g,d,k,m,e⟩,c⟩:=h;exact⟨a,d,fun b f=>c b ((e b).2 (.inl f))⟩
theorem Cw.upd {R m:aO} (h:Cw B w0 (R::H) w)
  (k:∀F,R.P w F->(∀b,F b->B<=b)->∃e,m.P w' e/\w'.os=w.os/\w'.tape=w.tape/\w'.output=w.output/\w.heap.size<=w'.heap.size/\(∀b,b<w.heap.size->¬F b->w'.heap[b]? =w.heap[b]?)/\∀b,e b->F b\/w.heap.size<=b):Cw B w0 (m::H) w':=by
 obtain⟨p,c,F,⟨t,j,u,i,q,g⟩,f⟩:=h;have:B<=w.heap.size:=dW p c.size;obtain⟨e,v,z,A,C,D,r,s⟩:=k t u (fun b a=>f b ((g b).2 (.inl a)));refine⟨p,⟨z.trans c.os,A.trans c.tape,C.trans c.output,dW c.size D,fun b a=>?_⟩,fun b=>e b\/j b,⟨e,j,v,i.loc fun b a=>r b (i.lt a) fun d=>q b d a,fun b a d=>?_,fun b=>kA⟩,?_⟩
 ·rw[r b ω fun d=>by have:=f b ((g b).2 (.inl d));omega];exact c.block b a
 ·rcases s b a with h | h
  ·exact q b h d
  have:=i.lt d;omega
 rintro b (a | a)
 ·rcases s b a with h | h
  ·exact f b ((g b).2 (.inl h))
  omega
 exact f b ((g b).2 (.inr a))
end
def cu (H:List aO) (R:aO) (H':List aO):Prop:=H.Perm (R::H')
theorem cu.a {R:aO} {H:List aO} :cu (R::H) R H:=List.Perm.refl _
theorem cu.s {R a:aO} {H H':List aO} (h:cu H R H'):cu (a::H) R (a::H'):=(List.Perm.cons a h).trans (List.Perm.swap R a H')
theorem cu.b {R a:aO} {H:List aO} :cu (a::R::H) R (a::H):=cu.s cu.a
theorem cu.c {R a T:aO} {H:List aO} :cu (a::T::R::H) R (a::T::H):=cu.s cu.b
theorem cu.d {R a T b:aO} {H:List aO} :cu (a::T::b::R::H) R (a::T::b::H):=cu.s cu.c
theorem cu.e {R a T b c:aO} {H:List aO} :cu (a::T::b::c::R::H) R (a::T::b::c::H):=cu.s cu.d
section
variable (P:Program) (n:NF) (B:Nat) (w0:World)
def CW (c:Code) (Q:Exit->Act->World->Prop) (env:cS) (H:List aO):Prop:= ∀a w,Fr n env a->Cw B w0 H w->c.wp P Q a w
def RW (ops:Array Oper) (Q:Exit->Act->World->Prop) (l:List Oper) (env:cS) (H:List aO):Prop:= ∀a w,Fr n env a->Cw B w0 H w->wpList P ops Q l a w
def XW (Q:Exit->Act->World->Prop) (e:Exit) (env:cS) (H:List aO):Prop:= ∀a w,Fr n env a->Cw B w0 H w->Q e a w
def QS (o:Oper) (env:cS) (H:List aO) (v:Value):Prop:= ∀a w,Fr n env a->Cw B w0 H w->(execOp a.eval o).run P w= .ok (.value v) w
end
section
variable {P:Program} {n:NF} {B:Nat} {w0:World} {Q:Exit->Act->World->Prop} {env env':cS} {H H':List aO} {x y:Code} {ops:Array Oper} {l:List Oper} {o:Oper}
theorem cE (h:CW P n B w0 x (Exit.then (y.wp P Q) Q) env H):CW P n B w0 (.seq x y) Q env H:=fun a w b c=>wp_seq (h a w b c)
theorem fq (h:XW n B w0 Q .normal env H):CW P n B w0 .skip Q env H:=fun a w b c=>wp_skip (h a w b c)
theorem iR {id:Nat} (h:CW P n B w0 x (Exit.inBlock id Q) env H):CW P n B w0 (.block id x) Q env H:=fun a w b c=>wp_block (h a w b c)
theorem Ru {id:Nat} (h:XW n B w0 Q (.exit id) env H):CW P n B w0 (.exit id) Q env H:=fun a w b c=>wp_exit (h a w b c)
theorem iQ (h:XW n B w0 Q .ret env H):CW P n B w0 .ret Q env H:=fun a w b c=>wp_ret (h a w b c)
theorem bQ {id:Nat} (h:RW P n B w0 l.toArray Q l env H):CW P n B w0 (.region id l.toArray false) Q env H:=fun a w b c=>wp_region_lit (h a w b c)
theorem cc {c:Operand} {b:Bool} (e:opv env c=some (.bool b)) (g:b=true->CW P n B w0 x Q env H) (h2:b=false->CW P n B w0 y Q env H):CW P n B w0 (.cond c x y) Q env H:=by
 intro d w a f
 cases b
 ·exact wp_cond_false (a.opv e) (h2 rfl d w a f)
 exact wp_cond_true (a.opv e) (g rfl d w a f)
theorem be {c:Operand} (e:opv env c=some (.bool true)) (d:CW P n B w0 x Q env H):CW P n B w0 (.cond c x y) Q env H:=fun b w a f=>wp_cond_true (a.opv e) (d b w a f)
theorem cA {c:Operand} (e:opv env c=some (.bool false)) (d:CW P n B w0 y Q env H):CW P n B w0 (.cond c x y) Q env H:=fun b w a f=>wp_cond_false (a.opv e) (d b w a f)
theorem dm (hh:∀w,Cw B w0 H w->Cw B w0 H' w) (h:CW P n B w0 x Q env H'):CW P n B w0 x Q env H:=fun a w b c=>h a w b (hh w c)
theorem fF (hh:∀w,Cw B w0 H w->Cw B w0 H' w) (h:RW P n B w0 ops Q l env H'):RW P n B w0 ops Q l env H:=fun a w b c=>h a w b (hh w c)
theorem ek {p:Prop} (d:∀w,Cw B w0 H w->p) (h:p->CW P n B w0 x Q env H):CW P n B w0 x Q env H:=fun b w c a=>h (d w a) b w c a
theorem rL {p:Prop} (d:∀w,Cw B w0 H w->p) (h:p->RW P n B w0 ops Q l env H):RW P n B w0 ops Q l env H:=fun b w c a=>h (d w a) b w c a
theorem bL (h:CW P n B w0 y Q env H):RW P n B w0 ops (Exit.then (y.wp P Q) Q) [] env H:=fun a w b c=>wpList_nil (h a w b c)
theorem jF (h:XW n B w0 Q .normal env H):RW P n B w0 ops Q [] env H:=fun a w b c=>wpList_nil (h a w b c)
theorem KB (c:lu env env') (h:RW P n B w0 ops Q l env' H):RW P n B w0 ops Q l env H:=fun a w b d=>h a w (b.sub c) d
theorem fm {c:Code} (h:CW P n B w0 c Q env H) {a:Exit->Act->World->Prop} :XW n B w0 (Exit.then (c.wp P Q) a) .normal env H:=h
theorem MR {a:Act->World->Prop} {id:Nat} (h:XW n B w0 Q (.exit id) env H):XW n B w0 (Exit.then a Q) (.exit id) env H:=h
theorem fz {a:Act->World->Prop} (h:XW n B w0 Q .ret env H):XW n B w0 (Exit.then a Q) .ret env H:=h
theorem R0 {id:Nat} (h:XW n B w0 Q .normal env H):XW n B w0 (Exit.inBlock id Q) (.exit id) env H:=fun a w b c=>by
 show Exit.inBlock id Q (.exit id) a w;simp only[Exit.inBlock,if_true];exact h a w b c
theorem Pj {id a:Nat} (d:Nat.beq a id =false) (h:XW n B w0 Q (.exit a) env H):XW n B w0 (Exit.inBlock id Q) (.exit a) env H:=fun b w c e=>by
 have:¬a=id:=Nat.ne_of_beq_eq_false d;show Exit.inBlock id Q (.exit a) b w;simp only[Exit.inBlock,this,if_false];exact h b w c e
theorem fK {id:Nat} (h:XW n B w0 Q .normal env H):XW n B w0 (Exit.inBlock id Q) .normal env H:=h
theorem mC {id:Nat} (h:XW n B w0 Q .ret env H):XW n B w0 (Exit.inBlock id Q) .ret env H:=h
theorem Nq {d:Nat} {v:Value} (f:o.dst=some d) (g:Nat.blt d n.k=true) (i:o.guard=none) (j:QS P n B w0 o env H v) (h:RW P n B w0 ops Q l ((d,v)::env) H):RW P n B w0 ops Q (o::l) env H:=by
 intro c w a b;refine wpList_plain i fun k e=>?_;unfold Oper.wp;rw[j c w a b];simp only[Oper.upon];rw[f];exact e _ _ (h _ w (a.put (ψ g) v) b)
def kS {α:Type} :List α->Nat->Option α
 | [],_=>none
 | x::_,0=>some x
 | _::l,k+1=>kS l k
theorem ju {α:Type} :∀(l:List α) (k:Nat),kS l k=l[k]?
 | [],_=>rfl
 | _::_,0=>rfl
 | _::l,k+1=>by simp[kS,ju l k]
def rA (ops:Array Oper) (j:Nat):Option Nat:=match kS ops.toList j with
 | some o=>o.dst
 | none=>none
theorem wa {a:Act} {j d:Nat} {f b:Bool} (p:o.guard=some (j,f)) (e:rA ops j=some d) (i:Fr n env a) (q:lk env d=some (.bool b)):Region.wanted o (yielded ops a.tmps)=(b == f):=by
 have k:(ops[j]?).bind (·.dst)=some d:=by
  unfold rA at e;rw[ju] at e;simp only[eB] at e
  cases h:ops[j]? <;> simp_all
 obtain⟨c,g⟩:=i.2.2 d _ q;have m:a.tmps[d]? =some (.bool b):=by
  rw[<-i.1] at c;rw[oL,ke c] at g;rw[ke c];simpa using g
 unfold Region.wanted;simp only[p,yielded,k,Option.bind_some,m]
 cases b <;> cases f <;> rfl
theorem Cg {a:Act} {j d:Nat} {p:Bool} {vs:Array Value} (k:o.guard=some (j,p)) (c:rA ops j=some d) (f:Fr n env a) (m:lk env d=some (.tuple vs)):Region.wanted o (yielded ops a.tmps)=false:=by
 have g:(ops[j]?).bind (·.dst)=some d:=by
  unfold rA at c;rw[ju] at c;simp only[eB] at c
  cases h:ops[j]? <;> simp_all
 obtain⟨b,e⟩:=f.2.2 d _ m;have i:a.tmps[d]? =some (.tuple vs):=by
  rw[<-f.1] at b;rw[oL,ke b] at e;rw[ke b];simpa using e
 unfold Region.wanted;simp only[k,yielded,g,Option.bind_some,i];rfl
theorem BD {d t j:Nat} {c b:Bool} (f:o.dst=some d) (g:Nat.blt d n.k=true) (i:o.guard=some (j,c)) (k:rA ops j=some t) (m:lk env t=some (.bool b)) (e:(b == c)=false) (h:RW P n B w0 ops Q l ((d,undef)::env) H) :
  RW P n B w0 ops Q (o::l) env H:=by
 intro r w a p;have q:=wa i k a m;unfold wpList;rw[q,e,if_neg σ,f];exact h _ w (a.put (ψ g) _) p
theorem yL {d t j:Nat} {m:Bool} {vs:Array Value} (b:o.dst=some d) (c:Nat.blt d n.k=true) (e:o.guard=some (j,m)) (f:rA ops j=some t) (g:lk env t=some (.tuple vs)) (h:RW P n B w0 ops Q l ((d,undef)::env) H) :
  RW P n B w0 ops Q (o::l) env H:=by
 intro p w a i;have k:=Cg e f a g;unfold wpList;rw[k,if_neg σ,b];exact h _ w (a.put (ψ c) _) i
theorem IR {d t j:Nat} {e b:Bool} {v:Value} (k:o.dst=some d) (m:Nat.blt d n.k=true) (p:o.guard=some (j,e)) (r:rA ops j=some t) (s:lk env t=some (.bool b)) (i:(b == e)=true) (q:QS P n B w0 o env H v)
  (h:RW P n B w0 ops Q l ((d,v)::env) H):RW P n B w0 ops Q (o::l) env H:=by
 intro f w a c;have u:=wa p r a s;refine wpList_step fun z g=>?_;rw[u,i,if_pos rfl];unfold Oper.wp;rw[q f w a c];simp only[Oper.upon];rw[k];exact g _ _ (h _ w (a.put (ψ m) v) c)
theorem jf {t:Nat} {b:Bool} (j:lk env t=some (.bool b)) (i:b=true->RW P n B w0 ops Q l ((t,.bool true)::env) H) (h2:b=false->RW P n B w0 ops Q l ((t,.bool false)::env) H):RW P n B w0 ops Q l env H:=by
 intro d w c g;have e:Fr n ((t,.bool b)::env) d:=by
  refine⟨c.1,c.2.1,fun h k a=>?_⟩;simp only[lk] at a
  by_cases f:t=h
  ·subst f;simp at a;subst a;exact c.2.2 _ _ j
  have:Nat.beq t h=false:=BT f;rw[this] at a;exact c.2.2 _ _ a
 cases b
 ·exact h2 rfl d w e g
 exact i rfl d w e g
theorem bj {t:Nat} {v v':Value} (f:lk env t=some v) (e:v=v') (h:RW P n B w0 ops Q l ((t,v')::env) H):RW P n B w0 ops Q l env H:=by
 subst e;intro d w a g;refine h d w ⟨a.1,a.2.1,fun c i e=>?_⟩ g;simp only[lk] at e
 by_cases b:t=c
 ·subst b;simp at e;subst e;exact a.2.2 _ _ f
 have:Nat.beq t c=false:=BT b;rw[this] at e;exact a.2.2 _ _ e
theorem cT {t:Nat} {v v':Value} (f:lk env t=some v) (e:v=v') (h:CW P n B w0 x Q ((t,v')::env) H):CW P n B w0 x Q env H:=by
 subst e;intro d w a g;refine h d w ⟨a.1,a.2.1,fun c i e=>?_⟩ g;simp only[lk] at e
 by_cases b:t=c
 ·subst b;simp at e;subst e;exact a.2.2 _ _ f
 have:Nat.beq t c=false:=BT b;rw[this] at e;exact a.2.2 _ _ e
end
end
