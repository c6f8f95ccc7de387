/- Lemmas of one proof. -/
import Derived.Test.YthfkmcbblnbfaaaGreatDoorM0R
import Derived.OrdersHeld
import Derived.Deep.QuietTactic
import Derived.Test.YthfkmcbblnbfaaaGreatDoorM6R

namespace Go.Proofs.YthfkmcbblnbfaaaGreatDoor
set_option maxRecDepth 100000
set_option maxHeartbeats 16000000
open Go.RowKit
section
theorem yY {a b:Nat} (h:¬a=b):Nat.beq a b=false:=pd.2 fun e=>h (bW e)
abbrev cy:=List (Nat×Value)
def lk:cy->Nat->Option Value
 | [],_=>none
 | (k,v)::r,t=>match Nat.beq k t with
  | true=>some v
  | false=>lk r t
structure NF where
 k:Nat
 D:List Deferred
def Fr (n:NF) (env:cy) (a:Act):Prop:=a.tmps.size=n.k/\a.defers=n.D/\∀t v,lk env t=some v->t<n.k/\a.tmps.getD t undef=v
theorem Fr.get {n:NF} {env:cy} {a:Act} (h:Fr n env a) {t:Nat} {v:Value} (e:lk env t=some v):a.tmps.getD t undef=v:=(h.2.2 t v e).2
theorem Fr.put {n:NF} {env:cy} {a:Act} (h:Fr n env a) {d:Nat} (hd:d<n.k) (v:Value):Fr n ((d,v)::env) (a.put (some d) v):=by
 obtain⟨h1,h2,h3⟩:=h
 refine⟨by simp[Act.put,h1],h2,fun t u e=>?_⟩
 simp only[lk] at e
 by_cases hdt:d=t
 ·subst hdt
  simp at e
  subst e
  refine⟨hd,?_⟩
  simp[Act.put,h1,hd]
 have:Nat.beq d t=false:=yY hdt
 rw[this] at e
 obtain⟨h4,h5⟩:=h3 t u e
 refine⟨h4,?_⟩
 simp only[Act.put,mR,Array.getElem?_setIfInBounds_ne hdt] at h5⊢
 exact h5
def kb (env:cy):cy->Prop
 | []=>True
 | (t,v)::r=>lk env t=some v/\kb env r
theorem kb.lk {env:cy} :∀{env':cy},kb env env'->∀t v,lk env' t=some v->lk env t=some v
 | [],_,t,v,e=>by simp[Proofs.YthfkmcbblnbfaaaGreatDoor.lk] at e
 | (k,u)::r,h,t,v,e=>by
  simp only[Proofs.YthfkmcbblnbfaaaGreatDoor.lk] at e
  split at e
  ·rename_i hk
   have:k=t:=by simpa using hk
   subst this
   cases e
   exact h.1
  exact kb.lk h.2 t v e
theorem Fr.sub {n:NF} {env env':cy} {a:Act} (h:Fr n env a) (hs:kb env env'):Fr n env' a:=⟨h.1,h.2.1,fun t v e=>h.2.2 t v (hs.lk t v e)⟩
def opv (env:cy):Operand->Option Value
 | .tmp t=>lk env t
 | .const v=>some v
 | .global g=>some (.pointer (some ⟨g,0,none⟩))
 | .func f=>some (.func (.func f) #[] #[])
theorem Fr.opv {n:NF} {env:cy} {a:Act} (h:Fr n env a) {x:Operand} {v:Value} (e:opv env x=some v):a.eval x=v:=by
 cases x <;> simp only[Proofs.YthfkmcbblnbfaaaGreatDoor.opv] at e
 ·exact h.get e
 all_goals (cases e;rfl)
def opvs (env:cy):List Operand->Option (List Value)
 | []=>some []
 | x::l=>match opv env x,opvs env l with
  | some v,some vs=>some (v::vs)
  | _,_=>none
theorem Fr.opvs {n:NF} {env:cy} {a:Act} (h:Fr n env a):∀{l:List Operand} {vs:List Value},opvs env l=some vs->l.map a.eval=vs
 | [],vs,e=>by simp[Proofs.YthfkmcbblnbfaaaGreatDoor.opvs] at e;subst e;rfl
 | x::l,vs,e=>by
  simp only[Proofs.YthfkmcbblnbfaaaGreatDoor.opvs] at e
  split at e
  ·rename_i v us hv hus
   cases e
   rw[et,h.opv hv,Fr.opvs h hus]
  cases e
structure aJ where
 P:World->(Nat->Prop)->Prop
 loc:∀{w w':World} {F:Nat->Prop},P w F->(∀b,F b->w'.heap[b]? =w.heap[b]?)->P w' F
 lt:∀{w:World} {F:Nat->Prop} {b:Nat},P w F->F b->b<w.heap.size
def Hs (w:World):List aJ->(Nat->Prop)->Prop
 | [],F=> ∀b,¬F b
 | R::l,F=> ∃F1 F2,R.P w F1/\Hs w l F2/\(∀b,F1 b->F2 b->False)/\∀b,F b↔F1 b\/F2 b
theorem Hs.loc {w w':World} :∀{l:List aJ} {F:Nat->Prop},Hs w l F->(∀b,F b->w'.heap[b]? =w.heap[b]?)->Hs w' l F
 | [],_,h,_=>h
 | R::_,_,⟨F1,F2,h1,h2,h3,h4⟩,hw=>⟨F1,F2,R.loc h1 fun b hb=>hw b ((h4 b).2 (.inl hb)),Hs.loc h2 fun b hb=>hw b ((h4 b).2 (.inr hb)),h3,h4⟩
theorem Hs.lt {w:World} :∀{l:List aJ} {F:Nat->Prop} {b:Nat},Hs w l F->F b->b<w.heap.size
 | [],_,_,h,hb=>(h _ hb).elim
 | R::l,F,b,⟨F1,F2,h1,h2,h3,h4⟩,hb=>by
  rcases(h4 b).1 hb with h | h
  ·exact R.lt h1 h
  exact Hs.lt h2 h
theorem Hs.perm {w:World} {l l':List aJ} (hp:l.Perm l'):∀{F:Nat->Prop},Hs w l F->Hs w l' F:=by
 induction hp with
 | nil=>exact fun h=>h
 | cons R _ ih=>rintro F ⟨F1,F2,h1,h2,h3,h4⟩;exact⟨F1,F2,h1,ih h2,h3,h4⟩
 | swap R S l=>
  rintro F ⟨F1,F2,h1,⟨F3,F4,h5,h6,h7,h8⟩,h3,h4⟩
  refine⟨F3,fun b=>F1 b\/F4 b,h5,⟨F1,F4,h1,h6,fun b hb hb'=>h3 b hb ((h8 b).2 (.inr hb')),fun b=>jY⟩,?_,?_⟩
  ·rintro b hb (hb' | hb')
   ·exact h3 b hb' ((h8 b).2 (.inl hb))
   exact h7 b hb hb'
  intro b
  rw[h4 b,h8 b]
  constructor
  ·rintro(h | h | h)
   ·exact .inr (.inl h)
   ·exact .inl h
   exact .inr (.inr h)
  rintro(h | h | h)
  ·exact .inr (.inl h)
  ·exact .inl h
  exact .inr (.inr h)
 | trans _ _ ih1 ih2=>exact fun h=>ih2 (ih1 h)
def Cw (B:Nat) (w0:World) (H:List aJ) (w:World):Prop:=B<=w0.heap.size/\Below B w0 w/\∃F,Hs w H F/\∀b,F b->B<=b
section
variable {B:Nat} {w0:World} {H H':List aJ} {w w':World}
theorem Cw.below (h:Cw B w0 H w):Below B w0 w:=h.2.1
theorem Cw.le (h:Cw B w0 H w):B<=w.heap.size:=eE h.1 h.2.1.size
theorem Cw.perm (h:Cw B w0 H w) (hp:H.Perm H'):Cw B w0 H' w:=by
 obtain⟨h1,h2,F,h3,h4⟩:=h
 exact⟨h1,h2,F,h3.perm hp,h4⟩
theorem Cw.nil_ (w0:World):Cw w0.heap.size w0 [] w0:=⟨aK _,Below.refl _ _,fun _=>False,fun _ h=>h,fun _ h=>h.elim⟩
theorem Cw.ext (h:Cw B w0 H w) (hb:Below w.heap.size w w'):Cw B w0 H w':=by
 obtain⟨h1,h2,F,h3,h4⟩:=h
 exact⟨h1,h2.trans (hb.mono (eE h1 h2.size)),F,h3.loc fun b hb'=>hb.block b (h3.lt hb'),h4⟩
theorem Cw.drew (h:Cw B w0 H w):Cw B w0 H {w with drawn:=w.drawn+1} :=h.ext (Below.refl _ _).drew
theorem Cw.more (h:Cw B w0 H w) (hb:Below w.heap.size w w') {R:aJ} {F:Nat->Prop} (hR:R.P w' F) (hF:∀b,F b->w.heap.size<=b):Cw B w0 (R::H) w':=by
 obtain⟨h1,h2,F2,h3,h4⟩:=h
 refine⟨h1,h2.trans (hb.mono (eE h1 h2.size)),fun b=>F b\/F2 b,⟨F,F2,hR,h3.loc fun b hb'=>hb.block b (h3.lt hb'),fun b hb1 hb2=>?_,fun b=>jY⟩,?_⟩
 ·have:=hF b hb1
  have:=h3.lt hb2
  omega
 rintro b (hb' | hb')
 ·exact eE (eE h1 h2.size) (hF b hb')
 exact h4 b hb'
theorem Cw.tail {R:aJ} (h:Cw B w0 (R::H) w):Cw B w0 H w:=by
 obtain⟨h1,h2,F,⟨F1,F2,h5,h6,h7,h8⟩,h4⟩:=h
 exact⟨h1,h2,F2,h6,fun b hb=>h4 b ((h8 b).2 (.inr hb))⟩
theorem Cw.head {R:aJ} (h:Cw B w0 (R::H) w):∃F,R.P w F/\∀b,F b->B<=b:=by
 obtain⟨h1,h2,F,⟨F1,F2,h5,h6,h7,h8⟩,h4⟩:=h
 exact⟨F1,h5,fun b hb=>h4 b ((h8 b).2 (.inl hb))⟩
theorem Cw.upd {R R':aJ} (h:Cw B w0 (R::H) w)
  (k:∀F,R.P w F->(∀b,F b->B<=b)->∃F',R'.P w' F'/\w'.os=w.os/\w'.tape=w.tape/\w'.output=w.output/\w.heap.size<=w'.heap.size/\(∀b,b<w.heap.size->¬F b->w'.heap[b]? =w.heap[b]?)/\∀b,F' b->F b\/w.heap.size<=b):Cw B w0 (R'::H) w':=by
 obtain⟨h1,h2,F,⟨F1,F2,h5,h6,h7,h8⟩,h4⟩:=h
 have hB:B<=w.heap.size:=eE h1 h2.size
 obtain⟨F',k1,k2,k3,k4,k5,k6,k7⟩:=k F1 h5 (fun b hb=>h4 b ((h8 b).2 (.inl hb)))
 refine⟨h1,⟨k2.trans h2.os,k3.trans h2.tape,k4.trans h2.output,eE h2.size k5,fun b hb=>?_⟩,fun b=>F' b\/F2 b,⟨F',F2,k1,h6.loc fun b hb=>k6 b (h6.lt hb) fun hb'=>h7 b hb' hb,fun b hb hb'=>?_,fun b=>jY⟩,?_⟩
 ·rw[k6 b (by omega) fun hb'=>by have:=h4 b ((h8 b).2 (.inl hb'));omega]
  exact h2.block b hb
 ·rcases k7 b hb with h | h
  ·exact h7 b h hb'
  have:=h6.lt hb';omega
 rintro b (hb | hb)
 ·rcases k7 b hb with h | h
  ·exact h4 b ((h8 b).2 (.inl h))
  omega
 exact h4 b ((h8 b).2 (.inr hb))
end
def cN (H:List aJ) (R:aJ) (H':List aJ):Prop:=H.Perm (R::H')
theorem cN.a {R:aJ} {H:List aJ} :cN (R::H) R H:=List.Perm.refl _
theorem cN.s {R S:aJ} {H H':List aJ} (h:cN H R H'):cN (S::H) R (S::H'):=(List.Perm.cons S h).trans (List.Perm.swap R S H')
theorem cN.b {R S:aJ} {H:List aJ} :cN (S::R::H) R (S::H):=cN.s cN.a
theorem cN.c {R S T:aJ} {H:List aJ} :cN (S::T::R::H) R (S::T::H):=cN.s cN.b
theorem cN.d {R S T U:aJ} {H:List aJ} :cN (S::T::U::R::H) R (S::T::U::H):=cN.s cN.c
theorem cN.e {R S T U V:aJ} {H:List aJ} :cN (S::T::U::V::R::H) R (S::T::U::V::H):=cN.s cN.d
section
variable (P:Program) (n:NF) (B:Nat) (w0:World)
def CW (c:Code) (Q:Exit->Act->World->Prop) (env:cy) (H:List aJ):Prop:= ∀a w,Fr n env a->Cw B w0 H w->c.wp P Q a w
def RW (ops:Array Oper) (Q:Exit->Act->World->Prop) (l:List Oper) (env:cy) (H:List aJ):Prop:= ∀a w,Fr n env a->Cw B w0 H w->wpList P ops Q l a w
def XW (Q:Exit->Act->World->Prop) (e:Exit) (env:cy) (H:List aJ):Prop:= ∀a w,Fr n env a->Cw B w0 H w->Q e a w
def QS (o:Oper) (env:cy) (H:List aJ) (v:Value):Prop:= ∀a w,Fr n env a->Cw B w0 H w->(execOp a.eval o).run P w= .ok (.value v) w
end
section
variable {P:Program} {n:NF} {B:Nat} {w0:World} {Q:Exit->Act->World->Prop} {env env':cy} {H H':List aJ} {x y:Code} {ops:Array Oper} {l:List Oper} {o:Oper}
theorem cc (h:CW P n B w0 x (Exit.then (y.wp P Q) Q) env H):CW P n B w0 (.seq x y) Q env H:=fun a w hf hw=>wp_seq (h a w hf hw)
theorem gI (h:XW n B w0 Q .normal env H):CW P n B w0 .skip Q env H:=fun a w hf hw=>wp_skip (h a w hf hw)
theorem jV {id:Nat} (h:CW P n B w0 x (Exit.inBlock id Q) env H):CW P n B w0 (.block id x) Q env H:=fun a w hf hw=>wp_block (h a w hf hw)
theorem NJ {id:Nat} (h:XW n B w0 Q (.exit id) env H):CW P n B w0 (.exit id) Q env H:=fun a w hf hw=>wp_exit (h a w hf hw)
theorem ik (h:XW n B w0 Q .ret env H):CW P n B w0 .ret Q env H:=fun a w hf hw=>wp_ret (h a w hf hw)
theorem bO {id:Nat} (h:RW P n B w0 l.toArray Q l env H):CW P n B w0 (.region id l.toArray false) Q env H:=fun a w hf hw=>wp_region_lit (h a w hf hw)
theorem bT {c:Operand} {b:Bool} (hc:opv env c=some (.bool b)) (h1:b=true->CW P n B w0 x Q env H) (h2:b=false->CW P n B w0 y Q env H):CW P n B w0 (.cond c x y) Q env H:=by
 intro a w hf hw
 cases b
 ·exact wp_cond_false (hf.opv hc) (h2 rfl a w hf hw)
 exact wp_cond_true (hf.opv hc) (h1 rfl a w hf hw)
theorem aU {c:Operand} (hc:opv env c=some (.bool true)) (h1:CW P n B w0 x Q env H):CW P n B w0 (.cond c x y) Q env H:=fun a w hf hw=>wp_cond_true (hf.opv hc) (h1 a w hf hw)
theorem cu {c:Operand} (hc:opv env c=some (.bool false)) (h1:CW P n B w0 y Q env H):CW P n B w0 (.cond c x y) Q env H:=fun a w hf hw=>wp_cond_false (hf.opv hc) (h1 a w hf hw)
theorem dK (hh:∀w,Cw B w0 H w->Cw B w0 H' w) (h:CW P n B w0 x Q env H'):CW P n B w0 x Q env H:=fun a w hf hw=>h a w hf (hh w hw)
theorem ee (hh:∀w,Cw B w0 H w->Cw B w0 H' w) (h:RW P n B w0 ops Q l env H'):RW P n B w0 ops Q l env H:=fun a w hf hw=>h a w hf (hh w hw)
theorem dY {p:Prop} (hp:∀w,Cw B w0 H w->p) (h:p->CW P n B w0 x Q env H):CW P n B w0 x Q env H:=fun a w hf hw=>h (hp w hw) a w hf hw
theorem nT {p:Prop} (hp:∀w,Cw B w0 H w->p) (h:p->RW P n B w0 ops Q l env H):RW P n B w0 ops Q l env H:=fun a w hf hw=>h (hp w hw) a w hf hw
theorem bH (h:CW P n B w0 y Q env H):RW P n B w0 ops (Exit.then (y.wp P Q) Q) [] env H:=fun a w hf hw=>wpList_nil (h a w hf hw)
theorem iM (h:XW n B w0 Q .normal env H):RW P n B w0 ops Q [] env H:=fun a w hf hw=>wpList_nil (h a w hf hw)
theorem Hk (hs:kb env env') (h:RW P n B w0 ops Q l env' H):RW P n B w0 ops Q l env H:=fun a w hf hw=>h a w (hf.sub hs) hw
theorem gF {c:Code} (h:CW P n B w0 c Q env H) {Q':Exit->Act->World->Prop} :XW n B w0 (Exit.then (c.wp P Q) Q') .normal env H:=h
theorem Jt {N:Act->World->Prop} {id:Nat} (h:XW n B w0 Q (.exit id) env H):XW n B w0 (Exit.then N Q) (.exit id) env H:=h
theorem eL {N:Act->World->Prop} (h:XW n B w0 Q .ret env H):XW n B w0 (Exit.then N Q) .ret env H:=h
theorem Oa {id:Nat} (h:XW n B w0 Q .normal env H):XW n B w0 (Exit.inBlock id Q) (.exit id) env H:=fun a w hf hw=>by
 show Exit.inBlock id Q (.exit id) a w
 simp only[Exit.inBlock,if_true]
 exact h a w hf hw
theorem LT {id id':Nat} (hne:Nat.beq id' id =false) (h:XW n B w0 Q (.exit id') env H):XW n B w0 (Exit.inBlock id Q) (.exit id') env H:=fun a w hf hw=>by
 have:¬id'=id:=Nat.ne_of_beq_eq_false hne
 show Exit.inBlock id Q (.exit id') a w
 simp only[Exit.inBlock,this,if_false]
 exact h a w hf hw
theorem eW {id:Nat} (h:XW n B w0 Q .normal env H):XW n B w0 (Exit.inBlock id Q) .normal env H:=h
theorem kW {id:Nat} (h:XW n B w0 Q .ret env H):XW n B w0 (Exit.inBlock id Q) .ret env H:=h
theorem JW {d:Nat} {v:Value} (hd:o.dst=some d) (hdn:Nat.blt d n.k=true) (hg:o.guard=none) (hq:QS P n B w0 o env H v) (h:RW P n B w0 ops Q l ((d,v)::env) H):RW P n B w0 ops Q (o::l) env H:=by
 intro a w hf hw
 refine wpList_plain hg fun K hK=>?_
 unfold Oper.wp
 rw[hq a w hf hw]
 simp only[Oper.upon]
 rw[hd]
 exact hK _ _ (h _ w (hf.put (by simpa using hdn) v) hw)
def ka {α:Type} :List α->Nat->Option α
 | [],_=>none
 | x::_,0=>some x
 | _::l,k+1=>ka l k
theorem iD {α:Type} :∀(l:List α) (k:Nat),ka l k=l[k]?
 | [],_=>rfl
 | _::_,0=>rfl
 | _::l,k+1=>by simp[ka,iD l k]
def pt (ops:Array Oper) (j:Nat):Option Nat:=match ka ops.toList j with
 | some o=>o.dst
 | none=>none
theorem tG {a:Act} {j d:Nat} {want b:Bool} (hg:o.guard=some (j,want)) (hs:pt ops j=some d) (hf:Fr n env a) (hv:lk env d=some (.bool b)):Region.wanted o (yielded ops a.tmps)=(b == want):=by
 have h1:(ops[j]?).bind (·.dst)=some d:=by
  unfold pt at hs
  rw[iD] at hs
  simp only[dE] at hs
  cases h:ops[j]? <;> simp_all
 obtain⟨h2,h3⟩:=hf.2.2 d _ hv
 have h4:a.tmps[d]? =some (.bool b):=by
  rw[<-hf.1] at h2
  rw[mR,jf h2] at h3
  rw[jf h2]
  simpa using h3
 unfold Region.wanted
 simp only[hg,yielded,h1,Option.bind_some,h4]
 cases b <;> cases want <;> rfl
theorem zr {a:Act} {j d:Nat} {want:Bool} {vs:Array Value} (hg:o.guard=some (j,want)) (hs:pt ops j=some d) (hf:Fr n env a) (hv:lk env d=some (.tuple vs)):Region.wanted o (yielded ops a.tmps)=false:=by
 have h1:(ops[j]?).bind (·.dst)=some d:=by
  unfold pt at hs
  rw[iD] at hs
  simp only[dE] at hs
  cases h:ops[j]? <;> simp_all
 obtain⟨h2,h3⟩:=hf.2.2 d _ hv
 have h4:a.tmps[d]? =some (.tuple vs):=by
  rw[<-hf.1] at h2
  rw[mR,jf h2] at h3
  rw[jf h2]
  simpa using h3
 unfold Region.wanted
 simp only[hg,yielded,h1,Option.bind_some,h4]
 rfl
theorem yL {d t j:Nat} {want b:Bool} (hd:o.dst=some d) (hdn:Nat.blt d n.k=true) (hg:o.guard=some (j,want)) (hs:pt ops j=some t) (hv:lk env t=some (.bool b)) (hb:(b == want)=false) (h:RW P n B w0 ops Q l ((d,undef)::env) H) :
  RW P n B w0 ops Q (o::l) env H:=by
 intro a w hf hw
 have hw':=tG hg hs hf hv
 unfold wpList
 rw[hw',hb,if_neg (by simp),hd]
 exact h _ w (hf.put (by simpa using hdn) _) hw
theorem vY {d t j:Nat} {want:Bool} {vs:Array Value} (hd:o.dst=some d) (hdn:Nat.blt d n.k=true) (hg:o.guard=some (j,want)) (hs:pt ops j=some t) (hv:lk env t=some (.tuple vs)) (h:RW P n B w0 ops Q l ((d,undef)::env) H) :
  RW P n B w0 ops Q (o::l) env H:=by
 intro a w hf hw
 have hw':=zr hg hs hf hv
 unfold wpList
 rw[hw',if_neg (by simp),hd]
 exact h _ w (hf.put (by simpa using hdn) _) hw
theorem FA {d t j:Nat} {want b:Bool} {v:Value} (hd:o.dst=some d) (hdn:Nat.blt d n.k=true) (hg:o.guard=some (j,want)) (hs:pt ops j=some t) (hv:lk env t=some (.bool b)) (hb:(b == want)=true) (hq:QS P n B w0 o env H v)
  (h:RW P n B w0 ops Q l ((d,v)::env) H):RW P n B w0 ops Q (o::l) env H:=by
 intro a w hf hw
 have hw':=tG hg hs hf hv
 refine wpList_step fun K hK=>?_
 rw[hw',hb,if_pos rfl]
 unfold Oper.wp
 rw[hq a w hf hw]
 simp only[Oper.upon]
 rw[hd]
 exact hK _ _ (h _ w (hf.put (by simpa using hdn) v) hw)
theorem jo {t:Nat} {b:Bool} (hv:lk env t=some (.bool b)) (h1:b=true->RW P n B w0 ops Q l ((t,.bool true)::env) H) (h2:b=false->RW P n B w0 ops Q l ((t,.bool false)::env) H):RW P n B w0 ops Q l env H:=by
 intro a w hf hw
 have hf':Fr n ((t,.bool b)::env) a:=by
  refine⟨hf.1,hf.2.1,fun s u e=>?_⟩
  simp only[lk] at e
  by_cases hts:t=s
  ·subst hts
   simp at e
   subst e
   exact hf.2.2 _ _ hv
  have:Nat.beq t s=false:=yY hts
  rw[this] at e
  exact hf.2.2 _ _ e
 cases b
 ·exact h2 rfl a w hf' hw
 exact h1 rfl a w hf' hw
theorem bh {t:Nat} {v v':Value} (hv:lk env t=some v) (e:v=v') (h:RW P n B w0 ops Q l ((t,v')::env) H):RW P n B w0 ops Q l env H:=by
 subst e
 intro a w hf hw
 refine h a w ⟨hf.1,hf.2.1,fun s u e=>?_⟩ hw
 simp only[lk] at e
 by_cases hts:t=s
 ·subst hts
  simp at e
  subst e
  exact hf.2.2 _ _ hv
 have:Nat.beq t s=false:=yY hts
 rw[this] at e
 exact hf.2.2 _ _ e
theorem cK {t:Nat} {v v':Value} (hv:lk env t=some v) (e:v=v') (h:CW P n B w0 x Q ((t,v')::env) H):CW P n B w0 x Q env H:=by
 subst e
 intro a w hf hw
 refine h a w ⟨hf.1,hf.2.1,fun s u e=>?_⟩ hw
 simp only[lk] at e
 by_cases hts:t=s
 ·subst hts
  simp at e
  subst e
  exact hf.2.2 _ _ hv
 have:Nat.beq t s=false:=yY hts
 rw[this] at e
 exact hf.2.2 _ _ e
end
end
