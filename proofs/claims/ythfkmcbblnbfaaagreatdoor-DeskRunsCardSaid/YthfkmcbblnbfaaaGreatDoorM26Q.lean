/- Lemmas of one proof. -/
import Derived.Test.YthfkmcbblnbfaaaGreatDoorM0Q
import Derived.Test.YthfkmcbblnbfaaaGreatDoorM19Q
import Derived.Test.YthfkmcbblnbfaaaGreatDoorM25Q

namespace Go.Proofs.YthfkmcbblnbfaaaGreatDoor
set_option maxRecDepth 100000
set_option maxHeartbeats 16000000
open Go.RowKit
section
theorem gH {a b:Int} (h:a=b):Ending.returned (.int .i64 a)= .returned (.int .i64 b):=by rw[h]
instance:Ow bd where
 ty:=86
 own _ F cs o:=(cs= [.int .i64 o.c,.int .i64 o.a]/\aF o.c/\aF o.a)/\∀b,¬F b
 rd_ h:=h.1
 lt h hb:=(h.2 _ hb).elim
 frame h _:=h
 cong h hf:=⟨h.1,fun b hb=>h.2 b ((hf b).2 hb)⟩
instance:bS bd where
 enc o:= [.int .i64 o.c,.int .i64 o.a]
 wf o:=aF o.c/\aF o.a
 rep_iff:=iD
 own_iff:=iD
instance:iC bd:=⟨77⟩
theorem ge:(Tryz.prog.info? 3).map (fun i=>(i.zero,i.size,i.bytes))=some (some (.int .i64 0),1,8):=by kernel_rfl
theorem Ca:(Tryz.prog.info? 4).map (fun i=>(i.zero,i.size,i.bytes))=some (some (.bool false),1,1):=by kernel_rfl
theorem gt {a:Int} (h:aF a):∀x∈[a],aF x:=by intro x hx;rw[bN.1 hx];exact h
theorem jQ {a b:Int} (h:aF a) (h2:aF b):∀x∈[a,b],aF x:=by
 intro x hx
 rcases dd.1 hx with hx | hx
 ·rw[hx];exact h
 rw[bN.1 hx];exact h2
section
variable {P:Program} {n:NF} {o:Oper} {env:bJ} {B:Nat} {w0:World} {H H':List aC}
def bt (l:List bd) (k:Nat):bd:=l.getD k default
theorem SF.op {A:Option Addr} {xs:List bd} {m c k:Nat} (hs:SF B w0 H A m c xs) (hk:k<m):∀w,Cw B w0 H w->∀j v,([.int .i64 (bt xs k).c,.int .i64 (bt xs k).a]:List Value)[j]? =some v->w.cell? ⟨ab A,ao A+k*2+j,none⟩=some v:=
 fun w hw _ _ hj=>SF.cell hs hk default hj w hw
theorem SF.opc {A:Option Addr} {xs:List bd} {m c k:Nat} (hs:SF B w0 H A m c xs) (hk:k<m):∀w,Cw B w0 H w->w.cell? ⟨ab A,ao A+k*2+0,none⟩=some (.int .i64 (bt xs k).c):=fun w hw=>SF.op hs hk w hw 0 _ rfl
theorem SF.opa {A:Option Addr} {xs:List bd} {m c k:Nat} (hs:SF B w0 H A m c xs) (hk:k<m):∀w,Cw B w0 H w->w.cell? ⟨ab A,ao A+k*2+1,none⟩=some (.int .i64 (bt xs k).a):=fun w hw=>SF.op hs hk w hw 1 _ rfl
theorem SF.bool {A:Option Addr} {xs:List Bool} {m c k:Nat} (hs:SF B w0 H A m c xs) (hk:k<m):∀w,Cw B w0 H w->w.cell? ⟨ab A,ao A+k*1,none⟩=some (.bool (xs.getD k false)):=fun w hw=>SF.cell hs hk false (j:=0) rfl w hw
theorem AV {w:World} {B:Nat} {A:Option Addr} {xs:List bd} {m c k:Nat} (h:bE w B (.slice A m c) xs) (hk:k<m):aF (bt xs k).c/\aF (bt xs k).a:=by
 obtain⟨cs,hr,_⟩:=h.elr hk default
 exact hr.2
end
def KH (n:Nat) (o:bd):Bool:=(decide (o.c=10) || decide (o.c=11)) && (decide (o.a<0) || decide ((n:Int)<=o.a))
def wm (l:List bd):Int:=if dL l=0 then (if l.length=0 then 5 else if l.any (KH l.length) then 3 else 0) else dL l
def fV (o:bd) (pc to_:Int):Bool:=if o.c=13 then false else if o.c=10 then decide (to_=o.a) else if o.c=11 then decide (to_=pc+1) || decide (to_=o.a) else decide (to_=pc+1)
def dm (o:bd) (pc:Int):List Int:=if o.c=13 then [] else if o.c=10 then [o.a] else if o.c=11 then (if pc+1=o.a then [pc+1] else if o.a<pc+1 then [o.a,pc+1] else [pc+1,o.a]) else [pc+1]
def jD (n:Nat):List Int:=(List.range n).map fun i:Nat=>(i:Int)
def zh (l:List bd) (pc:Nat):List Int:=(jD (l.length+1)).filter (fV (bt l pc) pc)
def P4 (l:List bd) (to_:Int):List Int:=(jD l.length).filter fun i=>fV (bt l i.toNat) i to_
def PN (l:List bd) (pc:Int):Int:=if wm l=0 then (if pc<0\/(l.length:Int)<=pc then 3 else 0) else wm l
def P6 (l:List bd) (pc:Int):Int:=if wm l=0 then (if pc<0\/(l.length:Int)<pc then 3 else 0) else wm l
def QT (l:List bd) (pc:Int):List Int:=if PN l pc=0 then zh l pc.toNat else []
def Q1 (l:List bd) (pc:Int):List Int:=if P6 l pc=0 then P4 l pc else []
inductive ti (l:List bd) (p:Nat):Nat->Prop where
 | refl:ti l p p
 | step {q r:Nat} :ti l p q->q<l.length->fV (bt l q) q r=true->ti l p r
theorem ti.trans {l:List bd} {p q r:Nat} (h1:ti l p q) (h2:ti l q r):ti l p r:=by
 induction h2 with
 | refl=>exact h1
 | step _ h3 h4 ih=>exact .step ih h3 h4
abbrev QN (l:List bd) (q:Nat):Prop:=ti l 0 q
noncomputable def rchB (l:List bd) (i:Int):Bool:= @decide (QN l i.toNat) (Classical.propDecidable _)
noncomputable def reachL (l:List bd):List Int:=(jD (l.length+1)).filter (rchB l)
noncomputable def reachR (l:List bd):List Int:=if wm l=0 then reachL l else []
theorem FH (n:Nat):jD (n+1)=jD n++ [(n:Int)]:=by simp[jD,lK]
theorem IK (n:Nat):(jD n).length=n:=by simp[jD]
theorem uf (p:Int->Bool) (n:Nat):(jD (n+1)).filter p=(jD n).filter p++(if p n then [(n:Int)] else []):=by
 rw[FH,List.filter_append]
 congr 1
 by_cases h:p n=true <;> simp[h]
theorem EU {p:Int->Bool} {n:Nat} (h:p n=true):(jD (n+1)).filter p=(jD n).filter p++ [(n:Int)]:=by rw[uf,if_pos h]
theorem Hz {p:Int->Bool} {n:Nat} (h:¬p n=true):(jD (n+1)).filter p=(jD n).filter p:=by rw[uf,if_neg h,dS]
theorem EV (p:Int->Bool) (n:Nat):((jD n).filter p).length<=n:=by
 have:=List.length_filter_le p (jD n)
 rw[IK] at this
 exact this
theorem sC:∀{xs ys:List Int},xs.Pairwise (· < ·)->ys.Pairwise (· < ·)->(∀a,a∈xs↔a∈ys)->xs=ys
 | [],[],_,_,_=>rfl
 | [],y::ys,_,_,h=>by have:=(h y).2 (by simp);simp at this
 | x::xs,[],_,_,h=>by have:=(h x).1 (by simp);simp at this
 | x::xs,y::ys,hx,hy,h=>by
  rw[List.pairwise_cons] at hx hy
  have e:x=y:=by
   have h1:=(h x).1 (by simp)
   have h2:=(h y).2 (by simp)
   rw[dd] at h1 h2
   rcases h1 with h1 | h1
   ·exact h1
   rcases h2 with h2 | h2
   ·exact h2.symm
   have a1:=hx.1 y h2
   have a2:=hy.1 x h1
   omega
  subst e
  congr 1
  refine sC hx.2 hy.2 fun a=>?_
  have h1:=h a
  rw[dd,dd] at h1
  constructor
  ·intro ha
   rcases h1.1 (.inr ha) with e | h2
   ·have:=hx.1 a ha;omega
   exact h2
  intro ha
  rcases h1.2 (.inr ha) with e | h2
  ·have:=hy.1 a ha;omega
  exact h2
theorem yB (o:bd) (pc a:Int):a∈dm o pc↔fV o pc a=true:=by
 unfold dm fV
 split
 ·simp
 split
 ·simp
 split
 ·split
  ·rename_i h;simp;omega
  split
  ·simp;omega
  simp
 simp
theorem B6 (o:bd) (pc:Int):(dm o pc).Pairwise (· < ·):=by
 unfold dm
 split
 ·simp
 split
 ·simp
 split
 ·split
  ·simp
  split
  ·simp;omega
  simp;omega
 simp
theorem uk {l:List bd} (h:dL l=0):l.length<=40:=by
 unfold dL at h
 split at h
 ·cases h
 omega
theorem uL {l:List bd} {k:Nat} (h:k<l.length):bt l k∈l:=by
 unfold bt
 rw[ak,ap h]
 exact cR h
theorem rY {α:Type} {p:α->Bool} {l:List α} {k:Nat} (d:α) (hk:k<l.length):(l.take (k+1)).any p=((l.take k).any p || p (l.getD k d)):=by
 rw[List.take_add_one,ap hk,ak,ap hk,List.any_append]
 simp
theorem FL {xs ys:List Int} {k:Nat} (h:xs.take k=ys.take k) (hx:k<xs.length) (hy:k<ys.length) (he:xs.getD k 0=ys.getD k 0):xs.take (k+1)=ys.take (k+1):=by
 rw[cO hx,cO hy,h]
 rw[ak,ap hx,ak,ap hy] at he
 simp only[uv] at he
 rw[he]
theorem jG (A1 A2:Option Addr) (c1 c2:Nat) (xs ys:List Int) (w:World) (h1:Sl w (.slice A1 xs.length c1) xs) (h2:Sl w (.slice A2 ys.length c2) ys):Calls Tryz.prog 63 #[.slice A1 xs.length c1,.slice A2 ys.length c2] w fun e w'=>e= .returned (.bool (decide (xs=ys)))/\Below w.heap.size w w':=by
 have b1:=bx h1
 refine enter Tryz.func63 rfl Tryz.ntmps63 rfl<|bV (fun h=>?_) (fun h=>?_)
 ·refine aj ?_
  intro w hw
  exact⟨aM (by simp;intro e;exact h (by simp[e])),hw.below⟩
 refine aj ?_
 refine dG (fun k:Nat=>k<=xs.length/\xs.take k=ys.take k) (fun k=>xs.length - k) (fun k=> [(0,.slice A1 xs.length c1),(1,.slice A2 ys.length c2),(5,.int .i64 (k:Int))]) (fun _=> []) 0 (by simp) ?_
 rintro k ⟨hk,ht⟩
 refine aJ ?_
 refine gJ rfl (fun h3=>?_) (fun h3=>?_)
 ·refine aj ?_
  refine bU [0,3,6,9,12,15,18,21,24] [] rfl<|aj ?_
  refine tE rfl (bZ aV cJ (.ro h1) (by omega) rfl rfl rfl) ?_
  refine tE rfl (dT (SF.int (.ro h1) (by omega)) rfl rfl du)<|aj ?_
  refine tE rfl (bZ aV cJ (.ro h2) (by omega) rfl rfl rfl) ?_
  refine tE rfl (dT (SF.int (.ro h2) (by omega)) rfl rfl du)<|bV (fun h4=>?_) (fun h4=>?_)
  ·refine aj ?_
   intro w hw
   exact⟨aM (by simp;intro e;exact h4 (by simp[e])),hw.below⟩
  refine aj ?_
  refine dv (k+1) (⟨by omega,FL ht (by omega) (by omega) h4⟩) (by show _ - _<_ - _;omega)
 refine aj ?_
 intro w hw
 exact⟨aM (by rw[bg (by omega),bg (by omega)] at ht;simp[ht]),hw.below⟩
end
section
theorem JT (A:Option Addr) (c:Nat) (l:List bd) (f:FuncId) (cap:Array Value) (p:bd->Bool) (w:World) (hs:Sl w (.slice A l.length c) l) (hcall:∀a w,(callFunc f a).run Tryz.prog w= .ok (.enter f a) w)
  (hf:∀w1,Below w.heap.size w w1->∀k,k<l.length->Calls Tryz.prog f ([Value.agg #[.int .i64 (bt l k).c,.int .i64 (bt l k).a]]++cap.toList).toArray w1 fun e w'=>e= .returned (.bool (p (bt l k)))/\Below w1.heap.size w1 w') :
  Calls Tryz.prog 251 #[.slice A l.length c,.func (.func f) #[] cap] w fun e w'=> ∃r:Int,decide (0<=r)=l.any p/\e= .returned (.int .i64 r)/\Cw w.heap.size w [] w':=by
 have b1:=bx hs
 refine enter Tryz.func251 rfl Tryz.ntmps251 rfl<|aj ?_
 refine dG (fun k:Nat=>k<=l.length/\(l.take k).any p=false) (fun k=>l.length - k) (fun k=> [(0,.slice A l.length c),(1,.func (.func f) #[] cap),(7,.int .i64 (l.length:Int)),(8,.int .i64 (k:Int))]) (fun _=> []) 0 (⟨bi _,rfl⟩) ?_
 rintro k hk'
 obtain⟨hk,hno⟩:k<=l.length/\(l.take k).any p=false:=hk'
 refine az (fun hlt=>?_) (fun hlt=>?_)
 ·have hkl:k<l.length:=by omega
  have hsn:=rY (p:=p) default hkl
  refine aj ?_
  refine dA (_) rfl ((.ro hs)) ?_
  refine iX (cs:= [_,_]) rfl (SF.op (.ro hs) (by omega)) ?_
  refine oE (sG rfl rfl rfl hcall (fun w hw=>hf w hw.below k hkl)) (fun _ _=>aj ?_)
  refine cB rfl (fun hp=>?_) (fun hp=>?_)
  ·have hp:p (bt l k)=true:=hp
   refine aj ?_
   intro w hw
   refine⟨(k:Int),?_,rfl,hw⟩
   have h2:l.any p=true:=cX.2 ⟨_,uL hkl,hp⟩
   rw[h2]
   exact decide_eq_true (by omega)
  have hp:p (bt l k)=false:=hp
  refine aj ?_
  refine dv (k+1) ((by refine⟨by omega,?_⟩;rw[hsn,hno];exact hp)) (by show _ - _<_ - _;omega)
 obtain rfl:k=l.length:=by omega
 refine aj ?_
 intro w hw
 refine⟨-1,?_,rfl,hw⟩
 rw[aQ] at hno
 rw[hno]
 rfl
theorem CQ (A:Option Addr) (c:Nat) (l:List bd) (f:FuncId) (cap:Array Value) (p:bd->Bool) (w:World) (hs:Sl w (.slice A l.length c) l) (hcall:∀a w,(callFunc f a).run Tryz.prog w= .ok (.enter f a) w)
  (hf:∀w1,Below w.heap.size w w1->∀k,k<l.length->Calls Tryz.prog f ([Value.agg #[.int .i64 (bt l k).c,.int .i64 (bt l k).a]]++cap.toList).toArray w1 fun e w'=>e= .returned (.bool (p (bt l k)))/\Below w1.heap.size w1 w') :
  Calls Tryz.prog 206 #[.slice A l.length c,.func (.func f) #[] cap] w fun e w'=>e= .returned (.bool (l.any p))/\Below w.heap.size w w':=by
 refine enter Tryz.func206 rfl Tryz.ntmps206 rfl<|aj ?_
 refine eL rfl Tryz.call251 (fun w hw=>JT A c l f cap p w (hw.ro hs) hcall (fun w1 h1=>hf w1 (hw.below.trans (h1.mono hw.le)))) (fun r hr=>aj ?_)
 intro w hw
 exact⟨aM hr,hw.below⟩
def Qe (l:List bd):Int:=if dL l=0 then (if l.length=0 then 5 else 0) else dL l
def Rg (l:List bd) (i:Nat):Int:=if Qe l=0 then (if (l.take i).any (KH l.length) then 3 else 0) else Qe l
end
section
theorem xB (n:Int):aF (iE n):=by unfold iE aF;omega
theorem CJ (b:UInt8) (r:List UInt8):aF (bh b r).1.c/\aF (bh b r).1.a:=by
 have hb:=b.toNat_lt
 have h0:aF (b.toNat:Int):=by unfold aF;omega
 have h1:aF 0:=by unfold aF;omega
 unfold bh
 split
 ·exact⟨h0,h1⟩
 split
 ·exact⟨h0,h1⟩
 refine⟨h0,?_⟩
 dsimp only
 split
 ·exact xB _
 exact h1
theorem BG (k:Nat):∀(r:List UInt8) (out:List bd),(∀o∈out,aF o.c/\aF o.a)->out.length<=40->(∀o∈(bQ k r out).1,aF o.c/\aF o.a)/\(bQ k r out).1.length<=40:=by
 induction k with
 | zero=>intro r out h h40;cases r <;> simp[bQ] <;> first | exact⟨h,h40⟩ | skip
 | succ k ih=>
  intro r out h h40
  cases r with
  | nil=>simpa [bQ] using ⟨h,h40⟩
  | cons b r=>
   simp only[bQ]
   split
   ·simp
   split
   ·simp
   rename_i h41
   refine ih _ _ (fun o ho=>?_) (by simp at h41⊢;omega)
   rcases cG.1 ho with ho | ho
   ·exact h o ho
   simp at ho;subst ho;exact CJ b r
theorem ij (l:List UInt8):(∀o∈(be l).1,aF o.c/\aF o.a)/\(be l).1.length<=40:=BG _ _ _ (by simp) (by simp)
theorem DI {W:World} {base:Nat} {v:Value} {xs:List bd} (h:W.ownsRow base 86 2 v xs.length (xs.flatMap gj)) (hi:∀o∈xs,aF o.c/\aF o.a) (hl:xs.length<=40):Sl W v xs:=
 OA gj h (fun o ho=>⟨rfl,hi o ho⟩) (by omega)
theorem E3 (l:List UInt8) (w:World) (hl:l.length<=140737488355320):Calls Tryz.prog 41 #[.string ⟨l.toArray⟩] w fun e w'=>
  ∃v,e= .returned (.tuple #[v,.int .i64 (be l).2])/\Below w.heap.size w w'/\Sl w' v (be l).1/\w'.ownsRow w.heap.size 86 2 v (be l).1.length ((be l).1.flatMap gj):=
 (callsIn_wide.1 (HJ l w hl)).mono fun e w' ⟨v,h1,h2,h3⟩=>⟨v,h1,h2,DI h3 (ij l).1 (ij l).2,uJ h3 (by omega)⟩
theorem PE (l:List UInt8) (w:World) (hl:l.length<=140737488355320):Calls Tryz.prog 144 #[.string ⟨l.toArray⟩] w fun e w'=>
  ∃v,e= .returned (.tuple #[v,.int .i64 (be l).2])/\Below w.heap.size w w'/\Sl w' v (be l).1/\w'.ownsRow w.heap.size 86 2 v (be l).1.length ((be l).1.flatMap gj):=
 (Cx l w hl).mono fun _ _ ⟨v,h1,h2,h3⟩=>⟨v,h1,h2,DI h3 (ij l).1 (ij l).2,h3⟩
theorem Jw {α:Type} [bS α] {W:World} {base:Nat} {v:Value} {xs:List α} (h:W.ownsRow base (Ow.ty α) (ay.k α) v xs.length (xs.flatMap bS.enc)) (hwf:∀x∈xs,bS.wf x) (hl:xs.length<=140737488355328):eo W base v xs:=by
 have hlen:∀x∈xs,(bS.enc x).length=ay.k α:=fun x hx=>ay.len (bS.rep_iff.2 ⟨rfl,hwf x hx⟩:ay.rep W 0 (bS.enc x) x)
 refine eo.of_zs h h.1 (fun i x hx=>?_) hl
 have hxm:=eP hx
 refine bS.own_iff.2 ⟨⟨?_,hwf x hxm⟩,fun _ h=>h⟩
 apply en
 intro j
 by_cases hj:j<ay.k α
 ·have hi:j<(bS.enc x).length:=by rw[hlen x hxm];exact hj
  have:=lI bS.enc (ay.k α) xs hlen i x j _ hx (ap hi)
  rw[de,if_pos hj,cH,this,ap hi]
 rw[aT (by rw[ax];omega),aT (by rw[hlen x hxm];omega)]
theorem E2 (l:List UInt8) (w:World) (hl:l.length<=140737488355320):Calls Tryz.prog 41 #[.string ⟨l.toArray⟩] w fun e w'=>
  ∃v,e= .returned (.tuple #[v,.int .i64 (be l).2])/\Below w.heap.size w w'/\eo w' w.heap.size v (be l).1:=
 (E3 l w hl).mono fun e w' ⟨v,h1,h2,_,h3⟩=>⟨v,h1,h2,Jw h3 (ij l).1 (by have:=(ij l).2;omega)⟩
end
section
def PQ:List bd:= [⟨1,3⟩,⟨3,0⟩,⟨20,0⟩,⟨1,1⟩,⟨6,0⟩,⟨3,0⟩,⟨11,8⟩,⟨10,1⟩,⟨2,0⟩,⟨13,0⟩]
end
