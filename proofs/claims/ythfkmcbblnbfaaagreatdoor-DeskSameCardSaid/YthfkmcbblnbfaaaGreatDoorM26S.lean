/- Lemmas of one proof. -/
import Derived.Test.YthfkmcbblnbfaaaGreatDoorM0S
import Derived.Test.YthfkmcbblnbfaaaGreatDoorM19S
import Derived.Test.YthfkmcbblnbfaaaGreatDoorM25S

namespace Go.Proofs.YthfkmcbblnbfaaaGreatDoor
set_option maxRecDepth 100000
set_option maxHeartbeats 16000000
open Go.RowKit
section
theorem gA {a b:Int} (h:a=b):Ending.returned (.int .i64 a)= .returned (.int .i64 b):=by rw[h]
instance:Ow bd where
 ty:=86
 own _ F cs o:=(cs= [.int .i64 o.c,.int .i64 o.a]/\aD o.c/\aD o.a)/\∀b,¬F b
 rd_ h:=h.1
 lt h hb:=(h.2 _ hb).elim
 frame h _:=h
 cong h hf:=⟨h.1,fun b hb=>h.2 b ((hf b).2 hb)⟩
instance:bP bd where
 enc o:= [.int .i64 o.c,.int .i64 o.a]
 wf o:=aD o.c/\aD o.a
 rep_iff:=ix
 own_iff:=ix
instance:iu bd:=⟨77⟩
theorem fU:(Tryz.prog.info? 3).map (fun i=>(i.zero,i.size,i.bytes))=some (some (.int .i64 0),1,8):=by kernel_rfl
theorem Ch:(Tryz.prog.info? 4).map (fun i=>(i.zero,i.size,i.bytes))=some (some (.bool false),1,1):=by kernel_rfl
theorem fY {a:Int} (h:aD a):∀x∈[a],aD x:=by intro x hx;rw[bK.1 hx];exact h
theorem jN {a b:Int} (h:aD a) (h2:aD b):∀x∈[a,b],aD x:=by
 intro x hx
 rcases cZ.1 hx with hx | hx
 ·rw[hx];exact h
 rw[bK.1 hx];exact h2
section
variable {P:Program} {n:NF} {o:Oper} {env:bH} {B:Nat} {w0:World} {H H':List aC}
def bu (l:List bd) (k:Nat):bd:=l.getD k default
theorem SF.op {A:Option Addr} {xs:List bd} {m c k:Nat} (hs:SF B w0 H A m c xs) (hk:k<m):∀w,Cw B w0 H w->∀j v,([.int .i64 (bu xs k).c,.int .i64 (bu xs k).a]:List Value)[j]? =some v->w.cell? ⟨ab A,ao A+k*2+j,none⟩=some v:=
 fun w hw _ _ hj=>SF.cell hs hk default hj w hw
theorem SF.opc {A:Option Addr} {xs:List bd} {m c k:Nat} (hs:SF B w0 H A m c xs) (hk:k<m):∀w,Cw B w0 H w->w.cell? ⟨ab A,ao A+k*2+0,none⟩=some (.int .i64 (bu xs k).c):=fun w hw=>SF.op hs hk w hw 0 _ rfl
theorem SF.opa {A:Option Addr} {xs:List bd} {m c k:Nat} (hs:SF B w0 H A m c xs) (hk:k<m):∀w,Cw B w0 H w->w.cell? ⟨ab A,ao A+k*2+1,none⟩=some (.int .i64 (bu xs k).a):=fun w hw=>SF.op hs hk w hw 1 _ rfl
theorem SF.bool {A:Option Addr} {xs:List Bool} {m c k:Nat} (hs:SF B w0 H A m c xs) (hk:k<m):∀w,Cw B w0 H w->w.cell? ⟨ab A,ao A+k*1,none⟩=some (.bool (xs.getD k false)):=fun w hw=>SF.cell hs hk false (j:=0) rfl w hw
theorem AZ {w:World} {B:Nat} {A:Option Addr} {xs:List bd} {m c k:Nat} (h:br w B (.slice A m c) xs) (hk:k<m):aD (bu xs k).c/\aD (bu xs k).a:=by
 obtain⟨cs,hr,_⟩:=h.elr hk default
 exact hr.2
end
def KY (n:Nat) (o:bd):Bool:=(decide (o.c=10) || decide (o.c=11)) && (decide (o.a<0) || decide ((n:Int)<=o.a))
def wu (l:List bd):Int:=if dF l=0 then (if l.length=0 then 5 else if l.any (KY l.length) then 3 else 0) else dF l
def fQ (o:bd) (pc to_:Int):Bool:=if o.c=13 then false else if o.c=10 then decide (to_=o.a) else if o.c=11 then decide (to_=pc+1) || decide (to_=o.a) else decide (to_=pc+1)
def dg (o:bd) (pc:Int):List Int:=if o.c=13 then [] else if o.c=10 then [o.a] else if o.c=11 then (if pc+1=o.a then [pc+1] else if o.a<pc+1 then [o.a,pc+1] else [pc+1,o.a]) else [pc+1]
def jz (n:Nat):List Int:=(List.range n).map fun i:Nat=>(i:Int)
def zj (l:List bd) (pc:Nat):List Int:=(jz (l.length+1)).filter (fQ (bu l pc) pc)
def Qm (l:List bd) (to_:Int):List Int:=(jz l.length).filter fun i=>fQ (bu l i.toNat) i to_
def P6 (l:List bd) (pc:Int):Int:=if wu l=0 then (if pc<0\/(l.length:Int)<=pc then 3 else 0) else wu l
def Qn (l:List bd) (pc:Int):Int:=if wu l=0 then (if pc<0\/(l.length:Int)<pc then 3 else 0) else wu l
def Ra (l:List bd) (pc:Int):List Int:=if P6 l pc=0 then zj l pc.toNat else []
def Rj (l:List bd) (pc:Int):List Int:=if Qn l pc=0 then Qm l pc else []
inductive tj (l:List bd) (p:Nat):Nat->Prop where
 | refl:tj l p p
 | step {q r:Nat} :tj l p q->q<l.length->fQ (bu l q) q r=true->tj l p r
theorem tj.trans {l:List bd} {p q r:Nat} (h1:tj l p q) (h2:tj l q r):tj l p r:=by
 induction h2 with
 | refl=>exact h1
 | step _ h3 h4 ih=>exact .step ih h3 h4
abbrev Q5 (l:List bd) (q:Nat):Prop:=tj l 0 q
noncomputable def rchB (l:List bd) (i:Int):Bool:= @decide (Q5 l i.toNat) (Classical.propDecidable _)
noncomputable def reachL (l:List bd):List Int:=(jz (l.length+1)).filter (rchB l)
noncomputable def reachR (l:List bd):List Int:=if wu l=0 then reachL l else []
theorem FW (n:Nat):jz (n+1)=jz n++ [(n:Int)]:=by simp[jz,lI]
theorem IZ (n:Nat):(jz n).length=n:=by simp[jz]
theorem uj (p:Int->Bool) (n:Nat):(jz (n+1)).filter p=(jz n).filter p++(if p n then [(n:Int)] else []):=by
 rw[FW,List.filter_append]
 congr 1
 by_cases h:p n=true <;> simp[h]
theorem E4 {p:Int->Bool} {n:Nat} (h:p n=true):(jz (n+1)).filter p=(jz n).filter p++ [(n:Int)]:=by rw[uj,if_pos h]
theorem HS {p:Int->Bool} {n:Nat} (h:¬p n=true):(jz (n+1)).filter p=(jz n).filter p:=by rw[uj,if_neg h,dN]
theorem E5 (p:Int->Bool) (n:Nat):((jz n).filter p).length<=n:=by
 have:=List.length_filter_le p (jz n)
 rw[IZ] at this
 exact this
theorem sx:∀{xs ys:List Int},xs.Pairwise (· < ·)->ys.Pairwise (· < ·)->(∀a,a∈xs↔a∈ys)->xs=ys
 | [],[],_,_,_=>rfl
 | [],y::ys,_,_,h=>by have:=(h y).2 (by simp);simp at this
 | x::xs,[],_,_,h=>by have:=(h x).1 (by simp);simp at this
 | x::xs,y::ys,hx,hy,h=>by
  rw[List.pairwise_cons] at hx hy
  have e:x=y:=by
   have h1:=(h x).1 (by simp)
   have h2:=(h y).2 (by simp)
   rw[cZ] at h1 h2
   rcases h1 with h1 | h1
   ·exact h1
   rcases h2 with h2 | h2
   ·exact h2.symm
   have a1:=hx.1 y h2
   have a2:=hy.1 x h1
   omega
  subst e
  congr 1
  refine sx hx.2 hy.2 fun a=>?_
  have h1:=h a
  rw[cZ,cZ] at h1
  constructor
  ·intro ha
   rcases h1.1 (.inr ha) with e | h2
   ·have:=hx.1 a ha;omega
   exact h2
  intro ha
  rcases h1.2 (.inr ha) with e | h2
  ·have:=hy.1 a ha;omega
  exact h2
theorem yD (o:bd) (pc a:Int):a∈dg o pc↔fQ o pc a=true:=by
 unfold dg fQ
 split
 ·simp
 split
 ·simp
 split
 ·split
  ·rename_i h;simp;omega
  split
  ·simp;omega
  simp
 simp
theorem Cd (o:bd) (pc:Int):(dg o pc).Pairwise (· < ·):=by
 unfold dg
 split
 ·simp
 split
 ·simp
 split
 ·split
  ·simp
  split
  ·simp;omega
  simp;omega
 simp
theorem uo {l:List bd} (h:dF l=0):l.length<=40:=by
 unfold dF at h
 split at h
 ·cases h
 omega
theorem uS {l:List bd} {k:Nat} (h:k<l.length):bu l k∈l:=by
 unfold bu
 rw[ak,an h]
 exact cP h
theorem rT {α:Type} {p:α->Bool} {l:List α} {k:Nat} (d:α) (hk:k<l.length):(l.take (k+1)).any p=((l.take k).any p || p (l.getD k d)):=by
 rw[List.take_add_one,an hk,ak,an hk,List.any_append]
 simp
theorem F0 {xs ys:List Int} {k:Nat} (h:xs.take k=ys.take k) (hx:k<xs.length) (hy:k<ys.length) (he:xs.getD k 0=ys.getD k 0):xs.take (k+1)=ys.take (k+1):=by
 rw[cN hx,cN hy,h]
 rw[ak,an hx,ak,an hy] at he
 simp only[uD] at he
 rw[he]
theorem jC (A1 A2:Option Addr) (c1 c2:Nat) (xs ys:List Int) (w:World) (h1:Sl w (.slice A1 xs.length c1) xs) (h2:Sl w (.slice A2 ys.length c2) ys):Calls Tryz.prog 63 #[.slice A1 xs.length c1,.slice A2 ys.length c2] w fun e w'=>e= .returned (.bool (decide (xs=ys)))/\Below w.heap.size w w':=by
 have b1:=bB h1
 refine enter Tryz.func63 rfl Tryz.ntmps63 rfl<|bU (fun h=>?_) (fun h=>?_)
 ·refine aj ?_
  intro w hw
  exact⟨aM (by simp;intro e;exact h (by simp[e])),hw.below⟩
 refine aj ?_
 refine dG (fun k:Nat=>k<=xs.length/\xs.take k=ys.take k) (fun k=>xs.length - k) (fun k=> [(0,.slice A1 xs.length c1),(1,.slice A2 ys.length c2),(5,.int .i64 (k:Int))]) (fun _=> []) 0 (by simp) ?_
 rintro k ⟨hk,ht⟩
 refine aL ?_
 refine gY rfl (fun h3=>?_) (fun h3=>?_)
 ·refine aj ?_
  refine bR [0,3,6,9,12,15,18,21,24] [] rfl<|aj ?_
  refine tE rfl (bX aW cG (.ro h1) (by omega) rfl rfl rfl) ?_
  refine tE rfl (dO (SF.int (.ro h1) (by omega)) rfl rfl dq)<|aj ?_
  refine tE rfl (bX aW cG (.ro h2) (by omega) rfl rfl rfl) ?_
  refine tE rfl (dO (SF.int (.ro h2) (by omega)) rfl rfl dq)<|bU (fun h4=>?_) (fun h4=>?_)
  ·refine aj ?_
   intro w hw
   exact⟨aM (by simp;intro e;exact h4 (by simp[e])),hw.below⟩
  refine aj ?_
  refine dw (k+1) (⟨by omega,F0 ht (by omega) (by omega) h4⟩) (by show _ - _<_ - _;omega)
 refine aj ?_
 intro w hw
 exact⟨aM (by rw[bg (by omega),bg (by omega)] at ht;simp[ht]),hw.below⟩
end
section
theorem J8 (A:Option Addr) (c:Nat) (l:List bd) (f:FuncId) (cap:Array Value) (p:bd->Bool) (w:World) (hs:Sl w (.slice A l.length c) l) (hcall:∀a w,(callFunc f a).run Tryz.prog w= .ok (.enter f a) w)
  (hf:∀w1,Below w.heap.size w w1->∀k,k<l.length->Calls Tryz.prog f ([Value.agg #[.int .i64 (bu l k).c,.int .i64 (bu l k).a]]++cap.toList).toArray w1 fun e w'=>e= .returned (.bool (p (bu l k)))/\Below w1.heap.size w1 w') :
  Calls Tryz.prog 251 #[.slice A l.length c,.func (.func f) #[] cap] w fun e w'=> ∃r:Int,decide (0<=r)=l.any p/\e= .returned (.int .i64 r)/\Cw w.heap.size w [] w':=by
 have b1:=bB hs
 refine enter Tryz.func251 rfl Tryz.ntmps251 rfl<|aj ?_
 refine dG (fun k:Nat=>k<=l.length/\(l.take k).any p=false) (fun k=>l.length - k) (fun k=> [(0,.slice A l.length c),(1,.func (.func f) #[] cap),(7,.int .i64 (l.length:Int)),(8,.int .i64 (k:Int))]) (fun _=> []) 0 (⟨bn _,rfl⟩) ?_
 rintro k hk'
 obtain⟨hk,hno⟩:k<=l.length/\(l.take k).any p=false:=hk'
 refine az (fun hlt=>?_) (fun hlt=>?_)
 ·have hkl:k<l.length:=by omega
  have hsn:=rT (p:=p) default hkl
  refine aj ?_
  refine dB (_) rfl ((.ro hs)) ?_
  refine iQ (cs:= [_,_]) rfl (SF.op (.ro hs) (by omega)) ?_
  refine oE (sC rfl rfl rfl hcall (fun w hw=>hf w hw.below k hkl)) (fun _ _=>aj ?_)
  refine cg rfl (fun hp=>?_) (fun hp=>?_)
  ·have hp:p (bu l k)=true:=hp
   refine aj ?_
   intro w hw
   refine⟨(k:Int),?_,rfl,hw⟩
   have h2:l.any p=true:=cV.2 ⟨_,uS hkl,hp⟩
   rw[h2]
   exact decide_eq_true (by omega)
  have hp:p (bu l k)=false:=hp
  refine aj ?_
  refine dw (k+1) ((by refine⟨by omega,?_⟩;rw[hsn,hno];exact hp)) (by show _ - _<_ - _;omega)
 obtain rfl:k=l.length:=by omega
 refine aj ?_
 intro w hw
 refine⟨-1,?_,rfl,hw⟩
 rw[aR] at hno
 rw[hno]
 rfl
theorem CZ (A:Option Addr) (c:Nat) (l:List bd) (f:FuncId) (cap:Array Value) (p:bd->Bool) (w:World) (hs:Sl w (.slice A l.length c) l) (hcall:∀a w,(callFunc f a).run Tryz.prog w= .ok (.enter f a) w)
  (hf:∀w1,Below w.heap.size w w1->∀k,k<l.length->Calls Tryz.prog f ([Value.agg #[.int .i64 (bu l k).c,.int .i64 (bu l k).a]]++cap.toList).toArray w1 fun e w'=>e= .returned (.bool (p (bu l k)))/\Below w1.heap.size w1 w') :
  Calls Tryz.prog 206 #[.slice A l.length c,.func (.func f) #[] cap] w fun e w'=>e= .returned (.bool (l.any p))/\Below w.heap.size w w':=by
 refine enter Tryz.func206 rfl Tryz.ntmps206 rfl<|aj ?_
 refine eQ rfl Tryz.call251 (fun w hw=>J8 A c l f cap p w (hw.ro hs) hcall (fun w1 h1=>hf w1 (hw.below.trans (h1.mono hw.le)))) (fun r hr=>aj ?_)
 intro w hw
 exact⟨aM hr,hw.below⟩
def Qv (l:List bd):Int:=if dF l=0 then (if l.length=0 then 5 else 0) else dF l
def Rx (l:List bd) (i:Nat):Int:=if Qv l=0 then (if (l.take i).any (KY l.length) then 3 else 0) else Qv l
end
section
theorem xE (n:Int):aD (iy n):=by unfold iy aD;omega
theorem CR (b:UInt8) (r:List UInt8):aD (bh b r).1.c/\aD (bh b r).1.a:=by
 have hb:=b.toNat_lt
 have h0:aD (b.toNat:Int):=by unfold aD;omega
 have h1:aD 0:=by unfold aD;omega
 unfold bh
 split
 ·exact⟨h0,h1⟩
 split
 ·exact⟨h0,h1⟩
 refine⟨h0,?_⟩
 dsimp only
 split
 ·exact xE _
 exact h1
theorem BN (k:Nat):∀(r:List UInt8) (out:List bd),(∀o∈out,aD o.c/\aD o.a)->out.length<=40->(∀o∈(bO k r out).1,aD o.c/\aD o.a)/\(bO k r out).1.length<=40:=by
 induction k with
 | zero=>intro r out h h40;cases r <;> simp[bO] <;> first | exact⟨h,h40⟩ | skip
 | succ k ih=>
  intro r out h h40
  cases r with
  | nil=>simpa [bO] using ⟨h,h40⟩
  | cons b r=>
   simp only[bO]
   split
   ·simp
   split
   ·simp
   rename_i h41
   refine ih _ _ (fun o ho=>?_) (by simp at h41⊢;omega)
   rcases cD.1 ho with ho | ho
   ·exact h o ho
   simp at ho;subst ho;exact CR b r
theorem gX (l:List UInt8):(∀o∈(be l).1,aD o.c/\aD o.a)/\(be l).1.length<=40:=BN _ _ _ (by simp) (by simp)
theorem DQ {W:World} {base:Nat} {v:Value} {xs:List bd} (h:W.ownsRow base 86 2 v xs.length (xs.flatMap fX)) (hi:∀o∈xs,aD o.c/\aD o.a) (hl:xs.length<=40):Sl W v xs:=
 OU fX h (fun o ho=>⟨rfl,hi o ho⟩) (by omega)
theorem Fc (l:List UInt8) (w:World) (hl:l.length<=140737488355320):Calls Tryz.prog 41 #[.string ⟨l.toArray⟩] w fun e w'=>
  ∃v,e= .returned (.tuple #[v,.int .i64 (be l).2])/\Below w.heap.size w w'/\Sl w' v (be l).1/\w'.ownsRow w.heap.size 86 2 v (be l).1.length ((be l).1.flatMap fX):=
 (callsIn_wide.1 (H0 l w hl)).mono fun e w' ⟨v,h1,h2,h3⟩=>⟨v,h1,h2,DQ h3 (gX l).1 (gX l).2,uQ h3 (by omega)⟩
theorem PV (l:List UInt8) (w:World) (hl:l.length<=140737488355320):Calls Tryz.prog 144 #[.string ⟨l.toArray⟩] w fun e w'=>
  ∃v,e= .returned (.tuple #[v,.int .i64 (be l).2])/\Below w.heap.size w w'/\Sl w' v (be l).1/\w'.ownsRow w.heap.size 86 2 v (be l).1.length ((be l).1.flatMap fX):=
 (CF l w hl).mono fun _ _ ⟨v,h1,h2,h3⟩=>⟨v,h1,h2,DQ h3 (gX l).1 (gX l).2,h3⟩
theorem JM {α:Type} [bP α] {W:World} {base:Nat} {v:Value} {xs:List α} (h:W.ownsRow base (Ow.ty α) (ay.k α) v xs.length (xs.flatMap bP.enc)) (hwf:∀x∈xs,bP.wf x) (hl:xs.length<=140737488355328):eh W base v xs:=by
 have hlen:∀x∈xs,(bP.enc x).length=ay.k α:=fun x hx=>ay.len (bP.rep_iff.2 ⟨rfl,hwf x hx⟩:ay.rep W 0 (bP.enc x) x)
 refine eh.of_zs h h.1 (fun i x hx=>?_) hl
 have hxm:=eJ hx
 refine bP.own_iff.2 ⟨⟨?_,hwf x hxm⟩,fun _ h=>h⟩
 apply ef
 intro j
 by_cases hj:j<ay.k α
 ·have hi:j<(bP.enc x).length:=by rw[hlen x hxm];exact hj
  have:=lG bP.enc (ay.k α) xs hlen i x j _ hx (an hi)
  rw[da,if_pos hj,cE,this,an hi]
 rw[aU (by rw[ax];omega),aU (by rw[hlen x hxm];omega)]
theorem Fb (l:List UInt8) (w:World) (hl:l.length<=140737488355320):Calls Tryz.prog 41 #[.string ⟨l.toArray⟩] w fun e w'=>
  ∃v,e= .returned (.tuple #[v,.int .i64 (be l).2])/\Below w.heap.size w w'/\eh w' w.heap.size v (be l).1:=
 (Fc l w hl).mono fun e w' ⟨v,h1,h2,_,h3⟩=>⟨v,h1,h2,JM h3 (gX l).1 (by have:=(gX l).2;omega)⟩
end
section
def P9:List bd:= [⟨1,3⟩,⟨3,0⟩,⟨20,0⟩,⟨1,1⟩,⟨6,0⟩,⟨3,0⟩,⟨11,8⟩,⟨10,1⟩,⟨2,0⟩,⟨13,0⟩]
end
