/- Texts of one proof, one behind the other: lemmas alone. -/
import Derived.Test.YthfkmcbblnbfaaaGreatDoorM0U
import Derived.Test.YthfkmcbblnbfaaaGreatDoorM18U
import Derived.Test.YthfkmcbblnbfaaaGreatDoorM14U
import Derived.Test.YthfkmcbblnbfaaaGreatDoorM5U
import Derived.Test.YthfkmcbblnbfaaaGreatDoorM24U

namespace Go.Proofs.YthfkmcbblnbfaaaGreatDoor
set_option maxRecDepth 100000
set_option maxHeartbeats 16000000
open Go.RowKit
section
theorem dz {a b:Int} (h:a=b):Ending.returned (.int .i64 a)= .returned (.int .i64 b):=by rw[h]
instance:Ow aW where
 ty:=86
 own _ F cs o:=(cs= [.int .i64 o.c,.int .i64 o.a]/\aI o.c/\aI o.a)/\∀b,¬F b
 rd_ h:=h.1
 lt h hb:=(h.2 _ hb).elim
 frame h _:=h
 cong h hf:=⟨h.1,fun b hb=>h.2 b ((hf b).2 hb)⟩
instance:bA aW where
 enc o:= [.int .i64 o.c,.int .i64 o.a]
 wf o:=aI o.c/\aI o.a
 rep_iff:=iK
 own_iff:=iK
instance:ju aW:=⟨77⟩
theorem dA:(Tryz.prog.info? 3).map (fun i=>(i.zero,i.size,i.bytes))=some (some (.int .i64 0),1,8):=by kernel_rfl
theorem ph:(Tryz.prog.info? 4).map (fun i=>(i.zero,i.size,i.bytes))=some (some (.bool false),1,1):=by kernel_rfl
theorem jE {a:Int} (h:aI a):∀x∈[a],aI x:=by intro x hx;rw[dd.1 hx];exact h
theorem jA {a b:Int} (h:aI a) (h2:aI b):∀x∈[a,b],aI x:=by
 intro x hx
 rcases cc.1 hx with hx | hx
 ·rw[hx];exact h
 rw[dd.1 hx];exact h2
section
variable {P:Program} {n:NF} {o:Oper} {env:aZ} {B:Nat} {w0:World} {H H':List ar}
def aK (l:List aW) (k:Nat):aW:=l.getD k default
theorem SF.op {A:Option Addr} {xs:List aW} {m c k:Nat} (hs:SF B w0 H A m c xs) (hk:k<m):∀w,Cw B w0 H w->∀j v,([.int .i64 (aK xs k).c,.int .i64 (aK xs k).a]:List Value)[j]? =some v->w.cell? ⟨ab A,ao A+k*2+j,none⟩=some v:=
 fun w hw _ _ hj=>SF.cell hs hk default hj w hw
theorem SF.opc {A:Option Addr} {xs:List aW} {m c k:Nat} (hs:SF B w0 H A m c xs) (hk:k<m):∀w,Cw B w0 H w->w.cell? ⟨ab A,ao A+k*2+0,none⟩=some (.int .i64 (aK xs k).c):=fun w hw=>SF.op hs hk w hw 0 _ rfl
theorem SF.opa {A:Option Addr} {xs:List aW} {m c k:Nat} (hs:SF B w0 H A m c xs) (hk:k<m):∀w,Cw B w0 H w->w.cell? ⟨ab A,ao A+k*2+1,none⟩=some (.int .i64 (aK xs k).a):=fun w hw=>SF.op hs hk w hw 1 _ rfl
theorem SF.bool {A:Option Addr} {xs:List Bool} {m c k:Nat} (hs:SF B w0 H A m c xs) (hk:k<m):∀w,Cw B w0 H w->w.cell? ⟨ab A,ao A+k*1,none⟩=some (.bool (xs.getD k false)):=fun w hw=>SF.cell hs hk false (j:=0) rfl w hw
theorem yq {w:World} {B:Nat} {A:Option Addr} {xs:List aW} {m c k:Nat} (h:aT w B (.slice A m c) xs) (hk:k<m):aI (aK xs k).c/\aI (aK xs k).a:=by
 obtain⟨cs,hr,_⟩:=h.elr hk default
 exact hr.2
end
def BO (n:Nat) (o:aW):Bool:=(decide (o.c=10) || decide (o.c=11)) && (decide (o.a<0) || decide ((n:Int)<=o.a))
def pU (l:List aW):Int:=if df l=0 then (if l.length=0 then 5 else if l.any (BO l.length) then 3 else 0) else df l
def eA (o:aW) (pc to_:Int):Bool:=if o.c=13 then false else if o.c=10 then decide (to_=o.a) else if o.c=11 then decide (to_=pc+1) || decide (to_=o.a) else decide (to_=pc+1)
def cH (o:aW) (pc:Int):List Int:=if o.c=13 then [] else if o.c=10 then [o.a] else if o.c=11 then (if pc+1=o.a then [pc+1] else if o.a<pc+1 then [o.a,pc+1] else [pc+1,o.a]) else [pc+1]
def upto (n:Nat):List Int:=(List.range n).map fun i:Nat=>(i:Int)
def oc (l:List aW) (pc:Nat):List Int:=(upto (l.length+1)).filter (eA (aK l pc) pc)
def Gl (l:List aW) (to_:Int):List Int:=(upto l.length).filter fun i=>eA (aK l i.toNat) i to_
def F8 (l:List aW) (pc:Int):Int:=if pU l=0 then (if pc<0\/(l.length:Int)<=pc then 3 else 0) else pU l
def Gm (l:List aW) (pc:Int):Int:=if pU l=0 then (if pc<0\/(l.length:Int)<pc then 3 else 0) else pU l
def Ha (l:List aW) (pc:Int):List Int:=if F8 l pc=0 then oc l pc.toNat else []
def Hi (l:List aW) (pc:Int):List Int:=if Gm l pc=0 then Gl l pc else []
inductive nV (l:List aW) (p:Nat):Nat->Prop where
 | refl:nV l p p
 | step {q r:Nat} :nV l p q->q<l.length->eA (aK l q) q r=true->nV l p r
theorem nV.trans {l:List aW} {p q r:Nat} (h1:nV l p q) (h2:nV l q r):nV l p r:=by
 induction h2 with
 | refl=>exact h1
 | step _ h3 h4 ih=>exact .step ih h3 h4
abbrev G7 (l:List aW) (q:Nat):Prop:=nV l 0 q
noncomputable def rchB (l:List aW) (i:Int):Bool:= @decide (G7 l i.toNat) (Classical.propDecidable _)
noncomputable def reachL (l:List aW):List Int:=(upto (l.length+1)).filter (rchB l)
noncomputable def reachR (l:List aW):List Int:=if pU l=0 then reachL l else []
theorem xE (n:Nat):upto (n+1)=upto n++ [(n:Int)]:=by simp[upto,List.range_succ]
theorem zJ {n:Nat} {a:Int} :a∈upto n↔0<=a/\a<n:=by
 simp only[upto,i7,fe]
 constructor
 ·rintro⟨i,h,rfl⟩;omega
 intro h;exact⟨a.toNat,by omega,by omega⟩
theorem uC (n:Nat):(upto n).Pairwise (· < ·):=by
 unfold upto
 rw[List.pairwise_map]
 exact List.pairwise_lt_range.imp (by intro a b h;omega)
theorem zK (n:Nat):(upto n).length=n:=by simp[upto]
theorem oJ (p:Int->Bool) (n:Nat):(upto (n+1)).filter p=(upto n).filter p++(if p n then [(n:Int)] else []):=by
 rw[xE,List.filter_append]
 congr 1
 by_cases h:p n=true <;> simp[h]
theorem w7 {p:Int->Bool} {n:Nat} (h:p n=true):(upto (n+1)).filter p=(upto n).filter p++ [(n:Int)]:=by rw[oJ,if_pos h]
theorem yT {p:Int->Bool} {n:Nat} (h:¬p n=true):(upto (n+1)).filter p=(upto n).filter p:=by rw[oJ,if_neg h,fD]
theorem w8 (p:Int->Bool) (n:Nat):((upto n).filter p).length<=n:=by
 have:=List.length_filter_le p (upto n)
 rw[zK] at this
 exact this
theorem lP:∀{xs ys:List Int},xs.Pairwise (· < ·)->ys.Pairwise (· < ·)->(∀a,a∈xs↔a∈ys)->xs=ys
 | [],[],_,_,_=>rfl
 | [],y::ys,_,_,h=>by have:=(h y).2 (by simp);simp at this
 | x::xs,[],_,_,h=>by have:=(h x).1 (by simp);simp at this
 | x::xs,y::ys,hx,hy,h=>by
  rw[List.pairwise_cons] at hx hy
  have e:x=y:=by
   have h1:=(h x).1 (by simp)
   have h2:=(h y).2 (by simp)
   rw[cc] at h1 h2
   rcases h1 with h1 | h1
   ·exact h1
   rcases h2 with h2 | h2
   ·exact h2.symm
   have a1:=hx.1 y h2
   have a2:=hy.1 x h1
   omega
  subst e
  congr 1
  refine lP hx.2 hy.2 fun a=>?_
  have h1:=h a
  rw[cc,cc] at h1
  constructor
  ·intro ha
   rcases h1.1 (.inr ha) with e | h2
   ·have:=hx.1 a ha;omega
   exact h2
  intro ha
  rcases h1.2 (.inr ha) with e | h2
  ·have:=hy.1 a ha;omega
  exact h2
theorem lX (o:aW) (pc a:Int):a∈cH o pc↔eA o pc a=true:=by
 unfold cH eA
 split
 ·simp
 split
 ·simp
 split
 ·split
  ·rename_i h;simp;omega
  split
  ·simp;omega
  simp
 simp
theorem nQ (o:aW) (pc:Int):(cH o pc).Pairwise (· < ·):=by
 unfold cH
 split
 ·simp
 split
 ·simp
 split
 ·split
  ·simp
  split
  ·simp;omega
  simp;omega
 simp
theorem mI {l:List aW} {k:Nat} (h:k<l.length):aK l k∈l:=by
 unfold aK
 rw[ac,ae h]
 exact cL h
theorem jk {α:Type} {p:α->Bool} {l:List α} {k:Nat} (d:α) (hk:k<l.length):(l.take (k+1)).any p=((l.take k).any p || p (l.getD k d)):=by
 rw[List.take_add_one,ae hk,ac,ae hk,List.any_append]
 simp
theorem xI {xs ys:List Int} {k:Nat} (h:xs.take k=ys.take k) (hx:k<xs.length) (hy:k<ys.length) (he:xs.getD k 0=ys.getD k 0):xs.take (k+1)=ys.take (k+1):=by
 rw[dM hx,dM hy,h]
 rw[ac,ae hx,ac,ae hy] at he
 simp only[lK] at he
 rw[he]
theorem mB (A1 A2:Option Addr) (c1 c2:Nat) (xs ys:List Int) (w:World) (h1:Sl w (.slice A1 xs.length c1) xs) (h2:Sl w (.slice A2 ys.length c2) ys):Calls Tryz.prog 63 #[.slice A1 xs.length c1,.slice A2 ys.length c2] w fun e w'=>e= .returned (.bool (decide (xs=ys)))/\Below w.heap.size w w':=by
 have b1:=be h1
 refine enter Tryz.func63 rfl Tryz.ntmps63 rfl<|cq (fun h=>?_) (fun h=>?_)
 ·refine aa ?_
  intro w hw
  exact⟨aS (by simp;intro e;exact h (by simp[e])),hw.below⟩
 refine aa ?_
 refine cN (fun k:Nat=>k<=xs.length/\xs.take k=ys.take k) (fun k=>xs.length - k) (fun k=> [(0,.slice A1 xs.length c1),(1,.slice A2 ys.length c2),(5,.int .i64 (k:Int))]) (fun _=> []) 0 (by simp) ?_
 rintro k ⟨hk,ht⟩
 refine a7 ?_
 refine ec rfl (fun h3=>?_) (fun h3=>?_)
 ·refine aa ?_
  refine bF [0,3,6,9,12,15,18,21,24] [] rfl<|aa ?_
  refine tE rfl (bt ap bJ (.ro h1) (by omega) rfl rfl rfl) ?_
  refine tE rfl (bT (SF.int (.ro h1) (by omega)) rfl rfl bd)<|aa ?_
  refine tE rfl (bt ap bJ (.ro h2) (by omega) rfl rfl rfl) ?_
  refine tE rfl (bT (SF.int (.ro h2) (by omega)) rfl rfl bd)<|cq (fun h4=>?_) (fun h4=>?_)
  ·refine aa ?_
   intro w hw
   exact⟨aS (by simp;intro e;exact h4 (by simp[e])),hw.below⟩
  refine aa ?_
  refine bN (k+1) (⟨by omega,xI ht (by omega) (by omega) h4⟩) (by show _ - _<_ - _;omega)
 refine aa ?_
 intro w hw
 exact⟨aS (by rw[a6 (by omega),a6 (by omega)] at ht;simp[ht]),hw.below⟩
end
section
theorem AW (A:Option Addr) (c:Nat) (l:List aW) (f:FuncId) (cap:Array Value) (p:aW->Bool) (w:World) (hs:Sl w (.slice A l.length c) l) (hcall:∀a w,(callFunc f a).run Tryz.prog w= .ok (.enter f a) w)
  (hf:∀w1,Below w.heap.size w w1->∀k,k<l.length->Calls Tryz.prog f ([Value.agg #[.int .i64 (aK l k).c,.int .i64 (aK l k).a]]++cap.toList).toArray w1 fun e w'=>e= .returned (.bool (p (aK l k)))/\Below w1.heap.size w1 w') :
  Calls Tryz.prog 251 #[.slice A l.length c,.func (.func f) #[] cap] w fun e w'=> ∃r:Int,decide (0<=r)=l.any p/\e= .returned (.int .i64 r)/\Cw w.heap.size w [] w':=by
 have b1:=be hs
 refine enter Tryz.func251 rfl Tryz.ntmps251 rfl<|aa ?_
 refine cN (fun k:Nat=>k<=l.length/\(l.take k).any p=false) (fun k=>l.length - k) (fun k=> [(0,.slice A l.length c),(1,.func (.func f) #[] cap),(7,.int .i64 (l.length:Int)),(8,.int .i64 (k:Int))]) (fun _=> []) 0 (⟨aC _,rfl⟩) ?_
 rintro k hk'
 obtain⟨hk,hno⟩:k<=l.length/\(l.take k).any p=false:=hk'
 refine ak (fun hlt=>?_) (fun hlt=>?_)
 ·have hkl:k<l.length:=by omega
  have hsn:=jk (p:=p) default hkl
  refine aa ?_
  refine cQ (_) rfl ((.ro hs)) ?_
  refine iW (cs:= [_,_]) rfl (SF.op (.ro hs) (by omega)) ?_
  refine oE (pC rfl rfl rfl hcall (fun w hw=>hf w hw.below k hkl)) (fun _ _=>aa ?_)
  refine aO rfl (fun hp=>?_) (fun hp=>?_)
  ·have hp:p (aK l k)=true:=hp
   refine aa ?_
   intro w hw
   refine⟨(k:Int),?_,rfl,hw⟩
   have h2:l.any p=true:=cM.2 ⟨_,mI hkl,hp⟩
   rw[h2]
   exact decide_eq_true (by omega)
  have hp:p (aK l k)=false:=hp
  refine aa ?_
  refine bN (k+1) ((by refine⟨by omega,?_⟩;rw[hsn,hno];exact hp)) (by show _ - _<_ - _;omega)
 obtain rfl:k=l.length:=by omega
 refine aa ?_
 intro w hw
 refine⟨-1,?_,rfl,hw⟩
 rw[bh] at hno
 rw[hno]
 rfl
theorem uW (A:Option Addr) (c:Nat) (l:List aW) (f:FuncId) (cap:Array Value) (p:aW->Bool) (w:World) (hs:Sl w (.slice A l.length c) l) (hcall:∀a w,(callFunc f a).run Tryz.prog w= .ok (.enter f a) w)
  (hf:∀w1,Below w.heap.size w w1->∀k,k<l.length->Calls Tryz.prog f ([Value.agg #[.int .i64 (aK l k).c,.int .i64 (aK l k).a]]++cap.toList).toArray w1 fun e w'=>e= .returned (.bool (p (aK l k)))/\Below w1.heap.size w1 w') :
  Calls Tryz.prog 206 #[.slice A l.length c,.func (.func f) #[] cap] w fun e w'=>e= .returned (.bool (l.any p))/\Below w.heap.size w w':=by
 refine enter Tryz.func206 rfl Tryz.ntmps206 rfl<|aa ?_
 refine fE rfl Tryz.call251 (fun w hw=>AW A c l f cap p w (hw.ro hs) hcall (fun w1 h1=>hf w1 (hw.below.trans (h1.mono hw.le)))) (fun r hr=>aa ?_)
 intro w hw
 exact⟨aS hr,hw.below⟩
def Gv (l:List aW):Int:=if df l=0 then (if l.length=0 then 5 else 0) else df l
def HE (l:List aW) (i:Nat):Int:=if Gv l=0 then (if (l.take i).any (BO l.length) then 3 else 0) else Gv l
end
section
theorem qT (n:Int):aI (gt n):=by unfold gt aI;omega
theorem uR (b:UInt8) (r:List UInt8):aI (aF b r).1.c/\aI (aF b r).1.a:=by
 have hb:=b.toNat_lt
 have h0:aI (b.toNat:Int):=by unfold aI;omega
 have h1:aI 0:=by unfold aI;omega
 unfold aF
 split
 ·exact⟨h0,h1⟩
 split
 ·exact⟨h0,h1⟩
 refine⟨h0,?_⟩
 dsimp only
 split
 ·exact qT _
 exact h1
theorem tZ (k:Nat):∀(r:List UInt8) (out:List aW),(∀o∈out,aI o.c/\aI o.a)->out.length<=40->(∀o∈(bn k r out).1,aI o.c/\aI o.a)/\(bn k r out).1.length<=40:=by
 induction k with
 | zero=>intro r out h h40;cases r <;> simp[bn] <;> first | exact⟨h,h40⟩ | skip
 | succ k ih=>
  intro r out h h40
  cases r with
  | nil=>simpa [bn] using ⟨h,h40⟩
  | cons b r=>
   simp only[bn]
   split
   ·simp
   split
   ·simp
   rename_i h41
   refine ih _ _ (fun o ho=>?_) (by simp at h41⊢;omega)
   rcases cS.1 ho with ho | ho
   ·exact h o ho
   simp at ho;subst ho;exact uR b r
theorem fu (l:List UInt8):(∀o∈(aE l).1,aI o.c/\aI o.a)/\(aE l).1.length<=40:=tZ _ _ _ (by simp) (by simp)
theorem vO {W:World} {base:Nat} {v:Value} {xs:List aW} (h:W.ownsRow base 86 2 v xs.length (xs.flatMap eG)) (hi:∀o∈xs,aI o.c/\aI o.a) (hl:xs.length<=40):Sl W v xs:=
 EP eG h (fun o ho=>⟨rfl,hi o ho⟩) (by omega)
theorem xc (l:List UInt8) (w:World) (hl:l.length<=140737488355320):Calls Tryz.prog 41 #[.string ⟨l.toArray⟩] w fun e w'=>
  ∃v,e= .returned (.tuple #[v,.int .i64 (aE l).2])/\Below w.heap.size w w'/\Sl w' v (aE l).1/\w'.ownsRow w.heap.size 86 2 v (aE l).1.length ((aE l).1.flatMap eG):=
 (callsIn_wide.1 (y6 l w hl)).mono fun e w' ⟨v,h1,h2,h3⟩=>⟨v,h1,h2,vO h3 (fu l).1 (fu l).2,o7 h3 (by omega)⟩
theorem FT (l:List UInt8) (w:World) (hl:l.length<=140737488355320):Calls Tryz.prog 144 #[.string ⟨l.toArray⟩] w fun e w'=>
  ∃v,e= .returned (.tuple #[v,.int .i64 (aE l).2])/\Below w.heap.size w w'/\Sl w' v (aE l).1/\w'.ownsRow w.heap.size 86 2 v (aE l).1.length ((aE l).1.flatMap eG):=
 (uG l w hl).mono fun _ _ ⟨v,h1,h2,h3⟩=>⟨v,h1,h2,vO h3 (fu l).1 (fu l).2,h3⟩
theorem AE {α:Type} [bA α] {W:World} {base:Nat} {v:Value} {xs:List α} (h:W.ownsRow base (Ow.ty α) (am.k α) v xs.length (xs.flatMap bA.enc)) (hwf:∀x∈xs,bA.wf x) (hl:xs.length<=140737488355328):dx W base v xs:=by
 have hlen:∀x∈xs,(bA.enc x).length=am.k α:=fun x hx=>am.len (bA.rep_iff.2 ⟨rfl,hwf x hx⟩:am.rep W 0 (bA.enc x) x)
 refine dx.of_zs h h.1 (fun i x hx=>?_) hl
 have hxm:=cJ hx
 refine bA.own_iff.2 ⟨⟨?_,hwf x hxm⟩,fun _ h=>h⟩
 apply dT
 intro j
 by_cases hj:j<am.k α
 ·have hi:j<(bA.enc x).length:=by rw[hlen x hxm];exact hj
  have:=js bA.enc (am.k α) xs hlen i x j _ hx (ae hi)
  rw[cB,if_pos hj,bM,this,ae hi]
 rw[aM (by rw[an];omega),aM (by rw[hlen x hxm];omega)]
theorem xb (l:List UInt8) (w:World) (hl:l.length<=140737488355320):Calls Tryz.prog 41 #[.string ⟨l.toArray⟩] w fun e w'=>
  ∃v,e= .returned (.tuple #[v,.int .i64 (aE l).2])/\Below w.heap.size w w'/\dx w' w.heap.size v (aE l).1:=
 (xc l w hl).mono fun e w' ⟨v,h1,h2,_,h3⟩=>⟨v,h1,h2,AE h3 (fu l).1 (by have:=(fu l).2;omega)⟩
end
end Go.Proofs.YthfkmcbblnbfaaaGreatDoor
