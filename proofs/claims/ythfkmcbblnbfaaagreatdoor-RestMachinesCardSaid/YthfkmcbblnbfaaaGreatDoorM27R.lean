/- Lemmas of one proof. -/
import Derived.Test.YthfkmcbblnbfaaaGreatDoorM0R
import Derived.Test.YthfkmcbblnbfaaaGreatDoorM19R
import Derived.Test.YthfkmcbblnbfaaaGreatDoorM25R

namespace Go.Proofs.YthfkmcbblnbfaaaGreatDoor
set_option maxRecDepth 100000
set_option maxHeartbeats 16000000
open Go.RowKit
section
theorem fD {a b:Int} (h:a=b):Ending.returned (.int .i64 a)= .returned (.int .i64 b):=by rw[h]
instance:Ow bC where
 ty:=86
 own _ F cs o:=(cs= [.int .i64 o.c,.int .i64 o.a]/\aH o.c/\aH o.a)/\∀b,¬F b
 rd_ h:=h.1
 lt h hb:=(h.2 _ hb).elim
 frame h _:=h
 cong h hf:=⟨h.1,fun b hb=>h.2 b ((hf b).2 hb)⟩
instance:cF bC where
 enc o:= [.int .i64 o.c,.int .i64 o.a]
 wf o:=aH o.c/\aH o.a
 rep_iff:=jY
 own_iff:=jY
instance:js bC:=⟨77⟩
theorem cO:(Tryz.prog.info? 3).map (fun i=>(i.zero,i.size,i.bytes))=some (some (.int .i64 0),1,8):=by kernel_rfl
theorem wK:(Tryz.prog.info? 4).map (fun i=>(i.zero,i.size,i.bytes))=some (some (.bool false),1,1):=by kernel_rfl
theorem fT {a:Int} (h:aH a):∀x∈[a],aH x:=by intro x hx;rw[cB.1 hx];exact h
theorem io {a b:Int} (h:aH a) (h2:aH b):∀x∈[a,b],aH x:=by
 intro x hx
 rcases dC.1 hx with hx | hx
 ·rw[hx];exact h
 rw[cB.1 hx];exact h2
section
variable {P:Program} {n:NF} {o:Oper} {env:cy} {B:Nat} {w0:World} {H H':List aJ}
def bx (l:List bC) (k:Nat):bC:=l.getD k default
theorem SF.op {A:Option Addr} {xs:List bC} {m c k:Nat} (hs:SF B w0 H A m c xs) (hk:k<m):∀w,Cw B w0 H w->∀j v,([.int .i64 (bx xs k).c,.int .i64 (bx xs k).a]:List Value)[j]? =some v->w.cell? ⟨ab A,ao A+k*2+j,none⟩=some v:=
 fun w hw _ _ hj=>SF.cell hs hk default hj w hw
theorem SF.opc {A:Option Addr} {xs:List bC} {m c k:Nat} (hs:SF B w0 H A m c xs) (hk:k<m):∀w,Cw B w0 H w->w.cell? ⟨ab A,ao A+k*2+0,none⟩=some (.int .i64 (bx xs k).c):=fun w hw=>SF.op hs hk w hw 0 _ rfl
theorem SF.opa {A:Option Addr} {xs:List bC} {m c k:Nat} (hs:SF B w0 H A m c xs) (hk:k<m):∀w,Cw B w0 H w->w.cell? ⟨ab A,ao A+k*2+1,none⟩=some (.int .i64 (bx xs k).a):=fun w hw=>SF.op hs hk w hw 1 _ rfl
theorem SF.bool {A:Option Addr} {xs:List Bool} {m c k:Nat} (hs:SF B w0 H A m c xs) (hk:k<m):∀w,Cw B w0 H w->w.cell? ⟨ab A,ao A+k*1,none⟩=some (.bool (xs.getD k false)):=fun w hw=>SF.cell hs hk false (j:=0) rfl w hw
theorem Cl {w:World} {B:Nat} {A:Option Addr} {xs:List bC} {m c k:Nat} (h:bJ w B (.slice A m c) xs) (hk:k<m):aH (bx xs k).c/\aH (bx xs k).a:=by
 obtain⟨cs,hr,_⟩:=h.elr hk default
 exact hr.2
end
def Lz (n:Nat) (o:bC):Bool:=(decide (o.c=10) || decide (o.c=11)) && (decide (o.a<0) || decide ((n:Int)<=o.a))
def xU (l:List bC):Int:=if ei l=0 then (if l.length=0 then 5 else if l.any (Lz l.length) then 3 else 0) else ei l
def gW (o:bC) (pc to_:Int):Bool:=if o.c=13 then false else if o.c=10 then decide (to_=o.a) else if o.c=11 then decide (to_=pc+1) || decide (to_=o.a) else decide (to_=pc+1)
def dy (o:bC) (pc:Int):List Int:=if o.c=13 then [] else if o.c=10 then [o.a] else if o.c=11 then (if pc+1=o.a then [pc+1] else if o.a<pc+1 then [o.a,pc+1] else [pc+1,o.a]) else [pc+1]
def jl (n:Nat):List Int:=(List.range n).map fun i:Nat=>(i:Int)
def uS (l:List bC) (pc:Nat):List Int:=(jl (l.length+1)).filter (gW (bx l pc) pc)
inductive uH (l:List bC) (p:Nat):Nat->Prop where
 | refl:uH l p p
 | step {q r:Nat} :uH l p q->q<l.length->gW (bx l q) q r=true->uH l p r
theorem uH.trans {l:List bC} {p q r:Nat} (h1:uH l p q) (h2:uH l q r):uH l p r:=by
 induction h2 with
 | refl=>exact h1
 | step _ h3 h4 ih=>exact .step ih h3 h4
abbrev Rk (l:List bC) (q:Nat):Prop:=uH l 0 q
noncomputable def rchB (l:List bC) (i:Int):Bool:= @decide (Rk l i.toNat) (Classical.propDecidable _)
noncomputable def reachL (l:List bC):List Int:=(jl (l.length+1)).filter (rchB l)
noncomputable def reachR (l:List bC):List Int:=if xU l=0 then reachL l else []
theorem GZ (n:Nat):jl (n+1)=jl n++ [(n:Int)]:=by simp[jl,List.range_succ]
theorem JG {n:Nat} {a:Int} :a∈jl n↔0<=a/\a<n:=by
 simp only[jl,lm,kV]
 constructor
 ·rintro⟨i,h,rfl⟩;omega
 intro h;exact⟨a.toNat,by omega,by omega⟩
theorem Dz (n:Nat):(jl n).Pairwise (· < ·):=by
 unfold jl
 rw[List.pairwise_map]
 exact List.pairwise_lt_range.imp (by intro a b h;omega)
theorem JH (n:Nat):(jl n).length=n:=by simp[jl]
theorem vD (p:Int->Bool) (n:Nat):(jl (n+1)).filter p=(jl n).filter p++(if p n then [(n:Int)] else []):=by
 rw[GZ,List.filter_append]
 congr 1
 by_cases h:p n=true <;> simp[h]
theorem Gj {p:Int->Bool} {n:Nat} (h:p n=true):(jl (n+1)).filter p=(jl n).filter p++ [(n:Int)]:=by rw[vD,if_pos h]
theorem ID {p:Int->Bool} {n:Nat} (h:¬p n=true):(jl (n+1)).filter p=(jl n).filter p:=by rw[vD,if_neg h,eu]
theorem Gk (p:Int->Bool) (n:Nat):((jl n).filter p).length<=n:=by
 have:=List.length_filter_le p (jl n)
 rw[JH] at this
 exact this
theorem qC:∀{xs ys:List Int},xs.Pairwise (· < ·)->ys.Pairwise (· < ·)->(∀a,a∈xs↔a∈ys)->xs=ys
 | [],[],_,_,_=>rfl
 | [],y::ys,_,_,h=>by have:=(h y).2 (by simp);simp at this
 | x::xs,[],_,_,h=>by have:=(h x).1 (by simp);simp at this
 | x::xs,y::ys,hx,hy,h=>by
  rw[List.pairwise_cons] at hx hy
  have e:x=y:=by
   have h1:=(h x).1 (by simp)
   have h2:=(h y).2 (by simp)
   rw[dC] at h1 h2
   rcases h1 with h1 | h1
   ·exact h1
   rcases h2 with h2 | h2
   ·exact h2.symm
   have a1:=hx.1 y h2
   have a2:=hy.1 x h1
   omega
  subst e
  congr 1
  refine qC hx.2 hy.2 fun a=>?_
  have h1:=h a
  rw[dC,dC] at h1
  constructor
  ·intro ha
   rcases h1.1 (.inr ha) with e | h2
   ·have:=hx.1 a ha;omega
   exact h2
  intro ha
  rcases h1.2 (.inr ha) with e | h2
  ·have:=hy.1 a ha;omega
  exact h2
theorem qK (o:bC) (pc a:Int):a∈dy o pc↔gW o pc a=true:=by
 unfold dy gW
 split
 ·simp
 split
 ·simp
 split
 ·split
  ·rename_i h;simp;omega
  split
  ·simp;omega
  simp
 simp
theorem uA (o:bC) (pc:Int):(dy o pc).Pairwise (· < ·):=by
 unfold dy
 split
 ·simp
 split
 ·simp
 split
 ·split
  ·simp
  split
  ·simp;omega
  simp;omega
 simp
theorem sr {l:List bC} {k:Nat} (h:k<l.length):bx l k∈l:=by
 unfold bx
 rw[an,ap h]
 exact da h
theorem mF {α:Type} {p:α->Bool} {l:List α} {k:Nat} (d:α) (hk:k<l.length):(l.take (k+1)).any p=((l.take k).any p || p (l.getD k d)):=by
 rw[List.take_add_one,ap hk,an,ap hk,List.any_append]
 simp
theorem G4 {xs ys:List Int} {k:Nat} (h:xs.take k=ys.take k) (hx:k<xs.length) (hy:k<ys.length) (he:xs.getD k 0=ys.getD k 0):xs.take (k+1)=ys.take (k+1):=by
 rw[dh hx,dh hy,h]
 rw[an,ap hx,an,ap hy] at he
 simp only[qv] at he
 rw[he]
theorem is (A1 A2:Option Addr) (c1 c2:Nat) (xs ys:List Int) (w:World) (h1:Sl w (.slice A1 xs.length c1) xs) (h2:Sl w (.slice A2 ys.length c2) ys):Calls Tryz.prog 63 #[.slice A1 xs.length c1,.slice A2 ys.length c2] w fun e w'=>e= .returned (.bool (decide (xs=ys)))/\Below w.heap.size w w':=by
 have b1:=bE h1
 refine enter Tryz.func63 rfl Tryz.ntmps63 rfl<|cQ (fun h=>?_) (fun h=>?_)
 ·refine aj ?_
  intro w hw
  exact⟨aS (by simp;intro e;exact h (by simp[e])),hw.below⟩
 refine aj ?_
 refine dA (fun k:Nat=>k<=xs.length/\xs.take k=ys.take k) (fun k=>xs.length - k) (fun k=> [(0,.slice A1 xs.length c1),(1,.slice A2 ys.length c2),(5,.int .i64 (k:Int))]) (fun _=> []) 0 (by simp) ?_
 rintro k ⟨hk,ht⟩
 refine aO ?_
 refine eo rfl (fun h3=>?_) (fun h3=>?_)
 ·refine aj ?_
  refine bz [0,3,6,9,12,15,18,21,24] [] rfl<|aj ?_
  refine tE rfl (bg aw bj (.ro h1) (by omega) rfl rfl rfl) ?_
  refine tE rfl (bQ (SF.int (.ro h1) (by omega)) rfl rfl be)<|aj ?_
  refine tE rfl (bg aw bj (.ro h2) (by omega) rfl rfl rfl) ?_
  refine tE rfl (bQ (SF.int (.ro h2) (by omega)) rfl rfl be)<|cQ (fun h4=>?_) (fun h4=>?_)
  ·refine aj ?_
   intro w hw
   exact⟨aS (by simp;intro e;exact h4 (by simp[e])),hw.below⟩
  refine aj ?_
  refine cU (k+1) (⟨by omega,G4 ht (by omega) (by omega) h4⟩) (by show _ - _<_ - _;omega)
 refine aj ?_
 intro w hw
 exact⟨aS (by rw[bA (by omega),bA (by omega)] at ht;simp[ht]),hw.below⟩
end
section
theorem KG (A:Option Addr) (c:Nat) (l:List bC) (f:FuncId) (cap:Array Value) (p:bC->Bool) (w:World) (hs:Sl w (.slice A l.length c) l) (hcall:∀a w,(callFunc f a).run Tryz.prog w= .ok (.enter f a) w)
  (hf:∀w1,Below w.heap.size w w1->∀k,k<l.length->Calls Tryz.prog f ([Value.agg #[.int .i64 (bx l k).c,.int .i64 (bx l k).a]]++cap.toList).toArray w1 fun e w'=>e= .returned (.bool (p (bx l k)))/\Below w1.heap.size w1 w') :
  Calls Tryz.prog 251 #[.slice A l.length c,.func (.func f) #[] cap] w fun e w'=> ∃r:Int,decide (0<=r)=l.any p/\e= .returned (.int .i64 r)/\Cw w.heap.size w [] w':=by
 have b1:=bE hs
 refine enter Tryz.func251 rfl Tryz.ntmps251 rfl<|aj ?_
 refine dA (fun k:Nat=>k<=l.length/\(l.take k).any p=false) (fun k=>l.length - k) (fun k=> [(0,.slice A l.length c),(1,.func (.func f) #[] cap),(7,.int .i64 (l.length:Int)),(8,.int .i64 (k:Int))]) (fun _=> []) 0 (⟨aX _,rfl⟩) ?_
 rintro k hk'
 obtain⟨hk,hno⟩:k<=l.length/\(l.take k).any p=false:=hk'
 refine av (fun hlt=>?_) (fun hlt=>?_)
 ·have hkl:k<l.length:=by omega
  have hsn:=mF (p:=p) default hkl
  refine aj ?_
  refine cS (_) rfl ((.ro hs)) ?_
  refine iY (cs:= [_,_]) rfl (SF.op (.ro hs) (by omega)) ?_
  refine oE (ko rfl rfl rfl hcall (fun w hw=>hf w hw.below k hkl)) (fun _ _=>aj ?_)
  refine bT rfl (fun hp=>?_) (fun hp=>?_)
  ·have hp:p (bx l k)=true:=hp
   refine aj ?_
   intro w hw
   refine⟨(k:Int),?_,rfl,hw⟩
   have h2:l.any p=true:=cG.2 ⟨_,sr hkl,hp⟩
   rw[h2]
   exact decide_eq_true (by omega)
  have hp:p (bx l k)=false:=hp
  refine aj ?_
  refine cU (k+1) ((by refine⟨by omega,?_⟩;rw[hsn,hno];exact hp)) (by show _ - _<_ - _;omega)
 obtain rfl:k=l.length:=by omega
 refine aj ?_
 intro w hw
 refine⟨-1,?_,rfl,hw⟩
 rw[aT] at hno
 rw[hno]
 rfl
theorem D0 (A:Option Addr) (c:Nat) (l:List bC) (f:FuncId) (cap:Array Value) (p:bC->Bool) (w:World) (hs:Sl w (.slice A l.length c) l) (hcall:∀a w,(callFunc f a).run Tryz.prog w= .ok (.enter f a) w)
  (hf:∀w1,Below w.heap.size w w1->∀k,k<l.length->Calls Tryz.prog f ([Value.agg #[.int .i64 (bx l k).c,.int .i64 (bx l k).a]]++cap.toList).toArray w1 fun e w'=>e= .returned (.bool (p (bx l k)))/\Below w1.heap.size w1 w') :
  Calls Tryz.prog 206 #[.slice A l.length c,.func (.func f) #[] cap] w fun e w'=>e= .returned (.bool (l.any p))/\Below w.heap.size w w':=by
 refine enter Tryz.func206 rfl Tryz.ntmps206 rfl<|aj ?_
 refine eb rfl Tryz.call251 (fun w hw=>KG A c l f cap p w (hw.ro hs) hcall (fun w1 h1=>hf w1 (hw.below.trans (h1.mono hw.le)))) (fun r hr=>aj ?_)
 intro w hw
 exact⟨aS hr,hw.below⟩
end
section
theorem zo (n:Int):aH (jt n):=by unfold jt aH;omega
end
section
def xI:List bC:= [⟨1,3⟩,⟨3,0⟩,⟨20,0⟩,⟨1,1⟩,⟨6,0⟩,⟨3,0⟩,⟨11,8⟩,⟨10,1⟩,⟨2,0⟩,⟨13,0⟩]
theorem E2 (l:List bC) (h:(l.all fun o=>decide (aH o.c/\aH o.a))=true):∀o∈l,cF.wf o:=fun o ho=>by
 have:=of_decide_eq_true (qw.1 h o ho)
 exact this
theorem Kx (w:World):Calls Tryz.prog 92 #[] w fun e w'=> ∃g:Nat,True/\e= .returned (.slice (some ⟨g,0,none⟩) 10 10)/\Cw w.heap.size w [ak (.slice (some ⟨g,0,none⟩) 10 10) xI] w':=by
 refine enter Tryz.func92 rfl Tryz.ntmps92 rfl<|aj ?_
 refine fun g1 _=>aj ?_
 intro w hw
 replace hw:=(fun w h=>bt (α:=bC) (m:=10) xI rfl (E2 _ (by decide)) rfl (by decide) h) w hw
 exact⟨g1,trivial,rfl,hw⟩
end
