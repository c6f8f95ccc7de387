/- Lemmas of one proof. -/
import Derived.Test.YthfkmcbblnbfaaaGreatDoorM90E
import Derived.Test.YthfkmcbblnbfaaaGreatDoorM0E
import Derived.Test.YthfkmcbblnbfaaaGreatDoorM19E
import Derived.Test.YthfkmcbblnbfaaaGreatDoorM25E

namespace Go.Proofs.YthfkmcbblnbfaaaGreatDoor
set_option maxRecDepth 100000
set_option maxHeartbeats 16000000
open Go.RowKit
section
theorem fi {a b:Int} (h:a=b):Ending.returned (ai a)= .returned (ai b):=by rw[h]
instance:Ow bJ where
 ty:=86
 own _ F cs o:=(cs= [.int .i64 o.c,.int .i64 o.a]/\aI o.c/\aI o.a)/\∀b,¬F b
 rd_ h:=h.1
 lt h hb:=(h.2 _ hb).elim
 frame h _:=h
 cong h hf:=⟨h.1,fun b hb=>h.2 b ((hf b).2 hb)⟩
instance:dd bJ where
 enc o:= [.int .i64 o.c,.int .i64 o.a]
 wf o:=aI o.c/\aI o.a
 rep_iff:=kl
 own_iff:=kl
instance:jU bJ:=⟨77⟩
theorem cK:(Tryz.prog.info? 3).map (fun i=>(i.zero,i.size,i.bytes))=some (some (ai 0),1,8):=by kernel_rfl
theorem yU:(Tryz.prog.info? 4).map (fun i=>(i.zero,i.size,i.bytes))=some (some (.bool false),1,1):=by kernel_rfl
theorem ia {a:Int} (h:aI a):∀x∈[a],aI x:=by intro x b;rw[cL.1 b];exact h
theorem kB {a b:Int} (h:aI a) (h2:aI b):∀x∈[a,b],aI x:=by
 intro x c;rcases ec.1 c with c | c
 ·rw[c];exact h
 rw[cL.1 c];exact h2
section
variable {P:Program} {n:NF} {o:Oper} {env:cM} {B:Nat} {w0:World} {H H':List aP}
def bE (l:List bJ) (k:Nat):bJ:=l.getD k default
theorem SF.op {A:Option Addr} {xs:List bJ} {m c k:Nat} (d:SF B w0 H A m c xs) (b:k<m):∀w,Cw B w0 H w->∀j v,([ai (bE xs k).c,ai (bE xs k).a]:List Value)[j]? =some v->w.cell? ⟨ab A,ao A+k*2+j,none⟩=some v:=
 fun w e _ _ a=>SF.cell d b default a w e
theorem SF.opc {A:Option Addr} {xs:List bJ} {m c k:Nat} (b:SF B w0 H A m c xs) (a:k<m):∀w,Cw B w0 H w->w.cell? ⟨ab A,ao A+k*2+0,none⟩=some (ai (bE xs k).c):=fun w d=>SF.op b a w d 0 _ rfl
theorem SF.opa {A:Option Addr} {xs:List bJ} {m c k:Nat} (b:SF B w0 H A m c xs) (a:k<m):∀w,Cw B w0 H w->w.cell? ⟨ab A,ao A+k*2+1,none⟩=some (ai (bE xs k).a):=fun w d=>SF.op b a w d 1 _ rfl
theorem SF.bool {A:Option Addr} {xs:List Bool} {m c k:Nat} (hs:SF B w0 H A m c xs) (hk:k<m):∀w,Cw B w0 H w->w.cell? ⟨ab A,ao A+k*1,none⟩=some (.bool (xs.getD k false)):=fun w hw=>SF.cell hs hk false (j:=0) rfl w hw
theorem Eg {w:World} {B:Nat} {A:Option Addr} {xs:List bJ} {m c k:Nat} (h:bN w B (ac A m c) xs) (a:k<m):aI (bE xs k).c/\aI (bE xs k).a:=by
 obtain⟨d,b,_⟩:=h.elr a default;exact b.2
end
def OB (n:Nat) (o:bJ):Bool:=(decide (o.c=10) || decide (o.c=11)) && (decide (o.a<0) || decide ((n:Int)<=o.a))
def zT (l:List bJ):Int:=if eJ l=0 then (if l.length=0 then 5 else if l.any (OB l.length) then 3 else 0) else eJ l
def iN (o:bJ) (pc to_:Int):Bool:=if o.c=13 then false else if o.c=10 then decide (to_=o.a) else if o.c=11 then decide (to_=pc+1) || decide (to_=o.a) else decide (to_=pc+1)
def dT (o:bJ) (pc:Int):List Int:=if o.c=13 then [] else if o.c=10 then [o.a] else if o.c=11 then (if pc+1=o.a then [pc+1] else if o.a<pc+1 then [o.a,pc+1] else [pc+1,o.a]) else [pc+1]
def ke (n:Nat):List Int:=(List.range n).map fun i:Nat=>(i:Int)
def xg (l:List bJ) (pc:Nat):List Int:=(ke (l.length+1)).filter (iN (bE l pc) pc)
inductive wR (l:List bJ) (p:Nat):Nat->Prop where
 | refl:wR l p p
 | step {q r:Nat} :wR l p q->q<l.length->iN (bE l q) q r=true->wR l p r
theorem wR.trans {l:List bJ} {p q r:Nat} (h1:wR l p q) (h2:wR l q r):wR l p r:=by
 induction h2 with
 | refl=>exact h1
 | step _ h3 h4 ih=>exact .step ih h3 h4
abbrev Ve (l:List bJ) (q:Nat):Prop:=wR l 0 q
noncomputable def rchB (l:List bJ) (i:Int):Bool:= @decide (Ve l i.toNat) (Classical.propDecidable _)
noncomputable def reachL (l:List bJ):List Int:=(ke (l.length+1)).filter (rchB l)
noncomputable def reachR (l:List bJ):List Int:=if zT l=0 then reachL l else []
theorem JM (n:Nat):ke (n+1)=ke n++ [(n:Int)]:=by simp[ke,iA]
theorem My {n:Nat} {a:Int} :a∈ke n↔0<=a/\a<n:=by
 simp only[ke,ll,jj];constructor
 ·rintro⟨c,b,rfl⟩;omega
 intro b;exact⟨a.toNat,ω,ω⟩
theorem FG (n:Nat):(ke n).Pairwise (· < ·):=by
 unfold ke;rw[List.pairwise_map];exact List.pairwise_lt_range.imp (by intro a b c;omega)
theorem Mz (n:Nat):(ke n).length=n:=by simp[ke]
theorem xN (p:Int->Bool) (n:Nat):(ke (n+1)).filter p=(ke n).filter p++(if p n then [(n:Int)] else []):=by
 rw[JM,List.filter_append]
 congr 1
 by_cases a:p n=true <;> simp[a]
theorem IZ {p:Int->Bool} {n:Nat} (h:p n=true):(ke (n+1)).filter p=(ke n).filter p++ [(n:Int)]:=by rw[xN,if_pos h]
theorem Ls {p:Int->Bool} {n:Nat} (h:¬p n=true):(ke (n+1)).filter p=(ke n).filter p:=by rw[xN,if_neg h,ee]
theorem I0 (p:Int->Bool) (n:Nat):((ke n).filter p).length<=n:=by
 have:=List.length_filter_le p (ke n);rw[Mz] at this;exact this
theorem qq:∀{xs ys:List Int},xs.Pairwise (· < ·)->ys.Pairwise (· < ·)->(∀a,a∈xs↔a∈ys)->xs=ys
 | [],[],_,_,_=>rfl
 | [],y::ys,_,_,h=>by have:=(h y).2 σ;simp at this
 | d::xs,[],_,_,h=>by have:=(h d).1 σ;simp at this
 | d::xs,y::ys,e,f,h=>by
  rw[List.pairwise_cons] at e f;have g:d=y:=by
   have b:=(h d).1 σ;have c:=(h y).2 σ;rw[ec] at b c;rcases b with b | b
   ·exact b
   rcases c with c | c
   ·exact c.symm
   have:=e.1 y c;have:=f.1 d b;omega
  subst g
  congr 1
  refine qq e.2 f.2 fun a=>?_;have b:=h a;rw[ec,ec] at b;constructor
  ·intro ha;rcases b.1 (.inr ha) with g | c
   ·have:=e.1 a ha;omega
   exact c
  intro ha;rcases b.2 (.inr ha) with g | c
  ·have:=f.1 a ha;omega
  exact c
theorem sF (o:bJ) (pc a:Int):a∈dT o pc↔iN o pc a=true:=by
 unfold dT iN
 split
 ·simp
 split
 ·simp
 split
 ·split
  ·rename_i b;simp;omega
  split
  ·simp;omega
  simp
 simp
theorem wK (o:bJ) (pc:Int):(dT o pc).Pairwise (· < ·):=by
 unfold dT
 split
 ·simp
 split
 ·simp
 split
 ·split
  ·simp
  split
  ·simp;omega
  simp;omega
 simp
theorem xQ {l:List bJ} (h:eJ l=0):l.length<=40:=by
 unfold eJ at h
 split at h
 ·cases h
 omega
theorem uy {l:List bJ} {k:Nat} (h:k<l.length):bE l k∈l:=by
 unfold bE;rw[ap,aq h];exact dh h
theorem nV {α:Type} {p:α->Bool} {l:List α} {k:Nat} (d:α) (a:k<l.length):(l.take (k+1)).any p=((l.take k).any p || p (l.getD k d)):=by
 rw[List.take_add_one,aq a,ap,aq a,List.any_append];simp
theorem JQ {xs ys:List Int} {k:Nat} (h:xs.take k=ys.take k) (b:k<xs.length) (c:k<ys.length) (a:xs.getD k 0=ys.getD k 0):xs.take (k+1)=ys.take (k+1):=by
 rw[dD b,dD c,h];rw[ap,aq b,ap,aq c] at a;simp only[rY] at a;rw[a]
theorem lH (c d:Option Addr) (f g:Nat) (xs ys:List Int) (w:World) (h:Sl w (ac c xs.length f) xs) (h2:Sl w (ac d ys.length g) ys):Calls Tryz.prog 63 #[ac c xs.length f,ac d ys.length g] w fun e w'=>e= .returned (.bool (decide (xs=ys)))/\Below w.heap.size w w':=by
 have:=bA h;refine enter Tryz.func63 rfl Tryz.ntmps63 rfl<|cF (fun k=>?_) (fun k=>?_)
 ·refine aj ?_;intro w b;exact⟨aX (by simp;intro e;exact k (by simp[e])),b.below⟩
 refine aj ?_;refine de (fun a:Nat=>a<=xs.length/\xs.take a=ys.take a) (fun a=>xs.length - a) (fun a=> [(0,ac c xs.length f),(1,ac d ys.length g),(5,ai (a:Int))]) (fun _=> []) 0 σ ?_;rintro a ⟨p,j⟩;refine aO ?_;refine eI rfl (fun l=>?_) (fun l=>?_)
 ·refine aj ?_;refine bh [0,3,6,9,12,15,18,21,24] [] rfl<|aj ?_;refine tE rfl (aW ay bg (.ro h) ω rfl rfl rfl) ?_;refine tE rfl (bU (SF.int (.ro h) ω) rfl rfl bB)<|aj ?_;refine tE rfl (aW ay bg (.ro h2) ω rfl rfl rfl) ?_;refine tE rfl (bU (SF.int (.ro h2) ω) rfl rfl bB)<|cF (fun i=>?_) (fun i=>?_)
  ·refine aj ?_;intro w b;exact⟨aX (by simp;intro e;exact i (by simp[e])),b.below⟩
  refine aj ?_;refine cJ (a+1) (⟨ω,JQ j ω ω i⟩) (by show _ - _<_ - _;omega)
 refine aj ?_;intro w b;exact⟨aX (by rw[bD ω,bD ω] at j;simp[j]),b.below⟩
end
section
theorem NJ (A:Option Addr) (c:Nat) (l:List bJ) (f:FuncId) (cap:Array Value) (p:bJ->Bool) (w:World) (j:Sl w (ac A l.length c) l) (q:∀a w,(callFunc f a).run Tryz.prog w= .ok (.enter f a) w)
  (s:∀g,Below w.heap.size w g->∀k,k<l.length->Calls Tryz.prog f ([Value.agg #[ai (bE l k).c,ai (bE l k).a]]++cap.toList).toArray g fun e w'=>e= .returned (.bool (p (bE l k)))/\Below g.heap.size g w') :
  Calls Tryz.prog 251 #[ac A l.length c,.func (.func f) #[] cap] w fun e w'=> ∃r:Int,decide (0<=r)=l.any p/\e= .returned (ai r)/\Cw w.heap.size w [] w':=by
 have:=bA j;refine enter Tryz.func251 rfl Tryz.ntmps251 rfl<|aj ?_;refine de (fun k:Nat=>k<=l.length/\(l.take k).any p=false) (fun k=>l.length - k) (fun k=> [(0,ac A l.length c),(1,.func (.func f) #[] cap),(7,ai (l.length:Int)),(8,ai (k:Int))]) (fun _=> []) 0 (⟨aU _,rfl⟩) ?_;rintro k t;obtain⟨y,i⟩:k<=l.length/\(l.take k).any p=false:=t;refine ax (fun u=>?_) (fun u=>?_)
 ·have h:k<l.length:=ω;have v:=nV (p:=p) default h;refine aj ?_;refine da _ rfl (.ro j) ?_;refine iB (cs:= [_,_]) rfl (SF.op (.ro j) ω) ?_;refine oE (lw rfl rfl rfl q (fun w d=>s w d.below k h)) (fun _ _=>aj ?_);refine bO rfl (fun b=>?_) (fun b=>?_)
  ·have b:p (bE l k)=true:=b;refine aj ?_;intro w d;refine⟨(k:Int),?_,rfl,d⟩;have m:l.any p=true:=cU.2 ⟨_,uy h,b⟩;rw[m];exact decide_eq_true ω
  have b:p (bE l k)=false:=b;refine aj ?_;refine cJ (k+1) ((by refine⟨ω,?_⟩;rw[v,i];exact b)) (by show _ - _<_ - _;omega)
 obtain rfl:k=l.length:=ω;refine aj ?_;intro w d;refine⟨-1,?_,rfl,d⟩;rw[aR] at i;rw[i];rfl
theorem Gb (A:Option Addr) (c:Nat) (l:List bJ) (f:FuncId) (cap:Array Value) (p:bJ->Bool) (w:World) (m:Sl w (ac A l.length c) l) (h:∀a w,(callFunc f a).run Tryz.prog w= .ok (.enter f a) w)
  (i:∀b,Below w.heap.size w b->∀k,k<l.length->Calls Tryz.prog f ([Value.agg #[ai (bE l k).c,ai (bE l k).a]]++cap.toList).toArray b fun e w'=>e= .returned (.bool (p (bE l k)))/\Below b.heap.size b w') :
  Calls Tryz.prog 206 #[ac A l.length c,.func (.func f) #[] cap] w fun e w'=>e= .returned (.bool (l.any p))/\Below w.heap.size w w':=by
 refine enter Tryz.func206 rfl Tryz.ntmps206 rfl<|aj ?_;refine et rfl Tryz.call251 (fun w d=>NJ A c l f cap p w (d.ro m) h (fun b g=>i b (d.below.trans (g.mono d.le)))) (fun q j=>aj ?_);intro w d;exact⟨aX j,d.below⟩
end
section
theorem BG (n:Int):aI (km n):=by unfold km aI;omega
theorem F0 (b:UInt8) (r:List UInt8):aI (bT b r).1.c/\aI (bT b r).1.a:=by
 have:=b.toNat_lt;have a:aI (b.toNat:Int):=by unfold aI;omega
 have c:aI 0:=by unfold aI;omega
 unfold bT
 split
 ·exact⟨a,c⟩
 split
 ·exact⟨a,c⟩
 refine⟨a,?_⟩;dsimp only
 split
 ·exact BG _
 exact c
theorem ES (k:Nat):∀(r:List UInt8) (b:List bJ),(∀o∈b,aI o.c/\aI o.a)->b.length<=40->(∀o∈(cZ k r b).1,aI o.c/\aI o.a)/\(cZ k r b).1.length<=40:=by
 induction k with
 | zero=>intro r b c d;cases r <;> simp[cZ] <;> first | exact⟨c,d⟩ | skip
 | succ k g=>
  intro r b c d
  cases r with
  | nil=>simpa [cZ] using ⟨c,d⟩
  | cons e r=>
   simp only[cZ]
   split
   ·simp
   split
   ·simp
   rename_i f;refine g _ _ (fun o a=>?_) (by simp at f⊢;omega);rcases dQ.1 a with a | a
   ·exact c o a
   simp at a;subst a;exact F0 e r
theorem io (l:List UInt8):(∀o∈(bC l).1,aI o.c/\aI o.a)/\(bC l).1.length<=40:=ES _ _ _ σ σ
theorem G4 {a:World} {base:Nat} {v:Value} {xs:List bJ} (h:a.ownsRow base 86 2 v xs.length (xs.flatMap iS)) (hi:∀o∈xs,aI o.c/\aI o.a) (c:xs.length<=40):Sl a v xs:=
 SD iS h (fun o b=>⟨rfl,hi o b⟩) ω
theorem I6 (l:List UInt8) (w:World) (d:l.length<=140737488355320):Calls Tryz.prog 41 #[.string ⟨l.toArray⟩] w fun e w'=>
  ∃v,e= .returned (.tuple #[v,ai (bC l).2])/\Below w.heap.size w w'/\Sl w' v (bC l).1/\w'.ownsRow w.heap.size 86 2 v (bC l).1.length ((bC l).1.flatMap iS):=
 (callsIn_wide.1 (LC l w d)).mono fun e w' ⟨v,b,c,a⟩=>⟨v,b,c,G4 a (io l).1 (io l).2,yx a ω⟩
theorem Iz (l:List UInt8) (w:World) (d:l.length<=140737488355320):Calls Tryz.prog 144 #[.string ⟨l.toArray⟩] w fun e w'=>
  ∃v,e= .returned (.tuple #[v,ai (bC l).2])/\Below w.heap.size w w'/\Sl w' v (bC l).1/\w'.ownsRow w.heap.size 86 2 v (bC l).1.length ((bC l).1.flatMap iS):=
 (FN l w d).mono fun _ _ ⟨v,b,c,a⟩=>⟨v,b,c,G4 a (io l).1 (io l).2,a⟩
theorem Ee {α:Type} [dd α] {b:World} {base:Nat} {v:Value} {xs:List α} (h:b.ownsRow base (Ow.ty α) (aH.k α) v xs.length (xs.flatMap dd.enc)) (i:∀x∈xs,dd.wf x) (j:xs.length<=140737488355328):eQ b base v xs:=by
 have c:∀x∈xs,(dd.enc x).length=aH.k α:=fun x a=>aH.len (dd.rep_iff.2 ⟨rfl,i x a⟩:aH.rep b 0 (dd.enc x) x);refine eQ.of_zs h h.1 (fun k x a=>?_) j;have d:=gA a;refine dd.own_iff.2 ⟨⟨?_,i x d⟩,fun _ h=>h⟩
 apply fK
 intro e
 by_cases g:e<aH.k α
 ·have f:e<(dd.enc x).length:=by rw[c x d];exact g
  have:=oq dd.enc (aH.k α) xs c k x e _ a (aq f);rw[ek,if_pos g,dR,this,aq f]
 rw[bn (by rw[aB];omega),bn (by rw[c x d];omega)]
theorem I5 (l:List UInt8) (w:World) (d:l.length<=140737488355320):Calls Tryz.prog 41 #[.string ⟨l.toArray⟩] w fun e w'=>
  ∃v,e= .returned (.tuple #[v,ai (bC l).2])/\Below w.heap.size w w'/\eQ w' w.heap.size v (bC l).1:=
 (I6 l w d).mono fun e w' ⟨v,a,b,_,c⟩=>⟨v,a,b,Ee c (io l).1 (by have:=(io l).2;omega)⟩
theorem FM (l:List UInt8) (w:World) (d:l.length<=140737488355320):Calls Tryz.prog 144 #[.string ⟨l.toArray⟩] w fun e w'=>
  ∃v,e= .returned (.tuple #[v,ai (bC l).2])/\Below w.heap.size w w'/\eQ w' w.heap.size v (bC l).1:=
 (Iz l w d).mono fun e w' ⟨v,a,b,_,c⟩=>⟨v,a,b,Ee c (io l).1 (by have:=(io l).2;omega)⟩
end
section
end
