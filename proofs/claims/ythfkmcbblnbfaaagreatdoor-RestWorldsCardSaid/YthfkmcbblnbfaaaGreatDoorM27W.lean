/- Lemmas of one proof. -/
import Derived.Test.YthfkmcbblnbfaaaGreatDoorM90W
import Derived.Test.YthfkmcbblnbfaaaGreatDoorM0W
import Derived.Test.YthfkmcbblnbfaaaGreatDoorM19W
import Derived.Test.YthfkmcbblnbfaaaGreatDoorM25W

namespace Go.Proofs.YthfkmcbblnbfaaaGreatDoor
set_option maxRecDepth 100000
set_option maxHeartbeats 16000000
open Go.RowKit
section
theorem fh {a b:Int} (h:a=b):Ending.returned (ai a)= .returned (ai b):=by rw[h]
instance:Ow bG where
 ty:=86
 own _ F cs o:=(cs= [.int .i64 o.c,.int .i64 o.a]/\aI o.c/\aI o.a)/\∀b,¬F b
 rd_ h:=h.1
 lt h hb:=(h.2 _ hb).elim
 frame h _:=h
 cong h hf:=⟨h.1,fun b hb=>h.2 b ((hf b).2 hb)⟩
instance:dc bG where
 enc o:= [.int .i64 o.c,.int .i64 o.a]
 wf o:=aI o.c/\aI o.a
 rep_iff:=kA
 own_iff:=kA
instance:kc bG:=⟨77⟩
theorem cW:(Tryz.prog.info? 3).map (fun i=>(i.zero,i.size,i.bytes))=some (some (ai 0),1,8):=by kernel_rfl
theorem zq:(Tryz.prog.info? 4).map (fun i=>(i.zero,i.size,i.bytes))=some (some (.bool false),1,1):=by kernel_rfl
theorem ic {a:Int} (h:aI a):∀x∈[a],aI x:=by intro x b;rw[cN.1 b];exact h
theorem kI {a b:Int} (h:aI a) (h2:aI b):∀x∈[a,b],aI x:=by
 intro x c;rcases eo.1 c with c | c
 ·rw[c];exact h
 rw[cN.1 c];exact h2
section
variable {P:Program} {n:NF} {o:Oper} {env:cS} {B:Nat} {w0:World} {H H':List aO}
def bH (l:List bG) (k:Nat):bG:=l.getD k default
theorem SF.op {A:Option Addr} {xs:List bG} {m c k:Nat} (d:SF B w0 H A m c xs) (b:k<m):∀w,Cw B w0 H w->∀j v,([ai (bH xs k).c,ai (bH xs k).a]:List Value)[j]? =some v->w.cell? ⟨ab A,ao A+k*2+j,none⟩=some v:=
 fun w e _ _ a=>SF.cell d b default a w e
theorem SF.opc {A:Option Addr} {xs:List bG} {m c k:Nat} (b:SF B w0 H A m c xs) (a:k<m):∀w,Cw B w0 H w->w.cell? ⟨ab A,ao A+k*2+0,none⟩=some (ai (bH xs k).c):=fun w d=>SF.op b a w d 0 _ rfl
theorem SF.opa {A:Option Addr} {xs:List bG} {m c k:Nat} (b:SF B w0 H A m c xs) (a:k<m):∀w,Cw B w0 H w->w.cell? ⟨ab A,ao A+k*2+1,none⟩=some (ai (bH xs k).a):=fun w d=>SF.op b a w d 1 _ rfl
theorem SF.bool {A:Option Addr} {xs:List Bool} {m c k:Nat} (hs:SF B w0 H A m c xs) (hk:k<m):∀w,Cw B w0 H w->w.cell? ⟨ab A,ao A+k*1,none⟩=some (.bool (xs.getD k false)):=fun w hw=>SF.cell hs hk false (j:=0) rfl w hw
theorem EN {w:World} {B:Nat} {A:Option Addr} {xs:List bG} {m c k:Nat} (h:bO w B (ac A m c) xs) (a:k<m):aI (bH xs k).c/\aI (bH xs k).a:=by
 obtain⟨d,b,_⟩:=h.elr a default;exact b.2
end
def O2 (n:Nat) (o:bG):Bool:=(decide (o.c=10) || decide (o.c=11)) && (decide (o.a<0) || decide ((n:Int)<=o.a))
def AJ (l:List bG):Int:=if eL l=0 then (if l.length=0 then 5 else if l.any (O2 l.length) then 3 else 0) else eL l
def iO (o:bG) (pc to_:Int):Bool:=if o.c=13 then false else if o.c=10 then decide (to_=o.a) else if o.c=11 then decide (to_=pc+1) || decide (to_=o.a) else decide (to_=pc+1)
def dX (o:bG) (pc:Int):List Int:=if o.c=13 then [] else if o.c=10 then [o.a] else if o.c=11 then (if pc+1=o.a then [pc+1] else if o.a<pc+1 then [o.a,pc+1] else [pc+1,o.a]) else [pc+1]
def ku (n:Nat):List Int:=(List.range n).map fun i:Nat=>(i:Int)
def xD (l:List bG) (pc:Nat):List Int:=(ku (l.length+1)).filter (iO (bH l pc) pc)
inductive xn (l:List bG) (p:Nat):Nat->Prop where
 | refl:xn l p p
 | step {q r:Nat} :xn l p q->q<l.length->iO (bH l q) q r=true->xn l p r
theorem xn.trans {l:List bG} {p q r:Nat} (h1:xn l p q) (h2:xn l q r):xn l p r:=by
 induction h2 with
 | refl=>exact h1
 | step _ h3 h4 ih=>exact .step ih h3 h4
abbrev VH (l:List bG) (q:Nat):Prop:=xn l 0 q
noncomputable def rchB (l:List bG) (i:Int):Bool:= @decide (VH l i.toNat) (Classical.propDecidable _)
noncomputable def reachL (l:List bG):List Int:=(ku (l.length+1)).filter (rchB l)
noncomputable def reachR (l:List bG):List Int:=if AJ l=0 then reachL l else []
theorem Kk (n:Nat):ku (n+1)=ku n++ [(n:Int)]:=by simp[ku,iB]
theorem M3 {n:Nat} {a:Int} :a∈ku n↔0<=a/\a<n:=by
 simp only[ku,jR,jj];constructor
 ·rintro⟨c,b,rfl⟩;omega
 intro b;exact⟨a.toNat,ω,ω⟩
theorem Gj (n:Nat):(ku n).Pairwise (· < ·):=by
 unfold ku;rw[List.pairwise_map];exact List.pairwise_lt_range.imp (by intro a b c;omega)
theorem M4 (n:Nat):(ku n).length=n:=by simp[ku]
theorem yj (p:Int->Bool) (n:Nat):(ku (n+1)).filter p=(ku n).filter p++(if p n then [(n:Int)] else []):=by
 rw[Kk,List.filter_append]
 congr 1
 by_cases a:p n=true <;> simp[a]
theorem JA {p:Int->Bool} {n:Nat} (h:p n=true):(ku (n+1)).filter p=(ku n).filter p++ [(n:Int)]:=by rw[yj,if_pos h]
theorem LY {p:Int->Bool} {n:Nat} (h:¬p n=true):(ku (n+1)).filter p=(ku n).filter p:=by rw[yj,if_neg h,et]
theorem JB (p:Int->Bool) (n:Nat):((ku n).filter p).length<=n:=by
 have:=List.length_filter_le p (ku n);rw[M4] at this;exact this
theorem qF:∀{xs ys:List Int},xs.Pairwise (· < ·)->ys.Pairwise (· < ·)->(∀a,a∈xs↔a∈ys)->xs=ys
 | [],[],_,_,_=>rfl
 | [],y::ys,_,_,h=>by have:=(h y).2 σ;simp at this
 | d::xs,[],_,_,h=>by have:=(h d).1 σ;simp at this
 | d::xs,y::ys,e,f,h=>by
  rw[List.pairwise_cons] at e f;have g:d=y:=by
   have b:=(h d).1 σ;have c:=(h y).2 σ;rw[eo] at b c;rcases b with b | b
   ·exact b
   rcases c with c | c
   ·exact c.symm
   have:=e.1 y c;have:=f.1 d b;omega
  subst g
  congr 1
  refine qF e.2 f.2 fun a=>?_;have b:=h a;rw[eo,eo] at b;constructor
  ·intro ha;rcases b.1 (.inr ha) with g | c
   ·have:=e.1 a ha;omega
   exact c
  intro ha;rcases b.2 (.inr ha) with g | c
  ·have:=f.1 a ha;omega
  exact c
theorem th (o:bG) (pc a:Int):a∈dX o pc↔iO o pc a=true:=by
 unfold dX iO
 split
 ·simp
 split
 ·simp
 split
 ·split
  ·rename_i b;simp;omega
  split
  ·simp;omega
  simp
 simp
theorem xe (o:bG) (pc:Int):(dX o pc).Pairwise (· < ·):=by
 unfold dX
 split
 ·simp
 split
 ·simp
 split
 ·split
  ·simp
  split
  ·simp;omega
  simp;omega
 simp
theorem ym {l:List bG} (h:eL l=0):l.length<=40:=by
 unfold eL at h
 split at h
 ·cases h
 omega
theorem uR {l:List bG} {k:Nat} (h:k<l.length):bH l k∈l:=by
 unfold bH;rw[ap,aq h];exact cV h
theorem ox {α:Type} {p:α->Bool} {l:List α} {k:Nat} (d:α) (a:k<l.length):(l.take (k+1)).any p=((l.take k).any p || p (l.getD k d)):=by
 rw[List.take_add_one,aq a,ap,aq a,List.any_append];simp
theorem Ko {xs ys:List Int} {k:Nat} (h:xs.take k=ys.take k) (b:k<xs.length) (c:k<ys.length) (a:xs.getD k 0=ys.getD k 0):xs.take (k+1)=ys.take (k+1):=by
 rw[dI b,dI c,h];rw[ap,aq b,ap,aq c] at a;simp only[sF] at a;rw[a]
theorem lU (c d:Option Addr) (f g:Nat) (xs ys:List Int) (w:World) (h:Sl w (ac c xs.length f) xs) (h2:Sl w (ac d ys.length g) ys):Calls Tryz.prog 63 #[ac c xs.length f,ac d ys.length g] w fun e w'=>e= .returned (.bool (decide (xs=ys)))/\Below w.heap.size w w':=by
 have:=bx h;refine enter Tryz.func63 rfl Tryz.ntmps63 rfl<|cU (fun k=>?_) (fun k=>?_)
 ·refine aj ?_;intro w b;exact⟨aY (by simp;intro e;exact k (by simp[e])),b.below⟩
 refine aj ?_;refine cZ (fun a:Nat=>a<=xs.length/\xs.take a=ys.take a) (fun a=>xs.length - a) (fun a=> [(0,ac c xs.length f),(1,ac d ys.length g),(5,ai (a:Int))]) (fun _=> []) 0 σ ?_;rintro a ⟨p,j⟩;refine aP ?_;refine eK rfl (fun l=>?_) (fun l=>?_)
 ·refine aj ?_;refine bq [0,3,6,9,12,15,18,21,24] [] rfl<|aj ?_;refine tE rfl (aX az aZ (.ro h) ω rfl rfl rfl) ?_;refine tE rfl (bY (SF.int (.ro h) ω) rfl rfl bF)<|aj ?_;refine tE rfl (aX az aZ (.ro h2) ω rfl rfl rfl) ?_;refine tE rfl (bY (SF.int (.ro h2) ω) rfl rfl bF)<|cU (fun i=>?_) (fun i=>?_)
  ·refine aj ?_;intro w b;exact⟨aY (by simp;intro e;exact i (by simp[e])),b.below⟩
  refine aj ?_;refine cG (a+1) (⟨ω,Ko j ω ω i⟩) (by show _ - _<_ - _;omega)
 refine aj ?_;intro w b;exact⟨aY (by rw[bD ω,bD ω] at j;simp[j]),b.below⟩
end
section
theorem N9 (A:Option Addr) (c:Nat) (l:List bG) (f:FuncId) (cap:Array Value) (p:bG->Bool) (w:World) (j:Sl w (ac A l.length c) l) (q:∀a w,(callFunc f a).run Tryz.prog w= .ok (.enter f a) w)
  (s:∀g,Below w.heap.size w g->∀k,k<l.length->Calls Tryz.prog f ([Value.agg #[ai (bH l k).c,ai (bH l k).a]]++cap.toList).toArray g fun e w'=>e= .returned (.bool (p (bH l k)))/\Below g.heap.size g w') :
  Calls Tryz.prog 251 #[ac A l.length c,.func (.func f) #[] cap] w fun e w'=> ∃r:Int,decide (0<=r)=l.any p/\e= .returned (ai r)/\Cw w.heap.size w [] w':=by
 have:=bx j;refine enter Tryz.func251 rfl Tryz.ntmps251 rfl<|aj ?_;refine cZ (fun k:Nat=>k<=l.length/\(l.take k).any p=false) (fun k=>l.length - k) (fun k=> [(0,ac A l.length c),(1,.func (.func f) #[] cap),(7,ai (l.length:Int)),(8,ai (k:Int))]) (fun _=> []) 0 (⟨aS _,rfl⟩) ?_;rintro k t;obtain⟨y,i⟩:k<=l.length/\(l.take k).any p=false:=t;refine ax (fun u=>?_) (fun u=>?_)
 ·have h:k<l.length:=ω;have v:=ox (p:=p) default h;refine aj ?_;refine cP _ rfl (.ro j) ?_;refine iC (cs:= [_,_]) rfl (SF.op (.ro j) ω) ?_;refine oE (lG rfl rfl rfl q (fun w d=>s w d.below k h)) (fun _ _=>aj ?_);refine cc rfl (fun b=>?_) (fun b=>?_)
  ·have b:p (bH l k)=true:=b;refine aj ?_;intro w d;refine⟨(k:Int),?_,rfl,d⟩;have m:l.any p=true:=de.2 ⟨_,uR h,b⟩;rw[m];exact decide_eq_true ω
  have b:p (bH l k)=false:=b;refine aj ?_;refine cG (k+1) ((by refine⟨ω,?_⟩;rw[v,i];exact b)) (by show _ - _<_ - _;omega)
 obtain rfl:k=l.length:=ω;refine aj ?_;intro w d;refine⟨-1,?_,rfl,d⟩;rw[aR] at i;rw[i];rfl
theorem GM (A:Option Addr) (c:Nat) (l:List bG) (f:FuncId) (cap:Array Value) (p:bG->Bool) (w:World) (m:Sl w (ac A l.length c) l) (h:∀a w,(callFunc f a).run Tryz.prog w= .ok (.enter f a) w)
  (i:∀b,Below w.heap.size w b->∀k,k<l.length->Calls Tryz.prog f ([Value.agg #[ai (bH l k).c,ai (bH l k).a]]++cap.toList).toArray b fun e w'=>e= .returned (.bool (p (bH l k)))/\Below b.heap.size b w') :
  Calls Tryz.prog 206 #[ac A l.length c,.func (.func f) #[] cap] w fun e w'=>e= .returned (.bool (l.any p))/\Below w.heap.size w w':=by
 refine enter Tryz.func206 rfl Tryz.ntmps206 rfl<|aj ?_;refine eu rfl Tryz.call251 (fun w d=>N9 A c l f cap p w (d.ro m) h (fun b g=>i b (d.below.trans (g.mono d.le)))) (fun q j=>aj ?_);intro w d;exact⟨aY j,d.below⟩
end
section
theorem Cc (n:Int):aI (jV n):=by unfold jV aI;omega
theorem GF (b:UInt8) (r:List UInt8):aI (bW b r).1.c/\aI (bW b r).1.a:=by
 have:=b.toNat_lt;have a:aI (b.toNat:Int):=by unfold aI;omega
 have c:aI 0:=by unfold aI;omega
 unfold bW
 split
 ·exact⟨a,c⟩
 split
 ·exact⟨a,c⟩
 refine⟨a,?_⟩;dsimp only
 split
 ·exact Cc _
 exact c
theorem Fu (k:Nat):∀(r:List UInt8) (b:List bG),(∀o∈b,aI o.c/\aI o.a)->b.length<=40->(∀o∈(dg k r b).1,aI o.c/\aI o.a)/\(dg k r b).1.length<=40:=by
 induction k with
 | zero=>intro r b c d;cases r <;> simp[dg] <;> first | exact⟨c,d⟩ | skip
 | succ k g=>
  intro r b c d
  cases r with
  | nil=>simpa [dg] using ⟨c,d⟩
  | cons e r=>
   simp only[dg]
   split
   ·simp
   split
   ·simp
   rename_i f;refine g _ _ (fun o a=>?_) (by simp at f⊢;omega);rcases dU.1 a with a | a
   ·exact c o a
   simp at a;subst a;exact GF e r
theorem jO (l:List UInt8):(∀o∈(bP l).1,aI o.c/\aI o.a)/\(bP l).1.length<=40:=Fu _ _ _ σ σ
theorem HT {a:World} {base:Nat} {v:Value} {xs:List bG} (h:a.ownsRow base 86 2 v xs.length (xs.flatMap eJ)) (hi:∀o∈xs,aI o.c/\aI o.a) (c:xs.length<=40):Sl a v xs:=
 S5 eJ h (fun o b=>⟨rfl,hi o b⟩) ω
theorem AU (l:List UInt8) (w:World) (d:l.length<=140737488355320):Calls Tryz.prog 41 #[.string ⟨l.toArray⟩] w fun e w'=>
  ∃v,e= .returned (.tuple #[v,ai (bP l).2])/\Below w.heap.size w w'/\Sl w' v (bP l).1/\w'.ownsRow w.heap.size 86 2 v (bP l).1.length ((bP l).1.flatMap eJ):=
 (callsIn_wide.1 (Ma l w d)).mono fun e w' ⟨v,b,c,a⟩=>⟨v,b,c,HT a (jO l).1 (jO l).2,yT a ω⟩
theorem NQ {α:Type} [dc α] {b:World} {base:Nat} {v:Value} {xs:List α} (h:b.ownsRow base (Ow.ty α) (aG.k α) v xs.length (xs.flatMap dc.enc)) (i:∀x∈xs,dc.wf x) (j:xs.length<=140737488355328):eU b base v xs:=by
 have c:∀x∈xs,(dc.enc x).length=aG.k α:=fun x a=>aG.len (dc.rep_iff.2 ⟨rfl,i x a⟩:aG.rep b 0 (dc.enc x) x);refine eU.of_zs h h.1 (fun k x a=>?_) j;have d:=fQ a;refine dc.own_iff.2 ⟨⟨?_,i x d⟩,fun _ h=>h⟩
 apply fI
 intro e
 by_cases g:e<aG.k α
 ·have f:e<(dc.enc x).length:=by rw[c x d];exact g
  have:=np dc.enc (aG.k α) xs c k x e _ a (aq f);rw[ee,if_pos g,dV,this,aq f]
 rw[bh (by rw[aB];omega),bh (by rw[c x d];omega)]
theorem AT (l:List UInt8) (w:World) (d:l.length<=140737488355320):Calls Tryz.prog 41 #[.string ⟨l.toArray⟩] w fun e w'=>
  ∃v,e= .returned (.tuple #[v,ai (bP l).2])/\Below w.heap.size w w'/\eU w' w.heap.size v (bP l).1:=
 (AU l w d).mono fun e w' ⟨v,a,b,_,c⟩=>⟨v,a,b,NQ c (jO l).1 (by have:=(jO l).2;omega)⟩
end
section
def UE:List bG:= [⟨1,3⟩,⟨3,0⟩,⟨20,0⟩,⟨1,1⟩,⟨6,0⟩,⟨3,0⟩,⟨11,8⟩,⟨10,1⟩,⟨2,0⟩,⟨13,0⟩]
end
section
def kJ:List bG:= [⟨1,3⟩,⟨3,0⟩,⟨20,0⟩,⟨1,1⟩,⟨6,0⟩,⟨3,0⟩,⟨11,8⟩,⟨10,1⟩,⟨2,0⟩,⟨13,0⟩]
theorem H9 (w:World) (T:TypeId) (xs:List bG) (n:Nat) (g:n<=xs.length) (hi:∀o∈xs,aI o.c/\aI o.a) (l:xs.length<=140737488355328) :
  Sl (w.alloc (.cells (xs.flatMap eJ).toArray T)) (ac (some ⟨w.heap.size,0,none⟩) n xs.length) (xs.take n):=by
 have f:(w.alloc (.cells (xs.flatMap eJ).toArray T)).heap[w.heap.size]? =some (.cells (xs.flatMap eJ).toArray T):=heap_alloc_new w _;have c:(xs.take n).length=n:=by simp;omega
 refine⟨_,_,by rw[c],by rw[c];exact g,by unfold maxLen;omega,by omega,fun _=>⟨_,_,rfl,by simp,fun d b a=>⟨eJ b,⟨rfl,hi b (iG (fQ a))⟩,fun j k h=>?_⟩⟩⟩;have i:xs[d]? =some b:=by
  rw[ee] at a
  split at a
  ·exact a
  cases a
 have e:=np eJ 2 xs (fun _ _=>rfl) d b j k i h;simp only[World.cell?,f,gY];simpa [aG.k] using e
theorem CE (w:World):Calls Tryz.prog 92 #[] w fun e w'=>e= .returned (.slice (some ⟨w.heap.size,0,none⟩) 10 10) /\ w'=w.alloc (.cells (kJ.flatMap eJ).toArray 86):=by
 go_enter Tryz.func92,Tryz.ntmps92
 go_wp2
 go_ret
 exact⟨rfl,rfl⟩
end
section
theorem Gv (w:World):Calls Tryz.prog 33 #[] w fun e w'=>e= .returned (.bool true) /\ Below w.heap.size w w':=by
 have s:jV 2147483648= -2147483648:=by decide
 go_enter Tryz.func33,Tryz.ntmps33
 go_wp2_with (first
  | (go_at_call 92;refine(CE _).mono ?_;rintro e w' ⟨rfl,rfl⟩;refine pu ?_))
 unfold uo
 have g:=H9 w 86 kJ 2 (by decide) (by decide) (by decide)
 have f:(w.alloc (.cells (kJ.flatMap eJ).toArray 86)).cell? ⟨w.heap.size,0,none⟩=some (.int .i64 1):=by simp[kJ,eJ]
 generalize b:w.alloc (.cells (kJ.flatMap eJ).toArray 86)=h at *
 have x:Below w.heap.size w h:=by rw[←b];exact aT (Below.refl _ _) _
 clear b
 have k:nt (kJ.take 2)=([1,0,0,0,3,3],0):=by decide
 go_wp2_with (first
  | (go_at_call 91;refine(JE _ _ _ g).mono ?_;rintro e i ⟨rfl,y⟩;rw[k]))
 refine(AU [1,255,255,255,254,13] i (by decide)).mono ?_
 rintro e a ⟨t,rfl,z,c,_⟩
 have l:bP [1,255,255,255,254,13]=([⟨1, -2⟩,⟨13,0⟩],0):=by decide
 rw[l] at c⊢
 clear f g
 go_wp2_with (first
  | (go_at_call 92;refine(CE _).mono ?_;rintro e w' ⟨rfl,rfl⟩;refine pu ?_))
 unfold uo
 have f:(a.alloc (.cells (kJ.flatMap eJ).toArray 86)).cell? ⟨a.heap.size,0,none⟩=some (.int .i64 1):=by simp[kJ,eJ]
 have D:(a.alloc (.cells (kJ.flatMap eJ).toArray 86)).cell? ⟨a.heap.size,1,none⟩=some (.int .i64 3):=by simp[kJ,eJ]
 have c:=c.alloc (.cells (kJ.flatMap eJ).toArray 86)
 generalize b:a.alloc (.cells (kJ.flatMap eJ).toArray 86)=j at *
 have A:Below a.heap.size a j:=by rw[←b];exact aT (Below.refl _ _) _
 clear b
 go_wp2_with (first
  | (go_at_call 93;refine(xa ⟨1,3⟩ _).mono ?_;rintro e u ⟨rfl,m⟩;rw[show fM ⟨1,3⟩=0 from by decide];refine pu ?_))
 unfold uo
 go_wp2_with (first
  | (go_at_call 93;refine(xa ⟨2,1⟩ _).mono ?_;rintro e d ⟨rfl,p⟩;rw[show fM ⟨2,1⟩=1 from by decide];refine pu ?_))
 unfold uo
 go_wp2_with fail
 have r:Sl d t ([⟨1, -2⟩,⟨13,0⟩]:List bG):=Sl.via (bK p (bK m (Below.refl _ _))) c
 have q:=H9 d 86 ([⟨1, -2⟩,⟨13,0⟩]:List bG) 2 (by decide) (by decide) (by decide)
 refine(wv _ _ _ _ _ (r.alloc _) q).mono ?_
 rintro e v ⟨rfl,C⟩
 rw[show decide (([⟨1, -2⟩,⟨13,0⟩]:List bG)=List.take 2 ([⟨1, -2⟩,⟨13,0⟩]:List bG))=true from by decide]
 go_wp2_with (first
  | (go_at_call 94;refine(DN _ _).mono ?_;rintro e w' ⟨rfl,rfl⟩;rw[s]))
 go_ret
 exact⟨rfl,(by repeat (first | exact Below.refl _ _ | assumption | refine Below.drew ?_ | refine Below.drewN_ ?_ _ | refine aT ?_ _ | refine bK (by assumption) ?_ | refine bZ ?_ (by simp <;> omega) _))⟩
end
