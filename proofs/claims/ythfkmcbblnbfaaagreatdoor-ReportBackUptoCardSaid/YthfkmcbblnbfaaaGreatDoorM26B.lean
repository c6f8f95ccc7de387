/- Texts of one proof, one behind the other: lemmas alone. -/
import Derived.Test.YthfkmcbblnbfaaaGreatDoorM0B
import Derived.Test.YthfkmcbblnbfaaaGreatDoorM19B
import Derived.Test.YthfkmcbblnbfaaaGreatDoorM15B
import Derived.Test.YthfkmcbblnbfaaaGreatDoorM5B
import Derived.Test.YthfkmcbblnbfaaaGreatDoorM25B

namespace Go.Proofs.YthfkmcbblnbfaaaGreatDoor
set_option maxRecDepth 100000
set_option maxHeartbeats 16000000
open Go.RowKit
section
theorem fw {a b:Int} (h:a=b):Ending.returned (.int .i64 a)= .returned (.int .i64 b):=by rw[h]
instance:Ow aM where
 ty:=86
 own _ F cs o:=(cs= [.int .i64 o.c,.int .i64 o.a]/\ay o.c/\ay o.a)/\∀b,¬F b
 rd_ h:=h.1
 lt h hb:=(h.2 _ hb).elim
 frame h _:=h
 cong h hf:=⟨h.1,fun b hb=>h.2 b ((hf b).2 hb)⟩
instance:bd aM where
 enc o:= [.int .i64 o.c,.int .i64 o.a]
 wf o:=ay o.c/\ay o.a
 rep_iff:=fL
 own_iff:=fL
instance:fz aM:=⟨77⟩
theorem e9:(Tryz.prog.info? 3).map (fun i=>(i.zero,i.size,i.bytes))=some (some (.int .i64 0),1,8):=by kernel_rfl
theorem tY:(Tryz.prog.info? 4).map (fun i=>(i.zero,i.size,i.bytes))=some (some (.bool false),1,1):=by kernel_rfl
theorem iZ {a:Int} (h:ay a):∀x∈[a],ay x:=by intro x hx;rw[bG.1 hx];exact h
theorem iW {a b:Int} (h:ay a) (h2:ay b):∀x∈[a,b],ay x:=by
 intro x hx
 rcases cu.1 hx with hx | hx
 ·rw[hx];exact h
 rw[bG.1 hx];exact h2
section
variable {P:Program} {n:NF} {o:Oper} {env:be} {B:Nat} {w0:World} {H H':List aq}
def aY (l:List aM) (k:Nat):aM:=l.getD k default
theorem SF.op {A:Option Addr} {xs:List aM} {m c k:Nat} (hs:SF B w0 H A m c xs) (hk:k<m):∀w,Cw B w0 H w->∀j v,([.int .i64 (aY xs k).c,.int .i64 (aY xs k).a]:List Value)[j]? =some v->w.cell? ⟨ab A,ao A+k*2+j,none⟩=some v:=
 fun w hw _ _ hj=>SF.cell hs hk default hj w hw
theorem SF.opc {A:Option Addr} {xs:List aM} {m c k:Nat} (hs:SF B w0 H A m c xs) (hk:k<m):∀w,Cw B w0 H w->w.cell? ⟨ab A,ao A+k*2+0,none⟩=some (.int .i64 (aY xs k).c):=fun w hw=>SF.op hs hk w hw 0 _ rfl
theorem SF.opa {A:Option Addr} {xs:List aM} {m c k:Nat} (hs:SF B w0 H A m c xs) (hk:k<m):∀w,Cw B w0 H w->w.cell? ⟨ab A,ao A+k*2+1,none⟩=some (.int .i64 (aY xs k).a):=fun w hw=>SF.op hs hk w hw 1 _ rfl
theorem SF.bool {A:Option Addr} {xs:List Bool} {m c k:Nat} (hs:SF B w0 H A m c xs) (hk:k<m):∀w,Cw B w0 H w->w.cell? ⟨ab A,ao A+k*1,none⟩=some (.bool (xs.getD k false)):=fun w hw=>SF.cell hs hk false (j:=0) rfl w hw
theorem sY {w:World} {B:Nat} {A:Option Addr} {xs:List aM} {m c k:Nat} (h:aU w B (.slice A m c) xs) (hk:k<m):ay (aY xs k).c/\ay (aY xs k).a:=by
 obtain⟨cs,hr,_⟩:=h.elr hk default
 exact hr.2
end
def BK (n:Nat) (o:aM):Bool:=(decide (o.c=10) || decide (o.c=11)) && (decide (o.a<0) || decide ((n:Int)<=o.a))
def pH (l:List aM):Int:=if cQ l=0 then (if l.length=0 then 5 else if l.any (BK l.length) then 3 else 0) else cQ l
def ef (o:aM) (pc to_:Int):Bool:=if o.c=13 then false else if o.c=10 then decide (to_=o.a) else if o.c=11 then decide (to_=pc+1) || decide (to_=o.a) else decide (to_=pc+1)
def cX (o:aM) (pc:Int):List Int:=if o.c=13 then [] else if o.c=10 then [o.a] else if o.c=11 then (if pc+1=o.a then [pc+1] else if o.a<pc+1 then [o.a,pc+1] else [pc+1,o.a]) else [pc+1]
def upto (n:Nat):List Int:=(List.range n).map fun i:Nat=>(i:Int)
def rT (l:List aM) (pc:Nat):List Int:=(upto (l.length+1)).filter (ef (aY l pc) pc)
def Gr (l:List aM) (to_:Int):List Int:=(upto l.length).filter fun i=>ef (aY l i.toNat) i to_
def Gf (l:List aM) (pc:Int):Int:=if pH l=0 then (if pc<0\/(l.length:Int)<=pc then 3 else 0) else pH l
def Gt (l:List aM) (pc:Int):Int:=if pH l=0 then (if pc<0\/(l.length:Int)<pc then 3 else 0) else pH l
def Ha (l:List aM) (pc:Int):List Int:=if Gf l pc=0 then rT l pc.toNat else []
def Hr (l:List aM) (pc:Int):List Int:=if Gt l pc=0 then Gr l pc else []
inductive nw (l:List aM) (p:Nat):Nat->Prop where
 | refl:nw l p p
 | step {q r:Nat} :nw l p q->q<l.length->ef (aY l q) q r=true->nw l p r
theorem nw.trans {l:List aM} {p q r:Nat} (h1:nw l p q) (h2:nw l q r):nw l p r:=by
 induction h2 with
 | refl=>exact h1
 | step _ h3 h4 ih=>exact .step ih h3 h4
abbrev G9 (l:List aM) (q:Nat):Prop:=nw l 0 q
noncomputable def rchB (l:List aM) (i:Int):Bool:= @decide (G9 l i.toNat) (Classical.propDecidable _)
noncomputable def reachL (l:List aM):List Int:=(upto (l.length+1)).filter (rchB l)
noncomputable def reachR (l:List aM):List Int:=if pH l=0 then reachL l else []
theorem xm (n:Nat):upto (n+1)=upto n++ [(n:Int)]:=by simp[upto,List.range_succ]
theorem zF (n:Nat):(upto n).length=n:=by simp[upto]
theorem n3 (p:Int->Bool) (n:Nat):(upto (n+1)).filter p=(upto n).filter p++(if p n then [(n:Int)] else []):=by
 rw[xm,List.filter_append]
 congr 1
 by_cases h:p n=true <;> simp[h]
theorem wE {p:Int->Bool} {n:Nat} (h:p n=true):(upto (n+1)).filter p=(upto n).filter p++ [(n:Int)]:=by rw[n3,if_pos h]
theorem yI {p:Int->Bool} {n:Nat} (h:¬p n=true):(upto (n+1)).filter p=(upto n).filter p:=by rw[n3,if_neg h,eA]
theorem wF (p:Int->Bool) (n:Nat):((upto n).filter p).length<=n:=by
 have:=List.length_filter_le p (upto n)
 rw[zF] at this
 exact this
theorem mV:∀{xs ys:List Int},xs.Pairwise (· < ·)->ys.Pairwise (· < ·)->(∀a,a∈xs↔a∈ys)->xs=ys
 | [],[],_,_,_=>rfl
 | [],y::ys,_,_,h=>by have:=(h y).2 (by simp);simp at this
 | x::xs,[],_,_,h=>by have:=(h x).1 (by simp);simp at this
 | x::xs,y::ys,hx,hy,h=>by
  rw[List.pairwise_cons] at hx hy
  have e:x=y:=by
   have h1:=(h x).1 (by simp)
   have h2:=(h y).2 (by simp)
   rw[cu] at h1 h2
   rcases h1 with h1 | h1
   ·exact h1
   rcases h2 with h2 | h2
   ·exact h2.symm
   have a1:=hx.1 y h2
   have a2:=hy.1 x h1
   omega
  subst e
  congr 1
  refine mV hx.2 hy.2 fun a=>?_
  have h1:=h a
  rw[cu,cu] at h1
  constructor
  ·intro ha
   rcases h1.1 (.inr ha) with e | h2
   ·have:=hx.1 a ha;omega
   exact h2
  intro ha
  rcases h1.2 (.inr ha) with e | h2
  ·have:=hy.1 a ha;omega
  exact h2
theorem rr (o:aM) (pc a:Int):a∈cX o pc↔ef o pc a=true:=by
 unfold cX ef
 split
 ·simp
 split
 ·simp
 split
 ·split
  ·rename_i h;simp;omega
  split
  ·simp;omega
  simp
 simp
theorem tW (o:aM) (pc:Int):(cX o pc).Pairwise (· < ·):=by
 unfold cX
 split
 ·simp
 split
 ·simp
 split
 ·split
  ·simp
  split
  ·simp;omega
  simp;omega
 simp
theorem n8 {l:List aM} (h:cQ l=0):l.length<=40:=by
 unfold cQ at h
 split at h
 ·cases h
 omega
theorem oN {l:List aM} {k:Nat} (h:k<l.length):aY l k∈l:=by
 unfold aY
 rw[ac,ae h]
 exact cc h
theorem mH {α:Type} {p:α->Bool} {l:List α} {k:Nat} (d:α) (hk:k<l.length):(l.take (k+1)).any p=((l.take k).any p || p (l.getD k d)):=by
 rw[List.take_add_one,ae hk,ac,ae hk,List.any_append]
 simp
theorem xr {xs ys:List Int} {k:Nat} (h:xs.take k=ys.take k) (hx:k<xs.length) (hy:k<ys.length) (he:xs.getD k 0=ys.getD k 0):xs.take (k+1)=ys.take (k+1):=by
 rw[bR hx,bR hy,h]
 rw[ac,ae hx,ac,ae hy] at he
 simp only[ox] at he
 rw[he]
theorem lZ (A1 A2:Option Addr) (c1 c2:Nat) (xs ys:List Int) (w:World) (h1:Sl w (.slice A1 xs.length c1) xs) (h2:Sl w (.slice A2 ys.length c2) ys):Calls Tryz.prog 63 #[.slice A1 xs.length c1,.slice A2 ys.length c2] w fun e w'=>e= .returned (.bool (decide (xs=ys)))/\Below w.heap.size w w':=by
 have b1:=bt h1
 refine enter Tryz.func63 rfl Tryz.ntmps63 rfl<|cy (fun h=>?_) (fun h=>?_)
 ·refine aa ?_
  intro w hw
  exact⟨aQ (by simp;intro e;exact h (by simp[e])),hw.below⟩
 refine aa ?_
 refine dH (fun k:Nat=>k<=xs.length/\xs.take k=ys.take k) (fun k=>xs.length - k) (fun k=> [(0,.slice A1 xs.length c1),(1,.slice A2 ys.length c2),(5,.int .i64 (k:Int))]) (fun _=> []) 0 (by simp) ?_
 rintro k ⟨hk,ht⟩
 refine aT ?_
 refine gA rfl (fun h3=>?_) (fun h3=>?_)
 ·refine aa ?_
  refine bM [0,3,6,9,12,15,18,21,24] [] rfl<|aa ?_
  refine tE rfl (bS aJ bY (.ro h1) (by omega) rfl rfl rfl) ?_
  refine tE rfl (cB (SF.int (.ro h1) (by omega)) rfl rfl bT)<|aa ?_
  refine tE rfl (bS aJ bY (.ro h2) (by omega) rfl rfl rfl) ?_
  refine tE rfl (cB (SF.int (.ro h2) (by omega)) rfl rfl bT)<|cy (fun h4=>?_) (fun h4=>?_)
  ·refine aa ?_
   intro w hw
   exact⟨aQ (by simp;intro e;exact h4 (by simp[e])),hw.below⟩
  refine aa ?_
  refine dm (k+1) (⟨by omega,xr ht (by omega) (by omega) h4⟩) (by show _ - _<_ - _;omega)
 refine aa ?_
 intro w hw
 exact⟨aQ (by rw[aN (by omega),aN (by omega)] at ht;simp[ht]),hw.below⟩
end
section
theorem AO (A:Option Addr) (c:Nat) (l:List aM) (f:FuncId) (cap:Array Value) (p:aM->Bool) (w:World) (hs:Sl w (.slice A l.length c) l) (hcall:∀a w,(callFunc f a).run Tryz.prog w= .ok (.enter f a) w)
  (hf:∀w1,Below w.heap.size w w1->∀k,k<l.length->Calls Tryz.prog f ([Value.agg #[.int .i64 (aY l k).c,.int .i64 (aY l k).a]]++cap.toList).toArray w1 fun e w'=>e= .returned (.bool (p (aY l k)))/\Below w1.heap.size w1 w') :
  Calls Tryz.prog 251 #[.slice A l.length c,.func (.func f) #[] cap] w fun e w'=> ∃r:Int,decide (0<=r)=l.any p/\e= .returned (.int .i64 r)/\Cw w.heap.size w [] w':=by
 have b1:=bt hs
 refine enter Tryz.func251 rfl Tryz.ntmps251 rfl<|aa ?_
 refine dH (fun k:Nat=>k<=l.length/\(l.take k).any p=false) (fun k=>l.length - k) (fun k=> [(0,.slice A l.length c),(1,.func (.func f) #[] cap),(7,.int .i64 (l.length:Int)),(8,.int .i64 (k:Int))]) (fun _=> []) 0 (⟨br _,rfl⟩) ?_
 rintro k hk'
 obtain⟨hk,hno⟩:k<=l.length/\(l.take k).any p=false:=hk'
 refine an (fun hlt=>?_) (fun hlt=>?_)
 ·have hkl:k<l.length:=by omega
  have hsn:=mH (p:=p) default hkl
  refine aa ?_
  refine dA (_) rfl ((.ro hs)) ?_
  refine i8 (cs:= [_,_]) rfl (SF.op (.ro hs) (by omega)) ?_
  refine oE (pi rfl rfl rfl hcall (fun w hw=>hf w hw.below k hkl)) (fun _ _=>aa ?_)
  refine bw rfl (fun hp=>?_) (fun hp=>?_)
  ·have hp:p (aY l k)=true:=hp
   refine aa ?_
   intro w hw
   refine⟨(k:Int),?_,rfl,hw⟩
   have h2:l.any p=true:=dL.2 ⟨_,oN hkl,hp⟩
   rw[h2]
   exact decide_eq_true (by omega)
  have hp:p (aY l k)=false:=hp
  refine aa ?_
  refine dm (k+1) ((by refine⟨by omega,?_⟩;rw[hsn,hno];exact hp)) (by show _ - _<_ - _;omega)
 obtain rfl:k=l.length:=by omega
 refine aa ?_
 intro w hw
 refine⟨-1,?_,rfl,hw⟩
 rw[bL] at hno
 rw[hno]
 rfl
theorem uL (A:Option Addr) (c:Nat) (l:List aM) (f:FuncId) (cap:Array Value) (p:aM->Bool) (w:World) (hs:Sl w (.slice A l.length c) l) (hcall:∀a w,(callFunc f a).run Tryz.prog w= .ok (.enter f a) w)
  (hf:∀w1,Below w.heap.size w w1->∀k,k<l.length->Calls Tryz.prog f ([Value.agg #[.int .i64 (aY l k).c,.int .i64 (aY l k).a]]++cap.toList).toArray w1 fun e w'=>e= .returned (.bool (p (aY l k)))/\Below w1.heap.size w1 w') :
  Calls Tryz.prog 206 #[.slice A l.length c,.func (.func f) #[] cap] w fun e w'=>e= .returned (.bool (l.any p))/\Below w.heap.size w w':=by
 refine enter Tryz.func206 rfl Tryz.ntmps206 rfl<|aa ?_
 refine eI rfl Tryz.call251 (fun w hw=>AO A c l f cap p w (hw.ro hs) hcall (fun w1 h1=>hf w1 (hw.below.trans (h1.mono hw.le)))) (fun r hr=>aa ?_)
 intro w hw
 exact⟨aQ hr,hw.below⟩
def GA (l:List aM):Int:=if cQ l=0 then (if l.length=0 then 5 else 0) else cQ l
def HG (l:List aM) (i:Nat):Int:=if GA l=0 then (if (l.take i).any (BK l.length) then 3 else 0) else GA l
end
section
theorem qz (n:Int):ay (fP n):=by unfold fP ay;omega
theorem uE (b:UInt8) (r:List UInt8):ay (aH b r).1.c/\ay (aH b r).1.a:=by
 have hb:=b.toNat_lt
 have h0:ay (b.toNat:Int):=by unfold ay;omega
 have h1:ay 0:=by unfold ay;omega
 unfold aH
 split
 ·exact⟨h0,h1⟩
 split
 ·exact⟨h0,h1⟩
 refine⟨h0,?_⟩
 dsimp only
 split
 ·exact qz _
 exact h1
theorem tF (k:Nat):∀(r:List UInt8) (out:List aM),(∀o∈out,ay o.c/\ay o.a)->out.length<=40->(∀o∈(a7 k r out).1,ay o.c/\ay o.a)/\(a7 k r out).1.length<=40:=by
 induction k with
 | zero=>intro r out h h40;cases r <;> simp[a7] <;> first | exact⟨h,h40⟩ | skip
 | succ k ih=>
  intro r out h h40
  cases r with
  | nil=>simpa [a7] using ⟨h,h40⟩
  | cons b r=>
   simp only[a7]
   split
   ·simp
   split
   ·simp
   rename_i h41
   refine ih _ _ (fun o ho=>?_) (by simp at h41⊢;omega)
   rcases cE.1 ho with ho | ho
   ·exact h o ho
   simp at ho;subst ho;exact uE b r
theorem eZ (l:List UInt8):(∀o∈(aF l).1,ay o.c/\ay o.a)/\(aF l).1.length<=40:=tF _ _ _ (by simp) (by simp)
theorem vC {W:World} {base:Nat} {v:Value} {xs:List aM} (h:W.ownsRow base 86 2 v xs.length (xs.flatMap ei)) (hi:∀o∈xs,ay o.c/\ay o.a) (hl:xs.length<=40):Sl W v xs:=
 E5 ei h (fun o ho=>⟨rfl,hi o ho⟩) (by omega)
theorem wO (l:List UInt8) (w:World) (hl:l.length<=140737488355320):Calls Tryz.prog 41 #[.string ⟨l.toArray⟩] w fun e w'=>
  ∃v,e= .returned (.tuple #[v,.int .i64 (aF l).2])/\Below w.heap.size w w'/\Sl w' v (aF l).1/\w'.ownsRow w.heap.size 86 2 v (aF l).1.length ((aF l).1.flatMap ei):=
 (callsIn_wide.1 (yP l w hl)).mono fun e w' ⟨v,h1,h2,h3⟩=>⟨v,h1,h2,vC h3 (eZ l).1 (eZ l).2,oL h3 (by omega)⟩
theorem F0 (l:List UInt8) (w:World) (hl:l.length<=140737488355320):Calls Tryz.prog 144 #[.string ⟨l.toArray⟩] w fun e w'=>
  ∃v,e= .returned (.tuple #[v,.int .i64 (aF l).2])/\Below w.heap.size w w'/\Sl w' v (aF l).1/\w'.ownsRow w.heap.size 86 2 v (aF l).1.length ((aF l).1.flatMap ei):=
 (uu l w hl).mono fun _ _ ⟨v,h1,h2,h3⟩=>⟨v,h1,h2,vC h3 (eZ l).1 (eZ l).2,h3⟩
theorem Au {α:Type} [bd α] {W:World} {base:Nat} {v:Value} {xs:List α} (h:W.ownsRow base (Ow.ty α) (ak.k α) v xs.length (xs.flatMap bd.enc)) (hwf:∀x∈xs,bd.wf x) (hl:xs.length<=140737488355328):cM W base v xs:=by
 have hlen:∀x∈xs,(bd.enc x).length=ak.k α:=fun x hx=>ak.len (bd.rep_iff.2 ⟨rfl,hwf x hx⟩:ak.rep W 0 (bd.enc x) x)
 refine cM.of_zs h h.1 (fun i x hx=>?_) hl
 have hxm:=dJ hx
 refine bd.own_iff.2 ⟨⟨?_,hwf x hxm⟩,fun _ h=>h⟩
 apply db
 intro j
 by_cases hj:j<ak.k α
 ·have hi:j<(bd.enc x).length:=by rw[hlen x hxm];exact hj
  have:=iN bd.enc (ak.k α) xs hlen i x j _ hx (ae hi)
  rw[bO,if_pos hj,bC,this,ae hi]
 rw[aB (by rw[am];omega),aB (by rw[hlen x hxm];omega)]
theorem wN (l:List UInt8) (w:World) (hl:l.length<=140737488355320):Calls Tryz.prog 41 #[.string ⟨l.toArray⟩] w fun e w'=>
  ∃v,e= .returned (.tuple #[v,.int .i64 (aF l).2])/\Below w.heap.size w w'/\cM w' w.heap.size v (aF l).1:=
 (wO l w hl).mono fun e w' ⟨v,h1,h2,_,h3⟩=>⟨v,h1,h2,Au h3 (eZ l).1 (by have:=(eZ l).2;omega)⟩
end
section
def pt:List aM:= [⟨1,3⟩,⟨3,0⟩,⟨20,0⟩,⟨1,1⟩,⟨6,0⟩,⟨3,0⟩,⟨11,8⟩,⟨10,1⟩,⟨2,0⟩,⟨13,0⟩]
theorem Da (l:List aM) (h:(l.all fun o=>decide (ay o.c/\ay o.a))=true):∀o∈l,bd.wf o:=fun o ho=>by
 have:=of_decide_eq_true (kT.1 h o ho)
 exact this
theorem AG (w:World):Calls Tryz.prog 92 #[] w fun e w'=> ∃g:Nat,True/\e= .returned (.slice (some ⟨g,0,none⟩) 10 10)/\Cw w.heap.size w [af (.slice (some ⟨g,0,none⟩) 10 10) pt] w':=by
 refine enter Tryz.func92 rfl Tryz.ntmps92 rfl<|aa ?_
 refine fun g1 _=>aa ?_
 intro w hw
 replace hw:=(fun w h=>bj (α:=aM) (m:=10) pt rfl (Da _ (by decide)) rfl (by decide) h) w hw
 exact⟨g1,trivial,rfl,hw⟩
end
end Go.Proofs.YthfkmcbblnbfaaaGreatDoor
