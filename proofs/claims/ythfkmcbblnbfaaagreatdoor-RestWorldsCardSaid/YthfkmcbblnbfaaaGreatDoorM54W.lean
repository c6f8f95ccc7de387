/- Lemmas of one proof. -/
import Derived.Test.YthfkmcbblnbfaaaGreatDoorM90W
import Derived.Test.YthfkmcbblnbfaaaGreatDoorM0W
import Derived.Test.YthfkmcbblnbfaaaGreatDoorM53W
import Derived.Test.YthfkmcbblnbfaaaGreatDoorM44W

namespace Go.Proofs.YthfkmcbblnbfaaaGreatDoor
set_option maxRecDepth 100000
set_option maxHeartbeats 16000000
open Go.RowKit
section
def xQ (l:List av):Prop:=l.length*112<=140737488355328/\∀m∈l,Bp m
theorem xQ.w {l:List av} (h:xQ l):oI l:=⟨h.1,fun m b=>(h.2 m b).f⟩
theorem ik (d:Option Addr) (h n:Nat) (l:List av) (K:l.length=n) (v:xQ l) (w:World) (j:Sl w (ac d n h) l) :
  Calls Tryz.prog 36 #[.agg #[ac d n h]] w fun e w'=> ∃g:Option Addr×Nat,True/\e= .returned (.agg #[ac g.1 n g.2])/\Cw w.heap.size w [an (ac g.1 n g.2) l] w':=by
 subst K;have:=bx j;have:=v.1;refine enter Tryz.func36 rfl Tryz.ntmps36 rfl<|aj ?_;refine fun r _=>aj ?_;refine fun t _=>aj ?_;refine fun u _=>aj ?_;refine dm (fun w E=>Cw.nilO av E) ?_;refine cZ (fun g:Nat×Option Addr×Nat=>g.1<=l.length) (fun g=>l.length - g.1) (fun g=> [(1,af r),(2,af t),(3,af u),(4,ai (g.1:Int))]) (fun g=> [ak u [ac g.2.1 (l.take g.1).length g.2.2] 27,ag g.2.1 g.2.2 (l.take g.1),ak r [ac d l.length h] 27,ak t [ac none 0 0] 27]) (0,none,0) (aS _) ?_;rintro⟨k,y,C⟩ I
 try dsimp only
 have:k<=l.length:=I;have:(l.take k).length=k:=by rw[aB];omega
 refine ax (fun J=>?_) (fun J=>?_)
 ·have i:k<l.length:=ω;obtain⟨a,p,G⟩:=j.mc i;have L:l.take (k+1)=l.take k++ [ay l k]:=rJ i;have F:aI (ay l k).S/\aI (ay l k).T:=⟨p.s,p.t⟩
  refine aj ?_;refine bq [0,3,6,9,12,15,18,23,26,29,31,35] [9,10,11] rfl<|aj ?_;refine tE rfl (aX (k:=k) dz cn (.ro j) ω rfl rfl rfl) ?_;refine tE rfl (eC (G _) rfl rfl jQ cn) ?_;refine jc rfl rfl xS (fun w q=>ya a (ay l k) w (p.ro q) (v.2 _ (gA i))) (fun b _=>aj ?_);intro N _;refine pE rfl (cz (α:=av) (bytes:=112) (ay l k) (ae b (ay l k) []) L dz (aU kl) rfl (sT fc fc fc fc fc fc) (nX F) ω ω rfl rfl rfl) (fun⟨z,D⟩ _=>?_);refine aP ?_;refine cG (k+1,z,D) (by show k+1<=_;omega) (by show _ - _<_ - _;omega)
 obtain rfl:k=l.length:=ω;rw[aR];refine aj ?_;intro w q;exact⟨(y,C),trivial,rfl,q.msub ms⟩
def Ep (p:Value×List av):aO:=an p.1 p.2
def O8 (L:List (Value×List av)):aO:=aO.pack (L.map Ep)
section
variable {P:Program} {n:NF} {B:Nat} {w0:World} {Q:Exit->Act->World->Prop} {env:cS} {H H':List aO} {x:Code}
theorem OD {L:List (Value×List av)} {k:Nat} {v:Value} {l:List av} (e:L[k]? =some (v,l)) (p:cu H (O8 (L.drop k)) H') (h:CW P n B w0 x Q env (an v l::O8 (L.drop (k+1))::H')):CW P n B w0 x Q env H:=fun a b i q=>by
 obtain⟨j,e⟩:=bt.1 e;have d:=q.perm p;rw[fT j,e] at d;have g:Cw B w0 ((L.drop (k+1)).map Ep++an v l::H') b:=(Cw.unpack (show Cw B w0 (aO.pack (Ep (v,l)::(L.drop (k+1)).map Ep)::H') b from d)).perm List.perm_middle.symm;exact h a b i ((Cw.pack g).perm (List.Perm.swap ..))
theorem OE {l:List (eZ×av)} {k:Nat} (t:gP l) (j:k<l.length) (b:cu H (cJ (l.drop k)) H') (h:∀a:MA,l[k].1=kW a l[k].2->CW P n B w0 x Q env (RM a l[k].2 (cJ (l.drop (k+1))::H'))):CW P n B w0 x Q env H:=fun q p r v=>by
 have e:=v.perm b;rw[fT j] at e;have u:gP (l[k]::l.drop (k+1)):=fun w b=>t w (by rw[<-fT j] at b;exact List.mem_of_mem_drop b);obtain⟨a,d⟩:=En u (i:=0) (Nat.succ_pos _) e;simp only[List.getElem_cons_zero] at d;have g:Cw B w0 (an l[k].1.fv l[k].2.F::an l[k].1.bv l[k].2.B::an l[k].1.iv l[k].2.I::an l[k].1.ov l[k].2.out::(cJ (l.drop (k+1))::H')) p:=uH e;rw[d] at g;exact h a d q p r g
theorem OF {l:List (qY×aw)} {k:Nat} (g:k<l.length) (i:cu H (cJ (l.drop k)) H') (h:CW P n B w0 x Q env (an l[k].1.v1 l[k].2.L::an l[k].1.v2 l[k].2.C::cJ (l.drop (k+1))::H')):CW P n B w0 x Q env H:=fun d p e j=>by
 have b:=j.perm i;rw[fT g] at b;exact h d p e (uH b)
end
theorem Mq {β γ:Type} {l:List (β×γ)} {i:Nat} (hi:i<l.length) (d:β):(l.map Prod.fst).getD i d=l[i].1:=by
 rw[ap,dd,aq hi];rfl
end
section
def ou (s:List UInt8):Int:=if (gE s).2=0 then dZ (gE s).1 else (gE s).2
def ly (s:List UInt8) (n:Int):Int:=if ou s=0/\(n<1\/4<n) then 3 else ou s
def ja (s:List UInt8) (n:Int):(List aw×List av)×Int:=if ly s n=0 then (((gE s).1,List.replicate n.toNat (gg (gE s).1)),0) else (([],[]),ly s n)
theorem Nx {α:Type} (x:α) (k:Nat):List.replicate (k+1) x=List.replicate k x++ [x]:=List.replicate_succ' ..
theorem zf (s:List UInt8) (n:Int) (U:s.length<=140737488355320) (w:World) :
  Calls Tryz.prog 19 #[.string ⟨s.toArray⟩,ai n] w fun e w'=> ∃g:(Option Addr×Nat)×Option Addr×Nat,True/\e= .returned (.tuple #[.agg #[ac g.1.1 (ja s n).1.1.length g.1.2],.agg #[ac g.2.1 (ja s n).1.2.length g.2.2],ai (ja s n).2])/\
   Cw w.heap.size w [an (ac g.1.1 (ja s n).1.1.length g.1.2) (ja s n).1.1,an (ac g.2.1 (ja s n).1.2.length g.2.2) (ja s n).1.2] w':=by
 obtain⟨fs,L⟩:∃fs,(gE s).1=fs:=⟨_,rfl⟩
 have v:ou s=if (gE s).2=0 then dZ fs else (gE s).2:=by unfold ou;rw[L]
 have R:=fun w=>qv s w U;rw[L] at R;refine enter Tryz.func19 rfl Tryz.ntmps19 rfl<|aj ?_;refine fun r _=>aj ?_;refine fun t _=>aj ?_;refine oE (fl rfl rfl rfl T6 (fun w y=>R w)) (fun⟨b,d⟩ _=>?_);refine aP ?_;intro p _;refine dN (dk _ fc MP rfl rfl rfl rfl rfl (by rfl) rfl (by rfl)) rfl rfl (fun _ _=>?_);refine aC ?_;refine bL<|dG (fun _:Unit=>True) (fun _=> [(1,ai n),(4,af r),(5,af t),(7,af p),(8,ai (ou s))]) (fun _=> [ak r [ac none 0 0] 24,ak t [ac none 0 0] 27,ak p [ac b fs.length d] 24,ag b d fs]) ?_ ?_
 ·refine ax (fun q=>?_) (fun q=>?_)
  ·have q:(gE s).2=0:=q;rw[if_pos q] at v;refine aj ?_;refine cO rfl J9 (fun w y=>qC b d fs w (SF.at_ (SF.own rfl fc) y))<|aj ?_;rw[<-v];refine lq () trivial
  have q:¬(gE s).2=0:=q;rw[if_neg q] at v;rw[<-v];refine aj ?_;refine bX () trivial
 rintro⟨⟩ _;refine dG (fun _:Unit=>True) (fun _=> [(1,ai n),(4,af r),(5,af t),(7,af p),(8,ai (ly s n))]) (fun _=> [ak r [ac none 0 0] 24,ak t [ac none 0 0] 27,ak p [ac b fs.length d] 24,ag b d fs]) ?_ ?_
 ·refine dh 21 (fun z=>?_) (fun z=>?_)
  ·have z:ou s=0:=of_decide_eq_true z;refine dh 24 (fun D=>?_) (fun D=>?_)
   ·have D:n<1:=of_decide_eq_true D;have C:ly s n=3:=by unfold ly;rw[if_pos ⟨z,.inl D⟩]
    rw[C];refine aj ?_;refine be rfl<|aj ?_;refine lq () trivial
   have D:¬n<1:=of_decide_eq_false D;refine ax (fun E=>?_) (fun E=>?_)
   ·have E:4<n:=E;have C:ly s n=3:=by unfold ly;rw[if_pos ⟨z,.inr E⟩]
    rw[C];refine aj ?_;refine lq () trivial
   have E:¬4<n:=E;have C:ly s n=ou s:=by unfold ly;rw[if_neg (fun i=>i.2.elim D E)]
   rw[C];refine aj ?_;refine bX () trivial
  have z:¬ou s=0:=of_decide_eq_false z;have C:ly s n=ou s:=by unfold ly;rw[if_neg (fun i=>z i.1)]
  rw[C];refine aj ?_;refine cA rfl<|aj ?_;refine bX () trivial
 rintro⟨⟩ _;refine cU (fun h=>?_) (fun h=>?_)
 ·have h:¬ly s n=0:=h;have K:ja s n=(([],[]),ly s n):=by unfold ja;rw[if_neg h]
  rw[K];refine aj ?_;intro w y;exact⟨((none,0),(none,0)),trivial,rfl,(Cw.nilO aw (Cw.nilO av y)).msub ms⟩
 have h:ly s n=0:=h;obtain⟨q,ad,al⟩:ou s=0/\1<=n/\n<=4:=by
  unfold ly at h
  split at h
  ·cases h
  rename_i i;exact⟨h,ω,ω⟩
 obtain⟨j,rfl⟩:=nS (show 0<=n by omega);have M:dZ fs=0:=by
  rw[q] at v
  split at v
  ·exact v.symm
  rename_i i;exact absurd v.symm i
 have K:ja s (j:Int)=((fs,List.replicate j (gg fs)),0):=by unfold ja;rw[if_pos h,L];rfl
 rw[K];have G:=pZ M;refine aj ?_;refine fun F _=>aj ?_;refine dm (fun w i=>Cw.nilO av i) ?_;have V:(au fs 0).L.length<=1000:=by have:=((kb (qn M).p G).1.op 0 (kb (qn M).p G).2).par 0 G |>.2;omega
 have S:aI (gg fs).S/\aI (gg fs).T:=by show aI 0/\aI 0;decide
 refine cZ (fun g:Nat×Option Addr×Nat=>g.1<=j) (fun g=>j - g.1) (fun g=> [(4,af r),(5,af t),(7,af p),(9,af F),(34,ai (j:Int)),(35,ai (g.1:Int))]) (fun g=> [ak r [ac none 0 0] 24,ak t [ac none 0 0] 27,ak p [ac b fs.length d] 24,ag b d fs,ak F [ac g.2.1 (List.replicate g.1 (gg fs)).length g.2.2] 27,ag g.2.1 g.2.2 (List.replicate g.1 (gg fs))]) (0,none,0) (aS _) ?_;rintro⟨k,N,O⟩ T
 try dsimp only
 have:k<=j:=T;have:(List.replicate k (gg fs)).length=k:=List.length_replicate;refine ax (fun W=>?_) (fun W=>?_)
 ·have:k<j:=ω;refine fq (fm ?_);refine dG (fun _:Option Addr×Nat=>True) (fun g=> [(4,af r),(5,af t),(7,af p),(9,af F),(34,ai (j:Int)),(35,ai (k:Int))]) (fun g=> [ak r [ac none 0 0] 24,ak t [ac none 0 0] 27,ak p [ac b fs.length d] 24,ag b d fs,ak F [ac g.1 (List.replicate (k+1) (gg fs)).length g.2] 27,ag g.1 g.2 (List.replicate (k+1) (gg fs))]) ?_ ?_
  ·refine aj ?_;refine bq [0,3,6,11,14,17,19,23] [5,6,7] rfl<|aj ?_;refine jc rfl rfl Tryz.call73 (fun w y=>EW b d fs w (SF.at_ (SF.own rfl fc) y) G V) (fun u _=>aj ?_);intro X _;refine pE rfl (cz (α:=av) (bytes:=112) (gg fs) (ae u (gg fs) []) (Nx (gg fs) k) dz (aU kl) rfl (sT fc fc fc fc fc fc) (nX S) ω ω rfl rfl rfl) (fun⟨I,J⟩ _=>?_);refine aP ?_;refine bX (I,J) trivial (hh:=(fun _ i=>i.msub ms))
  rintro⟨I,J⟩ _;refine aP ?_;refine cG (k+1,I,J) (by show k+1<=_;omega) (by show _ - _<_ - _;omega)
 obtain rfl:k=j:=ω;refine aj ?_;refine eP [0,3,8,11,13] [3,4] rfl [ak p [ac b fs.length d] 24,ak F [ac N (List.replicate k (gg fs)).length O] 27]<|aj ?_;intro w y;exact⟨((b,d),(N,O)),trivial,rfl,y.msub ms⟩
end
section
def ix (l:List Int):List UInt8:=aW l.length::l.flatMap eO
def iJ (v:aD):List UInt8:=aW (if v.ref=true then 1 else 0)::eO v.n
def jD (l:List aD):List UInt8:=aW l.length::l.flatMap iJ
def jd (x:aK):List UInt8:=aW x.func::aW x.pc::(jD x.L++jD x.K)
def lJ (m:av):List UInt8:=
 aW m.S::aW m.T::(ix m.I++(ix m.out++(aW m.B.length::(m.B.flatMap ix++(aW m.F.length::m.F.flatMap jd)))))
abbrev mS (α:Type):=List UInt8->Option (α×List UInt8)
def na:mS Int
 | []=>none
 | b::l=>some ((b.toNat:Int),l)
def nK:mS Int:=fun s=>if s.length<4 then none else some (en (s.take 4),s.drop 4)
def im {α:Type} (p:mS α):Nat->mS (List α)
 | 0,s=>some ([],s)
 | k+1,s=>match p s with
  | none=>none
  | some (x,r)=>match im p k r with
   | none=>none
   | some (l,t)=>some (x::l,t)
def jX {α:Type} (p:mS α):mS (List α):=fun s=>match na s with
 | none=>none
 | some (n,r)=>im p n.toNat r
def mP:mS (List Int):=jX nK
def jS:mS aD:=fun s=>match na s with
 | none=>none
 | some (n,r)=>if 1<n then none else match nK r with
  | none=>none
  | some (z,t)=>some (⟨decide (n=1),z⟩,t)
def pP:mS (List aD):=jX jS
def jw:mS aK:=fun s=>match na s with
 | none=>none
 | some (f,s1)=>match na s1 with
  | none=>none
  | some (p,s2)=>match pP s2 with
   | none=>none
   | some (l,s3)=>match pP s3 with
    | none=>none
    | some (t,s4)=>some (⟨f,p,l,t⟩,s4)
def mR:mS av:=fun s=>match na s with
 | none=>none
 | some (st,s1)=>match na s1 with
  | none=>none
  | some (tr,s2)=>match mP s2 with
   | none=>none
   | some (i,s3)=>match mP s3 with
    | none=>none
    | some (o,s4)=>match jX mP s4 with
     | none=>none
     | some (b,s5)=>match jX jw s5 with
      | none=>none
      | some (f,s6)=>some (⟨f,b,i,o,st,tr⟩,s6)
def kB (s:List UInt8):Option av:=match mR s with
 | none=>none
 | some (m,r)=>if r= [] then some m else none
def pC {α:Type} (p:mS α) (x:α) (b:List UInt8):Prop:= ∀r,p (b++r)=some (x,r)
theorem rS {n:Int} (h:0<=n/\n<=255):pC na n [aW n]:=fun b=>by
 show some ((((aW n).toNat:Nat):Int),b)=_;rw[FM h]
theorem zi (n:Int):(eO n).length=4:=rfl
theorem Fc {n:Int} (h:bT n=true):pC nK n (eO n):=fun b=>by
 unfold nK;rw[if_neg (by rw[ar,zi];omega),List.take_left' (zi n),List.drop_left' (zi n),vN n h]
theorem EZ {α:Type} {p:mS α} {f:α->List UInt8} :∀(l:List α),(∀x∈l,pC p x (f x))->pC (im p l.length) l (l.flatMap f)
 | [],_=>fun r=>rfl
 | x::l,h=>fun r=>by
  rw[bC,im,fH,bA,h x (by simp),];simp only;rw[EZ l (fun y b=>h y (by simp[b]))]
theorem uC {α:Type} {p:mS α} {f:α->List UInt8} (l:List α) (d:l.length<=255) (h:∀x∈l,pC p x (f x)):pC (jX p) l (aW l.length::l.flatMap f):=fun b=>by
 unfold jX;have:=rS (n:=l.length) ω (l.flatMap f++b);rw[vG] at this;rw[eQ,this];simp only[bu];exact EZ l h b
theorem za {l:List Int} (b:l.length<=255) (h:∀n∈l,bT n=true):pC mP l (ix l):=uC l b fun n d=>Fc (h n d)
theorem Ki {v:aD} (h:bT v.n=true):pC jS v (iJ v):=fun e=>by
 obtain⟨b,n⟩:=v;unfold jS iJ;have d:=rS (n:=if b=true then 1 else 0) (by cases b <;> decide) (eO n++e);rw[vG] at d;rw[eQ,d];simp only;rw[if_neg (by cases b <;> decide),Fc h]
 cases b <;> rfl
theorem zA {l:List aD} (b:l.length<=255) (h:∀v∈l,bT v.n=true):pC pP l (jD l):=uC l b fun n d=>Ki (h n d)
structure Pb (x:aK):Prop where
 f:0<=x.func/\x.func<=255
 p:0<=x.pc/\x.pc<=255
 l:x.L.length<=255/\∀v∈x.L,bT v.n=true
 s:x.K.length<=255/\∀v∈x.K,bT v.n=true
theorem LP {x:aK} (h:Pb x):pC jw x (jd x):=fun e=>by
 unfold jw jd;have b:=rS h.f (aW x.pc::(jD x.L++jD x.K)++e);rw[vG] at b;rw[eQ,b];have d:=rS h.p ((jD x.L++jD x.K)++e);rw[vG] at d;rw[eQ,];simp only;rw[d];simp only;rw[bA,zA h.l.1 h.l.2];simp only;rw[zA h.s.1 h.s.2]
structure MI (m:av):Prop where
 s:0<=m.S/\m.S<=255
 t:0<=m.T/\m.T<=255
 i:m.I.length<=255/\∀n∈m.I,bT n=true
 o:m.out.length<=255/\∀n∈m.out,bT n=true
 b:m.B.length<=255/\∀l∈m.B,l.length<=255/\∀n∈l,bT n=true
 f:m.F.length<=255/\∀x∈m.F,Pb x
theorem N1 {m:av} (h:MI m):pC mR m (lJ m):=fun b=>by
 have d:=fun b=>rS h.s b;have e:=fun b=>rS h.t b;have i:=uC (p:=mP) m.B h.b.1 fun l g=>za (h.b.2 l g).1 (h.b.2 l g).2;have j:=uC (p:=jw) m.F h.f.1 fun x q=>LP (h.f.2 x q);simp only[vG] at d e;unfold mR lJ;rw[eQ,d];simp only;rw[eQ,e];simp only;rw[bA,za h.i.1 h.i.2];simp only;rw[bA,za h.o.1 h.o.2];simp only;rw[show (aW m.B.length::(m.B.flatMap ix++(aW m.F.length::m.F.flatMap jd)))++b=(aW m.B.length::m.B.flatMap ix)++((aW m.F.length::m.F.flatMap jd)++b) from by simp,i];simp only;rw[j]
theorem IF {m:av} (h:MI m):kB (lJ m)=some m:=by
 unfold kB;have:=N1 h [];rw[et] at this;rw[this];rfl
theorem Qh {s:List UInt8} {x:Int} {r:List UInt8} (h:na s=some (x,r)):0<=x/\x<=255:=by
 cases s with
 | nil=>cases h
 | cons b l=>
  obtain⟨rfl,rfl⟩:(b.toNat:Int)=x/\l=r:=by simpa [na] using h
  have:=b.toNat_lt;omega
theorem CG {α:Type} {p:mS α} :∀k s x r,im p k s=some (x,r)->x.length=k
 | 0,s,x,r,e=>by
  obtain⟨rfl,rfl⟩: []=x/\s=r:=by simpa [im] using e
  rfl
 | k+1,s,x,r,e=>by
  unfold im at e
  split at e
  ·cases e
  rename_i g i h
  split at e
  ·cases e
  rename_i l d b;obtain⟨rfl,rfl⟩:g::l=x/\d=r:=ψ e;rw[bC,CG k _ _ _ b]
theorem DU {nb:Nat} {v:aD} (b:nb<=8) (h:fA nb v=true):bT v.n=true:=by
 unfold fA at h
 split at h
 ·have:=dL.1 h;unfold bT;simp only[dC,decide_eq_true_eq];omega
 exact h
theorem Mh {l:List (List Int)} {x:List Int} (h:x∈l):x.length<=dq l:=by
 unfold dq
 induction l with
 | nil=>cases h
 | cons d l b=>
  rw[eM,B9];rcases eo.1 h with rfl | h
  ·omega
  have:=b h;omega
theorem M1 {fs:List aw} {l:List aK} {i:Nat} {t:List Int} (h:iX fs l i=some t):∃b,gh fs (kh fs l i) (aQ l i).pc=some b:=by
 unfold iX at h
 split at h
 ·exact⟨t,h⟩
 split at h
 ·cases h
 split at h
 ·cases h
 cases h5:gh fs (kh fs l i) (aQ l i).pc with
 | none=>rw[h5] at h;cases h
 | some b=>exact⟨b,rfl⟩
theorem O4 {fs:List aw} (b:fP fs) {m:av} (h:bU fs m) {i:Nat} (hi:i<m.F.length):Pb (aQ m.F i):=by
 obtain⟨D,u,p,t⟩:=h.fr i hi;obtain⟨E,q⟩:=M1 u;have:=h.fn _ (fJ hi);have d:(aQ m.F i).func.toNat<fs.length:=ω;have:fs.length<=5:=by
  have:=b.p;unfold dp at this
  split at this
  ·cases this
  split at this
  ·cases this
  omega
 obtain⟨p0,p1,_⟩:=(b.e _ d).at_ _ _ q;have:=(kb b.p d).1.n40;have:=(lj ((iE b.p).2.2 _ (jN d))).1;have j:=(gS h.bl).1;have:=(vk b h hi).1;have r:=p.len;unfold kh at r;exact⟨ω,ω,⟨ω,fun g e=>DU j (p.val g e)⟩,⟨ω,fun g e=>DU j (t.val g e)⟩⟩
theorem Ev {fs:List aw} (hF:fP fs) {m:av} (h:bU fs m):MI m where
 s:=by have:=h.st;omega
 t:=by
  by_cases e:m.S=3
  ·have:=h.t3 e;omega
  have:=h.t0 e;omega
 i:=⟨by have:=h.ib;omega,h.ii⟩
 o:=⟨by have:=h.ob;omega,h.oi⟩
 b:=by
  obtain⟨h1,h2,h3⟩:=mF h.bl;refine⟨by omega,fun l hl=>⟨by have:=Mh hl;omega,fun n hn=>?_⟩⟩;refine dM fun hno=>?_;have:m.B.any dw=true:=de.2 ⟨l,hl,by unfold dw;exact de.2 ⟨n,hn,by simpa using hno⟩⟩;rw[h3] at this
  cases this
 f:=by
  refine⟨by have:=h.n6;omega,fun x hx=>?_⟩;obtain⟨i,hi,rfl⟩:=cC hx;have:=O4 hF h hi;unfold aQ at this
  rwa [ap,aq hi] at this
end
section
section
variable {B:Nat} {w0:World} {H:List aO}
def JX (B:Nat) (w0:World) (H:List aO) (gb:Nat) (bs:List UInt8) (e:Ending) (w':World):Prop:= ∃g:Option Addr×Nat,True/\e= .returned (.tuple #[])/\Cw B w0 (ak gb [.slice g.1 bs.length g.2] 228::an (.slice g.1 bs.length g.2) bs::H) w'
theorem oA (e:Nat) (xs:List Int) (A:Option Addr) (c:Nat) (i:SF B w0 H A xs.length c xs) (bs:List UInt8) (Ab:Option Addr) (cb:Nat) (z:bs.length+xs.length<=1000000) (w:World) (g:Cw B w0 (ak e [ac Ab bs.length cb] 228::an (ac Ab bs.length cb) bs::H) w) :
  Calls Tryz.prog 171 #[af e,ac A xs.length c] w (JX B w0 H e (bs++xs.map aW)):=by
 refine bI Tryz.func171 rfl Tryz.ntmps171 rfl g<|aj ?_;refine cZ (fun b:Nat×Option Addr×Nat=>b.1<=xs.length) (fun b=>xs.length - b.1) (fun b=> [(0,af e),(6,ac A xs.length c),(7,ai (xs.length:Int)),(8,ai (b.1:Int))]) (fun b=> [ak e [ac b.2.1 (bs++(xs.take b.1).map aW).length b.2.2] 228,ag b.2.1 b.2.2 (bs++(xs.take b.1).map aW)]++H) (0,Ab,cb) (aS _) ?_ (hh:=(fun _ h=>ψ h));rintro⟨d,p,r⟩ t
 try dsimp only
 have:d<=xs.length:=t;have:(bs++(xs.take d).map aW).length<=bs.length+xs.length:=by rw[ar,aL,aB];omega
 refine ax (fun v=>?_) (fun v=>?_)
 ·have u:d<xs.length:=ω;refine aj ?_;refine cP _ rfl ((.s (.s i))) ?_;refine nj rfl ((.s (.s i)))<|aj ?_;refine sE (K0 vV rg rfl rfl)<|aj ?_;intro y _;refine oE (cz (α:=UInt8) (bytes:=1) (aW (xs.getD d 0)) [] (EY u) mI (aU qO) rfl (eG fc fc) (dt trivial) ω ω rfl rfl rfl) (fun⟨j,q⟩ _=>?_);refine aP ?_;refine cG (d+1,j,q) (by show d+1<=_;omega) (by show _ - _<_ - _;omega) (hh:=(fun _ h=>h.msub ms))
 obtain rfl:d=xs.length:=ω;refine aj ?_;intro w g;refine⟨(p,r),trivial,rfl,?_⟩;rw[aR] at g;exact g.msub ms
theorem rB {α:Type} {f:α->List UInt8} {l:List α} {k:Nat} (e:k<l.length) (d:α) (b:List UInt8):b++(l.take (k+1)).flatMap f=(b++(l.take k).flatMap f)++f (l.getD k d):=by
 rw[dI e,oK,bA,ap,aq e];simp
theorem vm {α:Type} {f:α->List UInt8} {m:Nat} (l:List α) (h:∀x∈l,(f x).length<=m) (k:Nat):((l.take k).flatMap f).length<=m*l.length:=by
 induction l generalizing k with
 | nil=>simp
 | cons x l d=>
  cases k with
  | zero=>simp
  | succ k=>
   have:=h x σ;have:=d (fun e b=>h e (by simp[b])) k;rw[is,fH,ar,bC,Nat.mul_add];omega
theorem wP {α:Type} {f:α->List UInt8} {m:Nat} (l:List α) (h:∀x∈l,(f x).length<=m):(l.flatMap f).length<=m*l.length:=by
 have:=vm l h l.length
 rwa [aR] at this
theorem Ll (l:List Int):(ix l).length=1+(l.flatMap eO).length:=by simp[ix];omega
theorem Ie (l:List Int) (k:Nat):((l.take k).flatMap eO).length<=4*l.length:=vm l (fun _ _=>aH 4) k
theorem xu (l:List aD) (k:Nat):((l.take k).flatMap iJ).length<=5*l.length:=vm l (fun _ _=>aH 5) k
theorem vZ (e:Nat) (xs:List Int) (A:Option Addr) (c:Nat) (p:bO w0 B (.slice A xs.length c) xs) (bs:List UInt8) (Ab:Option Addr) (cb:Nat) (F:bs.length+4*xs.length+1<=1000000) (w:World) (h:Cw B w0 (ak e [.slice Ab bs.length cb] 228::an (.slice Ab bs.length cb) bs::H) w) :
  Calls Tryz.prog 172 #[.pointer (some ⟨e,0,none⟩),.slice A xs.length c] w (JX B w0 H e (bs++ix xs)):=by
 have z:(bs++ [aW (xs.length:Int)]).length=bs.length+1:=by simp
 refine bI Tryz.func172 rfl Tryz.ntmps172 rfl h<|aj ?_;intro D _;refine fF (fun w g=>bN (α:=Int) (m:=1) [(xs.length:Int)] rfl (ic (by unfold aI;omega)) rfl (by decide) g) ?_;refine du rfl uv (fun w h=>oA e [(xs.length:Int)] _ _ (.own rfl .a) bs Ab cb (by show _+1<=_;omega) w (h.msub (.s fc (.s fc .r)))) (fun⟨q,t⟩ _=>?_);refine aP ?_;refine cZ (fun b:Nat×Option Addr×Nat=>b.1<=xs.length) (fun b=>xs.length - b.1) (fun b=> [(0,.pointer (some ⟨e,0,none⟩)),(11,.slice A xs.length c),(12,.int .i64 (xs.length:Int)),(13,.int .i64 (b.1:Int))]) (fun b=> [ak e [.slice b.2.1 ((bs++ [aW xs.length])++(xs.take b.1).flatMap eO).length b.2.2] 228,an (.slice b.2.1 ((bs++ [aW xs.length])++(xs.take b.1).flatMap eO).length b.2.2) ((bs++ [aW xs.length])++(xs.take b.1).flatMap eO)]++H) (0,q,t) (aS _) ?_ (hh:=(fun w g=>by have g:=g.msub (T:=ak e _ _::an _ (bs++ [aW (xs.length:Int)])::H) ms;simpa using g));rintro⟨d,i,j⟩ v
 try dsimp only
 have:d<=xs.length:=v;have:=Ie xs d;have:((bs++ [aW (xs.length:Int)])++(xs.take d).flatMap eO).length<=bs.length+1+4*xs.length:=by rw[ar,z];omega
 refine ax (fun C=>?_) (fun C=>?_)
 ·have y:d<xs.length:=by omega
  refine aj ?_;refine cP _ rfl (.ro p) ?_;refine nj rfl (.ro p)<|aj ?_;refine eP [0,3,6,9,12,15,20,23,24,27,32] [10] rfl [ak e [.slice i ((bs++ [aW (xs.length:Int)])++(xs.take d).flatMap eO).length j] 228]<|aj ?_;refine ls rfl rfl Tryz.call176 (fun w h=>zj (xs.getD d 0) w) ?_;refine pE rfl (BR (bytes:=1) (rB y 0 _) mI kM (aU qO) rfl fc (by show _+4<=_;omega) (by show (_+4)*1<=_;omega) rfl rfl rfl) (fun⟨r,u⟩ _=>?_);refine aP ?_;refine cG (d+1,r,u) (by show d+1<=_;omega) (by show _ - _<_ - _;omega) (hh:=(fun _ g=>g.msub ms))
 obtain rfl:d=xs.length:=by omega
 refine aj ?_;intro w h;refine⟨(i,j),trivial,rfl,?_⟩;rw[aR,show (bs++ [aW (xs.length:Int)])++xs.flatMap eO=bs++ix xs from by simp[ix]] at h;exact h.msub ms
theorem Cb (h:Nat) (xs:List aD) (A:Option Addr) (c:Nat) (v:bO w0 B (.slice A xs.length c) xs) (bs:List UInt8) (Ab:Option Addr) (cb:Nat) (O:bs.length+5*xs.length+3<=1000000) (w:World) (i:Cw B w0 (ak h [.slice Ab bs.length cb] 228::an (.slice Ab bs.length cb) bs::H) w) :
  Calls Tryz.prog 173 #[.pointer (some ⟨h,0,none⟩),.slice A xs.length c] w (JX B w0 H h (bs++jD xs)):=by
 have J:(bs++ [aW (xs.length:Int)]).length=bs.length+1:=by simp
 refine bI Tryz.func173 rfl Tryz.ntmps173 rfl i<|aj ?_;intro L _;refine fF (fun w g=>bN (α:=Int) (m:=1) [(xs.length:Int)] rfl (ic (by unfold aI;omega)) rfl (by decide) g) ?_;refine du rfl uv (fun w i=>oA h [(xs.length:Int)] _ _ (.own rfl .a) bs Ab cb (by show _+1<=_;omega) w (i.msub (.s fc (.s fc .r)))) (fun⟨z,E⟩ _=>?_);refine aP ?_;refine cZ (fun e:Nat×Option Addr×Nat=>e.1<=xs.length) (fun e=>xs.length - e.1) (fun e=> [(0,.pointer (some ⟨h,0,none⟩)),(12,.slice A xs.length c),(13,.int .i64 (xs.length:Int)),(14,.int .i64 (e.1:Int))]) (fun e=> [ak h [.slice e.2.1 ((bs++ [aW xs.length])++(xs.take e.1).flatMap iJ).length e.2.2] 228,an (.slice e.2.1 ((bs++ [aW xs.length])++(xs.take e.1).flatMap iJ).length e.2.2) ((bs++ [aW xs.length])++(xs.take e.1).flatMap iJ)]++H) (0,z,E) (aS _) ?_ (hh:=(fun w g=>by have g:=g.msub (T:=ak h _ _::an _ (bs++ [aW (xs.length:Int)])::H) ms;simpa using g));rintro⟨b,j,p⟩ I
 try dsimp only
 have:b<=xs.length:=I;have:=xu xs b;have:((bs++ [aW (xs.length:Int)])++(xs.take b).flatMap iJ).length<=bs.length+1+5*xs.length:=by rw[ar,J];omega
 refine ax (fun K=>?_) (fun K=>?_)
 ·have u:b<xs.length:=by omega
  obtain⟨d,t⟩:∃d,xs.getD b default=d:=⟨_,rfl⟩
  have y:=rB (f:=iJ) u default (bs++ [aW (xs.length:Int)]);rw[t] at y;refine aj ?_;refine cP _ rfl (.ro v) ?_;refine iC rfl (SF.val (.ro v) u default)<|aj ?_;refine fun q _=>aj ?_;rw[t];refine jJ (fun _:Unit=>True) (fun _=> [(0,.pointer (some ⟨h,0,none⟩)),(5,.pointer (some ⟨q,0,none⟩)),(6,.int .i64 (if d.ref=true then 1 else 0)),(12,.slice A xs.length c),(13,.int .i64 (xs.length:Int)),(14,.int .i64 (b:Int))]) (fun _=> [ak q [.bool d.ref,.int .i64 d.n] 159,ak h [.slice j ((bs++ [aW (xs.length:Int)])++(xs.take b).flatMap iJ).length p] 228,an (.slice j ((bs++ [aW (xs.length:Int)])++(xs.take b).flatMap iJ).length p) ((bs++ [aW (xs.length:Int)])++(xs.take b).flatMap iJ)]++H) ?_ ?_
  ·refine cc rfl (fun r=>?_) (fun r=>?_)
   ·rw[if_pos r];refine aj ?_;refine lq () trivial (hh:=(fun _ g=>g.msub ms))
   rw[if_neg (by rw[r];decide)];refine aj ?_;refine bX () trivial (hh:=(fun _ g=>g.msub ms))
  rintro _ _;refine aP ?_;intro M _;refine fF (fun w g=>bN (α:=Int) (m:=1) [(if d.ref=true then 1 else 0:Int)] rfl (ic (by unfold aI;split <;> omega)) rfl (by decide) g) ?_;refine du rfl uv (fun w i=>oA h [(if d.ref=true then 1 else 0:Int)] _ _ (.own rfl .a) ((bs++ [aW (xs.length:Int)])++(xs.take b).flatMap iJ) j p (by show _+1<=_;omega) w (i.msub (.s fc (.s fc .r)))) (fun⟨C,F⟩ _=>?_)
  try dsimp only
  refine bL ?_;have:(((bs++ [aW (xs.length:Int)])++(xs.take b).flatMap iJ)++ [(if d.ref=true then 1 else 0:Int)].map aW).length<=bs.length+2+5*xs.length:=by rw[ar];show _+1<=_;omega
  refine eP [0,3,6,9,12,15,18,23,26,27,30,35] [11] rfl [ak h [.slice C (((bs++ [aW (xs.length:Int)])++(xs.take b).flatMap iJ)++ [(if d.ref=true then 1 else 0:Int)].map aW).length F] 228,ak q [.bool d.ref,.int .i64 d.n] 159]<|aj ?_;refine ls rfl rfl Tryz.call176 (fun w i=>zj d.n w) ?_;refine pE rfl (BR (bytes:=1) (xs:=((bs++ [aW (xs.length:Int)])++(xs.take b).flatMap iJ)++ [(if d.ref=true then 1 else 0:Int)].map aW) (xs':=(bs++ [aW (xs.length:Int)])++(xs.take (b+1)).flatMap iJ) (by rw[y];simp[iJ]) mI kM (aU qO) rfl fc (by show _+4<=_;omega) (by show (_+4)*1<=_;omega) rfl rfl rfl) (fun⟨D,G⟩ _=>?_);refine aP ?_;refine cG (b+1,D,G) (by show b+1<=_;omega) (by show _ - _<_ - _;omega) (hh:=(fun _ g=>g.msub ms))
 obtain rfl:b=xs.length:=by omega
 refine aj ?_;intro w i;refine⟨(j,p),trivial,rfl,?_⟩;rw[aR,show (bs++ [aW (xs.length:Int)])++xs.flatMap iJ=bs++jD xs from by simp[jD]] at i;exact i.msub ms
end
end
section
abbrev U5 (s:List UInt8):Value:= .string ⟨s.toArray⟩
def rY:List PanicEntry:=S4 (.iface 231 (.agg #[]))
section
variable {B:Nat} {w0:World} {H:List aO}
def mT {α γ:Type} (B:Nat) (w0:World) (gr:Nat) (r:Option (α×List UInt8)) (val:α->γ->Value) (H':α->γ->List aO) (H:List aO) (e:Ending) (w':World):Prop:=
 (∃g:(α×List UInt8)×γ,r=some g.1/\e= .returned (val g.1.1 g.2)/\Cw B w0 (ak gr [.string ⟨g.1.2.toArray⟩] 235::H' g.1.1 g.2) w')\/∃ch,e= .panicked ch/\(r=none/\ch=rY)/\Cw B w0 H w'
theorem RC {s:List UInt8} {k:Nat} (h:k<=s.length):gJ s (k:Int)=(s.take k,s.drop k,true):=by
 unfold gJ;rw[if_neg ω,bu]
theorem RD {s:List UInt8} {k:Nat} (h:s.length<k):gJ s (k:Int)=([],[],false):=by
 unfold gJ;rw[if_pos ω]
def kR (k:Nat):mS (List UInt8):=fun s=>if s.length<k then none else some (s.take k,s.drop k)
theorem wu (gr k:Nat) (s:List UInt8) (h:s.length<=140737488355328) (w:World) (b:Cw B w0 (ak gr [.string ⟨s.toArray⟩] 235::H) w) :
  Calls Tryz.prog 280 #[af gr,ai (k:Int)] w (mT B w0 gr (kR k s) (fun a (_:Unit)=>U5 a) (fun _ _=>H) H):=by
 refine bI Tryz.func280 rfl Tryz.ntmps280 rfl b<|aj ?_;refine cO rfl Tryz.call212 (fun w b=>B5 s (k:Int) w ω h)<|aj ?_
 by_cases d:s.length<k
 ·rw[RD d];have e:kR k s=none:=by unfold kR;rw[if_pos d]
  refine cT (t:=19) (v':= .bool true) rfl rfl<|be rfl<|aj ?_;refine sE (tk MN rfl rfl) ?_;refine lW rfl rfl rfl ?_;intro a w g b;exact⟨g.2.1,.inr ⟨_,rfl,⟨e,rfl⟩,b.msub ms⟩⟩
 rw[RC ω];have e:kR k s=some (s.take k,s.drop k):=by unfold kR;rw[if_neg d]
 refine cT (t:=19) (v':= .bool false) rfl rfl<|cA rfl<|aj ?_;intro w b;exact .inl ⟨((s.take k,s.drop k),()),e,rfl,b⟩
theorem Ub {s a r:List UInt8} (h:kR 1 s=some (a,r)):∃b,s=b::r/\a= [b]:=by
 unfold kR at h
 split at h
 ·cases h
 cases s with
 | nil=>simp at *
 | cons b l=>
  simp at h;exact⟨b,by rw[h.2],h.1.symm⟩
theorem Na {s:List UInt8} (h:kR 1 s=none):na s=none:=by
 unfold kR at h
 split at h
 ·rename_i b;have:s= []:=bz ω;rw[this];rfl
 cases h
theorem xw (s:List UInt8):nK s=(kR 4 s).map fun p=>(en p.1,p.2):=by
 unfold nK kR
 split <;> rfl
theorem yH {k:Nat} {s a r:List UInt8} (h:kR k s=some (a,r)):a.length<=s.length/\r.length<=s.length:=by
 unfold kR at h
 split at h
 ·cases h
 simp at h;obtain⟨rfl,rfl⟩:=h;rw[aB,aN];omega
theorem oO (gr:Nat) (s:List UInt8) (h:s.length<=140737488355328) (w:World) (b:Cw B w0 (ak gr [.string ⟨s.toArray⟩] 235::H) w) :
  Calls Tryz.prog 225 #[af gr] w (mT B w0 gr (na s) (fun a (_:Unit)=> ai a) (fun _ _=>H) H):=by
 refine bI Tryz.func225 rfl Tryz.ntmps225 rfl b<|aj ?_;refine fR (ew rfl rfl rfl VX (fun w b=>wu gr 1 s h w b)) rfl rfl (fun _ _ _ g d=>⟨g.2.1,.inr ⟨_,rfl,⟨Na d.1.1,d.1.2⟩,d.2⟩⟩) (fun⟨⟨a,j⟩,_⟩ i=>?_)
 try dsimp only
 obtain⟨e,rfl,rfl⟩:=Ub i;refine sE (BN (k:=0) kM σ rfl rfl rfl) ?_;refine sE (K4 rg vV rfl rfl)<|aj ?_;intro w b;exact .inl ⟨(((e.toNat:Int),j),()),rfl,rfl,b⟩
theorem ko {s r:List UInt8} {z:Int} (h:na s=some (z,r)):r.length<=s.length/\(0<=z/\z<=255):=by
 have d:=Qh h
 cases s with
 | nil=>cases h
 | cons b l=>
  obtain⟨_,rfl⟩:(b.toNat:Int)=z/\l=r:=by simpa [na] using h
  exact⟨σ,d⟩
def tC {α:Type} (p:mS α):Prop:= ∀s x r,p s=some (x,r)->r.length<=s.length
theorem An {α:Type} {p:mS α} (h:tC p):∀k,tC (im p k)
 | 0=>fun s x r e=>by
  obtain⟨rfl,rfl⟩: []=x/\s=r:=by simpa [im] using e
  exact aH _
 | k+1=>fun s x r e=>by
  unfold im at e
  split at e
  ·cases e
  rename_i i j b
  split at e
  ·cases e
  rename_i l g d;obtain⟨rfl,rfl⟩:i::l=x/\g=r:=ψ e;exact dW (An h k _ _ _ d) (h _ _ _ b)
theorem uD {α:Type} {p:mS α} (h:tC p):tC (jX p):=fun s x e b=>by
 unfold jX at b
 split at b
 ·cases b
 rename_i n g d;exact dW (An h _ _ _ _ b) (ko d).1
theorem vl:tC nK:=fun s x e b=>by
 rw[xw] at b
 cases h:kR 4 s with
 | none=>rw[h] at b;cases b
 | some d=>
  rw[h] at b;obtain⟨_,rfl⟩:en d.1=x/\d.2=e:=ψ b;exact(yH h).2
theorem wh {α:Type} {p:mS α} {s r:List UInt8} {x:List α} (e:jX p s=some (x,r)):x.length<=255:=by
 unfold jX at e
 split at e
 ·cases e
 rename_i n d b;rw[CG _ _ _ _ e];have:=(ko b).2;omega
theorem Je {α:Type} {p:mS α} {b:List α} {x:α} {u:List UInt8} {n:Nat} :Option.map (fun q:List α×List UInt8=>(b++q.1,q.2)) (match im p n u with
  | none=>none
  | some (l,t)=>some (x::l,t))=(im p n u).map (fun q=>((b++ [x])++q.1,q.2)):=by cases im p n u <;> simp
theorem Mj {P:Program} {f:FuncId} {cap:List Value} {w:World} {R:Ending->World->Prop} (h:Calls P f cap.toArray w R):Calls P f (([]:List Value)++cap.toArray.toList).toArray w R:=by simpa using h
def UR {α γ:Type} (B:Nat) (w0:World) (gr:Nat) (r:Option (List α×List UInt8)) (K:List α->γ->List aO) (H:List aO):Ending->World->Prop:=mT B w0 gr r (fun _ (_:γ)=> .tuple #[]) (fun a g=>K a g++H) H
theorem sQ {α γ:Type} (gr:Nat) (f:FuncId) (cap:List Value) (p:mS α) (M:tC p) (i:List α->γ->List aO) (F:∀a w,(callFunc f a).run Tryz.prog w= .ok (.enter f a) w)
  (G:∀(s:List UInt8) (b:List α) (g:γ) (w:World),s.length<=140737488355320->b.length<=254->Cw B w0 (ak gr [.string ⟨s.toArray⟩] 235::(i b g++H)) w->
   Calls Tryz.prog f cap.toArray w (mT B w0 gr (p s) (fun _ (_:γ)=> .tuple #[]) (fun x u=>i (b++ [x]) u++H) H))
  (s:List UInt8) (C:γ) (R:s.length<=140737488355320) (w:World) (e:Cw B w0 (ak gr [.string ⟨s.toArray⟩] 235::(i [] C++H)) w) :
  Calls Tryz.prog 227 #[af gr,.func (.func f) #[] cap.toArray] w (UR B w0 gr (jX p s) i H):=by
 refine bI Tryz.func227 rfl Tryz.ntmps227 rfl e<|aj ?_;refine fR (ew rfl rfl rfl zw (fun w e=>oO gr s ω w e)) rfl rfl (fun _ _ _ v d=>⟨v.2.1,.inr ⟨_,rfl,⟨by unfold jX;rw[d.1.1],d.1.2⟩,Cw.msub d.2 (by exact⟨_,List.perm_append_comm⟩)⟩⟩) (fun⟨⟨n,t⟩,_⟩ D=>?_);refine aP ?_;have L:=ko D;have E:jX p s=im p n.toNat t:=by unfold jX;rw[D]
 refine cZ (fun g:(Int×List α×List UInt8)×γ=>(jX p s=(im p g.1.1.toNat g.1.2.2).map (fun j=>(g.1.2.1++j.1,j.2))/\(g.1.1<=255/\g.1.2.1.length+g.1.1.toNat<=255))/\g.1.2.2.length<=140737488355320) (fun g=>g.1.1.toNat) (fun g=> [(1,.func (.func f) #[] cap.toArray),(4,ai g.1.1)]) (fun g=>ak gr [.string ⟨g.1.2.2.toArray⟩] 235::(i g.1.2.1 g.2++H)) ((n,[],t),C) (⟨⟨by rw[E];cases im p n.toNat t <;> simp,⟨L.2.2,by show 0+n.toNat<=255;omega⟩⟩,by show t.length<=_;omega⟩) ?_;rintro⟨⟨k,b,q⟩,g⟩ I
 try dsimp only
 obtain⟨⟨h,N,O⟩,J⟩:(jX p s=(im p k.toNat q).map (fun j=>(b++j.1,j.2))/\(k<=255/\b.length+k.toNat<=255))/\q.length<=140737488355320:=I;refine ax (fun K=>?_) (fun K=>?_)
 ·have y:k.toNat=(k - 1).toNat+1:=ω;rw[y,im] at h;refine aj ?_;refine fR (CB rfl rfl rfl F (fun w e=>Mj (G q b g w J ω e))) rfl rfl (fun _ _ _ v d=>⟨v.2.1,.inr ⟨_,rfl,⟨by rw[h,d.1.1];rfl,d.1.2⟩,d.2⟩⟩) (fun⟨⟨x,z⟩,u⟩ r=>?_);refine aP ?_;have r:p q=some (x,z):=r;have:=M _ _ _ r;rw[r] at h;refine cG ((k - 1,b++ [x],z),u) (⟨⟨h.trans Je,⟨by show k - 1<=_;omega,by show (b++ [x]).length+(k - 1).toNat<=_;rw[ar,aV];omega⟩⟩,by show z.length<=_;omega⟩) (by show (k - 1).toNat<k.toNat;omega)
 have y:k.toNat=0:=ω;rw[y] at h;refine aj ?_;intro w e;exact .inl ⟨((b,q),g),by rw[h];simp[im],rfl,e⟩
end
end
section
section
variable {B:Nat} {w0:World} {H:List aO}
theorem mT.map {α β γ δ:Type} {gr:Nat} {r:Option (α×List UInt8)} {p:Option (β×List UInt8)} {val:α->γ->Value} {v:β->δ->Value} {q:α->γ->List aO} {u:β->δ->List aO} {H H':List aO} {e:Ending} {w:World} (h:mT B w0 gr r val q H e w) (f:α->γ->β) (d:α->γ->δ)
  (C:∀x t g,r=some (x,t)->p=some (f x g,t)/\val x g=v (f x g) (d x g)/\∀w,Cw B w0 (ak gr [.string ⟨t.toArray⟩] 235::q x g) w->Cw B w0 (ak gr [.string ⟨t.toArray⟩] 235::u (f x g) (d x g)) w) (h2:r=none->p=none) (D:∀w,Cw B w0 H w->Cw B w0 H' w):mT B w0 gr p v u H' e w:=by
 rcases h with ⟨⟨⟨x,t⟩,g⟩,b,i,j⟩ | ⟨y,b,⟨i,j⟩,z⟩
 ·obtain⟨E,F,G⟩:=C x t g b;exact .inl ⟨((f x g,t),d x g),E,i.trans (congrArg _ F),G _ j⟩
 exact .inr ⟨y,b,⟨h2 i,j⟩,D _ z⟩
theorem zZ (l:List UInt8):aI (en l):=by
 have:=ug l;unfold bT at this;simp only[dC,decide_eq_true_eq] at this;unfold aI;omega
theorem IX (gr go gp:Nat) (s:List UInt8) (b:List Int) (A:Option Addr) (c:Nat) (y:s.length<=140737488355320) (v:b.length<=254) (w:World)
  (d:Cw B w0 (ak gr [.string ⟨s.toArray⟩] 235::ak go [ac A b.length c] 35::an (ac A b.length c) b::ak gp [af gr] 233::H) w) :
  Calls Tryz.prog 281 #[af go,af gp] w (mT B w0 gr (nK s) (fun _ (_:Option Addr×Nat)=> .tuple #[])
   (fun x g=>ak go [ac g.1 (b++ [x]).length g.2] 35::an (ac g.1 (b++ [x]).length g.2) (b++ [x])::ak gp [af gr] 233::H) (ak gp [af gr] 233::H)):=by
 refine bI Tryz.func281 rfl Tryz.ntmps281 rfl d<|wU (.still 0 (.still 1 (.pick 2 (.pick 3 (.pick 4 (.pick 5 (.pick 6 .done .stop) .stop) .stop) .stop) .stop))) [5,6] rfl φ φ [ak go [ac A b.length c] 35,ak gp [af gr] 233] (fun q w=>(nK s=none/\q=rY)/\Cw B w0 (ak gp [af gr] 233::H) w) (fun _ _ _ t e=>⟨t,.inr ⟨_,rfl,e⟩⟩) ?_;refine aj ?_;refine Es rfl (ew rfl rfl rfl VX (fun w d=>wu (H:=ak go [ac A b.length c] 35::ag A c b::ak gp [af gr] 233::H) gr 4 s ω w (d.msub ms))) rfl rfl (.inr fun _=>ha) (fun _ _ e=>⟨⟨by rw[xw,e.1.1];rfl,e.1.2⟩,e.2.msub ms⟩) (fun⟨⟨a,i⟩,_⟩ h=>?_) ia
 try dsimp only
 have h:kR 4 s=some (a,i):=h;have:=yH h;have r:nK s=some (en a,i):=by rw[xw,h];rfl
 refine ls rfl rfl Tryz.call213 (fun w d=>uU a w ω)<|aj ?_;intro u _;refine pE rfl (cz (α:=Int) (bytes:=8) (en a) [] rfl az (aU cW) rfl (eG fc fc) (dt (zZ a)) ω ω rfl rfl rfl) (fun⟨j,p⟩ _=>?_);refine aP ?_;refine yO<|tI Tryz.results281 ?_;intro w d;exact .inl ⟨((en a,i),(j,p)),r,rfl,d.msub ms⟩
theorem wx (gr:Nat) (s:List UInt8) (t:s.length<=140737488355320) (w:World) (b:Cw B w0 (ak gr [.string ⟨s.toArray⟩] 235::H) w) :
  Calls Tryz.prog 226 #[af gr] w (mT B w0 gr (mP s) (fun x (g:Option Addr×Nat)=> ac g.1 x.length g.2) (fun x g=>an (ac g.1 x.length g.2) x::H) H):=by
 refine bI Tryz.func226 rfl Tryz.ntmps226 rfl b<|aj ?_;refine fun e _=>aj ?_;refine fun h _=>aj ?_;refine fF (fun w j=>Cw.nilO Int j) ?_;refine fR (ew rfl rfl rfl RQ (fun w b=>sQ (H:=ak e [af gr] 233::H) gr 281 [af h,af e] nK vl (fun d (g:Option Addr×Nat)=> [ak h [ac g.1 d.length g.2] 35,ag g.1 g.2 d]) Tryz.call281 (fun s d g w p q b=>IX gr h e s d g.1 g.2 p q w b) s (none,0) t w (b.msub ms))) rfl rfl (fun _ _ _ r i=>⟨r.2.1,.inr ⟨_,rfl,i.1,i.2.msub ms⟩⟩) (fun⟨⟨x,v⟩,⟨A,c⟩⟩ u=>?_);refine aP ?_;intro w b;exact .inl ⟨((x,v),(A,c)),u,rfl,b.msub ms⟩
theorem xW:tC jS:=fun s x g b=>by
 unfold jS at b
 split at b
 ·cases b
 rename_i n j d
 split at b
 ·cases b
 split at b
 ·cases b
 rename_i i h e;obtain⟨_,rfl⟩:(⟨decide (n=1),i⟩:aD)=x/\h=g:=ψ b;exact dW (vl _ _ _ e) (ko d).1
theorem ID {s r:List UInt8} {x:aD} (e:jS s=some (x,r)):aI x.n:=by
 unfold jS at e
 split at e
 ·cases e
 rename_i n j p
 split at e
 ·cases e
 split at e
 ·cases e
 rename_i i g b
 ·obtain⟨rfl,_⟩:(⟨decide (n=1),i⟩:aD)=x/\g=r:=ψ e;rw[xw] at b
  cases h:kR 4 j with
  | none=>rw[h] at b;cases b
  | some d=>
   rw[h] at b;obtain⟨rfl,_⟩:en d.1=i/\d.2=g:=ψ b;exact zZ _
theorem IS (gr:Nat) (s:List UInt8) (u:s.length<=140737488355320) (w:World) (b:Cw B w0 (ak gr [.string ⟨s.toArray⟩] 235::H) w) :
  Calls Tryz.prog 283 #[af gr] w (mT B w0 gr (jS s) (fun x (_:Unit)=> .agg #[.bool x.ref,ai x.n]) (fun _ _=>H) H):=by
 refine bI Tryz.func283 rfl Tryz.ntmps283 rfl b<|aj ?_;refine fun t _=>aj ?_;refine fR (ew rfl rfl rfl zw (fun w b=>oO gr s ω w (b.msub (.s fc .r)))) rfl rfl (fun _ _ _ e d=>⟨e.2.1,.inr ⟨_,rfl,⟨by unfold jS;rw[d.1.1],d.1.2⟩,d.2.msub ms⟩⟩) (fun⟨⟨n,h⟩,_⟩ j=>?_);refine aP ?_;have:=ko j;refine eK rfl (fun i=>?_) (fun i=>?_)
 ·refine aj ?_;refine sE (tk MN rfl rfl) ?_;refine lW rfl rfl rfl ?_;intro a w e b;exact⟨e.2.1,.inr ⟨_,rfl,⟨by unfold jS;rw[j];simp only;rw[if_pos i],rfl⟩,b.msub ms⟩⟩
 have p:jS s=(nK h).map fun q=>((⟨decide (n=1),q.1⟩:aD),q.2):=by
  unfold jS;rw[j];simp only;rw[if_neg i]
  cases nK h <;> rfl
 refine aj ?_;refine fR (ew rfl rfl rfl VX (fun w b=>wu gr 4 h ω w (b.msub (.s fc .r)))) rfl rfl (fun _ _ _ e d=>⟨e.2.1,.inr ⟨_,rfl,⟨by rw[p,xw,d.1.1];rfl,d.1.2⟩,d.2.msub ms⟩⟩) (fun⟨⟨a,r⟩,_⟩ g=>?_)
 try dsimp only
 have g:kR 4 h=some (a,r):=g;have:=yH g;refine cO rfl Tryz.call213 (fun w b=>uU a w ω)<|aj ?_;intro w b;exact .inl ⟨((⟨decide (n=1),en a⟩,r),()),by rw[p,xw,g];rfl,rfl,b.msub ms⟩
theorem IT (gr go gp:Nat) (s:List UInt8) (b:List aD) (A:Option Addr) (c:Nat) (u:s.length<=140737488355320) (y:b.length<=254) (w:World)
  (d:Cw B w0 (ak gr [.string ⟨s.toArray⟩] 235::ak go [ac A b.length c] 116::an (ac A b.length c) b::ak gp [af gr] 233::H) w) :
  Calls Tryz.prog 282 #[af go,af gp] w (mT B w0 gr (jS s) (fun _ (_:Option Addr×Nat)=> .tuple #[])
   (fun x g=>ak go [ac g.1 (b++ [x]).length g.2] 116::an (ac g.1 (b++ [x]).length g.2) (b++ [x])::ak gp [af gr] 233::H) (ak gp [af gr] 233::H)):=by
 refine bI Tryz.func282 rfl Tryz.ntmps282 rfl d<|wU (.still 0 (.still 1 (.pick 2 (.pick 3 (.pick 4 (.pick 5 .done .stop) .stop) .stop) .stop))) [4,5] rfl φ φ [ak go [ac A b.length c] 116,ak gp [af gr] 233] (fun r w=>(jS s=none/\r=rY)/\Cw B w0 (ak gp [af gr] 233::H) w) (fun _ _ _ t e=>⟨t,.inr ⟨_,rfl,e⟩⟩) ?_;refine aj ?_;refine Es rfl (ew rfl rfl rfl Tryz.call283 (fun w d=>IS (H:=ak go [ac A b.length c] 116::ag A c b::ak gp [af gr] 233::H) gr s u w (d.msub ms))) rfl rfl (.inr fun _=>ha) (fun _ _ e=>⟨e.1,e.2.msub ms⟩) (fun⟨⟨i,j⟩,_⟩ h=>?_) ia;refine aP ?_;intro v _;have h:jS s=some (i,j):=h;refine pE rfl (cz (α:=aD) (bytes:=16) i [] rfl aA (aU dy) rfl (eG fc fc) (dt (show aI i.n from ID h)) ω ω rfl rfl rfl) (fun⟨p,q⟩ _=>?_);refine aP ?_;refine yO<|tI Tryz.results282 ?_;intro w d;exact .inl ⟨((i,j),(p,q)),h,rfl,d.msub ms⟩
theorem Cp (gr:Nat) (s:List UInt8) (t:s.length<=140737488355320) (w:World) (b:Cw B w0 (ak gr [.string ⟨s.toArray⟩] 235::H) w) :
  Calls Tryz.prog 230 #[af gr] w (mT B w0 gr (pP s) (fun x (g:Option Addr×Nat)=> ac g.1 x.length g.2) (fun x g=>an (ac g.1 x.length g.2) x::H) H):=by
 refine bI Tryz.func230 rfl Tryz.ntmps230 rfl b<|aj ?_;refine fun e _=>aj ?_;refine fun h _=>aj ?_;refine fF (fun w j=>Cw.nilO aD j) ?_;refine fR (ew rfl rfl rfl RQ (fun w b=>sQ (H:=ak e [af gr] 233::H) gr 282 [af h,af e] jS xW (fun d (g:Option Addr×Nat)=> [ak h [ac g.1 d.length g.2] 116,ag g.1 g.2 d]) Tryz.call282 (fun s d g w p q b=>IT gr h e s d g.1 g.2 p q w b) s (none,0) t w (b.msub ms))) rfl rfl (fun _ _ _ r i=>⟨r.2.1,.inr ⟨_,rfl,i.1,i.2.msub ms⟩⟩) (fun⟨⟨x,v⟩,⟨A,c⟩⟩ u=>?_);refine aP ?_;intro w b;exact .inl ⟨((x,v),(A,c)),u,rfl,b.msub ms⟩
end
end
section
section
variable {B:Nat} {w0:World} {H:List aO}
theorem MC:(Tryz.prog.info? 35).map (fun i=>(i.zero,i.size,i.bytes))=some (some (ac none 0 0),1,24):=by kernel_rfl
theorem I0 (gr gm gp:Nat) (h i j vs p:Value) (s:List UInt8) (b:List (List Int)) (A:Option Addr) (c:Nat) (D:s.length<=140737488355320) (F:b.length<=254) (w:World)
  (d:Cw B w0 (ak gr [.string ⟨s.toArray⟩] 235::ak gm [h,ac A b.length c,i,j,vs,p] 43::an (ac A b.length c) b::ak gp [af gr] 233::H) w) :
  Calls Tryz.prog 228 #[af gm,af gp] w (mT B w0 gr (mP s) (fun _ (_:Option Addr×Nat)=> .tuple #[])
   (fun x g=>ak gm [h,ac g.1 (b++ [x]).length g.2,i,j,vs,p] 43::an (ac g.1 (b++ [x]).length g.2) (b++ [x])::ak gp [af gr] 233::H) (ak gp [af gr] 233::H)):=by
 refine bI Tryz.func228 rfl Tryz.ntmps228 rfl d<|wU (.still 0 (.still 1 (.still 2 (.pick 3 (.pick 4 (.pick 5 (.calm 6 (.pick 7 .done .stop)) .stop) .stop) .stop)))) [5,6,7] rfl φ φ [ak gm [h,ac A b.length c,i,j,vs,p] 43,ak gp [af gr] 233] (fun y w=>(mP s=none/\y=rY)/\Cw B w0 (ak gp [af gr] 233::H) w) (fun _ _ _ C e=>⟨C,.inr ⟨_,rfl,e⟩⟩) ?_;refine aj ?_;refine Es rfl (ew rfl rfl rfl V2 (fun w d=>wx (H:=ak gm [h,ac A b.length c,i,j,vs,p] 43::ag A c b::ak gp [af gr] 233::H) gr s D w (d.msub ms))) rfl rfl (.inr fun _=>ha) (fun _ _ e=>⟨e.1,e.2.msub ms⟩) (fun⟨⟨x,r⟩,⟨u,z⟩⟩ q=>?_) ia;refine aP ?_;intro E _;have q:mP s=some (x,r):=q;refine pE rfl (cz (α:=List Int) (bytes:=24) x [ag u z x] rfl eI (aU MC) rfl (DC fc fc fc) wM ω ω rfl rfl rfl) (fun⟨t,v⟩ _=>?_);refine aP ?_;refine yO<|tI Tryz.results228 ?_;intro w d;exact .inl ⟨((x,r),(t,v)),q,rfl,d.msub ms⟩
theorem rW:tC pP:=uD xW
theorem rx:tC mP:=uD vl
theorem GD:tC jw:=fun s x j b=>by
 unfold jw at b
 split at b
 ·cases b
 rename_i f r d
 split at b
 ·cases b
 rename_i i t e
 split at b
 ·cases b
 rename_i l u g
 split at b
 ·cases b
 rename_i q p h;obtain⟨_,rfl⟩:(⟨f,i,l,q⟩:aK)=x/\p=j:=ψ b;have:=(ko d).1;have:=(ko e).1;have:=rW _ _ _ g;have:=rW _ _ _ h;omega
theorem IZ (gr gm gp:Nat) (r t u vs v:Value) (s:List UInt8) (b:List aK) (A:Option Addr) (c:Nat) (R:s.length<=140737488355320) (O:b.length<=254) (w:World)
  (e:Cw B w0 (ak gr [.string ⟨s.toArray⟩] 235::ak gm [ac A b.length c,r,t,u,vs,v] 43::an (ac A b.length c) b::ak gp [af gr] 233::H) w) :
  Calls Tryz.prog 229 #[af gp,af gm] w (mT B w0 gr (jw s) (fun _ (_:Option Addr×Nat)=> .tuple #[])
   (fun x g=>ak gm [ac g.1 (b++ [x]).length g.2,r,t,u,vs,v] 43::an (ac g.1 (b++ [x]).length g.2) (b++ [x])::ak gp [af gr] 233::H) (ak gp [af gr] 233::H)):=by
 refine bI Tryz.func229 rfl Tryz.ntmps229 rfl e<|aj ?_;refine fR (ew rfl rfl rfl zw (fun w e=>oO (H:=ak gm [ac A b.length c,r,t,u,vs,v] 43::ag A c b::ak gp [af gr] 233::H) gr s ω w (e.msub ms))) rfl rfl (fun _ _ _ j d=>⟨j.2.1,.inr ⟨_,rfl,⟨by unfold jw;rw[d.1.1],d.1.2⟩,d.2.msub ms⟩⟩) (fun⟨⟨f,D⟩,_⟩ i=>?_);refine aP ?_;refine fun C _=>aj ?_;have i:na s=some (f,D):=i;have:=ko i;refine fR (ew rfl rfl rfl zw (fun w e=>oO (H:=ak C [ai f,ai 0,ac none 0 0,ac none 0 0] 118::ak gm [ac A b.length c,r,t,u,vs,v] 43::ag A c b::ak gp [af gr] 233::H) gr D ω w (e.msub ms))) rfl rfl (fun _ _ _ j d=>⟨j.2.1,.inr ⟨_,rfl,⟨by unfold jw;rw[i];simp only;rw[d.1.1],d.1.2⟩,d.2.msub ms⟩⟩) (fun⟨⟨h,E⟩,_⟩ q=>?_);refine aP ?_;have q:na D=some (h,E):=q;have:=ko q;refine fR (ew rfl rfl rfl Tryz.call230 (fun w e=>Cp (H:=ak C [ai f,ai h,ac none 0 0,ac none 0 0] 118::ak gm [ac A b.length c,r,t,u,vs,v] 43::ag A c b::ak gp [af gr] 233::H) gr E ω w (e.msub ms))) rfl rfl (fun _ _ _ j d=>⟨j.2.1,.inr ⟨_,rfl,⟨by unfold jw;rw[i];simp only;rw[q];simp only;rw[d.1.1],d.1.2⟩,d.2.msub ms⟩⟩) (fun⟨⟨l,F⟩,⟨Al,cl⟩⟩ y=>?_);refine aP ?_;have y:pP E=some (l,F):=y;have:=rW _ _ _ y;refine fR (ew rfl rfl rfl Tryz.call230 (fun w e=>Cp (H:=ak C [ai f,ai h,ac Al l.length cl,ac none 0 0] 118::ag Al cl l::ak gm [ac A b.length c,r,t,u,vs,v] 43::ag A c b::ak gp [af gr] 233::H) gr F ω w (e.msub ms))) rfl rfl (fun _ _ _ j d=>⟨j.2.1,.inr ⟨_,rfl,⟨by unfold jw;rw[i];simp only;rw[q];simp only;rw[y];simp only;rw[d.1.1],d.1.2⟩,d.2.msub ms⟩⟩) (fun⟨⟨p,G⟩,⟨J,L⟩⟩ z=>?_);refine aP ?_;intro N _;have z:pP F=some (p,G):=z;have M:jw s=some (⟨f,h,l,p⟩,G):=by unfold jw;rw[i];simp only;rw[q];simp only;rw[y];simp only;rw[z]
 refine oE (cz (α:=aK) (bytes:=64) ⟨f,h,l,p⟩ [ag Al cl l,ag J L p] rfl cX (aU nw) rfl (zV fc fc fc fc) (AH (x:=⟨f,h,l,p⟩) ⟨⟨by show _<=f;omega,by show f<=_;omega⟩,⟨by show _<=h;omega,by show h<=_;omega⟩⟩) ω ω rfl rfl rfl) (fun⟨I,K⟩ _=>?_);refine aP ?_;intro w e;exact .inl ⟨((⟨f,h,l,p⟩,G),(I,K)),M,rfl,e.msub ms⟩
end
end
section
section
variable {B:Nat} {w0:World} {H:List aO}
theorem nE {s:List UInt8} (h:mR s=none):kB s=none:=by unfold kB;rw[h]
theorem IY (gr:Nat) (s:List UInt8) (Y:s.length<=140737488355320) (w:World) (d:Cw B w0 (ak gr [.string ⟨s.toArray⟩] 235::H) w) :
  Calls Tryz.prog 175 #[af gr] w fun e w'=>(∃g:av×MA,kB s=some g.1/\e= .returned (.agg #[ac g.2.Af g.1.F.length g.2.cf,ac g.2.Ab g.1.B.length g.2.cb,ac g.2.Ai g.1.I.length g.2.ci,ac g.2.Ao g.1.out.length g.2.co,ai g.1.S,ai g.1.T])/\Cw B w0 (an (ac g.2.Af g.1.F.length g.2.cf) g.1.F::an (ac g.2.Ab g.1.B.length g.2.cb) g.1.B::an (ac g.2.Ai g.1.I.length g.2.ci) g.1.I::an (ac g.2.Ao g.1.out.length g.2.co) g.1.out::H) w')\/∃T,e= .panicked T/\(kB s=none/\T=rY)/\Cw B w0 H w':=by
 refine bI Tryz.func175 rfl Tryz.ntmps175 rfl d<|aj ?_;refine fun p _=>aj ?_;refine fun D _=>aj ?_;refine fR (ew rfl rfl rfl zw (fun w d=>oO (H:=ak p [af gr] 233::ak D [ac none 0 0,ac none 0 0,ac none 0 0,ac none 0 0,ai 0,ai 0] 43::H) gr s ω w (d.msub ms))) rfl rfl (fun _ _ _ h b=>⟨h.2.1,.inr ⟨_,rfl,⟨nE (by unfold mR;rw[b.1.1]),b.1.2⟩,b.2.msub ms⟩⟩) (fun⟨⟨t,M⟩,_⟩ q=>?_);refine aP ?_;refine fun r _=>aj ?_;have q:na s=some (t,M):=q;have:=ko q;refine fR (ew rfl rfl rfl zw (fun w d=>oO (H:=ak r [ac none 0 0,ac none 0 0,ac none 0 0,ac none 0 0,ai t,ai 0] 43::ak p [af gr] 233::ak D [ac none 0 0,ac none 0 0,ac none 0 0,ac none 0 0,ai 0,ai 0] 43::H) gr M ω w (d.msub ms))) rfl rfl (fun _ _ _ h b=>⟨h.2.1,.inr ⟨_,rfl,⟨nE (by unfold mR;rw[q];simp only;rw[b.1.1]),b.1.2⟩,b.2.msub ms⟩⟩) (fun⟨⟨v,N⟩,_⟩ u=>?_);refine aP ?_;have u:na M=some (v,N):=u;have:=ko u;refine fR (ew rfl rfl rfl V2 (fun w d=>wx (H:=ak r [ac none 0 0,ac none 0 0,ac none 0 0,ac none 0 0,ai t,ai v] 43::ak p [af gr] 233::ak D [ac none 0 0,ac none 0 0,ac none 0 0,ac none 0 0,ai 0,ai 0] 43::H) gr N ω w (d.msub ms))) rfl rfl (fun _ _ _ h b=>⟨h.2.1,.inr ⟨_,rfl,⟨nE (by unfold mR;rw[q];simp only;rw[u];simp only;rw[b.1.1]),b.1.2⟩,b.2.msub ms⟩⟩) (fun⟨⟨i,O⟩,⟨Ai,ci⟩⟩ z=>?_);refine aP ?_;have z:mP N=some (i,O):=z;have:=rx _ _ _ z;refine fR (ew rfl rfl rfl V2 (fun w d=>wx (H:=ak r [ac none 0 0,ac none 0 0,ac Ai i.length ci,ac none 0 0,ai t,ai v] 43::ag Ai ci i::ak p [af gr] 233::ak D [ac none 0 0,ac none 0 0,ac none 0 0,ac none 0 0,ai 0,ai 0] 43::H) gr O ω w (d.msub ms))) rfl rfl (fun _ _ _ h b=>⟨h.2.1,.inr ⟨_,rfl,⟨nE (by unfold mR;rw[q];simp only;rw[u];simp only;rw[z];simp only;rw[b.1.1]),b.1.2⟩,b.2.msub ms⟩⟩) (fun⟨⟨o,R⟩,⟨Ao,co⟩⟩ C=>?_);refine aP ?_;have C:mP O=some (o,R):=C;have:=rx _ _ _ C;refine fF (fun w G=>Cw.nilO (List Int) G) ?_;refine fR (ew rfl rfl rfl RQ (fun w d=>sQ (H:=ak p [af gr] 233::ag Ai ci i::ag Ao co o::ak D [ac none 0 0,ac none 0 0,ac none 0 0,ac none 0 0,ai 0,ai 0] 43::H) gr 228 [af r,af p] mP rx (fun j (g:Option Addr×Nat)=> [ak r [ac none 0 0,ac g.1 j.length g.2,ac Ai i.length ci,ac Ao o.length co,ai t,ai v] 43,ag g.1 g.2 j]) Tryz.call228 (fun s j g w I J d=>I0 gr r p _ _ _ _ _ s j g.1 g.2 I J w d) R (none,0) ω w (d.msub ms))) rfl rfl (fun _ _ _ h b=>⟨h.2.1,.inr ⟨_,rfl,⟨nE (by unfold mR;rw[q];simp only;rw[u];simp only;rw[z];simp only;rw[C];simp only;rw[b.1.1]),b.1.2⟩,b.2.msub ms⟩⟩) (fun⟨⟨y,S⟩,⟨Ab,cb⟩⟩ E=>?_);refine aP ?_;have E:jX mP R=some (y,S):=E;have:=uD rx _ _ _ E;refine fF (fun w G=>Cw.nilO aK G) ?_;refine fR (ew rfl rfl rfl RQ (fun w d=>sQ (H:=ak p [af gr] 233::ag Ab cb y::ag Ai ci i::ag Ao co o::ak D [ac none 0 0,ac none 0 0,ac none 0 0,ac none 0 0,ai 0,ai 0] 43::H) gr 229 [af p,af r] jw GD (fun j (g:Option Addr×Nat)=> [ak r [ac g.1 j.length g.2,ac Ab y.length cb,ac Ai i.length ci,ac Ao o.length co,ai t,ai v] 43,ag g.1 g.2 j]) Tryz.call229 (fun s j g w I J d=>IZ gr r p _ _ _ _ _ s j g.1 g.2 I J w d) S (none,0) ω w (d.msub ms))) rfl rfl (fun _ _ _ h b=>⟨h.2.1,.inr ⟨_,rfl,⟨nE (by unfold mR;rw[q];simp only;rw[u];simp only;rw[z];simp only;rw[C];simp only;rw[E];simp only;rw[b.1.1]),b.1.2⟩,b.2.msub ms⟩⟩) (fun⟨⟨f,V⟩,⟨W,X⟩⟩ F=>?_);refine aP ?_;have F:jX jw S=some (f,V):=F;have U:mR s=some (⟨f,y,i,o,t,v⟩,V):=by unfold mR;rw[q];simp only;rw[u];simp only;rw[z];simp only;rw[C];simp only;rw[E];simp only;rw[F]
 refine sE (EB rfl rfl rfl)<|cU (fun K=>?_) (fun K=>?_)
 ·have L:kB s=none:=by unfold kB;rw[U];simp only;rw[if_neg K]
  refine aj ?_;refine sE (tk MN rfl rfl) ?_;refine lW rfl rfl rfl ?_;intro a w h d;exact⟨h.2.1,.inr ⟨_,rfl,⟨L,rfl⟩,d.msub ms⟩⟩
 have L:kB s=some ⟨f,y,i,o,t,v⟩:=by unfold kB;rw[U];simp only;rw[if_pos K]
 refine aj ?_;intro w d;exact .inl ⟨(⟨f,y,i,o,t,v⟩,⟨W,X,Ab,cb,Ai,ci,Ao,co⟩),L,rfl,d.msub ms⟩
theorem FX (w:World):(binOp .neq 20 (.iface 231 (.agg #[])) .nilIface).run Tryz.prog w= .ok (.bool true) w:=by kernel_rfl
theorem zr (w:World):(Instr.typeAssert (.iface 231 (.agg #[])) 20 231 true).run Tryz.prog w= .ok (.tuple #[.agg #[],.bool true]) w:=by kernel_rfl
theorem IH (d g:Nat) (j p q r t u y:Value) (w:World) (h:Cw B w0 (ak d [j,p,q,r,t,u] 43::ak g [y] 4::H) w) :
  CallsD Tryz.prog 174 #[.pointer (some ⟨d,0,none⟩),.pointer (some ⟨g,0,none⟩)] (.panicking rY) w fun e D w'=>(∃v,e= .returned v) /\ settle D= .returning /\ Cw B w0 (ak d [.slice none 0 0,.slice none 0 0,.slice none 0 0,.slice none 0 0,.int .i64 0,.int .i64 0] 43::ak g [.bool false] 4::H) w':=by
 refine callsD_of_wpS Tryz.func174 rfl fun E cs C=>?_
 apply wpS_seq
 apply wpS_region
 simp[wpOpsS,go_sem,recoverD,C,Tryz.ntmps174,Exit.thenS,rY]
 refine wpS_of_wp ?_
 refine(show CW Tryz.prog ⟨17,[]⟩ B w0 _ _ [(0,.pointer (some ⟨d,0,none⟩)),(1,.pointer (some ⟨g,0,none⟩)),(2,.iface 231 (.agg #[]))] (ak d [j,p,q,r,t,u] 43::ak g [y] 4::H) from ?_) _ w ?_ h
 ·refine aj ?_
  refine sE (pY rfl rfl rfl FX (fun _=>rfl))<|aj ?_
  refine cT (t:=7) (v':= .bool true) rfl (rfl) ?_
  refine be rfl<|aj ?_
  refine sE (zS zr rfl rfl)<|aj ?_
  refine fun F _=>aj ?_
  refine cT (t:=14) (v':= .bool false) rfl (rfl) ?_
  refine cA rfl<|aj ?_
  intro a w z h
  refine⟨z.2.1,_,rfl,.tuple #[],?_,⟨_,rfl⟩,rfl,h.msub ms⟩
  simp[results,Tryz.results174]
 ·refine⟨by simp,rfl,fun i v e=>?_⟩
  simp only[lk] at e
  split at e
  ·rename_i b
   have b:=cI b
   subst b
   injection e with e
   subst e
   exact⟨by show _<17;decide,by simp⟩
  ·split at e
   ·rename_i b
    have b:=cI b
    subst b
    injection e with e
    subst e
    exact⟨by show _<17;decide,by simp⟩
   ·split at e
    ·rename_i b
     have b:=cI b
     subst b
     injection e with e
     subst e
     exact⟨by show _<17;decide,by simp⟩
    ·cases e
theorem Gk (d g:Nat) (i j p q r t u:Value) (w:World) (h:Cw B w0 (ak d [i,j,p,q,r,t] 43::ak g [u] 4::H) w) :
  CallsD Tryz.prog 174 #[.pointer (some ⟨d,0,none⟩),.pointer (some ⟨g,0,none⟩)] .returning w fun e D w'=>(∃v,e= .returned v) /\ D= .returning /\ Cw B w0 (ak d [i,j,p,q,r,t] 43::ak g [u] 4::H) w':=by
 refine callsD_of_wpS Tryz.func174 rfl fun E cs y=>?_
 apply wpS_seq
 apply wpS_region
 simp[wpOpsS,go_sem,recoverD,y,Tryz.ntmps174,Exit.thenS]
 refine wpS_of_wp ?_
 refine(show CW Tryz.prog ⟨17,[]⟩ B w0 _ _ [(0,.pointer (some ⟨d,0,none⟩)),(1,.pointer (some ⟨g,0,none⟩)),(2,.nilIface)] (ak d [i,j,p,q,r,t] 43::ak g [u] 4::H) from ?_) _ w ?_ h
 ·refine aj ?_
  refine sE (pY rfl rfl rfl Bk (fun _=>rfl))<|aj ?_
  refine cT (t:=7) (v':= .bool false) rfl (rfl) ?_
  refine cA rfl<|aj ?_
  intro a w z h
  refine⟨z.2.1,.returning,?_,.tuple #[],?_,⟨_,rfl⟩,rfl,h.msub ms⟩
  ·rw[←y]
  ·simp[results,Tryz.results174]
 ·refine⟨by simp,rfl,fun C v e=>?_⟩
  simp only[lk] at e
  split at e
  ·rename_i b
   have b:=cI b
   subst b
   injection e with e
   subst e
   exact⟨by show _<17;decide,by simp⟩
  ·split at e
   ·rename_i b
    have b:=cI b
    subst b
    injection e with e
    subst e
    exact⟨by show _<17;decide,by simp⟩
   ·split at e
    ·rename_i b
     have b:=cI b
     subst b
     injection e with e
     subst e
     exact⟨by show _<17;decide,by simp⟩
    ·cases e
end
def sM (s:List UInt8):av×Bool:=match kB s with
 | some m=>(m,true)
 | none=>(default,false)
theorem M8 (s:List UInt8) (r:av×Bool) (j:sM s=r) (v:s.length <= 140737488355320) (w:World) :
  Calls Tryz.prog 119 #[.string ⟨s.toArray⟩] w fun e w'=> ∃g:MA,True /\ e= .returned (.tuple #[.agg #[.slice g.Af r.1.F.length g.cf,.slice g.Ab r.1.B.length g.cb,.slice g.Ai r.1.I.length g.ci,.slice g.Ao r.1.out.length g.co,.int .i64 r.1.S,.int .i64 r.1.T],.bool r.2]) /\
   Cw w.heap.size w [an (.slice g.Af r.1.F.length g.cf) r.1.F,an (.slice g.Ab r.1.B.length g.cb) r.1.B,an (.slice g.Ai r.1.I.length g.ci) r.1.I,an (.slice g.Ao r.1.out.length g.co) r.1.out] w':=by
 have b:=Cw.nil_ w
 refine AR Tryz.func119 rfl Tryz.ntmps119 rfl b ?_
 refine aj ?_
 refine fun h _=>aj ?_
 refine fun i _=>aj ?_
 refine Ei rfl rfl rfl rfl ?_
 refine aj ?_
 refine fun p _=>aj ?_
 refine fR (ew rfl rfl rfl Tryz.call175 (fun w b=>IY (H:=ak h [.slice none 0 0,.slice none 0 0,.slice none 0 0,.slice none 0 0,.int .i64 0,.int .i64 0] 43::ak i [.bool false] 4:: []) p s v w (b.msub ms))) rfl rfl (fun C a w u y=>by obtain⟨⟨q,rfl⟩,t⟩:=y;exact Dh u (fun _=>by simp[go_sem]) (IH h i _ _ _ _ _ _ _ w (t.msub ms)) Tryz.results119 (Ej (cs:= [_,_,_,_,_,_]) .a jQ cn rfl) (rM .b xR rfl) (fun w b=>by subst j;unfold sM;rw[q];exact⟨⟨none,0,none,0,none,0,none,0⟩,trivial,rfl,(se b).msub ms⟩)) (fun⟨m,z⟩ d=>?_)
 try dsimp only
 refine dN (dk _ fc cn rfl rfl rfl rfl rfl (by rfl) rfl (by rfl)) rfl rfl (fun _ _=>?_)
 refine dN (dk _ fc ur rfl rfl rfl rfl rfl (by rfl) rfl (by rfl)) rfl rfl (fun _ _=>?_)
 refine bL ?_
 have d:kB s=some m:=d
 refine iQ ?_
 refine MS (fun _=>by simp[go_sem]) (fun w b=>Gk h i _ _ _ _ _ _ _ w (b.msub (.s fc (.s fc .r)))) Tryz.results119 (Ej (cs:= [_,_,_,_,_,_]) .a jQ cn rfl) (rM .b xR rfl) (fun w b=>?_)
 subst j
 unfold sM
 rw[d]
 exact⟨z,trivial,rfl,b.msub ms⟩
end
