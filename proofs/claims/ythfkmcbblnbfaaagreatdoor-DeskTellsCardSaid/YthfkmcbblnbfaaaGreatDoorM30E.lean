/- Lemmas of one proof. -/
import Derived.Test.YthfkmcbblnbfaaaGreatDoorM90E
import Derived.Test.YthfkmcbblnbfaaaGreatDoorM0E
import Derived.Test.YthfkmcbblnbfaaaGreatDoorM29E

namespace Go.Proofs.YthfkmcbblnbfaaaGreatDoor
set_option maxRecDepth 100000
set_option maxHeartbeats 16000000
open Go.RowKit
section
theorem Nl (s:qP):(iz s).1=0\/(iz s).1∈s.1:=by
 unfold iz
 split
 ·exact .inl rfl
 right;show s.1.getD _ 0∈s.1;rw[ap,aq ω];exact dh _
theorem Nk (s:qP):∀x∈(iz s).2.1,x∈s.1:=by
 unfold iz
 split
 ·exact fun _ a=>a
 exact fun x a=>jN a
theorem Eb {s:qP} (h:∀x∈s.1,aI x):aI (iz s).1:=by
 rcases Nl s with a | a
 ·rw[a];decide
 exact h _ a
structure Jy (fs:List aw) (f:aw) (o:bJ):Prop where
 loc:(o.c=8\/o.c=9)->0<=o.a/\o.a<f.L.length
 call:o.c=12->0<=o.a/\o.a<fs.length
 par:∀k,k<fs.length->(0<=(ar fs k).params/\(ar fs k).params<=(ar fs k).L.length)/\(ar fs k).L.length<=6
 res:aI f.result
section
variable {B:Nat} {w0:World} {H H':List aP}
theorem Bj {A:Option Addr} {m c:Nat} {xs:List Int} {w:World} (h:Cw B w0 H w) (g:cg H (an (ac A m c) xs) H'):∀x∈xs,aI x:=by
 obtain⟨d,e,_⟩:=h.rd g;have a:Sl w (ac A m c) xs:=cY.sl (show cY w d _ xs from e);have:=bN.len_eq a;intro x i;obtain⟨b,f,rfl⟩:=cA i;have:=lC a (k:=b) ω
 rwa [ap,aq f] at this
theorem zd (a:Nat) {l b xs:List Int} {h i:Bool} (e:fa xs xs.length (l,h)=(b,i)) (A d:Option Addr) (c f:Nat) (n:xs.length<=1000000) (j:l.length<=1000000) (w:World)
  (m:Cw B w0 (ak a [ac A l.length c,.bool h] 273::an (ac A l.length c) l::H) w) (k:SF B w0 H d xs.length f xs) :
  Calls Tryz.prog 277 #[af a,ac d xs.length f] w fun e w'=> ∃g:Option Addr×Nat,True/\e= .returned (.tuple #[])/\
   Cw B w0 (ak a [ac g.1 b.length g.2,.bool i] 273::an (ac g.1 b.length g.2) b::H) w':=MF a e A d c f k n j w m
theorem zy (a:Nat) (l xs:List Int) {f:Bool} (A b:Option Addr) (c d:Nat) (h:l.length+xs.length<=1000000) (w:World)
  (j:Cw B w0 (ak a [ac A l.length c,.bool f] 273::an (ac A l.length c) l::H) w) (i:SF B w0 H b xs.length d xs) :
  Calls Tryz.prog 276 #[af a,ac b xs.length d] w fun e w'=> ∃g:Option Addr×Nat,True/\e= .returned (.tuple #[])/\
   Cw B w0 (ak a [ac g.1 (l++xs).length g.2,.bool f] 273::an (ac g.1 (l++xs).length g.2) (l++xs)::H) w':=Se a A b c d i h w j
theorem uF {g m:Nat} {cs:List Value} {T:TypeId} (xs:List Int) (b:xs.length=m) (f:m<=1000) (a:cs=xs.flatMap qc.enc) (d:∀x∈xs,aI x) (c:cg H (ak g cs T) H'):SF B w0 H (some ⟨g,0,none⟩) m m xs:=
 SF.lit xs b (aF _) ω a (fun h B x e=>⟨rfl,d x e⟩) c
theorem bN.to {α:Type} [aH α] {w:World} {A:Option Addr} {m c k:Nat} {xs:List α} (h:bN w B (ac A m c) xs) (a:k<=m):bN w B (ac A k c) (xs.take k):=by
 have:=h.cut 0 k (aU _) a
 rwa [ET,va,va,qd] at this
theorem bN.cap {α:Type} [aH α] {w:World} {A:Option Addr} {m c:Nat} {xs:List α} (h:bN w B (ac A m c) xs):m<=c:=by
 obtain⟨_,_,a,f,_⟩:=h;injection a with b d e
 omega
theorem Uj (n:Nat):decide ((0:Int)<(n:Int))=(false || decide (0<n)):=by rw[Bool.false_or];exact decide_eq_decide.2 ω
theorem Ui (n:Nat):decide ((8:Int)<(n:Int))=(false || decide (8<n)):=by rw[Bool.false_or];exact decide_eq_decide.2 ω
theorem pP {α β:Type} {a c:α} {b d:β} (h:(a,b)=(c,d)):a=c/\b=d:=by injection h with e f;exact⟨e,f⟩
theorem OW (j:Nat) (fs:List aw) (f:aw) (o:bJ) {l v:List Int} {p am:Bool} (e:oV fs f o (l,p)=(v,am)) (A a2 T a0:Option Addr) (c a5 U a3:Nat) (G:Jy fs f o) (bb:bN w0 B (ac a2 fs.length a5) fs) (E:bN w0 B (ac T f.L.length U) f.L)
  (cf:l.length<=1000) (w:World) (a:Cw B w0 (ak j [ac A l.length c,.bool p] 273::an (ac A l.length c) l::H) w) :
  Calls Tryz.prog 222 #[af j,.agg #[ac a2 fs.length a5],.agg #[ai f.params,ac T f.L.length U,ai f.result,ac a0 f.C.length a3],.agg #[ai o.c,ai o.a]] w fun e w'=> ∃g:Option Addr×Nat,True/\e= .returned (.tuple #[])/\
   Cw B w0 (ak j [ac g.1 v.length g.2,.bool am] 273::an (ac g.1 v.length g.2) v::H) w':=by
 have a6:∀S∈l,aI S:=Bj a .b;obtain⟨q,z,J,C⟩:∃q z J,iz (l,p)=(q,z,J):=⟨_,_,_,rfl⟩
 obtain⟨I,R,bf,V⟩:∃I R bf,iz (z,J)=(I,R,bf):=⟨_,_,_,rfl⟩
 have ad:=uv (l,p);have al:=uv (z,J);have F:=Eb (s:=(l,p)) a6;have bc:=Nk (l,p);rw[C] at ad F bc;have Q:=Eb (s:=(z,J)) (fun S b0=>a6 S (bc S b0));rw[V] at al Q;have ad:z.length<=l.length:=ad;have al:R.length<=z.length:=al;have F:aI q:=F;have Q:aI I:=Q;obtain⟨L,D,b⟩:∃L D,jB fs f o (l,p)=(L,D):=⟨_,_,rfl⟩
 have bl:v=L/\am=(D || decide (8<L.length)):=by
  unfold oV at e;rw[b] at e;simp only[bL] at e;exact⟨e.1.symm,e.2.symm⟩
 obtain⟨rfl,rfl⟩:=bl;clear e;refine bF Tryz.func222 rfl Tryz.ntmps222 rfl a<|aj ?_;refine fun b3 _=>aj ?_;refine fun b4 _=>aj ?_;intro b5 _;refine bG<|dq (fun _:Option Addr×Nat=>v.length<=100000) (fun g=> [(0,af j)]) (fun g=>ak j [ac g.1 v.length g.2,.bool D] 273::ag g.1 g.2 v::H) ?_ ?_
 ·unfold jB at b;have bs:=G.par;refine ax (fun X=>?_) (fun X=>?_)
  ·rw[if_pos X,C] at b;obtain⟨rfl,rfl⟩:=pP b;refine aj ?_;refine dA rfl Fy (fun w a=>we j C A c ω w (a.msub (.s fc (.s fc .r)))) (fun⟨k,m⟩ _=>?_);refine aO ?_;refine bW (k,m) ω (hh:=(fun _ d=>d.msub ms))
  rw[if_neg X] at b;refine ax (fun Y=>?_) (fun Y=>?_)
  ·rw[if_pos Y,C] at b;obtain⟨rfl,rfl⟩:=pP b;refine aj ?_;refine dA rfl Fy (fun w a=>we j C A c ω w (a.msub (.s fc (.s fc .r)))) (fun⟨k,m⟩ _=>?_);refine aO ?_;intro b6 _;refine dA rfl Fx (fun w a=>zy j z [q,q] k _ m _ (by simp only[br,aE];omega) w (a.msub (.s fc (.s fc .r))) (uF [q,q] rfl σ rfl (kB F F) fc)) (fun⟨t,u⟩ _=>?_);refine aO ?_;refine bW (t,u) ((by rw[au];simp only[br,aE];omega)) (hh:=(fun _ d=>d.msub ms))
  rw[if_neg Y] at b;refine ax (fun Z=>?_) (fun Z=>?_)
  ·rw[if_pos Z,C] at b;simp only[V] at b;obtain⟨rfl,rfl⟩:=pP b;refine aj ?_;refine dA rfl Fy (fun w a=>we j C A c ω w (a.msub (.s fc (.s fc .r)))) (fun⟨k,m⟩ _=>?_);refine aO ?_;refine dA rfl Fy (fun w a=>we j V k m ω w (a.msub (.s fc (.s fc .r)))) (fun⟨K,M⟩ _=>?_);refine aO ?_;intro b7 _;refine dA rfl Fx (fun w a=>zy j R [q,I] K _ M _ (by simp only[br,aE];omega) w (a.msub (.s fc (.s fc .r))) (uF [q,I] rfl σ rfl (kB F Q) fc)) (fun⟨t,u⟩ _=>?_);refine aO ?_;refine bW (t,u) ((by rw[au];simp only[br,aE];omega)) (hh:=(fun _ d=>d.msub ms))
  rw[if_neg Z] at b;refine ax (fun O=>?_) (fun O=>?_)
  ·have bp:=G.loc (.inl O);rw[if_pos O] at b;obtain⟨rfl,rfl⟩:=pP b;have i:=lC E (k:=o.a.toNat) ω;refine aj ?_;refine uI rfl (.ro E) ?_;refine mQ rfl (.ro E)<|aj ?_;intro b8 _;refine dA rfl Fx (fun w a=>zy j l [f.L.getD o.a.toNat 0] A _ c _ (by simp only[br,aE];omega) w (a.msub (.s fc (.s fc .r))) (uF [f.L.getD o.a.toNat 0] rfl σ rfl (ia i) fc)) (fun⟨t,u⟩ _=>?_);refine aO ?_;refine bW (t,u) ((by rw[au];simp only[br,aE];omega)) (hh:=(fun _ d=>d.msub ms))
  rw[if_neg O] at b;refine ax (fun P=>?_) (fun P=>?_)
  ·have bp:=G.loc (.inr P);rw[if_pos P] at b;have i:=lC E (k:=o.a.toNat) ω;have n:=qn [f.L.getD o.a.toNat 0] 1 (l,p);rw[b] at n;have n:v.length<=l.length:=n;refine aj ?_;refine uI rfl (.ro E) ?_;refine mQ rfl (.ro E)<|aj ?_;intro b9 _;refine dA rfl Rj (fun w a=>zd j (xs:= [f.L.getD o.a.toNat 0]) b A _ c _ σ ω w (a.msub (.s fc (.s fc .r))) (uF [f.L.getD o.a.toNat 0] rfl σ rfl (ia i) fc)) (fun⟨t,u⟩ _=>?_);refine aO ?_;refine bW (t,u) ω (hh:=(fun _ d=>d.msub ms))
  rw[if_neg P] at b;refine ax (fun N=>?_) (fun N=>?_)
  ·have:=G.call N;rw[if_pos N] at b;obtain⟨h,a8⟩:∃h:Nat,o.a=(h:Int):=⟨o.a.toNat,ω⟩
   have a9:h<fs.length:=ω;rw[a8,bq] at b;obtain⟨a1,a4,bi,bk,ba,cb,bo,bm⟩:=bb.fn a9;obtain⟨cj,ch⟩:=bs h a9;obtain⟨r,x,y⟩:∃r x,fa (fP (ar fs h)) (fP (ar fs h)).length (l,p)=(r,x):=⟨_,_,rfl⟩
   have n:=qn (fP (ar fs h)) (fP (ar fs h)).length (l,p);rw[y] at n b;have n:r.length<=l.length:=n;obtain⟨rfl,rfl⟩:=pP b;have a7:(fP (ar fs h)).length=(ar fs h).params.toNat:=by unfold fP;rw[aB];omega
   have:=ba.cap;have bv:=ba.to (k:=(ar fs h).params.toNat) ω;have bt:(bS (ar fs h)).length<=1:=by unfold bS;split <;> simp
   refine db (H':=_) (fun w d=>by rw[a8] at d;exact d)<|aj ?_;refine da h rfl (.ro bb) ?_;refine iB rfl (bm _)<|aj ?_;refine fun ca _=>aj ?_;refine bd (t:=86) (v':= ai ((ar fs h).params.toNat:Int)) rfl (by congr 1;omega) ?_;refine sE (iZ ay bg ω rfl rfl rfl) ?_;refine bd (t:=87) (v':= ac a1 (fP (ar fs h)).length a4) rfl (by rw[a7]) ?_;refine dA rfl Rj (fun w a=>zd j y A _ c _ ω ω w (a.msub (.s fc (.s fc .r))) (by rw[a7];exact .ro bv)) (fun⟨k,m⟩ _=>?_);refine aO ?_;refine et rfl Tryz.call278 (fun w a=>zt (ar fs h) a1 bi a4 bk bo.2 w) (fun⟨K,M⟩ _=>?_)
   try dsimp only
   refine dA rfl Fx (fun w a=>zy j r (bS (ar fs h)) k _ m _ ω w (a.msub (.s fc (.s fc .r))) (.own rfl fc)) (fun⟨t,u⟩ _=>?_);refine aO ?_;refine bW (t,u) ((by rw[au];omega)) (hh:=(fun _ d=>d.msub ms))
  rw[if_neg N] at b;refine ax (fun W=>?_) (fun W=>?_)
  ·rw[if_pos W] at b;obtain⟨r,x,y⟩:∃r x,fa (bS f) (bS f).length (l,p)=(r,x):=⟨_,_,rfl⟩
   have n:=qn (bS f) (bS f).length (l,p);rw[y] at n b;have n:r.length<=l.length:=n;obtain⟨rfl,rfl⟩:=pP b;have bt:(bS f).length<=1:=by unfold bS;split <;> simp
   refine aj ?_;refine et rfl Tryz.call278 (fun w a=>zt f T a0 U a3 G.res w) (fun⟨K,M⟩ _=>?_)
   try dsimp only
   refine dA rfl Rj (fun w a=>zd j y A _ c _ ω ω w (a.msub (.s fc (.s fc .r))) (.own rfl fc)) (fun⟨k,m⟩ _=>?_);refine aO ?_;refine iK (t:=104) rfl (fun i=>?_) (fun i=>?_)
   ·have i:x=true:=i;subst i;refine aj ?_;refine bW (k,m) ω (hh:=(fun _ d=>d.msub ms))
   have i:x=false:=i;subst i;refine aj ?_;refine bW (k,m) ω (hh:=(fun _ d=>by rw[Uj] at d;exact d.msub ms))
  rw[if_neg W] at b;obtain⟨r,x,y⟩:∃r x,fa (cG o.c).1 (cG o.c).1.length (l,p)=(r,x):=⟨_,_,rfl⟩
  have n:=qn (cG o.c).1 (cG o.c).1.length (l,p);rw[y] at n b;have n:r.length<=l.length:=n;obtain⟨rfl,rfl⟩:=pP b;have:(cG o.c).1.length<=3/\(cG o.c).2.length<=3:=by unfold cG;repeat (first | split | decide)
  refine aj ?_;refine et rfl Tryz.call279 (fun w a=>Kz o.c w) (fun⟨⟨b1,b2⟩,⟨K,M⟩⟩ _=>?_);refine aO ?_;refine dA rfl Rj (fun w a=>zd j y A _ c _ ω ω w (a.msub (.s fc (.s fc .r))) (.own rfl fc)) (fun⟨k,m⟩ _=>?_);refine aO ?_;refine dA rfl Fx (fun w a=>zy j r (cG o.c).2 k _ m _ ω w (a.msub (.s fc (.s fc .r))) (.own rfl fc)) (fun⟨t,u⟩ _=>?_);refine aO ?_;refine bW (t,u) ((by rw[au];omega)) (hh:=(fun _ d=>d.msub ms))
 rintro⟨k,m⟩ ci;refine aO ?_;refine iK (t:=119) rfl (fun i=>?_) (fun i=>?_)
 ·have i:D=true:=i;subst i;refine aj ?_;intro w a;exact⟨(k,m),trivial,rfl,a.msub ms⟩
 have i:D=false:=i;subst i;refine aj ?_;intro w a;refine⟨(k,m),trivial,rfl,?_⟩;rw[Ui] at a;exact a.msub ms
end
end
section
theorem E8 {n:Int} (h:0<=n/\n<=255):((aV n).toNat:Int)=n:=by rw[AF];omega
theorem ik {n a b:Int} :be n a b=true↔a<=n/\n<=b:=by unfold be;simp
theorem kX {n:Nat} {f:aw} (h:ft n f=0):f.L.length<=6/\(0<=f.params/\f.params<=f.L.length)/\(0<=f.result/\f.result<=2)/\(∀t∈f.L,1<=t/\t<=2)/\f.C.length≠0/\eJ f.C=0/\∀o∈f.C,fW n f.L.length f.C.length o=true:=by
 unfold ft at h
 split at h
 ·cases h
 rename_i k
 split at h
 ·cases h
 rename_i e
 split at h
 ·cases h
 rename_i a
 split at h
 ·cases h
 rename_i g
 split at h
 ·rename_i c;exact absurd h c
 rename_i c
 split at h
 ·cases h
 rename_i d;have a:¬(be f.result 0 2=false)/\¬(f.L.any jH=true):=⟨fun b=>a (.inl b),fun b=>a (.inr b)⟩
 refine⟨ω,ik.1 (τ e),ik.1 (τ a.1),fun t j=>?_,g,τ c,fun o i=>?_⟩
 ·have:=a.2;simp only[Bool.not_eq_true,List.any_eq_false] at this;have:=this t j;unfold jH at this;exact ik.1 (τ this)
 simp only[Bool.not_eq_true,List.any_eq_false] at d;simpa using d o i
theorem sS {l:List bJ} (h:eJ l=0):l.length<=40/\∀o∈l,gg o=0:=by
 unfold eJ at h
 split at h
 ·cases h
 rename_i c;refine⟨ω,?_⟩;clear c
 induction l with
 | nil=>simp
 | cons o l d=>
  simp only[fD] at h
  split at h
  ·rename_i a;simp at a;exact absurd h a
  rename_i a;intro e b;rcases ec.1 b with rfl | b
  ·simpa using a
  exact d h e b
end
section
def bz:List aw:= [⟨0,[],0,[⟨21,0⟩,⟨12,1⟩,⟨20,0⟩,⟨10,0⟩]⟩,⟨1,[1],1,[⟨8,0⟩,⟨3,0⟩,⟨7,0⟩,⟨13,0⟩]⟩]
theorem gC (w:World):Calls Tryz.prog 62 #[] w fun e w'=> ∃g:Nat,True/\e= .returned (.agg #[ac (some ⟨g,0,none⟩) 2 2])/\Cw w.heap.size w [an (ac (some ⟨g,0,none⟩) 2 2) bz] w':=by
 refine enter Tryz.func62 rfl Tryz.ntmps62 rfl<|aj ?_;refine fun k _=>aj ?_;refine fun b _=>aj ?_;refine fun c _=>aj ?_;refine fun d _=>aj ?_;refine fun i _=>aj ?_;intro w j;refine⟨_,trivial,rfl,?_⟩;have a:=bI (α:=bJ) (m:=4) [⟨21,0⟩,⟨12,1⟩,⟨20,0⟩,⟨10,0⟩] rfl (show∀h∈[(⟨21,0⟩:bJ),⟨12,1⟩,⟨20,0⟩,⟨10,0⟩],aI h.c/\aI h.a from by decide) rfl κ (j.msub (T:= [ak b _ _,ak c _ _,ak d _ _,ak i _ _]) ms);have a:=bI (α:=bJ) (m:=4) [⟨8,0⟩,⟨3,0⟩,⟨7,0⟩,⟨13,0⟩] rfl (show∀h∈[(⟨8,0⟩:bJ),⟨3,0⟩,⟨7,0⟩,⟨13,0⟩],aI h.c/\aI h.a from by decide) rfl κ (a.msub (T:= [ak d _ _,an (ac (some ⟨b,0,none⟩) 4 4) _,ak c _ _,ak i _ _]) ms);have a:=bI (α:=Int) (m:=1) [1] rfl (ia κ) rfl κ (a.msub (T:= [ak c _ _,an (ac (some ⟨d,0,none⟩) 4 4) _,an (ac (some ⟨b,0,none⟩) 4 4) _,ak i _ _]) ms);have a:=Cw.nilO Int a;refine tv (H:= []) (xs:=bz) (pA.cons (Hel:= [an (ac none 0 0) ([]:List Int),an (ac (some ⟨b,0,none⟩) 4 4) [(⟨21,0⟩:bJ),⟨12,1⟩,⟨20,0⟩,⟨10,0⟩]]) (cs:= [_,_,_,_]) (tO (f:=⟨0,[],0,[⟨21,0⟩,⟨12,1⟩,⟨20,0⟩,⟨10,0⟩]⟩) κ)
  (pA.cons (Hel:= [an (ac (some ⟨c,0,none⟩) 1 1) [(1:Int)],an (ac (some ⟨d,0,none⟩) 4 4) [(⟨8,0⟩:bJ),⟨3,0⟩,⟨7,0⟩,⟨13,0⟩]]) (cs:= [_,_,_,_]) (tO (f:=⟨1,[1],1,[⟨8,0⟩,⟨3,0⟩,⟨7,0⟩,⟨13,0⟩]⟩) κ) pA.nil_)) rfl κ ?_
 exact a.msub (T:= [ak i _ _,an (ac none 0 0) ([]:List Int),an (ac (some ⟨b,0,none⟩) 4 4) _,an (ac (some ⟨c,0,none⟩) 1 1) _,an (ac (some ⟨d,0,none⟩) 4 4) _]) ms
end
