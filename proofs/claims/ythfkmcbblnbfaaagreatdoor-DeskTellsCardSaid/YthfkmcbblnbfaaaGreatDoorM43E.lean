/- Lemmas of one proof. -/
import Derived.Test.YthfkmcbblnbfaaaGreatDoorM90E
import Derived.Test.YthfkmcbblnbfaaaGreatDoorM0E
import Derived.Test.YthfkmcbblnbfaaaGreatDoorM39E
import Derived.Test.YthfkmcbblnbfaaaGreatDoorM23E
import Derived.Test.YthfkmcbblnbfaaaGreatDoorM35E

namespace Go.Proofs.YthfkmcbblnbfaaaGreatDoor
set_option maxRecDepth 100000
set_option maxHeartbeats 16000000
open Go.RowKit
section
theorem nK (n a b:Int) (w:World):Calls Tryz.prog 181 #[ai n,ai a,ai b] w fun e w'=>e= .returned (.bool (be n a b))/\Below w.heap.size w w':=by
 refine enter Tryz.func181 rfl Tryz.ntmps181 rfl<|cR 10 (fun c=>?_) (fun c=>?_)
 ·refine aj ?_;intro w d;exact⟨aX (by unfold be;rw[c];rfl),d.below⟩
 refine aj ?_;intro w d;exact⟨aX (by unfold be;rw[c];rfl),d.below⟩
theorem Lh (n:Nat) (f:n*16<=140737488355328) (w:World):Calls Tryz.prog 315 #[ac none 0 0,ai (n:Int)] w fun e w'=> ∃g:Option Addr×Nat,True/\e= .returned (ac g.1 0 g.2)/\Cw w.heap.size w [an (α:=aD) (ac g.1 0 g.2) []] w':=by
 refine enter Tryz.func315 rfl Tryz.ntmps315 rfl<|ax (fun b=>?_) (fun b=>?_)
 ·exact absurd b ω
 refine aj ?_;refine sE (Kv aA rfl rfl)<|aj ?_;refine cN (t:=1) (v':= ai (n:Int)) rfl (by congr 1) ?_;refine eI rfl (fun d=>?_) (fun d=>?_)
 ·refine aj ?_;refine sE (Kv aA rfl rfl) ?_;refine sE (iZ (k:=0) aA aM (aF _) rfl rfl rfl)<|aj ?_;refine oE (PH (α:=aD) (bytes:=16) aA qM dr rfl κ ω ω rfl rfl rfl) (fun⟨g,c⟩ _=>?_);refine aO ?_;refine sE (iZ (k:=0) aA aM (aU _) rfl rfl rfl)<|aj ?_;intro w a;exact⟨(some ⟨g,0,none⟩,c),trivial,rfl,a⟩
 refine aj ?_;intro w a;exact⟨(none,0),trivial,rfl,Cw.nilO aD a⟩
theorem Tu (v:aD) (t:Int):gJ v t=((v.ref == !decide (t=1)) && ((!decide (t=3)) || decide (v.n=0))):=by
 unfold gJ
 cases v.ref <;> by_cases a:t=1 <;> simp[a]
theorem Ha (v:aD) (t:Int) (w:World):Calls Tryz.prog 293 #[.agg #[.bool v.ref,ai v.n],ai t] w fun e w'=>e= .returned (.bool (gJ v t))/\Below w.heap.size w w':=by
 have ha:=Tu v t;generalize f:gJ v t=g at ha;refine enter Tryz.func293 rfl Tryz.ntmps293 rfl<|aj ?_;refine fun d _=>aj ?_;refine sE (Sb Tryz.underlying4 rfl rfl rfl)<|cR 10 (fun b=>?_) (fun b=>?_)
 ·rw[b,Bool.true_and] at ha;refine cR 13 (fun c=>?_) (fun c=>?_)
  ·rw[c,Bool.true_or] at ha;refine aj ?_;intro w a;exact⟨aX ha.symm,a.below⟩
  rw[c,Bool.false_or] at ha;refine aj ?_;intro w a;exact⟨aX ha.symm,a.below⟩
 rw[b,Bool.false_and] at ha;refine aj ?_;intro w a;exact⟨aX ha.symm,a.below⟩
section
variable {B:Nat} {w0:World} {H:List aP}
theorem I7 (h:Nat) (a:MA) (m:av) (q:Value) (v:aD) (w:World) (b:Cw B w0 (ak h [ac a.Af m.F.length a.cf,ac a.Ab m.B.length a.cb,ac a.Ai m.I.length a.ci,ac a.Ao m.out.length a.co,ai m.S,ai m.T,q] 190::H) w) :
  Calls Tryz.prog 292 #[af h,.agg #[.bool v.ref,ai v.n]] w fun e w'=> ∃_:Unit,True/\e= .returned (ai (if fC m.B.length v=true then 0 else 3))/\Cw B w0 (ak h [ac a.Af m.F.length a.cf,ac a.Ab m.B.length a.cb,ac a.Ai m.I.length a.ci,ac a.Ao m.out.length a.co,ai m.S,ai m.T,q] 190::H) w':=by
 obtain⟨c,o⟩:∃c,fC m.B.length v=c:=⟨_,rfl⟩
 rw[o];obtain⟨s,g⟩:=v;refine bF Tryz.func292 rfl Tryz.ntmps292 rfl b<|aj ?_;refine fun r _=>aj ?_;refine bh [0,3,6,9,12,15,18,21,24,27,30,35,36,39,42,45,48,51,54,57,60,65,66,69,72] [] rfl<|aj ?_;refine pI (t:=7) rfl (fun f=>?_) (fun f=>?_)
 ·have p:be g 0 m.B.length=c:=by rw[<-o];unfold fC;rw[if_pos f]
  refine aj ?_;refine lc rfl rfl FA (fun w b=>nK g 0 m.B.length w)<|aj ?_;rw[p];refine pI (t:=19) rfl (fun l=>?_) (fun l=>?_)
  ·have d:c=false:=τ l;subst d;refine aj ?_;refine pJ rfl rfl rfl (.inr ha) ?_ hZ;refine aj ?_;refine aZ rfl<|aj ?_;intro w b;exact⟨(),trivial,rfl,b.msub ms⟩
  have d:c=true:=τ l;subst d;refine aj ?_;refine pI (t:=23) rfl (fun j=>?_) (fun j=>?_)
  ·rw[f] at j
   cases j
  refine aj ?_;refine pJ rfl rfl rfl (.inr ha) ?_ hZ;refine aj ?_;refine bY rfl<|aj ?_;intro w b;exact⟨(),trivial,rfl,b.msub ms⟩
 have p:bP g=c:=by rw[<-o];unfold fC;rw[if_neg (by rw[f];decide)]
 refine aj ?_;refine pJ rfl rfl rfl (.inr ha) ?_ hZ;refine aj ?_;refine pI (t:=23) rfl (fun i=>?_) (fun i=>?_)
 ·refine aj ?_;refine lc rfl rfl TA ((fun w b=>fT ((fun w b=>rx g w) w b)))<|aj ?_;rw[p];refine bO rfl (fun k=>?_) (fun k=>?_)
  ·have d:c=false:=τ k;subst d;refine aj ?_;intro w b;exact⟨(),trivial,rfl,b.msub ms⟩
  have d:c=true:=τ k;subst d;refine aj ?_;intro w b;exact⟨(),trivial,rfl,b.msub ms⟩
 rw[f] at i
 cases i
end
end
section
def hent (l:List iR) (k:Nat):iR:=l.getD k ⟨0,.slice none 0 0⟩
theorem SF.hent {B:Nat} {w0:World} {H:List aP} {A:Option Addr} {xs:List iR} {m c k:Nat} (hs:SF B w0 H A m c xs) (hk:k<m):∀w,Cw B w0 H w->∀j v,([.int .i64 (hent xs k).pc,(hent xs k).v]:List Value)[j]? =some v->w.cell? ⟨ab A,ao A+k*2+j,none⟩=some v:=fun w hw _ _ hv=>SF.cell hs hk _ hv w hw
theorem N1 (g:Nat) (pc q:Int) (v:Value) (w:World) (c:g<w.heap.size) (b:w.cell? ⟨g,0,none⟩=some (ai pc)) :
  Calls Tryz.prog 323 #[.agg #[ai q,v],af g] w fun e w'=>e= .returned (.bool (decide (q=pc)))/\Below w.heap.size w w':=by
 refine enter Tryz.func323 rfl Tryz.ntmps323 rfl<|aj ?_;refine fun d _=>aj ?_;refine eK rfl (fun w' a=>(a.below.cell c).trans b)<|aj ?_;intro w a;exact⟨rfl,a.below⟩
theorem P4 (A:Option Addr) (c:Nat) (a:List iR) (g:Nat) (pc:Int) (w:World) (k:Sl w (ac A a.length c) a) (p:g<w.heap.size) (q:w.cell? ⟨g,0,none⟩=some (ai pc)) :
  Calls Tryz.prog 322 #[ac A a.length c,.func (.func 323) #[] #[af g]] w fun e w'=> ∃r:Int,((r= -1/\∀i,i<a.length->(hent a i).pc≠pc)\/∃i:Nat,r=i/\i<a.length/\(hent a i).pc=pc/\∀j,j<i->(hent a j).pc≠pc)/\e= .returned (ai r)/\Cw w.heap.size w [] w':=by
 have:=bA k;refine enter Tryz.func322 rfl Tryz.ntmps322 rfl<|aj ?_;refine de (fun b:Nat=>b<=a.length/\∀j,j<b->(hent a j).pc≠pc) (fun b=>a.length - b) (fun b=> [(0,ac A a.length c),(1,.func (.func 323) #[] #[af g]),(7,ai (a.length:Int)),(8,ai (b:Int))]) (fun _=> []) 0 (⟨aU _,fun _ l=>absurd l (gt _)⟩) ?_;rintro b s;obtain⟨y,f⟩:b<=a.length/\∀j,j<b->(hent a j).pc≠pc:=s;refine ax (fun t=>?_) (fun t=>?_)
 ·have o:b<a.length:=ω;refine aj ?_;refine da _ rfl (.ro k) ?_;refine iB rfl (SF.hent (SF.ro k) o) ?_;refine oE (lw rfl rfl rfl Tryz.call323 (fun w d=>N1 g pc _ _ w (Nat.lt_of_lt_of_le p d.le) ((d.below.cell p).trans q))) (fun _ _=>ax (fun h=>?_) (fun h=>?_))
  ·refine aj ?_;intro w d;exact⟨(b:Int),.inr ⟨b,rfl,o,h,f⟩,rfl,d⟩
  refine aj ?_;refine cJ (b+1) (⟨by show b+1<=_;omega,fun j v=>(gH j b).elim (f j) (fun l=>by obtain rfl:j=b:=(by omega);exact h)⟩) (by show _ - _<_ - _;omega)
 obtain rfl:b=a.length:=ω;refine aj ?_;intro w d;exact⟨-1,.inl ⟨rfl,f⟩,rfl,d⟩
section
variable {B:Nat} {w0:World} {H:List aP}
theorem yw {L:List (Value×List Int)} {v:Value} {xs:List Int} {w:World} (hi:lG L v xs) (h:Cw B w0 (gL L::H) w):Cw B w0 (kj v xs::H) w:=by
 rcases hi with ⟨rfl,rfl⟩ | hi
 ·exact h.upd fun b d _=>⟨fun _=>False,⟨fun _ h=>h.elim,fun _ _=>Sl.nil_⟩,rfl,rfl,rfl,aF _,fun _ _ _=>rfl,fun c a=>a.elim⟩
 refine h.upd fun b d _=>?_;obtain⟨g,i,j⟩:=Hs.mem (lZ (f:=fun e:Value×List Int=>kj e.1 e.2) hi) (show Hs w _ b from d);exact⟨g,i,rfl,rfl,rfl,aF _,fun _ _ _=>rfl,fun c a=> .inl (j c a)⟩
theorem Pt {A:Option Addr} {m c k:Nat} {xs:List Int} {w:World} (e:k<=m) (h:Cw B w0 (kj (ac A m c) xs::H) w):Cw B w0 (kj (ac A k c) (xs.take k)::H) w:=by
 refine h.upd fun b a _=>⟨b,⟨a.1,fun g f=>?_⟩,rfl,rfl,rfl,aF _,fun _ _ _=>rfl,fun i d=> .inl d⟩
 have:=(a.2 g f).cut 0 k (aU _) e;rw[ET,va,va,qd] at this;exact this
theorem rD {w:World} (h:Cw B w0 H w):Cw B w0 (kj (ac none 0 0) ([]:List Int)::H) w:=yw lG.nil_ (lN h)
end
theorem Hw {xs:List kS} {pc:Int} {i:Nat} (hi:i<xs.length) (b:xs[i].pc=pc) (h2:∀a (_:a<i) (h:a<xs.length),xs[a].pc≠pc):(xs.find? fun e=>decide (e.pc=pc))=some xs[i]:=by
 induction xs generalizing i with
 | nil=>simp at hi
 | cons x xs d=>
  cases i with
  | zero=>rw[List.find?_cons_of_pos (τ b)];rfl
  | succ i=>
   rw[List.find?_cons_of_neg (by have c:=h2 0 ω σ;rw[List.getElem_cons_zero] at c;simpa using c)];exact d (τ hi) b fun a f h=>h2 (a+1) ω (τ h)
theorem Hv {xs:List kS} {pc:Int} (h2:∀a (h:a<xs.length),xs[a].pc≠pc):(xs.find? fun e=>decide (e.pc=pc))=none:=by
 rw[List.find?_eq_none];intro e b;obtain⟨a,c,rfl⟩:=cA b;simpa using h2 a c
theorem oL {a:List iR} {i:Nat} (h:i<a.length):hent a i=a[i]:=by
 unfold hent;rw[ap,aq h];rfl
theorem Cs (o:Option Addr) (p:Nat) (fs:List aw) (k:Nat) (pc:Int) (q:Option (List Int)) (v:gh fs (ar fs k) pc=q) (w:World) (R:Sl w (ac o fs.length p) fs) (K:k<fs.length) (N:nF fs (ar fs k)) (L:0<(ar fs k).C.length) :
  Calls Tryz.prog 316 #[.agg #[ac o fs.length p],ai (k:Int),ai pc] w fun e w'=> ∃g:Option Addr×Nat,True/\e= .returned (.tuple #[ac g.1 (q.getD []).length g.2,.bool q.isSome])/\
   Cw w.heap.size w [kj (ac g.1 (q.getD []).length g.2) (q.getD [])] w':=by
 refine enter Tryz.func316 rfl Tryz.ntmps316 rfl<|aj ?_;refine fun U _=>aj ?_;refine fun G _=>aj ?_;refine et rfl VC (fun w a=>sP o p fs k w (a.ro R) K N L) (fun⟨⟨z,C⟩,d,t⟩ h=>?_);refine aO ?_;refine et rfl Tryz.call322 (fun w a=>P4 z C d G pc w (SF.at_ (SF.own rfl fc) a) (mX a fc) (gQ fc rfl w a)) (fun S y=>aj ?_);have h:ow d t (cD fs (ar fs k)).1:=h;have:=h.len;refine eI rfl (fun I=>?_) (fun I=>?_)
 ·have s:q=none:=by
   rcases y with ⟨_,i⟩ | ⟨b,i,_⟩
   ·rw[<-v];unfold gh;rw[Hv (fun c r=>by
     have f:c<d.length:=ω;have:=i c f;rw[oL f,(h.el c f r).1] at this;exact this)]
    rfl
   omega
  subst s;refine aj ?_;intro w a;exact⟨(none,0),trivial,rfl,(rD a).msub ms⟩
 obtain⟨b,J,l,O,M⟩:∃b:Nat,S=b/\b<d.length/\(hent d b).pc=pc/\∀c,c<b->(hent d c).pc≠pc:=y.elim (fun i=>ω) id;subst J;have u:b<(cD fs (ar fs k)).1.length:=ω;obtain⟨E,j⟩:=h.el b l u;have s:q=some (cD fs (ar fs k)).1[b].K:=by
  rw[<-v];unfold gh;rw[Hw u (by rw[<-E,<-oL l];exact O) (fun c r i=>by
   have f:c<d.length:=ω;have:=M c r;rw[oL f,(h.el c f i).1] at this;exact this)]
  rfl
 subst s;rw[<-oL l] at j;refine aj ?_;refine da b rfl ((SF.own (xs:=d) rfl fc))<|aj ?_;refine eK rfl (fun w a=>SF.hent (SF.own (xs:=d) rfl fc) l w a 1 _ rfl)<|aj ?_;intro w a;obtain⟨A,D,F⟩:=j.form a fc;rw[F] at j⊢;exact⟨(A,D),trivial,rfl,(yw j (a.msub (T:=gL t:: []) ms)).msub ms⟩
end
section
theorem Gk {fs:List aw} (l:fR fs) {k:Nat} (o:k<fs.length) {pc to_:Int} {q t:List Int} (c:iu (ar fs k) pc to_=true) (i:gh fs (ar fs k) (pc - 1)=some q) (j:gh fs (ar fs k) pc=some t) (p:(ar fs to_.toNat).result≠0):1<=t.length:=by
 unfold iu at c;simp only[dv,decide_eq_true_eq] at c;obtain⟨_,d,f⟩:=c;obtain⟨_,_,_,_,y,h,g⟩:=(l.e _ o).at_ _ _ i;generalize bE (ar fs k).C (pc - 1).toNat=u at d f h g;obtain⟨v,b,a⟩:=g pc (by simp[dT,d]);rw[j] at b;have b:=fE b;subst b;obtain⟨r,s,e,_,_,_,rfl⟩:=kg.1 h;simp[tl,d] at e;obtain⟨rfl,rfl⟩:=e;rw[f] at a;unfold bS at a;rw[if_neg p] at a;have:=(xi a).2.1;omega
theorem sD {f:aw} {pc to_:Int} :iu f pc to_=(be pc 1 f.C.length && (decide ((bE f.C (pc - 1).toNat).c=12) && decide ((bE f.C (pc - 1).toNat).a=to_))):=rfl
section
variable {B:Nat} {w0:World} {H:List aP}
theorem LF (I:Nat) (a:MA) (m:av) (z:Option Addr) (A:Nat) (fs:List aw) (u:bN w0 B (ac z fs.length A) fs) (G:fZ B w0 a m) (O:fR fs) (i:Nat) (hi:i<m.F.length) (X:∀x∈m.F,0<=x.func/\x.func<fs.length) (q:Option (List Int)) (d:iY fs m.F i=q) (w:World) (b:Cw B w0 (ak I [ac a.Af m.F.length a.cf,ac a.Ab m.B.length a.cb,ac a.Ai m.I.length a.ci,ac a.Ao m.out.length a.co,ai m.S,ai m.T,ac z fs.length A] 190::H) w) :
  Calls Tryz.prog 294 #[af I,ai (i:Int)] w fun e w'=> ∃g:Option Addr×Nat,True/\e= .returned (.tuple #[ac g.1 (q.getD []).length g.2,.bool q.isSome])/\Cw B w0 (kj (ac g.1 (q.getD []).length g.2) (q.getD [])::ak I [ac a.Af m.F.length a.cf,ac a.Ab m.B.length a.cb,ac a.Ai m.I.length a.ci,ac a.Ao m.out.length a.co,ai m.S,ai m.T,ac z fs.length A] 190::H) w':=by
 have:=bA G.f;have:=bA u;obtain⟨a9,b0,ba,b1,cf,ck,a3,V⟩:=G.f.fr hi;have:=X _ (fL hi);obtain⟨f,Z⟩:∃f:Nat,(aN m.F i).func=f:=⟨(aN m.F i).func.toNat,ω⟩
 have C:f<fs.length:=ω;obtain⟨am,al⟩:=jo O.p C;obtain⟨bi,b5,bk,b6,ca,F,b9,a4⟩:=u.fn C;have:=bA F;have a5:jY fs m.F i=ar fs f:=by unfold jY;rw[Z,bq]
 obtain⟨h,S⟩:∃h,(aN m.F i).pc=h:=⟨_,rfl⟩
 unfold iY at d;rw[a5,S] at d;rw[Z,S] at V;rw[S] at a3;obtain⟨D,K⟩:∃D,gh fs (ar fs f) h=D:=⟨_,rfl⟩
 rw[K] at d;refine bF Tryz.func294 rfl Tryz.ntmps294 rfl b<|aj ?_;refine da i rfl (.ro G.f) ?_;refine iB rfl (V _)<|aj ?_;refine fun b7 _=>aj ?_;refine bh [0,3,6,9,12,15,18,21,26,27,30,33,36,39] [] rfl<|aj ?_;refine kL rfl rfl Tryz.call316 (fun w b=>Cs z A fs f h D K w (b.ro u) C am al) (fun⟨l,o⟩ _=>?_);refine aO ?_;refine eI rfl (fun a2=>?_) (fun a2=>?_)
 ·rw[if_pos (show i+1=m.F.length by omega)] at d;subst d;refine aj ?_;intro w b;exact⟨(l,o),trivial,rfl,b.msub ms⟩
 rw[if_neg (show¬i+1=m.F.length by omega)] at d;have Y:i+1<m.F.length:=ω;obtain⟨bb,b2,bc,b3,ch,cl,b8,W⟩:=G.f.fr Y;have:=X _ (fL Y);obtain⟨j,R⟩:∃j:Nat,(aN m.F (i+1)).func=j:=⟨(aN m.F (i+1)).func.toNat,ω⟩
 have a8:j<fs.length:=ω;have a6:jY fs m.F (i+1)=ar fs j:=by unfold jY;rw[R,bq]
 rw[R] at W;rw[a6,R] at d;refine aj ?_;refine da ((i+1)) rfl (.ro G.f)<|aj ?_;refine eK rfl (fun w b=>W _ w b 0 _ rfl)<|aj ?_;refine bh [0,3,6,9,12,15,18,21,24,27,30] [] rfl<|aj ?_;refine tE rfl (aW (k:=f) eR fx (.ro u) ω rfl rfl rfl)<|aj ?_;refine tE rfl (bU (fun w b=>a4 _ w b 3 _ rfl) rfl rfl rh)<|aj ?_;refine cE rfl FA (fun w b=>nK h 1 (ar fs f).C.length w)<|cR 70 (fun M=>?_) (fun M=>?_)
 ·have s:iu (ar fs f) h j=false:=by
   rw[sD,show be h 1 (ar fs f).C.length=false from by simpa using M];rfl
  rw[if_pos s] at d;subst d;refine aj ?_;refine aZ rfl<|aj ?_;intro w b;exact⟨(none,0),trivial,rfl,(rD b).msub ms⟩
 have a0:be h 1 (ar fs f).C.length=true:=τ M;have:=dJ.1 a0;refine aj ?_;refine uI rfl (.ro F)<|aj ?_;refine eK rfl (SF.opc (.ro F) ω)<|cR 80 (fun t=>?_) (fun t=>?_)
 ·have s:iu (ar fs f) h j=false:=by
   have t:decide ((bE (ar fs f).C (h - 1).toNat).c=12)=false:=τ t;rw[sD,t];simp
  rw[if_pos s] at d;subst d;refine aj ?_;refine aZ rfl<|aj ?_;intro w b;exact⟨(none,0),trivial,rfl,(rD b).msub ms⟩
 have t:decide ((bE (ar fs f).C (h - 1).toNat).c=12)=true:=τ t;refine aj ?_;refine uI rfl (.ro F)<|aj ?_;refine eK rfl (SF.opa (.ro F) ω)<|cF (fun N=>?_) (fun N=>?_)
 ·have s:iu (ar fs f) h j=false:=by
   rw[sD,decide_eq_false (p:=(bE (ar fs f).C (h - 1).toNat).a=j) N];simp
  rw[if_pos s] at d;subst d;refine aj ?_;intro w b;exact⟨(none,0),trivial,rfl,(rD b).msub ms⟩
 have s:iu (ar fs f) h j=true:=by
  rw[sD,a0,t,decide_eq_true (p:=(bE (ar fs f).C (h - 1).toNat).a=j) N];rfl
 rw[if_neg (by rw[s];decide)] at d;obtain⟨y,U⟩:∃y,gh fs (ar fs f) (h - 1)=y:=⟨_,rfl⟩
 rw[U] at d;refine aj ?_;refine bh [0,3,6,9,12,15,18,21,24,29,30,33,36,39,42] [] rfl<|aj ?_;refine kL rfl rfl Tryz.call316 (fun w b=>Cs z A fs f (h - 1) y U w (b.ro u) C am al) (fun⟨bf,b4⟩ _=>?_);refine aO ?_;refine iK (t:=106) rfl (fun r=>?_) (fun r=>?_)
 ·have r:y.isSome=false:=τ r;rw[if_pos r] at d;subst d;refine aj ?_;refine aZ rfl<|aj ?_;intro w b;exact⟨(none,0),trivial,rfl,(rD b).msub ms⟩
 have r:y.isSome=true:=τ r;rw[if_neg (by rw[r];decide)] at d;refine aj ?_;refine bO rfl (fun E=>?_) (fun E=>?_)
 ·have E:D=none:=τ E;subst E;have d:none=q:=d;subst d;refine aj ?_;intro w b;exact⟨(none,0),trivial,rfl,(rD b).msub ms⟩
 obtain⟨c,rfl⟩:∃c,D=some c:=by cases D with
  | none=>simp at E
  | some c=>exact⟨c,rfl⟩
 obtain⟨L,rfl⟩:∃L,y=some L:=by cases y with
  | none=>simp at r
  | some L=>exact⟨L,rfl⟩
 obtain⟨bl,bo,bm,bp,ce,cb,cd,a7⟩:=u.fn a8;have d:some (if (ar fs j).result≠0 then c.dropLast else c)=q:=d;subst d;refine aj ?_;refine da j rfl (.ro u)<|aj ?_;refine eK rfl (fun w b=>a7 _ w b 2 _ rfl)<|cF (fun J=>?_) (fun J=>?_)
 ·have:=Gk O C s U K (by rw[bq];exact J);rw[if_pos J,vj];refine ei (fun w b=>(b.rdSl (v:= ac l c.length o) (xs:=c) fc).form) ?_;rintro⟨_,_,e,ci,_⟩;injection e with _ _ e
  have:=((O.e _ C).at_ _ _ K).2.2.1;refine cN (t:=7) (v':= ac l c.length o) rfl (rfl)<|aj ?_;refine bd (t:=123) (v':= ai ((c.length - 1:Nat):Int)) rfl (by show Value.int _ ((c.length:Int) - 1)=_;congr 1;omega) ?_;refine sE (iZ (k:=c.length - 1) ay bg ω rfl rfl rfl)<|aj ?_;intro w b;have ad:(c.take (c.length - 1)).length=c.length - 1:=by rw[aB];omega
  refine⟨(l,o),trivial,by show _=Ending.returned (.tuple #[ac l (c.take (c.length - 1)).length o,.bool true]);rw[ad],?_⟩;show Cw B w0 (kj (ac l (c.take (c.length - 1)).length o) (c.take (c.length - 1))::_::H) w;rw[ad];exact(Pt (k:=c.length - 1) ω (b.msub (T:=kj (ac l c.length o) c::ak I [ac a.Af m.F.length a.cf,ac a.Ab m.B.length a.cb,ac a.Ai m.I.length a.ci,ac a.Ao m.out.length a.co,ai m.S,ai m.T,ac z fs.length A] 190::H) ms)).msub ms
 rw[if_neg (fun a1=>a1 J)];refine aj ?_;intro w b;exact⟨(l,o),trivial,rfl,b.msub ms⟩
end
end
section
theorem Cp {α:Type} {L:List (List α)} {k:Nat} (a:k<L.length):(L.take (k+1)).flatten=(L.take k).flatten++L.getD k []:=by
 rw[eE L k [] a,List.flatten_append];simp
theorem FZ {α:Type} (L:List (List α)) (k:Nat):(L.take k).flatten.length<=L.flatten.length:=by
 rw[<-congrArg List.length (congrArg List.flatten (ji k L)),List.flatten_append,au];omega
theorem I9 (g n:Nat) (f:Nat->Option Addr×Nat) (L:List (List aD)) (C:L.length=n) (w:World) (p:g<w.heap.size) (l:∀k,k<n->w.cell? ⟨g,0+k*1,none⟩=some (.slice (f k).1 (L.getD k []).length (f k).2))
  (D:∀k,k<n->Sl w (.slice (f k).1 (L.getD k []).length (f k).2) (L.getD k [])) (y:L.flatten.length*16<=140737488355328) (G:n<=1000) :
  Calls Tryz.prog 291 #[ac (some ⟨g,0,none⟩) n n] w fun e w'=> ∃q,e= .returned q/\Below w.heap.size w w'/\eQ w' w.heap.size q L.flatten:=by
 subst C;have o:=FZ L;refine enter Tryz.func291 rfl Tryz.ntmps291 rfl<|aj ?_;refine de (fun k:Nat=>k<=L.length) (fun k=>L.length - k) (fun k=> [(0,ac (some ⟨g,0,none⟩) L.length L.length),(3,ai ((L.take k).flatten.length:Int)),(9,ac (some ⟨g,0,none⟩) L.length L.length),(10,ai (L.length:Int)),(11,ai (k:Int))]) (fun _=> []) 0 (aU _) ?_;rintro k d;have d:k<=L.length:=d;refine ax (fun i=>?_) (fun i=>?_)
 ·have b:k<L.length:=ω;have h:=congrArg List.length (Cp (L:=L) (k:=k) ω);rw[au] at h;have z:=o (k+1);refine aj ?_;refine sE (kC (k:=k) oP fA rfl b rfl rfl rfl) ?_;refine eK rfl (fun w' c=>(c.below.cell p).trans (l k b))<|ax (fun j=>?_) (fun j=>?_)
  ·exact absurd j ω
  refine cN (t:=3) (v':= ai ((L.take (k+1)).flatten.length:Int)) rfl (by congr 1;omega)<|aj ?_;refine cJ (k+1) (by show k+1<=_;omega) (by show _ - _<_ - _;omega)
 obtain rfl:k=L.length:=ω;rw[aR];refine aj ?_;refine et rfl Tryz.call315 (fun w c=>Lh L.flatten.length y w) (fun⟨r,u⟩ _=>?_);refine aO ?_;refine de (fun g:Nat×Option Addr×Nat=>g.1<=L.length) (fun g=>L.length - g.1) (fun a=> [(6,ac a.2.1 (L.take a.1).flatten.length a.2.2),(25,ac (some ⟨g,0,none⟩) L.length L.length),(26,ai (L.length:Int)),(27,ai (a.1:Int))]) (fun a=> [an (ac a.2.1 (L.take a.1).flatten.length a.2.2) (L.take a.1).flatten]) (0,r,u) (aU _) ?_;rintro⟨k,E,F⟩ d
 try dsimp only
 have d:k<=L.length:=d;refine ax (fun i=>?_) (fun i=>?_)
 ·have b:k<L.length:=ω;have h:=Cp (L:=L) (k:=k) ω;have A:=congrArg List.length h;rw[au] at A;have z:=o (k+1);refine aj ?_;refine sE (kC (k:=k) oP fA rfl b rfl rfl rfl) ?_;refine eK rfl (fun w' c=>(c.below.cell p).trans (l k b))<|aj ?_;refine oE (dm (α:=aD) (bytes:=16) (xs:=(L.take k).flatten) (ys:=L.getD k []) h aA (aS dr) rfl fc (.ro (D k b)) ω ω rfl rfl rfl) (fun⟨s,v⟩ _=>?_);refine aO ?_;refine cJ (k+1,s,v) (by show k+1<=_;omega) (by show _ - _<_ - _;omega)
 obtain rfl:k=L.length:=ω;rw[aR];refine aj ?_;intro w c;exact⟨_,rfl,lu c⟩
end
section
theorem HT {nb:Nat} {l:List aD} {k:Nat} (a:k<l.length) (h:fC nb (l.getD k default)=false):l.any (fun v=>!fC nb v)=true:=cU.2 ⟨_,cC a,by rw[h];rfl⟩
theorem Ff {nb:Nat} {l:List aD} (h:∀j,j<l.length->fC nb (l.getD j default)=true):¬l.any (fun v=>!fC nb v)=true:=fun ha=>by
 obtain⟨v,c,a⟩:=cU.1 ha;obtain⟨j,b,rfl⟩:=cA c;have:=h j b;rw[ap,aq b,rY] at this;rw[this] at a
 cases a
theorem xr {s:List aD} {t:List Int} {n k:Nat} (a:k<n) (h:gJ (s.getD k default) (t.getD k 0)=false):HQ s t n=false:=by
 cases e:HQ s t n with
 | false=>rfl
 | true=>rw[nz.1 e k a] at h;cases h
section
variable {B:Nat} {w0:World} {H:List aP}
theorem AD (o:Nat) (a:MA) (m:av) (q:Option Addr) (r:Nat) (fs:List aw) (N:bN w0 B (ac q fs.length r) fs) (M:fZ B w0 a m) (a0:fR fs) (bp:ox m.F) (i:Nat) (hi:i<m.F.length) (a4:∀x∈m.F,0<=x.func/\x.func<fs.length) (ad:Int) (g:gv fs m.B.length m.F i=ad) (w:World) (d:Cw B w0 (ak o [ac a.Af m.F.length a.cf,ac a.Ab m.B.length a.cb,ac a.Ai m.I.length a.ci,ac a.Ao m.out.length a.co,ai m.S,ai m.T,ac q fs.length r] 190::H) w) :
  Calls Tryz.prog 238 #[af o,ai (i:Int)] w fun e w'=> ∃_:Unit,True/\e= .returned (ai ad)/\Cw B w0 (ak o [ac a.Af m.F.length a.cf,ac a.Ab m.B.length a.cb,ac a.Ai m.I.length a.ci,ac a.Ao m.out.length a.co,ai m.S,ai m.T,ac q fs.length r] 190::H) w':=by
 have:=bA M.f;have:=bA N;obtain⟨u,y,v,z,E,I,bf,U⟩:=M.f.fr hi;obtain⟨bi,bk⟩:=bp.2 (aN m.F i) (fL hi);have:=a4 _ (fL hi);obtain⟨l,a6⟩:∃l:Nat,(aN m.F i).func=l:=⟨(aN m.F i).func.toNat,ω⟩
 have W:l<fs.length:=ω;obtain⟨bv,bt⟩:=jo a0.p W;obtain⟨O,S,R,T,V,bl,bo,a2⟩:=N.fn W;have bs:(ar fs l).L.length<=6:=(bv.op 0 bt).par l W |>.2;have bm:jY fs m.F i=ar fs l:=by unfold jY;rw[a6,bq]
 unfold gv at g;rw[bm] at g;rw[a6] at U;obtain⟨t,ba⟩:∃t,iY fs m.F i=t:=⟨_,rfl⟩
 rw[ba] at g;generalize ar fs l=h at g V bl bo a2 bs;generalize aN m.F i=x at g E I bf U bi bk;have:=bA E;have:=bA I;refine bF Tryz.func238 rfl Tryz.ntmps238 rfl d<|aj ?_;refine da i rfl (.ro M.f) ?_;refine iB rfl (U _)<|aj ?_;refine fun A _=>aj ?_;refine bh [0,3,6,9,12,15,18,21,24,29,32] [10] rfl<|aj ?_;refine tE rfl (aW (k:=l) eR fx (.ro N) ω rfl rfl rfl) ?_;refine tE rfl (eC (a2 _) rfl rfl yX fx)<|aj ?_;refine fun C _=>cF (fun K=>?_) (fun K=>?_)
 ·rw[if_pos (show x.L.length≠h.L.length from fun e=>K (by rw[e]))] at g;subst g;refine aj ?_;intro w d;exact⟨(),trivial,rfl,d.msub ms⟩
 have K:x.L.length=h.L.length:=ω;rw[if_neg (fun f=>f K)] at g;have a1: [x.L,x.K].flatten.length*16<=140737488355328:=by simp only[List.flatten_cons,List.flatten_nil,au,aE];omega
 refine aj ?_;intro bc _;refine oE (fm rfl rfl rfl Tryz.call291 (fun w d=>I9 bc 2 (fun b=>if b=0 then (u,y) else (v,z)) [x.L,x.K] rfl w (mX d fc) (fun b L=>by rcases(show b=0\/b=1 by omega) with rfl | rfl;exact gQ fc rfl w d;exact gQ fc rfl w d) (fun b L=>by rcases(show b=0\/b=1 by omega) with rfl | rfl;exact d.ro E;exact d.ro I) a1 κ)) (fun⟨Y,al⟩ _=>?_);refine aO ?_;have a3: [x.L,x.K].flatten=x.L++x.K:=σ;rw[a3];rw[a3] at a1;refine de (fun b:Nat=>b<=(x.L++x.K).length/\∀c,c<b->fC m.B.length ((x.L++x.K).getD c default)=true) (fun b=>(x.L++x.K).length - b) (fun b=> [(0,af o),(1,ai (i:Int)),(5,af A),(6,af C),(45,ac Y (x.L++x.K).length al),(46,ai ((x.L++x.K).length:Int)),(47,ai (b:Int))]) (fun _=>ag Y al (x.L++x.K)::ak A [ai (l:Int),ai x.pc,ac u x.L.length y,ac v x.K.length z] 118::ak C [ai h.params,ac O h.L.length S,ai h.result,ac R h.C.length T] 84::ak o [ac a.Af m.F.length a.cf,ac a.Ab m.B.length a.cb,ac a.Ai m.I.length a.ci,ac a.Ao m.out.length a.co,ai m.S,ai m.T,ac q fs.length r] 190::H) 0 (⟨aU _,fun _ f=>absurd f (gt _)⟩) ?_ (hh:=(fun w f=>f.msub ms));rintro b D;obtain⟨L,a7⟩:b<=(x.L++x.K).length/\∀c,c<b->fC m.B.length ((x.L++x.K).getD c default)=true:=D;refine ax (fun F=>?_) (fun F=>?_)
 ·have s:b<(x.L++x.K).length:=ω;refine aj ?_;refine da _ rfl (SF.own rfl fc) ?_;refine iB rfl (SF.val (SF.own rfl fc) s default)<|aj ?_;refine fun b5 _=>aj ?_;refine dA rfl Tryz.call292 (fun w d=>I7 o a m (ac q fs.length r) ((x.L++x.K).getD b default) w (d.msub (.s fc .r))) (fun _ _=>aj ?_);obtain⟨b0,X⟩:∃bb,fC m.B.length ((x.L++x.K).getD b default)=bb:=⟨_,rfl⟩
  rw[X]
  cases b0
  ·rw[if_pos (HT s X)] at g;subst g;rw[if_neg κ];refine jg rfl (fun J=>?_) (fun J=>?_)
   ·refine aj ?_;intro w d;exact⟨(),trivial,rfl,d.msub ms⟩
   exact absurd J κ
  rw[if_pos rfl];refine jg rfl (fun J=>?_) (fun J=>?_)
  ·exact absurd rfl J
  refine aj ?_;refine cJ (b+1) (⟨by show b+1<=_;omega,fun c a5=>(gH c b).elim (a7 c) (fun f=>by obtain rfl:c=b:=(by omega);exact X)⟩) (by show _ - _<_ - _;omega) (hh:=(fun w f=>f.msub ms))
 obtain rfl:b=(x.L++x.K).length:=ω;rw[if_neg (Ff a7)] at g;refine aj ?_;refine de (fun b:Nat=>b<=x.L.length/\∀c,c<b->gJ (x.L.getD c default) (h.L.getD c 0)=true) (fun b=>x.L.length - b) (fun b=> [(0,af o),(1,ai (i:Int)),(5,af A),(6,af C),(59,ac u x.L.length y),(60,ai (x.L.length:Int)),(61,ai (b:Int))]) (fun _=>ak A [ai (l:Int),ai x.pc,ac u x.L.length y,ac v x.K.length z] 118::ak C [ai h.params,ac O h.L.length S,ai h.result,ac R h.C.length T] 84::ak o [ac a.Af m.F.length a.cf,ac a.Ab m.B.length a.cb,ac a.Ai m.I.length a.ci,ac a.Ao m.out.length a.co,ai m.S,ai m.T,ac q fs.length r] 190::H) 0 (⟨aU _,fun _ f=>absurd f (gt _)⟩) ?_ (hh:=(fun w f=>f.msub ms));rintro b D;obtain⟨L,a8⟩:b<=x.L.length/\∀c,c<b->gJ (x.L.getD c default) (h.L.getD c 0)=true:=D;refine ax (fun F=>?_) (fun F=>?_)
 ·have s:b<x.L.length:=ω;refine aj ?_;refine da _ rfl (.ro E) ?_;refine iB rfl (SF.val (SF.ro E) s default)<|aj ?_;refine fun b6 _=>aj ?_;refine bh [0,3,6,9,12,15,20,21] [] rfl<|aj ?_;refine tE rfl (aW (k:=b) ay bg (.ro V) ω rfl rfl rfl) ?_;refine tE rfl (bU (SF.int (.ro V) ω) rfl rfl bB) ?_;refine lc rfl rfl Tryz.call293 (fun w d=>Ha (x.L.getD b default) (h.L.getD b 0) w)<|aj ?_;refine bO rfl (fun k=>?_) (fun k=>?_)
  ·have k:gJ (x.L.getD b default) (h.L.getD b 0)=false:=τ k;rw[if_pos (xr s k)] at g;subst g;refine aj ?_;intro w d;exact⟨(),trivial,rfl,d.msub ms⟩
  have k:gJ (x.L.getD b default) (h.L.getD b 0)=true:=τ k;refine aj ?_;refine cJ (b+1) (⟨by show b+1<=_;omega,fun c a5=>(gH c b).elim (a8 c) (fun f=>by obtain rfl:c=b:=(by omega);exact k)⟩) (by show _ - _<_ - _;omega) (hh:=(fun w f=>f.msub ms))
 obtain rfl:b=x.L.length:=ω;rw[if_neg (by rw[nz.2 a8];decide)] at g;refine aj ?_;refine dA rfl Tryz.call294 (fun w d=>LF (H:=ak A [ai (l:Int),ai x.pc,ac u x.L.length y,ac v x.K.length z] 118::ak C [ai h.params,ac O h.L.length S,ai h.result,ac R h.C.length T] 84::H) o a m q r fs N M a0 i hi a4 t ba w (d.msub ms)) (fun⟨Z,am⟩ _=>?_);refine aO ?_;refine bO rfl (fun G=>?_) (fun G=>?_)
 ·have G:t=none:=τ G;subst G;subst g;refine aj ?_;intro w d;exact⟨(),trivial,rfl,d.msub ms⟩
 obtain⟨j,rfl⟩:∃j,t=some j:=by cases t with
  | none=>simp at G
  | some j=>exact⟨j,rfl⟩
 dsimp only[rY] at g⊢;refine cF (fun p=>?_) (fun p=>?_)
 ·have p:¬(j.length:Int)=x.K.length:=p;rw[if_pos (show j.length≠x.K.length from fun e=>p (by rw[e]))] at g;subst g;refine aj ?_;intro w d;exact⟨(),trivial,rfl,d.msub ms⟩
 have p:(j.length:Int)=x.K.length:=p;have p:j.length=x.K.length:=ω;rw[if_neg (fun f=>f p)] at g;refine aj ?_;refine de (fun b:Nat=>b<=x.K.length/\∀c,c<b->gJ (x.K.getD c default) (j.getD c 0)=true) (fun b=>x.K.length - b) (fun b=> [(12,ac Z j.length am),(90,ac v x.K.length z),(91,ai (x.K.length:Int)),(92,ai (b:Int))]) (fun _=>kj (ac Z j.length am) j::ak o [ac a.Af m.F.length a.cf,ac a.Ab m.B.length a.cb,ac a.Ai m.I.length a.ci,ac a.Ao m.out.length a.co,ai m.S,ai m.T,ac q fs.length r] 190::H) 0 (⟨aU _,fun _ f=>absurd f (gt _)⟩) ?_ (hh:=(fun w f=>f.msub ms));rintro b D;obtain⟨L,a9⟩:b<=x.K.length/\∀c,c<b->gJ (x.K.getD c default) (j.getD c 0)=true:=D;refine ax (fun F=>?_) (fun F=>?_)
 ·have s:b<x.K.length:=ω;refine aj ?_;refine da _ rfl (.ro I) ?_;refine iB rfl (SF.val (SF.ro I) s default)<|aj ?_;refine fun b7 _=>aj ?_;refine bh [0,3,6,9,12,17,18] [] rfl<|aj ?_;refine tE rfl (aW (k:=b) ay bg (SF.rd (xs:=j) rfl fc) ω rfl rfl rfl) ?_;refine tE rfl (bU (SF.int (SF.rd (xs:=j) rfl fc) ω) rfl rfl bB) ?_;refine lc rfl rfl Tryz.call293 (fun w d=>Ha (x.K.getD b default) (j.getD b 0) w)<|aj ?_;refine bO rfl (fun k=>?_) (fun k=>?_)
  ·have k:gJ (x.K.getD b default) (j.getD b 0)=false:=τ k;rw[if_pos (xr ω k)] at g;subst g;refine aj ?_;intro w d;exact⟨(),trivial,rfl,d.msub ms⟩
  have k:gJ (x.K.getD b default) (j.getD b 0)=true:=τ k;refine aj ?_;refine cJ (b+1) (⟨by show b+1<=_;omega,fun c a5=>(gH c b).elim (a9 c) (fun f=>by obtain rfl:c=b:=(by omega);exact k)⟩) (by show _ - _<_ - _;omega) (hh:=(fun w f=>f.msub ms))
 obtain rfl:b=x.K.length:=ω;rw[if_neg (by rw[p,nz.2 a9];decide)] at g;subst g;refine aj ?_;intro w d;exact⟨(),trivial,rfl,d.msub ms⟩
end
end
section
theorem oZ {n k:Nat} (a:k<n):(List.range n).getD k 0=k:=by
 rw[ap,List.getElem?_range a];rfl
theorem Ll {l:List aL} {k n:Nat} (a:k<l.length) (h:be (aN l k).func 0 ((n:Int) - 1)=false):l.any (fun x=>!be x.func 0 ((n:Int) - 1))=true:=cU.2 ⟨_,fL a,by rw[h];rfl⟩
theorem Hr {l:List aL} {n:Nat} (h:∀j,j<l.length->be (aN l j).func 0 ((n:Int) - 1)=true):(¬l.any (fun x=>!be x.func 0 ((n:Int) - 1))=true)/\∀x∈l,0<=x.func/\x.func<n:=by
 have b:∀x∈l,be x.func 0 ((n:Int) - 1)=true:=fun x a=>by
  obtain⟨j,d,rfl⟩:=cA a;have:=h j d;unfold aN at this
  rwa [ap,aq d] at this
 refine⟨fun ha=>?_,fun x a=>?_⟩
 ·obtain⟨x,a,c⟩:=cU.1 ha;rw[b x a] at c
  cases c
 have:=dJ.1 (b x a);omega
section
variable {B:Nat} {w0:World} {H:List aP}
theorem Gf (o:Nat) (a:MA) (m:av) (s:Option Addr) (t:Nat) (fs:List aw) (G:bN w0 B (ac s fs.length t) fs) (v:fZ B w0 a m) (J:fR fs) (K:ox m.F) (I:Int) (f:lA fs m=I) (w:World) (d:Cw B w0 (ak o [ac a.Af m.F.length a.cf,ac a.Ab m.B.length a.cb,ac a.Ai m.I.length a.ci,ac a.Ao m.out.length a.co,ai m.S,ai m.T,ac s fs.length t] 190::H) w) :
  Calls Tryz.prog 184 #[af o] w fun e w'=> ∃_:Unit,True/\e= .returned (ai I)/\Cw B w0 (ak o [ac a.Af m.F.length a.cf,ac a.Ab m.B.length a.cb,ac a.Ai m.I.length a.ci,ac a.Ao m.out.length a.co,ai m.S,ai m.T,ac s fs.length t] 190::H) w':=by
 have:=bA v.f;have:=bA G;unfold lA at f;refine bF Tryz.func184 rfl Tryz.ntmps184 rfl d<|cn<|bK<|aC ?_;refine bG<|dq (fun _:Unit=> ¬6<m.F.length/\¬(m.F.length=0/\m.S≠2)/\¬(0<m.F.length/\m.S=2)) (fun _=> [(0,af o)]) (fun _=>ak o [ac a.Af m.F.length a.cf,ac a.Ab m.B.length a.cb,ac a.Ai m.I.length a.ci,ac a.Ao m.out.length a.co,ai m.S,ai m.T,ac s fs.length t] 190::H) ?_ ?_
 ·refine ax (fun z=>?_) (fun z=>?_)
  ·rw[if_pos ω] at f;subst f;refine aj ?_;intro w d;exact⟨(),trivial,rfl,d.msub ms⟩
  have z:¬6<m.F.length:=ω;rw[if_neg z] at f;refine cR 21 (fun h=>?_) (fun h=>?_)
  ·have h:=of_decide_eq_true h;have h:m.F.length=0:=ω;refine cF (fun q=>?_) (fun q=>?_)
   ·rw[if_pos ⟨h,q⟩] at f;subst f;refine aj ?_;intro w d;exact⟨(),trivial,rfl,d.msub ms⟩
   refine cR 32 (fun p=>?_) (fun p=>?_)
   ·have p:=of_decide_eq_true p;exact absurd p ω
   refine aj ?_;refine bY rfl<|aj ?_;refine bW () (⟨z,fun c=>c.2 q,fun c=>ω⟩) (hh:=(fun _ c=>c.msub ms))
  have h:=of_decide_eq_false h;have h:¬m.F.length=0:=ω;rw[if_neg (fun c=>h c.1)] at f;refine aj ?_;refine bY rfl<|cR 32 (fun p=>?_) (fun p=>?_)
  ·refine ax (fun q=>?_) (fun q=>?_)
   ·rw[if_pos ⟨ω,q⟩] at f;subst f;refine aj ?_;intro w d;exact⟨(),trivial,rfl,d.msub ms⟩
   refine aj ?_;refine bW () (⟨z,fun c=>h c.1,fun c=>q c.2⟩) (hh:=(fun _ c=>c.msub ms))
  have p:=of_decide_eq_false p;exact absurd p ω
 rintro⟨⟩ ⟨U,q,p⟩;rw[if_neg U,if_neg q,if_neg p] at f;refine aj ?_;refine de (fun b:Nat=>b<=m.F.length/\∀r,r<b->be (aN m.F r).func 0 ((fs.length:Int) - 1)=true) (fun b=>m.F.length - b) (fun b=> [(0,af o),(44,ac a.Af m.F.length a.cf),(45,ai (m.F.length:Int)),(46,ai (b:Int))]) (fun _=>ak o [ac a.Af m.F.length a.cf,ac a.Ab m.B.length a.cb,ac a.Ai m.I.length a.ci,ac a.Ao m.out.length a.co,ai m.S,ai m.T,ac s fs.length t] 190::H) 0 (⟨aU _,fun _ c=>absurd c (gt _)⟩) ?_ (hh:=(fun w c=>c.msub ms));rintro b E;obtain⟨X,M⟩:b<=m.F.length/\∀r,r<b->be (aN m.F r).func 0 ((fs.length:Int) - 1)=true:=E;refine ax (fun F=>?_) (fun F=>?_)
 ·have j:b<m.F.length:=ω;obtain⟨O,S,R,T,Y,Z,V,C⟩:=v.f.fr j;refine aj ?_;refine da _ rfl (.ro v.f) ?_;refine iB rfl (C _)<|aj ?_;refine fun am _=>aj ?_;refine bh [0,3,6,9,12,15,18,21,24,29,30] [] rfl<|aj ?_;refine lc rfl rfl FA (fun w d=>nK (aN m.F b).func 0 ((fs.length:Int) - 1) w)<|aj ?_;refine bO rfl (fun u=>?_) (fun u=>?_)
  ·have u:be (aN m.F b).func 0 ((fs.length:Int) - 1)=false:=τ u;rw[if_pos (Ll j u)] at f;subst f;refine aj ?_;intro w d;exact⟨(),trivial,rfl,d.msub ms⟩
  have u:be (aN m.F b).func 0 ((fs.length:Int) - 1)=true:=τ u;refine aj ?_;refine cJ (b+1) (⟨by show b+1<=_;omega,fun r a1=>(gH r b).elim (M r) (fun c=>by obtain rfl:r=b:=(by omega);exact u)⟩) (by show _ - _<_ - _;omega) (hh:=(fun w c=>c.msub ms))
 obtain rfl:b=m.F.length:=ω;obtain⟨W,L⟩:=Hr M;rw[if_neg W] at f;refine aj ?_;refine de (fun b:Nat=>b<=m.F.length/\(0<b->¬(0<m.F.length/\(aN m.F 0).func≠0))/\dZ (gv fs m.B.length m.F) ((List.range m.F.length).take b)=0) (fun b=>m.F.length - b) (fun b=> [(0,af o),(66,ac a.Af m.F.length a.cf),(67,ai (m.F.length:Int)),(68,ai (b:Int))]) (fun _=>ak o [ac a.Af m.F.length a.cf,ac a.Ab m.B.length a.cb,ac a.Ai m.I.length a.ci,ac a.Ao m.out.length a.co,ai m.S,ai m.T,ac s fs.length t] 190::H) 0 (⟨aU _,fun c=>absurd c (gt _),rfl⟩) ?_ (hh:=(fun w c=>c.msub ms));rintro b E;obtain⟨X,N,y⟩:b<=m.F.length/\(0<b->¬(0<m.F.length/\(aN m.F 0).func≠0))/\dZ (gv fs m.B.length m.F) ((List.range m.F.length).take b)=0:=E;refine ax (fun F=>?_) (fun F=>?_)
 ·have j:b<m.F.length:=ω;obtain⟨O,S,R,T,Y,Z,V,C⟩:=v.f.fr j;refine aj ?_;refine da _ rfl (.ro v.f) ?_;refine iB rfl (C _)<|aj ?_;refine fun a0 _=>cR 75 (fun A=>?_) (fun A=>?_)
  ·have A:=of_decide_eq_true A;obtain rfl:b=0:=ω;refine cF (fun D=>?_) (fun D=>?_)
   ·rw[if_pos ⟨j,D⟩] at f;subst f;refine aj ?_;intro w d;exact⟨(),trivial,rfl,d.msub ms⟩
   have h:¬(0<m.F.length/\(aN m.F 0).func≠0):=fun c=>c.2 D;refine aj ?_;refine dA rfl Tryz.call238 (fun w d=>AD o a m s t fs G v J K 0 j L _ rfl w (d.msub (.s fc .r))) (fun _ _=>cF (fun i=>?_) (fun i=>?_))
   ·have i:gv fs m.B.length m.F 0≠0:=i;have k:=jp (g:=gv fs m.B.length m.F) (l:=List.range m.F.length) 0 (by rw[kv];exact j) y;rw[oZ j] at k;rw[if_neg h,mU (k:=0+1) (by rw[k];exact i),k] at f;subst f;refine aj ?_;intro w d;exact⟨(),trivial,rfl,d.msub ms⟩
   have i:gv fs m.B.length m.F 0=0:=i;have k:=jp (g:=gv fs m.B.length m.F) (l:=List.range m.F.length) 0 (by rw[kv];exact j) y;rw[oZ j,i] at k;refine aj ?_;refine cJ 1 (⟨by show 1<=_;omega,fun _=>h,k⟩) (by show _ - _<_ - _;omega) (hh:=(fun w c=>c.msub ms))
  have A:=of_decide_eq_false A;have h:=N ω;refine aj ?_;refine bY rfl<|aj ?_;refine dA rfl Tryz.call238 (fun w d=>AD o a m s t fs G v J K b j L _ rfl w (d.msub (.s fc .r))) (fun _ _=>cF (fun i=>?_) (fun i=>?_))
  ·have i:gv fs m.B.length m.F b≠0:=i;have k:=jp (g:=gv fs m.B.length m.F) (l:=List.range m.F.length) 0 (by rw[kv];exact j) y;rw[oZ j] at k;rw[if_neg h,mU (k:=b+1) (by rw[k];exact i),k] at f;subst f;refine aj ?_;intro w d;exact⟨(),trivial,rfl,d.msub ms⟩
  have i:gv fs m.B.length m.F b=0:=i;have k:=jp (g:=gv fs m.B.length m.F) (l:=List.range m.F.length) 0 (by rw[kv];exact j) y;rw[oZ j,i] at k;refine aj ?_;refine cJ (b+1) (⟨by show b+1<=_;omega,fun _=>h,k⟩) (by show _ - _<_ - _;omega) (hh:=(fun w c=>c.msub ms))
 obtain rfl:b=m.F.length:=ω;rw[bD (by rw[kv];exact aF _)] at y;have h:¬(0<m.F.length/\(aN m.F 0).func≠0):=fun c=>N c.1 c;rw[if_neg h,y] at f;subst f;refine aj ?_;intro w d;exact⟨(),trivial,rfl,d.msub ms⟩
end
end
section
theorem KW (n:Int) (w:World):Calls Tryz.prog 237 #[ai n] w fun e w'=>e= .returned (.bool (!bP n))/\Below w.heap.size w w':=by
 refine enter Tryz.func237 rfl Tryz.ntmps237 rfl<|aj ?_;refine cE rfl TA ((fun w a=>fT ((fun w a=>rx n w) w a)))<|aj ?_;intro w a;exact⟨rfl,a.below⟩
theorem Er (A:Option Addr) (c:Nat) (l:List Int) (w:World) (b:Sl w (ac A l.length c) l):Calls Tryz.prog 183 #[ac A l.length c] w fun e w'=>e= .returned (.bool (dp l))/\Below w.heap.size w w':=by
 refine enter Tryz.func183 rfl Tryz.ntmps183 rfl<|aj ?_;refine cE rfl Rl (fun w a=>rM A c l 237 #[] (fun n=>!bP n) w (a.ro b) Tryz.call237 (fun d _ x _=>KW x d))<|aj ?_;intro w a;exact⟨rfl,a.below⟩
theorem NO (m:av):im m=aN m.F (m.F.length - 1):=by
 unfold im aN;rw[List.getLastD_eq_getLast?,List.getLast?_eq_getElem?,ap]
section
variable {B:Nat} {w0:World} {H:List aP}
theorem E7 (h:Nat) (a:MA) (m:av) (o:Option Addr) (p:Nat) (fs:List aw) (u:bN w0 B (ac o fs.length p) fs) (l:fZ B w0 a m) (G:fR fs) (R:ox m.F) (E:Int) (c:ff fs m=E) (w:World) (b:Cw B w0 (ak h [ac a.Af m.F.length a.cf,ac a.Ab m.B.length a.cb,ac a.Ai m.I.length a.ci,ac a.Ao m.out.length a.co,ai m.S,ai m.T,ac o fs.length p] 190::H) w) :
  Calls Tryz.prog 131 #[af h] w fun e w'=> ∃_:Unit,True/\e= .returned (ai E)/\Cw B w0 (ak h [ac a.Af m.F.length a.cf,ac a.Ab m.B.length a.cb,ac a.Ai m.I.length a.ci,ac a.Ao m.out.length a.co,ai m.S,ai m.T,ac o fs.length p] 190::H) w':=by
 have:=bA l.f;have:=bA u;unfold ff at c;refine bF Tryz.func131 rfl Tryz.ntmps131 rfl b<|cn<|bK<|aC ?_;refine bG<|cn<|bK<|aC ?_;refine aC ?_;refine bG<|dq (fun _:Unit=>True) (fun _=> [(0,af h),(3,ai (if m.S=3 then 1 else 0)),(4,ai (if m.S=3 then 5 else 0))]) (fun _=>ak h [ac a.Af m.F.length a.cf,ac a.Ab m.B.length a.cb,ac a.Ai m.I.length a.ci,ac a.Ao m.out.length a.co,ai m.S,ai m.T,ac o fs.length p] 190::H) ?_ ?_
 ·refine ax (fun g=>?_) (fun g=>?_)
  ·rw[if_pos g,if_pos g];refine aj ?_;refine kw () trivial (hh:=(fun _ d=>d.msub ms))
  rw[if_neg g,if_neg g];refine aj ?_;refine bW () trivial (hh:=(fun _ d=>d.msub ms))
 rintro⟨⟩ _;refine aj ?_;refine cE rfl FA (fun w b=>nK m.S 0 3 w)<|aj ?_;refine bO rfl (fun v=>?_) (fun v=>?_)
 ·rw[if_pos (τ v)] at c;subst c;refine aj ?_;intro w b;exact⟨(),trivial,rfl,b.msub ms⟩
 rw[if_neg (τ v)] at c;refine aj ?_;refine cE rfl FA (fun w b=>nK m.T _ _ w)<|aj ?_;refine bO rfl (fun y=>?_) (fun y=>?_)
 ·rw[if_pos (τ y)] at c;subst c;refine aj ?_;intro w b;exact⟨(),trivial,rfl,b.msub ms⟩
 rw[if_neg (τ y)] at c;refine aj ?_;refine cE rfl Tryz.call182 (fun w b=>Jd _ m.B w (b.ro l.b))<|cF (fun g=>?_) (fun g=>?_)
 ·rw[if_pos g] at c;subst c;refine aj ?_;intro w b;exact⟨(),trivial,rfl,b.msub ms⟩
 rw[if_neg (fun d=>d g)] at c;refine fk (fh ?_);refine dq (fun _:Unit=>(¬(10<m.I.length\/10<m.out.length))/\¬(dp m.I=true\/dp m.out=true)) (fun _=> [(0,af h)]) (fun _=>ak h [ac a.Af m.F.length a.cf,ac a.Ab m.B.length a.cb,ac a.Ai m.I.length a.ci,ac a.Ao m.out.length a.co,ai m.S,ai m.T,ac o fs.length p] 190::H) ?_ ?_
 ·refine cR 49 (fun j=>?_) (fun j=>?_)
  ·have j:=of_decide_eq_true j;rw[if_pos (.inl ω)] at c;subst c;refine aj ?_;refine aZ rfl<|aj ?_;intro w b;exact⟨(),trivial,rfl,b.msub ms⟩
  have j:=of_decide_eq_false j;refine ax (fun z=>?_) (fun z=>?_)
  ·rw[if_pos (.inr ω)] at c;subst c;refine aj ?_;intro w b;exact⟨(),trivial,rfl,b.msub ms⟩
  have F:¬(10<m.I.length\/10<m.out.length):=ω;rw[if_neg F] at c;refine aj ?_;refine cE rfl Tryz.call183 (fun w b=>Er a.Ai a.ci m.I w (b.ro l.i))<|cR 65 (fun i=>?_) (fun i=>?_)
  ·rw[if_pos (.inl i)] at c;subst c;refine aj ?_;refine aZ rfl<|aj ?_;intro w b;exact⟨(),trivial,rfl,b.msub ms⟩
  refine aj ?_;refine cE rfl Tryz.call183 (fun w b=>Er a.Ao a.co m.out w (b.ro l.o))<|aj ?_;refine bO rfl (fun k=>?_) (fun k=>?_)
  ·rw[if_pos (.inr k)] at c;subst c;refine aj ?_;intro w b;exact⟨(),trivial,rfl,b.msub ms⟩
  have M:¬(dp m.I=true\/dp m.out=true):=by rw[i,k];simp
  refine aj ?_;refine bW () (⟨F,M⟩) (hh:=(fun _ d=>d.msub ms))
 rintro⟨⟩ ⟨j,z⟩;rw[if_neg j,if_neg z] at c;refine aj ?_;refine dA rfl Tryz.call184 (fun w b=>Gf h a m o p fs u l G R _ rfl w (b.msub (.s fc .r))) (fun _ _=>cF (fun i=>?_) (fun i=>?_))
 ·rw[if_pos i] at c;subst c;refine aj ?_;intro w b;exact⟨(),trivial,rfl,b.msub ms⟩
 rw[if_neg (fun d=>d i)] at c;refine cF (fun k=>?_) (fun k=>?_)
 ·rw[if_pos k] at c;subst c;refine aj ?_;intro w b;exact⟨(),trivial,rfl,b.msub ms⟩
 rw[if_neg (fun d=>d k)] at c;obtain⟨_,N,S,_,T⟩:=sO.1 i;have:m.F.length≠0:=fun d=>by
  have:=N.1 (bu d);omega
 obtain⟨f,A⟩:∃f,m.F.length=f+1:=⟨m.F.length - 1,ω⟩
 have t:f<m.F.length:=ω;obtain⟨V,al,W,am,a6,ba,a3,I⟩:=l.f.fr t;have:=S _ (fL t);obtain⟨r,C⟩:∃r:Nat,(aN m.F f).func=r:=⟨(aN m.F f).func.toNat,ω⟩
 have K:r<fs.length:=ω;obtain⟨X,a0,Y,a1,a5,J,a4,O⟩:=u.fn K;obtain⟨L,D,_⟩:=T f t;unfold iY jY at D;rw[if_pos A.symm,C,bq] at D;obtain⟨a8,a9,_⟩:=(G.e _ K).at_ _ _ D;have U:aY fs m=bE (ar fs r).C (aN m.F f).pc.toNat:=by
  unfold aY;rw[NO,A,sX,C,bq]
 rw[U] at c;rw[C] at I;refine aj ?_;refine bh [0,3,6,9,12,15,18,21,24,27,30,33,36,39,44,47] [15] rfl<|aj ?_;refine di (t:=95) (v':= ai (f:Int)) rfl (by rw[A];congr 1;omega) ?_;refine tE rfl (aW (k:=f) cP dM (.ro l.f) t rfl rfl rfl) ?_;refine tE rfl (eC (I _) rfl rfl U3 dM)<|aj ?_;refine fun a2 _=>aj ?_;refine bh [0,3,6,9,12,15,18,21,24,27,30,33,36,39,42,45,48,51,54,57,60,63,66,69,72] [] rfl<|aj ?_;refine pI (t:=105) rfl (fun q=>?_) (fun q=>?_)
 ·have q:=of_decide_eq_true q;rw[if_pos (.inl ω)] at c;subst c;refine aj ?_;refine aZ rfl<|aj ?_;intro w b;exact⟨(),trivial,rfl,b.msub ms⟩
 have q:=of_decide_eq_false q;refine aj ?_;refine tE rfl (aW (k:=r) eR fx (.ro u) ω rfl rfl rfl)<|aj ?_;refine tE rfl (bU (fun w b=>O _ w b 3 _ rfl) rfl rfl rh)<|aj ?_;refine tE rfl (nm eF gK (.ro J) ω rfl rfl rfl)<|aj ?_;refine tE rfl (bU (SF.opc (.ro J) ω) rfl rfl bB)<|cF (fun s=>?_) (fun s=>?_)
 ·rw[if_pos (.inr s)] at c;subst c;refine aj ?_;intro w b;exact⟨(),trivial,rfl,b.msub ms⟩
 have s:(bE (ar fs r).C (aN m.F f).pc.toNat).c=21:=s;rw[if_neg (fun d=>d.elim (fun d=>q ω) (fun d=>d s))] at c;subst c;refine aj ?_;intro w b;exact⟨(),trivial,rfl,b.msub ms⟩
end
theorem uD (b:Option Addr) (c:Nat) (fs:List aw) (a:MA) (m:av) (w:World) (j:Sl w (ac b fs.length c) fs) (i:fZ w.heap.size w a m) (g:fR fs) (h:ox m.F) :
  Calls Tryz.prog 74 #[.agg #[ac b fs.length c],.agg #[ac a.Af m.F.length a.cf,ac a.Ab m.B.length a.cb,ac a.Ai m.I.length a.ci,ac a.Ao m.out.length a.co,ai m.S,ai m.T]] w fun e w'=>e= .returned (ai (ff fs m))/\Below w.heap.size w w':=by
 refine enter Tryz.func74 rfl Tryz.ntmps74 rfl<|aj ?_;refine fun k _=>aj ?_;refine fun l _=>aj ?_;refine fun f _=>aj ?_;refine dA rfl Tryz.call131 (fun w d=>E7 f a m b c fs j i g h _ rfl w (d.msub (.s fc .r))) (fun _ _=>aj ?_);intro w d;exact⟨rfl,d.below⟩
end
section
theorem BO {B:Nat} {w:World} {u:Option Addr} {v:Nat} {fs:List aw} (G:bN w B (ac u fs.length v) fs) (f:fR fs) {m:av} (d:bQ fs m) (I:¬(m.S=2\/m.S=3)):∃li x e,Fp fs m li x e:=by
 have C:m.F≠[]:=fun b=>I (.inl (d.dn.1 b));obtain⟨li,x,b⟩:∃li x,m.F=li++ [x]:=by
  rcases eZ m.F with h | ⟨s,L,h⟩
  ·exact absurd h C
  exact⟨s,L,by rw[h];simp⟩
 obtain⟨V,p,Y,i,q⟩:=d.top b;obtain⟨e,j⟩:∃e:Nat,x.func=e:=⟨x.func.toNat,ω⟩
 rw[j,bq] at i p;have g:e<fs.length:=ω;obtain⟨E,F,W,_⟩:=(f.e _ g).at_ _ _ i;obtain⟨D,_⟩:=jo f.p g;obtain⟨M,O,N,R,U,y,T,S⟩:=G.fn g;have A:=d.n6;rw[b,au,aT] at A;refine⟨li,x,e,b,j,g,⟨E,F⟩,Nv f g (x:= {x with pc:=x.pc+1}) j i q p.len,d.bl,by rw[q.len];omega,fun Z J=>?_,by have:=d.ob;omega,ω,(Eg y ω).2,by have:=D.n40;omega⟩;obtain⟨c,l,rfl⟩:=cA J;obtain⟨K,a,_,r⟩:=d.fr c (by rw[b,au];omega);have z:aN m.F c=li[c]:=by
  rw[b,jm l];unfold aN;rw[ap,aq l];rfl
 rw[z] at r;rw[r.len];have:=d.fn _ (fL (l:=m.F) (k:=c) (by rw[b,au];omega));have o:(aN m.F c).func.toNat<fs.length:=ω;unfold iY jY at a
 split at a
 ·have:=((f.e _ o).at_ _ _ a).2.2.1;omega
 split at a
 ·cases a
 split at a
 ·cases a
 cases h5:gh fs (ar fs (aN m.F c).func.toNat) (aN m.F c).pc with
 | none=>rw[h5] at a;cases a
 | some t=>
  rw[h5] at a;have a:(if (ar fs (aN m.F (c+1)).func.toNat).result≠0 then t.dropLast else t)=K:=fE a;have:=((f.e _ o).at_ _ _ h5).2.2.1;rw[<-a]
  split
  ·rw[List.length_dropLast];omega
  omega
theorem wc {fs:List aw} (a:fR fs):0<fs.length:=by
 have:=(iD a.p).1;omega
theorem uO {fs:List aw} (b:fR fs) {m:av} (d:bQ fs m) {i:Nat} (hi:i<m.F.length):(aN m.F i).K.length<=8/\(aN m.F i).L.length<=1000:=by
 obtain⟨h,a,f,g⟩:=d.fr i hi;have:=d.fn _ (fL hi);have c:(aN m.F i).func.toNat<fs.length:=ω;rw[g.len,f.len];have:=((jo b.p (wc b)).1.op 0 (jo b.p (wc b)).2).par _ c |>.2;refine⟨?_,by unfold jY;omega⟩;unfold iY jY at a
 split at a
 ·have:=((b.e _ c).at_ _ _ a).2.2.1;omega
 split at a
 ·cases a
 split at a
 ·cases a
 cases h5:gh fs (ar fs (aN m.F i).func.toNat) (aN m.F i).pc with
 | none=>rw[h5] at a;cases a
 | some e=>
  rw[h5] at a;have a:(if (ar fs (aN m.F (i+1)).func.toNat).result≠0 then e.dropLast else e)=h:=fE a;have:=((b.e _ c).at_ _ _ h5).2.2.1;rw[<-a]
  split
  ·rw[List.length_dropLast];omega
  omega
theorem kD {fs:List aw} (f:fR fs) {m:av} (a:bQ fs m):BA m:=by
 refine⟨⟨by have:=a.n6;omega,fun x g=>?_⟩,wT.of_check a.bl,by have:=a.ib;omega,by have:=a.ob;omega⟩;obtain⟨c,b,rfl⟩:=cA g;have e:=uO f a b;have d:aN m.F c=m.F[c]:=by
  unfold aN;rw[ap,aq b];rfl
 rw[d] at e;omega
def dk (fs:List aw):av:=⟨[⟨0,0,cX (ar fs 0).L,[]⟩],[],[],[],0,0⟩
theorem og {fs:List aw} (h:dN fs=0):0<fs.length:=by
 have:=(iD (ot h).p).1;omega
theorem Ep (d:Option Addr) (h:Nat) (fs:List aw) (w:World) (i:Sl w (ac d fs.length h) fs) (p:0<fs.length) (A:(ar fs 0).L.length<=1000) :
  Calls Tryz.prog 73 #[.agg #[ac d fs.length h]] w fun e w'=> ∃g:MA,True/\
   e= .returned (.agg #[ac g.Af (dk fs).F.length g.cf,ac g.Ab (dk fs).B.length g.cb,ac g.Ai (dk fs).I.length g.ci,ac g.Ao (dk fs).out.length g.co,ai (dk fs).S,ai (dk fs).T])/\
   Cw w.heap.size w [an (ac g.Af (dk fs).F.length g.cf) (dk fs).F,an (ac g.Ab (dk fs).B.length g.cb) (dk fs).B,an (ac g.Ai (dk fs).I.length g.ci) (dk fs).I,an (ac g.Ao (dk fs).out.length g.co) (dk fs).out] w':=by
 obtain⟨j,l,k,o,s,y,z,r⟩:=i.fn p;have:(cX (ar fs 0).L).length=(ar fs 0).L.length:=kP _;refine enter Tryz.func73 rfl Tryz.ntmps73 rfl<|aj ?_;refine fun t _=>aj ?_;refine fun u _=>aj ?_;refine da 0 rfl (.ro i) ?_;refine iB rfl (r _) ?_;refine oE (fm rfl rfl rfl Tryz.call130 (fun w b=>Cm (ar fs 0).params (ar fs 0).result j k l o _ (ar fs 0).L w (b.ro s) ω)) (fun⟨c,f⟩ _=>?_);refine aO ?_;refine fun a _=>aj ?_;intro w b;refine⟨⟨some ⟨a,0,none⟩,1,none,0,none,0,none,0⟩,trivial,rfl,?_⟩;have q:=tv (H:= []) (xs:=(dk fs).F) (g:=a) (pA.cons (Hel:= [ag c f (cX (ar fs 0).L),an (ac none 0 0) ([]:List aD)]) (cs:= [_,_,_,_]) (wo (x:=⟨0,0,cX (ar fs 0).L,[]⟩) (by show aI 0/\aI 0;decide)) pA.nil_) rfl (by show 1<=_;decide) ((Cw.nilO aD b).msub (T:= [ak a _ _,ag c f (cX (ar fs 0).L),an (ac none 0 0) ([]:List aD)]) ms);exact(Cw.nilO (List Int) (Cw.nilO Int (Cw.nilO Int q))).msub ms
theorem rG {B:Nat} {w0 w:World} {H:List aP} (h:Cw B w0 H w):Cw B w0 (an (α:=aL) (ac none 0 0) []::an (α:=List Int) (ac none 0 0) []::an (α:=Int) (ac none 0 0) []::an (α:=Int) (ac none 0 0) []::H) w:=Cw.nilO aL (Cw.nilO (List Int) (Cw.nilO Int (Cw.nilO Int h)))
end
section
theorem ym {α:Type} :∀(l:List α) (k:Nat) (d:α),l.set k (l.getD k d)=l
 | [],_,_=>rfl
 | _::_,0,_=>rfl
 | x::l,k+1,d=>congrArg (x:: ·) (ym l k d)
def lf (a:MA) (m:av):fp:=⟨.slice a.Af m.F.length a.cf,.slice a.Ab m.B.length a.cb,.slice a.Ai m.I.length a.ci,.slice a.Ao m.out.length a.co,m.S,m.T⟩
theorem rI {a:MA} {m:av} (h:aI m.S/\aI m.T):fp.wf (lf a m):=⟨h,rfl,rfl,rfl,rfl⟩
section
variable {P:Program} {n:NF} {B:Nat} {w0:World} {H H':List aP} {Q:Exit->Act->World->Prop} {env:cM} {x:Code} {ops:Array Oper} {os:List Oper}
theorem rs {α:Type} [Ow α] {w:World} {F:Nat->Prop} {v:Value} {xs:List α} (h:cY w F v xs):∃A c,v= ac A xs.length c:=by
 obtain⟨A,c,a,_⟩:=(cY.sl h).form;exact⟨A,c,a⟩
theorem Kb {l:List (fp×av)} (hok:hU l) {i:Nat} (hi:i<l.length) {w:World} (h:Cw B w0 (cO l::H) w):∃a:MA,l[i].1=lf a l[i].2:=by
 have h1:Cw B w0 (an l[i].1.fv l[i].2.F::an l[i].1.bv l[i].2.B::an l[i].1.iv l[i].2.I::an l[i].1.ov l[i].2.out::(cO (l.eraseIdx i)::H)) w:=tu hi h;obtain⟨F1,k1,_⟩:=h1.rd cg.a;obtain⟨F2,k2,_⟩:=h1.rd (cg.s cg.a);obtain⟨F3,k3,_⟩:=h1.rd (cg.s (cg.s cg.a));obtain⟨F4,k4,_⟩:=h1.rd (cg.s (cg.s (cg.s cg.a)));obtain⟨Af,cf,e1⟩:=rs k1;obtain⟨Ab,cb,e2⟩:=rs k2;obtain⟨Ai,ci,e3⟩:=rs k3;obtain⟨Ao,co,e4⟩:=rs k4;obtain⟨s1,s2⟩:=hok l[i] (dh hi);refine⟨⟨Af,cf,Ab,cb,Ai,ci,Ao,co⟩,?_⟩
 cases h:l[i] with
 | mk a b=>
  rw[h] at e1 e2 e3 e4 s1 s2
  cases a
  simp only at e1 e2 e3 e4 s1 s2;subst e1 e2 e3 e4 s1 s2;rfl
theorem RP {l:List (fp×av)} {i:Nat} (hi:i<l.length) {w:World} (h:Cw B w0 (cO l::H) w):Sl w l[i].1.fv l[i].2.F/\Sl w l[i].1.bv l[i].2.B/\Sl w l[i].1.iv l[i].2.I/\Sl w l[i].1.ov l[i].2.out:=by
 have a:Cw B w0 (an l[i].1.fv l[i].2.F::an l[i].1.bv l[i].2.B::an l[i].1.iv l[i].2.I::an l[i].1.ov l[i].2.out::(cO (l.eraseIdx i)::H)) w:=tu hi h;obtain⟨f,b,_⟩:=a.rd cg.a;obtain⟨g,c,_⟩:=a.rd (cg.s cg.a);obtain⟨j,d,_⟩:=a.rd (cg.s (cg.s cg.a));obtain⟨k,e,_⟩:=a.rd (cg.s (cg.s (cg.s cg.a)));exact⟨cY.sl b,cY.sl c,cY.sl d,cY.sl e⟩
theorem KV {l:List (fp×av)} {i:Nat} (hi:i<l.length):az (l.map Prod.snd) i=l[i].2:=by
 unfold az;rw[ap,dw,aq hi];rfl
theorem Ld {l:List (fp×av)} {i:Nat} (hi:i<l.length) (d:fp):(l.map Prod.fst).getD i d=l[i].1:=by
 rw[ap,dw,aq hi];rfl
abbrev RM (a:MA) (m:av) (H:List aP):List aP:=an (.slice a.Af m.F.length a.cf) m.F::an (.slice a.Ab m.B.length a.cb) m.B::an (.slice a.Ai m.I.length a.ci) m.I::an (.slice a.Ao m.out.length a.co) m.out::H
structure Mh (B:Nat) (w0:World) (X:aP) (L:List av) (k:Nat) (hs:List fp) (a:MA):Prop where
 len:hs.length=L.length
 hd:hs.getD k default=lf a (az L k)
 i64:aI (az L k).S/\aI (az L k).T
 back:∀(v:Value) (g:MA) (m:av) H w,Cw B w0 (an v (hs.set k (lf g m))::RM g m (X::H)) w->Cw B w0 (an v (L.set k m)::H) w
theorem LV {v:Value} {L:List av} {k:Nat} (E:k<L.length) (F:cg H (an v L) H') {w:World} (I:Cw B w0 H w) :
  ∃i t a,Mh B w0 i L k t a/\Cw B w0 (an v t::RM a (az L k) (i::H')) w:=by
 obtain⟨b,e,s,j⟩:=zA (I.perm F);have d:k<b.length:=by rw[<-aQ (f:=Prod.snd),e];exact E
 have l:=j.perm (List.Perm.swap ..);obtain⟨a,g⟩:=Kb s d l;have h:az L k=b[k].2:=by rw[<-e];exact KV d
 have o:Cw B w0 (an b[k].1.fv b[k].2.F::an b[k].1.bv b[k].2.B::an b[k].1.iv b[k].2.I::an b[k].1.ov b[k].2.out::(cO (b.eraseIdx k)::an v (b.map Prod.fst)::H')) w:=tu d l;rw[g,<-h] at o;have u:fp.wf b[k].1:=nI j .a (lZ (dh d));have D:aI (az L k).S/\aI (az L k).T:=by
  rw[g,<-h] at u;exact u.1
 refine⟨cO (b.eraseIdx k),b.map Prod.fst,a,⟨by rw[<-e,aQ,aQ],by rw[Ld d,g,h],D,fun y c m H1 J A=>?_⟩,o.msub ms⟩;have G:hU (b.set k (lf c m,m)):=s.set (q:=(lf c m,m)) ⟨rfl,rfl⟩;have C:Cw B w0 (jy.parts (lf c m,m).1 (lf c m,m).2++cO (b.eraseIdx k)::an y ((b.map Prod.fst).set k (lf c m))::H1) J:=A.msub (T:=RM c m (cO (b.eraseIdx k)::an y ((b.map Prod.fst).set k (lf c m))::H1)) ms;have p:=Bd d C;have z:(b.map Prod.fst).set k (lf c m)=(b.set k (lf c m,m)).map Prod.fst:=by rw[List.map_set]
 rw[z] at p;have r:=rO G (p.perm (List.Perm.swap ..));rw[List.map_set,e] at r;exact r
theorem tS {v:Value} {L:List av} {k:Nat} (i:k<L.length) (j:cg H (an v L) H') (h:∀b c a,Mh B w0 b L k c a->CW P n B w0 x Q env (an v c::RM a (az L k) (b::H'))):CW P n B w0 x Q env H:=fun a w g l=>by
 obtain⟨b,c,d,e,f⟩:=LV i j l;exact h b c d e a w g f
theorem RJ {v:Value} {L:List av} {k:Nat} (i:k<L.length) (j:cg H (an v L) H') (h:∀b c a,Mh B w0 b L k c a->RW P n B w0 ops Q os env (an v c::RM a (az L k) (b::H'))):RW P n B w0 ops Q os env H:=fun a w g l=>by
 obtain⟨b,c,d,e,f⟩:=LV i j l;exact h b c d e a w g f
theorem Mh.same {c:aP} {L:List av} {k:Nat} {b:List fp} {a:MA} (h:Mh B w0 c L k b a) (_:k<L.length) {v:Value} {w:World} (f:Cw B w0 (an v b::RM a (az L k) (c::H)) w):Cw B w0 (an v L::H) w:=by
 have d:b.set k (lf a (az L k))=b:=by
  rw[<-h.hd];exact ym b k default
 have e:L.set k (az L k)=L:=ym L k default;have:=h.back v a (az L k) H w (by rw[d];exact f)
 rwa [e] at this
structure UA (B:Nat) (w0:World) (X:aP) (L:List av) (hs:List fp):Prop where
 el:∀i,i<L.length->∃a:MA,hs.getD i default=lf a (az L i)/\(aI (az L i).S/\aI (az L i).T)/\
  ∀H H',cg H X H'->SF B w0 H a.Af (az L i).F.length a.cf (az L i).F/\SF B w0 H a.Ab (az L i).B.length a.cb (az L i).B/\SF B w0 H a.Ai (az L i).I.length a.ci (az L i).I/\SF B w0 H a.Ao (az L i).out.length a.co (az L i).out
 len:hs.length=L.length
 back:∀H H' H'' v w,cg H (an v hs) H'->cg H' X H''->Cw B w0 H w->Cw B w0 (an v L::H'') w
theorem R7 {v:Value} {L:List av} (z:cg H (an v L) H') {w:World} (b:Cw B w0 H w):∃k o,UA B w0 k L o/\Cw B w0 (an v o::k::H') w:=by
 obtain⟨d,j,l,i⟩:=zA (b.perm z);have y:d.length=L.length:=by rw[<-j,aQ]
 refine⟨cO d,d.map Prod.fst,⟨fun a A=>?_,by rw[aQ,y],fun H1 H2 H3 v w r s b=>?_⟩,i⟩
 ·have e:a<d.length:=ω;have t:=i.perm (List.Perm.swap ..);obtain⟨c,g⟩:=Kb l e t;have h:az L a=d[a].2:=by rw[<-j];exact KV e
  have p:fp.wf d[a].1:=nI i .a (lZ (dh e));have u:aI (az L a).S/\aI (az L a).T:=by
   rw[g,<-h] at p;exact p.1
  refine⟨c,by rw[Ld e,g,h],u,fun H1 H2 q=>?_⟩;have f:∀w,Cw B w0 H1 w->Sl w (ac c.Af (az L a).F.length c.cf) (az L a).F/\Sl w (ac c.Ab (az L a).B.length c.cb) (az L a).B/\Sl w (ac c.Ai (az L a).I.length c.ci) (az L a).I/\Sl w (ac c.Ao (az L a).out.length c.co) (az L a).out:=fun w b=>by
   have:=RP e (b.perm q);rw[g,<-h] at this;exact this
  exact⟨⟨rfl,fun w b=>(f w b).1⟩,⟨rfl,fun w b=>(f w b).2.1⟩,⟨rfl,fun w b=>(f w b).2.2.1⟩,⟨rfl,fun w b=>(f w b).2.2.2⟩⟩
 have:=rO (v:=v) (H:=H3) l ((b.perm r).perm (List.Perm.cons _ s));rw[j] at this;exact this
theorem An {v:Value} {L:List av} (g:cg H (an v L) H') (h:∀a b,UA B w0 a L b->CW P n B w0 x Q env (an v b::a::H')):CW P n B w0 x Q env H:=fun c w f i=>by
 obtain⟨a,b,d,e⟩:=R7 g i;exact h a b d c w f e
theorem SF.hmc {A:Option Addr} {xs:List fp} {m c k:Nat} {a:MA} {y:av} (d:SF B w0 H A m c xs) (b:k<m) (e:xs.getD k default=lf a y) :
  ∀w,Cw B w0 H w->∀j v,([ac a.Af y.F.length a.cf,ac a.Ab y.B.length a.cb,ac a.Ai y.I.length a.ci,ac a.Ao y.out.length a.co,ai y.S,ai y.T]:List Value)[j]? =some v->w.cell? ⟨ab A,ao A+k*6+j,none⟩=some v:=
 fun w g j v f=>SF.cell d b default (by rw[e];exact f) w g
theorem SF.min {a:MA} {m:av} {w:World} (h:SF B w0 H a.Af m.F.length a.cf m.F/\SF B w0 H a.Ab m.B.length a.cb m.B/\SF B w0 H a.Ai m.I.length a.ci m.I/\SF B w0 H a.Ao m.out.length a.co m.out) (hi:aI m.S/\aI m.T) (b:Cw B w0 H w):fZ w.heap.size w a m:=
 ⟨SF.at_ h.1 b,SF.at_ h.2.1 b,SF.at_ h.2.2.1 b,SF.at_ h.2.2.2 b,hi.1,hi.2⟩
theorem ss {c d e f g h:aP} {H1 H2 H3 H4 a b:List aP} (i:cg H c H1) (h2:cg H1 d H2) (j:cg H2 e H3) (k:cg H3 f H4) (l:cg H4 g a) (o:cg a h b):H.Perm ((c::d:: [e,f,g,h])++b):=
 i.trans (.cons _ (h2.trans (.cons _ (j.trans (.cons _ (k.trans (.cons _ (l.trans (.cons _ o)))))))))
theorem nL {a b c d:Value} {m:av} (hi:aI m.S/\aI m.T):∀(w:World) (F:Nat->Prop),Hs w [an a m.F,an b m.B,an c m.I,an d m.out] F->Ow.own w F [a,b,c,d,ai m.S,ai m.T] m:=
 fun _ _ e=>⟨a,b,c,d,rfl,hi,e⟩
end
end
section
theorem NZ:Tryz.prog.eqGuardType Tryz.prog.depth 159=false:=by kernel_rfl
theorem Ud:Tryz.prog.stoodInHeld 159=false:=by kernel_rfl
theorem T6 (w:World) (a c:Bool) (b d:Int):(binOp .neq 159 (.agg #[.bool a,.int .i64 b]) (.agg #[.bool c,.int .i64 d])).run Tryz.prog w= .ok (.bool (!(a == c && b == d))) w:=by
 have e:=Ud
 by_cases f:a=c <;> by_cases g:b=d <;> simp[go_sem,e,f,g]
theorem T8 (x y:Operand) (b v:Array Value) (w:World):(eqGuard .neq 159 x y (.agg b) (.agg v)).run Tryz.prog w= .ok () w:=by
 have a:=NZ
 simp[eqGuard,go_sem,a]
theorem SN {v a:aD} :(v.ref == a.ref && v.n == a.n)=decide (v=a):=by
 obtain⟨b,c⟩:=v;obtain⟨d,e⟩:=a
 by_cases f:b=d <;> by_cases g:c=e <;> simp[f,g]
theorem uf {α:Type} {a b:List α} {i:Nat} (d:α) (c:i<a.length) (h2:i<b.length) (h:a.take i=b.take i) (e:a.getD i d=b.getD i d):a.take (i+1)=b.take (i+1):=by
 rw[eE a i d c,eE b i d h2,h,e]
theorem Dv {α:Type} {a b:List α} {i:Nat} (d:α) (e:¬a.getD i d=b.getD i d):¬a=b:=fun c=>e (by rw[c])
theorem tk (g h:Option Addr) (i j:Nat) (a b:List aD) (w:World) (l:Sl w (ac g a.length i) a) (h2:Sl w (ac h b.length j) b) :
  Calls Tryz.prog 69 #[ac g a.length i,ac h b.length j] w fun e w'=>e= .returned (.bool (decide (a=b)))/\Below w.heap.size w w':=by
 have:=bA l;refine enter Tryz.func69 rfl Tryz.ntmps69 rfl<|cF (fun f=>?_) (fun f=>?_)
 ·refine aj ?_;intro w d;exact⟨aX (by rw[decide_eq_false (fun e=>f (by rw[e]))]),d.below⟩
 have f:a.length=b.length:=ω;refine aj ?_;refine de (fun c:Nat=>c<=a.length/\a.take c=b.take c) (fun c=>a.length - c) (fun c=> [(0,ac g a.length i),(1,ac h b.length j),(5,ai (c:Int))]) (fun _=> []) 0 (⟨aU _,rfl⟩) ?_;rintro c s;obtain⟨v,p⟩:c<=a.length/\a.take c=b.take c:=s;refine ax (fun t=>?_) (fun t=>?_)
 ·have q:c<a.length:=ω;have r:c<b.length:=ω;refine aj ?_;refine bh [0,3,6,9,12,15,18,21,24] [] rfl<|aj ?_;refine tE rfl (aW (k:=c) aA aM (.ro l) ω rfl rfl rfl) ?_;refine tE rfl (eC (SF.val (SF.ro l) q default) rfl rfl iX aM)<|aj ?_;refine tE rfl (aW (k:=c) aA aM (.ro h2) ω rfl rfl rfl) ?_;refine tE rfl (eC (SF.val (SF.ro h2) r default) rfl rfl iX aM) ?_;refine tE rfl (pN rfl rfl rfl (fun w=>T6 w _ _ _ _) (fun w=>T8 _ _ _ _ w))<|aj ?_;rw[SN];refine jg rfl (fun o=>?_) (fun o=>?_)
  ·refine aj ?_;intro w d;exact⟨aX (by rw[decide_eq_false (Dv default o)]),d.below⟩
  refine aj ?_;refine cJ (c+1) (⟨by show c+1<=_;omega,uf default q r p o⟩) (by show _ - _<_ - _;omega)
 obtain rfl:c=a.length:=ω;rw[aR,f,aR] at p;refine aj ?_;intro w d;exact⟨aX (by rw[decide_eq_true p]),d.below⟩
theorem AZ (g h:Option Addr) (i j:Nat) (a b:List (List Int)) (w:World) (l:Sl w (ac g a.length i) a) (h2:Sl w (ac h b.length j) b) :
  Calls Tryz.prog 68 #[ac g a.length i,ac h b.length j] w fun e w'=>e= .returned (.bool (decide (a=b)))/\Below w.heap.size w w':=by
 have:=bA l;refine enter Tryz.func68 rfl Tryz.ntmps68 rfl<|cF (fun f=>?_) (fun f=>?_)
 ·refine aj ?_;intro w d;exact⟨aX (by rw[decide_eq_false (fun e=>f (by rw[e]))]),d.below⟩
 have f:a.length=b.length:=ω;refine aj ?_;refine de (fun c:Nat=>c<=a.length/\a.take c=b.take c) (fun c=>a.length - c) (fun c=> [(0,ac g a.length i),(1,ac h b.length j),(5,ai (c:Int))]) (fun _=> []) 0 (⟨aU _,rfl⟩) ?_;rintro c y;obtain⟨G,p⟩:c<=a.length/\a.take c=b.take c:=y;refine ax (fun z=>?_) (fun z=>?_)
 ·have q:c<a.length:=ω;have r:c<b.length:=ω;obtain⟨A,E,s,u⟩:=l.sub q;obtain⟨C,F,t,v⟩:=h2.sub r;refine aj ?_;refine bh [0,3,6,9,12,15,18,21,26,27] [] rfl<|aj ?_;refine tE rfl (aW (k:=c) eG gu (.ro l) ω rfl rfl rfl) ?_;refine tE rfl (bU (u _) rfl rfl gX)<|aj ?_;refine tE rfl (aW (k:=c) eG gu (.ro h2) ω rfl rfl rfl) ?_;refine tE rfl (bU (v _) rfl rfl gX) ?_;refine lc rfl rfl qQ (fun w d=>lH _ _ _ _ (a.getD c []) (b.getD c []) w (d.ro s) (d.ro t))<|cF (fun o=>?_) (fun o=>?_)
  ·refine aj ?_;intro w d;exact⟨aX (by rw[decide_eq_false (Dv [] o)]),d.below⟩
  refine aj ?_;refine cJ (c+1) (⟨by show c+1<=_;omega,uf [] q r p o⟩) (by show _ - _<_ - _;omega)
 obtain rfl:c=a.length:=ω;rw[aR,f,aR] at p;refine aj ?_;intro w d;exact⟨aX (by rw[decide_eq_true p]),d.below⟩
theorem iC {α:Type} {f:av->α} {a b:av} (h:¬f a=f b):¬a=b:=fun c=>h (by rw[c])
theorem PW {a b:av} (c:a.S=b.S) (h2:a.T=b.T) (d:a.B=b.B) (e:a.I=b.I) (f:a.out=b.out) (g:a.F=b.F):a=b:=by
 cases a;cases b;simp_all
theorem Dd {l1 l2:List aL} {i:Nat} {α:Type} {f:aL->α} (h:¬f (aN l1 i)=f (aN l2 i)):¬l1=l2:=fun a=>h (by rw[a])
theorem SU {x y:aL} (a:x.func=y.func) (h2:x.pc=y.pc) (b:x.L=y.L) (c:x.K=y.K):x=y:=by
 cases x;cases y;simp_all
theorem nn {p:Prop} [Decidable p] (h:(!decide p)=true):¬p:=by simpa using h
theorem lQ {p:Prop} [Decidable p] (h:(!decide p)=false):p:=by simpa using h
theorem DJ (a b:MA) (c d:av) (w:World) (j:fZ w.heap.size w a c) (h2:fZ w.heap.size w b d) :
  Calls Tryz.prog 15 #[.agg #[ac a.Af c.F.length a.cf,ac a.Ab c.B.length a.cb,ac a.Ai c.I.length a.ci,ac a.Ao c.out.length a.co,ai c.S,ai c.T],
   .agg #[ac b.Af d.F.length b.cf,ac b.Ab d.B.length b.cb,ac b.Ai d.I.length b.ci,ac b.Ao d.out.length b.co,ai d.S,ai d.T]] w fun e w'=>e= .returned (.bool (decide (c=d)))/\Below w.heap.size w w':=by
 have:=bA j.f;refine enter Tryz.func15 rfl Tryz.ntmps15 rfl<|aj ?_;refine fun y _=>aj ?_;refine fun z _=>cR 13 (fun l=>?_) (fun l=>?_)
 ·refine aj ?_;refine aZ rfl<|aj ?_;intro w h;exact⟨aX (by rw[decide_eq_false (iC (f:=av.S) (nn l))]),h.below⟩
 have l:=lQ l;refine cR 20 (fun o=>?_) (fun o=>?_)
 ·refine aj ?_;refine aZ rfl<|aj ?_;intro w h;exact⟨aX (by rw[decide_eq_false (iC (f:=av.T) (nn o))]),h.below⟩
 have o:=lQ o;refine aj ?_;refine cE rfl Tryz.call68 (fun w h=>AZ _ _ _ _ c.B d.B w (h.ro j.b) (h.ro h2.b))<|cR 28 (fun p=>?_) (fun p=>?_)
 ·refine aj ?_;refine aZ rfl<|aj ?_;intro w h;exact⟨aX (by rw[decide_eq_false (iC (f:=av.B) (nn p))]),h.below⟩
 have p:=lQ p;refine aj ?_;refine cE rfl qQ (fun w h=>lH _ _ _ _ c.I d.I w (h.ro j.i) (h.ro h2.i))<|cR 36 (fun q=>?_) (fun q=>?_)
 ·refine aj ?_;refine aZ rfl<|aj ?_;intro w h;exact⟨aX (by rw[decide_eq_false (iC (f:=av.I) (nn q))]),h.below⟩
 have q:=lQ q;refine aj ?_;refine cE rfl qQ (fun w h=>lH _ _ _ _ c.out d.out w (h.ro j.o) (h.ro h2.o))<|cR 44 (fun r=>?_) (fun r=>?_)
 ·refine aj ?_;refine aZ rfl<|aj ?_;intro w h;exact⟨aX (by rw[decide_eq_false (iC (f:=av.out) (nn r))]),h.below⟩
 have r:=lQ r;refine cF (fun A=>?_) (fun A=>?_)
 ·refine aj ?_;intro w h;exact⟨aX (by rw[decide_eq_false (iC (f:=fun m=>m.F.length) (fun i=>A (by rw[show c.F.length=d.F.length from i])))]),h.below⟩
 have A:c.F.length=d.F.length:=ω;refine aj ?_;refine de (fun g:Nat=>g<=c.F.length/\c.F.take g=d.F.take g) (fun g=>c.F.length - g) (fun g=> [(2,af y),(3,af z),(5,ai (g:Int))]) (fun _=> [ak y (ah a c) 43,ak z (ah b d) 43]) 0 (⟨aU _,rfl⟩) ?_;rintro g V;obtain⟨a1,F⟩:g<=c.F.length/\c.F.take g=d.F.take g:=V;refine ax (fun Y=>?_) (fun Y=>?_)
 ·have G:g<c.F.length:=ω;have I:g<d.F.length:=ω;obtain⟨J,N,K,O,W,Z,am,T⟩:=j.f.fr G;obtain⟨L,R,M,S,X,ad,a0,U⟩:=h2.f.fr I;refine fk (fh ?_);refine cn<|iP<|dq (fun _:Nat×Nat=>True) (fun v=> [(2,af y),(3,af z),(5,ai (g:Int)),(6,af v.1),(7,af v.2)]) (fun v=> [ak y (ah a c) 43,ak z (ah b d) 43,ak v.1 [ai (aN c.F g).func,ai (aN c.F g).pc,ac J (aN c.F g).L.length N,ac K (aN c.F g).K.length O] 118,ak v.2 [ai (aN d.F g).func,ai (aN d.F g).pc,ac L (aN d.F g).L.length R,ac M (aN d.F g).K.length S] 118]) ?_ ?_
  ·refine yT (.still 0 (.still 1 (.still 2 (.still 3 (.still 4 (.still 5 (.still 6 (.still 7 (.still 8 (.still 9 (.pick 10 (.pick 11 (.pick 12 (.pick 13 .done .stop) .stop) .stop) (.pick 11 (.pick 10 (.pick 12 (.pick 13 .done .stop) .stop) .stop) .stop)))))))))))) [13] rfl χ χ [ak y (ah a c) 43,ak z (ah b d) 43] ?_;refine aj ?_;refine tE rfl (aW (k:=g) cP dM (.ro j.f) ω rfl rfl rfl) ?_;refine tE rfl (eC (T _) rfl rfl U3 dM)<|aj ?_;refine tE rfl (aW (k:=g) cP dM (.ro h2.f) ω rfl rfl rfl) ?_;refine tE rfl (eC (U _) rfl rfl U3 dM) ?_;refine eo rfl (pS Tryz.zeroValue118 rfl rfl) rfl rfl (.inr fun _=>ha) (fun C _=>?_) ?_
   ·refine aj ?_;intro D _;refine aj ?_;refine bR<|bW (C,D) trivial (hh:=(fun _ i=>i.msub ms))
   refine aj ?_;intro D _;refine aj ?_;intro C _;refine aj ?_;refine bR<|bW (C,D) trivial (hh:=(fun _ i=>i.msub ms))
  rintro⟨C,D⟩ _;dsimp only;refine cR 75 (fun s=>?_) (fun s=>?_)
  ·refine aj ?_;refine aZ rfl<|aj ?_;intro w h;exact⟨aX (by rw[decide_eq_false (iC (f:=av.F) (Dd (i:=g) (f:=aL.func) (nn s)))]),h.below⟩
  have s:=lQ s;refine cR 82 (fun t=>?_) (fun t=>?_)
  ·refine aj ?_;refine aZ rfl<|aj ?_;intro w h;exact⟨aX (by rw[decide_eq_false (iC (f:=av.F) (Dd (i:=g) (f:=aL.pc) (nn t)))]),h.below⟩
  have t:=lQ t;refine aj ?_;refine cE rfl Tryz.call69 (fun w h=>tk _ _ _ _ (aN c.F g).L (aN d.F g).L w (h.ro W) (h.ro X))<|cR 90 (fun u=>?_) (fun u=>?_)
  ·refine aj ?_;refine aZ rfl<|aj ?_;intro w h;exact⟨aX (by rw[decide_eq_false (iC (f:=av.F) (Dd (i:=g) (f:=aL.L) (nn u)))]),h.below⟩
  have u:=lQ u;refine aj ?_;refine cE rfl Tryz.call69 (fun w h=>tk _ _ _ _ (aN c.F g).K (aN d.F g).K w (h.ro Z) (h.ro ad))<|cF (fun E=>?_) (fun E=>?_)
  ·refine aj ?_;intro w h;exact⟨aX (by rw[decide_eq_false (iC (f:=av.F) (Dd (i:=g) (f:=aL.K) E))]),h.below⟩
  refine aj ?_;refine cJ (g+1) (⟨by show g+1<=_;omega,uf default G I F (SU s t u E)⟩) (by show _ - _<_ - _;omega) (hh:=(fun w i=>i.msub ms))
 obtain rfl:g=c.F.length:=ω;rw[aR,A,aR] at F;refine aj ?_;intro w h;exact⟨aX (by rw[decide_eq_true (PW l o p q r F)]),h.below⟩
end
section
def kM:av:=⟨[⟨0,0,[],[]⟩],[],[],[],0,0⟩
theorem Hu:ox kM.F:=by
 refine⟨κ,fun x a=>?_⟩;have:x=⟨0,0,[],[]⟩:=by simpa [kM] using a
 subst this
 decide
section
variable {fs:List aw} {m:av} {n:Nat}
end
section
variable {B:Nat} {w0 w:World} {H H1 H2 H3 H4:List aP}
theorem oK {g:MA} {m:av} {b nb c d:Nat} (a:Cw B w0 H w) (k:cg H (an (ac g.Af b g.cf) m.F) H1) (j:cg H (an (ac g.Ab nb g.cb) m.B) H2) (hi:cg H (an (ac g.Ai c g.ci) m.I) H3) (l:cg H (an (ac g.Ao d g.co) m.out) H4) (e:m.F.length=b) (f:m.B.length=nb) (h:m.I.length=c) (i:m.out.length=d) (o:aI m.S) (p:aI m.T):fZ w.heap.size w g m:=by
 subst e f h i;exact⟨SF.at_ (SF.own rfl k) a,SF.at_ (SF.own rfl j) a,SF.at_ (SF.own rfl hi) a,SF.at_ (SF.own rfl l) a,o,p⟩
end
section
variable {P:Program} {n:NF} {B:Nat} {w0:World} {H H':List aP} {Q:Exit->Act->World->Prop} {env:cM} {x:Code}
structure VK (B:Nat) (w0:World) (X:aP) (k:Nat) (A:Option Addr) (c:Nat) (fr:List aL) (hs:List aG):Prop where
 el:∀i,i<k->∃Al cl As cs,hs.getD i default=⟨(aN fr i).func,(aN fr i).pc,.slice Al (aN fr i).L.length cl,.slice As (aN fr i).K.length cs⟩/\
  (∀H H',cg H X H'->SF B w0 H Al (aN fr i).L.length cl (aN fr i).L/\SF B w0 H As (aN fr i).K.length cs (aN fr i).K)
 len:hs.length=k
 back:∀H H' H'' w,cg H (an (.slice A k c) hs) H'->cg H' X H''->Cw B w0 H w->Cw B w0 (an (.slice A k c) fr::H'') w
theorem SF.hfr {A:Option Addr} {xs:List aG} {m c k:Nat} {h:aG} (b:SF B w0 H A m c xs) (a:k<m) (e:xs.getD k default=h):∀w,Cw B w0 H w->∀j v,([ai h.func,ai h.pc,h.lv,h.sv]:List Value)[j]? =some v->w.cell? ⟨ab A,ao A+k*4+j,none⟩=some v:=fun w f j v d=>SF.cell b a default (by rw[e];exact d) w f
theorem RN {l:List (aG×aL)} {i:Nat} (hi:i<l.length) {w:World} (h:Cw B w0 (cO l::H) w):Sl w l[i].1.lv l[i].2.L/\Sl w l[i].1.sv l[i].2.K:=by
 have a:Cw B w0 (an l[i].1.lv l[i].2.L::an l[i].1.sv l[i].2.K::(cO (l.eraseIdx i)::H)) w:=tu hi h;obtain⟨d,b,_⟩:=a.rd cg.a;obtain⟨e,c,_⟩:=a.rd (cg.s cg.a);exact⟨cY.sl b,cY.sl c⟩
end
end
section
theorem KJ (a b:Int) (w:World):(Instr.field 86 (.agg #[ai a,ai b]) 0).run Tryz.prog w= .ok (ai a) w:=by kernel_rfl
theorem Dt {fs:List aw} {m:av} {li:List aL} {x:aL} (e:m.F=li++ [x]):aN m.F li.length=x/\m.F.length=li.length+1/\aY fs m=bE (ar fs x.func.toNat).C x.pc.toNat:=by
 refine⟨by rw[e,nv],by rw[e];simp,?_⟩;unfold aY im;rw[e,CN]
theorem Eh (q:Option Addr) (r:Nat) (fs:List aw) (a:MA) (m:av) (w:World) (k:Sl w (ac q fs.length r) fs) (i:fZ w.heap.size w a m) (z:fR fs) (A:bQ fs m) (J:m.F≠[]) :
  Calls Tryz.prog 108 #[.agg #[ac q fs.length r],.agg #[ac a.Af m.F.length a.cf,ac a.Ab m.B.length a.cb,ac a.Ai m.I.length a.ci,ac a.Ao m.out.length a.co,ai m.S,ai m.T]] w fun e w'=>e= .returned (.agg #[ai (aY fs m).c,ai (aY fs m).a])/\Below w.heap.size w w':=by
 have:=bA i.f;obtain⟨o,x,e⟩:∃o x,m.F=o++ [x]:=by
  rcases eZ m.F with d | ⟨K,L,d⟩
  ·exact absurd d J
  exact⟨K,L,by rw[d];simp⟩
 obtain⟨v,F,j⟩:=Dt (fs:=fs) e;obtain⟨b,I⟩:∃b,o.length=b:=⟨_,rfl⟩
 rw[I] at v F;obtain⟨a2,a4,p,C,a6⟩:=A.top e;obtain⟨a5,u,_⟩:=(z.e x.func.toNat ω).at_ _ _ C;obtain⟨M,V,N,W,d,y,E,s⟩:=i.f.fr (k:=b) ω;rw[v] at d y E s;obtain⟨c,t⟩:∃c:Nat,x.func=c:=⟨x.func.toNat,ω⟩
 obtain⟨f,h⟩:∃f:Nat,x.pc=f:=⟨x.pc.toNat,ω⟩
 rw[t,bq] at u j;rw[h,bq] at j;rw[h] at u;have G:c<fs.length:=ω;have:f<(ar fs c).C.length:=ω;obtain⟨O,X,R,Y,a1,g,a0,D⟩:=k.fn G;have:=bA k;have:=bA g;rw[j];refine enter Tryz.func108 rfl Tryz.ntmps108 rfl<|aj ?_;refine fun Z _=>aj ?_;refine fun ad _=>aj ?_;refine fun al _=>aj ?_;refine bd (t:=11) (v':= ai (b:Int)) rfl (congrArg (Value.int .i64) ω) ?_;refine sE (aW (k:=b) cP dM (.ro i.f) ω rfl rfl rfl) ?_;refine iB rfl (s _)<|aj ?_;refine fun am _=>aj ?_;refine bh [0,3,6,9,12,15,18,21,24,27,30,35] [11] rfl<|aj ?_;refine di (t:=17) (v':= ai (c:Int)) rfl (congrArg (Value.int .i64) t)<|tE rfl (aW (k:=c) eR fx (.ro k) ω rfl rfl rfl)<|aj ?_;refine tE rfl (bU (fun w l=>D _ w l 3 _ rfl) rfl rfl rh)<|aj ?_;refine di (t:=22) (v':= ai (f:Int)) rfl (congrArg (Value.int .i64) h)<|tE rfl (aW (k:=f) eF gK (.ro g) ω rfl rfl rfl) ?_;refine tE rfl (eC (cs:= [_,_]) (SF.op (.ro g) ω) rfl rfl yW gK)<|aj ?_;intro w l;exact⟨rfl,l.below⟩
end
section
end
section
theorem I8 (c:Int) (w:World):Calls Tryz.prog 158 #[ai c] w fun e w'=>e= .returned (ai (eS c))/\Below w.heap.size w w':=by
 refine enter Tryz.func158 rfl Tryz.ntmps158 rfl<|ax (fun a=>?_) (fun a=>?_)
 ·have a:c=14:=a;refine aj ?_;intro w d;exact⟨by rw[a];rfl,d.below⟩
 have a:¬c=14:=a;refine ax (fun b=>?_) (fun b=>?_)
 ·have b:c=12:=b;refine aj ?_;intro w d;exact⟨by rw[b];rfl,d.below⟩
 have b:¬c=12:=b;refine aj ?_;intro w d;exact⟨by unfold eS;rw[if_neg a,if_neg b],d.below⟩
theorem Nu (q:Option Addr) (r:Nat) (fs:List aw) (a:MA) (m:av) (w:World) (k:Sl w (ac q fs.length r) fs) (i:fZ w.heap.size w a m) (z:fR fs) (A:bQ fs m) (J:m.F≠[]) :
  Calls Tryz.prog 211 #[.agg #[ac q fs.length r],.agg #[ac a.Af m.F.length a.cf,ac a.Ab m.B.length a.cb,ac a.Ai m.I.length a.ci,ac a.Ao m.out.length a.co,ai m.S,ai m.T]] w fun e w'=>e= .returned (.agg #[ai (aY fs m).c,ai (aY fs m).a])/\Below w.heap.size w w':=by
 have:=bA i.f;obtain⟨o,x,e⟩:∃o x,m.F=o++ [x]:=by
  rcases eZ m.F with d | ⟨K,L,d⟩
  ·exact absurd d J
  exact⟨K,L,by rw[d];simp⟩
 obtain⟨v,F,j⟩:=Dt (fs:=fs) e;obtain⟨b,I⟩:∃b,o.length=b:=⟨_,rfl⟩
 rw[I] at v F;obtain⟨a2,a4,p,C,a6⟩:=A.top e;obtain⟨a5,u,_⟩:=(z.e x.func.toNat ω).at_ _ _ C;obtain⟨M,V,N,W,d,y,E,s⟩:=i.f.fr (k:=b) ω;rw[v] at d y E s;obtain⟨c,t⟩:∃c:Nat,x.func=c:=⟨x.func.toNat,ω⟩
 obtain⟨f,h⟩:∃f:Nat,x.pc=f:=⟨x.pc.toNat,ω⟩
 rw[t,bq] at u j;rw[h,bq] at j;rw[h] at u;have G:c<fs.length:=ω;have:f<(ar fs c).C.length:=ω;obtain⟨O,X,R,Y,a1,g,a0,D⟩:=k.fn G;have:=bA k;have:=bA g;rw[j];refine enter Tryz.func211 rfl Tryz.ntmps211 rfl<|aj ?_;refine fun Z _=>aj ?_;refine fun ad _=>aj ?_;refine fun al _=>aj ?_;refine bd (t:=11) (v':= ai (b:Int)) rfl (congrArg (Value.int .i64) ω) ?_;refine sE (aW (k:=b) cP dM (.ro i.f) ω rfl rfl rfl) ?_;refine iB rfl (s _)<|aj ?_;refine fun am _=>aj ?_;refine bh [0,3,6,9,12,15,18,21,24,27,30,35] [11] rfl<|aj ?_;refine di (t:=17) (v':= ai (c:Int)) rfl (congrArg (Value.int .i64) t)<|tE rfl (aW (k:=c) eR fx (.ro k) ω rfl rfl rfl)<|aj ?_;refine tE rfl (bU (fun w l=>D _ w l 3 _ rfl) rfl rfl rh)<|aj ?_;refine di (t:=22) (v':= ai (f:Int)) rfl (congrArg (Value.int .i64) h)<|tE rfl (aW (k:=f) eF gK (.ro g) ω rfl rfl rfl) ?_;refine tE rfl (eC (cs:= [_,_]) (SF.op (.ro g) ω) rfl rfl yW gK)<|aj ?_;intro w l;exact⟨rfl,l.below⟩
def uB (fs:List aw) (m:av) (k:Int):av×Int:=if iM m then (m,k) else if k<eS (aY fs m).c then (m,k) else (eX fs m,k - eS (aY fs m).c)
def tG (fs:List aw) (m:av) (k:Int):Prop:= ¬iM m/\eS (aY fs m).c<=k/\(eX fs m).S=0
instance (fs:List aw) (m:av) (k:Int):Decidable (tG fs m k):=by unfold tG;infer_instance
theorem yD {fs:List aw} {m:av} {k:Int} (h:iM m):uB fs m k=(m,k):=if_pos h
theorem Ei {fs:List aw} {m:av} {k:Int} (h:¬iM m) (h2:k<eS (aY fs m).c):uB fs m k=(m,k):=(if_neg h).trans (if_pos h2)
theorem yB {fs:List aw} {m:av} {k:Int} (h:¬iM m) (h2:¬k<eS (aY fs m).c):uB fs m k=(eX fs m,k - eS (aY fs m).c):=(if_neg h).trans (if_neg h2)
theorem GG (fs:List aw) (m:av) (k:Int):fX fs m k=if tG fs m k then fX fs (uB fs m k).1 (uB fs m k).2 else uB fs m k:=by
 rw[rq]
 by_cases a:iM m
 ·rw[if_pos a,if_neg (show¬tG fs m k from fun b=>b.1 a),yD a]
 rw[if_neg a]
 by_cases c:k<eS (aY fs m).c
 ·rw[if_pos c,if_neg (show¬tG fs m k from fun b=>by have:=b.2.1;omega),Ei a c]
 rw[if_neg c,yB a c]
 by_cases d:(eX fs m).S=0
 ·rw[if_pos d,if_pos (show tG fs m k from⟨a,ω,d⟩)]
 rw[if_neg d,if_neg (show¬tG fs m k from fun b=>d b.2.2)]
section
variable {B:Nat} {w0:World} {H:List aP}
theorem J9 (gd:Nat) (a:MA) (m:av) (k:Int) (q:Option Addr) (r:Nat) (fs:List aw) (y:bN w0 B (ac q fs.length r) fs) (u:fR fs) (f:bQ fs m) (L:0<=k/\k<=10000) (p:av×Int) (s:uB fs m k=p) (w:World)
  (b:Cw B w0 (ak gd [ac a.Af m.F.length a.cf,ac a.Ab m.B.length a.cb,ac a.Ai m.I.length a.ci,ac a.Ao m.out.length a.co,ai m.S,ai m.T,ai k] 205::an (ac a.Af m.F.length a.cf) m.F::an (ac a.Ab m.B.length a.cb) m.B::an (ac a.Ai m.I.length a.ci) m.I::an (ac a.Ao m.out.length a.co) m.out::H) w) :
  Calls Tryz.prog 154 #[af gd,.agg #[ac q fs.length r]] w fun e w'=> ∃g:MA,True/\e= .returned (.bool (decide (tG fs m k)))/\
   Cw B w0 (ak gd [ac g.Af p.1.F.length g.cf,ac g.Ab p.1.B.length g.cb,ac g.Ai p.1.I.length g.ci,ac g.Ao p.1.out.length g.co,ai p.1.S,ai p.1.T,ai p.2] 205::an (ac g.Af p.1.F.length g.cf) p.1.F::an (ac g.Ab p.1.B.length g.cb) p.1.B::an (ac g.Ai p.1.I.length g.ci) p.1.I::an (ac g.Ao p.1.out.length g.co) p.1.out::H) w':=by
 have I:=lT (aY fs m).c;have C:=f.st;have D:aI m.S:=⟨ω,ω⟩
 have E:aI m.T:=by
  rcases Decidable.em (m.S=3) with t | t
  ·have:=f.t3 t;exact⟨ω,ω⟩
  have:=f.t0 t;exact⟨ω,ω⟩
 refine bF Tryz.func154 rfl Tryz.ntmps154 rfl b<|aj ?_;refine fun J _=>cR 13 (fun z=>?_) (fun z=>?_)
 ·have d:iM m:= .inl (bu (by have:=of_decide_eq_true z;omega));have e:p=(m,k):=by rw[<-s,yD d]
  subst e;refine aj ?_;refine aZ rfl<|aj ?_;intro w b;exact⟨a,trivial,aX (decide_eq_false (fun c=>c.1 d)).symm,b.msub ms⟩
 have A:m.F≠[]:=fun e=>by have:=of_decide_eq_false z;rw[e] at this;simp at this
 refine ax (fun o=>?_) (fun o=>?_)
 ·have d:iM m:= .inr o;have e:p=(m,k):=by rw[<-s,yD d]
  subst e;refine aj ?_;intro w b;exact⟨a,trivial,aX (decide_eq_false (fun c=>c.1 d)).symm,b.msub ms⟩
 have o:¬m.S=3:=o;have d:¬iM m:=fun c=>c.elim A o;have:¬(m.S=2\/m.S=3):=(not_congr (yL f)).1 d;obtain⟨j,i⟩:∃j,eS (aY fs m).c=j:=⟨_,rfl⟩
 refine aj ?_;refine bh [0,3,6,9,12,17,18,23,24] [] rfl<|aj ?_;refine lc rfl rfl Tryz.call211 (fun w b=>Nu q r fs a m w (b.ro y) (oK b fc fc fc fc rfl rfl rfl rfl D E) u f A) ?_;refine tE rfl (kh (KJ _ _) rfl rfl) ?_;refine lc rfl rfl Tryz.call158 (fun w b=>I8 _ w)<|aj ?_;rw[i] at I;rw[i];have:=HK (aY fs m).c;refine eI rfl (fun h=>?_) (fun h=>?_)
 ·have h:k<j:=h;have e:p=(m,k):=by rw[<-s,Ei d (by rw[i];exact h)]
  subst e;refine aj ?_;intro w b;exact⟨a,trivial,aX (decide_eq_false (fun c=>by have:=c.2.1;omega)).symm,b.msub ms⟩
 have h:¬k<j:=h;obtain⟨l,v⟩:∃l,eX fs m=l:=⟨_,rfl⟩
 have e:p=(l,k - j):=by rw[<-s,yB d (by rw[i];exact h),v,i]
 subst e;have G:tG fs m k↔l.S=0:=by
  unfold tG;rw[v,i];exact⟨fun c=>c.2.2,fun c=>⟨d,ω,c⟩⟩
 refine aj ?_;refine bh [0,3,6,9,12,15,20,21,24,29] [9] rfl<|aj ?_;refine kL rfl rfl Tryz.call114 (fun w b=>PA q r fs a m l v w (b.ro y) (oK b fc fc fc fc rfl rfl rfl rfl D E) (kD u f) (fun C=>BO y u f C)) (fun F _=>aj ?_);intro w b;exact⟨F,trivial,aX (decide_eq_decide.2 G).symm,b.msub ms⟩
end
end
section
theorem KF {fs:List aw} (_:fR fs) {m:av} (_:bQ fs m) {k:Int} (a:tG fs m k):uB fs m k=(eX fs m,k - eS (aY fs m).c):=by
 exact yB a.1 (by have:=a.2.1;omega)
theorem Nw (l:Option Addr) (o:Nat) (fs:List aw) (a:MA) (m:av) (k:Int) (r:av×Int) (F:fX fs m k=r) (w:World) (G:Sl w (ac l fs.length o) fs) (D:fZ w.heap.size w a m) (q:fR fs) (y:bQ fs m) (C:0<=k/\k<=10000) :
  Calls Tryz.prog 98 #[.agg #[ac l fs.length o],.agg #[ac a.Af m.F.length a.cf,ac a.Ab m.B.length a.cb,ac a.Ai m.I.length a.ci,ac a.Ao m.out.length a.co,ai m.S,ai m.T],ai k] w fun e w'=> ∃g:MA,True/\
   e= .returned (.tuple #[.agg #[ac g.Af r.1.F.length g.cf,ac g.Ab r.1.B.length g.cb,ac g.Ai r.1.I.length g.ci,ac g.Ao r.1.out.length g.co,ai r.1.S,ai r.1.T],ai r.2])/\Cw w.heap.size w [an (ac g.Af r.1.F.length g.cf) r.1.F,an (ac g.Ab r.1.B.length g.cb) r.1.B,an (ac g.Ai r.1.I.length g.ci) r.1.I,an (ac g.Ao r.1.out.length g.co) r.1.out] w':=by
 refine enter Tryz.func98 rfl Tryz.ntmps98 rfl<|aj ?_;refine fun u _=>aj ?_;refine fun J _=>aj ?_;refine fun v _=>aj ?_;refine et rfl rj (fun w j=>mJ a m w (fZ.ro j D) (kD q y)) (fun A _=>aj ?_);refine fun p _=>aj ?_;refine de (fun g:(av×Int)×MA=>(bQ fs g.1.1/\0<=g.1.2/\g.1.2<=10000)/\fX fs g.1.1 g.1.2=r) (fun g=>g.1.2.toNat) (fun _=> [(3,af u),(6,af v),(8,af p)]) (fun g=> (ak p [ac g.2.Af g.1.1.F.length g.2.cf,ac g.2.Ab g.1.1.B.length g.2.cb,ac g.2.Ai g.1.1.I.length g.2.ci,ac g.2.Ao g.1.1.out.length g.2.co,ai g.1.1.S,ai g.1.1.T,ai g.1.2] 205::ae g.2 g.1.1 [ak u [ac l fs.length o] 24,ak v [ac none 0 0,ac none 0 0,ac none 0 0,ac none 0 0,ai 0,ai 0] 43])) ((m,k),A) (⟨⟨y,C⟩,F⟩) ?_;rintro⟨⟨f,b⟩,g⟩ E
 try dsimp only
 obtain⟨⟨t,I⟩,z⟩:(bQ fs f/\0<=b/\b<=10000)/\fX fs f b=r:=E;obtain⟨c,s⟩:∃c,uB fs f b=c:=⟨_,rfl⟩
 refine aj ?_;refine dA rfl Tryz.call154 (fun w j=>J9 p g f b l o fs G q t I c s w (j.msub (.s fc (.s fc (.s fc (.s fc (.s fc .r))))))) (fun d _=>ax (fun h=>?_) (fun h=>?_))
 ·have h:tG fs f b:=h;have i:=(KF q t h).symm.trans s;have:=lT (aY fs f).c;have:=h.2.1;refine aj ?_;refine Dg (c,d) (by rw[<-i];exact⟨⟨qR q t,by show 0<=b - _;omega,by show b - _<=_;omega⟩,by show fX fs (eX fs f) _=r;rw[<-z,GG fs f b,if_pos h,s,<-i]⟩) (by rw[<-i];show (b - _).toNat<b.toNat;omega)
 have h:¬tG fs f b:=h;have i:c=r:=by rw[<-z,GG fs f b,if_neg h,s]
 subst i;refine aj ?_;refine eu [0,3,6,9,12,15,18,21,26,27] [] rfl [ak p [ac d.Af c.1.F.length d.cf,ac d.Ab c.1.B.length d.cb,ac d.Ai c.1.I.length d.ci,ac d.Ao c.1.out.length d.co,ai c.1.S,ai c.1.T,ai c.2] 205]<|aj ?_;intro w j;exact⟨d,trivial,rfl,j.msub ms⟩
end
section
theorem lE {fs:List aw} {m:av} (h:bQ fs m):aI m.S/\aI m.T:=by
 have:=h.st;refine⟨⟨ω,ω⟩,?_⟩;rcases Decidable.em (m.S=3) with a | a
 ·have:=h.t3 a;exact⟨ω,ω⟩
 have:=h.t0 a;exact⟨ω,ω⟩
end
section
def ne (l:List av):Prop:=l.length*112<=140737488355328/\∀m∈l,ox m.F
def du (fs:List aw) (l:List av):Int:=
 if dN fs≠0 then dN fs else if l.length=0 then 5 else if 4<l.length then 2 else dZ (ff fs) l
structure lF (fs:List aw) (l:List av):Prop where
 p:dN fs=0
 f:fR fs
 r:∀m∈l,bQ fs m
 n0:1<=l.length
 n4:l.length<=4
theorem pB {fs:List aw} {l:List av} (h:du fs l=0):lF fs l:=by
 unfold du at h
 split at h
 ·exact absurd h (by assumption)
 rename_i b;have a:dN fs=0:=dt b
 split at h
 ·cases h
 split at h
 ·cases h
 exact⟨a,ot a,fun m c=>vZ.1 (pj h m c),ω,ω⟩
theorem lF.i64 {fs:List aw} {l:List av} (h:lF fs l) {k:Nat} (a:k<l.length):aI (az l k).S/\aI (az l k).T:=lE (h.r _ (gD a))
theorem th {l:List av} {k:Nat} (a:k<l.length):l.take (k+1)=l.take k++ [az l k]:=eE l k default a
theorem oT (j p:Option Addr) (k q:Nat) (fs:List aw) (l:List av) (w:World) (y:Sl w (ac j fs.length k) fs) (s:Sl w (ac p l.length q) l) (D:ne l) :
  Calls Tryz.prog 20 #[.agg #[ac j fs.length k],.agg #[ac p l.length q]] w fun e w'=>e= .returned (ai (du fs l))/\Below w.heap.size w w':=by
 have:=bA s;refine enter Tryz.func20 rfl Tryz.ntmps20 rfl<|aj ?_;refine fun u _=>aj ?_;refine fun J _=>aj ?_;refine cE rfl JC (fun w b=>qm j k fs w (b.ro y))<|cF (fun d=>?_) (fun d=>?_)
 ·have d:¬dN fs=0:=d;refine aj ?_;intro w b;exact⟨fi (by unfold du;rw[if_pos d]),b.below⟩
 have d:dN fs=0:=d;have A:=ot d;refine ax (fun c=>?_) (fun c=>?_)
 ·have c:l.length=0:=by have c:(l.length:Int)=0:=c;omega
  refine aj ?_;intro w b;exact⟨fi (by unfold du;rw[if_neg (fun o=>o d),if_pos c]),b.below⟩
 have c:¬l.length=0:=by have c:¬(l.length:Int)=0:=c;omega
 refine ax (fun f=>?_) (fun f=>?_)
 ·have f:4<l.length:=by have f:(4:Int)<l.length:=f;omega
  refine aj ?_;intro w b;exact⟨fi (by unfold du;rw[if_neg (fun o=>o d),if_neg c,if_pos f]),b.below⟩
 have f:¬4<l.length:=by have f:¬(4:Int)<l.length:=f;omega
 have v:du fs l=dZ (ff fs) l:=by unfold du;rw[if_neg (fun o=>o d),if_neg c,if_neg f]
 refine aj ?_;refine de (fun a:Nat=>a<=l.length/\dZ (ff fs) (l.take a)=0) (fun a=>l.length - a) (fun a=> [(2,af u),(25,ac p l.length q),(26,ai (l.length:Int)),(27,ai (a:Int))]) (fun _=> [ak u [ac j fs.length k] 24]) 0 (⟨aU _,rfl⟩) ?_;rintro a E;obtain⟨L,t⟩:a<=l.length/\dZ (ff fs) (l.take a)=0:=E;refine ax (fun F=>?_) (fun F=>?_)
 ·have r:a<l.length:=ω;obtain⟨z,G,C⟩:=s.mc r;have i:=jp (g:=ff fs) default r t;refine aj ?_;refine da a rfl (.ro s) ?_;refine iB rfl (C _)<|aj ?_;refine fun K _=>aj ?_;refine cE rfl VO (fun w b=>uD j k fs z (az l a) w (b.ro y) (G.ro b) A (D.2 _ (gD r)))<|cF (fun h=>?_) (fun h=>?_)
  ·have h:¬ff fs (az l a)=0:=h;have i:dZ (ff fs) (l.take (a+1))=ff fs (az l a):=i;refine aj ?_;intro w b;exact⟨fi (by rw[v,mU (k:=a+1) (by rw[i];exact h),i]),b.below⟩
  have h:ff fs (az l a)=0:=h;have i:dZ (ff fs) (l.take (a+1))=ff fs (az l a):=i;refine aj ?_;refine cJ (a+1) (⟨by show a+1<=_;omega,i.trans h⟩) (by show _ - _<_ - _;omega)
 obtain rfl:a=l.length:=ω;rw[aR] at t;refine aj ?_;intro w b;exact⟨fi (by rw[v,t]),b.below⟩
theorem Dj (i:Option Addr) (j:Nat) (fs:List aw) (l:List av) (w:World) (k:Sl w (ac i l.length j) l) (f:lF fs l) :
  Calls Tryz.prog 96 #[.agg #[ac i l.length j]] w fun e w'=> ∃g:Nat×Option Addr×Nat,True/\e= .returned (af g.1)/\Cw w.heap.size w [ak g.1 [ac g.2.1 l.length g.2.2] 148,an (ac g.2.1 l.length g.2.2) l] w':=by
 have:=bA k;have:=f.n4;refine enter Tryz.func96 rfl Tryz.ntmps96 rfl<|aj ?_;refine fun F _=>aj ?_;refine fun d _=>aj ?_;refine db (fun w v=>Cw.nilO av v) ?_;refine de (fun g:Nat×Option Addr×Nat=>g.1<=l.length) (fun g=>l.length - g.1) (fun g=> [(3,af d),(9,ac i l.length j),(10,ai (l.length:Int)),(11,ai (g.1:Int))]) (fun g=> [ak d [ac g.2.1 (l.take g.1).length g.2.2] 148,ag g.2.1 g.2.2 (l.take g.1)]) (0,none,0) (aU _) ?_;rintro⟨a,p,q⟩ r
 try dsimp only
 have r:a<=l.length:=r;have:(l.take a).length=a:=by rw[aB];omega
 refine ax (fun A=>?_) (fun A=>?_)
 ·have h:a<l.length:=ω;obtain⟨b,C,z⟩:=k.mc h;have y:=f.i64 h;have D:=th h;refine aj ?_;refine da a rfl (.ro k) ?_;refine iB rfl (z _)<|aj ?_;refine fun u _=>aj ?_;refine eu [0,3,6,9,12,15,18,23,26,29,30,33,36,41] [13] rfl [ak d [ac p (l.take a).length q] 148,ak u (ah b (az l a)) 43]<|aj ?_;refine kL rfl rfl rj (fun w o=>mJ b (az l a) w (C.ro o) (kD f.f (f.r _ (gD h)))) (fun c _=>aj ?_);intro G _;refine pE rfl (bV (α:=av) (bytes:=112) (az l a) (ae c (az l a) []) D dF (aS ka) rfl (ss fc fc fc fc fc fc) (nL y) ω ω rfl rfl rfl) (fun⟨s,t⟩ _=>?_);refine aO ?_;refine cJ (a+1,s,t) (by show a+1<=_;omega) (by show _ - _<_ - _;omega)
 obtain rfl:a=l.length:=ω;rw[aR];refine aj ?_;intro w o;exact⟨(d,p,q),trivial,rfl,o.msub ms⟩
end
section
theorem Re {r:Bool} {n t:Int} (h:1<=t/\t<=3):gJ ⟨r,n⟩ t=if t=1 then !r else (r && (decide (t=2) || decide (n=0))):=by
 unfold gJ;rcases(show t=1\/t=2\/t=3 by omega) with rfl | rfl | rfl <;> cases r <;> simp
theorem BV (v:aD) (t:Int) (g:1<=t/\t<=3) (w:World):Calls Tryz.prog 198 #[.agg #[.bool v.ref,ai v.n],ai t] w fun e w'=>e= .returned (.bool (gJ v t))/\Below w.heap.size w w':=by
 obtain⟨f,n⟩:=v;have d:=Re (r:=f) (n:=n) g;refine enter Tryz.func198 rfl Tryz.ntmps198 rfl<|aj ?_;refine fun h _=>ax (fun a=>?_) (fun a=>?_)
 ·have a:t=1:=a;rw[if_pos a] at d;refine aj ?_;intro w b;exact⟨aX d.symm,b.below⟩
 have a:¬t=1:=a;rw[if_neg a] at d;refine fk (fh ?_);refine cn<|bK<|aC ?_;refine dG (cT fc xw rfl rfl (by rfl)) rfl rfl ?_;refine aC ?_
 cases f with
 | false=>
  refine bd (t:=12) (v':= .bool false) rfl (rfl)<|aj ?_;intro w b;exact⟨aX (by rw[d];rfl),b.below⟩
 | true=>
  refine bd (t:=12) (v':= .bool true) rfl (rfl)<|cR 15 (fun c=>?_) (fun c=>?_)
  ·have c:t=2:=of_decide_eq_true c;refine aj ?_;intro w b;exact⟨aX (by rw[d];simp[c]),b.below⟩
  have c:¬t=2:=of_decide_eq_false c;refine aj ?_;intro w b;exact⟨aX (by rw[d];simp[c]),b.below⟩
theorem Iv (s:Option Addr) (u:Nat) (fs:List aw) (k:Nat) (pc:Int) (q:Option (List Int)) (D:gh fs (ar fs k) pc=q) (w:World) (O:Sl w (ac s fs.length u) fs) (K:k<fs.length) (N:nF fs (ar fs k)) (R:rU fs (ar fs k)) (M:0<(ar fs k).C.length) :
  Calls Tryz.prog 199 #[.agg #[ac s fs.length u],ai (k:Int),ai pc] w fun e w'=> ∃g:Option Addr×Nat,True/\e= .returned (.tuple #[ac g.1 (q.getD []).length g.2,.bool q.isSome])/\
   Cw w.heap.size w [kj (ac g.1 (q.getD []).length g.2) (q.getD [])] w':=by
 refine enter Tryz.func199 rfl Tryz.ntmps199 rfl<|aj ?_;refine fun U _=>aj ?_;refine et rfl Tryz.call139 (fun w d=>wb s u fs k w (d.ro O) K N R M) (fun⟨⟨z,A⟩,b,t⟩ i=>?_);refine aO ?_;have i:ow b t (cD fs (ar fs k)).1:=i;have:=i.len;refine ei (p:=b.length<=140737488355328) (fun w d=>bA (SF.at_ (SF.own (α:=iR) (xs:=b) rfl fc) d)) fun S=>?_;refine de (fun a:Nat=>a<=b.length/\∀c,c<a->(hent b c).pc≠pc) (fun a=>b.length - a) (fun a=> [(2,ai pc),(8,ac z b.length A),(10,ai (a:Int))]) (fun _=> [ag z A b,gL t]) 0 (⟨aU _,fun _ o=>absurd o (gt _)⟩) ?_;rintro a J;obtain⟨V,v⟩:a<=b.length/\∀c,c<a->(hent b c).pc≠pc:=J;refine ax (fun L=>?_) (fun L=>?_)
 ·have j:a<b.length:=ω;have C:a<(cD fs (ar fs k)).1.length:=ω;obtain⟨G,l⟩:=i.el a j C;refine aj ?_;refine da a rfl ((SF.own (xs:=b) rfl fc))<|aj ?_;refine eK rfl (fun w d=>SF.hent (SF.own (xs:=b) rfl fc) j w d 0 _ rfl)<|ax (fun f=>?_) (fun f=>?_)
  ·have f:(hent b a).pc=pc:=f;have y:q=some (cD fs (ar fs k)).1[a].K:=by
    rw[<-D];unfold gh;rw[Hw C (by rw[<-G,<-oL j];exact f) (fun c r o=>by
     have h:c<b.length:=ω;have:=v c r;rw[oL h,(i.el c h o).1] at this;exact this)]
    rfl
   subst y;rw[<-oL j] at l;refine aj ?_;refine da a rfl ((SF.own (xs:=b) rfl fc))<|aj ?_;refine eK rfl (fun w d=>SF.hent (SF.own (xs:=b) rfl fc) j w d 1 _ rfl)<|aj ?_;intro w d;obtain⟨E,F,I⟩:=l.form d fc;rw[I] at l⊢;exact⟨(E,F),trivial,rfl,(yw l (d.msub (T:=gL t:: []) ms)).msub ms⟩
  have f:¬(hent b a).pc=pc:=f;refine aj ?_;refine cJ (a+1) (⟨by show a+1<=_;omega,fun c r=>(gH c a).elim (v c) (fun o=>by obtain rfl:c=a:=(by omega);exact f)⟩) (by show _ - _<_ - _;omega)
 obtain rfl:a=b.length:=ω;have y:q=none:=by
  rw[<-D];unfold gh;rw[Hv (fun c r=>by
   have h:c<b.length:=ω;have:=v c h;rw[oL h,(i.el c h r).1] at this;exact this)]
  rfl
 subst y;refine aj ?_;intro w d;exact⟨(none,0),trivial,rfl,(rD d).msub ms⟩
end
section
theorem N0:Tryz.prog.eqGuardType Tryz.prog.depth 86=false:=by kernel_rfl
theorem Ue:Tryz.prog.stoodInHeld 86=false:=by kernel_rfl
theorem T7 (w:World) (a b c d:Int):(binOp .neq 86 (.agg #[.int .i64 a,.int .i64 b]) (.agg #[.int .i64 c,.int .i64 d])).run Tryz.prog w= .ok (.bool (!(a == c && b == d))) w:=by
 have e:=Ue
 by_cases f:a=c <;> by_cases g:b=d <;> simp[go_sem,e,f,g]
theorem SM (x y:Operand) (b v:Array Value) (w:World):(eqGuard .neq 86 x y (.agg b) (.agg v)).run Tryz.prog w= .ok () w:=by
 have a:=N0
 simp[eqGuard,go_sem,a]
theorem LT {fs:List aw} (h:fR fs) {a:Nat} (i:a<fs.length) {pc to_:Int} (d:iu (ar fs a) pc to_=true) {s:List Int} (p:gh fs (ar fs a) (pc - 1)=some s) :
  (0<=to_/\to_<fs.length)/\∃t,gh fs (ar fs a) pc=some t/\((ar fs to_.toNat).result≠0->1<=t.length):=by
 unfold iu at d;simp only[dv,decide_eq_true_eq] at d;obtain⟨o,b,e⟩:=d;have o:=dJ.1 o;obtain⟨_,y,_,_,A,l,j⟩:=(h.e _ i).at_ _ _ p;have k:=(jo h.p i).1.op (pc - 1).toNat ω;generalize bE (ar fs a).C (pc - 1).toNat=z at b e l j k;have g:=k.call b;rw[e] at g;obtain⟨t,r,c⟩:=j pc (by simp[dT,b]);obtain⟨u,v,f,_,_,_,rfl⟩:=kg.1 l;simp[tl,b] at f;obtain⟨rfl,rfl⟩:=f;rw[e] at c;refine⟨g,t,r,fun q=>?_⟩;unfold bS at c;rw[if_neg q] at c;have:=(xi c).2.1;omega
theorem RZ {A:Option Addr} {m c k:Nat} {xs:List Int} {B:Nat} {w0 w:World} {H:List aP} (e:k<=m) (h:Cw B w0 (kj (ac A m c) xs::H) w):Cw B w0 (kj (ac (iq A 0 c 1) k (c - 0)) (xs.take k)::H) w:=by
 refine h.upd fun b a _=>⟨b,⟨a.1,fun g f=>?_⟩,rfl,rfl,rfl,aF _,fun _ _ _=>rfl,fun i d=> .inl d⟩
 have:=(a.2 g f).cut 0 k (aU _) e;rw[va,qd] at this;exact this
theorem Py {A:Option Addr} {c:Nat} {xs:List Int} {B:Nat} {w0 w:World} {H:List aP} (h:Cw B w0 (kj (ac A xs.length c) xs::H) w):Cw B w0 (kj (ac (iq A 0 c 1) xs.dropLast.length (c - 0)) xs.dropLast::H) w:=by
 have:=RZ (k:=xs.length - 1) ω h;rw[<-vj,<-List.length_dropLast] at this;exact this
theorem It (a:MA) (m:av) (C:Option Addr) (D:Nat) (fs:List aw) (i:Nat) (w:World) (N:Sl w (ac C fs.length D) fs) (Z:fZ w.heap.size w a m) (a5:fR fs) (ds:ox m.F) (hi:i<m.F.length) (ce:∀x∈m.F,0<=x.func/\x.func<fs.length) (bi:Int) (l:gv fs m.B.length m.F i=bi) :
  Calls Tryz.prog 141 #[.agg #[ac C fs.length D],.agg #[ac a.Af m.F.length a.cf,ac a.Ab m.B.length a.cb,ac a.Ai m.I.length a.ci,ac a.Ao m.out.length a.co,ai m.S,ai m.T],ai (i:Int)] w fun e w'=>e= .returned (ai bi)/\Below w.heap.size w w':=by
 have:=bA Z.f;have:=bA N;have:=bA Z.b;obtain⟨O,U,R,V,a7,ba,c6,bt⟩:=Z.f.fr hi;obtain⟨c7,c8⟩:=ds.2 (aN m.F i) (fL hi);have:=ce _ (fL hi);obtain⟨r,ck⟩:∃r:Nat,(aN m.F i).func=r:=⟨(aN m.F i).func.toNat,ω⟩
 have L:r<fs.length:=ω;obtain⟨cw,cp⟩:=jo a5.p L;have c0:=IW a5.p L;obtain⟨a0,a3,a1,a4,bv,bm,dn,cb⟩:=N.fn L;have dz:(ar fs r).L.length<=6:=(cw.op 0 cp).par r L |>.2;have co:=(kX ((iD a5.p).2.2 _ (jL L))).2.2.2.1;have cd:jY fs m.F i=ar fs r:=by unfold jY;rw[ck,bq]
 have hent:∀u f,gh fs (ar fs r) u=some f->Ty f:=fun u f k=>((a5.e r L).at_ u f k).2.2.2.1;have b9:∀{u E:Int} (_:iu (ar fs r) u E=true) {c4:List Int},gh fs (ar fs r) (u - 1)=some c4->(0<=E/\E<fs.length)/\∃f,gh fs (ar fs r) u=some f/\((ar fs E.toNat).result≠0->1<=f.length):=fun c9 _ c5=>LT a5 L c9 c5;unfold gv at l;obtain⟨bc,q⟩:∃bc,iY fs m.F i=bc:=⟨_,rfl⟩
 rw[cd,q] at l;unfold iY at q;rw[cd] at q;rw[ck] at bt;have b3:∀u v,gh fs (ar fs r) u=v->∀am,Sl am (ac C fs.length D) fs->Calls Tryz.prog 199 #[.agg #[ac C fs.length D],ai (r:Int),ai u] am fun e w'=> ∃o:Option Addr×Nat,True/\e= .returned (.tuple #[ac o.1 (v.getD []).length o.2,.bool v.isSome])/\
   Cw am.heap.size am [kj (ac o.1 (v.getD []).length o.2) (v.getD [])] w':=fun u v k am W=>Iv C D fs r u v k am W L cw c0 cp
 generalize ar fs r=h at l bv bm dn cb dz co hent b9 q b3;obtain⟨c1,e3⟩:∃c1,m.F=c1:=⟨_,rfl⟩
 generalize e7:aN m.F i=x at l a7 ba c6 bt c7 c8 q;have:=bA a7;have:=bA ba;have:=bA bm;refine enter Tryz.func141 rfl Tryz.ntmps141 rfl<|aj ?_;refine fun G _=>aj ?_;refine fun I _=>aj ?_;refine da i rfl (.ro Z.f) ?_;refine iB rfl (bt _)<|aj ?_;refine fun y _=>aj ?_;refine da r rfl (.ro N) ?_;refine iB rfl (cb _)<|aj ?_;refine fun J _=>cF (fun W=>?_) (fun W=>?_)
 ·rw[if_pos (show x.L.length≠h.L.length from fun e=>W (by rw[e]))] at l;subst l;refine aj ?_;intro w g;exact⟨rfl,g.below⟩
 have W:x.L.length=h.L.length:=ω;rw[if_neg (fun k=>k W)] at l;have:(x.L++x.K).length=x.L.length+x.K.length:=au;refine fk (fh ?_);refine dq (fun _:Option Addr×Nat=>True) (fun o=> [(2,ai (i:Int)),(3,af G),(4,af I),(7,af y),(8,af J),(9,ac o.1 (x.L++x.K).length o.2)]) (fun o=> [ag o.1 o.2 (x.L++x.K),ak y [ai (r:Int),ai x.pc,ac O x.L.length U,ac R x.K.length V] 118,ak J [ai h.params,ac a0 h.L.length a3,ai h.result,ac a1 h.C.length a4] 84,ak I (ah a m) 43,ak G [ac C fs.length D] 24]) ?_ ?_
 ·refine bh [3,6,12,15,2,11,20,22] [6,7] rfl ?_;refine aC ?_;refine dK rfl (cT fc dX rfl rfl (by rfl)) rfl rfl ha ?_;refine aC ?_;refine dK rfl (cT fc dX rfl rfl (by rfl)) rfl rfl ha ?_;refine pE rfl ((fq (cs:= []) aA aM lm rfl rfl rfl rfl rfl).mem (H'':=fun o=>an (ac (some ⟨o,0,none⟩) 0 0) ([]:List aD)::_) fun o w k=>bI (α:=aD) (m:=0) [] rfl σ rfl κ k) (fun eN _=>?_);refine pE rfl (dm (α:=aD) (bytes:=16) (xs:= []) (ys:=x.L) (cc x.L).symm aA (aS dr) rfl fc (.ro a7) (by simp only[aE];omega) (by simp only[aE];omega) rfl rfl rfl) (fun⟨d5,es⟩ _=>?_)
  try dsimp only
  refine pE rfl (dm (α:=aD) (bytes:=16) (xs:=x.L) (ys:=x.K) rfl aA (aS dr) rfl fc (.ro ba) ω ω rfl rfl rfl) (fun⟨bf,bk⟩ _=>?_);refine aO ?_;refine bR<|bW (bf,bk) trivial (hh:=(fun _ k=>k.msub ms))
 rintro⟨bf,bk⟩ _;refine aO ?_;refine de (fun b:Nat=>b<=(x.L++x.K).length/\∀j,j<b->fC m.B.length ((x.L++x.K).getD j default)=true) (fun b=>(x.L++x.K).length - b) (fun b=> [(2,ai (i:Int)),(3,af G),(4,af I),(7,af y),(8,af J),(9,ac bf (x.L++x.K).length bk),(10,ai (b:Int))]) (fun _=> [ag bf bk (x.L++x.K),ak y [ai (r:Int),ai x.pc,ac O x.L.length U,ac R x.K.length V] 118,ak J [ai h.params,ac a0 h.L.length a3,ai h.result,ac a1 h.C.length a4] 84,ak I (ah a m) 43,ak G [ac C fs.length D] 24]) 0 (⟨aU _,fun _ k=>absurd k (gt _)⟩) ?_;rintro b a6;obtain⟨cj,cr⟩:b<=(x.L++x.K).length/\∀j,j<b->fC m.B.length ((x.L++x.K).getD j default)=true:=a6;refine ax (fun a8=>?_) (fun a8=>?_)
 ·have t:b<(x.L++x.K).length:=ω;obtain⟨al,bb⟩:∃bp,fC m.B.length ((x.L++x.K).getD b default)=bp:=⟨_,rfl⟩
  have X:al=false->bi=3:=fun e=>by rw[e] at bb;rw[if_pos (HT t bb)] at l;exact l.symm
  have cf:al=true->∀j,j<b+1->fC m.B.length ((x.L++x.K).getD j default)=true:=fun e j ci=>(gH j b).elim (cr j) (fun k=>by obtain rfl:j=b:=(by omega);rw[bb,e]);refine aj ?_;refine bh [0,3,6,9,12,15,18,21,24,27,30,33,36,39,44,45,48,51,54,57,60,63,66,69,72,75,78,81,84,87,92,93,96,99] [] rfl<|aj ?_;refine tE rfl (aW (k:=b) aA aM (SF.own rfl fc) ω rfl rfl rfl)<|aj ?_;refine tE rfl (bU (fun w g=>(SF.val (SF.own rfl fc) t default) w g 0 _ rfl) rfl rfl xw) ?_;refine aC ?_;rcases Bool.eq_false_or_eq_true ((x.L++x.K).getD b default).ref with z | z
  ·have b5:be ((x.L++x.K).getD b default).n 0 m.B.length=al:=by rw[<-bb];unfold fC;rw[if_pos z]
   rw[z];refine di (t:=54) (v':= .bool true) rfl (rfl)<|aj ?_;refine tE rfl (aW (k:=b) aA aM (SF.own rfl fc) ω rfl rfl rfl)<|aj ?_;refine tE rfl (bU (fun w g=>(SF.val (SF.own rfl fc) t default) w g 1 _ rfl) rfl rfl bB)<|aj ?_;refine lc rfl rfl jb ((fun w g=>fT ((fun w g=>fe _ _ _ w) w g))) ?_;refine aC ?_;refine aC ?_;refine aC ?_;rw[b5]
   cases al
   ·refine di (t:=66) (v':= .bool true) rfl (rfl)<|aj ?_;refine pJ rfl rfl rfl (.inr ha) ?_ hZ;refine aj ?_;refine aZ rfl<|aj ?_;intro w g;exact⟨by rw[X rfl],g.below⟩
   refine di (t:=66) (v':= .bool false) rfl (rfl)<|aj ?_;refine tE rfl (aW (k:=b) aA aM (SF.own rfl fc) ω rfl rfl rfl)<|aj ?_;refine tE rfl (bU (fun w g=>(SF.val (SF.own rfl fc) t default) w g 0 _ rfl) rfl rfl xw) ?_;refine aC ?_;refine aC ?_;rw[z];refine di (t:=73) (v':= .bool false) rfl (rfl)<|aj ?_;refine pJ rfl rfl rfl (.inr ha) ?_ hZ;refine aj ?_;refine bY rfl<|aj ?_;refine cJ (b+1) (⟨by show b+1<=_;omega,cf rfl⟩) (by show _ - _<_ - _;omega)
  have b5:bP ((x.L++x.K).getD b default).n=al:=by rw[<-bb];unfold fC;rw[if_neg (by rw[z];decide)]
  rw[z];refine di (t:=54) (v':= .bool false) rfl (rfl)<|aj ?_;refine pJ rfl rfl rfl (.inr ha) ?_ hZ;refine aj ?_;refine tE rfl (aW (k:=b) aA aM (SF.own rfl fc) ω rfl rfl rfl)<|aj ?_;refine tE rfl (bU (fun w g=>(SF.val (SF.own rfl fc) t default) w g 0 _ rfl) rfl rfl xw) ?_;refine aC ?_;refine aC ?_;rw[z];refine di (t:=73) (v':= .bool true) rfl (rfl)<|aj ?_;refine tE rfl (aW (k:=b) aA aM (SF.own rfl fc) ω rfl rfl rfl)<|aj ?_;refine tE rfl (bU (fun w g=>(SF.val (SF.own rfl fc) t default) w g 1 _ rfl) rfl rfl bB) ?_;refine lc rfl rfl VN ((fun w g=>fT ((fun w g=>nj _ w) w g)))<|aj ?_;rw[b5]
  cases al
  ·refine cN (t:=82) (v':= .bool true) rfl rfl<|aZ rfl<|aj ?_;intro w g;exact⟨by rw[X rfl],g.below⟩
  refine cN (t:=82) (v':= .bool false) rfl rfl<|bY rfl<|aj ?_;refine cJ (b+1) (⟨by show b+1<=_;omega,cf rfl⟩) (by show _ - _<_ - _;omega)
 obtain rfl:b=(x.L++x.K).length:=ω;rw[if_neg (Ff cr)] at l;refine aj ?_;refine de (fun b:Nat=>b<=x.L.length/\∀j,j<b->gJ (x.L.getD j default) (h.L.getD j 0)=true) (fun b=>x.L.length - b) (fun b=> [(2,ai (i:Int)),(3,af G),(4,af I),(7,af y),(8,af J),(11,ai (b:Int))]) (fun _=> [ak y [ai (r:Int),ai x.pc,ac O x.L.length U,ac R x.K.length V] 118,ak J [ai h.params,ac a0 h.L.length a3,ai h.result,ac a1 h.C.length a4] 84,ak I (ah a m) 43,ak G [ac C fs.length D] 24]) 0 (⟨aU _,fun _ k=>absurd k (gt _)⟩) ?_;rintro b a6;obtain⟨cj,ct⟩:b<=x.L.length/\∀j,j<b->gJ (x.L.getD j default) (h.L.getD j 0)=true:=a6;refine ax (fun a8=>?_) (fun a8=>?_)
 ·have t:b<x.L.length:=ω;have:=co (h.L.getD b 0) (cC (d:=0) ω);refine aj ?_;refine bh [0,3,6,9,12,15,18,21,24,27,32,33] [] rfl<|aj ?_;refine tE rfl (aW (k:=b) aA aM (.ro a7) ω rfl rfl rfl) ?_;refine tE rfl (eC (SF.val (SF.ro a7) t default) rfl rfl iX aM)<|aj ?_;refine tE rfl (aW (k:=b) ay bg (.ro bv) ω rfl rfl rfl) ?_;refine tE rfl (bU (SF.int (.ro bv) ω) rfl rfl bB) ?_;refine lc rfl rfl Tryz.call198 (fun w g=>BV (x.L.getD b default) (h.L.getD b 0) ω w)<|aj ?_;refine bO rfl (fun s=>?_) (fun s=>?_)
  ·have s:gJ (x.L.getD b default) (h.L.getD b 0)=false:=τ s;rw[if_pos (xr t s)] at l;subst l;refine aj ?_;intro w g;exact⟨rfl,g.below⟩
  have s:gJ (x.L.getD b default) (h.L.getD b 0)=true:=τ s;refine aj ?_;refine cJ (b+1) (⟨by show b+1<=_;omega,fun j ci=>(gH j b).elim (ct j) (fun k=>by obtain rfl:j=b:=(by omega);exact s)⟩) (by show _ - _<_ - _;omega)
 obtain rfl:b=x.L.length:=ω;rw[if_neg (by rw[nz.2 ct];decide)] at l;obtain⟨v,a9⟩:∃v,gh fs h x.pc=v:=⟨_,rfl⟩
 rw[a9] at q;refine aj ?_;refine et rfl Tryz.call199 (fun w g=>b3 x.pc v a9 w (g.ro N)) (fun⟨S,F⟩ _=>?_);refine aO ?_;refine iT (fun o:List Int×(Option Addr×Nat)=>bc=some o.1/\Ty o.1) (fun o=> [(7,af y),(12,ac o.2.1 o.1.length o.2.2)]) (fun o=> [kj (ac o.2.1 o.1.length o.2.2) o.1,ak y [ai (r:Int),ai x.pc,ac O x.L.length U,ac R x.K.length V] 118,ak J [ai h.params,ac a0 h.L.length a3,ai h.result,ac a1 h.C.length a4] 84,ak I (ah a m) 43,ak G [ac C fs.length D] 24]) ?_ ?_
 ·refine eI rfl (fun d0=>?_) (fun d0=>?_)
  ·have ch:i+1<m.F.length:=ω;obtain⟨d3,ep,d4,eq,_,_,e0,ca⟩:=Z.f.fr (k:=i+1) ch;obtain⟨E,cz⟩:∃f,(aN m.F (i+1)).func=f:=⟨_,rfl⟩
   have b6:=ce _ (fL ch);rw[cz] at b6 ca q;rw[if_neg ω] at q;obtain⟨a2,Y⟩:∃bp,iu h x.pc E=bp:=⟨_,rfl⟩
   have X:a2=false->bi=5:=fun e=>by
    rw[Y,e,if_pos rfl] at q;rw[<-q] at l;exact l.symm
   refine aj ?_;refine bd (t:=120) (v':= ai ((i+1:Nat):Int)) rfl (congrArg (Value.int .i64) ω) ?_;refine sE (aW (k:=i+1) cP dM (.ro Z.f) ω rfl rfl rfl)<|aj ?_;refine eK rfl (fun w g=>ca _ w g 0 _ rfl) ?_;refine aC ?_;refine bG<|cn<|cn<|bK<|aC ?_;refine dG (cT fc bB rfl rfl (by rfl)) rfl rfl ?_;refine aC ?_;refine aC ?_
   by_cases c2:x.pc<1
   ·have bs:a2=false:=by rw[<-Y];unfold iu;rw[show be x.pc 1 h.C.length=false from by rw[qK];exact fun k=>by have:=dJ.1 k;omega];rfl
    refine bd (t:=127) (v':= .bool true) rfl (congrArg Value.bool (decide_eq_true c2))<|aj ?_;refine aZ rfl<|aj ?_;intro w g;exact⟨by rw[X bs],g.below⟩
   refine bd (t:=127) (v':= .bool false) rfl (congrArg Value.bool (decide_eq_false c2))<|aC ?_;refine dG (cT fc bB rfl rfl (by rfl)) rfl rfl ?_;refine aC ?_;refine dG (cT fc rh rfl rfl (by rfl)) rfl rfl ?_;refine dG (lr eF rfl rfl) rfl rfl<|aC ?_;refine aC ?_;refine aC ?_
   by_cases c3:(h.C.length:Int)<x.pc
   ·have bs:a2=false:=by rw[<-Y];unfold iu;rw[show be x.pc 1 h.C.length=false from by rw[qK];exact fun k=>by have:=dJ.1 k;omega];rfl
    refine bd (t:=135) (v':= .bool true) rfl (congrArg Value.bool (decide_eq_true c3))<|aj ?_;refine aZ rfl<|aj ?_;intro w g;exact⟨by rw[X bs],g.below⟩
   obtain⟨ad,cl⟩:∃ad:Nat,x.pc - 1=ad:=⟨(x.pc - 1).toNat,ω⟩
   have dj:((bE h.C ad).c == 12 && (bE h.C ad).a == E)=a2:=by
    rw[<-Y];unfold iu;rw[dJ.2 ω,cl,bq,Bool.true_and];rfl
   refine bd (t:=135) (v':= .bool false) rfl (congrArg Value.bool (decide_eq_false c3))<|aj ?_;refine bd (t:=140) (v':= ai (ad:Int)) rfl (congrArg (Value.int .i64) cl)<|sE (aW (k:=ad) eF gK (.ro bm) ω rfl rfl rfl) ?_;refine sE (eC (cs:= [_,_]) (SF.op (.ro bm) ω) rfl rfl yW gK)<|aj ?_;refine sE (pN rfl rfl rfl (fun w=>T7 w _ _ _ _) (fun w=>SM _ _ _ _ w))<|aj ?_;rw[dj]
   cases a2
   ·refine cN (t:=146) (v':= .bool true) rfl rfl<|aZ rfl<|aj ?_;intro w g;exact⟨by rw[X rfl],g.below⟩
   refine cN (t:=146) (v':= .bool false) rfl rfl<|bY rfl<|aj ?_;rw[Y,if_neg κ] at q;obtain⟨bo,b1⟩:∃bo,gh fs h (x.pc - 1)=bo:=⟨_,rfl⟩
   rw[b1] at q;refine et rfl Tryz.call199 (fun w g=>b3 (x.pc - 1) bo b1 w (g.ro N)) (fun⟨d6,ev⟩ _=>?_);refine aO ?_
   cases bo with
   | none=>
    rw[if_pos (show (none:Option (List Int)).isSome=false from rfl)] at q;rw[<-q] at l;refine cN (t:=158) (v':= .bool true) rfl rfl<|aZ rfl<|aj ?_;intro w g;exact⟨by rw[<-l],g.below⟩
   | some c4=>
    rw[if_neg σ] at q;obtain⟨_,f,cx,b4⟩:=b9 Y b1;rw[a9] at cx;subst cx;obtain⟨M,b0⟩:∃M:Nat,E=M:=⟨E.toNat,ω⟩
    have cm:M<fs.length:=ω;obtain⟨d7,ex,d8,ez,_,_,eT,dV⟩:=N.fn cm;have:=(c0.res M cm).1;have bl:=hent _ _ a9;have q:some (if (ar fs M).result≠0 then f.dropLast else f)=bc:=by
     rw[<-q];unfold jY;rw[cz,b0,bq];rfl
    rw[b0,bq] at b4;refine cN (t:=158) (v':= .bool false) rfl rfl<|bY rfl<|aj ?_;refine bd (t:=161) (v':= ai (M:Int)) rfl (congrArg (Value.int .i64) b0)<|sE (aW (k:=M) eR fx (.ro N) ω rfl rfl rfl)<|aj ?_;refine eK rfl (fun w g=>dV _ w g 2 _ rfl)<|ax (fun z=>?_) (fun z=>?_)
    ·have z:0<(ar fs M).result:=z;rw[if_pos ω] at q;have b4:=b4 ω;have:((some f).getD []).length=f.length:=rfl;refine ei (p:=f.length<=140737488355328/\f.length<=F) (fun w g=>⟨bA (SF.at_ (SF.rd (xs:=f) (m:=f.length) (A:=S) (c:=F) rfl fc) g),(SF.at_ (SF.rd (xs:=f) (m:=f.length) (A:=S) (c:=F) rfl fc) g).cap⟩) fun⟨e8,e9⟩=>?_;refine aj ?_;refine bd (t:=169) (v':= ai ((f.length - 1:Nat):Int)) rfl (congrArg (Value.int .i64) ω) ?_;refine sE (sr (lo:=0) (hi:=f.length - 1) (k:=f.dropLast.length) ay bg ⟨ω,ω⟩ (by rw[List.length_dropLast];rfl) rfl rfl rfl rfl)<|aj ?_;refine kw (f.dropLast,(iq S 0 F 1,F - 0)) (⟨q.symm,fun d2 b6=>bl d2 (List.dropLast_subset f b6)⟩) (hh:=(fun w k=>(Py (k.msub (T:= [kj (ac S f.length F) f,ak y [ai (r:Int),ai x.pc,ac O x.L.length U,ac R x.K.length V] 118,ak J [ai h.params,ac a0 h.L.length a3,ai h.result,ac a1 h.C.length a4] 84,ak I (ah a m) 43,ak G [ac C fs.length D] 24]) ms)).msub ms))
    rw[if_neg ω] at q;refine aj ?_;refine bW (f,(S,F)) (⟨q.symm,bl⟩) (hh:=(fun w k=>k.msub ms))
  rw[if_pos ω] at q;subst q;refine aj ?_
  cases v with
  | none=>
   refine cN (t:=172) (v':= .bool true) rfl rfl<|aZ rfl<|aj ?_;intro w g;exact⟨by rw[<-l],g.below⟩
  | some f=>
   refine cN (t:=172) (v':= .bool false) rfl rfl<|bY rfl<|aj ?_;refine bW (f,(S,F)) (⟨rfl,hent _ _ a9⟩) (hh:=(fun w k=>k.msub ms))
 rintro⟨f,⟨b7,b8⟩⟩ b2;obtain⟨b2,bl⟩:bc=some f/\Ty f:=b2;subst b2;dsimp only at l;refine aO ?_;refine jg rfl (fun K=>?_) (fun K=>?_)
 ·have K:¬(f.length:Int)=x.K.length:=K;rw[if_pos (show f.length≠x.K.length from fun e=>K (by rw[e]))] at l;subst l;refine aj ?_;intro w g;exact⟨rfl,g.below⟩
 have K:(f.length:Int)=x.K.length:=K;have K:f.length=x.K.length:=ω;rw[if_neg (fun k=>k K)] at l;refine aj ?_;refine de (fun b:Nat=>b<=f.length/\∀j,j<b->gJ (x.K.getD j default) (f.getD j 0)=true) (fun b=>f.length - b) (fun b=> [(7,af y),(12,ac b7 f.length b8),(17,ai (b:Int))]) (fun _=> [kj (ac b7 f.length b8) f,ak y [ai (r:Int),ai x.pc,ac O x.L.length U,ac R x.K.length V] 118]) 0 (⟨aU _,fun _ k=>absurd k (gt _)⟩) ?_;rintro b a6;obtain⟨cj,cv⟩:b<=f.length/\∀j,j<b->gJ (x.K.getD j default) (f.getD j 0)=true:=a6;refine ax (fun a8=>?_) (fun a8=>?_)
 ·have t:b<f.length:=ω;have d1:b<x.K.length:=ω;refine aj ?_;refine bh [0,3,6,9,12,15,18,21,24,29,30] [] rfl<|aj ?_;refine tE rfl (aW (k:=b) aA aM (.ro ba) ω rfl rfl rfl) ?_;refine tE rfl (eC (SF.val (SF.ro ba) d1 default) rfl rfl iX aM)<|aj ?_;refine tE rfl (aW (k:=b) ay bg (SF.rd (xs:=f) rfl fc) ω rfl rfl rfl) ?_;refine tE rfl (bU (SF.int (SF.rd (xs:=f) rfl fc) ω) rfl rfl bB) ?_;refine lc rfl rfl Tryz.call198 (fun w g=>BV (x.K.getD b default) (f.getD b 0) (bl _ (cC (d:=0) t)) w)<|aj ?_;refine bO rfl (fun s=>?_) (fun s=>?_)
  ·have s:gJ (x.K.getD b default) (f.getD b 0)=false:=τ s;rw[if_pos (xr t s)] at l;subst l;refine aj ?_;intro w g;exact⟨rfl,g.below⟩
  have s:gJ (x.K.getD b default) (f.getD b 0)=true:=τ s;refine aj ?_;refine cJ (b+1) (⟨by show b+1<=_;omega,fun j ci=>(gH j b).elim (cv j) (fun k=>by obtain rfl:j=b:=(by omega);exact s)⟩) (by show _ - _<_ - _;omega)
 obtain rfl:b=f.length:=ω;rw[if_neg (by rw[nz.2 cv];decide)] at l;subst l;refine aj ?_;intro w g;exact⟨rfl,g.below⟩
end
