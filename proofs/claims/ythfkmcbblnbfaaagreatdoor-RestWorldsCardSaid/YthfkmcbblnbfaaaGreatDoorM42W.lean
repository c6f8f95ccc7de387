/- Lemmas of one proof. -/
import Derived.Test.YthfkmcbblnbfaaaGreatDoorM90W
import Derived.Test.YthfkmcbblnbfaaaGreatDoorM0W
import Derived.Test.YthfkmcbblnbfaaaGreatDoorM38W
import Derived.Test.YthfkmcbblnbfaaaGreatDoorM23W
import Derived.Test.YthfkmcbblnbfaaaGreatDoorM34W

namespace Go.Proofs.YthfkmcbblnbfaaaGreatDoor
set_option maxRecDepth 100000
set_option maxHeartbeats 16000000
open Go.RowKit
section
theorem nW (n a b:Int) (w:World):Calls Tryz.prog 181 #[ai n,ai a,ai b] w fun e w'=>e= .returned (.bool (br n a b))/\Below w.heap.size w w':=by
 refine enter Tryz.func181 rfl Tryz.ntmps181 rfl<|dh 10 (fun c=>?_) (fun c=>?_)
 ·refine aj ?_;intro w d;exact⟨aY (by unfold br;rw[c];rfl),d.below⟩
 refine aj ?_;intro w d;exact⟨aY (by unfold br;rw[c];rfl),d.below⟩
theorem LN (n:Nat) (f:n*16<=140737488355328) (w:World):Calls Tryz.prog 315 #[ac none 0 0,ai (n:Int)] w fun e w'=> ∃g:Option Addr×Nat,True/\e= .returned (ac g.1 0 g.2)/\Cw w.heap.size w [an (α:=aD) (ac g.1 0 g.2) []] w':=by
 refine enter Tryz.func315 rfl Tryz.ntmps315 rfl<|ax (fun b=>?_) (fun b=>?_)
 ·exact absurd b ω
 refine aj ?_;refine sE (K2 aA rfl rfl)<|aj ?_;refine cT (t:=1) (v':= ai (n:Int)) rfl (by congr 1) ?_;refine eK rfl (fun d=>?_) (fun d=>?_)
 ·refine aj ?_;refine sE (K2 aA rfl rfl) ?_;refine sE (iY (k:=0) aA aM (aH _) rfl rfl rfl)<|aj ?_;refine oE (Qd (α:=aD) (bytes:=16) aA vV dy rfl κ ω ω rfl rfl rfl) (fun⟨g,c⟩ _=>?_);refine aP ?_;refine sE (iY (k:=0) aA aM (aS _) rfl rfl rfl)<|aj ?_;intro w a;exact⟨(some ⟨g,0,none⟩,c),trivial,rfl,a⟩
 refine aj ?_;intro w a;exact⟨(none,0),trivial,rfl,Cw.nilO aD a⟩
theorem TW (v:aD) (t:Int):gM v t=((v.ref == !decide (t=1)) && ((!decide (t=3)) || decide (v.n=0))):=by
 unfold gM
 cases v.ref <;> by_cases a:t=1 <;> simp[a]
theorem HZ (v:aD) (t:Int) (w:World):Calls Tryz.prog 293 #[.agg #[.bool v.ref,ai v.n],ai t] w fun e w'=>e= .returned (.bool (gM v t))/\Below w.heap.size w w':=by
 have ha:=TW v t;generalize f:gM v t=g at ha;refine enter Tryz.func293 rfl Tryz.ntmps293 rfl<|aj ?_;refine fun d _=>aj ?_;refine sE (SG Tryz.underlying4 rfl rfl rfl)<|dh 10 (fun b=>?_) (fun b=>?_)
 ·rw[b,Bool.true_and] at ha;refine dh 13 (fun c=>?_) (fun c=>?_)
  ·rw[c,Bool.true_or] at ha;refine aj ?_;intro w a;exact⟨aY ha.symm,a.below⟩
  rw[c,Bool.false_or] at ha;refine aj ?_;intro w a;exact⟨aY ha.symm,a.below⟩
 rw[b,Bool.false_and] at ha;refine aj ?_;intro w a;exact⟨aY ha.symm,a.below⟩
section
variable {B:Nat} {w0:World} {H:List aO}
theorem JH (h:Nat) (a:MA) (m:av) (q:Value) (v:aD) (w:World) (b:Cw B w0 (ak h [ac a.Af m.F.length a.cf,ac a.Ab m.B.length a.cb,ac a.Ai m.I.length a.ci,ac a.Ao m.out.length a.co,ai m.S,ai m.T,q] 190::H) w) :
  Calls Tryz.prog 292 #[af h,.agg #[.bool v.ref,ai v.n]] w fun e w'=> ∃_:Unit,True/\e= .returned (ai (if fA m.B.length v=true then 0 else 3))/\Cw B w0 (ak h [ac a.Af m.F.length a.cf,ac a.Ab m.B.length a.cb,ac a.Ai m.I.length a.ci,ac a.Ao m.out.length a.co,ai m.S,ai m.T,q] 190::H) w':=by
 obtain⟨c,o⟩:∃c,fA m.B.length v=c:=⟨_,rfl⟩
 rw[o];obtain⟨s,g⟩:=v;refine bI Tryz.func292 rfl Tryz.ntmps292 rfl b<|aj ?_;refine fun r _=>aj ?_;refine bq [0,3,6,9,12,15,18,21,24,27,30,35,36,39,42,45,48,51,54,57,60,65,66,69,72] [] rfl<|aj ?_;refine pT (t:=7) rfl (fun f=>?_) (fun f=>?_)
 ·have p:br g 0 m.B.length=c:=by rw[<-o];unfold fA;rw[if_pos f]
  refine aj ?_;refine ls rfl rfl Gg (fun w b=>nW g 0 m.B.length w)<|aj ?_;rw[p];refine pT (t:=19) rfl (fun l=>?_) (fun l=>?_)
  ·have d:c=false:=ψ l;subst d;refine aj ?_;refine pU rfl rfl rfl (.inr ha) ?_ ia;refine aj ?_;refine be rfl<|aj ?_;intro w b;exact⟨(),trivial,rfl,b.msub ms⟩
  have d:c=true:=ψ l;subst d;refine aj ?_;refine pT (t:=23) rfl (fun j=>?_) (fun j=>?_)
  ·rw[f] at j
   cases j
  refine aj ?_;refine pU rfl rfl rfl (.inr ha) ?_ ia;refine aj ?_;refine cA rfl<|aj ?_;intro w b;exact⟨(),trivial,rfl,b.msub ms⟩
 have p:bT g=c:=by rw[<-o];unfold fA;rw[if_neg (by rw[f];decide)]
 refine aj ?_;refine pU rfl rfl rfl (.inr ha) ?_ ia;refine aj ?_;refine pT (t:=23) rfl (fun i=>?_) (fun i=>?_)
 ·refine aj ?_;refine ls rfl rfl T4 ((fun w b=>fY ((fun w b=>rT g w) w b)))<|aj ?_;rw[p];refine cc rfl (fun k=>?_) (fun k=>?_)
  ·have d:c=false:=ψ k;subst d;refine aj ?_;intro w b;exact⟨(),trivial,rfl,b.msub ms⟩
  have d:c=true:=ψ k;subst d;refine aj ?_;intro w b;exact⟨(),trivial,rfl,b.msub ms⟩
 rw[f] at i
 cases i
end
end
section
def hent (l:List iT) (k:Nat):iT:=l.getD k ⟨0,.slice none 0 0⟩
theorem SF.hent {B:Nat} {w0:World} {H:List aO} {A:Option Addr} {xs:List iT} {m c k:Nat} (hs:SF B w0 H A m c xs) (hk:k<m):∀w,Cw B w0 H w->∀j v,([.int .i64 (hent xs k).pc,(hent xs k).v]:List Value)[j]? =some v->w.cell? ⟨ab A,ao A+k*2+j,none⟩=some v:=fun w hw _ _ hv=>SF.cell hs hk _ hv w hw
theorem Ou (g:Nat) (pc q:Int) (v:Value) (w:World) (c:g<w.heap.size) (b:w.cell? ⟨g,0,none⟩=some (ai pc)) :
  Calls Tryz.prog 323 #[.agg #[ai q,v],af g] w fun e w'=>e= .returned (.bool (decide (q=pc)))/\Below w.heap.size w w':=by
 refine enter Tryz.func323 rfl Tryz.ntmps323 rfl<|aj ?_;refine fun d _=>aj ?_;refine ef rfl (fun w' a=>(a.below.cell c).trans b)<|aj ?_;intro w a;exact⟨rfl,a.below⟩
theorem Qz (A:Option Addr) (c:Nat) (a:List iT) (g:Nat) (pc:Int) (w:World) (k:Sl w (ac A a.length c) a) (p:g<w.heap.size) (q:w.cell? ⟨g,0,none⟩=some (ai pc)) :
  Calls Tryz.prog 322 #[ac A a.length c,.func (.func 323) #[] #[af g]] w fun e w'=> ∃r:Int,((r= -1/\∀i,i<a.length->(hent a i).pc≠pc)\/∃i:Nat,r=i/\i<a.length/\(hent a i).pc=pc/\∀j,j<i->(hent a j).pc≠pc)/\e= .returned (ai r)/\Cw w.heap.size w [] w':=by
 have:=bx k;refine enter Tryz.func322 rfl Tryz.ntmps322 rfl<|aj ?_;refine cZ (fun b:Nat=>b<=a.length/\∀j,j<b->(hent a j).pc≠pc) (fun b=>a.length - b) (fun b=> [(0,ac A a.length c),(1,.func (.func 323) #[] #[af g]),(7,ai (a.length:Int)),(8,ai (b:Int))]) (fun _=> []) 0 (⟨aS _,fun _ l=>absurd l (gu _)⟩) ?_;rintro b s;obtain⟨y,f⟩:b<=a.length/\∀j,j<b->(hent a j).pc≠pc:=s;refine ax (fun t=>?_) (fun t=>?_)
 ·have o:b<a.length:=ω;refine aj ?_;refine cP _ rfl (.ro k) ?_;refine iC rfl (SF.hent (SF.ro k) o) ?_;refine oE (lG rfl rfl rfl Tryz.call323 (fun w d=>Ou g pc _ _ w (Nat.lt_of_lt_of_le p d.le) ((d.below.cell p).trans q))) (fun _ _=>ax (fun h=>?_) (fun h=>?_))
  ·refine aj ?_;intro w d;exact⟨(b:Int),.inr ⟨b,rfl,o,h,f⟩,rfl,d⟩
  refine aj ?_;refine cG (b+1) (⟨by show b+1<=_;omega,fun j v=>(gL j b).elim (f j) (fun l=>by obtain rfl:j=b:=(by omega);exact h)⟩) (by show _ - _<_ - _;omega)
 obtain rfl:b=a.length:=ω;refine aj ?_;intro w d;exact⟨-1,.inl ⟨rfl,f⟩,rfl,d⟩
section
variable {B:Nat} {w0:World} {H:List aO}
theorem yS {L:List (Value×List Int)} {v:Value} {xs:List Int} {w:World} (hi:lR L v xs) (h:Cw B w0 (gO L::H) w):Cw B w0 (ny v xs::H) w:=by
 rcases hi with ⟨rfl,rfl⟩ | hi
 ·exact h.upd fun d g _=>⟨fun _=>False,⟨fun _ h=>h.elim,fun _ _=>Sl.nil_⟩,rfl,rfl,rfl,aH _,fun _ _ _=>rfl,fun c a=>a.elim⟩
 refine h.upd fun d g _=>?_;obtain⟨e,b,i⟩:=Hs.mem (kz (f:=BF) hi) (show Hs w _ d from g);have b:da w e v xs:=b;exact⟨e,⟨fun c a=>b.lt a,fun k j=>da.sl (b.frame j)⟩,rfl,rfl,rfl,aH _,fun _ _ _=>rfl,fun c a=> .inl (i c a)⟩
theorem PV {A:Option Addr} {m c k:Nat} {xs:List Int} {w:World} (e:k<=m) (h:Cw B w0 (ny (ac A m c) xs::H) w):Cw B w0 (ny (ac A k c) (xs.take k)::H) w:=by
 refine h.upd fun b a _=>⟨b,⟨a.1,fun g f=>?_⟩,rfl,rfl,rfl,aH _,fun _ _ _=>rfl,fun i d=> .inl d⟩
 have:=(a.2 g f).cut 0 k (aS _) e;rw[Fv,vE,vE,qt] at this;exact this
theorem sa {w:World} (h:Cw B w0 H w):Cw B w0 (ny (ac none 0 0) ([]:List Int)::H) w:=yS lR.nil_ (mh h)
end
theorem Ih {xs:List la} {pc:Int} {i:Nat} (hi:i<xs.length) (b:xs[i].pc=pc) (h2:∀a (_:a<i) (h:a<xs.length),xs[a].pc≠pc):(xs.find? fun e=>decide (e.pc=pc))=some xs[i]:=by
 induction xs generalizing i with
 | nil=>simp at hi
 | cons x xs d=>
  cases i with
  | zero=>rw[List.find?_cons_of_pos (ψ b)];rfl
  | succ i=>
   rw[List.find?_cons_of_neg (by have c:=h2 0 ω σ;rw[List.getElem_cons_zero] at c;simpa using c)];exact d (ψ hi) b fun a f h=>h2 (a+1) ω (ψ h)
theorem Ig {xs:List la} {pc:Int} (h2:∀a (h:a<xs.length),xs[a].pc≠pc):(xs.find? fun e=>decide (e.pc=pc))=none:=by
 rw[List.find?_eq_none];intro e b;obtain⟨a,c,rfl⟩:=cC b;simpa using h2 a c
theorem oU {a:List iT} {i:Nat} (h:i<a.length):hent a i=a[i]:=by
 unfold hent;rw[ap,aq h];rfl
theorem C0 (o:Option Addr) (p:Nat) (fs:List aw) (k:Nat) (pc:Int) (q:Option (List Int)) (v:gh fs (au fs k) pc=q) (w:World) (R:Sl w (ac o fs.length p) fs) (K:k<fs.length) (N:nR fs (au fs k)) (L:0<(au fs k).C.length) :
  Calls Tryz.prog 316 #[.agg #[ac o fs.length p],ai (k:Int),ai pc] w fun e w'=> ∃g:Option Addr×Nat,True/\e= .returned (.tuple #[ac g.1 (q.getD []).length g.2,.bool q.isSome])/\
   Cw w.heap.size w [ny (ac g.1 (q.getD []).length g.2) (q.getD [])] w':=by
 refine enter Tryz.func316 rfl Tryz.ntmps316 rfl<|aj ?_;refine fun U _=>aj ?_;refine fun G _=>aj ?_;refine eu rfl V6 (fun w a=>tv o p fs k w (a.ro R) K N L) (fun⟨⟨z,C⟩,d,t⟩ h=>?_);refine aP ?_;refine eu rfl Tryz.call322 (fun w a=>Qz z C d G pc w (SF.at_ (SF.own rfl fc) a) (nv a fc) (gt fc rfl w a)) (fun S y=>aj ?_);have h:oH d t (cM fs (au fs k)).1:=h;have:=h.len;refine eK rfl (fun I=>?_) (fun I=>?_)
 ·have s:q=none:=by
   rcases y with ⟨_,i⟩ | ⟨b,i,_⟩
   ·rw[<-v];unfold gh;rw[Ig (fun c r=>by
     have f:c<d.length:=ω;have:=i c f;rw[oU f,(h.el c f r).1] at this;exact this)]
    rfl
   omega
  subst s;refine aj ?_;intro w a;exact⟨(none,0),trivial,rfl,(sa a).msub ms⟩
 obtain⟨b,J,l,O,M⟩:∃b:Nat,S=b/\b<d.length/\(hent d b).pc=pc/\∀c,c<b->(hent d c).pc≠pc:=y.elim (fun i=>ω) id;subst J;have u:b<(cM fs (au fs k)).1.length:=ω;obtain⟨E,j⟩:=h.el b l u;have s:q=some (cM fs (au fs k)).1[b].K:=by
  rw[<-v];unfold gh;rw[Ih u (by rw[<-E,<-oU l];exact O) (fun c r i=>by
   have f:c<d.length:=ω;have:=M c r;rw[oU f,(h.el c f i).1] at this;exact this)]
  rfl
 subst s;rw[<-oU l] at j;refine aj ?_;refine cP b rfl ((SF.own (xs:=d) rfl fc))<|aj ?_;refine ef rfl (fun w a=>SF.hent (SF.own (xs:=d) rfl fc) l w a 1 _ rfl)<|aj ?_;intro w a;obtain⟨A,D,F⟩:=j.form a fc;rw[F] at j⊢;exact⟨(A,D),trivial,rfl,(yS j (a.msub (T:=gO t:: []) ms)).msub ms⟩
end
section
theorem GV {fs:List aw} (l:fP fs) {k:Nat} (o:k<fs.length) {pc to_:Int} {q t:List Int} (c:iu (au fs k) pc to_=true) (i:gh fs (au fs k) (pc - 1)=some q) (j:gh fs (au fs k) pc=some t) (p:(au fs to_.toNat).result≠0):1<=t.length:=by
 unfold iu at c;simp only[dC,decide_eq_true_eq] at c;obtain⟨_,d,f⟩:=c;obtain⟨_,_,_,_,y,h,g⟩:=(l.e _ o).at_ _ _ i;generalize bH (au fs k).C (pc - 1).toNat=u at d f h g;obtain⟨v,b,a⟩:=g pc (by simp[dX,d]);rw[j] at b;have b:=fC b;subst b;obtain⟨r,s,e,_,_,_,rfl⟩:=kv.1 h;simp[tl,d] at e;obtain⟨rfl,rfl⟩:=e;rw[f] at a;unfold bV at a;rw[if_neg p] at a;have:=(xF a).2.1;omega
theorem tg {f:aw} {pc to_:Int} :iu f pc to_=(br pc 1 f.C.length && (decide ((bH f.C (pc - 1).toNat).c=12) && decide ((bH f.C (pc - 1).toNat).a=to_))):=rfl
section
variable {B:Nat} {w0:World} {H:List aO}
theorem Md (I:Nat) (a:MA) (m:av) (z:Option Addr) (A:Nat) (fs:List aw) (u:bO w0 B (ac z fs.length A) fs) (G:fV B w0 a m) (O:fP fs) (i:Nat) (hi:i<m.F.length) (X:∀x∈m.F,0<=x.func/\x.func<fs.length) (q:Option (List Int)) (d:iX fs m.F i=q) (w:World) (b:Cw B w0 (ak I [ac a.Af m.F.length a.cf,ac a.Ab m.B.length a.cb,ac a.Ai m.I.length a.ci,ac a.Ao m.out.length a.co,ai m.S,ai m.T,ac z fs.length A] 190::H) w) :
  Calls Tryz.prog 294 #[af I,ai (i:Int)] w fun e w'=> ∃g:Option Addr×Nat,True/\e= .returned (.tuple #[ac g.1 (q.getD []).length g.2,.bool q.isSome])/\Cw B w0 (ny (ac g.1 (q.getD []).length g.2) (q.getD [])::ak I [ac a.Af m.F.length a.cf,ac a.Ab m.B.length a.cb,ac a.Ai m.I.length a.ci,ac a.Ao m.out.length a.co,ai m.S,ai m.T,ac z fs.length A] 190::H) w':=by
 have:=bx G.f;have:=bx u;obtain⟨a9,bv,ba,bw,cd,ch,a3,V⟩:=G.f.fr hi;have:=X _ (fJ hi);obtain⟨f,Z⟩:∃f:Nat,(aQ m.F i).func=f:=⟨(aQ m.F i).func.toNat,ω⟩
 have C:f<fs.length:=ω;obtain⟨am,al⟩:=kb O.p C;obtain⟨bg,b3,bi,b4,b8,F,b7,a4⟩:=u.fn C;have:=bx F;have a5:kh fs m.F i=au fs f:=by unfold kh;rw[Z,bu]
 obtain⟨h,S⟩:∃h,(aQ m.F i).pc=h:=⟨_,rfl⟩
 unfold iX at d;rw[a5,S] at d;rw[Z,S] at V;rw[S] at a3;obtain⟨D,K⟩:∃D,gh fs (au fs f) h=D:=⟨_,rfl⟩
 rw[K] at d;refine bI Tryz.func294 rfl Tryz.ntmps294 rfl b<|aj ?_;refine cP i rfl (.ro G.f) ?_;refine iC rfl (V _)<|aj ?_;refine fun b5 _=>aj ?_;refine bq [0,3,6,9,12,15,18,21,26,27,30,33,36,39] [] rfl<|aj ?_;refine jc rfl rfl Tryz.call316 (fun w b=>C0 z A fs f h D K w (b.ro u) C am al) (fun⟨l,o⟩ _=>?_);refine aP ?_;refine eK rfl (fun a2=>?_) (fun a2=>?_)
 ·rw[if_pos (show i+1=m.F.length by omega)] at d;subst d;refine aj ?_;intro w b;exact⟨(l,o),trivial,rfl,b.msub ms⟩
 rw[if_neg (show¬i+1=m.F.length by omega)] at d;have Y:i+1<m.F.length:=ω;obtain⟨bb,b0,bc,b1,ce,ci,b6,W⟩:=G.f.fr Y;have:=X _ (fJ Y);obtain⟨j,R⟩:∃j:Nat,(aQ m.F (i+1)).func=j:=⟨(aQ m.F (i+1)).func.toNat,ω⟩
 have a8:j<fs.length:=ω;have a6:kh fs m.F (i+1)=au fs j:=by unfold kh;rw[R,bu]
 rw[R] at W;rw[a6,R] at d;refine aj ?_;refine cP ((i+1)) rfl (.ro G.f)<|aj ?_;refine ef rfl (fun w b=>W _ w b 0 _ rfl)<|aj ?_;refine bq [0,3,6,9,12,15,18,21,24,27,30] [] rfl<|aj ?_;refine tE rfl (aX (k:=f) ff fw (.ro u) ω rfl rfl rfl)<|aj ?_;refine tE rfl (bY (fun w b=>a4 _ w b 3 _ rfl) rfl rfl rF)<|aj ?_;refine cO rfl Gg (fun w b=>nW h 1 (au fs f).C.length w)<|dh 70 (fun M=>?_) (fun M=>?_)
 ·have s:iu (au fs f) h j=false:=by
   rw[tg,show br h 1 (au fs f).C.length=false from by simpa using M];rfl
  rw[if_pos s] at d;subst d;refine aj ?_;refine be rfl<|aj ?_;intro w b;exact⟨(none,0),trivial,rfl,(sa b).msub ms⟩
 have a0:br h 1 (au fs f).C.length=true:=ψ M;have:=dL.1 a0;refine aj ?_;refine va rfl (.ro F)<|aj ?_;refine ef rfl (SF.opc (.ro F) ω)<|dh 80 (fun t=>?_) (fun t=>?_)
 ·have s:iu (au fs f) h j=false:=by
   have t:decide ((bH (au fs f).C (h - 1).toNat).c=12)=false:=ψ t;rw[tg,t];simp
  rw[if_pos s] at d;subst d;refine aj ?_;refine be rfl<|aj ?_;intro w b;exact⟨(none,0),trivial,rfl,(sa b).msub ms⟩
 have t:decide ((bH (au fs f).C (h - 1).toNat).c=12)=true:=ψ t;refine aj ?_;refine va rfl (.ro F)<|aj ?_;refine ef rfl (SF.opa (.ro F) ω)<|cU (fun N=>?_) (fun N=>?_)
 ·have s:iu (au fs f) h j=false:=by
   rw[tg,decide_eq_false (p:=(bH (au fs f).C (h - 1).toNat).a=j) N];simp
  rw[if_pos s] at d;subst d;refine aj ?_;intro w b;exact⟨(none,0),trivial,rfl,(sa b).msub ms⟩
 have s:iu (au fs f) h j=true:=by
  rw[tg,a0,t,decide_eq_true (p:=(bH (au fs f).C (h - 1).toNat).a=j) N];rfl
 rw[if_neg (by rw[s];decide)] at d;obtain⟨y,U⟩:∃y,gh fs (au fs f) (h - 1)=y:=⟨_,rfl⟩
 rw[U] at d;refine aj ?_;refine bq [0,3,6,9,12,15,18,21,24,29,30,33,36,39,42] [] rfl<|aj ?_;refine jc rfl rfl Tryz.call316 (fun w b=>C0 z A fs f (h - 1) y U w (b.ro u) C am al) (fun⟨bf,b2⟩ _=>?_);refine aP ?_;refine jf (t:=106) rfl (fun r=>?_) (fun r=>?_)
 ·have r:y.isSome=false:=ψ r;rw[if_pos r] at d;subst d;refine aj ?_;refine be rfl<|aj ?_;intro w b;exact⟨(none,0),trivial,rfl,(sa b).msub ms⟩
 have r:y.isSome=true:=ψ r;rw[if_neg (by rw[r];decide)] at d;refine aj ?_;refine cc rfl (fun E=>?_) (fun E=>?_)
 ·have E:D=none:=ψ E;subst E;have d:none=q:=d;subst d;refine aj ?_;intro w b;exact⟨(none,0),trivial,rfl,(sa b).msub ms⟩
 obtain⟨c,rfl⟩:∃c,D=some c:=by cases D with
  | none=>simp at E
  | some c=>exact⟨c,rfl⟩
 obtain⟨L,rfl⟩:∃L,y=some L:=by cases y with
  | none=>simp at r
  | some L=>exact⟨L,rfl⟩
 obtain⟨bk,bm,bl,bn,cb,b9,ca,a7⟩:=u.fn a8;have d:some (if (au fs j).result≠0 then c.dropLast else c)=q:=d;subst d;refine aj ?_;refine cP j rfl (.ro u)<|aj ?_;refine ef rfl (fun w b=>a7 _ w b 2 _ rfl)<|cU (fun J=>?_) (fun J=>?_)
 ·have:=GV O C s U K (by rw[bu];exact J);rw[if_pos J,vH];refine ek (fun w b=>(b.rdSl (v:= ac l c.length o) (xs:=c) fc).form) ?_;rintro⟨_,_,e,cf,_⟩;injection e with _ _ e
  have:=((O.e _ C).at_ _ _ K).2.2.1;refine cT (t:=7) (v':= ac l c.length o) rfl (rfl)<|aj ?_;refine bj (t:=123) (v':= ai ((c.length - 1:Nat):Int)) rfl (by show Value.int _ ((c.length:Int) - 1)=_;congr 1;omega) ?_;refine sE (iY (k:=c.length - 1) az aZ ω rfl rfl rfl)<|aj ?_;intro w b;have ad:(c.take (c.length - 1)).length=c.length - 1:=by rw[aB];omega
  refine⟨(l,o),trivial,by show _=Ending.returned (.tuple #[ac l (c.take (c.length - 1)).length o,.bool true]);rw[ad],?_⟩;show Cw B w0 (ny (ac l (c.take (c.length - 1)).length o) (c.take (c.length - 1))::_::H) w;rw[ad];exact(PV (k:=c.length - 1) ω (b.msub (T:=ny (ac l c.length o) c::ak I [ac a.Af m.F.length a.cf,ac a.Ab m.B.length a.cb,ac a.Ai m.I.length a.ci,ac a.Ao m.out.length a.co,ai m.S,ai m.T,ac z fs.length A] 190::H) ms)).msub ms
 rw[if_neg (fun a1=>a1 J)];refine aj ?_;intro w b;exact⟨(l,o),trivial,rfl,b.msub ms⟩
end
end
section
theorem CX {α:Type} {L:List (List α)} {k:Nat} (a:k<L.length):(L.take (k+1)).flatten=(L.take k).flatten++L.getD k []:=by
 rw[eF L k [] a,List.flatten_append];simp
theorem GE {α:Type} (L:List (List α)) (k:Nat):(L.take k).flatten.length<=L.flatten.length:=by
 rw[<-congrArg List.length (congrArg List.flatten (ji k L)),List.flatten_append,ar];omega
theorem JJ (g n:Nat) (f:Nat->Option Addr×Nat) (L:List (List aD)) (C:L.length=n) (w:World) (p:g<w.heap.size) (l:∀k,k<n->w.cell? ⟨g,0+k*1,none⟩=some (.slice (f k).1 (L.getD k []).length (f k).2))
  (D:∀k,k<n->Sl w (.slice (f k).1 (L.getD k []).length (f k).2) (L.getD k [])) (y:L.flatten.length*16<=140737488355328) (G:n<=1000) :
  Calls Tryz.prog 291 #[ac (some ⟨g,0,none⟩) n n] w fun e w'=> ∃u,e= .returned u/\Below w.heap.size w w'/\eU w' w.heap.size u L.flatten:=by
 subst C;have o:=GE L;refine enter Tryz.func291 rfl Tryz.ntmps291 rfl<|aj ?_;refine cZ (fun k:Nat=>k<=L.length) (fun k=>L.length - k) (fun k=> [(0,ac (some ⟨g,0,none⟩) L.length L.length),(3,ai ((L.take k).flatten.length:Int)),(9,ac (some ⟨g,0,none⟩) L.length L.length),(10,ai (L.length:Int)),(11,ai (k:Int))]) (fun _=> []) 0 (aS _) ?_;rintro k d;have d:k<=L.length:=d;refine ax (fun i=>?_) (fun i=>?_)
 ·have b:k<L.length:=ω;have h:=congrArg List.length (CX (L:=L) (k:=k) ω);rw[ar] at h;have z:=o (k+1);refine aj ?_;refine sE (jG (k:=k) oX fy rfl b rfl rfl rfl) ?_;refine ef rfl (fun w' c=>(c.below.cell p).trans (l k b))<|ax (fun j=>?_) (fun j=>?_)
  ·exact absurd j ω
  refine cT (t:=3) (v':= ai ((L.take (k+1)).flatten.length:Int)) rfl (by congr 1;omega)<|aj ?_;refine cG (k+1) (by show k+1<=_;omega) (by show _ - _<_ - _;omega)
 obtain rfl:k=L.length:=ω;rw[aR];refine aj ?_;refine eu rfl Tryz.call315 (fun w c=>LN L.flatten.length y w) (fun⟨q,s⟩ _=>?_);refine aP ?_;refine cZ (fun g:Nat×Option Addr×Nat=>g.1<=L.length) (fun g=>L.length - g.1) (fun a=> [(6,ac a.2.1 (L.take a.1).flatten.length a.2.2),(25,ac (some ⟨g,0,none⟩) L.length L.length),(26,ai (L.length:Int)),(27,ai (a.1:Int))]) (fun a=> [an (ac a.2.1 (L.take a.1).flatten.length a.2.2) (L.take a.1).flatten]) (0,q,s) (aS _) ?_;rintro⟨k,E,F⟩ d
 try dsimp only
 have d:k<=L.length:=d;refine ax (fun i=>?_) (fun i=>?_)
 ·have b:k<L.length:=ω;have h:=CX (L:=L) (k:=k) ω;have A:=congrArg List.length h;rw[ar] at A;have z:=o (k+1);refine aj ?_;refine sE (jG (k:=k) oX fy rfl b rfl rfl rfl) ?_;refine ef rfl (fun w' c=>(c.below.cell p).trans (l k b))<|aj ?_;refine oE (dv (α:=aD) (bytes:=16) (xs:=(L.take k).flatten) (ys:=L.getD k []) h aA (aU dy) rfl fc (.ro (D k b)) ω ω rfl rfl rfl) (fun⟨r,v⟩ _=>?_);refine aP ?_;refine cG (k+1,r,v) (by show k+1<=_;omega) (by show _ - _<_ - _;omega)
 obtain rfl:k=L.length:=ω;rw[aR];refine aj ?_;intro w c;exact⟨_,rfl,mD c⟩
end
section
theorem Iz {nb:Nat} {l:List aD} {k:Nat} (a:k<l.length) (h:fA nb (l.getD k default)=false):l.any (fun v=>!fA nb v)=true:=de.2 ⟨_,cL a,by rw[h];rfl⟩
theorem FU {nb:Nat} {l:List aD} (h:∀j,j<l.length->fA nb (l.getD j default)=true):¬l.any (fun v=>!fA nb v)=true:=fun ha=>by
 obtain⟨v,c,a⟩:=de.1 ha;obtain⟨j,b,rfl⟩:=cC c;have:=h j b;rw[ap,aq b,sF] at this;rw[this] at a
 cases a
theorem xM {s:List aD} {t:List Int} {n k:Nat} (a:k<n) (h:gM (s.getD k default) (t.getD k 0)=false):Iw s t n=false:=by
 cases e:Iw s t n with
 | false=>rfl
 | true=>rw[nM.1 e k a] at h;cases h
section
variable {B:Nat} {w0:World} {H:List aO}
theorem Be (o:Nat) (a:MA) (m:av) (q:Option Addr) (r:Nat) (fs:List aw) (N:bO w0 B (ac q fs.length r) fs) (M:fV B w0 a m) (a0:fP fs) (bn:pF m.F) (i:Nat) (hi:i<m.F.length) (a4:∀x∈m.F,0<=x.func/\x.func<fs.length) (ad:Int) (g:gB fs m.B.length m.F i=ad) (w:World) (d:Cw B w0 (ak o [ac a.Af m.F.length a.cf,ac a.Ab m.B.length a.cb,ac a.Ai m.I.length a.ci,ac a.Ao m.out.length a.co,ai m.S,ai m.T,ac q fs.length r] 190::H) w) :
  Calls Tryz.prog 238 #[af o,ai (i:Int)] w fun e w'=> ∃_:Unit,True/\e= .returned (ai ad)/\Cw B w0 (ak o [ac a.Af m.F.length a.cf,ac a.Ab m.B.length a.cb,ac a.Ai m.I.length a.ci,ac a.Ao m.out.length a.co,ai m.S,ai m.T,ac q fs.length r] 190::H) w':=by
 have:=bx M.f;have:=bx N;obtain⟨u,y,v,z,E,I,bf,U⟩:=M.f.fr hi;obtain⟨bg,bi⟩:=bn.2 (aQ m.F i) (fJ hi);have:=a4 _ (fJ hi);obtain⟨l,a6⟩:∃l:Nat,(aQ m.F i).func=l:=⟨(aQ m.F i).func.toNat,ω⟩
 have W:l<fs.length:=ω;obtain⟨bs,bp⟩:=kb a0.p W;obtain⟨O,S,R,T,V,bk,bm,a2⟩:=N.fn W;have bo:(au fs l).L.length<=6:=(bs.op 0 bp).par l W |>.2;have bl:kh fs m.F i=au fs l:=by unfold kh;rw[a6,bu]
 unfold gB at g;rw[bl] at g;rw[a6] at U;obtain⟨t,ba⟩:∃t,iX fs m.F i=t:=⟨_,rfl⟩
 rw[ba] at g;generalize au fs l=h at g V bk bm a2 bo;generalize aQ m.F i=x at g E I bf U bg bi;have:=bx E;have:=bx I;refine bI Tryz.func238 rfl Tryz.ntmps238 rfl d<|aj ?_;refine cP i rfl (.ro M.f) ?_;refine iC rfl (U _)<|aj ?_;refine fun A _=>aj ?_;refine bq [0,3,6,9,12,15,18,21,24,29,32] [10] rfl<|aj ?_;refine tE rfl (aX (k:=l) ff fw (.ro N) ω rfl rfl rfl) ?_;refine tE rfl (eC (a2 _) rfl rfl zv fw)<|aj ?_;refine fun C _=>cU (fun K=>?_) (fun K=>?_)
 ·rw[if_pos (show x.L.length≠h.L.length from fun e=>K (by rw[e]))] at g;subst g;refine aj ?_;intro w d;exact⟨(),trivial,rfl,d.msub ms⟩
 have K:x.L.length=h.L.length:=ω;rw[if_neg (fun f=>f K)] at g;have a1: [x.L,x.K].flatten.length*16<=140737488355328:=by simp only[List.flatten_cons,List.flatten_nil,ar,aE];omega
 refine aj ?_;intro bc _;refine oE (fl rfl rfl rfl Tryz.call291 (fun w d=>JJ bc 2 (fun b=>if b=0 then (u,y) else (v,z)) [x.L,x.K] rfl w (nv d fc) (fun b L=>by rcases(show b=0\/b=1 by omega) with rfl | rfl;exact gt fc rfl w d;exact gt fc rfl w d) (fun b L=>by rcases(show b=0\/b=1 by omega) with rfl | rfl;exact d.ro E;exact d.ro I) a1 κ)) (fun⟨Y,al⟩ _=>?_);refine aP ?_;have a3: [x.L,x.K].flatten=x.L++x.K:=σ;rw[a3];rw[a3] at a1;refine cZ (fun b:Nat=>b<=(x.L++x.K).length/\∀c,c<b->fA m.B.length ((x.L++x.K).getD c default)=true) (fun b=>(x.L++x.K).length - b) (fun b=> [(0,af o),(1,ai (i:Int)),(5,af A),(6,af C),(45,ac Y (x.L++x.K).length al),(46,ai ((x.L++x.K).length:Int)),(47,ai (b:Int))]) (fun _=>ag Y al (x.L++x.K)::ak A [ai (l:Int),ai x.pc,ac u x.L.length y,ac v x.K.length z] 118::ak C [ai h.params,ac O h.L.length S,ai h.result,ac R h.C.length T] 84::ak o [ac a.Af m.F.length a.cf,ac a.Ab m.B.length a.cb,ac a.Ai m.I.length a.ci,ac a.Ao m.out.length a.co,ai m.S,ai m.T,ac q fs.length r] 190::H) 0 (⟨aS _,fun _ f=>absurd f (gu _)⟩) ?_ (hh:=(fun w f=>f.msub ms));rintro b D;obtain⟨L,a7⟩:b<=(x.L++x.K).length/\∀c,c<b->fA m.B.length ((x.L++x.K).getD c default)=true:=D;refine ax (fun F=>?_) (fun F=>?_)
 ·have s:b<(x.L++x.K).length:=ω;refine aj ?_;refine cP _ rfl (SF.own rfl fc) ?_;refine iC rfl (SF.val (SF.own rfl fc) s default)<|aj ?_;refine fun b3 _=>aj ?_;refine du rfl Tryz.call292 (fun w d=>JH o a m (ac q fs.length r) ((x.L++x.K).getD b default) w (d.msub (.s fc .r))) (fun _ _=>aj ?_);obtain⟨bv,X⟩:∃bb,fA m.B.length ((x.L++x.K).getD b default)=bb:=⟨_,rfl⟩
  rw[X]
  cases bv
  ·rw[if_pos (Iz s X)] at g;subst g;rw[if_neg κ];refine jP rfl (fun J=>?_) (fun J=>?_)
   ·refine aj ?_;intro w d;exact⟨(),trivial,rfl,d.msub ms⟩
   exact absurd J κ
  rw[if_pos rfl];refine jP rfl (fun J=>?_) (fun J=>?_)
  ·exact absurd rfl J
  refine aj ?_;refine cG (b+1) (⟨by show b+1<=_;omega,fun c a5=>(gL c b).elim (a7 c) (fun f=>by obtain rfl:c=b:=(by omega);exact X)⟩) (by show _ - _<_ - _;omega) (hh:=(fun w f=>f.msub ms))
 obtain rfl:b=(x.L++x.K).length:=ω;rw[if_neg (FU a7)] at g;refine aj ?_;refine cZ (fun b:Nat=>b<=x.L.length/\∀c,c<b->gM (x.L.getD c default) (h.L.getD c 0)=true) (fun b=>x.L.length - b) (fun b=> [(0,af o),(1,ai (i:Int)),(5,af A),(6,af C),(59,ac u x.L.length y),(60,ai (x.L.length:Int)),(61,ai (b:Int))]) (fun _=>ak A [ai (l:Int),ai x.pc,ac u x.L.length y,ac v x.K.length z] 118::ak C [ai h.params,ac O h.L.length S,ai h.result,ac R h.C.length T] 84::ak o [ac a.Af m.F.length a.cf,ac a.Ab m.B.length a.cb,ac a.Ai m.I.length a.ci,ac a.Ao m.out.length a.co,ai m.S,ai m.T,ac q fs.length r] 190::H) 0 (⟨aS _,fun _ f=>absurd f (gu _)⟩) ?_ (hh:=(fun w f=>f.msub ms));rintro b D;obtain⟨L,a8⟩:b<=x.L.length/\∀c,c<b->gM (x.L.getD c default) (h.L.getD c 0)=true:=D;refine ax (fun F=>?_) (fun F=>?_)
 ·have s:b<x.L.length:=ω;refine aj ?_;refine cP _ rfl (.ro E) ?_;refine iC rfl (SF.val (SF.ro E) s default)<|aj ?_;refine fun b4 _=>aj ?_;refine bq [0,3,6,9,12,15,20,21] [] rfl<|aj ?_;refine tE rfl (aX (k:=b) az aZ (.ro V) ω rfl rfl rfl) ?_;refine tE rfl (bY (SF.int (.ro V) ω) rfl rfl bF) ?_;refine ls rfl rfl Tryz.call293 (fun w d=>HZ (x.L.getD b default) (h.L.getD b 0) w)<|aj ?_;refine cc rfl (fun k=>?_) (fun k=>?_)
  ·have k:gM (x.L.getD b default) (h.L.getD b 0)=false:=ψ k;rw[if_pos (xM s k)] at g;subst g;refine aj ?_;intro w d;exact⟨(),trivial,rfl,d.msub ms⟩
  have k:gM (x.L.getD b default) (h.L.getD b 0)=true:=ψ k;refine aj ?_;refine cG (b+1) (⟨by show b+1<=_;omega,fun c a5=>(gL c b).elim (a8 c) (fun f=>by obtain rfl:c=b:=(by omega);exact k)⟩) (by show _ - _<_ - _;omega) (hh:=(fun w f=>f.msub ms))
 obtain rfl:b=x.L.length:=ω;rw[if_neg (by rw[nM.2 a8];decide)] at g;refine aj ?_;refine du rfl Tryz.call294 (fun w d=>Md (H:=ak A [ai (l:Int),ai x.pc,ac u x.L.length y,ac v x.K.length z] 118::ak C [ai h.params,ac O h.L.length S,ai h.result,ac R h.C.length T] 84::H) o a m q r fs N M a0 i hi a4 t ba w (d.msub ms)) (fun⟨Z,am⟩ _=>?_);refine aP ?_;refine cc rfl (fun G=>?_) (fun G=>?_)
 ·have G:t=none:=ψ G;subst G;subst g;refine aj ?_;intro w d;exact⟨(),trivial,rfl,d.msub ms⟩
 obtain⟨j,rfl⟩:∃j,t=some j:=by cases t with
  | none=>simp at G
  | some j=>exact⟨j,rfl⟩
 dsimp only[sF] at g⊢;refine cU (fun p=>?_) (fun p=>?_)
 ·have p:¬(j.length:Int)=x.K.length:=p;rw[if_pos (show j.length≠x.K.length from fun e=>p (by rw[e]))] at g;subst g;refine aj ?_;intro w d;exact⟨(),trivial,rfl,d.msub ms⟩
 have p:(j.length:Int)=x.K.length:=p;have p:j.length=x.K.length:=ω;rw[if_neg (fun f=>f p)] at g;refine aj ?_;refine cZ (fun b:Nat=>b<=x.K.length/\∀c,c<b->gM (x.K.getD c default) (j.getD c 0)=true) (fun b=>x.K.length - b) (fun b=> [(12,ac Z j.length am),(90,ac v x.K.length z),(91,ai (x.K.length:Int)),(92,ai (b:Int))]) (fun _=>ny (ac Z j.length am) j::ak o [ac a.Af m.F.length a.cf,ac a.Ab m.B.length a.cb,ac a.Ai m.I.length a.ci,ac a.Ao m.out.length a.co,ai m.S,ai m.T,ac q fs.length r] 190::H) 0 (⟨aS _,fun _ f=>absurd f (gu _)⟩) ?_ (hh:=(fun w f=>f.msub ms));rintro b D;obtain⟨L,a9⟩:b<=x.K.length/\∀c,c<b->gM (x.K.getD c default) (j.getD c 0)=true:=D;refine ax (fun F=>?_) (fun F=>?_)
 ·have s:b<x.K.length:=ω;refine aj ?_;refine cP _ rfl (.ro I) ?_;refine iC rfl (SF.val (SF.ro I) s default)<|aj ?_;refine fun b5 _=>aj ?_;refine bq [0,3,6,9,12,17,18] [] rfl<|aj ?_;refine tE rfl (aX (k:=b) az aZ (SF.rd (xs:=j) rfl fc) ω rfl rfl rfl) ?_;refine tE rfl (bY (SF.int (SF.rd (xs:=j) rfl fc) ω) rfl rfl bF) ?_;refine ls rfl rfl Tryz.call293 (fun w d=>HZ (x.K.getD b default) (j.getD b 0) w)<|aj ?_;refine cc rfl (fun k=>?_) (fun k=>?_)
  ·have k:gM (x.K.getD b default) (j.getD b 0)=false:=ψ k;rw[if_pos (xM ω k)] at g;subst g;refine aj ?_;intro w d;exact⟨(),trivial,rfl,d.msub ms⟩
  have k:gM (x.K.getD b default) (j.getD b 0)=true:=ψ k;refine aj ?_;refine cG (b+1) (⟨by show b+1<=_;omega,fun c a5=>(gL c b).elim (a9 c) (fun f=>by obtain rfl:c=b:=(by omega);exact k)⟩) (by show _ - _<_ - _;omega) (hh:=(fun w f=>f.msub ms))
 obtain rfl:b=x.K.length:=ω;rw[if_neg (by rw[p,nM.2 a9];decide)] at g;subst g;refine aj ?_;intro w d;exact⟨(),trivial,rfl,d.msub ms⟩
end
end
section
theorem po {n k:Nat} (a:k<n):(List.range n).getD k 0=k:=by
 rw[ap,List.getElem?_range a];rfl
theorem LR {l:List aK} {k n:Nat} (a:k<l.length) (h:br (aQ l k).func 0 ((n:Int) - 1)=false):l.any (fun x=>!br x.func 0 ((n:Int) - 1))=true:=de.2 ⟨_,fJ a,by rw[h];rfl⟩
theorem Id {l:List aK} {n:Nat} (h:∀j,j<l.length->br (aQ l j).func 0 ((n:Int) - 1)=true):(¬l.any (fun x=>!br x.func 0 ((n:Int) - 1))=true)/\∀x∈l,0<=x.func/\x.func<n:=by
 have b:∀x∈l,br x.func 0 ((n:Int) - 1)=true:=fun x a=>by
  obtain⟨j,d,rfl⟩:=cC a;have:=h j d;unfold aQ at this
  rwa [ap,aq d] at this
 refine⟨fun ha=>?_,fun x a=>?_⟩
 ·obtain⟨x,a,c⟩:=de.1 ha;rw[b x a] at c
  cases c
 have:=dL.1 (b x a);omega
section
variable {B:Nat} {w0:World} {H:List aO}
theorem GQ (o:Nat) (a:MA) (m:av) (s:Option Addr) (t:Nat) (fs:List aw) (G:bO w0 B (ac s fs.length t) fs) (v:fV B w0 a m) (J:fP fs) (K:pF m.F) (I:Int) (f:lK fs m=I) (w:World) (d:Cw B w0 (ak o [ac a.Af m.F.length a.cf,ac a.Ab m.B.length a.cb,ac a.Ai m.I.length a.ci,ac a.Ao m.out.length a.co,ai m.S,ai m.T,ac s fs.length t] 190::H) w) :
  Calls Tryz.prog 184 #[af o] w fun e w'=> ∃_:Unit,True/\e= .returned (ai I)/\Cw B w0 (ak o [ac a.Af m.F.length a.cf,ac a.Ab m.B.length a.cb,ac a.Ai m.I.length a.ci,ac a.Ao m.out.length a.co,ai m.S,ai m.T,ac s fs.length t] 190::H) w':=by
 have:=bx v.f;have:=bx G;unfold lK at f;refine bI Tryz.func184 rfl Tryz.ntmps184 rfl d<|cE<|bQ<|aC ?_;refine bL<|dG (fun _:Unit=> ¬6<m.F.length/\¬(m.F.length=0/\m.S≠2)/\¬(0<m.F.length/\m.S=2)) (fun _=> [(0,af o)]) (fun _=>ak o [ac a.Af m.F.length a.cf,ac a.Ab m.B.length a.cb,ac a.Ai m.I.length a.ci,ac a.Ao m.out.length a.co,ai m.S,ai m.T,ac s fs.length t] 190::H) ?_ ?_
 ·refine ax (fun z=>?_) (fun z=>?_)
  ·rw[if_pos ω] at f;subst f;refine aj ?_;intro w d;exact⟨(),trivial,rfl,d.msub ms⟩
  have z:¬6<m.F.length:=ω;rw[if_neg z] at f;refine dh 21 (fun h=>?_) (fun h=>?_)
  ·have h:=of_decide_eq_true h;have h:m.F.length=0:=ω;refine cU (fun q=>?_) (fun q=>?_)
   ·rw[if_pos ⟨h,q⟩] at f;subst f;refine aj ?_;intro w d;exact⟨(),trivial,rfl,d.msub ms⟩
   refine dh 32 (fun p=>?_) (fun p=>?_)
   ·have p:=of_decide_eq_true p;exact absurd p ω
   refine aj ?_;refine cA rfl<|aj ?_;refine bX () (⟨z,fun c=>c.2 q,fun c=>ω⟩) (hh:=(fun _ c=>c.msub ms))
  have h:=of_decide_eq_false h;have h:¬m.F.length=0:=ω;rw[if_neg (fun c=>h c.1)] at f;refine aj ?_;refine cA rfl<|dh 32 (fun p=>?_) (fun p=>?_)
  ·refine ax (fun q=>?_) (fun q=>?_)
   ·rw[if_pos ⟨ω,q⟩] at f;subst f;refine aj ?_;intro w d;exact⟨(),trivial,rfl,d.msub ms⟩
   refine aj ?_;refine bX () (⟨z,fun c=>h c.1,fun c=>q c.2⟩) (hh:=(fun _ c=>c.msub ms))
  have p:=of_decide_eq_false p;exact absurd p ω
 rintro⟨⟩ ⟨U,q,p⟩;rw[if_neg U,if_neg q,if_neg p] at f;refine aj ?_;refine cZ (fun b:Nat=>b<=m.F.length/\∀r,r<b->br (aQ m.F r).func 0 ((fs.length:Int) - 1)=true) (fun b=>m.F.length - b) (fun b=> [(0,af o),(44,ac a.Af m.F.length a.cf),(45,ai (m.F.length:Int)),(46,ai (b:Int))]) (fun _=>ak o [ac a.Af m.F.length a.cf,ac a.Ab m.B.length a.cb,ac a.Ai m.I.length a.ci,ac a.Ao m.out.length a.co,ai m.S,ai m.T,ac s fs.length t] 190::H) 0 (⟨aS _,fun _ c=>absurd c (gu _)⟩) ?_ (hh:=(fun w c=>c.msub ms));rintro b E;obtain⟨X,M⟩:b<=m.F.length/\∀r,r<b->br (aQ m.F r).func 0 ((fs.length:Int) - 1)=true:=E;refine ax (fun F=>?_) (fun F=>?_)
 ·have j:b<m.F.length:=ω;obtain⟨O,S,R,T,Y,Z,V,C⟩:=v.f.fr j;refine aj ?_;refine cP _ rfl (.ro v.f) ?_;refine iC rfl (C _)<|aj ?_;refine fun am _=>aj ?_;refine bq [0,3,6,9,12,15,18,21,24,29,30] [] rfl<|aj ?_;refine ls rfl rfl Gg (fun w d=>nW (aQ m.F b).func 0 ((fs.length:Int) - 1) w)<|aj ?_;refine cc rfl (fun u=>?_) (fun u=>?_)
  ·have u:br (aQ m.F b).func 0 ((fs.length:Int) - 1)=false:=ψ u;rw[if_pos (LR j u)] at f;subst f;refine aj ?_;intro w d;exact⟨(),trivial,rfl,d.msub ms⟩
  have u:br (aQ m.F b).func 0 ((fs.length:Int) - 1)=true:=ψ u;refine aj ?_;refine cG (b+1) (⟨by show b+1<=_;omega,fun r a1=>(gL r b).elim (M r) (fun c=>by obtain rfl:r=b:=(by omega);exact u)⟩) (by show _ - _<_ - _;omega) (hh:=(fun w c=>c.msub ms))
 obtain rfl:b=m.F.length:=ω;obtain⟨W,L⟩:=Id M;rw[if_neg W] at f;refine aj ?_;refine cZ (fun b:Nat=>b<=m.F.length/\(0<b->¬(0<m.F.length/\(aQ m.F 0).func≠0))/\ei (gB fs m.B.length m.F) ((List.range m.F.length).take b)=0) (fun b=>m.F.length - b) (fun b=> [(0,af o),(66,ac a.Af m.F.length a.cf),(67,ai (m.F.length:Int)),(68,ai (b:Int))]) (fun _=>ak o [ac a.Af m.F.length a.cf,ac a.Ab m.B.length a.cb,ac a.Ai m.I.length a.ci,ac a.Ao m.out.length a.co,ai m.S,ai m.T,ac s fs.length t] 190::H) 0 (⟨aS _,fun c=>absurd c (gu _),rfl⟩) ?_ (hh:=(fun w c=>c.msub ms));rintro b E;obtain⟨X,N,y⟩:b<=m.F.length/\(0<b->¬(0<m.F.length/\(aQ m.F 0).func≠0))/\ei (gB fs m.B.length m.F) ((List.range m.F.length).take b)=0:=E;refine ax (fun F=>?_) (fun F=>?_)
 ·have j:b<m.F.length:=ω;obtain⟨O,S,R,T,Y,Z,V,C⟩:=v.f.fr j;refine aj ?_;refine cP _ rfl (.ro v.f) ?_;refine iC rfl (C _)<|aj ?_;refine fun a0 _=>dh 75 (fun A=>?_) (fun A=>?_)
  ·have A:=of_decide_eq_true A;obtain rfl:b=0:=ω;refine cU (fun D=>?_) (fun D=>?_)
   ·rw[if_pos ⟨j,D⟩] at f;subst f;refine aj ?_;intro w d;exact⟨(),trivial,rfl,d.msub ms⟩
   have h:¬(0<m.F.length/\(aQ m.F 0).func≠0):=fun c=>c.2 D;refine aj ?_;refine du rfl Tryz.call238 (fun w d=>Be o a m s t fs G v J K 0 j L _ rfl w (d.msub (.s fc .r))) (fun _ _=>cU (fun i=>?_) (fun i=>?_))
   ·have i:gB fs m.B.length m.F 0≠0:=i;have k:=jp (g:=gB fs m.B.length m.F) (l:=List.range m.F.length) 0 (by rw[kD];exact j) y;rw[po j] at k;rw[if_neg h,nq (k:=0+1) (by rw[k];exact i),k] at f;subst f;refine aj ?_;intro w d;exact⟨(),trivial,rfl,d.msub ms⟩
   have i:gB fs m.B.length m.F 0=0:=i;have k:=jp (g:=gB fs m.B.length m.F) (l:=List.range m.F.length) 0 (by rw[kD];exact j) y;rw[po j,i] at k;refine aj ?_;refine cG 1 (⟨by show 1<=_;omega,fun _=>h,k⟩) (by show _ - _<_ - _;omega) (hh:=(fun w c=>c.msub ms))
  have A:=of_decide_eq_false A;have h:=N ω;refine aj ?_;refine cA rfl<|aj ?_;refine du rfl Tryz.call238 (fun w d=>Be o a m s t fs G v J K b j L _ rfl w (d.msub (.s fc .r))) (fun _ _=>cU (fun i=>?_) (fun i=>?_))
  ·have i:gB fs m.B.length m.F b≠0:=i;have k:=jp (g:=gB fs m.B.length m.F) (l:=List.range m.F.length) 0 (by rw[kD];exact j) y;rw[po j] at k;rw[if_neg h,nq (k:=b+1) (by rw[k];exact i),k] at f;subst f;refine aj ?_;intro w d;exact⟨(),trivial,rfl,d.msub ms⟩
  have i:gB fs m.B.length m.F b=0:=i;have k:=jp (g:=gB fs m.B.length m.F) (l:=List.range m.F.length) 0 (by rw[kD];exact j) y;rw[po j,i] at k;refine aj ?_;refine cG (b+1) (⟨by show b+1<=_;omega,fun _=>h,k⟩) (by show _ - _<_ - _;omega) (hh:=(fun w c=>c.msub ms))
 obtain rfl:b=m.F.length:=ω;rw[bD (by rw[kD];exact aH _)] at y;have h:¬(0<m.F.length/\(aQ m.F 0).func≠0):=fun c=>N c.1 c;rw[if_neg h,y] at f;subst f;refine aj ?_;intro w d;exact⟨(),trivial,rfl,d.msub ms⟩
end
end
section
theorem Lt (n:Int) (w:World):Calls Tryz.prog 237 #[ai n] w fun e w'=>e= .returned (.bool (!bT n))/\Below w.heap.size w w':=by
 refine enter Tryz.func237 rfl Tryz.ntmps237 rfl<|aj ?_;refine cO rfl T4 ((fun w a=>fY ((fun w a=>rT n w) w a)))<|aj ?_;intro w a;exact⟨rfl,a.below⟩
theorem EX (A:Option Addr) (c:Nat) (l:List Int) (w:World) (b:Sl w (ac A l.length c) l):Calls Tryz.prog 183 #[ac A l.length c] w fun e w'=>e= .returned (.bool (dw l))/\Below w.heap.size w w':=by
 refine enter Tryz.func183 rfl Tryz.ntmps183 rfl<|aj ?_;refine cO rfl RR (fun w a=>sn A c l 237 #[] (fun n=>!bT n) w (a.ro b) Tryz.call237 (fun d _ x _=>Lt x d))<|aj ?_;intro w a;exact⟨rfl,a.below⟩
theorem Oe (m:av):io m=aQ m.F (m.F.length - 1):=by
 unfold io aQ;rw[List.getLastD_eq_getLast?,List.getLast?_eq_getElem?,ap]
section
variable {B:Nat} {w0:World} {H:List aO}
theorem FL (h:Nat) (a:MA) (m:av) (o:Option Addr) (p:Nat) (fs:List aw) (u:bO w0 B (ac o fs.length p) fs) (l:fV B w0 a m) (G:fP fs) (R:pF m.F) (E:Int) (c:fd fs m=E) (w:World) (b:Cw B w0 (ak h [ac a.Af m.F.length a.cf,ac a.Ab m.B.length a.cb,ac a.Ai m.I.length a.ci,ac a.Ao m.out.length a.co,ai m.S,ai m.T,ac o fs.length p] 190::H) w) :
  Calls Tryz.prog 131 #[af h] w fun e w'=> ∃_:Unit,True/\e= .returned (ai E)/\Cw B w0 (ak h [ac a.Af m.F.length a.cf,ac a.Ab m.B.length a.cb,ac a.Ai m.I.length a.ci,ac a.Ao m.out.length a.co,ai m.S,ai m.T,ac o fs.length p] 190::H) w':=by
 have:=bx l.f;have:=bx u;unfold fd at c;refine bI Tryz.func131 rfl Tryz.ntmps131 rfl b<|cE<|bQ<|aC ?_;refine bL<|cE<|bQ<|aC ?_;refine aC ?_;refine bL<|dG (fun _:Unit=>True) (fun _=> [(0,af h),(3,ai (if m.S=3 then 1 else 0)),(4,ai (if m.S=3 then 5 else 0))]) (fun _=>ak h [ac a.Af m.F.length a.cf,ac a.Ab m.B.length a.cb,ac a.Ai m.I.length a.ci,ac a.Ao m.out.length a.co,ai m.S,ai m.T,ac o fs.length p] 190::H) ?_ ?_
 ·refine ax (fun g=>?_) (fun g=>?_)
  ·rw[if_pos g,if_pos g];refine aj ?_;refine lq () trivial (hh:=(fun _ d=>d.msub ms))
  rw[if_neg g,if_neg g];refine aj ?_;refine bX () trivial (hh:=(fun _ d=>d.msub ms))
 rintro⟨⟩ _;refine aj ?_;refine cO rfl Gg (fun w b=>nW m.S 0 3 w)<|aj ?_;refine cc rfl (fun v=>?_) (fun v=>?_)
 ·rw[if_pos (ψ v)] at c;subst c;refine aj ?_;intro w b;exact⟨(),trivial,rfl,b.msub ms⟩
 rw[if_neg (ψ v)] at c;refine aj ?_;refine cO rfl Gg (fun w b=>nW m.T _ _ w)<|aj ?_;refine cc rfl (fun y=>?_) (fun y=>?_)
 ·rw[if_pos (ψ y)] at c;subst c;refine aj ?_;intro w b;exact⟨(),trivial,rfl,b.msub ms⟩
 rw[if_neg (ψ y)] at c;refine aj ?_;refine cO rfl Tryz.call182 (fun w b=>JN _ m.B w (b.ro l.b))<|cU (fun g=>?_) (fun g=>?_)
 ·rw[if_pos g] at c;subst c;refine aj ?_;intro w b;exact⟨(),trivial,rfl,b.msub ms⟩
 rw[if_neg (fun d=>d g)] at c;refine fq (fm ?_);refine dG (fun _:Unit=>(¬(10<m.I.length\/10<m.out.length))/\¬(dw m.I=true\/dw m.out=true)) (fun _=> [(0,af h)]) (fun _=>ak h [ac a.Af m.F.length a.cf,ac a.Ab m.B.length a.cb,ac a.Ai m.I.length a.ci,ac a.Ao m.out.length a.co,ai m.S,ai m.T,ac o fs.length p] 190::H) ?_ ?_
 ·refine dh 49 (fun j=>?_) (fun j=>?_)
  ·have j:=of_decide_eq_true j;rw[if_pos (.inl ω)] at c;subst c;refine aj ?_;refine be rfl<|aj ?_;intro w b;exact⟨(),trivial,rfl,b.msub ms⟩
  have j:=of_decide_eq_false j;refine ax (fun z=>?_) (fun z=>?_)
  ·rw[if_pos (.inr ω)] at c;subst c;refine aj ?_;intro w b;exact⟨(),trivial,rfl,b.msub ms⟩
  have F:¬(10<m.I.length\/10<m.out.length):=ω;rw[if_neg F] at c;refine aj ?_;refine cO rfl Tryz.call183 (fun w b=>EX a.Ai a.ci m.I w (b.ro l.i))<|dh 65 (fun i=>?_) (fun i=>?_)
  ·rw[if_pos (.inl i)] at c;subst c;refine aj ?_;refine be rfl<|aj ?_;intro w b;exact⟨(),trivial,rfl,b.msub ms⟩
  refine aj ?_;refine cO rfl Tryz.call183 (fun w b=>EX a.Ao a.co m.out w (b.ro l.o))<|aj ?_;refine cc rfl (fun k=>?_) (fun k=>?_)
  ·rw[if_pos (.inr k)] at c;subst c;refine aj ?_;intro w b;exact⟨(),trivial,rfl,b.msub ms⟩
  have M:¬(dw m.I=true\/dw m.out=true):=by rw[i,k];simp
  refine aj ?_;refine bX () (⟨F,M⟩) (hh:=(fun _ d=>d.msub ms))
 rintro⟨⟩ ⟨j,z⟩;rw[if_neg j,if_neg z] at c;refine aj ?_;refine du rfl Tryz.call184 (fun w b=>GQ h a m o p fs u l G R _ rfl w (b.msub (.s fc .r))) (fun _ _=>cU (fun i=>?_) (fun i=>?_))
 ·rw[if_pos i] at c;subst c;refine aj ?_;intro w b;exact⟨(),trivial,rfl,b.msub ms⟩
 rw[if_neg (fun d=>d i)] at c;refine cU (fun k=>?_) (fun k=>?_)
 ·rw[if_pos k] at c;subst c;refine aj ?_;intro w b;exact⟨(),trivial,rfl,b.msub ms⟩
 rw[if_neg (fun d=>d k)] at c;obtain⟨_,N,S,_,T⟩:=tu.1 i;have:m.F.length≠0:=fun d=>by
  have:=N.1 (bz d);omega
 obtain⟨f,A⟩:∃f,m.F.length=f+1:=⟨m.F.length - 1,ω⟩
 have t:f<m.F.length:=ω;obtain⟨V,al,W,am,a6,ba,a3,I⟩:=l.f.fr t;have:=S _ (fJ t);obtain⟨r,C⟩:∃r:Nat,(aQ m.F f).func=r:=⟨(aQ m.F f).func.toNat,ω⟩
 have K:r<fs.length:=ω;obtain⟨X,a0,Y,a1,a5,J,a4,O⟩:=u.fn K;obtain⟨L,D,_⟩:=T f t;unfold iX kh at D;rw[if_pos A.symm,C,bu] at D;obtain⟨a8,a9,_⟩:=(G.e _ K).at_ _ _ D;have U:bd fs m=bH (au fs r).C (aQ m.F f).pc.toNat:=by
  unfold bd;rw[Oe,A,tG,C,bu]
 rw[U] at c;rw[C] at I;refine aj ?_;refine bq [0,3,6,9,12,15,18,21,24,27,30,33,36,39,44,47] [15] rfl<|aj ?_;refine dr (t:=95) (v':= ai (f:Int)) rfl (by rw[A];congr 1;omega) ?_;refine tE rfl (aX (k:=f) cX dQ (.ro l.f) t rfl rfl rfl) ?_;refine tE rfl (eC (I _) rfl rfl Vw dQ)<|aj ?_;refine fun a2 _=>aj ?_;refine bq [0,3,6,9,12,15,18,21,24,27,30,33,36,39,42,45,48,51,54,57,60,63,66,69,72] [] rfl<|aj ?_;refine pT (t:=105) rfl (fun q=>?_) (fun q=>?_)
 ·have q:=of_decide_eq_true q;rw[if_pos (.inl ω)] at c;subst c;refine aj ?_;refine be rfl<|aj ?_;intro w b;exact⟨(),trivial,rfl,b.msub ms⟩
 have q:=of_decide_eq_false q;refine aj ?_;refine tE rfl (aX (k:=r) ff fw (.ro u) ω rfl rfl rfl)<|aj ?_;refine tE rfl (bY (fun w b=>O _ w b 3 _ rfl) rfl rfl rF)<|aj ?_;refine tE rfl (nC eH gN (.ro J) ω rfl rfl rfl)<|aj ?_;refine tE rfl (bY (SF.opc (.ro J) ω) rfl rfl bF)<|cU (fun s=>?_) (fun s=>?_)
 ·rw[if_pos (.inr s)] at c;subst c;refine aj ?_;intro w b;exact⟨(),trivial,rfl,b.msub ms⟩
 have s:(bH (au fs r).C (aQ m.F f).pc.toNat).c=21:=s;rw[if_neg (fun d=>d.elim (fun d=>q ω) (fun d=>d s))] at c;subst c;refine aj ?_;intro w b;exact⟨(),trivial,rfl,b.msub ms⟩
end
theorem uV (b:Option Addr) (c:Nat) (fs:List aw) (a:MA) (m:av) (w:World) (j:Sl w (ac b fs.length c) fs) (i:fV w.heap.size w a m) (g:fP fs) (h:pF m.F) :
  Calls Tryz.prog 74 #[.agg #[ac b fs.length c],.agg #[ac a.Af m.F.length a.cf,ac a.Ab m.B.length a.cb,ac a.Ai m.I.length a.ci,ac a.Ao m.out.length a.co,ai m.S,ai m.T]] w fun e w'=>e= .returned (ai (fd fs m))/\Below w.heap.size w w':=by
 refine enter Tryz.func74 rfl Tryz.ntmps74 rfl<|aj ?_;refine fun k _=>aj ?_;refine fun l _=>aj ?_;refine fun f _=>aj ?_;refine du rfl Tryz.call131 (fun w d=>FL f a m b c fs j i g h _ rfl w (d.msub (.s fc .r))) (fun _ _=>aj ?_);intro w d;exact⟨rfl,d.below⟩
end
section
theorem Ck {B:Nat} {w:World} {u:Option Addr} {v:Nat} {fs:List aw} (G:bO w B (ac u fs.length v) fs) (f:fP fs) {m:av} (d:bU fs m) (I:¬(m.S=2\/m.S=3)):∃li x e,F7 fs m li x e:=by
 have C:m.F≠[]:=fun b=>I (.inl (d.dn.1 b));obtain⟨li,x,b⟩:∃li x,m.F=li++ [x]:=by
  rcases eX m.F with h | ⟨s,L,h⟩
  ·exact absurd h C
  exact⟨s,L,by rw[h];simp⟩
 obtain⟨V,p,Y,i,q⟩:=d.top b;obtain⟨e,j⟩:∃e:Nat,x.func=e:=⟨x.func.toNat,ω⟩
 rw[j,bu] at i p;have g:e<fs.length:=ω;obtain⟨E,F,W,_⟩:=(f.e _ g).at_ _ _ i;obtain⟨D,_⟩:=kb f.p g;obtain⟨M,O,N,R,U,y,T,S⟩:=G.fn g;have A:=d.n6;rw[b,ar,aV] at A;refine⟨li,x,e,b,j,g,⟨E,F⟩,NW f g (x:= {x with pc:=x.pc+1}) j i q p.len,d.bl,by rw[q.len];omega,fun Z J=>?_,by have:=d.ob;omega,ω,(EN y ω).2,by have:=D.n40;omega⟩;obtain⟨c,l,rfl⟩:=cC J;obtain⟨K,a,_,r⟩:=d.fr c (by rw[b,ar];omega);have z:aQ m.F c=li[c]:=by
  rw[b,jo l];unfold aQ;rw[ap,aq l];rfl
 rw[z] at r;rw[r.len];have:=d.fn _ (fJ (l:=m.F) (k:=c) (by rw[b,ar];omega));have o:(aQ m.F c).func.toNat<fs.length:=ω;unfold iX kh at a
 split at a
 ·have:=((f.e _ o).at_ _ _ a).2.2.1;omega
 split at a
 ·cases a
 split at a
 ·cases a
 cases h5:gh fs (au fs (aQ m.F c).func.toNat) (aQ m.F c).pc with
 | none=>rw[h5] at a;cases a
 | some t=>
  rw[h5] at a;have a:(if (au fs (aQ m.F (c+1)).func.toNat).result≠0 then t.dropLast else t)=K:=fC a;have:=((f.e _ o).at_ _ _ h5).2.2.1;rw[<-a]
  split
  ·rw[List.length_dropLast];omega
  omega
theorem wC {fs:List aw} (a:fP fs):0<fs.length:=by
 have:=(iE a.p).1;omega
theorem vk {fs:List aw} (b:fP fs) {m:av} (d:bU fs m) {i:Nat} (hi:i<m.F.length):(aQ m.F i).K.length<=8/\(aQ m.F i).L.length<=1000:=by
 obtain⟨h,a,f,g⟩:=d.fr i hi;have:=d.fn _ (fJ hi);have c:(aQ m.F i).func.toNat<fs.length:=ω;rw[g.len,f.len];have:=((kb b.p (wC b)).1.op 0 (kb b.p (wC b)).2).par _ c |>.2;refine⟨?_,by unfold kh;omega⟩;unfold iX kh at a
 split at a
 ·have:=((b.e _ c).at_ _ _ a).2.2.1;omega
 split at a
 ·cases a
 split at a
 ·cases a
 cases h5:gh fs (au fs (aQ m.F i).func.toNat) (aQ m.F i).pc with
 | none=>rw[h5] at a;cases a
 | some e=>
  rw[h5] at a;have a:(if (au fs (aQ m.F (i+1)).func.toNat).result≠0 then e.dropLast else e)=h:=fC a;have:=((b.e _ c).at_ _ _ h5).2.2.1;rw[<-a]
  split
  ·rw[List.length_dropLast];omega
  omega
theorem kK {fs:List aw} (f:fP fs) {m:av} (a:bU fs m):xr m:=by
 refine⟨⟨by have:=a.n6;omega,fun x g=>?_⟩,yy.of_check a.bl,by have:=a.ib;omega,by have:=a.ob;omega⟩;obtain⟨c,b,rfl⟩:=cC g;have e:=vk f a b;have d:aQ m.F c=m.F[c]:=by
  unfold aQ;rw[ap,aq b];rfl
 rw[d] at e;omega
def gg (fs:List aw):av:=⟨[⟨0,0,dB (au fs 0).L,[]⟩],[],[],[],0,0⟩
def tN (fs:List aw):av:=if dZ fs=0 then gg fs else default
def OX (fs:List aw) (m:av):av:=if jm fs m=0 then eV fs m else default
theorem pZ {fs:List aw} (h:dZ fs=0):0<fs.length:=by
 have:=(iE (qn h).p).1;omega
theorem EW (d:Option Addr) (h:Nat) (fs:List aw) (w:World) (i:Sl w (ac d fs.length h) fs) (p:0<fs.length) (A:(au fs 0).L.length<=1000) :
  Calls Tryz.prog 73 #[.agg #[ac d fs.length h]] w fun e w'=> ∃g:MA,True/\
   e= .returned (.agg #[ac g.Af (gg fs).F.length g.cf,ac g.Ab (gg fs).B.length g.cb,ac g.Ai (gg fs).I.length g.ci,ac g.Ao (gg fs).out.length g.co,ai (gg fs).S,ai (gg fs).T])/\
   Cw w.heap.size w [an (ac g.Af (gg fs).F.length g.cf) (gg fs).F,an (ac g.Ab (gg fs).B.length g.cb) (gg fs).B,an (ac g.Ai (gg fs).I.length g.ci) (gg fs).I,an (ac g.Ao (gg fs).out.length g.co) (gg fs).out] w':=by
 obtain⟨j,l,k,o,s,y,z,r⟩:=i.fn p;have:(dB (au fs 0).L).length=(au fs 0).L.length:=mr _;refine enter Tryz.func73 rfl Tryz.ntmps73 rfl<|aj ?_;refine fun t _=>aj ?_;refine fun u _=>aj ?_;refine cP 0 rfl (.ro i) ?_;refine iC rfl (r _) ?_;refine oE (fl rfl rfl rfl Tryz.call130 (fun w b=>CT (au fs 0).params (au fs 0).result j k l o _ (au fs 0).L w (b.ro s) ω)) (fun⟨c,f⟩ _=>?_);refine aP ?_;refine fun a _=>aj ?_;intro w b;refine⟨⟨some ⟨a,0,none⟩,1,none,0,none,0,none,0⟩,trivial,rfl,?_⟩;have q:=xy (H:= []) (xs:=(gg fs).F) (g:=a) (rk.cons (Hel:= [ag c f (dB (au fs 0).L),an (ac none 0 0) ([]:List aD)]) (cs:= [_,_,_,_]) (AH (x:=⟨0,0,dB (au fs 0).L,[]⟩) (by show aI 0/\aI 0;decide)) rk.nil_) rfl (by show 1<=_;decide) ((Cw.nilO aD b).msub (T:= [ak a _ _,ag c f (dB (au fs 0).L),an (ac none 0 0) ([]:List aD)]) ms);exact(Cw.nilO (List Int) (Cw.nilO Int (Cw.nilO Int q))).msub ms
theorem se {B:Nat} {w0 w:World} {H:List aO} (h:Cw B w0 H w):Cw B w0 (an (α:=aK) (ac none 0 0) []::an (α:=List Int) (ac none 0 0) []::an (α:=Int) (ac none 0 0) []::an (α:=Int) (ac none 0 0) []::H) w:=Cw.nilO aK (Cw.nilO (List Int) (Cw.nilO Int (Cw.nilO Int h)))
theorem Ac (d:Option Addr) (f:Nat) (fs:List aw) (m:av) (c:tN fs=m) (w:World) (h:Sl w (ac d fs.length f) fs) :
  Calls Tryz.prog 54 #[.agg #[ac d fs.length f]] w fun e w'=> ∃g:MA,True/\
   e= .returned (.tuple #[.agg #[ac g.Af m.F.length g.cf,ac g.Ab m.B.length g.cb,ac g.Ai m.I.length g.ci,ac g.Ao m.out.length g.co,ai m.S,ai m.T],ai (dZ fs)])/\Cw w.heap.size w [an (ac g.Af m.F.length g.cf) m.F,an (ac g.Ab m.B.length g.cb) m.B,an (ac g.Ai m.I.length g.ci) m.I,an (ac g.Ao m.out.length g.co) m.out] w':=by
 refine enter Tryz.func54 rfl Tryz.ntmps54 rfl<|aj ?_;refine fun i _=>aj ?_;refine fun j _=>aj ?_;refine cO rfl J9 (fun w b=>qC d f fs w (b.ro h))<|aj ?_;unfold tN at c;refine jP rfl (fun a=>?_) (fun a=>?_)
 ·rw[if_neg a] at c;subst c;refine aj ?_;intro w b;exact⟨⟨none,0,none,0,none,0,none,0⟩,trivial,rfl,(se b).msub ms⟩
 have a:dZ fs=0:=a;rw[if_pos a] at c;subst c;refine aj ?_;refine eu rfl Tryz.call73 (fun w b=>EW d f fs w (b.ro h) (pZ a) (by have:=((kb (qn a).p (pZ a)).1.op 0 (kb (qn a).p (pZ a)).2).par 0 (pZ a) |>.2;omega)) (fun g _=>aj ?_);intro w b;exact⟨g,trivial,by rw[a],b.msub ms⟩
end
section
theorem uF {α:Type} :∀(l:List α) (k:Nat) (d:α),l.set k (l.getD k d)=l
 | [],_,_=>rfl
 | _::_,0,_=>rfl
 | x::l,k+1,d=>congrArg (x:: ·) (uF l k d)
def kW (a:MA) (m:av):eZ:=⟨.slice a.Af m.F.length a.cf,.slice a.Ab m.B.length a.cb,.slice a.Ai m.I.length a.ci,.slice a.Ao m.out.length a.co,m.S,m.T⟩
theorem sg {a:MA} {m:av} (h:aI m.S/\aI m.T):eZ.wf (kW a m):=⟨h,rfl,rfl,rfl,rfl⟩
section
variable {P:Program} {n:NF} {B:Nat} {w0:World} {H H':List aO} {Q:Exit->Act->World->Prop} {env:cS} {x:Code} {ops:Array Oper} {os:List Oper}
theorem rQ {α:Type} [Ow α] {w:World} {F:Nat->Prop} {v:Value} {xs:List α} (h:da w F v xs):∃A c,v= ac A xs.length c:=by
 obtain⟨A,c,a,_⟩:=(da.sl h).form;exact⟨A,c,a⟩
theorem En {l:List (eZ×av)} (hok:gP l) {i:Nat} (hi:i<l.length) {w:World} (h:Cw B w0 (cJ l::H) w):∃a:MA,l[i].1=kW a l[i].2:=by
 have h1:Cw B w0 (an l[i].1.fv l[i].2.F::an l[i].1.bv l[i].2.B::an l[i].1.iv l[i].2.I::an l[i].1.ov l[i].2.out::(cJ (l.eraseIdx i)::H)) w:=rZ hi h;obtain⟨F1,k1,_⟩:=h1.rd cu.a;obtain⟨F2,k2,_⟩:=h1.rd (cu.s cu.a);obtain⟨F3,k3,_⟩:=h1.rd (cu.s (cu.s cu.a));obtain⟨F4,k4,_⟩:=h1.rd (cu.s (cu.s (cu.s cu.a)));obtain⟨Af,cf,e1⟩:=rQ k1;obtain⟨Ab,cb,e2⟩:=rQ k2;obtain⟨Ai,ci,e3⟩:=rQ k3;obtain⟨Ao,co,e4⟩:=rQ k4;obtain⟨s1,s2⟩:=hok l[i] (cV hi);refine⟨⟨Af,cf,Ab,cb,Ai,ci,Ao,co⟩,?_⟩
 cases h:l[i] with
 | mk a b=>
  rw[h] at e1 e2 e3 e4 s1 s2
  cases a
  simp only at e1 e2 e3 e4 s1 s2;subst e1 e2 e3 e4 s1 s2;rfl
theorem Sr {l:List (eZ×av)} {i:Nat} (hi:i<l.length) {w:World} (h:Cw B w0 (cJ l::H) w):Sl w l[i].1.fv l[i].2.F/\Sl w l[i].1.bv l[i].2.B/\Sl w l[i].1.iv l[i].2.I/\Sl w l[i].1.ov l[i].2.out:=by
 have a:Cw B w0 (an l[i].1.fv l[i].2.F::an l[i].1.bv l[i].2.B::an l[i].1.iv l[i].2.I::an l[i].1.ov l[i].2.out::(cJ (l.eraseIdx i)::H)) w:=rZ hi h;obtain⟨f,b,_⟩:=a.rd cu.a;obtain⟨g,c,_⟩:=a.rd (cu.s cu.a);obtain⟨j,d,_⟩:=a.rd (cu.s (cu.s cu.a));obtain⟨k,e,_⟩:=a.rd (cu.s (cu.s (cu.s cu.a)));exact⟨da.sl b,da.sl c,da.sl d,da.sl e⟩
theorem Ls {l:List (eZ×av)} {i:Nat} (hi:i<l.length):ay (l.map Prod.snd) i=l[i].2:=by
 unfold ay;rw[ap,dd,aq hi];rfl
theorem LJ {l:List (eZ×av)} {i:Nat} (hi:i<l.length) (d:eZ):(l.map Prod.fst).getD i d=l[i].1:=by
 rw[ap,dd,aq hi];rfl
abbrev RM (a:MA) (m:av) (H:List aO):List aO:=an (.slice a.Af m.F.length a.cf) m.F::an (.slice a.Ab m.B.length a.cb) m.B::an (.slice a.Ai m.I.length a.ci) m.I::an (.slice a.Ao m.out.length a.co) m.out::H
structure MM (B:Nat) (w0:World) (X:aO) (L:List av) (k:Nat) (hs:List eZ) (a:MA):Prop where
 len:hs.length=L.length
 hd:hs.getD k default=kW a (ay L k)
 i64:aI (ay L k).S/\aI (ay L k).T
 back:∀(v:Value) (g:MA) (m:av) H w,Cw B w0 (an v (hs.set k (kW g m))::RM g m (X::H)) w->Cw B w0 (an v (L.set k m)::H) w
theorem Mr {v:Value} {L:List av} {k:Nat} (E:k<L.length) (F:cu H (an v L) H') {w:World} (I:Cw B w0 H w) :
  ∃i t a,MM B w0 i L k t a/\Cw B w0 (an v t::RM a (ay L k) (i::H')) w:=by
 obtain⟨b,e,s,j⟩:=wF (I.perm F);have d:k<b.length:=by rw[<-aL (f:=Prod.snd),e];exact E
 have l:=j.perm (List.Perm.swap ..);obtain⟨a,g⟩:=En s d l;have h:ay L k=b[k].2:=by rw[<-e];exact Ls d
 have o:Cw B w0 (an b[k].1.fv b[k].2.F::an b[k].1.bv b[k].2.B::an b[k].1.iv b[k].2.I::an b[k].1.ov b[k].2.out::(cJ (b.eraseIdx k)::an v (b.map Prod.fst)::H')) w:=rZ d l;rw[g,<-h] at o;have u:eZ.wf b[k].1:=lD j .a (kz (cV d));have D:aI (ay L k).S/\aI (ay L k).T:=by
  rw[g,<-h] at u;exact u.1
 refine⟨cJ (b.eraseIdx k),b.map Prod.fst,a,⟨by rw[<-e,aL,aL],by rw[LJ d,g,h],D,fun y c m H1 J A=>?_⟩,o.msub ms⟩;have G:gP (b.set k (kW c m,m)):=s.set (q:=(kW c m,m)) ⟨rfl,rfl⟩;have C:Cw B w0 (hZ.parts (kW c m,m).1 (kW c m,m).2++cJ (b.eraseIdx k)::an y ((b.map Prod.fst).set k (kW c m))::H1) J:=A.msub (T:=RM c m (cJ (b.eraseIdx k)::an y ((b.map Prod.fst).set k (kW c m))::H1)) ms;have p:=xx d C;have z:(b.map Prod.fst).set k (kW c m)=(b.set k (kW c m,m)).map Prod.fst:=by rw[List.map_set]
 rw[z] at p;have r:=qL G (p.perm (List.Perm.swap ..));rw[List.map_set,e] at r;exact r
theorem uj {v:Value} {L:List av} {k:Nat} (i:k<L.length) (j:cu H (an v L) H') (h:∀b c a,MM B w0 b L k c a->CW P n B w0 x Q env (an v c::RM a (ay L k) (b::H'))):CW P n B w0 x Q env H:=fun a w g l=>by
 obtain⟨b,c,d,e,f⟩:=Mr i j l;exact h b c d e a w g f
theorem Sn {v:Value} {L:List av} {k:Nat} (i:k<L.length) (j:cu H (an v L) H') (h:∀b c a,MM B w0 b L k c a->RW P n B w0 ops Q os env (an v c::RM a (ay L k) (b::H'))):RW P n B w0 ops Q os env H:=fun a w g l=>by
 obtain⟨b,c,d,e,f⟩:=Mr i j l;exact h b c d e a w g f
theorem MM.same {c:aO} {L:List av} {k:Nat} {b:List eZ} {a:MA} (h:MM B w0 c L k b a) (_:k<L.length) {v:Value} {w:World} (f:Cw B w0 (an v b::RM a (ay L k) (c::H)) w):Cw B w0 (an v L::H) w:=by
 have d:b.set k (kW a (ay L k))=b:=by
  rw[<-h.hd];exact uF b k default
 have e:L.set k (ay L k)=L:=uF L k default;have:=h.back v a (ay L k) H w (by rw[d];exact f)
 rwa [e] at this
structure U2 (B:Nat) (w0:World) (X:aO) (L:List av) (hs:List eZ):Prop where
 el:∀i,i<L.length->∃a:MA,hs.getD i default=kW a (ay L i)/\(aI (ay L i).S/\aI (ay L i).T)/\
  ∀H H',cu H X H'->SF B w0 H a.Af (ay L i).F.length a.cf (ay L i).F/\SF B w0 H a.Ab (ay L i).B.length a.cb (ay L i).B/\SF B w0 H a.Ai (ay L i).I.length a.ci (ay L i).I/\SF B w0 H a.Ao (ay L i).out.length a.co (ay L i).out
 len:hs.length=L.length
 back:∀H H' H'' v w,cu H (an v hs) H'->cu H' X H''->Cw B w0 H w->Cw B w0 (an v L::H'') w
theorem SB {v:Value} {L:List av} (z:cu H (an v L) H') {w:World} (b:Cw B w0 H w):∃k o,U2 B w0 k L o/\Cw B w0 (an v o::k::H') w:=by
 obtain⟨d,j,l,i⟩:=wF (b.perm z);have y:d.length=L.length:=by rw[<-j,aL]
 refine⟨cJ d,d.map Prod.fst,⟨fun a A=>?_,by rw[aL,y],fun H1 H2 H3 v w r s b=>?_⟩,i⟩
 ·have e:a<d.length:=ω;have t:=i.perm (List.Perm.swap ..);obtain⟨c,g⟩:=En l e t;have h:ay L a=d[a].2:=by rw[<-j];exact Ls e
  have p:eZ.wf d[a].1:=lD i .a (kz (cV e));have u:aI (ay L a).S/\aI (ay L a).T:=by
   rw[g,<-h] at p;exact p.1
  refine⟨c,by rw[LJ e,g,h],u,fun H1 H2 q=>?_⟩;have f:∀w,Cw B w0 H1 w->Sl w (ac c.Af (ay L a).F.length c.cf) (ay L a).F/\Sl w (ac c.Ab (ay L a).B.length c.cb) (ay L a).B/\Sl w (ac c.Ai (ay L a).I.length c.ci) (ay L a).I/\Sl w (ac c.Ao (ay L a).out.length c.co) (ay L a).out:=fun w b=>by
   have:=Sr e (b.perm q);rw[g,<-h] at this;exact this
  exact⟨⟨rfl,fun w b=>(f w b).1⟩,⟨rfl,fun w b=>(f w b).2.1⟩,⟨rfl,fun w b=>(f w b).2.2.1⟩,⟨rfl,fun w b=>(f w b).2.2.2⟩⟩
 have:=qL (v:=v) (H:=H3) l ((b.perm r).perm (List.Perm.cons _ s));rw[j] at this;exact this
theorem AV {v:Value} {L:List av} (g:cu H (an v L) H') (h:∀a b,U2 B w0 a L b->CW P n B w0 x Q env (an v b::a::H')):CW P n B w0 x Q env H:=fun c w f i=>by
 obtain⟨a,b,d,e⟩:=SB g i;exact h a b d c w f e
theorem SF.hmc {A:Option Addr} {xs:List eZ} {m c k:Nat} {a:MA} {y:av} (d:SF B w0 H A m c xs) (b:k<m) (e:xs.getD k default=kW a y) :
  ∀w,Cw B w0 H w->∀j v,([ac a.Af y.F.length a.cf,ac a.Ab y.B.length a.cb,ac a.Ai y.I.length a.ci,ac a.Ao y.out.length a.co,ai y.S,ai y.T]:List Value)[j]? =some v->w.cell? ⟨ab A,ao A+k*6+j,none⟩=some v:=
 fun w g j v f=>SF.cell d b default (by rw[e];exact f) w g
theorem SF.min {a:MA} {m:av} {w:World} (h:SF B w0 H a.Af m.F.length a.cf m.F/\SF B w0 H a.Ab m.B.length a.cb m.B/\SF B w0 H a.Ai m.I.length a.ci m.I/\SF B w0 H a.Ao m.out.length a.co m.out) (hi:aI m.S/\aI m.T) (b:Cw B w0 H w):fV w.heap.size w a m:=
 ⟨SF.at_ h.1 b,SF.at_ h.2.1 b,SF.at_ h.2.2.1 b,SF.at_ h.2.2.2 b,hi.1,hi.2⟩
theorem sT {c d e f g h:aO} {H1 H2 H3 H4 a b:List aO} (i:cu H c H1) (h2:cu H1 d H2) (j:cu H2 e H3) (k:cu H3 f H4) (l:cu H4 g a) (o:cu a h b):H.Perm ((c::d:: [e,f,g,h])++b):=
 i.trans (.cons _ (h2.trans (.cons _ (j.trans (.cons _ (k.trans (.cons _ (l.trans (.cons _ o)))))))))
theorem nX {a b c d:Value} {m:av} (hi:aI m.S/\aI m.T):∀(w:World) (F:Nat->Prop),Hs w [an a m.F,an b m.B,an c m.I,an d m.out] F->Ow.own w F [a,b,c,d,ai m.S,ai m.T] m:=
 fun _ _ e=>⟨a,b,c,d,rfl,hi,e⟩
end
end
