/- Lemmas of one proof. -/
import Derived.Test.YthfkmcbblnbfaaaGreatDoorM90W
import Derived.Test.YthfkmcbblnbfaaaGreatDoorM0W
import Derived.Test.YthfkmcbblnbfaaaGreatDoorM30W
import Derived.Test.YthfkmcbblnbfaaaGreatDoorM31W

namespace Go.Proofs.YthfkmcbblnbfaaaGreatDoor
set_option maxRecDepth 100000
set_option maxHeartbeats 16000000
open Go.RowKit
section
def ec (n:Nat):eE->List Int->List Int->Option eE
 | s,[],_=>some s
 | s,to_::r,l=>if (dK n s to_.toNat l).1=true then ec n (dK n s to_.toNat l).2 r l else none
def oq (fs:List aw) (f:aw) (s:eE):Option eE:=
 let k:=(s.todo.getD (s.todo.length - 1) 0).toNat
 let t:=pg fs f (bH f.C k) (s.at_.getD k [],false)
 if t.2=true then none else ec f.C.length ⟨s.at_,s.met,s.todo.take (s.todo.length - 1)⟩ (dX (bH f.C k) k) t.1
structure gH (n:Nat) (s:eE):Prop where
 al:s.at_.length=n
 ml:s.met.length=n
 tl:s.todo.length<=5000
 st:∀i,(s.at_.getD i []).length<=8
 td:∀x∈s.todo,0<=x/\x<n
theorem oG {n:Nat} {s:eE} (h:gH n s) {k:Nat} (j:k<=n) {l:List Int} (g:l.length<=8) (m:s.todo.length<5000):gH n (dK n s k l).2/\(dK n s k l).2.todo.length<=s.todo.length+1:=by
 have f:k≠n->∀a:List Int,a.length<=8->gH n ⟨s.at_.set k a,s.met.set k true,s.todo++ [(k:Int)]⟩/\(s.todo++ [(k:Int)]).length<=s.todo.length+1:=fun d a c=>by
  refine⟨⟨by simp[h.al],by simp[h.ml],by simp only[ar,aV];omega,fun e=>?_,fun i b=>?_⟩,σ⟩
  ·show ((s.at_.set k a).getD e []).length<=8;rw[jg (by rw[h.al];omega)]
   split
   ·exact c
   exact h.st e
  rcases dU.1 b with b | b
  ·exact h.td i b
  rw[cN.1 b];omega
 unfold dK
 split
 ·exact⟨h,Nat.le_succ _⟩
 rename_i d
 split
 ·split
  ·exact⟨h,Nat.le_succ _⟩
  rename_i a c
  split
  ·exact⟨h,Nat.le_succ _⟩
  exact f d a (by have:=(nm c).2;have:=h.st k;omega)
 exact f d l g
section
variable {B:Nat} {w0:World} {H:List aO}
abbrev rp (g1 g5 gs gx:Nat) (As:Option Addr) (cs:Nat) (l:List Int):List aO:=
 [ak g1 [.pointer (some ⟨gx,0,none⟩)] 221,ak g5 [.pointer (some ⟨gs,0,none⟩)] 271,ak gs [.slice As l.length cs,.bool false] 273,an (.slice As l.length cs) l]
theorem Kt (C:FC) (s:eE) (m:List jA) (L:List (Value×List Int)) (n:Option Addr) (o:Nat) (c d f:Nat) (b:Option Addr) (cs:Nat) (k:Nat) (z:k<=C.f.C.length) (A:C.f.C.length<=40) (l:List Int) (E:l.length<=8)
  (u:jU C.f.C.length m L s.at_) (j:gH C.f.C.length s) (w:World) (a:Cw B w0 (rp c d f C.gx b cs l++(kH C s m L n o++H)) w) :
  Calls Tryz.prog 224 #[ai (k:Int),af c,af d] w fun e w'=> ∃g:List jA×List (Value×List Int)×Option Addr×Nat,jU C.f.C.length g.1 g.2.1 (dK C.f.C.length s k l).2.at_/\
   e= .returned (.bool (!(dK C.f.C.length s k l).1))/\Cw B w0 (rp c d f C.gx b cs l++(kH C (dK C.f.C.length s k l).2 g.1 g.2.1 g.2.2.1 g.2.2.2++H)) w':=by
 refine bI Tryz.func224 rfl Tryz.ntmps224 rfl a ?_;dsimp only[rp,eQ,cB];refine aj ?_;refine eP [0,3,6,9,12,15,20,23,24,27] [] rfl [ak c [af C.gx] 221,ak d [af f] 271,ak f [ac b l.length cs,.bool false] 273]<|aj ?_;refine pE rfl (fl rfl rfl rfl mJ (fun w a=>Bd b cs l w (SF.at_ (SF.own rfl fc) a) ω)) (fun⟨h,i⟩ _=>?_)
 try dsimp only
 refine zN (fun w t=>uP (v:= ac h l.length i) (xs:=l) (L:=L) (t.msub (.s fc (.s fc .r)))) ?_;refine zW rfl rfl Tryz.call169 (fun w a=>FD C s m ((ac h l.length i,l)::L) n o k z A l h i .new (u.cons _) j.ml (by have:=j.tl;omega) (fun D=>by have:=j.st D;omega) w (a.msub ms)) (fun⟨y,q,p,r⟩ x=>?_);refine aP ?_;intro w a;exact⟨(y,q,p,r),x,rfl,a.msub ms⟩
structure nR (fs:List aw) (f:aw):Prop where
 op:∀i,i<f.C.length->J3 fs f (bH f.C i)
 to_:∀i,i<f.C.length->∀q∈dX (bH f.C i) i,0<=q/\q<=f.C.length
 n40:f.C.length<=40
theorem tw {n:Nat} :∀{s s':eE} {L:List Int} {k:Nat} {l:List Int},k<L.length->ec n s (L.take k) l=some s'->ec n s (L.take (k+1)) l=if (dK n s' (L.getD k 0).toNat l).1=true then some (dK n s' (L.getD k 0).toNat l).2 else none
 | s,s',[],k,l,b,_=>by simp at b
 | s,s',a::L,0,l,_,h=>by
  simp only[List.take_zero,ec,bE] at h;subst h;simp[ec]
 | s,s',a::L,k+1,l,b,h=>by
  simp only[is,ec] at h⊢
  split at h
  ·rename_i c;rw[if_pos c,tw (by simpa using b) h];simp
  cases h
theorem tx {n:Nat} :∀{s:eE} {L:List Int} {k:Nat} {l:List Int},ec n s (L.take k) l=none->ec n s L l=none
 | s,[],k,l,h=>by simpa using h
 | s,a::L,0,l,h=>by simp[ec] at h
 | s,a::L,k+1,l,h=>by
  simp only[is,ec] at h⊢
  split at h
  ·rename_i b;rw[if_pos b];exact tx h
  rename_i b;rw[if_neg b]
theorem wX {n:Nat} :∀{s s':eE} {L:List Int} {l:List Int},gH n s->(∀q∈L,0<=q/\q<=n)->l.length<=8->s.todo.length+L.length<5000->ec n s L l=some s'->gH n s'/\s'.todo.length<=s.todo.length+L.length
 | s,s',[],l,h,_,_,_,e=>by
  simp only[ec,bE] at e;subst e;exact⟨h,aH _⟩
 | s,s',a::L,l,h,c,b,i,e=>by
  simp only[ec] at e
  split at e
  ·have:=c a σ;rw[bC] at i;obtain⟨d,j⟩:=oG h (k:=a.toNat) ω b ω;obtain⟨f,m⟩:=wX d (fun q g=>c q (by simp[g])) b ω e;exact⟨f,by rw[bC];omega⟩
  cases e
theorem DY {fs:List aw} {f:aw} {o:bG} {s a:rj} (e:pg fs f o s=a) (h:a.2=false):a.1.length<=8:=by
 subst e;unfold pg at h⊢;simp only[Bool.or_eq_false_iff,decide_eq_false_iff_not] at h;show (jE fs f o s).1.length<=8;omega
theorem pA (o:bG) (pc:Int):(dX o pc).length<=2:=by
 unfold dX
 repeat (first | split | simp)
theorem Ng (C:FC) (s:eE) (S:List jA) (L:List (Value×List Int)) (F:Option Addr) (I:Nat) (r:Option eE) (e:oq C.fs C.f s=r) (ba:nR C.fs C.f) (ci:bO w0 B (.slice C.Ap C.fs.length C.cp) C.fs) (ch:bO w0 B (.slice C.A1 C.f.L.length C.c1) C.f.L) (am:bO w0 B (.slice C.A2 C.f.C.length C.c2) C.f.C)
  (ad:jU C.f.C.length S L s.at_) (y:gH C.f.C.length s) (cv:0<s.todo.length) (cw:s.todo.length<=4000) (w:World) (j:Cw B w0 (kH C s S L F I++H) w) :
  Calls Tryz.prog 170 #[.pointer (some ⟨C.gx,0,none⟩)] w fun e w'=> ∃g:List jA×List (Value×List Int)×Option Addr×Nat,(match r with | some n=>jU C.f.C.length g.1 g.2.1 n.at_ | none=>True)/\
   e= .returned (.bool r.isSome)/\Cw B w0 ((match r with | some n=>kH C n g.1 g.2.1 g.2.2.1 g.2.2.2 | none=> [])++H) w':=by
 obtain⟨N,Z,a,a4,a7,a3,a6,E,G,bf,bk,bg,bl⟩:=C;obtain⟨k,o,h⟩:=s;dsimp only[kH,eQ,cB] at *;obtain⟨d,ct⟩:∃d,h.length=d+1:=⟨h.length - 1,by omega⟩
 have a1:h.getD d 0∈h:=by rw[ap,aq (by omega)];exact cV _
 have bw:=y.td _ a1;obtain⟨f,bp⟩:∃f:Nat,h.getD d 0=(f:Int):=⟨(h.getD d 0).toNat,by have:=bw.1;omega⟩
 have O:f<a.C.length:=by have:=bw.2;omega
 obtain⟨i,X,a8⟩:∃i X,pg Z a (bH a.C f) (k.getD f [],false)=(i,X):=⟨_,_,rfl⟩
 have e:(if X=true then none else ec a.C.length ⟨k,o,h.take d⟩ (dX (bH a.C f) f) i)=r:=by
  unfold oq at e;dsimp only at e;rw[show h.length - 1=d from by omega,bp,bu,a8] at e;exact e
 have ck:(h.take d).length=d:=by rw[aB];omega
 have:=EN am O;refine bI Tryz.func170 rfl Tryz.ntmps170 rfl j<|aj ?_;intro J _;refine aC ?_;refine bL<|cE<|bQ<|dR (df fc Tryz.isAgg221 rfl rfl (by rfl)) rfl rfl ?_;refine aC ?_;refine aC ?_;refine dR (df fc gX rfl rfl (by rfl)) rfl rfl ?_;refine dR (lE az rfl rfl) rfl rfl<|dR (zT rfl rfl rfl (by omega)) rfl rfl<|aC ?_;refine bL<|cT (t:=3) (v':= .int .i64 (d:Int)) rfl (by congr 1;omega)<|aj ?_;refine cP _ rfl (SF.own rfl fc) ?_;refine nj rfl (SF.own rfl fc) ?_;refine aC ?_;refine bL<|ek (fun w x=>gV x (xs:=h) fc) fun cr=>?_;refine cT (t:=4) (v':= .int .i64 (f:Int)) rfl (by rw[bp])<|aj ?_;refine bq [0,3,6,9,12,15,18,21,24,29] [9] rfl<|aj ?_;refine tE rfl (iY (k:=d) az aZ (by omega) rfl rfl rfl) ?_;refine aC ?_;refine aC ?_;refine dx rfl (dk _ fc gv rfl rfl rfl rfl rfl (by rfl) rfl (by rfl)) rfl rfl (.inl rfl) (fun _ _=>?_) ia;refine Et<|dm (fun w x=>tL (k:=d) (xs:=h) (A:=F) (m:=h.length) (c:=I) (by omega) (x.msub (.s fc .r))) ?_;have a9:=ad.el f O;have:(k.getD f []).length<=8:=y.st f;refine aj ?_;refine cP _ rfl (SF.own ad.hl fc) ?_;refine ef rfl (SF.hdr (SF.own ad.hl fc) O) ?_;refine rL (fun w x=>a9.form x fc) ?_;rintro⟨bc,bi,b0⟩;rw[b0] at a9;refine bj (t:=34) (v':= .slice bc (k.getD f []).length bi) rfl b0 ?_;refine oE (fl rfl rfl rfl mJ (fun w j=>Bd bc bi (k.getD f []) w (a9.sl j fc) (by omega))) (fun⟨b3,b7⟩ _=>?_);refine aP ?_;refine fun K _=>aj ?_;intro M _;refine dN (dk _ fc Tryz.sizeOf271 rfl rfl rfl rfl rfl (by rfl) rfl (by rfl)) rfl rfl (fun _ _=>?_);refine bL<|aj ?_;refine eP [0,3,6,9,12,15,18,21,24,27,30,33,36,39,42,45,48,53] [] rfl [ak J [.pointer (some ⟨N,0,none⟩)] 221,ak N [.slice a4 Z.length a7,.int .i64 a.params,.slice a3 a.L.length a6,.int .i64 a.result,.slice E a.C.length G,.slice bf a.C.length bk,.slice bg a.C.length bl,.slice F d I] 224,ak M [.pointer (some ⟨K,0,none⟩)] 271]<|aj ?_;refine tE rfl (aX eH gN (.ro am) (by omega) rfl rfl rfl) ?_;refine tE rfl (eC (cs:= [_,_]) (SF.op (.ro am) (by omega)) rfl rfl zu gN) ?_;refine zW rfl rfl Tryz.call222 (fun w j=>Pq K Z a (bH a.C f) a8 b3 a4 a3 E b7 a7 a6 G (ba.op f O) ci ch (by omega) w (j.msub (.s fc (.s fc .r)))) (fun⟨V,Y⟩ _=>?_);refine aP ?_;refine cc rfl (fun R=>?_) (fun R=>?_)
 ·rw[if_pos R] at e;subst e;refine aj ?_;intro w j;exact⟨(S,L,F,I),trivial,rfl,j.msub ms⟩
 have R:X=false:=R;subst R;have al:=DY a8 rfl;have al:i.length<=8:=al;rw[if_neg (by decide)] at e;obtain⟨b,bn⟩:∃b,dX (bH a.C f) f=b:=⟨_,rfl⟩
 have bb:=ba.to_ f O;have cg:=pA (bH a.C f) f;rw[bn] at bb cg e;have cd:∀v,Sl v (.slice E a.C.length G) a.C->Calls Tryz.prog 223 #[.slice E a.C.length G,.int .i64 (f:Int)] v fun e w'=> ∃g:Option Addr×Nat,True/\e= .returned (.slice g.1 b.length g.2)/\Cw v.heap.size v [an (.slice g.1 b.length g.2) b] w':=fun v x=>by
  have:=My E G a.C f v x O;rw[bn] at this;exact this
 refine aj ?_;refine eu rfl Tryz.call223 (fun w j=>cd w (j.ro am)) (fun⟨P,Q⟩ _=>?_);refine aP ?_;obtain⟨C,p⟩:∃C:FC,C=⟨N,Z,a,a4,a7,a3,a6,E,G,bf,bk,bg,bl⟩:=⟨_,rfl⟩
 have cb:gH a.C.length ⟨k,o,h.take d⟩:=⟨y.al,y.ml,by show (h.take d).length<=_;omega,y.st,fun cm cl=>y.td cm (iG cl)⟩
 have cj:∀(l:Nat) (g:eE×List jA×List (Value×List Int)×Option Addr×Nat),l<b.length->((ec a.C.length ⟨k,o,h.take d⟩ (b.take l) i=some g.1/\gH a.C.length g.1/\g.1.todo.length<=d+l)/\jU a.C.length g.2.1 g.2.2.1 g.1.at_)->∀w,Cw B w0 ((fun g:eE×List jA×List (Value×List Int)×Option Addr×Nat=>rp J M K N V Y i++(kH C g.1 g.2.1 g.2.2.1 g.2.2.2.1 g.2.2.2.2++(an (.slice P b.length Q) b::H))) g) w->
   Calls Tryz.prog 224 ([Value.int .i64 (b.getD l 0)]++(#[.pointer (some ⟨J,0,none⟩),.pointer (some ⟨M,0,none⟩)]:Array Value).toList).toArray w fun e w'=> ∃q:Bool×eE×List jA×List (Value×List Int)×Option Addr×Nat,
    (if q.1 then ec a.C.length ⟨k,o,h.take d⟩ b i=none else (ec a.C.length ⟨k,o,h.take d⟩ (b.take (l+1)) i=some q.2.1/\gH a.C.length q.2.1/\q.2.1.todo.length<=d+(l+1))/\jU a.C.length q.2.2.1 q.2.2.2.1 q.2.1.at_)/\e= .returned (.bool q.1)/\Cw B w0 ((fun g:eE×List jA×List (Value×List Int)×Option Addr×Nat=>rp J M K N V Y i++(kH C g.1 g.2.1 g.2.2.1 g.2.2.2.1 g.2.2.2.2++(an (.slice P b.length Q) b::H))) q.2) w':=by
  rintro l ⟨n,a0,W,a2,a5⟩ bo ⟨⟨b9,bm,cp⟩,ca⟩ v b1;have a1:b.getD l 0∈b:=by rw[ap,aq bo];exact cV _
  obtain⟨D,bs⟩:∃D:Nat,b.getD l 0=(D:Int):=⟨(b.getD l 0).toNat,by have:=bb _ a1;omega⟩
  have bv:D<=a.C.length:=by have:=bb _ a1;omega
  have z:=tw bo b9;rw[bs,bu] at z;have ce:=oG bm bv al (by have:=y.tl;dsimp only at *;omega);dsimp only at *;rw[bs];refine(Kt (H:=an (.slice P b.length Q) b::H) C n a0 W a2 a5 J M K V Y D (by rw[p];exact bv) (by rw[p];exact ba.n40) i al (by rw[p];exact ca) (by rw[p];exact bm) v (by rw[p] at b1⊢;exact b1)).mono ?_;rintro co w' ⟨⟨cf,b5,b4,b8⟩,T,U,b2⟩;rw[p] at T U;dsimp only at T U;refine⟨(!(dK a.C.length n D i).1,(dK a.C.length n D i).2,cf,b5,b4,b8),?_,U,by rw[p] at b2⊢;exact b2⟩;dsimp only
  cases hb1:(dK a.C.length n D i).1
  ·rw[hb1] at z;rw[if_neg (by decide)] at z;simp only[Bool.not_false,if_true];exact tx z
  rw[hb1] at z;rw[if_pos rfl] at z;simp only[Bool.not_true,pM,if_false];exact⟨⟨z,ce.1,by omega⟩,T⟩
 refine du rfl RR (fun w j=>Fy (B:=B) (w0:=w0) (fun l g=>(ec a.C.length ⟨k,o,h.take d⟩ (b.take l) i=some g.1/\gH a.C.length g.1/\g.1.todo.length<=d+l)/\jU a.C.length g.2.1 g.2.2.1 g.1.at_) (fun _=>ec a.C.length ⟨k,o,h.take d⟩ b i=none) (fun g:eE×List jA×List (Value×List Int)×Option Addr×Nat=>rp J M K N V Y i++(kH C g.1 g.2.1 g.2.2.1 g.2.2.2.1 g.2.2.2.2++(an (.slice P b.length Q) b::H))) P Q b 224 _ Tryz.call224 (fun g=> .own rfl fc) (by omega) cj (⟨k,o,h.take d⟩,S,L,F,I) ⟨⟨rfl,cb,by show (h.take d).length<=_;omega⟩,ad⟩ w (by dsimp only[kH,rp,eQ,cB];rw[p];dsimp only;rw[ck];exact j.msub ms)) (fun⟨b6,n,a0,W,a2,a5⟩ u=>?_);refine aP ?_;intro w j
 cases b6
 ·have u:(ec a.C.length ⟨k,o,h.take d⟩ (b.take b.length) i=some n/\gH a.C.length n/\n.todo.length<=d+b.length)/\jU a.C.length a0 W n.at_:=u;rw[aR,e] at u;obtain⟨⟨T,_,_⟩,U⟩:=u;subst T;refine⟨(a0,W,a2,a5),U,rfl,?_⟩;dsimp only[kH,rp,eQ,cB] at j⊢;rw[p] at j;exact j.msub ms
 have u:ec a.C.length ⟨k,o,h.take d⟩ b i=none:=u;rw[e] at u;subst u;refine⟨(S,L,F,I),trivial,rfl,?_⟩;dsimp only[kH,rp,eQ,cB] at j⊢;exact j.msub ms
end
end
section
def ry (l:List Int):Nat:=l.countP fun t=>decide (t=3)
def mi (s:eE) (i:Nat):Nat:=if s.met.getD i false=true then ry (s.at_.getD i []) else 9
def tX (n:Nat) (s:eE):Nat:=((List.range n).map (mi s)).sum
def mu (n:Nat) (s:eE):Nat:=tX n s+s.todo.length
theorem Py {n k:Nat} {f g:Nat->Nat} (e:k<n) (h:∀i,i≠k->f i=g i):((List.range n).map g).sum+f k=((List.range n).map f).sum+g k:=by
 induction n with
 | zero=>omega
 | succ n d=>
  simp only[iB,db,vF,eM,iI,B9,List.sum_nil]
  by_cases a:k=n
  ·subst a;have:(List.range k).map f=(List.range k).map g:=oJ fun i c=>h i (by have:=jj.1 c;omega);rw[this];omega
  have:=d ω;have:=h n (fun b=>a b.symm);omega
theorem GT {a b:Int} (h:eq a b≠0):eq a b=a\/(a=3/\eq a b=2):=by
 unfold eq cH at *
 by_cases c:a=b
 ·left;simp[c]
 by_cases d:a=3/\b=2
 ·right;obtain⟨rfl,rfl⟩:=d;simp
 by_cases e:b=3/\a=2
 ·left;obtain⟨rfl,rfl⟩:=e;simp
 exfalso
 apply h
 have g:¬(a=3/\b=2):=d;have i:¬(b=3/\a=2):=e;have j:¬b=a:=fun f=>c f.symm;simp[c,j,g,i]
theorem yf:∀{a l j:List Int},cy a l=some j->ry j<=ry a/\(j≠a->ry j<ry a)
 | [],[],j,h=>by simp[cy] at h;subst h;simp
 | [],_::_,j,h=>by simp[cy] at h
 | _::_,[],j,h=>by simp[cy] at h
 | a::l,b::m,j,h=>by
  simp only[cy] at h
  split at h
  ·cases h
  rename_i e
  cases c:cy l m with
  | none=>rw[c] at h;cases h
  | some k=>
   rw[c] at h;simp only[Option.map_some,bE] at h;subst h;obtain⟨g,h2⟩:=yf c;unfold ry at *;simp only[List.countP_cons];rcases GT e with d | ⟨rfl,d⟩
   ·rw[d];refine⟨ω,fun f=>?_⟩;have:k≠l:=fun c=>f (by rw[c]);have:=h2 this;omega
   rw[d];simp only[decide_true,if_true];have:(if decide ((2:Int)=3)=true then 1 else 0)=0:=κ;rw[this];exact⟨ω,fun _=>ω⟩
theorem ER (l:List Int):ry l<=l.length:=List.countP_le_length
theorem C2 {n:Nat} {s:eE} (h:gH n s) {k:Nat} (p:k<=n) {l:List Int} (q:l.length<=8):mu n (dK n s k l).2<=mu n s:=by
 have i:k<n->∀a:List Int,ry a<mi s k->mu n ⟨s.at_.set k a,s.met.set k true,s.todo++ [(k:Int)]⟩<=mu n s:=fun b a e=>by
  have j:=Py (f:=mi s) (g:=mi ⟨s.at_.set k a,s.met.set k true,s.todo++ [(k:Int)]⟩) b fun t d=>by
   unfold mi;rw[jg (by rw[h.ml];exact b),jg (by rw[h.al];exact b),if_neg d,if_neg d]
  have m:mi ⟨s.at_.set k a,s.met.set k true,s.todo++ [(k:Int)]⟩ k=ry a:=by
   unfold mi;rw[jg (by rw[h.ml];exact b),jg (by rw[h.al];exact b),if_pos rfl,if_pos rfl,if_pos rfl]
  rw[m] at j;unfold mu tX;simp only[ar,aV];omega
 unfold dK
 split
 ·exact aH _
 rename_i r
 split
 ·rename_i c
  split
  ·exact aH _
  rename_i a e
  split
  ·exact aH _
  rename_i o;exact i ω a (by unfold mi;rw[if_pos c];exact(yf e).2 o)
 rename_i c;exact i ω l (by unfold mi;rw[if_neg c];have:=ER l;omega)
theorem wY {n:Nat} :∀{s s':eE} {L:List Int} {l:List Int},gH n s->(∀q∈L,0<=q/\q<=n)->l.length<=8->s.todo.length+L.length<5000->ec n s L l=some s'->mu n s'<=mu n s
 | s,s',[],l,h,_,_,_,e=>by
  simp only[ec,bE] at e;subst e;exact aH _
 | s,s',a::L,l,h,c,b,g,e=>by
  simp only[ec] at e
  split at e
  ·have:=c a σ;rw[bC] at g;obtain⟨d,i⟩:=oG h (k:=a.toNat) ω b ω;exact dW (wY d (fun q f=>c q (by simp[f])) b ω e) (C2 h ω b)
  cases e
theorem yI {fs:List aw} {f:aw} (k:nR fs f) {s s':eE} (h:gH f.C.length s) (u:0<s.todo.length) (v:s.todo.length<=4000) (e:oq fs f s=some s'):gH f.C.length s'/\mu f.C.length s'<mu f.C.length s:=by
 obtain⟨b,t⟩:∃b,s.todo.length=b+1:=⟨s.todo.length - 1,ω⟩
 have n:s.todo.getD b 0∈s.todo:=by rw[ap,aq ω];exact cV _
 have:=h.td _ n;obtain⟨a,m⟩:∃a:Nat,s.todo.getD b 0=(a:Int):=⟨(s.todo.getD b 0).toNat,ω⟩
 have i:a<f.C.length:=ω;unfold oq at e;dsimp only at e;rw[show s.todo.length - 1=b from by omega,m,bu] at e
 split at e
 ·cases e
 rename_i c;have c:(pg fs f (bH f.C a) (s.at_.getD a [],false)).2=false:=ψ c;have g:=DY rfl c;have d:gH f.C.length ⟨s.at_,s.met,s.todo.take b⟩:=⟨h.al,h.ml,by show (s.todo.take b).length<=_;rw[aB];omega,h.st,fun p o=>h.td p (iG o)⟩
 have:=pA (bH f.C a) a;have j:(s.todo.take b).length+(dX (bH f.C a) a).length<5000:=by rw[aB];omega
 have l:=wX d (k.to_ a i) g j e;have:=wY d (k.to_ a i) g j e;refine⟨l.1,?_⟩;have:mu f.C.length ⟨s.at_,s.met,s.todo.take b⟩+1=mu f.C.length s:=by
  unfold mu;show tX f.C.length s+(s.todo.take b).length+1=_;rw[aB];omega
 omega
def nF (fs:List aw) (f:aw):Nat->eE->Option eE
 | 0,_=>none
 | k+1,s=>if s.todo.length=0 then some s else match oq fs f s with
  | none=>none
  | some s'=>nF fs f k s'
theorem Az {fs:List aw} {f:aw} (a:nR fs f):∀(k m:Nat) (s:eE),gH f.C.length s->mu f.C.length s<=4000->mu f.C.length s<k->mu f.C.length s<m->nF fs f k s=nF fs f m s
 | 0,_,_,_,_,h,_=>absurd h (by omega)
 | _+1,0,_,_,_,_,h=>absurd h (by omega)
 | k+1,m+1,s,d,c,i,h2=>by
  simp only[nF]
  split
  ·rfl
  rename_i l
  cases e:oq fs f s with
  | none=>rfl
  | some s'=>
   have g:s.todo.length<=4000:=by unfold mu at c;omega
   obtain⟨b,j⟩:=yI a d ω g e;exact Az a k m s' b ω ω ω
def iL (n:Nat):eE:=⟨List.replicate n [],List.replicate n false,[]⟩
def jr (n:Nat):eE:=(dK n (iL n) 0 []).2
def qT (fs:List aw) (f:aw):Option eE:=nF fs f (mu f.C.length (jr f.C.length)+1) (jr f.C.length)
structure la where
 pc:Int
 K:List Int
 deriving DecidableEq
def mM (s:eE) (i:Nat):List la:=(List.range i).filterMap fun k=>if s.met.getD k false=true then some ⟨k,s.at_.getD k []⟩ else none
def cM (fs:List aw) (f:aw):List la×Bool:=match qT fs f with
 | none=>([],false)
 | some s=>(mM s f.C.length,true)
theorem we (n:Nat):gH n (iL n):=by
 refine⟨by simp[iL],by simp[iL],by simp[iL],fun a=>?_,by simp[iL]⟩;show ((List.replicate n ([]:List Int)).getD a []).length<=8;rw[ap,sD]
 split <;> simp
theorem Nh (n:Nat):mu n (iL n)<=9*n:=by
 unfold mu tX;have:∀a,((List.range a).map (mi (iL n))).sum<=9*a:=fun a=>by
  induction a with
  | zero=>simp
  | succ a c=>
   simp only[iB,db,vF,eM,iI,B9,List.sum_nil];have:mi (iL n) a<=9:=by
    unfold mi
    split
    ·rename_i b;have:(iL n).met.getD a false=false:=by
      show (List.replicate n false).getD a false=false;rw[ap,sD]
      split <;> rfl
     rw[this] at b;cases b
    exact aH _
   omega
 have:=this n;show _+([]:List Int).length<=_;simpa using this
theorem Cm {n:Nat} (_:0<n):gH n (jr n)/\mu n (jr n)<=9*n:=by
 have a:=oG (we n) (k:=0) (aS _) (l:= []) σ (by simp[iL]);have b:=C2 (we n) (k:=0) (aS _) (l:= []) σ;exact⟨a.1,dW b (Nh n)⟩
end
section
instance:aG la where
 k:=2
 rep w B cs x:= ∃v,cs= [.int .i64 x.pc,v]/\aI x.pc/\bO w B v x.K
 len h:=by obtain⟨v,h,_⟩:=h;rw[h];rfl
 keep h hc:=by obtain⟨v,h,hi,hs⟩:=h;exact⟨v,h,hi,hs.keep hc⟩
 more h hb:=by obtain⟨v,h,hi,hs⟩:=h;exact⟨v,h,hi,hs.more hb⟩
 one h:=by obtain⟨v,h,hi,hs⟩:=h;obtain⟨A,c,rfl,_⟩:=hs.form;rw[h];simp[Value.oneCell']
structure iT where
 pc:Int
 v:Value
instance:aG iT where
 k:=2
 rep _ _ cs h:=cs= [.int .i64 h.pc,h.v]/\aI h.pc/\h.v.oneCell'=true
 len h:=by rw[h.1];rfl
 keep h _:=h
 more h _:=h
 one h:=by rw[h.1];simpa [Value.oneCell'] using h.2.2
instance:Ow iT where
 ty:=105
 own _ F cs h:=(cs= [.int .i64 h.pc,h.v]/\aI h.pc/\h.v.oneCell'=true)/\∀b,¬F b
 rd_ h:=h.1
 lt h hb:=(h.2 _ hb).elim
 frame h _:=h
 cong h hf:=⟨h.1,fun b hb=>h.2 b ((hf b).2 hb)⟩
instance:dc iT where
 enc h:= [.int .i64 h.pc,h.v]
 wf h:=aI h.pc/\h.v.oneCell'=true
 rep_iff:=kA
 own_iff:=kA
structure oH (es:List iT) (L:List (Value×List Int)) (xs:List la):Prop where
 len:es.length=xs.length
 el:∀i (h:i<es.length) (h2:i<xs.length),es[i].pc=xs[i].pc/\lR L es[i].v xs[i].K
theorem oH.nil_ {L:List (Value×List Int)} :oH [] L []:=⟨rfl,fun b a=>by simp at a⟩
theorem oH.snoc {a:List iT} {L:List (Value×List Int)} {xs:List la} (h:oH a L xs) {e:iT} {x:la} (d:e.pc=x.pc) (h2:lR L e.v x.K):oH (a++ [e]) L (xs++ [x]):=
 ⟨by simp[h.len],fun b f i=>by
  by_cases c:b<a.length
  ·rw[List.getElem_append_left c,List.getElem_append_left (by have:=h.len;omega)];exact h.el b c (by have:=h.len;omega)
  rw[ar,aV] at f;have g:=h.len;have:b=a.length:=ω;subst this;rw[List.getElem_append_right (aH _),List.getElem_append_right ω];simp[d,h2,g]⟩
theorem Qb {w:World} {F:Nat->Prop} {L:List (Value×List Int)} {v:Value} {xs:List Int} (h:lR L v xs) (c:Hs w (L.map BF) F):Sl w v xs:=by
 rcases h with ⟨rfl,rfl⟩ | h
 ·exact Sl.nil_
 obtain⟨a,b,_⟩:=Hs.mem (kz (f:=BF) h) c;exact da.sl (show da w a v xs from b)
theorem Cv {a:List iT} {L:List (Value×List Int)} {xs:List la} (b:oH a L xs) {v:Value} :∀w F,Hs w [an v a,gO L] F->Sl w v xs:=by
 rintro w F ⟨m,N,e,⟨n,O,f,Q,_,_⟩,_,_⟩;have e:da w m v a:=e;have f:Hs w (L.map BF) n:=f;obtain⟨l,p,z,D,E,G,I⟩:=e.sl;refine⟨l,p,by rw[z,b.len],by rw[<-b.len];exact D,E,by rw[<-b.len];exact G,fun q=>?_⟩;obtain⟨o,J,r,s,x⟩:=I (by rw[b.len];exact q);refine⟨o,J,r,s,fun c M A=>?_⟩;have g:=(bt.1 A)
 obtain⟨j,g⟩:=g;have i:c<a.length:=by rw[b.len];exact j
 obtain⟨P,⟨u,y,R⟩,t⟩:=x c a[c] (aq i);obtain⟨d,h⟩:=b.el c i j;rw[g] at d h;subst u;refine⟨[ai M.pc,a[c].v],⟨a[c].v,rfl,by rw[<-d];exact y,Qb h f⟩,fun C K k=>?_⟩;rw[<-d] at k;exact t C K k
theorem wQ (s:eE) (i:Nat):mM s (i+1)=if s.met.getD i false=true then mM s i++ [⟨i,s.at_.getD i []⟩] else mM s i:=by
 unfold mM;rw[iB,List.filterMap_append]
 split
 ·rename_i a;simp only[List.filterMap_cons,List.filterMap_nil];rw[if_pos a]
 rename_i a;simp only[List.filterMap_cons,List.filterMap_nil];rw[if_neg a];simp
theorem Fm (s:eE) (i:Nat):(mM s i).length<=i:=by
 have:=List.length_filterMap_le (fun a=>if s.met.getD a false=true then some (⟨a,s.at_.getD a []⟩:la) else none) (List.range i);rw[kD] at this;exact this
theorem og:(Tryz.prog.info? 35).map (fun i=>(i.zero,i.size,i.bytes))=some (some (ac none 0 0),1,24):=by kernel_rfl
theorem Bl:(Tryz.prog.info? 105).map (fun i=>(i.zero,i.size,i.bytes))=some (some (.agg #[ai 0,ac none 0 0]),2,32):=by kernel_rfl
theorem ma {α:Type} (n i:Nat) (x:α):(List.replicate n x).getD i x=x:=by
 rw[ap,sD]
 split <;> rfl
theorem tv (A:Option Addr) (c:Nat) (fs:List aw) (k:Nat) (w:World) (J:Sl w (.slice A fs.length c) fs) (bf:k<fs.length) (E:nR fs (au fs k)) (al:0<(au fs k).C.length) :
  Calls Tryz.prog 117 #[.agg #[.slice A fs.length c],.int .i64 (k:Int)] w fun e w'=> ∃g:(Option Addr×Nat)×List iT×List (Value×List Int),oH g.2.1 g.2.2 (cM fs (au fs k)).1/\e= .returned (.tuple #[.slice g.1.1 g.2.1.length g.1.2,.bool (cM fs (au fs k)).2])/\
   Cw w.heap.size w [an (.slice g.1.1 g.2.1.length g.1.2) g.2.1,gO g.2.2] w':=by
 obtain⟨q,r,i,l,ad,Y,ba,Q⟩:=J.fn bf;generalize au fs k=a at ad Y ba Q E al⊢;have bk:=E.n40;refine enter Tryz.func117 rfl Tryz.ntmps117 rfl<|aj ?_;refine fun bm _=>aj ?_;refine cP _ rfl (.ro J)<|aj ?_;refine ef rfl (fun w p=>Q _ w p 3 _ rfl) ?_;refine aC ?_;refine bL<|dG (fun _:Nat×Nat×Nat=>True) (fun g=> [(6,.slice i a.C.length l),(7,.pointer (some ⟨g.2.2,0,none⟩))]) (fun g=> [ak g.2.2 [.slice A fs.length c,.int .i64 a.params,.slice q a.L.length r,.int .i64 a.result,.slice i a.C.length l,.slice (some ⟨g.1,0,none⟩) a.C.length a.C.length,.slice (some ⟨g.2.1,0,none⟩) a.C.length a.C.length,.slice none 0 0] 224,an (.slice (some ⟨g.1,0,none⟩) a.C.length a.C.length) (List.replicate a.C.length mo),an (.slice (some ⟨g.2.1,0,none⟩) a.C.length a.C.length) (List.replicate a.C.length false)]) ?_ ?_
 ·refine jh (.still 0 (.still 1 (.still 2 (.still 3 (.still 4 (.still 5 (.still 6 (.still 7 (.still 9 (.still 10 (.pick 8 (.pick 11 (.still 12 (.pick 13 (.still 14 .done) .stop)) .stop) (.pick 11 (.pick 8 (.still 12 (.pick 13 (.still 14 .done) .stop)) .stop) .stop)))))))))))) [] rfl (by kernel_rfl) (by kernel_rfl) ?_;refine aj ?_;refine tE rfl (aX ff fw (.ro J) (by omega) rfl rfl rfl) ?_;refine tE rfl (eC (Q _) rfl rfl zv fw)<|aj ?_;refine dx rfl (oR (α:=jA) mo eI og rfl (fun w=>⟨⟨rfl,rfl⟩,fun _ h=>h⟩) rfl (by omega) rfl rfl rfl) rfl rfl (.inr fun _=>ha) (fun m _=>?_) ?_
  ·refine pE rfl (oR (α:=Bool) false oY zq rfl (fun w=>⟨rfl,fun _ h=>h⟩) rfl (by omega) rfl rfl rfl) (fun n _=>aj ?_);refine fun f _=>aj ?_;refine bJ<|bX (m,n,f) trivial
  refine pE rfl (oR (α:=Bool) false oY zq rfl (fun w=>⟨rfl,fun _ h=>h⟩) rfl (by omega) rfl rfl rfl) (fun n _=>?_);refine pE rfl (oR (α:=jA) mo eI og rfl (fun w=>⟨⟨rfl,rfl⟩,fun _ h=>h⟩) rfl (by omega) rfl rfl rfl) (fun m _=>aj ?_);refine fun f _=>aj ?_;refine bJ<|bX (m,n,f) trivial
 rintro⟨m,n,f⟩ _
 try dsimp only
 have a6:jU a.C.length (List.replicate a.C.length mo) [] (iL a.C.length).at_:=⟨by simp,by simp[iL],fun d _=>by
  show lR [] ((List.replicate a.C.length mo).getD d mo).v ((List.replicate a.C.length ([]:List Int)).getD d []);rw[ma,ma];exact .nil_⟩
 have am:=Cm al;have a8:∀N,Cw w.heap.size w (kH (⟨f,fs,a,A,c,q,r,i,l,some ⟨m,0,none⟩,a.C.length,some ⟨n,0,none⟩,a.C.length⟩:FC) (iL a.C.length) (List.replicate a.C.length mo) [] none 0++ []) N->Calls Tryz.prog 169 #[.pointer (some ⟨f,0,none⟩),.int .i64 0,.slice none 0 0] N fun e w'=> ∃g:List jA×List (Value×List Int)×Option Addr×Nat,jU a.C.length g.1 g.2.1 (jr a.C.length).at_/\
   e= .returned (.bool (dK a.C.length (iL a.C.length) 0 []).1)/\Cw w.heap.size w (kH (⟨f,fs,a,A,c,q,r,i,l,some ⟨m,0,none⟩,a.C.length,some ⟨n,0,none⟩,a.C.length⟩:FC) (jr a.C.length) g.1 g.2.1 g.2.2.1 g.2.2.2++ []) w':=fun N h=>
  FD (⟨f,fs,a,A,c,q,r,i,l,some ⟨m,0,none⟩,a.C.length,some ⟨n,0,none⟩,a.C.length⟩:FC) (iL a.C.length) (List.replicate a.C.length mo) [] none 0 0 (aS _) bk [] none 0 .nil_ a6 (by simp[iL]) (by simp[iL]) (fun d=>by have:=(we a.C.length).st d;omega) N h
 refine dm (fun w h=>mh (Cw.nilO Int h))<|aj ?_;refine du rfl Tryz.call169 (fun w p=>a8 w (p.msub ms)) (fun⟨t,j,x,y⟩ s=>?_);refine aP ?_;rw[et];refine jJ (fun g:eE×List jA×List (Value×List Int)×Option Addr×Nat=>(qT fs a=some g.1/\gH a.C.length g.1)/\jU a.C.length g.2.1 g.2.2.1 g.1.at_) (fun g=> [(6,.slice i a.C.length l),(7,.pointer (some ⟨f,0,none⟩))]) (fun g=>kH (⟨f,fs,a,A,c,q,r,i,l,some ⟨m,0,none⟩,a.C.length,some ⟨n,0,none⟩,a.C.length⟩:FC) g.1 g.2.1 g.2.2.1 g.2.2.2.1 g.2.2.2.2) ?_ ?_
 ·refine cZ (fun g:eE×List jA×List (Value×List Int)×Option Addr×Nat=>((nF fs a (mu a.C.length g.1+1) g.1=qT fs a/\gH a.C.length g.1)/\jU a.C.length g.2.1 g.2.2.1 g.1.at_)/\mu a.C.length g.1<=400) (fun g=>mu a.C.length g.1) (fun g=> [(6,.slice i a.C.length l),(7,.pointer (some ⟨f,0,none⟩))]) (fun g=>kH (⟨f,fs,a,A,c,q,r,i,l,some ⟨m,0,none⟩,a.C.length,some ⟨n,0,none⟩,a.C.length⟩:FC) g.1 g.2.1 g.2.2.1 g.2.2.2.1 g.2.2.2.2) (jr a.C.length,t,j,x,y) (⟨⟨⟨rfl,am.1⟩,s⟩,by show mu a.C.length (jr a.C.length)<=_;have:=am.2;omega⟩) ?_;rintro⟨b,t,j,x,y⟩ D
  try dsimp only
  obtain⟨⟨⟨Z,z⟩,s⟩,bi⟩:((nF fs a (mu a.C.length b+1) b=qT fs a/\gH a.C.length b)/\jU a.C.length t j b.at_)/\mu a.C.length b<=400:=D;have:b.todo.length<=400:=by unfold mu at bi;omega
  dsimp only[kH];refine ax (fun bl=>?_) (fun bl=>?_)
  ·have M:0<b.todo.length:=by omega
   obtain⟨u,V⟩:∃u,oq fs a b=u:=⟨_,rfl⟩
   have C:=Z;rw[nF,if_neg (by omega),V] at C;refine aj ?_;refine du rfl Tryz.call170 (fun w p=>Ng (H:= []) (⟨f,fs,a,A,c,q,r,i,l,some ⟨m,0,none⟩,a.C.length,some ⟨n,0,none⟩,a.C.length⟩:FC) b t j x y u V E J ad Y s z M (by omega) w (p.msub ms)) (fun⟨a9,a3,a1,a4⟩ a7=>?_);refine aP ?_;refine cc rfl (fun U=>?_) (fun U=>?_)
   ·obtain rfl:u=none:=by cases u with | none=>rfl | some o=>cases U
    have hent:cM fs a=([],false):=by unfold cM;rw[<-C]
    rw[hent];refine aj ?_;intro w p;exact⟨((none,0),[],[]),.nil_,rfl,Cw.nilO iT (mh (p.msub (T:= []) ms))⟩
   obtain⟨o,rfl⟩:∃o,u=some o:=by cases u with | none=>cases U | some o=>exact⟨o,rfl⟩
   have K:=yI E z M (by omega) V;have bc:nF fs a (mu a.C.length o+1) o=qT fs a:=by
    rw[<-C];exact Az E _ _ o K.1 (by omega) (by omega) K.2
   dsimp only[et];rw[et];refine aj ?_;refine DM (o,a9,a3,a1,a4) (⟨⟨⟨bc,K.1⟩,a7⟩,by show mu a.C.length o<=_;omega⟩) (K.2)
  have M:b.todo.length=0:=by omega
  have C:=Z;rw[nF,if_pos M] at C;refine aj ?_;refine bX (b,t,j,x,y) (⟨⟨C.symm,z⟩,s⟩)
 rintro⟨b,t,j,x,y⟩ D;obtain⟨⟨D,z⟩,s⟩:(qT fs a=some b/\gH a.C.length b)/\jU a.C.length t j b.at_:=D;have hent:cM fs a=(mM b a.C.length,true):=by unfold cM;rw[D]
 rw[hent];dsimp only[kH];refine dm (fun w h=>Cw.nilO iT h)<|aj ?_;refine cZ (fun g:Nat×List iT×Option Addr×Nat=>g.1<=a.C.length/\oH g.2.1 j (mM b g.1)) (fun g=>a.C.length - g.1) (fun g=> [(7,.pointer (some ⟨f,0,none⟩)),(8,.slice g.2.2.1 g.2.1.length g.2.2.2),(42,.int .i64 (a.C.length:Int)),(43,.int .i64 (g.1:Int))]) (fun g=>an (.slice g.2.2.1 g.2.1.length g.2.2.2) g.2.1::kH (⟨f,fs,a,A,c,q,r,i,l,some ⟨m,0,none⟩,a.C.length,some ⟨n,0,none⟩,a.C.length⟩:FC) b t j x y) (0,[],none,0) (⟨aS _,.nil_⟩) ?_;rintro⟨d,F,W,X⟩ bb
 try dsimp only
 obtain⟨bp,I⟩:d<=a.C.length/\oH F j (mM b d):=bb;have:=I.len;have:=Fm b d;dsimp only[kH];refine ax (fun bg=>?_) (fun bg=>?_)
 ·have G:d<a.C.length:=by omega
  have L:=wQ b d;refine aj ?_;refine cP _ rfl (SF.own z.ml fc) ?_;refine ef rfl (SF.bool (SF.own z.ml fc) (by omega))<|aj ?_;refine cc rfl (fun S=>?_) (fun S=>?_)
  ·rw[if_pos S] at L;have R:=s.el d G;refine aj ?_;refine cP _ rfl (SF.own s.hl fc) ?_;refine rL (fun w h=>R.form h fc) ?_;rintro⟨O,P,a0⟩;rw[a0] at R;refine sE (bY (v:= .slice O (b.at_.getD d []).length P) (by rw[<-a0];exact SF.hdr (SF.own s.hl fc) G) rfl rfl gX)<|aj ?_;intro bn _;refine oE (cz (α:=iT) (bytes:=32) ⟨d,.slice O (b.at_.getD d []).length P⟩ [] rfl Wu (aU Bl) rfl (eG fc fc) (dt ⟨⟨by show (-9223372036854775808:Int)<=(d:Int);omega,by show (d:Int)<=9223372036854775807;omega⟩,rfl⟩) (by omega) (by omega) rfl rfl rfl) (fun⟨a2,a5⟩ _=>?_);refine aP ?_;refine cG (d+1,F++ [⟨d,.slice O (b.at_.getD d []).length P⟩],a2,a5) (⟨G,by rw[L];exact I.snoc rfl R⟩) (by show _ - _<_ - _;omega)
  rw[if_neg (by rw[S];decide)] at L;refine aj ?_;refine cG (d+1,F,W,X) (⟨G,by rw[L];exact I⟩) (by show _ - _<_ - _;omega)
 obtain rfl:d=a.C.length:=by omega
 refine aj ?_;intro w p;exact⟨((W,X),F,j),I,rfl,p.msub ms⟩
theorem GH (A:Option Addr) (c:Nat) (fs:List aw) (k:Nat) (w:World) (j:Sl w (ac A fs.length c) fs) (f:k<fs.length) (i:nR fs (au fs k)) (h:0<(au fs k).C.length) :
  Calls Tryz.prog 117 #[.agg #[ac A fs.length c],ai (k:Int)] w fun e w'=> ∃g:Option Addr×Nat,True/\e= .returned (.tuple #[ac g.1 (cM fs (au fs k)).1.length g.2,.bool (cM fs (au fs k)).2])/\
   Cw w.heap.size w [ny (ac g.1 (cM fs (au fs k)).1.length g.2) (cM fs (au fs k)).1] w':=
 (tv A c fs k w j f i h).mono fun e w' ⟨g,a,b,d⟩=>⟨g.1,trivial,by rw[<-a.len];exact b,by rw[<-a.len];exact CU (Hel:= [ag g.1.1 g.1.2 g.2.1,gO g.2.2]) (H:= []) (Cv a) d⟩
end
section
theorem jN {fs:List aw} {k:Nat} (a:k<fs.length):au fs k∈fs:=by
 unfold au;rw[ap,aq a];exact cV a
theorem kb {fs:List aw} (h:dp fs=0) {k:Nat} (p:k<fs.length):nR fs (au fs k)/\0<(au fs k).C.length:=by
 obtain⟨_,_,g⟩:=iE h;obtain⟨_,_,s,t,u,n,f⟩:=lj (g _ (jN p));obtain⟨m,_⟩:=tA n;refine⟨⟨fun d e=>?_,fun d e r q=>?_,m⟩,ω⟩
 ·have a:=f _ (uR e);refine⟨fun b=>?_,fun b=>?_,fun v o=>?_,⟨ω,ω⟩⟩
  ·unfold fU at a;rw[if_pos b] at a;have:=jk.1 a;omega
  ·unfold fU at a;rw[if_neg ω,if_neg ω,if_pos b] at a;have:=jk.1 a;omega
  obtain⟨j,l,_⟩:=lj (g _ (jN o));exact⟨l,j⟩
 have a:=f _ (uR e);have c:=(th (bH (au fs k).C d) d r).1 q;have i:((bH (au fs k).C d).c=10\/(bH (au fs k).C d).c=11)->0<=(bH (au fs k).C d).a/\(bH (au fs k).C d).a<(au fs k).C.length:=fun b=>by
  unfold fU at a;rw[if_neg ω,if_pos b] at a;have:=jk.1 a;omega
 unfold iO at c
 split at c
 ·simp at c
 split at c
 ·rename_i b;have:=i (.inl b);simp at c;omega
 split at c
 ·rename_i b;have:=i (.inr b);simp at c;omega
 simp at c;omega
def dZ (fs:List aw):Int:=if dp fs≠0 then dp fs else if fs.all (fun f=>(cM fs f).2)=true then 0 else 4
theorem vS {α:Type} {p:α->Bool} {l:List α} {k:Nat} (d:α) (a:k<l.length):(l.take (k+1)).all p=((l.take k).all p && p (l.getD k d)):=by
 rw[List.take_add_one,aq a,ap,aq a,List.all_append];simp
theorem qC (A:Option Addr) (c:Nat) (fs:List aw) (w:World) (j:Sl w (ac A fs.length c) fs) :
  Calls Tryz.prog 72 #[.agg #[ac A fs.length c]] w fun e w'=>e= .returned (ai (dZ fs))/\Below w.heap.size w w':=by
 have:=bx j;refine enter Tryz.func72 rfl Tryz.ntmps72 rfl<|aj ?_;refine fun k _=>aj ?_;refine cO rfl J8 (fun w b=>pq A c fs w (b.ro j))<|cU (fun h=>?_) (fun h=>?_)
 ·refine aj ?_;intro w b;exact⟨fh (by unfold dZ;rw[if_pos h]),b.below⟩
 have m:dZ fs=if fs.all (fun d=>(cM fs d).2)=true then 0 else 4:=by unfold dZ;rw[if_neg (ψ h)]
 refine aj ?_;refine cZ (fun a:Nat=>a<=fs.length/\(fs.take a).all (fun d=>(cM fs d).2)=true) (fun a=>fs.length - a) (fun a=> [(1,af k),(14,ai (fs.length:Int)),(15,ai (a:Int))]) (fun _=> [ak k [ac A fs.length c] 24]) 0 (⟨aS _,rfl⟩) ?_;rintro a n;obtain⟨x,i⟩:a<=fs.length/\(fs.take a).all (fun d=>(cM fs d).2)=true:=n;refine ax (fun o=>?_) (fun o=>?_)
 ·have g:a<fs.length:=ω;obtain⟨r,q⟩:=kb h g;have s:=vS (p:=fun d=>(cM fs d).2) (default:aw) g;refine aj ?_;refine eu rfl V6 (fun w b=>GH A c fs a w (b.ro j) g r q) (fun⟨t,v⟩ _=>?_);refine aP ?_;refine cc rfl (fun f=>?_) (fun f=>?_)
  ·have f:(cM fs (au fs a)).2=false:=ψ f;refine aj ?_;intro w b;refine⟨fh ?_,b.below⟩;rw[m,if_neg];intro l;rw[pH] at l;have:=l _ (jN g);rw[f] at this
   cases this
  have f:(cM fs (au fs a)).2=true:=ψ f;refine aj ?_;refine cG (a+1) (⟨g,by rw[s,i];exact f⟩) (by show _ - _<_ - _;omega)
 obtain rfl:a=fs.length:=ω;rw[aR] at i;refine aj ?_;intro w b;exact⟨fh (by rw[m,if_pos i]),b.below⟩
end
section
instance:hZ aw qY where
 parts h f:= [an h.v1 f.L,an h.v2 f.C]
 ok h f:=h.p=f.params/\h.r=f.result
 kk:=rfl
 tt:=rfl
 opn {w F cs f} h:=by
  obtain⟨v1,v2,F1,F2,hcs,hi,h1,h2,hd,hF⟩:=h
  obtain⟨A1,c1,e1,_⟩:=h1.sl.form
  obtain⟨A2,c2,e2,_⟩:=h2.sl.form
  refine⟨⟨f.params,v1,f.result,v2⟩,⟨hcs,hi,by rw[e1];rfl,by rw[e2];rfl⟩,⟨rfl,rfl⟩,F1,F2,h1,⟨F2,fun _=>False,h2,fun _ h=>h,fun _ _ h=>h,fun b=>by simp⟩,hd,hF⟩
 cls {w F h f} hwf hok hH:=by
  obtain⟨F1,F2,h1,⟨F3,F4,h3,h4,h5,h6⟩,hd,hF⟩:=hH
  have e:∀b,F2 b↔F3 b:=fun b=>by rw[h6 b];simp[show¬F4 b from h4 b]
  refine⟨h.v1,h.v2,F1,F3,?_,?_,h1,h3,fun b hb hb'=>hd b hb ((e b).2 hb'),fun b=>by rw[hF b,e b]⟩
  ·show [.int .i64 h.p,h.v1,.int .i64 h.r,h.v2]=_
   rw[hok.1,hok.2]
  rw[<-hok.1,<-hok.2];exact hwf.1
def J4 (fs:List aw):Prop:=fs.length*64<=140737488355328/\∀f∈fs,f.L.length*8<=140737488355328/\f.C.length*16<=140737488355328
theorem Pt {fs:List aw} {k:Nat} (a:k<fs.length):fs.take (k+1)=fs.take k++ [au fs k]:=by
 rw[List.take_add_one,aq a];unfold au;rw[ap,aq a];rfl
theorem vB:(Tryz.prog.info? 86).map (fun i=>(i.zero,i.size,i.bytes))=some (some (.agg #[ai 0,ai 0]),2,16):=by kernel_rfl
theorem pz (A:Option Addr) (c:Nat) (fs:List aw) (w:World) (s:Sl w (ac A fs.length c) fs) (v:J4 fs) :
  Calls Tryz.prog 35 #[.agg #[ac A fs.length c]] w fun e w'=> ∃g:Option Addr×Nat,True/\e= .returned (.agg #[ac g.1 fs.length g.2])/\Cw w.heap.size w [an (ac g.1 fs.length g.2) fs] w':=by
 have:=bx s;have:=v.1;refine enter Tryz.func35 rfl Tryz.ntmps35 rfl<|aj ?_;refine fun j _=>aj ?_;refine fun k _=>aj ?_;refine fun l _=>aj ?_;refine dm (fun w b=>Cw.nilO aw b) ?_;refine cZ (fun g:Nat×Option Addr×Nat=>g.1<=fs.length) (fun g=>fs.length - g.1) (fun g=> [(1,af j),(2,af k),(3,af l),(4,ai (g.1:Int))]) (fun g=> [ag g.2.1 g.2.2 (fs.take g.1),ak j [ac A fs.length c] 24,ak k [ac none 0 0] 24,ak l [ac g.2.1 (fs.take g.1).length g.2.2] 24]) (0,none,0) (aS _) ?_;rintro⟨a,n,o⟩ x
 try dsimp only
 have x:a<=fs.length:=x;have:(fs.take a).length=a:=by rw[aB];omega
 refine ax (fun F=>?_) (fun F=>?_)
 ·have q:a<fs.length:=ω;obtain⟨J,M,K,N,r,p,E,D⟩:=s.fn q;obtain⟨P,Q⟩:=v.2 (au fs a) (jN q);have G:=Pt q;refine aj ?_;refine cP _ rfl (.ro s) ?_;refine iC rfl (D _)<|aj ?_;intro t _;refine dN (dk _ fc fw rfl rfl rfl rfl rfl (by rfl) rfl (by rfl)) rfl rfl (fun _ _=>?_);refine bL<|dG (fun _:(Option Addr×Nat)×(Option Addr×Nat)=>True) (fun g=> [(1,af j),(2,af k),(3,af l),(4,ai (a:Int)),(5,af t)]) (fun g=> [ag n o (fs.take a),ak j [ac A fs.length c] 24,ak k [ac none 0 0] 24,ak l [ac n (fs.take a).length o] 24,ak t [ai (au fs a).params,ac g.1.1 (au fs a).L.length g.1.2,ai (au fs a).result,ac g.2.1 (au fs a).C.length g.2.2] 84,an (ac g.1.1 (au fs a).L.length g.1.2) (au fs a).L,an (ac g.2.1 (au fs a).C.length g.2.2) (au fs a).C]) ?_ ?_
  ·refine jh (.still 1 (.still 2 (.still 5 (.still 6 (.pick 0 (.pick 3 (.calm 8 (.pick 4 (.pick 7 (.pick 9 (.calm 10 (.pick 11 .done .stop)) .stop) .stop) .stop)) (.pick 4 (.pick 3 (.calm 8 (.pick 7 (.pick 9 (.calm 10 (.pick 11 .done .stop)) .stop) .stop)) .stop) .stop)) (.pick 4 (.pick 0 (.pick 3 (.calm 8 (.pick 7 (.pick 9 (.calm 10 (.pick 11 .done .stop)) .stop) .stop)) .stop) .stop) .stop)))))) [7,8,9,10,11] rfl φ φ ?_;refine aC ?_;refine dO rfl (df fc gX rfl rfl (by rfl)) rfl rfl ha ?_;refine aC ?_;refine dO rfl (df fc rF rfl rfl (by rfl)) rfl rfl ha ?_;refine dx rfl ((fi (cs:= []) az aZ fG rfl rfl rfl rfl rfl).mem (H'':=fun g=>an (ac (some ⟨g,0,none⟩) 0 0) ([]:List Int)::_) fun g w b=>bN (α:=Int) (m:=0) [] rfl σ rfl κ b) rfl rfl (.inr fun _=>ha) (fun C _=>?_) ?_
   ·refine dx rfl (dv (α:=Int) (bytes:=8) (xs:= []) (ys:=(au fs a).L) (xs':=(au fs a).L) rfl az (aU cW) rfl fc (.ro r) (by simp only[aE];omega) (by simp only[aE];omega) rfl rfl rfl) rfl rfl (.inr fun _=>ha) (fun⟨d,h⟩ _=>?_) ?_
    ·try dsimp only
     refine aC ?_;refine pE rfl ((fi (cs:= []) eH gN RY rfl rfl rfl rfl rfl).mem (H'':=fun g=>an (ac (some ⟨g,0,none⟩) 0 0) ([]:List bG)::_) fun g w b=>bN (α:=bG) (m:=0) [] rfl σ rfl κ b) (fun u _=>?_);refine pE rfl (dv (α:=bG) (bytes:=16) (xs:= []) (ys:=(au fs a).C) (xs':=(au fs a).C) rfl eH (aU vB) rfl fc (.ro p) (by simp only[aE];omega) (by simp only[aE];omega) rfl rfl rfl) (fun⟨f,i⟩ _=>?_);refine aP ?_;refine bJ<|bX ((d,h),(f,i)) trivial (hh:=(fun _ b=>b.msub ms))
    refine pE rfl ((fi (cs:= []) eH gN RY rfl rfl rfl rfl rfl).mem (H'':=fun g=>an (ac (some ⟨g,0,none⟩) 0 0) ([]:List bG)::_) fun g w b=>bN (α:=bG) (m:=0) [] rfl σ rfl κ b) (fun u _=>?_);refine pE rfl (dv (α:=Int) (bytes:=8) (xs:= []) (ys:=(au fs a).L) (xs':=(au fs a).L) rfl az (aU cW) rfl fc (.ro r) (by simp only[aE];omega) (by simp only[aE];omega) rfl rfl rfl) (fun⟨d,h⟩ _=>?_);refine aP ?_;refine pE rfl (dv (α:=bG) (bytes:=16) (xs:= []) (ys:=(au fs a).C) (xs':=(au fs a).C) rfl eH (aU vB) rfl fc (.ro p) (by simp only[aE];omega) (by simp only[aE];omega) rfl rfl rfl) (fun⟨f,i⟩ _=>?_);refine aP ?_;refine bJ<|bX ((d,h),(f,i)) trivial (hh:=(fun _ b=>b.msub ms))
   refine pE rfl ((fi (cs:= []) eH gN RY rfl rfl rfl rfl rfl).mem (H'':=fun g=>an (ac (some ⟨g,0,none⟩) 0 0) ([]:List bG)::_) fun g w b=>bN (α:=bG) (m:=0) [] rfl σ rfl κ b) (fun u _=>?_);refine pE rfl ((fi (cs:= []) az aZ fG rfl rfl rfl rfl rfl).mem (H'':=fun g=>an (ac (some ⟨g,0,none⟩) 0 0) ([]:List Int)::_) fun g w b=>bN (α:=Int) (m:=0) [] rfl σ rfl κ b) (fun C _=>?_);refine pE rfl (dv (α:=Int) (bytes:=8) (xs:= []) (ys:=(au fs a).L) (xs':=(au fs a).L) rfl az (aU cW) rfl fc (.ro r) (by simp only[aE];omega) (by simp only[aE];omega) rfl rfl rfl) (fun⟨d,h⟩ _=>?_);refine aP ?_;refine pE rfl (dv (α:=bG) (bytes:=16) (xs:= []) (ys:=(au fs a).C) (xs':=(au fs a).C) rfl eH (aU vB) rfl fc (.ro p) (by simp only[aE];omega) (by simp only[aE];omega) rfl rfl rfl) (fun⟨f,i⟩ _=>?_);refine aP ?_;refine bJ<|bX ((d,h),(f,i)) trivial (hh:=(fun _ b=>b.msub ms))
  rintro⟨⟨d,h⟩,⟨f,i⟩⟩ _;refine aP ?_;intro O _;refine oE (cz (α:=aw) (bytes:=64) (au fs a) [an (ac d (au fs a).L.length h) (au fs a).L,an (ac f (au fs a).C.length i) (au fs a).C] G ff (aU yu) rfl (zV fc fc fc fc) (wN E) ω ω rfl rfl rfl) (fun⟨y,z⟩ _=>?_);refine aP ?_;refine cG (a+1,y,z) (by show a+1<=_;omega) (by show _ - _<_ - _;omega)
 obtain rfl:a=fs.length:=ω;rw[aR];refine aj ?_;intro w I;exact⟨(n,o),trivial,rfl,I.msub ms⟩
theorem Cw.oform {α:Type} [Ow α] {B:Nat} {w0 w:World} {H H':List aO} {v:Value} {xs:List α} (f:Cw B w0 H w) (e:cu H (an v xs) H'):∃A c,v= ac A xs.length c:=by
 obtain⟨a,d,_⟩:=f.rd e;obtain⟨A,c,b,_⟩:=da.sl (show da w a v xs from d) |>.form;exact⟨A,c,b⟩
end
section
def sm:List aw:= [⟨0,[],0,UE⟩]
end
section
theorem t3 {t:Int} (h:1<=t/\t<=3):t=1\/t=2\/t=3:=by omega
theorem OP {a b:Int} (ha:1<=a/\a<=3) (c:1<=b/\b<=3) (h:eq a b≠0):1<=eq a b/\eq a b<=3:=by
 rcases t3 ha with rfl | rfl | rfl <;> rcases t3 c with rfl | rfl | rfl <;> revert h <;> decide
theorem FN {a b:Int} (h:eq a b≠0):cH a (eq a b)=true/\cH b (eq a b)=true:=by
 have f:∀e:Int,cH e e=true:=fun e=>by unfold cH;simp
 unfold eq at h⊢
 by_cases c:cH a b=true
 ·rw[if_pos c];exact⟨c,f b⟩
 rw[if_neg c] at h⊢
 by_cases d:cH b a=true
 ·rw[if_pos d];exact⟨f a,d⟩
 rw[if_neg d] at h;exact absurd rfl h
theorem nH {a b:Int} {l m j:List Int} (h:cy (a::l) (b::m)=some j):eq a b≠0/\∃k,cy l m=some k/\j=eq a b::k:=by
 simp only[cy] at h
 split at h
 ·cases h
 rename_i c
 cases e:cy l m with
 | none=>rw[e] at h;cases h
 | some k=>
  rw[e] at h;simp only[Option.map_some,bE] at h;exact⟨c,k,rfl,h.symm⟩
theorem E8:∀{a b j:List Int},cy a b=some j->(∀t∈a,1<=t/\t<=3)->(∀t∈b,1<=t/\t<=3)->∀t∈j,1<=t/\t<=3
 | [],[],j,h,_,_=>by simp[cy] at h;subst h;simp
 | [],_::_,j,h,_,_=>by simp[cy] at h
 | _::_,[],j,h,_,_=>by simp[cy] at h
 | a::l,b::m,j,h,ha,d=>by
  obtain⟨e,k,f,rfl⟩:=nH h;intro t c;rcases eo.1 c with rfl | c
  ·exact OP (ha a σ) (d b σ) e
  exact E8 f (fun t h=>ha t (by simp[h])) (fun t h=>d t (by simp[h])) t c
theorem tm:∀{a b j:List Int} {i:Nat},cy a b=some j->i<j.length->cH (a.getD i 0) (j.getD i 0)=true/\cH (b.getD i 0) (j.getD i 0)=true
 | [],[],j,i,h,hi=>by simp[cy] at h;subst h;simp at hi
 | [],_::_,j,_,h,_=>by simp[cy] at h
 | _::_,[],j,_,h,_=>by simp[cy] at h
 | a::l,b::m,j,i,h,hi=>by
  obtain⟨c,k,d,rfl⟩:=nH h
  cases i with
  | zero=>exact FN c
  | succ i=>
   have:=tm (i:=i) d (ψ hi);simpa using this
theorem tj (t o:Int) (w:World):Calls Tryz.prog 249 #[ai t,ai o] w fun e w'=>e= .returned (.bool (cH t o))/\Below w.heap.size w w':=by
 refine enter Tryz.func249 rfl Tryz.ntmps249 rfl<|dh 8 (fun a=>?_) (fun a=>?_)
 ·have a:=of_decide_eq_true a;refine aj ?_;intro w c;exact⟨aY (by unfold cH;rw[decide_eq_true a];rfl),c.below⟩
 have a:=of_decide_eq_false a;refine dh 11 (fun b=>?_) (fun b=>?_)
 ·have b:=of_decide_eq_true b;refine aj ?_;intro w c;exact⟨aY (by unfold cH;rw[decide_eq_false a,decide_eq_true b];rfl),c.below⟩
 have b:=of_decide_eq_false b;refine aj ?_;intro w c;exact⟨aY (by unfold cH;rw[decide_eq_false a,decide_eq_false b];rfl),c.below⟩
end
section
def Le (a b:List Int):Prop:=a.length=b.length/\∀i,i<a.length->cH (a.getD i 0) (b.getD i 0)=true
theorem PC (t:Int):cH t t=true:=by unfold cH;simp
theorem zF {a b:Int} :cH a b=true↔a=b\/(a=3/\b=2):=by unfold cH;simp
theorem Ni {a b c:Int} (d:cH a b=true) (h2:cH b c=true):cH a c=true:=by
 rw[zF] at *;omega
theorem PD {a b:Int} (c:cH a b=true) (h2:cH b a=true):a=b:=by
 rw[zF] at *;omega
theorem Le.refl (a:List Int):Le a a:=⟨rfl,fun _ _=>PC _⟩
theorem Le.trans {a b c:List Int} (h1:Le a b) (h2:Le b c):Le a c:=⟨h1.1.trans h2.1,fun i hi=>Ni (h1.2 i hi) (h2.2 i (by rw[<-h1.1];exact hi))⟩
theorem On {a b:List Int} (e:a.length=b.length) (h:∀i,i<a.length->a.getD i 0=b.getD i 0):a=b:=by
 apply List.ext_getElem e
 intro i c d;have:=h i c
 rwa [ap,aq c,ap,aq d] at this
theorem Le.anti {a b:List Int} (c:Le a b) (h2:Le b a):a=b:=On c.1 fun e d=>PD (c.2 e d) (h2.2 e (by rw[<-c.1];exact d))
theorem jv {l:List Int} {k i:Nat} (h:i<k):(l.take k).getD i 0=l.getD i 0:=by
 rw[ap,ee,if_pos h,<-ap]
theorem kg {l:List Int} {k i:Nat} :(l.drop k).getD i 0=l.getD (k+i) 0:=by
 rw[ap,dV,<-ap]
theorem CR {l m:List Int} {i:Nat} (h:i<l.length):(l++m).getD i 0=l.getD i 0:=by
 rw[ap,eS h,<-ap]
theorem CQ {l m:List Int} {i:Nat} (h:l.length<=i):(l++m).getD i 0=m.getD (i - l.length) 0:=by
 rw[ap,dD h,<-ap]
theorem Le.take {a b:List Int} (h:Le a b) (k:Nat):Le (a.take k) (b.take k):=⟨by rw[aB,aB,h.1],fun i hi=>by
 rw[aB] at hi
 rw[jv (by omega),jv (by omega)]
 exact h.2 i (by omega)⟩
theorem Le.drop {a b:List Int} (h:Le a b) (k:Nat):Le (a.drop k) (b.drop k):=⟨by rw[aN,aN,h.1],fun i hi=>by
 rw[aN] at hi
 rw[kg,kg]
 exact h.2 _ (by omega)⟩
theorem Le.app {a b c d:List Int} (e:Le a b) (h2:Le c d):Le (a++c) (b++d):=⟨by rw[ar,ar,e.1,h2.1],fun g h=>by
 rw[ar] at h
 by_cases f:g<a.length
 ·rw[CR f,CR (by rw[<-e.1];exact f)];exact e.2 g f
 rw[CQ ω,CQ (by rw[<-e.1];omega),<-e.1];exact h2.2 _ ω⟩
theorem qa {l:List Int} {w:Bool} (h:0<l.length):iA (l,w)=(l.getD (l.length - 1) 0,l.take (l.length - 1),w):=by unfold iA;rw[if_neg (by show¬l.length=0;omega)]
theorem EH {w:Bool} :iA ([],w)=(0,[],true):=rfl
theorem uA (xs:List Int):∀(k:Nat) (l:List Int),(eY xs k (l,true)).2=true
 | 0,_=>rfl
 | k+1,l=>by
  unfold eY;rcases ig l.length with h | h
  ·have:l= []:=bz h;subst this;rw[EH];exact uA xs k _
  rw[qa h];exact uA xs k _
theorem ti (xs:List Int):∀(k:Nat) (l:List Int) (w:Bool),l.length<k->(eY xs k (l,w)).2=true
 | 0,_,_,h=>absurd h (gu _)
 | k+1,l,w,h=>by
  unfold eY;rcases ig l.length with a | a
  ·have:l= []:=bz a;subst this;rw[EH];exact uA xs k _
  rw[qa a];exact ti xs k _ _ (by rw[aB];omega)
theorem pS (xs:List Int):∀(k:Nat) (l:List Int) (w:Bool),k<=l.length->k<=xs.length->
  (eY xs k (l,w)).1=l.take (l.length - k)/\((eY xs k (l,w)).2=false↔w=false/\Le (l.drop (l.length - k)) (xs.take k))
 | 0,l,w,_,_=>by
  refine⟨by simp[eY],?_⟩;simp only[eY];constructor
  ·intro h;exact⟨h,by rw[vE,List.drop_length,List.take_zero];exact .refl _⟩
  exact fun h=>h.1
 | k+1,l,w,h,n=>by
  unfold eY;rw[qa (by omega)];obtain⟨g,i⟩:=pS xs k (l.take (l.length - 1)) (w || !cH (l.getD (l.length - 1) 0) (xs.getD k 0)) (by rw[aB];omega) ω;have d:(l.take (l.length - 1)).length=l.length - 1:=by rw[aB];omega
  rw[d] at g i;refine⟨?_,?_⟩
  ·rw[g,List.take_take]
   congr 1
   omega
  show (eY xs k (l.take (l.length - 1),w || !cH (l.getD (l.length - 1) 0) (xs.getD k 0))).2=false↔_;rw[i];have m:l.length - 1 - k=l.length - (k+1):=ω;rw[m];constructor
  ·rintro⟨b,c⟩;simp only[Bool.or_eq_false_iff,Bool.not_eq_false'] at b;refine⟨b.1,by rw[aN,aB];omega,fun a e=>?_⟩;rw[aN] at e
   by_cases j:a=k
   ·subst j;rw[kg,jv ω,show l.length - (a+1)+a=l.length - 1 from by omega];exact b.2
   have:=c.2 a (by rw[aN,d];omega);rw[kg,jv ω,jv ω] at this;rw[kg,jv ω];exact this
  rintro⟨b,c⟩;simp only[Bool.or_eq_false_iff,Bool.not_eq_false'];have f:=c.2 k (by rw[aN];omega);rw[kg,jv ω,show l.length - (k+1)+k=l.length - 1 from by omega] at f;refine⟨⟨b,f⟩,by rw[aN,d,aB];omega,fun a e=>?_⟩;rw[aN,d] at e;have:=c.2 a (by rw[aN];omega);rw[kg,jv ω] at this;rw[kg,jv ω,jv ω];exact this
def tl (fs:List aw) (f:aw) (o:bG) (s:List Int):Option (List Int×List Int):=
 if o.c=2 then (if s.length<1 then none else some (s.drop (s.length - 1),[])) else
 if o.c=3 then (if s.length<1 then none else some (s.drop (s.length - 1),[s.getD (s.length - 1) 0,s.getD (s.length - 1) 0])) else
 if o.c=4 then (if s.length<2 then none else some (s.drop (s.length - 2),[s.getD (s.length - 1) 0,s.getD (s.length - 2) 0])) else
 if o.c=8 then some ([],[f.L.getD o.a.toNat 0]) else if o.c=9 then some ([f.L.getD o.a.toNat 0],[]) else
 if o.c=12 then some (fN (au fs o.a.toNat),bV (au fs o.a.toNat)) else
 if o.c=13 then (if s.length≠(bV f).length then none else some (bV f,[])) else some ((cQ o.c).1,(cQ o.c).2)
def ij (fs:List aw) (f:aw) (o:bG) (s:List Int):Option (List Int):=if (pg fs f o (s,false)).2=true then none else some (pg fs f o (s,false)).1
theorem oN {fs:List aw} {f:aw} {o:bG} {s T a:List Int} (j:jE fs f o (s,false)=uM (eY T T.length (s,false)) a) :
  ij fs f o s=if T.length<=s.length/\(s.take (s.length - T.length)++a).length<=8/\(eY T T.length (s,false)).2=false then some (s.take (s.length - T.length)++a) else none:=by
 obtain⟨c,d,e⟩:∃c d,eY T T.length (s,false)=(c,d):=⟨_,_,rfl⟩
 have k:ij fs f o s=if (d || decide (8<(c++a).length))=true then none else some (c++a):=by
  unfold ij pg;rw[j,e];rfl
 rw[k,e]
 by_cases h:T.length<=s.length
 ·obtain⟨g,l⟩:=pS T T.length s false h (aH _);rw[e] at g;have g:c=s.take (s.length - T.length):=g;subst g
  by_cases i:(s.take (s.length - T.length)++a).length<=8
  ·cases d
   ·rw[decide_eq_false ω];exact(if_pos ⟨h,i,rfl⟩).symm
   rw[Bool.true_or];exact(if_neg (fun b=>by cases b.2.2)).symm
  rw[decide_eq_true ω,Bool.or_true];exact(if_neg (fun b=>i b.2.1)).symm
 have:=ti T T.length s false ω;rw[e] at this;have this:d=true:=this;subst this;rw[Bool.true_or];exact(if_neg (fun b=>h b.1)).symm
theorem yG {s:List Int} {k:Nat} (h:k+1<=s.length):eY (s.drop (s.length - (k+1))) (k+1) (s,false)=(s.take (s.length - (k+1)),false):=by
 obtain⟨a,b⟩:=pS (s.drop (s.length - (k+1))) (k+1) s false h (by rw[aN];omega);have:(eY (s.drop (s.length - (k+1))) (k+1) (s,false)).2=false:=b.2 ⟨rfl,by rw[bD (by rw[aN];omega)];exact .refl _⟩;exact Prod.ext a this
theorem Hb (fs:List aw) (f:aw) (o:bG) (s:List Int):ij fs f o s=match tl fs f o s with
  | none=>none
  | some (T,r)=>if T.length<=s.length/\(s.take (s.length - T.length)++r).length<=8/\(eY T T.length (s,false)).2=false then some (s.take (s.length - T.length)++r) else none:=by
 unfold tl
 by_cases b:o.c=2
 ·rw[if_pos b]
  by_cases a:s.length<1
  ·rw[if_pos a];have:s= []:=bz ω;subst this;unfold ij pg jE;rw[if_pos b];rfl
  rw[if_neg a];have e:=yG (s:=s) (k:=0) ω;have l:(s.drop (s.length - 1)).length=1:=by rw[aN];omega
  refine oN ?_;rw[l,e];unfold jE;rw[if_pos b,qa ω];simp[uM]
 rw[if_neg b]
 by_cases c:o.c=3
 ·rw[if_pos c]
  by_cases a:s.length<1
  ·rw[if_pos a];have:s= []:=bz ω;subst this;unfold ij pg jE;rw[if_neg b,if_pos c];rfl
  rw[if_neg a];have e:=yG (s:=s) (k:=0) ω;have l:(s.drop (s.length - 1)).length=1:=by rw[aN];omega
  refine oN ?_;rw[l,e];unfold jE;rw[if_neg b,if_pos c,qa ω]
 rw[if_neg c]
 by_cases d:o.c=4
 ·rw[if_pos d]
  by_cases a:s.length<2
  ·rw[if_pos a];unfold ij pg jE;rw[if_neg b,if_neg c,if_pos d];rcases ig s.length with p | p
   ·have:s= []:=bz p;subst this;rfl
   obtain⟨n,rfl⟩:∃n,s= [n]:=by
    match s,p,a with
    | [n],_,_=>exact⟨n,rfl⟩
   rfl
  rw[if_neg a];have e:=yG (s:=s) (k:=1) ω;have l:(s.drop (s.length - 2)).length=2:=by rw[aN];omega
  refine oN ?_;rw[l,e];unfold jE;have u:(s.take (s.length - 1)).length=s.length - 1:=by rw[aB];omega
  have x:iA (s,false)=(s.getD (s.length - 1) 0,s.take (s.length - 1),false):=qa ω;have y:iA (s.take (s.length - 1),false)=(s.getD (s.length - 2) 0,s.take (s.length - 2),false):=by
   rw[qa (by rw[u];omega),u,List.take_take,jv ω,show min (s.length - 1 - 1) (s.length - 1)=s.length - 2 from by omega,show s.length - 1 - 1=s.length - 2 from by omega]
  rw[if_neg b,if_neg c,if_pos d];simp only[x,y]
 rw[if_neg d]
 by_cases g:o.c=8
 ·rw[if_pos g];refine oN ?_;unfold jE;rw[if_neg b,if_neg c,if_neg d,if_pos g];rfl
 rw[if_neg g]
 by_cases h:o.c=9
 ·rw[if_pos h];refine oN ?_;unfold jE;rw[if_neg b,if_neg c,if_neg d,if_neg g,if_pos h];simp[uM]
 rw[if_neg h]
 by_cases j:o.c=12
 ·rw[if_pos j];refine oN ?_;unfold jE;rw[if_neg b,if_neg c,if_neg d,if_neg g,if_neg h,if_pos j]
 rw[if_neg j]
 by_cases m:o.c=13
 ·rw[if_pos m];have t:jE fs f o (s,false)=((eY (bV f) (bV f).length (s,false)).1,(eY (bV f) (bV f).length (s,false)).2 || decide (0<(eY (bV f) (bV f).length (s,false)).1.length)):=by
   unfold jE;rw[if_neg b,if_neg c,if_neg d,if_neg g,if_neg h,if_neg j,if_pos m]
  by_cases a:s.length≠(bV f).length
  ·rw[if_pos a];have:(jE fs f o (s,false)).2=true:=by
    rw[t]
    by_cases w:s.length<(bV f).length
    ·rw[ti _ _ _ _ w];rfl
    rw[(pS (bV f) _ s false ω (aH _)).1,aB,decide_eq_true ω,Bool.or_true]
   unfold ij pg;rw[this];rfl
  rw[if_neg a];have a:s.length=(bV f).length:=ψ a;refine oN ?_;have i:=(pS (bV f) _ s false ω (aH _)).1;rw[a,pJ,List.take_zero] at i;rw[t];obtain⟨q,v,e⟩:∃q v,eY (bV f) (bV f).length (s,false)=(q,v):=⟨_,_,rfl⟩
  rw[e] at i⊢;have i:q= []:=i;subst i;simp[uM]
 rw[if_neg m];refine oN ?_;unfold jE;rw[if_neg b,if_neg c,if_neg d,if_neg g,if_neg h,if_neg j,if_neg m]
end
section
theorem kv {fs:List aw} {f:aw} {o:bG} {s v:List Int} :ij fs f o s=some v↔
  ∃T b,tl fs f o s=some (T,b)/\T.length<=s.length/\(s.take (s.length - T.length)++b).length<=8/\Le (s.drop (s.length - T.length)) T/\v=s.take (s.length - T.length)++b:=by
 have g:∀T:List Int,T.length<=s.length->((eY T T.length (s,false)).2=false↔Le (s.drop (s.length - T.length)) T):=fun T j=>by
  rw[(pS T T.length s false j (aH _)).2,aR];simp
 rw[Hb];constructor
 ·intro a
  cases c:tl fs f o s with
  | none=>rw[c] at a;cases a
  | some k=>
   obtain⟨T,b⟩:=k;rw[c] at a;simp only[] at a
   split at a
   ·rename_i d;simp only[bE] at a;exact⟨T,b,rfl,d.1,d.2.1,(g T d.1).1 d.2.2,a.symm⟩
   cases a
 rintro⟨T,b,c,e,h,i,rfl⟩;rw[c];simp only[];rw[if_pos ⟨e,h,(g T e).2 i⟩]
theorem Pr {fs:List aw} {f:aw} {o:bG} {a b T j:List Int} (h:Le a b) (e:tl fs f o b=some (T,j)) (c:Le (b.drop (b.length - T.length)) T) (z:T.length<=b.length) :
  ∃l n,tl fs f o a=some (l,n)/\l.length=T.length/\Le (a.drop (a.length - T.length)) l/\Le n j:=by
 have d:=h.1;have g:∀T j:List Int,Le (b.drop (b.length - T.length)) T->Le (a.drop (a.length - T.length)) T:=fun T j c=>by rw[d];exact(h.drop _).trans c
 have k:∀i,i<a.length->Le [a.getD i 0] [b.getD i 0]:=fun i w=>⟨rfl,fun y x=>by
  have:y=0:=ψ x;subst this;exact h.2 i w⟩
 unfold tl at e⊢
 by_cases r:o.c=2
 ·rw[if_pos r] at e⊢
  split at e
  ·cases e
  rename_i m;simp only[bE,cK] at e;obtain⟨rfl,rfl⟩:=e;rw[if_neg ω];refine⟨_,_,rfl,by rw[aN,aN,d],?_,.refl _⟩;rw[aN,show b.length - (b.length - 1)=1 from by omega];exact .refl _
 rw[if_neg r] at e⊢
 by_cases s:o.c=3
 ·rw[if_pos s] at e⊢
  split at e
  ·cases e
  rename_i m;simp only[bE,cK] at e;obtain⟨rfl,rfl⟩:=e;rw[if_neg ω];refine⟨_,_,rfl,by rw[aN,aN,d],?_,?_⟩
  ·rw[aN,show b.length - (b.length - 1)=1 from by omega];exact .refl _
  rw[<-d];exact(k _ ω).app (k _ ω)
 rw[if_neg s] at e⊢
 by_cases t:o.c=4
 ·rw[if_pos t] at e⊢
  split at e
  ·cases e
  rename_i m;simp only[bE,cK] at e;obtain⟨rfl,rfl⟩:=e;rw[if_neg ω];refine⟨_,_,rfl,by rw[aN,aN,d],?_,?_⟩
  ·rw[aN,show b.length - (b.length - 2)=2 from by omega];exact .refl _
  rw[<-d];exact(k _ ω).app (k _ ω)
 rw[if_neg t] at e⊢
 by_cases u:o.c=8
 ·rw[if_pos u] at e⊢;simp only[bE,cK] at e;obtain⟨rfl,rfl⟩:=e;exact⟨_,_,rfl,rfl,g _ [] c,.refl _⟩
 rw[if_neg u] at e⊢
 by_cases v:o.c=9
 ·rw[if_pos v] at e⊢;simp only[bE,cK] at e;obtain⟨rfl,rfl⟩:=e;exact⟨_,_,rfl,rfl,g _ [] c,.refl _⟩
 rw[if_neg v] at e⊢
 by_cases p:o.c=12
 ·rw[if_pos p] at e⊢;simp only[bE,cK] at e;obtain⟨rfl,rfl⟩:=e;exact⟨_,_,rfl,rfl,g _ [] c,.refl _⟩
 rw[if_neg p] at e⊢
 by_cases q:o.c=13
 ·rw[if_pos q] at e⊢
  split at e
  ·cases e
  rename_i m;simp only[bE,cK] at e;obtain⟨rfl,rfl⟩:=e;rw[if_neg ω];exact⟨_,_,rfl,rfl,g _ [] c,.refl _⟩
 rw[if_neg q] at e⊢;simp only[bE,cK] at e;obtain⟨rfl,rfl⟩:=e;exact⟨_,_,rfl,rfl,g _ [] c,.refl _⟩
theorem sK {fs:List aw} {f:aw} {o:bG} {a b v:List Int} (h:Le a b) (e:ij fs f o b=some v):∃u,ij fs f o a=some u/\Le u v:=by
 obtain⟨l,m,n,i,p,q,rfl⟩:=kv.1 e;obtain⟨d,g,r,c,s,t⟩:=Pr h n q i;have k:=h.1;have j:Le (a.take (a.length - d.length)++g) (b.take (b.length - l.length)++m):=by
  rw[c,k];exact(h.take _).app t
 exact⟨_,kv.2 ⟨d,g,r,by rw[c,k];exact i,by rw[j.1];exact p,by rw[c];exact s,rfl⟩,j⟩
def Ty (l:List Int):Prop:= ∀t∈l,1<=t/\t<=3
structure sB (fs:List aw) (f:aw):Prop where
 loc:Ty f.L
 res:∀k,k<fs.length->(0<=(au fs k).result/\(au fs k).result<=2)
theorem Ty.app {a b:List Int} (e:Ty a) (h2:Ty b):Ty (a++b):=fun d f=>by
 rcases dU.1 f with c | c
 ·exact e d c
 exact h2 d c
theorem Ty.at_ {a:List Int} (h:Ty a) {i:Nat} (hi:i<a.length):1<=a.getD i 0/\a.getD i 0<=3:=by
 rw[ap,aq hi];exact h _ (cV hi)
theorem Ty.one {t:Int} (h:1<=t/\t<=3):Ty [t]:=fun b a=>by rw[cN.1 a];exact h
theorem Ty.two {t u:Int} (h:1<=t/\t<=3) (h2:1<=u/\u<=3):Ty [t,u]:=fun b a=>by
 rcases eo.1 a with rfl | a
 ·exact h
 rw[cN.1 a];exact h2
theorem By {fs:List aw} {f:aw} {o:bG} {s v:List Int} (h:sB fs f) (g:J3 fs f o) (b:Ty s) (e:ij fs f o s=some v):Ty v:=by
 obtain⟨n,p,a,q,r,t,rfl⟩:=kv.1 e;refine Ty.app (fun m d=>b m (iG d)) ?_;have nil:Ty []:=fun _ d=>by cases d
 have l:∀c,c<fs.length->Ty (bV (au fs c)):=fun c k=>by
  unfold bV
  split
  ·exact nil
  rename_i u;have:=h.res c k;exact .one ω
 unfold tl at a
 split at a
 ·split at a
  ·cases a
  simp only[bE,cK] at a;obtain⟨rfl,rfl⟩:=a;exact nil
 split at a
 ·split at a
  ·cases a
  simp only[bE,cK] at a;obtain⟨rfl,rfl⟩:=a;exact .two (b.at_ ω) (b.at_ ω)
 split at a
 ·split at a
  ·cases a
  simp only[bE,cK] at a;obtain⟨rfl,rfl⟩:=a;exact .two (b.at_ ω) (b.at_ ω)
 split at a
 ·rename_i j;simp only[bE,cK] at a;obtain⟨rfl,rfl⟩:=a;have:=g.loc (.inl j);exact .one (h.loc.at_ ω)
 split at a
 ·simp only[bE,cK] at a;obtain⟨rfl,rfl⟩:=a;exact nil
 split at a
 ·rename_i i;simp only[bE,cK] at a;obtain⟨rfl,rfl⟩:=a;have:=g.call i;exact l _ ω
 split at a
 ·split at a
  ·cases a
  simp only[bE,cK] at a;obtain⟨rfl,rfl⟩:=a;exact nil
 simp only[bE,cK] at a;obtain⟨rfl,rfl⟩:=a;unfold cQ
 repeat (first | split | exact nil | exact .one κ | exact .two κ κ)
theorem OO {a b c:Int} (g:1<=c/\c<=3) (f:cH a c=true) (h2:cH b c=true):eq a b≠0/\cH (eq a b) c=true:=by
 rw[zF] at f h2;rcases t3 g with rfl | rfl | rfl
 ·have d:a=1:=ω;have e:b=1:=ω;subst d e;decide
 ·rcases f with rfl | ⟨rfl,_⟩ <;> rcases h2 with rfl | ⟨rfl,_⟩ <;> decide
 have d:a=3:=ω;have e:b=3:=ω;subst d e;decide
theorem Le.cons_iff {a b:Int} {l m:List Int} :Le (a::l) (b::m)↔cH a b=true/\Le l m:=by
 constructor
 ·intro d;refine⟨d.2 0 σ,ψ d.1,fun c e=>?_⟩;have:=d.2 (c+1) (ψ e);simpa using this
 rintro⟨g,f⟩;refine⟨by simp[f.1],fun c e=>?_⟩
 cases c with
 | zero=>simpa using g
 | succ c=>simpa using f.2 c (ψ e)
theorem BU:∀{a b c:List Int},Ty c->Le a c->Le b c->∃j,cy a b=some j/\Le j c
 | [],[],c,_,h,_=>⟨[],rfl,h⟩
 | [],_::_,c,_,h,d=>by have:=h.1.trans d.1.symm;simp at this
 | _::_,[],c,_,h,d=>by have:=h.1.trans d.1.symm;simp at this
 | a::l,b::m,[],_,h,_=>by have:=h.1;simp at this
 | a::l,b::m,c::n,e,h,d=>by
  obtain⟨f,g⟩:=Le.cons_iff.1 h;obtain⟨i,k⟩:=Le.cons_iff.1 d;obtain⟨o,p⟩:=OO (e c σ) f i;obtain⟨j,q,r⟩:=BU (fun s h=>e s (by simp[h])) g k;refine⟨eq a b::j,?_,Le.cons_iff.2 ⟨p,r⟩⟩;simp only[cy];rw[if_neg o,q];rfl
theorem Qw {a b j:List Int} (h:cy a b=some j):Le a j/\Le b j:=by
 have:=nm h;exact⟨⟨ω,fun d c=>(tm h ω).1⟩,⟨ω,fun d c=>(tm h ω).2⟩⟩
structure sx (fs:List aw) (f:aw) (M:Nat->Option (List Int)):Prop where
 m0:M 0=some []
 ok:∀k s,M k=some s->k<f.C.length/\Ty s/\∃v,ij fs f (bH f.C k) s=some v/\∀q∈dX (bH f.C k) k,∃s',M q.toNat=some s'/\Le v s'
structure pD (fs:List aw) (f:aw) (s:eE):Prop where
 m0:s.met.getD 0 false=true
 a0:s.at_.getD 0 []= []
 ty:∀i,s.met.getD i false=true->Ty (s.at_.getD i [])
 le:∀M,sx fs f M->∀i,s.met.getD i false=true->∃t,M i=some t/\Le (s.at_.getD i []) t
structure Up (s s':eE):Prop where
 up:∀i,s.met.getD i false=true->s'.met.getD i false=true/\Le (s.at_.getD i []) (s'.at_.getD i [])
 old:∀i,s'.met.getD i false=true->(s.met.getD i false=true/\s'.at_.getD i []=s.at_.getD i [])\/(i:Int)∈s'.todo
 td:∀x∈s.todo,x∈s'.todo
theorem Up.refl (s:eE):Up s s:=⟨fun _ h=>⟨h,.refl _⟩,fun _ h=> .inl ⟨h,rfl⟩,fun _ h=>h⟩
theorem Up.trans {a b c:eE} (h1:Up a b) (h2:Up b c):Up a c:=
 ⟨fun i h=>by
  obtain⟨k1,k2⟩:=h1.up i h
  obtain⟨k3,k4⟩:=h2.up i k1
  exact⟨k3,k2.trans k4⟩,fun i h=>by
  rcases h2.old i h with ⟨k1,k2⟩ | k
  ·rcases h1.old i k1 with ⟨k3,k4⟩ | k3
   ·exact .inl ⟨k3,k2.trans k4⟩
   exact .inr (h2.td _ k3)
  exact .inr k,fun x h=>h2.td x (h1.td x h)⟩
theorem Ah {n:Nat} {s:eE} (h:gH n s) {i:Nat} (b:s.met.getD i false=true):i<n:=by
 rcases gL i n with a | a
 ·exact a
 rw[ap,bh (by rw[h.ml];exact a)] at b
 cases b
theorem OI {fs:List aw} {f:aw} {s:eE} (z:gH f.C.length s) (i:pD fs f s) {k:Nat} (M:k<=f.C.length) {l:List Int} (C:Ty l) (v:∀c,sx fs f c->∃t,c k=some t/\Le l t) :
  ((dK f.C.length s k l).1=true->pD fs f (dK f.C.length s k l).2/\Up s (dK f.C.length s k l).2/\(dK f.C.length s k l).2.met.getD k false=true/\Le l ((dK f.C.length s k l).2.at_.getD k []))/\
  ((dK f.C.length s k l).1=false->∀c,¬sx fs f c):=by
 have D:k<f.C.length->∀d:List Int,Ty d->(k=0->d= [])->(s.met.getD k false=true->Le (s.at_.getD k []) d)->Le l d->(∀c,sx fs f c->∃t,c k=some t/\Le d t)->
   pD fs f ⟨s.at_.set k d,s.met.set k true,s.todo++ [(k:Int)]⟩/\Up s ⟨s.at_.set k d,s.met.set k true,s.todo++ [(k:Int)]⟩/\(s.met.set k true).getD k false=true/\Le l ((s.at_.set k d).getD k []):=by
  intro u d j E J G I;have o:∀a,(s.at_.set k d).getD a []=if a=k then d else s.at_.getD a []:=fun a=>jg (by rw[z.al];exact u)
  have p:∀a,(s.met.set k true).getD a false=if a=k then true else s.met.getD a false:=fun a=>jg (by rw[z.ml];exact u)
  refine⟨⟨?_,?_,fun a b=>?_,fun c g a b=>?_⟩,⟨fun a b=>?_,fun a b=>?_,fun O K=>iH _ K⟩,?_,?_⟩
  ·show (s.met.set k true).getD 0 false=true;rw[p]
   split
   ·rfl
   exact i.m0
  ·show (s.at_.set k d).getD 0 []= [];rw[o]
   split
   ·rename_i e;exact E e.symm
   exact i.a0
  ·show Ty ((s.at_.set k d).getD a []);have b:(s.met.set k true).getD a false=true:=b;rw[o];rw[p] at b
   split
   ·exact j
   rename_i e;rw[if_neg e] at b;exact i.ty a b
  ·show∃t,c a=some t/\Le ((s.at_.set k d).getD a []) t;have b:(s.met.set k true).getD a false=true:=b;rw[o];rw[p] at b
   split
   ·rename_i e;subst e;exact I c g
   rename_i e;rw[if_neg e] at b;exact i.le c g a b
  ·show (s.met.set k true).getD a false=true/\Le (s.at_.getD a []) ((s.at_.set k d).getD a []);rw[o,p]
   split
   ·rename_i e;subst e;exact⟨rfl,J b⟩
   exact⟨b,.refl _⟩
  ·have b:(s.met.set k true).getD a false=true:=b;rw[p] at b
   by_cases e:a=k
   ·subst e;right;exact ip _ σ
   rw[if_neg e] at b;left;refine⟨b,?_⟩;show (s.at_.set k d).getD a []=_;rw[o,if_neg e]
  ·rw[p,if_pos rfl]
  rw[o,if_pos rfl];exact G
 unfold dK
 split
 ·rename_i u;refine⟨fun h=>(by cases h),fun _ c g=>?_⟩;obtain⟨t,m,_⟩:=v c g;have:=(g.ok k t m).1;omega
 rename_i u
 split
 ·rename_i n
  split
  ·rename_i j;refine⟨fun h=>(by cases h),fun _ c g=>?_⟩;obtain⟨t,m,w⟩:=v c g;obtain⟨L,q,x⟩:=i.le c g k n;rw[m] at q
   cases q
   obtain⟨d,r,_⟩:=BU (g.ok k t m).2.1 x w;rw[j] at r
   cases r
  rename_i d j;have y:=Qw j
  split
  ·rename_i A;refine⟨fun _=>⟨i,.refl _,n,by rw[<-A];exact y.2⟩,fun h=>(by cases h)⟩
  rename_i A;refine⟨fun _=>D ω d (E8 j (i.ty k n) C) (fun e=>?_) (fun _=>y.1) y.2 (fun c g=>?_),fun h=>(by cases h)⟩
  ·subst e;rw[i.a0] at j;have:=(nm j).2;exact bz this
  obtain⟨t,m,w⟩:=v c g;obtain⟨L,q,x⟩:=i.le c g k n;rw[m] at q
  cases q
  obtain⟨N,r,F⟩:=BU (g.ok k t m).2.1 x w;rw[j] at r
  cases r
  exact⟨t,m,F⟩
 rename_i n;refine⟨fun _=>D ω l C (fun e=>?_) (fun h=>absurd h n) (.refl _) v,fun h=>(by cases h)⟩;subst e;exact absurd i.m0 n
theorem wW {fs:List aw} {f:aw} :∀{L:List Int} {s:eE} {l:List Int},gH f.C.length s->pD fs f s->(∀q∈L,0<=q/\q<=f.C.length)->l.length<=8->s.todo.length+L.length<5000->Ty l->(∀b,sx fs f b->∀q∈L,∃t,b q.toNat=some t/\Le l t)->
  (∀s',ec f.C.length s L l=some s'->pD fs f s'/\Up s s'/\∀q∈L,s'.met.getD q.toNat false=true/\Le l (s'.at_.getD q.toNat []))/\(ec f.C.length s L l=none->∀b,¬sx fs f b)
 | [],s,l,c,d,_,_,_,_,_=>by
  refine⟨fun s' e=>?_,fun e=>by simp[ec] at e⟩;simp only[ec,bE] at e;subst e;exact⟨d,.refl _,fun q h=>by cases h⟩
 | a::L,s,l,c,d,n,i,r,j,m=>by
  have:=n a σ;rw[bC] at r;obtain⟨A,C⟩:=OI c d (k:=a.toNat) ω j (fun b g=>m b g a σ);obtain⟨p,I⟩:=oG c (k:=a.toNat) ω i ω;simp only[ec]
  cases hb:(dK f.C.length s a.toNat l).1
  ·simp only[pM,if_false];exact⟨fun s' e=>(by cases e),fun _=>C hb⟩
  simp only[if_true];obtain⟨u,v,w,x⟩:=A hb;obtain⟨y,z⟩:=wW (L:=L) (l:=l) p u (fun q h=>n q (by simp[h])) i ω j (fun b g q h=>m b g q (by simp[h]));refine⟨fun s' e=>?_,z⟩;obtain⟨D,o,E⟩:=y s' e;refine⟨D,v.trans o,fun q h=>?_⟩;rcases eo.1 h with rfl | h
  ·obtain⟨F,G⟩:=o.up _ w;exact⟨F,x.trans G⟩
  exact E q h
def Dn (fs:List aw) (f:aw) (s:eE) (i:Nat):Prop:= ∃v,ij fs f (bH f.C i) (s.at_.getD i [])=some v/\∀q∈dX (bH f.C i) i,s.met.getD q.toNat false=true/\Le v (s.at_.getD q.toNat [])
def Wk (fs:List aw) (f:aw) (s:eE):Prop:= ∀i:Nat,s.met.getD i false=true->(i:Int)∈s.todo\/Dn fs f s i
theorem Dn.up {fs:List aw} {f:aw} {s s':eE} {i:Nat} (h:Dn fs f s i) (hu:Up s s') (e:s'.at_.getD i []=s.at_.getD i []):Dn fs f s' i:=by
 obtain⟨v,h1,h2⟩:=h
 refine⟨v,by rw[e];exact h1,fun q hq=>?_⟩
 obtain⟨k1,k2⟩:=h2 q hq
 obtain⟨k3,k4⟩:=hu.up _ k1
 exact⟨k3,k2.trans k4⟩
theorem pR {fs:List aw} {f:aw} {o:bG} {s v:List Int} (h:ij fs f o s=some v):v.length<=8:=by
 obtain⟨b,c,_,_,a,_,rfl⟩:=kv.1 h;exact a
def Tm (s:eE):Prop:= ∀x∈s.todo,s.met.getD x.toNat false=true
theorem RE {n:Nat} {s:eE} (g:gH n s) (h:Tm s) {k:Nat} (i:k<=n) (l:List Int):Tm (dK n s k l).2:=by
 have e:k≠n->∀d:List Int,Tm ⟨s.at_.set k d,s.met.set k true,s.todo++ [(k:Int)]⟩:=fun b d f a=>by
  show (s.met.set k true).getD f.toNat false=true;rw[jg (by rw[g.ml];omega)]
  split
  ·rfl
  rename_i c;rcases dU.1 a with a | a
  ·exact h f a
  rw[cN.1 a] at c;exact absurd (bu k) c
 unfold dK
 split
 ·exact h
 rename_i b
 split
 ·split
  ·exact h
  split
  ·exact h
  exact e b _
 exact e b _
theorem FB {n:Nat} :∀{L:List Int} {s s':eE} {l:List Int},gH n s->Tm s->(∀q∈L,0<=q/\q<=n)->l.length<=8->s.todo.length+L.length<5000->ec n s L l=some s'->Tm s'
 | [],s,s',l,_,h,_,_,_,e=>by
  simp only[ec,bE] at e;subst e;exact h
 | a::L,s,s',l,c,h,d,b,g,e=>by
  simp only[ec] at e
  split at e
  ·have:=d a σ;rw[bC] at g;obtain⟨f,i⟩:=oG c (k:=a.toNat) ω b ω;exact FB f (RE c h ω l) (fun q h=>d q (by simp[h])) b ω e
  cases e
theorem Nf {fs:List aw} {f:aw} (t:nR fs f) (Q:sB fs f) {s:eE} (k:gH f.C.length s) (g:pD fs f s) (M:Wk fs f s) (C:Tm s) (X:0<s.todo.length) (Y:s.todo.length<=4000) :
  (∀s',oq fs f s=some s'->pD fs f s'/\Wk fs f s'/\Tm s')/\(oq fs f s=none->∀j,¬sx fs f j):=by
 obtain⟨b,W⟩:∃b,s.todo.length=b+1:=⟨s.todo.length - 1,ω⟩
 have N:s.todo[b]? =some (s.todo.getD b 0):=by rw[ap,aq ω];rfl
 have A:s.todo.getD b 0∈s.todo:=fQ N;have:=k.td _ A;have o:=C _ A;obtain⟨a,q⟩:∃a:Nat,s.todo.getD b 0=(a:Int):=⟨(s.todo.getD b 0).toNat,ω⟩
 rw[q,bu] at o;have r:a<f.C.length:=ω;have F:oq fs f s=match ij fs f (bH f.C a) (s.at_.getD a []) with
   | none=>none
   | some p=>ec f.C.length ⟨s.at_,s.met,s.todo.take b⟩ (dX (bH f.C a) a) p:=by
  unfold oq ij;dsimp only;rw[show s.todo.length - 1=b from by omega,q,bu]
  split <;> rfl
 have y:gH f.C.length ⟨s.at_,s.met,s.todo.take b⟩:=⟨k.al,k.ml,by show (s.todo.take b).length<=_;rw[aB];omega,k.st,fun w i=>k.td w (iG i)⟩
 have K:pD fs f ⟨s.at_,s.met,s.todo.take b⟩:=⟨g.m0,g.a0,g.ty,g.le⟩
 have L:Tm ⟨s.at_,s.met,s.todo.take b⟩:=fun w i=>C w (iG i);have:=pA (bH f.C a) a;have z:(s.todo.take b).length+(dX (bH f.C a) a).length<5000:=by rw[aB];omega
 rw[F]
 cases hv:ij fs f (bH f.C a) (s.at_.getD a []) with
 | none=>
  refine⟨fun s' m=>(by cases m),fun _ j l=>?_⟩;obtain⟨v,e,d⟩:=g.le j l a o;obtain⟨_,_,p,c,_⟩:=l.ok a v e;obtain⟨U,n,_⟩:=sK d c;rw[hv] at n
  cases n
 | some p=>
  obtain⟨D,E⟩:=wW y K (t.to_ a r) (pR hv) z (By Q (t.op a r) (g.ty a o) hv) (fun j l T P=>by
   obtain⟨v,e,d⟩:=g.le j l a o;obtain⟨_,_,ad,c,n⟩:=l.ok a v e;obtain⟨U,x,G⟩:=sK d c;rw[hv] at x
   cases x
   obtain⟨s',I,J⟩:=n T P;exact⟨s',I,G.trans J⟩)
  refine⟨fun s' m=>?_,E⟩;obtain⟨R,u,S⟩:=D s' m;refine⟨R,fun h O=>?_,FB y L (t.to_ a r) (pR hv) z m⟩;rcases u.old h O with ⟨e,d⟩ | e
  ·rcases M h e with c | c
   ·by_cases i:(h:Int)∈s.todo.take b
    ·exact .inl (u.td _ i)
    have:(h:Int)=a:=by
     rw[<-ji b s.todo] at c;rcases dU.1 c with c | c
     ·exact absurd c i
     have:s.todo.drop b= [s.todo.getD b 0]:=by
      rw[fT ω,List.drop_of_length_le ω];rw[ap,aq ω];rfl
     rw[this,cN,q] at c;exact c
    have:h=a:=ω;subst this;right;have d:s'.at_.getD h []=s.at_.getD h []:=d;exact⟨p,by rw[d];exact hv,S⟩
   exact .inr (Dn.up (s:=⟨s.at_,s.met,s.todo.take b⟩) c u d)
  exact .inl e
theorem E2 {fs:List aw} {f:aw} (c:nR fs f) (l:sB fs f):∀(k:Nat) {s:eE},gH f.C.length s->pD fs f s->Wk fs f s->Tm s->mu f.C.length s<=4000->mu f.C.length s<k->
  (∀s',nF fs f k s=some s'->gH f.C.length s'/\pD fs f s'/\(∀i:Nat,s'.met.getD i false=true->Dn fs f s' i))/\(nF fs f k s=none->∀m,¬sx fs f m)
 | 0,_,_,_,_,_,_,h=>absurd h (gu _)
 | k+1,s,b,d,g,q,p,x=>by
  simp only[nF]
  by_cases a:s.todo.length=0
  ·simp only[a,if_true];refine⟨fun s' e=>?_,fun e=>(by cases e)⟩;simp only[bE] at e;subst e;refine⟨b,d,fun i hi=>?_⟩;rcases g i hi with h | h
   ·rw[bz a] at h;cases h
   exact h
  simp only[a,if_false];have j:s.todo.length<=4000:=by unfold mu at p;omega
  obtain⟨n,o⟩:=Nf c l b d g q ω j
  cases e:oq fs f s with
  | none=>exact⟨fun s' h=>(by cases h),fun _=>o e⟩
  | some w=>
   obtain⟨r,t,u⟩:=n w e;obtain⟨v,y⟩:=yI c b ω j e;exact E2 c l k v r t u ω ω
def MO (s:eE) (i:Nat):Option (List Int):=if s.met.getD i false=true then some (s.at_.getD i []) else none
theorem jL {s:eE} {i:Nat} {t:List Int} :MO s i=some t↔s.met.getD i false=true/\s.at_.getD i []=t:=by
 unfold MO
 split
 ·rename_i b;exact⟨fun a=>⟨b,fC a⟩,fun a=>by rw[a.2]⟩
 rename_i b;exact⟨fun a=>(by cases a),fun a=>absurd a.1 b⟩
theorem rD {fs:List aw} {f:aw} (n:nR fs f) (G:sB fs f) (m:0<f.C.length) :
  (∀s,qT fs f=some s->gH f.C.length s/\sx fs f (MO s)/\∀b,sx fs f b->∀i t,MO s i=some t->∃u,b i=some u/\Le t u)/\(qT fs f=none->∀b,¬sx fs f b):=by
 have e:jr f.C.length=⟨(List.replicate f.C.length ([]:List Int)).set 0 [],(List.replicate f.C.length false).set 0 true,[0]⟩:=by
  unfold jr dK iL;rw[if_neg ω,if_neg (by rw[ma];decide)];rfl
 have j:∀i,(jr f.C.length).at_.getD i []= []:=fun i=>by
  rw[e];show ((List.replicate f.C.length ([]:List Int)).set 0 []).getD i []= [];rw[jg (ψ m)]
  split
  ·rfl
  exact ma _ _ _
 have k:∀i,(jr f.C.length).met.getD i false=if i=0 then true else false:=fun i=>by
  rw[e];show ((List.replicate f.C.length false).set 0 true).getD i false=_;rw[jg (ψ m)]
  split
  ·rfl
  exact ma _ _ _
 have q:∀i,(jr f.C.length).met.getD i false=true->i=0:=fun i a=>by
  rw[k] at a
  by_cases d:i=0
  ·exact d
  rw[if_neg d] at a;cases a
 have A:pD fs f (jr f.C.length):=⟨by rw[k];rfl,j 0,fun i _=>by rw[j];exact fun _ a=>(by cases a),fun b a i l=>by
  have:=q i l;subst this;exact⟨[],a.m0,by rw[j];exact .refl _⟩⟩
 have E:Wk fs f (jr f.C.length):=fun i l=>by
  have:=q i l;subst this;left;rw[e];simp
 have D:Tm (jr f.C.length):=fun M o=>by
  rw[e] at o;have:M=0:=ψ o;subst this;rw[k];rfl
 obtain⟨J,O⟩:=Cm m;have:=n.n40;obtain⟨r,v⟩:=E2 n G (mu f.C.length (jr f.C.length)+1) J A E D ω ω;refine⟨fun s d=>?_,v⟩;obtain⟨p,g,I⟩:=r s d;refine⟨p,⟨jL.2 ⟨g.m0,g.a0⟩,fun i t a=>?_⟩,fun b C i t a=>?_⟩
 ·obtain⟨c,h⟩:=jL.1 a;subst h;refine⟨Ah p c,g.ty i c,?_⟩;obtain⟨L,w,x⟩:=I i c;refine⟨L,w,fun K F=>?_⟩;obtain⟨y,z⟩:=x K F;exact⟨_,jL.2 ⟨y,rfl⟩,z⟩
 obtain⟨c,h⟩:=jL.1 a;subst h;exact g.le b C i c
theorem Jw {fs:List aw} (h:dp fs=0) {k:Nat} (e:k<fs.length):sB fs (au fs k):=by
 obtain⟨_,_,a⟩:=iE h;obtain⟨_,_,_,c,_⟩:=lj (a _ (jN e));refine⟨fun g f=>?_,fun i d=>?_⟩
 ·have:=c g f;omega
 obtain⟨_,_,b,_⟩:=lj (a _ (jN d));exact b
end
section
theorem S3 {n:Nat} {s:eE} (h:gH n s):tX n s<=9*n:=by
 have b:∀a:Nat,((List.range a).map (mi s)).sum<=9*a:=fun a=>by
  induction a with
  | zero=>simp
  | succ a c=>
   rw[iB,db,vF];have:mi s a<=9:=by
    unfold mi
    split
    ·have:=ER (s.at_.getD a []);have:=h.st a;omega
    exact aH _
   simp only[eM,iI,B9,List.sum_nil];omega
 exact b n
theorem Mg {n:Nat} {s:eE} {k:Nat} {l:List Int} :(dK n s k l).2=s\/(dK n s k l).2.todo=s.todo++ [(k:Int)]:=by
 unfold dK
 repeat (first | exact .inl rfl | exact .inr rfl | split)
theorem AZ {n:Nat} :∀{L:List Int} {s s':eE} {l:List Int},ec n s L l=some s'->s'.todo= []->s'=s
 | [],s,s',l,e,_=>by
  simp only[ec,bE] at e;exact e.symm
 | a::L,s,s',l,e,h=>by
  simp only[ec] at e
  split at e
  ·have c:=AZ e h;rcases Mg (n:=n) (s:=s) (k:=a.toNat) (l:=l) with b | b
   ·rw[c,b]
   rw[<-c,h] at b;have:=congrArg List.length b;simp at this
  cases e
structure Sw (fs:List aw) (f:aw) (s0:eE) (i:Nat) (s:eE):Prop where
 ok:gH f.C.length s
 inv:pD fs f s
 mu_:mu f.C.length s<=mu f.C.length s0
 dn:s.todo= []->s=s0/\∀j,j<i->s.met.getD j false=true->Dn fs f s j
theorem Sw.todo {fs:List aw} {f:aw} {s0 s:eE} {i:Nat} (h:Sw fs f s0 i s) (h0:gH f.C.length s0) (ht:s0.todo= []) (hn:f.C.length<=40):s.todo.length<=360:=by
 have h1:=h.mu_
 have h2:=S3 h0
 unfold mu at h1
 rw[ht] at h1
 simp only[aE] at h1
 omega
theorem Sw.start {fs:List aw} {f:aw} {a:eE} (h:gH f.C.length a) (hi:pD fs f a):Sw fs f a 0 a:=⟨h,hi,aH _,fun _=>⟨rfl,fun _ b=>absurd b (gu _)⟩⟩
theorem Sw.skip {fs:List aw} {f:aw} {d s:eE} {i:Nat} (h:Sw fs f d i s) (g:¬s.met.getD i false=true):Sw fs f d (i+1) s:=
 ⟨h.ok,h.inv,h.mu_,fun a=>⟨(h.dn a).1,fun c j b=>by
  by_cases e:c=i
  ·subst e;exact absurd b g
  exact(h.dn a).2 c ω b⟩⟩
theorem Sw.bad {fs:List aw} {f:aw} {l s:eE} {i:Nat} (h:Sw fs f l i s) (j:s.met.getD i false=true) (k:ij fs f (bH f.C i) (s.at_.getD i [])=none) (a:Nat->Option (List Int)):¬sx fs f a:=fun c=>by
 obtain⟨m,d,e⟩:=h.inv.le a c i j;obtain⟨_,_,o,g,_⟩:=c.ok i m d;obtain⟨n,b,_⟩:=sK e g;rw[k] at b
 cases b
theorem Sw.comes {fs:List aw} {f:aw} (b:nR fs f) (y:sB fs f) {e s:eE} {i:Nat} (h:Sw fs f e i s) (m:gH f.C.length e) (x:e.todo= []) (hi:i<f.C.length) (l:s.met.getD i false=true) {v:List Int} (d:ij fs f (bH f.C i) (s.at_.getD i [])=some v)
  {L:List Int} (j:∀q∈L,q∈dX (bH f.C i) i) (C:L.length<=4) :
  (∀s',ec f.C.length s L v=some s'->pD fs f s'/\Up s s'/\∀q∈L,s'.met.getD q.toNat false=true/\Le v (s'.at_.getD q.toNat []))/\(ec f.C.length s L v=none->∀a,¬sx fs f a):=by
 have:=h.todo m x b.n40;exact wW h.ok h.inv (fun q c=>b.to_ i hi q (j q c)) (pR d) ω (By y (b.op i hi) (h.inv.ty i l) d) (fun a k q c=>by
   obtain⟨z,n,o⟩:=h.inv.le a k i l;obtain⟨_,_,E,p,r⟩:=k.ok i z n;obtain⟨D,g,t⟩:=sK o p;rw[d] at g
   cases g
   obtain⟨s',u,w⟩:=r q (j q c);exact⟨s',u,t.trans w⟩)
theorem Sw.step {fs:List aw} {f:aw} (a:nR fs f) (w:sB fs f) {c s:eE} {i:Nat} (h:Sw fs f c i s) (g:gH f.C.length c) (j:c.todo= []) (hi:i<f.C.length) (r:s.met.getD i false=true) {v:List Int} (b:ij fs f (bH f.C i) (s.at_.getD i [])=some v)
  {s':eE} (e:ec f.C.length s (dX (bH f.C i) i) v=some s'):Sw fs f c (i+1) s':=by
 have:=h.todo g j a.n40;have:=pA (bH f.C i) i;obtain⟨x,D,y⟩:=(h.comes a w g j hi r b (fun E u=>u) ω).1 s' e;have p:=wX h.ok (a.to_ i hi) (pR b) ω e;have t:=wY h.ok (a.to_ i hi) (pR b) ω e;refine⟨p.1,x,dW t h.mu_,fun d=>?_⟩;have o:=AZ e d;subst o;obtain⟨l,m⟩:=h.dn d;refine⟨l,fun k A q=>?_⟩
 by_cases n:k=i
 ·subst n;exact⟨v,b,y⟩
 exact m k ω q
theorem Sw.again {fs:List aw} {f:aw} {b s:eE} {i:Nat} (h:Sw fs f b i s) (c:b.todo= []) (d:s.todo≠[]):gH f.C.length ⟨s.at_,s.met,[]⟩/\pD fs f ⟨s.at_,s.met,[]⟩/\tX f.C.length ⟨s.at_,s.met,[]⟩<tX f.C.length b:=by
 refine⟨⟨h.ok.al,h.ok.ml,σ,h.ok.st,fun j e=>by cases e⟩,⟨h.inv.m0,h.inv.a0,h.inv.ty,h.inv.le⟩,?_⟩;have a:=h.mu_;unfold mu at a;rw[c] at a;simp only[aE] at a;have:=sC.2 d;show tX f.C.length s<_;omega
theorem CZ {fs:List aw} {f:aw} (c:nR fs f) (d:sB fs f) (b:0<f.C.length) (h:∀a,¬sx fs f a):cM fs f=([],false):=by
 unfold cM
 cases e:qT fs f with
 | none=>rfl
 | some g=>exact absurd ((rD c d b).1 g e).2.1 (h _)
theorem L0 {fs:List aw} {f:aw} (n:nR fs f) (o:sB fs f) (m:0<f.C.length) {s:eE} (u:gH f.C.length s) (d:pD fs f s) (v:∀i:Nat,s.met.getD i false=true->Dn fs f s i):cM fs f=(mM s f.C.length,true):=by
 have l:sx fs f (MO s):=⟨jL.2 ⟨d.m0,d.a0⟩,fun i z r=>by
  obtain⟨a,h⟩:=jL.1 r;subst h;refine⟨Ah u a,d.ty i a,?_⟩;obtain⟨C,b,j⟩:=v i a;refine⟨C,b,fun y w=>?_⟩;obtain⟨c,k⟩:=j y w;exact⟨_,jL.2 ⟨c,rfl⟩,k⟩⟩
 unfold cM
 cases e:qT fs f with
 | none=>exact absurd l ((rD n o m).2 e _)
 | some q=>
  obtain⟨D,x,p⟩:=(rD n o m).1 q e;show (mM q f.C.length,true)=_
  congr 1
  unfold mM
  congr 1
  funext i
  by_cases g:s.met.getD i false=true
  ·obtain⟨z,a,h⟩:=d.le _ x i g;obtain⟨b,j⟩:=jL.1 a;subst j;obtain⟨A,c,k⟩:=p _ l i _ a;obtain⟨_,t⟩:=jL.1 c;subst t;rw[if_pos g,if_pos b,h.anti k]
  rw[if_neg g,if_neg];intro b;obtain⟨A,c,_⟩:=p _ l i _ (jL.2 ⟨b,rfl⟩);exact g (jL.1 c).1
def xX (n:Nat):eE:=⟨List.replicate n [],(List.replicate n false).set 0 true,[]⟩
theorem Sc {fs:List aw} {f:aw} (h:0<f.C.length):gH f.C.length (xX f.C.length)/\pD fs f (xX f.C.length):=by
 have b:∀a,(xX f.C.length).at_.getD a []= []:=fun a=>ma _ _ _;have g:∀a,(xX f.C.length).met.getD a false=if a=0 then true else false:=fun a=>by
  show ((List.replicate f.C.length false).set 0 true).getD a false=_;rw[jg (ψ h)]
  split
  ·rfl
  exact ma _ _ _
 refine⟨⟨by simp[xX],by simp[xX],by simp[xX],fun a=>by rw[b];simp,fun k i=>by cases i⟩,⟨by rw[g];rfl,b 0,fun a _=>by rw[b];exact fun _ c=>(by cases c),fun j c a d=>?_⟩⟩;rw[g] at d
 by_cases e:a=0
 ·subst e;exact⟨[],c.m0,by rw[b];exact .refl _⟩
 rw[if_neg e] at d;cases d
end
section
section
variable {B:Nat} {w0:World}
end
def tR (a b:Int):Nat->Int
 | 0=>0
 | k+1=>if tR a b k=0/\cH a (3 - k)=true/\cH b (3 - k)=true then 3 - k else tR a b k
theorem Pw {a b:Int} (ha:1<=a/\a<=3) (c:1<=b/\b<=3):tR a b 3=eq a b:=by
 rcases t3 ha with rfl | rfl | rfl <;> rcases t3 c with rfl | rfl | rfl <;> decide
theorem Gm (l m:Option Addr) (o p:Nat) (a b:List Int) (w:World) (A:Sl w (ac l a.length o) a) (h2:Sl w (ac m b.length p) b) (Q:Ty a) (R:Ty b) (W:a.length<=1000000) :
  Calls Tryz.prog 197 #[ac l a.length o,ac m b.length p] w fun e w'=> ∃u,e= .returned (.tuple #[u,.bool (cy a b).isSome])/\Below w.heap.size w w'/\eU w' w.heap.size u ((cy a b).getD []):=by
 have:=bx h2;refine enter Tryz.func197 rfl Tryz.ntmps197 rfl<|cU (fun r=>?_) (fun r=>?_)
 ·have C:=E7 (a:=a) (b:=b) (fun e=>r (by rw[e]));refine aj ?_;intro w k;rw[C];exact⟨_,rfl,mE k⟩
 have r:a.length=b.length:=ω;refine aj ?_;refine dm (fun w j=>Cw.nilO Int j) ?_;refine cZ (fun d:Nat×List Int×Option Addr×Nat=>d.1<=a.length/\cy (a.take d.1) (b.take d.1)=some d.2.1) (fun d=>a.length - d.1) (fun d=> [(0,ac l a.length o),(1,ac m b.length p),(6,ac d.2.2.1 d.2.1.length d.2.2.2),(7,ai (d.1:Int))]) (fun d=> [ag d.2.2.1 d.2.2.2 d.2.1]) (0,[],none,0) (⟨aS _,rfl⟩) ?_;rintro⟨c,g,n,q⟩ G
 try dsimp only
 obtain⟨U,x⟩:c<=a.length/\cy (a.take c) (b.take c)=some g:=G;have:g.length=c:=by have:=(nm x).2;rw[aB] at this;omega
 refine ax (fun L=>?_) (fun L=>?_)
 ·have v:c<a.length:=ω;have y:=uY v ω x;have O:=lN A v;have P:=lN h2 (k:=c) ω;have F:=Pw (Q.at_ v) (R.at_ (i:=c) ω);refine aj ?_;refine jJ (fun _:Unit=>True) (fun _=> [(0,ac l a.length o),(1,ac m b.length p),(6,ac n g.length q),(7,ai (c:Int)),(8,ai (eq (a.getD c 0) (b.getD c 0)))]) (fun _=> [ag n q g]) ?_ ?_
  ·refine cZ (fun d:Nat×Int=>d.1<=3/\d.2=3 - (d.1:Int)) (fun d=>3 - d.1) (fun d=> [(0,ac l a.length o),(1,ac m b.length p),(6,ac n g.length q),(7,ai (c:Int)),(8,ai (tR (a.getD c 0) (b.getD c 0) d.1)),(9,ai d.2)]) (fun _=> [ag n q g]) (0,3) (⟨aS _,rfl⟩) ?_;rintro⟨f,h⟩ I
   try dsimp only
   obtain⟨V,N⟩:f<=3/\h=3 - (f:Int):=I;refine ax (fun K=>?_) (fun K=>?_)
   ·have J:f<3:=ω;have M:tR (a.getD c 0) (b.getD c 0) (f+1)=if tR (a.getD c 0) (b.getD c 0) f=0/\cH (a.getD c 0) h=true/\cH (b.getD c 0) h=true then h else tR (a.getD c 0) (b.getD c 0) f:=by rw[tR,N]
    refine fq (fm ?_);refine dG (fun _:Unit=>True) (fun _=> [(0,ac l a.length o),(1,ac m b.length p),(6,ac n g.length q),(7,ai (c:Int)),(8,ai (tR (a.getD c 0) (b.getD c 0) (f+1))),(9,ai h)]) (fun _=> [ag n q g]) ?_ ?_
    ·rw[M];refine dh 27 (fun i=>?_) (fun i=>?_)
     ·have i:=of_decide_eq_true i;refine aj ?_;refine cP _ rfl (.ro A) ?_;refine nj rfl (.ro A)<|aj ?_;refine cO rfl V1 (fun w k=>tj (a.getD c 0) h w)<|dh 35 (fun s=>?_) (fun s=>?_)
      ·refine aj ?_;refine cP _ rfl (.ro h2) ?_;refine nj rfl (.ro h2)<|aj ?_;refine cO rfl V1 (fun w k=>tj (b.getD c 0) h w)<|aj ?_;refine cc rfl (fun t=>?_) (fun t=>?_)
       ·rw[if_pos ⟨i,s,t⟩];refine aj ?_;refine bX () trivial
       rw[if_neg (fun j=>by rw[j.2.2] at t;cases t)];refine aj ?_;refine bX () trivial
      rw[if_neg (fun j=>by rw[j.2.1] at s;cases s)];refine aj ?_;refine cA rfl<|aj ?_;refine bX () trivial
     have i:=of_decide_eq_false i;rw[if_neg (fun j=>i j.1)];refine aj ?_;refine cA rfl<|aj ?_;refine bX () trivial
    rintro _ _;refine aj ?_;refine cG (f+1,h - 1) (⟨J,by show h - 1=3 - ((f+1:Nat):Int);omega⟩) (by show 3 - (f+1)<3 - f;omega)
   obtain rfl:f=3:=ω;rw[F];refine aj ?_;refine bX () trivial
  rintro _ _;refine ax (fun z=>?_) (fun z=>?_)
  ·rw[if_pos z] at y;have C:=uZ y r;refine aj ?_;intro w k;rw[C];exact⟨_,rfl,mE k⟩
  rw[if_neg z] at y;refine aj ?_;intro T _;refine oE (cz (α:=Int) (bytes:=8) (eq (a.getD c 0) (b.getD c 0)) [] rfl az (aU cW) rfl (eG fc fc) (dt (C5 O P)) ω ω rfl rfl rfl) (fun⟨D,E⟩ _=>?_);refine aP ?_;refine cG (c+1,g++ [eq (a.getD c 0) (b.getD c 0)],D,E) (⟨v,y⟩) (by show _ - _<_ - _;omega)
 obtain rfl:c=a.length:=ω;rw[aR,r,aR] at x;refine aj ?_;intro w k;rw[x];exact⟨_,rfl,mD k⟩
end
section
def dJ (c:Int):List UInt8×List UInt8:=
 if c=1\/c=21 then ([],[105]) else if c=5\/c=6\/c=7 then ([105,105],[105]) else if c=8 then ([],[108]) else if c=9 then ([108],[]) else if c=11\/c=20 then ([105],[]) else if c=14 then ([105],[114]) else if c=15 then ([114,105],[105]) else if c=16 then ([114,105,105],[]) else if c=17\/c=19 then ([114],[105]) else if c=18 then ([],[110]) else ([],[])
def sJ (local_:Int) (b:UInt8):List Int:=if (b.toNat:Int)=105 then [1] else if (b.toNat:Int)=114 then [2] else if (b.toNat:Int)=110 then [3] else if (b.toNat:Int)=108 then [local_] else []
def my (local_:Int) (s:List UInt8):List Int:=s.flatMap (sJ local_)
theorem IW (c:Int) (w:World):Calls Tryz.prog 247 #[ai c] w fun e w'=>e= .returned (.tuple #[.string ⟨(dJ c).1.toArray⟩,.string ⟨(dJ c).2.toArray⟩])/\Below w.heap.size w w':=by
 refine enter Tryz.func247 rfl Tryz.ntmps247 rfl<|ax (fun b=>?_) (fun b=>?_)
 ·refine cT (t:=5) (v':= .bool true) rfl (by rw[decide_eq_true b])<|aj ?_;refine be rfl<|aj ?_;have e:dJ c=([],[105]):=by rw[b];rfl
  refine aj ?_;intro w a;rw[e];exact⟨rfl,a.below⟩
 refine ax (fun o=>?_) (fun o=>?_)
 ·have e:dJ c=([],[105]):=by rw[o];rfl
  refine aj ?_;intro w a;rw[e];exact⟨rfl,a.below⟩
 refine ax (fun g=>?_) (fun g=>?_)
 ·refine cT (t:=8) (v':= .bool true) rfl (by rw[decide_eq_true g])<|aj ?_;refine be rfl<|aj ?_;have e:dJ c=([105,105],[105]):=by rw[g];rfl
  refine aj ?_;intro w a;rw[e];exact⟨rfl,a.below⟩
 refine ax (fun h=>?_) (fun h=>?_)
 ·refine cT (t:=8) (v':= .bool true) rfl (by rw[decide_eq_true h])<|aj ?_;refine be rfl<|aj ?_;have e:dJ c=([105,105],[105]):=by rw[h];rfl
  refine aj ?_;intro w a;rw[e];exact⟨rfl,a.below⟩
 refine ax (fun p=>?_) (fun p=>?_)
 ·have e:dJ c=([105,105],[105]):=by rw[p];rfl
  refine aj ?_;intro w a;rw[e];exact⟨rfl,a.below⟩
 refine ax (fun q=>?_) (fun q=>?_)
 ·have e:dJ c=([],[108]):=by rw[q];rfl
  refine aj ?_;intro w a;rw[e];exact⟨rfl,a.below⟩
 refine ax (fun r=>?_) (fun r=>?_)
 ·have e:dJ c=([108],[]):=by rw[r];rfl
  refine aj ?_;intro w a;rw[e];exact⟨rfl,a.below⟩
 refine ax (fun d=>?_) (fun d=>?_)
 ·refine cT (t:=16) (v':= .bool true) rfl (by rw[decide_eq_true d])<|aj ?_;refine be rfl<|aj ?_;have e:dJ c=([105],[]):=by rw[d];rfl
  refine aj ?_;intro w a;rw[e];exact⟨rfl,a.below⟩
 refine ax (fun n=>?_) (fun n=>?_)
 ·have e:dJ c=([105],[]):=by rw[n];rfl
  refine aj ?_;intro w a;rw[e];exact⟨rfl,a.below⟩
 refine ax (fun i=>?_) (fun i=>?_)
 ·have e:dJ c=([105],[114]):=by rw[i];rfl
  refine aj ?_;intro w a;rw[e];exact⟨rfl,a.below⟩
 refine ax (fun j=>?_) (fun j=>?_)
 ·have e:dJ c=([114,105],[105]):=by rw[j];rfl
  refine aj ?_;intro w a;rw[e];exact⟨rfl,a.below⟩
 refine ax (fun k=>?_) (fun k=>?_)
 ·have e:dJ c=([114,105,105],[]):=by rw[k];rfl
  refine aj ?_;intro w a;rw[e];exact⟨rfl,a.below⟩
 refine ax (fun f=>?_) (fun f=>?_)
 ·refine cT (t:=25) (v':= .bool true) rfl (by rw[decide_eq_true f])<|aj ?_;refine be rfl<|aj ?_;have e:dJ c=([114],[105]):=by rw[f];rfl
  refine aj ?_;intro w a;rw[e];exact⟨rfl,a.below⟩
 refine ax (fun m=>?_) (fun m=>?_)
 ·have e:dJ c=([114],[105]):=by rw[m];rfl
  refine aj ?_;intro w a;rw[e];exact⟨rfl,a.below⟩
 refine ax (fun l=>?_) (fun l=>?_)
 ·have e:dJ c=([],[110]):=by rw[l];rfl
  refine aj ?_;intro w a;rw[e];exact⟨rfl,a.below⟩
 refine aj ?_;have e:dJ c=([],[]):=by unfold dJ;simp[b,o,g,h,p,q,r,d,n,i,j,k,f,m,l]
 refine aj ?_;intro w a;rw[e];exact⟨rfl,a.below⟩
theorem Pp (x:Int) (b:UInt8):(sJ x b).length<=1:=by
 unfold sJ
 repeat (first | split | simp)
theorem xv (x:Int):∀s:List UInt8,(my x s).length<=s.length
 | []=>by simp[my]
 | b::s=>by
  have:=xv x s;have:=Pp x b;simp only[my,fH,ar,bC] at *;omega
theorem M5 {x:Int} {s:List UInt8} {i:Nat} (hi:i<s.length):my x (s.take (i+1))=my x (s.take i)++sJ x (s.getD i 0):=by
 unfold my;rw[dI hi,oK,ap,aq hi];simp
theorem zJ (s:List UInt8) (x:Int) (t:aI x) (w:World) (D:s.length<=1000):Calls Tryz.prog 248 #[.string ⟨s.toArray⟩,ai x] w fun e w'=> ∃u,e= .returned u/\Below w.heap.size w w'/\eU w' w.heap.size u (my x s):=by
 refine enter Tryz.func248 rfl Tryz.ntmps248 rfl<|aj ?_;refine dm (fun w p=>Cw.nilO Int p) ?_;refine cZ (fun a:Nat×Option Addr×Nat=>a.1<=s.length) (fun a=>s.length - a.1) (fun a=> [(0,.string ⟨s.toArray⟩),(1,ai x),(5,ac a.2.1 (my x (s.take a.1)).length a.2.2),(6,ai (a.1:Int))]) (fun a=> [ag a.2.1 a.2.2 (my x (s.take a.1))]) (0,none,0) (aS _) ?_;rintro⟨b,n,o⟩ q
 try dsimp only
 have:b<=s.length:=q;have l:=xv x (s.take b);rw[aB] at l;refine ax (fun l=>?_) (fun l=>?_)
 ·have j:b<s.length:=ω;have r:=M5 (x:=x) j;refine fq (fm ?_);refine dG (fun _:Option Addr×Nat=>True) (fun a=> [(0,.string ⟨s.toArray⟩),(1,ai x),(5,ac a.1 (my x (s.take (b+1))).length a.2),(6,ai (b:Int))]) (fun a=> [ag a.1 a.2 (my x (s.take (b+1)))]) ?_ ?_
  ·rw[r];refine aj ?_;refine sE (BN (k:=b) kM j rfl rfl rfl)<|ax (fun f=>?_) (fun f=>?_)
   ·have e:sJ x (s.getD b 0)= [1]:=by unfold sJ;rw[if_pos f]
    rw[e];refine aj ?_;intro v _;refine oE (cz (α:=Int) (bytes:=8) 1 [] rfl az (aU cW) rfl (eG fc fc) (dt (show aI _ from by decide)) ω ω rfl rfl rfl) (fun⟨c,d⟩ _=>?_);refine aP ?_;refine bX (c,d) trivial
   refine ax (fun g=>?_) (fun g=>?_)
   ·have e:sJ x (s.getD b 0)= [2]:=by unfold sJ;rw[if_neg f,if_pos g]
    rw[e];refine aj ?_;intro y _;refine oE (cz (α:=Int) (bytes:=8) 2 [] rfl az (aU cW) rfl (eG fc fc) (dt (show aI _ from by decide)) ω ω rfl rfl rfl) (fun⟨c,d⟩ _=>?_);refine aP ?_;refine bX (c,d) trivial
   refine ax (fun h=>?_) (fun h=>?_)
   ·have e:sJ x (s.getD b 0)= [3]:=by unfold sJ;rw[if_neg f,if_neg g,if_pos h]
    rw[e];refine aj ?_;intro z _;refine oE (cz (α:=Int) (bytes:=8) 3 [] rfl az (aU cW) rfl (eG fc fc) (dt (show aI _ from by decide)) ω ω rfl rfl rfl) (fun⟨c,d⟩ _=>?_);refine aP ?_;refine bX (c,d) trivial
   refine ax (fun i=>?_) (fun i=>?_)
   ·have e:sJ x (s.getD b 0)= [x]:=by unfold sJ;rw[if_neg f,if_neg g,if_neg h,if_pos i]
    rw[e];refine aj ?_;intro A _;refine oE (cz (α:=Int) (bytes:=8) x [] rfl az (aU cW) rfl (eG fc fc) (dt t) ω ω rfl rfl rfl) (fun⟨c,d⟩ _=>?_);refine aP ?_;refine bX (c,d) trivial
   have e:sJ x (s.getD b 0)= []:=by unfold sJ;rw[if_neg f,if_neg g,if_neg h,if_neg i]
   rw[e,et];refine aj ?_;refine bX (n,o) trivial
  rintro⟨c,d⟩ _;refine aj ?_;refine cG (b+1,c,d) j (by show _ - _<_ - _;omega)
 obtain rfl:b=s.length:=ω;refine aj ?_;intro w m;rw[aR] at m⊢;exact⟨_,rfl,mD m⟩
end
section
theorem vK {c:Int} (j:¬c=8) (k:¬c=9) (x:Int):my x (dJ c).1=(cQ c).1/\my x (dJ c).2=(cQ c).2:=by
 unfold dJ cQ
 by_cases a:c=1\/c=21
 ·rw[if_pos a,if_pos a];exact⟨rfl,rfl⟩
 rw[if_neg a,if_neg a]
 by_cases d:c=5\/c=6\/c=7
 ·rw[if_pos d,if_pos d];exact⟨rfl,rfl⟩
 rw[if_neg d,if_neg d,if_neg j,if_neg k]
 by_cases e:c=11\/c=20
 ·rw[if_pos e,if_pos e];exact⟨rfl,rfl⟩
 rw[if_neg e,if_neg e]
 by_cases f:c=14
 ·rw[if_pos f,if_pos f];exact⟨rfl,rfl⟩
 rw[if_neg f,if_neg f]
 by_cases g:c=15
 ·rw[if_pos g,if_pos g];exact⟨rfl,rfl⟩
 rw[if_neg g,if_neg g]
 by_cases h:c=16
 ·rw[if_pos h,if_pos h];exact⟨rfl,rfl⟩
 rw[if_neg h,if_neg h]
 by_cases i:c=17\/c=19
 ·rw[if_pos i,if_pos i];exact⟨rfl,rfl⟩
 rw[if_neg i,if_neg i]
 by_cases b:c=18
 ·rw[if_pos b,if_pos b];exact⟨rfl,rfl⟩
 rw[if_neg b,if_neg b];exact⟨rfl,rfl⟩
theorem Gy (c:Int):(dJ c).1.length<=3/\(dJ c).2.length<=3:=by
 unfold dJ
 repeat (first | split | decide)
def jZ (f:aw) (o:bG):Int:=if o.c=8\/o.c=9 then f.L.getD o.a.toNat 0 else 0
theorem IG {fs:List aw} {f:aw} {o:bG} {s:List Int} (h2:¬o.c=2) (e:¬o.c=3) (g:¬o.c=4) (c:¬o.c=12) (d:¬o.c=13):tl fs f o s=some (my (jZ f o) (dJ o.c).1,my (jZ f o) (dJ o.c).2):=by
 unfold tl jZ;rw[if_neg h2,if_neg e,if_neg g,if_neg c,if_neg d]
 by_cases a:o.c=8
 ·rw[if_pos a,if_pos (.inl a),a];rfl
 rw[if_neg a]
 by_cases b:o.c=9
 ·rw[if_pos b,if_pos (.inr b),b];rfl
 rw[if_neg b,if_neg ω,(vK a b 0).1,(vK a b 0).2]
theorem wb {fs:List aw} {f:aw} {o:bG} {s:List Int} (h:tl fs f o s=none):ij fs f o s=none:=by rw[Hb,h]
theorem yE {fs:List aw} {f:aw} {o:bG} {s T a:List Int} (h:tl fs f o s=some (T,a)) (i:¬(T.length<=s.length/\(s.take (s.length - T.length)++a).length<=8/\Le (s.drop (s.length - T.length)) T)):ij fs f o s=none:=by
 cases e:ij fs f o s with
 | none=>rfl
 | some l=>
  obtain⟨j,k,b,c,d,g,_⟩:=kv.1 e;rw[h] at b
  cases b
  exact absurd ⟨c,d,g⟩ i
theorem Nt (fs:List aw) (f:aw) (o:bG) (s:List Int) (J I Z p:Option Addr) (O N ad cs:Nat) (w:World) (bp:Sl w (ac J fs.length O) fs) (G:Sl w (ac I f.L.length N) f.L) (i:Sl w (ac p s.length cs) s)
  (A:J3 fs f o) (cg:∀k,k<fs.length->0<=(au fs k).result) (c4:0<=f.result) (c1:s.length<=1000) :
  Calls Tryz.prog 195 #[.agg #[ac J fs.length O],.agg #[ai f.params,ac I f.L.length N,ai f.result,ac Z f.C.length ad],.agg #[ai o.c,ai o.a],ac p s.length cs] w fun e w'=>
   ∃g:(Option Addr×Nat)×List Int,(∀v,ij fs f o s=some v->g.2=v)/\e= .returned (.tuple #[ac g.1.1 g.2.length g.1.2,.bool (ij fs f o s).isSome])/\Cw w.heap.size w [an (ac g.1.1 g.2.length g.1.2) g.2] w':=by
 have:=bO.cap i;refine enter Tryz.func195 rfl Tryz.ntmps195 rfl<|aj ?_;refine fun am _=>aj ?_;refine fun a0 _=>aj ?_;intro S _;refine aC ?_;refine aC ?_;refine bL<|cE<|bQ<|aC ?_;refine dR (lE az rfl rfl) rfl rfl<|aC ?_;refine bL<|cE<|bQ<|aC ?_;refine aC ?_;refine bL<|dG (fun g:List Int×List Int×(Option Addr×Nat)×(Option Addr×Nat)=>tl fs f o s=some (g.1,g.2.1)/\(g.1.length<=1000/\g.2.1.length<=1000)) (fun g=> [(3,ac p s.length cs),(10,ai (s.length:Int)),(11,ac g.2.2.1.1 g.1.length g.2.2.1.2),(12,ac g.2.2.2.1 g.2.1.length g.2.2.2.2)]) (fun g=> [xq w.heap.size w (ac g.2.2.1.1 g.1.length g.2.2.1.2) g.1,xq w.heap.size w (ac g.2.2.2.1 g.2.1.length g.2.2.2.2) g.2.1]) ?_ ?_
 ·have cf:=A.par;refine aj ?_;refine jJ (fun _:Unit=>True) (fun _=> [(3,ac p s.length cs),(4,af am),(5,af a0),(6,af S),(10,ai (s.length:Int)),(11,ac none 0 0),(12,ac none 0 0),(22,ai o.c),(49,.bool (decide (o.c=2\/o.c=3)))]) (fun _=> [ak am [ac J fs.length O] 24,ak a0 [ai f.params,ac I f.L.length N,ai f.result,ac Z f.C.length ad] 84,ak S [ai o.c,ai o.a] 86]) ?_ ?_
  ·refine eK rfl (fun X=>?_) (fun X=>?_)
   ·rw[decide_eq_true (.inl X)];refine cT (t:=49) (v':= .bool true) rfl (by rw[decide_eq_true X])<|aj ?_;refine bX () trivial
   rw[show decide (o.c=2\/o.c=3)=decide (o.c=3) from decide_eq_decide.2 ⟨fun b=>b.resolve_left X,.inr⟩];refine aj ?_;refine lq () trivial
  rintro _ _;refine eK rfl (fun Y=>?_) (fun Y=>?_)
  ·refine ax (fun a2=>?_) (fun a2=>?_)
   ·have h:=wb (show tl fs f o s=none from by
     unfold tl;rcases Y with k | k
     ·rw[if_pos k,if_pos ω]
     rw[if_neg ω,if_pos k,if_pos ω])
    refine aj ?_;intro w l;exact⟨((none,0),[]),fun v d=>(by rw[h] at d;cases d),by rw[h];rfl,Cw.nilO Int (l.msub (T:= []) ms)⟩
   have z:=bO.cut i (s.length - 1) s.length ω (aH _);have F:(s.drop (s.length - 1)).length=s.length - (s.length - 1):=aN;rw[bD ω,<-F] at z;refine aj ?_;refine bj (t:=56) (v':= ai ((s.length - 1:Nat):Int)) rfl (by congr 1;omega) ?_;refine sE (pW (lo:=s.length - 1) (hi:=s.length) az aZ ⟨ω,ω⟩ rfl rfl rfl rfl) ?_;refine aC ?_;refine bL<|cT (t:=11) (v':= ac (iq p (s.length - 1) cs 1) (s.drop (s.length - 1)).length (cs - (s.length - 1))) rfl (by rw[F])<|ax (fun bg=>?_) (fun bg=>?_)
   ·have j:tl fs f o s=some (s.drop (s.length - 1),[s.getD (s.length - 1) 0,s.getD (s.length - 1) 0]):=by unfold tl;rw[if_neg ω,if_pos bg,if_neg ω]
    have W:=lN i (k:=s.length - 1) ω;have al:((s.length:Int) - 1).toNat=s.length - 1:=ω;refine bq [0,3,6,9,12,15,18,21,24,27,32,34] [10,11] rfl<|aj ?_;refine tE rfl (nC az aZ (.ro i) ω rfl rfl rfl) ?_;refine tE rfl (bY (SF.int (.ro i) ω) rfl rfl bF)<|aj ?_;refine tE rfl (nC az aZ (.ro i) ω rfl rfl rfl) ?_;refine tE rfl (bY (SF.int (.ro i) ω) rfl rfl bF)<|aj ?_;refine fun ba _=>aj ?_;rw[al];refine bX (s.drop (s.length - 1),[s.getD (s.length - 1) 0,s.getD (s.length - 1) 0],(iq p (s.length - 1) cs 1,cs - (s.length - 1)),(some ⟨ba,0,none⟩,2)) (⟨j,by show (s.drop (s.length - 1)).length<=1000;omega,by show 2<=1000;decide⟩) (hh:=(fun w b=>(ru z (tU (bN (α:=Int) (m:=2) [s.getD (s.length - 1) 0,s.getD (s.length - 1) 0] rfl (kI W W) rfl κ (b.msub (T:= [ak ba _ _]) ms)))).msub ms))
   have j:tl fs f o s=some (s.drop (s.length - 1),[]):=by unfold tl;rw[if_pos ω,if_neg ω]
   refine aj ?_;refine bX (s.drop (s.length - 1),[],(iq p (s.length - 1) cs 1,cs - (s.length - 1)),(none,0)) (⟨j,by show (s.drop (s.length - 1)).length<=1000;omega,by show 0<=1000;decide⟩) (hh:=(fun w b=>(ru z (ru (bO.nil_ (α:=Int)) b)).msub ms))
  have C:¬o.c=2:=fun e=>Y (.inl e);have D:¬o.c=3:=fun e=>Y (.inr e);refine ax (fun u=>?_) (fun u=>?_)
  ·refine ax (fun a2=>?_) (fun a2=>?_)
   ·have h:=wb (show tl fs f o s=none from by unfold tl;rw[if_neg C,if_neg D,if_pos u,if_pos ω]);refine aj ?_;intro w l;exact⟨((none,0),[]),fun v d=>(by rw[h] at d;cases d),by rw[h];rfl,Cw.nilO Int (l.msub (T:= []) ms)⟩
   have j:tl fs f o s=some (s.drop (s.length - 2),[s.getD (s.length - 1) 0,s.getD (s.length - 2) 0]):=by unfold tl;rw[if_neg C,if_neg D,if_pos u,if_neg ω]
   have z:=bO.cut i (s.length - 2) s.length ω (aH _);have F:(s.drop (s.length - 2)).length=s.length - (s.length - 2):=aN;rw[bD ω,<-F] at z;have W:=lN i (k:=s.length - 1) ω;have ch:=lN i (k:=s.length - 2) ω;have al:((s.length:Int) - 1).toNat=s.length - 1:=ω;have b1:((s.length:Int) - 2).toNat=s.length - 2:=ω;refine aj ?_;refine bq [0,3,6,9,12,15,18,21,24,27,30,33,36,39,45,44,48] [] rfl<|aj ?_;refine dr (t:=78) (v':= ai ((s.length - 2:Nat):Int)) rfl (by congr 1;omega) ?_;refine tE rfl (pW (lo:=s.length - 2) (hi:=s.length) az aZ ⟨ω,ω⟩ rfl rfl rfl rfl)<|aj ?_;refine tE rfl (nC az aZ (.ro i) ω rfl rfl rfl) ?_;refine tE rfl (bY (SF.int (.ro i) ω) rfl rfl bF)<|aj ?_;refine tE rfl (nC az aZ (.ro i) ω rfl rfl rfl) ?_;refine tE rfl (bY (SF.int (.ro i) ω) rfl rfl bF)<|aj ?_;refine fun bb _=>aj ?_;rw[al,b1,<-F];refine bX (s.drop (s.length - 2),[s.getD (s.length - 1) 0,s.getD (s.length - 2) 0],(iq p (s.length - 2) cs 1,cs - (s.length - 2)),(some ⟨bb,0,none⟩,2)) (⟨j,by show (s.drop (s.length - 2)).length<=1000;omega,by show 2<=1000;decide⟩) (hh:=(fun w b=>(ru z (tU (bN (α:=Int) (m:=2) [s.getD (s.length - 1) 0,s.getD (s.length - 2) 0] rfl (kI W ch) rfl κ (b.msub (T:= [ak bb _ _]) ms)))).msub ms))
  refine ax (fun y=>?_) (fun y=>?_)
  ·have ⟨cw,cx⟩:=A.call y;have a1:o.a.toNat<fs.length:=ω;obtain⟨M,R,cj,cl,bi,cr,b4,b7⟩:=bO.fn bp a1;have:=cf o.a.toNat a1;have:=cg o.a.toNat a1;have j:tl fs f o s=some (fN (au fs o.a.toNat),bV (au fs o.a.toNat)):=by unfold tl;rw[if_neg C,if_neg D,if_neg u,if_neg ω,if_neg ω,if_pos y]
   have bl:(fN (au fs o.a.toNat)).length=(au fs o.a.toNat).params.toNat:=by unfold fN;rw[aB];omega
   have bo:(au fs o.a.toNat).params.toNat<=(au fs o.a.toNat).L.length:=ω;have V:Sl w (ac M (fN (au fs o.a.toNat)).length R) (fN (au fs o.a.toNat)):=by
    rw[bl];exact bO.to bi bo
   have b3:=bO.cap bi;refine aj ?_;refine va rfl (.ro bp) ?_;refine iC rfl (b7 _)<|aj ?_;refine fun cm _=>aj ?_;refine bj (t:=102) (v':= ai ((((au fs o.a.toNat).params.toNat:Nat)):Int)) rfl (by congr 1;omega) ?_;refine sE (iY (k:=(au fs o.a.toNat).params.toNat) az aZ (dW bo b3) rfl rfl rfl)<|aj ?_;refine cT (t:=11) (v':= ac M (fN (au fs o.a.toNat)).length R) rfl (by rw[bl]) ?_;refine eK rfl (fun a3=>?_) (fun a3=>?_)
   ·have er:bV (au fs o.a.toNat)= [(au fs o.a.toNat).result]:=by unfold bV;rw[if_neg ω]
    refine aj ?_;refine fun bc _=>aj ?_;refine bX (fN (au fs o.a.toNat),[(au fs o.a.toNat).result],(M,R),(some ⟨bc,0,none⟩,1)) (⟨er▸j,by show (fN (au fs o.a.toNat)).length<=1000;omega,by show 1<=1000;decide⟩) (hh:=(fun w b=>(ru V (tU (bN (α:=Int) (m:=1) [(au fs o.a.toNat).result] rfl (ic b4.2) rfl κ (b.msub (T:= [ak bc _ _]) ms)))).msub ms))
   have er:bV (au fs o.a.toNat)= []:=by unfold bV;rw[if_pos ω]
   refine aj ?_;refine bX (fN (au fs o.a.toNat),[],(M,R),(none,0)) (⟨er▸j,by show (fN (au fs o.a.toNat)).length<=1000;omega,by show 0<=1000;decide⟩) (hh:=(fun w b=>(ru V (ru (bO.nil_ (α:=Int)) b)).msub ms))
  refine ax (fun T=>?_) (fun T=>?_)
  ·refine aj ?_;refine jJ (fun _:Option Addr×Nat=>True) (fun g=> [(3,ac p s.length cs),(10,ai (s.length:Int)),(11,ac g.1 (bV f).length g.2),(12,ac none 0 0)]) (fun g=> [xq w.heap.size w (ac g.1 (bV f).length g.2) (bV f)]) ?_ ?_
   ·refine eK rfl (fun a3=>?_) (fun a3=>?_)
    ·have er:bV f= [f.result]:=by unfold bV;rw[if_neg ω]
     rw[er];refine aj ?_;refine fun bf _=>aj ?_;refine lq (some ⟨bf,0,none⟩,1) trivial (hh:=(fun w b=>(tU (bN (α:=Int) (m:=1) [f.result] rfl (ic A.res) rfl κ (b.msub (T:= [ak bf _ _]) ms))).msub ms))
    have er:bV f= []:=by unfold bV;rw[if_pos ω]
    rw[er];refine aj ?_;refine bX (none,0) trivial (hh:=(fun w b=>(ru (bO.nil_ (α:=Int)) b).msub ms))
   rintro⟨bw,b0⟩ _
   try dsimp only
   have:(bV f).length<=1:=by unfold bV;split <;> simp
   refine cU (fun ce=>?_) (fun ce=>?_)
   ·have h:=wb (show tl fs f o s=none from by unfold tl;rw[if_neg C,if_neg D,if_neg u,if_neg ω,if_neg ω,if_neg y,if_pos T,if_pos ω]);refine aj ?_;intro w l;exact⟨((none,0),[]),fun v d=>(by rw[h] at d;cases d),by rw[h];rfl,Cw.nilO Int (l.msub (T:= []) ms)⟩
   have j:tl fs f o s=some (bV f,[]):=by unfold tl;rw[if_neg C,if_neg D,if_neg u,if_neg ω,if_neg ω,if_neg y,if_pos T,if_neg ω]
   refine aj ?_;refine bX (bV f,[],(bw,b0),(none,0)) (⟨j,by show (bV f).length<=1000;omega,by show 0<=1000;decide⟩) (hh:=(fun w b=>(ru (bO.nil_ (α:=Int)) b).msub ms))
  have j:=IG (fs:=fs) (f:=f) (o:=o) (s:=s) C D u y T;have:=Gy o.c;have:=xv (jZ f o) (dJ o.c).1;have:=xv (jZ f o) (dJ o.c).2;have bv:aI (jZ f o):=by
   unfold jZ
   split
   ·rename_i k;have:=A.loc k;exact lN G (k:=o.a.toNat) ω
   decide
  refine cE<|bQ<|aC ?_;refine bL<|dG (fun _:Unit=>True) (fun _=> [(3,ac p s.length cs),(6,af S),(10,ai (s.length:Int)),(14,ai (jZ f o))]) (fun _=> [ak am [ac J fs.length O] 24,ak a0 [ai f.params,ac I f.L.length N,ai f.result,ac Z f.C.length ad] 84,ak S [ai o.c,ai o.a] 86]) ?_ ?_
  ·refine dh 26 (fun r=>?_) (fun r=>?_)
   ·have r:o.c=8:=of_decide_eq_true r;have E:jZ f o=f.L.getD o.a.toNat 0:=by unfold jZ;rw[if_pos (.inl r)]
    have cb:=A.loc (.inl r);rw[E];refine aj ?_;refine be rfl<|aj ?_;refine va rfl (.ro G) ?_;refine nj rfl (.ro G)<|aj ?_;refine lq () trivial
   have r:¬o.c=8:=of_decide_eq_false r;refine ax (fun U=>?_) (fun U=>?_)
   ·have E:jZ f o=f.L.getD o.a.toNat 0:=by unfold jZ;rw[if_pos (.inr U)]
    have cb:=A.loc (.inr U);rw[E];refine aj ?_;refine va rfl (.ro G) ?_;refine nj rfl (.ro G)<|aj ?_;refine lq () trivial
   have E:jZ f o=0:=by unfold jZ;rw[if_neg (fun b=>b.elim r U)]
   rw[E];refine aj ?_;refine bX () trivial
  rintro _ _;refine aj ?_;refine cO rfl Tryz.call247 (fun w l=>IW o.c w)<|aj ?_;refine oE (fl rfl rfl rfl Tryz.call248 (fun w l=>zJ (dJ o.c).1 (jZ f o) bv w ω)) (fun⟨a5,a8⟩ _=>?_);refine aP ?_;refine oE (fl rfl rfl rfl Tryz.call248 (fun w l=>zJ (dJ o.c).2 (jZ f o) bv w ω)) (fun⟨a6,a9⟩ _=>?_);refine aP ?_;refine bX (my (jZ f o) (dJ o.c).1,my (jZ f o) (dJ o.c).2,(a5,a8),(a6,a9)) (⟨j,by show (my (jZ f o) (dJ o.c).1).length<=1000;omega,by show (my (jZ f o) (dJ o.c).2).length<=1000;omega⟩) (hh:=(fun w' b=>(tU ((tU b).msub (T:= [ag a5 a8 (my (jZ f o) (dJ o.c).1),xq w.heap.size w (ac a6 (my (jZ f o) (dJ o.c).2).length a9) (my (jZ f o) (dJ o.c).2)]) ms)).msub ms))
 rintro⟨a,n,⟨K,P⟩,L,Q⟩ b8;obtain⟨j,ct,cv⟩:tl fs f o s=some (a,n)/\(a.length<=1000/\n.length<=1000):=b8;refine aP ?_;refine eK rfl (fun b2=>?_) (fun b2=>?_)
 ·have h:=yE j (fun b=>by have:=b.1;omega);refine aj ?_;intro w l;exact⟨((none,0),[]),fun v d=>(by rw[h] at d;cases d),by rw[h];rfl,Cw.nilO Int (l.msub (T:= []) ms)⟩
 have b6:a.length<=s.length:=ω;refine aj ?_;refine jJ (fun _:Unit=>Le (s.drop (s.length - a.length)) a) (fun _=> [(3,ac p s.length cs),(10,ai (s.length:Int)),(11,ac K a.length P),(12,ac L n.length Q)]) (fun _=> [xq w.heap.size w (ac K a.length P) a,xq w.heap.size w (ac L n.length Q) n]) ?_ ?_
 ·refine cZ (fun c:Nat=>c<=a.length/\∀q,q<c->cH (s.getD (s.length - a.length+q) 0) (a.getD q 0)=true) (fun c=>a.length - c) (fun c=> [(3,ac p s.length cs),(10,ai (s.length:Int)),(11,ac K a.length P),(12,ac L n.length Q),(17,ai (c:Int))]) (fun _=> [xq w.heap.size w (ac K a.length P) a,xq w.heap.size w (ac L n.length Q) n]) 0 (⟨aS _,ω⟩) ?_;rintro c b9;obtain⟨bm,bk⟩:c<=a.length/\∀q,q<c->cH (s.getD (s.length - a.length+q) 0) (a.getD q 0)=true:=b9;refine ax (fun cd=>?_) (fun cd=>?_)
  ·have ca:c<a.length:=ω;refine aj ?_;refine bq [0,3,6,9,12,15,18,21,24,27,30,33,36,41,42] [] rfl<|aj ?_;refine tE rfl (nC az aZ (.ro i) ω rfl rfl rfl) ?_;refine tE rfl (bY (SF.int (.ro i) ω) rfl rfl bF)<|aj ?_;refine tE rfl (aX az aZ (SF.rb rfl fc) ω rfl rfl rfl) ?_;refine tE rfl (bY (SF.int (SF.rb rfl fc) ω) rfl rfl bF) ?_;refine dr (t:=140) (v':= ai (s.getD (s.length - a.length+c) 0)) rfl (by rw[show ((s.length:Int) - (a.length:Int)+(c:Int)).toNat=s.length - a.length+c from by omega]) ?_;refine ls rfl rfl V1 (fun w l=>tj (s.getD (s.length - a.length+c) 0) (a.getD c 0) w)<|aj ?_;refine cc rfl (fun x=>?_) (fun x=>?_)
   ·have x:cH (s.getD (s.length - a.length+c) 0) (a.getD c 0)=false:=ψ x;have h:=yE j (fun b=>by
     have:=b.2.2.2 c (by rw[aN];omega);rw[kg,x] at this
     cases this)
    refine aj ?_;intro w l;exact⟨((none,0),[]),fun v d=>(by rw[h] at d;cases d),by rw[h];rfl,Cw.nilO Int (l.msub (T:= []) ms)⟩
   have x:cH (s.getD (s.length - a.length+c) 0) (a.getD c 0)=true:=ψ x;refine aj ?_;refine cG (c+1) (⟨ca,fun q bn=>by by_cases e:q=c;(· rw[e];exact x);(· exact bk q ω)⟩) (by show _ - _<_ - _;omega)
  obtain rfl:c=a.length:=ω;refine aj ?_;refine bX () (⟨by rw[aN];omega,fun q bn=>by rw[aN] at bn;rw[kg];exact bk q ω⟩)
 rintro _ b5;refine aj ?_;refine fun co _=>aj ?_;refine fF (fun w b=>bN (α:=Int) (m:=0) [] rfl σ rfl κ b) ?_;refine bj (t:=152) (v':= ai ((s.length - a.length:Nat):Int)) rfl (by congr 1;omega) ?_;refine sE (iY (k:=s.length - a.length) az aZ ω rfl rfl rfl) ?_;have V:=bO.to i (k:=s.length - a.length) ω;have:(s.take (s.length - a.length)).length=s.length - a.length:=by rw[aB];omega
 refine oE (dv (α:=Int) (bytes:=8) (xs:= []) (ys:=s.take (s.length - a.length)) rfl az (aU cW) rfl fc (.ro V) (by simp only[aE];omega) (by simp only[aE];omega) rfl rfl rfl) (fun⟨ci,ck⟩ _=>?_);refine aP ?_;rw[cB];refine oE (dv (α:=Int) (bytes:=8) (xs:=s.take (s.length - a.length)) (ys:=n) rfl az (aU cW) rfl fc (SF.rb rfl fc) ω ω rfl rfl rfl) (fun⟨a4,a7⟩ _=>?_);refine aP ?_;intro w l
 by_cases r:(s.take (s.length - a.length)++n).length<=8
 ·have bs:ij fs f o s=some (s.take (s.length - a.length)++n):=kv.2 ⟨a,n,j,b6,r,b5,rfl⟩;refine⟨((a4,a7),s.take (s.length - a.length)++n),fun v d=>by rw[bs] at d;exact fC d,?_,l.msub ms⟩;rw[bs,decide_eq_true ω];rfl
 have h:=yE j (fun b=>r b.2.1);refine⟨((a4,a7),s.take (s.length - a.length)++n),fun v d=>(by rw[h] at d;cases d),?_,l.msub ms⟩;rw[h,decide_eq_false ω];rfl
end
