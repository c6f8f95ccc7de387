/- Lemmas of one proof. -/
import Derived.Test.YthfkmcbblnbfaaaGreatDoorM90W
import Derived.Test.YthfkmcbblnbfaaaGreatDoorM0W
import Derived.Test.YthfkmcbblnbfaaaGreatDoorM54W

namespace Go.Proofs.YthfkmcbblnbfaaaGreatDoor
set_option maxRecDepth 100000
set_option maxHeartbeats 16000000
open Go.RowKit
section
theorem AI {x:aK} (h:Pb x):(jd x).length<=2554:=by
 have a:=xu x.L x.L.length;have b:=xu x.K x.K.length;rw[aR] at a b;have:=h.l.1;have:=h.s.1;simp only[jd,jD,bC,ar];omega
theorem qh {l:List Int} (h:l.length<=255):(ix l).length<=1021:=by
 have a:=Ie l l.length;rw[aR] at a;rw[Ll];omega
theorem Jp (a:MA) (m:av) (w:World) (p:fV w.heap.size w a m) (b5:MI m) :
  Calls Tryz.prog 118 #[.agg #[ac a.Af m.F.length a.cf,ac a.Ab m.B.length a.cb,ac a.Ai m.I.length a.ci,ac a.Ao m.out.length a.co,ai m.S,ai m.T]] w fun e w'=>e= .returned (.string ⟨(lJ m).toArray⟩)/\Below w.heap.size w w':=by
 obtain⟨cs,ct,⟨bv,cp⟩,⟨b6,cr⟩,⟨cm,Z⟩,co,ad⟩:=b5;have:=qh bv;have:=qh b6;have b8:=fun k=>vm (f:=ix) m.B (fun b7 s=>qh (Z b7 s).1) k;refine enter Tryz.func118 rfl Tryz.ntmps118 rfl<|aj ?_;refine fun K _=>aj ?_;refine fun i _=>aj ?_;intro ch _;refine fF (fun w j=>Cw.nilO UInt8 (bN (α:=Int) (m:=2) [m.S,m.T] rfl (kI p.s p.t) rfl κ j)) ?_;refine du rfl uv (fun w d=>oA i [m.S,m.T] _ _ (.own rfl .a) [] none 0 σ w (d.msub (.s fc (.s fc .r)))) (fun⟨a0,ba⟩ _=>?_);refine aP ?_;obtain⟨t,z⟩:∃g,[]++ [m.S,m.T].map aW=g:=⟨_,rfl⟩
 have:t.length=2:=by rw[<-z];rfl
 rw[z];refine du rfl V3 (fun w d=>vZ i m.I _ _ p.i t a0 ba ω w (d.msub (.s fc (.s fc .r)))) (fun⟨a1,bb⟩ _=>?_);refine aP ?_;obtain⟨u,D⟩:∃g,t++ix m.I=g:=⟨_,rfl⟩
 have:u.length<=1023:=by rw[<-D,ar];omega
 rw[D];refine du rfl V3 (fun w d=>vZ i m.out _ _ p.o u a1 bb ω w (d.msub (.s fc (.s fc .r)))) (fun⟨a2,bc⟩ _=>?_);refine aP ?_;intro ci _;obtain⟨v,E⟩:∃g,u++ix m.out=g:=⟨_,rfl⟩
 have:v.length<=2044:=by rw[<-E,ar];omega
 rw[E];refine fF (fun w j=>bN (α:=Int) (m:=1) [(m.B.length:Int)] rfl (ic (by unfold aI;omega)) rfl κ j) ?_;refine du rfl uv (fun w d=>oA i [(m.B.length:Int)] _ _ (.own rfl .a) v a2 bc (by show _+1<=_;omega) w (d.msub (.s fc (.s fc .r)))) (fun⟨a3,bf⟩ _=>?_);refine aP ?_;obtain⟨l,F⟩:∃g,v++ [(m.B.length:Int)].map aW=g:=⟨_,rfl⟩
 have:l.length<=2045:=by rw[<-F,ar];show _+1<=_;omega
 rw[F];refine cZ (fun b:Nat×Option Addr×Nat=>b.1<=m.B.length) (fun b=>m.B.length - b.1) (fun b=> [(1,af K),(3,af i),(32,ac a.Ab m.B.length a.cb),(33,ai (m.B.length:Int)),(34,ai (b.1:Int))]) (fun b=> [ak i [ac b.2.1 (l++(m.B.take b.1).flatMap ix).length b.2.2] 228,ag b.2.1 b.2.2 (l++(m.B.take b.1).flatMap ix),ak K (ah a m) 43]) (0,a3,bf) (aS _) ?_ (hh:=(fun w j=>by have j:=j.msub (T:= [ak i _ _,an _ l,ak K (ah a m) 43]) ms;simpa using j));rintro⟨o,S,V⟩ bw
 try dsimp only
 have:o<=m.B.length:=bw;have al:(l++(m.B.take o).flatMap ix).length<=2045+1021*m.B.length:=by rw[ar];have:=b8 o;omega
 refine ax (fun b3=>?_) (fun b3=>?_)
 ·have P:o<m.B.length:=ω;obtain⟨cd,cg,R,r⟩:=p.b.sub P;have:(m.B.getD o []).length<=255:=(Z _ (cL P)).1;refine aj ?_;refine cP _ rfl (.ro p.b) ?_;refine ef rfl (r _)<|aj ?_;refine du rfl V3 (fun w d=>vZ i (m.B.getD o []) _ _ R (l++(m.B.take o).flatMap ix) S V ω w (d.msub (.s fc (.s fc .r)))) (fun⟨a4,bg⟩ _=>?_);refine aP ?_;rw[<-rB P [] l];refine cG (o+1,a4,bg) (by show o+1<=_;omega) (by show _ - _<_ - _;omega)
 obtain rfl:o=m.B.length:=ω;have W:l++(m.B.take m.B.length).flatMap ix=l++m.B.flatMap ix:=by rw[aR]
 rw[W] at al;rw[W];obtain⟨U,G⟩:∃g,l++m.B.flatMap ix=g:=⟨_,rfl⟩
 rw[G] at al;rw[G];refine aj ?_;intro cj _;refine fF (fun w j=>bN (α:=Int) (m:=1) [(m.F.length:Int)] rfl (ic (by unfold aI;omega)) rfl κ j) ?_;refine du rfl uv (fun w d=>oA i [(m.F.length:Int)] _ _ (.own rfl .a) U S V (by show _+1<=_;omega) w (d.msub (.s fc (.s fc .r)))) (fun⟨a5,bi⟩ _=>?_);refine aP ?_;obtain⟨n,I⟩:∃g,U++ [(m.F.length:Int)].map aW=g:=⟨_,rfl⟩
 have:n.length<=2046+1021*m.B.length:=by rw[<-I,ar];show _+1<=_;omega
 rw[I];refine cZ (fun b:Nat×Option Addr×Nat=>b.1<=m.F.length) (fun b=>m.F.length - b.1) (fun b=> [(3,af i),(49,ac a.Af m.F.length a.cf),(50,ai (m.F.length:Int)),(51,ai (b.1:Int))]) (fun b=> [ak i [ac b.2.1 (n++(m.F.take b.1).flatMap jd).length b.2.2] 228,ag b.2.1 b.2.2 (n++(m.F.take b.1).flatMap jd)]) (0,a5,bi) (aS _) ?_ (hh:=(fun w j=>by have j:=j.msub (T:= [ak i _ _,an _ n]) ms;simpa using j));rintro⟨k,a9,bn⟩ b1
 try dsimp only
 have b0:k<=m.F.length:=b1;have b2:(n++(m.F.take k).flatMap jd).length<=2046+1021*m.B.length+2554*k:=by
  rw[ar];have L:=wP (m.F.take k) (m:=2554) (f:=jd) (fun b9 R=>AI (ad b9 (iG R)));rw[aB,Nat.min_eq_left b0] at L;omega
 refine ax (fun b4=>?_) (fun b4=>?_)
 ·have Q:k<m.F.length:=ω;obtain⟨ca,ce,cb,cf,s,am,O,r⟩:=p.f.fr Q;have N:=ad _ (fJ Q);have bp:=N.l.1;have bs:=N.s.1;have M:=rB (f:=jd) Q default n;obtain⟨h,Y⟩:∃h,aQ m.F k=h:=⟨_,rfl⟩
  rw[show m.F.getD k default=h from Y] at M;rw[Y] at bp bs N O s am r;obtain⟨q,X⟩:∃g,n++(m.F.take k).flatMap jd=g:=⟨_,rfl⟩
  rw[X] at b2 M;rw[X];refine aj ?_;refine cP _ rfl (.ro p.f) ?_;refine iC rfl (r _)<|aj ?_;refine fun ck _=>aj ?_;intro cl _;refine fF (fun w j=>bN (α:=Int) (m:=2) [h.func,h.pc] rfl (kI O.1 O.2) rfl κ j) ?_;refine du rfl uv (fun w d=>oA i [h.func,h.pc] _ _ (.own rfl .a) q a9 bn (by show _+2<=_;omega) w (d.msub (.s fc (.s fc .r)))) (fun⟨a6,bk⟩ _=>?_);refine aP ?_;obtain⟨x,J⟩:∃g,q++ [h.func,h.pc].map aW=g:=⟨_,rfl⟩
  have:x.length=q.length+2:=by rw[<-J,ar];rfl
  rw[J];refine du rfl Tryz.call173 (fun w d=>Cb i h.L _ _ s x a6 bk ω w (d.msub (.s fc (.s fc .r)))) (fun⟨a7,bl⟩ _=>?_);refine aP ?_;obtain⟨y,C⟩:∃g,x++jD h.L=g:=⟨_,rfl⟩
  have:y.length<=q.length+1278:=by
   have L:=xu h.L h.L.length;rw[aR] at L;rw[<-C,ar];simp only[jD,bC];omega
  rw[C];refine du rfl Tryz.call173 (fun w d=>Cb i h.K _ _ am y a7 bl ω w (d.msub (.s fc (.s fc .r)))) (fun⟨a8,bm⟩ _=>?_);refine aP ?_;rw[show y++jD h.K=n++(m.F.take (k+1)).flatMap jd from by rw[M,<-C,<-J];simp[jd]];refine cG (k+1,a8,bm) (by show k+1<=_;omega) (by show _ - _<_ - _;omega)
 obtain rfl:k=m.F.length:=ω;have bo:n++(m.F.take m.F.length).flatMap jd=lJ m:=by
  rw[aR,<-I,<-G,<-F,<-E,<-D,<-z];simp[lJ]
 rw[bo];refine aj ?_;refine sE (K3 mI kM rg (SF.own rfl fc) rfl rfl)<|aj ?_;intro w d;exact⟨rfl,d.below⟩
def ph (fs:List aw) (s:List UInt8):Int:=if dZ fs≠0 then dZ fs else match kB s with
 | none=>1
 | some m=>fd fs m
def Dz (fs:List aw) (s:List UInt8):av:=if ph fs s=0 then (sM s).1 else default
theorem D0 {s:List UInt8} {m:av} (h:kB s=some m):aI m.S/\aI m.T:=by
 unfold kB at h
 split at h
 ·cases h
 rename_i n j a
 split at h
 ·obtain rfl:=fC h;unfold mR at a
  split at a
  ·cases a
  rename_i b k e
  split at a
  ·cases a
  rename_i d l f
  split at a
  ·cases a
  split at a
  ·cases a
  split at a
  ·cases a
  split at a
  ·cases a
  injection a with a
  injection a with a _
  subst a;have:=(ko e).2;have:=(ko f).2;exact⟨⟨by show _<=b;omega,by show b<=_;omega⟩,⟨by show _<=d;omega,by show d<=_;omega⟩⟩
 cases h
theorem M7 {s:List UInt8} {m:av} (h:kB s=some m):pF m.F:=by
 unfold kB at h
 split at h
 ·cases h
 rename_i e g a
 split at h
 ·obtain rfl:=fC h;unfold mR at a
  split at a
  ·cases a
  split at a
  ·cases a
  split at a
  ·cases a
  split at a
  ·cases a
  split at a
  ·cases a
  split at a
  ·cases a
  rename_i k D i;injection a with a
  injection a with a _
  subst a;have:=wh i;refine⟨by show k.length*64<=_;omega,fun e d=>?_⟩;have d:e∈k:=d;have q:∀(j:Nat) (s g:List UInt8) (f:List aK),im jw j s=some (f,g)->∀e∈f,e.L.length<=255/\e.K.length<=255:=by
   intro j
   induction j with
   | zero=>
    intro s g f a e d;obtain⟨rfl,_⟩: []=f/\s=g:=by simpa [im] using a
    cases d
   | succ j p=>
    intro s g f a e d;unfold im at a
    split at a
    ·cases a
    rename_i u E b
    split at a
    ·cases a
    rename_i r t l;obtain⟨rfl,_⟩:u::r=f/\t=g:=ψ a;rcases eo.1 d with rfl | d
    ·unfold jw at b
     split at b
     ·cases b
     split at b
     ·cases b
     split at b
     ·cases b
     rename_i x z n
     split at b
     ·cases b
     rename_i y C o;injection b with b
     injection b with b _
     subst b;exact⟨wh n,wh o⟩
    exact p _ _ _ l e d
  unfold jX at i
  split at i
  ·cases i
  have:=q _ _ _ _ i e d;omega
 cases h
theorem LD (k:Option Addr) (l:Nat) (fs:List aw) (s:List UInt8) (m:av) (b:Dz fs s=m) (x:s.length<=140737488355320) (w:World) (q:Sl w (ac k fs.length l) fs) :
  Calls Tryz.prog 60 #[.agg #[ac k fs.length l],.string ⟨s.toArray⟩] w fun e w'=> ∃g:MA,True/\
   e= .returned (.tuple #[.agg #[ac g.Af m.F.length g.cf,ac g.Ab m.B.length g.cb,ac g.Ai m.I.length g.ci,ac g.Ao m.out.length g.co,ai m.S,ai m.T],ai (ph fs s)])/\Cw w.heap.size w [an (ac g.Af m.F.length g.cf) m.F,an (ac g.Ab m.B.length g.cb) m.B,an (ac g.Ai m.I.length g.ci) m.I,an (ac g.Ao m.out.length g.co) m.out] w':=by
 unfold Dz at b;refine enter Tryz.func60 rfl Tryz.ntmps60 rfl<|aj ?_;refine fun z _=>aj ?_;refine fun C _=>aj ?_;refine cO rfl J9 (fun w a=>qC k l fs w (a.ro q))<|cU (fun f=>?_) (fun f=>?_)
 ·have d:ph fs s=dZ fs:=by unfold ph;rw[if_pos f]
  rw[d,if_neg f] at b;subst b;rw[d];refine aj ?_;intro w a;exact⟨⟨none,0,none,0,none,0,none,0⟩,trivial,rfl,(se a).msub ms⟩
 have f:dZ fs=0:=ψ f;have r:=qn f;obtain⟨j,h⟩:∃j,sM s=j:=⟨_,rfl⟩
 refine aj ?_;refine eu rfl Tryz.call119 (fun w a=>M8 s j h x w) (fun p _=>aj ?_);refine fun D _=>aj ?_;obtain⟨j,o⟩:=j
 cases ht:kB s with
 | none=>
  have d:ph fs s=1:=by unfold ph;rw[if_neg (fun e=>e f),ht]
  rw[d,if_neg κ] at b;subst b;have u:o=false:=by
   unfold sM at h;rw[ht] at h;exact(Prod.mk.inj h).2.symm
  subst u;rw[d];refine cT (t:=22) (v':= .bool true) rfl rfl<|be rfl<|aj ?_;intro w a;exact⟨⟨none,0,none,0,none,0,none,0⟩,trivial,rfl,(se a).msub ms⟩
 | some n=>
  have d:ph fs s=fd fs n:=by unfold ph;rw[if_neg (fun e=>e f),ht]
  have y:n=j/\true=o:=by
   unfold sM at h;rw[ht] at h;exact Prod.mk.inj h
  obtain⟨rfl,rfl⟩:=y;rw[h] at b;have v:=M7 ht;refine cT (t:=22) (v':= .bool false) rfl rfl<|cA rfl<|aj ?_;refine cO rfl Wi (fun w a=>uV k l fs p n w (a.ro q) (oT a fc fc fc fc rfl rfl rfl rfl (D0 ht).1 (D0 ht).2) r v)<|aj ?_;rw[d];refine jP rfl (fun i=>?_) (fun i=>?_)
  ·rw[d,if_neg i] at b;subst b;refine aj ?_;intro w a;exact⟨⟨none,0,none,0,none,0,none,0⟩,trivial,rfl,(se a).msub ms⟩
  have i:fd fs n=0:=ψ i;rw[d,if_pos i] at b;subst b;rw[i];refine aj ?_;intro w a;exact⟨p,trivial,rfl,a.msub ms⟩
end
section
def dS (l:List aD):List Int:=(l.filter fun v=>v.ref && decide (0<v.n)).map fun v=>v.n
def sR (m:av):List Int:=m.F.flatMap fun x=>dS x.L++dS x.K
theorem Ob (a b:List aD):dS (a++b)=dS a++dS b:=by unfold dS;rw[List.filter_append,db]
theorem Oa (v:aD):dS [v]=if v.ref=true/\0<v.n then [v.n] else []:=by
 unfold dS
 by_cases a:v.ref=true/\0<v.n
 ·rw[if_pos a,List.filter_cons_of_pos (by simp[a.1,a.2])];rfl
 rw[if_neg a,List.filter_cons_of_neg (ψ a)];rfl
theorem CO {l:List aD} {k:Nat} (a:k<l.length):dS (l.take (k+1))=dS (l.take k)++dS [l.getD k default]:=by rw[eF l k default a,Ob]
theorem ql (l:List aD):(dS l).length<=l.length:=by
 unfold dS;rw[aL];exact List.length_filter_le _ _
section
variable {B:Nat} {w0:World} {H:List aO}
theorem Bv {A:Option Addr} {m c k:Nat} {xs:List aD} (h:bO w0 B (ac A m c) xs) (b:k<m):aI (xs.getD k default).n:=by
 obtain⟨d,⟨_,a⟩,_⟩:=h.elr b default;exact a
theorem Fw (i b o:Nat) (v:aD) (hi:aI v.n) (l:∀(H:List aO) (w:World),Cw B w0 H w->∀j u,([.bool v.ref,ai v.n]:List Value)[j]? =some u->w.cell? ⟨b,o+j,none⟩=some u) (d:List Int) (A:Option Addr) (c:Nat) (s:d.length<=1000000) (w:World)
  (a:Cw B w0 (ak i [ac A d.length c] 35::an (ac A d.length c) d::H) w) :
  Calls Tryz.prog 166 #[.pointer (some ⟨b,o,none⟩),af i] w fun e w'=> ∃g:Option Addr×Nat,True/\e= .returned (.tuple #[])/\Cw B w0 (ak i [ac g.1 (d++dS [v]).length g.2] 35::an (ac g.1 (d++dS [v]).length g.2) (d++dS [v])::H) w':=by
 obtain⟨m,k⟩:=v;have h:=Oa ⟨m,k⟩;refine bI Tryz.func166 rfl Tryz.ntmps166 rfl a<|aj ?_;refine ef rfl (fun w a=>l _ w a 0 _ rfl) ?_;refine aC ?_
 cases m
 ·rw[if_neg σ] at h;rw[h,et];refine bj (t:=7) (v':= .bool false) rfl (rfl)<|aj ?_;refine cA rfl<|aj ?_;intro w a;exact⟨(A,c),trivial,rfl,a.msub ms⟩
 refine bj (t:=7) (v':= .bool true) rfl (rfl)<|aj ?_;refine ef rfl (fun w a=>l _ w a 1 _ rfl)<|ax (fun f=>?_) (fun f=>?_)
 ·have f:0<k:=f;rw[if_pos ⟨rfl,f⟩] at h;rw[h];refine eP [0,3,6,9,12,17,20,23] [7] rfl [ak i [ac A d.length c] 35]<|aj ?_;refine tE rfl (bY (fun w a=>l _ w a 1 _ rfl) rfl rfl bF)<|aj ?_;intro r _;refine pE rfl (cz (α:=Int) (bytes:=8) k [] rfl az (aU cW) rfl (eG fc fc) (qk hi) ω ω rfl rfl rfl) (fun⟨n,p⟩ _=>?_);refine aP ?_;intro w a;exact⟨(n,p),trivial,rfl,a.msub ms⟩
 have f:¬0<k:=f;rw[if_neg (fun q=>f q.2)] at h;rw[h,et];refine aj ?_;intro w a;exact⟨(A,c),trivial,rfl,a.msub ms⟩
theorem Ch {m:av} {i:Nat} (hi:i<m.F.length):((m.F.take (i+1)).flatMap fun x=>dS x.L++dS x.K)=((m.F.take i).flatMap fun x=>dS x.L++dS x.K)++(dS (aQ m.F i).L++dS (aQ m.F i).K):=by
 rw[tM hi,oK];simp
theorem Jy {m:av} (_:m.F.length<=6) (b:∀x∈m.F,x.L.length<=1000/\x.K.length<=8) (i:Nat):((m.F.take i).flatMap fun x=>dS x.L++dS x.K).length<=1008*i:=by
 induction i with
 | zero=>simp
 | succ i d=>
  by_cases a:i<m.F.length
  ·rw[Ch a,ar,ar];have:=b _ (fJ a);have:=ql (aQ m.F i).L;have:=ql (aQ m.F i).K;omega
  rw[bD ω];rw[bD ω] at d;omega
theorem L6 (g i:Nat) (a:MA) (m:av) (G:fV B w0 a m) (al:m.F.length<=6) (U:∀x∈m.F,x.L.length<=1000/\x.K.length<=8) (A:Option Addr) (c:Nat) (w:World)
  (f:Cw B w0 (ak g [ac a.Af m.F.length a.cf,ac a.Ab m.B.length a.cb,ac a.Ai m.I.length a.ci,ac a.Ao m.out.length a.co,ai m.S,ai m.T] 43::ak i [ac A 0 c] 35::an (ac A 0 c) ([]:List Int)::H) w) :
  Calls Tryz.prog 163 #[af g,.func (.func 166) #[] #[af i]] w fun e w'=> ∃q:Option Addr×Nat,True/\e= .returned (.tuple #[])/\Cw B w0 (ak g [ac a.Af m.F.length a.cf,ac a.Ab m.B.length a.cb,ac a.Ai m.I.length a.ci,ac a.Ao m.out.length a.co,ai m.S,ai m.T] 43::ak i [ac q.1 (sR m).length q.2] 35::an (ac q.1 (sR m).length q.2) (sR m)::H) w':=by
 have:=bx G.f;refine bI Tryz.func163 rfl Tryz.ntmps163 rfl f<|aj ?_;refine cZ (fun j:Nat×(Option Addr×Nat)=>j.1<=m.F.length) (fun j=>m.F.length - j.1) (fun j=> [(0,af g),(1,.func (.func 166) #[] #[af i]),(12,ai (m.F.length:Int)),(13,ai (j.1:Int))]) (fun j=>ak g (ah a m) 43::ak i [ac j.2.1 ((m.F.take j.1).flatMap fun x=>dS x.L++dS x.K).length j.2.2] 35::ag j.2.1 j.2.2 ((m.F.take j.1).flatMap fun x=>dS x.L++dS x.K)::H) (0,(A,c)) (aS _) ?_ (hh:=(fun w h=>h.msub ms));rintro⟨k,⟨D,E⟩⟩ W
 try dsimp only
 have:k<=m.F.length:=W;have am:=Jy al U k;refine ax (fun Z=>?_) (fun Z=>?_)
 ·have N:k<m.F.length:=ω;obtain⟨l,p,n,r,F,I,V,L⟩:=G.f.fr N;have a0:=U _ (fJ N);have R:=Ch N;generalize a2:((m.F.take k).flatMap fun x=>dS x.L++dS x.K)=d at am R;generalize a7:aQ m.F k=x at F I V L a0 R;have:=ql x.L;have:=ql x.K;refine aj ?_;refine bq [0,3,6,9,12,15,18,21,24,27,30,33,36,39,42,45,54,50,51] [] rfl<|aj ?_;refine tE rfl (aX (k:=k) cX dQ (.ro G.f) ω rfl rfl rfl)<|aj ?_;refine tE rfl (bY (fun w f=>L _ w f 2 _ rfl) rfl rfl ed)<|aj ?_;refine tE rfl (aX (k:=k) cX dQ (.ro G.f) ω rfl rfl rfl)<|aj ?_;refine tE rfl (bY (fun w f=>L _ w f 3 _ rfl) rfl rfl ed)<|aj ?_;refine fun o _=>aj ?_;refine cZ (fun q:Nat×(Option Addr×Nat)=>q.1<=2) (fun q=>2 - q.1) (fun q=> [(0,af g),(1,.func (.func 166) #[] #[af i]),(12,ai (m.F.length:Int)),(13,ai (k:Int)),(32,ac (some ⟨o,0,none⟩) 2 2),(33,ai 2),(34,ai (q.1:Int))]) (fun q=>ak i [ac q.2.1 (d++(if q.1=0 then [] else if q.1=1 then dS x.L else dS x.L++dS x.K)).length q.2.2] 35::ag q.2.1 q.2.2 (d++(if q.1=0 then [] else if q.1=1 then dS x.L else dS x.L++dS x.K))::ak o [ac l x.L.length p,ac n x.K.length r] 116::ak g (ah a m) 43::H) (0,(D,E)) (aS _) ?_ (hh:=(fun w h=>(show Cw _ _ (ak i [ac D (d++ []).length E] 35::ag D E (d++ [])::ak o [ac l x.L.length p,ac n x.K.length r] 116::ak g (ah a m) 43::H) w from by rw[et];exact h.msub ms)));rintro⟨s,⟨t,u⟩⟩ X
  try dsimp only
  have:s<=2:=X;refine ax (fun ad=>?_) (fun ad=>?_)
  ·rcases(show s=0\/s=1 by omega) with rfl | rfl
   ·try dsimp only
    rw[if_pos rfl,et];refine aj ?_;refine sE (jG (k:=0) oX fy rfl κ rfl rfl rfl) ?_;refine ef rfl (fun w f=>gt (v:= ac l x.L.length p) fc rfl w f)<|aj ?_;refine cZ (fun q:Nat×(Option Addr×Nat)=>q.1<=x.L.length) (fun q=>x.L.length - q.1) (fun q=> [(0,af g),(1,.func (.func 166) #[] #[af i]),(6,ac l x.L.length p),(12,ai (m.F.length:Int)),(13,ai (k:Int)),(32,ac (some ⟨o,0,none⟩) 2 2),(33,ai 2),(34,ai 0),(39,ai (x.L.length:Int)),(40,ai (q.1:Int))]) (fun q=>ak i [ac q.2.1 (d++dS (x.L.take q.1)).length q.2.2] 35::ag q.2.1 q.2.2 (d++dS (x.L.take q.1))::ak o [ac l x.L.length p,ac n x.K.length r] 116::ak g (ah a m) 43::H) (0,(t,u)) (aS _) ?_ (hh:=(fun w h=>(show Cw _ _ (ak i [ac t (d++dS (x.L.take 0)).length u] 35::ag t u (d++dS (x.L.take 0))::ak o [ac l x.L.length p,ac n x.K.length r] 116::ak g (ah a m) 43::H) w from by rw[List.take_zero,show dS []= [] from rfl,et];exact h.msub ms)));rintro⟨b,⟨z,C⟩⟩ O
    try dsimp only
    have Y:b<=x.L.length:=O;refine ax (fun P=>?_) (fun P=>?_)
    ·have y:b<x.L.length:=ω;have M:=ql (x.L.take b);rw[aB] at M;have Q:=CO y;refine aj ?_;refine cP b rfl (.ro F) ?_;refine oE (gF rfl rfl rfl Tryz.call166 (fun w f=>Fw i (ab l) (ao l+b*2) (x.L.getD b default) (Bv F y) (fun H w f s T S=>SF.val (SF.ro F) y default w f s T S) (d++dS (x.L.take b)) z C (by simp only[ar];omega) w (f.msub (.s fc (.s fc .r))))) (fun⟨J,K⟩ _=>?_);refine aP ?_;rw[bA,<-Q];refine cG (b+1,(J,K)) (by show b+1<=_;omega) (by show _ - _<_ - _;omega) (hh:=(fun w h=>h.msub ms))
    obtain rfl:b=x.L.length:=ω;rw[aR];refine aj ?_;refine cG (1,(z,C)) ((by decide:1<=2)) (by show 2 - 1<2 - 0;decide) (hh:=(fun w h=>h.msub ms))
   try dsimp only
   rw[if_neg κ,if_pos rfl];refine aj ?_;refine sE (jG (k:=1) oX fy rfl κ rfl rfl rfl) ?_;refine ef rfl (fun w f=>gt (v:= ac n x.K.length r) fc rfl w f)<|aj ?_;refine cZ (fun q:Nat×(Option Addr×Nat)=>q.1<=x.K.length) (fun q=>x.K.length - q.1) (fun q=> [(0,af g),(1,.func (.func 166) #[] #[af i]),(6,ac n x.K.length r),(12,ai (m.F.length:Int)),(13,ai (k:Int)),(32,ac (some ⟨o,0,none⟩) 2 2),(33,ai 2),(34,ai 1),(39,ai (x.K.length:Int)),(40,ai (q.1:Int))]) (fun q=>ak i [ac q.2.1 ((d++dS x.L)++dS (x.K.take q.1)).length q.2.2] 35::ag q.2.1 q.2.2 ((d++dS x.L)++dS (x.K.take q.1))::ak o [ac l x.L.length p,ac n x.K.length r] 116::ak g (ah a m) 43::H) (0,(t,u)) (aS _) ?_ (hh:=(fun w h=>(show Cw _ _ (ak i [ac t ((d++dS x.L)++dS (x.K.take 0)).length u] 35::ag t u ((d++dS x.L)++dS (x.K.take 0))::ak o [ac l x.L.length p,ac n x.K.length r] 116::ak g (ah a m) 43::H) w from by rw[List.take_zero,show dS []= [] from rfl,et];exact h.msub ms)));rintro⟨b,⟨z,C⟩⟩ O
   try dsimp only
   have Y:b<=x.K.length:=O;refine ax (fun P=>?_) (fun P=>?_)
   ·have y:b<x.K.length:=ω;have M:=ql (x.K.take b);rw[aB] at M;have Q:=CO y;refine aj ?_;refine cP b rfl (.ro I) ?_;refine oE (gF rfl rfl rfl Tryz.call166 (fun w f=>Fw i (ab n) (ao n+b*2) (x.K.getD b default) (Bv I y) (fun H w f s T S=>SF.val (SF.ro I) y default w f s T S) ((d++dS x.L)++dS (x.K.take b)) z C (by simp only[ar];omega) w (f.msub (.s fc (.s fc .r))))) (fun⟨J,K⟩ _=>?_);refine aP ?_;rw[bA,<-Q];refine cG (b+1,(J,K)) (by show b+1<=_;omega) (by show _ - _<_ - _;omega) (hh:=(fun w h=>h.msub ms))
   obtain rfl:b=x.K.length:=ω;rw[aR];refine aj ?_;rw[bA];refine cG (2,(z,C)) ((by decide:2<=2)) (by show 2 - 2<2 - 1;decide) (hh:=(fun w h=>h.msub ms))
  obtain rfl:s=2:=ω
  try dsimp only
  rw[if_neg κ,if_neg κ,<-R];refine aj ?_;refine cG (k+1,(t,u)) (by show k+1<=_;omega) (by show _ - _<_ - _;omega) (hh:=(fun w h=>h.msub ms))
 obtain rfl:k=m.F.length:=ω;rw[aR];refine aj ?_;intro w f;exact⟨(D,E),trivial,rfl,f.msub ms⟩
end
end
section
theorem vh {l:List aD} {n:Int} :n∈dS l↔0<n/\∃v∈l,v.ref=true/\v.n=n:=by
 unfold dS;rw[jR];constructor
 ·rintro⟨v,b,rfl⟩;obtain⟨e,a⟩:=qZ.1 b;simp only[dC,decide_eq_true_eq] at a;exact⟨a.2,v,e,a.1,rfl⟩
 rintro⟨d,v,b,f,rfl⟩;exact⟨v,qZ.2 ⟨b,by simp[f,d]⟩,rfl⟩
theorem KS {m:av} {n:Int} :n∈sR m↔0<n/\tp m n=true:=by
 unfold sR;rw[List.mem_flatMap,zg];constructor
 ·rintro⟨i,h,a⟩;rcases dU.1 a with a | a
  ·obtain⟨d,f,g,e,b⟩:=vh.1 a;exact⟨d,i,h,f,iH _ g,e,b⟩
  obtain⟨d,f,g,e,b⟩:=vh.1 a;exact⟨d,i,h,f,ip _ g,e,b⟩
 rintro⟨d,i,h,f,g,e,b⟩;refine⟨i,h,?_⟩;rcases dU.1 g with a | a
 ·exact iH _ (vh.2 ⟨d,f,a,e,b⟩)
 exact ip _ (vh.2 ⟨d,f,a,e,b⟩)
theorem PS {fs:List aw} {m:av} (f:bU fs m):Lib.compact (nU (sR m))=cF m:=by
 obtain⟨d,e⟩:=AY (Cn (sR m));refine qF d (qu m) fun j=>?_;rw[e,lg];unfold nU;rw[List.mem_mergeSort,KS];constructor
 ·rintro⟨b,a⟩;obtain⟨l,i,k,h,g,rfl⟩:=zg.1 a;have:=Bu f i h g;exact⟨ω,a⟩
 rintro⟨b,a⟩;exact⟨ω,a⟩
theorem Cu {m:av} :(cF m).length<=m.B.length:=by
 unfold cF;rw[aL];exact dW (List.length_filter_le _ _) (by rw[kD];exact aH _)
theorem Qv (w:World):Calls Tryz.prog 274 #[.int .u64 0] w fun e w'=>e= .returned (.int .i64 0) /\ w=w':=by
 go_enter Tryz.func274,Tryz.ntmps274
 go_wp2
 all_goals (go_ret;exact⟨eW (by kernel_rfl),rfl⟩)
theorem UF (w:World):Calls Tryz.prog 220 #[.int .u64 0] w fun e w'=>e= .returned (.int .i64 0) /\ w=w':=by
 go_enter Tryz.func220,Tryz.ntmps220
 go_wp2_with (first
  | (go_at_call 274;refine(Qv _).mono ?_;rintro e w' ⟨rfl,rfl⟩))
 all_goals (go_ret;exact⟨rfl,rfl⟩)
theorem N8 (A:Option Addr) (c:Nat) (w:World):Calls Tryz.prog 264 #[ac A 0 c,ai 0,ai 0] w fun e w'=>e= .returned (.tuple #[])/\Below w.heap.size w w':=by
 refine enter Tryz.func264 rfl Tryz.ntmps264 rfl<|aj ?_;refine cZ (fun _:Unit=>True) (fun _=>0) (fun _=> [(0,ac A 0 c),(1,ai 0),(2,ai 0),(6,ai 1)]) (fun _=> []) () trivial ?_;rintro _ _;refine ax (fun a=>?_) (fun a=>?_)
 ·exact absurd a κ
 refine aj ?_;intro w b;exact⟨rfl,b.below⟩
theorem NP (A:Option Addr) (c:Nat) (l:Int) (w:World):Calls Tryz.prog 219 #[ac A 0 c,ai 0,ai 0,ai l] w fun e w'=>e= .returned (.tuple #[])/\Below w.heap.size w w':=by
 refine enter Tryz.func219 rfl Tryz.ntmps219 rfl<|aj ?_;refine cZ (fun _:Unit=>True) (fun _=>0) (fun _=> [(0,ac A 0 c),(1,ai 0),(2,ai 0),(3,ai l),(8,.bool true),(9,.bool true)]) (fun _=> []) () trivial ?_;rintro _ _;refine ax (fun a=>?_) (fun a=>?_)
 ·refine aj ?_;refine cO rfl Tryz.call264 (fun w b=>N8 A c w)<|aj ?_;intro w b;exact⟨rfl,b.below⟩
 exact absurd (show (0:Int)<=12 by decide) a
theorem Kv (A:Option Addr) (c:Nat) (w:World):Calls Tryz.prog 167 #[.slice A 0 c] w fun e w'=>e= .returned (.tuple #[]) /\ Below w.heap.size w w':=by
 go_enter Tryz.func167,Tryz.ntmps167
 go_wp2_with (first
  | (go_at_call 220;refine(UF _).mono ?_;rintro e w' ⟨rfl,rfl⟩)
  | (go_at_call 219;refine(NP _ _ _ _).mono ?_;rintro e w' ⟨rfl,a⟩))
 all_goals (go_end0;exact⟨rfl,(by repeat (first | exact Below.refl _ _ | assumption | refine Below.drew ?_ | refine Below.drewN_ ?_ _ | refine aT ?_ _ | refine bK (by assumption) ?_ | refine bZ ?_ (by simp <;> omega) _))⟩)
theorem FA (A:Option Addr) (c:Nat) (w:World):Calls Tryz.prog 168 #[ac A 0 c] w fun e w'=>e= .returned (ac A 0 c)/\Below w.heap.size w w':=
 (Any.slices_Compact_int_empty su A c w).mono fun _ _ ⟨a,b⟩=>⟨a,by rw[b];exact Below.refl _ _⟩
theorem NB (fs:List aw) (a:MA) (m:av) (w:World) (t:fV w.heap.size w a m) (r:fP fs) (j:bU fs m) :
  Calls Tryz.prog 116 #[.agg #[ac a.Af m.F.length a.cf,ac a.Ab m.B.length a.cb,ac a.Ai m.I.length a.ci,ac a.Ao m.out.length a.co,ai m.S,ai m.T]] w fun e w'=> ∃q:Option Addr×Nat,True/\e= .returned (ac q.1 (cF m).length q.2)/\Cw w.heap.size w [an (ac q.1 (cF m).length q.2) (cF m)] w':=by
 have s:∀d∈m.F,d.L.length<=1000/\d.K.length<=8:=fun d u=>by
  obtain⟨n,l,rfl⟩:=cC u;have f:=vk r j l;have e:aQ m.F n=m.F[n]:=by
   unfold aQ;rw[ap,aq l];rfl
  rw[e] at f;exact⟨f.2,f.1⟩
 have k:=PS j;refine enter Tryz.func116 rfl Tryz.ntmps116 rfl<|aj ?_;refine fun o _=>aj ?_;intro p _;refine bL<|dm (fun w f=>Cw.nilO Int f)<|aj ?_;refine du rfl Tryz.call163 (fun w b=>L6 o p a m t j.n6 s none 0 w (b.msub (.s fc (.s fc (.s fc .r))))) (fun⟨g,h⟩ _=>?_);refine aP ?_;generalize sR m=i at k⊢;generalize cF m=x at k⊢;subst k;rcases i with _ | ⟨d,i⟩
 ·rw[show nU ([]:List Int)= [] from by unfold nU;simp,show Lib.compact ([]:List Int)= [] from by decide];refine cO rfl V5 (fun w b=>Kv g h w)<|aj ?_;refine cO rfl V4 (fun w b=>FA g h w)<|aj ?_;intro w b;exact⟨(g,h),trivial,rfl,b.msub ms⟩
 have:(nU (d::i)).length=(d::i).length:=by unfold nU;exact List.length_mergeSort _
 refine du rfl V5 (fun w b=>Ea (b.msub (.s fc .r)) (Nat.succ_pos _) (BP b fc)) (fun _ _=>aj ?_);refine du rfl V4 (fun w b=>yl (b.msub (.s fc .r)) (Nat.succ_pos _) (BP b fc)) (fun _ _=>aj ?_);intro w b;exact⟨(g,h),trivial,rfl,b.msub ms⟩
end
section
theorem LX {l:List Int} {v:Int} (h:v∈l):∃k:Nat,rC l v=k/\k<l.length/\l.getD k 0=v:=by
 unfold rC
 cases e:l.findIdx? (· == v) with
 | none=>
  rw[List.findIdx?_eq_none_iff] at e;have:=e v h;simp at this
 | some k=>
  rw[pL] at e;obtain⟨a,b,_⟩:=e;refine⟨k,rfl,a,?_⟩;rw[ap,aq a];simpa using b
def kQ {α:Type} (l:List α) (f:α->α) (k:Nat):List α:=(l.take k).map f++l.drop k
section
variable {B:Nat} {w0:World} {H:List aO}
theorem Fx (u v:Nat) (R:List Int) (r:Int->Int) (L:∀n∈R,aI (r n)) (l j:Option Addr) (s q:Nat) (A:Option Addr) (m c k:Nat) (xs:List aD) (o:k<m) (E:yc (fun n=>n∈R) (xs.getD k default)) (F:(xs.getD k default).ref=true->0<=(xs.getD k default).n) (w:World)
  (a:Cw B w0 (an (ac A m c) xs::ak v [ac l (R.map r).length s] 35::an (ac l (R.map r).length s) (R.map r)::ak u [ac j R.length q] 35::an (ac j R.length q) R::H) w) :
  Calls Tryz.prog 164 #[.pointer (some ⟨ab A,ao A+k*2,none⟩),af v,af u] w fun e w'=> ∃_:Unit,True/\e= .returned (.tuple #[])/\Cw B w0 (an (ac A m c) (xs.set k (dY r (xs.getD k default)))::ak v [ac l (R.map r).length s] 35::an (ac l (R.map r).length s) (R.map r)::ak u [ac j R.length q] 35::an (ac j R.length q) R::H) w':=by
 have y:xs.length=m:=by
  obtain⟨I,x,_⟩:=a.rd cu.a;exact bO.len_eq (da.sl (show da w I _ xs from x))
 have C:xs.set k (xs.getD k default)=xs:=by
  apply fI
  intro N;rw[ra]
  split
  ·rename_i e;subst e;rw[ap,if_pos ω,aq ω];rfl
  rfl
 generalize p:xs.getD k default=b at E F C⊢;refine bI Tryz.func164 rfl Tryz.ntmps164 rfl a<|aj ?_;refine ef rfl (fun w a=>(SF.val (SF.own y fc) o default) w a 0 _ rfl) ?_;refine aC ?_;rw[p];rcases Bool.eq_false_or_eq_true b.ref with d | d
 ·rw[d];refine bj (t:=8) (v':= .bool true) rfl (rfl)<|aj ?_;refine ef rfl (fun w a=>(SF.val (SF.own y fc) o default) w a 1 _ rfl)<|aj ?_;rw[p];refine eK rfl (fun g=>?_) (fun g=>?_)
  ·have g:0<b.n:=g;have D:=E d ω;obtain⟨i,K,z,G⟩:=LX D;have:i<(R.map r).length:=by rw[aL];exact z
   have h:dY r b=⟨true,r b.n⟩:=by unfold dY;rw[if_pos ⟨d,ω⟩]
   have J:(R.map r).getD i 0=r b.n:=by
    rw[ap,dd,aq z];rw[ap,aq z] at G;show r R[i]=_;rw[show R[i]=b.n from G]
   refine bq [0,3,6,9,12,15,18,23,24,27,30,33,38] [12] rfl<|aj ?_;refine tE rfl (bY (fun w a=>(SF.val (SF.own y fc) o default) w a 1 _ rfl) rfl rfl bF) ?_;rw[p];refine ls rfl rfl Tryz.call165 ((fun w a=>fY ((fun w a=>CL _ R b.n w (SF.at_ (SF.own rfl fc) a)) w a))) ?_;rw[K];refine tE rfl (aX (k:=i) az aZ (SF.own (xs:=R.map r) rfl fc) ω rfl rfl rfl) ?_;refine tE rfl (bY (SF.int (SF.own (xs:=R.map r) rfl fc) ω) rfl rfl bF) ?_;refine aC ?_;refine aC ?_;rw[J];refine pE rfl (jT (α:=aD) (f:=1) (us:= [ai (r b.n)]) ⟨true,r b.n⟩ default (xs':=xs.set k (dY r b)) (by rw[h]) fc o (L _ D) aZ rfl rfl rfl rfl rfl rfl (by rw[p];show [Value.bool b.ref,_]=_;rw[d];rfl) rfl) (fun _ _=>aj ?_);intro w a;exact⟨(),trivial,rfl,a.msub ms⟩
  have g:¬0<b.n:=g;have h:dY r b=b:=by unfold dY;rw[if_neg (fun x=>by have:=F d;have:=x.2;omega)]
  rw[h,C];refine aj ?_;intro w a;exact⟨(),trivial,rfl,a.msub ms⟩
 rw[d];have h:dY r b=b:=Ex d;rw[h,C];refine bj (t:=8) (v':= .bool false) rfl (rfl)<|aj ?_;refine cA rfl<|aj ?_;intro w a;exact⟨(),trivial,rfl,a.msub ms⟩
theorem Bw {α:Type} (l:List α) (f:α->α):kQ l f 0=l:=by unfold kQ;simp
theorem DX {α:Type} (l:List α) (f:α->α):kQ l f l.length=l.map f:=by unfold kQ;simp
theorem DW {α:Type} (l:List α) (f:α->α) (k:Nat):(kQ l f k).length=l.length:=by unfold kQ;simp;omega
theorem IE {α:Type} [Inhabited α] {l:List α} {f:α->α} {k:Nat} (a:k<l.length):(kQ l f k).getD k default=l.getD k default:=by
 unfold kQ;rw[ap,dD (by simp;omega),aL,aB,Nat.min_eq_left ω,pJ,dV,ap];rfl
theorem DV {α:Type} [Inhabited α] {l:List α} {f:α->α} {k:Nat} (a:k<l.length):(kQ l f k).set k (f (l.getD k default))=kQ l f (k+1):=by
 unfold kQ;have b:((l.take k).map f).length=k:=by rw[aL,aB];omega
 rw[pK _ _ ω,b,pJ,eF l k default a,db,bA]
 congr 1
 rw[fT a,List.set_cons_zero];rfl
def jY (r:Int->Int) (p:aF×aK):aF×aK:=(p.1,ld r p.2)
def er (l:List (aF×aK)) (r:Int->Int) (i:Nat):List (aF×aK):=(kQ l (jY r) i).eraseIdx i
theorem Nv {l:List (aF×aK)} {i:Nat} (hi:i<l.length) {w:World} (h:Cw B w0 (cJ l::H) w):∃a d b e,l[i].1.lv= ac a l[i].2.L.length d/\l[i].1.sv= ac b l[i].2.K.length e:=by
 obtain⟨j,k⟩:=Sq hi h;obtain⟨a,d,f,_⟩:=j.form;obtain⟨b,e,g,_⟩:=k.form;exact⟨a,d,b,e,f,g⟩
theorem L5 (z x y:Nat) (R:List Int) (r:Int->Int) (a1:∀n∈R,aI (r n)) (j i o:Option Addr) (m k n s:Nat) (J:List Value) (l:List (aF×aK)) (G:List aF) (al:l.length=n) (am:l.map Prod.fst=G) (bm:n<=6)
  (a7:∀p∈l,zY (fun n=>n∈R) p.2) (a0:∀p∈l,∀v∈p.2.L++p.2.K,v.ref=true->0<=v.n) (w:World)
  (u:Cw B w0 (ak z (ac o n s::J) 43::an (ac o n s) G::cJ l::ak y [ac j (R.map r).length m] 35::an (ac j (R.map r).length m) (R.map r)::ak x [ac i R.length k] 35::an (ac i R.length k) R::H) w) :
  Calls Tryz.prog 163 #[af z,.func (.func 164) #[] #[af y,af x]] w fun e w'=> ∃_:Unit,True/\e= .returned (.tuple #[])/\Cw B w0 (ak z (ac o n s::J) 43::an (ac o n s) G::cJ (l.map (jY r))::ak y [ac j (R.map r).length m] 35::an (ac j (R.map r).length m) (R.map r)::ak x [ac i R.length k] 35::an (ac i R.length k) R::H) w':=by
 have Q:G.length=n:=by rw[<-am,aL,al]
 refine bI Tryz.func163 rfl Tryz.ntmps163 rfl u<|aj ?_;refine cZ (fun a:Nat=>a<=n) (fun a=>n - a) (fun a=> [(0,af z),(1,.func (.func 164) #[] #[af y,af x]),(12,ai (n:Int)),(13,ai (a:Int))]) (fun a=>cJ (kQ l (jY r) a)::ak z (ac o n s::J) 43::an (ac o n s) G::ak y [ac j (R.map r).length m] 35::ag j m (R.map r)::ak x [ac i R.length k] 35::ag i k R::H) 0 (aS _) ?_ (hh:=(fun w t=>(show Cw _ _ (cJ (kQ l (jY r) 0)::ak z (ac o n s::J) 43::an (ac o n s) G::ak y [ac j (R.map r).length m] 35::ag j m (R.map r)::ak x [ac i R.length k] 35::ag i k R::H) w from by rw[Bw];exact t.msub ms)));rintro a a2;have:a<=n:=a2;refine ax (fun a5=>?_) (fun a5=>?_)
 ·have N:a<l.length:=ω;have S:=DW l (jY r) a;have ad:(kQ l (jY r) a)[a]'(by omega)=l[a]:=by
   have:=IE (f:=jY r) N;rw[ap,aq ω,ap,aq N] at this;exact this
  refine ek (p:= ∃C E D F,l[a].1.lv= ac C l[a].2.L.length E/\l[a].1.sv= ac D l[a].2.K.length F) (fun w u=>by
   have:=Nv (l:=kQ l (jY r) a) (i:=a) ω u;rw[ad] at this;exact this) fun⟨C,E,D,F,Y,Z⟩=>?_
  refine dm (fun w t=>rZ (l:=kQ l (jY r) a) (k:=a) ω t) ?_;rw[ad];have bg:(kQ l (jY r) a).set a (jY r l[a])=kQ l (jY r) (a+1):=by
   have:=DV (f:=jY r) N;rw[ap,aq N] at this;exact this
  have W:=cV N;obtain⟨a8,a9⟩:=a7 _ W;have ba:∀v∈l[a].2.L,v.ref=true->0<=v.n:=fun v X=>a0 _ W v (iH _ X);have bb:∀v∈l[a].2.K,v.ref=true->0<=v.n:=fun v X=>a0 _ W v (ip _ X);have P:G.getD a default=⟨l[a].1.func,l[a].1.pc,ac C l[a].2.L.length E,ac D l[a].2.K.length F⟩:=by
   rw[<-am,ap,dd,aq N,<-Y,<-Z];rfl
  have T:∀w,Cw B w0 (an l[a].1.lv (jY r l[a]).2.L::an l[a].1.sv (jY r l[a]).2.K::cJ (er l r a)::ak z (ac o n s::J) 43::an (ac o n s) G::ak y [ac j (R.map r).length m] 35::ag j m (R.map r)::ak x [ac i R.length k] 35::ag i k R::H) w->Cw B w0 (cJ (kQ l (jY r) (a+1))::ak z (ac o n s::J) 43::an (ac o n s) G::ak y [ac j (R.map r).length m] 35::ag j m (R.map r)::ak x [ac i R.length k] 35::ag i k R::H) w:=fun w t=>by
   have:=xx (l:=kQ l (jY r) a) (k:=a) (q:=jY r l[a]) ω t
   rwa [bg] at this
  show CW _ _ _ _ _ _ _ (an l[a].1.lv l[a].2.L::an l[a].1.sv l[a].2.K::cJ (er l r a)::ak z (ac o n s::J) 43::an (ac o n s) G::ak y [ac j (R.map r).length m] 35::ag j m (R.map r)::ak x [ac i R.length k] 35::ag i k R::H);rw[Y,Z] at T⊢;have bc:(jY r l[a]).2.L=l[a].2.L.map (dY r):=rfl;have bf:(jY r l[a]).2.K=l[a].2.K.map (dY r):=rfl;rw[bc,bf] at T;generalize l[a].1.func=bi at P;generalize l[a].1.pc=bn at P;generalize l[a].2.L=g at *;generalize l[a].2.K=h at *;refine ek (p:=g.length<=140737488355328/\h.length<=140737488355328) (fun w u=>⟨bx (SF.at_ (SF.own (α:=aD) (xs:=g) rfl fc) u),bx (SF.at_ (SF.own (α:=aD) (xs:=h) rfl fc) u)⟩) fun⟨bo,bp⟩=>?_;refine aj ?_;refine bq [0,3,6,9,12,15,18,21,24,27,30,33,36,39,42,45,54,50,51] [] rfl<|aj ?_;refine tE rfl (aX (k:=a) cX dQ (SF.own (α:=aF) Q fc) ω rfl rfl rfl)<|aj ?_;refine tE rfl (bY (fun w u=>(SF.hfr (SF.own (α:=aF) Q fc) (k:=a) ω P) w u 2 _ rfl) rfl rfl ed)<|aj ?_;refine tE rfl (aX (k:=a) cX dQ (SF.own (α:=aF) Q fc) ω rfl rfl rfl)<|aj ?_;refine tE rfl (bY (fun w u=>(SF.hfr (SF.own (α:=aF) Q fc) (k:=a) ω P) w u 3 _ rfl) rfl rfl ed)<|aj ?_;refine fun L _=>aj ?_;refine cZ (fun I:Nat=>I<=2) (fun I=>2 - I) (fun I=> [(0,af z),(1,.func (.func 164) #[] #[af y,af x]),(12,ai (n:Int)),(13,ai (a:Int)),(32,ac (some ⟨L,0,none⟩) 2 2),(33,ai 2),(34,ai (I:Int))]) (fun I=>an (ac C g.length E) (if I=0 then g else g.map (dY r))::an (ac D h.length F) (if I=2 then h.map (dY r) else h)::cJ (er l r a)::ak L [ac C g.length E,ac D h.length F] 116::ak z (ac o n s::J) 43::an (ac o n s) G::ak y [ac j (R.map r).length m] 35::ag j m (R.map r)::ak x [ac i R.length k] 35::ag i k R::H) 0 (aS _) ?_ (hh:=(fun w t=>t.msub ms));rintro I a3;have:I<=2:=a3;refine ax (fun a6=>?_) (fun a6=>?_)
  ·rcases(show I=0\/I=1 by omega) with rfl | rfl
   ·rw[if_pos rfl,if_neg κ];refine aj ?_;refine sE (jG (k:=0) oX fy rfl κ rfl rfl rfl) ?_;refine ef rfl (fun w u=>gt (v:= ac C g.length E) fc rfl w u)<|aj ?_;refine cZ (fun b:Nat=>b<=g.length) (fun b=>g.length - b) (fun b=> [(0,af z),(1,.func (.func 164) #[] #[af y,af x]),(6,ac C g.length E),(12,ai (n:Int)),(13,ai (a:Int)),(32,ac (some ⟨L,0,none⟩) 2 2),(33,ai 2),(34,ai 0),(39,ai (g.length:Int)),(40,ai (b:Int))]) (fun b=>an (ac C g.length E) (kQ g (dY r) b)::ag D F h::cJ (er l r a)::ak L [ac C g.length E,ac D h.length F] 116::ak z (ac o n s::J) 43::an (ac o n s) G::ak y [ac j (R.map r).length m] 35::ag j m (R.map r)::ak x [ac i R.length k] 35::ag i k R::H) 0 (aS _) ?_ (hh:=(fun w t=>(show Cw _ _ (an (ac C g.length E) (kQ g (dY r) 0)::ag D F h::cJ (er l r a)::ak L [ac C g.length E,ac D h.length F] 116::ak z (ac o n s::J) 43::an (ac o n s) G::ak y [ac j (R.map r).length m] 35::ag j m (R.map r)::ak x [ac i R.length k] 35::ag i k R::H) w from by rw[Bw];exact t.msub ms)));rintro b U;have a4:b<=g.length:=U;have S:=DW g (dY r) b;refine ax (fun V=>?_) (fun V=>?_)
    ·have K:b<g.length:=ω;have M:=IE (f:=dY r) K;have O:=cL (d:=(default:aD)) K;refine aj ?_;refine cP b rfl ((SF.own (xs:=kQ g (dY r) b) S fc)) ?_;refine oE (gF rfl rfl rfl Tryz.call164 (fun w u=>Fx x y R r a1 j i m k C g.length E b (kQ g (dY r) b) K (by rw[M];exact a8 _ O) (by rw[M];exact ba _ O) w (u.msub (.s fc (.s fc (.s fc (.s fc (.s fc .r)))))))) (fun _ _=>aj ?_);rw[M,DV K];refine cG (b+1) (by show b+1<=_;omega) (by show _ - _<_ - _;omega) (hh:=(fun w t=>t.msub ms))
    obtain rfl:b=g.length:=ω;rw[DX];refine aj ?_;refine cG 1 ((by decide:1<=2)) (by show 2 - 1<2 - 0;decide) (hh:=(fun w t=>t.msub ms))
   rw[if_neg κ,if_neg κ];refine aj ?_;refine sE (jG (k:=1) oX fy rfl κ rfl rfl rfl) ?_;refine ef rfl (fun w u=>gt (v:= ac D h.length F) fc rfl w u)<|aj ?_;refine cZ (fun b:Nat=>b<=h.length) (fun b=>h.length - b) (fun b=> [(0,af z),(1,.func (.func 164) #[] #[af y,af x]),(6,ac D h.length F),(12,ai (n:Int)),(13,ai (a:Int)),(32,ac (some ⟨L,0,none⟩) 2 2),(33,ai 2),(34,ai 1),(39,ai (h.length:Int)),(40,ai (b:Int))]) (fun b=>an (ac D h.length F) (kQ h (dY r) b)::an (ac C g.length E) (g.map (dY r))::cJ (er l r a)::ak L [ac C g.length E,ac D h.length F] 116::ak z (ac o n s::J) 43::an (ac o n s) G::ak y [ac j (R.map r).length m] 35::ag j m (R.map r)::ak x [ac i R.length k] 35::ag i k R::H) 0 (aS _) ?_ (hh:=(fun w t=>(show Cw _ _ (an (ac D h.length F) (kQ h (dY r) 0)::an (ac C g.length E) (g.map (dY r))::cJ (er l r a)::ak L [ac C g.length E,ac D h.length F] 116::ak z (ac o n s::J) 43::an (ac o n s) G::ak y [ac j (R.map r).length m] 35::ag j m (R.map r)::ak x [ac i R.length k] 35::ag i k R::H) w from by rw[Bw];exact t.msub ms)));rintro b U;have a4:b<=h.length:=U;have S:=DW h (dY r) b;refine ax (fun V=>?_) (fun V=>?_)
   ·have K:b<h.length:=ω;have M:=IE (f:=dY r) K;have O:=cL (d:=(default:aD)) K;refine aj ?_;refine cP b rfl ((SF.own (xs:=kQ h (dY r) b) S fc)) ?_;refine oE (gF rfl rfl rfl Tryz.call164 (fun w u=>Fx x y R r a1 j i m k D h.length F b (kQ h (dY r) b) K (by rw[M];exact a9 _ O) (by rw[M];exact bb _ O) w (u.msub (.s fc (.s fc (.s fc (.s fc (.s fc .r)))))))) (fun _ _=>aj ?_);rw[M,DV K];refine cG (b+1) (by show b+1<=_;omega) (by show _ - _<_ - _;omega) (hh:=(fun w t=>t.msub ms))
   obtain rfl:b=h.length:=ω;rw[DX];refine aj ?_;refine cG 2 ((by decide:2<=2)) (by show 2 - 2<2 - 1;decide) (hh:=(fun w t=>t.msub ms))
  obtain rfl:I=2:=ω;rw[if_neg κ,if_pos rfl];refine aj ?_;refine cG (a+1) (by show a+1<=_;omega) (by show _ - _<_ - _;omega) (hh:=(fun w t=>T w (t.msub ms)))
 obtain rfl:a=n:=ω;rw[<-al,DX];refine aj ?_;intro w u;exact⟨(),trivial,rfl,u.msub ms⟩
end
end
section
theorem OJ (m:av):(dT m).F.length=m.F.length:=by unfold dT;simp
theorem NA (r:Int->Int) (l:List (aF×aK)):(l.map (jY r)).map Prod.fst=l.map Prod.fst:=by rw[List.map_map];rfl
theorem Nz (r:Int->Int) (l:List (aF×aK)):(l.map (jY r)).map Prod.snd=(l.map Prod.snd).map (ld r):=by rw[List.map_map,List.map_map];rfl
theorem PR {r:Int->Int} {l:List (aF×aK)} (h:gP l):gP (l.map (jY r)):=fun e a=>by
 obtain⟨d,b,rfl⟩:=jR.1 a;exact h d b
theorem JK (fs:List aw) (a:MA) (m:av) (w:World) (p:fV w.heap.size w a m) (u:fP fs) (f:bU fs m) :
  Calls Tryz.prog 115 #[.agg #[ac a.Af m.F.length a.cf,ac a.Ab m.B.length a.cb,ac a.Ai m.I.length a.ci,ac a.Ao m.out.length a.co,ai m.S,ai m.T]] w fun e w'=> ∃g:MA,True/\
   e= .returned (.agg #[ac g.Af (dT m).F.length g.cf,ac g.Ab (dT m).B.length g.cb,ac g.Ai (dT m).I.length g.ci,ac g.Ao (dT m).out.length g.co,ai (dT m).S,ai (dT m).T])/\Cw w.heap.size w [an (ac g.Af (dT m).F.length g.cf) (dT m).F,an (ac g.Ab (dT m).B.length g.cb) (dT m).B,an (ac g.Ai (dT m).I.length g.ci) (dT m).I,an (ac g.Ao (dT m).out.length g.co) (dT m).out] w':=by
 have:=(gS f.bl).1;have:=Cu (m:=m);have v:∀s∈cF m,0<=s/\s<=m.B.length:=fun s q=>by have:=(lg.1 q).1;omega
 have K:∀k∈cF m,aI (fx m.B (cF m) k):=fun k I=>by
  have n:=v k I;have:=nG m.B (cF m) k.toNat;unfold fx
  split
  ·exact⟨ω,ω⟩
  exact⟨ω,ω⟩
 rw[OJ];refine enter Tryz.func115 rfl Tryz.ntmps115 rfl<|aj ?_;refine fun N _=>aj ?_;refine fun O _=>aj ?_;refine eu rfl rH (fun w d=>mX a m w (fV.ro d p) (kK u f)) (fun b _=>aj ?_);refine fun D _=>aj ?_;refine eu rfl Tryz.call116 (fun w d=>NB fs a m w (fV.ro d p) u f) (fun⟨t,y⟩ _=>?_);refine aP ?_;refine fun E _=>aj ?_;refine eu rfl Tryz.call162 (fun w d=>UG a.Ab t a.cb y m.B (cF m) w (d.ro p.b) (SF.at_ (SF.own rfl fc) d) (yy.of_check f.bl) v ω) (fun⟨⟨l,r⟩,⟨C,M⟩⟩ _=>?_);refine aP ?_;intro F _;refine aC ?_;refine dN (dk _ fc gv rfl rfl rfl rfl rfl (by rfl) rfl (by rfl)) rfl rfl (fun _ _=>?_);refine bL<|cE<|bQ<|aC ?_;refine aC ?_;refine dN (dk _ fc Tryz.sizeOf41 rfl rfl rfl rfl rfl (by rfl) rfl (by rfl)) rfl rfl (fun _ _=>?_);refine bL<|AW (xs:=m.F) (v:= ac b.Af m.F.length b.cf) fc fun h o J=>?_;have G:h.length=m.F.length:=by rw[<-o,aL]
 have x:∀i∈h,i.2∈m.F:=fun i j=>by rw[<-o];exact kz j
 refine aj ?_;refine du rfl Tryz.call163 (fun w d=>L5 D E F (cF m) (fx m.B (cF m)) K C t b.Af M y m.F.length b.cf [ac l (di m.B (cF m) m.B.length).length r,ac b.Ai m.I.length b.ci,ac b.Ao m.out.length b.co,ai m.S,ai m.T] h (h.map Prod.fst) G rfl f.n6 (fun i j=>FG f _ (x i j)) (fun i j z L q=>(Bu f (x i j) L q).1) w (d.msub (.s fc (.s fc (.s fc (.s fc (.s fc (.s fc (.s fc .r))))))))) (fun _ _=>aj ?_);intro w d;refine⟨⟨b.Af,b.cf,l,r,b.Ai,b.ci,b.Ao,b.co⟩,trivial,rfl,?_⟩;have n:=qL (v:= ac b.Af m.F.length b.cf) (l:=h.map (jY (fx m.B (cF m)))) (H:= [ag l r (di m.B (cF m) m.B.length),ag b.Ai b.ci m.I,ag b.Ao b.co m.out]) (PR J) (by rw[NA];exact d.msub ms);rw[Nz,o] at n;exact n
end
section
structure jz where
 kind:Int
 of_:Int
 n:Int
 deriving DecidableEq
instance:Inhabited jz:=⟨⟨0,0,0⟩⟩
def qq (n:Nat) (a:jz):Int:=
 if a.kind<1\/4<a.kind then 6 else if (a.kind=1/\a.of_≠0)\/(2<a.kind/\a.n≠0) then 1 else if a.of_<0\/(n:Int)<=a.of_ then 3 else 0
theorem RL {B:Nat} {w0:World} {H:List aO} (m:Nat) (Aw r:Option Addr) (n cw p s:Nat) (x:Value) (a:jz) (w:World) (_:n<=1000000) (d:Cw B w0 (ak m [ac Aw n cw,ac r p s,x] 112::H) w) :
  Calls Tryz.prog 65 #[af m,.agg #[ai a.kind,ai a.of_,ai a.n]] w fun e w'=> ∃_:Unit,True/\e= .returned (ai (qq n a))/\Cw B w0 (ak m [ac Aw n cw,ac r p s,x] 112::H) w':=by
 obtain⟨y,b⟩:∃y,qq n a=y:=⟨_,rfl⟩
 rw[b];unfold qq at b;refine bI Tryz.func65 rfl Tryz.ntmps65 rfl d<|aj ?_;refine fun z _=>dh 9 (fun g=>?_) (fun g=>?_)
 ·have g:a.kind<1:=of_decide_eq_true g;rw[if_pos (.inl g)] at b;subst b;refine aj ?_;refine be rfl<|aj ?_;intro w d;exact⟨(),trivial,rfl,d.msub ms⟩
 have g:¬a.kind<1:=of_decide_eq_false g;refine ax (fun h=>?_) (fun h=>?_)
 ·have h:4<a.kind:=h;rw[if_pos (.inr h)] at b;subst b;refine aj ?_;intro w d;exact⟨(),trivial,rfl,d.msub ms⟩
 have h:¬4<a.kind:=h;rw[if_neg (fun u=>u.elim g h)] at b;refine dG (fun o:Bool=>o=decide ((a.kind=1/\a.of_≠0)\/(2<a.kind/\a.n≠0))) (fun o=> [(0,af m),(3,af z),(14,.bool o)]) (fun _=>ak z [ai a.kind,ai a.of_,ai a.n] 33::ak m [ac Aw n cw,ac r p s,x] 112::H) ?_ ?_
 ·refine dh 18 (fun i=>?_) (fun i=>?_)
  ·have i:a.kind=1:=of_decide_eq_true i;refine dh 23 (fun l=>?_) (fun l=>?_)
   ·have l:¬a.of_=0:=ψ l;refine aj ?_;refine lq true (by rw[eq_comm,decide_eq_true_iff];exact .inl ⟨i,l⟩)
   have l:a.of_=0:=ψ l;refine dh 27 (fun f=>?_) (fun f=>?_)
   ·exact absurd (of_decide_eq_true f) ω
   have f:¬2<a.kind:=of_decide_eq_false f;refine aj ?_;refine lq false (by rw[eq_comm,decide_eq_false_iff_not];omega)
  have i:¬a.kind=1:=of_decide_eq_false i;refine dh 27 (fun f=>?_) (fun f=>?_)
  ·have f:2<a.kind:=of_decide_eq_true f;refine aj ?_;refine lq (!decide (a.n=0)) (by rw[Bool.eq_iff_iff];simp[i,f])
  have f:¬2<a.kind:=of_decide_eq_false f;refine aj ?_;refine lq false (by rw[eq_comm,decide_eq_false_iff_not];omega)
 rintro o q;refine cc rfl (fun v=>?_) (fun v=>?_)
 ·rw[v] at q;rw[if_pos (of_decide_eq_true q.symm)] at b;subst b;refine aj ?_;intro w d;exact⟨(),trivial,rfl,d.msub ms⟩
 rw[v] at q;rw[if_neg (of_decide_eq_false q.symm)] at b;refine aj ?_;refine bq [0,3,6,9,12,15,18,21,24,27,30,33,36,39,42] [] rfl<|aj ?_;refine pT (t:=37) rfl (fun j=>?_) (fun j=>?_)
 ·have j:a.of_<0:=of_decide_eq_true j;rw[if_pos (.inl j)] at b;subst b;refine aj ?_;refine be rfl<|aj ?_;intro w d;exact⟨(),trivial,rfl,d.msub ms⟩
 have j:¬a.of_<0:=of_decide_eq_false j;refine ax (fun k=>?_) (fun k=>?_)
 ·have k:(n:Int)<=a.of_:=k;rw[if_pos (.inr k)] at b;subst b;refine aj ?_;intro w d;exact⟨(),trivial,rfl,d.msub ms⟩
 have k:¬(n:Int)<=a.of_:=k;rw[if_neg (fun u=>u.elim j k)] at b;subst b;refine aj ?_;intro w d;exact⟨(),trivial,rfl,d.msub ms⟩
theorem Ri (fs:List aw) (a:MA) (m:av) (w:World) (h:fV w.heap.size w a m) (d:fP fs) (f:bU fs m) :
  Calls Tryz.prog 123 #[.agg #[ac a.Af m.F.length a.cf,ac a.Ab m.B.length a.cb,ac a.Ai m.I.length a.ci,ac a.Ao m.out.length a.co,ai m.S,ai m.T]] w fun e w'=> ∃g:MA,True/\
   e= .returned (.tuple #[.agg #[ac g.Af (dT m).F.length g.cf,ac g.Ab (dT m).B.length g.cb,ac g.Ai (dT m).I.length g.ci,ac g.Ao (dT m).out.length g.co,ai (dT m).S,ai (dT m).T],ai 0])/\Cw w.heap.size w [an (ac g.Af (dT m).F.length g.cf) (dT m).F,an (ac g.Ab (dT m).B.length g.cb) (dT m).B,an (ac g.Ai (dT m).I.length g.ci) (dT m).I,an (ac g.Ao (dT m).out.length g.co) (dT m).out] w':=by
 refine enter Tryz.func123 rfl Tryz.ntmps123 rfl<|aj ?_;refine fun i _=>aj ?_;refine fun j _=>aj ?_;refine eu rfl Tryz.call115 (fun w b=>JK fs a m w (fV.ro b h) d f) (fun g _=>aj ?_);intro w b;exact⟨g,trivial,rfl,b.msub ms⟩
theorem GB {m:av} (h:MI m):(lJ m).length<=1000000:=by
 have:=qh h.i.1;have:=qh h.o.1;have:=wP (f:=ix) m.B (fun d a=>qh (h.b.2 d a).1);have:=wP (f:=jd) m.F (fun e b=>AI (h.f.2 e b));have:=h.b.1;have:=h.f.1;unfold lJ;simp only[bC,ar];omega
theorem IP {fs:List aw} {m:av} (g:dZ fs=0) (f:fP fs) (b:bU fs m):ph fs (lJ m)=0/\Dz fs (lJ m)=m:=by
 have d:=IF (Ev f b);have a:ph fs (lJ m)=0:=by
  unfold ph;rw[if_neg (fun e=>e g),d];exact wz.2 b
 refine⟨a,?_⟩;unfold Dz sM;rw[if_pos a,d]
theorem Rh {B:Nat} {w0:World} {H:List aO} (i d:Nat) (k j:Value) (f:Option Addr) (h:Nat) (fs:List aw) (x:bO w0 B (ac f fs.length h) fs) (v:dZ fs=0) (l:fP fs) (a:MA) (m:av) (n:bU fs m)
  (t:fV B w0 a m) (w:World) (b:Cw B w0 (ak i [af d] 110::ak d [k,ac f fs.length h,j] 112::H) w) :
  Calls Tryz.prog 124 #[.agg #[ac a.Af m.F.length a.cf,ac a.Ab m.B.length a.cb,ac a.Ai m.I.length a.ci,ac a.Ao m.out.length a.co,ai m.S,ai m.T],af i] w fun e w'=> ∃g:MA,True/\
   e= .returned (.tuple #[.agg #[ac g.Af m.F.length g.cf,ac g.Ab m.B.length g.cb,ac g.Ai m.I.length g.ci,ac g.Ao m.out.length g.co,ai m.S,ai m.T],ai 0])/\Cw B w0 (an (ac g.Af m.F.length g.cf) m.F::an (ac g.Ab m.B.length g.cb) m.B::an (ac g.Ai m.I.length g.ci) m.I::an (ac g.Ao m.out.length g.co) m.out::ak i [af d] 110::ak d [k,ac f fs.length h,j] 112::H) w':=by
 obtain⟨s,u⟩:=IP v l n;have o:=Ev l n;have:=GB o;have p:=fun w r=>LD f h fs (lJ m) m u ω w r;rw[s] at p;refine bI Tryz.func124 rfl Tryz.ntmps124 rfl b<|aj ?_;refine fun q _=>aj ?_;refine fun y _=>aj ?_;refine eP [0,3,6,9,12,17,20,21,24,29,30] [] rfl [ak q (ah a m) 43,ak i [af d] 110,ak d [k,ac f fs.length h,j] 112]<|aj ?_;refine ls rfl rfl Tryz.call118 (fun w b=>Jp a m w (t.ro b) o) ?_;refine jc rfl rfl Tryz.call60 (fun w b=>p w (b.ro x)) (fun g _=>aj ?_);intro w b;exact⟨g,trivial,rfl,b.msub ms⟩
theorem La {α:Type} (b:List α) (c:α) (H a:List α):(b++c::(H++a)).Perm (b++(a++c::H)):=List.Perm.append_left b (show (c::H++a).Perm (a++c::H) from List.perm_append_comm)
theorem Si {l:List av} {m:av} {i k:Nat} (a:k<l.length) (h:k≠i):(l.set i m).take (k+1)=(l.set i m).take k++ [ay l k]:=by
 rw[eF _ k default (by rw[bS];exact a),ap,ra,if_neg ω];rfl
theorem Sj {l:List av} {m:av} {i:Nat} (hi:i<l.length):(l.set i m).take (i+1)=(l.set i m).take i++ [m]:=by
 rw[eF _ i default (by rw[bS];exact hi),ap,ra,if_pos rfl,if_pos hi];rfl
theorem DS {B:Nat} {w0:World} {H:List aO} (o i:Nat) (Aw:Option Addr) (cw:Nat) (u s:Value) (fs:List aw) (l:List av) (d:av) (f:FuncId) (cap:Array Value) (E:bO w0 B (ac Aw l.length cw) l) (z:lQ fs l) (hi:i<l.length) (J:aI d.S/\aI d.T)
  (K:∀a w,(callFunc f a).run Tryz.prog w= .ok (.enter f a) w)
  (M:∀(a:MA) (H':List aO) (w:World),fV B w0 a (ay l i)->Cw B w0 (ak o [ac Aw l.length cw,u,s] 112::H++H') w->Calls Tryz.prog f (([.agg #[ac a.Af (ay l i).F.length a.cf,ac a.Ab (ay l i).B.length a.cb,ac a.Ai (ay l i).I.length a.ci,ac a.Ao (ay l i).out.length a.co,ai (ay l i).S,ai (ay l i).T]]:List Value)++cap.toList).toArray w fun e w'=> ∃g:MA,True/\
   e= .returned (.tuple #[.agg #[ac g.Af d.F.length g.cf,ac g.Ab d.B.length g.cb,ac g.Ai d.I.length g.ci,ac g.Ao d.out.length g.co,ai d.S,ai d.T],ai 0])/\Cw B w0 (an (ac g.Af d.F.length g.cf) d.F::an (ac g.Ab d.B.length g.cb) d.B::an (ac g.Ai d.I.length g.ci) d.I::an (ac g.Ao d.out.length g.co) d.out::ak o [ac Aw l.length cw,u,s] 112::H++H') w')
  (w:World) (r:Cw B w0 (ak o [ac Aw l.length cw,u,s] 112::H) w) :
  Calls Tryz.prog 122 #[af o,ai (i:Int),.func (.func f) #[] cap] w fun e w'=> ∃q:Option Addr×Nat,True/\e= .returned (.tuple #[.agg #[ac q.1 (l.set i d).length q.2],ai 0])/\Cw B w0 (an (ac q.1 (l.set i d).length q.2) (l.set i d)::ak o [ac Aw l.length cw,u,s] 112::H) w':=by
 have:=bx E;have:=z.n4;have:(l.set i d).length=l.length:=bS ..;refine bI Tryz.func122 rfl Tryz.ntmps122 rfl r<|aj ?_;refine fun p _=>aj ?_;refine fun m _=>aj ?_;refine dm (fun w h=>Cw.nilO av h) ?_;refine cZ (fun g:Nat×Option Addr×Nat=>g.1<=l.length) (fun g=>l.length - g.1) (fun g=> [(1,ai (i:Int)),(2,.func (.func f) #[] cap),(6,af p),(8,af m),(17,ac Aw l.length cw),(18,ai (l.length:Int)),(19,ai (g.1:Int))]) (fun g=> [ak p [ac none 0 0] 27,ak m [ac g.2.1 ((l.set i d).take g.1).length g.2.2] 27,ag g.2.1 g.2.2 ((l.set i d).take g.1)]++(ak o [ac Aw l.length cw,u,s] 112::H)) (0,none,0) (aS _) ?_ (hh:=(fun _ h=>h.msub ms));rintro⟨b,j,k⟩ F
 try dsimp only
 have F:b<=l.length:=F;have:((l.set i d).take b).length=b:=by rw[aB];omega
 refine ax (fun N=>?_) (fun N=>?_)
 ·have C:b<l.length:=ω;obtain⟨a,G,L⟩:=E.mc C;have I:=z.i64 C;refine fq (fm ?_);refine dG (fun _:Option Addr×Nat=>True) (fun _=> [(1,ai (i:Int)),(2,.func (.func f) #[] cap),(6,af p),(8,af m),(17,ac Aw l.length cw),(18,ai (l.length:Int)),(19,ai (b:Int))]) (fun q=> [ak p [ac none 0 0] 27,ak m [ac q.1 ((l.set i d).take (b+1)).length q.2] 27,ag q.1 q.2 ((l.set i d).take (b+1))]++(ak o [ac Aw l.length cw,u,s] 112::H)) ?_ ?_
  ·refine aj ?_;refine cP _ rfl (.ro E) ?_;refine iC rfl (L _)<|aj ?_;refine fun y _=>cU (fun D=>?_) (fun D=>?_)
   ·have D:b≠i:=ω;refine aj ?_;refine eP [0,3,6,11,14,17,19,23] [5,6,7] rfl [ak m [ac j ((l.set i d).take b).length k] 27,ak y (ah a (ay l b)) 43]<|aj ?_;refine jc rfl rfl rH (fun w r=>mX a (ay l b) w (G.ro r) (kK z.f (z.r _ (gA C)))) (fun n _=>aj ?_);intro P _;refine pE rfl (cz (α:=av) (bytes:=112) (ay l b) (ae n (ay l b) []) (Si C D) dz (aU kl) rfl (sT fc fc fc fc fc fc) (nX I) ω ω rfl rfl rfl) (fun⟨v,x⟩ _=>?_);refine aP ?_;refine bX (v,x) trivial (hh:=(fun _ h=>h.msub ms))
   obtain rfl:b=i:=ω;refine aj ?_;refine oE (gF rfl rfl rfl K (fun w r=>M a [ak p [ac none 0 0] 27,ak m [ac j ((l.set b d).take b).length k] 27,ag j k ((l.set b d).take b),ak y (ah a (ay l b)) 43] w G (Cw.perm (show Cw B w0 ([ak p [ac none 0 0] 27,ak m [ac j ((l.set b d).take b).length k] 27,ag j k ((l.set b d).take b),ak y (ah a (ay l b)) 43]++(ak o [ac Aw l.length cw,u,s] 112::H)) w from r.msub ms) List.perm_append_comm))) (fun g _=>aj ?_);refine fun Q _=>aj ?_;refine cT (t:=41) (v':= .bool false) rfl rfl<|cA rfl<|fq (fm ?_);refine dm (fun w h=>h.perm (La [_,_,_,_,_] _ H [ak p [ac none 0 0] 27,ak m [ac j ((l.set b d).take b).length k] 27,ag j k ((l.set b d).take b),ak y (ah a (ay l b)) 43]))<|aj ?_;intro R _;refine oE (cz (α:=av) (bytes:=112) d (ae g d []) (Sj hi) dz (aU kl) rfl (sT fc fc fc fc fc fc) (nX J) ω ω rfl rfl rfl) (fun⟨v,x⟩ _=>?_);refine aP ?_;refine bX (v,x) trivial (hh:=(fun _ h=>h.msub ms))
  rintro⟨v,x⟩ _;refine aP ?_;refine cG (b+1,v,x) (by show b+1<=_;omega) (by show _ - _<_ - _;omega) (hh:=(fun _ h=>h.msub ms))
 obtain rfl:b=l.length:=ω;rw[bD ω];refine aj ?_;intro w r;exact⟨(j,k),trivial,rfl,r.msub ms⟩
end
section
def L8 (fs:List aw) (l:List av) (a:jz):List av×Int:=
 if a.kind=1 then (lS fs l a.n,iK fs l a.n) else if a.kind=2 then (lT fs l a.of_ a.n,jl fs l a.of_ a.n) else if a.kind=3 then (l.set a.of_.toNat (dT (ay l a.of_.toNat)),0) else (l,0)
def iV (fs:List aw) (l:List av) (a:jz):List av×Int:=if dA fs l≠0 then ([],dA fs l) else if qq l.length a≠0 then ([],qq l.length a) else L8 fs l a
theorem Nn {l:List av} {i:Nat} (hi:i<l.length):l.set i (ay l i)=l:=by
 apply fI
 intro b;rw[ra]
 split
 ·rename_i a;subst a;rw[aq hi];unfold ay;rw[ap,aq hi];rfl
 rfl
theorem TP {B:Nat} {w0:World} {H:List aO} (d:Nat) (Aw g:Option Addr) (cw h:Nat) (r:Value) (fs:List aw) (l:List av) (b z:Int) (i:Nat) (R:List av×Int) (f:L8 fs l ⟨b,i,z⟩=R) (K:bO w0 B (ac g fs.length h) fs) (u:bO w0 B (ac Aw l.length cw) l) (m:lQ fs l) (M:oI l) (x:i<l.length) (_:1<=b/\b<=4) (O:aI z)
  (w:World) (a:Cw B w0 (ak d [ac Aw l.length cw,ac g fs.length h,r] 112::H) w) :
  Calls Tryz.prog 66 #[af d,.agg #[ai b,ai (i:Int),ai z]] w fun e w'=> ∃q:Option Addr×Nat,True/\e= .returned (.tuple #[.agg #[ac q.1 R.1.length q.2],ai R.2])/\Cw B w0 (an (ac q.1 R.1.length q.2) R.1::ak d [ac Aw l.length cw,ac g fs.length h,r] 112::H) w':=by
 have:=bx u;have:=m.n4;have v:=m.r _ (gA x);change (if b=1 then (lS fs l z,iK fs l z) else if b=2 then (lT fs l i z,jl fs l i z) else if b=3 then (l.set i (dT (ay l i)),0) else (l,0))=R at f;refine bI Tryz.func66 rfl Tryz.ntmps66 rfl a<|aj ?_;refine fun s _=>aj ?_;refine fun t _=>aj ?_;refine fun D _=>ax (fun n=>?_) (fun n=>?_)
 ·have n:b=1:=n;rw[if_pos n] at f;refine aj ?_;refine eP [0,3,6,9,12,15,18,21,24,27,32,33,36,41,42] [] rfl [ak s [af d] 110,ak t [ai b,ai (i:Int),ai z] 33,ak d [ac Aw l.length cw,ac g fs.length h,r] 112]<|aj ?_;refine jc rfl rfl tH (fun w a=>vW g Aw h cw fs l z _ rfl w (a.ro K) (a.ro u) M) (fun⟨j,k⟩ _=>?_);refine aP ?_;intro w a;subst f;exact⟨(j,k),trivial,rfl,a.msub ms⟩
 have n:¬b=1:=n;rw[if_neg n] at f;refine ax (fun o=>?_) (fun o=>?_)
 ·have o:b=2:=o;rw[if_pos o] at f;refine aj ?_;refine eP [0,3,6,9,12,15,18,21,24,27,30,33,38,39,42,47,48] [] rfl [ak s [af d] 110,ak t [ai b,ai (i:Int),ai z] 33,ak d [ac Aw l.length cw,ac g fs.length h,r] 112]<|aj ?_;refine jc rfl rfl Wn (fun w a=>vX g Aw h cw fs l i z O _ rfl w (a.ro K) (a.ro u) M) (fun⟨j,k⟩ _=>?_);refine aP ?_;intro w a;subst f;exact⟨(j,k),trivial,rfl,a.msub ms⟩
 have o:¬b=2:=o;rw[if_neg o] at f;refine ax (fun p=>?_) (fun p=>?_)
 ·have p:b=3:=p;rw[if_pos p] at f;subst f;have I:=lP (wZ v);refine aj ?_;refine du rfl Tryz.call122 (fun w a=>DS (H:=ak s [af d] 110::ak t [ai b,ai (i:Int),ai z] 33::ak D [ac none 0 0] 27::H) d i Aw cw (ac g fs.length h) r fs l (dT (ay l i)) 123 #[] u m x I Tryz.call123 (fun y L w J a=>(Ri fs y (ay l i) w (J.ro a) m.f v).mono fun e w' ⟨C,E,F,G⟩=>⟨C,E,F,a.app G⟩) w (a.msub ms)) (fun⟨j,k⟩ _=>?_);refine aP ?_;intro w a;exact⟨(j,k),trivial,rfl,a.msub ms⟩
 have p:¬b=3:=p;rw[if_neg p] at f;subst f;have I:=lP v;have N:=Nn x;refine aj ?_;refine du rfl Tryz.call122 (fun w a=>DS (H:=ak s [af d] 110::ak t [ai b,ai (i:Int),ai z] 33::ak D [ac none 0 0] 27::H) d i Aw cw (ac g fs.length h) r fs l (ay l i) 124 #[af s] u m x I Tryz.call124 (fun y L w J a=>(Rh (H:=ak t [ai b,ai (i:Int),ai z] 33::ak D [ac none 0 0] 27::(H++L)) s d (ac Aw l.length cw) r g h fs K m.p m.f y (ay l i) v J w (a.perm (List.Perm.swap _ _ _))).mono fun e w' ⟨C,E,F,G⟩=>⟨C,E,F,G.perm (List.Perm.append_left [_,_,_,_] (List.Perm.swap _ _ _))⟩) w (a.msub ms)) (fun⟨j,k⟩ _=>?_);refine aP ?_;rw[N];refine aj ?_;intro w a;exact⟨(j,k),trivial,rfl,a.msub ms⟩
theorem MB {n:Nat} {a:jz} (h:qq n a=0):(1<=a.kind/\a.kind<=4)/\0<=a.of_/\a.of_<n:=by
 unfold qq at h
 split at h
 ·cases h
 split at h
 ·cases h
 split at h
 ·cases h
 omega
theorem Bq (h Aw:Option Addr) (i cw:Nat) (fs:List aw) (l:List av) (g o z:Int) (R:List av×Int) (d:iV fs l ⟨g,o,z⟩=R) (D:aI z) (w:World) (t:Sl w (ac h fs.length i) fs) (k:Sl w (ac Aw l.length cw) l) (r:oI l) :
  Calls Tryz.prog 12 #[.agg #[ac h fs.length i],.agg #[ac Aw l.length cw],.agg #[ai g,ai o,ai z]] w fun e w'=> ∃q:Option Addr×Nat,True/\e= .returned (.tuple #[.agg #[ac q.1 R.1.length q.2],ai R.2])/\Cw w.heap.size w [an (ac q.1 R.1.length q.2) R.1] w':=by
 have:=bx k;unfold iV at d;refine enter Tryz.func12 rfl Tryz.ntmps12 rfl<|aj ?_;refine fun F _=>aj ?_;refine fun G _=>aj ?_;refine fun I _=>aj ?_;refine fun J _=>aj ?_;refine cO rfl Kb (fun w a=>pd h Aw i cw fs l w (a.ro t) (a.ro k) r)<|aj ?_;refine fun m _=>ax (fun b=>?_) (fun b=>?_)
 ·have b:dA fs l=0:=b;have p:=pO b;have:=p.n4;rw[if_neg (fun j=>j b)] at d;refine aj ?_;refine du rfl Tryz.call65 (fun w a=>RL m Aw h l.length cw fs.length i (ac none 0 0) ⟨g,o,z⟩ w ω (a.msub (.s fc .r))) (fun _ _=>cU (fun f=>?_) (fun f=>?_))
  ·have f:¬qq l.length ⟨g,o,z⟩=0:=f;rw[if_pos f] at d;subst d;refine aj ?_;intro w a;exact⟨(none,0),trivial,rfl,(Cw.nilO av a).msub ms⟩
  have f:qq l.length ⟨g,o,z⟩=0:=f;rw[if_neg (fun j=>j f)] at d;obtain⟨C,s⟩:=MB f;obtain⟨u,rfl⟩:=nS s.1;have y:u<l.length:=by have:=s.2;simp only at this;omega
  refine aj ?_;refine du rfl Tryz.call66 (fun w a=>TP m Aw h cw i (ac none 0 0) fs l g z u R d t k p r y C D w (a.msub (.s fc .r))) (fun⟨v,x⟩ _=>?_);refine aP ?_;intro w a;exact⟨(v,x),trivial,rfl,a.msub ms⟩
 have b:¬dA fs l=0:=b;rw[if_pos b] at d;subst d;refine cU (fun n=>?_) (fun n=>?_)
 ·refine aj ?_;intro w a;exact⟨(none,0),trivial,rfl,(Cw.nilO av a).msub ms⟩
 exact absurd n b
end
section
theorem qR (f g:Option Addr) (q r h i:Nat) (l1 l2:List av) (w:World) (o:bO w w.heap.size (ac f q h) l1) (h2:bO w w.heap.size (ac g r i) l2) (x:l1.length=q) (y:l2.length=r) :
  Calls Tryz.prog 13 #[.agg #[ac f q h],.agg #[ac g r i]] w fun e w'=>e= .returned (.bool (decide (l1=l2)))/\Below w.heap.size w w':=by
 subst x y;have:=bx o;refine enter Tryz.func13 rfl Tryz.ntmps13 rfl<|aj ?_;refine fun l _=>aj ?_;refine fun m _=>cU (fun j=>?_) (fun j=>?_)
 ·refine aj ?_;intro w b;exact⟨aY (by rw[decide_eq_false (fun n=>j (by rw[n]))]),b.below⟩
 have j:l1.length=l2.length:=ω;refine aj ?_;refine cZ (fun a:Nat=>a<=l1.length/\l1.take a=l2.take a) (fun a=>l1.length - a) (fun a=> [(2,af l),(3,af m),(5,ai (a:Int))]) (fun _=> [ak l [ac f l1.length h] 27,ak m [ac g l2.length i] 27]) 0 (⟨aS _,rfl⟩) ?_;rintro a D;obtain⟨J,p⟩:a<=l1.length/\l1.take a=l2.take a:=D;refine ax (fun E=>?_) (fun E=>?_)
 ·have s:a<l1.length:=ω;have t:a<l2.length:=ω;obtain⟨u,F,z⟩:=o.mc s;obtain⟨v,G,C⟩:=h2.mc t;refine fq (fm ?_);refine cE<|iR<|dG (fun _:Unit=>True) (fun _=> [(2,af l),(3,af m),(5,ai (a:Int)),(31,.bool (!decide (ay l1 a=ay l2 a)))]) (fun _=> [ak l [ac f l1.length h] 27,ak m [ac g l2.length i] 27]) ?_ ?_
  ·refine bq [0,3,6,9,12,15,18,21,24,27,32,33] [] rfl<|aj ?_;refine tE rfl (aX (k:=a) dz cn (.ro o) ω rfl rfl rfl) ?_;refine tE rfl (eC (z _) rfl rfl jQ cn)<|aj ?_;refine tE rfl (aX (k:=a) dz cn (.ro h2) ω rfl rfl rfl) ?_;refine tE rfl (eC (C _) rfl rfl jQ cn) ?_;refine ls rfl rfl Tryz.call15 (fun w b=>Eh u v (ay l1 a) (ay l2 a) w (F.ro b) (G.ro b))<|aj ?_;refine bJ<|bX () trivial
  rintro⟨⟩ _
  try dsimp only
  refine cc rfl (fun d=>?_) (fun d=>?_)
  ·refine aj ?_;intro w b;exact⟨aY (by rw[decide_eq_false (fun n=>nD d (by rw[n]))]),b.below⟩
  have d:=mn d;refine aj ?_;refine cG (a+1) (⟨by show a+1<=_;omega,uz default s t p d⟩) (by show _ - _<_ - _;omega)
 obtain rfl:a=l1.length:=ω;rw[aR,j,aR] at p;refine aj ?_;intro w b;exact⟨aY (by rw[decide_eq_true p]),b.below⟩
end
section
def vO (i:List Int) (s:Int):av:=⟨[⟨0,0,[],[]⟩],[],i,[],s,0⟩
def fg:List av:= [kT,kT]
def sG:List av:= [vO [3] 0,vO [] 0]
def oM:List av:= [vO [] 1,vO [9] 0]
def nP:List av:= [vO [81] 0,vO [] 1]
theorem nT:dA bB fg=0/\jl bB fg 0 3=0/\lT bB fg 0 3=sG/\iK bB sG 50=0/\lS bB sG 50=oM/\iK bB oM 50=0/\lS bB oM 50=nP/\dA bB nP=0/\Ay bB nP=(nP,0):=by
 refine⟨?_,?_,?_,?_,?_,?_,?_,?_,?_⟩ <;> kernel_rfl
theorem xI {a b:av} (e:a.F=kT.F) (h2:b.F=kT.F):oI [a,b]:=by
 refine⟨by show 2*112<=_;decide,fun d f=>?_⟩;have:d=a\/d=b:=ψ f;rcases this with rfl | rfl
 ·rw[e];exact If
 rw[h2];exact If
theorem zk:oI fg:=xI rfl rfl
theorem Fh:oI sG:=xI rfl rfl
theorem Fg:oI oM:=xI rfl rfl
theorem Tn:oI nP:=xI rfl rfl
theorem ud:sG.length=2:=rfl
theorem nk:oM.length=2:=rfl
theorem qI:nP.length=2:=rfl
theorem qj:fg.length=2:=rfl
theorem R9:ay oM 1=vO [9] 0:=rfl
theorem Pm:ay nP 0=vO [81] 0:=rfl
section
variable {A Aw:Option Addr} {c cw:Nat} {w:World}
theorem Kl (A Aw:Option Addr) (c cw:Nat) (w:World) (hs:Sl w (.slice A 2 c) bB) (hl:Sl w (.slice Aw 2 cw) fg) :
  Calls Tryz.prog 20 #[.agg #[.slice A 2 c],.agg #[.slice Aw 2 cw]] w fun e w'=>e= .returned (.int .i64 0)/\Below w.heap.size w w':=by
 have:=pd A Aw c cw bB fg w hs hl zk
 rw[nT.1] at this
 exact this
theorem M6 (A Aw:Option Addr) (c cw:Nat) (w:World) (hs:Sl w (.slice A 2 c) bB) (hl:Sl w (.slice Aw 2 cw) fg) :
  Calls Tryz.prog 39 #[.agg #[.slice A 2 c],.agg #[.slice Aw 2 cw],.int .i64 0,.int .i64 3] w fun e w'=> ∃g:Option Addr×Nat,True/\e= .returned (.tuple #[.agg #[.slice g.1 2 g.2],.int .i64 0])/\Cw w.heap.size w [an (.slice g.1 2 g.2) sG] w':=by
 have:=vX A Aw c cw bB fg 0 3 (by decide) sG nT.2.2.1 w hs hl zk
 rw[nT.2.1] at this
 exact this
theorem pQ {l r:List av} (h2:l.length=2) (a:r.length=2) (d:oI l) (b:iK bB l 50=0) (h:lS bB l 50=r) (A Aw:Option Addr) (c cw:Nat) (w:World) (i:Sl w (ac A 2 c) bB) (f:Sl w (ac Aw 2 cw) l) :
  Calls Tryz.prog 38 #[.agg #[ac A 2 c],.agg #[ac Aw 2 cw],ai 50] w fun e w'=> ∃g:Option Addr×Nat,True/\e= .returned (.tuple #[.agg #[ac g.1 2 g.2],ai 0])/\Cw w.heap.size w [an (ac g.1 2 g.2) r] w':=by
 have:=vW A Aw c cw bB l 50 r h w i (by rw[h2];exact f) d;rw[b,h2,a] at this;exact this
theorem yD (A Aw:Option Addr) (c cw:Nat) (w:World) (hs:Sl w (.slice A 2 c) bB) (hl:Sl w (.slice Aw 2 cw) nP) :
  Calls Tryz.prog 37 #[.agg #[.slice A 2 c],.agg #[.slice Aw 2 cw]] w fun e w'=> ∃g:Option Addr×Nat,True/\e= .returned (.tuple #[.agg #[.slice g.1 2 g.2],.int .i64 0,.int .i64 0])/\Cw w.heap.size w [an (.slice g.1 2 g.2) nP] w':=by
 obtain⟨_,_,_,_,_,_,_,f8,f9⟩:=nT
 have:=Ce A Aw c cw bB nP (nP,0) f9 w hs hl Tn
 rw[f8] at this
 exact this
end
theorem EL (w:World):Calls Tryz.prog 71 #[] w fun e w'=> ∃g:Option Addr×Nat,True/\e= .returned (.agg #[.slice g.1 2 g.2])/\Cw w.heap.size w [an (.slice g.1 2 g.2) fg] w':=by
 obtain⟨f1,f2,f3,f4,f5,f6,f7,f8,f9⟩:=Jg
 refine enter Tryz.func71 rfl Tryz.ntmps71 rfl<|aj ?_
 refine fun g1 _=>aj ?_
 refine eu rfl kN (fun w hw=>gG w) (fun gp _=>?_)
 refine eu rfl Wm (fun w hw=>yr f6 f7 rfl _ _ w (SF.at_ (SF.own rfl fc) hw)) (fun a1 _=>aj ?_)
 intro g2 _
 refine dN (dk _ fc cn rfl rfl rfl rfl rfl (by rfl) rfl (by rfl)) rfl rfl (fun _ _=>?_)
 refine aC ?_
 refine bL<|aj ?_
 refine eu rfl kN (fun w hw=>gG w) (fun gq _=>?_)
 refine eu rfl Wm (fun w hw=>yr f6 f7 rfl _ _ w (SF.at_ (SF.own rfl fc) hw)) (fun a2 _=>aj ?_)
 intro g3 _
 refine dN (dk _ fc cn rfl rfl rfl rfl rfl (by rfl) rfl (by rfl)) rfl rfl (fun _ _=>?_)
 refine aC ?_
 refine bL<|aj ?_
 refine fun g4 _=>aj ?_
 intro w hw
 refine⟨(some ⟨g4,0,none⟩,2),trivial,rfl,?_⟩
 refine xy (H:= []) (xs:=fg) (rk.cons (Hel:= [an (.slice a1.Af 1 a1.cf) kT.F,an (.slice a1.Ab 0 a1.cb) kT.B,an (.slice a1.Ai 0 a1.ci) kT.I,an (.slice a1.Ao 0 a1.co) kT.out]) (cs:= [_,_,_,_,_,_]) (nX (m:=kT) (by decide))
  (rk.cons (Hel:= [an (.slice a2.Af 1 a2.cf) kT.F,an (.slice a2.Ab 0 a2.cb) kT.B,an (.slice a2.Ai 0 a2.ci) kT.I,an (.slice a2.Ao 0 a2.co) kT.out]) (cs:= [_,_,_,_,_,_]) (nX (m:=kT) (by decide)) rk.nil_)) rfl (by decide) ?_
 exact hw.msub ms
theorem yY (a b:Option Addr) (d:Nat) (n:Int) (w:World) (f:Sl w (ac a 1 d) [n]) (h2:Sl w (ac b 1 1) [n]):Calls Tryz.prog 63 #[ac a 1 d,ac b 1 1] w fun e w'=>e= .returned (.bool true)/\Below w.heap.size w w':=by
 have:=lU a b d 1 [n] [n] w f h2;rw[decide_eq_true rfl] at this;exact this
attribute [irreducible] sG oM nP fg
theorem Bt (w:World):Calls Tryz.prog 18 #[] w fun e w'=>e= .returned (.bool true)/\Below w.heap.size w w':=by
 obtain⟨a4,a5,a6,G,I,J,K,a7,a8⟩:=nT;refine enter Tryz.func18 rfl Tryz.ntmps18 rfl<|aj ?_;refine eu rfl kN (fun w a=>gG w) (fun ba _=>?_);refine eu rfl Tryz.call71 (fun w a=>EL w) (fun⟨V,a2⟩ _=>?_)
 try dsimp only
 refine eu rfl Wn (fun w a=>M6 _ V _ a2 w (SF.at_ (SF.own rfl fc) a) (SF.at_ (SF.own (xs:=fg) qj fc) a)) (fun⟨C,D⟩ _=>?_);refine aP ?_;intro a9 _;refine dN (dk _ fc pN rfl rfl rfl rfl rfl (by rfl) rfl (by rfl)) rfl rfl (fun _ _=>?_);refine aC ?_;refine bL<|dG (fun _:Nat×Option Addr×Nat=>True) (fun b=> [(2,ai 0),(3,af b.1),(4,ai 0)]) (fun b=> [ak b.1 [ac b.2.1 2 b.2.2] 27,an (ac b.2.1 2 b.2.2) oM]) ?_ ?_
 ·refine jh (.still 1 (.pick 0 (.pick 2 (.calm 3 (.calm 4 (.calm 5 (.pick 6 (.pick 7 (.calm 8 .done) .stop) .stop)))) (.pick 6 (.pick 2 (.calm 3 (.calm 4 (.calm 5 (.pick 7 (.calm 8 .done) .stop)))) .stop) .stop)) (.pick 6 (.pick 0 (.pick 2 (.calm 3 (.calm 4 (.calm 5 (.pick 7 (.calm 8 .done) .stop)))) .stop) .stop) .stop))) [2,3,4,5,7,8] rfl φ φ ?_;refine aj ?_;refine dx rfl (lh rfl rfl rfl kN (fun w a=>gG w)) rfl rfl (.inr fun _=>ha) (fun y _=>?_) ?_
  ·refine dx rfl (lh rfl rfl rfl tH (fun w a=>pQ (l:=sG) (r:=oM) ud nk Fh G I _ C _ D w (SF.at_ (SF.own rfl fc) a) (SF.at_ (SF.own (xs:=sG) ud fc) a))) rfl rfl (.inl rfl) (fun⟨f,i⟩ _=>?_) ?_
   ·refine aP ?_;intro g _;refine aj ?_;refine bJ<|bX (g,f,i) trivial (hh:=(fun _ d=>d.msub ms))
   refine aj ?_;intro g _;refine jc rfl rfl tH (fun w a=>pQ (l:=sG) (r:=oM) ud nk Fh G I _ C _ D w (SF.at_ (SF.own rfl fc) a) (SF.at_ (SF.own (xs:=sG) ud fc) a)) (fun⟨f,i⟩ _=>?_);refine aP ?_;refine bJ<|bX (g,f,i) trivial (hh:=(fun _ d=>d.msub ms))
  refine aj ?_;intro g _;refine jc rfl rfl kN (fun w a=>gG w) (fun y _=>?_);refine jc rfl rfl tH (fun w a=>pQ (l:=sG) (r:=oM) ud nk Fh G I _ C _ D w (SF.at_ (SF.own rfl fc) a) (SF.at_ (SF.own (xs:=sG) ud fc) a)) (fun⟨f,i⟩ _=>?_);refine aP ?_;refine bJ<|bX (g,f,i) trivial (hh:=(fun _ d=>d.msub ms))
 rintro⟨z,f,i⟩ _
 try dsimp only
 refine dG (fun _:Nat×Option Addr×Nat=>True) (fun b=> [(2,ai 0),(3,af z),(4,ai 0),(5,af b.1),(6,ai 0)]) (fun b=> [ak b.1 [ac b.2.1 2 b.2.2] 27,an (ac b.2.1 2 b.2.2) nP,ak z [ac f 2 i] 27,an (ac f 2 i) oM]) ?_ ?_
 ·refine jh (.still 1 (.pick 0 (.pick 2 (.calm 3 (.calm 4 (.calm 5 (.pick 6 (.pick 7 (.calm 8 .done) .stop) .stop)))) (.pick 6 (.pick 2 (.calm 3 (.calm 4 (.calm 5 (.pick 7 (.calm 8 .done) .stop)))) .stop) .stop)) (.pick 6 (.pick 0 (.pick 2 (.calm 3 (.calm 4 (.calm 5 (.pick 7 (.calm 8 .done) .stop)))) .stop) .stop) .stop))) [2,3,4,5,7,8] rfl φ φ ?_;refine aj ?_;refine dx rfl (lh rfl rfl rfl kN (fun w a=>gG w)) rfl rfl (.inr fun _=>ha) (fun y _=>?_) ?_
  ·refine dx rfl (lh rfl rfl rfl tH (fun w a=>pQ (l:=oM) (r:=nP) nk qI Fg J K _ f _ i w (SF.at_ (SF.own rfl fc) a) (SF.at_ (SF.own (xs:=oM) nk fc) a))) rfl rfl (.inl rfl) (fun⟨h,j⟩ _=>?_) ?_
   ·refine aP ?_;intro g _;refine aj ?_;refine bJ<|bX (g,h,j) trivial (hh:=(fun _ d=>d.msub ms))
   refine aj ?_;intro g _;refine jc rfl rfl tH (fun w a=>pQ (l:=oM) (r:=nP) nk qI Fg J K _ f _ i w (SF.at_ (SF.own rfl fc) a) (SF.at_ (SF.own (xs:=oM) nk fc) a)) (fun⟨h,j⟩ _=>?_);refine aP ?_;refine bJ<|bX (g,h,j) trivial (hh:=(fun _ d=>d.msub ms))
  refine aj ?_;intro g _;refine jc rfl rfl kN (fun w a=>gG w) (fun y _=>?_);refine jc rfl rfl tH (fun w a=>pQ (l:=oM) (r:=nP) nk qI Fg J K _ f _ i w (SF.at_ (SF.own rfl fc) a) (SF.at_ (SF.own (xs:=oM) nk fc) a)) (fun⟨h,j⟩ _=>?_);refine aP ?_;refine bJ<|bX (g,h,j) trivial (hh:=(fun _ d=>d.msub ms))
 rintro⟨Q,h,j⟩ _
 try dsimp only
 refine dG (fun _:Nat×Option Addr×Nat=>True) (fun b=> [(2,ai 0),(3,af z),(4,ai 0),(5,af Q),(6,ai 0),(7,af b.1),(8,ai 0),(9,ai 0)]) (fun b=> [ak b.1 [ac b.2.1 2 b.2.2] 27,an (ac b.2.1 2 b.2.2) nP,ak Q [ac h 2 j] 27,an (ac h 2 j) nP,ak z [ac f 2 i] 27,an (ac f 2 i) oM]) ?_ ?_
 ·refine jh (.still 1 (.pick 0 (.pick 2 (.calm 3 (.calm 4 (.calm 5 (.calm 6 (.pick 7 (.pick 8 (.calm 9 (.calm 10 .done)) .stop) .stop))))) (.pick 7 (.pick 2 (.calm 3 (.calm 4 (.calm 5 (.calm 6 (.pick 8 (.calm 9 (.calm 10 .done)) .stop))))) .stop) .stop)) (.pick 7 (.pick 0 (.pick 2 (.calm 3 (.calm 4 (.calm 5 (.calm 6 (.pick 8 (.calm 9 (.calm 10 .done)) .stop))))) .stop) .stop) .stop))) [2,3,4,5,6,8,9,10] rfl φ φ ?_;refine aj ?_;refine dx rfl (lh rfl rfl rfl kN (fun w a=>gG w)) rfl rfl (.inr fun _=>ha) (fun y _=>?_) ?_
  ·refine dx rfl (lh rfl rfl rfl T7 (fun w a=>yD _ h _ j w (SF.at_ (SF.own rfl fc) a) (SF.at_ (SF.own (xs:=nP) qI fc) a))) rfl rfl (.inl rfl) (fun⟨q,s⟩ _=>?_) ?_
   ·refine aP ?_;intro g _;refine aj ?_;refine bJ<|bX (g,q,s) trivial (hh:=(fun _ d=>d.msub ms))
   refine aj ?_;intro g _;refine jc rfl rfl T7 (fun w a=>yD _ h _ j w (SF.at_ (SF.own rfl fc) a) (SF.at_ (SF.own (xs:=nP) qI fc) a)) (fun⟨q,s⟩ _=>?_);refine aP ?_;refine bJ<|bX (g,q,s) trivial (hh:=(fun _ d=>d.msub ms))
  refine aj ?_;intro g _;refine jc rfl rfl kN (fun w a=>gG w) (fun y _=>?_);refine jc rfl rfl T7 (fun w a=>yD _ h _ j w (SF.at_ (SF.own rfl fc) a) (SF.at_ (SF.own (xs:=nP) qI fc) a)) (fun⟨q,s⟩ _=>?_);refine aP ?_;refine bJ<|bX (g,q,s) trivial (hh:=(fun _ d=>d.msub ms))
 rintro⟨gd,q,s⟩ _
 try dsimp only
 refine AV (v:= ac f 2 i) (L:=oM) fc fun al a0 R=>?_;refine AV (v:= ac h 2 j) (L:=nP) fc fun am a1 S=>?_;obtain⟨u,E,_,M⟩:=R.el 1 (by rw[nk];decide);obtain⟨x,F,_,N⟩:=S.el 0 (by rw[qI];decide);rw[R9] at E M;rw[Pm] at F N;have T:=R.len.trans nk;have U:=S.len.trans qI;have X:∀H o,cu H (an (ac f 2 i) a0) o->∀n,Cw w.heap.size w H n->n.cell? ⟨ab f,ao f+1*6+2,none⟩=some (ac u.Ai 1 u.ci):=fun _ _ p n a=>(SF.hmc (SF.own (α:=eZ) (m:=2) T p) (k:=1) κ E) n a 2 _ rfl;have Y:∀H o,cu H (an (ac h 2 j) a1) o->∀n,Cw w.heap.size w H n->n.cell? ⟨ab h,ao h+0*6+2,none⟩=some (ac x.Ai 1 x.ci):=fun _ _ p n a=>(SF.hmc (SF.own (α:=eZ) (m:=2) U p) (k:=0) κ F) n a 2 _ rfl;have Z:∀H o,cu H al o->SF w.heap.size w H u.Ai 1 u.ci [(9:Int)]:=fun _ _ p=>(M _ _ p).2.2.1;have ad:∀H o,cu H am o->SF w.heap.size w H x.Ai 1 x.ci [(81:Int)]:=fun _ _ p=>(N _ _ p).2.2.1;clear M N E F;refine aj ?_;refine eu rfl kN (fun w a=>gG w) (fun bb _=>?_);refine eu rfl Tryz.call71 (fun w a=>EL w) (fun⟨W,a3⟩ _=>?_)
 try dsimp only
 refine cO rfl Kb (fun w a=>Kl _ W _ a3 w (SF.at_ (SF.own rfl fc) a) (SF.at_ (SF.own (xs:=fg) qj fc) a)) ?_;refine aC ?_;refine aC ?_;refine bj (t:=39) (v':= .bool false) rfl rfl<|aC ?_;refine aC ?_;refine aC ?_;refine aC ?_;refine bj (t:=43) (v':= .bool false) rfl rfl<|aC ?_;refine aC ?_;refine aC ?_;refine aC ?_;refine bj (t:=47) (v':= .bool false) rfl rfl<|aC ?_;refine aC ?_;refine aC ?_;refine aC ?_;refine bj (t:=51) (v':= .bool false) rfl rfl<|aC ?_;refine aC ?_;refine aC ?_;refine aC ?_;refine bj (t:=55) (v':= .bool false) rfl rfl<|aC ?_;refine dR (df fc Gc rfl rfl (by rfl)) rfl rfl ?_;refine dR (lE dz rfl rfl) rfl rfl<|aC ?_;refine aC ?_;refine aC ?_;refine bj (t:=61) (v':= .bool false) rfl rfl<|aC ?_;refine dR (df fc Gc rfl rfl (by rfl)) rfl rfl ?_;refine dR (lE dz rfl rfl) rfl rfl<|aC ?_;refine aC ?_;refine aC ?_;refine bj (t:=67) (v':= .bool false) rfl (rfl)<|aj ?_;refine cT (t:=72) (v':= .bool false) rfl rfl<|cA rfl<|aj ?_;refine cP 1 rfl ((SF.own (α:=eZ) (m:=2) T fc))<|aj ?_;refine ef rfl (X _ _ fc)<|aj ?_;intro O _;refine fF (fun w d=>bN (α:=Int) (m:=1) [9] rfl (ic κ) rfl κ d) ?_;refine cO rfl rl (fun w a=>yY u.Ai (some ⟨O,0,none⟩) u.ci 9 w (SF.at_ (Z _ _ fc) a) (SF.at_ (SF.own (A:=some ⟨O,0,none⟩) (m:=1) (c:=1) (xs:= [(9:Int)]) rfl fc) a)) ?_;refine aC ?_;refine bj (t:=80) (v':= .bool true) rfl (rfl)<|aj ?_;refine cP 0 rfl ((SF.own (α:=eZ) (m:=2) U fc))<|aj ?_;refine ef rfl (Y _ _ fc)<|aj ?_;intro P _;refine fF (fun w d=>bN (α:=Int) (m:=1) [81] rfl (ic κ) rfl κ d) ?_;refine cO rfl rl (fun w a=>yY x.Ai (some ⟨P,0,none⟩) x.ci 81 w (SF.at_ (ad _ _ fc) a) (SF.at_ (SF.own (A:=some ⟨P,0,none⟩) (m:=1) (c:=1) (xs:= [(81:Int)]) rfl fc) a)) ?_;refine aC ?_;refine aC ?_;refine bj (t:=89) (v':= .bool true) rfl (rfl)<|aj ?_;intro w a;exact⟨rfl,a.below⟩
end
section
theorem lQ.fit {fs:List aw} {l:List av} (h:lQ fs l):oI l:=⟨by have:=h.n4;omega,fun b a=>(kK h.f (h.r b a)).f⟩
end
section
def sH (fs:List aw) (l:List av):Int:=if dZ fs≠0 then dZ fs else if l.length=0 then 5 else if 4<l.length then 2 else 0
def vJ (fs:List aw) (l:List av):Int:=if dZ fs≠0 then dZ fs else if l.length=0 then 5 else 0
theorem DT (fs:List aw) (l:List av):sH fs l=if vJ fs l=0/\4<l.length then 2 else vJ fs l:=by
 unfold sH vJ
 by_cases a:dZ fs=0 <;> by_cases b:l.length=0 <;> by_cases d:4<l.length <;> simp[a,b,d]
theorem vY (fs:List aw) (l:List av):dA fs l=if sH fs l≠0 then sH fs l else ei (fd fs) l:=by
 unfold dA sH
 by_cases a:dZ fs=0 <;> by_cases b:l.length=0 <;> by_cases d:4<l.length <;> simp[a,b,d]
theorem M2 {fs:List aw} {l:List av} (h:sH fs l=0):dZ fs=0:=by
 unfold sH at h
 split at h
 ·exact h
 exact jB.1 (by assumption)
theorem IQ (m Aw:Option Addr) (n cw:Nat) (fs:List aw) (l:List av) (w:World) (D:Sl w (ac m fs.length n) fs) (u:Sl w (ac Aw l.length cw) l) (I:oI l) :
  Calls Tryz.prog 29 #[.agg #[ac m fs.length n],.agg #[ac Aw l.length cw]] w fun e w'=>e= .returned (ai (dA fs l))/\Below w.heap.size w w':=by
 have:=bx u;refine enter Tryz.func29 rfl Tryz.ntmps29 rfl<|aj ?_;refine fun o _=>aj ?_;refine fun p _=>aj ?_;refine cO rfl Tryz.call78 (fun w j=>BJ m n fs w (j.ro D)) ?_;refine aC ?_;refine bL<|dG (fun _:Unit=>True) (fun _=> [(2,af o),(3,af p),(5,ai (vJ fs l))]) (fun _=> [ak o [ac m fs.length n] 24,ak p [ac Aw l.length cw] 27]) ?_ ?_
 ·refine dh 11 (fun b=>?_) (fun b=>?_)
  ·have b:dZ fs=0:=of_decide_eq_true b;refine ax (fun h=>?_) (fun h=>?_)
   ·have h:l.length=0:=by have h:(l.length:Int)=0:=h;omega
    refine aj ?_;refine bj (t:=5) (v':= ai (vJ fs l)) rfl (by unfold vJ;rw[if_neg (fun a=>a b),if_pos h]) ?_;refine lq () trivial
   have h:¬l.length=0:=by have h:¬(l.length:Int)=0:=h;omega
   refine cT (t:=5) (v':= ai (vJ fs l)) rfl (by unfold vJ;rw[if_neg (fun a=>a b),if_neg h,b])<|aj ?_;refine bX () trivial
  have b:¬dZ fs=0:=of_decide_eq_false b;refine bj (t:=5) (v':= ai (vJ fs l)) rfl (by unfold vJ;rw[if_pos b])<|aj ?_;refine cA rfl<|aj ?_;refine bX () trivial
 rintro⟨⟩ _
 try dsimp only
 refine dG (fun _:Unit=>True) (fun _=> [(2,af o),(3,af p),(5,ai (sH fs l))]) (fun _=> [ak o [ac m fs.length n] 24,ak p [ac Aw l.length cw] 27]) ?_ ?_
 ·refine dh 19 (fun b=>?_) (fun b=>?_)
  ·have b:vJ fs l=0:=of_decide_eq_true b;refine ax (fun i=>?_) (fun i=>?_)
   ·have i:4<l.length:=by have i:(4:Int)<l.length:=i;omega
    refine aj ?_;refine bj (t:=5) (v':= ai (sH fs l)) rfl (by rw[DT,if_pos ⟨b,i⟩]) ?_;refine lq () trivial
   have i:¬4<l.length:=by have i:¬(4:Int)<l.length:=i;omega
   refine cT (t:=5) (v':= ai (sH fs l)) rfl (by rw[DT,if_neg (fun a=>i a.2)])<|aj ?_;refine bX () trivial
  have b:¬vJ fs l=0:=of_decide_eq_false b;refine bj (t:=5) (v':= ai (sH fs l)) rfl (by rw[DT,if_neg (fun a=>b a.1)])<|aj ?_;refine cA rfl<|aj ?_;refine bX () trivial
 rintro⟨⟩ _;refine aP ?_;refine cZ (fun f:Nat×Int=>f.1<=l.length/\(f.2≠0->f.2=dA fs l)/\(f.2=0->sH fs l=0/\ei (fd fs) (l.take f.1)=0)) (fun f=>l.length - f.1) (fun f=> [(2,af o),(3,af p),(5,ai f.2),(6,ai (f.1:Int))]) (fun _=> [ak o [ac m fs.length n] 24,ak p [ac Aw l.length cw] 27]) (0,sH fs l) (⟨aS _,fun a=>by rw[vY,if_pos a],fun a=>⟨a,rfl⟩⟩) ?_;rintro⟨d,e⟩ J
 try dsimp only
 obtain⟨M,z,C⟩:d<=l.length/\(e≠0->e=dA fs l)/\(e=0->sH fs l=0/\ei (fd fs) (l.take d)=0):=J;refine dh 30 (fun r=>?_) (fun r=>?_)
 ·have r:(d:Int)<l.length:=of_decide_eq_true r;refine ax (fun g=>?_) (fun g=>?_)
  ·have g:e=0:=g;subst g;obtain⟨q,x⟩:=C rfl;have s:d<l.length:=ω;obtain⟨E,K,F⟩:=u.mc s;have v:ei (fd fs) (l.take (d+1))=fd fs (ay l d):=jp (g:=fd fs) default s x;have y:=vY fs l;rw[if_neg (fun a=>a q)] at y;refine aj ?_;refine bq [0,3,6,9,12,15,20,22] [6,7] rfl<|aj ?_;refine tE rfl (aX (k:=d) dz cn (.ro u) ω rfl rfl rfl) ?_;refine tE rfl (eC (F _) rfl rfl jQ cn) ?_;refine ls rfl rfl Tryz.call79 (fun w j=>IV E (ay l d) m n fs w (j.ro D) (K.ro j) (qn (M2 q)) (I.2 _ (gA s)) _ rfl)<|aj ?_;refine cG (d+1,fd fs (ay l d)) (⟨by show d+1<=_;omega,fun a=>by show fd fs (ay l d)=_;rw[y,nq (k:=d+1) (by rw[v];exact a),v],fun a=>⟨q,v.trans a⟩⟩) (by show _ - _<_ - _;omega)
  have g:¬e=0:=g;refine aj ?_;intro w j;exact⟨fh (z g),j.below⟩
 have r:¬(d:Int)<l.length:=of_decide_eq_false r;obtain rfl:d=l.length:=ω;have G:e=dA fs l:=by
  by_cases g:e=0
  ·obtain⟨q,x⟩:=C g;rw[vY,if_neg (fun a=>a q),g,<-x,aR]
  exact z g
 refine aj ?_;refine cA rfl<|aj ?_;intro w j;exact⟨fh G,j.below⟩
end
section
theorem rs (Aw:Option Addr) (cw n:Nat) (fs:List aw) (l:List av) (D:l.length=n) (d:lQ fs l) (w:World) (h:Sl w (ac Aw n cw) l) :
  Calls Tryz.prog 36 #[.agg #[ac Aw n cw]] w fun e w'=> ∃g:Option Addr×Nat,True/\e= .returned (.agg #[ac g.1 n g.2])/\Cw w.heap.size w [an (ac g.1 n g.2) l] w':=by
 subst D;have:=bx h;have:=d.n4;refine enter Tryz.func36 rfl Tryz.ntmps36 rfl<|aj ?_;refine fun j _=>aj ?_;refine fun k _=>aj ?_;refine fun m _=>aj ?_;refine dm (fun w u=>Cw.nilO av u) ?_;refine cZ (fun g:Nat×Option Addr×Nat=>g.1<=l.length) (fun g=>l.length - g.1) (fun g=> [(1,af j),(2,af k),(3,af m),(4,ai (g.1:Int))]) (fun g=> [ak m [ac g.2.1 (l.take g.1).length g.2.2] 27,ag g.2.1 g.2.2 (l.take g.1),ak j [ac Aw l.length cw] 27,ak k [ac none 0 0] 27]) (0,none,0) (aS _) ?_;rintro⟨a,p,s⟩ y
 try dsimp only
 have:a<=l.length:=y;have:(l.take a).length=a:=by rw[aB];omega
 refine ax (fun z=>?_) (fun z=>?_)
 ·have f:a<l.length:=ω;obtain⟨r,C,x⟩:=h.mc f;have o:=d.r _ (gA f);have E:l.take (a+1)=l.take a++ [ay l a]:=rJ f;have v:=lP o;refine aj ?_;refine bq [0,3,6,9,12,15,18,23,26,29,31,35] [9,10,11] rfl<|aj ?_;refine tE rfl (aX (k:=a) dz cn (.ro h) ω rfl rfl rfl) ?_;refine tE rfl (eC (x _) rfl rfl jQ cn) ?_;refine jc rfl rfl xS (fun w i=>nB r (ay l a) w (C.ro i) (kK d.f o)) (fun b _=>aj ?_);intro G _;refine pE rfl (cz (α:=av) (bytes:=112) (ay l a) (ae b (ay l a) []) E dz (aU kl) rfl (sT fc fc fc fc fc fc) (nX v) ω ω rfl rfl rfl) (fun⟨q,t⟩ _=>?_);refine aP ?_;refine cG (a+1,q,t) (by show a+1<=_;omega) (by show _ - _<_ - _;omega)
 obtain rfl:a=l.length:=ω;rw[aR];refine aj ?_;intro w i;exact⟨(p,s),trivial,rfl,i.msub ms⟩
end
section
def sP (l:List av) (k:Nat) (z:Int):List av:=if (ay l k).I.length=10 then [] else l.set k (gT (ay l k) z)
theorem Cq (Aw:Option Addr) (cw n:Nat) (fs:List aw) (l:List av) (x:l.length=n) (C:lQ fs l) (i:Nat) (hi:i<n) (z:Int) (K:aI z) (r:List av) (F:sP l i z=r) (w:World) (E:Sl w (ac Aw n cw) l) :
  Calls Tryz.prog 88 #[.agg #[ac Aw n cw],ai (i:Int),ai z] w fun e w'=> ∃g:Option Addr×Nat,True/\e= .returned (.tuple #[.agg #[ac g.1 r.length g.2],.bool (!decide ((ay l i).I.length=10))])/\Cw w.heap.size w [an (ac g.1 r.length g.2) r] w':=by
 have:=bx E;have:=(C.r _ (gA (l:=l) (k:=i) ω)).ib;refine enter Tryz.func88 rfl Tryz.ntmps88 rfl<|aj ?_;refine fun O _=>aj ?_;refine fun P _=>aj ?_;refine eu rfl km (fun w b=>rs Aw cw n fs l x C w (b.ro E)) (fun⟨A,c⟩ _=>?_);refine aP ?_;refine fun Q _=>aj ?_;refine Sn (v:= ac A n c) (L:=l) (k:=i) ω fc fun M p a q=>?_;have s:p.length=n:=q.len.trans x;have u:=q.hd;have y:=q.i64;refine cP i rfl ((SF.own (xs:=p) s fc))<|aj ?_;refine ef rfl (fun w b=>(SF.hmc (SF.own (xs:=p) s fc) hi u) w b 2 _ rfl)<|ax (fun d=>?_) (fun d=>?_)
 ·have d:(ay l i).I.length=10:=by have d:((ay l i).I.length:Int)=10:=d;omega
  have e:r= []:=by rw[<-F];unfold sP;rw[if_pos d]
  subst e;refine aj ?_;intro w b;exact⟨(none,0),trivial,by rw[decide_eq_true d];rfl,(Cw.nilO av b).msub ms⟩
 have d:¬(ay l i).I.length=10:=by have d:¬((ay l i).I.length:Int)=10:=d;omega
 have e:r=l.set i (gT (ay l i) z):=by rw[<-F];unfold sP;rw[if_neg d]
 have t:r.length=n:=by rw[e,bS];exact x
 refine aj ?_;refine ef rfl (fun w b=>(SF.hmc (SF.own (xs:=p) s fc) hi u) w b 2 _ rfl)<|aj ?_;intro S _;refine oE (cz (α:=Int) (bytes:=8) z [] rfl az (aU cW) rfl (eG (R:=an (ac a.Ai (ay l i).I.length a.ci) (ay l i).I) fc fc) (qk K) ω ω rfl rfl rfl) (fun⟨h,j⟩ _=>?_)
 try dsimp only
 refine aC ?_;refine aC ?_;refine oE (jT (α:=eZ) (A:=A) (c:=c) (m:=n) (f:=2) (us:= [ac h ((ay l i).I++ [z]).length j]) (kW ⟨a.Af,a.cf,a.Ab,a.cb,h,j,a.Ao,a.co⟩ {ay l i with I:=(ay l i).I++ [z]}) default rfl fc hi (sg y) gv rfl rfl rfl rfl rfl rfl (by rw[u];rfl) rfl) (fun _ _=>aj ?_);have J:(p.set i (kW ⟨a.Af,a.cf,a.Ab,a.cb,h,j,a.Ao,a.co⟩ {ay l i with I:=(ay l i).I++ [z]})).length=n:=by rw[bS];exact s
 have D:(p.set i (kW ⟨a.Af,a.cf,a.Ab,a.cb,h,j,a.Ao,a.co⟩ {ay l i with I:=(ay l i).I++ [z]})).getD i default=kW ⟨a.Af,a.cf,a.Ab,a.cb,h,j,a.Ao,a.co⟩ {ay l i with I:=(ay l i).I++ [z]} :=vP ω _ _;refine ef rfl (fun w b=>(SF.hmc (SF.own (A:=A) (c:=c) J fc) hi D) w b 4 _ rfl)<|ax (fun o=>?_) (fun o=>?_)
 ·have o:(ay l i).S=1:=o;refine bQ<|aC ?_;refine aC ?_;refine aC ?_;refine oE (jT (α:=eZ) (A:=A) (c:=c) (m:=n) (f:=4) (us:= [ai 0]) (kW ⟨a.Af,a.cf,a.Ab,a.cb,h,j,a.Ao,a.co⟩ (gT (ay l i) z)) default (List.set_set ..).symm fc hi (sg ⟨by unfold gT;dsimp only;rw[if_pos o];decide,y.2⟩) aZ rfl rfl rfl rfl rfl rfl (by rw[D];unfold gT;rw[if_pos o];rfl) rfl) (fun _ _=>aj ?_);intro w b;refine⟨(A,c),trivial,by rw[decide_eq_false d,t];rfl,?_⟩;rw[t,e];exact(q.back (ac A n c) ⟨a.Af,a.cf,a.Ab,a.cb,h,j,a.Ao,a.co⟩ (gT (ay l i) z) _ _ (b.msub (.s fc (.s fc (.s fc (.s fc (.s fc (.s fc .r)))))))).msub ms
 have o:¬(ay l i).S=1:=o;have G:gT (ay l i) z= {ay l i with I:=(ay l i).I++ [z]} :=by unfold gT;rw[if_neg o]
 refine aj ?_;intro w b;refine⟨(A,c),trivial,by rw[decide_eq_false d,t];rfl,?_⟩;rw[t,e,G];exact(q.back (ac A n c) ⟨a.Af,a.cf,a.Ab,a.cb,h,j,a.Ao,a.co⟩ {ay l i with I:=(ay l i).I++ [z]} _ _ (b.msub (.s fc (.s fc (.s fc (.s fc (.s fc (.s fc .r)))))))).msub ms
end
section
theorem lQ.right {fs:List aw} {l r:List av} (h:lQ fs l) (a:r.length=l.length) (b:∀m∈r,bU fs m):lQ fs r:=⟨h.p,h.f,b,by rw[a];exact h.n0,by rw[a];exact h.n4⟩
theorem KO (Aw:Option Addr) (cw n:Nat) (fs:List aw) (l:List av) (T:l.length=n) (R:lQ fs l) (r:List av×Nat) (b1:mQ l=r) (w:World) (y:Sl w (.slice Aw n cw) l) :
  Calls Tryz.prog 146 #[.agg #[.slice Aw n cw]] w fun e w'=> ∃g:Option Addr×Nat,True/\e= .returned (.tuple #[.agg #[.slice g.1 n g.2],.int .i64 (r.2:Int)])/\Cw w.heap.size w [an (.slice g.1 n g.2) r.1] w':=by
 have:=bx y;have:n<=4:=by rw[<-T];exact R.n4
 have:1<=n:=by rw[<-T];exact R.n0
 have a0:=R.r;have a8:∀a,a<=n->(bM l a).2<=40:=fun a bp=>by
  have S:=(lI (fs:=fs) l a (by omega)).1;have am:=S.cnt (fun I=>(ay l I).out.length - (ay (bM l a).1 I).out.length) fun I bo=>by have:=S.fewer I bo;omega
  have bg:∀m,m<=l.length->((List.range m).map fun I=>(ay l I).out.length - (ay (bM l a).1 I).out.length).sum<=m*10:=by
   intro m
   induction m with
   | zero=>exact fun _=>aH _
   | succ m b4=>
    intro cf;have:=b4 (by omega);have:=(a0 _ (gA (l:=l) (k:=m) (by omega))).ob;rw[iB,db,vF];show _+(((ay l m).out.length - (ay (bM l a).1 m).out.length)+0)<=_;omega
  have:=bg l.length (aH _);omega
 refine enter Tryz.func146 rfl Tryz.ntmps146 rfl<|aj ?_;refine fun Z _=>aj ?_;refine fun J _=>aj ?_;refine eu rfl km (fun w p=>rs Aw cw n fs l T R w (p.ro y)) (fun⟨bb,bf⟩ _=>?_);refine aP ?_;refine fun K _=>aj ?_;refine cZ (fun g:Nat×Option Addr×Nat=>g.1<=n) (fun g=>n - g.1) (fun g=> [(2,.pointer (some ⟨J,0,none⟩)),(4,.pointer (some ⟨K,0,none⟩)),(5,.int .i64 ((bM l g.1).2:Int)),(6,.int .i64 (g.1:Int))]) (fun g=> [ak K [.slice g.2.1 n g.2.2] 27,an (.slice g.2.1 n g.2.2) (bM l g.1).1,ak Z [.slice Aw n cw] 27,ak J [.slice none 0 0] 27]) (0,bb,bf) (aS _) ?_;rintro⟨a,A,c⟩ bs
 try dsimp only
 have bp:a<=n:=bs;have S:=(lI (fs:=fs) l a (by omega)).1;have:=S.len;refine ax (fun bv=>?_) (fun bv=>?_)
 ·have X:a<n:=by omega
  have a9:iM a l.length<n:=by have:=ua (i:=a) (n:=l.length) (by omega);omega
  obtain⟨h,Y⟩:∃ba,iM a l.length=ba:=⟨_,rfl⟩
  rw[Y] at a9;have b2:(bM l (a+1)).1=(fb (bM l a).1 a h).1:=by rw[<-Y];rfl
  have P:(bM l (a+1)).2=(bM l a).2+(fb (bM l a).1 a h).2:=by rw[<-Y];rfl
  have:=a8 (a+1) (by omega);have:=a8 a (by omega);refine aj ?_;refine cZ (fun g:List av×Nat×Option Addr×Nat=>((g.1.length=n/\∀m∈g.1,bU fs m)/\(fb g.1 a h).1=(bM l (a+1)).1)/\(bM l a).2+g.2.1+(fb g.1 a h).2=(bM l (a+1)).2) (fun g=>(ay g.1 a).out.length) (fun g=> [(2,.pointer (some ⟨J,0,none⟩)),(4,.pointer (some ⟨K,0,none⟩)),(5,.int .i64 (((bM l a).2+g.2.1:Nat):Int)),(6,.int .i64 (a:Int))]) (fun g=> [ak K [.slice g.2.2.1 n g.2.2.2] 27,an (.slice g.2.2.1 n g.2.2.2) g.1,ak Z [.slice Aw n cw] 27,ak J [.slice none 0 0] 27]) ((bM l a).1,0,A,c) (⟨⟨⟨by show (bM l a).1.length=n;omega,S.right a0⟩,b2.symm⟩,by show (bM l a).2+0+(fb (bM l a).1 a h).2=_;rw[P];omega⟩) ?_;rintro⟨d,z,q,s⟩ b0
  try dsimp only
  obtain⟨⟨⟨O,V⟩,u⟩,F⟩:((d.length=n/\∀m∈d,bU fs m)/\(fb d a h).1=(bM l (a+1)).1)/\(bM l a).2+z+(fb d a h).2=(bM l (a+1)).2:=b0;have G:=yK (l:=d) (i:=a) (to_:=h) (by omega) (by omega);have a1:=V _ (gA (l:=d) (k:=a) (by omega));have bk:=V _ (gA (l:=d) (k:=h) (by omega));have:=a1.ob;have:=bk.ib;have bl:lQ fs d:=R.right (by omega) V;refine uj (v:= .slice q n s) (L:=d) (k:=a) (by omega) fc fun bc y o M=>?_;have W:y.length=n:=M.len.trans O;have a3:=M.hd;refine aj ?_;refine cP a rfl ((SF.own (xs:=y) W fc))<|aj ?_;refine ef rfl (fun w p=>(SF.hmc (SF.own (xs:=y) W fc) X a3) w p 3 _ rfl)<|ax (fun t=>?_) (fun t=>?_)
  ·have t:0<(ay d a).out.length:=by have t:(0:Int)<(ay d a).out.length:=t;omega
   have b3:aI ((ay d a).out.getD 0 0):=nI (a1.oi _ (cL t));obtain⟨x,a6⟩:∃x,sP d h ((ay d a).out.getD 0 0)=x:=⟨_,rfl⟩
   have a7:∀Q,Sl Q (.slice q n s) d->Calls Tryz.prog 88 #[.agg #[.slice q n s],.int .i64 (((a+1) % n:Nat):Int),.int .i64 ((ay d a).out.getD 0 0)] Q fun e w'=> ∃g:Option Addr×Nat,True/\e= .returned (.tuple #[.agg #[.slice g.1 x.length g.2],.bool (!decide ((ay d h).I.length=10))])/\Cw Q.heap.size Q [an (.slice g.1 x.length g.2) x] w':=fun Q am=>by
    rw[show (a+1) % n=h from by rw[<-Y,<-T];rfl];exact Cq q s n fs d O bl h a9 _ b3 x a6 Q am
   refine fq (fm ?_);refine iR<|dG (fun _:Nat×Option Addr×Nat=>True) (fun g=> [(2,.pointer (some ⟨J,0,none⟩)),(4,.pointer (some ⟨K,0,none⟩)),(5,.int .i64 (((bM l a).2+z:Nat):Int)),(6,.int .i64 (a:Int)),(7,.pointer (some ⟨g.1,0,none⟩)),(8,.bool (!decide ((ay d h).I.length=10)))]) (fun g=> [ak g.1 [.slice g.2.1 x.length g.2.2] 27,an (.slice g.2.1 x.length g.2.2) x,an (.slice q n s) y,an (.slice o.Af (ay d a).F.length o.cf) (ay d a).F,an (.slice o.Ab (ay d a).B.length o.cb) (ay d a).B,an (.slice o.Ai (ay d a).I.length o.ci) (ay d a).I,an (.slice o.Ao (ay d a).out.length o.co) (ay d a).out,bc,ak K [.slice q n s] 27,ak Z [.slice Aw n cw] 27,ak J [.slice none 0 0] 27]) ?_ ?_
   ·refine jh (.still 0 (.still 1 (.still 2 (.still 3 (.still 4 (.still 5 (.still 6 (.still 7 (.still 8 (.still 9 (.still 10 (.still 11 (.still 12 (.still 13 (.still 14 (.pick 15 (.still 16 (.still 17 (.still 18 (.pick 19 (.pick 20 (.still 21 .done) .stop) .stop)))) (.pick 19 (.pick 15 (.still 16 (.still 17 (.still 18 (.pick 20 (.still 21 .done) .stop)))) .stop) .stop))))))))))))))))) [] rfl (by kernel_rfl) (by kernel_rfl) ?_;refine aj ?_;refine tE rfl (HD (a:=a+1) (b:=n) (by omega) (by omega) rfl rfl rfl)<|aj ?_;refine tE rfl (aX (k:=a) dz cn (SF.own (xs:=y) W fc) (by omega) rfl rfl rfl)<|aj ?_;refine tE rfl (bY (fun w p=>(SF.hmc (SF.own (xs:=y) W fc) X a3) w p 3 _ rfl) rfl rfl gX) ?_;refine tE rfl (aX (k:=0) az aZ (SF.own (xs:=(ay d a).out) (A:=o.Ao) (c:=o.co) rfl fc) (by omega) rfl rfl rfl) ?_;refine tE rfl (bY (SF.int (SF.own (xs:=(ay d a).out) (A:=o.Ao) (c:=o.co) rfl fc) (by omega)) rfl rfl bF) ?_;refine dx rfl (lh rfl rfl rfl Wg (fun w p=>a7 w (SF.at_ (SF.own (xs:=d) O .a) (M.same (v:= .slice q n s) (by omega) (p.msub (.s fc (.s fc (.s fc (.s fc (.s fc (.s fc .r))))))))))) rfl rfl (.inr fun _=>ha) (fun⟨C,D⟩ _=>?_) ?_
    ·refine aP ?_;intro al _;refine aj ?_;refine bJ<|bX (al,C,D) trivial (hh:=(fun _ k=>k.msub ms))
    refine aj ?_;intro al _;refine jc rfl rfl Wg (fun w p=>a7 w (SF.at_ (SF.own (xs:=d) O .a) (M.same (v:= .slice q n s) (by omega) (p.msub (.s fc (.s fc (.s fc (.s fc (.s fc (.s fc .r)))))))))) (fun⟨C,D⟩ _=>?_);refine aP ?_;refine bJ<|bX (al,C,D) trivial (hh:=(fun _ k=>k.msub ms))
   rintro⟨b7,C,D⟩ _;refine aP ?_;refine cT (t:=46) (v':= .bool (decide ((ay d h).I.length=10))) rfl (by rw[Bool.not_not]) ?_;refine eK rfl (fun E=>?_) (fun E=>?_)
   ·have E:(ay d h).I.length=10:=E;have N:¬nY d a h:=fun k=>k.2 E;rw[if_neg N] at G;rw[G] at u F;have F:(bM l a).2+z+0=(bM l (a+1)).2:=F;have u:d=(bM l (a+1)).1:=u;rw[show (bM l a).2+z=(bM l (a+1)).2 from by omega];refine aj ?_;refine cG (a+1,q,s) (by show a+1<=_;omega) (by show _ - _<_ - _;omega) (hh:=(fun w k=>by rw[<-u];exact(M.same (v:= .slice q n s) (by omega) (k.msub (.s fc (.s fc (.s fc (.s fc (.s fc (.s fc .r)))))))).msub ms))
   have E:¬(ay d h).I.length=10:=E;have N:nY d a h:=⟨t,E⟩
   rw[if_pos N] at G;have er:x=dH d a h:=by rw[<-a6];unfold sP dH;rw[if_neg E]
   subst er;have a2:(dH d a h).length=n:=by unfold dH;rw[bS];exact O
   have bw:=mZ d a h;have a5:=(qg (l:=d) (i:=a) (to_:=h) (by omega) (by omega) a).1;rw[if_pos rfl] at a5;have bn:(ay (dH d a h) a).out=(ay d a).out:=by
    rw[rE (by omega)]
    split
    ·subst_vars;rfl
    rfl
   have bm:1<=(ay (dH d a h) a).out.length:=by rw[bn];exact t
   rw[a2];refine uj (v:= .slice C n D) (L:=dH d a h) (k:=a) (by omega) fc fun b5 P j U=>?_;have ad:P.length=n:=U.len.trans a2;have a4:=U.hd;have bi:=U.i64;refine ek (fun w k=>gV k (xs:=(ay (dH d a h) a).out) (A:=j.Ao) (c:=j.co) fc) fun cb=>?_;have mB:((ay (dH d a h) a).out.drop 1).length=(ay (dH d a h) a).out.length - 1:=aN;have:(bM l a).2+z+((fb (jM d a h) a h).2+1)=(bM l (a+1)).2:=by rw[G] at F;exact F
   refine aj ?_;refine bq [0,3,6,9,12,15,18,21,24,27,30,33,38] [12] rfl<|aj ?_;refine tE rfl (aX (k:=a) dz cn (SF.own (xs:=P) ad fc) (by omega) rfl rfl rfl)<|aj ?_;refine tE rfl (bY (fun w p=>(SF.hmc (SF.own (xs:=P) ad fc) X a4) w p 3 _ rfl) rfl rfl gX) ?_;refine tE rfl (sS (k:=((ay (dH d a h) a).out.drop 1).length) az aZ ⟨by omega,by omega⟩ mB.symm rfl rfl rfl rfl) ?_;refine tE rfl (aX (k:=a) dz cn (SF.own (xs:=P) ad fc) (by omega) rfl rfl rfl) ?_;refine aC ?_;refine pE rfl (jT (α:=eZ) (A:=C) (c:=D) (m:=n) (f:=3) (us:= [.slice (iq j.Ao 1 j.co 1) ((ay (dH d a h) a).out.drop 1).length (j.co - 1)]) (kW ⟨j.Af,j.cf,j.Ab,j.cb,j.Ai,j.ci,iq j.Ao 1 j.co 1,j.co - 1⟩ (wE (ay (dH d a h) a))) default rfl fc X (sg bi) gv rfl rfl rfl rfl rfl rfl (by rw[a4];rfl) rfl) (fun _ _=>aj ?_);refine DM (jM d a h,z+1,C,D) (⟨⟨⟨bw.trans O,uS (by omega) (by omega) N V⟩,by rw[G] at u;exact u⟩,by show (bM l a).2+(z+1)+(fb (jM d a h) a h).2=_;omega⟩) (by show (ay (jM d a h) a).out.length<_;rw[a5,aN];omega) (hh:=(fun w k=>(U.back (.slice C n D) ⟨j.Af,j.cf,j.Ab,j.cb,j.Ai,j.ci,iq j.Ao 1 j.co 1,j.co - 1⟩ (wE (ay (dH d a h) a)) _ _ ((yV bm (k.msub (.s fc .r))).msub (.s fc (.s fc (.s fc (.s fc (.s fc (.s fc .r)))))))).msub ms))
  have t:¬0<(ay d a).out.length:=by have t:¬(0:Int)<(ay d a).out.length:=t;omega
  have N:¬nY d a h:=fun k=>t k.1;rw[if_neg N] at G;rw[G] at u F;have F:(bM l a).2+z+0=(bM l (a+1)).2:=F;have u:d=(bM l (a+1)).1:=u;rw[show (bM l a).2+z=(bM l (a+1)).2 from by omega];refine aj ?_;refine cG (a+1,q,s) (by show a+1<=_;omega) (by show _ - _<_ - _;omega) (hh:=(fun w k=>by rw[<-u];exact(M.same (v:= .slice q n s) (by omega) (k.msub (.s fc (.s fc (.s fc (.s fc (.s fc (.s fc .r)))))))).msub ms))
 obtain rfl:a=n:=by omega
 have e:bM l l.length=r:=b1;rw[T] at e;rw[e];refine aj ?_;intro w p;exact⟨(A,c),trivial,rfl,p.msub ms⟩
end
