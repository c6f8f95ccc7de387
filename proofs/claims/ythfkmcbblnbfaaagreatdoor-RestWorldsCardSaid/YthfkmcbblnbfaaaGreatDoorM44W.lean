/- Lemmas of one proof. -/
import Derived.Test.YthfkmcbblnbfaaaGreatDoorM90W
import Derived.Test.YthfkmcbblnbfaaaGreatDoorM0W
import Derived.Test.YthfkmcbblnbfaaaGreatDoorM53W

namespace Go.Proofs.YthfkmcbblnbfaaaGreatDoor
set_option maxRecDepth 100000
set_option maxHeartbeats 16000000
open Go.RowKit
section
theorem Mu {s L:List aD} {a i:Nat} (j:a+i<s.length) (h2:i<L.length):(s.drop a).take (i+1)++L.drop (i+1)=((s.drop a).take i++L.drop i).set i (s.getD (a+i) default):=by
 have e:((s.drop a).take i).length=i:=by rw[aB,aN];omega
 have b:(s.drop a).take (i+1)=(s.drop a).take i++ [s.getD (a+i) default]:=by
  rw[eF (s.drop a) i default (by rw[aN];omega),qx]
 rw[b,pK _ _ ω,e,pJ]
 cases h:L.drop i with
 | nil=>have:=congrArg List.length h;rw[aN] at this;simp at this;omega
 | cons x g=>
  have d:L.drop (i+1)=g:=by rw[<-List.drop_drop,h];rfl
  rw[d,bA];rfl
theorem yV {α:Type} [Ow α] {B:Nat} {w0:World} {H:List aO} {A:Option Addr} {c:Nat} {s:List α} {w:World} (b:1<=s.length) (h:Cw B w0 (an (ac A s.length c) s::H) w):Cw B w0 (an (ac (iq A 1 c (aG.k α)) (s.drop 1).length (c - 1)) (s.drop 1)::H) w:=by
 rw[aN];exact BX b h
section
variable {B:Nat} {w0:World} {Q:Exit->Act->World->Prop} (gp gm gr go gc gf gs gn k:Nat) (li:List (aF×aK)) (A Al As Ap Ab Ai Ao:Option Addr) (c cl cs cp cb ci co:Nat) (a:MA) (m:av) (f p0 p1 fr:Int) (l s:List aD) (o:bG) (fs:List aw) (rz:List Value) (fx0 fx1 fx3:Value)
theorem Ud (R:nQ B w0 fs m a li k Ap cp f p0 p1 l s o fr) (F:rz.length=6) (z:∀(i:Option Addr) (p:Nat) (h:Option Addr) (j:Nat),m.I≠[]->XW ⟨551,[]⟩ B w0 Q .normal [(4,af gr),(5,af go),(6,.pointer (some ⟨ab A,ao A+k*4,none⟩)),(9,af gs),(13,ai p1)] (ak gs [ac i (s++ [cY (m.I.getD 0 0)]).length p] 116::an (ac i (s++ [cY (m.I.getD 0 0)]).length p) (s++ [cY (m.I.getD 0 0)])::ak gr rz 43::ak go [ac A (k+1) c,ac Ab m.B.length cb,ac h (m.I.drop 1).length j,ac Ao m.out.length co,ai 0,ai m.T] 43::an (ac A (k+1) c) (li.map Prod.fst++ [(⟨f,p0,ac Al l.length cl,ac As s.length cs⟩:aF)])::an (ac Al l.length cl) l::cJ li::an (ac Ab m.B.length cb) m.B::an (ac h (m.I.drop 1).length j) (m.I.drop 1)::an (ac Ao m.out.length co) m.out:: [])) (C:∀g:MA,m.I= []->XW ⟨551,[]⟩ B w0 Q .ret [(4,af gr)] (ak gr [ac g.Af m.F.length g.cf,ac g.Ab m.B.length g.cb,ac g.Ai m.I.length g.ci,ac g.Ao m.out.length g.co,ai 1,ai m.T] 43::an (ac g.Af m.F.length g.cf) m.F::an (ac g.Ab m.B.length g.cb) m.B::an (ac g.Ai m.I.length g.ci) m.I::an (ac g.Ao m.out.length g.co) m.out:: [])):CW Tryz.prog ⟨551,[]⟩ B w0 (mA (.replicate 11 true++ [false,true,false,true,true,true,true,true,true,true,true,true,true,true,true,true,true,true,true,true,true,true,true,true,true,true,true,true,true,true,true,true,true,true,true,true,true,true,true,true,true,true,true,true,false]) (il Tryz.f51)) Q [(4,af gr),(5,af go),(6,.pointer (some ⟨ab A,ao A+k*4,none⟩)),(9,af gs),(11,.func (.func 109) #[] #[]),(13,ai p1)] [ak gs [ac As s.length cs] 116,an (ac As s.length cs) s,ak gp [ac Ap fs.length cp] 24,ak gm [ac a.Af m.F.length a.cf,ac a.Ab m.B.length a.cb,ac a.Ai m.I.length a.ci,ac a.Ao m.out.length a.co,ai m.S,ai m.T] 43,ak gr rz 43,ak go [ac A (k+1) c,ac Ab m.B.length cb,ac Ai m.I.length ci,ac Ao m.out.length co,ai m.S,ai m.T] 43,ak gc [ai o.c,ai o.a] 86,ak gf [fx0,fx1,ai fr,fx3] 84,ak gn [ai (s.length:Int)] 3,an (ac A (k+1) c) (li.map Prod.fst++ [(⟨f,p0,ac Al l.length cl,ac As s.length cs⟩:aF)]),an (ac Al l.length cl) l,cJ li,an (ac Ab m.B.length cb) m.B,an (ac Ai m.I.length ci) m.I,an (ac Ao m.out.length co) m.out]:=by
 have:=R.sl;have:=R.ib;obtain⟨q,r,t,u,v,w,rfl⟩:∃q r t u v w,rz= [q,r,t,u,v,w]:=qE rz F;refine ek (fun e d=>gV d (xs:=m.I) (A:=Ai) (m:=m.I.length) (c:=ci) fc) fun J=>?_;refine cE<|ax (fun b=>?_) (fun b=>?_)
 ·have b:m.I= []:=bz (by have b:(m.I.length:Int)=0:=b;omega);refine cE<|bQ<|dR (oP (vs:= [_,_,_,_,_,_]) fc jQ cn rfl rfl (by rfl) rfl) rfl rfl ?_;refine dN (dk _ fc cn rfl rfl rfl rfl rfl (by rfl) rfl (by rfl)) rfl rfl (fun _ _=>?_);refine bL<|iQ (fz ?_);refine fD (C ⟨A,c,Ab,cb,Ai,ci,Ao,co⟩ b) ⟨rfl,trivial⟩ (fun e d=>by dsimp only;rw[R.mf,R.fs];exact(oW (li:=li) (h:=⟨f,p0,ac Al l.length cl,ac As s.length cs⟩) (x:=⟨f,p0,l,s⟩) R.hok ⟨rfl,rfl⟩ (d.msub (T:=an (ac A (k+1) c) (li.map Prod.fst++ [(⟨f,p0,ac Al l.length cl,ac As s.length cs⟩:aF)])::ag Al cl l::ag As cs s::cJ li::ak gr [ac A (k+1) c,ac Ab m.B.length cb,ac Ai m.I.length ci,ac Ao m.out.length co,ai 1,ai m.T] 43::ag Ab cb m.B::ag Ai ci m.I::ag Ao co m.out:: []) ms)).msub ms)
 have b:¬m.I.length=0:=by have b:¬(m.I.length:Int)=0:=b;omega
 have G:aI (m.I.getD 0 0):=R.ii _ (cL ω);have mB:(m.I.drop 1).length=m.I.length - 1:=aN;refine aj ?_;refine bq [0,3,6,9,12,15,20,23,26,29] [8,9] rfl<|aj ?_;refine tE rfl (aX (k:=0) az aZ (SF.own (xs:=m.I) rfl fc) ω rfl rfl rfl) ?_;refine tE rfl (bY (SF.int (SF.own (xs:=m.I) rfl fc) ω) rfl rfl bF) ?_;refine pE rfl (lG rfl rfl rfl pI (fun e M=>lZ (m.I.getD 0 0) G e)) (fun _ _=>aj ?_);intro I _;refine pE rfl (cz (α:=aD) (bytes:=16) (cY (m.I.getD 0 0)) [] rfl aA (aU dy) rfl (eG (R:=ag As cs s) fc fc) (dt (mm _)) ω ω rfl rfl rfl) (fun⟨y,D⟩ _=>?_);refine aP ?_;refine sE (sS (k:=(m.I.drop 1).length) az aZ ⟨ω,ω⟩ mB.symm rfl rfl rfl rfl)<|aj ?_;refine jF<|fD (z y D (iq Ai 1 ci 1) (ci - 1) (fun E=>b (by rw[E];rfl))) ⟨rfl,rfl,rfl,rfl,rfl,trivial⟩ (fun e d=>(yV (s:=m.I) (A:=Ai) (c:=ci) ω (d.msub (.s fc .r))).msub ms)
theorem Um (R:nQ B w0 fs m a li k Ap cp f p0 p1 l s o fr) (v:o.c=12) (bc:rz.length=6) (al:∀(y:av) (g:MA),(∃Z,bR fs m (li.map Prod.snd) ⟨f,p1,l,s⟩ o= .inl Z/\y= {m with S:=3,T:=Z})->XW ⟨551,[]⟩ B w0 Q .ret [(4,af gr)] (ak gr [ac g.Af y.F.length g.cf,ac g.Ab y.B.length g.cb,ac g.Ai y.I.length g.ci,ac g.Ao y.out.length g.co,ai y.S,ai y.T] 43::an (ac g.Af y.F.length g.cf) y.F::an (ac g.Ab y.B.length g.cb) y.B::an (ac g.Ai y.I.length g.ci) y.I::an (ac g.Ao y.out.length g.co) y.out:: [])) (ad:∀(y:av) (g:MA),bR fs m (li.map Prod.snd) ⟨f,p1,l,s⟩ o= .inr y->XW ⟨551,[]⟩ B w0 Q .ret [(4,af gr)] (ak gr [ac g.Af y.F.length g.cf,ac g.Ab y.B.length g.cb,ac g.Ai y.I.length g.ci,ac g.Ao y.out.length g.co,ai y.S,ai y.T] 43::an (ac g.Af y.F.length g.cf) y.F::an (ac g.Ab y.B.length g.cb) y.B::an (ac g.Ai y.I.length g.ci) y.I::an (ac g.Ao y.out.length g.co) y.out:: [])):CW Tryz.prog ⟨551,[]⟩ B w0 (mA (.replicate 11 true++ [false,true,false,true,true,true,true,true,true,true,true,true,true,true,true,true,true,true,true,true,true,true,true,true,true,true,false]) (il Tryz.f51)) Q [(2,af gp),(3,af gm),(4,af gr),(5,af go),(6,.pointer (some ⟨ab A,ao A+k*4,none⟩)),(7,af gc),(9,af gs),(10,af gn),(13,ai p1)] [ak gs [ac As s.length cs] 116,an (ac As s.length cs) s,ak gp [ac Ap fs.length cp] 24,ak gm [ac a.Af m.F.length a.cf,ac a.Ab m.B.length a.cb,ac a.Ai m.I.length a.ci,ac a.Ao m.out.length a.co,ai m.S,ai m.T] 43,ak gr rz 43,ak go [ac A (k+1) c,ac Ab m.B.length cb,ac Ai m.I.length ci,ac Ao m.out.length co,ai m.S,ai m.T] 43,ak gc [ai o.c,ai o.a] 86,ak gf [fx0,fx1,ai fr,fx3] 84,ak gn [ai (s.length:Int)] 3,an (ac A (k+1) c) (li.map Prod.fst++ [(⟨f,p0,ac Al l.length cl,ac As s.length cs⟩:aF)]),an (ac Al l.length cl) l,cJ li,an (ac Ab m.B.length cb) m.B,an (ac Ai m.I.length ci) m.I,an (ac Ao m.out.length co) m.out]:=by
 have:=R.sl;have:=R.k6;obtain⟨bn,⟨a3,a4⟩,w,a5⟩:=R.nd.call v;obtain⟨C,D,E,G,I,J,rfl⟩:∃C D E G I J,rz= [C,D,E,G,I,J]:=qE rz bc;have q:(li.map Prod.fst).length=k:=by rw[aL];exact R.hk
 have:(li.map Prod.snd).length=k:=by rw[aL];exact R.hk
 have:=R.mf;refine ek (fun r p=>gV p (xs:=s) (.s .a)) fun bm=>?_;refine cE<|ax (fun e=>?_) (fun e=>?_)
 ·have e:k=5:=by have e:(m.F.length:Int)=6:=e;omega
  refine aj ?_;refine eu rfl rI (fun r z=>js a m 4 κ r (R.hm.ro z) R.fit) (fun g _=>?_);refine dN (dk _ fc cn rfl rfl rfl rfl rfl (by rfl) rfl (by rfl)) rfl rfl (fun _ _=>?_);refine bL<|iQ (fz ?_);refine fD (al {m with S:=3,T:=4} g ⟨4,by dsimp only[bR];rw[if_neg ω,if_neg ω,if_neg ω,if_neg ω,if_neg ω,if_neg ω,if_neg ω,if_neg ω,if_neg ω,if_neg ω,if_neg ω,if_pos v,if_pos ω],rfl⟩) ⟨rfl,trivial⟩ me
 have e:¬k=5:=by have e:¬(m.F.length:Int)=6:=e;omega
 obtain⟨d,Y⟩:∃d:Nat,o.a.toNat=d:=⟨_,rfl⟩
 rw[Y] at a3 a4 w a5;have w:(au fs d).params<=s.length:=w;have bb:d<fs.length:=ω;obtain⟨K,O,M,U,a9,bp,a7,a6⟩:=R.hp.fn bb;have:(dB (au fs d).L).length=(au fs d).L.length:=mr _;obtain⟨P,a2⟩:∃P:Nat,(au fs d).params=P:=⟨(au fs d).params.toNat,ω⟩
 have:=bx R.hp;refine aj ?_;refine bj (t:=241) (v':= ai (d:Int)) rfl (by congr 1;omega) ?_;refine cP d rfl (.ro R.hp) ?_;refine iC rfl (a6 _)<|aj ?_;refine fun W _=>aj ?_;refine oE (fl rfl rfl rfl Tryz.call113 (fun r z=>I2 (au fs d).params (au fs d).result K M O U _ (au fs d).L r (z.ro a9) ω)) (fun⟨h,i⟩ _=>?_);refine aP ?_;refine cZ (fun g:Nat=>g<=P) (fun g=>P - g) (fun g=> [(4,af gr),(5,af go),(6,.pointer (some ⟨ab A,ao A+k*4,none⟩)),(7,af gc),(9,af gs),(10,af gn),(13,ai p1),(14,af W),(15,ac h (dB (au fs d).L).length i),(16,ai (g:Int))]) (fun g=> [an (ac h (dB (au fs d).L).length i) (((s.drop (s.length - P)).take g++(dB (au fs d).L).drop g)),ak W [ai (au fs d).params,ac K (au fs d).L.length O,ai (au fs d).result,ac M (au fs d).C.length U] 84,ak gs [ac As s.length cs] 116,ag As cs s,ak gp [ac Ap fs.length cp] 24,ak gm (ah a m) 43,ak gr [C,D,E,G,I,J] 43,ak go [ac A (k+1) c,ac Ab m.B.length cb,ac Ai m.I.length ci,ac Ao m.out.length co,ai m.S,ai m.T] 43,ak gc [ai o.c,ai o.a] 86,ak gf [fx0,fx1,ai fr,fx3] 84,ak gn [ai (s.length:Int)] 3,an (ac A (k+1) c) (li.map Prod.fst++ [(⟨f,p0,ac Al l.length cl,ac As s.length cs⟩:aF)]),ag Al cl l,cJ li,ag Ab cb m.B,ag Ai ci m.I,ag Ao co m.out]) 0 (aS _) ?_;rintro b a8;have a7:b<=P:=a8;have ba:((s.drop (s.length - P)).take b++(dB (au fs d).L).drop b).length=(dB (au fs d).L).length:=by rw[ar,aB,aN,aN];omega
 refine ax (fun j=>?_) (fun j=>?_)
 ·have j:b<P:=by have j:(b:Int)<(au fs d).params:=j;omega
  have bg:aI (s.getD (s.length - P+b) default).n:=R.si _ (cL ω);have bf:=Mu (s:=s) (L:=dB (au fs d).L) (a:=s.length - P) (i:=b) ω ω;refine aj ?_;refine bj (t:=260) (v':= ai ((s.length - P+b:Nat):Int)) rfl (by congr 1;omega) ?_;refine cP ((s.length - P+b)) rfl ((SF.own (xs:=s) rfl fc)) ?_;refine iC rfl (SF.val (SF.own rfl fc) (show s.length - P+b<s.length by omega) default) ?_;refine cP b rfl ((SF.own (A:=h) (c:=i) ba fc)) ?_;refine oE (fZ (α:=aD) (A:=h) (c:=i) (s.getD (s.length - P+b) default) default bf fc ω bg aM rfl rfl rfl rfl rfl rfl rfl rfl) (fun _ _=>aj ?_);refine cG (b+1) (by show b+1<=_;omega) (by show _ - _<_ - _;omega)
 obtain rfl:b=P:=by have j:¬(b:Int)<(au fs d).params:=j;omega
 have:(s.take (s.length - b)).length=s.length - b:=by rw[aB];omega
 refine aj ?_;refine bj (t:=270) (v':= ai ((s.take (s.length - b)).length:Int)) rfl (by congr 1;omega) ?_;refine sE (iY (k:=(s.take (s.length - b)).length) aA aM ω rfl rfl rfl) ?_;refine aC ?_;refine aC ?_;refine aC ?_;refine oE (mY (α:=aF) ⟨f,p0,ac Al l.length cl,ac As s.length cs⟩ ⟨f,p0,ac Al l.length cl,ac As (s.take (s.length - b)).length cs⟩ q fc ⟨⟨R.pi.1,R.pi.2.1⟩,rfl,rfl⟩ fy rfl rfl rfl rfl rfl rfl rfl rfl) (fun _ _=>?_);refine aC ?_;refine aC ?_;refine oE (mY (α:=aF) ⟨f,p0,ac Al l.length cl,ac As (s.take (s.length - b)).length cs⟩ ⟨f,p1,ac Al l.length cl,ac As (s.take (s.length - b)).length cs⟩ q fc ⟨⟨R.pi.1,R.pi.2.2⟩,rfl,rfl⟩ aZ rfl rfl rfl rfl rfl rfl rfl rfl) (fun _ _=>aj ?_);intro bk _;refine oE (cz (α:=aF) (bytes:=64) ⟨o.a,0,ac h (dB (au fs d).L).length i,ac none 0 0⟩ [] rfl cX (aU nw) rfl (eG (R:=an (ac A (k+1) c) _) fc fc) (dt ⟨⟨R.oa,by show aI 0;decide⟩,rfl,rfl⟩) (by rw[ar,q];show k+1+1<=_;omega) (by rw[ar,q];show (k+1+1)*64<=_;omega) rfl rfl rfl) (fun⟨N,V⟩ _=>?_)
 try dsimp only
 refine aC ?_;refine dN (dk _ fc Tryz.sizeOf40 rfl rfl rfl rfl rfl (by rfl) rfl (by rfl)) rfl rfl (fun _ _=>?_);refine bL<|cE<|bQ<|dR (oP (vs:= [_,_,_,_,_,_]) fc jQ cn rfl rfl (by rfl) rfl) rfl rfl ?_;refine dN (dk _ fc cn rfl rfl rfl rfl rfl (by rfl) rfl (by rfl)) rfl rfl (fun _ _=>?_);refine bL ?_;have am:∀a u:aF,(li.map Prod.fst++ [a]++ [u]).length=k+2:=fun a u=>by rw[ar,ar,q];rfl
 have a0:(s.drop (s.length - b)).take b=s.drop (s.length - b):=bD (by rw[aN];omega);refine iQ<|fD (ad {m with F:=li.map Prod.snd++ [⟨f,p1,l,s.take (s.length - b)⟩,⟨o.a,0,(s.drop (s.length - b)).take b++(dB (au fs d).L).drop b,[]⟩]} ⟨N,V,Ab,cb,Ai,ci,Ao,co⟩ (by dsimp only[bR];rw[if_neg ω];rw[if_neg ω];rw[if_neg ω];rw[if_neg ω];rw[if_neg ω];rw[if_neg ω];rw[if_neg ω];rw[if_neg ω];rw[if_neg ω];rw[if_neg ω];rw[if_neg ω];rw[if_pos v,if_neg ω,Y,a2,bu,a0])) ⟨rfl,trivial⟩ (fun r p=>by rw[am] at p;have a1:=BO (List.take_prefix (s.length - b) s) (p.msub (.s fc .r));have X:=Cw.nilO aD a1;exact(Ii (gd:=gr) (A:=N) (c:=V) (k:=k) (li:=li) (h:=⟨f,p1,ac Al l.length cl,ac As (s.take (s.length - b)).length cs⟩) (x:=⟨f,p1,l,s.take (s.length - b)⟩) (h2:=⟨o.a,0,ac h (dB (au fs d).L).length i,ac none 0 0⟩) (x2:=⟨o.a,0,(s.drop (s.length - b)).take b++(dB (au fs d).L).drop b,[]⟩) (b:= [ac Ab m.B.length cb,ac Ai m.I.length ci,ac Ao m.out.length co,ai m.S,ai m.T]) (T:=43) (H:= [ag Ab cb m.B,ag Ai ci m.I,ag Ao co m.out]) R.hk R.hok ⟨rfl,rfl⟩ ⟨rfl,rfl⟩ (X.msub ms)).msub ms)
theorem Ul (R:nQ B w0 fs m a li k Ap cp f p0 p1 l s o fr) (I:o.c=13) (a9:rz.length=6) (N:∀(y:av) (g:MA),bR fs m (li.map Prod.snd) ⟨f,p1,l,s⟩ o= .inr y->XW ⟨551,[]⟩ B w0 Q .ret [(4,af gr)] (ak gr [ac g.Af y.F.length g.cf,ac g.Ab y.B.length g.cb,ac g.Ai y.I.length g.ci,ac g.Ao y.out.length g.co,ai y.S,ai y.T] 43::an (ac g.Af y.F.length g.cf) y.F::an (ac g.Ab y.B.length g.cb) y.B::an (ac g.Ai y.I.length g.ci) y.I::an (ac g.Ao y.out.length g.co) y.out:: [])):CW Tryz.prog ⟨551,[]⟩ B w0 (mA (.replicate 11 true++ [false,true,false,true,true,true,true,true,true,true,true,true,true,true,true,true,true,true,true,true,true,true,true,true,true,true,true,true,false]) (il Tryz.f51)) Q [(4,af gr),(5,af go),(8,af gf),(9,af gs),(10,af gn)] [ak gs [ac As s.length cs] 116,an (ac As s.length cs) s,ak gp [ac Ap fs.length cp] 24,ak gm [ac a.Af m.F.length a.cf,ac a.Ab m.B.length a.cb,ac a.Ai m.I.length a.ci,ac a.Ao m.out.length a.co,ai m.S,ai m.T] 43,ak gr rz 43,ak go [ac A (k+1) c,ac Ab m.B.length cb,ac Ai m.I.length ci,ac Ao m.out.length co,ai m.S,ai m.T] 43,ak gc [ai o.c,ai o.a] 86,ak gf [fx0,fx1,ai fr,fx3] 84,ak gn [ai (s.length:Int)] 3,an (ac A (k+1) c) (li.map Prod.fst++ [(⟨f,p0,ac Al l.length cl,ac As s.length cs⟩:aF)]),an (ac Al l.length cl) l,cJ li,an (ac Ab m.B.length cb) m.B,an (ac Ai m.I.length ci) m.I,an (ac Ao m.out.length co) m.out]:=by
 have:=R.sl;have:=R.k6;obtain⟨bk,bl,bm,bn⟩:=R.fn;obtain⟨_,V⟩:=R.nd.ret I;have V:(au fs f.toNat).result≠0->1<=s.length:=V;obtain⟨a1,a2,a3,a4,a5,a6,rfl⟩:∃a1 a2 a3 a4 a5 a6,rz= [a1,a2,a3,a4,a5,a6]:=qE rz a9;have ad:(li.map Prod.fst).length=k:=by rw[aL];exact R.hk
 have:=R.mf;have U:=R.hok;have J:=R.hk;have ba:=R.hst;have:∀b:aF,(li.map Prod.fst++ [b]).length=k+1:=fun b=>by rw[ar,ad];rfl
 refine ek (fun w b=>gV b (xs:=li.map Prod.fst++ [(⟨f,p0,ac Al l.length cl,ac As s.length cs⟩:aF)]) fc) fun bi=>?_;refine cE<|aj ?_;refine bj (t:=294) (v':= ai (k:Int)) rfl (by congr 1;omega) ?_;refine sE (iY (k:=k) cX dQ ω rfl rfl rfl)<|aj ?_;refine dm (fun w b=>yF ad (b.msub (.s fc .r))) ?_;refine eK rfl (fun u=>?_) (fun u=>?_)
 ·have u:k=0:=by have u:(k:Int)=0:=u;omega
  subst u;have a8:li= []:=bz J;subst a8;refine cE<|bQ<|aC ?_;refine dN (dk _ fc aZ rfl rfl rfl rfl rfl (by rfl) rfl (by rfl)) rfl rfl (fun _ _=>?_);refine bL<|cE<|bQ<|dR (oP (vs:= [_,_,_,_,_,_]) fc jQ cn rfl rfl (by rfl) rfl) rfl rfl ?_;refine dN (dk _ fc cn rfl rfl rfl rfl rfl (by rfl) rfl (by rfl)) rfl rfl (fun _ _=>?_);refine bL<|iQ (fz ?_);refine fD (N {m with F:= [],S:=2} ⟨A,c,Ab,cb,Ai,ci,Ao,co⟩ (by dsimp only[bR];rw[if_neg ω];rw[if_neg ω];rw[if_neg ω];rw[if_neg ω];rw[if_neg ω];rw[if_neg ω];rw[if_neg ω];rw[if_neg ω];rw[if_neg ω];rw[if_neg ω];rw[if_neg ω];rw[if_neg ω];rw[if_pos I];unfold tf;rw[if_pos (show List.map Prod.snd ([]:List (aF×aK))= [] from rfl)])) ⟨rfl,trivial⟩ (fun w b=>(qL (v:= ac A 0 c) (l:=([]:List (aF×aK))) U (b.msub (T:=an (ac A 0 c) (([]:List (aF×aK)).map Prod.fst)::cJ []:: [ak gr [ac A 0 c,ac Ab m.B.length cb,ac Ai m.I.length ci,ac Ao m.out.length co,ai 2,ai m.T] 43,ag Ab cb m.B,ag Ai ci m.I,ag Ao co m.out]) ms)).msub ms)
 have u:¬k=0:=by have u:¬(k:Int)=0:=u;omega
 obtain⟨e,rfl⟩:∃e,k=e+1:=⟨k - 1,ω⟩
 obtain⟨d,W,rfl⟩:∃l W,li=l++ [W]:=by
  rcases eX li with G | ⟨l,M,G⟩
  ·rw[G] at J;simp at J
  exact⟨l,M,by rw[G];simp⟩
 obtain⟨b,y⟩:=W;have Z:d.length=e:=by rw[ar,aV] at J;omega
 have al:=U.left;have am:b.func=y.func/\b.pc=y.pc:=U (b,y) σ;obtain⟨i,p,h,bb⟩:=b;have:y.K.length<=1000:=ba (_,y) (ip _ (cN.2 rfl));have O:(d.map Prod.fst).length=e:=by rw[aL];exact Z
 refine dm (fun w C=>yW (C.msub (.s fc .r))) ?_;refine ek (fun w C=>C.oform (v:=bb) (xs:=y.K) .b) ?_;rintro⟨q,r,rfl⟩;simp only[db,eM,iI] at *;refine ek (fun w C=>(ue C fc:aF.wf ⟨i,p,h,ac q y.K.length r⟩)) fun a0=>?_;have a7:∀b:aF,(d.map Prod.fst++ [b]).length=e+1:=fun b=>by rw[ar,O];rfl
 have X:∀M:aK,(d.map Prod.snd++ [M]).length=e+1:=fun M=>by rw[ar,aL,Z];rfl
 have Y:d.map Prod.snd++ [y]≠[]:=σ;refine ax (fun z=>?_) (fun z=>?_)
 ·have z:0<fr:=z;have L:¬(au fs f.toNat).result=0:=ω;have G:1<=s.length:=V L;have bc:s.getD (s.length - 1) default=aJ s:=fk.symm;have bf:aI (aJ s).n:=by rw[fk];exact R.si _ (cL ω)
  refine aj ?_;refine bj (t:=311) (v':= ai (e:Int)) rfl (by congr 1;omega) ?_;refine cP e rfl ((SF.own (a7 ⟨i,p,h,ac q y.K.length r⟩) fc))<|aj ?_;refine eP [0,3,6,9,12,15,18,21,24,27,32,35,36,39,44] [14] rfl [an (ac A (e+1) c) (d.map Prod.fst++ [(⟨i,p,h,ac q y.K.length r⟩:aF)]),ak gs [ac As s.length cs] 116,ak gn [ai (s.length:Int)] 3,ag As cs s]<|aj ?_;refine tE rfl (bY (fX (j:=3) O fc rfl) rfl rfl ed)<|aj ?_;refine dr (t:=320) (v':= ai ((s.length - 1:Nat):Int)) rfl (by congr 1;omega) ?_;refine tE rfl (aX (k:=(s.length - 1)) aA aM (SF.own (xs:=s) (A:=As) (c:=cs) rfl fc) ω rfl rfl rfl) ?_;refine tE rfl (eC (SF.val (SF.own rfl fc) (show s.length - 1<s.length by omega) default) rfl rfl iW aM)<|aj ?_;intro bg _;rw[bc];refine pE rfl (cz (α:=aD) (bytes:=16) (aJ s) [] rfl aA (aU dy) rfl (eG (R:=ag q r y.K) fc fc) (dt bf) ω ω rfl rfl rfl) (fun⟨D,E⟩ _=>?_)
  try dsimp only
  refine aC ?_;refine aC ?_;refine pE rfl (mY (α:=aF) ⟨i,p,h,ac q y.K.length r⟩ ⟨i,p,h,ac D (y.K++ [aJ s]).length E⟩ O fc ⟨a0.1,a0.2.1,rfl⟩ fy rfl rfl rfl rfl rfl rfl rfl rfl) (fun _ _=>?_);refine Et<|cE<|bQ<|dR (oP (vs:= [_,_,_,_,_,_]) fc jQ cn rfl rfl (by rfl) rfl) rfl rfl ?_;refine dN (dk _ fc cn rfl rfl rfl rfl rfl (by rfl) rfl (by rfl)) rfl rfl (fun _ _=>?_);refine bL<|iQ<|fD (N {m with F:=d.map Prod.snd++ [{y with K:=y.K++ [aJ s]}]} ⟨A,c,Ab,cb,Ai,ci,Ao,co⟩ (by dsimp only[bR];rw[if_neg ω];rw[if_neg ω];rw[if_neg ω];rw[if_neg ω];rw[if_neg ω];rw[if_neg ω];rw[if_neg ω];rw[if_neg ω];rw[if_neg ω];rw[if_neg ω];rw[if_neg ω];rw[if_neg ω];rw[if_pos I,zn,wA,if_neg L,if_neg Y])) ⟨rfl,trivial⟩ (fun w b=>by dsimp only;rw[X];exact(oW (li:=d) (h:=⟨i,p,h,ac D (y.K++ [aJ s]).length E⟩) (x:= {y with K:=y.K++ [aJ s]}) al am (b.msub (T:=an (ac A (e+1) c) (d.map Prod.fst++ [(⟨i,p,h,ac D (y.K++ [aJ s]).length E⟩:aF)])::an h y.L::ag D E (y.K++ [aJ s])::cJ d:: [ak gr [ac A (e+1) c,ac Ab m.B.length cb,ac Ai m.I.length ci,ac Ao m.out.length co,ai m.S,ai m.T] 43,ag Ab cb m.B,ag Ai ci m.I,ag Ao co m.out]) ms)).msub ms)
 have z:¬0<fr:=z;have L:(au fs f.toNat).result=0:=ω;refine fq (fm ?_);refine cE<|bQ<|dR (oP (vs:= [_,_,_,_,_,_]) fc jQ cn rfl rfl (by rfl) rfl) rfl rfl ?_;refine dN (dk _ fc cn rfl rfl rfl rfl rfl (by rfl) rfl (by rfl)) rfl rfl (fun _ _=>?_);refine bL<|iQ<|fD (N {m with F:=d.map Prod.snd++ [y]} ⟨A,c,Ab,cb,Ai,ci,Ao,co⟩ (by dsimp only[bR];rw[if_neg ω];rw[if_neg ω];rw[if_neg ω];rw[if_neg ω];rw[if_neg ω];rw[if_neg ω];rw[if_neg ω];rw[if_neg ω];rw[if_neg ω];rw[if_neg ω];rw[if_neg ω];rw[if_neg ω];rw[if_pos I,zn,wA,if_pos L,if_neg Y,et])) ⟨rfl,trivial⟩ (fun w b=>by dsimp only;rw[X];exact(oW (li:=d) (h:=⟨i,p,h,ac q y.K.length r⟩) (x:=y) al am (b.msub (T:=an (ac A (e+1) c) (d.map Prod.fst++ [(⟨i,p,h,ac q y.K.length r⟩:aF)])::an h y.L::ag q r y.K::cJ d:: [ak gr [ac A (e+1) c,ac Ab m.B.length cb,ac Ai m.I.length ci,ac Ao m.out.length co,ai m.S,ai m.T] 43,ag Ab cb m.B,ag Ai ci m.I,ag Ao co m.out]) ms)).msub ms)
end
end
section
theorem vP {α:Type} {l:List α} {k:Nat} (h:k<l.length) (x d:α):(l.set k x).getD k d=x:=by
 rw[ap,List.getElem?_set_self h];rfl
theorem HD {P:Program} {n:NF} {o:Oper} {env:cS} {B:Nat} {w0:World} {H:List aO} {i j:Operand} {t u:TypeId} {x y:Int} {a b:Nat} (ha:x=a/\a<=1000000) (d:y=b/\0<b) (h:o.op= .binOp .rem t i j u) (hi:opv env i=some (ai x)) (g:opv env j=some (ai y)):QS P n B w0 o env H (ai (((a % b:Nat)):Int)):=by
 obtain⟨rfl,ha⟩:=ha;obtain⟨rfl,d⟩:=d;refine mW h hi g κ fun q=>?_;have e:(a:Int).tmod b=((a % b:Nat):Int):=by rw[Int.tmod_eq_emod_of_nonneg ω];omega
 have:(a % b:Nat)<=1000000:=dW (Nat.mod_le _ _) ha;simp only[binOp,Op.intDiv,ne_eq,not_true_eq_false,if_false];rw[if_neg ω,e];simp
section
variable {B:Nat} {w0:World} {H:List aO}
theorem C4 (t i n c:Nat) (A:Option Addr) (l:List av) (z:Int) (C:l.length=n) (hi:i<n) (F:aI z) (M:(ay l i).I.length<=10) (w:World)
  (b:Cw B w0 (ak t [ac A n c] 148::an (ac A n c) l::H) w) :
  Calls Tryz.prog 100 #[af t,ai (i:Int),ai z] w fun e w'=> ∃_:Unit,True/\e= .returned (.bool (!decide ((ay l i).I.length=10)))/\
   Cw B w0 (ak t [ac A n c] 148::an (ac A n c) (if (ay l i).I.length=10 then l else l.set i (gT (ay l i) z))::H) w':=by
 have:n<=140737488355328:=bx (SF.at_ (SF.own (xs:=l) C (.s .a)) b);refine bI Tryz.func100 rfl Tryz.ntmps100 rfl b<|uj (L:=l) (k:=i) ω fc fun G q a p=>?_;have r:q.length=n:=p.len.trans C;have u:=p.hd;have v:=p.i64;refine aj ?_;refine cP i rfl ((SF.own (xs:=q) r fc))<|aj ?_;refine ef rfl (fun w b=>(SF.hmc (SF.own (xs:=q) r fc) hi u) w b 2 _ rfl)<|ax (fun d=>?_) (fun d=>?_)
 ·have d:(ay l i).I.length=10:=by have d:((ay l i).I.length:Int)=10:=d;omega
  refine aj ?_;intro w b;refine⟨(),trivial,?_,?_⟩
  ·rw[decide_eq_true d];rfl
  rw[if_pos d];exact(p.same ω (b.msub (.s fc (.s fc (.s fc (.s fc (.s fc (.s fc .r)))))))).msub ms
 have d:¬(ay l i).I.length=10:=by have d:¬((ay l i).I.length:Int)=10:=d;omega
 refine aj ?_;refine ef rfl (fun w b=>(SF.hmc (SF.own (xs:=q) r fc) hi u) w b 2 _ rfl)<|aj ?_;intro K _;refine oE (cz (α:=Int) (bytes:=8) z [] rfl az (aU cW) rfl (eG (R:=an (ac a.Ai (ay l i).I.length a.ci) (ay l i).I) fc fc) (qk F) ω ω rfl rfl rfl) (fun⟨g,h⟩ _=>?_)
 try dsimp only
 refine aC ?_;refine aC ?_;refine oE (jT (α:=eZ) (A:=A) (c:=c) (m:=n) (f:=2) (us:= [ac g ((ay l i).I++ [z]).length h]) (kW ⟨a.Af,a.cf,a.Ab,a.cb,g,h,a.Ao,a.co⟩ {ay l i with I:=(ay l i).I++ [z]}) default rfl fc hi (sg v) gv rfl rfl rfl rfl rfl rfl (by rw[u];rfl) rfl) (fun _ _=>aj ?_);have E:(q.set i (kW ⟨a.Af,a.cf,a.Ab,a.cb,g,h,a.Ao,a.co⟩ {ay l i with I:=(ay l i).I++ [z]})).length=n:=by rw[bS];exact r
 have y:(q.set i (kW ⟨a.Af,a.cf,a.Ab,a.cb,g,h,a.Ao,a.co⟩ {ay l i with I:=(ay l i).I++ [z]})).getD i default=kW ⟨a.Af,a.cf,a.Ab,a.cb,g,h,a.Ao,a.co⟩ {ay l i with I:=(ay l i).I++ [z]} :=vP ω _ _;refine ef rfl (fun w b=>(SF.hmc (SF.own (A:=A) (c:=c) E fc) hi y) w b 4 _ rfl)<|ax (fun j=>?_) (fun j=>?_)
 ·have j:(ay l i).S=1:=j;refine bQ<|aC ?_;refine aC ?_;refine aC ?_;refine oE (jT (α:=eZ) (A:=A) (c:=c) (m:=n) (f:=4) (us:= [ai 0]) (kW ⟨a.Af,a.cf,a.Ab,a.cb,g,h,a.Ao,a.co⟩ (gT (ay l i) z)) default (List.set_set ..).symm fc hi (sg ⟨by unfold gT;dsimp only;rw[if_pos j];decide,v.2⟩) aZ rfl rfl rfl rfl rfl rfl (by rw[y];unfold gT;rw[if_pos j];rfl) rfl) (fun _ _=>aj ?_);intro w b;refine⟨(),trivial,?_,?_⟩
  ·rw[decide_eq_false d];rfl
  rw[if_neg d];exact(p.back _ ⟨a.Af,a.cf,a.Ab,a.cb,g,h,a.Ao,a.co⟩ (gT (ay l i) z) _ _ (b.msub (.s fc (.s fc (.s fc (.s fc (.s fc (.s fc .r)))))))).msub ms
 have j:¬(ay l i).S=1:=j;have D:gT (ay l i) z= {ay l i with I:=(ay l i).I++ [z]} :=by unfold gT;rw[if_neg j]
 refine aj ?_;intro w b;refine⟨(),trivial,?_,?_⟩
 ·rw[decide_eq_false d];rfl
 rw[if_neg d,D];exact(p.back _ ⟨a.Af,a.cf,a.Ab,a.cb,g,h,a.Ao,a.co⟩ {ay l i with I:=(ay l i).I++ [z]} _ _ (b.msub (.s fc (.s fc (.s fc (.s fc (.s fc (.s fc .r)))))))).msub ms
end
end
section
section
variable {B:Nat} {w0:World} {H:List aO}
theorem E1 (C n c:Nat) (A:Option Addr) (fs:List aw) (l:List av) (X:l.length=n) (U:∀m∈l,bU fs m) (bo:1<=n/\n<=4) (r:List av×Nat) (bc:mQ l=r) (w:World)
  (q:Cw B w0 (ak C [ac A n c] 148::an (ac A n c) l::H) w) :
  Calls Tryz.prog 97 #[af C] w fun e w'=> ∃_:Unit,True/\e= .returned (ai (r.2:Int))/\
   Cw B w0 (ak C [ac A n c] 148::an (ac A n c) r.1::H) w':=by
 subst bc;have Z:∀k,k<=n->(bM l k).2<=1000:=fun k a7=>by
  have j:=(lI (fs:=fs) l k ω).1;have e:=j.cnt (fun t=>(ay l t).out.length - (ay (bM l k).1 t).out.length) fun t R=>by have:=j.fewer t R;omega
  have a2:∀t,t<l.length->(ay l t).out.length<=10:=fun t R=>(U _ (gA R)).ob;have:∀h,h<=l.length->((List.range h).map fun t=>(ay l t).out.length - (ay (bM l k).1 t).out.length).sum<=10*h:=by
   intro h
   induction h with
   | zero=>exact fun _=>aH _
   | succ h bk=>
    intro bs;have:=bk ω;have T:=a2 h ω;rw[iB,db,vF];simp only[eM,iI,B9,List.sum_nil];omega
  have T:=this l.length (aH _);rw[e] at T;omega
 refine bI Tryz.func97 rfl Tryz.ntmps97 rfl q<|aj ?_;refine cZ (fun k:Nat=>k<=n) (fun k=>n - k) (fun k=> [(0,af C),(3,ai ((bM l k).2:Int)),(12,ai (n:Int)),(13,ai (k:Int))]) (fun k=>ak C [ac A n c] 148::an (ac A n c) (bM l k).1::H) 0 (aS _) ?_;rintro k a8;have a7:k<=n:=a8;have W:=(lI (fs:=fs) l k ω).1;have:=W.len;refine ax (fun a9=>?_) (fun a9=>?_)
 ·have K:k<n:=ω;have ad:iM k l.length<n:=by have:=ua (i:=k) (n:=l.length) ω;omega
  obtain⟨g,N⟩:∃al,iM k l.length=al:=⟨_,rfl⟩
  rw[N] at ad;have bf:(bM l (k+1)).1=(fb (bM l k).1 k g).1:=by rw[<-N];rfl
  have bg:(bM l (k+1)).2=(bM l k).2+(fb (bM l k).1 k g).2:=by rw[<-N];rfl
  have:=Z (k+1) ω;have:=Z k ω;refine aj ?_;refine cP k rfl ((SF.own (xs:=(bM l k).1) (A:=A) (c:=c) (m:=n) ω fc))<|aj ?_;refine sE (HD (a:=k+1) (b:=n) ω ω rfl rfl rfl)<|aj ?_;refine cT (t:=6) (v':= ai (g:Int)) rfl (by rw[<-N,<-X];rfl) ?_;refine cZ (fun p:List av×Nat=>((p.1.length=n/\∀m∈p.1,bU fs m)/\(fb p.1 k g).1=(bM l (k+1)).1)/\(bM l k).2+p.2+(fb p.1 k g).2=(bM l (k+1)).2) (fun p=>(ay p.1 k).out.length) (fun p=> [(0,af C),(3,ai (((bM l k).2+p.2:Nat):Int)),(5,.pointer (some ⟨ab A,ao A+k*6,none⟩)),(6,ai (g:Int)),(12,ai (n:Int)),(13,ai (k:Int))]) (fun p=>ak C [ac A n c] 148::an (ac A n c) p.1::H) ((bM l k).1,0) (⟨⟨⟨by show (bM l k).1.length=n;omega,W.right U⟩,bf.symm⟩,by show (bM l k).2+0+(fb (bM l k).1 k g).2=_;rw[bg];omega⟩) ?_;rintro⟨d,h⟩ bb
  try dsimp only
  obtain⟨⟨⟨M,O⟩,u⟩,D⟩:((d.length=n/\∀m∈d,bU fs m)/\(fb d k g).1=(bM l (k+1)).1)/\(bM l k).2+h+(fb d k g).2=(bM l (k+1)).2:=bb;have E:=yK (l:=d) (i:=k) (to_:=g) ω ω;have V:=O _ (gA (l:=d) (k:=k) ω);have a1:=O _ (gA (l:=d) (k:=g) ω);have:=V.ob;have a6:=a1.ib;refine uj (L:=d) (k:=k) ω fc fun am G a z=>?_;have J:G.length=n:=z.len.trans M;have I:=z.hd;refine aj ?_;refine ef rfl (fun w q=>(SF.hmc (SF.own (xs:=G) (A:=A) (c:=c) J fc) K I) w q 3 _ rfl)<|dh 38 (fun v=>?_) (fun v=>?_)
  ·have v:0<(ay d k).out.length:=by have:=of_decide_eq_true v;omega
   have bi:aI ((ay d k).out.getD 0 0):=nI (V.oi _ (cL v));refine aj ?_;refine ef rfl (fun w q=>(SF.hmc (SF.own (xs:=G) (A:=A) (c:=c) J fc) K I) w q 3 _ rfl) ?_;refine cP 0 rfl ((SF.own (xs:=(ay d k).out) (A:=a.Ao) (c:=a.co) rfl fc)) ?_;refine nj rfl ((SF.own (xs:=(ay d k).out) (A:=a.Ao) (c:=a.co) rfl fc)) ?_;refine fF (fun w j=>z.same ω (j.msub (.s fc (.s fc (.s fc (.s fc (.s fc (.s fc .r)))))))) ?_;refine du rfl Tryz.call100 (fun w q=>C4 C g n c A d ((ay d k).out.getD 0 0) M ad bi a6 w (q.msub (.s fc (.s fc .r)))) (fun _ _=>cU (fun y=>?_) (fun y=>?_))
   ·have y:¬(ay d g).I.length=10:=y;have F:nY d k g:=⟨v,y⟩
    rw[if_pos F] at E;rw[if_neg y];have a4:(dH d k g).length=n:=by unfold dH;rw[bS];exact M
    have ba:=mZ d k g;have Y:=(qg (l:=d) (i:=k) (to_:=g) ω ω k).1;rw[if_pos rfl] at Y;have a5:(ay (dH d k g) k).out=(ay d k).out:=by
     rw[rE ω]
     split
     ·subst_vars;rfl
     rfl
    have a3:1<=(ay (dH d k g) k).out.length:=by rw[a5];exact v
    refine uj (L:=dH d k g) (k:=k) ω fc fun am G a z=>?_;have J:G.length=n:=z.len.trans a4;have I:=z.hd;have a0:=z.i64;refine ek (fun w j=>gV j (xs:=(ay (dH d k g) k).out) (A:=a.Ao) (c:=a.co) fc) fun bm=>?_;have mB:((ay (dH d k g) k).out.drop 1).length=(ay (dH d k g) k).out.length - 1:=aN;refine aj ?_;refine ef rfl (fun w q=>(SF.hmc (SF.own (xs:=G) (A:=A) (c:=c) J fc) K I) w q 3 _ rfl) ?_;refine sE (sS (k:=((ay (dH d k g) k).out.drop 1).length) az aZ ⟨ω,ω⟩ mB.symm rfl rfl rfl rfl) ?_;refine aC ?_;refine aC ?_;refine oE (jT (α:=eZ) (A:=A) (c:=c) (m:=n) (f:=3) (us:= [ac (iq a.Ao 1 a.co 1) ((ay (dH d k g) k).out.drop 1).length (a.co - 1)]) (kW ⟨a.Af,a.cf,a.Ab,a.cb,a.Ai,a.ci,iq a.Ao 1 a.co 1,a.co - 1⟩ (wE (ay (dH d k g) k))) default rfl fc K (sg a0) gv rfl rfl rfl rfl rfl rfl (by rw[I];rfl) rfl) (fun _ _=>aj ?_);have:(bM l k).2+h+((fb (jM d k g) k g).2+1)=(bM l (k+1)).2:=by rw[E] at D;exact D
    refine DM (jM d k g,h+1) (⟨⟨⟨ba.trans M,uS ω ω F O⟩,by rw[E] at u;exact u⟩,by show (bM l k).2+(h+1)+(fb (jM d k g) k g).2=_;omega⟩) (by show (ay (jM d k g) k).out.length<_;rw[Y,aN];omega) (hh:=(fun w j=>(z.back _ ⟨a.Af,a.cf,a.Ab,a.cb,a.Ai,a.ci,iq a.Ao 1 a.co 1,a.co - 1⟩ (wE (ay (dH d k g) k)) _ _ ((yV a3 (j.msub (.s fc .r))).msub (.s fc (.s fc (.s fc (.s fc (.s fc (.s fc .r)))))))).msub ms))
   have y:(ay d g).I.length=10:=y;have F:¬nY d k g:=fun j=>j.2 y;rw[if_neg F] at E;rw[E] at u D;have D:(bM l k).2+h+0=(bM l (k+1)).2:=D;have u:d=(bM l (k+1)).1:=u;rw[if_pos y,u,show (bM l k).2+h=(bM l (k+1)).2 from by omega];refine aj ?_;refine cG (k+1) (by show k+1<=_;omega) (by show _ - _<_ - _;omega)
  have v:¬0<(ay d k).out.length:=by have:=of_decide_eq_false v;omega
  have F:¬nY d k g:=fun j=>v j.1;rw[if_neg F] at E;rw[E] at u D;have D:(bM l k).2+h+0=(bM l (k+1)).2:=D;have u:d=(bM l (k+1)).1:=u;rw[show (bM l k).2+h=(bM l (k+1)).2 from by omega];refine aj ?_;refine cA rfl<|aj ?_;refine cG (k+1) (by show k+1<=_;omega) (by show _ - _<_ - _;omega) (hh:=(fun w j=>by rw[<-u];exact(z.same ω (j.msub (.s fc (.s fc (.s fc (.s fc (.s fc (.s fc .r)))))))).msub ms))
 obtain rfl:k=n:=ω;refine aj ?_;intro w q;have S:mQ l=bM l k:=by unfold mQ;rw[X]
 exact⟨(),trivial,by rw[S],by rw[S];exact q.msub ms⟩
end
end
section
def Ay (fs:List aw) (l:List av):List av×Nat:=if dA fs l=0 then mQ l else ([],0)
def iK (fs:List aw) (l:List av) (k:Int):Int:=if dA fs l=0/\(k<0\/10000<k) then 3 else dA fs l
def pV (fs:List aw) (l:List av) (k:Int):List av:=l.map fun m=>(fW fs m k).1
def lS (fs:List aw) (l:List av) (k:Int):List av:=if iK fs l k=0 then (mQ (pV fs l k)).1 else []
def jb (fs:List aw) (l:List av) (i z:Int):Int:=if dA fs l=0/\(i<0\/(l.length:Int)<=i\/bT z=false) then 3 else dA fs l
def jl (fs:List aw) (l:List av) (i z:Int):Int:=if jb fs l i z≠0 then jb fs l i z else if (ay l i.toNat).I.length=10 then 7 else 0
def lT (fs:List aw) (l:List av) (i z:Int):List av:=if jl fs l i z=0 then l.set i.toNat (gT (ay l i.toNat) z) else []
theorem sU (l:List av):(mQ l).1.length=l.length:=(Au (fs:= []) l).1.len
theorem Ha {fs:List aw} {l:List av} {k:Int} (h:iK fs l k=0):dA fs l=0/\0<=k/\k<=10000:=by
 unfold iK at h
 split at h
 ·cases h
 rename_i b;exact⟨h,ω,ω⟩
theorem Ee {fs:List aw} {l:List av} {i z:Int} (h:jb fs l i z=0):dA fs l=0/\(0<=i/\i<l.length)/\bT z=true:=by
 unfold jb at h
 split at h
 ·cases h
 rename_i b;refine⟨h,⟨ω,ω⟩,?_⟩
 cases hz:bT z with
 | true=>rfl
 | false=>exact absurd ⟨h,.inr (.inr hz)⟩ b
theorem uL {fs:List aw} {l:List av} {k:Int} (b:lQ fs l) (d:0<=k):∀m∈pV fs l k,bU fs m:=fun m e=>by
 obtain⟨x,g,rfl⟩:=jR.1 e;exact(wn b.f x k (b.r x g) d).right
theorem mg (fs:List aw) (l:List av) (k:Int):(pV fs l k).length=l.length:=aL ..
theorem Ce (Ap h:Option Addr) (cp i:Nat) (fs:List aw) (l:List av) (r:List av×Nat) (q:Ay fs l=r) (w:World) (y:Sl w (ac Ap fs.length cp) fs) (p:Sl w (ac h l.length i) l) (v:oI l) :
  Calls Tryz.prog 37 #[.agg #[ac Ap fs.length cp],.agg #[ac h l.length i]] w fun e w'=> ∃g:Option Addr×Nat,True/\e= .returned (.tuple #[.agg #[ac g.1 r.1.length g.2],ai (r.2:Int),ai (dA fs l)])/\Cw w.heap.size w [an (ac g.1 r.1.length g.2) r.1] w':=by
 refine enter Tryz.func37 rfl Tryz.ntmps37 rfl<|aj ?_;refine fun z _=>aj ?_;refine fun C _=>aj ?_;refine fun D _=>aj ?_;refine cO rfl Kb (fun w b=>pd Ap h cp i fs l w (b.ro y) (b.ro p) v)<|cU (fun d=>?_) (fun d=>?_)
 ·have d:¬dA fs l=0:=d;have e:r=([],0):=by rw[<-q];unfold Ay;rw[if_neg d]
  subst e;refine aj ?_;intro w b;exact⟨(none,0),trivial,rfl,(Cw.nilO av b).msub ms⟩
 have d:dA fs l=0:=d;have j:=pO d;have e:mQ l=r:=by rw[<-q];unfold Ay;rw[if_pos d]
 have t:r.1.length=l.length:=by rw[<-e];exact sU l
 refine aj ?_;refine eu rfl Tryz.call96 (fun w b=>DQ h i fs l w (b.ro p) j) (fun⟨u,A,c⟩ _=>?_);refine aP ?_;refine du rfl Tryz.call97 (fun w b=>E1 u l.length c A fs l rfl j.r ⟨j.n0,j.n4⟩ r e w (b.msub (.s fc (.s fc .r)))) (fun _ _=>aj ?_);intro w b;refine⟨(A,c),trivial,?_,?_⟩
 ·rw[t,d]
 rw[t];exact b.msub ms
theorem vW (Ap y:Option Addr) (cp z:Nat) (fs:List aw) (l:List av) (k:Int) (r:List av) (U:lS fs l k=r) (w:World) (V:Sl w (.slice Ap fs.length cp) fs) (F:Sl w (.slice y l.length z) l) (a0:oI l) :
  Calls Tryz.prog 38 #[.agg #[.slice Ap fs.length cp],.agg #[.slice y l.length z],.int .i64 k] w fun e w'=> ∃g:Option Addr×Nat,True/\e= .returned (.tuple #[.agg #[.slice g.1 r.length g.2],.int .i64 (iK fs l k)])/\Cw w.heap.size w [an (.slice g.1 r.length g.2) r] w':=by
 have:=bx F;refine enter Tryz.func38 rfl Tryz.ntmps38 rfl<|aj ?_;refine fun C _=>aj ?_;refine fun O _=>aj ?_;refine fun D _=>aj ?_;refine cO rfl Kb (fun w h=>pd Ap y cp z fs l w (h.ro V) (h.ro F) a0) ?_;refine aC ?_;refine bL<|dG (fun _:Unit=>True) (fun _=> [(2,.int .i64 k),(3,.pointer (some ⟨C,0,none⟩)),(4,.pointer (some ⟨O,0,none⟩)),(6,.pointer (some ⟨D,0,none⟩)),(8,.int .i64 (iK fs l k))]) (fun _=> [ak C [.slice Ap fs.length cp] 24,ak O [.slice y l.length z] 27,ak D [.slice none 0 0] 27]) ?_ ?_
 ·refine aj ?_;refine lV 7 rfl [(2,_),(3,_),(4,_),(6,_),(8,_)] [(26,.bool (decide (dA fs l=0/\(k<0\/10000<k))))] ⟨rfl,rfl,rfl,rfl,rfl,trivial⟩ (fun I=>?_) ?_
  ·refine jf (t:=19) rfl (fun p=>?_) (fun p=>?_)
   ·have p:=of_decide_eq_true p;refine dh 22 (fun v=>?_) (fun v=>?_)
    ·have v:=of_decide_eq_true v;refine aC ?_;refine aC ?_;refine aC ?_;refine aC ?_;refine bj (t:=26) (v':= .bool (decide (dA fs l=0/\(k<0\/10000<k)))) rfl (congrArg Value.bool (decide_eq_true ⟨p,.inl v⟩).symm) ?_;exact fL I ⟨rfl,rfl,rfl,rfl,rfl,rfl,trivial⟩
    have v:=of_decide_eq_false v;refine aC ?_;refine aC ?_;refine aC ?_;refine aC ?_;refine bj (t:=26) (v':= .bool (decide (dA fs l=0/\(k<0\/10000<k)))) rfl (congrArg Value.bool (decide_eq_decide.2 ⟨fun q=>⟨p,.inr q⟩,fun q=>q.2.resolve_left v⟩)) ?_;exact fL I ⟨rfl,rfl,rfl,rfl,rfl,rfl,trivial⟩
   have p:=of_decide_eq_false p;refine aC ?_;refine aC ?_;refine aC ?_;refine aC ?_;refine aC ?_;refine aC ?_;refine aC ?_;refine bj (t:=26) (v':= .bool (decide (dA fs l=0/\(k<0\/10000<k)))) rfl (congrArg Value.bool (decide_eq_false (fun q=>p q.1)).symm) ?_;exact fL I ⟨rfl,rfl,rfl,rfl,rfl,rfl,trivial⟩
  refine ax (fun j=>?_) (fun j=>?_)
  ·refine aj ?_;refine bj (t:=8) (v':= .int .i64 (iK fs l k)) rfl (by unfold iK;rw[if_pos j]) ?_;refine lq () trivial
  refine cT (t:=8) (v':= .int .i64 (iK fs l k)) rfl (by unfold iK;rw[if_neg j])<|aj ?_;refine bX () trivial
 rintro⟨⟩ _;refine aP ?_;refine jP rfl (fun i=>?_) (fun i=>?_)
 ·have i:¬iK fs l k=0:=i;have e:r= []:=by rw[<-U];unfold lS;rw[if_neg i]
  subst e;refine aj ?_;intro w h;exact⟨(none,0),trivial,rfl,(Cw.nilO av h).msub ms⟩
 have i:iK fs l k=0:=i;obtain⟨ad,L⟩:=Ha i;have u:=pO ad;have:=u.n4;obtain⟨j,M⟩:∃j,mQ (pV fs l k)=j:=⟨_,rfl⟩
 have e:j.1=r:=by rw[<-U,<-M];unfold lS;rw[if_pos i]
 have T:j.1.length=l.length:=by rw[<-M,sU,mg]
 refine aj ?_;refine fun E _=>aj ?_;refine dm (fun w q=>Cw.nilO av q) ?_;refine cZ (fun g:Nat×Option Addr×Nat=>g.1<=l.length) (fun g=>l.length - g.1) (fun g=> [(2,.int .i64 k),(3,.pointer (some ⟨C,0,none⟩)),(6,.pointer (some ⟨D,0,none⟩)),(9,.pointer (some ⟨E,0,none⟩)),(34,.slice y l.length z),(35,.int .i64 (l.length:Int)),(36,.int .i64 (g.1:Int))]) (fun g=> [ak E [.slice g.2.1 (((l.take g.1).map fun m=>(fW fs m k).1)).length g.2.2] 148,an (.slice g.2.1 (((l.take g.1).map fun m=>(fW fs m k).1)).length g.2.2) (((l.take g.1).map fun m=>(fW fs m k).1)),ak C [.slice Ap fs.length cp] 24,ak D [.slice none 0 0] 27]) (0,none,0) (aS _) ?_;rintro⟨d,G,J⟩ S
 try dsimp only
 have S:d<=l.length:=S;have:((l.take d).map fun m=>(fW fs m k).1).length=d:=by rw[aL,aB];omega
 refine ax (fun a1=>?_) (fun a1=>?_)
 ·have K:d<l.length:=by omega
  obtain⟨a,a2,am⟩:=F.mc K;have R:=u.r _ (gA K);obtain⟨x,N⟩:∃x,fW fs (ay l d) k=x:=⟨_,rfl⟩
  have al:aI x.1.S/\aI x.1.T:=by rw[<-N];exact lP (wn u.f _ k R L.1).right
  have a3:((l.take (d+1)).map fun m=>(fW fs m k).1)=((l.take d).map fun m=>(fW fs m k).1)++ [x.1]:=by rw[rJ K,db,<-N];rfl
  refine aj ?_;refine cP d rfl (.ro F) ?_;refine iC rfl (am _)<|aj ?_;refine fun a5 _=>aj ?_;refine eu rfl Tryz.call98 (fun w h=>NX Ap cp fs a (ay l d) k x N w (h.ro V) (a2.ro h) u.f R L) (fun b _=>aj ?_);intro Z _;refine dN (dk _ fc cn rfl rfl rfl rfl rfl (by rfl) rfl (by rfl)) rfl rfl (fun _ _=>?_);refine aC ?_;refine bL<|eP [0,3,6,9,12,15,18,23,26,27,30,33,38] [12] rfl [ak E [.slice G ((l.take d).map fun m=>(fW fs m k).1).length J] 148,ak Z [.slice b.Af x.1.F.length b.cf,.slice b.Ab x.1.B.length b.cb,.slice b.Ai x.1.I.length b.ci,.slice b.Ao x.1.out.length b.co,.int .i64 x.1.S,.int .i64 x.1.T] 43]<|aj ?_;intro a6 _;refine pE rfl (cz (α:=av) (bytes:=112) x.1 [an (.slice b.Af x.1.F.length b.cf) x.1.F,an (.slice b.Ab x.1.B.length b.cb) x.1.B,an (.slice b.Ai x.1.I.length b.ci) x.1.I,an (.slice b.Ao x.1.out.length b.co) x.1.out] a3 dz (aU kl) rfl (sT fc fc fc fc fc fc) (nX al) (by omega) (by omega) rfl rfl rfl) (fun⟨W,X⟩ _=>?_);refine aP ?_;refine cG (d+1,W,X) (by show d+1<=_;omega) (by show _ - _<_ - _;omega)
 obtain rfl:d=l.length:=by omega
 have Y:((l.take l.length).map fun m=>(fW fs m k).1)=pV fs l k:=by rw[aR];rfl
 rw[Y,mg];refine aj ?_;refine du rfl Tryz.call97 (fun w h=>E1 E l.length J G fs (pV fs l k) (mg fs l k) (uL u L.1) ⟨u.n0,u.n4⟩ j M w (h.msub (.s fc (.s fc .r)))) (fun _ _=>aj ?_);intro w h;refine⟨(G,J),trivial,?_,?_⟩
 ·rw[<-e,T,i]
 rw[<-e,T];exact h.msub ms
end
section
theorem RH {fs:List aw} {l:List av} {i z:Int} (d:dA fs l=0) (e:¬i<0) (g:¬(l.length:Int)<=i):(!bT z)=decide (dA fs l=0/\(i<0\/(l.length:Int)<=i\/bT z=false)):=by
 cases hi:bT z with
 | false=>exact(decide_eq_true ⟨d,.inr (.inr rfl)⟩).symm
 | true=>exact(decide_eq_false (fun b=>b.2.elim e fun b=>b.elim g fun b=>by cases b)).symm
theorem vX (Ap v:Option Addr) (cp y:Nat) (fs:List aw) (l:List av) (i z:Int) (U:aI z) (r:List av) (F:lT fs l i z=r) (w:World) (T:Sl w (ac Ap fs.length cp) fs) (E:Sl w (ac v l.length y) l) (S:oI l) :
  Calls Tryz.prog 39 #[.agg #[ac Ap fs.length cp],.agg #[ac v l.length y],ai i,ai z] w fun e w'=> ∃g:Option Addr×Nat,True/\e= .returned (.tuple #[.agg #[ac g.1 r.length g.2],ai (jl fs l i z)])/\Cw w.heap.size w [an (ac g.1 r.length g.2) r] w':=by
 have:=bx E;refine enter Tryz.func39 rfl Tryz.ntmps39 rfl<|aj ?_;refine fun N _=>aj ?_;refine fun I _=>aj ?_;refine fun J _=>aj ?_;refine cO rfl Kb (fun w b=>pd Ap v cp y fs l w (b.ro T) (b.ro E) S) ?_;refine aC ?_;refine bL<|dG (fun _:Unit=>True) (fun _=> [(2,ai i),(3,ai z),(5,af I),(8,af J),(10,ai (jb fs l i z))]) (fun _=> [ak N [ac Ap fs.length cp] 24,ak I [ac v l.length y] 27,ak J [ac none 0 0] 27]) ?_ ?_
 ·refine aj ?_;refine lV 15 rfl [(2,_),(3,_),(5,_),(8,_),(10,_)] [(32,.bool (decide (dA fs l=0/\(i<0\/(l.length:Int)<=i\/bT z=false))))] ⟨rfl,rfl,rfl,rfl,rfl,trivial⟩ (fun D=>?_) ?_
  ·refine jf (t:=17) rfl (fun h=>?_) (fun h=>?_)
   ·have h:=of_decide_eq_true h;refine dh 20 (fun q=>?_) (fun q=>?_)
    ·have q:=of_decide_eq_true q;refine aC ?_;refine aC ?_;refine aC ?_;refine aC ?_;refine aC ?_;refine aC ?_;refine aC ?_;refine aC ?_;refine aC ?_;refine aC ?_;refine aC ?_;refine aC ?_;exact bj (t:=32) (v':= .bool (decide (dA fs l=0/\(i<0\/(l.length:Int)<=i\/bT z=false)))) rfl (congrArg Value.bool (decide_eq_true ⟨h,.inl q⟩).symm)<|fL D ⟨rfl,rfl,rfl,rfl,rfl,rfl,trivial⟩
    have q:=of_decide_eq_false q;refine dh 27 (fun u=>?_) (fun u=>?_)
    ·have u:(l.length:Int)<=i:=of_decide_eq_true u;refine aC ?_;refine aC ?_;refine aC ?_;refine aC ?_;refine aC ?_;exact bj (t:=32) (v':= .bool (decide (dA fs l=0/\(i<0\/(l.length:Int)<=i\/bT z=false)))) rfl (congrArg Value.bool (decide_eq_true ⟨h,.inr (.inl u)⟩).symm)<|fL D ⟨rfl,rfl,rfl,rfl,rfl,rfl,trivial⟩
    have u:¬(l.length:Int)<=i:=of_decide_eq_false u;refine aj ?_;refine cO rfl T4 (fun w b=>fY (rT z w)) ?_;refine aC ?_;refine aC ?_;refine aC ?_;exact bj (t:=32) (v':= .bool (decide (dA fs l=0/\(i<0\/(l.length:Int)<=i\/bT z=false)))) rfl (congrArg Value.bool (RH h q u))<|fL D ⟨rfl,rfl,rfl,rfl,rfl,rfl,trivial⟩
   have h:=of_decide_eq_false h;refine aC ?_;refine aC ?_;refine aC ?_;refine aC ?_;refine aC ?_;refine aC ?_;refine aC ?_;refine aC ?_;refine aC ?_;refine aC ?_;refine aC ?_;refine aC ?_;refine aC ?_;refine aC ?_;refine aC ?_;refine bj (t:=32) (v':= .bool (decide (dA fs l=0/\(i<0\/(l.length:Int)<=i\/bT z=false)))) rfl (congrArg Value.bool (decide_eq_false (fun C=>h C.1)).symm) ?_;exact fL D ⟨rfl,rfl,rfl,rfl,rfl,rfl,trivial⟩
  refine ax (fun G=>?_) (fun G=>?_)
  ·refine aj ?_;refine bj (t:=10) (v':= ai (jb fs l i z)) rfl (by unfold jb;rw[if_pos G]) ?_;refine lq () trivial
  refine cT (t:=10) (v':= ai (jb fs l i z)) rfl (by unfold jb;rw[if_neg G])<|aj ?_;refine bX () trivial
 rintro⟨⟩ _;refine aP ?_;refine jP rfl (fun d=>?_) (fun d=>?_)
 ·have d:¬jb fs l i z=0:=d;have p:jl fs l i z=jb fs l i z:=by unfold jl;rw[if_pos d]
  have e:r= []:=by rw[<-F];unfold lT;rw[if_neg (by rw[p];exact d)]
  subst e;refine aj ?_;intro w b;exact⟨(none,0),trivial,by rw[p];rfl,(Cw.nilO av b).msub ms⟩
 have d:jb fs l i z=0:=d;obtain⟨R,W,X⟩:=Ee d;have K:=pO R;obtain⟨k,rfl⟩:∃k:Nat,i=k:=⟨i.toNat,ω⟩
 have L:k<l.length:=ω;refine aj ?_;refine eu rfl Tryz.call96 (fun w b=>DQ v y fs l w (b.ro E) K) (fun⟨O,A,c⟩ _=>?_);refine aP ?_;refine du rfl Tryz.call100 (fun w b=>C4 O k l.length c A l z rfl L U (K.r _ (gA L)).ib w (b.msub (.s fc (.s fc .r)))) (fun _ _=>aj ?_);refine cT (t:=43) (v':= .bool (decide ((ay l k).I.length=10))) rfl (by rw[Bool.not_not]) ?_;refine eK rfl (fun j=>?_) (fun j=>?_)
 ·have j:(ay l k).I.length=10:=j;have p:jl fs l k z=7:=by unfold jl;rw[if_neg (fun C=>C d),if_pos (by rw[bu];exact j)]
  have e:r= []:=by rw[<-F];unfold lT;rw[if_neg (by rw[p];decide)]
  subst e;refine aj ?_;intro w b;exact⟨(none,0),trivial,by rw[p];rfl,(Cw.nilO av b).msub ms⟩
 have j:¬(ay l k).I.length=10:=j;have p:jl fs l k z=0:=by unfold jl;rw[if_neg (fun C=>C d),if_neg (by rw[bu];exact j)]
 have e:l.set k (gT (ay l k) z)=r:=by rw[<-F];unfold lT;rw[if_pos p,bu]
 have M:r.length=l.length:=by rw[<-e,bS]
 rw[if_neg j,e];refine aj ?_;intro w b;refine⟨(A,c),trivial,?_,?_⟩
 ·rw[M,p]
 rw[M];exact b.msub ms
end
section
instance:hZ (List Int) jA where
 parts h xs:= [an h.v xs]
 ok _ _:=True
 kk:=rfl
 tt:=rfl
 opn {w F cs xs} h:=by
  obtain⟨u,hcs,ho⟩:=h
  exact⟨⟨u⟩,⟨hcs,sd ho⟩,trivial,F,fun _=>False,ho,fun _ h=>h,fun _ _ h=>h,fun b=>by simp⟩
 cls {w F h xs} _ _ hH:=wM (u:=h.v) (ys:=xs) w F hH
section
variable {α η:Type} [Ow α] [dc η] [hZ α η] {P:Program} {n:NF} {B:Nat} {w0:World} {Q:Exit->Act->World->Prop} {env:cS} {H H':List aO} {x:Code} {ops:Array Oper} {os:List Oper}
structure Pc (B:Nat) (w0:World) (X:aO) (L:List α) (k:Nat) (hs:List η) (q:η) (y:α):Prop where
 len:hs.length=L.length
 hd:hs[k]? =some q
 at_:L[k]? =some y
 wf:dc.wf q
 ok:hZ.ok q y
 back:∀(v:Value) (q':η) (y':α) H w,hZ.ok q' y'->Cw B w0 (an v (hs.set k q')::(hZ.parts q' y'++X::H)) w->Cw B w0 (an v (L.set k y')::H) w
theorem EK {β:Type} (a:β) (A:List β) (x:β) (H:List β):(A++x::a::H).Perm (a::(A++x::H)):=by
 have:=(List.Perm.append_left A (List.Perm.swap a x H)).trans (List.perm_middle (a:=a) (l₁:=A) (l₂:=x::H));exact this
theorem TV {v:Value} {L:List α} {k:Nat} (D:k<L.length) (E:cu H (an v L) H') {w:World} (G:Cw B w0 H w) :
  ∃(h:aO) (t:List η) (q:η) (y:α),Pc B w0 h L k t q y/\Cw B w0 (an v t::(hZ.parts q y++h::H')) w:=by
 obtain⟨l,d,r,i⟩:=wF (G.perm E);have b:k<l.length:=by rw[<-aL (f:=Prod.snd),d];exact D
 have C:=rZ b (i.perm (List.Perm.swap ..));have I:dc.wf l[k].1:=lD i .a (kz (cV b));refine⟨cJ (l.eraseIdx k),l.map Prod.fst,l[k].1,l[k].2,⟨by rw[<-d,aL,aL],by rw[dd,aq b];rfl,by rw[<-d,dd,aq b];rfl,I,r _ (cV b),fun K e g J M F z=>?_⟩,C.perm (EK _ _ _ _)⟩;have j:=xx (q:=(e,g)) b (z.perm (EK _ _ _ _).symm);have u:(l.map Prod.fst).set k e=(l.set k (e,g)).map Prod.fst:=by rw[List.map_set]
 rw[u] at j;have p:=qL (r.set (q:=(e,g)) F) (j.perm (List.Perm.swap ..));rw[List.map_set,d] at p;exact p
theorem getD_some {β:Type} {l:List β} {k:Nat} {q:β} (h:l[k]? =some q) (d:β):l.getD k d=q:=by rw[ap,h];rfl
theorem Pc.put {e:aO} {L:List α} {k:Nat} {d:List η} {q:η} {y:α} (h:Pc B w0 e L k d q y) (v:Value) (b:α) (H:List aO) (w:World) (i:hZ.ok q b) (g:Cw B w0 (an v d::(hZ.parts q b++e::H)) w):Cw B w0 (an v (L.set k b)::H) w:=
 h.back v q b H w i (by
  have:=uF d k q;rw[getD_some h.hd q] at this;rw[this];exact g)
theorem Mf {v:Value} {L:List α} {k:Nat} (j:k<L.length) (p:cu H (an v L) H') (h:∀(b:aO) (d:List η) (q:η) (y:α),Pc B w0 b L k d q y->CW P n B w0 x Q env (an v d::(hZ.parts q y++b::H'))):CW P n B w0 x Q env H:=fun a t i r=>by
 obtain⟨b,d,q,y,e,g⟩:=TV j p r;exact h b d q y e a t i g
theorem rU {A:Type} [Ow A] {v:Value} {L:List A} (i:cu H (an v L) H') (h:∀(D:Option Addr) (c:Nat),v= ac D L.length c->CW P n B w0 x Q env H):CW P n B w0 x Q env H:=fun a j g b=>by
 obtain⟨p,e,_⟩:=b.rd i;obtain⟨D,c,d,_⟩:=(da.sl e).form;exact h D c d a j g b
theorem lM {A:Type} [Ow A] {D:Option Addr} {m c:Nat} {L:List A} (i:cu H (an (ac D m c) L) H') (h:m<=140737488355328->CW P n B w0 x Q env H):CW P n B w0 x Q env H:=fun a j g d=>by
 obtain⟨p,b,_⟩:=d.rd i;have e:L.length=m:=bO.len_eq (da.sl b);subst e;exact h (bx (da.sl b)) a j g d
end
theorem rq {B:Nat} {w0:World} {H:List aO} (A:Option Addr) (c n:Nat) (xs:List Int) (p:xs.length=n) (w:World) (d:Cw B w0 (an (ac A n c) xs::H) w) :
  Calls Tryz.prog 43 #[ac A n c] w fun e w'=> ∃ys:List Int,ys.length=n/\e= .returned (.tuple #[])/\Cw B w0 (an (ac A n c) ys::H) w':=by
 refine bI Tryz.func43 rfl Tryz.ntmps43 rfl d<|lM fc fun q=>?_;refine aj ?_;refine cZ (fun b:Nat×List Int=>b.1<=n/\b.2.length=n) (fun b=>n - b.1) (fun b=> [(0,ac A n c),(2,ai (b.1:Int))]) (fun b=>an (ac A n c) b.2::H) (0,xs) (⟨aS _,p⟩) ?_;rintro⟨k,ys⟩ h
 try dsimp only
 obtain⟨h,g⟩:k<=n/\ys.length=n:=h;refine ax (fun j=>?_) (fun j=>?_)
 ·have i:k<n:=ω;refine aj ?_;refine cP k rfl (SF.own g fc) ?_;refine oE (Ld (k:=k) (z:= -7) rfl fc i κ aZ rfl rfl rfl) (fun _ _=>aj ?_);refine cG (k+1,ys.set k (-7)) (⟨by show k+1<=_;omega,by show (ys.set k (-7)).length=n;rw[bS];exact g⟩) (by show _ - _<_ - _;omega)
 refine aj ?_;intro w d;exact⟨ys,g,rfl,d.msub ms⟩
end
section
theorem IK {B:Nat} {w0:World} {H:List aO} (a:MA) (m:av) (w:World) (h:Cw B w0 (RM a m H) w) :
  Calls Tryz.prog 42 #[.agg #[ac a.Af m.F.length a.cf,ac a.Ab m.B.length a.cb,ac a.Ai m.I.length a.ci,ac a.Ao m.out.length a.co,ai m.S,ai m.T]] w fun e w'=> ∃_:Unit,True/\e= .returned (.tuple #[])/\Cw B w0 H w':=by
 refine bI Tryz.func42 rfl Tryz.ntmps42 rfl h<|lM (D:=a.Af) (m:=m.F.length) (c:=a.cf) (L:=m.F) fc fun bc=>?_;refine lM (D:=a.Ab) (m:=m.B.length) (c:=a.cb) (L:=m.B) fc fun bb=>?_;refine aj ?_;refine fun y _=>aj ?_;refine cZ (fun d:Nat×List (List Int)=>d.1<=m.B.length/\d.2.length=m.B.length) (fun d=>m.B.length - d.1) (fun d=> [(1,af y),(2,ai (d.1:Int))]) (fun d=>ak y (ah a m) 43::an (ac a.Ab m.B.length a.cb) d.2::ag a.Af a.cf m.F::ag a.Ai a.ci m.I::ag a.Ao a.co m.out::H) (0,m.B) (⟨aS _,rfl⟩) ?_;rintro⟨k,p⟩ Z
 try dsimp only
 obtain⟨Z,U⟩:k<=m.B.length/\p.length=m.B.length:=Z;refine ax (fun a5=>?_) (fun a5=>?_)
 ·have a4:k<m.B.length:=ω;refine Mf (v:= ac a.Ab m.B.length a.cb) (L:=p) (k:=k) ω fc fun K i S b z=>?_;obtain⟨a0⟩:=S;refine dm (fun w (C:Cw _ _ (an (ac a.Ab m.B.length a.cb) i::an a0 b::K::_) w)=>C) ?_;refine rU (v:=a0) (L:=b) fc fun J a1 e=>?_;subst e;have D:=z.hd;have q:i.length=m.B.length:=z.len.trans U;refine aj ?_;refine cP k rfl ((SF.own (xs:=i) q fc)) ?_;refine ef rfl (fun w h=>by have:=SF.hdr (SF.own (xs:=i) q fc) a4 w h;rw[getD_some D] at this;exact this) ?_;refine du rfl T5 (fun w h=>rq J a1 b.length b rfl w (h.msub (.s fc .r))) (fun T bl=>aj ?_);refine cG (k+1,p.set k T) (⟨by show k+1<=_;omega,by show (p.set k T).length=_;rw[bS];exact U⟩) (by show _ - _<_ - _;omega) (hh:=(fun w C=>(z.put (ac a.Ab m.B.length a.cb) T _ w trivial (C.msub (.s fc (.s fc (.s fc .r))))).msub ms))
 refine aj ?_;refine du rfl T5 (fun w h=>rq a.Ai a.ci m.I.length m.I rfl w (h.msub (.s fc .r))) (fun bn bi=>aj ?_);refine du rfl T5 (fun w h=>rq a.Ao a.co m.out.length m.out rfl w (h.msub (.s fc .r))) (fun bo bk=>aj ?_);refine cZ (fun d:Nat×List aK=>d.1<=m.F.length/\d.2.length=m.F.length) (fun d=>m.F.length - d.1) (fun d=> [(1,af y),(3,ai (d.1:Int))]) (fun d=>ak y (ah a m) 43::an (ac a.Af m.F.length a.cf) d.2::H) (0,m.F) (⟨aS _,rfl⟩) ?_;rintro⟨j,M⟩ Y
 try dsimp only
 obtain⟨Y,V⟩:j<=m.F.length/\M.length=m.F.length:=Y;refine ax (fun a6=>?_) (fun a6=>?_)
 ·have L:j<m.F.length:=ω;refine Mf (v:= ac a.Af m.F.length a.cf) (L:=M) (k:=j) ω fc fun K i S b z=>?_;obtain⟨N,bm,al,am⟩:=S;refine dm (fun w (C:Cw _ _ (an (ac a.Af m.F.length a.cf) i::an al b.L::an am b.K::K::_) w)=>C) ?_;refine rU (v:=al) (L:=b.L) fc fun E G e=>?_;subst e;refine rU (v:=am) (L:=b.K) fc fun F I e=>?_;subst e;refine lM (D:=E) (m:=b.L.length) (c:=G) (L:=b.L) fc fun a9=>?_;refine lM (D:=F) (m:=b.K.length) (c:=I) (L:=b.K) fc fun ba=>?_;have D:=z.hd;have q:i.length=m.F.length:=z.len.trans V;have ad:aF.wf _:=z.wf;refine aj ?_;refine cZ (fun d:Nat×List aD=>d.1<=b.L.length/\d.2.length=b.L.length) (fun d=>b.L.length - d.1) (fun d=> [(1,af y),(3,ai (j:Int)),(4,ai (d.1:Int))]) (fun d=>ak y (ah a m) 43::an (ac a.Af m.F.length a.cf) i::an (ac E b.L.length G) d.2::ag F I b.K::K::H) (0,b.L) (⟨aS _,rfl⟩) ?_;rintro⟨r,g⟩ W
  try dsimp only
  obtain⟨W,O⟩:r<=b.L.length/\g.length=b.L.length:=W;refine aj ?_;refine cP j rfl ((SF.own (xs:=i) q fc))<|aj ?_;refine ef rfl (fun w h=>SF.cell (SF.own (xs:=i) q fc) L default (j:=2) (by rw[getD_some D];rfl) w h)<|ax (fun a7=>?_) (fun a7=>?_)
  ·have a2:r<b.L.length:=ω;refine aj ?_;refine cP j rfl ((SF.own (xs:=i) q fc))<|aj ?_;refine ef rfl (fun w h=>SF.cell (SF.own (xs:=i) q fc) L default (j:=2) (by rw[getD_some D];rfl) w h)<|aj ?_;refine cP r rfl ((SF.own (xs:=g) O fc)) ?_;refine aC ?_;refine oE (jT (α:=aD) (A:=E) (c:=G) (m:=b.L.length) (f:=1) (us:= [ai (-7)]) ⟨(g.getD r default).ref, -7⟩ default rfl fc a2 (by show aI (-7);decide) aZ rfl rfl rfl rfl rfl rfl rfl rfl) (fun _ _=>aj ?_);refine cG (r+1,g.set r ⟨(g.getD r default).ref, -7⟩) (⟨by show r+1<=_;omega,by show (g.set r _).length=_;rw[bS];exact O⟩) (by show _ - _<_ - _;omega)
  refine aj ?_;refine cZ (fun d:Nat×List aD=>d.1<=b.K.length/\d.2.length=b.K.length) (fun d=>b.K.length - d.1) (fun d=> [(1,af y),(3,ai (j:Int)),(5,ai (d.1:Int))]) (fun d=>ak y (ah a m) 43::an (ac a.Af m.F.length a.cf) i::an (ac E b.L.length G) g::an (ac F b.K.length I) d.2::K::H) (0,b.K) (⟨aS _,rfl⟩) ?_;rintro⟨t,u⟩ X
  try dsimp only
  obtain⟨X,R⟩:t<=b.K.length/\u.length=b.K.length:=X;refine aj ?_;refine cP j rfl ((SF.own (xs:=i) q fc))<|aj ?_;refine ef rfl (fun w h=>SF.cell (SF.own (xs:=i) q fc) L default (j:=3) (by rw[getD_some D];rfl) w h)<|ax (fun a8=>?_) (fun a8=>?_)
  ·have a3:t<b.K.length:=ω;refine aj ?_;refine cP j rfl ((SF.own (xs:=i) q fc))<|aj ?_;refine ef rfl (fun w h=>SF.cell (SF.own (xs:=i) q fc) L default (j:=3) (by rw[getD_some D];rfl) w h)<|aj ?_;refine cP t rfl ((SF.own (xs:=u) R fc)) ?_;refine aC ?_;refine oE (jT (α:=aD) (A:=F) (c:=I) (m:=b.K.length) (f:=1) (us:= [ai (-7)]) ⟨(u.getD t default).ref, -7⟩ default rfl fc a3 (by show aI (-7);decide) aZ rfl rfl rfl rfl rfl rfl rfl rfl) (fun _ _=>aj ?_);refine cG (t+1,u.set t ⟨(u.getD t default).ref, -7⟩) (⟨by show t+1<=_;omega,by show (u.set t _).length=_;rw[bS];exact R⟩) (by show _ - _<_ - _;omega)
  refine aj ?_;refine cP j rfl ((SF.own (xs:=i) q fc)) ?_;refine aC ?_;refine oE (jT (α:=aF) (A:=a.Af) (c:=a.cf) (m:=m.F.length) (f:=1) (us:= [ai (-7)]) ⟨N, -7,ac E b.L.length G,ac F b.K.length I⟩ default rfl fc L ⟨⟨ad.1.1,by show aI (-7);decide⟩,ad.2⟩ aZ rfl rfl rfl rfl rfl rfl (by rw[getD_some D];rfl) rfl) (fun _ _=>aj ?_);have:g.length=b.L.length:=O;have:u.length=b.K.length:=R;refine cG (j+1,M.set j ⟨N, -7,g,u⟩) (⟨by show j+1<=_;omega,by show (M.set j _).length=_;rw[bS];exact V⟩) (by show _ - _<_ - _;omega) (hh:=(fun w C=>(z.back (ac a.Af m.F.length a.cf) ⟨N, -7,ac E b.L.length G,ac F b.K.length I⟩ ⟨N, -7,g,u⟩ _ w ⟨rfl,rfl⟩ (C.msub (.s fc (.s fc (.s fc (.s fc .r)))))).msub ms))
 refine aj ?_;intro w h;exact⟨(),trivial,rfl,h.msub ms⟩
end
