/- Lemmas of one proof. -/
import Derived.Test.YthfkmcbblnbfaaaGreatDoorM90E
import Derived.Test.YthfkmcbblnbfaaaGreatDoorM0E
import Derived.Test.YthfkmcbblnbfaaaGreatDoorM54E

namespace Go.Proofs.YthfkmcbblnbfaaaGreatDoor
set_option maxRecDepth 100000
set_option maxHeartbeats 16000000
open Go.RowKit
section
section
variable {B:Nat} {w0:World} {H:List aP}
theorem mD.map {α β γ δ:Type} {a:Nat} {r:Option (α×List UInt8)} {k:Option (β×List UInt8)} {val:α->γ->Value} {n:β->δ->Value} {l:α->γ->List aP} {m:β->δ->List aP} {H H':List aP} {e:Ending} {w:World} (h:mD B w0 a r val l H e w) (f:α->γ->β) (d:α->γ->δ)
  (q:∀x t g,r=some (x,t)->k=some (f x g,t)/\val x g=n (f x g) (d x g)/\∀w,Cw B w0 (ak a [.string ⟨t.toArray⟩] 235::l x g) w->Cw B w0 (ak a [.string ⟨t.toArray⟩] 235::m (f x g) (d x g)) w) (h2:r=none->k=none) (s:∀w,Cw B w0 H w->Cw B w0 H' w):mD B w0 a k n m H' e w:=by
 rcases h with ⟨⟨⟨x,t⟩,g⟩,b,i,j⟩ | ⟨o,b,⟨i,j⟩,p⟩
 ·obtain⟨u,v,y⟩:=q x t g b;exact .inl ⟨((f x g,t),d x g),u,i.trans (congrArg _ v),y _ j⟩
 exact .inr ⟨o,b,⟨h2 i,j⟩,s _ p⟩
theorem zD (l:List UInt8):aI (eb l):=by
 have:=tN l;unfold bP at this;simp only[dv,decide_eq_true_eq] at this;unfold aI;omega
theorem Io (b h d:Nat) (s:List UInt8) (a:List Int) (A:Option Addr) (c:Nat) (t:s.length<=140737488355320) (r:a.length<=254) (w:World)
  (f:Cw B w0 (ak b [.string ⟨s.toArray⟩] 235::ak h [ac A a.length c] 35::an (ac A a.length c) a::ak d [af b] 233::H) w) :
  Calls Tryz.prog 281 #[af h,af d] w (mD B w0 b (nw s) (fun _ (_:Option Addr×Nat)=> .tuple #[])
   (fun x g=>ak h [ac g.1 (a++ [x]).length g.2] 35::an (ac g.1 (a++ [x]).length g.2) (a++ [x])::ak d [af b] 233::H) (ak d [af b] 233::H)):=by
 refine bF Tryz.func281 rfl Tryz.ntmps281 rfl f<|wB (.still 0 (.still 1 (.pick 2 (.pick 3 (.pick 4 (.pick 5 (.pick 6 .done .stop) .stop) .stop) .stop) .stop))) [5,6] rfl χ χ [ak h [ac A a.length c] 35,ak d [af b] 233] (fun n w=>(nw s=none/\n=rC)/\Cw B w0 (ak d [af b] 233::H) w) (fun _ _ _ p i=>⟨p,.inr ⟨_,rfl,i⟩⟩) ?_;refine aj ?_;refine DT rfl (ef rfl rfl rfl Vu (fun w f=>vV (H:=ak h [ac A a.length c] 35::ag A c a::ak d [af b] 233::H) b 4 s ω w (f.msub ms))) rfl rfl (.inr fun _=>ha) (fun _ _ i=>⟨⟨by rw[wX,i.1.1];rfl,i.1.2⟩,i.2.msub ms⟩) (fun⟨⟨e,k⟩,_⟩ j=>?_) hZ
 try dsimp only
 have j:kK 4 s=some (e,k):=j;have:=yk j;have o:nw s=some (eb e,k):=by rw[wX,j];rfl
 refine lc rfl rfl Tryz.call213 (fun w f=>uC e w ω)<|aj ?_;intro q _;refine pE rfl (bV (α:=Int) (bytes:=8) (eb e) [] rfl ay (aS cK) rfl (eB fc fc) (df (zD e)) ω ω rfl rfl rfl) (fun⟨l,m⟩ _=>?_);refine aO ?_;refine yt<|sY Tryz.results281 ?_;intro w f;exact .inl ⟨((eb e,k),(l,m)),o,rfl,f.msub ms⟩
theorem vX (b:Nat) (s:List UInt8) (m:s.length<=140737488355320) (w:World) (a:Cw B w0 (ak b [.string ⟨s.toArray⟩] 235::H) w) :
  Calls Tryz.prog 226 #[af b] w (mD B w0 b (mz s) (fun x (g:Option Addr×Nat)=> ac g.1 x.length g.2) (fun x g=>an (ac g.1 x.length g.2) x::H) H):=by
 refine bF Tryz.func226 rfl Tryz.ntmps226 rfl a<|aj ?_;refine fun e _=>aj ?_;refine fun f _=>aj ?_;refine fH (fun w i=>Cw.nilO Int i) ?_;refine fS (ef rfl rfl rfl Rk (fun w a=>sm (H:=ak e [af b] 233::H) b 281 [af f,af e] nw uP (fun d (g:Option Addr×Nat)=> [ak f [ac g.1 d.length g.2] 35,ag g.1 g.2 d]) Tryz.call281 (fun s d g w j k a=>Io b f e s d g.1 g.2 j k w a) s (none,0) m w (a.msub ms))) rfl rfl (fun _ _ _ l h=>⟨l.2.1,.inr ⟨_,rfl,h.1,h.2.msub ms⟩⟩) (fun⟨⟨x,o⟩,⟨A,c⟩⟩ n=>?_);refine aO ?_;intro w a;exact .inl ⟨((x,o),(A,c)),n,rfl,a.msub ms⟩
theorem xB:sV jO:=fun j h f a=>by
 unfold jO at a
 split at a
 ·cases a
 rename_i e k b
 split at a
 ·cases a
 split at a
 ·cases a
 rename_i i g d;obtain⟨_,rfl⟩:(⟨decide (e=1),i⟩:aD)=h/\g=f:=τ a;exact dS (uP _ _ _ d) (kb b).1
theorem HX {s r:List UInt8} {x:aD} (e:jO s=some (x,r)):aI x.n:=by
 unfold jO at e
 split at e
 ·cases e
 rename_i g i j
 split at e
 ·cases e
 split at e
 ·cases e
 rename_i f d a
 ·obtain⟨rfl,_⟩:(⟨decide (g=1),f⟩:aD)=x/\d=r:=τ e;rw[wX] at a
  cases h:kK 4 i with
  | none=>rw[h] at a;cases a
  | some b=>
   rw[h] at a;obtain⟨rfl,_⟩:eb b.1=f/\b.2=d:=τ a;exact zD _
theorem Ih (d:Nat) (s:List UInt8) (p:s.length<=140737488355320) (w:World) (a:Cw B w0 (ak d [.string ⟨s.toArray⟩] 235::H) w) :
  Calls Tryz.prog 283 #[af d] w (mD B w0 d (jO s) (fun x (_:Unit)=> .agg #[.bool x.ref,ai x.n]) (fun _ _=>H) H):=by
 refine bF Tryz.func283 rfl Tryz.ntmps283 rfl a<|aj ?_;refine fun o _=>aj ?_;refine fS (ef rfl rfl rfl yY (fun w a=>oF d s ω w (a.msub (.s fc .r)))) rfl rfl (fun _ _ _ e b=>⟨e.2.1,.inr ⟨_,rfl,⟨by unfold jO;rw[b.1.1],b.1.2⟩,b.2.msub ms⟩⟩) (fun⟨⟨l,h⟩,_⟩ j=>?_);refine aO ?_;have:=kb j;refine eI rfl (fun i=>?_) (fun i=>?_)
 ·refine aj ?_;refine sE (sJ Mi rfl rfl) ?_;refine lJ rfl rfl rfl ?_;intro f w e a;exact⟨e.2.1,.inr ⟨_,rfl,⟨by unfold jO;rw[j];simp only;rw[if_pos i],rfl⟩,a.msub ms⟩⟩
 have k:jO s=(nw h).map fun m=>((⟨decide (l=1),m.1⟩:aD),m.2):=by
  unfold jO;rw[j];simp only;rw[if_neg i]
  cases nw h <;> rfl
 refine aj ?_;refine fS (ef rfl rfl rfl Vu (fun w a=>vV d 4 h ω w (a.msub (.s fc .r)))) rfl rfl (fun _ _ _ e b=>⟨e.2.1,.inr ⟨_,rfl,⟨by rw[k,wX,b.1.1];rfl,b.1.2⟩,b.2.msub ms⟩⟩) (fun⟨⟨f,n⟩,_⟩ g=>?_)
 try dsimp only
 have g:kK 4 h=some (f,n):=g;have:=yk g;refine cE rfl Tryz.call213 (fun w a=>uC f w ω)<|aj ?_;intro w a;exact .inl ⟨((⟨decide (l=1),eb f⟩,n),()),by rw[k,wX,g];rfl,rfl,a.msub ms⟩
theorem Ii (b e d:Nat) (s:List UInt8) (a:List aD) (A:Option Addr) (c:Nat) (p:s.length<=140737488355320) (r:a.length<=254) (w:World)
  (f:Cw B w0 (ak b [.string ⟨s.toArray⟩] 235::ak e [ac A a.length c] 116::an (ac A a.length c) a::ak d [af b] 233::H) w) :
  Calls Tryz.prog 282 #[af e,af d] w (mD B w0 b (jO s) (fun _ (_:Option Addr×Nat)=> .tuple #[])
   (fun x g=>ak e [ac g.1 (a++ [x]).length g.2] 116::an (ac g.1 (a++ [x]).length g.2) (a++ [x])::ak d [af b] 233::H) (ak d [af b] 233::H)):=by
 refine bF Tryz.func282 rfl Tryz.ntmps282 rfl f<|wB (.still 0 (.still 1 (.pick 2 (.pick 3 (.pick 4 (.pick 5 .done .stop) .stop) .stop) .stop))) [4,5] rfl χ χ [ak e [ac A a.length c] 116,ak d [af b] 233] (fun n w=>(jO s=none/\n=rC)/\Cw B w0 (ak d [af b] 233::H) w) (fun _ _ _ o h=>⟨o,.inr ⟨_,rfl,h⟩⟩) ?_;refine aj ?_;refine DT rfl (ef rfl rfl rfl Tryz.call283 (fun w f=>Ih (H:=ak e [ac A a.length c] 116::ag A c a::ak d [af b] 233::H) b s p w (f.msub ms))) rfl rfl (.inr fun _=>ha) (fun _ _ h=>⟨h.1,h.2.msub ms⟩) (fun⟨⟨j,k⟩,_⟩ i=>?_) hZ;refine aO ?_;intro q _;have i:jO s=some (j,k):=i;refine pE rfl (bV (α:=aD) (bytes:=16) j [] rfl aA (aS dr) rfl (eB fc fc) (df (show aI j.n from HX i)) ω ω rfl rfl rfl) (fun⟨l,m⟩ _=>?_);refine aO ?_;refine yt<|sY Tryz.results282 ?_;intro w f;exact .inl ⟨((j,k),(l,m)),i,rfl,f.msub ms⟩
theorem BT (b:Nat) (s:List UInt8) (m:s.length<=140737488355320) (w:World) (a:Cw B w0 (ak b [.string ⟨s.toArray⟩] 235::H) w) :
  Calls Tryz.prog 230 #[af b] w (mD B w0 b (pC s) (fun x (g:Option Addr×Nat)=> ac g.1 x.length g.2) (fun x g=>an (ac g.1 x.length g.2) x::H) H):=by
 refine bF Tryz.func230 rfl Tryz.ntmps230 rfl a<|aj ?_;refine fun e _=>aj ?_;refine fun f _=>aj ?_;refine fH (fun w i=>Cw.nilO aD i) ?_;refine fS (ef rfl rfl rfl Rk (fun w a=>sm (H:=ak e [af b] 233::H) b 282 [af f,af e] jO xB (fun d (g:Option Addr×Nat)=> [ak f [ac g.1 d.length g.2] 116,ag g.1 g.2 d]) Tryz.call282 (fun s d g w j k a=>Ii b f e s d g.1 g.2 j k w a) s (none,0) m w (a.msub ms))) rfl rfl (fun _ _ _ l h=>⟨l.2.1,.inr ⟨_,rfl,h.1,h.2.msub ms⟩⟩) (fun⟨⟨x,o⟩,⟨A,c⟩⟩ n=>?_);refine aO ?_;intro w a;exact .inl ⟨((x,o),(A,c)),n,rfl,a.msub ms⟩
end
end
section
section
variable {B:Nat} {w0:World} {H:List aP}
theorem L8:(Tryz.prog.info? 35).map (fun i=>(i.zero,i.size,i.bytes))=some (some (ac none 0 0),1,24):=by kernel_rfl
theorem Ir (b e d:Nat) (i j k vs l:Value) (s:List UInt8) (a:List (List Int)) (A:Option Addr) (c:Nat) (v:s.length<=140737488355320) (z:a.length<=254) (w:World)
  (f:Cw B w0 (ak b [.string ⟨s.toArray⟩] 235::ak e [i,ac A a.length c,j,k,vs,l] 43::an (ac A a.length c) a::ak d [af b] 233::H) w) :
  Calls Tryz.prog 228 #[af e,af d] w (mD B w0 b (mz s) (fun _ (_:Option Addr×Nat)=> .tuple #[])
   (fun x g=>ak e [i,ac g.1 (a++ [x]).length g.2,j,k,vs,l] 43::an (ac g.1 (a++ [x]).length g.2) (a++ [x])::ak d [af b] 233::H) (ak d [af b] 233::H)):=by
 refine bF Tryz.func228 rfl Tryz.ntmps228 rfl f<|wB (.still 0 (.still 1 (.still 2 (.pick 3 (.pick 4 (.pick 5 (.calm 6 (.pick 7 .done .stop)) .stop) .stop) .stop)))) [5,6,7] rfl χ χ [ak e [i,ac A a.length c,j,k,vs,l] 43,ak d [af b] 233] (fun r w=>(mz s=none/\r=rC)/\Cw B w0 (ak d [af b] 233::H) w) (fun _ _ _ u h=>⟨u,.inr ⟨_,rfl,h⟩⟩) ?_;refine aj ?_;refine DT rfl (ef rfl rfl rfl Vy (fun w f=>vX (H:=ak e [i,ac A a.length c,j,k,vs,l] 43::ag A c a::ak d [af b] 233::H) b s v w (f.msub ms))) rfl rfl (.inr fun _=>ha) (fun _ _ h=>⟨h.1,h.2.msub ms⟩) (fun⟨⟨x,n⟩,⟨p,t⟩⟩ m=>?_) hZ;refine aO ?_;intro y _;have m:mz s=some (x,n):=m;refine pE rfl (bV (α:=List Int) (bytes:=24) x [ag p t x] rfl eG (aS L8) rfl (C6 fc fc fc) zQ ω ω rfl rfl rfl) (fun⟨o,q⟩ _=>?_);refine aO ?_;refine yt<|sY Tryz.results228 ?_;intro w f;exact .inl ⟨((x,n),(o,q)),m,rfl,f.msub ms⟩
theorem rA:sV pC:=uj xB
theorem qW:sV mz:=uj uP
theorem FY:sV jv:=fun n m j a=>by
 unfold jv at a
 split at a
 ·cases a
 rename_i g o b
 split at a
 ·cases a
 rename_i i p d
 split at a
 ·cases a
 rename_i h q e
 split at a
 ·cases a
 rename_i l k f;obtain⟨_,rfl⟩:(⟨g,i,h,l⟩:aL)=m/\k=j:=τ a;have:=(kb b).1;have:=(kb d).1;have:=rA _ _ _ e;have:=rA _ _ _ f;omega
theorem Iq (d l j:Nat) (p q r vs t:Value) (s:List UInt8) (a:List aL) (A:Option Addr) (c:Nat) (P:s.length<=140737488355320) (O:a.length<=254) (w:World)
  (e:Cw B w0 (ak d [.string ⟨s.toArray⟩] 235::ak l [ac A a.length c,p,q,r,vs,t] 43::an (ac A a.length c) a::ak j [af d] 233::H) w) :
  Calls Tryz.prog 229 #[af j,af l] w (mD B w0 d (jv s) (fun _ (_:Option Addr×Nat)=> .tuple #[])
   (fun x g=>ak l [ac g.1 (a++ [x]).length g.2,p,q,r,vs,t] 43::an (ac g.1 (a++ [x]).length g.2) (a++ [x])::ak j [af d] 233::H) (ak j [af d] 233::H)):=by
 refine bF Tryz.func229 rfl Tryz.ntmps229 rfl e<|aj ?_;refine fS (ef rfl rfl rfl yY (fun w e=>oF (H:=ak l [ac A a.length c,p,q,r,vs,t] 43::ag A c a::ak j [af d] 233::H) d s ω w (e.msub ms))) rfl rfl (fun _ _ _ m b=>⟨m.2.1,.inr ⟨_,rfl,⟨by unfold jv;rw[b.1.1],b.1.2⟩,b.2.msub ms⟩⟩) (fun⟨⟨f,D⟩,_⟩ k=>?_);refine aO ?_;refine fun C _=>aj ?_;have k:mN s=some (f,D):=k;have:=kb k;refine fS (ef rfl rfl rfl yY (fun w e=>oF (H:=ak C [ai f,ai 0,ac none 0 0,ac none 0 0] 118::ak l [ac A a.length c,p,q,r,vs,t] 43::ag A c a::ak j [af d] 233::H) d D ω w (e.msub ms))) rfl rfl (fun _ _ _ m b=>⟨m.2.1,.inr ⟨_,rfl,⟨by unfold jv;rw[k];simp only;rw[b.1.1],b.1.2⟩,b.2.msub ms⟩⟩) (fun⟨⟨i,E⟩,_⟩ o=>?_);refine aO ?_;have o:mN D=some (i,E):=o;have:=kb o;refine fS (ef rfl rfl rfl Tryz.call230 (fun w e=>BT (H:=ak C [ai f,ai i,ac none 0 0,ac none 0 0] 118::ak l [ac A a.length c,p,q,r,vs,t] 43::ag A c a::ak j [af d] 233::H) d E ω w (e.msub ms))) rfl rfl (fun _ _ _ m b=>⟨m.2.1,.inr ⟨_,rfl,⟨by unfold jv;rw[k];simp only;rw[o];simp only;rw[b.1.1],b.1.2⟩,b.2.msub ms⟩⟩) (fun⟨⟨h,F⟩,⟨v,y⟩⟩ u=>?_);refine aO ?_;have u:pC E=some (h,F):=u;have:=rA _ _ _ u;refine fS (ef rfl rfl rfl Tryz.call230 (fun w e=>BT (H:=ak C [ai f,ai i,ac v h.length y,ac none 0 0] 118::ag v y h::ak l [ac A a.length c,p,q,r,vs,t] 43::ag A c a::ak j [af d] 233::H) d F ω w (e.msub ms))) rfl rfl (fun _ _ _ m b=>⟨m.2.1,.inr ⟨_,rfl,⟨by unfold jv;rw[k];simp only;rw[o];simp only;rw[u];simp only;rw[b.1.1],b.1.2⟩,b.2.msub ms⟩⟩) (fun⟨⟨n,G⟩,⟨J,L⟩⟩ z=>?_);refine aO ?_;intro N _;have z:pC F=some (n,G):=z;have M:jv s=some (⟨f,i,h,n⟩,G):=by unfold jv;rw[k];simp only;rw[o];simp only;rw[u];simp only;rw[z]
 refine oE (bV (α:=aL) (bytes:=64) ⟨f,i,h,n⟩ [ag v y h,ag J L n] rfl cP (aS na) rfl (xd fc fc fc fc) (wo (x:=⟨f,i,h,n⟩) ⟨⟨by show _<=f;omega,by show f<=_;omega⟩,⟨by show _<=i;omega,by show i<=_;omega⟩⟩) ω ω rfl rfl rfl) (fun⟨I,K⟩ _=>?_);refine aO ?_;intro w e;exact .inl ⟨((⟨f,i,h,n⟩,G),(I,K)),M,rfl,e.msub ms⟩
end
end
section
section
variable {B:Nat} {w0:World} {H:List aP}
theorem np {s:List UInt8} (h:mB s=none):ko s=none:=by unfold ko;rw[h]
theorem Ip (d:Nat) (s:List UInt8) (Y:s.length<=140737488355320) (w:World) (b:Cw B w0 (ak d [.string ⟨s.toArray⟩] 235::H) w) :
  Calls Tryz.prog 175 #[af d] w fun e w'=>(∃g:av×MA,ko s=some g.1/\e= .returned (.agg #[ac g.2.Af g.1.F.length g.2.cf,ac g.2.Ab g.1.B.length g.2.cb,ac g.2.Ai g.1.I.length g.2.ci,ac g.2.Ao g.1.out.length g.2.co,ai g.1.S,ai g.1.T])/\Cw B w0 (an (ac g.2.Af g.1.F.length g.2.cf) g.1.F::an (ac g.2.Ab g.1.B.length g.2.cb) g.1.B::an (ac g.2.Ai g.1.I.length g.2.ci) g.1.I::an (ac g.2.Ao g.1.out.length g.2.co) g.1.out::H) w')\/∃S,e= .panicked S/\(ko s=none/\S=rC)/\Cw B w0 H w':=by
 refine bF Tryz.func175 rfl Tryz.ntmps175 rfl b<|aj ?_;refine fun j _=>aj ?_;refine fun x _=>aj ?_;refine fS (ef rfl rfl rfl yY (fun w b=>oF (H:=ak j [af d] 233::ak x [ac none 0 0,ac none 0 0,ac none 0 0,ac none 0 0,ai 0,ai 0] 43::H) d s ω w (b.msub ms))) rfl rfl (fun _ _ _ f a=>⟨f.2.1,.inr ⟨_,rfl,⟨np (by unfold mB;rw[a.1.1]),a.1.2⟩,a.2.msub ms⟩⟩) (fun⟨⟨n,N⟩,_⟩ l=>?_);refine aO ?_;refine fun m _=>aj ?_;have l:mN s=some (n,N):=l;have:=kb l;refine fS (ef rfl rfl rfl yY (fun w b=>oF (H:=ak m [ac none 0 0,ac none 0 0,ac none 0 0,ac none 0 0,ai n,ai 0] 43::ak j [af d] 233::ak x [ac none 0 0,ac none 0 0,ac none 0 0,ac none 0 0,ai 0,ai 0] 43::H) d N ω w (b.msub ms))) rfl rfl (fun _ _ _ f a=>⟨f.2.1,.inr ⟨_,rfl,⟨np (by unfold mB;rw[l];simp only;rw[a.1.1]),a.1.2⟩,a.2.msub ms⟩⟩) (fun⟨⟨p,O⟩,_⟩ o=>?_);refine aO ?_;have o:mN N=some (p,O):=o;have:=kb o;refine fS (ef rfl rfl rfl Vy (fun w b=>vX (H:=ak m [ac none 0 0,ac none 0 0,ac none 0 0,ac none 0 0,ai n,ai p] 43::ak j [af d] 233::ak x [ac none 0 0,ac none 0 0,ac none 0 0,ac none 0 0,ai 0,ai 0] 43::H) d O ω w (b.msub ms))) rfl rfl (fun _ _ _ f a=>⟨f.2.1,.inr ⟨_,rfl,⟨np (by unfold mB;rw[l];simp only;rw[o];simp only;rw[a.1.1]),a.1.2⟩,a.2.msub ms⟩⟩) (fun⟨⟨h,P⟩,⟨q,t⟩⟩ u=>?_);refine aO ?_;have u:mz O=some (h,P):=u;have:=qW _ _ _ u;refine fS (ef rfl rfl rfl Vy (fun w b=>vX (H:=ak m [ac none 0 0,ac none 0 0,ac q h.length t,ac none 0 0,ai n,ai p] 43::ag q t h::ak j [af d] 233::ak x [ac none 0 0,ac none 0 0,ac none 0 0,ac none 0 0,ai 0,ai 0] 43::H) d P ω w (b.msub ms))) rfl rfl (fun _ _ _ f a=>⟨f.2.1,.inr ⟨_,rfl,⟨np (by unfold mB;rw[l];simp only;rw[o];simp only;rw[u];simp only;rw[a.1.1]),a.1.2⟩,a.2.msub ms⟩⟩) (fun⟨⟨k,Q⟩,⟨y,z⟩⟩ v=>?_);refine aO ?_;have v:mz P=some (k,Q):=v;have:=qW _ _ _ v;refine fH (fun w I=>Cw.nilO (List Int) I) ?_;refine fS (ef rfl rfl rfl Rk (fun w b=>sm (H:=ak j [af d] 233::ag q t h::ag y z k::ak x [ac none 0 0,ac none 0 0,ac none 0 0,ac none 0 0,ai 0,ai 0] 43::H) d 228 [af m,af j] mz qW (fun i (g:Option Addr×Nat)=> [ak m [ac none 0 0,ac g.1 i.length g.2,ac q h.length t,ac y k.length z,ai n,ai p] 43,ag g.1 g.2 i]) Tryz.call228 (fun s i g w J K b=>Ir d m j _ _ _ _ _ s i g.1 g.2 J K w b) Q (none,0) ω w (b.msub ms))) rfl rfl (fun _ _ _ f a=>⟨f.2.1,.inr ⟨_,rfl,⟨np (by unfold mB;rw[l];simp only;rw[o];simp only;rw[u];simp only;rw[v];simp only;rw[a.1.1]),a.1.2⟩,a.2.msub ms⟩⟩) (fun⟨⟨r,R⟩,⟨E,F⟩⟩ C=>?_);refine aO ?_;have C:jQ mz Q=some (r,R):=C;have:=uj qW _ _ _ C;refine fH (fun w I=>Cw.nilO aL I) ?_;refine fS (ef rfl rfl rfl Rk (fun w b=>sm (H:=ak j [af d] 233::ag E F r::ag q t h::ag y z k::ak x [ac none 0 0,ac none 0 0,ac none 0 0,ac none 0 0,ai 0,ai 0] 43::H) d 229 [af j,af m] jv FY (fun i (g:Option Addr×Nat)=> [ak m [ac g.1 i.length g.2,ac E r.length F,ac q h.length t,ac y k.length z,ai n,ai p] 43,ag g.1 g.2 i]) Tryz.call229 (fun s i g w J K b=>Iq d m j _ _ _ _ _ s i g.1 g.2 J K w b) R (none,0) ω w (b.msub ms))) rfl rfl (fun _ _ _ f a=>⟨f.2.1,.inr ⟨_,rfl,⟨np (by unfold mB;rw[l];simp only;rw[o];simp only;rw[u];simp only;rw[v];simp only;rw[C];simp only;rw[a.1.1]),a.1.2⟩,a.2.msub ms⟩⟩) (fun⟨⟨D,U⟩,⟨V,W⟩⟩ G=>?_);refine aO ?_;have G:jQ jv R=some (D,U):=G;have T:mB s=some (⟨D,r,h,k,n,p⟩,U):=by unfold mB;rw[l];simp only;rw[o];simp only;rw[u];simp only;rw[v];simp only;rw[C];simp only;rw[G]
 refine sE (D3 rfl rfl rfl)<|cF (fun L=>?_) (fun L=>?_)
 ·have M:ko s=none:=by unfold ko;rw[T];simp only;rw[if_neg L]
  refine aj ?_;refine sE (sJ Mi rfl rfl) ?_;refine lJ rfl rfl rfl ?_;intro X w f b;exact⟨f.2.1,.inr ⟨_,rfl,⟨M,rfl⟩,b.msub ms⟩⟩
 have M:ko s=some ⟨D,r,h,k,n,p⟩:=by unfold ko;rw[T];simp only;rw[if_pos L]
 refine aj ?_;intro w b;exact .inl ⟨(⟨D,r,h,k,n,p⟩,⟨V,W,E,F,q,t,y,z⟩),M,rfl,b.msub ms⟩
theorem Fh (w:World):(binOp .neq 20 (.iface 231 (.agg #[])) .nilIface).run Tryz.prog w= .ok (.bool true) w:=by kernel_rfl
theorem yV (w:World):(Instr.typeAssert (.iface 231 (.agg #[])) 20 231 true).run Tryz.prog w= .ok (.tuple #[.agg #[],.bool true]) w:=by kernel_rfl
theorem H7 (b d:Nat) (h i j k l m n:Value) (w:World) (f:Cw B w0 (ak b [h,i,j,k,l,m] 43::ak d [n] 4::H) w) :
  CallsD Tryz.prog 174 #[.pointer (some ⟨b,0,none⟩),.pointer (some ⟨d,0,none⟩)] (.panicking rC) w fun e q w'=>(∃v,e= .returned v) /\ settle q= .returning /\ Cw B w0 (ak b [.slice none 0 0,.slice none 0 0,.slice none 0 0,.slice none 0 0,.int .i64 0,.int .i64 0] 43::ak d [.bool false] 4::H) w':=by
 refine callsD_of_wpS Tryz.func174 rfl fun t s p=>?_
 apply wpS_seq
 apply wpS_region
 simp[wpOpsS,go_sem,recoverD,p,Tryz.ntmps174,Exit.thenS,rC]
 refine wpS_of_wp ?_
 refine(show CW Tryz.prog ⟨17,[]⟩ B w0 _ _ [(0,.pointer (some ⟨b,0,none⟩)),(1,.pointer (some ⟨d,0,none⟩)),(2,.iface 231 (.agg #[]))] (ak b [h,i,j,k,l,m] 43::ak d [n] 4::H) from ?_) _ w ?_ f
 ·refine aj ?_
  refine sE (pN rfl rfl rfl Fh (fun _=>rfl))<|aj ?_
  refine cN (t:=7) (v':= .bool true) rfl (rfl) ?_
  refine aZ rfl<|aj ?_
  refine sE (zw yV rfl rfl)<|aj ?_
  refine fun u _=>aj ?_
  refine cN (t:=14) (v':= .bool false) rfl (rfl) ?_
  refine bY rfl<|aj ?_
  intro r w o f
  refine⟨o.2.1,_,rfl,.tuple #[],?_,⟨_,rfl⟩,rfl,f.msub ms⟩
  simp[results,Tryz.results174]
 ·refine⟨by simp,rfl,fun g v e=>?_⟩
  simp only[lk] at e
  split at e
  ·rename_i a
   have a:=cB a
   subst a
   injection e with e
   subst e
   exact⟨by show _<17;decide,by simp⟩
  ·split at e
   ·rename_i a
    have a:=cB a
    subst a
    injection e with e
    subst e
    exact⟨by show _<17;decide,by simp⟩
   ·split at e
    ·rename_i a
     have a:=cB a
     subst a
     injection e with e
     subst e
     exact⟨by show _<17;decide,by simp⟩
    ·cases e
theorem FH (b d:Nat) (g h i j k l m:Value) (w:World) (f:Cw B w0 (ak b [g,h,i,j,k,l] 43::ak d [m] 4::H) w) :
  CallsD Tryz.prog 174 #[.pointer (some ⟨b,0,none⟩),.pointer (some ⟨d,0,none⟩)] .returning w fun e q w'=>(∃v,e= .returned v) /\ q= .returning /\ Cw B w0 (ak b [g,h,i,j,k,l] 43::ak d [m] 4::H) w':=by
 refine callsD_of_wpS Tryz.func174 rfl fun t s n=>?_
 apply wpS_seq
 apply wpS_region
 simp[wpOpsS,go_sem,recoverD,n,Tryz.ntmps174,Exit.thenS]
 refine wpS_of_wp ?_
 refine(show CW Tryz.prog ⟨17,[]⟩ B w0 _ _ [(0,.pointer (some ⟨b,0,none⟩)),(1,.pointer (some ⟨d,0,none⟩)),(2,.nilIface)] (ak b [g,h,i,j,k,l] 43::ak d [m] 4::H) from ?_) _ w ?_ f
 ·refine aj ?_
  refine sE (pN rfl rfl rfl AJ (fun _=>rfl))<|aj ?_
  refine cN (t:=7) (v':= .bool false) rfl (rfl) ?_
  refine bY rfl<|aj ?_
  intro r w o f
  refine⟨o.2.1,.returning,?_,.tuple #[],?_,⟨_,rfl⟩,rfl,f.msub ms⟩
  ·rw[←n]
  ·simp[results,Tryz.results174]
 ·refine⟨by simp,rfl,fun p v e=>?_⟩
  simp only[lk] at e
  split at e
  ·rename_i a
   have a:=cB a
   subst a
   injection e with e
   subst e
   exact⟨by show _<17;decide,by simp⟩
  ·split at e
   ·rename_i a
    have a:=cB a
    subst a
    injection e with e
    subst e
    exact⟨by show _<17;decide,by simp⟩
   ·split at e
    ·rename_i a
     have a:=cB a
     subst a
     injection e with e
     subst e
     exact⟨by show _<17;decide,by simp⟩
    ·cases e
end
def sf (s:List UInt8):av×Bool:=match ko s with
 | some m=>(m,true)
 | none=>(default,false)
theorem ME (s:List UInt8) (r:av×Bool) (h:sf s=r) (m:s.length <= 140737488355320) (w:World) :
  Calls Tryz.prog 119 #[.string ⟨s.toArray⟩] w fun e w'=> ∃g:MA,True /\ e= .returned (.tuple #[.agg #[.slice g.Af r.1.F.length g.cf,.slice g.Ab r.1.B.length g.cb,.slice g.Ai r.1.I.length g.ci,.slice g.Ao r.1.out.length g.co,.int .i64 r.1.S,.int .i64 r.1.T],.bool r.2]) /\
   Cw w.heap.size w [an (.slice g.Af r.1.F.length g.cf) r.1.F,an (.slice g.Ab r.1.B.length g.cb) r.1.B,an (.slice g.Ai r.1.I.length g.ci) r.1.I,an (.slice g.Ao r.1.out.length g.co) r.1.out] w':=by
 have a:=Cw.nil_ w
 refine Ag Tryz.func119 rfl Tryz.ntmps119 rfl a ?_
 refine aj ?_
 refine fun d _=>aj ?_
 refine fun f _=>aj ?_
 refine DK rfl rfl rfl rfl ?_
 refine aj ?_
 refine fun i _=>aj ?_
 refine fS (ef rfl rfl rfl Tryz.call175 (fun w a=>Ip (H:=ak d [.slice none 0 0,.slice none 0 0,.slice none 0 0,.slice none 0 0,.int .i64 0,.int .i64 0] 43::ak f [.bool false] 4:: []) i s m w (a.msub ms))) rfl rfl (fun t q w l n=>by obtain⟨⟨j,rfl⟩,k⟩:=n;exact CL l (fun _=>by simp[go_sem]) (H7 d f _ _ _ _ _ _ _ w (k.msub ms)) Tryz.results119 (DL (cs:= [_,_,_,_,_,_]) .a kr bZ rfl) (rp .b xw rfl) (fun w a=>by subst h;unfold sf;rw[j];exact⟨⟨none,0,none,0,none,0,none,0⟩,trivial,rfl,(rG a).msub ms⟩)) (fun⟨o,p⟩ b=>?_)
 try dsimp only
 refine dE (cV _ fc bZ rfl rfl rfl rfl rfl (by rfl) rfl (by rfl)) rfl rfl (fun _ _=>?_)
 refine dE (cV _ fc tW rfl rfl rfl rfl rfl (by rfl) rfl (by rfl)) rfl rfl (fun _ _=>?_)
 refine bG ?_
 have b:ko s=some o:=b
 refine iO ?_
 refine Ml (fun _=>by simp[go_sem]) (fun w a=>FH d f _ _ _ _ _ _ _ w (a.msub (.s fc (.s fc .r)))) Tryz.results119 (DL (cs:= [_,_,_,_,_,_]) .a kr bZ rfl) (rp .b xw rfl) (fun w a=>?_)
 subst h
 unfold sf
 rw[b]
 exact⟨p,trivial,rfl,a.msub ms⟩
end
section
theorem zS {x:aL} (h:OJ x):(jd x).length<=2554:=by
 have a:=wV x.L x.L.length;have b:=wV x.K x.K.length;rw[aR] at a b;have:=h.l.1;have:=h.s.1;simp only[jd,jA,br,au];omega
theorem pU {l:List Int} (h:l.length<=255):(ix l).length<=1021:=by
 have a:=Ht l l.length;rw[aR] at a;rw[KM];omega
theorem IP (a:MA) (m:av) (w:World) (p:fZ w.heap.size w a m) (b7:MI m) :
  Calls Tryz.prog 118 #[.agg #[ac a.Af m.F.length a.cf,ac a.Ab m.B.length a.cb,ac a.Ai m.I.length a.ci,ac a.Ao m.out.length a.co,ai m.S,ai m.T]] w fun e w'=>e= .returned (.string ⟨(lz m).toArray⟩)/\Below w.heap.size w w':=by
 obtain⟨cz,c0,⟨b0,ct⟩,⟨b8,cx⟩,⟨cr,Z⟩,cs,ad⟩:=b7;have:=pU b0;have:=pU b8;have ca:=fun k=>uQ (f:=ix) m.B (fun b9 s=>pU (Z b9 s).1) k;refine enter Tryz.func118 rfl Tryz.ntmps118 rfl<|aj ?_;refine fun K _=>aj ?_;refine fun i _=>aj ?_;intro ck _;refine fH (fun w j=>Cw.nilO UInt8 (bI (α:=Int) (m:=2) [m.S,m.T] rfl (kB p.s p.t) rfl κ j)) ?_;refine dA rfl tZ (fun w d=>nY i [m.S,m.T] _ _ (.own rfl .a) [] none 0 σ w (d.msub (.s fc (.s fc .r)))) (fun⟨a0,ba⟩ _=>?_);refine aO ?_;obtain⟨t,z⟩:∃g,[]++ [m.S,m.T].map aV=g:=⟨_,rfl⟩
 have:t.length=2:=by rw[<-z];rfl
 rw[z];refine dA rfl Vz (fun w d=>vH i m.I _ _ p.i t a0 ba ω w (d.msub (.s fc (.s fc .r)))) (fun⟨a1,bb⟩ _=>?_);refine aO ?_;obtain⟨u,D⟩:∃g,t++ix m.I=g:=⟨_,rfl⟩
 have:u.length<=1023:=by rw[<-D,au];omega
 rw[D];refine dA rfl Vz (fun w d=>vH i m.out _ _ p.o u a1 bb ω w (d.msub (.s fc (.s fc .r)))) (fun⟨a2,bc⟩ _=>?_);refine aO ?_;intro cl _;obtain⟨v,E⟩:∃g,u++ix m.out=g:=⟨_,rfl⟩
 have:v.length<=2044:=by rw[<-E,au];omega
 rw[E];refine fH (fun w j=>bI (α:=Int) (m:=1) [(m.B.length:Int)] rfl (ia (by unfold aI;omega)) rfl κ j) ?_;refine dA rfl tZ (fun w d=>nY i [(m.B.length:Int)] _ _ (.own rfl .a) v a2 bc (by show _+1<=_;omega) w (d.msub (.s fc (.s fc .r)))) (fun⟨a3,bf⟩ _=>?_);refine aO ?_;obtain⟨l,F⟩:∃g,v++ [(m.B.length:Int)].map aV=g:=⟨_,rfl⟩
 have:l.length<=2045:=by rw[<-F,au];show _+1<=_;omega
 rw[F];refine de (fun b:Nat×Option Addr×Nat=>b.1<=m.B.length) (fun b=>m.B.length - b.1) (fun b=> [(1,af K),(3,af i),(32,ac a.Ab m.B.length a.cb),(33,ai (m.B.length:Int)),(34,ai (b.1:Int))]) (fun b=> [ak i [ac b.2.1 (l++(m.B.take b.1).flatMap ix).length b.2.2] 228,ag b.2.1 b.2.2 (l++(m.B.take b.1).flatMap ix),ak K (ah a m) 43]) (0,a3,bf) (aU _) ?_ (hh:=(fun w j=>by have j:=j.msub (T:= [ak i _ _,an _ l,ak K (ah a m) 43]) ms;simpa using j));rintro⟨o,S,V⟩ b1
 try dsimp only
 have:o<=m.B.length:=b1;have al:(l++(m.B.take o).flatMap ix).length<=2045+1021*m.B.length:=by rw[au];have:=ca o;omega
 refine ax (fun b5=>?_) (fun b5=>?_)
 ·have P:o<m.B.length:=ω;obtain⟨cf,cj,R,r⟩:=p.b.sub P;have:(m.B.getD o []).length<=255:=(Z _ (cC P)).1;refine aj ?_;refine da _ rfl (.ro p.b) ?_;refine eK rfl (r _)<|aj ?_;refine dA rfl Vz (fun w d=>vH i (m.B.getD o []) _ _ R (l++(m.B.take o).flatMap ix) S V ω w (d.msub (.s fc (.s fc .r)))) (fun⟨a4,bi⟩ _=>?_);refine aO ?_;rw[<-ra P [] l];refine cJ (o+1,a4,bi) (by show o+1<=_;omega) (by show _ - _<_ - _;omega)
 obtain rfl:o=m.B.length:=ω;have W:l++(m.B.take m.B.length).flatMap ix=l++m.B.flatMap ix:=by rw[aR]
 rw[W] at al;rw[W];obtain⟨U,G⟩:∃g,l++m.B.flatMap ix=g:=⟨_,rfl⟩
 rw[G] at al;rw[G];refine aj ?_;intro cm _;refine fH (fun w j=>bI (α:=Int) (m:=1) [(m.F.length:Int)] rfl (ia (by unfold aI;omega)) rfl κ j) ?_;refine dA rfl tZ (fun w d=>nY i [(m.F.length:Int)] _ _ (.own rfl .a) U S V (by show _+1<=_;omega) w (d.msub (.s fc (.s fc .r)))) (fun⟨a5,bk⟩ _=>?_);refine aO ?_;obtain⟨n,I⟩:∃g,U++ [(m.F.length:Int)].map aV=g:=⟨_,rfl⟩
 have:n.length<=2046+1021*m.B.length:=by rw[<-I,au];show _+1<=_;omega
 rw[I];refine de (fun b:Nat×Option Addr×Nat=>b.1<=m.F.length) (fun b=>m.F.length - b.1) (fun b=> [(3,af i),(49,ac a.Af m.F.length a.cf),(50,ai (m.F.length:Int)),(51,ai (b.1:Int))]) (fun b=> [ak i [ac b.2.1 (n++(m.F.take b.1).flatMap jd).length b.2.2] 228,ag b.2.1 b.2.2 (n++(m.F.take b.1).flatMap jd)]) (0,a5,bk) (aU _) ?_ (hh:=(fun w j=>by have j:=j.msub (T:= [ak i _ _,an _ n]) ms;simpa using j));rintro⟨k,a9,bp⟩ b3
 try dsimp only
 have b2:k<=m.F.length:=b3;have b4:(n++(m.F.take k).flatMap jd).length<=2046+1021*m.B.length+2554*k:=by
  rw[au];have L:=ww (m.F.take k) (m:=2554) (f:=jd) (fun cb R=>zS (ad cb (jN R)));rw[aB,Nat.min_eq_left b2] at L;omega
 refine ax (fun b6=>?_) (fun b6=>?_)
 ·have Q:k<m.F.length:=ω;obtain⟨cd,ch,ce,ci,s,am,O,r⟩:=p.f.fr Q;have N:=ad _ (fL Q);have bt:=N.l.1;have bv:=N.s.1;have M:=ra (f:=jd) Q default n;obtain⟨h,Y⟩:∃h,aN m.F k=h:=⟨_,rfl⟩
  rw[show m.F.getD k default=h from Y] at M;rw[Y] at bt bv N O s am r;obtain⟨q,X⟩:∃g,n++(m.F.take k).flatMap jd=g:=⟨_,rfl⟩
  rw[X] at b4 M;rw[X];refine aj ?_;refine da _ rfl (.ro p.f) ?_;refine iB rfl (r _)<|aj ?_;refine fun co _=>aj ?_;intro cp _;refine fH (fun w j=>bI (α:=Int) (m:=2) [h.func,h.pc] rfl (kB O.1 O.2) rfl κ j) ?_;refine dA rfl tZ (fun w d=>nY i [h.func,h.pc] _ _ (.own rfl .a) q a9 bp (by show _+2<=_;omega) w (d.msub (.s fc (.s fc .r)))) (fun⟨a6,bl⟩ _=>?_);refine aO ?_;obtain⟨x,J⟩:∃g,q++ [h.func,h.pc].map aV=g:=⟨_,rfl⟩
  have:x.length=q.length+2:=by rw[<-J,au];rfl
  rw[J];refine dA rfl Tryz.call173 (fun w d=>BD i h.L _ _ s x a6 bl ω w (d.msub (.s fc (.s fc .r)))) (fun⟨a7,bm⟩ _=>?_);refine aO ?_;obtain⟨y,C⟩:∃g,x++jA h.L=g:=⟨_,rfl⟩
  have:y.length<=q.length+1278:=by
   have L:=wV h.L h.L.length;rw[aR] at L;rw[<-C,au];simp only[jA,br];omega
  rw[C];refine dA rfl Tryz.call173 (fun w d=>BD i h.K _ _ am y a7 bm ω w (d.msub (.s fc (.s fc .r)))) (fun⟨a8,bo⟩ _=>?_);refine aO ?_;rw[show y++jA h.K=n++(m.F.take (k+1)).flatMap jd from by rw[M,<-C,<-J];simp[jd]];refine cJ (k+1,a8,bo) (by show k+1<=_;omega) (by show _ - _<_ - _;omega)
 obtain rfl:k=m.F.length:=ω;have bs:n++(m.F.take m.F.length).flatMap jd=lz m:=by
  rw[aR,<-I,<-G,<-F,<-E,<-D,<-z];simp[lz]
 rw[bs];refine aj ?_;refine sE (Kw mn iW nX (SF.own rfl fc) rfl rfl)<|aj ?_;intro w d;exact⟨rfl,d.below⟩
def oW (fs:List aw) (s:List UInt8):Int:=if dN fs≠0 then dN fs else match ko s with
 | none=>1
 | some m=>ff fs m
def C3 (fs:List aw) (s:List UInt8):av:=if oW fs s=0 then (sf s).1 else default
theorem Du {s:List UInt8} {m:av} (h:ko s=some m):aI m.S/\aI m.T:=by
 unfold ko at h
 split at h
 ·cases h
 rename_i n j a
 split at h
 ·obtain rfl:=fE h;unfold mB at a
  split at a
  ·cases a
  rename_i b k e
  split at a
  ·cases a
  rename_i d l f
  split at a
  ·cases a
  split at a
  ·cases a
  split at a
  ·cases a
  split at a
  ·cases a
  injection a with a
  injection a with a _
  subst a;have:=(kb e).2;have:=(kb f).2;exact⟨⟨by show _<=b;omega,by show b<=_;omega⟩,⟨by show _<=d;omega,by show d<=_;omega⟩⟩
 cases h
theorem MD {s:List UInt8} {m:av} (h:ko s=some m):ox m.F:=by
 unfold ko at h
 split at h
 ·cases h
 rename_i e g a
 split at h
 ·obtain rfl:=fE h;unfold mB at a
  split at a
  ·cases a
  split at a
  ·cases a
  split at a
  ·cases a
  split at a
  ·cases a
  split at a
  ·cases a
  split at a
  ·cases a
  rename_i k D i;injection a with a
  injection a with a _
  subst a;have:=vN i;refine⟨by show k.length*64<=_;omega,fun e d=>?_⟩;have d:e∈k:=d;have q:∀(j:Nat) (s g:List UInt8) (f:List aL),il jv j s=some (f,g)->∀e∈f,e.L.length<=255/\e.K.length<=255:=by
   intro j
   induction j with
   | zero=>
    intro s g f a e d;obtain⟨rfl,_⟩: []=f/\s=g:=by simpa [il] using a
    cases d
   | succ j p=>
    intro s g f a e d;unfold il at a
    split at a
    ·cases a
    rename_i u E b
    split at a
    ·cases a
    rename_i r t l;obtain⟨rfl,_⟩:u::r=f/\t=g:=τ a;rcases ec.1 d with rfl | d
    ·unfold jv at b
     split at b
     ·cases b
     split at b
     ·cases b
     split at b
     ·cases b
     rename_i x z n
     split at b
     ·cases b
     rename_i y C o;injection b with b
     injection b with b _
     subst b;exact⟨vN n,vN o⟩
    exact p _ _ _ l e d
  unfold jQ at i
  split at i
  ·cases i
  have:=q _ _ _ _ i e d;omega
 cases h
theorem K7 (k:Option Addr) (l:Nat) (fs:List aw) (s:List UInt8) (m:av) (b:C3 fs s=m) (x:s.length<=140737488355320) (w:World) (q:Sl w (ac k fs.length l) fs) :
  Calls Tryz.prog 60 #[.agg #[ac k fs.length l],.string ⟨s.toArray⟩] w fun e w'=> ∃g:MA,True/\
   e= .returned (.tuple #[.agg #[ac g.Af m.F.length g.cf,ac g.Ab m.B.length g.cb,ac g.Ai m.I.length g.ci,ac g.Ao m.out.length g.co,ai m.S,ai m.T],ai (oW fs s)])/\Cw w.heap.size w [an (ac g.Af m.F.length g.cf) m.F,an (ac g.Ab m.B.length g.cb) m.B,an (ac g.Ai m.I.length g.ci) m.I,an (ac g.Ao m.out.length g.co) m.out] w':=by
 unfold C3 at b;refine enter Tryz.func60 rfl Tryz.ntmps60 rfl<|aj ?_;refine fun z _=>aj ?_;refine fun C _=>aj ?_;refine cE rfl JC (fun w a=>qm k l fs w (a.ro q))<|cF (fun f=>?_) (fun f=>?_)
 ·have d:oW fs s=dN fs:=by unfold oW;rw[if_pos f]
  rw[d,if_neg f] at b;subst b;rw[d];refine aj ?_;intro w a;exact⟨⟨none,0,none,0,none,0,none,0⟩,trivial,rfl,(rG a).msub ms⟩
 have f:dN fs=0:=τ f;have r:=ot f;obtain⟨j,h⟩:∃j,sf s=j:=⟨_,rfl⟩
 refine aj ?_;refine et rfl Tryz.call119 (fun w a=>ME s j h x w) (fun p _=>aj ?_);refine fun D _=>aj ?_;obtain⟨j,o⟩:=j
 cases ht:ko s with
 | none=>
  have d:oW fs s=1:=by unfold oW;rw[if_neg (fun e=>e f),ht]
  rw[d,if_neg κ] at b;subst b;have u:o=false:=by
   unfold sf at h;rw[ht] at h;exact(Prod.mk.inj h).2.symm
  subst u;rw[d];refine cN (t:=22) (v':= .bool true) rfl rfl<|aZ rfl<|aj ?_;intro w a;exact⟨⟨none,0,none,0,none,0,none,0⟩,trivial,rfl,(rG a).msub ms⟩
 | some n=>
  have d:oW fs s=ff fs n:=by unfold oW;rw[if_neg (fun e=>e f),ht]
  have y:n=j/\true=o:=by
   unfold sf at h;rw[ht] at h;exact Prod.mk.inj h
  obtain⟨rfl,rfl⟩:=y;rw[h] at b;have v:=MD ht;refine cN (t:=22) (v':= .bool false) rfl rfl<|bY rfl<|aj ?_;refine cE rfl VO (fun w a=>uD k l fs p n w (a.ro q) (oK a fc fc fc fc rfl rfl rfl rfl (Du ht).1 (Du ht).2) r v)<|aj ?_;rw[d];refine jg rfl (fun i=>?_) (fun i=>?_)
  ·rw[d,if_neg i] at b;subst b;refine aj ?_;intro w a;exact⟨⟨none,0,none,0,none,0,none,0⟩,trivial,rfl,(rG a).msub ms⟩
  have i:ff fs n=0:=τ i;rw[d,if_pos i] at b;subst b;rw[i];refine aj ?_;intro w a;exact⟨p,trivial,rfl,a.msub ms⟩
end
section
def dO (l:List aD):List Int:=(l.filter fun v=>v.ref && decide (0<v.n)).map fun v=>v.n
def sn (m:av):List Int:=m.F.flatMap fun x=>dO x.L++dO x.K
theorem NL (a b:List aD):dO (a++b)=dO a++dO b:=by unfold dO;rw[List.filter_append,cS]
theorem NK (v:aD):dO [v]=if v.ref=true/\0<v.n then [v.n] else []:=by
 unfold dO
 by_cases a:v.ref=true/\0<v.n
 ·rw[if_pos a,List.filter_cons_of_pos (by simp[a.1,a.2])];rfl
 rw[if_neg a,List.filter_cons_of_neg (τ a)];rfl
theorem Cj {l:List aD} {k:Nat} (a:k<l.length):dO (l.take (k+1))=dO (l.take k)++dO [l.getD k default]:=by rw[eE l k default a,NL]
theorem pX (l:List aD):(dO l).length<=l.length:=by
 unfold dO;rw[aQ];exact List.length_filter_le _ _
section
variable {B:Nat} {w0:World} {H:List aP}
theorem AT {A:Option Addr} {m c k:Nat} {xs:List aD} (h:bN w0 B (ac A m c) xs) (b:k<m):aI (xs.getD k default).n:=by
 obtain⟨d,⟨_,a⟩,_⟩:=h.elr b default;exact a
theorem EU (i b o:Nat) (v:aD) (hi:aI v.n) (l:∀(H:List aP) (w:World),Cw B w0 H w->∀j n,([.bool v.ref,ai v.n]:List Value)[j]? =some n->w.cell? ⟨b,o+j,none⟩=some n) (d:List Int) (A:Option Addr) (c:Nat) (u:d.length<=1000000) (w:World)
  (a:Cw B w0 (ak i [ac A d.length c] 35::an (ac A d.length c) d::H) w) :
  Calls Tryz.prog 166 #[.pointer (some ⟨b,o,none⟩),af i] w fun e w'=> ∃g:Option Addr×Nat,True/\e= .returned (.tuple #[])/\Cw B w0 (ak i [ac g.1 (d++dO [v]).length g.2] 35::an (ac g.1 (d++dO [v]).length g.2) (d++dO [v])::H) w':=by
 obtain⟨m,k⟩:=v;have h:=NK ⟨m,k⟩;refine bF Tryz.func166 rfl Tryz.ntmps166 rfl a<|aj ?_;refine eK rfl (fun w a=>l _ w a 0 _ rfl) ?_;refine aC ?_
 cases m
 ·rw[if_neg σ] at h;rw[h,ee];refine bd (t:=7) (v':= .bool false) rfl (rfl)<|aj ?_;refine bY rfl<|aj ?_;intro w a;exact⟨(A,c),trivial,rfl,a.msub ms⟩
 refine bd (t:=7) (v':= .bool true) rfl (rfl)<|aj ?_;refine eK rfl (fun w a=>l _ w a 1 _ rfl)<|ax (fun f=>?_) (fun f=>?_)
 ·have f:0<k:=f;rw[if_pos ⟨rfl,f⟩] at h;rw[h];refine eu [0,3,6,9,12,17,20,23] [7] rfl [ak i [ac A d.length c] 35]<|aj ?_;refine tE rfl (bU (fun w a=>l _ w a 1 _ rfl) rfl rfl bB)<|aj ?_;intro s _;refine pE rfl (bV (α:=Int) (bytes:=8) k [] rfl ay (aS cK) rfl (eB fc fc) (pW hi) ω ω rfl rfl rfl) (fun⟨p,q⟩ _=>?_);refine aO ?_;intro w a;exact⟨(p,q),trivial,rfl,a.msub ms⟩
 have f:¬0<k:=f;rw[if_neg (fun r=>f r.2)] at h;rw[h,ee];refine aj ?_;intro w a;exact⟨(A,c),trivial,rfl,a.msub ms⟩
theorem BK {m:av} {i:Nat} (hi:i<m.F.length):((m.F.take (i+1)).flatMap fun x=>dO x.L++dO x.K)=((m.F.take i).flatMap fun x=>dO x.L++dO x.K)++(dO (aN m.F i).L++dO (aN m.F i).K):=by
 rw[ti hi,oA];simp
theorem IX {m:av} (_:m.F.length<=6) (b:∀x∈m.F,x.L.length<=1000/\x.K.length<=8) (i:Nat):((m.F.take i).flatMap fun x=>dO x.L++dO x.K).length<=1008*i:=by
 induction i with
 | zero=>simp
 | succ i d=>
  by_cases a:i<m.F.length
  ·rw[BK a,au,au];have:=b _ (fL a);have:=pX (aN m.F i).L;have:=pX (aN m.F i).K;omega
  rw[bD ω];rw[bD ω] at d;omega
theorem Lx (g i:Nat) (a:MA) (m:av) (G:fZ B w0 a m) (al:m.F.length<=6) (U:∀x∈m.F,x.L.length<=1000/\x.K.length<=8) (A:Option Addr) (c:Nat) (w:World)
  (f:Cw B w0 (ak g [ac a.Af m.F.length a.cf,ac a.Ab m.B.length a.cb,ac a.Ai m.I.length a.ci,ac a.Ao m.out.length a.co,ai m.S,ai m.T] 43::ak i [ac A 0 c] 35::an (ac A 0 c) ([]:List Int)::H) w) :
  Calls Tryz.prog 163 #[af g,.func (.func 166) #[] #[af i]] w fun e w'=> ∃q:Option Addr×Nat,True/\e= .returned (.tuple #[])/\Cw B w0 (ak g [ac a.Af m.F.length a.cf,ac a.Ab m.B.length a.cb,ac a.Ai m.I.length a.ci,ac a.Ao m.out.length a.co,ai m.S,ai m.T] 43::ak i [ac q.1 (sn m).length q.2] 35::an (ac q.1 (sn m).length q.2) (sn m)::H) w':=by
 have:=bA G.f;refine bF Tryz.func163 rfl Tryz.ntmps163 rfl f<|aj ?_;refine de (fun j:Nat×(Option Addr×Nat)=>j.1<=m.F.length) (fun j=>m.F.length - j.1) (fun j=> [(0,af g),(1,.func (.func 166) #[] #[af i]),(12,ai (m.F.length:Int)),(13,ai (j.1:Int))]) (fun j=>ak g (ah a m) 43::ak i [ac j.2.1 ((m.F.take j.1).flatMap fun x=>dO x.L++dO x.K).length j.2.2] 35::ag j.2.1 j.2.2 ((m.F.take j.1).flatMap fun x=>dO x.L++dO x.K)::H) (0,(A,c)) (aU _) ?_ (hh:=(fun w h=>h.msub ms));rintro⟨k,⟨D,E⟩⟩ W
 try dsimp only
 have:k<=m.F.length:=W;have am:=IX al U k;refine ax (fun Z=>?_) (fun Z=>?_)
 ·have N:k<m.F.length:=ω;obtain⟨l,p,n,r,F,I,V,L⟩:=G.f.fr N;have a0:=U _ (fL N);have R:=BK N;generalize a2:((m.F.take k).flatMap fun x=>dO x.L++dO x.K)=d at am R;generalize a7:aN m.F k=x at F I V L a0 R;have:=pX x.L;have:=pX x.K;refine aj ?_;refine bh [0,3,6,9,12,15,18,21,24,27,30,33,36,39,42,45,54,50,51] [] rfl<|aj ?_;refine tE rfl (aW (k:=k) cP dM (.ro G.f) ω rfl rfl rfl)<|aj ?_;refine tE rfl (bU (fun w f=>L _ w f 2 _ rfl) rfl rfl dX)<|aj ?_;refine tE rfl (aW (k:=k) cP dM (.ro G.f) ω rfl rfl rfl)<|aj ?_;refine tE rfl (bU (fun w f=>L _ w f 3 _ rfl) rfl rfl dX)<|aj ?_;refine fun o _=>aj ?_;refine de (fun q:Nat×(Option Addr×Nat)=>q.1<=2) (fun q=>2 - q.1) (fun q=> [(0,af g),(1,.func (.func 166) #[] #[af i]),(12,ai (m.F.length:Int)),(13,ai (k:Int)),(32,ac (some ⟨o,0,none⟩) 2 2),(33,ai 2),(34,ai (q.1:Int))]) (fun q=>ak i [ac q.2.1 (d++(if q.1=0 then [] else if q.1=1 then dO x.L else dO x.L++dO x.K)).length q.2.2] 35::ag q.2.1 q.2.2 (d++(if q.1=0 then [] else if q.1=1 then dO x.L else dO x.L++dO x.K))::ak o [ac l x.L.length p,ac n x.K.length r] 116::ak g (ah a m) 43::H) (0,(D,E)) (aU _) ?_ (hh:=(fun w h=>(show Cw _ _ (ak i [ac D (d++ []).length E] 35::ag D E (d++ [])::ak o [ac l x.L.length p,ac n x.K.length r] 116::ak g (ah a m) 43::H) w from by rw[ee];exact h.msub ms)));rintro⟨s,⟨t,u⟩⟩ X
  try dsimp only
  have:s<=2:=X;refine ax (fun ad=>?_) (fun ad=>?_)
  ·rcases(show s=0\/s=1 by omega) with rfl | rfl
   ·try dsimp only
    rw[if_pos rfl,ee];refine aj ?_;refine sE (kC (k:=0) oP fA rfl κ rfl rfl rfl) ?_;refine eK rfl (fun w f=>gQ (v:= ac l x.L.length p) fc rfl w f)<|aj ?_;refine de (fun q:Nat×(Option Addr×Nat)=>q.1<=x.L.length) (fun q=>x.L.length - q.1) (fun q=> [(0,af g),(1,.func (.func 166) #[] #[af i]),(6,ac l x.L.length p),(12,ai (m.F.length:Int)),(13,ai (k:Int)),(32,ac (some ⟨o,0,none⟩) 2 2),(33,ai 2),(34,ai 0),(39,ai (x.L.length:Int)),(40,ai (q.1:Int))]) (fun q=>ak i [ac q.2.1 (d++dO (x.L.take q.1)).length q.2.2] 35::ag q.2.1 q.2.2 (d++dO (x.L.take q.1))::ak o [ac l x.L.length p,ac n x.K.length r] 116::ak g (ah a m) 43::H) (0,(t,u)) (aU _) ?_ (hh:=(fun w h=>(show Cw _ _ (ak i [ac t (d++dO (x.L.take 0)).length u] 35::ag t u (d++dO (x.L.take 0))::ak o [ac l x.L.length p,ac n x.K.length r] 116::ak g (ah a m) 43::H) w from by rw[List.take_zero,show dO []= [] from rfl,ee];exact h.msub ms)));rintro⟨b,⟨z,C⟩⟩ O
    try dsimp only
    have Y:b<=x.L.length:=O;refine ax (fun P=>?_) (fun P=>?_)
    ·have y:b<x.L.length:=ω;have M:=pX (x.L.take b);rw[aB] at M;have Q:=Cj y;refine aj ?_;refine da b rfl (.ro F) ?_;refine oE (eW rfl rfl rfl Tryz.call166 (fun w f=>EU i (ab l) (ao l+b*2) (x.L.getD b default) (AT F y) (fun H w f s T S=>SF.val (SF.ro F) y default w f s T S) (d++dO (x.L.take b)) z C (by simp only[au];omega) w (f.msub (.s fc (.s fc .r))))) (fun⟨J,K⟩ _=>?_);refine aO ?_;rw[bx,<-Q];refine cJ (b+1,(J,K)) (by show b+1<=_;omega) (by show _ - _<_ - _;omega) (hh:=(fun w h=>h.msub ms))
    obtain rfl:b=x.L.length:=ω;rw[aR];refine aj ?_;refine cJ (1,(z,C)) ((by decide:1<=2)) (by show 2 - 1<2 - 0;decide) (hh:=(fun w h=>h.msub ms))
   try dsimp only
   rw[if_neg κ,if_pos rfl];refine aj ?_;refine sE (kC (k:=1) oP fA rfl κ rfl rfl rfl) ?_;refine eK rfl (fun w f=>gQ (v:= ac n x.K.length r) fc rfl w f)<|aj ?_;refine de (fun q:Nat×(Option Addr×Nat)=>q.1<=x.K.length) (fun q=>x.K.length - q.1) (fun q=> [(0,af g),(1,.func (.func 166) #[] #[af i]),(6,ac n x.K.length r),(12,ai (m.F.length:Int)),(13,ai (k:Int)),(32,ac (some ⟨o,0,none⟩) 2 2),(33,ai 2),(34,ai 1),(39,ai (x.K.length:Int)),(40,ai (q.1:Int))]) (fun q=>ak i [ac q.2.1 ((d++dO x.L)++dO (x.K.take q.1)).length q.2.2] 35::ag q.2.1 q.2.2 ((d++dO x.L)++dO (x.K.take q.1))::ak o [ac l x.L.length p,ac n x.K.length r] 116::ak g (ah a m) 43::H) (0,(t,u)) (aU _) ?_ (hh:=(fun w h=>(show Cw _ _ (ak i [ac t ((d++dO x.L)++dO (x.K.take 0)).length u] 35::ag t u ((d++dO x.L)++dO (x.K.take 0))::ak o [ac l x.L.length p,ac n x.K.length r] 116::ak g (ah a m) 43::H) w from by rw[List.take_zero,show dO []= [] from rfl,ee];exact h.msub ms)));rintro⟨b,⟨z,C⟩⟩ O
   try dsimp only
   have Y:b<=x.K.length:=O;refine ax (fun P=>?_) (fun P=>?_)
   ·have y:b<x.K.length:=ω;have M:=pX (x.K.take b);rw[aB] at M;have Q:=Cj y;refine aj ?_;refine da b rfl (.ro I) ?_;refine oE (eW rfl rfl rfl Tryz.call166 (fun w f=>EU i (ab n) (ao n+b*2) (x.K.getD b default) (AT I y) (fun H w f s T S=>SF.val (SF.ro I) y default w f s T S) ((d++dO x.L)++dO (x.K.take b)) z C (by simp only[au];omega) w (f.msub (.s fc (.s fc .r))))) (fun⟨J,K⟩ _=>?_);refine aO ?_;rw[bx,<-Q];refine cJ (b+1,(J,K)) (by show b+1<=_;omega) (by show _ - _<_ - _;omega) (hh:=(fun w h=>h.msub ms))
   obtain rfl:b=x.K.length:=ω;rw[aR];refine aj ?_;rw[bx];refine cJ (2,(z,C)) ((by decide:2<=2)) (by show 2 - 2<2 - 1;decide) (hh:=(fun w h=>h.msub ms))
  obtain rfl:s=2:=ω
  try dsimp only
  rw[if_neg κ,if_neg κ,<-R];refine aj ?_;refine cJ (k+1,(t,u)) (by show k+1<=_;omega) (by show _ - _<_ - _;omega) (hh:=(fun w h=>h.msub ms))
 obtain rfl:k=m.F.length:=ω;rw[aR];refine aj ?_;intro w f;exact⟨(D,E),trivial,rfl,f.msub ms⟩
end
end
section
theorem uM {l:List aD} {n:Int} :n∈dO l↔0<n/\∃v∈l,v.ref=true/\v.n=n:=by
 unfold dO;rw[ll];constructor
 ·rintro⟨v,b,rfl⟩;obtain⟨e,a⟩:=qI.1 b;simp only[dv,decide_eq_true_eq] at a;exact⟨a.2,v,e,a.1,rfl⟩
 rintro⟨d,v,b,f,rfl⟩;exact⟨v,qI.2 ⟨b,by simp[f,d]⟩,rfl⟩
theorem Km {m:av} {n:Int} :n∈sn m↔0<n/\sM m n=true:=by
 unfold sn;rw[List.mem_flatMap,yK];constructor
 ·rintro⟨i,h,a⟩;rcases dQ.1 a with a | a
  ·obtain⟨d,f,g,e,b⟩:=uM.1 a;exact⟨d,i,h,f,iF _ g,e,b⟩
  obtain⟨d,f,g,e,b⟩:=uM.1 a;exact⟨d,i,h,f,ip _ g,e,b⟩
 rintro⟨d,i,h,f,g,e,b⟩;refine⟨i,h,?_⟩;rcases dQ.1 g with a | a
 ·exact iF _ (uM.2 ⟨d,f,a,e,b⟩)
 exact ip _ (uM.2 ⟨d,f,a,e,b⟩)
theorem Pr {fs:List aw} {m:av} (f:bQ fs m):Lib.compact (nH (sn m))=cu m:=by
 obtain⟨d,e⟩:=Au (BR (sn m));refine qq d (qg m) fun j=>?_;rw[e,kW];unfold nH;rw[List.mem_mergeSort,Km];constructor
 ·rintro⟨b,a⟩;obtain⟨l,i,k,h,g,rfl⟩:=yK.1 a;have:=AS f i h g;exact⟨ω,a⟩
 rintro⟨b,a⟩;exact⟨ω,a⟩
theorem BY {m:av} :(cu m).length<=m.B.length:=by
 unfold cu;rw[aQ];exact dS (List.length_filter_le _ _) (by rw[kv];exact aF _)
theorem PZ (w:World):Calls Tryz.prog 274 #[.int .u64 0] w fun e w'=>e= .returned (.int .i64 0) /\ w=w':=by
 go_enter Tryz.func274,Tryz.ntmps274
 go_wp2
 all_goals (go_ret;exact⟨eY (by kernel_rfl),rfl⟩)
theorem Ua (w:World):Calls Tryz.prog 220 #[.int .u64 0] w fun e w'=>e= .returned (.int .i64 0) /\ w=w':=by
 go_enter Tryz.func220,Tryz.ntmps220
 go_wp2_with (first
  | (go_at_call 274;refine(PZ _).mono ?_;rintro e w' ⟨rfl,rfl⟩))
 all_goals (go_ret;exact⟨rfl,rfl⟩)
theorem NI (A:Option Addr) (c:Nat) (w:World):Calls Tryz.prog 264 #[ac A 0 c,ai 0,ai 0] w fun e w'=>e= .returned (.tuple #[])/\Below w.heap.size w w':=by
 refine enter Tryz.func264 rfl Tryz.ntmps264 rfl<|aj ?_;refine de (fun _:Unit=>True) (fun _=>0) (fun _=> [(0,ac A 0 c),(1,ai 0),(2,ai 0),(6,ai 1)]) (fun _=> []) () trivial ?_;rintro _ _;refine ax (fun a=>?_) (fun a=>?_)
 ·exact absurd a κ
 refine aj ?_;intro w b;exact⟨rfl,b.below⟩
theorem No (A:Option Addr) (c:Nat) (l:Int) (w:World):Calls Tryz.prog 219 #[ac A 0 c,ai 0,ai 0,ai l] w fun e w'=>e= .returned (.tuple #[])/\Below w.heap.size w w':=by
 refine enter Tryz.func219 rfl Tryz.ntmps219 rfl<|aj ?_;refine de (fun _:Unit=>True) (fun _=>0) (fun _=> [(0,ac A 0 c),(1,ai 0),(2,ai 0),(3,ai l),(8,.bool true),(9,.bool true)]) (fun _=> []) () trivial ?_;rintro _ _;refine ax (fun a=>?_) (fun a=>?_)
 ·refine aj ?_;refine cE rfl Tryz.call264 (fun w b=>NI A c w)<|aj ?_;intro w b;exact⟨rfl,b.below⟩
 exact absurd (show (0:Int)<=12 by decide) a
theorem JX (A:Option Addr) (c:Nat) (w:World):Calls Tryz.prog 167 #[.slice A 0 c] w fun e w'=>e= .returned (.tuple #[]) /\ Below w.heap.size w w':=by
 go_enter Tryz.func167,Tryz.ntmps167
 go_wp2_with (first
  | (go_at_call 220;refine(Ua _).mono ?_;rintro e w' ⟨rfl,rfl⟩)
  | (go_at_call 219;refine(No _ _ _ _).mono ?_;rintro e w' ⟨rfl,a⟩))
 all_goals (go_end0;exact⟨rfl,fj⟩)
theorem EY (A:Option Addr) (c:Nat) (w:World):Calls Tryz.prog 168 #[ac A 0 c] w fun e w'=>e= .returned (ac A 0 c)/\Below w.heap.size w w':=
 (Any.slices_Compact_int_empty rQ A c w).mono fun _ _ ⟨a,b⟩=>⟨a,by rw[b];exact Below.refl _ _⟩
theorem Na (fs:List aw) (a:MA) (m:av) (w:World) (t:fZ w.heap.size w a m) (r:fR fs) (j:bQ fs m) :
  Calls Tryz.prog 116 #[.agg #[ac a.Af m.F.length a.cf,ac a.Ab m.B.length a.cb,ac a.Ai m.I.length a.ci,ac a.Ao m.out.length a.co,ai m.S,ai m.T]] w fun e w'=> ∃q:Option Addr×Nat,True/\e= .returned (ac q.1 (cu m).length q.2)/\Cw w.heap.size w [an (ac q.1 (cu m).length q.2) (cu m)] w':=by
 have s:∀d∈m.F,d.L.length<=1000/\d.K.length<=8:=fun d u=>by
  obtain⟨n,l,rfl⟩:=cA u;have f:=uO r j l;have e:aN m.F n=m.F[n]:=by
   unfold aN;rw[ap,aq l];rfl
  rw[e] at f;exact⟨f.2,f.1⟩
 have k:=Pr j;refine enter Tryz.func116 rfl Tryz.ntmps116 rfl<|aj ?_;refine fun o _=>aj ?_;intro p _;refine bG<|db (fun w f=>Cw.nilO Int f)<|aj ?_;refine dA rfl Tryz.call163 (fun w b=>Lx o p a m t j.n6 s none 0 w (b.msub (.s fc (.s fc (.s fc .r))))) (fun⟨g,h⟩ _=>?_);refine aO ?_;generalize sn m=i at k⊢;generalize cu m=x at k⊢;subst k;rcases i with _ | ⟨d,i⟩
 ·rw[show nH ([]:List Int)= [] from by unfold nH;simp,show Lib.compact ([]:List Int)= [] from by decide];refine cE rfl VB (fun w b=>JX g h w)<|aj ?_;refine cE rfl VA (fun w b=>EY g h w)<|aj ?_;intro w b;exact⟨(g,h),trivial,rfl,b.msub ms⟩
 have:(nH (d::i)).length=(d::i).length:=by unfold nH;exact List.length_mergeSort _
 refine dA rfl VB (fun w b=>DD (b.msub (.s fc .r)) (Nat.succ_pos _) (Bj b fc)) (fun _ _=>aj ?_);refine dA rfl VA (fun w b=>xP (b.msub (.s fc .r)) (Nat.succ_pos _) (Bj b fc)) (fun _ _=>aj ?_);intro w b;exact⟨(g,h),trivial,rfl,b.msub ms⟩
end
section
theorem Lr {l:List Int} {v:Int} (h:v∈l):∃k:Nat,rc l v=k/\k<l.length/\l.getD k 0=v:=by
 unfold rc
 cases e:l.findIdx? (· == v) with
 | none=>
  rw[List.findIdx?_eq_none_iff] at e;have:=e v h;simp at this
 | some k=>
  rw[pz] at e;obtain⟨a,b,_⟩:=e;refine⟨k,rfl,a,?_⟩;rw[ap,aq a];simpa using b
def kJ {α:Type} (l:List α) (f:α->α) (k:Nat):List α:=(l.take k).map f++l.drop k
section
variable {B:Nat} {w0:World} {H:List aP}
theorem EV (u v:Nat) (R:List Int) (r:Int->Int) (L:∀n∈R,aI (r n)) (l j:Option Addr) (s q:Nat) (A:Option Addr) (m c k:Nat) (xs:List aD) (o:k<m) (E:xH (fun n=>n∈R) (xs.getD k default)) (F:(xs.getD k default).ref=true->0<=(xs.getD k default).n) (w:World)
  (a:Cw B w0 (an (ac A m c) xs::ak v [ac l (R.map r).length s] 35::an (ac l (R.map r).length s) (R.map r)::ak u [ac j R.length q] 35::an (ac j R.length q) R::H) w) :
  Calls Tryz.prog 164 #[.pointer (some ⟨ab A,ao A+k*2,none⟩),af v,af u] w fun e w'=> ∃_:Unit,True/\e= .returned (.tuple #[])/\Cw B w0 (an (ac A m c) (xs.set k (dU r (xs.getD k default)))::ak v [ac l (R.map r).length s] 35::an (ac l (R.map r).length s) (R.map r)::ak u [ac j R.length q] 35::an (ac j R.length q) R::H) w':=by
 have y:xs.length=m:=by
  obtain⟨I,x,_⟩:=a.rd cg.a;exact bN.len_eq (cY.sl (show cY w I _ xs from x))
 have C:xs.set k (xs.getD k default)=xs:=by
  apply fK
  intro N;rw[qJ]
  split
  ·rename_i e;subst e;rw[ap,if_pos ω,aq ω];rfl
  rfl
 generalize p:xs.getD k default=b at E F C⊢;refine bF Tryz.func164 rfl Tryz.ntmps164 rfl a<|aj ?_;refine eK rfl (fun w a=>(SF.val (SF.own y fc) o default) w a 0 _ rfl) ?_;refine aC ?_;rw[p];rcases Bool.eq_false_or_eq_true b.ref with d | d
 ·rw[d];refine bd (t:=8) (v':= .bool true) rfl (rfl)<|aj ?_;refine eK rfl (fun w a=>(SF.val (SF.own y fc) o default) w a 1 _ rfl)<|aj ?_;rw[p];refine eI rfl (fun g=>?_) (fun g=>?_)
  ·have g:0<b.n:=g;have D:=E d ω;obtain⟨i,K,z,G⟩:=Lr D;have:i<(R.map r).length:=by rw[aQ];exact z
   have h:dU r b=⟨true,r b.n⟩:=by unfold dU;rw[if_pos ⟨d,ω⟩]
   have J:(R.map r).getD i 0=r b.n:=by
    rw[ap,dw,aq z];rw[ap,aq z] at G;show r R[i]=_;rw[show R[i]=b.n from G]
   refine bh [0,3,6,9,12,15,18,23,24,27,30,33,38] [12] rfl<|aj ?_;refine tE rfl (bU (fun w a=>(SF.val (SF.own y fc) o default) w a 1 _ rfl) rfl rfl bB) ?_;rw[p];refine lc rfl rfl Tryz.call165 ((fun w a=>fT ((fun w a=>Cg _ R b.n w (SF.at_ (SF.own rfl fc) a)) w a))) ?_;rw[K];refine tE rfl (aW (k:=i) ay bg (SF.own (xs:=R.map r) rfl fc) ω rfl rfl rfl) ?_;refine tE rfl (bU (SF.int (SF.own (xs:=R.map r) rfl fc) ω) rfl rfl bB) ?_;refine aC ?_;refine aC ?_;rw[J];refine pE rfl (mL (α:=aD) (f:=1) (us:= [ai (r b.n)]) ⟨true,r b.n⟩ default (xs':=xs.set k (dU r b)) (by rw[h]) fc o (L _ D) bg rfl rfl rfl rfl rfl rfl (by rw[p];show [Value.bool b.ref,_]=_;rw[d];rfl) rfl) (fun _ _=>aj ?_);intro w a;exact⟨(),trivial,rfl,a.msub ms⟩
  have g:¬0<b.n:=g;have h:dU r b=b:=by unfold dU;rw[if_neg (fun x=>by have:=F d;have:=x.2;omega)]
  rw[h,C];refine aj ?_;intro w a;exact⟨(),trivial,rfl,a.msub ms⟩
 rw[d];have h:dU r b=b:=DZ d;rw[h,C];refine bd (t:=8) (v':= .bool false) rfl (rfl)<|aj ?_;refine bY rfl<|aj ?_;intro w a;exact⟨(),trivial,rfl,a.msub ms⟩
theorem AU {α:Type} (l:List α) (f:α->α):kJ l f 0=l:=by unfold kJ;simp
theorem Dr {α:Type} (l:List α) (f:α->α):kJ l f l.length=l.map f:=by unfold kJ;simp
theorem Dq {α:Type} (l:List α) (f:α->α) (k:Nat):(kJ l f k).length=l.length:=by unfold kJ;simp;omega
theorem HY {α:Type} [Inhabited α] {l:List α} {f:α->α} {k:Nat} (a:k<l.length):(kJ l f k).getD k default=l.getD k default:=by
 unfold kJ;rw[ap,dx (by simp;omega),aQ,aB,Nat.min_eq_left ω,px,dR,ap];rfl
theorem Dp {α:Type} [Inhabited α] {l:List α} {f:α->α} {k:Nat} (a:k<l.length):(kJ l f k).set k (f (l.getD k default))=kJ l f (k+1):=by
 unfold kJ;have b:((l.take k).map f).length=k:=by rw[aQ,aB];omega
 rw[py _ _ ω,b,px,eE l k default a,cS,bx]
 congr 1
 rw[jV a,List.set_cons_zero];rfl
def jR (r:Int->Int) (p:aG×aL):aG×aL:=(p.1,kV r p.2)
def er (l:List (aG×aL)) (r:Int->Int) (i:Nat):List (aG×aL):=(kJ l (jR r) i).eraseIdx i
theorem M5 {l:List (aG×aL)} {i:Nat} (hi:i<l.length) {w:World} (h:Cw B w0 (cO l::H) w):∃a d b e,l[i].1.lv= ac a l[i].2.L.length d/\l[i].1.sv= ac b l[i].2.K.length e:=by
 obtain⟨j,k⟩:=RN hi h;obtain⟨a,d,f,_⟩:=j.form;obtain⟨b,e,g,_⟩:=k.form;exact⟨a,d,b,e,f,g⟩
theorem Lw (z x y:Nat) (R:List Int) (r:Int->Int) (a1:∀n∈R,aI (r n)) (j i o:Option Addr) (m k n s:Nat) (J:List Value) (l:List (aG×aL)) (G:List aG) (al:l.length=n) (am:l.map Prod.fst=G) (bo:n<=6)
  (a7:∀p∈l,zC (fun n=>n∈R) p.2) (a0:∀p∈l,∀v∈p.2.L++p.2.K,v.ref=true->0<=v.n) (w:World)
  (u:Cw B w0 (ak z (ac o n s::J) 43::an (ac o n s) G::cO l::ak y [ac j (R.map r).length m] 35::an (ac j (R.map r).length m) (R.map r)::ak x [ac i R.length k] 35::an (ac i R.length k) R::H) w) :
  Calls Tryz.prog 163 #[af z,.func (.func 164) #[] #[af y,af x]] w fun e w'=> ∃_:Unit,True/\e= .returned (.tuple #[])/\Cw B w0 (ak z (ac o n s::J) 43::an (ac o n s) G::cO (l.map (jR r))::ak y [ac j (R.map r).length m] 35::an (ac j (R.map r).length m) (R.map r)::ak x [ac i R.length k] 35::an (ac i R.length k) R::H) w':=by
 have Q:G.length=n:=by rw[<-am,aQ,al]
 refine bF Tryz.func163 rfl Tryz.ntmps163 rfl u<|aj ?_;refine de (fun a:Nat=>a<=n) (fun a=>n - a) (fun a=> [(0,af z),(1,.func (.func 164) #[] #[af y,af x]),(12,ai (n:Int)),(13,ai (a:Int))]) (fun a=>cO (kJ l (jR r) a)::ak z (ac o n s::J) 43::an (ac o n s) G::ak y [ac j (R.map r).length m] 35::ag j m (R.map r)::ak x [ac i R.length k] 35::ag i k R::H) 0 (aU _) ?_ (hh:=(fun w t=>(show Cw _ _ (cO (kJ l (jR r) 0)::ak z (ac o n s::J) 43::an (ac o n s) G::ak y [ac j (R.map r).length m] 35::ag j m (R.map r)::ak x [ac i R.length k] 35::ag i k R::H) w from by rw[AU];exact t.msub ms)));rintro a a2;have:a<=n:=a2;refine ax (fun a5=>?_) (fun a5=>?_)
 ·have N:a<l.length:=ω;have S:=Dq l (jR r) a;have ad:(kJ l (jR r) a)[a]'(by omega)=l[a]:=by
   have:=HY (f:=jR r) N;rw[ap,aq ω,ap,aq N] at this;exact this
  refine ei (p:= ∃C E D F,l[a].1.lv= ac C l[a].2.L.length E/\l[a].1.sv= ac D l[a].2.K.length F) (fun w u=>by
   have:=M5 (l:=kJ l (jR r) a) (i:=a) ω u;rw[ad] at this;exact this) fun⟨C,E,D,F,Y,Z⟩=>?_
  refine db (fun w t=>tu (l:=kJ l (jR r) a) (k:=a) ω t) ?_;rw[ad];have bi:(kJ l (jR r) a).set a (jR r l[a])=kJ l (jR r) (a+1):=by
   have:=Dp (f:=jR r) N;rw[ap,aq N] at this;exact this
  have W:=dh N;obtain⟨a8,a9⟩:=a7 _ W;have ba:∀v∈l[a].2.L,v.ref=true->0<=v.n:=fun v X=>a0 _ W v (iF _ X);have bb:∀v∈l[a].2.K,v.ref=true->0<=v.n:=fun v X=>a0 _ W v (ip _ X);have P:G.getD a default=⟨l[a].1.func,l[a].1.pc,ac C l[a].2.L.length E,ac D l[a].2.K.length F⟩:=by
   rw[<-am,ap,dw,aq N,<-Y,<-Z];rfl
  have T:∀w,Cw B w0 (an l[a].1.lv (jR r l[a]).2.L::an l[a].1.sv (jR r l[a]).2.K::cO (er l r a)::ak z (ac o n s::J) 43::an (ac o n s) G::ak y [ac j (R.map r).length m] 35::ag j m (R.map r)::ak x [ac i R.length k] 35::ag i k R::H) w->Cw B w0 (cO (kJ l (jR r) (a+1))::ak z (ac o n s::J) 43::an (ac o n s) G::ak y [ac j (R.map r).length m] 35::ag j m (R.map r)::ak x [ac i R.length k] 35::ag i k R::H) w:=fun w t=>by
   have:=Bd (l:=kJ l (jR r) a) (k:=a) (q:=jR r l[a]) ω t
   rwa [bi] at this
  show CW _ _ _ _ _ _ _ (an l[a].1.lv l[a].2.L::an l[a].1.sv l[a].2.K::cO (er l r a)::ak z (ac o n s::J) 43::an (ac o n s) G::ak y [ac j (R.map r).length m] 35::ag j m (R.map r)::ak x [ac i R.length k] 35::ag i k R::H);rw[Y,Z] at T⊢;have bc:(jR r l[a]).2.L=l[a].2.L.map (dU r):=rfl;have bf:(jR r l[a]).2.K=l[a].2.K.map (dU r):=rfl;rw[bc,bf] at T;generalize l[a].1.func=bk at P;generalize l[a].1.pc=bp at P;generalize l[a].2.L=g at *;generalize l[a].2.K=h at *;refine ei (p:=g.length<=140737488355328/\h.length<=140737488355328) (fun w u=>⟨bA (SF.at_ (SF.own (α:=aD) (xs:=g) rfl fc) u),bA (SF.at_ (SF.own (α:=aD) (xs:=h) rfl fc) u)⟩) fun⟨bs,bt⟩=>?_;refine aj ?_;refine bh [0,3,6,9,12,15,18,21,24,27,30,33,36,39,42,45,54,50,51] [] rfl<|aj ?_;refine tE rfl (aW (k:=a) cP dM (SF.own (α:=aG) Q fc) ω rfl rfl rfl)<|aj ?_;refine tE rfl (bU (fun w u=>(SF.hfr (SF.own (α:=aG) Q fc) (k:=a) ω P) w u 2 _ rfl) rfl rfl dX)<|aj ?_;refine tE rfl (aW (k:=a) cP dM (SF.own (α:=aG) Q fc) ω rfl rfl rfl)<|aj ?_;refine tE rfl (bU (fun w u=>(SF.hfr (SF.own (α:=aG) Q fc) (k:=a) ω P) w u 3 _ rfl) rfl rfl dX)<|aj ?_;refine fun L _=>aj ?_;refine de (fun I:Nat=>I<=2) (fun I=>2 - I) (fun I=> [(0,af z),(1,.func (.func 164) #[] #[af y,af x]),(12,ai (n:Int)),(13,ai (a:Int)),(32,ac (some ⟨L,0,none⟩) 2 2),(33,ai 2),(34,ai (I:Int))]) (fun I=>an (ac C g.length E) (if I=0 then g else g.map (dU r))::an (ac D h.length F) (if I=2 then h.map (dU r) else h)::cO (er l r a)::ak L [ac C g.length E,ac D h.length F] 116::ak z (ac o n s::J) 43::an (ac o n s) G::ak y [ac j (R.map r).length m] 35::ag j m (R.map r)::ak x [ac i R.length k] 35::ag i k R::H) 0 (aU _) ?_ (hh:=(fun w t=>t.msub ms));rintro I a3;have:I<=2:=a3;refine ax (fun a6=>?_) (fun a6=>?_)
  ·rcases(show I=0\/I=1 by omega) with rfl | rfl
   ·rw[if_pos rfl,if_neg κ];refine aj ?_;refine sE (kC (k:=0) oP fA rfl κ rfl rfl rfl) ?_;refine eK rfl (fun w u=>gQ (v:= ac C g.length E) fc rfl w u)<|aj ?_;refine de (fun b:Nat=>b<=g.length) (fun b=>g.length - b) (fun b=> [(0,af z),(1,.func (.func 164) #[] #[af y,af x]),(6,ac C g.length E),(12,ai (n:Int)),(13,ai (a:Int)),(32,ac (some ⟨L,0,none⟩) 2 2),(33,ai 2),(34,ai 0),(39,ai (g.length:Int)),(40,ai (b:Int))]) (fun b=>an (ac C g.length E) (kJ g (dU r) b)::ag D F h::cO (er l r a)::ak L [ac C g.length E,ac D h.length F] 116::ak z (ac o n s::J) 43::an (ac o n s) G::ak y [ac j (R.map r).length m] 35::ag j m (R.map r)::ak x [ac i R.length k] 35::ag i k R::H) 0 (aU _) ?_ (hh:=(fun w t=>(show Cw _ _ (an (ac C g.length E) (kJ g (dU r) 0)::ag D F h::cO (er l r a)::ak L [ac C g.length E,ac D h.length F] 116::ak z (ac o n s::J) 43::an (ac o n s) G::ak y [ac j (R.map r).length m] 35::ag j m (R.map r)::ak x [ac i R.length k] 35::ag i k R::H) w from by rw[AU];exact t.msub ms)));rintro b U;have a4:b<=g.length:=U;have S:=Dq g (dU r) b;refine ax (fun V=>?_) (fun V=>?_)
    ·have K:b<g.length:=ω;have M:=HY (f:=dU r) K;have O:=cC (d:=(default:aD)) K;refine aj ?_;refine da b rfl ((SF.own (xs:=kJ g (dU r) b) S fc)) ?_;refine oE (eW rfl rfl rfl Tryz.call164 (fun w u=>EV x y R r a1 j i m k C g.length E b (kJ g (dU r) b) K (by rw[M];exact a8 _ O) (by rw[M];exact ba _ O) w (u.msub (.s fc (.s fc (.s fc (.s fc (.s fc .r)))))))) (fun _ _=>aj ?_);rw[M,Dp K];refine cJ (b+1) (by show b+1<=_;omega) (by show _ - _<_ - _;omega) (hh:=(fun w t=>t.msub ms))
    obtain rfl:b=g.length:=ω;rw[Dr];refine aj ?_;refine cJ 1 ((by decide:1<=2)) (by show 2 - 1<2 - 0;decide) (hh:=(fun w t=>t.msub ms))
   rw[if_neg κ,if_neg κ];refine aj ?_;refine sE (kC (k:=1) oP fA rfl κ rfl rfl rfl) ?_;refine eK rfl (fun w u=>gQ (v:= ac D h.length F) fc rfl w u)<|aj ?_;refine de (fun b:Nat=>b<=h.length) (fun b=>h.length - b) (fun b=> [(0,af z),(1,.func (.func 164) #[] #[af y,af x]),(6,ac D h.length F),(12,ai (n:Int)),(13,ai (a:Int)),(32,ac (some ⟨L,0,none⟩) 2 2),(33,ai 2),(34,ai 1),(39,ai (h.length:Int)),(40,ai (b:Int))]) (fun b=>an (ac D h.length F) (kJ h (dU r) b)::an (ac C g.length E) (g.map (dU r))::cO (er l r a)::ak L [ac C g.length E,ac D h.length F] 116::ak z (ac o n s::J) 43::an (ac o n s) G::ak y [ac j (R.map r).length m] 35::ag j m (R.map r)::ak x [ac i R.length k] 35::ag i k R::H) 0 (aU _) ?_ (hh:=(fun w t=>(show Cw _ _ (an (ac D h.length F) (kJ h (dU r) 0)::an (ac C g.length E) (g.map (dU r))::cO (er l r a)::ak L [ac C g.length E,ac D h.length F] 116::ak z (ac o n s::J) 43::an (ac o n s) G::ak y [ac j (R.map r).length m] 35::ag j m (R.map r)::ak x [ac i R.length k] 35::ag i k R::H) w from by rw[AU];exact t.msub ms)));rintro b U;have a4:b<=h.length:=U;have S:=Dq h (dU r) b;refine ax (fun V=>?_) (fun V=>?_)
   ·have K:b<h.length:=ω;have M:=HY (f:=dU r) K;have O:=cC (d:=(default:aD)) K;refine aj ?_;refine da b rfl ((SF.own (xs:=kJ h (dU r) b) S fc)) ?_;refine oE (eW rfl rfl rfl Tryz.call164 (fun w u=>EV x y R r a1 j i m k D h.length F b (kJ h (dU r) b) K (by rw[M];exact a9 _ O) (by rw[M];exact bb _ O) w (u.msub (.s fc (.s fc (.s fc (.s fc (.s fc .r)))))))) (fun _ _=>aj ?_);rw[M,Dp K];refine cJ (b+1) (by show b+1<=_;omega) (by show _ - _<_ - _;omega) (hh:=(fun w t=>t.msub ms))
   obtain rfl:b=h.length:=ω;rw[Dr];refine aj ?_;refine cJ 2 ((by decide:2<=2)) (by show 2 - 2<2 - 1;decide) (hh:=(fun w t=>t.msub ms))
  obtain rfl:I=2:=ω;rw[if_neg κ,if_pos rfl];refine aj ?_;refine cJ (a+1) (by show a+1<=_;omega) (by show _ - _<_ - _;omega) (hh:=(fun w t=>T w (t.msub ms)))
 obtain rfl:a=n:=ω;rw[<-al,Dr];refine aj ?_;intro w u;exact⟨(),trivial,rfl,u.msub ms⟩
end
end
section
theorem Od (m:av):(dP m).F.length=m.F.length:=by unfold dP;simp
theorem M9 (r:Int->Int) (l:List (aG×aL)):(l.map (jR r)).map Prod.fst=l.map Prod.fst:=by rw[List.map_map];rfl
theorem M8 (r:Int->Int) (l:List (aG×aL)):(l.map (jR r)).map Prod.snd=(l.map Prod.snd).map (kV r):=by rw[List.map_map,List.map_map];rfl
theorem Pq {r:Int->Int} {l:List (aG×aL)} (h:hU l):hU (l.map (jR r)):=fun e a=>by
 obtain⟨d,b,rfl⟩:=ll.1 a;exact h d b
theorem Ja (fs:List aw) (a:MA) (m:av) (w:World) (p:fZ w.heap.size w a m) (u:fR fs) (f:bQ fs m) :
  Calls Tryz.prog 115 #[.agg #[ac a.Af m.F.length a.cf,ac a.Ab m.B.length a.cb,ac a.Ai m.I.length a.ci,ac a.Ao m.out.length a.co,ai m.S,ai m.T]] w fun e w'=> ∃g:MA,True/\
   e= .returned (.agg #[ac g.Af (dP m).F.length g.cf,ac g.Ab (dP m).B.length g.cb,ac g.Ai (dP m).I.length g.ci,ac g.Ao (dP m).out.length g.co,ai (dP m).S,ai (dP m).T])/\Cw w.heap.size w [an (ac g.Af (dP m).F.length g.cf) (dP m).F,an (ac g.Ab (dP m).B.length g.cb) (dP m).B,an (ac g.Ai (dP m).I.length g.ci) (dP m).I,an (ac g.Ao (dP m).out.length g.co) (dP m).out] w':=by
 have:=(gO f.bl).1;have:=BY (m:=m);have v:∀s∈cu m,0<=s/\s<=m.B.length:=fun s q=>by have:=(kW.1 q).1;omega
 have K:∀k∈cu m,aI (fy m.B (cu m) k):=fun k I=>by
  have n:=v k I;have:=nr m.B (cu m) k.toNat;unfold fy
  split
  ·exact⟨ω,ω⟩
  exact⟨ω,ω⟩
 rw[Od];refine enter Tryz.func115 rfl Tryz.ntmps115 rfl<|aj ?_;refine fun N _=>aj ?_;refine fun O _=>aj ?_;refine et rfl rj (fun w d=>mJ a m w (fZ.ro d p) (kD u f)) (fun b _=>aj ?_);refine fun D _=>aj ?_;refine et rfl Tryz.call116 (fun w d=>Na fs a m w (fZ.ro d p) u f) (fun⟨t,y⟩ _=>?_);refine aO ?_;refine fun E _=>aj ?_;refine et rfl Tryz.call162 (fun w d=>Ub a.Ab t a.cb y m.B (cu m) w (d.ro p.b) (SF.at_ (SF.own rfl fc) d) (wT.of_check f.bl) v ω) (fun⟨⟨l,r⟩,⟨C,M⟩⟩ _=>?_);refine aO ?_;intro F _;refine aC ?_;refine dE (cV _ fc gu rfl rfl rfl rfl rfl (by rfl) rfl (by rfl)) rfl rfl (fun _ _=>?_);refine bG<|cn<|bK<|aC ?_;refine aC ?_;refine dE (cV _ fc Tryz.sizeOf41 rfl rfl rfl rfl rfl (by rfl) rfl (by rfl)) rfl rfl (fun _ _=>?_);refine bG<|LH (xs:=m.F) (v:= ac b.Af m.F.length b.cf) fc fun h o J=>?_;have G:h.length=m.F.length:=by rw[<-o,aQ]
 have x:∀i∈h,i.2∈m.F:=fun i j=>by rw[<-o];exact lZ j
 refine aj ?_;refine dA rfl Tryz.call163 (fun w d=>Lw D E F (cu m) (fy m.B (cu m)) K C t b.Af M y m.F.length b.cf [ac l (cW m.B (cu m) m.B.length).length r,ac b.Ai m.I.length b.ci,ac b.Ao m.out.length b.co,ai m.S,ai m.T] h (h.map Prod.fst) G rfl f.n6 (fun i j=>E2 f _ (x i j)) (fun i j z L q=>(AS f (x i j) L q).1) w (d.msub (.s fc (.s fc (.s fc (.s fc (.s fc (.s fc (.s fc .r))))))))) (fun _ _=>aj ?_);intro w d;refine⟨⟨b.Af,b.cf,l,r,b.Ai,b.ci,b.Ao,b.co⟩,trivial,rfl,?_⟩;have n:=rO (v:= ac b.Af m.F.length b.cf) (l:=h.map (jR (fy m.B (cu m)))) (H:= [ag l r (cW m.B (cu m) m.B.length),ag b.Ai b.ci m.I,ag b.Ao b.co m.out]) (Pq J) (by rw[M9];exact d.msub ms);rw[M8,o] at n;exact n
end
section
structure jM where
 kind:Int
 of_:Int
 n:Int
 deriving DecidableEq
instance:Inhabited jM:=⟨⟨0,0,0⟩⟩
def qa (n:Nat) (a:jM):Int:=
 if a.kind<1\/4<a.kind then 6 else if (a.kind=1/\a.of_≠0)\/(2<a.kind/\a.n≠0) then 1 else if a.of_<0\/(n:Int)<=a.of_ then 3 else 0
theorem Rh {B:Nat} {w0:World} {H:List aP} (m:Nat) (Aw r:Option Addr) (n cw p s:Nat) (x:Value) (a:jM) (w:World) (_:n<=1000000) (d:Cw B w0 (ak m [ac Aw n cw,ac r p s,x] 112::H) w) :
  Calls Tryz.prog 65 #[af m,.agg #[ai a.kind,ai a.of_,ai a.n]] w fun e w'=> ∃_:Unit,True/\e= .returned (ai (qa n a))/\Cw B w0 (ak m [ac Aw n cw,ac r p s,x] 112::H) w':=by
 obtain⟨y,b⟩:∃y,qa n a=y:=⟨_,rfl⟩
 rw[b];unfold qa at b;refine bF Tryz.func65 rfl Tryz.ntmps65 rfl d<|aj ?_;refine fun z _=>cR 9 (fun g=>?_) (fun g=>?_)
 ·have g:a.kind<1:=of_decide_eq_true g;rw[if_pos (.inl g)] at b;subst b;refine aj ?_;refine aZ rfl<|aj ?_;intro w d;exact⟨(),trivial,rfl,d.msub ms⟩
 have g:¬a.kind<1:=of_decide_eq_false g;refine ax (fun h=>?_) (fun h=>?_)
 ·have h:4<a.kind:=h;rw[if_pos (.inr h)] at b;subst b;refine aj ?_;intro w d;exact⟨(),trivial,rfl,d.msub ms⟩
 have h:¬4<a.kind:=h;rw[if_neg (fun u=>u.elim g h)] at b;refine dq (fun o:Bool=>o=decide ((a.kind=1/\a.of_≠0)\/(2<a.kind/\a.n≠0))) (fun o=> [(0,af m),(3,af z),(14,.bool o)]) (fun _=>ak z [ai a.kind,ai a.of_,ai a.n] 33::ak m [ac Aw n cw,ac r p s,x] 112::H) ?_ ?_
 ·refine cR 18 (fun i=>?_) (fun i=>?_)
  ·have i:a.kind=1:=of_decide_eq_true i;refine cR 23 (fun l=>?_) (fun l=>?_)
   ·have l:¬a.of_=0:=τ l;refine aj ?_;refine kw true (by rw[eq_comm,decide_eq_true_iff];exact .inl ⟨i,l⟩)
   have l:a.of_=0:=τ l;refine cR 27 (fun f=>?_) (fun f=>?_)
   ·exact absurd (of_decide_eq_true f) ω
   have f:¬2<a.kind:=of_decide_eq_false f;refine aj ?_;refine kw false (by rw[eq_comm,decide_eq_false_iff_not];omega)
  have i:¬a.kind=1:=of_decide_eq_false i;refine cR 27 (fun f=>?_) (fun f=>?_)
  ·have f:2<a.kind:=of_decide_eq_true f;refine aj ?_;refine kw (!decide (a.n=0)) (by rw[Bool.eq_iff_iff];simp[i,f])
  have f:¬2<a.kind:=of_decide_eq_false f;refine aj ?_;refine kw false (by rw[eq_comm,decide_eq_false_iff_not];omega)
 rintro o q;refine bO rfl (fun v=>?_) (fun v=>?_)
 ·rw[v] at q;rw[if_pos (of_decide_eq_true q.symm)] at b;subst b;refine aj ?_;intro w d;exact⟨(),trivial,rfl,d.msub ms⟩
 rw[v] at q;rw[if_neg (of_decide_eq_false q.symm)] at b;refine aj ?_;refine bh [0,3,6,9,12,15,18,21,24,27,30,33,36,39,42] [] rfl<|aj ?_;refine pI (t:=37) rfl (fun j=>?_) (fun j=>?_)
 ·have j:a.of_<0:=of_decide_eq_true j;rw[if_pos (.inl j)] at b;subst b;refine aj ?_;refine aZ rfl<|aj ?_;intro w d;exact⟨(),trivial,rfl,d.msub ms⟩
 have j:¬a.of_<0:=of_decide_eq_false j;refine ax (fun k=>?_) (fun k=>?_)
 ·have k:(n:Int)<=a.of_:=k;rw[if_pos (.inr k)] at b;subst b;refine aj ?_;intro w d;exact⟨(),trivial,rfl,d.msub ms⟩
 have k:¬(n:Int)<=a.of_:=k;rw[if_neg (fun u=>u.elim j k)] at b;subst b;refine aj ?_;intro w d;exact⟨(),trivial,rfl,d.msub ms⟩
theorem QM (fs:List aw) (a:MA) (m:av) (w:World) (h:fZ w.heap.size w a m) (d:fR fs) (f:bQ fs m) :
  Calls Tryz.prog 123 #[.agg #[ac a.Af m.F.length a.cf,ac a.Ab m.B.length a.cb,ac a.Ai m.I.length a.ci,ac a.Ao m.out.length a.co,ai m.S,ai m.T]] w fun e w'=> ∃g:MA,True/\
   e= .returned (.tuple #[.agg #[ac g.Af (dP m).F.length g.cf,ac g.Ab (dP m).B.length g.cb,ac g.Ai (dP m).I.length g.ci,ac g.Ao (dP m).out.length g.co,ai (dP m).S,ai (dP m).T],ai 0])/\Cw w.heap.size w [an (ac g.Af (dP m).F.length g.cf) (dP m).F,an (ac g.Ab (dP m).B.length g.cb) (dP m).B,an (ac g.Ai (dP m).I.length g.ci) (dP m).I,an (ac g.Ao (dP m).out.length g.co) (dP m).out] w':=by
 refine enter Tryz.func123 rfl Tryz.ntmps123 rfl<|aj ?_;refine fun i _=>aj ?_;refine fun j _=>aj ?_;refine et rfl Tryz.call115 (fun w b=>Ja fs a m w (fZ.ro b h) d f) (fun g _=>aj ?_);intro w b;exact⟨g,trivial,rfl,b.msub ms⟩
theorem FW {m:av} (h:MI m):(lz m).length<=1000000:=by
 have:=pU h.i.1;have:=pU h.o.1;have:=ww (f:=ix) m.B (fun d a=>pU (h.b.2 d a).1);have:=ww (f:=jd) m.F (fun e b=>zS (h.f.2 e b));have:=h.b.1;have:=h.f.1;unfold lz;simp only[br,au];omega
theorem Ie {fs:List aw} {m:av} (g:dN fs=0) (f:fR fs) (b:bQ fs m):oW fs (lz m)=0/\C3 fs (lz m)=m:=by
 have d:=HZ (DW f b);have a:oW fs (lz m)=0:=by
  unfold oW;rw[if_neg (fun e=>e g),d];exact vZ.2 b
 refine⟨a,?_⟩;unfold C3 sf;rw[if_pos a,d]
theorem QL {B:Nat} {w0:World} {H:List aP} (i d:Nat) (k j:Value) (f:Option Addr) (h:Nat) (fs:List aw) (x:bN w0 B (ac f fs.length h) fs) (v:dN fs=0) (l:fR fs) (a:MA) (m:av) (n:bQ fs m)
  (t:fZ B w0 a m) (w:World) (b:Cw B w0 (ak i [af d] 110::ak d [k,ac f fs.length h,j] 112::H) w) :
  Calls Tryz.prog 124 #[.agg #[ac a.Af m.F.length a.cf,ac a.Ab m.B.length a.cb,ac a.Ai m.I.length a.ci,ac a.Ao m.out.length a.co,ai m.S,ai m.T],af i] w fun e w'=> ∃g:MA,True/\
   e= .returned (.tuple #[.agg #[ac g.Af m.F.length g.cf,ac g.Ab m.B.length g.cb,ac g.Ai m.I.length g.ci,ac g.Ao m.out.length g.co,ai m.S,ai m.T],ai 0])/\Cw B w0 (an (ac g.Af m.F.length g.cf) m.F::an (ac g.Ab m.B.length g.cb) m.B::an (ac g.Ai m.I.length g.ci) m.I::an (ac g.Ao m.out.length g.co) m.out::ak i [af d] 110::ak d [k,ac f fs.length h,j] 112::H) w':=by
 obtain⟨s,u⟩:=Ie v l n;have o:=DW l n;have:=FW o;have p:=fun w r=>K7 f h fs (lz m) m u ω w r;rw[s] at p;refine bF Tryz.func124 rfl Tryz.ntmps124 rfl b<|aj ?_;refine fun q _=>aj ?_;refine fun y _=>aj ?_;refine eu [0,3,6,9,12,17,20,21,24,29,30] [] rfl [ak q (ah a m) 43,ak i [af d] 110,ak d [k,ac f fs.length h,j] 112]<|aj ?_;refine lc rfl rfl Tryz.call118 (fun w b=>IP a m w (t.ro b) o) ?_;refine kL rfl rfl Tryz.call60 (fun w b=>p w (b.ro x)) (fun g _=>aj ?_);intro w b;exact⟨g,trivial,rfl,b.msub ms⟩
theorem KC {α:Type} (b:List α) (c:α) (H a:List α):(b++c::(H++a)).Perm (b++(a++c::H)):=List.Perm.append_left b (show (c::H++a).Perm (a++c::H) from List.perm_append_comm)
theorem RF {l:List av} {m:av} {i k:Nat} (a:k<l.length) (h:k≠i):(l.set i m).take (k+1)=(l.set i m).take k++ [az l k]:=by
 rw[eE _ k default (by rw[cI];exact a),ap,qJ,if_neg ω];rfl
theorem RH {l:List av} {m:av} {i:Nat} (hi:i<l.length):(l.set i m).take (i+1)=(l.set i m).take i++ [m]:=by
 rw[eE _ i default (by rw[cI];exact hi),ap,qJ,if_pos rfl,if_pos hi];rfl
theorem Dl {B:Nat} {w0:World} {H:List aP} (o i:Nat) (Aw:Option Addr) (cw:Nat) (u s:Value) (fs:List aw) (l:List av) (d:av) (f:FuncId) (cap:Array Value) (E:bN w0 B (ac Aw l.length cw) l) (z:lF fs l) (hi:i<l.length) (J:aI d.S/\aI d.T)
  (K:∀a w,(callFunc f a).run Tryz.prog w= .ok (.enter f a) w)
  (M:∀(a:MA) (H':List aP) (w:World),fZ B w0 a (az l i)->Cw B w0 (ak o [ac Aw l.length cw,u,s] 112::H++H') w->Calls Tryz.prog f (([.agg #[ac a.Af (az l i).F.length a.cf,ac a.Ab (az l i).B.length a.cb,ac a.Ai (az l i).I.length a.ci,ac a.Ao (az l i).out.length a.co,ai (az l i).S,ai (az l i).T]]:List Value)++cap.toList).toArray w fun e w'=> ∃g:MA,True/\
   e= .returned (.tuple #[.agg #[ac g.Af d.F.length g.cf,ac g.Ab d.B.length g.cb,ac g.Ai d.I.length g.ci,ac g.Ao d.out.length g.co,ai d.S,ai d.T],ai 0])/\Cw B w0 (an (ac g.Af d.F.length g.cf) d.F::an (ac g.Ab d.B.length g.cb) d.B::an (ac g.Ai d.I.length g.ci) d.I::an (ac g.Ao d.out.length g.co) d.out::ak o [ac Aw l.length cw,u,s] 112::H++H') w')
  (w:World) (r:Cw B w0 (ak o [ac Aw l.length cw,u,s] 112::H) w) :
  Calls Tryz.prog 122 #[af o,ai (i:Int),.func (.func f) #[] cap] w fun e w'=> ∃q:Option Addr×Nat,True/\e= .returned (.tuple #[.agg #[ac q.1 (l.set i d).length q.2],ai 0])/\Cw B w0 (an (ac q.1 (l.set i d).length q.2) (l.set i d)::ak o [ac Aw l.length cw,u,s] 112::H) w':=by
 have:=bA E;have:=z.n4;have:(l.set i d).length=l.length:=cI ..;refine bF Tryz.func122 rfl Tryz.ntmps122 rfl r<|aj ?_;refine fun p _=>aj ?_;refine fun m _=>aj ?_;refine db (fun w h=>Cw.nilO av h) ?_;refine de (fun g:Nat×Option Addr×Nat=>g.1<=l.length) (fun g=>l.length - g.1) (fun g=> [(1,ai (i:Int)),(2,.func (.func f) #[] cap),(6,af p),(8,af m),(17,ac Aw l.length cw),(18,ai (l.length:Int)),(19,ai (g.1:Int))]) (fun g=> [ak p [ac none 0 0] 27,ak m [ac g.2.1 ((l.set i d).take g.1).length g.2.2] 27,ag g.2.1 g.2.2 ((l.set i d).take g.1)]++(ak o [ac Aw l.length cw,u,s] 112::H)) (0,none,0) (aU _) ?_ (hh:=(fun _ h=>h.msub ms));rintro⟨b,j,k⟩ F
 try dsimp only
 have F:b<=l.length:=F;have:((l.set i d).take b).length=b:=by rw[aB];omega
 refine ax (fun N=>?_) (fun N=>?_)
 ·have C:b<l.length:=ω;obtain⟨a,G,L⟩:=E.mc C;have I:=z.i64 C;refine fk (fh ?_);refine dq (fun _:Option Addr×Nat=>True) (fun _=> [(1,ai (i:Int)),(2,.func (.func f) #[] cap),(6,af p),(8,af m),(17,ac Aw l.length cw),(18,ai (l.length:Int)),(19,ai (b:Int))]) (fun q=> [ak p [ac none 0 0] 27,ak m [ac q.1 ((l.set i d).take (b+1)).length q.2] 27,ag q.1 q.2 ((l.set i d).take (b+1))]++(ak o [ac Aw l.length cw,u,s] 112::H)) ?_ ?_
  ·refine aj ?_;refine da _ rfl (.ro E) ?_;refine iB rfl (L _)<|aj ?_;refine fun y _=>cF (fun D=>?_) (fun D=>?_)
   ·have D:b≠i:=ω;refine aj ?_;refine eu [0,3,6,11,14,17,19,23] [5,6,7] rfl [ak m [ac j ((l.set i d).take b).length k] 27,ak y (ah a (az l b)) 43]<|aj ?_;refine kL rfl rfl rj (fun w r=>mJ a (az l b) w (G.ro r) (kD z.f (z.r _ (gD C)))) (fun n _=>aj ?_);intro P _;refine pE rfl (bV (α:=av) (bytes:=112) (az l b) (ae n (az l b) []) (RF C D) dF (aS ka) rfl (ss fc fc fc fc fc fc) (nL I) ω ω rfl rfl rfl) (fun⟨v,x⟩ _=>?_);refine aO ?_;refine bW (v,x) trivial (hh:=(fun _ h=>h.msub ms))
   obtain rfl:b=i:=ω;refine aj ?_;refine oE (eW rfl rfl rfl K (fun w r=>M a [ak p [ac none 0 0] 27,ak m [ac j ((l.set b d).take b).length k] 27,ag j k ((l.set b d).take b),ak y (ah a (az l b)) 43] w G (Cw.perm (show Cw B w0 ([ak p [ac none 0 0] 27,ak m [ac j ((l.set b d).take b).length k] 27,ag j k ((l.set b d).take b),ak y (ah a (az l b)) 43]++(ak o [ac Aw l.length cw,u,s] 112::H)) w from r.msub ms) List.perm_append_comm))) (fun g _=>aj ?_);refine fun Q _=>aj ?_;refine cN (t:=41) (v':= .bool false) rfl rfl<|bY rfl<|fk (fh ?_);refine db (fun w h=>h.perm (KC [_,_,_,_,_] _ H [ak p [ac none 0 0] 27,ak m [ac j ((l.set b d).take b).length k] 27,ag j k ((l.set b d).take b),ak y (ah a (az l b)) 43]))<|aj ?_;intro R _;refine oE (bV (α:=av) (bytes:=112) d (ae g d []) (RH hi) dF (aS ka) rfl (ss fc fc fc fc fc fc) (nL J) ω ω rfl rfl rfl) (fun⟨v,x⟩ _=>?_);refine aO ?_;refine bW (v,x) trivial (hh:=(fun _ h=>h.msub ms))
  rintro⟨v,x⟩ _;refine aO ?_;refine cJ (b+1,v,x) (by show b+1<=_;omega) (by show _ - _<_ - _;omega) (hh:=(fun _ h=>h.msub ms))
 obtain rfl:b=l.length:=ω;rw[bD ω];refine aj ?_;intro w r;exact⟨(j,k),trivial,rfl,r.msub ms⟩
end
section
def LA (fs:List aw) (l:List av) (a:jM):List av×Int:=
 if a.kind=1 then (mw fs l a.n,iI fs l a.n) else if a.kind=2 then (my fs l a.of_ a.n,jk fs l a.of_ a.n) else if a.kind=3 then (l.set a.of_.toNat (dP (az l a.of_.toNat)),0) else (l,0)
def iV (fs:List aw) (l:List av) (a:jM):List av×Int:=if du fs l≠0 then ([],du fs l) else if qa l.length a≠0 then ([],qa l.length a) else LA fs l a
theorem MX {l:List av} {i:Nat} (hi:i<l.length):l.set i (az l i)=l:=by
 apply fK
 intro b;rw[qJ]
 split
 ·rename_i a;subst a;rw[aq hi];unfold az;rw[ap,aq hi];rfl
 rfl
theorem To {B:Nat} {w0:World} {H:List aP} (d:Nat) (Aw g:Option Addr) (cw h:Nat) (r:Value) (fs:List aw) (l:List av) (b z:Int) (i:Nat) (R:List av×Int) (f:LA fs l ⟨b,i,z⟩=R) (K:bN w0 B (ac g fs.length h) fs) (u:bN w0 B (ac Aw l.length cw) l) (m:lF fs l) (M:ne l) (x:i<l.length) (_:1<=b/\b<=4) (O:aI z)
  (w:World) (a:Cw B w0 (ak d [ac Aw l.length cw,ac g fs.length h,r] 112::H) w) :
  Calls Tryz.prog 66 #[af d,.agg #[ai b,ai (i:Int),ai z]] w fun e w'=> ∃q:Option Addr×Nat,True/\e= .returned (.tuple #[.agg #[ac q.1 R.1.length q.2],ai R.2])/\Cw B w0 (an (ac q.1 R.1.length q.2) R.1::ak d [ac Aw l.length cw,ac g fs.length h,r] 112::H) w':=by
 have:=bA u;have:=m.n4;have v:=m.r _ (gD x);change (if b=1 then (mw fs l z,iI fs l z) else if b=2 then (my fs l i z,jk fs l i z) else if b=3 then (l.set i (dP (az l i)),0) else (l,0))=R at f;refine bF Tryz.func66 rfl Tryz.ntmps66 rfl a<|aj ?_;refine fun s _=>aj ?_;refine fun t _=>aj ?_;refine fun D _=>ax (fun n=>?_) (fun n=>?_)
 ·have n:b=1:=n;rw[if_pos n] at f;refine aj ?_;refine eu [0,3,6,9,12,15,18,21,24,27,32,33,36,41,42] [] rfl [ak s [af d] 110,ak t [ai b,ai (i:Int),ai z] 33,ak d [ac Aw l.length cw,ac g fs.length h,r] 112]<|aj ?_;refine kL rfl rfl xx (fun w a=>BE g Aw h cw fs l z _ rfl w (a.ro K) (a.ro u) M) (fun⟨j,k⟩ _=>?_);refine aO ?_;intro w a;subst f;exact⟨(j,k),trivial,rfl,a.msub ms⟩
 have n:¬b=1:=n;rw[if_neg n] at f;refine ax (fun o=>?_) (fun o=>?_)
 ·have o:b=2:=o;rw[if_pos o] at f;refine aj ?_;refine eu [0,3,6,9,12,15,18,21,24,27,30,33,38,39,42,47,48] [] rfl [ak s [af d] 110,ak t [ai b,ai (i:Int),ai z] 33,ak d [ac Aw l.length cw,ac g fs.length h,r] 112]<|aj ?_;refine kL rfl rfl Tryz.call39 (fun w a=>BF g Aw h cw fs l i z O _ rfl w (a.ro K) (a.ro u) M) (fun⟨j,k⟩ _=>?_);refine aO ?_;intro w a;subst f;exact⟨(j,k),trivial,rfl,a.msub ms⟩
 have o:¬b=2:=o;rw[if_neg o] at f;refine ax (fun p=>?_) (fun p=>?_)
 ·have p:b=3:=p;rw[if_pos p] at f;subst f;have I:=lE (wG v);refine aj ?_;refine dA rfl Tryz.call122 (fun w a=>Dl (H:=ak s [af d] 110::ak t [ai b,ai (i:Int),ai z] 33::ak D [ac none 0 0] 27::H) d i Aw cw (ac g fs.length h) r fs l (dP (az l i)) 123 #[] u m x I Tryz.call123 (fun y L w J a=>(QM fs y (az l i) w (J.ro a) m.f v).mono fun e w' ⟨C,E,F,G⟩=>⟨C,E,F,a.app G⟩) w (a.msub ms)) (fun⟨j,k⟩ _=>?_);refine aO ?_;intro w a;exact⟨(j,k),trivial,rfl,a.msub ms⟩
 have p:¬b=3:=p;rw[if_neg p] at f;subst f;have I:=lE v;have N:=MX x;refine aj ?_;refine dA rfl Tryz.call122 (fun w a=>Dl (H:=ak s [af d] 110::ak t [ai b,ai (i:Int),ai z] 33::ak D [ac none 0 0] 27::H) d i Aw cw (ac g fs.length h) r fs l (az l i) 124 #[af s] u m x I Tryz.call124 (fun y L w J a=>(QL (H:=ak t [ai b,ai (i:Int),ai z] 33::ak D [ac none 0 0] 27::(H++L)) s d (ac Aw l.length cw) r g h fs K m.p m.f y (az l i) v J w (a.perm (List.Perm.swap _ _ _))).mono fun e w' ⟨C,E,F,G⟩=>⟨C,E,F,G.perm (List.Perm.append_left [_,_,_,_] (List.Perm.swap _ _ _))⟩) w (a.msub ms)) (fun⟨j,k⟩ _=>?_);refine aO ?_;rw[N];refine aj ?_;intro w a;exact⟨(j,k),trivial,rfl,a.msub ms⟩
theorem L7 {n:Nat} {a:jM} (h:qa n a=0):(1<=a.kind/\a.kind<=4)/\0<=a.of_/\a.of_<n:=by
 unfold qa at h
 split at h
 ·cases h
 split at h
 ·cases h
 split at h
 ·cases h
 omega
theorem AP (h Aw:Option Addr) (i cw:Nat) (fs:List aw) (l:List av) (g o z:Int) (R:List av×Int) (d:iV fs l ⟨g,o,z⟩=R) (D:aI z) (w:World) (t:Sl w (ac h fs.length i) fs) (k:Sl w (ac Aw l.length cw) l) (r:ne l) :
  Calls Tryz.prog 12 #[.agg #[ac h fs.length i],.agg #[ac Aw l.length cw],.agg #[ai g,ai o,ai z]] w fun e w'=> ∃q:Option Addr×Nat,True/\e= .returned (.tuple #[.agg #[ac q.1 R.1.length q.2],ai R.2])/\Cw w.heap.size w [an (ac q.1 R.1.length q.2) R.1] w':=by
 have:=bA k;unfold iV at d;refine enter Tryz.func12 rfl Tryz.ntmps12 rfl<|aj ?_;refine fun F _=>aj ?_;refine fun G _=>aj ?_;refine fun I _=>aj ?_;refine fun J _=>aj ?_;refine cE rfl JD (fun w a=>oT h Aw i cw fs l w (a.ro t) (a.ro k) r)<|aj ?_;refine fun m _=>ax (fun b=>?_) (fun b=>?_)
 ·have b:du fs l=0:=b;have p:=pB b;have:=p.n4;rw[if_neg (fun j=>j b)] at d;refine aj ?_;refine dA rfl Tryz.call65 (fun w a=>Rh m Aw h l.length cw fs.length i (ac none 0 0) ⟨g,o,z⟩ w ω (a.msub (.s fc .r))) (fun _ _=>cF (fun f=>?_) (fun f=>?_))
  ·have f:¬qa l.length ⟨g,o,z⟩=0:=f;rw[if_pos f] at d;subst d;refine aj ?_;intro w a;exact⟨(none,0),trivial,rfl,(Cw.nilO av a).msub ms⟩
  have f:qa l.length ⟨g,o,z⟩=0:=f;rw[if_neg (fun j=>j f)] at d;obtain⟨C,s⟩:=L7 f;obtain⟨u,rfl⟩:=la s.1;have y:u<l.length:=by have:=s.2;simp only at this;omega
  refine aj ?_;refine dA rfl Tryz.call66 (fun w a=>To m Aw h cw i (ac none 0 0) fs l g z u R d t k p r y C D w (a.msub (.s fc .r))) (fun⟨v,x⟩ _=>?_);refine aO ?_;intro w a;exact⟨(v,x),trivial,rfl,a.msub ms⟩
 have b:¬du fs l=0:=b;rw[if_pos b] at d;subst d;refine cF (fun n=>?_) (fun n=>?_)
 ·refine aj ?_;intro w a;exact⟨(none,0),trivial,rfl,(Cw.nilO av a).msub ms⟩
 exact absurd n b
end
section
theorem qC (f g:Option Addr) (q r h i:Nat) (l1 l2:List av) (w:World) (o:bN w w.heap.size (ac f q h) l1) (h2:bN w w.heap.size (ac g r i) l2) (x:l1.length=q) (y:l2.length=r) :
  Calls Tryz.prog 13 #[.agg #[ac f q h],.agg #[ac g r i]] w fun e w'=>e= .returned (.bool (decide (l1=l2)))/\Below w.heap.size w w':=by
 subst x y;have:=bA o;refine enter Tryz.func13 rfl Tryz.ntmps13 rfl<|aj ?_;refine fun l _=>aj ?_;refine fun m _=>cF (fun j=>?_) (fun j=>?_)
 ·refine aj ?_;intro w b;exact⟨aX (by rw[decide_eq_false (fun n=>j (by rw[n]))]),b.below⟩
 have j:l1.length=l2.length:=ω;refine aj ?_;refine de (fun a:Nat=>a<=l1.length/\l1.take a=l2.take a) (fun a=>l1.length - a) (fun a=> [(2,af l),(3,af m),(5,ai (a:Int))]) (fun _=> [ak l [ac f l1.length h] 27,ak m [ac g l2.length i] 27]) 0 (⟨aU _,rfl⟩) ?_;rintro a D;obtain⟨J,p⟩:a<=l1.length/\l1.take a=l2.take a:=D;refine ax (fun E=>?_) (fun E=>?_)
 ·have s:a<l1.length:=ω;have t:a<l2.length:=ω;obtain⟨u,F,z⟩:=o.mc s;obtain⟨v,G,C⟩:=h2.mc t;refine fk (fh ?_);refine cn<|iP<|dq (fun _:Unit=>True) (fun _=> [(2,af l),(3,af m),(5,ai (a:Int)),(31,.bool (!decide (az l1 a=az l2 a)))]) (fun _=> [ak l [ac f l1.length h] 27,ak m [ac g l2.length i] 27]) ?_ ?_
  ·refine bh [0,3,6,9,12,15,18,21,24,27,32,33] [] rfl<|aj ?_;refine tE rfl (aW (k:=a) dF bZ (.ro o) ω rfl rfl rfl) ?_;refine tE rfl (eC (z _) rfl rfl kr bZ)<|aj ?_;refine tE rfl (aW (k:=a) dF bZ (.ro h2) ω rfl rfl rfl) ?_;refine tE rfl (eC (C _) rfl rfl kr bZ) ?_;refine lc rfl rfl Tryz.call15 (fun w b=>DJ u v (az l1 a) (az l2 a) w (F.ro b) (G.ro b))<|aj ?_;refine bR<|bW () trivial
  rintro⟨⟩ _
  try dsimp only
  refine bO rfl (fun d=>?_) (fun d=>?_)
  ·refine aj ?_;intro w b;exact⟨aX (by rw[decide_eq_false (fun n=>nn d (by rw[n]))]),b.below⟩
  have d:=lQ d;refine aj ?_;refine cJ (a+1) (⟨by show a+1<=_;omega,uf default s t p d⟩) (by show _ - _<_ - _;omega)
 obtain rfl:a=l1.length:=ω;rw[aR,j,aR] at p;refine aj ?_;intro w b;exact⟨aX (by rw[decide_eq_true p]),b.below⟩
end
section
def vu (i:List Int) (s:Int):av:=⟨[⟨0,0,[],[]⟩],[],i,[],s,0⟩
def fl:List av:= [kM,kM]
def rZ:List av:= [vu [3] 0,vu [] 0]
def oC:List av:= [vu [] 1,vu [9] 0]
def nD:List av:= [vu [81] 0,vu [] 1]
theorem xk {a b:av} (e:a.F=kM.F) (h2:b.F=kM.F):ne [a,b]:=by
 refine⟨by show 2*112<=_;decide,fun d f=>?_⟩;have:d=a\/d=b:=τ f;rcases this with rfl | rfl
 ·rw[e];exact Hu
 rw[h2];exact Hu
theorem yO:ne fl:=xk rfl rfl
theorem pV:fl.length=2:=rfl
section
variable {A Aw:Option Addr} {c cw:Nat} {w:World}
end
theorem yC (a b:Option Addr) (d:Nat) (n:Int) (w:World) (f:Sl w (ac a 1 d) [n]) (h2:Sl w (ac b 1 1) [n]):Calls Tryz.prog 63 #[ac a 1 d,ac b 1 1] w fun e w'=>e= .returned (.bool true)/\Below w.heap.size w w':=by
 have:=lH a b d 1 [n] [n] w f h2;rw[decide_eq_true rfl] at this;exact this
attribute [irreducible] rZ oC nD fl
end
section
theorem lF.fit {fs:List aw} {l:List av} (h:lF fs l):ne l:=⟨by have:=h.n4;omega,fun b a=>(kD h.f (h.r b a)).f⟩
end
section
def sa (fs:List aw) (l:List av):Int:=if dN fs≠0 then dN fs else if l.length=0 then 5 else if 4<l.length then 2 else 0
def vl (fs:List aw) (l:List av):Int:=if dN fs≠0 then dN fs else if l.length=0 then 5 else 0
theorem Dm (fs:List aw) (l:List av):sa fs l=if vl fs l=0/\4<l.length then 2 else vl fs l:=by
 unfold sa vl
 by_cases a:dN fs=0 <;> by_cases b:l.length=0 <;> by_cases d:4<l.length <;> simp[a,b,d]
theorem vG (fs:List aw) (l:List av):du fs l=if sa fs l≠0 then sa fs l else dZ (ff fs) l:=by
 unfold du sa
 by_cases a:dN fs=0 <;> by_cases b:l.length=0 <;> by_cases d:4<l.length <;> simp[a,b,d]
theorem Mx {fs:List aw} {l:List av} (h:sa fs l=0):dN fs=0:=by
 unfold sa at h
 split at h
 ·exact h
 exact jz.1 (by assumption)
theorem If (m Aw:Option Addr) (n cw:Nat) (fs:List aw) (l:List av) (w:World) (D:Sl w (ac m fs.length n) fs) (u:Sl w (ac Aw l.length cw) l) (I:ne l) :
  Calls Tryz.prog 29 #[.agg #[ac m fs.length n],.agg #[ac Aw l.length cw]] w fun e w'=>e= .returned (ai (du fs l))/\Below w.heap.size w w':=by
 have:=bA u;refine enter Tryz.func29 rfl Tryz.ntmps29 rfl<|aj ?_;refine fun o _=>aj ?_;refine fun p _=>aj ?_;refine cE rfl Tryz.call78 (fun w j=>tx m n fs w (j.ro D)) ?_;refine aC ?_;refine bG<|dq (fun _:Unit=>True) (fun _=> [(2,af o),(3,af p),(5,ai (vl fs l))]) (fun _=> [ak o [ac m fs.length n] 24,ak p [ac Aw l.length cw] 27]) ?_ ?_
 ·refine cR 11 (fun b=>?_) (fun b=>?_)
  ·have b:dN fs=0:=of_decide_eq_true b;refine ax (fun h=>?_) (fun h=>?_)
   ·have h:l.length=0:=by have h:(l.length:Int)=0:=h;omega
    refine aj ?_;refine bd (t:=5) (v':= ai (vl fs l)) rfl (by unfold vl;rw[if_neg (fun a=>a b),if_pos h]) ?_;refine kw () trivial
   have h:¬l.length=0:=by have h:¬(l.length:Int)=0:=h;omega
   refine cN (t:=5) (v':= ai (vl fs l)) rfl (by unfold vl;rw[if_neg (fun a=>a b),if_neg h,b])<|aj ?_;refine bW () trivial
  have b:¬dN fs=0:=of_decide_eq_false b;refine bd (t:=5) (v':= ai (vl fs l)) rfl (by unfold vl;rw[if_pos b])<|aj ?_;refine bY rfl<|aj ?_;refine bW () trivial
 rintro⟨⟩ _
 try dsimp only
 refine dq (fun _:Unit=>True) (fun _=> [(2,af o),(3,af p),(5,ai (sa fs l))]) (fun _=> [ak o [ac m fs.length n] 24,ak p [ac Aw l.length cw] 27]) ?_ ?_
 ·refine cR 19 (fun b=>?_) (fun b=>?_)
  ·have b:vl fs l=0:=of_decide_eq_true b;refine ax (fun i=>?_) (fun i=>?_)
   ·have i:4<l.length:=by have i:(4:Int)<l.length:=i;omega
    refine aj ?_;refine bd (t:=5) (v':= ai (sa fs l)) rfl (by rw[Dm,if_pos ⟨b,i⟩]) ?_;refine kw () trivial
   have i:¬4<l.length:=by have i:¬(4:Int)<l.length:=i;omega
   refine cN (t:=5) (v':= ai (sa fs l)) rfl (by rw[Dm,if_neg (fun a=>i a.2)])<|aj ?_;refine bW () trivial
  have b:¬vl fs l=0:=of_decide_eq_false b;refine bd (t:=5) (v':= ai (sa fs l)) rfl (by rw[Dm,if_neg (fun a=>b a.1)])<|aj ?_;refine bY rfl<|aj ?_;refine bW () trivial
 rintro⟨⟩ _;refine aO ?_;refine de (fun f:Nat×Int=>f.1<=l.length/\(f.2≠0->f.2=du fs l)/\(f.2=0->sa fs l=0/\dZ (ff fs) (l.take f.1)=0)) (fun f=>l.length - f.1) (fun f=> [(2,af o),(3,af p),(5,ai f.2),(6,ai (f.1:Int))]) (fun _=> [ak o [ac m fs.length n] 24,ak p [ac Aw l.length cw] 27]) (0,sa fs l) (⟨aU _,fun a=>by rw[vG,if_pos a],fun a=>⟨a,rfl⟩⟩) ?_;rintro⟨d,e⟩ J
 try dsimp only
 obtain⟨M,z,C⟩:d<=l.length/\(e≠0->e=du fs l)/\(e=0->sa fs l=0/\dZ (ff fs) (l.take d)=0):=J;refine cR 30 (fun r=>?_) (fun r=>?_)
 ·have r:(d:Int)<l.length:=of_decide_eq_true r;refine ax (fun g=>?_) (fun g=>?_)
  ·have g:e=0:=g;subst g;obtain⟨q,x⟩:=C rfl;have s:d<l.length:=ω;obtain⟨E,K,F⟩:=u.mc s;have v:dZ (ff fs) (l.take (d+1))=ff fs (az l d):=jp (g:=ff fs) default s x;have y:=vG fs l;rw[if_neg (fun a=>a q)] at y;refine aj ?_;refine bh [0,3,6,9,12,15,20,22] [6,7] rfl<|aj ?_;refine tE rfl (aW (k:=d) dF bZ (.ro u) ω rfl rfl rfl) ?_;refine tE rfl (eC (F _) rfl rfl kr bZ) ?_;refine lc rfl rfl Tryz.call79 (fun w j=>Im E (az l d) m n fs w (j.ro D) (K.ro j) (ot (Mx q)) (I.2 _ (gD s)) _ rfl)<|aj ?_;refine cJ (d+1,ff fs (az l d)) (⟨by show d+1<=_;omega,fun a=>by show ff fs (az l d)=_;rw[y,mU (k:=d+1) (by rw[v];exact a),v],fun a=>⟨q,v.trans a⟩⟩) (by show _ - _<_ - _;omega)
  have g:¬e=0:=g;refine aj ?_;intro w j;exact⟨fi (z g),j.below⟩
 have r:¬(d:Int)<l.length:=of_decide_eq_false r;obtain rfl:d=l.length:=ω;have G:e=du fs l:=by
  by_cases g:e=0
  ·obtain⟨q,x⟩:=C g;rw[vG,if_neg (fun a=>a q),g,<-x,aR]
  exact z g
 refine aj ?_;refine bY rfl<|aj ?_;intro w j;exact⟨fi G,j.below⟩
end
section
theorem qT (Aw:Option Addr) (cw n:Nat) (fs:List aw) (l:List av) (D:l.length=n) (d:lF fs l) (w:World) (h:Sl w (ac Aw n cw) l) :
  Calls Tryz.prog 36 #[.agg #[ac Aw n cw]] w fun e w'=> ∃g:Option Addr×Nat,True/\e= .returned (.agg #[ac g.1 n g.2])/\Cw w.heap.size w [an (ac g.1 n g.2) l] w':=by
 subst D;have:=bA h;have:=d.n4;refine enter Tryz.func36 rfl Tryz.ntmps36 rfl<|aj ?_;refine fun j _=>aj ?_;refine fun k _=>aj ?_;refine fun m _=>aj ?_;refine db (fun w u=>Cw.nilO av u) ?_;refine de (fun g:Nat×Option Addr×Nat=>g.1<=l.length) (fun g=>l.length - g.1) (fun g=> [(1,af j),(2,af k),(3,af m),(4,ai (g.1:Int))]) (fun g=> [ak m [ac g.2.1 (l.take g.1).length g.2.2] 27,ag g.2.1 g.2.2 (l.take g.1),ak j [ac Aw l.length cw] 27,ak k [ac none 0 0] 27]) (0,none,0) (aU _) ?_;rintro⟨a,p,s⟩ y
 try dsimp only
 have:a<=l.length:=y;have:(l.take a).length=a:=by rw[aB];omega
 refine ax (fun z=>?_) (fun z=>?_)
 ·have f:a<l.length:=ω;obtain⟨r,C,x⟩:=h.mc f;have o:=d.r _ (gD f);have E:l.take (a+1)=l.take a++ [az l a]:=th f;have v:=lE o;refine aj ?_;refine bh [0,3,6,9,12,15,18,23,26,29,31,35] [9,10,11] rfl<|aj ?_;refine tE rfl (aW (k:=a) dF bZ (.ro h) ω rfl rfl rfl) ?_;refine tE rfl (eC (x _) rfl rfl kr bZ) ?_;refine kL rfl rfl CF (fun w i=>nk r (az l a) w (C.ro i) (kD d.f o)) (fun b _=>aj ?_);intro G _;refine pE rfl (bV (α:=av) (bytes:=112) (az l a) (ae b (az l a) []) E dF (aS ka) rfl (ss fc fc fc fc fc fc) (nL v) ω ω rfl rfl rfl) (fun⟨q,t⟩ _=>?_);refine aO ?_;refine cJ (a+1,q,t) (by show a+1<=_;omega) (by show _ - _<_ - _;omega)
 obtain rfl:a=l.length:=ω;rw[aR];refine aj ?_;intro w i;exact⟨(p,s),trivial,rfl,i.msub ms⟩
end
section
def sk (l:List av) (k:Nat) (z:Int):List av:=if (az l k).I.length=10 then [] else l.set k (gP (az l k) z)
theorem BU (Aw:Option Addr) (cw n:Nat) (fs:List aw) (l:List av) (x:l.length=n) (C:lF fs l) (i:Nat) (hi:i<n) (z:Int) (K:aI z) (r:List av) (F:sk l i z=r) (w:World) (E:Sl w (ac Aw n cw) l) :
  Calls Tryz.prog 88 #[.agg #[ac Aw n cw],ai (i:Int),ai z] w fun e w'=> ∃g:Option Addr×Nat,True/\e= .returned (.tuple #[.agg #[ac g.1 r.length g.2],.bool (!decide ((az l i).I.length=10))])/\Cw w.heap.size w [an (ac g.1 r.length g.2) r] w':=by
 have:=bA E;have:=(C.r _ (gD (l:=l) (k:=i) ω)).ib;refine enter Tryz.func88 rfl Tryz.ntmps88 rfl<|aj ?_;refine fun O _=>aj ?_;refine fun P _=>aj ?_;refine et rfl TB (fun w b=>qT Aw cw n fs l x C w (b.ro E)) (fun⟨A,c⟩ _=>?_);refine aO ?_;refine fun Q _=>aj ?_;refine RJ (v:= ac A n c) (L:=l) (k:=i) ω fc fun M p a q=>?_;have s:p.length=n:=q.len.trans x;have u:=q.hd;have y:=q.i64;refine da i rfl ((SF.own (xs:=p) s fc))<|aj ?_;refine eK rfl (fun w b=>(SF.hmc (SF.own (xs:=p) s fc) hi u) w b 2 _ rfl)<|ax (fun d=>?_) (fun d=>?_)
 ·have d:(az l i).I.length=10:=by have d:((az l i).I.length:Int)=10:=d;omega
  have e:r= []:=by rw[<-F];unfold sk;rw[if_pos d]
  subst e;refine aj ?_;intro w b;exact⟨(none,0),trivial,by rw[decide_eq_true d];rfl,(Cw.nilO av b).msub ms⟩
 have d:¬(az l i).I.length=10:=by have d:¬((az l i).I.length:Int)=10:=d;omega
 have e:r=l.set i (gP (az l i) z):=by rw[<-F];unfold sk;rw[if_neg d]
 have t:r.length=n:=by rw[e,cI];exact x
 refine aj ?_;refine eK rfl (fun w b=>(SF.hmc (SF.own (xs:=p) s fc) hi u) w b 2 _ rfl)<|aj ?_;intro S _;refine oE (bV (α:=Int) (bytes:=8) z [] rfl ay (aS cK) rfl (eB (R:=an (ac a.Ai (az l i).I.length a.ci) (az l i).I) fc fc) (pW K) ω ω rfl rfl rfl) (fun⟨h,j⟩ _=>?_)
 try dsimp only
 refine aC ?_;refine aC ?_;refine oE (mL (α:=fp) (A:=A) (c:=c) (m:=n) (f:=2) (us:= [ac h ((az l i).I++ [z]).length j]) (lf ⟨a.Af,a.cf,a.Ab,a.cb,h,j,a.Ao,a.co⟩ {az l i with I:=(az l i).I++ [z]}) default rfl fc hi (rI y) gu rfl rfl rfl rfl rfl rfl (by rw[u];rfl) rfl) (fun _ _=>aj ?_);have J:(p.set i (lf ⟨a.Af,a.cf,a.Ab,a.cb,h,j,a.Ao,a.co⟩ {az l i with I:=(az l i).I++ [z]})).length=n:=by rw[cI];exact s
 have D:(p.set i (lf ⟨a.Af,a.cf,a.Ab,a.cb,h,j,a.Ao,a.co⟩ {az l i with I:=(az l i).I++ [z]})).getD i default=lf ⟨a.Af,a.cf,a.Ab,a.cb,h,j,a.Ao,a.co⟩ {az l i with I:=(az l i).I++ [z]} :=vv ω _ _;refine eK rfl (fun w b=>(SF.hmc (SF.own (A:=A) (c:=c) J fc) hi D) w b 4 _ rfl)<|ax (fun o=>?_) (fun o=>?_)
 ·have o:(az l i).S=1:=o;refine bK<|aC ?_;refine aC ?_;refine aC ?_;refine oE (mL (α:=fp) (A:=A) (c:=c) (m:=n) (f:=4) (us:= [ai 0]) (lf ⟨a.Af,a.cf,a.Ab,a.cb,h,j,a.Ao,a.co⟩ (gP (az l i) z)) default (List.set_set ..).symm fc hi (rI ⟨by unfold gP;dsimp only;rw[if_pos o];decide,y.2⟩) bg rfl rfl rfl rfl rfl rfl (by rw[D];unfold gP;rw[if_pos o];rfl) rfl) (fun _ _=>aj ?_);intro w b;refine⟨(A,c),trivial,by rw[decide_eq_false d,t];rfl,?_⟩;rw[t,e];exact(q.back (ac A n c) ⟨a.Af,a.cf,a.Ab,a.cb,h,j,a.Ao,a.co⟩ (gP (az l i) z) _ _ (b.msub (.s fc (.s fc (.s fc (.s fc (.s fc (.s fc .r)))))))).msub ms
 have o:¬(az l i).S=1:=o;have G:gP (az l i) z= {az l i with I:=(az l i).I++ [z]} :=by unfold gP;rw[if_neg o]
 refine aj ?_;intro w b;refine⟨(A,c),trivial,by rw[decide_eq_false d,t];rfl,?_⟩;rw[t,e,G];exact(q.back (ac A n c) ⟨a.Af,a.cf,a.Ab,a.cb,h,j,a.Ao,a.co⟩ {az l i with I:=(az l i).I++ [z]} _ _ (b.msub (.s fc (.s fc (.s fc (.s fc (.s fc (.s fc .r)))))))).msub ms
end
section
theorem lF.right {fs:List aw} {l r:List av} (h:lF fs l) (a:r.length=l.length) (b:∀m∈r,bQ fs m):lF fs r:=⟨h.p,h.f,b,by rw[a];exact h.n0,by rw[a];exact h.n4⟩
theorem Ki (Aw:Option Addr) (cw n:Nat) (fs:List aw) (l:List av) (T:l.length=n) (R:lF fs l) (r:List av×Nat) (b3:mA l=r) (w:World) (y:Sl w (.slice Aw n cw) l) :
  Calls Tryz.prog 146 #[.agg #[.slice Aw n cw]] w fun e w'=> ∃g:Option Addr×Nat,True/\e= .returned (.tuple #[.agg #[.slice g.1 n g.2],.int .i64 (r.2:Int)])/\Cw w.heap.size w [an (.slice g.1 n g.2) r.1] w':=by
 have:=bA y;have:n<=4:=by rw[<-T];exact R.n4
 have:1<=n:=by rw[<-T];exact R.n0
 have a0:=R.r;have a8:∀a,a<=n->(bH l a).2<=40:=fun a bt=>by
  have S:=(ly (fs:=fs) l a (by omega)).1;have am:=S.cnt (fun I=>(az l I).out.length - (az (bH l a).1 I).out.length) fun I bs=>by have:=S.fewer I bs;omega
  have bi:∀m,m<=l.length->((List.range m).map fun I=>(az l I).out.length - (az (bH l a).1 I).out.length).sum<=m*10:=by
   intro m
   induction m with
   | zero=>exact fun _=>aF _
   | succ m b6=>
    intro ci;have:=b6 (by omega);have:=(a0 _ (gD (l:=l) (k:=m) (by omega))).ob;rw[iA,cS,ve];show _+(((az l m).out.length - (az (bH l a).1 m).out.length)+0)<=_;omega
  have:=bi l.length (aF _);omega
 refine enter Tryz.func146 rfl Tryz.ntmps146 rfl<|aj ?_;refine fun Z _=>aj ?_;refine fun J _=>aj ?_;refine et rfl TB (fun w p=>qT Aw cw n fs l T R w (p.ro y)) (fun⟨bb,bf⟩ _=>?_);refine aO ?_;refine fun K _=>aj ?_;refine de (fun g:Nat×Option Addr×Nat=>g.1<=n) (fun g=>n - g.1) (fun g=> [(2,.pointer (some ⟨J,0,none⟩)),(4,.pointer (some ⟨K,0,none⟩)),(5,.int .i64 ((bH l g.1).2:Int)),(6,.int .i64 (g.1:Int))]) (fun g=> [ak K [.slice g.2.1 n g.2.2] 27,an (.slice g.2.1 n g.2.2) (bH l g.1).1,ak Z [.slice Aw n cw] 27,ak J [.slice none 0 0] 27]) (0,bb,bf) (aU _) ?_;rintro⟨a,A,c⟩ bv
 try dsimp only
 have bt:a<=n:=bv;have S:=(ly (fs:=fs) l a (by omega)).1;have:=S.len;refine ax (fun b0=>?_) (fun b0=>?_)
 ·have X:a<n:=by omega
  have a9:iL a l.length<n:=by have:=tH (i:=a) (n:=l.length) (by omega);omega
  obtain⟨h,Y⟩:∃ba,iL a l.length=ba:=⟨_,rfl⟩
  rw[Y] at a9;have b4:(bH l (a+1)).1=(fd (bH l a).1 a h).1:=by rw[<-Y];rfl
  have P:(bH l (a+1)).2=(bH l a).2+(fd (bH l a).1 a h).2:=by rw[<-Y];rfl
  have:=a8 (a+1) (by omega);have:=a8 a (by omega);refine aj ?_;refine de (fun g:List av×Nat×Option Addr×Nat=>((g.1.length=n/\∀m∈g.1,bQ fs m)/\(fd g.1 a h).1=(bH l (a+1)).1)/\(bH l a).2+g.2.1+(fd g.1 a h).2=(bH l (a+1)).2) (fun g=>(az g.1 a).out.length) (fun g=> [(2,.pointer (some ⟨J,0,none⟩)),(4,.pointer (some ⟨K,0,none⟩)),(5,.int .i64 (((bH l a).2+g.2.1:Nat):Int)),(6,.int .i64 (a:Int))]) (fun g=> [ak K [.slice g.2.2.1 n g.2.2.2] 27,an (.slice g.2.2.1 n g.2.2.2) g.1,ak Z [.slice Aw n cw] 27,ak J [.slice none 0 0] 27]) ((bH l a).1,0,A,c) (⟨⟨⟨by show (bH l a).1.length=n;omega,S.right a0⟩,b4.symm⟩,by show (bH l a).2+0+(fd (bH l a).1 a h).2=_;rw[P];omega⟩) ?_;rintro⟨d,z,q,s⟩ b2
  try dsimp only
  obtain⟨⟨⟨O,V⟩,u⟩,F⟩:((d.length=n/\∀m∈d,bQ fs m)/\(fd d a h).1=(bH l (a+1)).1)/\(bH l a).2+z+(fd d a h).2=(bH l (a+1)).2:=b2;have G:=yo (l:=d) (i:=a) (to_:=h) (by omega) (by omega);have a1:=V _ (gD (l:=d) (k:=a) (by omega));have bl:=V _ (gD (l:=d) (k:=h) (by omega));have:=a1.ob;have:=bl.ib;have bm:lF fs d:=R.right (by omega) V;refine tS (v:= .slice q n s) (L:=d) (k:=a) (by omega) fc fun bc y o M=>?_;have W:y.length=n:=M.len.trans O;have a3:=M.hd;refine aj ?_;refine da a rfl ((SF.own (xs:=y) W fc))<|aj ?_;refine eK rfl (fun w p=>(SF.hmc (SF.own (xs:=y) W fc) X a3) w p 3 _ rfl)<|ax (fun t=>?_) (fun t=>?_)
  ·have t:0<(az d a).out.length:=by have t:(0:Int)<(az d a).out.length:=t;omega
   have b5:aI ((az d a).out.getD 0 0):=nu (a1.oi _ (cC t));obtain⟨x,a6⟩:∃x,sk d h ((az d a).out.getD 0 0)=x:=⟨_,rfl⟩
   have a7:∀Q,Sl Q (.slice q n s) d->Calls Tryz.prog 88 #[.agg #[.slice q n s],.int .i64 (((a+1) % n:Nat):Int),.int .i64 ((az d a).out.getD 0 0)] Q fun e w'=> ∃g:Option Addr×Nat,True/\e= .returned (.tuple #[.agg #[.slice g.1 x.length g.2],.bool (!decide ((az d h).I.length=10))])/\Cw Q.heap.size Q [an (.slice g.1 x.length g.2) x] w':=fun Q am=>by
    rw[show (a+1) % n=h from by rw[<-Y,<-T];rfl];exact BU q s n fs d O bm h a9 _ b5 x a6 Q am
   refine fk (fh ?_);refine iP<|dq (fun _:Nat×Option Addr×Nat=>True) (fun g=> [(2,.pointer (some ⟨J,0,none⟩)),(4,.pointer (some ⟨K,0,none⟩)),(5,.int .i64 (((bH l a).2+z:Nat):Int)),(6,.int .i64 (a:Int)),(7,.pointer (some ⟨g.1,0,none⟩)),(8,.bool (!decide ((az d h).I.length=10)))]) (fun g=> [ak g.1 [.slice g.2.1 x.length g.2.2] 27,an (.slice g.2.1 x.length g.2.2) x,an (.slice q n s) y,an (.slice o.Af (az d a).F.length o.cf) (az d a).F,an (.slice o.Ab (az d a).B.length o.cb) (az d a).B,an (.slice o.Ai (az d a).I.length o.ci) (az d a).I,an (.slice o.Ao (az d a).out.length o.co) (az d a).out,bc,ak K [.slice q n s] 27,ak Z [.slice Aw n cw] 27,ak J [.slice none 0 0] 27]) ?_ ?_
   ·refine jG (.still 0 (.still 1 (.still 2 (.still 3 (.still 4 (.still 5 (.still 6 (.still 7 (.still 8 (.still 9 (.still 10 (.still 11 (.still 12 (.still 13 (.still 14 (.pick 15 (.still 16 (.still 17 (.still 18 (.pick 19 (.pick 20 (.still 21 .done) .stop) .stop)))) (.pick 19 (.pick 15 (.still 16 (.still 17 (.still 18 (.pick 20 (.still 21 .done) .stop)))) .stop) .stop))))))))))))))))) [] rfl (by kernel_rfl) (by kernel_rfl) ?_;refine aj ?_;refine tE rfl (GQ (a:=a+1) (b:=n) (by omega) (by omega) rfl rfl rfl)<|aj ?_;refine tE rfl (aW (k:=a) dF bZ (SF.own (xs:=y) W fc) (by omega) rfl rfl rfl)<|aj ?_;refine tE rfl (bU (fun w p=>(SF.hmc (SF.own (xs:=y) W fc) X a3) w p 3 _ rfl) rfl rfl gX) ?_;refine tE rfl (aW (k:=0) ay bg (SF.own (xs:=(az d a).out) (A:=o.Ao) (c:=o.co) rfl fc) (by omega) rfl rfl rfl) ?_;refine tE rfl (bU (SF.int (SF.own (xs:=(az d a).out) (A:=o.Ao) (c:=o.co) rfl fc) (by omega)) rfl rfl bB) ?_;refine eo rfl (pR rfl rfl rfl VM (fun w p=>a7 w (SF.at_ (SF.own (xs:=d) O .a) (M.same (v:= .slice q n s) (by omega) (p.msub (.s fc (.s fc (.s fc (.s fc (.s fc (.s fc .r))))))))))) rfl rfl (.inr fun _=>ha) (fun⟨C,D⟩ _=>?_) ?_
    ·refine aO ?_;intro al _;refine aj ?_;refine bR<|bW (al,C,D) trivial (hh:=(fun _ k=>k.msub ms))
    refine aj ?_;intro al _;refine kL rfl rfl VM (fun w p=>a7 w (SF.at_ (SF.own (xs:=d) O .a) (M.same (v:= .slice q n s) (by omega) (p.msub (.s fc (.s fc (.s fc (.s fc (.s fc (.s fc .r)))))))))) (fun⟨C,D⟩ _=>?_);refine aO ?_;refine bR<|bW (al,C,D) trivial (hh:=(fun _ k=>k.msub ms))
   rintro⟨b9,C,D⟩ _;refine aO ?_;refine cN (t:=46) (v':= .bool (decide ((az d h).I.length=10))) rfl (by rw[Bool.not_not]) ?_;refine eI rfl (fun E=>?_) (fun E=>?_)
   ·have E:(az d h).I.length=10:=E;have N:¬nM d a h:=fun k=>k.2 E;rw[if_neg N] at G;rw[G] at u F;have F:(bH l a).2+z+0=(bH l (a+1)).2:=F;have u:d=(bH l (a+1)).1:=u;rw[show (bH l a).2+z=(bH l (a+1)).2 from by omega];refine aj ?_;refine cJ (a+1,q,s) (by show a+1<=_;omega) (by show _ - _<_ - _;omega) (hh:=(fun w k=>by rw[<-u];exact(M.same (v:= .slice q n s) (by omega) (k.msub (.s fc (.s fc (.s fc (.s fc (.s fc (.s fc .r)))))))).msub ms))
   have E:¬(az d h).I.length=10:=E;have N:nM d a h:=⟨t,E⟩
   rw[if_pos N] at G;have er:x=dC d a h:=by rw[<-a6];unfold sk dC;rw[if_neg E]
   subst er;have a2:(dC d a h).length=n:=by unfold dC;rw[cI];exact O
   have b1:=mM d a h;have a5:=(pT (l:=d) (i:=a) (to_:=h) (by omega) (by omega) a).1;rw[if_pos rfl] at a5;have bp:(az (dC d a h) a).out=(az d a).out:=by
    rw[rg (by omega)]
    split
    ·subst_vars;rfl
    rfl
   have bo:1<=(az (dC d a h) a).out.length:=by rw[bp];exact t
   rw[a2];refine tS (v:= .slice C n D) (L:=dC d a h) (k:=a) (by omega) fc fun b7 P j U=>?_;have ad:P.length=n:=U.len.trans a2;have a4:=U.hd;have bk:=U.i64;refine ei (fun w k=>gT k (xs:=(az (dC d a h) a).out) (A:=j.Ao) (c:=j.co) fc) fun ce=>?_;have mh:((az (dC d a h) a).out.drop 1).length=(az (dC d a h) a).out.length - 1:=aK;have:(bH l a).2+z+((fd (jK d a h) a h).2+1)=(bH l (a+1)).2:=by rw[G] at F;exact F
   refine aj ?_;refine bh [0,3,6,9,12,15,18,21,24,27,30,33,38] [12] rfl<|aj ?_;refine tE rfl (aW (k:=a) dF bZ (SF.own (xs:=P) ad fc) (by omega) rfl rfl rfl)<|aj ?_;refine tE rfl (bU (fun w p=>(SF.hmc (SF.own (xs:=P) ad fc) X a4) w p 3 _ rfl) rfl rfl gX) ?_;refine tE rfl (sr (k:=((az (dC d a h) a).out.drop 1).length) ay bg ⟨by omega,by omega⟩ mh.symm rfl rfl rfl rfl) ?_;refine tE rfl (aW (k:=a) dF bZ (SF.own (xs:=P) ad fc) (by omega) rfl rfl rfl) ?_;refine aC ?_;refine pE rfl (mL (α:=fp) (A:=C) (c:=D) (m:=n) (f:=3) (us:= [.slice (iq j.Ao 1 j.co 1) ((az (dC d a h) a).out.drop 1).length (j.co - 1)]) (lf ⟨j.Af,j.cf,j.Ab,j.cb,j.Ai,j.ci,iq j.Ao 1 j.co 1,j.co - 1⟩ (wg (az (dC d a h) a))) default rfl fc X (rI bk) gu rfl rfl rfl rfl rfl rfl (by rw[a4];rfl) rfl) (fun _ _=>aj ?_);refine Dg (jK d a h,z+1,C,D) (⟨⟨⟨b1.trans O,uA (by omega) (by omega) N V⟩,by rw[G] at u;exact u⟩,by show (bH l a).2+(z+1)+(fd (jK d a h) a h).2=_;omega⟩) (by show (az (jK d a h) a).out.length<_;rw[a5,aK];omega) (hh:=(fun w k=>(U.back (.slice C n D) ⟨j.Af,j.cf,j.Ab,j.cb,j.Ai,j.ci,iq j.Ao 1 j.co 1,j.co - 1⟩ (wg (az (dC d a h) a)) _ _ ((yz bo (k.msub (.s fc .r))).msub (.s fc (.s fc (.s fc (.s fc (.s fc (.s fc .r)))))))).msub ms))
  have t:¬0<(az d a).out.length:=by have t:¬(0:Int)<(az d a).out.length:=t;omega
  have N:¬nM d a h:=fun k=>t k.1;rw[if_neg N] at G;rw[G] at u F;have F:(bH l a).2+z+0=(bH l (a+1)).2:=F;have u:d=(bH l (a+1)).1:=u;rw[show (bH l a).2+z=(bH l (a+1)).2 from by omega];refine aj ?_;refine cJ (a+1,q,s) (by show a+1<=_;omega) (by show _ - _<_ - _;omega) (hh:=(fun w k=>by rw[<-u];exact(M.same (v:= .slice q n s) (by omega) (k.msub (.s fc (.s fc (.s fc (.s fc (.s fc (.s fc .r)))))))).msub ms))
 obtain rfl:a=n:=by omega
 have e:bH l l.length=r:=b3;rw[T] at e;rw[e];refine aj ?_;intro w p;exact⟨(A,c),trivial,rfl,p.msub ms⟩
end
