/- Lemmas of one proof. -/
import Derived.Test.YthfkmcbblnbfaaaGreatDoorM90W
import Derived.Test.YthfkmcbblnbfaaaGreatDoorM0W
import Derived.Test.YthfkmcbblnbfaaaGreatDoorM19W
import Derived.Test.YthfkmcbblnbfaaaGreatDoorM26W

namespace Go.Proofs.YthfkmcbblnbfaaaGreatDoor
set_option maxRecDepth 100000
set_option maxHeartbeats 16000000
open Go.RowKit
section
theorem RN {k:Nat} (h:k<=9223372036854775807):aI (k:Int):=by unfold aI;omega
theorem UG (A k:Option Addr) (c o:Nat) (l:List (List Int)) (refs:List Int) (w:World) (t:Sl w (ac A l.length c) l) (s:Sl w (ac k refs.length o) refs) (u:yy l) (K:∀r∈refs,0<=r/\r<=l.length) (Y:refs.length*8<=140737488355328) :
  Calls Tryz.prog 162 #[ac A l.length c,ac k refs.length o] w fun e w'=> ∃p:(Option Addr×Nat)×Option Addr×Nat,True/\e= .returned (.tuple #[ac p.1.1 (di l refs l.length).length p.1.2,ac p.2.1 (refs.map (fx l refs)).length p.2.2])/\
   Cw w.heap.size w [an (ac p.2.1 (refs.map (fx l refs)).length p.2.2) (refs.map (fx l refs)),an (ac p.1.1 (di l refs l.length).length p.1.2) (di l refs l.length)] w':=by
 have:=bx t;have:=u.1;have:=bx s;refine enter Tryz.func162 rfl Tryz.ntmps162 rfl<|aj ?_;refine oE (oR (α:=Int) (m:=l.length+1) 0 az lO rfl (fun w=>⟨⟨rfl,by simp[aI]⟩,fun _ h=>h⟩) rfl ω rfl rfl rfl) (fun q _=>aj ?_);refine dm (fun w h=>Cw.nilO (List Int) h) ?_;refine cZ (fun a:Nat×Option Addr×Nat=>a.1<=l.length) (fun a=>l.length - a.1) (fun a=> [(1,ac k refs.length o),(6,ac a.2.1 (di l refs a.1).length a.2.2),(7,ac (some ⟨q,0,none⟩) (l.length+1) (l.length+1)),(17,ac A l.length c),(18,ai (l.length:Int)),(19,ai (a.1:Int))]) (fun a=> [ag a.2.1 a.2.2 (di l refs a.1),an (ac (some ⟨q,0,none⟩) (l.length+1) (l.length+1)) (nn l refs a.1)]) (0,none,0) (aS _) ?_;rintro⟨d,j,n⟩ M
 try dsimp only
 have:d<=l.length:=M;have:=nG l refs d;refine ax (fun h=>?_) (fun h=>?_)
 ·have g:d<l.length:=ω;obtain⟨P,U,H,I⟩:=t.sub g;have:=u.at_ d;refine aj ?_;refine cP _ rfl (.ro t) ?_;refine ef rfl (I _)<|aj ?_;refine cO rfl Tryz.call203 ((fun w f=>fY ((fun w f=>wV _ refs _ w (f.ro s)) w f)))<|aj ?_;refine cc rfl (fun i=>?_) (fun i=>?_)
  ·refine aj ?_;refine oE (fl rfl rfl rfl mJ (fun w f=>kj _ _ w (f.ro H) ω)) (fun⟨Q,V⟩ _=>?_);refine aP ?_;intro W _;refine oE (cz (α:=List Int) (bytes:=24) (l.getD d []) [an _ (l.getD d [])] (ka i) eI (aU oy) rfl (DC .c .a .a) wM ω ω rfl rfl rfl) (fun⟨y,C⟩ _=>?_);refine aP ?_;have:=nG l refs (d+1);refine cP (d+1) rfl ((.own (ve _ _ _) .b)) ?_;refine oE (Ld (k:=d+1) (N6 i) .b ω (RN ω) aZ rfl rfl rfl) (fun _ _=>aj ?_);refine cG (d+1,y,C) (by show d+1<=_;omega) (by show _ - _<_ - _;omega) (hh:=(fun _ h=>h.perm (List.Perm.swap ..)))
  refine aj ?_;rw[<-sW i,<-Qx i];refine cG (d+1,j,n) (by show d+1<=_;omega) (by show _ - _<_ - _;omega)
 obtain rfl:d=l.length:=ω;refine aj ?_;refine dm (fun w h=>Cw.nilO Int h) ?_;refine cZ (fun a:Nat×Option Addr×Nat=>a.1<=refs.length) (fun a=>refs.length - a.1) (fun a=> [(6,ac j (di l refs l.length).length n),(7,ac (some ⟨q,0,none⟩) (l.length+1) (l.length+1)),(10,ac a.2.1 ((refs.map (fx l refs)).take a.1).length a.2.2),(40,ac k refs.length o),(41,ai (refs.length:Int)),(42,ai (a.1:Int))]) (fun a=> [ag a.2.1 a.2.2 ((refs.map (fx l refs)).take a.1),ag j n (di l refs l.length),an (ac (some ⟨q,0,none⟩) (l.length+1) (l.length+1)) (nn l refs l.length)]) (0,none,0) (aS _) ?_;rintro⟨b,z,D⟩ J
 try dsimp only
 have:b<=refs.length:=J;refine ax (fun F=>?_) (fun F=>?_)
 ·have g:b<refs.length:=ω;have v:refs.getD b 0∈refs:=oD g;have x:=K _ v;have G:=Qy v x.1 x.2;have O:(refs.map (fx l refs)).getD b 0=fx l refs (refs.getD b 0):=by
   rw[ap,dd,aq g,ap,aq g];rfl
  have N:(refs.map (fx l refs)).take (b+1)=(refs.map (fx l refs)).take b++ [fx l refs (refs.getD b 0)]:=by
   rw[eF _ b 0 (by rw[aL];exact g),O]
  have:((refs.map (fx l refs)).take b).length<=b:=by rw[aB];omega
  have L:aI (fx l refs (refs.getD b 0)):=by
   unfold fx
   split
   ·simp[aI]
   have:=nG l refs (refs.getD b 0).toNat;unfold aI;omega
  refine aj ?_;refine cP _ rfl (.ro s) ?_;refine nj rfl (.ro s)<|aj ?_;refine va rfl ((.own (ve _ _ _) .c)) ?_;refine nj rfl ((.own (ve _ _ _) .c))<|aj ?_;intro X _;rw[G];refine oE (cz (α:=Int) (bytes:=8) (fx l refs (refs.getD b 0)) [] N az (aU lO) rfl (eG .b .a) (qk L) ω ω rfl rfl rfl) (fun⟨B,E⟩ _=>?_);refine aP ?_;refine cG (b+1,B,E) (by show b+1<=_;omega) (by show _ - _<_ - _;omega)
 obtain rfl:b=refs.length:=ω;rw[show (refs.map (fx l refs)).take refs.length=refs.map (fx l refs) from bD σ];refine aj ?_;intro w f;exact⟨((j,n),(z,D)),trivial,rfl,Cw.tail (f.perm (cu.s (cu.s cu.a)))⟩
end
section
theorem Jc {l:List (List Int)} {size:Int} (h:iZ l size=0):0<=size/\size<=40 - dq l:=by
 unfold iZ at h
 split at h
 ·cases h
 split at h
 ·cases h
 rename_i a b;omega
theorem No {l:List (List Int)} {ref at_ n:Int} (h:BA l ref at_ n=0):cR l=0/\tW l ref at_=0/\bT n=true/\IL l ref at_ n=put l ref at_ n:=by
 unfold IL;rw[if_pos h];unfold BA NJ at h
 split at h
 ·rename_i a
  split at h
  ·rename_i b
   split at h
   ·rename_i c;exact⟨a,b,c,rfl⟩
   cases h
  rename_i b;exact absurd h b
 rename_i a;exact absurd h a
end
section
theorem Lp {l:List (List Int)} {size:Int} (h:mK l size=0):cR l=0/\0<=size/\l.length≠8/\size<=40 - dq l:=by
 unfold mK iZ at h
 split at h
 ·rename_i a
  split at h
  ·cases h
  split at h
  ·cases h
  rename_i b c;exact⟨a,ω,ω,ω⟩
 rename_i a;exact absurd h a
theorem mF {l:List (List Int)} (h:cR l=0):l.length<=8/\dq l<=40/\l.any dw=false:=by
 unfold cR at h
 split at h
 ·cases h
 split at h
 ·cases h
 rename_i b a;exact⟨ω,ω,ψ a⟩
theorem xb {l:List (List Int)} (b:l.length<=8) (h2:dq l<=40) (a:l.any dw=false):cR l=0:=by
 unfold cR;rw[if_neg ω,if_neg (by rw[a];decide)]
theorem FO (n:Nat):dw (List.replicate n 0)=false:=by
 unfold dw;rw[rc];intro h;obtain⟨c,b,a⟩:=de.1 h;have:=List.eq_of_mem_replicate b;subst this;simp[bT] at a
theorem JM {l:List (List Int)} {size:Int} (h:mK l size=0):cR (zb l size)=0:=by
 obtain⟨a,c,d,e⟩:=Lp h;obtain⟨f,g,b⟩:=mF a;unfold zb;rw[if_pos h];refine xb (by simp;omega) ?_ ?_
 ·rw[nZ];simp;omega
 rw[List.any_append,b];simp[FO]
theorem Ns {P:Program} {t:TypeId} (c:P.underlying t=some .bool) (a b:Bool) (w:World) (d:Nat):(Op.equalIn (d+1) t (.bool a) (.bool b)).run P w= .ok (a == b) w:=by
 simp[Op.equalIn,run_underlying c]
theorem PL {P:Program} {t:TypeId} (c:P.underlying t=some .bool) (a b:Bool) (w:World):(binOp .eql t (.bool a) (.bool b)).run P w= .ok (.bool (a == b)) w:=by
 simp only[binOp,Op.equal,Op.maxDepth,Sem.run_bind];rw[show (10000:Nat)=9999+1 from rfl,Ns c];rfl
theorem SG {P:Program} {n:NF} {B:Nat} {w0:World} {o:Oper} {c:cS} {H:List aO} {i j:Operand} {t u:TypeId} {a b:Bool} (m:P.underlying t=some .bool) (k:o.op= .binOp .eql t i j u) (hi:opv c i=some (.bool a)) (g:opv c j=some (.bool b)):QS P n B w0 o c H (.bool (a == b)):=by
 intro p e d q;unfold execOp;have f:(eqGuard .eql t i j (.bool a) (.bool b)).run P e= .ok () e:=by
  unfold eqGuard
  split <;> simp
 simp only[k,d.opv hi,d.opv g,Sem.run_bind,f,Result.andThen_ok,PL m,Sem.run_pure]
end
section
theorem oQ {l:List (List Int)} {ref at_ n:Int} (i:Nat):(put l ref at_ n).length=l.length/\((put l ref at_ n).getD i []).length=(l.getD i []).length:=by
 unfold put blk;refine⟨σ,?_⟩
 by_cases a:(ref - 1).toNat=i
 ·subst a
  by_cases b:(ref - 1).toNat<l.length
  ·rw[ap (l:=l.set _ _),List.getElem?_set_self b];simp
  rw[List.set_eq_of_length_le ω]
 rw[ap (l:=l.set _ _),List.getElem?_set_ne a,<-ap (l:=l)]
theorem Bf {l:List (List Int)} (i:Nat) (b:List Int) (a:b.length=(l.getD i []).length):dq (l.set i b)=dq l:=by
 unfold dq
 induction l generalizing i with
 | nil=>rfl
 | cons d l c=>
  match i with
  | 0=>simp at a;simp[a]
  | i+1=>
   have:=c i (ψ a);simp only[List.set_cons_succ,eM,B9];rw[this]
theorem Iy {α:Type} (p:α->Bool) (l:List α) (i:Nat) (b:α) (h:l.any p=false) (d:p b=false):(l.set i b).any p=false:=by
 rw[rc] at *;intro ha;obtain⟨f,e,c⟩:=de.1 ha;rcases List.mem_or_eq_of_mem_set e with a | a
 ·exact h (de.2 ⟨f,a,c⟩)
 subst a;exact d c
theorem JL {l:List (List Int)} {ref at_ n:Int} (h:BA l ref at_ n=0):cR (IL l ref at_ n)=0:=by
 obtain⟨b,i,c,d⟩:=No h;obtain⟨e,f,a⟩:=mF b;rw[d];refine xb (by rw[(oQ 0).1];exact e) (by unfold put;rw[Bf _ _ (by unfold blk;simp)];exact f) ?_;unfold put;refine Iy _ _ _ _ a ?_;unfold dw;refine Iy _ _ _ _ ?_ (by simp[c])
 by_cases g:(ref - 1).toNat<l.length
 ·rw[rc] at a⊢;intro ha;exact a (de.2 ⟨blk l ref,oD g,ha⟩)
 unfold blk;rw[ap,bh ω];rfl
end
section
theorem AD (l:List (List Int)) (refs:List Int) {k m:Nat} (h:k<=m):∃r,di l refs m=di l refs k++r:=by
 induction m with
 | zero=>
  obtain rfl:k=0:=ω;exact⟨[],σ⟩
 | succ m c=>
  rcases gL k (m+1) with a | a
  ·obtain⟨r,b⟩:=c ω;exact⟨r++(if refs.contains ((m:Int)+1) then [l.getD m []] else []),by rw[di,b,bA]⟩
  obtain rfl:k=m+1:=ω;exact⟨[],σ⟩
theorem N4 {l:List (List Int)} {refs:List Int} {r:Int} (g:r∈refs) (i:1<=r) (h2:r<=l.length) :
  1<=fx l refs r/\fx l refs r<=(di l refs l.length).length/\(di l refs l.length).getD (fx l refs r - 1).toNat []=l.getD (r - 1).toNat []:=by
 obtain⟨a,e⟩:∃a:Nat,r=(a:Int)+1:=⟨(r - 1).toNat,by omega⟩
 subst e;have d:refs.contains ((a:Int)+1)=true:=by simpa using g
 have b:=ka (l:=l) d;obtain⟨j,f⟩:=AD l refs (k:=a+1) (m:=l.length) (by omega);have c:fx l refs ((a:Int)+1)=(di l refs a).length+1:=by
  unfold fx;rw[if_neg (by omega),show ((a:Int)+1).toNat=a+1 from by omega,b];simp
 rw[c,f,b];refine⟨by omega,by simp;omega,?_⟩;rw[show ((di l refs a).length+1 - 1:Int).toNat=(di l refs a).length from by omega,show ((a:Int)+1 - 1).toNat=a from by omega];simp[]
theorem vu (l:List (List Int)) (refs:List Int):∀m,m<=l.length->dq (di l refs m)<=dq (l.take m)
 | 0,_=>by simp[di,dq]
 | m+1,h=>by
  have:=vu l refs m ω;rw[yn l m ω]
  by_cases a:refs.contains ((m:Int)+1)=true
  ·rw[ka a,nZ];omega
  rw[sW (ψ a)];omega
theorem zc (l:List (List Int)) (refs:List Int):∀m,m<=l.length->∀b∈di l refs m,b∈l
 | 0,_,b,h=>by simp[di] at h
 | m+1,c,b,h=>by
  by_cases a:refs.contains ((m:Int)+1)=true
  ·rw[ka a] at h;rcases dU.1 h with h | h
   ·exact zc l refs m (by omega) b h
   simp only[cN] at h;rw[h];exact oD (by omega)
  rw[sW (by simpa using a)] at h;exact zc l refs m (by omega) b h
theorem GP {l:List (List Int)} (refs:List Int) (h:cR l=0):cR (di l refs l.length)=0:=by
 obtain⟨e,f,a⟩:=mF h;refine xb (by have:=nG l refs l.length;omega) (by have:=vu l refs l.length (aH _);rw[aR] at this;omega) ?_;rw[rc] at a⊢;intro ha;obtain⟨b,d,c⟩:=de.1 ha;exact a (de.2 ⟨b,zc l refs _ (aH _) b d,c⟩)
section
variable {l:List (List Int)} {refs:List Int} (h:Ji l refs=0)
include h
end
end
