/- Lemmas of one proof. -/
import Derived.Test.YthfkmcbblnbfaaaGreatDoorM90E
import Derived.Test.YthfkmcbblnbfaaaGreatDoorM0E
import Derived.Test.YthfkmcbblnbfaaaGreatDoorM19E
import Derived.Test.YthfkmcbblnbfaaaGreatDoorM26E

namespace Go.Proofs.YthfkmcbblnbfaaaGreatDoor
set_option maxRecDepth 100000
set_option maxHeartbeats 16000000
open Go.RowKit
section
theorem Ri {k:Nat} (h:k<=9223372036854775807):aI (k:Int):=by unfold aI;omega
theorem Ub (A k:Option Addr) (c o:Nat) (l:List (List Int)) (refs:List Int) (w:World) (t:Sl w (ac A l.length c) l) (s:Sl w (ac k refs.length o) refs) (u:wT l) (K:∀r∈refs,0<=r/\r<=l.length) (Y:refs.length*8<=140737488355328) :
  Calls Tryz.prog 162 #[ac A l.length c,ac k refs.length o] w fun e w'=> ∃p:(Option Addr×Nat)×Option Addr×Nat,True/\e= .returned (.tuple #[ac p.1.1 (cW l refs l.length).length p.1.2,ac p.2.1 (refs.map (fy l refs)).length p.2.2])/\
   Cw w.heap.size w [an (ac p.2.1 (refs.map (fy l refs)).length p.2.2) (refs.map (fy l refs)),an (ac p.1.1 (cW l refs l.length).length p.1.2) (cW l refs l.length)] w':=by
 have:=bA t;have:=u.1;have:=bA s;refine enter Tryz.func162 rfl Tryz.ntmps162 rfl<|aj ?_;refine oE (oI (α:=Int) (m:=l.length+1) 0 ay lD rfl (fun w=>⟨⟨rfl,by simp[aI]⟩,fun _ h=>h⟩) rfl ω rfl rfl rfl) (fun q _=>aj ?_);refine db (fun w h=>Cw.nilO (List Int) h) ?_;refine de (fun a:Nat×Option Addr×Nat=>a.1<=l.length) (fun a=>l.length - a.1) (fun a=> [(1,ac k refs.length o),(6,ac a.2.1 (cW l refs a.1).length a.2.2),(7,ac (some ⟨q,0,none⟩) (l.length+1) (l.length+1)),(17,ac A l.length c),(18,ai (l.length:Int)),(19,ai (a.1:Int))]) (fun a=> [ag a.2.1 a.2.2 (cW l refs a.1),an (ac (some ⟨q,0,none⟩) (l.length+1) (l.length+1)) (mT l refs a.1)]) (0,none,0) (aU _) ?_;rintro⟨d,j,n⟩ M
 try dsimp only
 have:d<=l.length:=M;have:=nr l refs d;refine ax (fun h=>?_) (fun h=>?_)
 ·have g:d<l.length:=ω;obtain⟨P,U,H,I⟩:=t.sub g;have:=u.at_ d;refine aj ?_;refine da _ rfl (.ro t) ?_;refine eK rfl (I _)<|aj ?_;refine cE rfl Tryz.call203 ((fun w f=>fT ((fun w f=>wC _ refs _ w (f.ro s)) w f)))<|aj ?_;refine bO rfl (fun i=>?_) (fun i=>?_)
  ·refine aj ?_;refine oE (fm rfl rfl rfl mo (fun w f=>jZ _ _ w (f.ro H) ω)) (fun⟨Q,V⟩ _=>?_);refine aO ?_;intro W _;refine oE (bV (α:=List Int) (bytes:=24) (l.getD d []) [an _ (l.getD d [])] (jT i) eG (aS nW) rfl (C6 .c .a .a) zQ ω ω rfl rfl rfl) (fun⟨y,C⟩ _=>?_);refine aO ?_;have:=nr l refs (d+1);refine da (d+1) rfl ((.own (uK _ _ _) .b)) ?_;refine oE (SE (k:=d+1) (NG i) .b ω (Ri ω) bg rfl rfl rfl) (fun _ _=>aj ?_);refine cJ (d+1,y,C) (by show d+1<=_;omega) (by show _ - _<_ - _;omega) (hh:=(fun _ h=>h.perm (List.Perm.swap ..)))
  refine aj ?_;rw[<-sx i,<-P2 i];refine cJ (d+1,j,n) (by show d+1<=_;omega) (by show _ - _<_ - _;omega)
 obtain rfl:d=l.length:=ω;refine aj ?_;refine db (fun w h=>Cw.nilO Int h) ?_;refine de (fun a:Nat×Option Addr×Nat=>a.1<=refs.length) (fun a=>refs.length - a.1) (fun a=> [(6,ac j (cW l refs l.length).length n),(7,ac (some ⟨q,0,none⟩) (l.length+1) (l.length+1)),(10,ac a.2.1 ((refs.map (fy l refs)).take a.1).length a.2.2),(40,ac k refs.length o),(41,ai (refs.length:Int)),(42,ai (a.1:Int))]) (fun a=> [ag a.2.1 a.2.2 ((refs.map (fy l refs)).take a.1),ag j n (cW l refs l.length),an (ac (some ⟨q,0,none⟩) (l.length+1) (l.length+1)) (mT l refs l.length)]) (0,none,0) (aU _) ?_;rintro⟨b,z,D⟩ J
 try dsimp only
 have:b<=refs.length:=J;refine ax (fun F=>?_) (fun F=>?_)
 ·have g:b<refs.length:=ω;have v:refs.getD b 0∈refs:=oh g;have x:=K _ v;have G:=P3 v x.1 x.2;have O:(refs.map (fy l refs)).getD b 0=fy l refs (refs.getD b 0):=by
   rw[ap,dw,aq g,ap,aq g];rfl
  have N:(refs.map (fy l refs)).take (b+1)=(refs.map (fy l refs)).take b++ [fy l refs (refs.getD b 0)]:=by
   rw[eE _ b 0 (by rw[aQ];exact g),O]
  have:((refs.map (fy l refs)).take b).length<=b:=by rw[aB];omega
  have L:aI (fy l refs (refs.getD b 0)):=by
   unfold fy
   split
   ·simp[aI]
   have:=nr l refs (refs.getD b 0).toNat;unfold aI;omega
  refine aj ?_;refine da _ rfl (.ro s) ?_;refine mQ rfl (.ro s)<|aj ?_;refine uI rfl ((.own (uK _ _ _) .c)) ?_;refine mQ rfl ((.own (uK _ _ _) .c))<|aj ?_;intro X _;rw[G];refine oE (bV (α:=Int) (bytes:=8) (fy l refs (refs.getD b 0)) [] N ay (aS lD) rfl (eB .b .a) (pW L) ω ω rfl rfl rfl) (fun⟨B,E⟩ _=>?_);refine aO ?_;refine cJ (b+1,B,E) (by show b+1<=_;omega) (by show _ - _<_ - _;omega)
 obtain rfl:b=refs.length:=ω;rw[show (refs.map (fy l refs)).take refs.length=refs.map (fy l refs) from bD σ];refine aj ?_;intro w f;exact⟨((j,n),(z,D)),trivial,rfl,Cw.tail (f.perm (cg.s (cg.s cg.a)))⟩
end
section
theorem ID {l:List (List Int)} {size:Int} (h:ja l size=0):0<=size/\size<=40 - dg l:=by
 unfold ja at h
 split at h
 ·cases h
 split at h
 ·cases h
 rename_i a b;omega
theorem MY {l:List (List Int)} {ref at_ n:Int} (h:AX l ref at_ n=0):cH l=0/\tB l ref at_=0/\bP n=true/\Ia l ref at_ n=put l ref at_ n:=by
 unfold Ia;rw[if_pos h];unfold AX Ni at h
 split at h
 ·rename_i a
  split at h
  ·rename_i b
   split at h
   ·rename_i c;exact⟨a,b,c,rfl⟩
   cases h
  rename_i b;exact absurd h b
 rename_i a;exact absurd h a
end
section
theorem KQ {l:List (List Int)} {size:Int} (h:mq l size=0):cH l=0/\0<=size/\l.length≠8/\size<=40 - dg l:=by
 unfold mq ja at h
 split at h
 ·rename_i a
  split at h
  ·cases h
  split at h
  ·cases h
  rename_i b c;exact⟨a,ω,ω,ω⟩
 rename_i a;exact absurd h a
theorem mj {l:List (List Int)} (h:cH l=0):l.length<=8/\dg l<=40/\l.any dp=false:=by
 unfold cH at h
 split at h
 ·cases h
 split at h
 ·cases h
 rename_i b a;exact⟨ω,ω,τ a⟩
theorem wH {l:List (List Int)} (b:l.length<=8) (h2:dg l<=40) (a:l.any dp=false):cH l=0:=by
 unfold cH;rw[if_neg ω,if_neg (by rw[a];decide)]
theorem Fa (n:Nat):dp (List.replicate n 0)=false:=by
 unfold dp;rw[qK];intro h;obtain⟨c,b,a⟩:=cU.1 h;have:=List.eq_of_mem_replicate b;subst this;simp[bP] at a
theorem Jc {l:List (List Int)} {size:Int} (h:mq l size=0):cH (yF l size)=0:=by
 obtain⟨a,c,d,e⟩:=KQ h;obtain⟨f,g,b⟩:=mj a;unfold yF;rw[if_pos h];refine wH (by simp;omega) ?_ ?_
 ·rw[nN];simp;omega
 rw[List.any_append,b];simp[Fa]
theorem M2 {P:Program} {t:TypeId} (c:P.underlying t=some .bool) (a b:Bool) (w:World) (d:Nat):(Op.equalIn (d+1) t (.bool a) (.bool b)).run P w= .ok (a == b) w:=by
 simp[Op.equalIn,run_underlying c]
theorem Pi {P:Program} {t:TypeId} (c:P.underlying t=some .bool) (a b:Bool) (w:World):(binOp .eql t (.bool a) (.bool b)).run P w= .ok (.bool (a == b)) w:=by
 simp only[binOp,Op.equal,Op.maxDepth,Sem.run_bind];rw[show (10000:Nat)=9999+1 from rfl,M2 c];rfl
theorem Sb {P:Program} {n:NF} {B:Nat} {w0:World} {o:Oper} {c:cM} {H:List aP} {i j:Operand} {t p:TypeId} {a b:Bool} (m:P.underlying t=some .bool) (k:o.op= .binOp .eql t i j p) (hi:opv c i=some (.bool a)) (g:opv c j=some (.bool b)):QS P n B w0 o c H (.bool (a == b)):=by
 intro q e d r;unfold execOp;have f:(eqGuard .eql t i j (.bool a) (.bool b)).run P e= .ok () e:=by
  unfold eqGuard
  split <;> simp
 simp only[k,d.opv hi,d.opv g,Sem.run_bind,f,Result.andThen_ok,Pi m,Sem.run_pure]
end
section
theorem oH {l:List (List Int)} {ref at_ n:Int} (i:Nat):(put l ref at_ n).length=l.length/\((put l ref at_ n).getD i []).length=(l.getD i []).length:=by
 unfold put blk;refine⟨σ,?_⟩
 by_cases a:(ref - 1).toNat=i
 ·subst a
  by_cases b:(ref - 1).toNat<l.length
  ·rw[ap (l:=l.set _ _),List.getElem?_set_self b];simp
  rw[List.set_eq_of_length_le ω]
 rw[ap (l:=l.set _ _),List.getElem?_set_ne a,<-ap (l:=l)]
theorem AE {l:List (List Int)} (i:Nat) (b:List Int) (a:b.length=(l.getD i []).length):dg (l.set i b)=dg l:=by
 unfold dg
 induction l generalizing i with
 | nil=>rfl
 | cons d l c=>
  match i with
  | 0=>simp at a;simp[a]
  | i+1=>
   have:=c i (τ a);simp only[List.set_cons_succ,eL,BB];rw[this]
theorem HS {α:Type} (p:α->Bool) (l:List α) (i:Nat) (b:α) (h:l.any p=false) (d:p b=false):(l.set i b).any p=false:=by
 rw[qK] at *;intro ha;obtain⟨f,e,c⟩:=cU.1 ha;rcases List.mem_or_eq_of_mem_set e with a | a
 ·exact h (cU.2 ⟨f,a,c⟩)
 subst a;exact d c
theorem Jb {l:List (List Int)} {ref at_ n:Int} (h:AX l ref at_ n=0):cH (Ia l ref at_ n)=0:=by
 obtain⟨b,i,c,d⟩:=MY h;obtain⟨e,f,a⟩:=mj b;rw[d];refine wH (by rw[(oH 0).1];exact e) (by unfold put;rw[AE _ _ (by unfold blk;simp)];exact f) ?_;unfold put;refine HS _ _ _ _ a ?_;unfold dp;refine HS _ _ _ _ ?_ (by simp[c])
 by_cases g:(ref - 1).toNat<l.length
 ·rw[qK] at a⊢;intro ha;exact a (cU.2 ⟨blk l ref,oh g,ha⟩)
 unfold blk;rw[ap,bn ω];rfl
end
section
theorem zM (l:List (List Int)) (refs:List Int) {k m:Nat} (h:k<=m):∃r,cW l refs m=cW l refs k++r:=by
 induction m with
 | zero=>
  obtain rfl:k=0:=ω;exact⟨[],σ⟩
 | succ m c=>
  rcases gH k (m+1) with a | a
  ·obtain⟨r,b⟩:=c ω;exact⟨r++(if refs.contains ((m:Int)+1) then [l.getD m []] else []),by rw[cW,b,bx]⟩
  obtain rfl:k=m+1:=ω;exact⟨[],σ⟩
theorem ND {l:List (List Int)} {refs:List Int} {r:Int} (g:r∈refs) (i:1<=r) (h2:r<=l.length) :
  1<=fy l refs r/\fy l refs r<=(cW l refs l.length).length/\(cW l refs l.length).getD (fy l refs r - 1).toNat []=l.getD (r - 1).toNat []:=by
 obtain⟨a,e⟩:∃a:Nat,r=(a:Int)+1:=⟨(r - 1).toNat,by omega⟩
 subst e;have d:refs.contains ((a:Int)+1)=true:=by simpa using g
 have b:=jT (l:=l) d;obtain⟨j,f⟩:=zM l refs (k:=a+1) (m:=l.length) (by omega);have c:fy l refs ((a:Int)+1)=(cW l refs a).length+1:=by
  unfold fy;rw[if_neg (by omega),show ((a:Int)+1).toNat=a+1 from by omega,b];simp
 rw[c,f,b];refine⟨by omega,by simp;omega,?_⟩;rw[show ((cW l refs a).length+1 - 1:Int).toNat=(cW l refs a).length from by omega,show ((a:Int)+1 - 1).toNat=a from by omega];simp[]
theorem uU (l:List (List Int)) (refs:List Int):∀m,m<=l.length->dg (cW l refs m)<=dg (l.take m)
 | 0,_=>by simp[cW,dg]
 | m+1,h=>by
  have:=uU l refs m ω;rw[xR l m ω]
  by_cases a:refs.contains ((m:Int)+1)=true
  ·rw[jT a,nN];omega
  rw[sx (τ a)];omega
theorem yG (l:List (List Int)) (refs:List Int):∀m,m<=l.length->∀b∈cW l refs m,b∈l
 | 0,_,b,h=>by simp[cW] at h
 | m+1,c,b,h=>by
  by_cases a:refs.contains ((m:Int)+1)=true
  ·rw[jT a] at h;rcases dQ.1 h with h | h
   ·exact yG l refs m (by omega) b h
   simp only[cL] at h;rw[h];exact oh (by omega)
  rw[sx (by simpa using a)] at h;exact yG l refs m (by omega) b h
theorem Ge {l:List (List Int)} (refs:List Int) (h:cH l=0):cH (cW l refs l.length)=0:=by
 obtain⟨e,f,a⟩:=mj h;refine wH (by have:=nr l refs l.length;omega) (by have:=uU l refs l.length (aF _);rw[aR] at this;omega) ?_;rw[qK] at a⊢;intro ha;obtain⟨b,d,c⟩:=cU.1 ha;exact a (cU.2 ⟨b,yG l refs _ (aF _) b d,c⟩)
section
variable {l:List (List Int)} {refs:List Int} (h:IJ l refs=0)
include h
end
end
