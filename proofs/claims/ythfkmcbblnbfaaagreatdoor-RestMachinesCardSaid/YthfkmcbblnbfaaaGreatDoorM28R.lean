/- Lemmas of one proof. -/
import Derived.Test.YthfkmcbblnbfaaaGreatDoorM0R
import Derived.Test.YthfkmcbblnbfaaaGreatDoorM19R
import Derived.Test.YthfkmcbblnbfaaaGreatDoorM26R

namespace Go.Proofs.YthfkmcbblnbfaaaGreatDoor
set_option maxRecDepth 100000
set_option maxHeartbeats 16000000
open Go.RowKit
section
theorem N0 {k:Nat} (h:k<=9223372036854775807):aH (k:Int):=by unfold aH;omega
theorem Qk (A Ar:Option Addr) (c cr:Nat) (l:List (List Int)) (refs:List Int) (w:World) (hs:Sl w (.slice A l.length c) l) (hrs:Sl w (.slice Ar refs.length cr) refs) (hfit:vN l) (hin:∀r∈refs,0<=r/\r<=l.length) (hby:refs.length*8<=140737488355328) :
  Calls Tryz.prog 162 #[.slice A l.length c,.slice Ar refs.length cr] w fun e w'=> ∃p:(Option Addr×Nat)×Option Addr×Nat,True/\e= .returned (.tuple #[.slice p.1.1 (cR l refs l.length).length p.1.2,.slice p.2.1 (refs.map (eS l refs)).length p.2.2])/\
   Cw w.heap.size w [ak (.slice p.2.1 (refs.map (eS l refs)).length p.2.2) (refs.map (eS l refs)),ak (.slice p.1.1 (cR l refs l.length).length p.1.2) (cR l refs l.length)] w':=by
 have b1:=bE hs
 have b2:=hfit.1
 have b3:=bE hrs
 refine enter Tryz.func162 rfl Tryz.ntmps162 rfl<|aj ?_
 refine oE (mU (α:=Int) (m:=l.length+1) 0 aw kz rfl (fun w=>⟨⟨rfl,by simp[aH]⟩,fun _ h=>h⟩) rfl (by omega) rfl rfl rfl) (fun gis _=>aj ?_)
 refine dK (fun w h=>Cw.nilO (List Int) h) ?_
 refine dA (fun g:Nat×Option Addr×Nat=>g.1<=l.length) (fun g=>l.length - g.1) (fun g=> [(1,.slice Ar refs.length cr),(6,.slice g.2.1 (cR l refs g.1).length g.2.2),(7,.slice (some ⟨gis,0,none⟩) (l.length+1) (l.length+1)),(17,.slice A l.length c),(18,.int .i64 (l.length:Int)),(19,.int .i64 (g.1:Int))]) (fun g=> [ak (.slice g.2.1 (cR l refs g.1).length g.2.2) (cR l refs g.1),ak (.slice (some ⟨gis,0,none⟩) (l.length+1) (l.length+1)) (lB l refs g.1)]) (0,none,0) (aX _) ?_
 rintro⟨k,A1,c1⟩ hk'
 try dsimp only
 have hk:k<=l.length:=hk'
 have hkl:=lR l refs k
 refine av (fun h=>?_) (fun h=>?_)
 ·have hlt:k<l.length:=by omega
  obtain⟨A2,c2,hb,hc2⟩:=hs.sub hlt
  have hfk:=hfit.at_ k
  refine aj ?_
  refine cS (_) rfl ((.ro hs)) ?_
  refine eH rfl (hc2 _)<|aj ?_
  refine bX rfl Tryz.call203 ((fun w hw=>fX ((fun w hw=>ut _ refs _ w (hw.ro hrs)) w hw)))<|aj ?_
  refine bT rfl (fun hct=>?_) (fun hct=>?_)
  ·refine aj ?_
   refine oE (eR rfl rfl rfl ld (fun w hw=>jj _ _ w (hw.ro hb) (by omega))) (fun⟨A3,c3⟩ _=>?_)
   refine aO ?_
   intro g1 _
   refine oE (cH (α:=List Int) (bytes:=24) (l.getD k []) [ak _ (l.getD k [])] (je hct) dX (aV mG) rfl (FW .c .a .a) xR (by omega) (by omega) rfl rfl rfl) (fun⟨A4,c4⟩ _=>?_)
   refine aO ?_
   have hkl2:=lR l refs (k+1)
   refine cS (k+1) rfl ((.own (sH _ _ _) .b)) ?_
   refine oE (H6 (k:=k+1) (KD hct) .b (by omega) (N0 (by omega)) bj rfl rfl rfl) (fun _ _=>aj ?_)
   refine cU (k+1,A4,c4) (by show k+1<=_;omega) (by show _ - _<_ - _;omega) (hh:=(fun _ h=>h.perm (List.Perm.swap ..)))
  refine aj ?_
  rw[<-qF hct,<-MZ hct]
  refine cU (k+1,A1,c1) (by show k+1<=_;omega) (by show _ - _<_ - _;omega)
 obtain rfl:k=l.length:=by omega
 refine aj ?_
 refine dK (fun w h=>Cw.nilO Int h) ?_
 refine dA (fun g:Nat×Option Addr×Nat=>g.1<=refs.length) (fun g=>refs.length - g.1) (fun g=> [(6,.slice A1 (cR l refs l.length).length c1),(7,.slice (some ⟨gis,0,none⟩) (l.length+1) (l.length+1)),(10,.slice g.2.1 ((refs.map (eS l refs)).take g.1).length g.2.2),(40,.slice Ar refs.length cr),(41,.int .i64 (refs.length:Int)),(42,.int .i64 (g.1:Int))]) (fun g=> [ak (.slice g.2.1 ((refs.map (eS l refs)).take g.1).length g.2.2) ((refs.map (eS l refs)).take g.1),ak (.slice A1 (cR l refs l.length).length c1) (cR l refs l.length),ak (.slice (some ⟨gis,0,none⟩) (l.length+1) (l.length+1)) (lB l refs l.length)]) (0,none,0) (aX _) ?_
 rintro⟨i,A5,c5⟩ hi'
 try dsimp only
 have hi:i<=refs.length:=hi'
 refine av (fun h2=>?_) (fun h2=>?_)
 ·have hlt:i<refs.length:=by omega
  have hm:refs.getD i 0∈refs:=mN hlt
  have hr:=hin _ hm
  have hat:=M0 hm hr.1 hr.2
  have hval:(refs.map (eS l refs)).getD i 0=eS l refs (refs.getD i 0):=by
   rw[an,dc,ap hlt,an,ap hlt];rfl
  have hsn:(refs.map (eS l refs)).take (i+1)=(refs.map (eS l refs)).take i++ [eS l refs (refs.getD i 0)]:=by
   rw[fe _ i 0 (by rw[aQ];exact hlt),hval]
  have hlen:((refs.map (eS l refs)).take i).length<=i:=by rw[aA];omega
  have hir:aH (eS l refs (refs.getD i 0)):=by
   unfold eS
   split
   ·simp[aH]
   have:=lR l refs (refs.getD i 0).toNat
   unfold aH
   omega
  refine aj ?_
  refine cS (_) rfl ((.ro hrs)) ?_
  refine ma rfl ((.ro hrs))<|aj ?_
  refine sF rfl ((.own (sH _ _ _) .c)) ?_
  refine ma rfl ((.own (sH _ _ _) .c))<|aj ?_
  intro g2 _
  rw[hat]
  refine oE (cH (α:=Int) (bytes:=8) (eS l refs (refs.getD i 0)) [] hsn aw (aV kz) rfl (eD .b .a) (uV hir) (by omega) (by omega) rfl rfl rfl) (fun⟨A6,c6⟩ _=>?_)
  refine aO ?_
  refine cU (i+1,A6,c6) (by show i+1<=_;omega) (by show _ - _<_ - _;omega)
 obtain rfl:i=refs.length:=by omega
 rw[show (refs.map (eS l refs)).take refs.length=refs.map (eS l refs) from bA (by simp)]
 refine aj ?_
 intro w hw
 exact⟨((A1,c1),(A5,c5)),trivial,rfl,Cw.tail (hw.perm (cN.s (cN.s cN.a)))⟩
end
section
theorem FZ {l:List (List Int)} {size:Int} (h:iu l size=0):0<=size/\size<=40 - cZ l:=by
 unfold iu at h
 split at h
 ·cases h
 split at h
 ·cases h
 rename_i h1 h2;omega
theorem JT {l:List (List Int)} {ref at_ n:Int} (h:yI l ref at_ n=0):cz l=0/\rt l ref at_=0/\cd n=true/\Fz l ref at_ n=put l ref at_ n:=by
 unfold Fz
 rw[if_pos h]
 unfold yI Kb at h
 split at h
 ·rename_i h1
  split at h
  ·rename_i h2
   split at h
   ·rename_i h3;exact⟨h1,h2,h3,rfl⟩
   cases h
  rename_i h2;exact absurd h h2
 rename_i h1;exact absurd h h1
end
section
theorem Ic {l:List (List Int)} {size:Int} (h:lf l size=0):cz l=0/\0<=size/\l.length≠8/\size<=40 - cZ l:=by
 unfold lf iu at h
 split at h
 ·rename_i h0
  split at h
  ·cases h
  split at h
  ·cases h
  rename_i h1 h2;exact⟨h0,by omega,by omega,by omega⟩
 rename_i h0;exact absurd h h0
theorem kZ {l:List (List Int)} (h:cz l=0):l.length<=8/\cZ l<=40/\l.any dq=false:=by
 unfold cz at h
 split at h
 ·cases h
 split at h
 ·cases h
 rename_i h1 h2;exact⟨by omega,by omega,by simpa using h2⟩
theorem ux {l:List (List Int)} (h1:l.length<=8) (h2:cZ l<=40) (h3:l.any dq=false):cz l=0:=by
 unfold cz
 rw[if_neg (by omega),if_neg (by rw[h3];decide)]
theorem C9 (n:Nat):dq (List.replicate n 0)=false:=by
 unfold dq
 rw[pd]
 intro h
 obtain⟨x,hx,hb⟩:=cG.1 h
 have:=List.eq_of_mem_replicate hx
 subst this
 simp[cd] at hb
theorem Gx {l:List (List Int)} {size:Int} (h:lf l size=0):cz (wv l size)=0:=by
 obtain⟨h0,h1,h2,h3⟩:=Ic h
 obtain⟨h4,h5,h6⟩:=kZ h0
 unfold wv
 rw[if_pos h]
 refine ux (by simp;omega) ?_ ?_
 ·rw[mv];simp;omega
 rw[List.any_append,h6];simp[C9]
theorem JX {P:Program} {t:TypeId} (hu:P.underlying t=some .bool) (a b:Bool) (w:World) (d:Nat):(Op.equalIn (d+1) t (.bool a) (.bool b)).run P w= .ok (a == b) w:=by
 simp[Op.equalIn,run_underlying hu]
theorem Mj {P:Program} {t:TypeId} (hu:P.underlying t=some .bool) (a b:Bool) (w:World):(binOp .eql t (.bool a) (.bool b)).run P w= .ok (.bool (a == b)) w:=by
 simp only[binOp,Op.equal,Op.maxDepth,Sem.run_bind]
 rw[show (10000:Nat)=9999+1 from rfl,JX hu]
 rfl
theorem Oy {P:Program} {n:NF} {B:Nat} {w0:World} {o:Oper} {env:cy} {H:List aJ} {i j:Operand} {t u:TypeId} {a b:Bool} (hu:P.underlying t=some .bool) (hop:o.op= .binOp .eql t i j u) (hi:opv env i=some (.bool a)) (hj:opv env j=some (.bool b)):QS P n B w0 o env H (.bool (a == b)):=by
 intro a' w hf hw
 unfold execOp
 have hgd:(eqGuard .eql t i j (.bool a) (.bool b)).run P w= .ok () w:=by
  unfold eqGuard
  split <;> simp
 simp only[hop,hf.opv hi,hf.opv hj,Sem.run_bind,hgd,Result.andThen_ok,Mj hu,Sem.run_pure]
end
section
theorem nX {l:List (List Int)} {ref at_ n:Int} (i:Nat):(put l ref at_ n).length=l.length/\((put l ref at_ n).getD i []).length=(l.getD i []).length:=by
 unfold put blk
 refine⟨by simp,?_⟩
 by_cases h1:(ref - 1).toNat=i
 ·subst h1
  by_cases h2:(ref - 1).toNat<l.length
  ·rw[an (l:=l.set _ _),List.getElem?_set_self h2];simp
  rw[List.set_eq_of_length_le (by omega)]
 rw[an (l:=l.set _ _),List.getElem?_set_ne h1,<-an (l:=l)]
theorem yp {l:List (List Int)} (i:Nat) (b:List Int) (hb:b.length=(l.getD i []).length):cZ (l.set i b)=cZ l:=by
 unfold cZ
 induction l generalizing i with
 | nil=>rfl
 | cons a l ih=>
  match i with
  | 0=>simp at hb;simp[hb]
  | i+1=>
   have:=ih i (by simpa using hb)
   simp only[List.set_cons_succ,et,List.sum_cons]
   rw[this]
theorem Fm {α:Type} (p:α->Bool) (l:List α) (i:Nat) (b:α) (h:l.any p=false) (hb:p b=false):(l.set i b).any p=false:=by
 rw[pd] at *
 intro ha
 obtain⟨x,hx,hp⟩:=cG.1 ha
 rcases List.mem_or_eq_of_mem_set hx with h1 | h1
 ·exact h (cG.2 ⟨x,h1,hp⟩)
 subst h1;exact hb hp
theorem Gw {l:List (List Int)} {ref at_ n:Int} (h:yI l ref at_ n=0):cz (Fz l ref at_ n)=0:=by
 obtain⟨h0,h1,h2,h3⟩:=JT h
 obtain⟨h4,h5,h6⟩:=kZ h0
 rw[h3]
 refine ux (by rw[(nX 0).1];exact h4) (by unfold put;rw[yp _ _ (by unfold blk;simp)];exact h5) ?_
 unfold put
 refine Fm _ _ _ _ h6 ?_
 unfold dq
 refine Fm _ _ _ _ ?_ (by simp[h2])
 by_cases h7:(ref - 1).toNat<l.length
 ·rw[pd] at h6⊢
  intro ha
  exact h6 (cG.2 ⟨blk l ref,mN h7,ha⟩)
 unfold blk;rw[an,aW (by omega)];rfl
end
section
theorem xM (l:List (List Int)) (refs:List Int) {k m:Nat} (h:k<=m):∃r,cR l refs m=cR l refs k++r:=by
 induction m with
 | zero=>
  obtain rfl:k=0:=by omega
  exact⟨[],by simp⟩
 | succ m ih=>
  rcases fK k (m+1) with h1 | h1
  ·obtain⟨r,hr⟩:=ih (by omega)
   exact⟨r++(if refs.contains ((m:Int)+1) then [l.getD m []] else []),by rw[cR,hr,bD]⟩
  obtain rfl:k=m+1:=by omega
  exact⟨[],by simp⟩
theorem KB {l:List (List Int)} {refs:List Int} {r:Int} (hr:r∈refs) (h1:1<=r) (h2:r<=l.length) :
  1<=eS l refs r/\eS l refs r<=(cR l refs l.length).length/\(cR l refs l.length).getD (eS l refs r - 1).toNat []=l.getD (r - 1).toNat []:=by
 obtain⟨k,hk⟩:∃k:Nat,r=(k:Int)+1:=⟨(r - 1).toNat,by omega⟩
 subst hk
 have hc:refs.contains ((k:Int)+1)=true:=by simpa using hr
 have hy:=je (l:=l) hc
 obtain⟨q,hq⟩:=xM l refs (k:=k+1) (m:=l.length) (by omega)
 have hN:eS l refs ((k:Int)+1)=(cR l refs k).length+1:=by
  unfold eS
  rw[if_neg (by omega),show ((k:Int)+1).toNat=k+1 from by omega,hy]
  simp
 rw[hN,hq,hy]
 refine⟨by omega,by simp;omega,?_⟩
 rw[show ((cR l refs k).length+1 - 1:Int).toNat=(cR l refs k).length from by omega,show ((k:Int)+1 - 1).toNat=k from by omega]
 simp[]
theorem sT (l:List (List Int)) (refs:List Int):∀m,m<=l.length->cZ (cR l refs m)<=cZ (l.take m)
 | 0,_=>by simp[cR,cZ]
 | m+1,h=>by
  have ih:=sT l refs m (by omega)
  rw[vH l m (by omega)]
  by_cases hc:refs.contains ((m:Int)+1)=true
  ·rw[je hc,mv];omega
  rw[qF (by simpa using hc)];omega
theorem ww (l:List (List Int)) (refs:List Int):∀m,m<=l.length->∀b∈cR l refs m,b∈l
 | 0,_,b,h=>by simp[cR] at h
 | m+1,hm,b,h=>by
  by_cases hc:refs.contains ((m:Int)+1)=true
  ·rw[je hc] at h
   rcases dD.1 h with h | h
   ·exact ww l refs m (by omega) b h
   simp only[cB] at h;rw[h];exact mN (by omega)
  rw[qF (by simpa using hc)] at h
  exact ww l refs m (by omega) b h
theorem D3 {l:List (List Int)} (refs:List Int) (h:cz l=0):cz (cR l refs l.length)=0:=by
 obtain⟨h4,h5,h6⟩:=kZ h
 refine ux (by have:=lR l refs l.length;omega) (by have:=sT l refs l.length (aK _);rw[aT] at this;omega) ?_
 rw[pd] at h6⊢
 intro ha
 obtain⟨x,hx,hp⟩:=cG.1 ha
 exact h6 (cG.2 ⟨x,ww l refs _ (aK _) x hx,hp⟩)
section
variable {l:List (List Int)} {refs:List Int} (h:F6 l refs=0)
include h
end
end
