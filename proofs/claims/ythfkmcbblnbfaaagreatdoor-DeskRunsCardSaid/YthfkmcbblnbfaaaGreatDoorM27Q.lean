/- Lemmas of one proof. -/
import Derived.Test.YthfkmcbblnbfaaaGreatDoorM0Q
import Derived.Test.YthfkmcbblnbfaaaGreatDoorM19Q
import Derived.Test.YthfkmcbblnbfaaaGreatDoorM17Q
import Derived.Test.YthfkmcbblnbfaaaGreatDoorM25Q

namespace Go.Proofs.YthfkmcbblnbfaaaGreatDoor
set_option maxRecDepth 100000
set_option maxHeartbeats 16000000
open Go.RowKit
section
theorem Nv {k:Nat} (h:k<=9223372036854775807):aF (k:Int):=by unfold aF;omega
theorem PS (A Ar:Option Addr) (c cr:Nat) (l:List (List Int)) (refs:List Int) (w:World) (hs:Sl w (.slice A l.length c) l) (hrs:Sl w (.slice Ar refs.length cr) refs) (hfit:uu l) (hin:∀r∈refs,0<=r/\r<=l.length) (hby:refs.length*8<=140737488355328) :
  Calls Tryz.prog 162 #[.slice A l.length c,.slice Ar refs.length cr] w fun e w'=> ∃p:(Option Addr×Nat)×Option Addr×Nat,True/\e= .returned (.tuple #[.slice p.1.1 (bY l refs l.length).length p.1.2,.slice p.2.1 (refs.map (ek l refs)).length p.2.2])/\
   Cw w.heap.size w [an (.slice p.2.1 (refs.map (ek l refs)).length p.2.2) (refs.map (ek l refs)),an (.slice p.1.1 (bY l refs l.length).length p.1.2) (bY l refs l.length)] w':=by
 have b1:=bx hs
 have b2:=hfit.1
 have b3:=bx hrs
 refine enter Tryz.func162 rfl Tryz.ntmps162 rfl<|aj ?_
 refine oE (qq (α:=Int) (m:=l.length+1) 0 aV mz rfl (fun w=>⟨⟨rfl,by simp[aF]⟩,fun _ h=>h⟩) rfl (by omega) rfl rfl rfl) (fun gis _=>aj ?_)
 refine dJ (fun w h=>Cw.nilO (List Int) h) ?_
 refine dG (fun g:Nat×Option Addr×Nat=>g.1<=l.length) (fun g=>l.length - g.1) (fun g=> [(1,.slice Ar refs.length cr),(6,.slice g.2.1 (bY l refs g.1).length g.2.2),(7,.slice (some ⟨gis,0,none⟩) (l.length+1) (l.length+1)),(17,.slice A l.length c),(18,.int .i64 (l.length:Int)),(19,.int .i64 (g.1:Int))]) (fun g=> [an (.slice g.2.1 (bY l refs g.1).length g.2.2) (bY l refs g.1),an (.slice (some ⟨gis,0,none⟩) (l.length+1) (l.length+1)) (kB l refs g.1)]) (0,none,0) (bi _) ?_
 rintro⟨k,A1,c1⟩ hk'
 try dsimp only
 have hk:k<=l.length:=hk'
 have hkl:=kO l refs k
 refine az (fun h=>?_) (fun h=>?_)
 ·have hlt:k<l.length:=by omega
  obtain⟨A2,c2,hb,hc2⟩:=hs.sub hlt
  have hfk:=hfit.at_ k
  refine aj ?_
  refine dA (_) rfl ((.ro hs)) ?_
  refine eM rfl (hc2 _)<|aj ?_
  refine cA rfl Tryz.call203 ((fun w hw=>nA ((fun w hw=>sX _ refs _ w (hw.ro hrs)) w hw)))<|aj ?_
  refine cB rfl (fun hct=>?_) (fun hct=>?_)
  ·refine aj ?_
   refine oE (fI rfl rfl rfl jV (fun w hw=>it _ _ w (hw.ro hb) (by omega))) (fun⟨A3,c3⟩ _=>?_)
   refine aJ ?_
   intro g1 _
   refine oE (cV (α:=List Int) (bytes:=24) (l.getD k []) [an _ (l.getD k [])] (ir hct) ix (bM nK) rfl (KE .c .a .a) Hh (by omega) (by omega) rfl rfl rfl) (fun⟨A4,c4⟩ _=>?_)
   refine aJ ?_
   have hkl2:=kO l refs (k+1)
   refine dA (k+1) rfl ((.own (rq _ _ _) .b)) ?_
   refine oE (OB (k:=k+1) (JQ hct) .b (by omega) (Nv (by omega)) cJ rfl rfl rfl) (fun _ _=>aj ?_)
   refine dv (k+1,A4,c4) (by show k+1<=_;omega) (by show _ - _<_ - _;omega) (hh:=(fun _ h=>h.perm (List.Perm.swap ..)))
  refine aj ?_
  rw[<-pB hct,<-Mf hct]
  refine dv (k+1,A1,c1) (by show k+1<=_;omega) (by show _ - _<_ - _;omega)
 obtain rfl:k=l.length:=by omega
 refine aj ?_
 refine dJ (fun w h=>Cw.nilO Int h) ?_
 refine dG (fun g:Nat×Option Addr×Nat=>g.1<=refs.length) (fun g=>refs.length - g.1) (fun g=> [(6,.slice A1 (bY l refs l.length).length c1),(7,.slice (some ⟨gis,0,none⟩) (l.length+1) (l.length+1)),(10,.slice g.2.1 ((refs.map (ek l refs)).take g.1).length g.2.2),(40,.slice Ar refs.length cr),(41,.int .i64 (refs.length:Int)),(42,.int .i64 (g.1:Int))]) (fun g=> [an (.slice g.2.1 ((refs.map (ek l refs)).take g.1).length g.2.2) ((refs.map (ek l refs)).take g.1),an (.slice A1 (bY l refs l.length).length c1) (bY l refs l.length),an (.slice (some ⟨gis,0,none⟩) (l.length+1) (l.length+1)) (kB l refs l.length)]) (0,none,0) (bi _) ?_
 rintro⟨i,A5,c5⟩ hi'
 try dsimp only
 have hi:i<=refs.length:=hi'
 refine az (fun h2=>?_) (fun h2=>?_)
 ·have hlt:i<refs.length:=by omega
  have hm:refs.getD i 0∈refs:=oM hlt
  have hr:=hin _ hm
  have hat:=Mg hm hr.1 hr.2
  have hval:(refs.map (ek l refs)).getD i 0=ek l refs (refs.getD i 0):=by
   rw[ak,cD,ap hlt,ak,ap hlt];rfl
  have hsn:(refs.map (ek l refs)).take (i+1)=(refs.map (ek l refs)).take i++ [ek l refs (refs.getD i 0)]:=by
   rw[ei _ i 0 (by rw[aW];exact hlt),hval]
  have hlen:((refs.map (ek l refs)).take i).length<=i:=by rw[ax];omega
  have hir:aF (ek l refs (refs.getD i 0)):=by
   unfold ek
   split
   ·simp[aF]
   have:=kO l refs (refs.getD i 0).toNat
   unfold aF
   omega
  refine aj ?_
  refine dA (_) rfl ((.ro hrs)) ?_
  refine oN rfl ((.ro hrs))<|aj ?_
  refine xj rfl ((.own (rq _ _ _) .c)) ?_
  refine oN rfl ((.own (rq _ _ _) .c))<|aj ?_
  intro g2 _
  rw[hat]
  refine oE (cV (α:=Int) (bytes:=8) (ek l refs (refs.getD i 0)) [] hsn aV (bM mz) rfl (fT .b .a) (tJ hir) (by omega) (by omega) rfl rfl rfl) (fun⟨A6,c6⟩ _=>?_)
  refine aJ ?_
  refine dv (i+1,A6,c6) (by show i+1<=_;omega) (by show _ - _<_ - _;omega)
 obtain rfl:i=refs.length:=by omega
 rw[show (refs.map (ek l refs)).take refs.length=refs.map (ek l refs) from bg (by simp)]
 refine aj ?_
 intro w hw
 exact⟨((A1,c1),(A5,c5)),trivial,rfl,Cw.tail (hw.perm (bA.s (bA.s bA.a)))⟩
end
section
def QP (l:List (List Int)) (size:Int):Int:=if cc l=0/\size<0 then 3 else cc l
def QG (l:List (List Int)) (refs:List Int) (k:Nat):Int:=if cc l=0 then (if (refs.take k).any (Qn l.length) then 3 else 0) else cc l
theorem I5 {l:List (List Int)} {ref at_ n:Int} (h:wR l ref at_ n=0):cc l=0/\qk l ref at_=0/\bB n=true/\Ei l ref at_ n=put l ref at_ n:=by
 unfold Ei
 rw[if_pos h]
 unfold wR Jp at h
 split at h
 ·rename_i h1
  split at h
  ·rename_i h2
   split at h
   ·rename_i h3;exact⟨h1,h2,h3,rfl⟩
   cases h
  rename_i h2;exact absurd h h2
 rename_i h1;exact absurd h h1
theorem P3 {P:Program} {f:FuncId} {args:Array Value} {w:World} {l want:List (List Int)} {e x:Int} (h:Calls P f args w fun e' w'=>e'= .returned (.bool (decide (e=x) && decide (l=if x=0 then want else [])))/\Below w.heap.size w w') (h1:e=x) (h2:l=if x=0 then want else []) :
  Calls P f args w fun e' w'=>e'= .returned (.bool true)/\Below w.heap.size w w':=h.mono fun _ _ ⟨h3,h4⟩=>⟨by rw[h3,decide_eq_true h1,decide_eq_true h2];rfl,h4⟩
end
section
def Ey (k:Nat):List Int:=(List.range k).map fun i:Nat=>(i:Int)+1
theorem Gm (n k:Nat):(Ey n).contains ((k:Int)+1)=decide (k<n):=by
 rw[Bool.eq_iff_iff]
 simp only[List.contains_iff_mem,Ey,oB,la,decide_eq_true_eq]
 constructor
 ·rintro⟨a,h1,h2⟩;omega
 intro h;exact⟨k,h,rfl⟩
theorem CB (m:List (List Int)) (n:Nat) (hn:n<=m.length):∀k,k<=n->bY m (Ey n) k=m.take k
 | 0,_=>by simp[bY]
 | k+1,hk=>by
  rw[ir (by rw[Gm];exact decide_eq_true (by omega)),CB m n hn k (by omega),ei m k [] (by omega)]
theorem GO {l:List (List Int)} {size:Int} (h:jX l size=0):cc l=0/\0<=size/\l.length≠8/\size<=40 - cC l:=by
 unfold jX mt at h
 split at h
 ·rename_i h0
  split at h
  ·cases h
  split at h
  ·cases h
  rename_i h1 h2;exact⟨h0,by omega,by omega,by omega⟩
 rename_i h0;exact absurd h h0
theorem nr {l:List (List Int)} (h:cc l=0):l.length<=8/\cC l<=40/\l.any dR=false:=by
 unfold cc at h
 split at h
 ·cases h
 split at h
 ·cases h
 rename_i h1 h2;exact⟨by omega,by omega,by simpa using h2⟩
theorem ta {l:List (List Int)} (h1:l.length<=8) (h2:cC l<=40) (h3:l.any dR=false):cc l=0:=by
 unfold cc
 rw[if_neg (by omega),if_neg (by rw[h3];decide)]
theorem BY (n:Nat):dR (List.replicate n 0)=false:=by
 unfold dR
 rw[Bool.eq_false_iff]
 intro h
 obtain⟨x,hx,hb⟩:=cX.1 h
 have:=List.eq_of_mem_replicate hx
 subst this
 simp[bB] at hb
theorem Fb {l:List (List Int)} {size:Int} (h:jX l size=0):cc (uR l size)=0:=by
 obtain⟨h0,h1,h2,h3⟩:=GO h
 obtain⟨h4,h5,h6⟩:=nr h0
 unfold uR
 rw[if_pos h]
 refine ta (by simp;omega) ?_ ?_
 ·rw[ll];simp;omega
 rw[List.any_append,h6];simp[BY]
theorem I9 {P:Program} {t:TypeId} (hu:P.underlying t=some .bool) (a b:Bool) (w:World) (d:Nat):(Op.equalIn (d+1) t (.bool a) (.bool b)).run P w= .ok (a == b) w:=by
 simp[Op.equalIn,run_underlying hu]
theorem Ls {P:Program} {t:TypeId} (hu:P.underlying t=some .bool) (a b:Bool) (w:World):(binOp .eql t (.bool a) (.bool b)).run P w= .ok (.bool (a == b)) w:=by
 simp only[binOp,Op.equal,Op.maxDepth,Sem.run_bind]
 rw[show (10000:Nat)=9999+1 from rfl,I9 hu]
 rfl
theorem N9 {P:Program} {n:NF} {B:Nat} {w0:World} {o:Oper} {env:bJ} {H:List aC} {i j:Operand} {t u:TypeId} {a b:Bool} (hu:P.underlying t=some .bool) (hop:o.op= .binOp .eql t i j u) (hi:opv env i=some (.bool a)) (hj:opv env j=some (.bool b)):QS P n B w0 o env H (.bool (a == b)):=by
 intro a' w hf hw
 unfold execOp
 have hgd:(eqGuard .eql t i j (.bool a) (.bool b)).run P w= .ok () w:=by
  unfold eqGuard
  split <;> simp
 simp only[hop,hf.opv hi,hf.opv hj,Sem.run_bind,hgd,Result.andThen_ok,Ls hu,Sem.run_pure]
end
section
theorem lR {l:List (List Int)} {ref at_ n:Int} (i:Nat):(put l ref at_ n).length=l.length/\((put l ref at_ n).getD i []).length=(l.getD i []).length:=by
 unfold put blk
 refine⟨by simp,?_⟩
 by_cases h1:(ref - 1).toNat=i
 ·subst h1
  by_cases h2:(ref - 1).toNat<l.length
  ·rw[ak (l:=l.set _ _),List.getElem?_set_self h2];simp
  rw[List.set_eq_of_length_le (by omega)]
 rw[ak (l:=l.set _ _),List.getElem?_set_ne h1,<-ak (l:=l)]
theorem wD {l:List (List Int)} (i:Nat) (b:List Int) (hb:b.length=(l.getD i []).length):cC (l.set i b)=cC l:=by
 unfold cC
 induction l generalizing i with
 | nil=>rfl
 | cons a l ih=>
  match i with
  | 0=>simp at hb;simp[hb]
  | i+1=>
   have:=ih i (by simpa using hb)
   simp only[List.set_cons_succ,ee,List.sum_cons]
   rw[this]
theorem D9 {α:Type} (p:α->Bool) (l:List α) (i:Nat) (b:α) (h:l.any p=false) (hb:p b=false):(l.set i b).any p=false:=by
 rw[Bool.eq_false_iff] at *
 intro ha
 obtain⟨x,hx,hp⟩:=cX.1 ha
 rcases List.mem_or_eq_of_mem_set hx with h1 | h1
 ·exact h (cX.2 ⟨x,h1,hp⟩)
 subst h1;exact hb hp
theorem Fa {l:List (List Int)} {ref at_ n:Int} (h:wR l ref at_ n=0):cc (Ei l ref at_ n)=0:=by
 obtain⟨h0,h1,h2,h3⟩:=I5 h
 obtain⟨h4,h5,h6⟩:=nr h0
 rw[h3]
 refine ta (by rw[(lR 0).1];exact h4) (by unfold put;rw[wD _ _ (by unfold blk;simp)];exact h5) ?_
 unfold put
 refine D9 _ _ _ _ h6 ?_
 unfold dR
 refine D9 _ _ _ _ ?_ (by simp[h2])
 by_cases h7:(ref - 1).toNat<l.length
 ·rw[Bool.eq_false_iff] at h6⊢
  intro ha
  exact h6 (cX.2 ⟨blk l ref,oM h7,ha⟩)
 unfold blk;rw[ak,aT (by omega)];rfl
end
section
theorem wb (l:List (List Int)) (refs:List Int) {k m:Nat} (h:k<=m):∃r,bY l refs m=bY l refs k++r:=by
 induction m with
 | zero=>
  obtain rfl:k=0:=by omega
  exact⟨[],by simp⟩
 | succ m ih=>
  rcases jq k (m+1) with h1 | h1
  ·obtain⟨r,hr⟩:=ih (by omega)
   exact⟨r++(if refs.contains ((m:Int)+1) then [l.getD m []] else []),by rw[bY,hr,aX]⟩
  obtain rfl:k=m+1:=by omega
  exact⟨[],by simp⟩
theorem JN {l:List (List Int)} {refs:List Int} {r:Int} (hr:r∈refs) (h1:1<=r) (h2:r<=l.length) :
  1<=ek l refs r/\ek l refs r<=(bY l refs l.length).length/\(bY l refs l.length).getD (ek l refs r - 1).toNat []=l.getD (r - 1).toNat []:=by
 obtain⟨k,hk⟩:∃k:Nat,r=(k:Int)+1:=⟨(r - 1).toNat,by omega⟩
 subst hk
 have hc:refs.contains ((k:Int)+1)=true:=by simpa using hr
 have hy:=ir (l:=l) hc
 obtain⟨q,hq⟩:=wb l refs (k:=k+1) (m:=l.length) (by omega)
 have hN:ek l refs ((k:Int)+1)=(bY l refs k).length+1:=by
  unfold ek
  rw[if_neg (by omega),show ((k:Int)+1).toNat=k+1 from by omega,hy]
  simp
 rw[hN,hq,hy]
 refine⟨by omega,by simp;omega,?_⟩
 rw[show ((bY l refs k).length+1 - 1:Int).toNat=(bY l refs k).length from by omega,show ((k:Int)+1 - 1).toNat=k from by omega]
 simp
theorem ya (l:List (List Int)) (refs:List Int):∀(m j:Nat),j<(bY l refs m).length->∃r∈refs,1<=r/\r<=m/\ek l refs r=j+1
 | 0,j,h=>by simp[bY] at h
 | m+1,j,h=>by
  by_cases hc:refs.contains ((m:Int)+1)=true
  ·rw[ir hc,aq,aL] at h
   rcases jq j (bY l refs m).length with h1 | h1
   ·obtain⟨r,h2,h3,h4,h5⟩:=ya l refs m j h1
    exact⟨r,h2,h3,by omega,h5⟩
   obtain rfl:j=(bY l refs m).length:=by omega
   refine⟨(m:Int)+1,by simpa using hc,by omega,by omega,?_⟩
   unfold ek
   rw[if_neg (by omega),show ((m:Int)+1).toNat=m+1 from by omega,ir hc]
   simp
  have hc:refs.contains ((m:Int)+1)=false:=by simpa using hc
  rw[pB hc] at h
  obtain⟨r,h2,h3,h4,h5⟩:=ya l refs m j h
  exact⟨r,h2,h3,by omega,h5⟩
theorem Bi (m:List (List Int)) (T:List Int) (n:Nat) (hn:n<=m.length) (hT:∀j,j<n->T.contains ((j:Int)+1)=true):∀k,k<=n->bY m T k=m.take k
 | 0,_=>by simp[bY]
 | k+1,hk=>by rw[ir (hT k (by omega)),Bi m T n hn hT k (by omega),ei m k [] (by omega)]
theorem rE (l:List (List Int)) (refs:List Int):∀m,m<=l.length->cC (bY l refs m)<=cC (l.take m)
 | 0,_=>by simp[bY,cC]
 | m+1,h=>by
  have ih:=rE l refs m (by omega)
  rw[ul l m (by omega)]
  by_cases hc:refs.contains ((m:Int)+1)=true
  ·rw[ir hc,ll];omega
  rw[pB (by simpa using hc)];omega
theorem uS (l:List (List Int)) (refs:List Int):∀m,m<=l.length->∀b∈bY l refs m,b∈l
 | 0,_,b,h=>by simp[bY] at h
 | m+1,hm,b,h=>by
  by_cases hc:refs.contains ((m:Int)+1)=true
  ·rw[ir hc] at h
   rcases cG.1 h with h | h
   ·exact uS l refs m (by omega) b h
   simp only[bN] at h;rw[h];exact oM (by omega)
  rw[pB (by simpa using hc)] at h
  exact uS l refs m (by omega) b h
theorem CT {l:List (List Int)} (refs:List Int) (h:cc l=0):cc (bY l refs l.length)=0:=by
 obtain⟨h4,h5,h6⟩:=nr h
 refine ta (by have:=kO l refs l.length;omega) (by have:=rE l refs l.length (aA _);rw[aQ] at this;omega) ?_
 rw[Bool.eq_false_iff] at h6⊢
 intro ha
 obtain⟨x,hx,hp⟩:=cX.1 ha
 exact h6 (cX.2 ⟨x,uS l refs _ (aA _) x hx,hp⟩)
section
variable {l:List (List Int)} {refs:List Int} (h:EH l refs=0)
include h
end
end
