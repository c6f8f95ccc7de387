/- Lemmas of one proof. -/
import Derived.Test.YthfkmcbblnbfaaaGreatDoorM0S
import Derived.Test.YthfkmcbblnbfaaaGreatDoorM19S
import Derived.Test.YthfkmcbblnbfaaaGreatDoorM17S
import Derived.Test.YthfkmcbblnbfaaaGreatDoorM25S

namespace Go.Proofs.YthfkmcbblnbfaaaGreatDoor
set_option maxRecDepth 100000
set_option maxHeartbeats 16000000
open Go.RowKit
section
theorem NO {k:Nat} (h:k<=9223372036854775807):aD (k:Int):=by unfold aD;omega
theorem Qb (A Ar:Option Addr) (c cr:Nat) (l:List (List Int)) (refs:List Int) (w:World) (hs:Sl w (.slice A l.length c) l) (hrs:Sl w (.slice Ar refs.length cr) refs) (hfit:uC l) (hin:∀r∈refs,0<=r/\r<=l.length) (hby:refs.length*8<=140737488355328) :
  Calls Tryz.prog 162 #[.slice A l.length c,.slice Ar refs.length cr] w fun e w'=> ∃p:(Option Addr×Nat)×Option Addr×Nat,True/\e= .returned (.tuple #[.slice p.1.1 (bT l refs l.length).length p.1.2,.slice p.2.1 (refs.map (ee l refs)).length p.2.2])/\
   Cw w.heap.size w [ap (.slice p.2.1 (refs.map (ee l refs)).length p.2.2) (refs.map (ee l refs)),ap (.slice p.1.1 (bT l refs l.length).length p.1.2) (bT l refs l.length)] w':=by
 have b1:=bB hs
 have b2:=hfit.1
 have b3:=bB hrs
 refine enter Tryz.func162 rfl Tryz.ntmps162 rfl<|aj ?_
 refine oE (qr (α:=Int) (m:=l.length+1) 0 aW mA rfl (fun w=>⟨⟨rfl,by simp[aD]⟩,fun _ h=>h⟩) rfl (by omega) rfl rfl rfl) (fun gis _=>aj ?_)
 refine dC (fun w h=>Cw.nilO (List Int) h) ?_
 refine dG (fun g:Nat×Option Addr×Nat=>g.1<=l.length) (fun g=>l.length - g.1) (fun g=> [(1,.slice Ar refs.length cr),(6,.slice g.2.1 (bT l refs g.1).length g.2.2),(7,.slice (some ⟨gis,0,none⟩) (l.length+1) (l.length+1)),(17,.slice A l.length c),(18,.int .i64 (l.length:Int)),(19,.int .i64 (g.1:Int))]) (fun g=> [ap (.slice g.2.1 (bT l refs g.1).length g.2.2) (bT l refs g.1),ap (.slice (some ⟨gis,0,none⟩) (l.length+1) (l.length+1)) (kx l refs g.1)]) (0,none,0) (bn _) ?_
 rintro⟨k,A1,c1⟩ hk'
 try dsimp only
 have hk:k<=l.length:=hk'
 have hkl:=kL l refs k
 refine az (fun h=>?_) (fun h=>?_)
 ·have hlt:k<l.length:=by omega
  obtain⟨A2,c2,hb,hc2⟩:=hs.sub hlt
  have hfk:=hfit.at_ k
  refine aj ?_
  refine dB (_) rfl ((.ro hs)) ?_
  refine eR rfl (hc2 _)<|aj ?_
  refine cy rfl Tryz.call203 ((fun w hw=>nD ((fun w hw=>sV _ refs _ w (hw.ro hrs)) w hw)))<|aj ?_
  refine cg rfl (fun hct=>?_) (fun hct=>?_)
  ·refine aj ?_
   refine oE (fC rfl rfl rfl jS (fun w hw=>io _ _ w (hw.ro hb) (by omega))) (fun⟨A3,c3⟩ _=>?_)
   refine aL ?_
   intro g1 _
   refine oE (cT (α:=List Int) (bytes:=24) (l.getD k []) [ap _ (l.getD k [])] (il hct) iq (bJ nM) rfl (KV .c .a .a) HG (by omega) (by omega) rfl rfl rfl) (fun⟨A4,c4⟩ _=>?_)
   refine aL ?_
   have hkl2:=kL l refs (k+1)
   refine dB (k+1) rfl ((.own (rl _ _ _) .b)) ?_
   refine oE (OV (k:=k+1) (J5 hct) .b (by omega) (NO (by omega)) cG rfl rfl rfl) (fun _ _=>aj ?_)
   refine dw (k+1,A4,c4) (by show k+1<=_;omega) (by show _ - _<_ - _;omega) (hh:=(fun _ h=>h.perm (List.Perm.swap ..)))
  refine aj ?_
  rw[<-pB hct,<-Mw hct]
  refine dw (k+1,A1,c1) (by show k+1<=_;omega) (by show _ - _<_ - _;omega)
 obtain rfl:k=l.length:=by omega
 refine aj ?_
 refine dC (fun w h=>Cw.nilO Int h) ?_
 refine dG (fun g:Nat×Option Addr×Nat=>g.1<=refs.length) (fun g=>refs.length - g.1) (fun g=> [(6,.slice A1 (bT l refs l.length).length c1),(7,.slice (some ⟨gis,0,none⟩) (l.length+1) (l.length+1)),(10,.slice g.2.1 ((refs.map (ee l refs)).take g.1).length g.2.2),(40,.slice Ar refs.length cr),(41,.int .i64 (refs.length:Int)),(42,.int .i64 (g.1:Int))]) (fun g=> [ap (.slice g.2.1 ((refs.map (ee l refs)).take g.1).length g.2.2) ((refs.map (ee l refs)).take g.1),ap (.slice A1 (bT l refs l.length).length c1) (bT l refs l.length),ap (.slice (some ⟨gis,0,none⟩) (l.length+1) (l.length+1)) (kx l refs l.length)]) (0,none,0) (bn _) ?_
 rintro⟨i,A5,c5⟩ hi'
 try dsimp only
 have hi:i<=refs.length:=hi'
 refine az (fun h2=>?_) (fun h2=>?_)
 ·have hlt:i<refs.length:=by omega
  have hm:refs.getD i 0∈refs:=oM hlt
  have hr:=hin _ hm
  have hat:=Mx hm hr.1 hr.2
  have hval:(refs.map (ee l refs)).getD i 0=ee l refs (refs.getD i 0):=by
   rw[ak,cJ,an hlt,ak,an hlt];rfl
  have hsn:(refs.map (ee l refs)).take (i+1)=(refs.map (ee l refs)).take i++ [ee l refs (refs.getD i 0)]:=by
   rw[ed _ i 0 (by rw[aN];exact hlt),hval]
  have hlen:((refs.map (ee l refs)).take i).length<=i:=by rw[ax];omega
  have hir:aD (ee l refs (refs.getD i 0)):=by
   unfold ee
   split
   ·simp[aD]
   have:=kL l refs (refs.getD i 0).toNat
   unfold aD
   omega
  refine aj ?_
  refine dB (_) rfl ((.ro hrs)) ?_
  refine oN rfl ((.ro hrs))<|aj ?_
  refine xn rfl ((.own (rl _ _ _) .c)) ?_
  refine oN rfl ((.own (rl _ _ _) .c))<|aj ?_
  intro g2 _
  rw[hat]
  refine oE (cT (α:=Int) (bytes:=8) (ee l refs (refs.getD i 0)) [] hsn aW (bJ mA) rfl (fN .b .a) (tM hir) (by omega) (by omega) rfl rfl rfl) (fun⟨A6,c6⟩ _=>?_)
  refine aL ?_
  refine dw (i+1,A6,c6) (by show i+1<=_;omega) (by show _ - _<_ - _;omega)
 obtain rfl:i=refs.length:=by omega
 rw[show (refs.map (ee l refs)).take refs.length=refs.map (ee l refs) from bg (by simp)]
 refine aj ?_
 intro w hw
 exact⟨((A1,c1),(A5,c5)),trivial,rfl,Cw.tail (hw.perm (bz.s (bz.s bz.a)))⟩
end
section
def Q7 (l:List (List Int)) (size:Int):Int:=if bV l=0/\size<0 then 3 else bV l
def QY (l:List (List Int)) (refs:List Int) (k:Nat):Int:=if bV l=0 then (if (refs.take k).any (QF l.length) then 3 else 0) else bV l
theorem Jj {l:List (List Int)} {ref at_ n:Int} (h:wV l ref at_ n=0):bV l=0/\ql l ref at_=0/\bA n=true/\Es l ref at_ n=put l ref at_ n:=by
 unfold Es
 rw[if_pos h]
 unfold wV JF at h
 split at h
 ·rename_i h1
  split at h
  ·rename_i h2
   split at h
   ·rename_i h3;exact⟨h1,h2,h3,rfl⟩
   cases h
  rename_i h2;exact absurd h h2
 rename_i h1;exact absurd h h1
theorem Ql {P:Program} {f:FuncId} {args:Array Value} {w:World} {l want:List (List Int)} {e x:Int} (h:Calls P f args w fun e' w'=>e'= .returned (.bool (decide (e=x) && decide (l=if x=0 then want else [])))/\Below w.heap.size w w') (h1:e=x) (h2:l=if x=0 then want else []) :
  Calls P f args w fun e' w'=>e'= .returned (.bool true)/\Below w.heap.size w w':=h.mono fun _ _ ⟨h3,h4⟩=>⟨by rw[h3,decide_eq_true h1,decide_eq_true h2];rfl,h4⟩
end
section
def EI (k:Nat):List Int:=(List.range k).map fun i:Nat=>(i:Int)+1
theorem GD (n k:Nat):(EI n).contains ((k:Int)+1)=decide (k<n):=by
 rw[Bool.eq_iff_iff]
 simp only[List.contains_iff_mem,EI,kY,kX,decide_eq_true_eq]
 constructor
 ·rintro⟨a,h1,h2⟩;omega
 intro h;exact⟨k,h,rfl⟩
theorem CJ (m:List (List Int)) (n:Nat) (hn:n<=m.length):∀k,k<=n->bT m (EI n) k=m.take k
 | 0,_=>by simp[bT]
 | k+1,hk=>by
  rw[il (by rw[GD];exact decide_eq_true (by omega)),CJ m n hn k (by omega),ed m k [] (by omega)]
theorem G6 {l:List (List Int)} {size:Int} (h:jU l size=0):bV l=0/\0<=size/\l.length≠8/\size<=40 - cn l:=by
 unfold jU mt at h
 split at h
 ·rename_i h0
  split at h
  ·cases h
  split at h
  ·cases h
  rename_i h1 h2;exact⟨h0,by omega,by omega,by omega⟩
 rename_i h0;exact absurd h h0
theorem nw {l:List (List Int)} (h:bV l=0):l.length<=8/\cn l<=40/\l.any dL=false:=by
 unfold bV at h
 split at h
 ·cases h
 split at h
 ·cases h
 rename_i h1 h2;exact⟨by omega,by omega,by simpa using h2⟩
theorem sY {l:List (List Int)} (h1:l.length<=8) (h2:cn l<=40) (h3:l.any dL=false):bV l=0:=by
 unfold bV
 rw[if_neg (by omega),if_neg (by rw[h3];decide)]
theorem B9 (n:Nat):dL (List.replicate n 0)=false:=by
 unfold dL
 rw[Bool.eq_false_iff]
 intro h
 obtain⟨x,hx,hb⟩:=cV.1 h
 have:=List.eq_of_mem_replicate hx
 subst this
 simp[bA] at hb
theorem Fl {l:List (List Int)} {size:Int} (h:jU l size=0):bV (uX l size)=0:=by
 obtain⟨h0,h1,h2,h3⟩:=G6 h
 obtain⟨h4,h5,h6⟩:=nw h0
 unfold uX
 rw[if_pos h]
 refine sY (by simp;omega) ?_ ?_
 ·rw[lh];simp;omega
 rw[List.any_append,h6];simp[B9]
theorem Jo {P:Program} {t:TypeId} (hu:P.underlying t=some .bool) (a b:Bool) (w:World) (d:Nat):(Op.equalIn (d+1) t (.bool a) (.bool b)).run P w= .ok (a == b) w:=by
 simp[Op.equalIn,run_underlying hu]
theorem LH {P:Program} {t:TypeId} (hu:P.underlying t=some .bool) (a b:Bool) (w:World):(binOp .eql t (.bool a) (.bool b)).run P w= .ok (.bool (a == b)) w:=by
 simp only[binOp,Op.equal,Op.maxDepth,Sem.run_bind]
 rw[show (10000:Nat)=9999+1 from rfl,Jo hu]
 rfl
theorem Ov {P:Program} {n:NF} {B:Nat} {w0:World} {o:Oper} {env:bH} {H:List aC} {i j:Operand} {t u:TypeId} {a b:Bool} (hu:P.underlying t=some .bool) (hop:o.op= .binOp .eql t i j u) (hi:opv env i=some (.bool a)) (hj:opv env j=some (.bool b)):QS P n B w0 o env H (.bool (a == b)):=by
 intro a' w hf hw
 unfold execOp
 have hgd:(eqGuard .eql t i j (.bool a) (.bool b)).run P w= .ok () w:=by
  unfold eqGuard
  split <;> simp
 simp only[hop,hf.opv hi,hf.opv hj,Sem.run_bind,hgd,Result.andThen_ok,LH hu,Sem.run_pure]
end
section
theorem lP {l:List (List Int)} {ref at_ n:Int} (i:Nat):(put l ref at_ n).length=l.length/\((put l ref at_ n).getD i []).length=(l.getD i []).length:=by
 unfold put blk
 refine⟨by simp,?_⟩
 by_cases h1:(ref - 1).toNat=i
 ·subst h1
  by_cases h2:(ref - 1).toNat<l.length
  ·rw[ak (l:=l.set _ _),List.getElem?_set_self h2];simp
  rw[List.set_eq_of_length_le (by omega)]
 rw[ak (l:=l.set _ _),List.getElem?_set_ne h1,<-ak (l:=l)]
theorem wH {l:List (List Int)} (i:Nat) (b:List Int) (hb:b.length=(l.getD i []).length):cn (l.set i b)=cn l:=by
 unfold cn
 induction l generalizing i with
 | nil=>rfl
 | cons a l ih=>
  match i with
  | 0=>simp at hb;simp[hb]
  | i+1=>
   have:=ih i (by simpa using hb)
   simp only[List.set_cons_succ,dW,List.sum_cons]
   rw[this]
theorem Eh {α:Type} (p:α->Bool) (l:List α) (i:Nat) (b:α) (h:l.any p=false) (hb:p b=false):(l.set i b).any p=false:=by
 rw[Bool.eq_false_iff] at *
 intro ha
 obtain⟨x,hx,hp⟩:=cV.1 ha
 rcases List.mem_or_eq_of_mem_set hx with h1 | h1
 ·exact h (cV.2 ⟨x,h1,hp⟩)
 subst h1;exact hb hp
theorem Fk {l:List (List Int)} {ref at_ n:Int} (h:wV l ref at_ n=0):bV (Es l ref at_ n)=0:=by
 obtain⟨h0,h1,h2,h3⟩:=Jj h
 obtain⟨h4,h5,h6⟩:=nw h0
 rw[h3]
 refine sY (by rw[(lP 0).1];exact h4) (by unfold put;rw[wH _ _ (by unfold blk;simp)];exact h5) ?_
 unfold put
 refine Eh _ _ _ _ h6 ?_
 unfold dL
 refine Eh _ _ _ _ ?_ (by simp[h2])
 by_cases h7:(ref - 1).toNat<l.length
 ·rw[Bool.eq_false_iff] at h6⊢
  intro ha
  exact h6 (cV.2 ⟨blk l ref,oM h7,ha⟩)
 unfold blk;rw[ak,aU (by omega)];rfl
end
section
theorem wh (l:List (List Int)) (refs:List Int) {k m:Nat} (h:k<=m):∃r,bT l refs m=bT l refs k++r:=by
 induction m with
 | zero=>
  obtain rfl:k=0:=by omega
  exact⟨[],by simp⟩
 | succ m ih=>
  rcases jl k (m+1) with h1 | h1
  ·obtain⟨r,hr⟩:=ih (by omega)
   exact⟨r++(if refs.contains ((m:Int)+1) then [l.getD m []] else []),by rw[bT,hr,aX]⟩
  obtain rfl:k=m+1:=by omega
  exact⟨[],by simp⟩
theorem J2 {l:List (List Int)} {refs:List Int} {r:Int} (hr:r∈refs) (h1:1<=r) (h2:r<=l.length) :
  1<=ee l refs r/\ee l refs r<=(bT l refs l.length).length/\(bT l refs l.length).getD (ee l refs r - 1).toNat []=l.getD (r - 1).toNat []:=by
 obtain⟨k,hk⟩:∃k:Nat,r=(k:Int)+1:=⟨(r - 1).toNat,by omega⟩
 subst hk
 have hc:refs.contains ((k:Int)+1)=true:=by simpa using hr
 have hy:=il (l:=l) hc
 obtain⟨q,hq⟩:=wh l refs (k:=k+1) (m:=l.length) (by omega)
 have hN:ee l refs ((k:Int)+1)=(bT l refs k).length+1:=by
  unfold ee
  rw[if_neg (by omega),show ((k:Int)+1).toNat=k+1 from by omega,hy]
  simp
 rw[hN,hq,hy]
 refine⟨by omega,by simp;omega,?_⟩
 rw[show ((bT l refs k).length+1 - 1:Int).toNat=(bT l refs k).length from by omega,show ((k:Int)+1 - 1).toNat=k from by omega]
 simp
theorem yc (l:List (List Int)) (refs:List Int):∀(m j:Nat),j<(bT l refs m).length->∃r∈refs,1<=r/\r<=m/\ee l refs r=j+1
 | 0,j,h=>by simp[bT] at h
 | m+1,j,h=>by
  by_cases hc:refs.contains ((m:Int)+1)=true
  ·rw[il hc,aq,aK] at h
   rcases jl j (bT l refs m).length with h1 | h1
   ·obtain⟨r,h2,h3,h4,h5⟩:=yc l refs m j h1
    exact⟨r,h2,h3,by omega,h5⟩
   obtain rfl:j=(bT l refs m).length:=by omega
   refine⟨(m:Int)+1,by simpa using hc,by omega,by omega,?_⟩
   unfold ee
   rw[if_neg (by omega),show ((m:Int)+1).toNat=m+1 from by omega,il hc]
   simp
  have hc:refs.contains ((m:Int)+1)=false:=by simpa using hc
  rw[pB hc] at h
  obtain⟨r,h2,h3,h4,h5⟩:=yc l refs m j h
  exact⟨r,h2,h3,by omega,h5⟩
theorem Bp (m:List (List Int)) (T:List Int) (n:Nat) (hn:n<=m.length) (hT:∀j,j<n->T.contains ((j:Int)+1)=true):∀k,k<=n->bT m T k=m.take k
 | 0,_=>by simp[bT]
 | k+1,hk=>by rw[il (hT k (by omega)),Bp m T n hn hT k (by omega),ed m k [] (by omega)]
theorem rB (l:List (List Int)) (refs:List Int):∀m,m<=l.length->cn (bT l refs m)<=cn (l.take m)
 | 0,_=>by simp[bT,cn]
 | m+1,h=>by
  have ih:=rB l refs m (by omega)
  rw[uq l m (by omega)]
  by_cases hc:refs.contains ((m:Int)+1)=true
  ·rw[il hc,lh];omega
  rw[pB (by simpa using hc)];omega
theorem uY (l:List (List Int)) (refs:List Int):∀m,m<=l.length->∀b∈bT l refs m,b∈l
 | 0,_,b,h=>by simp[bT] at h
 | m+1,hm,b,h=>by
  by_cases hc:refs.contains ((m:Int)+1)=true
  ·rw[il hc] at h
   rcases cD.1 h with h | h
   ·exact uY l refs m (by omega) b h
   simp only[bK] at h;rw[h];exact oM (by omega)
  rw[pB (by simpa using hc)] at h
  exact uY l refs m (by omega) b h
theorem C2 {l:List (List Int)} (refs:List Int) (h:bV l=0):bV (bT l refs l.length)=0:=by
 obtain⟨h4,h5,h6⟩:=nw h
 refine sY (by have:=kL l refs l.length;omega) (by have:=rB l refs l.length (aA _);rw[aR] at this;omega) ?_
 rw[Bool.eq_false_iff] at h6⊢
 intro ha
 obtain⟨x,hx,hp⟩:=cV.1 ha
 exact h6 (cV.2 ⟨x,uY l refs _ (aA _) x hx,hp⟩)
section
variable {l:List (List Int)} {refs:List Int} (h:EQ l refs=0)
include h
end
end
