/- Texts of one proof, one behind the other: lemmas alone. -/
import Derived.Test.YtpacloheigifkaaGreatM0C
import Derived.Test.YtpacloheigifkaaGreatM18C
import Derived.Test.YtpacloheigifkaaGreatM14C
import Derived.Test.YtpacloheigifkaaGreatM25C

namespace Go.Proofs.YtpacloheigifkaaGreat
open Go.RowKit
section
theorem Bp {k:Nat} (h:k≤9223372036854775807):a5 (k:Int):=by unfold a5;omega
set_option maxRecDepth 100000 in
theorem CM (A Ar:Option Addr) (c cr:Nat) (l:List (List Int)) (refs:List Int) (w:World) (hs:Sl w (.slice A l.length c) l) (hrs:Sl w (.slice Ar refs.length cr) refs) (hfit:nm l) (hin:∀r∈refs,0≤r∧r≤l.length) (hby:refs.length*8≤140737488355328) :
  Calls Tryz.prog 126 #[.slice A l.length c,.slice Ar refs.length cr] w fun e w'=> ∃p:(Option Addr×Nat)×Option Addr×Nat,True∧e= .returned (.tuple #[.slice p.1.1 (ck l refs l.length).length p.1.2,.slice p.2.1 (refs.map (dC l refs)).length p.2.2])∧
   Cw w.heap.size w [an (.slice p.2.1 (refs.map (dC l refs)).length p.2.2) (refs.map (dC l refs)),an (.slice p.1.1 (ck l refs l.length).length p.1.2) (ck l refs l.length)] w':=by
 have b1:=bR hs
 have b2:=hfit.1
 have b3:=bR hrs
 refine enter Tryz.func126 rfl Tryz.ntmps126 rfl ?_
 refine ac<|aa<|rn 2 [0,1] rfl<|ae<|ac<|aa<|rn 1 [0,1,6] rfl<|ae<|ac<|aa<|rn 1 [0,1,6,13] rfl<|af (aL bj rfl rfl) rfl rfl<|af (a6 rfl rfl rfl (by omega)) rfl rfl<|ai (jJ (α:=Int) (m:=l.length+1) 0 ag ic rfl (fun w=>⟨⟨rfl,by simp[a5]⟩,fun _ h=>h⟩) rfl (by omega) rfl rfl rfl) rfl rfl (fun gis _=>?_)
 refine rn 1 [0,1,6,7] rfl<|ae<|ac<|ac<|aa<|rn 1 [1,6,7,17] rfl<|af (aL bj rfl rfl) rfl rfl<|rn 1 [1,6,7,17,18,19] rfl<|ae<|dx (fun w h=>Cw.nilO (List Int) h) ?_
 refine aE (bD (fun g:Nat×Option Addr×Nat=>g.1≤l.length) (fun g=>l.length - g.1) (fun g=> [(1,.slice Ar refs.length cr),(6,.slice g.2.1 (ck l refs g.1).length g.2.2),(7,.slice (some ⟨gis,0,none⟩) (l.length+1) (l.length+1)),(17,.slice A l.length c),(18,.int .i64 (l.length:Int)),(19,.int .i64 (g.1:Int))]) (fun g=> [an (.slice g.2.1 (ck l refs g.1).length g.2.2) (ck l refs g.1),an (.slice (some ⟨gis,0,none⟩) (l.length+1) (l.length+1)) (hP l refs g.1)]) (0,none,0) (Nat.zero_le _) ⟨rfl,rfl,rfl,rfl,rfl,rfl,trivial⟩ me ?_)
 rintro⟨k,A1,c1⟩ hk'
 try dsimp only
 have hk:k≤l.length:=hk'
 have hkl:=gI l refs k
 refine ac<|aa<|rn 1 [1,6,7,17,18,19,20] rfl<|ae<|ac<|ar rfl (fun h=>?_) (fun h=>?_)
 ·have hlt:k<l.length:=by omega
  obtain⟨A2,c2,hb,hc2⟩:=hs.sub hlt
  have hfk:=hfit.at_ k
  refine aq (ak ?_)
  refine ac<|aE<|ac<|aa<|rn 1 [1,6,7,17,18,19,21] rfl<|af (aQ bj bJ (.ro hs) (by omega) rfl rfl rfl) rfl rfl<|af (aZ (hc2 _) rfl rfl aW) rfl rfl<|rn 2 [1,6,7,8,9,17,18,19] rfl<|ae<|ac<|aa<|rn 2 [1,6,7,8,9,17,18,19,24,25] rfl<|af (a6 rfl rfl rfl (by omega)) rfl rfl<|ai (bB rfl rfl rfl Tryz.call155 ((fun w hw=>eM ((fun w hw=>mY _ refs _ w (hw.ro hrs)) w hw)))) rfl rfl (fun _ _=>?_)
  refine ae<|b9 rfl (fun hct=>?_) (fun hct=>?_)
  ·refine ac<|aa<|rn 2 [1,7,8,17,18,19,28,29] rfl<|ai (d9 rfl rfl rfl iE (fun w hw=>f5 _ _ w (hw.ro hb) (by omega))) rfl rfl (fun⟨A3,c3⟩ _=>?_)
   try dsimp only
   refine ai (a8 (cs:= [_]) bj bJ mC rfl rfl rfl rfl rfl) rfl rfl (fun g1 _=>?_)
   refine ai (dM (α:=List Int) (bytes:=24) (l.getD k []) [an _ (l.getD k [])] (fJ hct) bj (bN iT) rfl (zu .c .a .a) wS (by omega) (by omega) rfl rfl rfl) rfl rfl (fun⟨A4,c4⟩ _=>?_)
   try dsimp only
   refine rn 1 [1,6,7,8,17,18,19] rfl<|ae<|aa<|rn 2 [1,6,7,17,18,19,33,34] rfl<|af (a6 rfl rfl rfl (by omega)) rfl rfl<|rn 1 [1,6,7,17,18,19,33,35,36] rfl<|af (aL bj rfl rfl) rfl rfl ?_
   have hkl2:=gI l refs (k+1)
   refine af (aQ (k:=k+1) ag aF (.own (mm _ _ _) .b) (by omega) rfl rfl rfl) rfl rfl<|ai (BM (k:=k+1) (yD hct) .b (by omega) (Bp (by omega)) aF rfl rfl rfl) rfl rfl (fun _ _=>?_)
   refine bu (aH (ak ?_))
   refine aa<|af (a6 rfl rfl rfl (by omega)) rfl rfl<|rn 1 [1,6,7,17,18,19] rfl<|aX (k+1,A4,c4) (by show k+1≤_;omega) (by show _ - _<_ - _;omega) ⟨rfl,rfl,rfl,rfl,rfl,rfl,trivial⟩ (fun _ h=>h.perm (List.Perm.swap ..))
  refine aq (aH (ak ?_))
  refine aa<|af (a6 rfl rfl rfl (by omega)) rfl rfl<|rn 1 [1,6,7,17,18,19] rfl ?_
  rw[←lg hct,←AC hct]
  refine aX (k+1,A1,c1) (by show k+1≤_;omega) (by show _ - _<_ - _;omega) ⟨rfl,rfl,rfl,rfl,rfl,rfl,trivial⟩ me
 obtain rfl:k=l.length:=by omega
 refine bz (aG (aG (bO (ak ?_))))
 refine ac<|aa<|rn 1 [1,6,7,10] rfl<|ae<|ac<|ac<|aa<|rn 1 [6,7,10,40] rfl<|af (aL ag rfl rfl) rfl rfl<|rn 1 [6,7,10,40,41,42] rfl<|ae<|dx (fun w h=>Cw.nilO Int h) ?_
 refine aE (bD (fun g:Nat×Option Addr×Nat=>g.1≤refs.length) (fun g=>refs.length - g.1) (fun g=> [(6,.slice A1 (ck l refs l.length).length c1),(7,.slice (some ⟨gis,0,none⟩) (l.length+1) (l.length+1)),(10,.slice g.2.1 ((refs.map (dC l refs)).take g.1).length g.2.2),(40,.slice Ar refs.length cr),(41,.int .i64 (refs.length:Int)),(42,.int .i64 (g.1:Int))]) (fun g=> [an (.slice g.2.1 ((refs.map (dC l refs)).take g.1).length g.2.2) ((refs.map (dC l refs)).take g.1),an (.slice A1 (ck l refs l.length).length c1) (ck l refs l.length),an (.slice (some ⟨gis,0,none⟩) (l.length+1) (l.length+1)) (hP l refs l.length)]) (0,none,0) (Nat.zero_le _) ⟨rfl,rfl,rfl,rfl,rfl,rfl,trivial⟩ me ?_)
 rintro⟨i,A5,c5⟩ hi'
 try dsimp only
 have hi:i≤refs.length:=hi'
 refine ac<|aa<|rn 1 [6,7,10,40,41,42,43] rfl<|ae<|ac<|ar rfl (fun h2=>?_) (fun h2=>?_)
 ·have hlt:i<refs.length:=by omega
  have hm:refs.getD i 0∈refs:=iX hlt
  have hr:=hin _ hm
  have hat:=AD hm hr.1 hr.2
  have hval:(refs.map (dC l refs)).getD i 0=dC l refs (refs.getD i 0):=by
   rw[List.getD_eq_getElem?_getD,List.getElem?_map,List.getElem?_eq_getElem hlt,List.getD_eq_getElem?_getD,List.getElem?_eq_getElem hlt];rfl
  have hsn:(refs.map (dC l refs)).take (i+1)=(refs.map (dC l refs)).take i++ [dC l refs (refs.getD i 0)]:=by
   rw[dL _ i 0 (by rw[List.length_map];exact hlt),hval]
  have hlen:((refs.map (dC l refs)).take i).length≤i:=by rw[List.length_take];omega
  have hir:a5 (dC l refs (refs.getD i 0)):=by
   unfold dC
   split
   ·simp[a5]
   have:=gI l refs (refs.getD i 0).toNat
   unfold a5
   omega
  refine aq (ak ?_)
  refine ac<|aE<|ac<|aa<|af (aQ ag aF (.ro hrs) (by omega) rfl rfl rfl) rfl rfl<|af (aZ (SF.int (.ro hrs) (by omega)) rfl rfl aw) rfl rfl<|rn 1 [6,7,10,12,40,41,42] rfl<|ae<|aa<|rn 3 [6,7,40,41,42,46,47,48] rfl<|af (eJ ag aF (.own (mm _ _ _) .c) (by omega) rfl rfl rfl) rfl rfl<|af (aZ (SF.int (.own (mm _ _ _) .c) (by omega)) rfl rfl aw) rfl rfl<|ai (a8 (cs:= [_]) ag aF aV rfl rfl rfl rfl rfl) rfl rfl (fun g2 _=>?_)
  rw[hat]
  refine ai (dM (α:=Int) (bytes:=8) (dC l refs (refs.getD i 0)) [] hsn ag (bN ic) rfl (fH .b .a) (nz hir) (by omega) (by omega) rfl rfl rfl) rfl rfl (fun⟨A6,c6⟩ _=>?_)
  try dsimp only
  refine rn 1 [6,7,10,40,41,42] rfl<|bu (aH (ak ?_))
  refine aa<|af (a6 rfl rfl rfl (by omega)) rfl rfl<|rn 1 [6,7,10,40,41,42] rfl<|aX (i+1,A6,c6) (by show i+1≤_;omega) (by show _ - _<_ - _;omega) ⟨rfl,rfl,rfl,rfl,rfl,rfl,trivial⟩ me
 obtain rfl:i=refs.length:=by omega
 rw[show (refs.map (dC l refs)).take refs.length=refs.map (dC l refs) from List.take_of_length_le (by simp)]
 refine bz (aG (aG (bO (ak ?_))))
 refine ac<|aa<|rn 4 [4,5] rfl<|ae<|ap<|bC Tryz.results126 (am rfl) (am rfl) ?_
 intro w hw
 exact⟨((A1,c1),(A5,c5)),trivial,rfl,Cw.tail (hw.perm (cz.s (cz.s cz.a)))⟩
end
section
def DD (l:List (List Int)) (size:Int):Int:=if cc l=0∧size<0 then 3 else cc l
def Dt (l:List (List Int)) (refs:List Int) (k:Nat):Int:=if cc l=0 then (if (refs.take k).any (Dd l.length) then 3 else 0) else cc l
theorem xU {l:List (List Int)} {ref at_ n:Int} (h:pD l ref at_ n=0):cc l=0∧lJ l ref at_=0∧cW n=true∧uu l ref at_ n=put l ref at_ n:=by
 unfold uu
 rw[if_pos h]
 unfold pD yj at h
 split at h
 ·rename_i h1
  split at h
  ·rename_i h2
   split at h
   ·rename_i h3;exact⟨h1,h2,h3,rfl⟩
   cases h
  rename_i h2;exact absurd h h2
 rename_i h1;exact absurd h h1
theorem CS {P:Program} {f:FuncId} {args:Array Value} {w:World} {l want:List (List Int)} {e x:Int} (h:Calls P f args w fun e' w'=>e'= .returned (.bool (decide (e=x) && decide (l=if x=0 then want else [])))∧Below w.heap.size w w') (h1:e=x) (h2:l=if x=0 then want else []) :
  Calls P f args w fun e' w'=>e'= .returned (.bool true)∧Below w.heap.size w w':=h.mono fun _ _ ⟨h3,h4⟩=>⟨by rw[h3,decide_eq_true h1,decide_eq_true h2];rfl,h4⟩
end
section
def uB (k:Nat):List Int:=(List.range k).map fun i:Nat=>(i:Int)+1
theorem wj (n k:Nat):(uB n).contains ((k:Int)+1)=decide (k<n):=by
 rw[Bool.eq_iff_iff]
 simp only[List.contains_iff_mem,uB,List.mem_map,List.mem_range,decide_eq_true_eq]
 constructor
 ·rintro⟨a,h1,h2⟩;omega
 intro h;exact⟨k,h,rfl⟩
theorem sY (m:List (List Int)) (n:Nat) (hn:n≤m.length):∀k,k≤n→ck m (uB n) k=m.take k
 | 0,_=>by simp[ck]
 | k+1,hk=>by
  rw[fJ (by rw[wj];exact decide_eq_true (by omega)),sY m n hn k (by omega),dL m k [] (by omega)]
theorem wC {l:List (List Int)} {size:Int} (h:gV l size=0):cc l=0∧0≤size∧l.length≠8∧size≤40 - cP l:=by
 unfold gV jS at h
 split at h
 ·rename_i h0
  split at h
  ·cases h
  split at h
  ·cases h
  rename_i h1 h2;exact⟨h0,by omega,by omega,by omega⟩
 rename_i h0;exact absurd h h0
theorem jV {l:List (List Int)} (h:cc l=0):l.length≤8∧cP l≤40∧l.any dd=false:=by
 unfold cc at h
 split at h
 ·cases h
 split at h
 ·cases h
 rename_i h1 h2;exact⟨by omega,by omega,by simpa using h2⟩
theorem m7 {l:List (List Int)} (h1:l.length≤8) (h2:cP l≤40) (h3:l.any dd=false):cc l=0:=by
 unfold cc
 rw[if_neg (by omega),if_neg (by rw[h3];decide)]
theorem sp (n:Nat):dd (List.replicate n 0)=false:=by
 unfold dd
 rw[Bool.eq_false_iff]
 intro h
 obtain⟨x,hx,hb⟩:=List.any_eq_true.1 h
 have:=List.eq_of_mem_replicate hx
 subst this
 simp[cW] at hb
theorem vg {l:List (List Int)} {size:Int} (h:gV l size=0):cc (od l size)=0:=by
 obtain⟨h0,h1,h2,h3⟩:=wC h
 obtain⟨h4,h5,h6⟩:=jV h0
 unfold od
 rw[if_pos h]
 refine m7 (by simp;omega) ?_ ?_
 ·rw[iJ];simp;omega
 rw[List.any_append,h6];simp[sp]
theorem xX {P:Program} {t:TypeId} (hu:P.underlying t=some .bool) (a b:Bool) (w:World) (d:Nat):(Op.equalIn (d+1) t (.bool a) (.bool b)).run P w= .ok (a == b) w:=by
 simp[Op.equalIn,run_underlying hu]
theorem zO {P:Program} {t:TypeId} (hu:P.underlying t=some .bool) (a b:Bool) (w:World):(binOp .eql t (.bool a) (.bool b)).run P w= .ok (.bool (a == b)) w:=by
 simp only[binOp,Op.equal,Op.maxDepth,Sem.run_bind]
 rw[show (10000:Nat)=9999+1 from rfl,xX hu]
 rfl
theorem BC {P:Program} {n:NF} {B:Nat} {w0:World} {o:Oper} {env:cM} {H:List a4} {i j:Operand} {t u:TypeId} {a b:Bool} (hu:P.underlying t=some .bool) (hop:o.op= .binOp .eql t i j u) (hi:opv env i=some (.bool a)) (hj:opv env j=some (.bool b)):QS P n B w0 o env H (.bool (a == b)):=by
 intro a' w hf hw
 unfold execOp
 have hgd:(eqGuard .eql t i j (.bool a) (.bool b)).run P w= .ok () w:=by
  unfold eqGuard
  split <;> simp
 simp only[hop,hf.opv hi,hf.opv hj,Sem.run_bind,hgd,Result.andThen_ok,zO hu,Sem.run_pure]
end
section
theorem jF {l:List (List Int)} {ref at_ n:Int} (i:Nat):(put l ref at_ n).length=l.length∧((put l ref at_ n).getD i []).length=(l.getD i []).length:=by
 unfold put blk
 refine⟨by simp,?_⟩
 by_cases h1:(ref - 1).toNat=i
 ·subst h1
  by_cases h2:(ref - 1).toNat<l.length
  ·rw[List.getD_eq_getElem?_getD (l:=l.set _ _),List.getElem?_set_self h2];simp
  rw[List.set_eq_of_length_le (by omega)]
 rw[List.getD_eq_getElem?_getD (l:=l.set _ _),List.getElem?_set_ne h1,←List.getD_eq_getElem?_getD (l:=l)]
theorem pm {l:List (List Int)} (i:Nat) (b:List Int) (hb:b.length=(l.getD i []).length):cP (l.set i b)=cP l:=by
 unfold cP
 induction l generalizing i with
 | nil=>rfl
 | cons a l ih=>
  match i with
  | 0=>simp at hb;simp[hb]
  | i+1=>
   have:=ih i (by simpa using hb)
   simp only[List.set_cons_succ,List.map_cons,List.sum_cons]
   rw[this]
theorem uj {α:Type} (p:α→Bool) (l:List α) (i:Nat) (b:α) (h:l.any p=false) (hb:p b=false):(l.set i b).any p=false:=by
 rw[Bool.eq_false_iff] at *
 intro ha
 obtain⟨x,hx,hp⟩:=List.any_eq_true.1 ha
 rcases List.mem_or_eq_of_mem_set hx with h1 | h1
 ·exact h (List.any_eq_true.2 ⟨x,h1,hp⟩)
 subst h1;exact hb hp
theorem vf {l:List (List Int)} {ref at_ n:Int} (h:pD l ref at_ n=0):cc (uu l ref at_ n)=0:=by
 obtain⟨h0,h1,h2,h3⟩:=xU h
 obtain⟨h4,h5,h6⟩:=jV h0
 rw[h3]
 refine m7 (by rw[(jF 0).1];exact h4) (by unfold put;rw[pm _ _ (by unfold blk;simp)];exact h5) ?_
 unfold put
 refine uj _ _ _ _ h6 ?_
 unfold dd
 refine uj _ _ _ _ ?_ (by simp[h2])
 by_cases h7:(ref - 1).toNat<l.length
 ·rw[Bool.eq_false_iff] at h6⊢
  intro ha
  exact h6 (List.any_eq_true.2 ⟨blk l ref,iX h7,ha⟩)
 unfold blk;rw[List.getD_eq_getElem?_getD,List.getElem?_eq_none (by omega)];rfl
end
section
theorem oX (l:List (List Int)) (refs:List Int) {k m:Nat} (h:k≤m):∃r,ck l refs m=ck l refs k++r:=by
 induction m with
 | zero=>
  obtain rfl:k=0:=by omega
  exact⟨[],by simp⟩
 | succ m ih=>
  rcases Nat.lt_or_ge k (m+1) with h1 | h1
  ·obtain⟨r,hr⟩:=ih (by omega)
   exact⟨r++(if refs.contains ((m:Int)+1) then [l.getD m []] else []),by rw[ck,hr,List.append_assoc]⟩
  obtain rfl:k=m+1:=by omega
  exact⟨[],by simp⟩
theorem yC {l:List (List Int)} {refs:List Int} {r:Int} (hr:r∈refs) (h1:1≤r) (h2:r≤l.length) :
  1≤dC l refs r∧dC l refs r≤(ck l refs l.length).length∧(ck l refs l.length).getD (dC l refs r - 1).toNat []=l.getD (r - 1).toNat []:=by
 obtain⟨k,hk⟩:∃k:Nat,r=(k:Int)+1:=⟨(r - 1).toNat,by omega⟩
 subst hk
 have hc:refs.contains ((k:Int)+1)=true:=by simpa using hr
 have hy:=fJ (l:=l) hc
 obtain⟨q,hq⟩:=oX l refs (k:=k+1) (m:=l.length) (by omega)
 have hN:dC l refs ((k:Int)+1)=(ck l refs k).length+1:=by
  unfold dC
  rw[if_neg (by omega),show ((k:Int)+1).toNat=k+1 from by omega,hy]
  simp
 rw[hN,hq,hy]
 refine⟨by omega,by simp;omega,?_⟩
 rw[show ((ck l refs k).length+1 - 1:Int).toNat=(ck l refs k).length from by omega,show ((k:Int)+1 - 1).toNat=k from by omega]
 simp[List.getD_eq_getElem?_getD]
theorem p9 (l:List (List Int)) (refs:List Int):∀(m j:Nat),j<(ck l refs m).length→∃r∈refs,1≤r∧r≤m∧dC l refs r=j+1
 | 0,j,h=>by simp[ck] at h
 | m+1,j,h=>by
  by_cases hc:refs.contains ((m:Int)+1)=true
  ·rw[fJ hc,List.length_append,List.length_singleton] at h
   rcases Nat.lt_or_ge j (ck l refs m).length with h1 | h1
   ·obtain⟨r,h2,h3,h4,h5⟩:=p9 l refs m j h1
    exact⟨r,h2,h3,by omega,h5⟩
   obtain rfl:j=(ck l refs m).length:=by omega
   refine⟨(m:Int)+1,by simpa using hc,by omega,by omega,?_⟩
   unfold dC
   rw[if_neg (by omega),show ((m:Int)+1).toNat=m+1 from by omega,fJ hc]
   simp
  have hc:refs.contains ((m:Int)+1)=false:=by simpa using hc
  rw[lg hc] at h
  obtain⟨r,h2,h3,h4,h5⟩:=p9 l refs m j h
  exact⟨r,h2,h3,by omega,h5⟩
theorem rI (m:List (List Int)) (T:List Int) (n:Nat) (hn:n≤m.length) (hT:∀j,j<n→T.contains ((j:Int)+1)=true):∀k,k≤n→ck m T k=m.take k
 | 0,_=>by simp[ck]
 | k+1,hk=>by rw[fJ (hT k (by omega)),rI m T n hn hT k (by omega),dL m k [] (by omega)]
theorem mr (l:List (List Int)) (refs:List Int):∀m,m≤l.length→cP (ck l refs m)≤cP (l.take m)
 | 0,_=>by simp[ck,cP]
 | m+1,h=>by
  have ih:=mr l refs m (by omega)
  rw[nO l m (by omega)]
  by_cases hc:refs.contains ((m:Int)+1)=true
  ·rw[fJ hc,iJ];omega
  rw[lg (by simpa using hc)];omega
theorem oe (l:List (List Int)) (refs:List Int):∀m,m≤l.length→∀b∈ck l refs m,b∈l
 | 0,_,b,h=>by simp[ck] at h
 | m+1,hm,b,h=>by
  by_cases hc:refs.contains ((m:Int)+1)=true
  ·rw[fJ hc] at h
   rcases List.mem_append.1 h with h | h
   ·exact oe l refs m (by omega) b h
   simp only[List.mem_singleton] at h;rw[h];exact iX (by omega)
  rw[lg (by simpa using hc)] at h
  exact oe l refs m (by omega) b h
theorem tw {l:List (List Int)} (refs:List Int) (h:cc l=0):cc (ck l refs l.length)=0:=by
 obtain⟨h4,h5,h6⟩:=jV h
 refine m7 (by have:=gI l refs l.length;omega) (by have:=mr l refs l.length (Nat.le_refl _);rw[List.take_length] at this;omega) ?_
 rw[Bool.eq_false_iff] at h6⊢
 intro ha
 obtain⟨x,hx,hp⟩:=List.any_eq_true.1 ha
 exact h6 (List.any_eq_true.2 ⟨x,oe l refs _ (Nat.le_refl _) x hx,hp⟩)
section
variable {l:List (List Int)} {refs:List Int} (h:uL l refs=0)
include h
end
end
end Go.Proofs.YtpacloheigifkaaGreat
