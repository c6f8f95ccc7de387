/- Texts of one proof, one behind the other: lemmas alone. -/
import Derived.Test.YtpacloheigifkaaGreatM0I
import Derived.Test.YtpacloheigifkaaGreatM18I
import Derived.Test.YtpacloheigifkaaGreatM14I
import Derived.Test.YtpacloheigifkaaGreatM25I

namespace Go.Proofs.YtpacloheigifkaaGreat
open Go.RowKit
section
theorem Fy {k:Nat} (h:k≤9223372036854775807):be (k:Int):=by unfold be;omega
set_option maxRecDepth 100000 in
theorem G7 (A Ar:Option Addr) (c cr:Nat) (l:List (List Int)) (refs:List Int) (w:World) (hs:Sl w (.slice A l.length c) l) (hrs:Sl w (.slice Ar refs.length cr) refs) (hfit:qP l) (hin:∀r∈refs,0≤r∧r≤l.length) (hby:refs.length*8≤140737488355328) :
  Calls Tryz.prog 126 #[.slice A l.length c,.slice Ar refs.length cr] w fun e w'=> ∃p:(Option Addr×Nat)×Option Addr×Nat,True∧e= .returned (.tuple #[.slice p.1.1 (dI l refs l.length).length p.1.2,.slice p.2.1 (refs.map (ft l refs)).length p.2.2])∧
   Cw w.heap.size w [ap (.slice p.2.1 (refs.map (ft l refs)).length p.2.2) (refs.map (ft l refs)),ap (.slice p.1.1 (dI l refs l.length).length p.1.2) (dI l refs l.length)] w':=by
 have b1:=cn hs
 have b2:=hfit.1
 have b3:=cn hrs
 refine enter Tryz.func126 rfl Tryz.ntmps126 rfl ?_
 refine ac<|aa<|rn 2 [0,1] rfl<|ae<|ac<|aa<|rn 1 [0,1,6] rfl<|ae<|ac<|aa<|rn 1 [0,1,6,13] rfl<|af (aM bF rfl rfl) rfl rfl<|af (br rfl rfl rfl (by omega)) rfl rfl<|ag (lm (α:=Int) (m:=l.length+1) 0 ah kQ rfl (fun w=>⟨⟨rfl,by simp[be]⟩,fun _ h=>h⟩) rfl (by omega) rfl rfl rfl) rfl rfl (fun gis _=>?_)
 refine rn 1 [0,1,6,7] rfl<|ae<|ac<|ac<|aa<|rn 1 [1,6,7,17] rfl<|af (aM bF rfl rfl) rfl rfl<|rn 1 [1,6,7,17,18,19] rfl<|ae<|dA (fun w h=>Cw.nilO (List Int) h) ?_
 refine aB (bI (fun g:Nat×Option Addr×Nat=>g.1≤l.length) (fun g=>l.length - g.1) (fun g=> [(1,.slice Ar refs.length cr),(6,.slice g.2.1 (dI l refs g.1).length g.2.2),(7,.slice (some ⟨gis,0,none⟩) (l.length+1) (l.length+1)),(17,.slice A l.length c),(18,.int .i64 (l.length:Int)),(19,.int .i64 (g.1:Int))]) (fun g=> [ap (.slice g.2.1 (dI l refs g.1).length g.2.2) (dI l refs g.1),ap (.slice (some ⟨gis,0,none⟩) (l.length+1) (l.length+1)) (ju l refs g.1)]) (0,none,0) (Nat.zero_le _) ⟨rfl,rfl,rfl,rfl,rfl,rfl,trivial⟩ me ?_)
 rintro⟨k,A1,c1⟩ hk'
 try dsimp only
 have hk:k≤l.length:=hk'
 have hkl:=ma l refs k
 refine ac<|aa<|rn 1 [1,6,7,17,18,19,20] rfl<|ae<|ac<|aw rfl (fun h=>?_) (fun h=>?_)
 ·have hlt:k<l.length:=by omega
  obtain⟨A2,c2,hb,hc2⟩:=hs.sub hlt
  have hfk:=hfit.at_ k
  refine ar (am ?_)
  refine ac<|aB<|ac<|aa<|rn 1 [1,6,7,17,18,19,21] rfl<|af (aQ bF cC (.ro hs) (by omega) rfl rfl rfl) rfl rfl<|af (a8 (hc2 _) rfl rfl aW) rfl rfl<|rn 2 [1,6,7,8,9,17,18,19] rfl<|ae<|ac<|aa<|rn 2 [1,6,7,8,9,17,18,19,24,25] rfl<|af (br rfl rfl rfl (by omega)) rfl rfl<|ag (aY rfl rfl rfl Tryz.call155 ((fun w hw=>fm ((fun w hw=>pN _ refs _ w (hw.ro hrs)) w hw)))) rfl rfl (fun _ _=>?_)
  refine ae<|cg rfl (fun hct=>?_) (fun hct=>?_)
  ·refine ac<|aa<|rn 2 [1,7,8,17,18,19,28,29] rfl<|ag (fR rfl rfl rfl jS (fun w hw=>iA _ _ w (hw.ro hb) (by omega))) rfl rfl (fun⟨A3,c3⟩ _=>?_)
   try dsimp only
   refine ag (bu (cs:= [_]) bF cC j8 rfl rfl rfl rfl rfl) rfl rfl (fun g1 _=>?_)
   refine ag (dJ (α:=List Int) (bytes:=24) (l.getD k []) [ap _ (l.getD k [])] (sg hct) bF (cU lN) rfl (yR .c .a .a) vT (by omega) (by omega) rfl rfl rfl) rfl rfl (fun⟨A4,c4⟩ _=>?_)
   try dsimp only
   refine rn 1 [1,6,7,8,17,18,19] rfl<|ae<|aa<|rn 2 [1,6,7,17,18,19,33,34] rfl<|af (br rfl rfl rfl (by omega)) rfl rfl<|rn 1 [1,6,7,17,18,19,33,35,36] rfl<|af (aM bF rfl rfl) rfl rfl ?_
   have hkl2:=ma l refs (k+1)
   refine af (aQ (k:=k+1) ah aF (.own (oO _ _ _) .b) (by omega) rfl rfl rfl) rfl rfl<|ag (F7 (k:=k+1) (C6 hct) .b (by omega) (Fy (by omega)) aF rfl rfl rfl) rfl rfl (fun _ _=>?_)
   refine bC (aH (am ?_))
   refine aa<|af (br rfl rfl rfl (by omega)) rfl rfl<|rn 1 [1,6,7,17,18,19] rfl<|a5 (k+1,A4,c4) (by show k+1≤_;omega) (by show _ - _<_ - _;omega) ⟨rfl,rfl,rfl,rfl,rfl,rfl,trivial⟩ (fun _ h=>h.perm (List.Perm.swap ..))
  refine ar (aH (am ?_))
  refine aa<|af (br rfl rfl rfl (by omega)) rfl rfl<|rn 1 [1,6,7,17,18,19] rfl ?_
  rw[←Bh hct,←EM hct]
  refine a5 (k+1,A1,c1) (by show k+1≤_;omega) (by show _ - _<_ - _;omega) ⟨rfl,rfl,rfl,rfl,rfl,rfl,trivial⟩ me
 obtain rfl:k=l.length:=by omega
 refine bz (aD (aD (bO (am ?_))))
 refine ac<|aa<|rn 1 [1,6,7,10] rfl<|ae<|ac<|ac<|aa<|rn 1 [6,7,10,40] rfl<|af (aM ah rfl rfl) rfl rfl<|rn 1 [6,7,10,40,41,42] rfl<|ae<|dA (fun w h=>Cw.nilO Int h) ?_
 refine aB (bI (fun g:Nat×Option Addr×Nat=>g.1≤refs.length) (fun g=>refs.length - g.1) (fun g=> [(6,.slice A1 (dI l refs l.length).length c1),(7,.slice (some ⟨gis,0,none⟩) (l.length+1) (l.length+1)),(10,.slice g.2.1 ((refs.map (ft l refs)).take g.1).length g.2.2),(40,.slice Ar refs.length cr),(41,.int .i64 (refs.length:Int)),(42,.int .i64 (g.1:Int))]) (fun g=> [ap (.slice g.2.1 ((refs.map (ft l refs)).take g.1).length g.2.2) ((refs.map (ft l refs)).take g.1),ap (.slice A1 (dI l refs l.length).length c1) (dI l refs l.length),ap (.slice (some ⟨gis,0,none⟩) (l.length+1) (l.length+1)) (ju l refs l.length)]) (0,none,0) (Nat.zero_le _) ⟨rfl,rfl,rfl,rfl,rfl,rfl,trivial⟩ me ?_)
 rintro⟨i,A5,c5⟩ hi'
 try dsimp only
 have hi:i≤refs.length:=hi'
 refine ac<|aa<|rn 1 [6,7,10,40,41,42,43] rfl<|ae<|ac<|aw rfl (fun h2=>?_) (fun h2=>?_)
 ·have hlt:i<refs.length:=by omega
  have hm:refs.getD i 0∈refs:=lp hlt
  have hr:=hin _ hm
  have hat:=EN hm hr.1 hr.2
  have hval:(refs.map (ft l refs)).getD i 0=ft l refs (refs.getD i 0):=by
   rw[List.getD_eq_getElem?_getD,List.getElem?_map,List.getElem?_eq_getElem hlt,List.getD_eq_getElem?_getD,List.getElem?_eq_getElem hlt];rfl
  have hsn:(refs.map (ft l refs)).take (i+1)=(refs.map (ft l refs)).take i++ [ft l refs (refs.getD i 0)]:=by
   rw[fx _ i 0 (by rw[List.length_map];exact hlt),hval]
  have hlen:((refs.map (ft l refs)).take i).length≤i:=by rw[List.length_take];omega
  have hir:be (ft l refs (refs.getD i 0)):=by
   unfold ft
   split
   ·simp[be]
   have:=ma l refs (refs.getD i 0).toNat
   unfold be
   omega
  refine ar (am ?_)
  refine ac<|aB<|ac<|aa<|af (aQ ah aF (.ro hrs) (by omega) rfl rfl rfl) rfl rfl<|af (a8 (SF.int (.ro hrs) (by omega)) rfl rfl au) rfl rfl<|rn 1 [6,7,10,12,40,41,42] rfl<|ae<|aa<|rn 3 [6,7,40,41,42,46,47,48] rfl<|af (fy ah aF (.own (oO _ _ _) .c) (by omega) rfl rfl rfl) rfl rfl<|af (a8 (SF.int (.own (oO _ _ _) .c) (by omega)) rfl rfl au) rfl rfl<|ag (bu (cs:= [_]) ah aF a6 rfl rfl rfl rfl rfl) rfl rfl (fun g2 _=>?_)
  rw[hat]
  refine ag (dJ (α:=Int) (bytes:=8) (ft l refs (refs.getD i 0)) [] hsn ah (cU kQ) rfl (fV .b .a) (tC hir) (by omega) (by omega) rfl rfl rfl) rfl rfl (fun⟨A6,c6⟩ _=>?_)
  try dsimp only
  refine rn 1 [6,7,10,40,41,42] rfl<|bC (aH (am ?_))
  refine aa<|af (br rfl rfl rfl (by omega)) rfl rfl<|rn 1 [6,7,10,40,41,42] rfl<|a5 (i+1,A6,c6) (by show i+1≤_;omega) (by show _ - _<_ - _;omega) ⟨rfl,rfl,rfl,rfl,rfl,rfl,trivial⟩ me
 obtain rfl:i=refs.length:=by omega
 rw[show (refs.map (ft l refs)).take refs.length=refs.map (ft l refs) from List.take_of_length_le (by simp)]
 refine bz (aD (aD (bO (am ?_))))
 refine ac<|aa<|rn 4 [4,5] rfl<|ae<|aq<|bt Tryz.results126 (an rfl) (an rfl) ?_
 intro w hw
 exact⟨((A1,c1),(A5,c5)),trivial,rfl,Cw.tail (hw.perm (cZ.s (cZ.s cZ.a)))⟩
end
section
def Ig (l:List (List Int)) (size:Int):Int:=if cI l=0∧size<0 then 3 else cI l
def H6 (l:List (List Int)) (refs:List Int) (k:Nat):Int:=if cI l=0 then (if (refs.take k).any (HQ l.length) then 3 else 0) else cI l
theorem Cu {l:List (List Int)} {ref at_ n:Int} (h:s8 l ref at_ n=0):cI l=0∧nQ l ref at_=0∧cF n=true∧yz l ref at_ n=put l ref at_ n:=by
 unfold yz
 rw[if_pos h]
 unfold s8 CL at h
 split at h
 ·rename_i h1
  split at h
  ·rename_i h2
   split at h
   ·rename_i h3;exact⟨h1,h2,h3,rfl⟩
   cases h
  rename_i h2;exact absurd h h2
 rename_i h1;exact absurd h h1
theorem Hi {P:Program} {f:FuncId} {args:Array Value} {w:World} {l want:List (List Int)} {e x:Int} (h:Calls P f args w fun e' w'=>e'= .returned (.bool (decide (e=x) && decide (l=if x=0 then want else [])))∧Below w.heap.size w w') (h1:e=x) (h2:l=if x=0 then want else []) :
  Calls P f args w fun e' w'=>e'= .returned (.bool true)∧Below w.heap.size w w':=h.mono fun _ _ ⟨h3,h4⟩=>⟨by rw[h3,decide_eq_true h1,decide_eq_true h2];rfl,h4⟩
end
section
def yL (k:Nat):List Int:=(List.range k).map fun i:Nat=>(i:Int)+1
theorem AA (n k:Nat):(yL n).contains ((k:Int)+1)=decide (k<n):=by
 rw[Bool.eq_iff_iff]
 simp only[List.contains_iff_mem,yL,List.mem_map,List.mem_range,decide_eq_true_eq]
 constructor
 ·rintro⟨a,h1,h2⟩;omega
 intro h;exact⟨k,h,rfl⟩
theorem xa (m:List (List Int)) (n:Nat) (hn:n≤m.length):∀k,k≤n→dI m (yL n) k=m.take k
 | 0,_=>by simp[dI]
 | k+1,hk=>by
  rw[sg (by rw[AA];exact decide_eq_true (by omega)),xa m n hn k (by omega),fx m k [] (by omega)]
theorem AY {l:List (List Int)} {size:Int} (h:jh l size=0):cI l=0∧0≤size∧l.length≠8∧size≤40 - dg l:=by
 unfold jh kM at h
 split at h
 ·rename_i h0
  split at h
  ·cases h
  split at h
  ·cases h
  rename_i h1 h2;exact⟨h0,by omega,by omega,by omega⟩
 rename_i h0;exact absurd h h0
theorem nv {l:List (List Int)} (h:cI l=0):l.length≤8∧dg l≤40∧l.any dk=false:=by
 unfold cI at h
 split at h
 ·cases h
 split at h
 ·cases h
 rename_i h1 h2;exact⟨by omega,by omega,by simpa using h2⟩
theorem uh {l:List (List Int)} (h1:l.length≤8) (h2:dg l≤40) (h3:l.any dk=false):cI l=0:=by
 unfold cI
 rw[if_neg (by omega),if_neg (by rw[h3];decide)]
theorem wz (n:Nat):dk (List.replicate n 0)=false:=by
 unfold dk
 rw[Bool.eq_false_iff]
 intro h
 obtain⟨x,hx,hb⟩:=List.any_eq_true.1 h
 have:=List.eq_of_mem_replicate hx
 subst this
 simp[cF] at hb
theorem zo {l:List (List Int)} {size:Int} (h:jh l size=0):cI (rh l size)=0:=by
 obtain⟨h0,h1,h2,h3⟩:=AY h
 obtain⟨h4,h5,h6⟩:=nv h0
 unfold rh
 rw[if_pos h]
 refine uh (by simp;omega) ?_ ?_
 ·rw[lC];simp;omega
 rw[List.any_append,h6];simp[wz]
theorem Cx {P:Program} {t:TypeId} (hu:P.underlying t=some .bool) (a b:Bool) (w:World) (d:Nat):(Op.equalIn (d+1) t (.bool a) (.bool b)).run P w= .ok (a == b) w:=by
 simp[Op.equalIn,run_underlying hu]
theorem Eg {P:Program} {t:TypeId} (hu:P.underlying t=some .bool) (a b:Bool) (w:World):(binOp .eql t (.bool a) (.bool b)).run P w= .ok (.bool (a == b)) w:=by
 simp only[binOp,Op.equal,Op.maxDepth,Sem.run_bind]
 rw[show (10000:Nat)=9999+1 from rfl,Cx hu]
 rfl
theorem AI {P:Program} {n:NF} {B:Nat} {w0:World} {o:Oper} {env:cK} {H:List a7} {i j:Operand} {t u:TypeId} {a b:Bool} (hu:P.underlying t=some .bool) (hop:o.op= .binOp .eql t i j u) (hi:opv env i=some (.bool a)) (hj:opv env j=some (.bool b)):QS P n B w0 o env H (.bool (a == b)):=by
 intro a' w hf hw
 unfold execOp
 have hgd:(eqGuard .eql t i j (.bool a) (.bool b)).run P w= .ok () w:=by
  unfold eqGuard
  split <;> simp
 simp only[hop,hf.opv hi,hf.opv hj,Sem.run_bind,hgd,Result.andThen_ok,Eg hu,Sem.run_pure]
end
section
theorem kr {l:List (List Int)} {ref at_ n:Int} (i:Nat):(put l ref at_ n).length=l.length∧((put l ref at_ n).getD i []).length=(l.getD i []).length:=by
 unfold put blk
 refine⟨by simp,?_⟩
 by_cases h1:(ref - 1).toNat=i
 ·subst h1
  by_cases h2:(ref - 1).toNat<l.length
  ·rw[List.getD_eq_getElem?_getD (l:=l.set _ _),List.getElem?_set_self h2];simp
  rw[List.set_eq_of_length_le (by omega)]
 rw[List.getD_eq_getElem?_getD (l:=l.set _ _),List.getElem?_set_ne h1,←List.getD_eq_getElem?_getD (l:=l)]
theorem sJ {l:List (List Int)} (i:Nat) (b:List Int) (hb:b.length=(l.getD i []).length):dg (l.set i b)=dg l:=by
 unfold dg
 induction l generalizing i with
 | nil=>rfl
 | cons a l ih=>
  match i with
  | 0=>simp at hb;simp[hb]
  | i+1=>
   have:=ih i (by simpa using hb)
   simp only[List.set_cons_succ,List.map_cons,List.sum_cons]
   rw[this]
theorem yn {α:Type} (p:α→Bool) (l:List α) (i:Nat) (b:α) (h:l.any p=false) (hb:p b=false):(l.set i b).any p=false:=by
 rw[Bool.eq_false_iff] at *
 intro ha
 obtain⟨x,hx,hp⟩:=List.any_eq_true.1 ha
 rcases List.mem_or_eq_of_mem_set hx with h1 | h1
 ·exact h (List.any_eq_true.2 ⟨x,h1,hp⟩)
 subst h1;exact hb hp
theorem zn {l:List (List Int)} {ref at_ n:Int} (h:s8 l ref at_ n=0):cI (yz l ref at_ n)=0:=by
 obtain⟨h0,h1,h2,h3⟩:=Cu h
 obtain⟨h4,h5,h6⟩:=nv h0
 rw[h3]
 refine uh (by rw[(kr 0).1];exact h4) (by unfold put;rw[sJ _ _ (by unfold blk;simp)];exact h5) ?_
 unfold put
 refine yn _ _ _ _ h6 ?_
 unfold dk
 refine yn _ _ _ _ ?_ (by simp[h2])
 by_cases h7:(ref - 1).toNat<l.length
 ·rw[Bool.eq_false_iff] at h6⊢
  intro ha
  exact h6 (List.any_eq_true.2 ⟨blk l ref,lp h7,ha⟩)
 unfold blk;rw[List.getD_eq_getElem?_getD,List.getElem?_eq_none (by omega)];rfl
end
end Go.Proofs.YtpacloheigifkaaGreat
