/- Texts of one proof, one behind the other: lemmas alone. -/
import Derived.Test.YtpacloheigifkaaGreatM18A
import Derived.Test.YtpacloheigifkaaGreatM14A
import Derived.Test.YtpacloheigifkaaGreatM25A

namespace Go.Proofs.YtpacloheigifkaaGreat
open Go.RowKit
section
def DX (l:List (List Int)) (size:Int):Int:=if cC l=0∧size<0 then 3 else cC l
def DM (l:List (List Int)) (refs:List Int) (k:Nat):Int:=if cC l=0 then (if (refs.take k).any (Dw l.length) then 3 else 0) else cC l
theorem vr {l:List (List Int)} {size:Int} (h:fg l size=0):0≤size∧size≤40 - de l:=by
 unfold fg at h
 split at h
 ·cases h
 split at h
 ·cases h
 rename_i h1 h2;omega
theorem yg {l:List (List Int)} {ref at_ n:Int} (h:qs l ref at_ n=0):cC l=0∧mg l ref at_=0∧cH n=true∧u9 l ref at_ n=put l ref at_ n:=by
 unfold u9
 rw[if_pos h]
 unfold qs yu at h
 split at h
 ·rename_i h1
  split at h
  ·rename_i h2
   split at h
   ·rename_i h3;exact⟨h1,h2,h3,rfl⟩
   cases h
  rename_i h2;exact absurd h h2
 rename_i h1;exact absurd h h1
theorem C0 {P:Program} {f:FuncId} {args:Array Value} {w:World} {l want:List (List Int)} {e x:Int} (h:Calls P f args w fun e' w'=>e'= .returned (.bool (decide (e=x) && decide (l=if x=0 then want else [])))∧Below w.heap.size w w') (h1:e=x) (h2:l=if x=0 then want else []) :
  Calls P f args w fun e' w'=>e'= .returned (.bool true)∧Below w.heap.size w w':=h.mono fun _ _ ⟨h3,h4⟩=>⟨by rw[h3,decide_eq_true h1,decide_eq_true h2];rfl,h4⟩
end
section
def vi (k:Nat):List Int:=(List.range k).map fun i:Nat=>(i:Int)+1
theorem wH (n k:Nat):(vi n).contains ((k:Int)+1)=decide (k<n):=by
 rw[Bool.eq_iff_iff]
 simp only[List.contains_iff_mem,vi,List.mem_map,List.mem_range,decide_eq_true_eq]
 constructor
 ·rintro⟨a,h1,h2⟩;omega
 intro h;exact⟨k,h,rfl⟩
theorem tL (m:List (List Int)) (n:Nat) (hn:n≤m.length):∀k,k≤n→i7 m (vi n) k=m.take k
 | 0,_=>by simp[i7]
 | k+1,hk=>by
  rw[vu (by rw[wH];exact decide_eq_true (by omega)),tL m n hn k (by omega),fb m k [] (by omega)]
theorem wY {l:List (List Int)} {size:Int} (h:is l size=0):cC l=0∧0≤size∧l.length≠8∧size≤40 - de l:=by
 unfold is fg at h
 split at h
 ·rename_i h0
  split at h
  ·cases h
  split at h
  ·cases h
  rename_i h1 h2;exact⟨h0,by omega,by omega,by omega⟩
 rename_i h0;exact absurd h h0
theorem kb {l:List (List Int)} (h:cC l=0):l.length≤8∧de l≤40∧l.any dk=false:=by
 unfold cC at h
 split at h
 ·cases h
 split at h
 ·cases h
 rename_i h1 h2;exact⟨by omega,by omega,by simpa using h2⟩
theorem ra {l:List (List Int)} (h1:l.length≤8) (h2:de l≤40) (h3:l.any dk=false):cC l=0:=by
 unfold cC
 rw[if_neg (by omega),if_neg (by rw[h3];decide)]
theorem sX (n:Nat):dk (List.replicate n 0)=false:=by
 unfold dk
 rw[Bool.eq_false_iff]
 intro h
 obtain⟨x,hx,hb⟩:=List.any_eq_true.1 h
 have:=List.eq_of_mem_replicate hx
 subst this
 simp[cH] at hb
theorem vP {l:List (List Int)} {size:Int} (h:is l size=0):cC (o6 l size)=0:=by
 obtain⟨h0,h1,h2,h3⟩:=wY h
 obtain⟨h4,h5,h6⟩:=kb h0
 unfold o6
 rw[if_pos h]
 refine ra (by simp;omega) ?_ ?_
 ·rw[kc];simp;omega
 rw[List.any_append,h6];simp[sX]
theorem yk {P:Program} {t:TypeId} (hu:P.underlying t=some .bool) (a b:Bool) (w:World) (d:Nat):(Op.equalIn (d+1) t (.bool a) (.bool b)).run P w= .ok (a == b) w:=by
 simp[Op.equalIn,run_underlying hu]
theorem zR {P:Program} {t:TypeId} (hu:P.underlying t=some .bool) (a b:Bool) (w:World):(binOp .eql t (.bool a) (.bool b)).run P w= .ok (.bool (a == b)) w:=by
 simp only[binOp,Op.equal,Op.maxDepth,Sem.run_bind]
 rw[show (10000:Nat)=9999+1 from rfl,yk hu]
 rfl
theorem Bz {P:Program} {n:NF} {B:Nat} {w0:World} {o:Oper} {env:cU} {H:List bj} {i j:Operand} {t u:TypeId} {a b:Bool} (hu:P.underlying t=some .bool) (hop:o.op= .binOp .eql t i j u) (hi:opv env i=some (.bool a)) (hj:opv env j=some (.bool b)):QS P n B w0 o env H (.bool (a == b)):=by
 intro a' w hf hw
 unfold execOp
 have hgd:(eqGuard .eql t i j (.bool a) (.bool b)).run P w= .ok () w:=by
  unfold eqGuard
  split <;> simp
 simp only[hop,hf.opv hi,hf.opv hj,Sem.run_bind,hgd,Result.andThen_ok,zR hu,Sem.run_pure]
end
section
theorem jo {l:List (List Int)} {ref at_ n:Int} (i:Nat):(put l ref at_ n).length=l.length∧((put l ref at_ n).getD i []).length=(l.getD i []).length:=by
 unfold put blk
 refine⟨by simp,?_⟩
 by_cases h1:(ref - 1).toNat=i
 ·subst h1
  by_cases h2:(ref - 1).toNat<l.length
  ·rw[List.getD_eq_getElem?_getD (l:=l.set _ _),List.getElem?_set_self h2];simp
  rw[List.set_eq_of_length_le (by omega)]
 rw[List.getD_eq_getElem?_getD (l:=l.set _ _),List.getElem?_set_ne h1,←List.getD_eq_getElem?_getD (l:=l)]
theorem qf {l:List (List Int)} (i:Nat) (b:List Int) (hb:b.length=(l.getD i []).length):de (l.set i b)=de l:=by
 unfold de
 induction l generalizing i with
 | nil=>rfl
 | cons a l ih=>
  match i with
  | 0=>simp at hb;simp[hb]
  | i+1=>
   have:=ih i (by simpa using hb)
   simp only[List.set_cons_succ,List.map_cons,List.sum_cons]
   rw[this]
theorem uX {α:Type} (p:α→Bool) (l:List α) (i:Nat) (b:α) (h:l.any p=false) (hb:p b=false):(l.set i b).any p=false:=by
 rw[Bool.eq_false_iff] at *
 intro ha
 obtain⟨x,hx,hp⟩:=List.any_eq_true.1 ha
 rcases List.mem_or_eq_of_mem_set hx with h1 | h1
 ·exact h (List.any_eq_true.2 ⟨x,h1,hp⟩)
 subst h1;exact hb hp
theorem vO {l:List (List Int)} {ref at_ n:Int} (h:qs l ref at_ n=0):cC (u9 l ref at_ n)=0:=by
 obtain⟨h0,h1,h2,h3⟩:=yg h
 obtain⟨h4,h5,h6⟩:=kb h0
 rw[h3]
 refine ra (by rw[(jo 0).1];exact h4) (by unfold put;rw[qf _ _ (by unfold blk;simp)];exact h5) ?_
 unfold put
 refine uX _ _ _ _ h6 ?_
 unfold dk
 refine uX _ _ _ _ ?_ (by simp[h2])
 by_cases h7:(ref - 1).toNat<l.length
 ·rw[Bool.eq_false_iff] at h6⊢
  intro ha
  exact h6 (List.any_eq_true.2 ⟨blk l ref,lm h7,ha⟩)
 unfold blk;rw[List.getD_eq_getElem?_getD,List.getElem?_eq_none (by omega)];rfl
end
end Go.Proofs.YtpacloheigifkaaGreat
