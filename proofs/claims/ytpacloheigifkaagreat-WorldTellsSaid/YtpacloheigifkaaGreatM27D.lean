/- Texts of one proof, one behind the other: lemmas alone. -/
import Derived.Test.YtpacloheigifkaaGreatM18D
import Derived.Test.YtpacloheigifkaaGreatM14D
import Derived.Test.YtpacloheigifkaaGreatM25D

namespace Go.Proofs.YtpacloheigifkaaGreat
open Go.RowKit
section
def FH (l:List (List Int)) (size:Int):Int:=if cK l=0∧size<0 then 3 else cK l
def Fu (l:List (List Int)) (refs:List Int) (k:Nat):Int:=if cK l=0 then (if (refs.take k).any (Fb l.length) then 3 else 0) else cK l
theorem wO {l:List (List Int)} {size:Int} (h:fD l size=0):0≤size∧size≤40 - du l:=by
 unfold fD at h
 split at h
 ·cases h
 split at h
 ·cases h
 rename_i h1 h2;omega
theorem zT {l:List (List Int)} {ref at_ n:Int} (h:rh l ref at_ n=0):cK l=0∧mU l ref at_=0∧cu n=true∧ws l ref at_ n=put l ref at_ n:=by
 unfold ws
 rw[if_pos h]
 unfold rh Ah at h
 split at h
 ·rename_i h1
  split at h
  ·rename_i h2
   split at h
   ·rename_i h3;exact⟨h1,h2,h3,rfl⟩
   cases h
  rename_i h2;exact absurd h h2
 rename_i h1;exact absurd h h1
theorem Ey {P:Program} {f:FuncId} {args:Array Value} {w:World} {l want:List (List Int)} {e x:Int} (h:Calls P f args w fun e' w'=>e'= .returned (.bool (decide (e=x) && decide (l=if x=0 then want else [])))∧Below w.heap.size w w') (h1:e=x) (h2:l=if x=0 then want else []) :
  Calls P f args w fun e' w'=>e'= .returned (.bool true)∧Below w.heap.size w w':=h.mono fun _ _ ⟨h3,h4⟩=>⟨by rw[h3,decide_eq_true h1,decide_eq_true h2];rfl,h4⟩
end
section
def wE (k:Nat):List Int:=(List.range k).map fun i:Nat=>(i:Int)+1
theorem yb (n k:Nat):(wE n).contains ((k:Int)+1)=decide (k<n):=by
 rw[Bool.eq_iff_iff]
 simp only[List.contains_iff_mem,wE,List.mem_map,List.mem_range,decide_eq_true_eq]
 constructor
 ·rintro⟨a,h1,h2⟩;omega
 intro h;exact⟨k,h,rfl⟩
theorem uV (m:List (List Int)) (n:Nat) (hn:n≤m.length):∀k,k≤n→jt m (wE n) k=m.take k
 | 0,_=>by simp[jt]
 | k+1,hk=>by
  rw[wS (by rw[yb];exact decide_eq_true (by omega)),uV m n hn k (by omega),e9 m k [] (by omega)]
theorem yw {l:List (List Int)} {size:Int} (h:iL l size=0):cK l=0∧0≤size∧l.length≠8∧size≤40 - du l:=by
 unfold iL fD at h
 split at h
 ·rename_i h0
  split at h
  ·cases h
  split at h
  ·cases h
  rename_i h1 h2;exact⟨h0,by omega,by omega,by omega⟩
 rename_i h0;exact absurd h h0
theorem kO {l:List (List Int)} (h:cK l=0):l.length≤8∧du l≤40∧l.any dz=false:=by
 unfold cK at h
 split at h
 ·cases h
 split at h
 ·cases h
 rename_i h1 h2;exact⟨by omega,by omega,by simpa using h2⟩
theorem sc {l:List (List Int)} (h1:l.length≤8) (h2:du l≤40) (h3:l.any dz=false):cK l=0:=by
 unfold cK
 rw[if_neg (by omega),if_neg (by rw[h3];decide)]
theorem um (n:Nat):dz (List.replicate n 0)=false:=by
 unfold dz
 rw[Bool.eq_false_iff]
 intro h
 obtain⟨x,hx,hb⟩:=List.any_eq_true.1 h
 have:=List.eq_of_mem_replicate hx
 subst this
 simp[cu] at hb
theorem xg {l:List (List Int)} {size:Int} (h:iL l size=0):cK (pV l size)=0:=by
 obtain⟨h0,h1,h2,h3⟩:=yw h
 obtain⟨h4,h5,h6⟩:=kO h0
 unfold pV
 rw[if_pos h]
 refine sc (by simp;omega) ?_ ?_
 ·rw[kP];simp;omega
 rw[List.any_append,h6];simp[um]
theorem zX {P:Program} {t:TypeId} (hu:P.underlying t=some .bool) (a b:Bool) (w:World) (d:Nat):(Op.equalIn (d+1) t (.bool a) (.bool b)).run P w= .ok (a == b) w:=by
 simp[Op.equalIn,run_underlying hu]
theorem BR {P:Program} {t:TypeId} (hu:P.underlying t=some .bool) (a b:Bool) (w:World):(binOp .eql t (.bool a) (.bool b)).run P w= .ok (.bool (a == b)) w:=by
 simp only[binOp,Op.equal,Op.maxDepth,Sem.run_bind]
 rw[show (10000:Nat)=9999+1 from rfl,zX hu]
 rfl
theorem Da {P:Program} {n:NF} {B:Nat} {w0:World} {o:Oper} {env:de} {H:List bj} {i j:Operand} {t u:TypeId} {a b:Bool} (hu:P.underlying t=some .bool) (hop:o.op= .binOp .eql t i j u) (hi:opv env i=some (.bool a)) (hj:opv env j=some (.bool b)):QS P n B w0 o env H (.bool (a == b)):=by
 intro a' w hf hw
 unfold execOp
 have hgd:(eqGuard .eql t i j (.bool a) (.bool b)).run P w= .ok () w:=by
  unfold eqGuard
  split <;> simp
 simp only[hop,hf.opv hi,hf.opv hj,Sem.run_bind,hgd,Result.andThen_ok,BR hu,Sem.run_pure]
end
section
theorem jK {l:List (List Int)} {ref at_ n:Int} (i:Nat):(put l ref at_ n).length=l.length∧((put l ref at_ n).getD i []).length=(l.getD i []).length:=by
 unfold put blk
 refine⟨by simp,?_⟩
 by_cases h1:(ref - 1).toNat=i
 ·subst h1
  by_cases h2:(ref - 1).toNat<l.length
  ·rw[List.getD_eq_getElem?_getD (l:=l.set _ _),List.getElem?_set_self h2];simp
  rw[List.set_eq_of_length_le (by omega)]
 rw[List.getD_eq_getElem?_getD (l:=l.set _ _),List.getElem?_set_ne h1,←List.getD_eq_getElem?_getD (l:=l)]
theorem qT {l:List (List Int)} (i:Nat) (b:List Int) (hb:b.length=(l.getD i []).length):du (l.set i b)=du l:=by
 unfold du
 induction l generalizing i with
 | nil=>rfl
 | cons a l ih=>
  match i with
  | 0=>simp at hb;simp[hb]
  | i+1=>
   have:=ih i (by simpa using hb)
   simp only[List.set_cons_succ,List.map_cons,List.sum_cons]
   rw[this]
theorem wh {α:Type} (p:α→Bool) (l:List α) (i:Nat) (b:α) (h:l.any p=false) (hb:p b=false):(l.set i b).any p=false:=by
 rw[Bool.eq_false_iff] at *
 intro ha
 obtain⟨x,hx,hp⟩:=List.any_eq_true.1 ha
 rcases List.mem_or_eq_of_mem_set hx with h1 | h1
 ·exact h (List.any_eq_true.2 ⟨x,h1,hp⟩)
 subst h1;exact hb hp
theorem xe {l:List (List Int)} {ref at_ n:Int} (h:rh l ref at_ n=0):cK (ws l ref at_ n)=0:=by
 obtain⟨h0,h1,h2,h3⟩:=zT h
 obtain⟨h4,h5,h6⟩:=kO h0
 rw[h3]
 refine sc (by rw[(jK 0).1];exact h4) (by unfold put;rw[qT _ _ (by unfold blk;simp)];exact h5) ?_
 unfold put
 refine wh _ _ _ _ h6 ?_
 unfold dz
 refine wh _ _ _ _ ?_ (by simp[h2])
 by_cases h7:(ref - 1).toNat<l.length
 ·rw[Bool.eq_false_iff] at h6⊢
  intro ha
  exact h6 (List.any_eq_true.2 ⟨blk l ref,lR h7,ha⟩)
 unfold blk;rw[List.getD_eq_getElem?_getD,List.getElem?_eq_none (by omega)];rfl
end
end Go.Proofs.YtpacloheigifkaaGreat
