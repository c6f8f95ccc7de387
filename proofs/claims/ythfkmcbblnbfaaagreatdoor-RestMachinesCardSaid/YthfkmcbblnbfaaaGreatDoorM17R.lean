/- Lemmas of one proof. -/
import Derived.Test.YthfkmcbblnbfaaaGreatDoorM0R
import Derived.Test.YthfkmcbblnbfaaaGreatDoorM14R
import Derived.Test.YthfkmcbblnbfaaaGreatDoorM7R

namespace Go.Proofs.YthfkmcbblnbfaaaGreatDoor
set_option maxRecDepth 100000
set_option maxHeartbeats 16000000
open Go.RowKit
section
def gK (w:World) (g:Nat) (xs:List Int):Prop:=w.heap[g]? =some (.cells (xs.map (Value.int .i64)).toArray 3 (0,0))
section
variable {w w':World} {g:Nat} {xs:List Int}
theorem gK.lt (h:gK w g xs):g<w.heap.size:=(de.1 h).1
theorem gK.cell (h:gK w g xs) {j:Nat} (hj:j<xs.length):w.cell? ⟨g,j,none⟩=some (.int .i64 (xs.getD j 0)):=by
 unfold gK at h
 simp[World.cell?,h,hj]
theorem gK.frozen (h:gK w g xs) (j:Nat):w.frozen? ⟨g,j,none⟩=false:=by
 unfold gK at h
 simp[World.frozen?,h]
theorem gK.set (h:gK w g xs) (j:Nat) (x:Int):gK (w.setCell ⟨g,j,none⟩ (.int .i64 x)) g (xs.set j x):=by
 have:=heap_setCell_same w g j _ _ (.int .i64 x) h
 unfold gK
 rw[this,List.setIfInBounds_toArray,List.map_set]
theorem gK.frame (h:gK w g xs) (hf:w'.heap[g]? =w.heap[g]?):gK w' g xs:=hf.trans h
theorem gK.via (h:gK w g xs) (hb:Below w.heap.size w w'):gK w' g xs:=h.frame (hb.block g h.lt)
theorem gK.sl (h:gK w g xs) (hi:∀x∈xs,aH x) (hl:xs.length<=140737488355328):Sl w (.slice (some ⟨g,0,none⟩) xs.length xs.length) xs:=by
 refine⟨_,_,rfl,aK _,by unfold maxLen;omega,hl,fun _=>⟨_,_,rfl,h.lt,fun i x hx=>⟨[.int .i64 x],⟨rfl,hi x (eJ hx)⟩,fun j u hu=>?_⟩⟩⟩
 match j with
 | 0=>
  simp at hu
  subst hu
  have hi:=(aZ.1 hx).1
  have:=h.cell hi
  rw[an,hx] at this
  simpa [aE.k] using this
 | j+1=>simp at hu
end
def lB (l:List (List Int)) (refs:List Int):Nat->List Int
 | 0=>List.replicate (l.length+1) 0
 | k+1=>if refs.contains ((k:Int)+1) then (lB l refs k).set (k+1) (cR l refs (k+1)).length else lB l refs k
theorem sH (l:List (List Int)) (refs:List Int) (k:Nat):(lB l refs k).length=l.length+1:=by
 induction k with
 | zero=>simp[lB]
 | succ k ih=>unfold lB;split <;> simp[ih]
theorem lR (l:List (List Int)) (refs:List Int) (k:Nat):(cR l refs k).length<=k:=by
 induction k with
 | zero=>simp[cR]
 | succ k ih=>unfold cR;split <;> simp <;> omega
theorem KE (l:List (List Int)) (refs:List Int) (k j:Nat) (hj:j<=l.length):(lB l refs k).getD j 0=if 1<=j/\j<=k/\refs.contains (j:Int)=true then ((cR l refs j).length:Int) else 0:=by
 induction k with
 | zero=>rw[if_neg (by omega)];simp[lB,qu];split <;> rfl
 | succ k ih=>
  unfold lB
  by_cases hc:refs.contains ((k:Int)+1)=true
  ·rw[if_pos hc]
   by_cases hjk:j=k+1
   ·subst hjk
    rw[if_pos ⟨by omega,by omega,by push_cast;exact hc⟩,an,List.getElem?_set_self (by rw[sH];omega)]
    rfl
   rw[an,List.getElem?_set_ne (fun e=>hjk e.symm),<-an,ih]
   by_cases h1:j<=k
   ·simp[h1,show j<=k+1 by omega]
   simp[h1,show¬j<=k+1 by omega]
  rw[if_neg hc,ih]
  by_cases hjk:j=k+1
  ·subst hjk
   rw[if_neg (by omega),if_neg (by rintro⟨_,_,h⟩;push_cast at h;exact hc h)]
  by_cases h1:j<=k
  ·simp[h1,show j<=k+1 by omega]
  simp[h1,show¬j<=k+1 by omega]
theorem M0 {l:List (List Int)} {refs:List Int} {r:Int} (hr:r∈refs) (h0:0<=r) (h1:r<=l.length):(lB l refs l.length).getD r.toNat 0=eS l refs r:=by
 rw[KE _ _ _ _ (by omega)]
 unfold eS
 by_cases hz:r=0
 ·subst hz;simp
 rw[if_neg hz,if_pos ⟨by omega,by omega,by rw[Int.toNat_of_nonneg h0];simpa using hr⟩]
theorem je {l:List (List Int)} {refs:List Int} {k:Nat} (h:refs.contains ((k:Int)+1)=true):cR l refs (k+1)=cR l refs k++ [l.getD k []]:=by rw[cR,if_pos h]
theorem qF {l:List (List Int)} {refs:List Int} {k:Nat} (h:refs.contains ((k:Int)+1)=false):cR l refs (k+1)=cR l refs k:=by rw[cR,if_neg (by rw[h];decide)];simp
theorem KD {l:List (List Int)} {refs:List Int} {k:Nat} (h:refs.contains ((k:Int)+1)=true):lB l refs (k+1)=(lB l refs k).set (k+1) (cR l refs (k+1)).length:=by rw[lB,if_pos h]
theorem MZ {l:List (List Int)} {refs:List Int} {k:Nat} (h:refs.contains ((k:Int)+1)=false):lB l refs (k+1)=lB l refs k:=by rw[lB,if_neg (by rw[h];decide)]
end
section
end
