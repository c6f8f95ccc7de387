/- Texts of one proof, one behind the other: lemmas alone. -/
import Derived.Test.YtpacloheigifkaaGreatM13I
import Derived.Test.YtpacloheigifkaaGreatM6I

namespace Go.Proofs.YtpacloheigifkaaGreat
open Go.RowKit
section
def fE (w:World) (g:Nat) (xs:List Int):Prop:=w.heap[g]? =some (.cells (xs.map (Value.int .i64)).toArray 3 (0,0))
section
variable {w w':World} {g:Nat} {xs:List Int}
theorem fE.lt (h:fE w g xs):g<w.heap.size:=(Array.getElem?_eq_some_iff.1 h).1
theorem fE.cell (h:fE w g xs) {j:Nat} (hj:j<xs.length):w.cell? ⟨g,j,none⟩=some (.int .i64 (xs.getD j 0)):=by
 unfold fE at h
 simp[World.cell?,h,List.getD_eq_getElem?_getD,hj]
theorem fE.frozen (h:fE w g xs) (j:Nat):w.frozen? ⟨g,j,none⟩=false:=by
 unfold fE at h
 simp[World.frozen?,h]
theorem fE.set (h:fE w g xs) (j:Nat) (x:Int):fE (w.setCell ⟨g,j,none⟩ (.int .i64 x)) g (xs.set j x):=by
 have:=heap_setCell_same w g j _ _ (.int .i64 x) h
 unfold fE
 rw[this,List.setIfInBounds_toArray,List.map_set]
theorem fE.frame (h:fE w g xs) (hf:w'.heap[g]? =w.heap[g]?):fE w' g xs:=hf.trans h
theorem fE.via (h:fE w g xs) (hb:Below w.heap.size w w'):fE w' g xs:=h.frame (hb.block g h.lt)
theorem fE.sl (h:fE w g xs) (hi:∀x∈xs,be x) (hl:xs.length≤140737488355328):Sl w (.slice (some ⟨g,0,none⟩) xs.length xs.length) xs:=by
 refine⟨_,_,rfl,Nat.le_refl _,by unfold maxLen;omega,hl,fun _=>⟨_,_,rfl,h.lt,fun i x hx=>⟨[.int .i64 x],⟨rfl,hi x (List.mem_of_getElem? hx)⟩,fun j u hu=>?_⟩⟩⟩
 match j with
 | 0=>
  simp at hu
  subst hu
  have hi:=(List.getElem?_eq_some_iff.1 hx).1
  have:=h.cell hi
  rw[List.getD_eq_getElem?_getD,hx] at this
  simpa [aL.k] using this
 | j+1=>simp at hu
end
def ju (l:List (List Int)) (refs:List Int):Nat→List Int
 | 0=>List.replicate (l.length+1) 0
 | k+1=>if refs.contains ((k:Int)+1) then (ju l refs k).set (k+1) (dI l refs (k+1)).length else ju l refs k
theorem oO (l:List (List Int)) (refs:List Int) (k:Nat):(ju l refs k).length=l.length+1:=by
 induction k with
 | zero=>simp[ju]
 | succ k ih=>unfold ju;split <;> simp[ih]
theorem ma (l:List (List Int)) (refs:List Int) (k:Nat):(dI l refs k).length≤k:=by
 induction k with
 | zero=>simp[dI]
 | succ k ih=>unfold dI;split <;> simp <;> omega
theorem C7 (l:List (List Int)) (refs:List Int) (k j:Nat) (hj:j≤l.length):(ju l refs k).getD j 0=if 1≤j∧j≤k∧refs.contains (j:Int)=true then ((dI l refs j).length:Int) else 0:=by
 induction k with
 | zero=>rw[if_neg (by omega)];simp[ju,List.getD_eq_getElem?_getD,List.getElem?_replicate];split <;> rfl
 | succ k ih=>
  unfold ju
  by_cases hc:refs.contains ((k:Int)+1)=true
  ·rw[if_pos hc]
   by_cases hjk:j=k+1
   ·subst hjk
    rw[if_pos ⟨by omega,by omega,by push_cast;exact hc⟩,List.getD_eq_getElem?_getD,List.getElem?_set_self (by rw[oO];omega)]
    rfl
   rw[List.getD_eq_getElem?_getD,List.getElem?_set_ne (fun e=>hjk e.symm),←List.getD_eq_getElem?_getD,ih]
   by_cases h1:j≤k
   ·simp[h1,show j≤k+1 by omega]
   simp[h1,show¬j≤k+1 by omega]
  rw[if_neg hc,ih]
  by_cases hjk:j=k+1
  ·subst hjk
   rw[if_neg (by omega),if_neg (by rintro⟨_,_,h⟩;push_cast at h;exact hc h)]
  by_cases h1:j≤k
  ·simp[h1,show j≤k+1 by omega]
  simp[h1,show¬j≤k+1 by omega]
theorem EN {l:List (List Int)} {refs:List Int} {r:Int} (hr:r∈refs) (h0:0≤r) (h1:r≤l.length):(ju l refs l.length).getD r.toNat 0=ft l refs r:=by
 rw[C7 _ _ _ _ (by omega)]
 unfold ft
 by_cases hz:r=0
 ·subst hz;simp
 rw[if_neg hz,if_pos ⟨by omega,by omega,by rw[Int.toNat_of_nonneg h0];simpa using hr⟩]
theorem sg {l:List (List Int)} {refs:List Int} {k:Nat} (h:refs.contains ((k:Int)+1)=true):dI l refs (k+1)=dI l refs k++ [l.getD k []]:=by rw[dI,if_pos h]
theorem Bh {l:List (List Int)} {refs:List Int} {k:Nat} (h:refs.contains ((k:Int)+1)=false):dI l refs (k+1)=dI l refs k:=by rw[dI,if_neg (by rw[h];decide)];simp
theorem C6 {l:List (List Int)} {refs:List Int} {k:Nat} (h:refs.contains ((k:Int)+1)=true):ju l refs (k+1)=(ju l refs k).set (k+1) (dI l refs (k+1)).length:=by rw[ju,if_pos h]
theorem EM {l:List (List Int)} {refs:List Int} {k:Nat} (h:refs.contains ((k:Int)+1)=false):ju l refs (k+1)=ju l refs k:=by rw[ju,if_neg (by rw[h];decide)]
end
section
def HQ (L:Nat) (r:Int):Bool:=decide (r<0) || decide ((L:Int)<r)
end
end Go.Proofs.YtpacloheigifkaaGreat
