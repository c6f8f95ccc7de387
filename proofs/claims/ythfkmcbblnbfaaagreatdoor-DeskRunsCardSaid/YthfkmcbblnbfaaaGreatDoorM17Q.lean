/- Lemmas of one proof. -/
import Derived.Test.YthfkmcbblnbfaaaGreatDoorM0Q
import Derived.Test.YthfkmcbblnbfaaaGreatDoorM14Q
import Derived.Test.YthfkmcbblnbfaaaGreatDoorM7Q

namespace Go.Proofs.YthfkmcbblnbfaaaGreatDoor
set_option maxRecDepth 100000
set_option maxHeartbeats 16000000
open Go.RowKit
section
def fH (w:World) (g:Nat) (xs:List Int):Prop:=w.heap[g]? =some (.cells (xs.map (Value.int .i64)).toArray 3 (0,0))
section
variable {w w':World} {g:Nat} {xs:List Int}
theorem fH.lt (h:fH w g xs):g<w.heap.size:=(cI.1 h).1
theorem fH.cell (h:fH w g xs) {j:Nat} (hj:j<xs.length):w.cell? ⟨g,j,none⟩=some (.int .i64 (xs.getD j 0)):=by
 unfold fH at h
 simp[World.cell?,h, hj]
theorem fH.frozen (h:fH w g xs) (j:Nat):w.frozen? ⟨g,j,none⟩=false:=by
 unfold fH at h
 simp[World.frozen?,h]
theorem fH.set (h:fH w g xs) (j:Nat) (x:Int):fH (w.setCell ⟨g,j,none⟩ (.int .i64 x)) g (xs.set j x):=by
 have:=heap_setCell_same w g j _ _ (.int .i64 x) h
 unfold fH
 rw[this,List.setIfInBounds_toArray,List.map_set]
theorem fH.frame (h:fH w g xs) (hf:w'.heap[g]? =w.heap[g]?):fH w' g xs:=hf.trans h
theorem fH.via (h:fH w g xs) (hb:Below w.heap.size w w'):fH w' g xs:=h.frame (hb.block g h.lt)
theorem fH.sl (h:fH w g xs) (hi:∀x∈xs,aF x) (hl:xs.length<=140737488355328):Sl w (.slice (some ⟨g,0,none⟩) xs.length xs.length) xs:=by
 refine⟨_,_,rfl,aA _,by unfold maxLen;omega,hl,fun _=>⟨_,_,rfl,h.lt,fun i x hx=>⟨[.int .i64 x],⟨rfl,hi x (eP hx)⟩,fun j u hu=>?_⟩⟩⟩
 match j with
 | 0=>
  simp at hu
  subst hu
  have hi:=(aN.1 hx).1
  have:=h.cell hi
  rw[ak,hx] at this
  simpa [ay.k] using this
 | j+1=>simp at hu
end
def kB (l:List (List Int)) (refs:List Int):Nat->List Int
 | 0=>List.replicate (l.length+1) 0
 | k+1=>if refs.contains ((k:Int)+1) then (kB l refs k).set (k+1) (bY l refs (k+1)).length else kB l refs k
theorem rq (l:List (List Int)) (refs:List Int) (k:Nat):(kB l refs k).length=l.length+1:=by
 induction k with
 | zero=>simp[kB]
 | succ k ih=>unfold kB;split <;> simp[ih]
theorem kO (l:List (List Int)) (refs:List Int) (k:Nat):(bY l refs k).length<=k:=by
 induction k with
 | zero=>simp[bY]
 | succ k ih=>unfold bY;split <;> simp <;> omega
theorem JR (l:List (List Int)) (refs:List Int) (k j:Nat) (hj:j<=l.length):(kB l refs k).getD j 0=if 1<=j/\j<=k/\refs.contains (j:Int)=true then ((bY l refs j).length:Int) else 0:=by
 induction k with
 | zero=>rw[if_neg (by omega)];simp[kB, pj];split <;> rfl
 | succ k ih=>
  unfold kB
  by_cases hc:refs.contains ((k:Int)+1)=true
  ·rw[if_pos hc]
   by_cases hjk:j=k+1
   ·subst hjk
    rw[if_pos ⟨by omega,by omega,by push_cast;exact hc⟩,ak,List.getElem?_set_self (by rw[rq];omega)]
    rfl
   rw[ak,List.getElem?_set_ne (fun e=>hjk e.symm),<-ak,ih]
   by_cases h1:j<=k
   ·simp[h1,show j<=k+1 by omega]
   simp[h1,show¬j<=k+1 by omega]
  rw[if_neg hc,ih]
  by_cases hjk:j=k+1
  ·subst hjk
   rw[if_neg (by omega),if_neg (by rintro⟨_,_,h⟩;push_cast at h;exact hc h)]
  by_cases h1:j<=k
  ·simp[h1,show j<=k+1 by omega]
  simp[h1,show¬j<=k+1 by omega]
theorem Mg {l:List (List Int)} {refs:List Int} {r:Int} (hr:r∈refs) (h0:0<=r) (h1:r<=l.length):(kB l refs l.length).getD r.toNat 0=ek l refs r:=by
 rw[JR _ _ _ _ (by omega)]
 unfold ek
 by_cases hz:r=0
 ·subst hz;simp
 rw[if_neg hz,if_pos ⟨by omega,by omega,by rw[Int.toNat_of_nonneg h0];simpa using hr⟩]
theorem ir {l:List (List Int)} {refs:List Int} {k:Nat} (h:refs.contains ((k:Int)+1)=true):bY l refs (k+1)=bY l refs k++ [l.getD k []]:=by rw[bY,if_pos h]
theorem pB {l:List (List Int)} {refs:List Int} {k:Nat} (h:refs.contains ((k:Int)+1)=false):bY l refs (k+1)=bY l refs k:=by rw[bY,if_neg (by rw[h];decide)];simp
theorem JQ {l:List (List Int)} {refs:List Int} {k:Nat} (h:refs.contains ((k:Int)+1)=true):kB l refs (k+1)=(kB l refs k).set (k+1) (bY l refs (k+1)).length:=by rw[kB,if_pos h]
theorem Mf {l:List (List Int)} {refs:List Int} {k:Nat} (h:refs.contains ((k:Int)+1)=false):kB l refs (k+1)=kB l refs k:=by rw[kB,if_neg (by rw[h];decide)]
end
section
def Qn (L:Nat) (r:Int):Bool:=decide (r<0) || decide ((L:Int)<r)
end
