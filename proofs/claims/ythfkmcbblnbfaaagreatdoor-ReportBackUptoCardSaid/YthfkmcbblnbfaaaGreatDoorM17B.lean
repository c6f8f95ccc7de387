/- Texts of one proof, one behind the other: lemmas alone. -/
import Derived.Test.YthfkmcbblnbfaaaGreatDoorM0B
import Derived.Test.YthfkmcbblnbfaaaGreatDoorM14B
import Derived.Test.YthfkmcbblnbfaaaGreatDoorM7B

namespace Go.Proofs.YthfkmcbblnbfaaaGreatDoor
set_option maxRecDepth 100000
set_option maxHeartbeats 16000000
open Go.RowKit
section
def dX (w:World) (g:Nat) (xs:List Int):Prop:=w.heap[g]? =some (.cells (xs.map (Value.int .i64)).toArray 3 (0,0))
section
variable {w w':World} {g:Nat} {xs:List Int}
theorem dX.lt (h:dX w g xs):g<w.heap.size:=(bD.1 h).1
theorem dX.cell (h:dX w g xs) {j:Nat} (hj:j<xs.length):w.cell? ⟨g,j,none⟩=some (.int .i64 (xs.getD j 0)):=by
 unfold dX at h
 simp[World.cell?,h, hj]
theorem dX.frozen (h:dX w g xs) (j:Nat):w.frozen? ⟨g,j,none⟩=false:=by
 unfold dX at h
 simp[World.frozen?,h]
theorem dX.set (h:dX w g xs) (j:Nat) (x:Int):dX (w.setCell ⟨g,j,none⟩ (.int .i64 x)) g (xs.set j x):=by
 have:=heap_setCell_same w g j _ _ (.int .i64 x) h
 unfold dX
 rw[this,List.setIfInBounds_toArray,List.map_set]
theorem dX.frame (h:dX w g xs) (hf:w'.heap[g]? =w.heap[g]?):dX w' g xs:=hf.trans h
theorem dX.via (h:dX w g xs) (hb:Below w.heap.size w w'):dX w' g xs:=h.frame (hb.block g h.lt)
theorem dX.sl (h:dX w g xs) (hi:∀x∈xs,ay x) (hl:xs.length<=140737488355328):Sl w (.slice (some ⟨g,0,none⟩) xs.length xs.length) xs:=by
 refine⟨_,_,rfl,aD _,by unfold maxLen;omega,hl,fun _=>⟨_,_,rfl,h.lt,fun i x hx=>⟨[.int .i64 x],⟨rfl,hi x (dJ hx)⟩,fun j u hu=>?_⟩⟩⟩
 match j with
 | 0=>
  simp at hu
  subst hu
  have hi:=(aw.1 hx).1
  have:=h.cell hi
  rw[ac,hx] at this
  simpa [ak.k] using this
 | j+1=>simp at hu
end
def gW (l:List (List Int)) (refs:List Int):Nat->List Int
 | 0=>List.replicate (l.length+1) 0
 | k+1=>if refs.contains ((k:Int)+1) then (gW l refs k).set (k+1) (cC l refs (k+1)).length else gW l refs k
theorem mg (l:List (List Int)) (refs:List Int) (k:Nat):(gW l refs k).length=l.length+1:=by
 induction k with
 | zero=>simp[gW]
 | succ k ih=>unfold gW;split <;> simp[ih]
theorem km (l:List (List Int)) (refs:List Int) (k:Nat):(cC l refs k).length<=k:=by
 induction k with
 | zero=>simp[cC]
 | succ k ih=>unfold cC;split <;> simp <;> omega
theorem AM (l:List (List Int)) (refs:List Int) (k j:Nat) (hj:j<=l.length):(gW l refs k).getD j 0=if 1<=j/\j<=k/\refs.contains (j:Int)=true then ((cC l refs j).length:Int) else 0:=by
 induction k with
 | zero=>rw[if_neg (by omega)];simp[gW, kS];split <;> rfl
 | succ k ih=>
  unfold gW
  by_cases hc:refs.contains ((k:Int)+1)=true
  ·rw[if_pos hc]
   by_cases hjk:j=k+1
   ·subst hjk
    rw[if_pos ⟨by omega,by omega,by push_cast;exact hc⟩,ac,List.getElem?_set_self (by rw[mg];omega)]
    rfl
   rw[ac,List.getElem?_set_ne (fun e=>hjk e.symm),<-ac,ih]
   by_cases h1:j<=k
   ·simp[h1,show j<=k+1 by omega]
   simp[h1,show¬j<=k+1 by omega]
  rw[if_neg hc,ih]
  by_cases hjk:j=k+1
  ·subst hjk
   rw[if_neg (by omega),if_neg (by rintro⟨_,_,h⟩;push_cast at h;exact hc h)]
  by_cases h1:j<=k
  ·simp[h1,show j<=k+1 by omega]
  simp[h1,show¬j<=k+1 by omega]
theorem C8 {l:List (List Int)} {refs:List Int} {r:Int} (hr:r∈refs) (h0:0<=r) (h1:r<=l.length):(gW l refs l.length).getD r.toNat 0=dR l refs r:=by
 rw[AM _ _ _ _ (by omega)]
 unfold dR
 by_cases hz:r=0
 ·subst hz;simp
 rw[if_neg hz,if_pos ⟨by omega,by omega,by rw[Int.toNat_of_nonneg h0];simpa using hr⟩]
theorem py {l:List (List Int)} {refs:List Int} {k:Nat} (h:refs.contains ((k:Int)+1)=true):cC l refs (k+1)=cC l refs k++ [l.getD k []]:=by rw[cC,if_pos h]
theorem yr {l:List (List Int)} {refs:List Int} {k:Nat} (h:refs.contains ((k:Int)+1)=false):cC l refs (k+1)=cC l refs k:=by rw[cC,if_neg (by rw[h];decide)];simp
theorem AL {l:List (List Int)} {refs:List Int} {k:Nat} (h:refs.contains ((k:Int)+1)=true):gW l refs (k+1)=(gW l refs k).set (k+1) (cC l refs (k+1)).length:=by rw[gW,if_pos h]
theorem C7 {l:List (List Int)} {refs:List Int} {k:Nat} (h:refs.contains ((k:Int)+1)=false):gW l refs (k+1)=gW l refs k:=by rw[gW,if_neg (by rw[h];decide)]
end
end Go.Proofs.YthfkmcbblnbfaaaGreatDoor
