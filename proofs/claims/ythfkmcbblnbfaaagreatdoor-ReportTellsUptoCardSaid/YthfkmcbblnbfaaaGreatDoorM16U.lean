/- Texts of one proof, one behind the other: lemmas alone. -/
import Derived.Test.YthfkmcbblnbfaaaGreatDoorM0U
import Derived.Laws.Rows
import Derived.Test.YthfkmcbblnbfaaaGreatDoorM13U
import Derived.Test.YthfkmcbblnbfaaaGreatDoorM6U

namespace Go.Proofs.YthfkmcbblnbfaaaGreatDoor
set_option maxRecDepth 100000
set_option maxHeartbeats 16000000
open Go.RowKit
section
def ek (w:World) (g:Nat) (xs:List Int):Prop:=w.heap[g]? =some (.cells (xs.map (Value.int .i64)).toArray 3 (0,0))
section
variable {w w':World} {g:Nat} {xs:List Int}
theorem ek.lt (h:ek w g xs):g<w.heap.size:=(bC.1 h).1
theorem ek.cell (h:ek w g xs) {j:Nat} (hj:j<xs.length):w.cell? ⟨g,j,none⟩=some (.int .i64 (xs.getD j 0)):=by
 unfold ek at h
 simp[World.cell?,h, hj]
theorem ek.frozen (h:ek w g xs) (j:Nat):w.frozen? ⟨g,j,none⟩=false:=by
 unfold ek at h
 simp[World.frozen?,h]
theorem ek.set (h:ek w g xs) (j:Nat) (x:Int):ek (w.setCell ⟨g,j,none⟩ (.int .i64 x)) g (xs.set j x):=by
 have:=heap_setCell_same w g j _ _ (.int .i64 x) h
 unfold ek
 rw[this,List.setIfInBounds_toArray,List.map_set]
theorem ek.frame (h:ek w g xs) (hf:w'.heap[g]? =w.heap[g]?):ek w' g xs:=hf.trans h
theorem ek.via (h:ek w g xs) (hb:Below w.heap.size w w'):ek w' g xs:=h.frame (hb.block g h.lt)
theorem ek.sl (h:ek w g xs) (hi:∀x∈xs,aI x) (hl:xs.length<=140737488355328):Sl w (.slice (some ⟨g,0,none⟩) xs.length xs.length) xs:=by
 refine⟨_,_,rfl,ay _,by unfold maxLen;omega,hl,fun _=>⟨_,_,rfl,h.lt,fun i x hx=>⟨[.int .i64 x],⟨rfl,hi x (cJ hx)⟩,fun j u hu=>?_⟩⟩⟩
 match j with
 | 0=>
  simp at hu
  subst hu
  have hi:=(aq.1 hx).1
  have:=h.cell hi
  rw[ac,hx] at this
  simpa [am.k] using this
 | j+1=>simp at hu
end
def iE (l:List (List Int)) (refs:List Int):Nat->List Int
 | 0=>List.replicate (l.length+1) 0
 | k+1=>if refs.contains ((k:Int)+1) then (iE l refs k).set (k+1) (cP l refs (k+1)).length else iE l refs k
theorem mO (l:List (List Int)) (refs:List Int) (k:Nat):(iE l refs k).length=l.length+1:=by
 induction k with
 | zero=>simp[iE]
 | succ k ih=>unfold iE;split <;> simp[ih]
theorem k9 (l:List (List Int)) (refs:List Int) (k:Nat):(cP l refs k).length<=k:=by
 induction k with
 | zero=>simp[cP]
 | succ k ih=>unfold cP;split <;> simp <;> omega
theorem AU (l:List (List Int)) (refs:List Int) (k j:Nat) (hj:j<=l.length):(iE l refs k).getD j 0=if 1<=j/\j<=k/\refs.contains (j:Int)=true then ((cP l refs j).length:Int) else 0:=by
 induction k with
 | zero=>rw[if_neg (by omega)];simp[iE, List.getElem?_replicate];split <;> rfl
 | succ k ih=>
  unfold iE
  by_cases hc:refs.contains ((k:Int)+1)=true
  ·rw[if_pos hc]
   by_cases hjk:j=k+1
   ·subst hjk
    rw[if_pos ⟨by omega,by omega,by push_cast;exact hc⟩,ac,List.getElem?_set_self (by rw[mO];omega)]
    rfl
   rw[ac,List.getElem?_set_ne (fun e=>hjk e.symm),<-ac,ih]
   by_cases h1:j<=k
   ·simp[h1,show j<=k+1 by omega]
   simp[h1,show¬j<=k+1 by omega]
  rw[if_neg hc,ih]
  by_cases hjk:j=k+1
  ·subst hjk
   rw[if_neg (by omega),if_neg (by rintro⟨_,_,h⟩;push_cast at h;exact hc h)]
  by_cases h1:j<=k
  ·simp[h1,show j<=k+1 by omega]
  simp[h1,show¬j<=k+1 by omega]
theorem C6 {l:List (List Int)} {refs:List Int} {r:Int} (hr:r∈refs) (h0:0<=r) (h1:r<=l.length):(iE l refs l.length).getD r.toNat 0=dY l refs r:=by
 rw[AU _ _ _ _ (by omega)]
 unfold dY
 by_cases hz:r=0
 ·subst hz;simp
 rw[if_neg hz,if_pos ⟨by omega,by omega,by rw[Int.toNat_of_nonneg h0];simpa using hr⟩]
theorem pO {l:List (List Int)} {refs:List Int} {k:Nat} (h:refs.contains ((k:Int)+1)=true):cP l refs (k+1)=cP l refs k++ [l.getD k []]:=by rw[cP,if_pos h]
theorem yz {l:List (List Int)} {refs:List Int} {k:Nat} (h:refs.contains ((k:Int)+1)=false):cP l refs (k+1)=cP l refs k:=by rw[cP,if_neg (by rw[h];decide)];simp
theorem AT {l:List (List Int)} {refs:List Int} {k:Nat} (h:refs.contains ((k:Int)+1)=true):iE l refs (k+1)=(iE l refs k).set (k+1) (cP l refs (k+1)).length:=by rw[iE,if_pos h]
theorem C5 {l:List (List Int)} {refs:List Int} {k:Nat} (h:refs.contains ((k:Int)+1)=false):iE l refs (k+1)=iE l refs k:=by rw[iE,if_neg (by rw[h];decide)]
end
end Go.Proofs.YthfkmcbblnbfaaaGreatDoor
