/- Lemmas of one proof. -/
import Derived.Test.YthfkmcbblnbfaaaGreatDoorM0S
import Derived.Test.YthfkmcbblnbfaaaGreatDoorM14S
import Derived.Test.YthfkmcbblnbfaaaGreatDoorM7S

namespace Go.Proofs.YthfkmcbblnbfaaaGreatDoor
set_option maxRecDepth 100000
set_option maxHeartbeats 16000000
open Go.RowKit
section
def fB (w:World) (g:Nat) (xs:List Int):Prop:=w.heap[g]? =some (.cells (xs.map (Value.int .i64)).toArray 3 (0,0))
section
variable {w w':World} {g:Nat} {xs:List Int}
theorem fB.lt (h:fB w g xs):g<w.heap.size:=(cF.1 h).1
theorem fB.cell (h:fB w g xs) {j:Nat} (hj:j<xs.length):w.cell? ⟨g,j,none⟩=some (.int .i64 (xs.getD j 0)):=by
 unfold fB at h
 simp[World.cell?,h, hj]
theorem fB.frozen (h:fB w g xs) (j:Nat):w.frozen? ⟨g,j,none⟩=false:=by
 unfold fB at h
 simp[World.frozen?,h]
theorem fB.set (h:fB w g xs) (j:Nat) (x:Int):fB (w.setCell ⟨g,j,none⟩ (.int .i64 x)) g (xs.set j x):=by
 have:=heap_setCell_same w g j _ _ (.int .i64 x) h
 unfold fB
 rw[this,List.setIfInBounds_toArray,List.map_set]
theorem fB.frame (h:fB w g xs) (hf:w'.heap[g]? =w.heap[g]?):fB w' g xs:=hf.trans h
theorem fB.via (h:fB w g xs) (hb:Below w.heap.size w w'):fB w' g xs:=h.frame (hb.block g h.lt)
theorem fB.sl (h:fB w g xs) (hi:∀x∈xs,aD x) (hl:xs.length<=140737488355328):Sl w (.slice (some ⟨g,0,none⟩) xs.length xs.length) xs:=by
 refine⟨_,_,rfl,aA _,by unfold maxLen;omega,hl,fun _=>⟨_,_,rfl,h.lt,fun i x hx=>⟨[.int .i64 x],⟨rfl,hi x (eJ hx)⟩,fun j u hu=>?_⟩⟩⟩
 match j with
 | 0=>
  simp at hu
  subst hu
  have hi:=(aO.1 hx).1
  have:=h.cell hi
  rw[ak,hx] at this
  simpa [ay.k] using this
 | j+1=>simp at hu
end
def kx (l:List (List Int)) (refs:List Int):Nat->List Int
 | 0=>List.replicate (l.length+1) 0
 | k+1=>if refs.contains ((k:Int)+1) then (kx l refs k).set (k+1) (bT l refs (k+1)).length else kx l refs k
theorem rl (l:List (List Int)) (refs:List Int) (k:Nat):(kx l refs k).length=l.length+1:=by
 induction k with
 | zero=>simp[kx]
 | succ k ih=>unfold kx;split <;> simp[ih]
theorem kL (l:List (List Int)) (refs:List Int) (k:Nat):(bT l refs k).length<=k:=by
 induction k with
 | zero=>simp[bT]
 | succ k ih=>unfold bT;split <;> simp <;> omega
theorem J6 (l:List (List Int)) (refs:List Int) (k j:Nat) (hj:j<=l.length):(kx l refs k).getD j 0=if 1<=j/\j<=k/\refs.contains (j:Int)=true then ((bT l refs j).length:Int) else 0:=by
 induction k with
 | zero=>rw[if_neg (by omega)];simp[kx, pj];split <;> rfl
 | succ k ih=>
  unfold kx
  by_cases hc:refs.contains ((k:Int)+1)=true
  ·rw[if_pos hc]
   by_cases hjk:j=k+1
   ·subst hjk
    rw[if_pos ⟨by omega,by omega,by push_cast;exact hc⟩,ak,List.getElem?_set_self (by rw[rl];omega)]
    rfl
   rw[ak,List.getElem?_set_ne (fun e=>hjk e.symm),<-ak,ih]
   by_cases h1:j<=k
   ·simp[h1,show j<=k+1 by omega]
   simp[h1,show¬j<=k+1 by omega]
  rw[if_neg hc,ih]
  by_cases hjk:j=k+1
  ·subst hjk
   rw[if_neg (by omega),if_neg (by rintro⟨_,_,h⟩;push_cast at h;exact hc h)]
  by_cases h1:j<=k
  ·simp[h1,show j<=k+1 by omega]
  simp[h1,show¬j<=k+1 by omega]
theorem Mx {l:List (List Int)} {refs:List Int} {r:Int} (hr:r∈refs) (h0:0<=r) (h1:r<=l.length):(kx l refs l.length).getD r.toNat 0=ee l refs r:=by
 rw[J6 _ _ _ _ (by omega)]
 unfold ee
 by_cases hz:r=0
 ·subst hz;simp
 rw[if_neg hz,if_pos ⟨by omega,by omega,by rw[Int.toNat_of_nonneg h0];simpa using hr⟩]
theorem il {l:List (List Int)} {refs:List Int} {k:Nat} (h:refs.contains ((k:Int)+1)=true):bT l refs (k+1)=bT l refs k++ [l.getD k []]:=by rw[bT,if_pos h]
theorem pB {l:List (List Int)} {refs:List Int} {k:Nat} (h:refs.contains ((k:Int)+1)=false):bT l refs (k+1)=bT l refs k:=by rw[bT,if_neg (by rw[h];decide)];simp
theorem J5 {l:List (List Int)} {refs:List Int} {k:Nat} (h:refs.contains ((k:Int)+1)=true):kx l refs (k+1)=(kx l refs k).set (k+1) (bT l refs (k+1)).length:=by rw[kx,if_pos h]
theorem Mw {l:List (List Int)} {refs:List Int} {k:Nat} (h:refs.contains ((k:Int)+1)=false):kx l refs (k+1)=kx l refs k:=by rw[kx,if_neg (by rw[h];decide)]
end
section
def QF (L:Nat) (r:Int):Bool:=decide (r<0) || decide ((L:Int)<r)
end
