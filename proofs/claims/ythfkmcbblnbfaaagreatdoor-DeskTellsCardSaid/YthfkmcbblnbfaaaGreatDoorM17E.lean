/- Lemmas of one proof. -/
import Derived.Test.YthfkmcbblnbfaaaGreatDoorM90E
import Derived.Test.YthfkmcbblnbfaaaGreatDoorM0E
import Derived.Test.YthfkmcbblnbfaaaGreatDoorM14E
import Derived.Test.YthfkmcbblnbfaaaGreatDoorM7E

namespace Go.Proofs.YthfkmcbblnbfaaaGreatDoor
set_option maxRecDepth 100000
set_option maxHeartbeats 16000000
open Go.RowKit
section
def iw (w:World) (g:Nat) (xs:List Int):Prop:=w.heap[g]? =some (.cells (xs.map (Value.int .i64)).toArray 3 (0,0))
section
variable {w w':World} {g:Nat} {xs:List Int}
theorem iw.lt (h:iw w g xs):g<w.heap.size:=(dy.1 h).1
theorem iw.cell (h:iw w g xs) {j:Nat} (hj:j<xs.length):w.cell? ⟨g,j,none⟩=some (.int .i64 (xs.getD j 0)):=by
 unfold iw at h
 simp[World.cell?,h,hj]
theorem iw.frozen (h:iw w g xs) (j:Nat):w.frozen? ⟨g,j,none⟩=false:=by
 unfold iw at h
 simp[World.frozen?,h]
theorem iw.set (h:iw w g xs) (j:Nat) (x:Int):iw (w.setCell ⟨g,j,none⟩ (.int .i64 x)) g (xs.set j x):=by
 have:=heap_setCell_same w g j _ _ (.int .i64 x) h
 unfold iw
 rw[this,List.setIfInBounds_toArray,List.map_set]
theorem iw.frame (h:iw w g xs) (a:w'.heap[g]? =w.heap[g]?):iw w' g xs:=a.trans h
theorem iw.via (h:iw w g xs) (a:Below w.heap.size w w'):iw w' g xs:=h.frame (a.block g h.lt)
theorem iw.sl (h:iw w g xs) (hi:∀x∈xs,aI x) (d:xs.length<=140737488355328):Sl w (.slice (some ⟨g,0,none⟩) xs.length xs.length) xs:=by
 refine⟨_,_,rfl,aF _,by unfold maxLen;omega,d,fun _=>⟨_,_,rfl,h.lt,fun e x b=>⟨[.int .i64 x],⟨rfl,hi x (gA b)⟩,fun c f a=>?_⟩⟩⟩
 match c with
 | 0=>
  simp at a;subst a;have hi:=(bw.1 b).1;have:=h.cell hi;rw[ap,b] at this;simpa [aH.k] using this
 | c+1=>simp at a
end
def mT (l:List (List Int)) (refs:List Int):Nat->List Int
 | 0=>List.replicate (l.length+1) 0
 | k+1=>if refs.contains ((k:Int)+1) then (mT l refs k).set (k+1) (cW l refs (k+1)).length else mT l refs k
theorem uK (l:List (List Int)) (refs:List Int) (k:Nat):(mT l refs k).length=l.length+1:=by
 induction k with
 | zero=>simp[mT]
 | succ k a=>unfold mT;split <;> simp[a]
theorem nr (l:List (List Int)) (refs:List Int) (k:Nat):(cW l refs k).length<=k:=by
 induction k with
 | zero=>simp[cW]
 | succ k a=>unfold cW;split <;> simp <;> omega
theorem NH (l:List (List Int)) (refs:List Int) (k j:Nat) (h:j<=l.length):(mT l refs k).getD j 0=if 1<=j/\j<=k/\refs.contains (j:Int)=true then ((cW l refs j).length:Int) else 0:=by
 induction k with
 | zero=>rw[if_neg ω];simp[mT,rX];split <;> rfl
 | succ k e=>
  unfold mT
  by_cases b:refs.contains ((k:Int)+1)=true
  ·rw[if_pos b]
   by_cases c:j=k+1
   ·subst c;rw[if_pos ⟨ω,ω,by push_cast;exact b⟩,ap,List.getElem?_set_self (by rw[uK];omega)];rfl
   rw[ap,List.getElem?_set_ne (fun f=>c f.symm),<-ap,e]
   by_cases a:j<=k
   ·simp[a,show j<=k+1 by omega]
   simp[a,show¬j<=k+1 by omega]
  rw[if_neg b,e]
  by_cases c:j=k+1
  ·subst c;rw[if_neg ω,if_neg (by rintro⟨_,_,d⟩;push_cast at d;exact b d)]
  by_cases a:j<=k
  ·simp[a,show j<=k+1 by omega]
  simp[a,show¬j<=k+1 by omega]
theorem P3 {l:List (List Int)} {refs:List Int} {r:Int} (c:r∈refs) (b:0<=r) (d:r<=l.length):(mT l refs l.length).getD r.toNat 0=fy l refs r:=by
 rw[NH _ _ _ _ ω];unfold fy
 by_cases a:r=0
 ·subst a;simp
 rw[if_neg a,if_pos ⟨ω,ω,by rw[Int.toNat_of_nonneg b];simpa using c⟩]
theorem jT {l:List (List Int)} {refs:List Int} {k:Nat} (h:refs.contains ((k:Int)+1)=true):cW l refs (k+1)=cW l refs k++ [l.getD k []]:=by rw[cW,if_pos h]
theorem sx {l:List (List Int)} {refs:List Int} {k:Nat} (h:refs.contains ((k:Int)+1)=false):cW l refs (k+1)=cW l refs k:=by rw[cW,if_neg (by rw[h];decide)];simp
theorem NG {l:List (List Int)} {refs:List Int} {k:Nat} (h:refs.contains ((k:Int)+1)=true):mT l refs (k+1)=(mT l refs k).set (k+1) (cW l refs (k+1)).length:=by rw[mT,if_pos h]
theorem P2 {l:List (List Int)} {refs:List Int} {k:Nat} (h:refs.contains ((k:Int)+1)=false):mT l refs (k+1)=mT l refs k:=by rw[mT,if_neg (by rw[h];decide)]
end
section
end
