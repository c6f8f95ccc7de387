/- Lemmas of one proof. -/
import Derived.Test.YthfkmcbblnbfaaaGreatDoorM90W
import Derived.Test.YthfkmcbblnbfaaaGreatDoorM0W
import Derived.Test.YthfkmcbblnbfaaaGreatDoorM14W
import Derived.Test.YthfkmcbblnbfaaaGreatDoorM7W

namespace Go.Proofs.YthfkmcbblnbfaaaGreatDoor
set_option maxRecDepth 100000
set_option maxHeartbeats 16000000
open Go.RowKit
section
def iw (w:World) (g:Nat) (xs:List Int):Prop:=w.heap[g]? =some (.cells (xs.map (Value.int .i64)).toArray 3 (0,0))
section
variable {w w':World} {g:Nat} {xs:List Int}
theorem iw.lt (h:iw w g xs):g<w.heap.size:=(dE.1 h).1
theorem iw.cell (h:iw w g xs) {j:Nat} (hj:j<xs.length):w.cell? ⟨g,j,none⟩=some (.int .i64 (xs.getD j 0)):=by
 unfold iw at h
 simp[World.cell?,h,hj]
theorem iw.frozen (h:iw w g xs) (j:Nat):w.frozen? ⟨g,j,none⟩=false:=by
 unfold iw at h
 simp[World.frozen?,h]
theorem iw.set (h:iw w g xs) (j:Nat) (x:Int):iw (w.setCell ⟨g,j,none⟩ (.int .i64 x)) g (xs.set j x):=by
 have:=heap_setCell_same w g j _ _ (.int .i64 x) h
 unfold iw
 rw[this,List.setIfInBounds_toArray,List.map_set]
theorem iw.frame (h:iw w g xs) (a:w'.heap[g]? =w.heap[g]?):iw w' g xs:=a.trans h
theorem iw.via (h:iw w g xs) (a:Below w.heap.size w w'):iw w' g xs:=h.frame (a.block g h.lt)
theorem iw.sl (h:iw w g xs) (hi:∀x∈xs,aI x) (d:xs.length<=140737488355328):Sl w (.slice (some ⟨g,0,none⟩) xs.length xs.length) xs:=by
 refine⟨_,_,rfl,aH _,by unfold maxLen;omega,d,fun _=>⟨_,_,rfl,h.lt,fun e x b=>⟨[.int .i64 x],⟨rfl,hi x (fQ b)⟩,fun c f a=>?_⟩⟩⟩
 match c with
 | 0=>
  simp at a;subst a;have hi:=(bt.1 b).1;have:=h.cell hi;rw[ap,b] at this;simpa [aG.k] using this
 | c+1=>simp at a
end
def nn (l:List (List Int)) (refs:List Int):Nat->List Int
 | 0=>List.replicate (l.length+1) 0
 | k+1=>if refs.contains ((k:Int)+1) then (nn l refs k).set (k+1) (di l refs (k+1)).length else nn l refs k
theorem ve (l:List (List Int)) (refs:List Int) (k:Nat):(nn l refs k).length=l.length+1:=by
 induction k with
 | zero=>simp[nn]
 | succ k a=>unfold nn;split <;> simp[a]
theorem nG (l:List (List Int)) (refs:List Int) (k:Nat):(di l refs k).length<=k:=by
 induction k with
 | zero=>simp[di]
 | succ k a=>unfold di;split <;> simp <;> omega
theorem N7 (l:List (List Int)) (refs:List Int) (k j:Nat) (h:j<=l.length):(nn l refs k).getD j 0=if 1<=j/\j<=k/\refs.contains (j:Int)=true then ((di l refs j).length:Int) else 0:=by
 induction k with
 | zero=>rw[if_neg ω];simp[nn,sD];split <;> rfl
 | succ k e=>
  unfold nn
  by_cases b:refs.contains ((k:Int)+1)=true
  ·rw[if_pos b]
   by_cases c:j=k+1
   ·subst c;rw[if_pos ⟨ω,ω,by push_cast;exact b⟩,ap,List.getElem?_set_self (by rw[ve];omega)];rfl
   rw[ap,List.getElem?_set_ne (fun f=>c f.symm),<-ap,e]
   by_cases a:j<=k
   ·simp[a,show j<=k+1 by omega]
   simp[a,show¬j<=k+1 by omega]
  rw[if_neg b,e]
  by_cases c:j=k+1
  ·subst c;rw[if_neg ω,if_neg (by rintro⟨_,_,d⟩;push_cast at d;exact b d)]
  by_cases a:j<=k
  ·simp[a,show j<=k+1 by omega]
  simp[a,show¬j<=k+1 by omega]
theorem Qy {l:List (List Int)} {refs:List Int} {r:Int} (c:r∈refs) (b:0<=r) (d:r<=l.length):(nn l refs l.length).getD r.toNat 0=fx l refs r:=by
 rw[N7 _ _ _ _ ω];unfold fx
 by_cases a:r=0
 ·subst a;simp
 rw[if_neg a,if_pos ⟨ω,ω,by rw[Int.toNat_of_nonneg b];simpa using c⟩]
theorem ka {l:List (List Int)} {refs:List Int} {k:Nat} (h:refs.contains ((k:Int)+1)=true):di l refs (k+1)=di l refs k++ [l.getD k []]:=by rw[di,if_pos h]
theorem sW {l:List (List Int)} {refs:List Int} {k:Nat} (h:refs.contains ((k:Int)+1)=false):di l refs (k+1)=di l refs k:=by rw[di,if_neg (by rw[h];decide)];simp
theorem N6 {l:List (List Int)} {refs:List Int} {k:Nat} (h:refs.contains ((k:Int)+1)=true):nn l refs (k+1)=(nn l refs k).set (k+1) (di l refs (k+1)).length:=by rw[nn,if_pos h]
theorem Qx {l:List (List Int)} {refs:List Int} {k:Nat} (h:refs.contains ((k:Int)+1)=false):nn l refs (k+1)=nn l refs k:=by rw[nn,if_neg (by rw[h];decide)]
end
section
end
