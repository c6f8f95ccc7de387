/- Texts of one proof, one behind the other: lemmas alone. -/
import Derived.Test.YtpacloheigifkaaGreatM13D
import Derived.Test.YtpacloheigifkaaGreatM6D

namespace Go.Proofs.YtpacloheigifkaaGreat
open Go.RowKit
section
def fg (w:World) (g:Nat) (xs:List Int):Prop:=w.heap[g]? =some (.cells (xs.map (Value.int .i64)).toArray 3 (0,0))
section
variable {w w':World} {g:Nat} {xs:List Int}
theorem fg.lt (h:fg w g xs):g<w.heap.size:=(Array.getElem?_eq_some_iff.1 h).1
theorem fg.cell (h:fg w g xs) {j:Nat} (hj:j<xs.length):w.cell? ⟨g,j,none⟩=some (.int .i64 (xs.getD j 0)):=by
 unfold fg at h
 simp[World.cell?,h,List.getD_eq_getElem?_getD,hj]
theorem fg.frozen (h:fg w g xs) (j:Nat):w.frozen? ⟨g,j,none⟩=false:=by
 unfold fg at h
 simp[World.frozen?,h]
theorem fg.set (h:fg w g xs) (j:Nat) (x:Int):fg (w.setCell ⟨g,j,none⟩ (.int .i64 x)) g (xs.set j x):=by
 have:=heap_setCell_same w g j _ _ (.int .i64 x) h
 unfold fg
 rw[this,List.setIfInBounds_toArray,List.map_set]
theorem fg.frame (h:fg w g xs) (hf:w'.heap[g]? =w.heap[g]?):fg w' g xs:=hf.trans h
theorem fg.via (h:fg w g xs) (hb:Below w.heap.size w w'):fg w' g xs:=h.frame (hb.block g h.lt)
theorem fg.sl (h:fg w g xs) (hi:∀x∈xs,aX x) (hl:xs.length≤140737488355328):Sl w (.slice (some ⟨g,0,none⟩) xs.length xs.length) xs:=by
 refine⟨_,_,rfl,Nat.le_refl _,by unfold maxLen;omega,hl,fun _=>⟨_,_,rfl,h.lt,fun i x hx=>⟨[.int .i64 x],⟨rfl,hi x (List.mem_of_getElem? hx)⟩,fun j u hu=>?_⟩⟩⟩
 match j with
 | 0=>
  simp at hu
  subst hu
  have hi:=(List.getElem?_eq_some_iff.1 hx).1
  have:=h.cell hi
  rw[List.getD_eq_getElem?_getD,hx] at this
  simpa [aR.k] using this
 | j+1=>simp at hu
end
def Do (l:List (List Int)) (refs:List Int):Nat→List Int
 | 0=>List.replicate (l.length+1) 0
 | k+1=>if refs.contains ((k:Int)+1) then (Do l refs k).set (k+1) (jt l refs (k+1)).length else Do l refs k
theorem wS {l:List (List Int)} {refs:List Int} {k:Nat} (h:refs.contains ((k:Int)+1)=true):jt l refs (k+1)=jt l refs k++ [l.getD k []]:=by rw[jt,if_pos h]
end
section
def Fb (L:Nat) (r:Int):Bool:=decide (r<0) || decide ((L:Int)<r)
end
end Go.Proofs.YtpacloheigifkaaGreat
