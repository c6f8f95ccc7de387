/- Lemmas of one proof. -/
import Derived.Test.YthfkmcbblnbfaaaGreatDoorM0R
import Derived.Laws.Rows
import Derived.Test.YthfkmcbblnbfaaaGreatDoorM6R

namespace Go.Proofs.YthfkmcbblnbfaaaGreatDoor
set_option maxRecDepth 100000
set_option maxHeartbeats 16000000
open Go.RowKit
section
section
variable {w:World} {F:Nat->Prop} {v:Value} {B:Nat}
theorem fI.set_int {xs:List Int} {g p cap:Nat} {cur:Array Value} {Fs:Nat->Nat->Prop} (h:fI w F v xs g p cap cur Fs) {j:Nat} (hj:j<xs.length) {x:Int} (hx:aH x) :
  ∃cur' Fs',fI (w.setCell ⟨g,p+j,none⟩ (.int .i64 x)) F v (xs.set j x) g p cap cur' Fs':=by
 have hn:=h.hn
 have hs:=h.hs
 have hk:aE.k Int=1:=rfl
 have hno:∀i b,i<xs.length->¬Fs i b:=fun i b hi hb=>(h.el i _ (ap hi)).2 b hb
 have hg':=heap_setCell_same w g (p+j) cur (Ow.ty Int) (.int .i64 x) h.hg
 have hu:=h.upd (w':=w.setCell ⟨g,p+j,none⟩ (.int .i64 x)) (i:=j) hj (cur':=cur.setIfInBounds (p+j) (.int .i64 x)) (Fi:=fun _=>False) (x':=x) hg' (by simp)
  (fun q hq=>by
   rw[hk,ti] at hq
   rw[Array.getElem?_setIfInBounds,if_neg (by omega)])
  (fun i b hi _ hb=>(hno i b hi hb).elim)
  (by
   refine⟨⟨?_,hx⟩,fun _ h=>h⟩
   apply fq
   intro m
   rw[hk,ti]
   by_cases hm:m<1
   ·obtain rfl:m=0:=by omega
    rw[gg _ _ _ _ (by omega),wQ,Array.getElem?_setIfInBounds,if_pos rfl,if_pos (by rw[hk] at hs;omega)]
    rfl
   rw[aW (by rw[aA];omega),aW (by simp;omega)])
  (fun _ hb=>hb.elim)
 refine⟨_,_,hu.cong fun b=>?_⟩
 rw[h.hF b]
 constructor
 ·rintro(rfl | ⟨i,hi,_,hb⟩ | hb)
  ·exact .inl rfl
  ·exact .inr ⟨i,hi,hb⟩
  exact hb.elim
 rintro(rfl | ⟨i,hi,hb⟩)
 ·exact .inl rfl
 exact(hno i b hi hb).elim
end
end
