/- Lemmas of one proof. -/
import Derived.Test.YthfkmcbblnbfaaaGreatDoorM0W
import Derived.Laws.Rows
import Derived.Test.YthfkmcbblnbfaaaGreatDoorM6W

namespace Go.Proofs.YthfkmcbblnbfaaaGreatDoor
set_option maxRecDepth 100000
set_option maxHeartbeats 16000000
open Go.RowKit
section
section
variable {w:World} {F:Nat->Prop} {v:Value} {B:Nat}
theorem gK.set_int {xs:List Int} {g p cap:Nat} {e:Array Value} {i:Nat->Nat->Prop} (h:gK w F v xs g p cap e i) {j:Nat} (o:j<xs.length) {x:Int} (t:aI x) :
  ∃cur' m,gK (w.setCell ⟨g,p+j,none⟩ (.int .i64 x)) F v (xs.set j x) g p cap cur' m:=by
 have:=h.hn;have r:=h.hs;have f:aG.k Int=1:=rfl;have k:∀b c,b<xs.length->¬i b c:=fun b c d a=>(h.el b _ (aq d)).2 c a;have n:=heap_setCell_same w g (p+j) e (Ow.ty Int) (.int .i64 x) h.hg;have s:=h.upd (w':=w.setCell ⟨g,p+j,none⟩ (.int .i64 x)) (i:=j) o (cur':=e.setIfInBounds (p+j) (.int .i64 x)) (Fi:=fun _=>False) (x':=x) n (by simp)
  (fun z q=>by
   rw[f,qs] at q;rw[Array.getElem?_setIfInBounds,if_neg (by omega)])
  (fun b c d _ a=>(k b c d a).elim)
  (by
   refine⟨⟨?_,t⟩,fun _ h=>h⟩
   apply fI
   intro l;rw[f,qs]
   by_cases u:l<1
   ·obtain rfl:l=0:=by omega
    rw[hU _ _ _ _ (by omega),zx,Array.getElem?_setIfInBounds,if_pos rfl,if_pos (by rw[f] at r;omega)];rfl
   rw[bh (by rw[aB];omega),bh (by simp;omega)])
  (fun _ a=>a.elim)
 refine⟨_,_,s.cong fun c=>?_⟩;rw[h.hF c];constructor
 ·rintro(rfl | ⟨b,d,_,a⟩ | a)
  ·exact .inl rfl
  ·exact .inr ⟨b,d,a⟩
  exact a.elim
 rintro(rfl | ⟨b,d,a⟩)
 ·exact .inl rfl
 exact(k b c d a).elim
end
end
