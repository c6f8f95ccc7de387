/- Lemmas of one proof. -/
import Derived.Test.YthfkmcbblnbfaaaGreatDoorM0R
import Derived.RangeFuncNested
import Derived.RangeFuncBound
import Derived.RangeFuncCalls
import Derived.RangeFuncLeaves
import Derived.Shelf.Abstract
import Derived.Shelf.RegionOpen
import Derived.OwnWalkIn
import Derived.TacticsInMore
import Derived.LoopNIn
import Derived.LoopIn
import Derived.Test.YthfkmcbblnbfaaaGreatDoorM5R

namespace Go.Proofs.YthfkmcbblnbfaaaGreatDoor
set_option maxRecDepth 100000
set_option maxHeartbeats 16000000
section
open Go.RowKit Go.Shelf
attribute [local go_sem] Oper.semAt_some

def kc (W:World) (bs:Nat) (r:List UInt8):Prop:=W.heap[bs]? =some (.cells #[.string ⟨r.toArray⟩] 9 (0,0))
theorem kc.cell {W:World} {bs:Nat} {r:List UInt8} (h:kc W bs r):W.cell? ⟨bs,0,none⟩=some (.string ⟨r.toArray⟩):=by unfold kc at h;simp[World.cell?,h]
theorem kc.frozen {W:World} {bs:Nat} {r:List UInt8} (h:kc W bs r):W.frozen? ⟨bs,0,none⟩=false:=by unfold kc at h;simp[World.frozen?,h]
theorem kc.lt {W:World} {bs:Nat} {r:List UInt8} (h:kc W bs r):bs<W.heap.size:=(de.1 h).1
theorem kc.below {W W':World} {bs:Nat} {r:List UInt8} (h:kc W bs r) (hb:Below W.heap.size W W'):kc W' bs r:=(hb.block bs h.lt).trans h
theorem kc.alloc {W:World} {bs:Nat} {r:List UInt8} (h:kc W bs r) (o:Obj):kc (W.alloc o) bs r:=(Below.heap_alloc W o bs h.lt).trans h
theorem kc.set {W:World} {bs:Nat} {r:List UInt8} (h:kc W bs r) (r':List UInt8):kc (W.setCell ⟨bs,0,none⟩ (.string ⟨r'.toArray⟩)) bs r':=by
 unfold kc at h⊢
 simp[World.setCell,Array.getElem?_modify,h]
end
