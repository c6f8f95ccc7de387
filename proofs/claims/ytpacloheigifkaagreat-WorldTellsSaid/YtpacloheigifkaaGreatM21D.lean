/- Texts of one proof, one behind the other: lemmas alone. -/
import Derived.Deep.QuietTactic
import Derived.BigQuiet
import Derived.RangeFuncNested
import Derived.RangeFuncBound
import Derived.RangeFuncCalls
import Derived.RangeFuncLeaves
import Derived.Shelf.Abstract
import Derived.Shelf.RegionOpen
import Derived.OwnWalkIn
import Derived.TacticsInMore
import Derived.LoopNIn
import Derived.LoopIn
import Derived.Test.YtpacloheigifkaaGreatM4D

namespace Go.Proofs.YtpacloheigifkaaGreat
section
open Go.RowKit Go.Shelf
attribute [local go_sem] Oper.semAt_some

def ke (W:World) (bs:Nat) (r:List UInt8):Prop:=W.heap[bs]? =some (.cells #[.string ⟨r.toArray⟩] 9 (0,0))
theorem ke.cell {W:World} {bs:Nat} {r:List UInt8} (h:ke W bs r):W.cell? ⟨bs,0,none⟩=some (.string ⟨r.toArray⟩):=by unfold ke at h;simp[World.cell?,h]
theorem ke.frozen {W:World} {bs:Nat} {r:List UInt8} (h:ke W bs r):W.frozen? ⟨bs,0,none⟩=false:=by unfold ke at h;simp[World.frozen?,h]
theorem ke.lt {W:World} {bs:Nat} {r:List UInt8} (h:ke W bs r):bs<W.heap.size:=(Array.getElem?_eq_some_iff.1 h).1
theorem ke.below {W W':World} {bs:Nat} {r:List UInt8} (h:ke W bs r) (hb:Below W.heap.size W W'):ke W' bs r:=(hb.block bs h.lt).trans h
theorem ke.alloc {W:World} {bs:Nat} {r:List UInt8} (h:ke W bs r) (o:Obj):ke (W.alloc o) bs r:=(Below.heap_alloc W o bs h.lt).trans h
theorem ke.set {W:World} {bs:Nat} {r:List UInt8} (h:ke W bs r) (r':List UInt8):ke (W.setCell ⟨bs,0,none⟩ (.string ⟨r'.toArray⟩)) bs r':=by
 unfold ke at h⊢
 simp[World.setCell,Array.getElem?_modify,h]
end
end Go.Proofs.YtpacloheigifkaaGreat
