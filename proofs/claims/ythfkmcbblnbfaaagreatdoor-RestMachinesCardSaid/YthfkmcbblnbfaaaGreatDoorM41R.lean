/- Lemmas of one proof. -/
import Derived.JoinedOf
import Derived.Test.YthfkmcbblnbfaaaGreatDoorM40R

namespace Go.Proofs.YthfkmcbblnbfaaaGreatDoor
set_option maxRecDepth 100000
set_option maxHeartbeats 16000000
section
open Go.ChangeShapes Go.WideShapes Go.RowKit
theorem Ed:Tryz.checked.prog.stopsHeard=true:=by kernel_rfl
theorem Di:Tryz.checked.prog.mayEnter=true:=by kernel_rfl
theorem GI:laidOutB Tryz.checked.prog=true:=by kernel_rfl
theorem Ec:mapsRowed Tryz.checked.prog=true:=by kernel_rfl
end
