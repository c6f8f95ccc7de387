/- Lemmas of one proof. -/
import Derived.JoinedOf
import Derived.Test.YthfkmcbblnbfaaaGreatDoorM37S

namespace Go.Proofs.YthfkmcbblnbfaaaGreatDoor
set_option maxRecDepth 100000
set_option maxHeartbeats 16000000
section
open Go.ChangeShapes Go.WideShapes Go.RowKit
theorem Db:Tryz.checked.prog.stopsHeard=true:=by kernel_rfl
theorem Cj:Tryz.checked.prog.mayEnter=true:=by kernel_rfl
theorem Fx:laidOutB Tryz.checked.prog=true:=by kernel_rfl
theorem Da:mapsRowed Tryz.checked.prog=true:=by kernel_rfl
end
