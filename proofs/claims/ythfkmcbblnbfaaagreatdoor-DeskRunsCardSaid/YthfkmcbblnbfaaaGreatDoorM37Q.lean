/- Lemmas of one proof. -/
import Derived.JoinedOf
import Derived.Test.YthfkmcbblnbfaaaGreatDoorM31Q
import Derived.Test.YthfkmcbblnbfaaaGreatDoorM33Q

namespace Go.Proofs.YthfkmcbblnbfaaaGreatDoor
set_option maxRecDepth 100000
set_option maxHeartbeats 16000000
section
open Go.ChangeShapes Go.WideShapes Go.RowKit
theorem C3:Tryz.checked.prog.stopsHeard=true:=by kernel_rfl
theorem Cc:Tryz.checked.prog.mayEnter=true:=by kernel_rfl
theorem Fm:laidOutB Tryz.checked.prog=true:=by kernel_rfl
theorem C2:mapsRowed Tryz.checked.prog=true:=by kernel_rfl
end
