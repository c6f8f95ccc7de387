/- Texts of one proof, one behind the other: lemmas alone. -/
import Derived.JoinedOf
import Derived.Test.YthfkmcbblnbfaaaGreatDoorM36U

namespace Go.Proofs.YthfkmcbblnbfaaaGreatDoor
set_option maxRecDepth 100000
set_option maxHeartbeats 16000000
section
open Go.ChangeShapes Go.WideShapes Go.RowKit
theorem ve:Tryz.checked.prog.stopsHeard=true:=by kernel_rfl
theorem ut:Tryz.checked.prog.mayEnter=true:=by kernel_rfl
theorem xp:laidOutB Tryz.checked.prog=true:=by kernel_rfl
theorem vc:mapsRowed Tryz.checked.prog=true:=by kernel_rfl
end
end Go.Proofs.YthfkmcbblnbfaaaGreatDoor
