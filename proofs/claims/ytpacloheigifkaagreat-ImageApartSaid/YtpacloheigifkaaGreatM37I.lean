/- Texts of one proof, one behind the other: lemmas alone. -/
import Derived.JoinedOf
import Derived.Test.YtpacloheigifkaaGreatM36I

namespace Go.Proofs.YtpacloheigifkaaGreat
section
open Go.ChangeShapes Go.WideShapes Go.RowKit
theorem nB:Tryz.checked.prog.stopsHeard=true:=by kernel_rfl
theorem mJ:Tryz.checked.prog.mayEnter=true:=by kernel_rfl
theorem oY:laidOutB Tryz.checked.prog=true:=by kernel_rfl
theorem nz:mapsRowed Tryz.checked.prog=true:=by kernel_rfl
end
end Go.Proofs.YtpacloheigifkaaGreat
