/- Texts of one proof, one behind the other: lemmas alone. -/
import Derived.JoinedOf
import Derived.Test.YtpacloheigifkaaGreatM36A

namespace Go.Proofs.YtpacloheigifkaaGreat
section
open Go.ChangeShapes Go.WideShapes Go.RowKit
theorem oH:Tryz.checked.prog.stopsHeard=true:=by kernel_rfl
theorem nO:Tryz.checked.prog.mayEnter=true:=by kernel_rfl
theorem qi:laidOutB Tryz.checked.prog=true:=by kernel_rfl
theorem oG:mapsRowed Tryz.checked.prog=true:=by kernel_rfl
end
end Go.Proofs.YtpacloheigifkaaGreat
