/- Texts of one proof, one behind the other: lemmas alone. -/
import Derived.JoinedOf
import Derived.Test.YtpacloheigifkaaGreatM36C

namespace Go.Proofs.YtpacloheigifkaaGreat
section
open Go.ChangeShapes Go.WideShapes Go.RowKit
theorem tH:Tryz.checked.prog.stopsHeard=true:=by kernel_rfl
theorem sx:Tryz.checked.prog.mayEnter=true:=by kernel_rfl
theorem vt:laidOutB Tryz.checked.prog=true:=by kernel_rfl
theorem tG:mapsRowed Tryz.checked.prog=true:=by kernel_rfl
end
end Go.Proofs.YtpacloheigifkaaGreat
