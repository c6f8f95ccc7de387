/- Texts of one proof, one behind the other: lemmas alone. -/
import Derived.JoinedOf
import Derived.Test.YtpacloheigifkaaGreatM36D

namespace Go.Proofs.YtpacloheigifkaaGreat
section
open Go.ChangeShapes Go.WideShapes Go.RowKit
theorem vq:Tryz.checked.prog.stopsHeard=true:=by kernel_rfl
theorem ut:Tryz.checked.prog.mayEnter=true:=by kernel_rfl
theorem xv:laidOutB Tryz.checked.prog=true:=by kernel_rfl
theorem vp:mapsRowed Tryz.checked.prog=true:=by kernel_rfl
end
end Go.Proofs.YtpacloheigifkaaGreat
