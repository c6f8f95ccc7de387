/- Texts of one proof, one behind the other: lemmas alone. -/
import Derived.JoinedOf
import Derived.Test.YtpacloheigifkaaGreatM35V

-- Pf
/- Facts of the whole program, each by itself. -/
namespace Go.Proofs.YtpacloheigifkaaGreat
open Go.ChangeShapes Go.WideShapes Go.RowKit
theorem Tryz.heardP : Tryz.checked.prog.stopsHeard = true := by kernel_rfl
theorem Tryz.entersP : Tryz.checked.prog.mayEnter = true := by kernel_rfl
theorem Tryz.laidP : laidOutB Tryz.checked.prog = true := by kernel_rfl
theorem Tryz.rowedP : mapsRowed Tryz.checked.prog = true := by kernel_rfl
end Go.Proofs.YtpacloheigifkaaGreat
