/- Arguments of the block statements, read as data. -/
import Derived.Test.YtjojipeodionmaaRead
namespace Go.Proofs.Ytjojipeodionmaa
open Go.ChangeShapes Go.WideShapes Go.ChangeAt Go.RowKit Go.Deep

theorem Try.cIntB : Try.prog.cellsOf 3 = 1 := by kernel_rfl
theorem Try.bIntB : Try.prog.bytesOf 3 = 8 := by kernel_rfl
theorem Try.cIntsB : Try.prog.cellsOf 41 = 1 := by kernel_rfl
theorem Try.bIntsB : Try.prog.bytesOf 41 = 24 := by kernel_rfl
theorem rd_i0 : Rd 3 Int := rd_int Try.underlying3
theorem rd_is : Rd 41 (List Int) := rd_slice rd_i0 Try.underlying41 Try.cIntB (by decide) (by rw [Try.bIntB]; decide)
theorem rd_iss : Rd 39 (List (List Int)) := rd_slice rd_is Try.underlying39 Try.cIntsB (by decide) (by rw [Try.bIntsB]; decide)
theorem reach_le {n b : Nat} (h : n * b ≤ reachBytes) : n * b ≤ 140737488355328 := by have := reachBytes_lt; omega
end Go.Proofs.Ytjojipeodionmaa
