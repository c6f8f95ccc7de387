/- Texts of one proof, one behind the other: lemmas alone. -/
import Derived.Test.YtpacloheigifkaaGreatM11V
import Derived.Test.YtpacloheigifkaaGreatM4V

-- ReadOp
namespace Go.Proofs.YtpacloheigifkaaGreat
open Go.ChangeShapes Go.WideShapes Go.ChangeAt Go.RowKit Go.Deep
theorem Tryz.cOp : Tryz.prog.cellsOf 49 = 2 := by kernel_rfl
theorem Tryz.bOp : Tryz.prog.bytesOf 49 = 16 := by kernel_rfl
theorem Tryz.cInt : Tryz.prog.cellsOf 3 = 1 := by kernel_rfl
set_option maxRecDepth 100000 in
theorem rd_op : Rd 49 MOp := by
 intro H enc W fuel cs x h hw
 obtain ⟨xs, n, _, rfl, hcl, hxl, hf⟩ := DataW.trod_struct Tryz.underlying49 h
 rw [Tryz.cOp] at hcl
 obtain ⟨c0, c1, rfl⟩ : ∃ c0 c1, cs = [c0, c1] := by
  match cs, hcl with
  | [c0, c1], _ => exact ⟨c0, c1, rfl⟩
 match xs, hxl with
 | [y0, y1], _ =>
  have h0 := hf 0 _ rfl
  have h1 := hf 1 _ rfl
  simp [Tryz.cInt] at h0 h1
  obtain ⟨n0, e0, he0, hi0⟩ := DataW.trod_int Tryz.underlying3 h0
  obtain ⟨n1, e1, he1, hi1⟩ := DataW.trod_int Tryz.underlying3 h1
  simp at e0 e1
  subst e0 e1
  exact ⟨⟨n0, n1⟩, rfl, i64_of_wf hi0, i64_of_wf hi1⟩
theorem rd_ops : Rd 108 (List MOp) := rd_slice rd_op Tryz.underlying108 Tryz.cOp (by decide) (by rw [Tryz.bOp]; decide)
theorem rd_i : Rd 3 Int := rd_int Tryz.underlying3
end Go.Proofs.YtpacloheigifkaaGreat
