import Derived.Test.YtjojipeodionmaaRead
import Derived.Test.YtjojipeodionmaaOp3
namespace Go.Proofs.Ytjojipeodionmaa
open Go.ChangeShapes Go.WideShapes Go.ChangeAt Go.RowKit Go.Deep

theorem Try.cOp : Try.prog.cellsOf 23 = 2 := by kernel_rfl
theorem Try.bOp : Try.prog.bytesOf 23 = 16 := by kernel_rfl
theorem Try.cInt : Try.prog.cellsOf 3 = 1 := by kernel_rfl
set_option maxRecDepth 100000 in
theorem rd_op : Rd 23 MOp := by
  intro H enc W fuel cs x h hw
  obtain ⟨xs, n, _, rfl, hcl, hxl, hf⟩ := DataW.trod_struct Try.underlying23 h
  rw [Try.cOp] at hcl
  obtain ⟨c0, c1, rfl⟩ : ∃ c0 c1, cs = [c0, c1] := by
    match cs, hcl with
    | [c0, c1], _ => exact ⟨c0, c1, rfl⟩
  match xs, hxl with
  | [y0, y1], _ =>
    have h0 := hf 0 _ rfl
    have h1 := hf 1 _ rfl
    simp [Try.cInt] at h0 h1
    obtain ⟨n0, e0, he0, hi0⟩ := DataW.trod_int Try.underlying3 h0
    obtain ⟨n1, e1, he1, hi1⟩ := DataW.trod_int Try.underlying3 h1
    simp at e0 e1
    subst e0 e1
    exact ⟨⟨n0, n1⟩, rfl, i64_of_wf hi0, i64_of_wf hi1⟩
theorem rd_ops : Rd 24 (List MOp) := rd_slice rd_op Try.underlying24 Try.cOp (by decide) (by rw [Try.bOp]; decide)
theorem rd_i : Rd 3 Int := rd_int Try.underlying3
end Go.Proofs.Ytjojipeodionmaa
