/- Where the fields of structs lie. -/
import Derived.Test.YtjojipeodionmaaProg
import Derived.Test.YtjojipeodionmaaW5
namespace Go.Proofs.Ytjojipeodionmaa
open Go.RowKit

def tab : FTab := [(23, 0, 0), (23, 1, 1), (66, 0, 0), (96, 0, 0), (96, 1, 1), (96, 2, 2), (96, 3, 3), (98, 0, 0), (98, 1, 1), (121, 0, 0), (121, 1, 1), (144, 0, 0), (144, 1, 1), (144, 2, 5), (144, 3, 6), (144, 4, 7), (156, 0, 0), (156, 1, 1)]
theorem fa23_0 (a : Addr) (w : World) : (Instr.fieldAt 23 (.pointer (some a)) 0).run Try.prog w = .ok (.pointer (some (a.add 0))) w := by kernel_rfl
theorem fa23_1 (a : Addr) (w : World) : (Instr.fieldAt 23 (.pointer (some a)) 1).run Try.prog w = .ok (.pointer (some (a.add 1))) w := by kernel_rfl
theorem fa66_0 (a : Addr) (w : World) : (Instr.fieldAt 66 (.pointer (some a)) 0).run Try.prog w = .ok (.pointer (some (a.add 0))) w := by kernel_rfl
theorem fa96_0 (a : Addr) (w : World) : (Instr.fieldAt 96 (.pointer (some a)) 0).run Try.prog w = .ok (.pointer (some (a.add 0))) w := by kernel_rfl
theorem fa96_1 (a : Addr) (w : World) : (Instr.fieldAt 96 (.pointer (some a)) 1).run Try.prog w = .ok (.pointer (some (a.add 1))) w := by kernel_rfl
theorem fa96_2 (a : Addr) (w : World) : (Instr.fieldAt 96 (.pointer (some a)) 2).run Try.prog w = .ok (.pointer (some (a.add 2))) w := by kernel_rfl
theorem fa96_3 (a : Addr) (w : World) : (Instr.fieldAt 96 (.pointer (some a)) 3).run Try.prog w = .ok (.pointer (some (a.add 3))) w := by kernel_rfl
theorem fa98_0 (a : Addr) (w : World) : (Instr.fieldAt 98 (.pointer (some a)) 0).run Try.prog w = .ok (.pointer (some (a.add 0))) w := by kernel_rfl
theorem fa98_1 (a : Addr) (w : World) : (Instr.fieldAt 98 (.pointer (some a)) 1).run Try.prog w = .ok (.pointer (some (a.add 1))) w := by kernel_rfl
theorem fa121_0 (a : Addr) (w : World) : (Instr.fieldAt 121 (.pointer (some a)) 0).run Try.prog w = .ok (.pointer (some (a.add 0))) w := by kernel_rfl
theorem fa121_1 (a : Addr) (w : World) : (Instr.fieldAt 121 (.pointer (some a)) 1).run Try.prog w = .ok (.pointer (some (a.add 1))) w := by kernel_rfl
theorem fa144_0 (a : Addr) (w : World) : (Instr.fieldAt 144 (.pointer (some a)) 0).run Try.prog w = .ok (.pointer (some (a.add 0))) w := by kernel_rfl
theorem fa144_1 (a : Addr) (w : World) : (Instr.fieldAt 144 (.pointer (some a)) 1).run Try.prog w = .ok (.pointer (some (a.add 1))) w := by kernel_rfl
theorem fa144_2 (a : Addr) (w : World) : (Instr.fieldAt 144 (.pointer (some a)) 2).run Try.prog w = .ok (.pointer (some (a.add 5))) w := by kernel_rfl
theorem fa144_3 (a : Addr) (w : World) : (Instr.fieldAt 144 (.pointer (some a)) 3).run Try.prog w = .ok (.pointer (some (a.add 6))) w := by kernel_rfl
theorem fa144_4 (a : Addr) (w : World) : (Instr.fieldAt 144 (.pointer (some a)) 4).run Try.prog w = .ok (.pointer (some (a.add 7))) w := by kernel_rfl
theorem fa156_0 (a : Addr) (w : World) : (Instr.fieldAt 156 (.pointer (some a)) 0).run Try.prog w = .ok (.pointer (some (a.add 0))) w := by kernel_rfl
theorem fa156_1 (a : Addr) (w : World) : (Instr.fieldAt 156 (.pointer (some a)) 1).run Try.prog w = .ok (.pointer (some (a.add 1))) w := by kernel_rfl
theorem tab_ok : FTab.Ok Try.prog tab := by
  intro x hx
  simp only [tab, List.mem_cons, List.not_mem_nil, or_false] at hx
  rcases hx with rfl | rfl | rfl | rfl | rfl | rfl | rfl | rfl | rfl | rfl | rfl | rfl | rfl | rfl | rfl | rfl | rfl | rfl
  · exact fa23_0
  · exact fa23_1
  · exact fa66_0
  · exact fa96_0
  · exact fa96_1
  · exact fa96_2
  · exact fa96_3
  · exact fa98_0
  · exact fa98_1
  · exact fa121_0
  · exact fa121_1
  · exact fa144_0
  · exact fa144_1
  · exact fa144_2
  · exact fa144_3
  · exact fa144_4
  · exact fa156_0
  · exact fa156_1
end Go.Proofs.Ytjojipeodionmaa
