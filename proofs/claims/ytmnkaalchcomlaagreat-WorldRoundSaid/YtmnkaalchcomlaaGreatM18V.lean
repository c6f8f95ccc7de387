/- Texts of one proof, one behind the other: lemmas alone. -/
import Derived.Test.YtmnkaalchcomlaaGreatProg
import Derived.Test.YtmnkaalchcomlaaGreatM14V

-- Plc
/- Where the fields of structs lie that are put together. -/
namespace Go.Proofs.YtmnkaalchcomlaaGreat
open Go.RowKit
theorem plT24 : Places Tryz.prog 24 #[(0, 1)] := ⟨_, Tryz.underlying24, fun w => by simp [Tryz.sizeOf22]⟩
theorem plT29 : Places Tryz.prog 29 #[(0, 1), (1, 1), (2, 1), (3, 1), (4, 1), (5, 1)] := ⟨_, Tryz.underlying29, fun w => by simp [Tryz.sizeOf25, Tryz.sizeOf26, Tryz.sizeOf27, Tryz.sizeOf3]⟩
theorem plT51 : Places Tryz.prog 51 #[(0, 1), (1, 1)] := ⟨_, Tryz.underlying51, fun w => by simp [Tryz.sizeOf3]⟩
theorem plT66 : Places Tryz.prog 66 #[(0, 1), (1, 1), (2, 1), (3, 1)] := ⟨_, Tryz.underlying66, fun w => by simp [Tryz.sizeOf3, Tryz.sizeOf64]⟩
theorem plT68 : Places Tryz.prog 68 #[(0, 1), (1, 1)] := ⟨_, Tryz.underlying68, fun w => by simp [Tryz.sizeOf3, Tryz.sizeOf4]⟩
theorem plT77 : Places Tryz.prog 77 #[(0, 1)] := ⟨_, Tryz.underlying77, fun w => by simp [Tryz.sizeOf75]⟩
theorem plT113 : Places Tryz.prog 113 #[(0, 1), (1, 1), (2, 1), (3, 1)] := ⟨_, Tryz.underlying113, fun w => by simp [Tryz.sizeOf111, Tryz.sizeOf27, Tryz.sizeOf3]⟩
theorem plT128 : Places Tryz.prog 128 #[(0, 1), (1, 1)] := ⟨_, Tryz.underlying128, fun w => by simp [Tryz.sizeOf27, Tryz.sizeOf3]⟩
theorem plT138 : Places Tryz.prog 138 #[(0, 1)] := ⟨_, Tryz.underlying138, fun w => by simp [Tryz.sizeOf77]⟩
theorem plT159 : Places Tryz.prog 159 #[(0, 6), (6, 1)] := ⟨_, Tryz.underlying159, fun w => by simp [Tryz.sizeOf24, Tryz.sizeOf29]⟩
theorem plT169 : Places Tryz.prog 169 #[(0, 6), (6, 1)] := ⟨_, Tryz.underlying169, fun w => by simp [Tryz.sizeOf24, Tryz.sizeOf29]⟩
theorem plT176 : Places Tryz.prog 176 #[(0, 6), (6, 1)] := ⟨_, Tryz.underlying176, fun w => by simp [Tryz.sizeOf29, Tryz.sizeOf3]⟩
theorem plT191 : Places Tryz.prog 191 #[(0, 1), (1, 4), (5, 1), (6, 1), (7, 1)] := ⟨_, Tryz.underlying191, fun w => by simp [Tryz.sizeOf113, Tryz.sizeOf162, Tryz.sizeOf24, Tryz.sizeOf26, Tryz.sizeOf27]⟩
theorem plT219 : Places Tryz.prog 219 #[(0, 1), (1, 1)] := ⟨_, Tryz.underlying219, fun w => by simp [Tryz.sizeOf27, Tryz.sizeOf4]⟩
end Go.Proofs.YtmnkaalchcomlaaGreat
-- Tab
/- Where the fields of structs lie. -/
namespace Go.Proofs.YtmnkaalchcomlaaGreat
open Go.RowKit
def tab : FTab := [(24, 0, 0), (29, 0, 0), (29, 1, 1), (29, 2, 2), (29, 3, 3), (29, 4, 4), (29, 5, 5), (51, 0, 0), (51, 1, 1), (66, 0, 0), (66, 1, 1), (66, 2, 2), (66, 3, 3), (68, 0, 0), (68, 1, 1), (77, 0, 0), (113, 0, 0), (113, 1, 1), (113, 2, 2), (113, 3, 3), (128, 0, 0), (128, 1, 1), (138, 0, 0), (146, 0, 0), (155, 0, 0), (159, 0, 0), (159, 1, 6), (169, 0, 0), (169, 1, 6), (176, 0, 0), (176, 1, 6), (191, 0, 0), (191, 1, 1), (191, 2, 5), (191, 3, 6), (191, 4, 7), (219, 0, 0), (219, 1, 1)]
theorem fa24_0 (a : Addr) (w : World) : (Instr.fieldAt 24 (.pointer (some a)) 0).run Tryz.prog w = .ok (.pointer (some (a.add 0))) w := by kernel_rfl
theorem fa29_0 (a : Addr) (w : World) : (Instr.fieldAt 29 (.pointer (some a)) 0).run Tryz.prog w = .ok (.pointer (some (a.add 0))) w := by kernel_rfl
theorem fa29_1 (a : Addr) (w : World) : (Instr.fieldAt 29 (.pointer (some a)) 1).run Tryz.prog w = .ok (.pointer (some (a.add 1))) w := by kernel_rfl
theorem fa29_2 (a : Addr) (w : World) : (Instr.fieldAt 29 (.pointer (some a)) 2).run Tryz.prog w = .ok (.pointer (some (a.add 2))) w := by kernel_rfl
theorem fa29_3 (a : Addr) (w : World) : (Instr.fieldAt 29 (.pointer (some a)) 3).run Tryz.prog w = .ok (.pointer (some (a.add 3))) w := by kernel_rfl
theorem fa29_4 (a : Addr) (w : World) : (Instr.fieldAt 29 (.pointer (some a)) 4).run Tryz.prog w = .ok (.pointer (some (a.add 4))) w := by kernel_rfl
theorem fa29_5 (a : Addr) (w : World) : (Instr.fieldAt 29 (.pointer (some a)) 5).run Tryz.prog w = .ok (.pointer (some (a.add 5))) w := by kernel_rfl
theorem fa51_0 (a : Addr) (w : World) : (Instr.fieldAt 51 (.pointer (some a)) 0).run Tryz.prog w = .ok (.pointer (some (a.add 0))) w := by kernel_rfl
theorem fa51_1 (a : Addr) (w : World) : (Instr.fieldAt 51 (.pointer (some a)) 1).run Tryz.prog w = .ok (.pointer (some (a.add 1))) w := by kernel_rfl
theorem fa66_0 (a : Addr) (w : World) : (Instr.fieldAt 66 (.pointer (some a)) 0).run Tryz.prog w = .ok (.pointer (some (a.add 0))) w := by kernel_rfl
theorem fa66_1 (a : Addr) (w : World) : (Instr.fieldAt 66 (.pointer (some a)) 1).run Tryz.prog w = .ok (.pointer (some (a.add 1))) w := by kernel_rfl
theorem fa66_2 (a : Addr) (w : World) : (Instr.fieldAt 66 (.pointer (some a)) 2).run Tryz.prog w = .ok (.pointer (some (a.add 2))) w := by kernel_rfl
theorem fa66_3 (a : Addr) (w : World) : (Instr.fieldAt 66 (.pointer (some a)) 3).run Tryz.prog w = .ok (.pointer (some (a.add 3))) w := by kernel_rfl
theorem fa68_0 (a : Addr) (w : World) : (Instr.fieldAt 68 (.pointer (some a)) 0).run Tryz.prog w = .ok (.pointer (some (a.add 0))) w := by kernel_rfl
theorem fa68_1 (a : Addr) (w : World) : (Instr.fieldAt 68 (.pointer (some a)) 1).run Tryz.prog w = .ok (.pointer (some (a.add 1))) w := by kernel_rfl
theorem fa77_0 (a : Addr) (w : World) : (Instr.fieldAt 77 (.pointer (some a)) 0).run Tryz.prog w = .ok (.pointer (some (a.add 0))) w := by kernel_rfl
theorem fa113_0 (a : Addr) (w : World) : (Instr.fieldAt 113 (.pointer (some a)) 0).run Tryz.prog w = .ok (.pointer (some (a.add 0))) w := by kernel_rfl
theorem fa113_1 (a : Addr) (w : World) : (Instr.fieldAt 113 (.pointer (some a)) 1).run Tryz.prog w = .ok (.pointer (some (a.add 1))) w := by kernel_rfl
theorem fa113_2 (a : Addr) (w : World) : (Instr.fieldAt 113 (.pointer (some a)) 2).run Tryz.prog w = .ok (.pointer (some (a.add 2))) w := by kernel_rfl
theorem fa113_3 (a : Addr) (w : World) : (Instr.fieldAt 113 (.pointer (some a)) 3).run Tryz.prog w = .ok (.pointer (some (a.add 3))) w := by kernel_rfl
theorem fa128_0 (a : Addr) (w : World) : (Instr.fieldAt 128 (.pointer (some a)) 0).run Tryz.prog w = .ok (.pointer (some (a.add 0))) w := by kernel_rfl
theorem fa128_1 (a : Addr) (w : World) : (Instr.fieldAt 128 (.pointer (some a)) 1).run Tryz.prog w = .ok (.pointer (some (a.add 1))) w := by kernel_rfl
theorem fa138_0 (a : Addr) (w : World) : (Instr.fieldAt 138 (.pointer (some a)) 0).run Tryz.prog w = .ok (.pointer (some (a.add 0))) w := by kernel_rfl
theorem fa146_0 (a : Addr) (w : World) : (Instr.fieldAt 146 (.pointer (some a)) 0).run Tryz.prog w = .ok (.pointer (some (a.add 0))) w := by kernel_rfl
theorem fa155_0 (a : Addr) (w : World) : (Instr.fieldAt 155 (.pointer (some a)) 0).run Tryz.prog w = .ok (.pointer (some (a.add 0))) w := by kernel_rfl
theorem fa159_0 (a : Addr) (w : World) : (Instr.fieldAt 159 (.pointer (some a)) 0).run Tryz.prog w = .ok (.pointer (some (a.add 0))) w := by kernel_rfl
theorem fa159_1 (a : Addr) (w : World) : (Instr.fieldAt 159 (.pointer (some a)) 1).run Tryz.prog w = .ok (.pointer (some (a.add 6))) w := by kernel_rfl
theorem fa169_0 (a : Addr) (w : World) : (Instr.fieldAt 169 (.pointer (some a)) 0).run Tryz.prog w = .ok (.pointer (some (a.add 0))) w := by kernel_rfl
theorem fa169_1 (a : Addr) (w : World) : (Instr.fieldAt 169 (.pointer (some a)) 1).run Tryz.prog w = .ok (.pointer (some (a.add 6))) w := by kernel_rfl
theorem fa176_0 (a : Addr) (w : World) : (Instr.fieldAt 176 (.pointer (some a)) 0).run Tryz.prog w = .ok (.pointer (some (a.add 0))) w := by kernel_rfl
theorem fa176_1 (a : Addr) (w : World) : (Instr.fieldAt 176 (.pointer (some a)) 1).run Tryz.prog w = .ok (.pointer (some (a.add 6))) w := by kernel_rfl
theorem fa191_0 (a : Addr) (w : World) : (Instr.fieldAt 191 (.pointer (some a)) 0).run Tryz.prog w = .ok (.pointer (some (a.add 0))) w := by kernel_rfl
theorem fa191_1 (a : Addr) (w : World) : (Instr.fieldAt 191 (.pointer (some a)) 1).run Tryz.prog w = .ok (.pointer (some (a.add 1))) w := by kernel_rfl
theorem fa191_2 (a : Addr) (w : World) : (Instr.fieldAt 191 (.pointer (some a)) 2).run Tryz.prog w = .ok (.pointer (some (a.add 5))) w := by kernel_rfl
theorem fa191_3 (a : Addr) (w : World) : (Instr.fieldAt 191 (.pointer (some a)) 3).run Tryz.prog w = .ok (.pointer (some (a.add 6))) w := by kernel_rfl
theorem fa191_4 (a : Addr) (w : World) : (Instr.fieldAt 191 (.pointer (some a)) 4).run Tryz.prog w = .ok (.pointer (some (a.add 7))) w := by kernel_rfl
theorem fa219_0 (a : Addr) (w : World) : (Instr.fieldAt 219 (.pointer (some a)) 0).run Tryz.prog w = .ok (.pointer (some (a.add 0))) w := by kernel_rfl
theorem fa219_1 (a : Addr) (w : World) : (Instr.fieldAt 219 (.pointer (some a)) 1).run Tryz.prog w = .ok (.pointer (some (a.add 1))) w := by kernel_rfl
theorem tab_ok : FTab.Ok Tryz.prog tab := by
 intro x hx
 simp only [tab, List.mem_cons, List.not_mem_nil, or_false] at hx
 rcases hx with rfl | rfl | rfl | rfl | rfl | rfl | rfl | rfl | rfl | rfl | rfl | rfl | rfl | rfl | rfl | rfl | rfl | rfl | rfl | rfl | rfl | rfl | rfl | rfl | rfl | rfl | rfl | rfl | rfl | rfl | rfl | rfl | rfl | rfl | rfl | rfl | rfl | rfl
 ·exact fa24_0
 ·exact fa29_0
 ·exact fa29_1
 ·exact fa29_2
 ·exact fa29_3
 ·exact fa29_4
 ·exact fa29_5
 ·exact fa51_0
 ·exact fa51_1
 ·exact fa66_0
 ·exact fa66_1
 ·exact fa66_2
 ·exact fa66_3
 ·exact fa68_0
 ·exact fa68_1
 ·exact fa77_0
 ·exact fa113_0
 ·exact fa113_1
 ·exact fa113_2
 ·exact fa113_3
 ·exact fa128_0
 ·exact fa128_1
 ·exact fa138_0
 ·exact fa146_0
 ·exact fa155_0
 ·exact fa159_0
 ·exact fa159_1
 ·exact fa169_0
 ·exact fa169_1
 ·exact fa176_0
 ·exact fa176_1
 ·exact fa191_0
 ·exact fa191_1
 ·exact fa191_2
 ·exact fa191_3
 ·exact fa191_4
 ·exact fa219_0
 ·exact fa219_1
end Go.Proofs.YtmnkaalchcomlaaGreat
