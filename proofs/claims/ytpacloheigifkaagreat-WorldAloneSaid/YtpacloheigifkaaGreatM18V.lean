/- Texts of one proof, one behind the other: lemmas alone. -/
import Derived.Test.YtpacloheigifkaaGreatProg
import Derived.Test.YtpacloheigifkaaGreatM14V

-- Plc
/- Where the fields of structs lie that are put together. -/
namespace Go.Proofs.YtpacloheigifkaaGreat
open Go.RowKit
theorem plT24 : Places Tryz.prog 24 #[(0, 1)] := ⟨_, Tryz.underlying24, fun w => by simp [Tryz.sizeOf22]⟩
theorem plT29 : Places Tryz.prog 29 #[(0, 1), (1, 1), (2, 1), (3, 1), (4, 1), (5, 1)] := ⟨_, Tryz.underlying29, fun w => by simp [Tryz.sizeOf25, Tryz.sizeOf26, Tryz.sizeOf27, Tryz.sizeOf3]⟩
theorem plT49 : Places Tryz.prog 49 #[(0, 1), (1, 1)] := ⟨_, Tryz.underlying49, fun w => by simp [Tryz.sizeOf3]⟩
theorem plT67 : Places Tryz.prog 67 #[(0, 1)] := ⟨_, Tryz.underlying67, fun w => by simp [Tryz.sizeOf65]⟩
theorem plT97 : Places Tryz.prog 97 #[(0, 1), (1, 1), (2, 1), (3, 1)] := ⟨_, Tryz.underlying97, fun w => by simp [Tryz.sizeOf3, Tryz.sizeOf95]⟩
theorem plT103 : Places Tryz.prog 103 #[(0, 1), (1, 1)] := ⟨_, Tryz.underlying103, fun w => by simp [Tryz.sizeOf3, Tryz.sizeOf4]⟩
theorem plT110 : Places Tryz.prog 110 #[(0, 1), (1, 1), (2, 1), (3, 1)] := ⟨_, Tryz.underlying110, fun w => by simp [Tryz.sizeOf108, Tryz.sizeOf27, Tryz.sizeOf3]⟩
theorem plT124 : Places Tryz.prog 124 #[(0, 1)] := ⟨_, Tryz.underlying124, fun w => by simp [Tryz.sizeOf67]⟩
theorem plT147 : Places Tryz.prog 147 #[(0, 6), (6, 1)] := ⟨_, Tryz.underlying147, fun w => by simp [Tryz.sizeOf24, Tryz.sizeOf29]⟩
theorem plT155 : Places Tryz.prog 155 #[(0, 1), (1, 1)] := ⟨_, Tryz.underlying155, fun w => by simp [Tryz.sizeOf27, Tryz.sizeOf3]⟩
theorem plT159 : Places Tryz.prog 159 #[(0, 6), (6, 1)] := ⟨_, Tryz.underlying159, fun w => by simp [Tryz.sizeOf24, Tryz.sizeOf29]⟩
theorem plT166 : Places Tryz.prog 166 #[(0, 6), (6, 1)] := ⟨_, Tryz.underlying166, fun w => by simp [Tryz.sizeOf29, Tryz.sizeOf3]⟩
theorem plT178 : Places Tryz.prog 178 #[(0, 1), (1, 4), (5, 1), (6, 1), (7, 1)] := ⟨_, Tryz.underlying178, fun w => by simp [Tryz.sizeOf110, Tryz.sizeOf150, Tryz.sizeOf24, Tryz.sizeOf26, Tryz.sizeOf27]⟩
theorem plT202 : Places Tryz.prog 202 #[(0, 1), (1, 1)] := ⟨_, Tryz.underlying202, fun w => by simp [Tryz.sizeOf27, Tryz.sizeOf4]⟩
end Go.Proofs.YtpacloheigifkaaGreat
-- Tab
/- Where the fields of structs lie. -/
namespace Go.Proofs.YtpacloheigifkaaGreat
open Go.RowKit
def tab : FTab := [(24, 0, 0), (29, 0, 0), (29, 1, 1), (29, 2, 2), (29, 3, 3), (29, 4, 4), (29, 5, 5), (49, 0, 0), (49, 1, 1), (67, 0, 0), (97, 0, 0), (97, 1, 1), (97, 2, 2), (97, 3, 3), (103, 0, 0), (103, 1, 1), (110, 0, 0), (110, 1, 1), (110, 2, 2), (110, 3, 3), (124, 0, 0), (134, 0, 0), (143, 0, 0), (147, 0, 0), (147, 1, 6), (155, 0, 0), (155, 1, 1), (159, 0, 0), (159, 1, 6), (166, 0, 0), (166, 1, 6), (178, 0, 0), (178, 1, 1), (178, 2, 5), (178, 3, 6), (178, 4, 7), (202, 0, 0), (202, 1, 1)]
theorem fa24_0 (a : Addr) (w : World) : (Instr.fieldAt 24 (.pointer (some a)) 0).run Tryz.prog w = .ok (.pointer (some (a.add 0))) w := by kernel_rfl
theorem fa29_0 (a : Addr) (w : World) : (Instr.fieldAt 29 (.pointer (some a)) 0).run Tryz.prog w = .ok (.pointer (some (a.add 0))) w := by kernel_rfl
theorem fa29_1 (a : Addr) (w : World) : (Instr.fieldAt 29 (.pointer (some a)) 1).run Tryz.prog w = .ok (.pointer (some (a.add 1))) w := by kernel_rfl
theorem fa29_2 (a : Addr) (w : World) : (Instr.fieldAt 29 (.pointer (some a)) 2).run Tryz.prog w = .ok (.pointer (some (a.add 2))) w := by kernel_rfl
theorem fa29_3 (a : Addr) (w : World) : (Instr.fieldAt 29 (.pointer (some a)) 3).run Tryz.prog w = .ok (.pointer (some (a.add 3))) w := by kernel_rfl
theorem fa29_4 (a : Addr) (w : World) : (Instr.fieldAt 29 (.pointer (some a)) 4).run Tryz.prog w = .ok (.pointer (some (a.add 4))) w := by kernel_rfl
theorem fa29_5 (a : Addr) (w : World) : (Instr.fieldAt 29 (.pointer (some a)) 5).run Tryz.prog w = .ok (.pointer (some (a.add 5))) w := by kernel_rfl
theorem fa49_0 (a : Addr) (w : World) : (Instr.fieldAt 49 (.pointer (some a)) 0).run Tryz.prog w = .ok (.pointer (some (a.add 0))) w := by kernel_rfl
theorem fa49_1 (a : Addr) (w : World) : (Instr.fieldAt 49 (.pointer (some a)) 1).run Tryz.prog w = .ok (.pointer (some (a.add 1))) w := by kernel_rfl
theorem fa67_0 (a : Addr) (w : World) : (Instr.fieldAt 67 (.pointer (some a)) 0).run Tryz.prog w = .ok (.pointer (some (a.add 0))) w := by kernel_rfl
theorem fa97_0 (a : Addr) (w : World) : (Instr.fieldAt 97 (.pointer (some a)) 0).run Tryz.prog w = .ok (.pointer (some (a.add 0))) w := by kernel_rfl
theorem fa97_1 (a : Addr) (w : World) : (Instr.fieldAt 97 (.pointer (some a)) 1).run Tryz.prog w = .ok (.pointer (some (a.add 1))) w := by kernel_rfl
theorem fa97_2 (a : Addr) (w : World) : (Instr.fieldAt 97 (.pointer (some a)) 2).run Tryz.prog w = .ok (.pointer (some (a.add 2))) w := by kernel_rfl
theorem fa97_3 (a : Addr) (w : World) : (Instr.fieldAt 97 (.pointer (some a)) 3).run Tryz.prog w = .ok (.pointer (some (a.add 3))) w := by kernel_rfl
theorem fa103_0 (a : Addr) (w : World) : (Instr.fieldAt 103 (.pointer (some a)) 0).run Tryz.prog w = .ok (.pointer (some (a.add 0))) w := by kernel_rfl
theorem fa103_1 (a : Addr) (w : World) : (Instr.fieldAt 103 (.pointer (some a)) 1).run Tryz.prog w = .ok (.pointer (some (a.add 1))) w := by kernel_rfl
theorem fa110_0 (a : Addr) (w : World) : (Instr.fieldAt 110 (.pointer (some a)) 0).run Tryz.prog w = .ok (.pointer (some (a.add 0))) w := by kernel_rfl
theorem fa110_1 (a : Addr) (w : World) : (Instr.fieldAt 110 (.pointer (some a)) 1).run Tryz.prog w = .ok (.pointer (some (a.add 1))) w := by kernel_rfl
theorem fa110_2 (a : Addr) (w : World) : (Instr.fieldAt 110 (.pointer (some a)) 2).run Tryz.prog w = .ok (.pointer (some (a.add 2))) w := by kernel_rfl
theorem fa110_3 (a : Addr) (w : World) : (Instr.fieldAt 110 (.pointer (some a)) 3).run Tryz.prog w = .ok (.pointer (some (a.add 3))) w := by kernel_rfl
theorem fa124_0 (a : Addr) (w : World) : (Instr.fieldAt 124 (.pointer (some a)) 0).run Tryz.prog w = .ok (.pointer (some (a.add 0))) w := by kernel_rfl
theorem fa134_0 (a : Addr) (w : World) : (Instr.fieldAt 134 (.pointer (some a)) 0).run Tryz.prog w = .ok (.pointer (some (a.add 0))) w := by kernel_rfl
theorem fa143_0 (a : Addr) (w : World) : (Instr.fieldAt 143 (.pointer (some a)) 0).run Tryz.prog w = .ok (.pointer (some (a.add 0))) w := by kernel_rfl
theorem fa147_0 (a : Addr) (w : World) : (Instr.fieldAt 147 (.pointer (some a)) 0).run Tryz.prog w = .ok (.pointer (some (a.add 0))) w := by kernel_rfl
theorem fa147_1 (a : Addr) (w : World) : (Instr.fieldAt 147 (.pointer (some a)) 1).run Tryz.prog w = .ok (.pointer (some (a.add 6))) w := by kernel_rfl
theorem fa155_0 (a : Addr) (w : World) : (Instr.fieldAt 155 (.pointer (some a)) 0).run Tryz.prog w = .ok (.pointer (some (a.add 0))) w := by kernel_rfl
theorem fa155_1 (a : Addr) (w : World) : (Instr.fieldAt 155 (.pointer (some a)) 1).run Tryz.prog w = .ok (.pointer (some (a.add 1))) w := by kernel_rfl
theorem fa159_0 (a : Addr) (w : World) : (Instr.fieldAt 159 (.pointer (some a)) 0).run Tryz.prog w = .ok (.pointer (some (a.add 0))) w := by kernel_rfl
theorem fa159_1 (a : Addr) (w : World) : (Instr.fieldAt 159 (.pointer (some a)) 1).run Tryz.prog w = .ok (.pointer (some (a.add 6))) w := by kernel_rfl
theorem fa166_0 (a : Addr) (w : World) : (Instr.fieldAt 166 (.pointer (some a)) 0).run Tryz.prog w = .ok (.pointer (some (a.add 0))) w := by kernel_rfl
theorem fa166_1 (a : Addr) (w : World) : (Instr.fieldAt 166 (.pointer (some a)) 1).run Tryz.prog w = .ok (.pointer (some (a.add 6))) w := by kernel_rfl
theorem fa178_0 (a : Addr) (w : World) : (Instr.fieldAt 178 (.pointer (some a)) 0).run Tryz.prog w = .ok (.pointer (some (a.add 0))) w := by kernel_rfl
theorem fa178_1 (a : Addr) (w : World) : (Instr.fieldAt 178 (.pointer (some a)) 1).run Tryz.prog w = .ok (.pointer (some (a.add 1))) w := by kernel_rfl
theorem fa178_2 (a : Addr) (w : World) : (Instr.fieldAt 178 (.pointer (some a)) 2).run Tryz.prog w = .ok (.pointer (some (a.add 5))) w := by kernel_rfl
theorem fa178_3 (a : Addr) (w : World) : (Instr.fieldAt 178 (.pointer (some a)) 3).run Tryz.prog w = .ok (.pointer (some (a.add 6))) w := by kernel_rfl
theorem fa178_4 (a : Addr) (w : World) : (Instr.fieldAt 178 (.pointer (some a)) 4).run Tryz.prog w = .ok (.pointer (some (a.add 7))) w := by kernel_rfl
theorem fa202_0 (a : Addr) (w : World) : (Instr.fieldAt 202 (.pointer (some a)) 0).run Tryz.prog w = .ok (.pointer (some (a.add 0))) w := by kernel_rfl
theorem fa202_1 (a : Addr) (w : World) : (Instr.fieldAt 202 (.pointer (some a)) 1).run Tryz.prog w = .ok (.pointer (some (a.add 1))) w := by kernel_rfl
theorem tab_ok : FTab.Ok Tryz.prog tab := by
 intro x hx
 simp only [tab, List.mem_cons, List.not_mem_nil, or_false] at hx
 rcases hx with rfl | rfl | rfl | rfl | rfl | rfl | rfl | rfl | rfl | rfl | rfl | rfl | rfl | rfl | rfl | rfl | rfl | rfl | rfl | rfl | rfl | rfl | rfl | rfl | rfl | rfl | rfl | rfl | rfl | rfl | rfl | rfl | rfl | rfl | rfl | rfl | rfl | rfl
 ·exact fa24_0
 ·exact fa29_0
 ·exact fa29_1
 ·exact fa29_2
 ·exact fa29_3
 ·exact fa29_4
 ·exact fa29_5
 ·exact fa49_0
 ·exact fa49_1
 ·exact fa67_0
 ·exact fa97_0
 ·exact fa97_1
 ·exact fa97_2
 ·exact fa97_3
 ·exact fa103_0
 ·exact fa103_1
 ·exact fa110_0
 ·exact fa110_1
 ·exact fa110_2
 ·exact fa110_3
 ·exact fa124_0
 ·exact fa134_0
 ·exact fa143_0
 ·exact fa147_0
 ·exact fa147_1
 ·exact fa155_0
 ·exact fa155_1
 ·exact fa159_0
 ·exact fa159_1
 ·exact fa166_0
 ·exact fa166_1
 ·exact fa178_0
 ·exact fa178_1
 ·exact fa178_2
 ·exact fa178_3
 ·exact fa178_4
 ·exact fa202_0
 ·exact fa202_1
end Go.Proofs.YtpacloheigifkaaGreat
