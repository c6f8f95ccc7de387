/-
  No cell of these rows narrows 'for every input' (looked for: loops, veiled, ifaces, maps, wideKeys, modest, calm, conditions, laid).
  DERIVED. THE GIVEN ROWS OF THIS SEAT. 17 by the template 'for every input the law returns true; each argument reads behind the call as it read before'; 0 by the template 'total and deterministic' (their statements: YtjojipeodionmaaTotals.lean).
  GIVEN WITH THE SEED: the statements are not yours to turn. If you find one false, say at which input.
  Laid BY PROGRAM, IN A SANDBOX (cutbox-rows.mjs): the forced cells as the released guide's own fill.sh prints them over the translation f5c587c0d1d8ca8e… (all of the seat's roots in one cut). By AI agents, Wed Nov 11 2026. No macro, syntax, notation, axiom, sorry.
-/
import Derived.Test.YtjojipeodionmaaChecked
import GoSem.Claim
import GoSem.ClaimJoined
import GoSem.ClaimMapViews
import Derived.JoinedTies
import Derived.KernelRfl
namespace Go.Proofs.Ytjojipeodionmaa
/- THE CELL 'sum', in the pinned program and in every row, IS THE sha256 OF THE DUMP (.gsa) THAT YtjojipeodionmaaProg.lean LOADS. Nothing in Lean hashes anything: it is a label: what it is worth is what the hold of that sum in a sandbox is worth. -/
noncomputable def Try.pinned : Pinned := { name := "ytjojipeodionmaa", sum := "f5c587c0d1d8ca8e95b84fbcc75a43734ff9a09cd4ce2bc647879eabdac160cf", checked := Try.checked }
namespace Rows
def none {H : Type} : Left H := { results := [], args := [] }

/-- 'mizzenlaw.OpTells': WHATEVER THE INPUT: true; the input reads as it did. -/
def opTellsSpec : ChangeSpec := { name := "opTells", fn := fun _ => fun
  | [d1, d2, d3, d4] => { results := [.lit (.bool true)], args := [d1, d2, d3, d4] }
  | _ => none }
def opTellsRow : OpenClaim := { program := "ytjojipeodionmaa", sum := "f5c587c0d1d8ca8e95b84fbcc75a43734ff9a09cd4ce2bc647879eabdac160cf", func := "mizzen/mizzenlaw.OpTells", spec := "opTells", unfollowed := true, recurses := true, apart := false }
def OpTellsSaid : Prop := opTellsRow.holds Try.pinned (OpenSpec.ofChange opTellsSpec)

/-- ITS FALSE NEIGHBOUR: 'it returns false'. Refute it at one input. -/
def opTellsWrong : ChangeSpec := { name := "opTells", fn := fun _ => fun
  | [d1, d2, d3, d4] => { results := [.lit (.bool false)], args := [d1, d2, d3, d4] }
  | _ => none }
def OpTellsWrongFalsely : Prop := opTellsRow.holds Try.pinned (OpenSpec.ofChange opTellsWrong)

/-- 'mizzenlaw.OpBack': WHATEVER THE INPUT: true; the input reads as it did. -/
def opBackSpec : ChangeSpec := { name := "opBack", fn := fun _ => fun
  | [d1, d2, d3] => { results := [.lit (.bool true)], args := [d1, d2, d3] }
  | _ => none }
def opBackRow : OpenClaim := { program := "ytjojipeodionmaa", sum := "f5c587c0d1d8ca8e95b84fbcc75a43734ff9a09cd4ce2bc647879eabdac160cf", func := "mizzen/mizzenlaw.OpBack", spec := "opBack", unfollowed := true, recurses := true, apart := false }
def OpBackSaid : Prop := opBackRow.holds Try.pinned (OpenSpec.ofChange opBackSpec)

/-- ITS FALSE NEIGHBOUR: 'it returns false'. Refute it at one input. -/
def opBackWrong : ChangeSpec := { name := "opBack", fn := fun _ => fun
  | [d1, d2, d3] => { results := [.lit (.bool false)], args := [d1, d2, d3] }
  | _ => none }
def OpBackWrongFalsely : Prop := opBackRow.holds Try.pinned (OpenSpec.ofChange opBackWrong)

/-- 'mizzenlaw.OpWrap': WHATEVER THE INPUT: true; the input reads as it did. -/
def opWrapSpec : ChangeSpec := { name := "opWrap", fn := fun _ => fun
  | [d1, d2] => { results := [.lit (.bool true)], args := [d1, d2] }
  | _ => none }
def opWrapRow : OpenClaim := { program := "ytjojipeodionmaa", sum := "f5c587c0d1d8ca8e95b84fbcc75a43734ff9a09cd4ce2bc647879eabdac160cf", func := "mizzen/mizzenlaw.OpWrap", spec := "opWrap", unfollowed := true, recurses := true, apart := false }
def OpWrapSaid : Prop := opWrapRow.holds Try.pinned (OpenSpec.ofChange opWrapSpec)

/-- ITS FALSE NEIGHBOUR: 'it returns false'. Refute it at one input. -/
def opWrapWrong : ChangeSpec := { name := "opWrap", fn := fun _ => fun
  | [d1, d2] => { results := [.lit (.bool false)], args := [d1, d2] }
  | _ => none }
def OpWrapWrongFalsely : Prop := opWrapRow.holds Try.pinned (OpenSpec.ofChange opWrapWrong)

/-- 'mizzenlaw.BlockRoom': WHATEVER THE INPUT: true; the input reads as it did. -/
def blockRoomSpec : ChangeSpec := { name := "blockRoom", fn := fun _ => fun
  | [d1, d2] => { results := [.lit (.bool true)], args := [d1, d2] }
  | _ => none }
def blockRoomRow : OpenClaim := { program := "ytjojipeodionmaa", sum := "f5c587c0d1d8ca8e95b84fbcc75a43734ff9a09cd4ce2bc647879eabdac160cf", func := "mizzen/mizzenlaw.BlockRoom", spec := "blockRoom", unfollowed := true, recurses := true, apart := false }
def BlockRoomSaid : Prop := blockRoomRow.holds Try.pinned (OpenSpec.ofChange blockRoomSpec)

/-- ITS FALSE NEIGHBOUR: 'it returns false'. Refute it at one input. -/
def blockRoomWrong : ChangeSpec := { name := "blockRoom", fn := fun _ => fun
  | [d1, d2] => { results := [.lit (.bool false)], args := [d1, d2] }
  | _ => none }
def BlockRoomWrongFalsely : Prop := blockRoomRow.holds Try.pinned (OpenSpec.ofChange blockRoomWrong)

/-- 'mizzenlaw.BlockTells': WHATEVER THE INPUT: true; the input reads as it did. -/
def blockTellsSpec : ChangeSpec := { name := "blockTells", fn := fun _ => fun
  | [d1, d2, d3, d4, d5, d6] => { results := [.lit (.bool true)], args := [d1, d2, d3, d4, d5, d6] }
  | _ => none }
def blockTellsRow : OpenClaim := { program := "ytjojipeodionmaa", sum := "f5c587c0d1d8ca8e95b84fbcc75a43734ff9a09cd4ce2bc647879eabdac160cf", func := "mizzen/mizzenlaw.BlockTells", spec := "blockTells", unfollowed := true, recurses := true, apart := false }
def BlockTellsSaid : Prop := blockTellsRow.holds Try.pinned (OpenSpec.ofChange blockTellsSpec)

/-- ITS FALSE NEIGHBOUR: 'it returns false'. Refute it at one input. -/
def blockTellsWrong : ChangeSpec := { name := "blockTells", fn := fun _ => fun
  | [d1, d2, d3, d4, d5, d6] => { results := [.lit (.bool false)], args := [d1, d2, d3, d4, d5, d6] }
  | _ => none }
def BlockTellsWrongFalsely : Prop := blockTellsRow.holds Try.pinned (OpenSpec.ofChange blockTellsWrong)

/-- 'mizzenlaw.BlockBack': WHATEVER THE INPUT: true; the input reads as it did. -/
def blockBackSpec : ChangeSpec := { name := "blockBack", fn := fun _ => fun
  | [d1, d2, d3, d4, d5] => { results := [.lit (.bool true)], args := [d1, d2, d3, d4, d5] }
  | _ => none }
def blockBackRow : OpenClaim := { program := "ytjojipeodionmaa", sum := "f5c587c0d1d8ca8e95b84fbcc75a43734ff9a09cd4ce2bc647879eabdac160cf", func := "mizzen/mizzenlaw.BlockBack", spec := "blockBack", unfollowed := true, recurses := true, apart := false }
def BlockBackSaid : Prop := blockBackRow.holds Try.pinned (OpenSpec.ofChange blockBackSpec)

/-- ITS FALSE NEIGHBOUR: 'it returns false'. Refute it at one input. -/
def blockBackWrong : ChangeSpec := { name := "blockBack", fn := fun _ => fun
  | [d1, d2, d3, d4, d5] => { results := [.lit (.bool false)], args := [d1, d2, d3, d4, d5] }
  | _ => none }
def BlockBackWrongFalsely : Prop := blockBackRow.holds Try.pinned (OpenSpec.ofChange blockBackWrong)

/-- 'mizzenlaw.BlockKeeps': WHATEVER THE INPUT: true; the input reads as it did. -/
def blockKeepsSpec : ChangeSpec := { name := "blockKeeps", fn := fun _ => fun
  | [d1, d2] => { results := [.lit (.bool true)], args := [d1, d2] }
  | _ => none }
def blockKeepsRow : OpenClaim := { program := "ytjojipeodionmaa", sum := "f5c587c0d1d8ca8e95b84fbcc75a43734ff9a09cd4ce2bc647879eabdac160cf", func := "mizzen/mizzenlaw.BlockKeeps", spec := "blockKeeps", unfollowed := true, recurses := true, apart := false }
def BlockKeepsSaid : Prop := blockKeepsRow.holds Try.pinned (OpenSpec.ofChange blockKeepsSpec)

/-- ITS FALSE NEIGHBOUR: 'it returns false'. Refute it at one input. -/
def blockKeepsWrong : ChangeSpec := { name := "blockKeeps", fn := fun _ => fun
  | [d1, d2] => { results := [.lit (.bool false)], args := [d1, d2] }
  | _ => none }
def BlockKeepsWrongFalsely : Prop := blockKeepsRow.holds Try.pinned (OpenSpec.ofChange blockKeepsWrong)

/-- 'mizzenlaw.ProgTells': WHATEVER THE INPUT: true; the input reads as it did. -/
def progTellsSpec : ChangeSpec := { name := "progTells", fn := fun _ => fun
  | [d1, d2] => { results := [.lit (.bool true)], args := [d1, d2] }
  | _ => none }
def progTellsRow : OpenClaim := { program := "ytjojipeodionmaa", sum := "f5c587c0d1d8ca8e95b84fbcc75a43734ff9a09cd4ce2bc647879eabdac160cf", func := "mizzen/mizzenlaw.ProgTells", spec := "progTells", unfollowed := true, recurses := true, apart := false }
def ProgTellsSaid : Prop := progTellsRow.holds Try.pinned (OpenSpec.ofChange progTellsSpec)

/-- ITS FALSE NEIGHBOUR: 'it returns false'. Refute it at one input. -/
def progTellsWrong : ChangeSpec := { name := "progTells", fn := fun _ => fun
  | [d1, d2] => { results := [.lit (.bool false)], args := [d1, d2] }
  | _ => none }
def ProgTellsWrongFalsely : Prop := progTellsRow.holds Try.pinned (OpenSpec.ofChange progTellsWrong)

/-- 'mizzenlaw.ProgBack': WHATEVER THE INPUT: true; the input reads as it did. -/
def progBackSpec : ChangeSpec := { name := "progBack", fn := fun _ => fun
  | [d1, d2] => { results := [.lit (.bool true)], args := [d1, d2] }
  | _ => none }
def progBackRow : OpenClaim := { program := "ytjojipeodionmaa", sum := "f5c587c0d1d8ca8e95b84fbcc75a43734ff9a09cd4ce2bc647879eabdac160cf", func := "mizzen/mizzenlaw.ProgBack", spec := "progBack", unfollowed := true, recurses := true, apart := false }
def ProgBackSaid : Prop := progBackRow.holds Try.pinned (OpenSpec.ofChange progBackSpec)

/-- ITS FALSE NEIGHBOUR: 'it returns false'. Refute it at one input. -/
def progBackWrong : ChangeSpec := { name := "progBack", fn := fun _ => fun
  | [d1, d2] => { results := [.lit (.bool false)], args := [d1, d2] }
  | _ => none }
def ProgBackWrongFalsely : Prop := progBackRow.holds Try.pinned (OpenSpec.ofChange progBackWrong)

/-- 'mizzenlaw.FlowBack': WHATEVER THE INPUT: true; the input reads as it did. -/
def flowBackSpec : ChangeSpec := { name := "flowBack", fn := fun _ => fun
  | [d1, d2, d3] => { results := [.lit (.bool true)], args := [d1, d2, d3] }
  | _ => none }
def flowBackRow : OpenClaim := { program := "ytjojipeodionmaa", sum := "f5c587c0d1d8ca8e95b84fbcc75a43734ff9a09cd4ce2bc647879eabdac160cf", func := "mizzen/mizzenlaw.FlowBack", spec := "flowBack", unfollowed := true, recurses := true, apart := false }
def FlowBackSaid : Prop := flowBackRow.holds Try.pinned (OpenSpec.ofChange flowBackSpec)

/-- ITS FALSE NEIGHBOUR: 'it returns false'. Refute it at one input. -/
def flowBackWrong : ChangeSpec := { name := "flowBack", fn := fun _ => fun
  | [d1, d2, d3] => { results := [.lit (.bool false)], args := [d1, d2, d3] }
  | _ => none }
def FlowBackWrongFalsely : Prop := flowBackRow.holds Try.pinned (OpenSpec.ofChange flowBackWrong)

/-- 'mizzenlaw.FlowTells': WHATEVER THE INPUT: true; the input reads as it did. -/
def flowTellsSpec : ChangeSpec := { name := "flowTells", fn := fun _ => fun
  | [d1, d2] => { results := [.lit (.bool true)], args := [d1, d2] }
  | _ => none }
def flowTellsRow : OpenClaim := { program := "ytjojipeodionmaa", sum := "f5c587c0d1d8ca8e95b84fbcc75a43734ff9a09cd4ce2bc647879eabdac160cf", func := "mizzen/mizzenlaw.FlowTells", spec := "flowTells", unfollowed := true, recurses := true, apart := false }
def FlowTellsSaid : Prop := flowTellsRow.holds Try.pinned (OpenSpec.ofChange flowTellsSpec)

/-- ITS FALSE NEIGHBOUR: 'it returns false'. Refute it at one input. -/
def flowTellsWrong : ChangeSpec := { name := "flowTells", fn := fun _ => fun
  | [d1, d2] => { results := [.lit (.bool false)], args := [d1, d2] }
  | _ => none }
def FlowTellsWrongFalsely : Prop := flowTellsRow.holds Try.pinned (OpenSpec.ofChange flowTellsWrong)

/-- 'mizzenlaw.FlowReach': WHATEVER THE INPUT: true; the input reads as it did. -/
def flowReachSpec : ChangeSpec := { name := "flowReach", fn := fun _ => fun
  | [d] => { results := [.lit (.bool true)], args := [d] }
  | _ => none }
def flowReachRow : OpenClaim := { program := "ytjojipeodionmaa", sum := "f5c587c0d1d8ca8e95b84fbcc75a43734ff9a09cd4ce2bc647879eabdac160cf", func := "mizzen/mizzenlaw.FlowReach", spec := "flowReach", unfollowed := true, recurses := true, apart := false }
def FlowReachSaid : Prop := flowReachRow.holds Try.pinned (OpenSpec.ofChange flowReachSpec)

/-- ITS FALSE NEIGHBOUR: 'it returns false'. Refute it at one input. -/
def flowReachWrong : ChangeSpec := { name := "flowReach", fn := fun _ => fun
  | [d] => { results := [.lit (.bool false)], args := [d] }
  | _ => none }
def FlowReachWrongFalsely : Prop := flowReachRow.holds Try.pinned (OpenSpec.ofChange flowReachWrong)

/-- 'mizzenlaw.VerifyTells': WHATEVER THE INPUT: true; the input reads as it did. -/
def verifyTellsSpec : ChangeSpec := { name := "verifyTells", fn := fun _ => fun
  | [d1, d2, d3, d4] => { results := [.lit (.bool true)], args := [d1, d2, d3, d4] }
  | _ => none }
def verifyTellsRow : OpenClaim := { program := "ytjojipeodionmaa", sum := "f5c587c0d1d8ca8e95b84fbcc75a43734ff9a09cd4ce2bc647879eabdac160cf", func := "mizzen/mizzenlaw.VerifyTells", spec := "verifyTells", unfollowed := true, recurses := true, apart := false }
def VerifyTellsSaid : Prop := verifyTellsRow.holds Try.pinned (OpenSpec.ofChange verifyTellsSpec)

/-- ITS FALSE NEIGHBOUR: 'it returns false'. Refute it at one input. -/
def verifyTellsWrong : ChangeSpec := { name := "verifyTells", fn := fun _ => fun
  | [d1, d2, d3, d4] => { results := [.lit (.bool false)], args := [d1, d2, d3, d4] }
  | _ => none }
def VerifyTellsWrongFalsely : Prop := verifyTellsRow.holds Try.pinned (OpenSpec.ofChange verifyTellsWrong)

/-- 'mizzenlaw.VerifyJoin': WHATEVER THE INPUT: true; the input reads as it did. -/
def verifyJoinSpec : ChangeSpec := { name := "verifyJoin", fn := fun _ => fun
  | [d1, d2, d3] => { results := [.lit (.bool true)], args := [d1, d2, d3] }
  | _ => none }
def verifyJoinRow : OpenClaim := { program := "ytjojipeodionmaa", sum := "f5c587c0d1d8ca8e95b84fbcc75a43734ff9a09cd4ce2bc647879eabdac160cf", func := "mizzen/mizzenlaw.VerifyJoin", spec := "verifyJoin", unfollowed := true, recurses := true, apart := false }
def VerifyJoinSaid : Prop := verifyJoinRow.holds Try.pinned (OpenSpec.ofChange verifyJoinSpec)

/-- ITS FALSE NEIGHBOUR: 'it returns false'. Refute it at one input. -/
def verifyJoinWrong : ChangeSpec := { name := "verifyJoin", fn := fun _ => fun
  | [d1, d2, d3] => { results := [.lit (.bool false)], args := [d1, d2, d3] }
  | _ => none }
def VerifyJoinWrongFalsely : Prop := verifyJoinRow.holds Try.pinned (OpenSpec.ofChange verifyJoinWrong)

/-- 'mizzenlaw.VerifyFits': WHATEVER THE INPUT: true; the input reads as it did. -/
def verifyFitsSpec : ChangeSpec := { name := "verifyFits", fn := fun _ => fun
  | [d1, d2] => { results := [.lit (.bool true)], args := [d1, d2] }
  | _ => none }
def verifyFitsRow : OpenClaim := { program := "ytjojipeodionmaa", sum := "f5c587c0d1d8ca8e95b84fbcc75a43734ff9a09cd4ce2bc647879eabdac160cf", func := "mizzen/mizzenlaw.VerifyFits", spec := "verifyFits", unfollowed := true, recurses := true, apart := false }
def VerifyFitsSaid : Prop := verifyFitsRow.holds Try.pinned (OpenSpec.ofChange verifyFitsSpec)

/-- ITS FALSE NEIGHBOUR: 'it returns false'. Refute it at one input. -/
def verifyFitsWrong : ChangeSpec := { name := "verifyFits", fn := fun _ => fun
  | [d1, d2] => { results := [.lit (.bool false)], args := [d1, d2] }
  | _ => none }
def VerifyFitsWrongFalsely : Prop := verifyFitsRow.holds Try.pinned (OpenSpec.ofChange verifyFitsWrong)

/-- 'mizzenlaw.VerifyMore': WHATEVER THE INPUT: true; the input reads as it did. -/
def verifyMoreSpec : ChangeSpec := { name := "verifyMore", fn := fun _ => fun
  | [d1, d2, d3] => { results := [.lit (.bool true)], args := [d1, d2, d3] }
  | _ => none }
def verifyMoreRow : OpenClaim := { program := "ytjojipeodionmaa", sum := "f5c587c0d1d8ca8e95b84fbcc75a43734ff9a09cd4ce2bc647879eabdac160cf", func := "mizzen/mizzenlaw.VerifyMore", spec := "verifyMore", unfollowed := true, recurses := true, apart := false }
def VerifyMoreSaid : Prop := verifyMoreRow.holds Try.pinned (OpenSpec.ofChange verifyMoreSpec)

/-- ITS FALSE NEIGHBOUR: 'it returns false'. Refute it at one input. -/
def verifyMoreWrong : ChangeSpec := { name := "verifyMore", fn := fun _ => fun
  | [d1, d2, d3] => { results := [.lit (.bool false)], args := [d1, d2, d3] }
  | _ => none }
def VerifyMoreWrongFalsely : Prop := verifyMoreRow.holds Try.pinned (OpenSpec.ofChange verifyMoreWrong)

/-- 'mizzenlaw.VerifyDead': WHATEVER THE INPUT: true; the input reads as it did. -/
def verifyDeadSpec : ChangeSpec := { name := "verifyDead", fn := fun _ => fun
  | [d1, d2, d3, d4] => { results := [.lit (.bool true)], args := [d1, d2, d3, d4] }
  | _ => none }
def verifyDeadRow : OpenClaim := { program := "ytjojipeodionmaa", sum := "f5c587c0d1d8ca8e95b84fbcc75a43734ff9a09cd4ce2bc647879eabdac160cf", func := "mizzen/mizzenlaw.VerifyDead", spec := "verifyDead", unfollowed := true, recurses := true, apart := false }
def VerifyDeadSaid : Prop := verifyDeadRow.holds Try.pinned (OpenSpec.ofChange verifyDeadSpec)

/-- ITS FALSE NEIGHBOUR: 'it returns false'. Refute it at one input. -/
def verifyDeadWrong : ChangeSpec := { name := "verifyDead", fn := fun _ => fun
  | [d1, d2, d3, d4] => { results := [.lit (.bool false)], args := [d1, d2, d3, d4] }
  | _ => none }
def VerifyDeadWrongFalsely : Prop := verifyDeadRow.holds Try.pinned (OpenSpec.ofChange verifyDeadWrong)

/- THE SECOND FORM. 'bulk': how many values and letters a reading holds, each counted each time it is reached (what is shared counts as often as it is met; a slice's spare places count too). A statement '..UptoSaid' is the law's where the arguments, and the package variables that the reading takes, are together of bulk at most 1048576: NARROWER than '..Said'. Prove '..Said' where nothing that the law and all that it calls make is longer than what came in: it says more and counts as full. Else prove '..UptoSaid'. A law counts once. -/
mutual
def uptoBulk {H : Type} : DataW H → Nat
  | .lit (.string bytes) => bytes.length + 1
  | .lit _ => 1
  | .nil => 1
  | .ptr d => uptoBulk d + 1
  | .slice elems spare => uptoBulkAll elems + uptoBulkAll spare + 1
  | .agg parts => uptoBulkAll parts + 1
  | .iface _ d => uptoBulk d + 1
  | .map entries => uptoBulkEntries entries + 1
  | .held _ => 1
def uptoBulkAll {H : Type} : List (DataW H) → Nat
  | [] => 0
  | d :: r => uptoBulk d + uptoBulkAll r
def uptoBulkEntries {H : Type} : List (Lit × DataW H) → Nat
  | [] => 0
  | x :: r => uptoBulkEntry x + uptoBulkEntries r
def uptoBulkEntry {H : Type} : Lit × DataW H → Nat
  | (.string bytes, d) => bytes.length + uptoBulk d + 1
  | (_, d) => uptoBulk d + 1
 end
def uptoSmall : (H : Type) → List (DataW H) → Bool := fun _ ds => decide (uptoBulkAll ds ≤ 1048576)
def OpenSpec.upto (s : _root_.Go.ChangeSpec) : _root_.Go.OpenSpec := { _root_.Go.OpenSpec.ofChange s with cond := some uptoSmall }

/-- 'mizzenlaw.OpTells', WHERE WHAT IT READS IS OF BULK AT MOST 1048576: true; the input reads as it did. -/
def opTellsUptoRow : OpenClaim := { program := "ytjojipeodionmaa", sum := "f5c587c0d1d8ca8e95b84fbcc75a43734ff9a09cd4ce2bc647879eabdac160cf", func := "mizzen/mizzenlaw.OpTells", spec := "opTells", unfollowed := true, recurses := true, apart := false, narrowed := true }
def OpTellsUptoSaid : Prop := opTellsUptoRow.holds Try.pinned (OpenSpec.upto opTellsSpec)

/-- 'mizzenlaw.OpBack', WHERE WHAT IT READS IS OF BULK AT MOST 1048576: true; the input reads as it did. -/
def opBackUptoRow : OpenClaim := { program := "ytjojipeodionmaa", sum := "f5c587c0d1d8ca8e95b84fbcc75a43734ff9a09cd4ce2bc647879eabdac160cf", func := "mizzen/mizzenlaw.OpBack", spec := "opBack", unfollowed := true, recurses := true, apart := false, narrowed := true }
def OpBackUptoSaid : Prop := opBackUptoRow.holds Try.pinned (OpenSpec.upto opBackSpec)

/-- 'mizzenlaw.OpWrap', WHERE WHAT IT READS IS OF BULK AT MOST 1048576: true; the input reads as it did. -/
def opWrapUptoRow : OpenClaim := { program := "ytjojipeodionmaa", sum := "f5c587c0d1d8ca8e95b84fbcc75a43734ff9a09cd4ce2bc647879eabdac160cf", func := "mizzen/mizzenlaw.OpWrap", spec := "opWrap", unfollowed := true, recurses := true, apart := false, narrowed := true }
def OpWrapUptoSaid : Prop := opWrapUptoRow.holds Try.pinned (OpenSpec.upto opWrapSpec)

/-- 'mizzenlaw.BlockRoom', WHERE WHAT IT READS IS OF BULK AT MOST 1048576: true; the input reads as it did. -/
def blockRoomUptoRow : OpenClaim := { program := "ytjojipeodionmaa", sum := "f5c587c0d1d8ca8e95b84fbcc75a43734ff9a09cd4ce2bc647879eabdac160cf", func := "mizzen/mizzenlaw.BlockRoom", spec := "blockRoom", unfollowed := true, recurses := true, apart := false, narrowed := true }
def BlockRoomUptoSaid : Prop := blockRoomUptoRow.holds Try.pinned (OpenSpec.upto blockRoomSpec)

/-- 'mizzenlaw.BlockTells', WHERE WHAT IT READS IS OF BULK AT MOST 1048576: true; the input reads as it did. -/
def blockTellsUptoRow : OpenClaim := { program := "ytjojipeodionmaa", sum := "f5c587c0d1d8ca8e95b84fbcc75a43734ff9a09cd4ce2bc647879eabdac160cf", func := "mizzen/mizzenlaw.BlockTells", spec := "blockTells", unfollowed := true, recurses := true, apart := false, narrowed := true }
def BlockTellsUptoSaid : Prop := blockTellsUptoRow.holds Try.pinned (OpenSpec.upto blockTellsSpec)

/-- 'mizzenlaw.BlockBack', WHERE WHAT IT READS IS OF BULK AT MOST 1048576: true; the input reads as it did. -/
def blockBackUptoRow : OpenClaim := { program := "ytjojipeodionmaa", sum := "f5c587c0d1d8ca8e95b84fbcc75a43734ff9a09cd4ce2bc647879eabdac160cf", func := "mizzen/mizzenlaw.BlockBack", spec := "blockBack", unfollowed := true, recurses := true, apart := false, narrowed := true }
def BlockBackUptoSaid : Prop := blockBackUptoRow.holds Try.pinned (OpenSpec.upto blockBackSpec)

/-- 'mizzenlaw.BlockKeeps', WHERE WHAT IT READS IS OF BULK AT MOST 1048576: true; the input reads as it did. -/
def blockKeepsUptoRow : OpenClaim := { program := "ytjojipeodionmaa", sum := "f5c587c0d1d8ca8e95b84fbcc75a43734ff9a09cd4ce2bc647879eabdac160cf", func := "mizzen/mizzenlaw.BlockKeeps", spec := "blockKeeps", unfollowed := true, recurses := true, apart := false, narrowed := true }
def BlockKeepsUptoSaid : Prop := blockKeepsUptoRow.holds Try.pinned (OpenSpec.upto blockKeepsSpec)

/-- 'mizzenlaw.ProgTells', WHERE WHAT IT READS IS OF BULK AT MOST 1048576: true; the input reads as it did. -/
def progTellsUptoRow : OpenClaim := { program := "ytjojipeodionmaa", sum := "f5c587c0d1d8ca8e95b84fbcc75a43734ff9a09cd4ce2bc647879eabdac160cf", func := "mizzen/mizzenlaw.ProgTells", spec := "progTells", unfollowed := true, recurses := true, apart := false, narrowed := true }
def ProgTellsUptoSaid : Prop := progTellsUptoRow.holds Try.pinned (OpenSpec.upto progTellsSpec)

/-- 'mizzenlaw.ProgBack', WHERE WHAT IT READS IS OF BULK AT MOST 1048576: true; the input reads as it did. -/
def progBackUptoRow : OpenClaim := { program := "ytjojipeodionmaa", sum := "f5c587c0d1d8ca8e95b84fbcc75a43734ff9a09cd4ce2bc647879eabdac160cf", func := "mizzen/mizzenlaw.ProgBack", spec := "progBack", unfollowed := true, recurses := true, apart := false, narrowed := true }
def ProgBackUptoSaid : Prop := progBackUptoRow.holds Try.pinned (OpenSpec.upto progBackSpec)

/-- 'mizzenlaw.FlowBack', WHERE WHAT IT READS IS OF BULK AT MOST 1048576: true; the input reads as it did. -/
def flowBackUptoRow : OpenClaim := { program := "ytjojipeodionmaa", sum := "f5c587c0d1d8ca8e95b84fbcc75a43734ff9a09cd4ce2bc647879eabdac160cf", func := "mizzen/mizzenlaw.FlowBack", spec := "flowBack", unfollowed := true, recurses := true, apart := false, narrowed := true }
def FlowBackUptoSaid : Prop := flowBackUptoRow.holds Try.pinned (OpenSpec.upto flowBackSpec)

/-- 'mizzenlaw.FlowTells', WHERE WHAT IT READS IS OF BULK AT MOST 1048576: true; the input reads as it did. -/
def flowTellsUptoRow : OpenClaim := { program := "ytjojipeodionmaa", sum := "f5c587c0d1d8ca8e95b84fbcc75a43734ff9a09cd4ce2bc647879eabdac160cf", func := "mizzen/mizzenlaw.FlowTells", spec := "flowTells", unfollowed := true, recurses := true, apart := false, narrowed := true }
def FlowTellsUptoSaid : Prop := flowTellsUptoRow.holds Try.pinned (OpenSpec.upto flowTellsSpec)

/-- 'mizzenlaw.FlowReach', WHERE WHAT IT READS IS OF BULK AT MOST 1048576: true; the input reads as it did. -/
def flowReachUptoRow : OpenClaim := { program := "ytjojipeodionmaa", sum := "f5c587c0d1d8ca8e95b84fbcc75a43734ff9a09cd4ce2bc647879eabdac160cf", func := "mizzen/mizzenlaw.FlowReach", spec := "flowReach", unfollowed := true, recurses := true, apart := false, narrowed := true }
def FlowReachUptoSaid : Prop := flowReachUptoRow.holds Try.pinned (OpenSpec.upto flowReachSpec)

/-- 'mizzenlaw.VerifyTells', WHERE WHAT IT READS IS OF BULK AT MOST 1048576: true; the input reads as it did. -/
def verifyTellsUptoRow : OpenClaim := { program := "ytjojipeodionmaa", sum := "f5c587c0d1d8ca8e95b84fbcc75a43734ff9a09cd4ce2bc647879eabdac160cf", func := "mizzen/mizzenlaw.VerifyTells", spec := "verifyTells", unfollowed := true, recurses := true, apart := false, narrowed := true }
def VerifyTellsUptoSaid : Prop := verifyTellsUptoRow.holds Try.pinned (OpenSpec.upto verifyTellsSpec)

/-- 'mizzenlaw.VerifyJoin', WHERE WHAT IT READS IS OF BULK AT MOST 1048576: true; the input reads as it did. -/
def verifyJoinUptoRow : OpenClaim := { program := "ytjojipeodionmaa", sum := "f5c587c0d1d8ca8e95b84fbcc75a43734ff9a09cd4ce2bc647879eabdac160cf", func := "mizzen/mizzenlaw.VerifyJoin", spec := "verifyJoin", unfollowed := true, recurses := true, apart := false, narrowed := true }
def VerifyJoinUptoSaid : Prop := verifyJoinUptoRow.holds Try.pinned (OpenSpec.upto verifyJoinSpec)

/-- 'mizzenlaw.VerifyFits', WHERE WHAT IT READS IS OF BULK AT MOST 1048576: true; the input reads as it did. -/
def verifyFitsUptoRow : OpenClaim := { program := "ytjojipeodionmaa", sum := "f5c587c0d1d8ca8e95b84fbcc75a43734ff9a09cd4ce2bc647879eabdac160cf", func := "mizzen/mizzenlaw.VerifyFits", spec := "verifyFits", unfollowed := true, recurses := true, apart := false, narrowed := true }
def VerifyFitsUptoSaid : Prop := verifyFitsUptoRow.holds Try.pinned (OpenSpec.upto verifyFitsSpec)

/-- 'mizzenlaw.VerifyMore', WHERE WHAT IT READS IS OF BULK AT MOST 1048576: true; the input reads as it did. -/
def verifyMoreUptoRow : OpenClaim := { program := "ytjojipeodionmaa", sum := "f5c587c0d1d8ca8e95b84fbcc75a43734ff9a09cd4ce2bc647879eabdac160cf", func := "mizzen/mizzenlaw.VerifyMore", spec := "verifyMore", unfollowed := true, recurses := true, apart := false, narrowed := true }
def VerifyMoreUptoSaid : Prop := verifyMoreUptoRow.holds Try.pinned (OpenSpec.upto verifyMoreSpec)

/-- 'mizzenlaw.VerifyDead', WHERE WHAT IT READS IS OF BULK AT MOST 1048576: true; the input reads as it did. -/
def verifyDeadUptoRow : OpenClaim := { program := "ytjojipeodionmaa", sum := "f5c587c0d1d8ca8e95b84fbcc75a43734ff9a09cd4ce2bc647879eabdac160cf", func := "mizzen/mizzenlaw.VerifyDead", spec := "verifyDead", unfollowed := true, recurses := true, apart := false, narrowed := true }
def VerifyDeadUptoSaid : Prop := verifyDeadUptoRow.holds Try.pinned (OpenSpec.upto verifyDeadSpec)

end Rows
end Go.Proofs.Ytjojipeodionmaa
