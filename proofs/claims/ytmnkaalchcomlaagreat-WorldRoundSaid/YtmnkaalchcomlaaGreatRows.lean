/-
  No cell of these rows narrows 'for every input' (looked for: loops, veiled, ifaces, maps, wideKeys, modest, calm, conditions, laid).
  DERIVED. THE GIVEN ROWS OF THIS SEAT. 19 by the template 'for every input the law returns true; each argument reads behind the call as it read before'; 0 by the template 'total and deterministic' (their statements: YtmnkaalchcomlaaGreatTotals.lean).
  GIVEN WITH THE SEED: the statements are not yours to turn. If you find one false, say at which input.
  Laid BY PROGRAM, IN A SANDBOX (cutbox-rows.mjs): the forced cells as the released guide's own fill.sh prints them over the translation f2a782140ad8f8b0… (all of the seat's roots in one cut). By AI agents, Wed Nov 11 2026. No macro, syntax, notation, axiom, sorry.
-/
import Derived.Test.YtmnkaalchcomlaaGreatChecked
import GoSem.Claim
import GoSem.ClaimJoined
import GoSem.ClaimMapViews
import Derived.JoinedTies
import Derived.KernelRfl
namespace Go.Proofs.YtmnkaalchcomlaaGreat
/- THE CELL 'sum', in the pinned program and in every row, IS THE sha256 OF THE DUMP (.gsa) THAT YtmnkaalchcomlaaGreatProg.lean LOADS. Nothing in Lean hashes anything: it is a label: what it is worth is what the hold of that sum in a sandbox is worth. -/
noncomputable def Tryz.pinned : Pinned := { name := "ytmnkaalchcomlaagreat", sum := "f2a782140ad8f8b03188458a23f32a0b23dbbc03591cfbc240e60ecb510e6aaa", checked := Tryz.checked }
namespace Rows
def none {H : Type} : Left H := { results := [], args := [] }

/-- 'mizzenlaw.ImageTells': WHATEVER THE INPUT: true; the input reads as it did. -/
def imageTellsSpec : ChangeSpec := { name := "imageTells", fn := fun _ => fun
  | [d1, d2, d3] => { results := [.lit (.bool true)], args := [d1, d2, d3] }
  | _ => none }
def imageTellsRow : OpenClaim := { program := "ytmnkaalchcomlaagreat", sum := "f2a782140ad8f8b03188458a23f32a0b23dbbc03591cfbc240e60ecb510e6aaa", func := "mizzen/mizzenlaw.ImageTells", spec := "imageTells", unfollowed := true, recurses := true, apart := false }
def ImageTellsSaid : Prop := imageTellsRow.holds Tryz.pinned (OpenSpec.ofChange imageTellsSpec)

/-- ITS FALSE NEIGHBOUR: 'it returns false'. Refute it at one input. -/
def imageTellsWrong : ChangeSpec := { name := "imageTells", fn := fun _ => fun
  | [d1, d2, d3] => { results := [.lit (.bool false)], args := [d1, d2, d3] }
  | _ => none }
def ImageTellsWrongFalsely : Prop := imageTellsRow.holds Tryz.pinned (OpenSpec.ofChange imageTellsWrong)

/-- 'mizzenlaw.MachineTells': WHATEVER THE INPUT: true; the input reads as it did. -/
def machineTellsSpec : ChangeSpec := { name := "machineTells", fn := fun _ => fun
  | [d1, d2] => { results := [.lit (.bool true)], args := [d1, d2] }
  | _ => none }
def machineTellsRow : OpenClaim := { program := "ytmnkaalchcomlaagreat", sum := "f2a782140ad8f8b03188458a23f32a0b23dbbc03591cfbc240e60ecb510e6aaa", func := "mizzen/mizzenlaw.MachineTells", spec := "machineTells", unfollowed := true, recurses := true, apart := false }
def MachineTellsSaid : Prop := machineTellsRow.holds Tryz.pinned (OpenSpec.ofChange machineTellsSpec)

/-- ITS FALSE NEIGHBOUR: 'it returns false'. Refute it at one input. -/
def machineTellsWrong : ChangeSpec := { name := "machineTells", fn := fun _ => fun
  | [d1, d2] => { results := [.lit (.bool false)], args := [d1, d2] }
  | _ => none }
def MachineTellsWrongFalsely : Prop := machineTellsRow.holds Tryz.pinned (OpenSpec.ofChange machineTellsWrong)

/-- 'mizzenlaw.MachineOuter': WHATEVER THE INPUT: true; the input reads as it did. -/
def machineOuterSpec : ChangeSpec := { name := "machineOuter", fn := fun _ => fun
  | [d1, d2] => { results := [.lit (.bool true)], args := [d1, d2] }
  | _ => none }
def machineOuterRow : OpenClaim := { program := "ytmnkaalchcomlaagreat", sum := "f2a782140ad8f8b03188458a23f32a0b23dbbc03591cfbc240e60ecb510e6aaa", func := "mizzen/mizzenlaw.MachineOuter", spec := "machineOuter", unfollowed := true, recurses := true, apart := false }
def MachineOuterSaid : Prop := machineOuterRow.holds Tryz.pinned (OpenSpec.ofChange machineOuterSpec)

/-- ITS FALSE NEIGHBOUR: 'it returns false'. Refute it at one input. -/
def machineOuterWrong : ChangeSpec := { name := "machineOuter", fn := fun _ => fun
  | [d1, d2] => { results := [.lit (.bool false)], args := [d1, d2] }
  | _ => none }
def MachineOuterWrongFalsely : Prop := machineOuterRow.holds Tryz.pinned (OpenSpec.ofChange machineOuterWrong)

/-- 'mizzenlaw.MachineRight': WHATEVER THE INPUT: true; the input reads as it did. -/
def machineRightSpec : ChangeSpec := { name := "machineRight", fn := fun _ => fun
  | [d1, d2] => { results := [.lit (.bool true)], args := [d1, d2] }
  | _ => none }
def machineRightRow : OpenClaim := { program := "ytmnkaalchcomlaagreat", sum := "f2a782140ad8f8b03188458a23f32a0b23dbbc03591cfbc240e60ecb510e6aaa", func := "mizzen/mizzenlaw.MachineRight", spec := "machineRight", unfollowed := true, recurses := true, apart := false }
def MachineRightSaid : Prop := machineRightRow.holds Tryz.pinned (OpenSpec.ofChange machineRightSpec)

/-- ITS FALSE NEIGHBOUR: 'it returns false'. Refute it at one input. -/
def machineRightWrong : ChangeSpec := { name := "machineRight", fn := fun _ => fun
  | [d1, d2] => { results := [.lit (.bool false)], args := [d1, d2] }
  | _ => none }
def MachineRightWrongFalsely : Prop := machineRightRow.holds Tryz.pinned (OpenSpec.ofChange machineRightWrong)

/-- 'mizzenlaw.MeterTells': WHATEVER THE INPUT: true; the input reads as it did. -/
def meterTellsSpec : ChangeSpec := { name := "meterTells", fn := fun _ => fun
  | [d1, d2, d3, d4] => { results := [.lit (.bool true)], args := [d1, d2, d3, d4] }
  | _ => none }
def meterTellsRow : OpenClaim := { program := "ytmnkaalchcomlaagreat", sum := "f2a782140ad8f8b03188458a23f32a0b23dbbc03591cfbc240e60ecb510e6aaa", func := "mizzen/mizzenlaw.MeterTells", spec := "meterTells", unfollowed := true, recurses := true, apart := false }
def MeterTellsSaid : Prop := meterTellsRow.holds Tryz.pinned (OpenSpec.ofChange meterTellsSpec)

/-- ITS FALSE NEIGHBOUR: 'it returns false'. Refute it at one input. -/
def meterTellsWrong : ChangeSpec := { name := "meterTells", fn := fun _ => fun
  | [d1, d2, d3, d4] => { results := [.lit (.bool false)], args := [d1, d2, d3, d4] }
  | _ => none }
def MeterTellsWrongFalsely : Prop := meterTellsRow.holds Tryz.pinned (OpenSpec.ofChange meterTellsWrong)

/-- 'mizzenlaw.MeterSplit': WHATEVER THE INPUT: true; the input reads as it did. -/
def meterSplitSpec : ChangeSpec := { name := "meterSplit", fn := fun _ => fun
  | [d1, d2, d3, d4] => { results := [.lit (.bool true)], args := [d1, d2, d3, d4] }
  | _ => none }
def meterSplitRow : OpenClaim := { program := "ytmnkaalchcomlaagreat", sum := "f2a782140ad8f8b03188458a23f32a0b23dbbc03591cfbc240e60ecb510e6aaa", func := "mizzen/mizzenlaw.MeterSplit", spec := "meterSplit", unfollowed := true, recurses := true, apart := false }
def MeterSplitSaid : Prop := meterSplitRow.holds Tryz.pinned (OpenSpec.ofChange meterSplitSpec)

/-- ITS FALSE NEIGHBOUR: 'it returns false'. Refute it at one input. -/
def meterSplitWrong : ChangeSpec := { name := "meterSplit", fn := fun _ => fun
  | [d1, d2, d3, d4] => { results := [.lit (.bool false)], args := [d1, d2, d3, d4] }
  | _ => none }
def MeterSplitWrongFalsely : Prop := meterSplitRow.holds Tryz.pinned (OpenSpec.ofChange meterSplitWrong)

/-- 'mizzenlaw.MeterFree': WHATEVER THE INPUT: true; the input reads as it did. -/
def meterFreeSpec : ChangeSpec := { name := "meterFree", fn := fun _ => fun
  | [d1, d2, d3, d4] => { results := [.lit (.bool true)], args := [d1, d2, d3, d4] }
  | _ => none }
def meterFreeRow : OpenClaim := { program := "ytmnkaalchcomlaagreat", sum := "f2a782140ad8f8b03188458a23f32a0b23dbbc03591cfbc240e60ecb510e6aaa", func := "mizzen/mizzenlaw.MeterFree", spec := "meterFree", unfollowed := true, recurses := true, apart := false }
def MeterFreeSaid : Prop := meterFreeRow.holds Tryz.pinned (OpenSpec.ofChange meterFreeSpec)

/-- ITS FALSE NEIGHBOUR: 'it returns false'. Refute it at one input. -/
def meterFreeWrong : ChangeSpec := { name := "meterFree", fn := fun _ => fun
  | [d1, d2, d3, d4] => { results := [.lit (.bool false)], args := [d1, d2, d3, d4] }
  | _ => none }
def MeterFreeWrongFalsely : Prop := meterFreeRow.holds Tryz.pinned (OpenSpec.ofChange meterFreeWrong)

/-- 'mizzenlaw.MeterSteps': WHATEVER THE INPUT: true; the input reads as it did. -/
def meterStepsSpec : ChangeSpec := { name := "meterSteps", fn := fun _ => fun
  | [d1, d2, d3] => { results := [.lit (.bool true)], args := [d1, d2, d3] }
  | _ => none }
def meterStepsRow : OpenClaim := { program := "ytmnkaalchcomlaagreat", sum := "f2a782140ad8f8b03188458a23f32a0b23dbbc03591cfbc240e60ecb510e6aaa", func := "mizzen/mizzenlaw.MeterSteps", spec := "meterSteps", unfollowed := true, recurses := true, apart := false }
def MeterStepsSaid : Prop := meterStepsRow.holds Tryz.pinned (OpenSpec.ofChange meterStepsSpec)

/-- ITS FALSE NEIGHBOUR: 'it returns false'. Refute it at one input. -/
def meterStepsWrong : ChangeSpec := { name := "meterSteps", fn := fun _ => fun
  | [d1, d2, d3] => { results := [.lit (.bool false)], args := [d1, d2, d3] }
  | _ => none }
def MeterStepsWrongFalsely : Prop := meterStepsRow.holds Tryz.pinned (OpenSpec.ofChange meterStepsWrong)

/-- 'mizzenlaw.MachineSends': WHATEVER THE INPUT: true; the input reads as it did. -/
def machineSendsSpec : ChangeSpec := { name := "machineSends", fn := fun _ => fun
  | [d1, d2] => { results := [.lit (.bool true)], args := [d1, d2] }
  | _ => none }
def machineSendsRow : OpenClaim := { program := "ytmnkaalchcomlaagreat", sum := "f2a782140ad8f8b03188458a23f32a0b23dbbc03591cfbc240e60ecb510e6aaa", func := "mizzen/mizzenlaw.MachineSends", spec := "machineSends", unfollowed := true, recurses := true, apart := false }
def MachineSendsSaid : Prop := machineSendsRow.holds Tryz.pinned (OpenSpec.ofChange machineSendsSpec)

/-- ITS FALSE NEIGHBOUR: 'it returns false'. Refute it at one input. -/
def machineSendsWrong : ChangeSpec := { name := "machineSends", fn := fun _ => fun
  | [d1, d2] => { results := [.lit (.bool false)], args := [d1, d2] }
  | _ => none }
def MachineSendsWrongFalsely : Prop := machineSendsRow.holds Tryz.pinned (OpenSpec.ofChange machineSendsWrong)

/-- 'mizzenlaw.CollectTells': WHATEVER THE INPUT: true; the input reads as it did. -/
def collectTellsSpec : ChangeSpec := { name := "collectTells", fn := fun _ => fun
  | [d1, d2] => { results := [.lit (.bool true)], args := [d1, d2] }
  | _ => none }
def collectTellsRow : OpenClaim := { program := "ytmnkaalchcomlaagreat", sum := "f2a782140ad8f8b03188458a23f32a0b23dbbc03591cfbc240e60ecb510e6aaa", func := "mizzen/mizzenlaw.CollectTells", spec := "collectTells", unfollowed := true, recurses := true, apart := false }
def CollectTellsSaid : Prop := collectTellsRow.holds Tryz.pinned (OpenSpec.ofChange collectTellsSpec)

/-- ITS FALSE NEIGHBOUR: 'it returns false'. Refute it at one input. -/
def collectTellsWrong : ChangeSpec := { name := "collectTells", fn := fun _ => fun
  | [d1, d2] => { results := [.lit (.bool false)], args := [d1, d2] }
  | _ => none }
def CollectTellsWrongFalsely : Prop := collectTellsRow.holds Tryz.pinned (OpenSpec.ofChange collectTellsWrong)

/-- 'mizzenlaw.CollectSame': WHATEVER THE INPUT: true; the input reads as it did. -/
def collectSameSpec : ChangeSpec := { name := "collectSame", fn := fun _ => fun
  | [d1, d2] => { results := [.lit (.bool true)], args := [d1, d2] }
  | _ => none }
def collectSameRow : OpenClaim := { program := "ytmnkaalchcomlaagreat", sum := "f2a782140ad8f8b03188458a23f32a0b23dbbc03591cfbc240e60ecb510e6aaa", func := "mizzen/mizzenlaw.CollectSame", spec := "collectSame", unfollowed := true, recurses := true, apart := false }
def CollectSameSaid : Prop := collectSameRow.holds Tryz.pinned (OpenSpec.ofChange collectSameSpec)

/-- ITS FALSE NEIGHBOUR: 'it returns false'. Refute it at one input. -/
def collectSameWrong : ChangeSpec := { name := "collectSame", fn := fun _ => fun
  | [d1, d2] => { results := [.lit (.bool false)], args := [d1, d2] }
  | _ => none }
def CollectSameWrongFalsely : Prop := collectSameRow.holds Tryz.pinned (OpenSpec.ofChange collectSameWrong)

/-- 'mizzenlaw.CollectRuns': WHATEVER THE INPUT: true; the input reads as it did. -/
def collectRunsSpec : ChangeSpec := { name := "collectRuns", fn := fun _ => fun
  | [d1, d2, d3] => { results := [.lit (.bool true)], args := [d1, d2, d3] }
  | _ => none }
def collectRunsRow : OpenClaim := { program := "ytmnkaalchcomlaagreat", sum := "f2a782140ad8f8b03188458a23f32a0b23dbbc03591cfbc240e60ecb510e6aaa", func := "mizzen/mizzenlaw.CollectRuns", spec := "collectRuns", unfollowed := true, recurses := true, apart := false }
def CollectRunsSaid : Prop := collectRunsRow.holds Tryz.pinned (OpenSpec.ofChange collectRunsSpec)

/-- ITS FALSE NEIGHBOUR: 'it returns false'. Refute it at one input. -/
def collectRunsWrong : ChangeSpec := { name := "collectRuns", fn := fun _ => fun
  | [d1, d2, d3] => { results := [.lit (.bool false)], args := [d1, d2, d3] }
  | _ => none }
def CollectRunsWrongFalsely : Prop := collectRunsRow.holds Tryz.pinned (OpenSpec.ofChange collectRunsWrong)

/-- 'mizzenlaw.WorldTells': WHATEVER THE INPUT: true; the input reads as it did. -/
def worldTellsSpec : ChangeSpec := { name := "worldTells", fn := fun _ => fun
  | [d1, d2, d3, d4, d5] => { results := [.lit (.bool true)], args := [d1, d2, d3, d4, d5] }
  | _ => none }
def worldTellsRow : OpenClaim := { program := "ytmnkaalchcomlaagreat", sum := "f2a782140ad8f8b03188458a23f32a0b23dbbc03591cfbc240e60ecb510e6aaa", func := "mizzen/mizzenlaw.WorldTells", spec := "worldTells", unfollowed := true, recurses := true, apart := false }
def WorldTellsSaid : Prop := worldTellsRow.holds Tryz.pinned (OpenSpec.ofChange worldTellsSpec)

/-- ITS FALSE NEIGHBOUR: 'it returns false'. Refute it at one input. -/
def worldTellsWrong : ChangeSpec := { name := "worldTells", fn := fun _ => fun
  | [d1, d2, d3, d4, d5] => { results := [.lit (.bool false)], args := [d1, d2, d3, d4, d5] }
  | _ => none }
def WorldTellsWrongFalsely : Prop := worldTellsRow.holds Tryz.pinned (OpenSpec.ofChange worldTellsWrong)

/-- 'mizzenlaw.WorldMail': WHATEVER THE INPUT: true; the input reads as it did. -/
def worldMailSpec : ChangeSpec := { name := "worldMail", fn := fun _ => fun
  | [d1, d2] => { results := [.lit (.bool true)], args := [d1, d2] }
  | _ => none }
def worldMailRow : OpenClaim := { program := "ytmnkaalchcomlaagreat", sum := "f2a782140ad8f8b03188458a23f32a0b23dbbc03591cfbc240e60ecb510e6aaa", func := "mizzen/mizzenlaw.WorldMail", spec := "worldMail", unfollowed := true, recurses := true, apart := false }
def WorldMailSaid : Prop := worldMailRow.holds Tryz.pinned (OpenSpec.ofChange worldMailSpec)

/-- ITS FALSE NEIGHBOUR: 'it returns false'. Refute it at one input. -/
def worldMailWrong : ChangeSpec := { name := "worldMail", fn := fun _ => fun
  | [d1, d2] => { results := [.lit (.bool false)], args := [d1, d2] }
  | _ => none }
def WorldMailWrongFalsely : Prop := worldMailRow.holds Tryz.pinned (OpenSpec.ofChange worldMailWrong)

/-- 'mizzenlaw.WorldRound': WHATEVER THE INPUT: true; the input reads as it did. -/
def worldRoundSpec : ChangeSpec := { name := "worldRound", fn := fun _ => fun
  | [d1, d2] => { results := [.lit (.bool true)], args := [d1, d2] }
  | _ => none }
def worldRoundRow : OpenClaim := { program := "ytmnkaalchcomlaagreat", sum := "f2a782140ad8f8b03188458a23f32a0b23dbbc03591cfbc240e60ecb510e6aaa", func := "mizzen/mizzenlaw.WorldRound", spec := "worldRound", unfollowed := true, recurses := true, apart := false }
def WorldRoundSaid : Prop := worldRoundRow.holds Tryz.pinned (OpenSpec.ofChange worldRoundSpec)

/-- ITS FALSE NEIGHBOUR: 'it returns false'. Refute it at one input. -/
def worldRoundWrong : ChangeSpec := { name := "worldRound", fn := fun _ => fun
  | [d1, d2] => { results := [.lit (.bool false)], args := [d1, d2] }
  | _ => none }
def WorldRoundWrongFalsely : Prop := worldRoundRow.holds Tryz.pinned (OpenSpec.ofChange worldRoundWrong)

/-- 'mizzenlaw.WorldSends': WHATEVER THE INPUT: true; the input reads as it did. -/
def worldSendsSpec : ChangeSpec := { name := "worldSends", fn := fun _ => fun
  | [d1, d2, d3, d4] => { results := [.lit (.bool true)], args := [d1, d2, d3, d4] }
  | _ => none }
def worldSendsRow : OpenClaim := { program := "ytmnkaalchcomlaagreat", sum := "f2a782140ad8f8b03188458a23f32a0b23dbbc03591cfbc240e60ecb510e6aaa", func := "mizzen/mizzenlaw.WorldSends", spec := "worldSends", unfollowed := true, recurses := true, apart := false }
def WorldSendsSaid : Prop := worldSendsRow.holds Tryz.pinned (OpenSpec.ofChange worldSendsSpec)

/-- ITS FALSE NEIGHBOUR: 'it returns false'. Refute it at one input. -/
def worldSendsWrong : ChangeSpec := { name := "worldSends", fn := fun _ => fun
  | [d1, d2, d3, d4] => { results := [.lit (.bool false)], args := [d1, d2, d3, d4] }
  | _ => none }
def WorldSendsWrongFalsely : Prop := worldSendsRow.holds Tryz.pinned (OpenSpec.ofChange worldSendsWrong)

/-- 'mizzenlaw.WorldAlone': WHATEVER THE INPUT: true; the input reads as it did. -/
def worldAloneSpec : ChangeSpec := { name := "worldAlone", fn := fun _ => fun
  | [d1, d2, d3] => { results := [.lit (.bool true)], args := [d1, d2, d3] }
  | _ => none }
def worldAloneRow : OpenClaim := { program := "ytmnkaalchcomlaagreat", sum := "f2a782140ad8f8b03188458a23f32a0b23dbbc03591cfbc240e60ecb510e6aaa", func := "mizzen/mizzenlaw.WorldAlone", spec := "worldAlone", unfollowed := true, recurses := true, apart := false }
def WorldAloneSaid : Prop := worldAloneRow.holds Tryz.pinned (OpenSpec.ofChange worldAloneSpec)

/-- ITS FALSE NEIGHBOUR: 'it returns false'. Refute it at one input. -/
def worldAloneWrong : ChangeSpec := { name := "worldAlone", fn := fun _ => fun
  | [d1, d2, d3] => { results := [.lit (.bool false)], args := [d1, d2, d3] }
  | _ => none }
def WorldAloneWrongFalsely : Prop := worldAloneRow.holds Tryz.pinned (OpenSpec.ofChange worldAloneWrong)

/-- 'mizzenlaw.ImageApart': WHATEVER THE INPUT: true; the input reads as it did. -/
def imageApartSpec : ChangeSpec := { name := "imageApart", fn := fun _ => fun
  | [d1, d2, d3] => { results := [.lit (.bool true)], args := [d1, d2, d3] }
  | _ => none }
def imageApartRow : OpenClaim := { program := "ytmnkaalchcomlaagreat", sum := "f2a782140ad8f8b03188458a23f32a0b23dbbc03591cfbc240e60ecb510e6aaa", func := "mizzen/mizzenlaw.ImageApart", spec := "imageApart", unfollowed := true, recurses := true, apart := false }
def ImageApartSaid : Prop := imageApartRow.holds Tryz.pinned (OpenSpec.ofChange imageApartSpec)

/-- ITS FALSE NEIGHBOUR: 'it returns false'. Refute it at one input. -/
def imageApartWrong : ChangeSpec := { name := "imageApart", fn := fun _ => fun
  | [d1, d2, d3] => { results := [.lit (.bool false)], args := [d1, d2, d3] }
  | _ => none }
def ImageApartWrongFalsely : Prop := imageApartRow.holds Tryz.pinned (OpenSpec.ofChange imageApartWrong)

/-- 'mizzenlaw.ImageBack': WHATEVER THE INPUT: true; the input reads as it did. -/
def imageBackSpec : ChangeSpec := { name := "imageBack", fn := fun _ => fun
  | [d1, d2, d3, d4] => { results := [.lit (.bool true)], args := [d1, d2, d3, d4] }
  | _ => none }
def imageBackRow : OpenClaim := { program := "ytmnkaalchcomlaagreat", sum := "f2a782140ad8f8b03188458a23f32a0b23dbbc03591cfbc240e60ecb510e6aaa", func := "mizzen/mizzenlaw.ImageBack", spec := "imageBack", unfollowed := true, recurses := true, apart := false }
def ImageBackSaid : Prop := imageBackRow.holds Tryz.pinned (OpenSpec.ofChange imageBackSpec)

/-- ITS FALSE NEIGHBOUR: 'it returns false'. Refute it at one input. -/
def imageBackWrong : ChangeSpec := { name := "imageBack", fn := fun _ => fun
  | [d1, d2, d3, d4] => { results := [.lit (.bool false)], args := [d1, d2, d3, d4] }
  | _ => none }
def ImageBackWrongFalsely : Prop := imageBackRow.holds Tryz.pinned (OpenSpec.ofChange imageBackWrong)

/- THE SECOND FORM. 'bulk': how many values and letters a reading holds, each counted each time it is reached (what is shared counts as often as it is met; a slice's spare places count too). A statement '..UptoSaid' is the law's where the arguments, and the package variables that the reading takes, are together of bulk at most 1048576: NARROWER than '..Said'. Prove '..Said' where nothing that the law and all that it calls make is longer than what came in: it says more and counts as full. Else prove '..UptoSaid'. A law counts once. -/
mutual
def uptoBulk {H : Type} : DataW H → Nat
  | .lit (.string bytes) => bytes.length + 1
  | .lit _ => 1
  | .nil => 1
  | .ptr d => uptoBulk d + 1
  | .slice elems spare => uptoBulkAll elems + uptoBulkAll spare + 1
  | .agg parts => uptoBulkAll parts + 1
  | .iface _ d => uptoBulk d + 1
  | .map entries => uptoBulkEntries entries + 1
  | .held _ => 1
def uptoBulkAll {H : Type} : List (DataW H) → Nat
  | [] => 0
  | d :: r => uptoBulk d + uptoBulkAll r
def uptoBulkEntries {H : Type} : List (Lit × DataW H) → Nat
  | [] => 0
  | x :: r => uptoBulkEntry x + uptoBulkEntries r
def uptoBulkEntry {H : Type} : Lit × DataW H → Nat
  | (.string bytes, d) => bytes.length + uptoBulk d + 1
  | (_, d) => uptoBulk d + 1
 end
def uptoSmall : (H : Type) → List (DataW H) → Bool := fun _ ds => decide (uptoBulkAll ds ≤ 1048576)
def OpenSpec.upto (s : _root_.Go.ChangeSpec) : _root_.Go.OpenSpec := { _root_.Go.OpenSpec.ofChange s with cond := some uptoSmall }

/-- 'mizzenlaw.ImageTells', WHERE WHAT IT READS IS OF BULK AT MOST 1048576: true; the input reads as it did. -/
def imageTellsUptoRow : OpenClaim := { program := "ytmnkaalchcomlaagreat", sum := "f2a782140ad8f8b03188458a23f32a0b23dbbc03591cfbc240e60ecb510e6aaa", func := "mizzen/mizzenlaw.ImageTells", spec := "imageTells", unfollowed := true, recurses := true, apart := false, narrowed := true }
def ImageTellsUptoSaid : Prop := imageTellsUptoRow.holds Tryz.pinned (OpenSpec.upto imageTellsSpec)

/-- 'mizzenlaw.MachineTells', WHERE WHAT IT READS IS OF BULK AT MOST 1048576: true; the input reads as it did. -/
def machineTellsUptoRow : OpenClaim := { program := "ytmnkaalchcomlaagreat", sum := "f2a782140ad8f8b03188458a23f32a0b23dbbc03591cfbc240e60ecb510e6aaa", func := "mizzen/mizzenlaw.MachineTells", spec := "machineTells", unfollowed := true, recurses := true, apart := false, narrowed := true }
def MachineTellsUptoSaid : Prop := machineTellsUptoRow.holds Tryz.pinned (OpenSpec.upto machineTellsSpec)

/-- 'mizzenlaw.MachineOuter', WHERE WHAT IT READS IS OF BULK AT MOST 1048576: true; the input reads as it did. -/
def machineOuterUptoRow : OpenClaim := { program := "ytmnkaalchcomlaagreat", sum := "f2a782140ad8f8b03188458a23f32a0b23dbbc03591cfbc240e60ecb510e6aaa", func := "mizzen/mizzenlaw.MachineOuter", spec := "machineOuter", unfollowed := true, recurses := true, apart := false, narrowed := true }
def MachineOuterUptoSaid : Prop := machineOuterUptoRow.holds Tryz.pinned (OpenSpec.upto machineOuterSpec)

/-- 'mizzenlaw.MachineRight', WHERE WHAT IT READS IS OF BULK AT MOST 1048576: true; the input reads as it did. -/
def machineRightUptoRow : OpenClaim := { program := "ytmnkaalchcomlaagreat", sum := "f2a782140ad8f8b03188458a23f32a0b23dbbc03591cfbc240e60ecb510e6aaa", func := "mizzen/mizzenlaw.MachineRight", spec := "machineRight", unfollowed := true, recurses := true, apart := false, narrowed := true }
def MachineRightUptoSaid : Prop := machineRightUptoRow.holds Tryz.pinned (OpenSpec.upto machineRightSpec)

/-- 'mizzenlaw.MeterTells', WHERE WHAT IT READS IS OF BULK AT MOST 1048576: true; the input reads as it did. -/
def meterTellsUptoRow : OpenClaim := { program := "ytmnkaalchcomlaagreat", sum := "f2a782140ad8f8b03188458a23f32a0b23dbbc03591cfbc240e60ecb510e6aaa", func := "mizzen/mizzenlaw.MeterTells", spec := "meterTells", unfollowed := true, recurses := true, apart := false, narrowed := true }
def MeterTellsUptoSaid : Prop := meterTellsUptoRow.holds Tryz.pinned (OpenSpec.upto meterTellsSpec)

/-- 'mizzenlaw.MeterSplit', WHERE WHAT IT READS IS OF BULK AT MOST 1048576: true; the input reads as it did. -/
def meterSplitUptoRow : OpenClaim := { program := "ytmnkaalchcomlaagreat", sum := "f2a782140ad8f8b03188458a23f32a0b23dbbc03591cfbc240e60ecb510e6aaa", func := "mizzen/mizzenlaw.MeterSplit", spec := "meterSplit", unfollowed := true, recurses := true, apart := false, narrowed := true }
def MeterSplitUptoSaid : Prop := meterSplitUptoRow.holds Tryz.pinned (OpenSpec.upto meterSplitSpec)

/-- 'mizzenlaw.MeterFree', WHERE WHAT IT READS IS OF BULK AT MOST 1048576: true; the input reads as it did. -/
def meterFreeUptoRow : OpenClaim := { program := "ytmnkaalchcomlaagreat", sum := "f2a782140ad8f8b03188458a23f32a0b23dbbc03591cfbc240e60ecb510e6aaa", func := "mizzen/mizzenlaw.MeterFree", spec := "meterFree", unfollowed := true, recurses := true, apart := false, narrowed := true }
def MeterFreeUptoSaid : Prop := meterFreeUptoRow.holds Tryz.pinned (OpenSpec.upto meterFreeSpec)

/-- 'mizzenlaw.MeterSteps', WHERE WHAT IT READS IS OF BULK AT MOST 1048576: true; the input reads as it did. -/
def meterStepsUptoRow : OpenClaim := { program := "ytmnkaalchcomlaagreat", sum := "f2a782140ad8f8b03188458a23f32a0b23dbbc03591cfbc240e60ecb510e6aaa", func := "mizzen/mizzenlaw.MeterSteps", spec := "meterSteps", unfollowed := true, recurses := true, apart := false, narrowed := true }
def MeterStepsUptoSaid : Prop := meterStepsUptoRow.holds Tryz.pinned (OpenSpec.upto meterStepsSpec)

/-- 'mizzenlaw.MachineSends', WHERE WHAT IT READS IS OF BULK AT MOST 1048576: true; the input reads as it did. -/
def machineSendsUptoRow : OpenClaim := { program := "ytmnkaalchcomlaagreat", sum := "f2a782140ad8f8b03188458a23f32a0b23dbbc03591cfbc240e60ecb510e6aaa", func := "mizzen/mizzenlaw.MachineSends", spec := "machineSends", unfollowed := true, recurses := true, apart := false, narrowed := true }
def MachineSendsUptoSaid : Prop := machineSendsUptoRow.holds Tryz.pinned (OpenSpec.upto machineSendsSpec)

/-- 'mizzenlaw.CollectTells', WHERE WHAT IT READS IS OF BULK AT MOST 1048576: true; the input reads as it did. -/
def collectTellsUptoRow : OpenClaim := { program := "ytmnkaalchcomlaagreat", sum := "f2a782140ad8f8b03188458a23f32a0b23dbbc03591cfbc240e60ecb510e6aaa", func := "mizzen/mizzenlaw.CollectTells", spec := "collectTells", unfollowed := true, recurses := true, apart := false, narrowed := true }
def CollectTellsUptoSaid : Prop := collectTellsUptoRow.holds Tryz.pinned (OpenSpec.upto collectTellsSpec)

/-- 'mizzenlaw.CollectSame', WHERE WHAT IT READS IS OF BULK AT MOST 1048576: true; the input reads as it did. -/
def collectSameUptoRow : OpenClaim := { program := "ytmnkaalchcomlaagreat", sum := "f2a782140ad8f8b03188458a23f32a0b23dbbc03591cfbc240e60ecb510e6aaa", func := "mizzen/mizzenlaw.CollectSame", spec := "collectSame", unfollowed := true, recurses := true, apart := false, narrowed := true }
def CollectSameUptoSaid : Prop := collectSameUptoRow.holds Tryz.pinned (OpenSpec.upto collectSameSpec)

/-- 'mizzenlaw.CollectRuns', WHERE WHAT IT READS IS OF BULK AT MOST 1048576: true; the input reads as it did. -/
def collectRunsUptoRow : OpenClaim := { program := "ytmnkaalchcomlaagreat", sum := "f2a782140ad8f8b03188458a23f32a0b23dbbc03591cfbc240e60ecb510e6aaa", func := "mizzen/mizzenlaw.CollectRuns", spec := "collectRuns", unfollowed := true, recurses := true, apart := false, narrowed := true }
def CollectRunsUptoSaid : Prop := collectRunsUptoRow.holds Tryz.pinned (OpenSpec.upto collectRunsSpec)

/-- 'mizzenlaw.WorldTells', WHERE WHAT IT READS IS OF BULK AT MOST 1048576: true; the input reads as it did. -/
def worldTellsUptoRow : OpenClaim := { program := "ytmnkaalchcomlaagreat", sum := "f2a782140ad8f8b03188458a23f32a0b23dbbc03591cfbc240e60ecb510e6aaa", func := "mizzen/mizzenlaw.WorldTells", spec := "worldTells", unfollowed := true, recurses := true, apart := false, narrowed := true }
def WorldTellsUptoSaid : Prop := worldTellsUptoRow.holds Tryz.pinned (OpenSpec.upto worldTellsSpec)

/-- 'mizzenlaw.WorldMail', WHERE WHAT IT READS IS OF BULK AT MOST 1048576: true; the input reads as it did. -/
def worldMailUptoRow : OpenClaim := { program := "ytmnkaalchcomlaagreat", sum := "f2a782140ad8f8b03188458a23f32a0b23dbbc03591cfbc240e60ecb510e6aaa", func := "mizzen/mizzenlaw.WorldMail", spec := "worldMail", unfollowed := true, recurses := true, apart := false, narrowed := true }
def WorldMailUptoSaid : Prop := worldMailUptoRow.holds Tryz.pinned (OpenSpec.upto worldMailSpec)

/-- 'mizzenlaw.WorldRound', WHERE WHAT IT READS IS OF BULK AT MOST 1048576: true; the input reads as it did. -/
def worldRoundUptoRow : OpenClaim := { program := "ytmnkaalchcomlaagreat", sum := "f2a782140ad8f8b03188458a23f32a0b23dbbc03591cfbc240e60ecb510e6aaa", func := "mizzen/mizzenlaw.WorldRound", spec := "worldRound", unfollowed := true, recurses := true, apart := false, narrowed := true }
def WorldRoundUptoSaid : Prop := worldRoundUptoRow.holds Tryz.pinned (OpenSpec.upto worldRoundSpec)

/-- 'mizzenlaw.WorldSends', WHERE WHAT IT READS IS OF BULK AT MOST 1048576: true; the input reads as it did. -/
def worldSendsUptoRow : OpenClaim := { program := "ytmnkaalchcomlaagreat", sum := "f2a782140ad8f8b03188458a23f32a0b23dbbc03591cfbc240e60ecb510e6aaa", func := "mizzen/mizzenlaw.WorldSends", spec := "worldSends", unfollowed := true, recurses := true, apart := false, narrowed := true }
def WorldSendsUptoSaid : Prop := worldSendsUptoRow.holds Tryz.pinned (OpenSpec.upto worldSendsSpec)

/-- 'mizzenlaw.WorldAlone', WHERE WHAT IT READS IS OF BULK AT MOST 1048576: true; the input reads as it did. -/
def worldAloneUptoRow : OpenClaim := { program := "ytmnkaalchcomlaagreat", sum := "f2a782140ad8f8b03188458a23f32a0b23dbbc03591cfbc240e60ecb510e6aaa", func := "mizzen/mizzenlaw.WorldAlone", spec := "worldAlone", unfollowed := true, recurses := true, apart := false, narrowed := true }
def WorldAloneUptoSaid : Prop := worldAloneUptoRow.holds Tryz.pinned (OpenSpec.upto worldAloneSpec)

/-- 'mizzenlaw.ImageApart', WHERE WHAT IT READS IS OF BULK AT MOST 1048576: true; the input reads as it did. -/
def imageApartUptoRow : OpenClaim := { program := "ytmnkaalchcomlaagreat", sum := "f2a782140ad8f8b03188458a23f32a0b23dbbc03591cfbc240e60ecb510e6aaa", func := "mizzen/mizzenlaw.ImageApart", spec := "imageApart", unfollowed := true, recurses := true, apart := false, narrowed := true }
def ImageApartUptoSaid : Prop := imageApartUptoRow.holds Tryz.pinned (OpenSpec.upto imageApartSpec)

/-- 'mizzenlaw.ImageBack', WHERE WHAT IT READS IS OF BULK AT MOST 1048576: true; the input reads as it did. -/
def imageBackUptoRow : OpenClaim := { program := "ytmnkaalchcomlaagreat", sum := "f2a782140ad8f8b03188458a23f32a0b23dbbc03591cfbc240e60ecb510e6aaa", func := "mizzen/mizzenlaw.ImageBack", spec := "imageBack", unfollowed := true, recurses := true, apart := false, narrowed := true }
def ImageBackUptoSaid : Prop := imageBackUptoRow.holds Tryz.pinned (OpenSpec.upto imageBackSpec)

end Rows
end Go.Proofs.YtmnkaalchcomlaaGreat
