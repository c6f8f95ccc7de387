/-
  DERIVED. GIVEN WITH THE SEED: THE CARDS: each row of YthfkmcbblnbfaaaGreatDoorRows.lean that lists a variable, with what it lists TIED to the program's text (the seventh form; the later family's looks); each row that meets fmt, with fmt's text TOLD by the authors' own Lean function (tested against real Go, not proved from fmt's source: count such statements apart). THE CARD IS WHAT COUNTS. Prove the row's statement (the work); the ties are given (YthfkmcbblnbfaaaGreatDoorTie.lean); close each card by the builder's one call (the guide's Derived/Test/ToyasCard.lean, 'card_holds'). Laid BY PROGRAM, IN A SANDBOX (cutbox-door.mjs). By AI agents, Wed Nov 11 2026. No macro, syntax, notation, axiom, sorry.
-/
import Derived.Test.YthfkmcbblnbfaaaGreatDoorRows
import GoSem.ClaimSeven
namespace Go.Proofs.YthfkmcbblnbfaaaGreatDoor
namespace Rows

/-- THE TIED CARD OF 'mizzenlaw.DeskSame'. -/
def deskSameCard : Claim7 := { stood := { row := deskSameRow, standIns := [], harness := (true, "4aee311a25f5264f05ebc81d29261b410d48f1644d2c290b118b5e85d827bbb4"), looks := true }, kinds := [], alts := [], laidByText := true, laidKinds := [.data, .data, .data, .data, .sentinel, .sentinel, .data, .pinned], laidTests := true, laidLooks := .later }
def DeskSameCardSaid : Prop := Claim7.holds Tryz.pinned (.plain (OpenSpec.ofChange deskSameSpec)) deskSameCard

/-- THE TIED CARD OF 'mizzenlaw.DeskRuns'. -/
def deskRunsCard : Claim7 := { stood := { row := deskRunsRow, standIns := [], harness := (true, "4aee311a25f5264f05ebc81d29261b410d48f1644d2c290b118b5e85d827bbb4"), looks := true }, kinds := [], alts := [], laidByText := true, laidKinds := [.data, .data, .data, .data, .sentinel, .sentinel, .data, .pinned], laidTests := true, laidLooks := .later }
def DeskRunsCardSaid : Prop := Claim7.holds Tryz.pinned (.plain (OpenSpec.ofChange deskRunsSpec)) deskRunsCard

/-- THE TIED CARD OF 'mizzenlaw.ReportTells'. -/
def reportTellsCard : Claim7 := { stood := { row := reportTellsRow, standIns := [], harness := (true, "4aee311a25f5264f05ebc81d29261b410d48f1644d2c290b118b5e85d827bbb4"), looks := true }, kinds := [], alts := [], laidByText := true, laidKinds := [.data, .data, .data, .data, .sentinel, .sentinel, .data, .pinned], laidTests := true, laidLooks := .later }
def ReportTellsCardSaid : Prop := Claim7.holds Tryz.pinned (.plain (OpenSpec.ofChange reportTellsSpec)) reportTellsCard

/-- THE TIED CARD OF 'mizzenlaw.DeskTells'. -/
def deskTellsCard : Claim7 := { stood := { row := deskTellsRow, standIns := [], harness := (true, "4aee311a25f5264f05ebc81d29261b410d48f1644d2c290b118b5e85d827bbb4"), looks := true }, kinds := [], alts := [], laidByText := true, laidKinds := [.data, .data, .data, .data], laidTests := true, laidLooks := .later }
def DeskTellsCardSaid : Prop := Claim7.holds Tryz.pinned (.plain (OpenSpec.ofChange deskTellsSpec)) deskTellsCard

/-- THE TIED CARD OF 'mizzenlaw.RestWorlds'. -/
def restWorldsCard : Claim7 := { stood := { row := restWorldsRow, standIns := [], harness := (true, "4aee311a25f5264f05ebc81d29261b410d48f1644d2c290b118b5e85d827bbb4"), looks := true }, kinds := [], alts := [], laidByText := true, laidKinds := [.data, .data, .data, .data], laidTests := true, laidLooks := .later }
def RestWorldsCardSaid : Prop := Claim7.holds Tryz.pinned (.plain (OpenSpec.ofChange restWorldsSpec)) restWorldsCard

/-- THE TIED CARD OF 'mizzenlaw.ReportBack'. -/
def reportBackCard : Claim7 := { stood := { row := reportBackRow, standIns := [], harness := (true, "4aee311a25f5264f05ebc81d29261b410d48f1644d2c290b118b5e85d827bbb4"), looks := true }, kinds := [], alts := [], laidByText := true, laidKinds := [.data, .data, .data, .data, .sentinel, .sentinel, .data, .pinned], laidTests := true, laidLooks := .later }
def ReportBackCardSaid : Prop := Claim7.holds Tryz.pinned (.plain (OpenSpec.ofChange reportBackSpec)) reportBackCard

/-- THE TIED CARD OF 'mizzenlaw.RestMachines'. -/
def restMachinesCard : Claim7 := { stood := { row := restMachinesRow, standIns := [], harness := (true, "4aee311a25f5264f05ebc81d29261b410d48f1644d2c290b118b5e85d827bbb4"), looks := true }, kinds := [], alts := [], laidByText := true, laidKinds := [.data, .data, .data, .data, .sentinel, .sentinel, .data, .pinned], laidTests := true, laidLooks := .later }
def RestMachinesCardSaid : Prop := Claim7.holds Tryz.pinned (.plain (OpenSpec.ofChange restMachinesSpec)) restMachinesCard

/-- THE SECOND FORM's CARD OF 'mizzenlaw.DeskSame'. -/
def deskSameUptoCard : Claim7 := { stood := { row := deskSameUptoRow, standIns := [], harness := (true, "4aee311a25f5264f05ebc81d29261b410d48f1644d2c290b118b5e85d827bbb4"), looks := true }, kinds := [], alts := [], laidByText := true, laidKinds := [.data, .data, .data, .data, .sentinel, .sentinel, .data, .pinned], laidTests := true, laidLooks := .later }
def DeskSameUptoCardSaid : Prop := Claim7.holds Tryz.pinned (.plain (OpenSpec.upto deskSameSpec)) deskSameUptoCard

/-- THE SECOND FORM's CARD OF 'mizzenlaw.DeskRuns'. -/
def deskRunsUptoCard : Claim7 := { stood := { row := deskRunsUptoRow, standIns := [], harness := (true, "4aee311a25f5264f05ebc81d29261b410d48f1644d2c290b118b5e85d827bbb4"), looks := true }, kinds := [], alts := [], laidByText := true, laidKinds := [.data, .data, .data, .data, .sentinel, .sentinel, .data, .pinned], laidTests := true, laidLooks := .later }
def DeskRunsUptoCardSaid : Prop := Claim7.holds Tryz.pinned (.plain (OpenSpec.upto deskRunsSpec)) deskRunsUptoCard

/-- THE SECOND FORM's CARD OF 'mizzenlaw.ReportTells'. -/
def reportTellsUptoCard : Claim7 := { stood := { row := reportTellsUptoRow, standIns := [], harness := (true, "4aee311a25f5264f05ebc81d29261b410d48f1644d2c290b118b5e85d827bbb4"), looks := true }, kinds := [], alts := [], laidByText := true, laidKinds := [.data, .data, .data, .data, .sentinel, .sentinel, .data, .pinned], laidTests := true, laidLooks := .later }
def ReportTellsUptoCardSaid : Prop := Claim7.holds Tryz.pinned (.plain (OpenSpec.upto reportTellsSpec)) reportTellsUptoCard

/-- THE SECOND FORM's CARD OF 'mizzenlaw.DeskTells'. -/
def deskTellsUptoCard : Claim7 := { stood := { row := deskTellsUptoRow, standIns := [], harness := (true, "4aee311a25f5264f05ebc81d29261b410d48f1644d2c290b118b5e85d827bbb4"), looks := true }, kinds := [], alts := [], laidByText := true, laidKinds := [.data, .data, .data, .data], laidTests := true, laidLooks := .later }
def DeskTellsUptoCardSaid : Prop := Claim7.holds Tryz.pinned (.plain (OpenSpec.upto deskTellsSpec)) deskTellsUptoCard

/-- THE SECOND FORM's CARD OF 'mizzenlaw.RestWorlds'. -/
def restWorldsUptoCard : Claim7 := { stood := { row := restWorldsUptoRow, standIns := [], harness := (true, "4aee311a25f5264f05ebc81d29261b410d48f1644d2c290b118b5e85d827bbb4"), looks := true }, kinds := [], alts := [], laidByText := true, laidKinds := [.data, .data, .data, .data], laidTests := true, laidLooks := .later }
def RestWorldsUptoCardSaid : Prop := Claim7.holds Tryz.pinned (.plain (OpenSpec.upto restWorldsSpec)) restWorldsUptoCard

/-- THE SECOND FORM's CARD OF 'mizzenlaw.ReportBack'. -/
def reportBackUptoCard : Claim7 := { stood := { row := reportBackUptoRow, standIns := [], harness := (true, "4aee311a25f5264f05ebc81d29261b410d48f1644d2c290b118b5e85d827bbb4"), looks := true }, kinds := [], alts := [], laidByText := true, laidKinds := [.data, .data, .data, .data, .sentinel, .sentinel, .data, .pinned], laidTests := true, laidLooks := .later }
def ReportBackUptoCardSaid : Prop := Claim7.holds Tryz.pinned (.plain (OpenSpec.upto reportBackSpec)) reportBackUptoCard

/-- THE SECOND FORM's CARD OF 'mizzenlaw.RestMachines'. -/
def restMachinesUptoCard : Claim7 := { stood := { row := restMachinesUptoRow, standIns := [], harness := (true, "4aee311a25f5264f05ebc81d29261b410d48f1644d2c290b118b5e85d827bbb4"), looks := true }, kinds := [], alts := [], laidByText := true, laidKinds := [.data, .data, .data, .data, .sentinel, .sentinel, .data, .pinned], laidTests := true, laidLooks := .later }
def RestMachinesUptoCardSaid : Prop := Claim7.holds Tryz.pinned (.plain (OpenSpec.upto restMachinesSpec)) restMachinesUptoCard
end Rows
end Go.Proofs.YthfkmcbblnbfaaaGreatDoor
