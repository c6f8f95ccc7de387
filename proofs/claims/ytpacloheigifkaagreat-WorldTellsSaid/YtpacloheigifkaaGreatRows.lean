/-
  No cell of these rows narrows 'for every input' (looked for: loops, veiled, ifaces, maps, wideKeys, modest, calm, conditions, laid).
  DERIVED. THE GIVEN ROWS OF THIS SEAT. 10 by the template 'for every input the law returns true; each argument reads behind the call as it read before'; 0 by the template 'total and deterministic' (their statements: YtpacloheigifkaaGreatTotals.lean).
  GIVEN WITH THE SEED: the statements are not yours to turn. If you find one false, say at which input.
  Laid BY PROGRAM, IN A SANDBOX (cutbox-rows.mjs): the forced cells as the released guide's own fill.sh prints them over the translation 6d79d92818798f15… (all of the seat's roots in one cut). By AI agents, Wed Nov 11 2026. No macro, syntax, notation, axiom, sorry.
-/
import Derived.Test.YtpacloheigifkaaGreatChecked
import GoSem.Claim
import GoSem.ClaimJoined
import GoSem.ClaimMapViews
import Derived.JoinedTies
import Derived.KernelRfl
namespace Go.Proofs.YtpacloheigifkaaGreat
/- THE CELL 'sum', in the pinned program and in every row, IS THE sha256 OF THE DUMP (.gsa) THAT YtpacloheigifkaaGreatProg.lean LOADS. Nothing in Lean hashes anything: it is a label: what it is worth is what the hold of that sum in a sandbox is worth. -/
noncomputable def Tryz.pinned : Pinned := { name := "ytpacloheigifkaagreat", sum := "6d79d92818798f151449d41484e6de6cd9c8d9b6dfe8a022ee7d1f60263e5f07", checked := Tryz.checked }
namespace Rows
def none {H : Type} : Left H := { results := [], args := [] }

/-- 'mizzenlaw.ImageTells': WHATEVER THE INPUT: true; the input reads as it did. -/
def imageTellsSpec : ChangeSpec := { name := "imageTells", fn := fun _ => fun
  | [d1, d2, d3] => { results := [.lit (.bool true)], args := [d1, d2, d3] }
  | _ => none }
def imageTellsRow : OpenClaim := { program := "ytpacloheigifkaagreat", sum := "6d79d92818798f151449d41484e6de6cd9c8d9b6dfe8a022ee7d1f60263e5f07", func := "mizzen/mizzenlaw.ImageTells", spec := "imageTells", unfollowed := true, recurses := true, apart := false }
def ImageTellsSaid : Prop := imageTellsRow.holds Tryz.pinned (OpenSpec.ofChange imageTellsSpec)

/-- ITS FALSE NEIGHBOUR: 'it returns false'. Refute it at one input. -/
def imageTellsWrong : ChangeSpec := { name := "imageTells", fn := fun _ => fun
  | [d1, d2, d3] => { results := [.lit (.bool false)], args := [d1, d2, d3] }
  | _ => none }
def ImageTellsWrongFalsely : Prop := imageTellsRow.holds Tryz.pinned (OpenSpec.ofChange imageTellsWrong)

/-- 'mizzenlaw.MachineTells': WHATEVER THE INPUT: true; the input reads as it did. -/
def machineTellsSpec : ChangeSpec := { name := "machineTells", fn := fun _ => fun
  | [d1, d2] => { results := [.lit (.bool true)], args := [d1, d2] }
  | _ => none }
def machineTellsRow : OpenClaim := { program := "ytpacloheigifkaagreat", sum := "6d79d92818798f151449d41484e6de6cd9c8d9b6dfe8a022ee7d1f60263e5f07", func := "mizzen/mizzenlaw.MachineTells", spec := "machineTells", unfollowed := true, recurses := true, apart := false }
def MachineTellsSaid : Prop := machineTellsRow.holds Tryz.pinned (OpenSpec.ofChange machineTellsSpec)

/-- ITS FALSE NEIGHBOUR: 'it returns false'. Refute it at one input. -/
def machineTellsWrong : ChangeSpec := { name := "machineTells", fn := fun _ => fun
  | [d1, d2] => { results := [.lit (.bool false)], args := [d1, d2] }
  | _ => none }
def MachineTellsWrongFalsely : Prop := machineTellsRow.holds Tryz.pinned (OpenSpec.ofChange machineTellsWrong)

/-- 'mizzenlaw.MeterTells': WHATEVER THE INPUT: true; the input reads as it did. -/
def meterTellsSpec : ChangeSpec := { name := "meterTells", fn := fun _ => fun
  | [d1, d2, d3, d4] => { results := [.lit (.bool true)], args := [d1, d2, d3, d4] }
  | _ => none }
def meterTellsRow : OpenClaim := { program := "ytpacloheigifkaagreat", sum := "6d79d92818798f151449d41484e6de6cd9c8d9b6dfe8a022ee7d1f60263e5f07", func := "mizzen/mizzenlaw.MeterTells", spec := "meterTells", unfollowed := true, recurses := true, apart := false }
def MeterTellsSaid : Prop := meterTellsRow.holds Tryz.pinned (OpenSpec.ofChange meterTellsSpec)

/-- ITS FALSE NEIGHBOUR: 'it returns false'. Refute it at one input. -/
def meterTellsWrong : ChangeSpec := { name := "meterTells", fn := fun _ => fun
  | [d1, d2, d3, d4] => { results := [.lit (.bool false)], args := [d1, d2, d3, d4] }
  | _ => none }
def MeterTellsWrongFalsely : Prop := meterTellsRow.holds Tryz.pinned (OpenSpec.ofChange meterTellsWrong)

/-- 'mizzenlaw.CollectTells': WHATEVER THE INPUT: true; the input reads as it did. -/
def collectTellsSpec : ChangeSpec := { name := "collectTells", fn := fun _ => fun
  | [d1, d2] => { results := [.lit (.bool true)], args := [d1, d2] }
  | _ => none }
def collectTellsRow : OpenClaim := { program := "ytpacloheigifkaagreat", sum := "6d79d92818798f151449d41484e6de6cd9c8d9b6dfe8a022ee7d1f60263e5f07", func := "mizzen/mizzenlaw.CollectTells", spec := "collectTells", unfollowed := true, recurses := true, apart := false }
def CollectTellsSaid : Prop := collectTellsRow.holds Tryz.pinned (OpenSpec.ofChange collectTellsSpec)

/-- ITS FALSE NEIGHBOUR: 'it returns false'. Refute it at one input. -/
def collectTellsWrong : ChangeSpec := { name := "collectTells", fn := fun _ => fun
  | [d1, d2] => { results := [.lit (.bool false)], args := [d1, d2] }
  | _ => none }
def CollectTellsWrongFalsely : Prop := collectTellsRow.holds Tryz.pinned (OpenSpec.ofChange collectTellsWrong)

/-- 'mizzenlaw.WorldTells': WHATEVER THE INPUT: true; the input reads as it did. -/
def worldTellsSpec : ChangeSpec := { name := "worldTells", fn := fun _ => fun
  | [d1, d2, d3, d4, d5] => { results := [.lit (.bool true)], args := [d1, d2, d3, d4, d5] }
  | _ => none }
def worldTellsRow : OpenClaim := { program := "ytpacloheigifkaagreat", sum := "6d79d92818798f151449d41484e6de6cd9c8d9b6dfe8a022ee7d1f60263e5f07", func := "mizzen/mizzenlaw.WorldTells", spec := "worldTells", unfollowed := true, recurses := true, apart := false }
def WorldTellsSaid : Prop := worldTellsRow.holds Tryz.pinned (OpenSpec.ofChange worldTellsSpec)

/-- ITS FALSE NEIGHBOUR: 'it returns false'. Refute it at one input. -/
def worldTellsWrong : ChangeSpec := { name := "worldTells", fn := fun _ => fun
  | [d1, d2, d3, d4, d5] => { results := [.lit (.bool false)], args := [d1, d2, d3, d4, d5] }
  | _ => none }
def WorldTellsWrongFalsely : Prop := worldTellsRow.holds Tryz.pinned (OpenSpec.ofChange worldTellsWrong)

/-- 'mizzenlaw.WorldMail': WHATEVER THE INPUT: true; the input reads as it did. -/
def worldMailSpec : ChangeSpec := { name := "worldMail", fn := fun _ => fun
  | [d1, d2] => { results := [.lit (.bool true)], args := [d1, d2] }
  | _ => none }
def worldMailRow : OpenClaim := { program := "ytpacloheigifkaagreat", sum := "6d79d92818798f151449d41484e6de6cd9c8d9b6dfe8a022ee7d1f60263e5f07", func := "mizzen/mizzenlaw.WorldMail", spec := "worldMail", unfollowed := true, recurses := true, apart := false }
def WorldMailSaid : Prop := worldMailRow.holds Tryz.pinned (OpenSpec.ofChange worldMailSpec)

/-- ITS FALSE NEIGHBOUR: 'it returns false'. Refute it at one input. -/
def worldMailWrong : ChangeSpec := { name := "worldMail", fn := fun _ => fun
  | [d1, d2] => { results := [.lit (.bool false)], args := [d1, d2] }
  | _ => none }
def WorldMailWrongFalsely : Prop := worldMailRow.holds Tryz.pinned (OpenSpec.ofChange worldMailWrong)

/-- 'mizzenlaw.WorldSends': WHATEVER THE INPUT: true; the input reads as it did. -/
def worldSendsSpec : ChangeSpec := { name := "worldSends", fn := fun _ => fun
  | [d1, d2, d3, d4] => { results := [.lit (.bool true)], args := [d1, d2, d3, d4] }
  | _ => none }
def worldSendsRow : OpenClaim := { program := "ytpacloheigifkaagreat", sum := "6d79d92818798f151449d41484e6de6cd9c8d9b6dfe8a022ee7d1f60263e5f07", func := "mizzen/mizzenlaw.WorldSends", spec := "worldSends", unfollowed := true, recurses := true, apart := false }
def WorldSendsSaid : Prop := worldSendsRow.holds Tryz.pinned (OpenSpec.ofChange worldSendsSpec)

/-- ITS FALSE NEIGHBOUR: 'it returns false'. Refute it at one input. -/
def worldSendsWrong : ChangeSpec := { name := "worldSends", fn := fun _ => fun
  | [d1, d2, d3, d4] => { results := [.lit (.bool false)], args := [d1, d2, d3, d4] }
  | _ => none }
def WorldSendsWrongFalsely : Prop := worldSendsRow.holds Tryz.pinned (OpenSpec.ofChange worldSendsWrong)

/-- 'mizzenlaw.WorldAlone': WHATEVER THE INPUT: true; the input reads as it did. -/
def worldAloneSpec : ChangeSpec := { name := "worldAlone", fn := fun _ => fun
  | [d1, d2, d3] => { results := [.lit (.bool true)], args := [d1, d2, d3] }
  | _ => none }
def worldAloneRow : OpenClaim := { program := "ytpacloheigifkaagreat", sum := "6d79d92818798f151449d41484e6de6cd9c8d9b6dfe8a022ee7d1f60263e5f07", func := "mizzen/mizzenlaw.WorldAlone", spec := "worldAlone", unfollowed := true, recurses := true, apart := false }
def WorldAloneSaid : Prop := worldAloneRow.holds Tryz.pinned (OpenSpec.ofChange worldAloneSpec)

/-- ITS FALSE NEIGHBOUR: 'it returns false'. Refute it at one input. -/
def worldAloneWrong : ChangeSpec := { name := "worldAlone", fn := fun _ => fun
  | [d1, d2, d3] => { results := [.lit (.bool false)], args := [d1, d2, d3] }
  | _ => none }
def WorldAloneWrongFalsely : Prop := worldAloneRow.holds Tryz.pinned (OpenSpec.ofChange worldAloneWrong)

/-- 'mizzenlaw.ImageApart': WHATEVER THE INPUT: true; the input reads as it did. -/
def imageApartSpec : ChangeSpec := { name := "imageApart", fn := fun _ => fun
  | [d1, d2, d3] => { results := [.lit (.bool true)], args := [d1, d2, d3] }
  | _ => none }
def imageApartRow : OpenClaim := { program := "ytpacloheigifkaagreat", sum := "6d79d92818798f151449d41484e6de6cd9c8d9b6dfe8a022ee7d1f60263e5f07", func := "mizzen/mizzenlaw.ImageApart", spec := "imageApart", unfollowed := true, recurses := true, apart := false }
def ImageApartSaid : Prop := imageApartRow.holds Tryz.pinned (OpenSpec.ofChange imageApartSpec)

/-- ITS FALSE NEIGHBOUR: 'it returns false'. Refute it at one input. -/
def imageApartWrong : ChangeSpec := { name := "imageApart", fn := fun _ => fun
  | [d1, d2, d3] => { results := [.lit (.bool false)], args := [d1, d2, d3] }
  | _ => none }
def ImageApartWrongFalsely : Prop := imageApartRow.holds Tryz.pinned (OpenSpec.ofChange imageApartWrong)

/-- 'mizzenlaw.ImageBack': WHATEVER THE INPUT: true; the input reads as it did. -/
def imageBackSpec : ChangeSpec := { name := "imageBack", fn := fun _ => fun
  | [d1, d2, d3, d4] => { results := [.lit (.bool true)], args := [d1, d2, d3, d4] }
  | _ => none }
def imageBackRow : OpenClaim := { program := "ytpacloheigifkaagreat", sum := "6d79d92818798f151449d41484e6de6cd9c8d9b6dfe8a022ee7d1f60263e5f07", func := "mizzen/mizzenlaw.ImageBack", spec := "imageBack", unfollowed := true, recurses := true, apart := false }
def ImageBackSaid : Prop := imageBackRow.holds Tryz.pinned (OpenSpec.ofChange imageBackSpec)

/-- ITS FALSE NEIGHBOUR: 'it returns false'. Refute it at one input. -/
def imageBackWrong : ChangeSpec := { name := "imageBack", fn := fun _ => fun
  | [d1, d2, d3, d4] => { results := [.lit (.bool false)], args := [d1, d2, d3, d4] }
  | _ => none }
def ImageBackWrongFalsely : Prop := imageBackRow.holds Tryz.pinned (OpenSpec.ofChange imageBackWrong)

/- THE SECOND FORM. 'bulk': how many values and letters a reading holds, each counted each time it is reached (what is shared counts as often as it is met; a slice's spare places count too). A statement '..UptoSaid' is the law's where the arguments, and the package variables that the reading takes, are together of bulk at most 1048576: NARROWER than '..Said'. Prove '..Said' where nothing that the law and all that it calls make is longer than what came in: it says more and counts as full. Else prove '..UptoSaid'. A law counts once. -/
mutual
def uptoBulk {H : Type} : DataW H → Nat
  | .lit (.string bytes) => bytes.length + 1
  | .lit _ => 1
  | .nil => 1
  | .ptr d => uptoBulk d + 1
  | .slice elems spare => uptoBulkAll elems + uptoBulkAll spare + 1
  | .agg parts => uptoBulkAll parts + 1
  | .iface _ d => uptoBulk d + 1
  | .map entries => uptoBulkEntries entries + 1
  | .held _ => 1
def uptoBulkAll {H : Type} : List (DataW H) → Nat
  | [] => 0
  | d :: r => uptoBulk d + uptoBulkAll r
def uptoBulkEntries {H : Type} : List (Lit × DataW H) → Nat
  | [] => 0
  | x :: r => uptoBulkEntry x + uptoBulkEntries r
def uptoBulkEntry {H : Type} : Lit × DataW H → Nat
  | (.string bytes, d) => bytes.length + uptoBulk d + 1
  | (_, d) => uptoBulk d + 1
 end
def uptoSmall : (H : Type) → List (DataW H) → Bool := fun _ ds => decide (uptoBulkAll ds ≤ 1048576)
def OpenSpec.upto (s : _root_.Go.ChangeSpec) : _root_.Go.OpenSpec := { _root_.Go.OpenSpec.ofChange s with cond := some uptoSmall }

/-- 'mizzenlaw.ImageTells', WHERE WHAT IT READS IS OF BULK AT MOST 1048576: true; the input reads as it did. -/
def imageTellsUptoRow : OpenClaim := { program := "ytpacloheigifkaagreat", sum := "6d79d92818798f151449d41484e6de6cd9c8d9b6dfe8a022ee7d1f60263e5f07", func := "mizzen/mizzenlaw.ImageTells", spec := "imageTells", unfollowed := true, recurses := true, apart := false, narrowed := true }
def ImageTellsUptoSaid : Prop := imageTellsUptoRow.holds Tryz.pinned (OpenSpec.upto imageTellsSpec)

/-- 'mizzenlaw.MachineTells', WHERE WHAT IT READS IS OF BULK AT MOST 1048576: true; the input reads as it did. -/
def machineTellsUptoRow : OpenClaim := { program := "ytpacloheigifkaagreat", sum := "6d79d92818798f151449d41484e6de6cd9c8d9b6dfe8a022ee7d1f60263e5f07", func := "mizzen/mizzenlaw.MachineTells", spec := "machineTells", unfollowed := true, recurses := true, apart := false, narrowed := true }
def MachineTellsUptoSaid : Prop := machineTellsUptoRow.holds Tryz.pinned (OpenSpec.upto machineTellsSpec)

/-- 'mizzenlaw.MeterTells', WHERE WHAT IT READS IS OF BULK AT MOST 1048576: true; the input reads as it did. -/
def meterTellsUptoRow : OpenClaim := { program := "ytpacloheigifkaagreat", sum := "6d79d92818798f151449d41484e6de6cd9c8d9b6dfe8a022ee7d1f60263e5f07", func := "mizzen/mizzenlaw.MeterTells", spec := "meterTells", unfollowed := true, recurses := true, apart := false, narrowed := true }
def MeterTellsUptoSaid : Prop := meterTellsUptoRow.holds Tryz.pinned (OpenSpec.upto meterTellsSpec)

/-- 'mizzenlaw.CollectTells', WHERE WHAT IT READS IS OF BULK AT MOST 1048576: true; the input reads as it did. -/
def collectTellsUptoRow : OpenClaim := { program := "ytpacloheigifkaagreat", sum := "6d79d92818798f151449d41484e6de6cd9c8d9b6dfe8a022ee7d1f60263e5f07", func := "mizzen/mizzenlaw.CollectTells", spec := "collectTells", unfollowed := true, recurses := true, apart := false, narrowed := true }
def CollectTellsUptoSaid : Prop := collectTellsUptoRow.holds Tryz.pinned (OpenSpec.upto collectTellsSpec)

/-- 'mizzenlaw.WorldTells', WHERE WHAT IT READS IS OF BULK AT MOST 1048576: true; the input reads as it did. -/
def worldTellsUptoRow : OpenClaim := { program := "ytpacloheigifkaagreat", sum := "6d79d92818798f151449d41484e6de6cd9c8d9b6dfe8a022ee7d1f60263e5f07", func := "mizzen/mizzenlaw.WorldTells", spec := "worldTells", unfollowed := true, recurses := true, apart := false, narrowed := true }
def WorldTellsUptoSaid : Prop := worldTellsUptoRow.holds Tryz.pinned (OpenSpec.upto worldTellsSpec)

/-- 'mizzenlaw.WorldMail', WHERE WHAT IT READS IS OF BULK AT MOST 1048576: true; the input reads as it did. -/
def worldMailUptoRow : OpenClaim := { program := "ytpacloheigifkaagreat", sum := "6d79d92818798f151449d41484e6de6cd9c8d9b6dfe8a022ee7d1f60263e5f07", func := "mizzen/mizzenlaw.WorldMail", spec := "worldMail", unfollowed := true, recurses := true, apart := false, narrowed := true }
def WorldMailUptoSaid : Prop := worldMailUptoRow.holds Tryz.pinned (OpenSpec.upto worldMailSpec)

/-- 'mizzenlaw.WorldSends', WHERE WHAT IT READS IS OF BULK AT MOST 1048576: true; the input reads as it did. -/
def worldSendsUptoRow : OpenClaim := { program := "ytpacloheigifkaagreat", sum := "6d79d92818798f151449d41484e6de6cd9c8d9b6dfe8a022ee7d1f60263e5f07", func := "mizzen/mizzenlaw.WorldSends", spec := "worldSends", unfollowed := true, recurses := true, apart := false, narrowed := true }
def WorldSendsUptoSaid : Prop := worldSendsUptoRow.holds Tryz.pinned (OpenSpec.upto worldSendsSpec)

/-- 'mizzenlaw.WorldAlone', WHERE WHAT IT READS IS OF BULK AT MOST 1048576: true; the input reads as it did. -/
def worldAloneUptoRow : OpenClaim := { program := "ytpacloheigifkaagreat", sum := "6d79d92818798f151449d41484e6de6cd9c8d9b6dfe8a022ee7d1f60263e5f07", func := "mizzen/mizzenlaw.WorldAlone", spec := "worldAlone", unfollowed := true, recurses := true, apart := false, narrowed := true }
def WorldAloneUptoSaid : Prop := worldAloneUptoRow.holds Tryz.pinned (OpenSpec.upto worldAloneSpec)

/-- 'mizzenlaw.ImageApart', WHERE WHAT IT READS IS OF BULK AT MOST 1048576: true; the input reads as it did. -/
def imageApartUptoRow : OpenClaim := { program := "ytpacloheigifkaagreat", sum := "6d79d92818798f151449d41484e6de6cd9c8d9b6dfe8a022ee7d1f60263e5f07", func := "mizzen/mizzenlaw.ImageApart", spec := "imageApart", unfollowed := true, recurses := true, apart := false, narrowed := true }
def ImageApartUptoSaid : Prop := imageApartUptoRow.holds Tryz.pinned (OpenSpec.upto imageApartSpec)

/-- 'mizzenlaw.ImageBack', WHERE WHAT IT READS IS OF BULK AT MOST 1048576: true; the input reads as it did. -/
def imageBackUptoRow : OpenClaim := { program := "ytpacloheigifkaagreat", sum := "6d79d92818798f151449d41484e6de6cd9c8d9b6dfe8a022ee7d1f60263e5f07", func := "mizzen/mizzenlaw.ImageBack", spec := "imageBack", unfollowed := true, recurses := true, apart := false, narrowed := true }
def ImageBackUptoSaid : Prop := imageBackUptoRow.holds Tryz.pinned (OpenSpec.upto imageBackSpec)

end Rows
end Go.Proofs.YtpacloheigifkaaGreat
