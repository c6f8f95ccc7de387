/-
  No cell of these rows narrows 'for every input' (looked for: loops, veiled, ifaces, maps, wideKeys, modest, calm, conditions, laid).
  DERIVED. THE GIVEN ROWS OF THIS SEAT. 7 by the template 'for every input the law returns true; each argument reads behind the call as it read before'; 0 by the template 'total and deterministic' (their statements: YtejpkcheimgdfaaTotals.lean).
  GIVEN WITH THE SEED: the statements are not yours to turn. If you find one false, say at which input.
  Laid BY PROGRAM, IN A SANDBOX (cutbox-rows.mjs): the forced cells as the released guide's own fill.sh prints them over the translation 88a1d51deeaac12e… (all of the seat's roots in one cut). By AI agents, Wed Nov 11 2026. No macro, syntax, notation, axiom, sorry.
-/
import Derived.Test.YtejpkcheimgdfaaChecked
import GoSem.Claim
import GoSem.ClaimJoined
import GoSem.ClaimMapViews
import Derived.JoinedTies
import Derived.KernelRfl
namespace Go.Proofs.Ytejpkcheimgdfaa
/- THE CELL 'sum', in the pinned program and in every row, IS THE sha256 OF THE DUMP (.gsa) THAT YtejpkcheimgdfaaProg.lean LOADS. Nothing in Lean hashes anything: it is a label: what it is worth is what the hold of that sum in a sandbox is worth. -/
noncomputable def Try.pinned : Pinned := { name := "ytejpkcheimgdfaa", sum := "88a1d51deeaac12e999d748829e94bceca99372f1d0f13da62dfc673366feb95", checked := Try.checked }
namespace Rows
def none {H : Type} : Left H := { results := [], args := [] }

/-- 'mizzenlaw.ProgTells': WHATEVER THE INPUT: true; the input reads as it did. -/
def progTellsSpec : ChangeSpec := { name := "progTells", fn := fun _ => fun
  | [d1, d2] => { results := [.lit (.bool true)], args := [d1, d2] }
  | _ => none }
def progTellsRow : OpenClaim := { program := "ytejpkcheimgdfaa", sum := "88a1d51deeaac12e999d748829e94bceca99372f1d0f13da62dfc673366feb95", func := "mizzen/mizzenlaw.ProgTells", spec := "progTells", unfollowed := true, recurses := true, apart := false }
def ProgTellsSaid : Prop := progTellsRow.holds Try.pinned (OpenSpec.ofChange progTellsSpec)

/-- ITS FALSE NEIGHBOUR: 'it returns false'. Refute it at one input. -/
def progTellsWrong : ChangeSpec := { name := "progTells", fn := fun _ => fun
  | [d1, d2] => { results := [.lit (.bool false)], args := [d1, d2] }
  | _ => none }
def ProgTellsWrongFalsely : Prop := progTellsRow.holds Try.pinned (OpenSpec.ofChange progTellsWrong)

/-- 'mizzenlaw.ProgBack': WHATEVER THE INPUT: true; the input reads as it did. -/
def progBackSpec : ChangeSpec := { name := "progBack", fn := fun _ => fun
  | [d1, d2] => { results := [.lit (.bool true)], args := [d1, d2] }
  | _ => none }
def progBackRow : OpenClaim := { program := "ytejpkcheimgdfaa", sum := "88a1d51deeaac12e999d748829e94bceca99372f1d0f13da62dfc673366feb95", func := "mizzen/mizzenlaw.ProgBack", spec := "progBack", unfollowed := true, recurses := true, apart := false }
def ProgBackSaid : Prop := progBackRow.holds Try.pinned (OpenSpec.ofChange progBackSpec)

/-- ITS FALSE NEIGHBOUR: 'it returns false'. Refute it at one input. -/
def progBackWrong : ChangeSpec := { name := "progBack", fn := fun _ => fun
  | [d1, d2] => { results := [.lit (.bool false)], args := [d1, d2] }
  | _ => none }
def ProgBackWrongFalsely : Prop := progBackRow.holds Try.pinned (OpenSpec.ofChange progBackWrong)

/-- 'mizzenlaw.VerifyTells': WHATEVER THE INPUT: true; the input reads as it did. -/
def verifyTellsSpec : ChangeSpec := { name := "verifyTells", fn := fun _ => fun
  | [d1, d2, d3, d4] => { results := [.lit (.bool true)], args := [d1, d2, d3, d4] }
  | _ => none }
def verifyTellsRow : OpenClaim := { program := "ytejpkcheimgdfaa", sum := "88a1d51deeaac12e999d748829e94bceca99372f1d0f13da62dfc673366feb95", func := "mizzen/mizzenlaw.VerifyTells", spec := "verifyTells", unfollowed := true, recurses := true, apart := false }
def VerifyTellsSaid : Prop := verifyTellsRow.holds Try.pinned (OpenSpec.ofChange verifyTellsSpec)

/-- ITS FALSE NEIGHBOUR: 'it returns false'. Refute it at one input. -/
def verifyTellsWrong : ChangeSpec := { name := "verifyTells", fn := fun _ => fun
  | [d1, d2, d3, d4] => { results := [.lit (.bool false)], args := [d1, d2, d3, d4] }
  | _ => none }
def VerifyTellsWrongFalsely : Prop := verifyTellsRow.holds Try.pinned (OpenSpec.ofChange verifyTellsWrong)

/-- 'mizzenlaw.VerifyJoin': WHATEVER THE INPUT: true; the input reads as it did. -/
def verifyJoinSpec : ChangeSpec := { name := "verifyJoin", fn := fun _ => fun
  | [d1, d2, d3] => { results := [.lit (.bool true)], args := [d1, d2, d3] }
  | _ => none }
def verifyJoinRow : OpenClaim := { program := "ytejpkcheimgdfaa", sum := "88a1d51deeaac12e999d748829e94bceca99372f1d0f13da62dfc673366feb95", func := "mizzen/mizzenlaw.VerifyJoin", spec := "verifyJoin", unfollowed := true, recurses := true, apart := false }
def VerifyJoinSaid : Prop := verifyJoinRow.holds Try.pinned (OpenSpec.ofChange verifyJoinSpec)

/-- ITS FALSE NEIGHBOUR: 'it returns false'. Refute it at one input. -/
def verifyJoinWrong : ChangeSpec := { name := "verifyJoin", fn := fun _ => fun
  | [d1, d2, d3] => { results := [.lit (.bool false)], args := [d1, d2, d3] }
  | _ => none }
def VerifyJoinWrongFalsely : Prop := verifyJoinRow.holds Try.pinned (OpenSpec.ofChange verifyJoinWrong)

/-- 'mizzenlaw.VerifyFits': WHATEVER THE INPUT: true; the input reads as it did. -/
def verifyFitsSpec : ChangeSpec := { name := "verifyFits", fn := fun _ => fun
  | [d1, d2] => { results := [.lit (.bool true)], args := [d1, d2] }
  | _ => none }
def verifyFitsRow : OpenClaim := { program := "ytejpkcheimgdfaa", sum := "88a1d51deeaac12e999d748829e94bceca99372f1d0f13da62dfc673366feb95", func := "mizzen/mizzenlaw.VerifyFits", spec := "verifyFits", unfollowed := true, recurses := true, apart := false }
def VerifyFitsSaid : Prop := verifyFitsRow.holds Try.pinned (OpenSpec.ofChange verifyFitsSpec)

/-- ITS FALSE NEIGHBOUR: 'it returns false'. Refute it at one input. -/
def verifyFitsWrong : ChangeSpec := { name := "verifyFits", fn := fun _ => fun
  | [d1, d2] => { results := [.lit (.bool false)], args := [d1, d2] }
  | _ => none }
def VerifyFitsWrongFalsely : Prop := verifyFitsRow.holds Try.pinned (OpenSpec.ofChange verifyFitsWrong)

/-- 'mizzenlaw.VerifyMore': WHATEVER THE INPUT: true; the input reads as it did. -/
def verifyMoreSpec : ChangeSpec := { name := "verifyMore", fn := fun _ => fun
  | [d1, d2, d3] => { results := [.lit (.bool true)], args := [d1, d2, d3] }
  | _ => none }
def verifyMoreRow : OpenClaim := { program := "ytejpkcheimgdfaa", sum := "88a1d51deeaac12e999d748829e94bceca99372f1d0f13da62dfc673366feb95", func := "mizzen/mizzenlaw.VerifyMore", spec := "verifyMore", unfollowed := true, recurses := true, apart := false }
def VerifyMoreSaid : Prop := verifyMoreRow.holds Try.pinned (OpenSpec.ofChange verifyMoreSpec)

/-- ITS FALSE NEIGHBOUR: 'it returns false'. Refute it at one input. -/
def verifyMoreWrong : ChangeSpec := { name := "verifyMore", fn := fun _ => fun
  | [d1, d2, d3] => { results := [.lit (.bool false)], args := [d1, d2, d3] }
  | _ => none }
def VerifyMoreWrongFalsely : Prop := verifyMoreRow.holds Try.pinned (OpenSpec.ofChange verifyMoreWrong)

/-- 'mizzenlaw.VerifyDead': WHATEVER THE INPUT: true; the input reads as it did. -/
def verifyDeadSpec : ChangeSpec := { name := "verifyDead", fn := fun _ => fun
  | [d1, d2, d3, d4] => { results := [.lit (.bool true)], args := [d1, d2, d3, d4] }
  | _ => none }
def verifyDeadRow : OpenClaim := { program := "ytejpkcheimgdfaa", sum := "88a1d51deeaac12e999d748829e94bceca99372f1d0f13da62dfc673366feb95", func := "mizzen/mizzenlaw.VerifyDead", spec := "verifyDead", unfollowed := true, recurses := true, apart := false }
def VerifyDeadSaid : Prop := verifyDeadRow.holds Try.pinned (OpenSpec.ofChange verifyDeadSpec)

/-- ITS FALSE NEIGHBOUR: 'it returns false'. Refute it at one input. -/
def verifyDeadWrong : ChangeSpec := { name := "verifyDead", fn := fun _ => fun
  | [d1, d2, d3, d4] => { results := [.lit (.bool false)], args := [d1, d2, d3, d4] }
  | _ => none }
def VerifyDeadWrongFalsely : Prop := verifyDeadRow.holds Try.pinned (OpenSpec.ofChange verifyDeadWrong)

/- THE SECOND FORM. 'bulk': how many values and letters a reading holds, each counted each time it is reached (what is shared counts as often as it is met; a slice's spare places count too). A statement '..UptoSaid' is the law's where the arguments, and the package variables that the reading takes, are together of bulk at most 1048576: NARROWER than '..Said'. Prove '..Said' where nothing that the law and all that it calls make is longer than what came in: it says more and counts as full. Else prove '..UptoSaid'. A law counts once. -/
mutual
def uptoBulk {H : Type} : DataW H → Nat
  | .lit (.string bytes) => bytes.length + 1
  | .lit _ => 1
  | .nil => 1
  | .ptr d => uptoBulk d + 1
  | .slice elems spare => uptoBulkAll elems + uptoBulkAll spare + 1
  | .agg parts => uptoBulkAll parts + 1
  | .iface _ d => uptoBulk d + 1
  | .map entries => uptoBulkEntries entries + 1
  | .held _ => 1
def uptoBulkAll {H : Type} : List (DataW H) → Nat
  | [] => 0
  | d :: r => uptoBulk d + uptoBulkAll r
def uptoBulkEntries {H : Type} : List (Lit × DataW H) → Nat
  | [] => 0
  | x :: r => uptoBulkEntry x + uptoBulkEntries r
def uptoBulkEntry {H : Type} : Lit × DataW H → Nat
  | (.string bytes, d) => bytes.length + uptoBulk d + 1
  | (_, d) => uptoBulk d + 1
 end
def uptoSmall : (H : Type) → List (DataW H) → Bool := fun _ ds => decide (uptoBulkAll ds ≤ 1048576)
def OpenSpec.upto (s : _root_.Go.ChangeSpec) : _root_.Go.OpenSpec := { _root_.Go.OpenSpec.ofChange s with cond := some uptoSmall }

/-- 'mizzenlaw.ProgTells', WHERE WHAT IT READS IS OF BULK AT MOST 1048576: true; the input reads as it did. -/
def progTellsUptoRow : OpenClaim := { program := "ytejpkcheimgdfaa", sum := "88a1d51deeaac12e999d748829e94bceca99372f1d0f13da62dfc673366feb95", func := "mizzen/mizzenlaw.ProgTells", spec := "progTells", unfollowed := true, recurses := true, apart := false, narrowed := true }
def ProgTellsUptoSaid : Prop := progTellsUptoRow.holds Try.pinned (OpenSpec.upto progTellsSpec)

/-- 'mizzenlaw.ProgBack', WHERE WHAT IT READS IS OF BULK AT MOST 1048576: true; the input reads as it did. -/
def progBackUptoRow : OpenClaim := { program := "ytejpkcheimgdfaa", sum := "88a1d51deeaac12e999d748829e94bceca99372f1d0f13da62dfc673366feb95", func := "mizzen/mizzenlaw.ProgBack", spec := "progBack", unfollowed := true, recurses := true, apart := false, narrowed := true }
def ProgBackUptoSaid : Prop := progBackUptoRow.holds Try.pinned (OpenSpec.upto progBackSpec)

/-- 'mizzenlaw.VerifyTells', WHERE WHAT IT READS IS OF BULK AT MOST 1048576: true; the input reads as it did. -/
def verifyTellsUptoRow : OpenClaim := { program := "ytejpkcheimgdfaa", sum := "88a1d51deeaac12e999d748829e94bceca99372f1d0f13da62dfc673366feb95", func := "mizzen/mizzenlaw.VerifyTells", spec := "verifyTells", unfollowed := true, recurses := true, apart := false, narrowed := true }
def VerifyTellsUptoSaid : Prop := verifyTellsUptoRow.holds Try.pinned (OpenSpec.upto verifyTellsSpec)

/-- 'mizzenlaw.VerifyJoin', WHERE WHAT IT READS IS OF BULK AT MOST 1048576: true; the input reads as it did. -/
def verifyJoinUptoRow : OpenClaim := { program := "ytejpkcheimgdfaa", sum := "88a1d51deeaac12e999d748829e94bceca99372f1d0f13da62dfc673366feb95", func := "mizzen/mizzenlaw.VerifyJoin", spec := "verifyJoin", unfollowed := true, recurses := true, apart := false, narrowed := true }
def VerifyJoinUptoSaid : Prop := verifyJoinUptoRow.holds Try.pinned (OpenSpec.upto verifyJoinSpec)

/-- 'mizzenlaw.VerifyFits', WHERE WHAT IT READS IS OF BULK AT MOST 1048576: true; the input reads as it did. -/
def verifyFitsUptoRow : OpenClaim := { program := "ytejpkcheimgdfaa", sum := "88a1d51deeaac12e999d748829e94bceca99372f1d0f13da62dfc673366feb95", func := "mizzen/mizzenlaw.VerifyFits", spec := "verifyFits", unfollowed := true, recurses := true, apart := false, narrowed := true }
def VerifyFitsUptoSaid : Prop := verifyFitsUptoRow.holds Try.pinned (OpenSpec.upto verifyFitsSpec)

/-- 'mizzenlaw.VerifyMore', WHERE WHAT IT READS IS OF BULK AT MOST 1048576: true; the input reads as it did. -/
def verifyMoreUptoRow : OpenClaim := { program := "ytejpkcheimgdfaa", sum := "88a1d51deeaac12e999d748829e94bceca99372f1d0f13da62dfc673366feb95", func := "mizzen/mizzenlaw.VerifyMore", spec := "verifyMore", unfollowed := true, recurses := true, apart := false, narrowed := true }
def VerifyMoreUptoSaid : Prop := verifyMoreUptoRow.holds Try.pinned (OpenSpec.upto verifyMoreSpec)

/-- 'mizzenlaw.VerifyDead', WHERE WHAT IT READS IS OF BULK AT MOST 1048576: true; the input reads as it did. -/
def verifyDeadUptoRow : OpenClaim := { program := "ytejpkcheimgdfaa", sum := "88a1d51deeaac12e999d748829e94bceca99372f1d0f13da62dfc673366feb95", func := "mizzen/mizzenlaw.VerifyDead", spec := "verifyDead", unfollowed := true, recurses := true, apart := false, narrowed := true }
def VerifyDeadUptoSaid : Prop := verifyDeadUptoRow.holds Try.pinned (OpenSpec.upto verifyDeadSpec)

end Rows
end Go.Proofs.Ytejpkcheimgdfaa
