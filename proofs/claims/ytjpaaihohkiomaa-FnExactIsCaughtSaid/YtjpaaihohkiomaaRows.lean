/-
  No cell of these rows narrows 'for every input' (looked for: loops, veiled, ifaces, maps, wideKeys, modest, calm, conditions, laid).
  DERIVED. THE GIVEN ROWS OF THIS SEAT. 12 by the template 'for every input the law returns true; each argument reads behind the call as it read before'; 0 by the template 'total and deterministic' (their statements: YtjpaaihohkiomaaTotals.lean).
  GIVEN WITH THE SEED: the statements are not yours to turn. If you find one false, say at which input.
  Laid BY PROGRAM, IN A SANDBOX (cutbox-rows.mjs): the forced cells as the released guide's own fill.sh prints them over the translation e9e4daeeedfef895… (all of the seat's roots in one cut). By AI agents, Wed Nov 11 2026. No macro, syntax, notation, axiom, sorry.
-/
import Derived.Test.YtjpaaihohkiomaaChecked
import GoSem.Claim
import GoSem.ClaimJoined
import GoSem.ClaimMapViews
import Derived.JoinedTies
import Derived.KernelRfl
namespace Go.Proofs.Ytjpaaihohkiomaa
/- THE CELL 'sum', in the pinned program and in every row, IS THE sha256 OF THE DUMP (.gsa) THAT YtjpaaihohkiomaaProg.lean LOADS. Nothing in Lean hashes anything: it is a label: what it is worth is what the hold of that sum in a sandbox is worth. -/
noncomputable def Try.pinned : Pinned := { name := "ytjpaaihohkiomaa", sum := "e9e4daeeedfef8950c4f06e5f1aa263fc809216a4aede5814e4bb7ac8bfbbfe7", checked := Try.checked }
namespace Rows
def none {H : Type} : Left H := { results := [], args := [] }

/-- 'laws.FnExactTurnsOf': WHATEVER THE INPUT: true; the input reads as it did. -/
def fnExactTurnsOfSpec : ChangeSpec := { name := "fnExactTurnsOf", fn := fun _ => fun
  | [d] => { results := [.lit (.bool true)], args := [d] }
  | _ => none }
def fnExactTurnsOfRow : OpenClaim := { program := "ytjpaaihohkiomaa", sum := "e9e4daeeedfef8950c4f06e5f1aa263fc809216a4aede5814e4bb7ac8bfbbfe7", func := "loop.example/g03200/laws.FnExactTurnsOf", spec := "fnExactTurnsOf", apart := false }
def FnExactTurnsOfSaid : Prop := fnExactTurnsOfRow.holds Try.pinned (OpenSpec.ofChange fnExactTurnsOfSpec)

/-- ITS FALSE NEIGHBOUR: 'it returns false'. Refute it at one input. -/
def fnExactTurnsOfWrong : ChangeSpec := { name := "fnExactTurnsOf", fn := fun _ => fun
  | [d] => { results := [.lit (.bool false)], args := [d] }
  | _ => none }
def FnExactTurnsOfWrongFalsely : Prop := fnExactTurnsOfRow.holds Try.pinned (OpenSpec.ofChange fnExactTurnsOfWrong)

/-- 'laws.FnExactLayoutOk': WHATEVER THE INPUT: true; the input reads as it did. -/
def fnExactLayoutOkSpec : ChangeSpec := { name := "fnExactLayoutOk", fn := fun _ => fun
  | [d1, d2] => { results := [.lit (.bool true)], args := [d1, d2] }
  | _ => none }
def fnExactLayoutOkRow : OpenClaim := { program := "ytjpaaihohkiomaa", sum := "e9e4daeeedfef8950c4f06e5f1aa263fc809216a4aede5814e4bb7ac8bfbbfe7", func := "loop.example/g03200/laws.FnExactLayoutOk", spec := "fnExactLayoutOk", unfollowed := true, recurses := true, apart := false }
def FnExactLayoutOkSaid : Prop := fnExactLayoutOkRow.holds Try.pinned (OpenSpec.ofChange fnExactLayoutOkSpec)

/-- ITS FALSE NEIGHBOUR: 'it returns false'. Refute it at one input. -/
def fnExactLayoutOkWrong : ChangeSpec := { name := "fnExactLayoutOk", fn := fun _ => fun
  | [d1, d2] => { results := [.lit (.bool false)], args := [d1, d2] }
  | _ => none }
def FnExactLayoutOkWrongFalsely : Prop := fnExactLayoutOkRow.holds Try.pinned (OpenSpec.ofChange fnExactLayoutOkWrong)

/-- 'laws.FnExactFrontOf': WHATEVER THE INPUT: true; the input reads as it did. -/
def fnExactFrontOfSpec : ChangeSpec := { name := "fnExactFrontOf", fn := fun _ => fun
  | [d1, d2] => { results := [.lit (.bool true)], args := [d1, d2] }
  | _ => none }
def fnExactFrontOfRow : OpenClaim := { program := "ytjpaaihohkiomaa", sum := "e9e4daeeedfef8950c4f06e5f1aa263fc809216a4aede5814e4bb7ac8bfbbfe7", func := "loop.example/g03200/laws.FnExactFrontOf", spec := "fnExactFrontOf", apart := false }
def FnExactFrontOfSaid : Prop := fnExactFrontOfRow.holds Try.pinned (OpenSpec.ofChange fnExactFrontOfSpec)

/-- ITS FALSE NEIGHBOUR: 'it returns false'. Refute it at one input. -/
def fnExactFrontOfWrong : ChangeSpec := { name := "fnExactFrontOf", fn := fun _ => fun
  | [d1, d2] => { results := [.lit (.bool false)], args := [d1, d2] }
  | _ => none }
def FnExactFrontOfWrongFalsely : Prop := fnExactFrontOfRow.holds Try.pinned (OpenSpec.ofChange fnExactFrontOfWrong)

/-- 'laws.FnExactAfterShot': WHATEVER THE INPUT: true; the input reads as it did. -/
def fnExactAfterShotSpec : ChangeSpec := { name := "fnExactAfterShot", fn := fun _ => fun
  | [d1, d2, d3] => { results := [.lit (.bool true)], args := [d1, d2, d3] }
  | _ => none }
def fnExactAfterShotRow : OpenClaim := { program := "ytjpaaihohkiomaa", sum := "e9e4daeeedfef8950c4f06e5f1aa263fc809216a4aede5814e4bb7ac8bfbbfe7", func := "loop.example/g03200/laws.FnExactAfterShot", spec := "fnExactAfterShot", unfollowed := true, recurses := true, apart := false }
def FnExactAfterShotSaid : Prop := fnExactAfterShotRow.holds Try.pinned (OpenSpec.ofChange fnExactAfterShotSpec)

/-- ITS FALSE NEIGHBOUR: 'it returns false'. Refute it at one input. -/
def fnExactAfterShotWrong : ChangeSpec := { name := "fnExactAfterShot", fn := fun _ => fun
  | [d1, d2, d3] => { results := [.lit (.bool false)], args := [d1, d2, d3] }
  | _ => none }
def FnExactAfterShotWrongFalsely : Prop := fnExactAfterShotRow.holds Try.pinned (OpenSpec.ofChange fnExactAfterShotWrong)

/-- 'laws.FnExactIsPathDecomposition': WHATEVER THE INPUT: true; the input reads as it did. -/
def fnExactIsPathDecompositionSpec : ChangeSpec := { name := "fnExactIsPathDecomposition", fn := fun _ => fun
  | [d1, d2] => { results := [.lit (.bool true)], args := [d1, d2] }
  | _ => none }
def fnExactIsPathDecompositionRow : OpenClaim := { program := "ytjpaaihohkiomaa", sum := "e9e4daeeedfef8950c4f06e5f1aa263fc809216a4aede5814e4bb7ac8bfbbfe7", func := "loop.example/g03200/laws.FnExactIsPathDecomposition", spec := "fnExactIsPathDecomposition", apart := false }
def FnExactIsPathDecompositionSaid : Prop := fnExactIsPathDecompositionRow.holds Try.pinned (OpenSpec.ofChange fnExactIsPathDecompositionSpec)

/-- ITS FALSE NEIGHBOUR: 'it returns false'. Refute it at one input. -/
def fnExactIsPathDecompositionWrong : ChangeSpec := { name := "fnExactIsPathDecomposition", fn := fun _ => fun
  | [d1, d2] => { results := [.lit (.bool false)], args := [d1, d2] }
  | _ => none }
def FnExactIsPathDecompositionWrongFalsely : Prop := fnExactIsPathDecompositionRow.holds Try.pinned (OpenSpec.ofChange fnExactIsPathDecompositionWrong)

/-- 'laws.FnExactGuardsOf': WHATEVER THE INPUT: true; the input reads as it did. -/
def fnExactGuardsOfSpec : ChangeSpec := { name := "fnExactGuardsOf", fn := fun _ => fun
  | [d1, d2] => { results := [.lit (.bool true)], args := [d1, d2] }
  | _ => none }
def fnExactGuardsOfRow : OpenClaim := { program := "ytjpaaihohkiomaa", sum := "e9e4daeeedfef8950c4f06e5f1aa263fc809216a4aede5814e4bb7ac8bfbbfe7", func := "loop.example/g03200/laws.FnExactGuardsOf", spec := "fnExactGuardsOf", unfollowed := true, recurses := true, apart := false }
def FnExactGuardsOfSaid : Prop := fnExactGuardsOfRow.holds Try.pinned (OpenSpec.ofChange fnExactGuardsOfSpec)

/-- ITS FALSE NEIGHBOUR: 'it returns false'. Refute it at one input. -/
def fnExactGuardsOfWrong : ChangeSpec := { name := "fnExactGuardsOf", fn := fun _ => fun
  | [d1, d2] => { results := [.lit (.bool false)], args := [d1, d2] }
  | _ => none }
def FnExactGuardsOfWrongFalsely : Prop := fnExactGuardsOfRow.holds Try.pinned (OpenSpec.ofChange fnExactGuardsOfWrong)

/-- 'laws.FnExactRecordOk': WHATEVER THE INPUT: true; the input reads as it did. -/
def fnExactRecordOkSpec : ChangeSpec := { name := "fnExactRecordOk", fn := fun _ => fun
  | [d1, d2] => { results := [.lit (.bool true)], args := [d1, d2] }
  | _ => none }
def fnExactRecordOkRow : OpenClaim := { program := "ytjpaaihohkiomaa", sum := "e9e4daeeedfef8950c4f06e5f1aa263fc809216a4aede5814e4bb7ac8bfbbfe7", func := "loop.example/g03200/laws.FnExactRecordOk", spec := "fnExactRecordOk", unfollowed := true, recurses := true, apart := false }
def FnExactRecordOkSaid : Prop := fnExactRecordOkRow.holds Try.pinned (OpenSpec.ofChange fnExactRecordOkSpec)

/-- ITS FALSE NEIGHBOUR: 'it returns false'. Refute it at one input. -/
def fnExactRecordOkWrong : ChangeSpec := { name := "fnExactRecordOk", fn := fun _ => fun
  | [d1, d2] => { results := [.lit (.bool false)], args := [d1, d2] }
  | _ => none }
def FnExactRecordOkWrongFalsely : Prop := fnExactRecordOkRow.holds Try.pinned (OpenSpec.ofChange fnExactRecordOkWrong)

/-- 'laws.FnExactAfterShots': WHATEVER THE INPUT: true; the input reads as it did. -/
def fnExactAfterShotsSpec : ChangeSpec := { name := "fnExactAfterShots", fn := fun _ => fun
  | [d1, d2] => { results := [.lit (.bool true)], args := [d1, d2] }
  | _ => none }
def fnExactAfterShotsRow : OpenClaim := { program := "ytjpaaihohkiomaa", sum := "e9e4daeeedfef8950c4f06e5f1aa263fc809216a4aede5814e4bb7ac8bfbbfe7", func := "loop.example/g03200/laws.FnExactAfterShots", spec := "fnExactAfterShots", unfollowed := true, recurses := true, apart := false }
def FnExactAfterShotsSaid : Prop := fnExactAfterShotsRow.holds Try.pinned (OpenSpec.ofChange fnExactAfterShotsSpec)

/-- ITS FALSE NEIGHBOUR: 'it returns false'. Refute it at one input. -/
def fnExactAfterShotsWrong : ChangeSpec := { name := "fnExactAfterShots", fn := fun _ => fun
  | [d1, d2] => { results := [.lit (.bool false)], args := [d1, d2] }
  | _ => none }
def FnExactAfterShotsWrongFalsely : Prop := fnExactAfterShotsRow.holds Try.pinned (OpenSpec.ofChange fnExactAfterShotsWrong)

/-- 'laws.FnExactIsHeld': WHATEVER THE INPUT: true; the input reads as it did. -/
def fnExactIsHeldSpec : ChangeSpec := { name := "fnExactIsHeld", fn := fun _ => fun
  | [d1, d2, d3] => { results := [.lit (.bool true)], args := [d1, d2, d3] }
  | _ => none }
def fnExactIsHeldRow : OpenClaim := { program := "ytjpaaihohkiomaa", sum := "e9e4daeeedfef8950c4f06e5f1aa263fc809216a4aede5814e4bb7ac8bfbbfe7", func := "loop.example/g03200/laws.FnExactIsHeld", spec := "fnExactIsHeld", unfollowed := true, recurses := true, apart := false }
def FnExactIsHeldSaid : Prop := fnExactIsHeldRow.holds Try.pinned (OpenSpec.ofChange fnExactIsHeldSpec)

/-- ITS FALSE NEIGHBOUR: 'it returns false'. Refute it at one input. -/
def fnExactIsHeldWrong : ChangeSpec := { name := "fnExactIsHeld", fn := fun _ => fun
  | [d1, d2, d3] => { results := [.lit (.bool false)], args := [d1, d2, d3] }
  | _ => none }
def FnExactIsHeldWrongFalsely : Prop := fnExactIsHeldRow.holds Try.pinned (OpenSpec.ofChange fnExactIsHeldWrong)

/-- 'laws.FnExactIsCaught': WHATEVER THE INPUT: true; the input reads as it did. -/
def fnExactIsCaughtSpec : ChangeSpec := { name := "fnExactIsCaught", fn := fun _ => fun
  | [d1, d2] => { results := [.lit (.bool true)], args := [d1, d2] }
  | _ => none }
def fnExactIsCaughtRow : OpenClaim := { program := "ytjpaaihohkiomaa", sum := "e9e4daeeedfef8950c4f06e5f1aa263fc809216a4aede5814e4bb7ac8bfbbfe7", func := "loop.example/g03200/laws.FnExactIsCaught", spec := "fnExactIsCaught", unfollowed := true, recurses := true, apart := false }
def FnExactIsCaughtSaid : Prop := fnExactIsCaughtRow.holds Try.pinned (OpenSpec.ofChange fnExactIsCaughtSpec)

/-- ITS FALSE NEIGHBOUR: 'it returns false'. Refute it at one input. -/
def fnExactIsCaughtWrong : ChangeSpec := { name := "fnExactIsCaught", fn := fun _ => fun
  | [d1, d2] => { results := [.lit (.bool false)], args := [d1, d2] }
  | _ => none }
def FnExactIsCaughtWrongFalsely : Prop := fnExactIsCaughtRow.holds Try.pinned (OpenSpec.ofChange fnExactIsCaughtWrong)

/-- 'laws.FnExactHitsForSure': WHATEVER THE INPUT: true; the input reads as it did. -/
def fnExactHitsForSureSpec : ChangeSpec := { name := "fnExactHitsForSure", fn := fun _ => fun
  | [d1, d2] => { results := [.lit (.bool true)], args := [d1, d2] }
  | _ => none }
def fnExactHitsForSureRow : OpenClaim := { program := "ytjpaaihohkiomaa", sum := "e9e4daeeedfef8950c4f06e5f1aa263fc809216a4aede5814e4bb7ac8bfbbfe7", func := "loop.example/g03200/laws.FnExactHitsForSure", spec := "fnExactHitsForSure", unfollowed := true, recurses := true, apart := false }
def FnExactHitsForSureSaid : Prop := fnExactHitsForSureRow.holds Try.pinned (OpenSpec.ofChange fnExactHitsForSureSpec)

/-- ITS FALSE NEIGHBOUR: 'it returns false'. Refute it at one input. -/
def fnExactHitsForSureWrong : ChangeSpec := { name := "fnExactHitsForSure", fn := fun _ => fun
  | [d1, d2] => { results := [.lit (.bool false)], args := [d1, d2] }
  | _ => none }
def FnExactHitsForSureWrongFalsely : Prop := fnExactHitsForSureRow.holds Try.pinned (OpenSpec.ofChange fnExactHitsForSureWrong)

/-- 'laws.FnExactCornersOf': WHATEVER THE INPUT: true; the input reads as it did. -/
def fnExactCornersOfSpec : ChangeSpec := { name := "fnExactCornersOf", fn := fun _ => fun
  | [d] => { results := [.lit (.bool true)], args := [d] }
  | _ => none }
def fnExactCornersOfRow : OpenClaim := { program := "ytjpaaihohkiomaa", sum := "e9e4daeeedfef8950c4f06e5f1aa263fc809216a4aede5814e4bb7ac8bfbbfe7", func := "loop.example/g03200/laws.FnExactCornersOf", spec := "fnExactCornersOf", apart := false }
def FnExactCornersOfSaid : Prop := fnExactCornersOfRow.holds Try.pinned (OpenSpec.ofChange fnExactCornersOfSpec)

/-- ITS FALSE NEIGHBOUR: 'it returns false'. Refute it at one input. -/
def fnExactCornersOfWrong : ChangeSpec := { name := "fnExactCornersOf", fn := fun _ => fun
  | [d] => { results := [.lit (.bool false)], args := [d] }
  | _ => none }
def FnExactCornersOfWrongFalsely : Prop := fnExactCornersOfRow.holds Try.pinned (OpenSpec.ofChange fnExactCornersOfWrong)

/- THE SECOND FORM. 'bulk': how many values and letters a reading holds, each counted each time it is reached (what is shared counts as often as it is met; a slice's spare places count too). A statement '..UptoSaid' is the law's where the arguments, and the package variables that the reading takes, are together of bulk at most 1048576: NARROWER than '..Said'. Prove '..Said' where nothing that the law and all that it calls make is longer than what came in: it says more and counts as full. Else prove '..UptoSaid'. A law counts once. -/
mutual
def uptoBulk {H : Type} : DataW H → Nat
  | .lit (.string bytes) => bytes.length + 1
  | .lit _ => 1
  | .nil => 1
  | .ptr d => uptoBulk d + 1
  | .slice elems spare => uptoBulkAll elems + uptoBulkAll spare + 1
  | .agg parts => uptoBulkAll parts + 1
  | .iface _ d => uptoBulk d + 1
  | .map entries => uptoBulkEntries entries + 1
  | .held _ => 1
def uptoBulkAll {H : Type} : List (DataW H) → Nat
  | [] => 0
  | d :: r => uptoBulk d + uptoBulkAll r
def uptoBulkEntries {H : Type} : List (Lit × DataW H) → Nat
  | [] => 0
  | x :: r => uptoBulkEntry x + uptoBulkEntries r
def uptoBulkEntry {H : Type} : Lit × DataW H → Nat
  | (.string bytes, d) => bytes.length + uptoBulk d + 1
  | (_, d) => uptoBulk d + 1
 end
def uptoSmall : (H : Type) → List (DataW H) → Bool := fun _ ds => decide (uptoBulkAll ds ≤ 1048576)
def OpenSpec.upto (s : _root_.Go.ChangeSpec) : _root_.Go.OpenSpec := { _root_.Go.OpenSpec.ofChange s with cond := some uptoSmall }

/-- 'laws.FnExactTurnsOf', WHERE WHAT IT READS IS OF BULK AT MOST 1048576: true; the input reads as it did. -/
def fnExactTurnsOfUptoRow : OpenClaim := { program := "ytjpaaihohkiomaa", sum := "e9e4daeeedfef8950c4f06e5f1aa263fc809216a4aede5814e4bb7ac8bfbbfe7", func := "loop.example/g03200/laws.FnExactTurnsOf", spec := "fnExactTurnsOf", apart := false, narrowed := true }
def FnExactTurnsOfUptoSaid : Prop := fnExactTurnsOfUptoRow.holds Try.pinned (OpenSpec.upto fnExactTurnsOfSpec)

/-- 'laws.FnExactLayoutOk', WHERE WHAT IT READS IS OF BULK AT MOST 1048576: true; the input reads as it did. -/
def fnExactLayoutOkUptoRow : OpenClaim := { program := "ytjpaaihohkiomaa", sum := "e9e4daeeedfef8950c4f06e5f1aa263fc809216a4aede5814e4bb7ac8bfbbfe7", func := "loop.example/g03200/laws.FnExactLayoutOk", spec := "fnExactLayoutOk", unfollowed := true, recurses := true, apart := false, narrowed := true }
def FnExactLayoutOkUptoSaid : Prop := fnExactLayoutOkUptoRow.holds Try.pinned (OpenSpec.upto fnExactLayoutOkSpec)

/-- 'laws.FnExactFrontOf', WHERE WHAT IT READS IS OF BULK AT MOST 1048576: true; the input reads as it did. -/
def fnExactFrontOfUptoRow : OpenClaim := { program := "ytjpaaihohkiomaa", sum := "e9e4daeeedfef8950c4f06e5f1aa263fc809216a4aede5814e4bb7ac8bfbbfe7", func := "loop.example/g03200/laws.FnExactFrontOf", spec := "fnExactFrontOf", apart := false, narrowed := true }
def FnExactFrontOfUptoSaid : Prop := fnExactFrontOfUptoRow.holds Try.pinned (OpenSpec.upto fnExactFrontOfSpec)

/-- 'laws.FnExactAfterShot', WHERE WHAT IT READS IS OF BULK AT MOST 1048576: true; the input reads as it did. -/
def fnExactAfterShotUptoRow : OpenClaim := { program := "ytjpaaihohkiomaa", sum := "e9e4daeeedfef8950c4f06e5f1aa263fc809216a4aede5814e4bb7ac8bfbbfe7", func := "loop.example/g03200/laws.FnExactAfterShot", spec := "fnExactAfterShot", unfollowed := true, recurses := true, apart := false, narrowed := true }
def FnExactAfterShotUptoSaid : Prop := fnExactAfterShotUptoRow.holds Try.pinned (OpenSpec.upto fnExactAfterShotSpec)

/-- 'laws.FnExactIsPathDecomposition', WHERE WHAT IT READS IS OF BULK AT MOST 1048576: true; the input reads as it did. -/
def fnExactIsPathDecompositionUptoRow : OpenClaim := { program := "ytjpaaihohkiomaa", sum := "e9e4daeeedfef8950c4f06e5f1aa263fc809216a4aede5814e4bb7ac8bfbbfe7", func := "loop.example/g03200/laws.FnExactIsPathDecomposition", spec := "fnExactIsPathDecomposition", apart := false, narrowed := true }
def FnExactIsPathDecompositionUptoSaid : Prop := fnExactIsPathDecompositionUptoRow.holds Try.pinned (OpenSpec.upto fnExactIsPathDecompositionSpec)

/-- 'laws.FnExactGuardsOf', WHERE WHAT IT READS IS OF BULK AT MOST 1048576: true; the input reads as it did. -/
def fnExactGuardsOfUptoRow : OpenClaim := { program := "ytjpaaihohkiomaa", sum := "e9e4daeeedfef8950c4f06e5f1aa263fc809216a4aede5814e4bb7ac8bfbbfe7", func := "loop.example/g03200/laws.FnExactGuardsOf", spec := "fnExactGuardsOf", unfollowed := true, recurses := true, apart := false, narrowed := true }
def FnExactGuardsOfUptoSaid : Prop := fnExactGuardsOfUptoRow.holds Try.pinned (OpenSpec.upto fnExactGuardsOfSpec)

/-- 'laws.FnExactRecordOk', WHERE WHAT IT READS IS OF BULK AT MOST 1048576: true; the input reads as it did. -/
def fnExactRecordOkUptoRow : OpenClaim := { program := "ytjpaaihohkiomaa", sum := "e9e4daeeedfef8950c4f06e5f1aa263fc809216a4aede5814e4bb7ac8bfbbfe7", func := "loop.example/g03200/laws.FnExactRecordOk", spec := "fnExactRecordOk", unfollowed := true, recurses := true, apart := false, narrowed := true }
def FnExactRecordOkUptoSaid : Prop := fnExactRecordOkUptoRow.holds Try.pinned (OpenSpec.upto fnExactRecordOkSpec)

/-- 'laws.FnExactAfterShots', WHERE WHAT IT READS IS OF BULK AT MOST 1048576: true; the input reads as it did. -/
def fnExactAfterShotsUptoRow : OpenClaim := { program := "ytjpaaihohkiomaa", sum := "e9e4daeeedfef8950c4f06e5f1aa263fc809216a4aede5814e4bb7ac8bfbbfe7", func := "loop.example/g03200/laws.FnExactAfterShots", spec := "fnExactAfterShots", unfollowed := true, recurses := true, apart := false, narrowed := true }
def FnExactAfterShotsUptoSaid : Prop := fnExactAfterShotsUptoRow.holds Try.pinned (OpenSpec.upto fnExactAfterShotsSpec)

/-- 'laws.FnExactIsHeld', WHERE WHAT IT READS IS OF BULK AT MOST 1048576: true; the input reads as it did. -/
def fnExactIsHeldUptoRow : OpenClaim := { program := "ytjpaaihohkiomaa", sum := "e9e4daeeedfef8950c4f06e5f1aa263fc809216a4aede5814e4bb7ac8bfbbfe7", func := "loop.example/g03200/laws.FnExactIsHeld", spec := "fnExactIsHeld", unfollowed := true, recurses := true, apart := false, narrowed := true }
def FnExactIsHeldUptoSaid : Prop := fnExactIsHeldUptoRow.holds Try.pinned (OpenSpec.upto fnExactIsHeldSpec)

/-- 'laws.FnExactIsCaught', WHERE WHAT IT READS IS OF BULK AT MOST 1048576: true; the input reads as it did. -/
def fnExactIsCaughtUptoRow : OpenClaim := { program := "ytjpaaihohkiomaa", sum := "e9e4daeeedfef8950c4f06e5f1aa263fc809216a4aede5814e4bb7ac8bfbbfe7", func := "loop.example/g03200/laws.FnExactIsCaught", spec := "fnExactIsCaught", unfollowed := true, recurses := true, apart := false, narrowed := true }
def FnExactIsCaughtUptoSaid : Prop := fnExactIsCaughtUptoRow.holds Try.pinned (OpenSpec.upto fnExactIsCaughtSpec)

/-- 'laws.FnExactHitsForSure', WHERE WHAT IT READS IS OF BULK AT MOST 1048576: true; the input reads as it did. -/
def fnExactHitsForSureUptoRow : OpenClaim := { program := "ytjpaaihohkiomaa", sum := "e9e4daeeedfef8950c4f06e5f1aa263fc809216a4aede5814e4bb7ac8bfbbfe7", func := "loop.example/g03200/laws.FnExactHitsForSure", spec := "fnExactHitsForSure", unfollowed := true, recurses := true, apart := false, narrowed := true }
def FnExactHitsForSureUptoSaid : Prop := fnExactHitsForSureUptoRow.holds Try.pinned (OpenSpec.upto fnExactHitsForSureSpec)

/-- 'laws.FnExactCornersOf', WHERE WHAT IT READS IS OF BULK AT MOST 1048576: true; the input reads as it did. -/
def fnExactCornersOfUptoRow : OpenClaim := { program := "ytjpaaihohkiomaa", sum := "e9e4daeeedfef8950c4f06e5f1aa263fc809216a4aede5814e4bb7ac8bfbbfe7", func := "loop.example/g03200/laws.FnExactCornersOf", spec := "fnExactCornersOf", apart := false, narrowed := true }
def FnExactCornersOfUptoSaid : Prop := fnExactCornersOfUptoRow.holds Try.pinned (OpenSpec.upto fnExactCornersOfSpec)

end Rows
end Go.Proofs.Ytjpaaihohkiomaa
