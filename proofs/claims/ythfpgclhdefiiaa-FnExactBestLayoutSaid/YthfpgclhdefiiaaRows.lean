/-
  No cell of these rows narrows 'for every input' (looked for: loops, veiled, ifaces, maps, wideKeys, modest, calm, conditions, laid).
  DERIVED. THE GIVEN ROWS OF THIS SEAT. 11 by the template 'for every input the law returns true; each argument reads behind the call as it read before'; 0 by the template 'total and deterministic' (their statements: YthfpgclhdefiiaaTotals.lean).
  GIVEN WITH THE SEED: the statements are not yours to turn. If you find one false, say at which input.
  Laid BY PROGRAM, IN A SANDBOX (cutbox-rows.mjs): the forced cells as the released guide's own fill.sh prints them over the translation 854b787f0a12a1d6… (all of the seat's roots in one cut). By AI agents, Wed Nov 11 2026. No macro, syntax, notation, axiom, sorry.
-/
import Derived.Test.YthfpgclhdefiiaaChecked
import GoSem.Claim
import GoSem.ClaimJoined
import GoSem.ClaimMapViews
import Derived.JoinedTies
import Derived.KernelRfl
namespace Go.Proofs.Ythfpgclhdefiiaa
/- THE CELL 'sum', in the pinned program and in every row, IS THE sha256 OF THE DUMP (.gsa) THAT YthfpgclhdefiiaaProg.lean LOADS. Nothing in Lean hashes anything: it is a label: what it is worth is what the hold of that sum in a sandbox is worth. -/
noncomputable def Try.pinned : Pinned := { name := "ythfpgclhdefiiaa", sum := "854b787f0a12a1d66886184497ebcda274a868f7d3bf97235e7cba75b209ad1b", checked := Try.checked }
namespace Rows
def none {H : Type} : Left H := { results := [], args := [] }

/-- 'laws.FnExactFewestShots': WHATEVER THE INPUT: true; the input reads as it did. -/
def fnExactFewestShotsSpec : ChangeSpec := { name := "fnExactFewestShots", fn := fun _ => fun
  | [d] => { results := [.lit (.bool true)], args := [d] }
  | _ => none }
def fnExactFewestShotsRow : OpenClaim := { program := "ythfpgclhdefiiaa", sum := "854b787f0a12a1d66886184497ebcda274a868f7d3bf97235e7cba75b209ad1b", func := "loop.example/g03200/laws.FnExactFewestShots", spec := "fnExactFewestShots", apart := false }
def FnExactFewestShotsSaid : Prop := fnExactFewestShotsRow.holds Try.pinned (OpenSpec.ofChange fnExactFewestShotsSpec)

/-- ITS FALSE NEIGHBOUR: 'it returns false'. Refute it at one input. -/
def fnExactFewestShotsWrong : ChangeSpec := { name := "fnExactFewestShots", fn := fun _ => fun
  | [d] => { results := [.lit (.bool false)], args := [d] }
  | _ => none }
def FnExactFewestShotsWrongFalsely : Prop := fnExactFewestShotsRow.holds Try.pinned (OpenSpec.ofChange fnExactFewestShotsWrong)

/-- 'laws.FnExactLeftOver': WHATEVER THE INPUT: true; the input reads as it did. -/
def fnExactLeftOverSpec : ChangeSpec := { name := "fnExactLeftOver", fn := fun _ => fun
  | [d] => { results := [.lit (.bool true)], args := [d] }
  | _ => none }
def fnExactLeftOverRow : OpenClaim := { program := "ythfpgclhdefiiaa", sum := "854b787f0a12a1d66886184497ebcda274a868f7d3bf97235e7cba75b209ad1b", func := "loop.example/g03200/laws.FnExactLeftOver", spec := "fnExactLeftOver", apart := false }
def FnExactLeftOverSaid : Prop := fnExactLeftOverRow.holds Try.pinned (OpenSpec.ofChange fnExactLeftOverSpec)

/-- ITS FALSE NEIGHBOUR: 'it returns false'. Refute it at one input. -/
def fnExactLeftOverWrong : ChangeSpec := { name := "fnExactLeftOver", fn := fun _ => fun
  | [d] => { results := [.lit (.bool false)], args := [d] }
  | _ => none }
def FnExactLeftOverWrongFalsely : Prop := fnExactLeftOverRow.holds Try.pinned (OpenSpec.ofChange fnExactLeftOverWrong)

/-- 'laws.FnExactFrontsOf': WHATEVER THE INPUT: true; the input reads as it did. -/
def fnExactFrontsOfSpec : ChangeSpec := { name := "fnExactFrontsOf", fn := fun _ => fun
  | [d1, d2] => { results := [.lit (.bool true)], args := [d1, d2] }
  | _ => none }
def fnExactFrontsOfRow : OpenClaim := { program := "ythfpgclhdefiiaa", sum := "854b787f0a12a1d66886184497ebcda274a868f7d3bf97235e7cba75b209ad1b", func := "loop.example/g03200/laws.FnExactFrontsOf", spec := "fnExactFrontsOf", unfollowed := true, recurses := true, apart := false }
def FnExactFrontsOfSaid : Prop := fnExactFrontsOfRow.holds Try.pinned (OpenSpec.ofChange fnExactFrontsOfSpec)

/-- ITS FALSE NEIGHBOUR: 'it returns false'. Refute it at one input. -/
def fnExactFrontsOfWrong : ChangeSpec := { name := "fnExactFrontsOf", fn := fun _ => fun
  | [d1, d2] => { results := [.lit (.bool false)], args := [d1, d2] }
  | _ => none }
def FnExactFrontsOfWrongFalsely : Prop := fnExactFrontsOfRow.holds Try.pinned (OpenSpec.ofChange fnExactFrontsOfWrong)

/-- 'laws.FnExactPathBags': WHATEVER THE INPUT: true; the input reads as it did. -/
def fnExactPathBagsSpec : ChangeSpec := { name := "fnExactPathBags", fn := fun _ => fun
  | [d1, d2] => { results := [.lit (.bool true)], args := [d1, d2] }
  | _ => none }
def fnExactPathBagsRow : OpenClaim := { program := "ythfpgclhdefiiaa", sum := "854b787f0a12a1d66886184497ebcda274a868f7d3bf97235e7cba75b209ad1b", func := "loop.example/g03200/laws.FnExactPathBags", spec := "fnExactPathBags", unfollowed := true, recurses := true, apart := false }
def FnExactPathBagsSaid : Prop := fnExactPathBagsRow.holds Try.pinned (OpenSpec.ofChange fnExactPathBagsSpec)

/-- ITS FALSE NEIGHBOUR: 'it returns false'. Refute it at one input. -/
def fnExactPathBagsWrong : ChangeSpec := { name := "fnExactPathBags", fn := fun _ => fun
  | [d1, d2] => { results := [.lit (.bool false)], args := [d1, d2] }
  | _ => none }
def FnExactPathBagsWrongFalsely : Prop := fnExactPathBagsRow.holds Try.pinned (OpenSpec.ofChange fnExactPathBagsWrong)

/-- 'laws.FnExactDismantleOrder': WHATEVER THE INPUT: true; the input reads as it did. -/
def fnExactDismantleOrderSpec : ChangeSpec := { name := "fnExactDismantleOrder", fn := fun _ => fun
  | [d] => { results := [.lit (.bool true)], args := [d] }
  | _ => none }
def fnExactDismantleOrderRow : OpenClaim := { program := "ythfpgclhdefiiaa", sum := "854b787f0a12a1d66886184497ebcda274a868f7d3bf97235e7cba75b209ad1b", func := "loop.example/g03200/laws.FnExactDismantleOrder", spec := "fnExactDismantleOrder", apart := false }
def FnExactDismantleOrderSaid : Prop := fnExactDismantleOrderRow.holds Try.pinned (OpenSpec.ofChange fnExactDismantleOrderSpec)

/-- ITS FALSE NEIGHBOUR: 'it returns false'. Refute it at one input. -/
def fnExactDismantleOrderWrong : ChangeSpec := { name := "fnExactDismantleOrder", fn := fun _ => fun
  | [d] => { results := [.lit (.bool false)], args := [d] }
  | _ => none }
def FnExactDismantleOrderWrongFalsely : Prop := fnExactDismantleOrderRow.holds Try.pinned (OpenSpec.ofChange fnExactDismantleOrderWrong)

/-- 'laws.FnExactFewestSearchers': WHATEVER THE INPUT: true; the input reads as it did. -/
def fnExactFewestSearchersSpec : ChangeSpec := { name := "fnExactFewestSearchers", fn := fun _ => fun
  | [d] => { results := [.lit (.bool true)], args := [d] }
  | _ => none }
def fnExactFewestSearchersRow : OpenClaim := { program := "ythfpgclhdefiiaa", sum := "854b787f0a12a1d66886184497ebcda274a868f7d3bf97235e7cba75b209ad1b", func := "loop.example/g03200/laws.FnExactFewestSearchers", spec := "fnExactFewestSearchers", unfollowed := true, recurses := true, apart := false }
def FnExactFewestSearchersSaid : Prop := fnExactFewestSearchersRow.holds Try.pinned (OpenSpec.ofChange fnExactFewestSearchersSpec)

/-- ITS FALSE NEIGHBOUR: 'it returns false'. Refute it at one input. -/
def fnExactFewestSearchersWrong : ChangeSpec := { name := "fnExactFewestSearchers", fn := fun _ => fun
  | [d] => { results := [.lit (.bool false)], args := [d] }
  | _ => none }
def FnExactFewestSearchersWrongFalsely : Prop := fnExactFewestSearchersRow.holds Try.pinned (OpenSpec.ofChange fnExactFewestSearchersWrong)

/-- 'laws.FnExactIsDismantlable': WHATEVER THE INPUT: true; the input reads as it did. -/
def fnExactIsDismantlableSpec : ChangeSpec := { name := "fnExactIsDismantlable", fn := fun _ => fun
  | [d] => { results := [.lit (.bool true)], args := [d] }
  | _ => none }
def fnExactIsDismantlableRow : OpenClaim := { program := "ythfpgclhdefiiaa", sum := "854b787f0a12a1d66886184497ebcda274a868f7d3bf97235e7cba75b209ad1b", func := "loop.example/g03200/laws.FnExactIsDismantlable", spec := "fnExactIsDismantlable", apart := false }
def FnExactIsDismantlableSaid : Prop := fnExactIsDismantlableRow.holds Try.pinned (OpenSpec.ofChange fnExactIsDismantlableSpec)

/-- ITS FALSE NEIGHBOUR: 'it returns false'. Refute it at one input. -/
def fnExactIsDismantlableWrong : ChangeSpec := { name := "fnExactIsDismantlable", fn := fun _ => fun
  | [d] => { results := [.lit (.bool false)], args := [d] }
  | _ => none }
def FnExactIsDismantlableWrongFalsely : Prop := fnExactIsDismantlableRow.holds Try.pinned (OpenSpec.ofChange fnExactIsDismantlableWrong)

/-- 'laws.FnExactSearchersFor': WHATEVER THE INPUT: true; the input reads as it did. -/
def fnExactSearchersForSpec : ChangeSpec := { name := "fnExactSearchersFor", fn := fun _ => fun
  | [d1, d2] => { results := [.lit (.bool true)], args := [d1, d2] }
  | _ => none }
def fnExactSearchersForRow : OpenClaim := { program := "ythfpgclhdefiiaa", sum := "854b787f0a12a1d66886184497ebcda274a868f7d3bf97235e7cba75b209ad1b", func := "loop.example/g03200/laws.FnExactSearchersFor", spec := "fnExactSearchersFor", unfollowed := true, recurses := true, apart := false }
def FnExactSearchersForSaid : Prop := fnExactSearchersForRow.holds Try.pinned (OpenSpec.ofChange fnExactSearchersForSpec)

/-- ITS FALSE NEIGHBOUR: 'it returns false'. Refute it at one input. -/
def fnExactSearchersForWrong : ChangeSpec := { name := "fnExactSearchersFor", fn := fun _ => fun
  | [d1, d2] => { results := [.lit (.bool false)], args := [d1, d2] }
  | _ => none }
def FnExactSearchersForWrongFalsely : Prop := fnExactSearchersForRow.holds Try.pinned (OpenSpec.ofChange fnExactSearchersForWrong)

/-- 'laws.FnExactFirstShots': WHATEVER THE INPUT: true; the input reads as it did. -/
def fnExactFirstShotsSpec : ChangeSpec := { name := "fnExactFirstShots", fn := fun _ => fun
  | [d] => { results := [.lit (.bool true)], args := [d] }
  | _ => none }
def fnExactFirstShotsRow : OpenClaim := { program := "ythfpgclhdefiiaa", sum := "854b787f0a12a1d66886184497ebcda274a868f7d3bf97235e7cba75b209ad1b", func := "loop.example/g03200/laws.FnExactFirstShots", spec := "fnExactFirstShots", apart := false }
def FnExactFirstShotsSaid : Prop := fnExactFirstShotsRow.holds Try.pinned (OpenSpec.ofChange fnExactFirstShotsSpec)

/-- ITS FALSE NEIGHBOUR: 'it returns false'. Refute it at one input. -/
def fnExactFirstShotsWrong : ChangeSpec := { name := "fnExactFirstShots", fn := fun _ => fun
  | [d] => { results := [.lit (.bool false)], args := [d] }
  | _ => none }
def FnExactFirstShotsWrongFalsely : Prop := fnExactFirstShotsRow.holds Try.pinned (OpenSpec.ofChange fnExactFirstShotsWrong)

/-- 'laws.FnExactBestLayout': WHATEVER THE INPUT: true; the input reads as it did. -/
def fnExactBestLayoutSpec : ChangeSpec := { name := "fnExactBestLayout", fn := fun _ => fun
  | [d] => { results := [.lit (.bool true)], args := [d] }
  | _ => none }
def fnExactBestLayoutRow : OpenClaim := { program := "ythfpgclhdefiiaa", sum := "854b787f0a12a1d66886184497ebcda274a868f7d3bf97235e7cba75b209ad1b", func := "loop.example/g03200/laws.FnExactBestLayout", spec := "fnExactBestLayout", unfollowed := true, recurses := true, apart := false }
def FnExactBestLayoutSaid : Prop := fnExactBestLayoutRow.holds Try.pinned (OpenSpec.ofChange fnExactBestLayoutSpec)

/-- ITS FALSE NEIGHBOUR: 'it returns false'. Refute it at one input. -/
def fnExactBestLayoutWrong : ChangeSpec := { name := "fnExactBestLayout", fn := fun _ => fun
  | [d] => { results := [.lit (.bool false)], args := [d] }
  | _ => none }
def FnExactBestLayoutWrongFalsely : Prop := fnExactBestLayoutRow.holds Try.pinned (OpenSpec.ofChange fnExactBestLayoutWrong)

/-- 'laws.FnExactFoldOf': WHATEVER THE INPUT: true; the input reads as it did. -/
def fnExactFoldOfSpec : ChangeSpec := { name := "fnExactFoldOf", fn := fun _ => fun
  | [d] => { results := [.lit (.bool true)], args := [d] }
  | _ => none }
def fnExactFoldOfRow : OpenClaim := { program := "ythfpgclhdefiiaa", sum := "854b787f0a12a1d66886184497ebcda274a868f7d3bf97235e7cba75b209ad1b", func := "loop.example/g03200/laws.FnExactFoldOf", spec := "fnExactFoldOf", apart := false }
def FnExactFoldOfSaid : Prop := fnExactFoldOfRow.holds Try.pinned (OpenSpec.ofChange fnExactFoldOfSpec)

/-- ITS FALSE NEIGHBOUR: 'it returns false'. Refute it at one input. -/
def fnExactFoldOfWrong : ChangeSpec := { name := "fnExactFoldOf", fn := fun _ => fun
  | [d] => { results := [.lit (.bool false)], args := [d] }
  | _ => none }
def FnExactFoldOfWrongFalsely : Prop := fnExactFoldOfRow.holds Try.pinned (OpenSpec.ofChange fnExactFoldOfWrong)

/- THE SECOND FORM. 'bulk': how many values and letters a reading holds, each counted each time it is reached (what is shared counts as often as it is met; a slice's spare places count too). A statement '..UptoSaid' is the law's where the arguments, and the package variables that the reading takes, are together of bulk at most 1048576: NARROWER than '..Said'. Prove '..Said' where nothing that the law and all that it calls make is longer than what came in: it says more and counts as full. Else prove '..UptoSaid'. A law counts once. -/
mutual
def uptoBulk {H : Type} : DataW H → Nat
  | .lit (.string bytes) => bytes.length + 1
  | .lit _ => 1
  | .nil => 1
  | .ptr d => uptoBulk d + 1
  | .slice elems spare => uptoBulkAll elems + uptoBulkAll spare + 1
  | .agg parts => uptoBulkAll parts + 1
  | .iface _ d => uptoBulk d + 1
  | .map entries => uptoBulkEntries entries + 1
  | .held _ => 1
def uptoBulkAll {H : Type} : List (DataW H) → Nat
  | [] => 0
  | d :: r => uptoBulk d + uptoBulkAll r
def uptoBulkEntries {H : Type} : List (Lit × DataW H) → Nat
  | [] => 0
  | x :: r => uptoBulkEntry x + uptoBulkEntries r
def uptoBulkEntry {H : Type} : Lit × DataW H → Nat
  | (.string bytes, d) => bytes.length + uptoBulk d + 1
  | (_, d) => uptoBulk d + 1
 end
def uptoSmall : (H : Type) → List (DataW H) → Bool := fun _ ds => decide (uptoBulkAll ds ≤ 1048576)
def OpenSpec.upto (s : _root_.Go.ChangeSpec) : _root_.Go.OpenSpec := { _root_.Go.OpenSpec.ofChange s with cond := some uptoSmall }

/-- 'laws.FnExactFewestShots', WHERE WHAT IT READS IS OF BULK AT MOST 1048576: true; the input reads as it did. -/
def fnExactFewestShotsUptoRow : OpenClaim := { program := "ythfpgclhdefiiaa", sum := "854b787f0a12a1d66886184497ebcda274a868f7d3bf97235e7cba75b209ad1b", func := "loop.example/g03200/laws.FnExactFewestShots", spec := "fnExactFewestShots", apart := false, narrowed := true }
def FnExactFewestShotsUptoSaid : Prop := fnExactFewestShotsUptoRow.holds Try.pinned (OpenSpec.upto fnExactFewestShotsSpec)

/-- 'laws.FnExactLeftOver', WHERE WHAT IT READS IS OF BULK AT MOST 1048576: true; the input reads as it did. -/
def fnExactLeftOverUptoRow : OpenClaim := { program := "ythfpgclhdefiiaa", sum := "854b787f0a12a1d66886184497ebcda274a868f7d3bf97235e7cba75b209ad1b", func := "loop.example/g03200/laws.FnExactLeftOver", spec := "fnExactLeftOver", apart := false, narrowed := true }
def FnExactLeftOverUptoSaid : Prop := fnExactLeftOverUptoRow.holds Try.pinned (OpenSpec.upto fnExactLeftOverSpec)

/-- 'laws.FnExactFrontsOf', WHERE WHAT IT READS IS OF BULK AT MOST 1048576: true; the input reads as it did. -/
def fnExactFrontsOfUptoRow : OpenClaim := { program := "ythfpgclhdefiiaa", sum := "854b787f0a12a1d66886184497ebcda274a868f7d3bf97235e7cba75b209ad1b", func := "loop.example/g03200/laws.FnExactFrontsOf", spec := "fnExactFrontsOf", unfollowed := true, recurses := true, apart := false, narrowed := true }
def FnExactFrontsOfUptoSaid : Prop := fnExactFrontsOfUptoRow.holds Try.pinned (OpenSpec.upto fnExactFrontsOfSpec)

/-- 'laws.FnExactPathBags', WHERE WHAT IT READS IS OF BULK AT MOST 1048576: true; the input reads as it did. -/
def fnExactPathBagsUptoRow : OpenClaim := { program := "ythfpgclhdefiiaa", sum := "854b787f0a12a1d66886184497ebcda274a868f7d3bf97235e7cba75b209ad1b", func := "loop.example/g03200/laws.FnExactPathBags", spec := "fnExactPathBags", unfollowed := true, recurses := true, apart := false, narrowed := true }
def FnExactPathBagsUptoSaid : Prop := fnExactPathBagsUptoRow.holds Try.pinned (OpenSpec.upto fnExactPathBagsSpec)

/-- 'laws.FnExactDismantleOrder', WHERE WHAT IT READS IS OF BULK AT MOST 1048576: true; the input reads as it did. -/
def fnExactDismantleOrderUptoRow : OpenClaim := { program := "ythfpgclhdefiiaa", sum := "854b787f0a12a1d66886184497ebcda274a868f7d3bf97235e7cba75b209ad1b", func := "loop.example/g03200/laws.FnExactDismantleOrder", spec := "fnExactDismantleOrder", apart := false, narrowed := true }
def FnExactDismantleOrderUptoSaid : Prop := fnExactDismantleOrderUptoRow.holds Try.pinned (OpenSpec.upto fnExactDismantleOrderSpec)

/-- 'laws.FnExactFewestSearchers', WHERE WHAT IT READS IS OF BULK AT MOST 1048576: true; the input reads as it did. -/
def fnExactFewestSearchersUptoRow : OpenClaim := { program := "ythfpgclhdefiiaa", sum := "854b787f0a12a1d66886184497ebcda274a868f7d3bf97235e7cba75b209ad1b", func := "loop.example/g03200/laws.FnExactFewestSearchers", spec := "fnExactFewestSearchers", unfollowed := true, recurses := true, apart := false, narrowed := true }
def FnExactFewestSearchersUptoSaid : Prop := fnExactFewestSearchersUptoRow.holds Try.pinned (OpenSpec.upto fnExactFewestSearchersSpec)

/-- 'laws.FnExactIsDismantlable', WHERE WHAT IT READS IS OF BULK AT MOST 1048576: true; the input reads as it did. -/
def fnExactIsDismantlableUptoRow : OpenClaim := { program := "ythfpgclhdefiiaa", sum := "854b787f0a12a1d66886184497ebcda274a868f7d3bf97235e7cba75b209ad1b", func := "loop.example/g03200/laws.FnExactIsDismantlable", spec := "fnExactIsDismantlable", apart := false, narrowed := true }
def FnExactIsDismantlableUptoSaid : Prop := fnExactIsDismantlableUptoRow.holds Try.pinned (OpenSpec.upto fnExactIsDismantlableSpec)

/-- 'laws.FnExactSearchersFor', WHERE WHAT IT READS IS OF BULK AT MOST 1048576: true; the input reads as it did. -/
def fnExactSearchersForUptoRow : OpenClaim := { program := "ythfpgclhdefiiaa", sum := "854b787f0a12a1d66886184497ebcda274a868f7d3bf97235e7cba75b209ad1b", func := "loop.example/g03200/laws.FnExactSearchersFor", spec := "fnExactSearchersFor", unfollowed := true, recurses := true, apart := false, narrowed := true }
def FnExactSearchersForUptoSaid : Prop := fnExactSearchersForUptoRow.holds Try.pinned (OpenSpec.upto fnExactSearchersForSpec)

/-- 'laws.FnExactFirstShots', WHERE WHAT IT READS IS OF BULK AT MOST 1048576: true; the input reads as it did. -/
def fnExactFirstShotsUptoRow : OpenClaim := { program := "ythfpgclhdefiiaa", sum := "854b787f0a12a1d66886184497ebcda274a868f7d3bf97235e7cba75b209ad1b", func := "loop.example/g03200/laws.FnExactFirstShots", spec := "fnExactFirstShots", apart := false, narrowed := true }
def FnExactFirstShotsUptoSaid : Prop := fnExactFirstShotsUptoRow.holds Try.pinned (OpenSpec.upto fnExactFirstShotsSpec)

/-- 'laws.FnExactBestLayout', WHERE WHAT IT READS IS OF BULK AT MOST 1048576: true; the input reads as it did. -/
def fnExactBestLayoutUptoRow : OpenClaim := { program := "ythfpgclhdefiiaa", sum := "854b787f0a12a1d66886184497ebcda274a868f7d3bf97235e7cba75b209ad1b", func := "loop.example/g03200/laws.FnExactBestLayout", spec := "fnExactBestLayout", unfollowed := true, recurses := true, apart := false, narrowed := true }
def FnExactBestLayoutUptoSaid : Prop := fnExactBestLayoutUptoRow.holds Try.pinned (OpenSpec.upto fnExactBestLayoutSpec)

/-- 'laws.FnExactFoldOf', WHERE WHAT IT READS IS OF BULK AT MOST 1048576: true; the input reads as it did. -/
def fnExactFoldOfUptoRow : OpenClaim := { program := "ythfpgclhdefiiaa", sum := "854b787f0a12a1d66886184497ebcda274a868f7d3bf97235e7cba75b209ad1b", func := "loop.example/g03200/laws.FnExactFoldOf", spec := "fnExactFoldOf", apart := false, narrowed := true }
def FnExactFoldOfUptoSaid : Prop := fnExactFoldOfUptoRow.holds Try.pinned (OpenSpec.upto fnExactFoldOfSpec)

end Rows
end Go.Proofs.Ythfpgclhdefiiaa
