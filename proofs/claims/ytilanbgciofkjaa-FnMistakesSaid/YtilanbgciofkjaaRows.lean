/-
  No cell of these rows narrows 'for every input' (looked for: loops, veiled, ifaces, maps, wideKeys, modest, calm, conditions, laid).
  DERIVED. THE GIVEN ROWS OF THIS SEAT. 12 by the template 'for every input the law returns true; each argument reads behind the call as it read before'; 0 by the template 'total and deterministic' (their statements: YtilanbgciofkjaaTotals.lean).
  GIVEN WITH THE SEED: the statements are not yours to turn. If you find one false, say at which input.
  Laid BY PROGRAM, IN A SANDBOX (cutbox-rows.mjs): the forced cells as the released guide's own fill.sh prints them over the translation dd4bd334ffd546a9… (all of the seat's roots in one cut). By AI agents, Wed Nov 11 2026. No macro, syntax, notation, axiom, sorry.
-/
import Derived.Test.YtilanbgciofkjaaChecked
import GoSem.Claim
import GoSem.ClaimJoined
import GoSem.ClaimMapViews
import Derived.JoinedTies
import Derived.KernelRfl
namespace Go.Proofs.Ytilanbgciofkjaa
/- THE CELL 'sum', in the pinned program and in every row, IS THE sha256 OF THE DUMP (.gsa) THAT YtilanbgciofkjaaProg.lean LOADS. Nothing in Lean hashes anything: it is a label: what it is worth is what the hold of that sum in a sandbox is worth. -/
noncomputable def Try.pinned : Pinned := { name := "ytilanbgciofkjaa", sum := "dd4bd334ffd546a94fb9e9aa65e7b256ca9eb0918df910bd6dea835d47da2a82", checked := Try.checked }
namespace Rows
def none {H : Type} : Left H := { results := [], args := [] }

/-- 'laws.FnExactFugitiveMoves': WHATEVER THE INPUT: true; the input reads as it did. -/
def fnExactFugitiveMovesSpec : ChangeSpec := { name := "fnExactFugitiveMoves", fn := fun _ => fun
  | [d1, d2, d3] => { results := [.lit (.bool true)], args := [d1, d2, d3] }
  | _ => none }
def fnExactFugitiveMovesRow : OpenClaim := { program := "ytilanbgciofkjaa", sum := "dd4bd334ffd546a94fb9e9aa65e7b256ca9eb0918df910bd6dea835d47da2a82", func := "loop.example/g03200/laws.FnExactFugitiveMoves", spec := "fnExactFugitiveMoves", unfollowed := true, recurses := true, apart := false }
def FnExactFugitiveMovesSaid : Prop := fnExactFugitiveMovesRow.holds Try.pinned (OpenSpec.ofChange fnExactFugitiveMovesSpec)

/-- ITS FALSE NEIGHBOUR: 'it returns false'. Refute it at one input. -/
def fnExactFugitiveMovesWrong : ChangeSpec := { name := "fnExactFugitiveMoves", fn := fun _ => fun
  | [d1, d2, d3] => { results := [.lit (.bool false)], args := [d1, d2, d3] }
  | _ => none }
def FnExactFugitiveMovesWrongFalsely : Prop := fnExactFugitiveMovesRow.holds Try.pinned (OpenSpec.ofChange fnExactFugitiveMovesWrong)

/-- 'laws.FnExactPursuerMoves': WHATEVER THE INPUT: true; the input reads as it did. -/
def fnExactPursuerMovesSpec : ChangeSpec := { name := "fnExactPursuerMoves", fn := fun _ => fun
  | [d1, d2, d3] => { results := [.lit (.bool true)], args := [d1, d2, d3] }
  | _ => none }
def fnExactPursuerMovesRow : OpenClaim := { program := "ytilanbgciofkjaa", sum := "dd4bd334ffd546a94fb9e9aa65e7b256ca9eb0918df910bd6dea835d47da2a82", func := "loop.example/g03200/laws.FnExactPursuerMoves", spec := "fnExactPursuerMoves", unfollowed := true, recurses := true, apart := false }
def FnExactPursuerMovesSaid : Prop := fnExactPursuerMovesRow.holds Try.pinned (OpenSpec.ofChange fnExactPursuerMovesSpec)

/-- ITS FALSE NEIGHBOUR: 'it returns false'. Refute it at one input. -/
def fnExactPursuerMovesWrong : ChangeSpec := { name := "fnExactPursuerMoves", fn := fun _ => fun
  | [d1, d2, d3] => { results := [.lit (.bool false)], args := [d1, d2, d3] }
  | _ => none }
def FnExactPursuerMovesWrongFalsely : Prop := fnExactPursuerMovesRow.holds Try.pinned (OpenSpec.ofChange fnExactPursuerMovesWrong)

/-- 'laws.FnExactIsPursuerWin': WHATEVER THE INPUT: true; the input reads as it did. -/
def fnExactIsPursuerWinSpec : ChangeSpec := { name := "fnExactIsPursuerWin", fn := fun _ => fun
  | [d] => { results := [.lit (.bool true)], args := [d] }
  | _ => none }
def fnExactIsPursuerWinRow : OpenClaim := { program := "ytilanbgciofkjaa", sum := "dd4bd334ffd546a94fb9e9aa65e7b256ca9eb0918df910bd6dea835d47da2a82", func := "loop.example/g03200/laws.FnExactIsPursuerWin", spec := "fnExactIsPursuerWin", apart := false }
def FnExactIsPursuerWinSaid : Prop := fnExactIsPursuerWinRow.holds Try.pinned (OpenSpec.ofChange fnExactIsPursuerWinSpec)

/-- ITS FALSE NEIGHBOUR: 'it returns false'. Refute it at one input. -/
def fnExactIsPursuerWinWrong : ChangeSpec := { name := "fnExactIsPursuerWin", fn := fun _ => fun
  | [d] => { results := [.lit (.bool false)], args := [d] }
  | _ => none }
def FnExactIsPursuerWinWrongFalsely : Prop := fnExactIsPursuerWinRow.holds Try.pinned (OpenSpec.ofChange fnExactIsPursuerWinWrong)

/-- 'laws.FnExactBestPursuit': WHATEVER THE INPUT: true; the input reads as it did. -/
def fnExactBestPursuitSpec : ChangeSpec := { name := "fnExactBestPursuit", fn := fun _ => fun
  | [d1, d2, d3] => { results := [.lit (.bool true)], args := [d1, d2, d3] }
  | _ => none }
def fnExactBestPursuitRow : OpenClaim := { program := "ytilanbgciofkjaa", sum := "dd4bd334ffd546a94fb9e9aa65e7b256ca9eb0918df910bd6dea835d47da2a82", func := "loop.example/g03200/laws.FnExactBestPursuit", spec := "fnExactBestPursuit", unfollowed := true, recurses := true, apart := false }
def FnExactBestPursuitSaid : Prop := fnExactBestPursuitRow.holds Try.pinned (OpenSpec.ofChange fnExactBestPursuitSpec)

/-- ITS FALSE NEIGHBOUR: 'it returns false'. Refute it at one input. -/
def fnExactBestPursuitWrong : ChangeSpec := { name := "fnExactBestPursuit", fn := fun _ => fun
  | [d1, d2, d3] => { results := [.lit (.bool false)], args := [d1, d2, d3] }
  | _ => none }
def FnExactBestPursuitWrongFalsely : Prop := fnExactBestPursuitRow.holds Try.pinned (OpenSpec.ofChange fnExactBestPursuitWrong)

/-- 'laws.FnExactBestEscape': WHATEVER THE INPUT: true; the input reads as it did. -/
def fnExactBestEscapeSpec : ChangeSpec := { name := "fnExactBestEscape", fn := fun _ => fun
  | [d1, d2, d3] => { results := [.lit (.bool true)], args := [d1, d2, d3] }
  | _ => none }
def fnExactBestEscapeRow : OpenClaim := { program := "ytilanbgciofkjaa", sum := "dd4bd334ffd546a94fb9e9aa65e7b256ca9eb0918df910bd6dea835d47da2a82", func := "loop.example/g03200/laws.FnExactBestEscape", spec := "fnExactBestEscape", unfollowed := true, recurses := true, apart := false }
def FnExactBestEscapeSaid : Prop := fnExactBestEscapeRow.holds Try.pinned (OpenSpec.ofChange fnExactBestEscapeSpec)

/-- ITS FALSE NEIGHBOUR: 'it returns false'. Refute it at one input. -/
def fnExactBestEscapeWrong : ChangeSpec := { name := "fnExactBestEscape", fn := fun _ => fun
  | [d1, d2, d3] => { results := [.lit (.bool false)], args := [d1, d2, d3] }
  | _ => none }
def FnExactBestEscapeWrongFalsely : Prop := fnExactBestEscapeRow.holds Try.pinned (OpenSpec.ofChange fnExactBestEscapeWrong)

/-- 'laws.FnExactCaptureTime': WHATEVER THE INPUT: true; the input reads as it did. -/
def fnExactCaptureTimeSpec : ChangeSpec := { name := "fnExactCaptureTime", fn := fun _ => fun
  | [d] => { results := [.lit (.bool true)], args := [d] }
  | _ => none }
def fnExactCaptureTimeRow : OpenClaim := { program := "ytilanbgciofkjaa", sum := "dd4bd334ffd546a94fb9e9aa65e7b256ca9eb0918df910bd6dea835d47da2a82", func := "loop.example/g03200/laws.FnExactCaptureTime", spec := "fnExactCaptureTime", apart := false }
def FnExactCaptureTimeSaid : Prop := fnExactCaptureTimeRow.holds Try.pinned (OpenSpec.ofChange fnExactCaptureTimeSpec)

/-- ITS FALSE NEIGHBOUR: 'it returns false'. Refute it at one input. -/
def fnExactCaptureTimeWrong : ChangeSpec := { name := "fnExactCaptureTime", fn := fun _ => fun
  | [d] => { results := [.lit (.bool false)], args := [d] }
  | _ => none }
def FnExactCaptureTimeWrongFalsely : Prop := fnExactCaptureTimeRow.holds Try.pinned (OpenSpec.ofChange fnExactCaptureTimeWrong)

/-- 'laws.FnExactWinningStarts': WHATEVER THE INPUT: true; the input reads as it did. -/
def fnExactWinningStartsSpec : ChangeSpec := { name := "fnExactWinningStarts", fn := fun _ => fun
  | [d] => { results := [.lit (.bool true)], args := [d] }
  | _ => none }
def fnExactWinningStartsRow : OpenClaim := { program := "ytilanbgciofkjaa", sum := "dd4bd334ffd546a94fb9e9aa65e7b256ca9eb0918df910bd6dea835d47da2a82", func := "loop.example/g03200/laws.FnExactWinningStarts", spec := "fnExactWinningStarts", apart := false }
def FnExactWinningStartsSaid : Prop := fnExactWinningStartsRow.holds Try.pinned (OpenSpec.ofChange fnExactWinningStartsSpec)

/-- ITS FALSE NEIGHBOUR: 'it returns false'. Refute it at one input. -/
def fnExactWinningStartsWrong : ChangeSpec := { name := "fnExactWinningStarts", fn := fun _ => fun
  | [d] => { results := [.lit (.bool false)], args := [d] }
  | _ => none }
def FnExactWinningStartsWrongFalsely : Prop := fnExactWinningStartsRow.holds Try.pinned (OpenSpec.ofChange fnExactWinningStartsWrong)

/-- 'laws.FnExactFirstMistake': WHATEVER THE INPUT: true; the input reads as it did. -/
def fnExactFirstMistakeSpec : ChangeSpec := { name := "fnExactFirstMistake", fn := fun _ => fun
  | [d1, d2] => { results := [.lit (.bool true)], args := [d1, d2] }
  | _ => none }
def fnExactFirstMistakeRow : OpenClaim := { program := "ytilanbgciofkjaa", sum := "dd4bd334ffd546a94fb9e9aa65e7b256ca9eb0918df910bd6dea835d47da2a82", func := "loop.example/g03200/laws.FnExactFirstMistake", spec := "fnExactFirstMistake", unfollowed := true, recurses := true, apart := false }
def FnExactFirstMistakeSaid : Prop := fnExactFirstMistakeRow.holds Try.pinned (OpenSpec.ofChange fnExactFirstMistakeSpec)

/-- ITS FALSE NEIGHBOUR: 'it returns false'. Refute it at one input. -/
def fnExactFirstMistakeWrong : ChangeSpec := { name := "fnExactFirstMistake", fn := fun _ => fun
  | [d1, d2] => { results := [.lit (.bool false)], args := [d1, d2] }
  | _ => none }
def FnExactFirstMistakeWrongFalsely : Prop := fnExactFirstMistakeRow.holds Try.pinned (OpenSpec.ofChange fnExactFirstMistakeWrong)

/-- 'laws.FnExactPlayAgainst': WHATEVER THE INPUT: true; the input reads as it did. -/
def fnExactPlayAgainstSpec : ChangeSpec := { name := "fnExactPlayAgainst", fn := fun _ => fun
  | [d1, d2, d3, d4] => { results := [.lit (.bool true)], args := [d1, d2, d3, d4] }
  | _ => none }
def fnExactPlayAgainstRow : OpenClaim := { program := "ytilanbgciofkjaa", sum := "dd4bd334ffd546a94fb9e9aa65e7b256ca9eb0918df910bd6dea835d47da2a82", func := "loop.example/g03200/laws.FnExactPlayAgainst", spec := "fnExactPlayAgainst", unfollowed := true, recurses := true, apart := false }
def FnExactPlayAgainstSaid : Prop := fnExactPlayAgainstRow.holds Try.pinned (OpenSpec.ofChange fnExactPlayAgainstSpec)

/-- ITS FALSE NEIGHBOUR: 'it returns false'. Refute it at one input. -/
def fnExactPlayAgainstWrong : ChangeSpec := { name := "fnExactPlayAgainst", fn := fun _ => fun
  | [d1, d2, d3, d4] => { results := [.lit (.bool false)], args := [d1, d2, d3, d4] }
  | _ => none }
def FnExactPlayAgainstWrongFalsely : Prop := fnExactPlayAgainstRow.holds Try.pinned (OpenSpec.ofChange fnExactPlayAgainstWrong)

/-- 'laws.FnExactPlayBest': WHATEVER THE INPUT: true; the input reads as it did. -/
def fnExactPlayBestSpec : ChangeSpec := { name := "fnExactPlayBest", fn := fun _ => fun
  | [d1, d2, d3, d4] => { results := [.lit (.bool true)], args := [d1, d2, d3, d4] }
  | _ => none }
def fnExactPlayBestRow : OpenClaim := { program := "ytilanbgciofkjaa", sum := "dd4bd334ffd546a94fb9e9aa65e7b256ca9eb0918df910bd6dea835d47da2a82", func := "loop.example/g03200/laws.FnExactPlayBest", spec := "fnExactPlayBest", unfollowed := true, recurses := true, apart := false }
def FnExactPlayBestSaid : Prop := fnExactPlayBestRow.holds Try.pinned (OpenSpec.ofChange fnExactPlayBestSpec)

/-- ITS FALSE NEIGHBOUR: 'it returns false'. Refute it at one input. -/
def fnExactPlayBestWrong : ChangeSpec := { name := "fnExactPlayBest", fn := fun _ => fun
  | [d1, d2, d3, d4] => { results := [.lit (.bool false)], args := [d1, d2, d3, d4] }
  | _ => none }
def FnExactPlayBestWrongFalsely : Prop := fnExactPlayBestRow.holds Try.pinned (OpenSpec.ofChange fnExactPlayBestWrong)

/-- 'laws.FnChase': WHATEVER THE INPUT: true; the input reads as it did. -/
def fnChaseSpec : ChangeSpec := { name := "fnChase", fn := fun _ => fun
  | [d] => { results := [.lit (.bool true)], args := [d] }
  | _ => none }
def fnChaseRow : OpenClaim := { program := "ytilanbgciofkjaa", sum := "dd4bd334ffd546a94fb9e9aa65e7b256ca9eb0918df910bd6dea835d47da2a82", func := "loop.example/g03200/laws.FnChase", spec := "fnChase", unfollowed := true, recurses := true, apart := false }
def FnChaseSaid : Prop := fnChaseRow.holds Try.pinned (OpenSpec.ofChange fnChaseSpec)

/-- ITS FALSE NEIGHBOUR: 'it returns false'. Refute it at one input. -/
def fnChaseWrong : ChangeSpec := { name := "fnChase", fn := fun _ => fun
  | [d] => { results := [.lit (.bool false)], args := [d] }
  | _ => none }
def FnChaseWrongFalsely : Prop := fnChaseRow.holds Try.pinned (OpenSpec.ofChange fnChaseWrong)

/-- 'laws.FnMistakes': WHATEVER THE INPUT: true; the input reads as it did. -/
def fnMistakesSpec : ChangeSpec := { name := "fnMistakes", fn := fun _ => fun
  | [d] => { results := [.lit (.bool true)], args := [d] }
  | _ => none }
def fnMistakesRow : OpenClaim := { program := "ytilanbgciofkjaa", sum := "dd4bd334ffd546a94fb9e9aa65e7b256ca9eb0918df910bd6dea835d47da2a82", func := "loop.example/g03200/laws.FnMistakes", spec := "fnMistakes", unfollowed := true, recurses := true, apart := false }
def FnMistakesSaid : Prop := fnMistakesRow.holds Try.pinned (OpenSpec.ofChange fnMistakesSpec)

/-- ITS FALSE NEIGHBOUR: 'it returns false'. Refute it at one input. -/
def fnMistakesWrong : ChangeSpec := { name := "fnMistakes", fn := fun _ => fun
  | [d] => { results := [.lit (.bool false)], args := [d] }
  | _ => none }
def FnMistakesWrongFalsely : Prop := fnMistakesRow.holds Try.pinned (OpenSpec.ofChange fnMistakesWrong)

/- THE SECOND FORM. 'bulk': how many values and letters a reading holds, each counted each time it is reached (what is shared counts as often as it is met; a slice's spare places count too). A statement '..UptoSaid' is the law's where the arguments, and the package variables that the reading takes, are together of bulk at most 1048576: NARROWER than '..Said'. Prove '..Said' where nothing that the law and all that it calls make is longer than what came in: it says more and counts as full. Else prove '..UptoSaid'. A law counts once. -/
mutual
def uptoBulk {H : Type} : DataW H → Nat
  | .lit (.string bytes) => bytes.length + 1
  | .lit _ => 1
  | .nil => 1
  | .ptr d => uptoBulk d + 1
  | .slice elems spare => uptoBulkAll elems + uptoBulkAll spare + 1
  | .agg parts => uptoBulkAll parts + 1
  | .iface _ d => uptoBulk d + 1
  | .map entries => uptoBulkEntries entries + 1
  | .held _ => 1
def uptoBulkAll {H : Type} : List (DataW H) → Nat
  | [] => 0
  | d :: r => uptoBulk d + uptoBulkAll r
def uptoBulkEntries {H : Type} : List (Lit × DataW H) → Nat
  | [] => 0
  | x :: r => uptoBulkEntry x + uptoBulkEntries r
def uptoBulkEntry {H : Type} : Lit × DataW H → Nat
  | (.string bytes, d) => bytes.length + uptoBulk d + 1
  | (_, d) => uptoBulk d + 1
 end
def uptoSmall : (H : Type) → List (DataW H) → Bool := fun _ ds => decide (uptoBulkAll ds ≤ 1048576)
def OpenSpec.upto (s : _root_.Go.ChangeSpec) : _root_.Go.OpenSpec := { _root_.Go.OpenSpec.ofChange s with cond := some uptoSmall }

/-- 'laws.FnExactFugitiveMoves', WHERE WHAT IT READS IS OF BULK AT MOST 1048576: true; the input reads as it did. -/
def fnExactFugitiveMovesUptoRow : OpenClaim := { program := "ytilanbgciofkjaa", sum := "dd4bd334ffd546a94fb9e9aa65e7b256ca9eb0918df910bd6dea835d47da2a82", func := "loop.example/g03200/laws.FnExactFugitiveMoves", spec := "fnExactFugitiveMoves", unfollowed := true, recurses := true, apart := false, narrowed := true }
def FnExactFugitiveMovesUptoSaid : Prop := fnExactFugitiveMovesUptoRow.holds Try.pinned (OpenSpec.upto fnExactFugitiveMovesSpec)

/-- 'laws.FnExactPursuerMoves', WHERE WHAT IT READS IS OF BULK AT MOST 1048576: true; the input reads as it did. -/
def fnExactPursuerMovesUptoRow : OpenClaim := { program := "ytilanbgciofkjaa", sum := "dd4bd334ffd546a94fb9e9aa65e7b256ca9eb0918df910bd6dea835d47da2a82", func := "loop.example/g03200/laws.FnExactPursuerMoves", spec := "fnExactPursuerMoves", unfollowed := true, recurses := true, apart := false, narrowed := true }
def FnExactPursuerMovesUptoSaid : Prop := fnExactPursuerMovesUptoRow.holds Try.pinned (OpenSpec.upto fnExactPursuerMovesSpec)

/-- 'laws.FnExactIsPursuerWin', WHERE WHAT IT READS IS OF BULK AT MOST 1048576: true; the input reads as it did. -/
def fnExactIsPursuerWinUptoRow : OpenClaim := { program := "ytilanbgciofkjaa", sum := "dd4bd334ffd546a94fb9e9aa65e7b256ca9eb0918df910bd6dea835d47da2a82", func := "loop.example/g03200/laws.FnExactIsPursuerWin", spec := "fnExactIsPursuerWin", apart := false, narrowed := true }
def FnExactIsPursuerWinUptoSaid : Prop := fnExactIsPursuerWinUptoRow.holds Try.pinned (OpenSpec.upto fnExactIsPursuerWinSpec)

/-- 'laws.FnExactBestPursuit', WHERE WHAT IT READS IS OF BULK AT MOST 1048576: true; the input reads as it did. -/
def fnExactBestPursuitUptoRow : OpenClaim := { program := "ytilanbgciofkjaa", sum := "dd4bd334ffd546a94fb9e9aa65e7b256ca9eb0918df910bd6dea835d47da2a82", func := "loop.example/g03200/laws.FnExactBestPursuit", spec := "fnExactBestPursuit", unfollowed := true, recurses := true, apart := false, narrowed := true }
def FnExactBestPursuitUptoSaid : Prop := fnExactBestPursuitUptoRow.holds Try.pinned (OpenSpec.upto fnExactBestPursuitSpec)

/-- 'laws.FnExactBestEscape', WHERE WHAT IT READS IS OF BULK AT MOST 1048576: true; the input reads as it did. -/
def fnExactBestEscapeUptoRow : OpenClaim := { program := "ytilanbgciofkjaa", sum := "dd4bd334ffd546a94fb9e9aa65e7b256ca9eb0918df910bd6dea835d47da2a82", func := "loop.example/g03200/laws.FnExactBestEscape", spec := "fnExactBestEscape", unfollowed := true, recurses := true, apart := false, narrowed := true }
def FnExactBestEscapeUptoSaid : Prop := fnExactBestEscapeUptoRow.holds Try.pinned (OpenSpec.upto fnExactBestEscapeSpec)

/-- 'laws.FnExactCaptureTime', WHERE WHAT IT READS IS OF BULK AT MOST 1048576: true; the input reads as it did. -/
def fnExactCaptureTimeUptoRow : OpenClaim := { program := "ytilanbgciofkjaa", sum := "dd4bd334ffd546a94fb9e9aa65e7b256ca9eb0918df910bd6dea835d47da2a82", func := "loop.example/g03200/laws.FnExactCaptureTime", spec := "fnExactCaptureTime", apart := false, narrowed := true }
def FnExactCaptureTimeUptoSaid : Prop := fnExactCaptureTimeUptoRow.holds Try.pinned (OpenSpec.upto fnExactCaptureTimeSpec)

/-- 'laws.FnExactWinningStarts', WHERE WHAT IT READS IS OF BULK AT MOST 1048576: true; the input reads as it did. -/
def fnExactWinningStartsUptoRow : OpenClaim := { program := "ytilanbgciofkjaa", sum := "dd4bd334ffd546a94fb9e9aa65e7b256ca9eb0918df910bd6dea835d47da2a82", func := "loop.example/g03200/laws.FnExactWinningStarts", spec := "fnExactWinningStarts", apart := false, narrowed := true }
def FnExactWinningStartsUptoSaid : Prop := fnExactWinningStartsUptoRow.holds Try.pinned (OpenSpec.upto fnExactWinningStartsSpec)

/-- 'laws.FnExactFirstMistake', WHERE WHAT IT READS IS OF BULK AT MOST 1048576: true; the input reads as it did. -/
def fnExactFirstMistakeUptoRow : OpenClaim := { program := "ytilanbgciofkjaa", sum := "dd4bd334ffd546a94fb9e9aa65e7b256ca9eb0918df910bd6dea835d47da2a82", func := "loop.example/g03200/laws.FnExactFirstMistake", spec := "fnExactFirstMistake", unfollowed := true, recurses := true, apart := false, narrowed := true }
def FnExactFirstMistakeUptoSaid : Prop := fnExactFirstMistakeUptoRow.holds Try.pinned (OpenSpec.upto fnExactFirstMistakeSpec)

/-- 'laws.FnExactPlayAgainst', WHERE WHAT IT READS IS OF BULK AT MOST 1048576: true; the input reads as it did. -/
def fnExactPlayAgainstUptoRow : OpenClaim := { program := "ytilanbgciofkjaa", sum := "dd4bd334ffd546a94fb9e9aa65e7b256ca9eb0918df910bd6dea835d47da2a82", func := "loop.example/g03200/laws.FnExactPlayAgainst", spec := "fnExactPlayAgainst", unfollowed := true, recurses := true, apart := false, narrowed := true }
def FnExactPlayAgainstUptoSaid : Prop := fnExactPlayAgainstUptoRow.holds Try.pinned (OpenSpec.upto fnExactPlayAgainstSpec)

/-- 'laws.FnExactPlayBest', WHERE WHAT IT READS IS OF BULK AT MOST 1048576: true; the input reads as it did. -/
def fnExactPlayBestUptoRow : OpenClaim := { program := "ytilanbgciofkjaa", sum := "dd4bd334ffd546a94fb9e9aa65e7b256ca9eb0918df910bd6dea835d47da2a82", func := "loop.example/g03200/laws.FnExactPlayBest", spec := "fnExactPlayBest", unfollowed := true, recurses := true, apart := false, narrowed := true }
def FnExactPlayBestUptoSaid : Prop := fnExactPlayBestUptoRow.holds Try.pinned (OpenSpec.upto fnExactPlayBestSpec)

/-- 'laws.FnChase', WHERE WHAT IT READS IS OF BULK AT MOST 1048576: true; the input reads as it did. -/
def fnChaseUptoRow : OpenClaim := { program := "ytilanbgciofkjaa", sum := "dd4bd334ffd546a94fb9e9aa65e7b256ca9eb0918df910bd6dea835d47da2a82", func := "loop.example/g03200/laws.FnChase", spec := "fnChase", unfollowed := true, recurses := true, apart := false, narrowed := true }
def FnChaseUptoSaid : Prop := fnChaseUptoRow.holds Try.pinned (OpenSpec.upto fnChaseSpec)

/-- 'laws.FnMistakes', WHERE WHAT IT READS IS OF BULK AT MOST 1048576: true; the input reads as it did. -/
def fnMistakesUptoRow : OpenClaim := { program := "ytilanbgciofkjaa", sum := "dd4bd334ffd546a94fb9e9aa65e7b256ca9eb0918df910bd6dea835d47da2a82", func := "loop.example/g03200/laws.FnMistakes", spec := "fnMistakes", unfollowed := true, recurses := true, apart := false, narrowed := true }
def FnMistakesUptoSaid : Prop := fnMistakesUptoRow.holds Try.pinned (OpenSpec.upto fnMistakesSpec)

end Rows
end Go.Proofs.Ytilanbgciofkjaa
