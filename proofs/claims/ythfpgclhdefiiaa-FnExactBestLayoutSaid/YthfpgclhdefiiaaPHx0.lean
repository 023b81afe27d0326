-- Written by this claim's printing program (wip/tools/xprint.py) out of the translation; Lean checks it.
import Derived.Test.YthfpgclhdefiiaaProg
import Derived.Below
import Derived.Deep.Draws
import Derived.Deep.AppendLies
import Derived.Maps.AppendAt
import Derived.OwnWalk
import Derived.Laws.BytesArg
import Derived.Laws.MakeOwn
import Derived.Laws.OwnMore
import Derived.Deep.OwnRows
import Derived.Tactics
import Derived.Lib.ConvBytes
import Derived.Laws.Slices
import Derived.WalkKit
import Derived.KernelRfl
import Derived.RowKit3
import Derived.Deep.LoopGhost
import Derived.Deep.QuietTactic
import Derived.BigQuiet
import Derived.WideLaws
import Derived.Deep.DeepCutAuto
import Derived.Deep.CutBlock
import Derived.Deep.RegionHeld3
import Derived.Laws.Rows
import Derived.Lib.AppendStr
import Derived.ArgAppend
import Derived.Laws.IdiomCopy
import Derived.OrdersHeld
import Derived.Laws.BitsLemmas
import Derived.RowKit
import Derived.Test.YthfpgclhdefiiaaWWords
import Derived.Test.YthfpgclhdefiiaaWLast
import Derived.Test.YthfpgclhdefiiaaWRepsOne
import Derived.Test.YthfpgclhdefiiaaWGuard
import Derived.Test.YthfpgclhdefiiaaWTab
import Derived.Test.YthfpgclhdefiiaaWQPut
import Derived.Test.YthfpgclhdefiiaaWApart
import Derived.Test.YthfpgclhdefiiaaWArr
import Derived.Test.YthfpgclhdefiiaaWZeros
import Derived.Test.YthfpgclhdefiiaaWFoot
import Derived.Test.YthfpgclhdefiiaaWKept
import Derived.Test.YthfpgclhdefiiaaWShare
import Derived.Test.YthfpgclhdefiiaaWN
import Derived.Test.YthfpgclhdefiiaaWNEv
import Derived.Test.YthfpgclhdefiiaaWMore
namespace Go.Proofs.Ythfpgclhdefiiaa.PH
open Go.RowKit Go.Proofs.YthfpgclhdefiiaaW.PrintWords Go.Proofs.YthfpgclhdefiiaaW.PrintLast Go.Proofs.YthfpgclhdefiiaaW.PrintMore
attribute [local go_sem] max2_int min2_int max_two min_two max_three min_three max_four min_four   -- for this text's walks alone
set_option linter.unusedVariables false
set_option linter.unusedSimpArgs false



def errW : Option Int → Value
  | none => .nilIface
  | some c => .iface 0 (.int .i64 c)
theorem errW_none : errW none = .nilIface := rfl
theorem errW_some (c : Int) : errW (some c) = .iface 0 (.int .i64 c) := rfl

theorem info3 : (Try.prog.info? 3).map (fun i => (i.zero, i.size, i.bytes)) = some (some (.int .i64 0), 1, 8) := by kernel_rfl
-- the values' own types

end Go.Proofs.Ythfpgclhdefiiaa.PH
