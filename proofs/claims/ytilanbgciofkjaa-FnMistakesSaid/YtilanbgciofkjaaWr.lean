/- Opening the statements' arguments: a struct with a slice, a struct with two slices, a slice, as the walks take them. -/
import Derived.Test.YtilanbgciofkjaaWa
import Derived.SizedLaws
import Derived.ChangeSlices
import Derived.Test.YtilanbgciofkjaaChecked
import Derived.Lib.SmallJoins
import Derived.WalkKit
import Derived.ProofKit
import Derived.OpenShut
import Derived.Below
namespace Go.Proofs.Ytilanbgciofkjaa.Wr
open Go.ChangeShapes Go.WideShapes Go.ChangeAt Go.RowKit Go.Joins Go.Proofs.YtilanbgciofkjaaW.PrintWords
set_option linter.unusedVariables false
set_option linter.unusedSimpArgs false

theorem ownK : ownKnob Try.prog.godebug = none := by kernel_rfl
theorem laidOut : laidOutB Try.prog = true := by kernel_rfl
end Go.Proofs.Ytilanbgciofkjaa.Wr
