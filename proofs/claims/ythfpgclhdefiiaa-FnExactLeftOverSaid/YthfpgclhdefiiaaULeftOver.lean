/- The plain law of LeftOver. -/
import Derived.Test.YthfpgclhdefiiaaVLeftOver
import Derived.Test.YthfpgclhdefiiaaELeftOver
namespace Go.Proofs.Ythfpgclhdefiiaa.Pure
open Go.RowKit Go.Proofs.YthfpgclhdefiiaaW.PrintWords Go.Proofs.YthfpgclhdefiiaaW.PrintLast Go.Proofs.Ythfpgclhdefiiaa.PA
theorem LeftOver_holds : LeftOver := by
  intro n l _ _ _
  by_cases g : GOk n l
  · exact both_ev (LeftOverspec_t g) (LeftOverimpl_t g)
  · exact both_ev (LeftOverspec_f g) (LeftOverimpl_f g)
end Go.Proofs.Ythfpgclhdefiiaa.Pure
