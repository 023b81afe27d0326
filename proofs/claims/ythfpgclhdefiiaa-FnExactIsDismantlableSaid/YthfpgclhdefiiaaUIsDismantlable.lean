/- The plain law of IsDismantlable. -/
import Derived.Test.YthfpgclhdefiiaaVIsDismantlable
import Derived.Test.YthfpgclhdefiiaaEIsDismantlable
namespace Go.Proofs.Ythfpgclhdefiiaa.Pure
open Go.RowKit Go.Proofs.YthfpgclhdefiiaaW.PrintWords Go.Proofs.YthfpgclhdefiiaaW.PrintLast Go.Proofs.Ythfpgclhdefiiaa.PA
theorem IsDismantlable_holds : IsDismantlable := by
  intro n l _ _ _
  by_cases g : GOk n l
  · exact both_ev (IsDismantlablespec_t g) (IsDismantlableimpl_t g)
  · exact both_ev (IsDismantlablespec_f g) (IsDismantlableimpl_f g)
end Go.Proofs.Ythfpgclhdefiiaa.Pure
