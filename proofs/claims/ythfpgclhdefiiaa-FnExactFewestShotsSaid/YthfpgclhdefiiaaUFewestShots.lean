/- The plain law of FewestShots. -/
import Derived.Test.YthfpgclhdefiiaaVFewestShots
import Derived.Test.YthfpgclhdefiiaaEfewest
namespace Go.Proofs.Ythfpgclhdefiiaa.Pure
open Go.RowKit Go.Proofs.YthfpgclhdefiiaaW.PrintWords Go.Proofs.YthfpgclhdefiiaaW.PrintLast Go.Proofs.Ythfpgclhdefiiaa.PA
theorem FewestShots_holds : FewestShots := by
  intro n l _ _ _
  obtain ⟨r, h1, h2, _⟩ := few_both n l
  exact both_ev h1 h2
end Go.Proofs.Ythfpgclhdefiiaa.Pure
