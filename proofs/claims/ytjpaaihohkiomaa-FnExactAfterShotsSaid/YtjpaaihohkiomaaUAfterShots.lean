/- The plain law of AfterShots. -/
import Derived.Test.YtjpaaihohkiomaaVAfterShots
import Derived.Test.YtjpaaihohkiomaaEshots
namespace Go.Proofs.Ytjpaaihohkiomaa.Pure
open Go.RowKit Go.Proofs.YtjpaaihohkiomaaW.PrintWords Go.Proofs.YtjpaaihohkiomaaW.PrintLast Go.Proofs.Ytjpaaihohkiomaa.PA
theorem AfterShots_holds : AfterShots := by
  intro n l L _ _ _ hl
  obtain ⟨r, h1, h2⟩ := shots_both n l L (by omega)
  exact both_ev h1 h2
end Go.Proofs.Ytjpaaihohkiomaa.Pure
