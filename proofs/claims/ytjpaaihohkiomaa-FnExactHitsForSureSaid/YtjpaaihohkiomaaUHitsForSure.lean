/- The plain law of HitsForSure. -/
import Derived.Test.YtjpaaihohkiomaaVHitsForSure
import Derived.Test.YtjpaaihohkiomaaEshots
import Derived.Test.YtjpaaihohkiomaaPAx35
namespace Go.Proofs.Ytjpaaihohkiomaa.Pure
open Go.RowKit Go.Proofs.YtjpaaihohkiomaaW.PrintWords Go.Proofs.YtjpaaihohkiomaaW.PrintLast Go.Proofs.Ytjpaaihohkiomaa.PA
theorem HitsForSure_holds : HitsForSure := by
  intro n l L _ _ _ hl
  obtain ⟨r, h1, h2⟩ := shots_both n l L (by omega)
  exact both_ev (r := (r == 0)) (Ev.bind h1 (Ev.now _)) (Ev.bind h2 (Ev.now _))
end Go.Proofs.Ytjpaaihohkiomaa.Pure
