/- The plain law: both programs tell the greater of zero and one less than the pursuer's places. -/
import Derived.Test.YtjpaaihohkiomaaVTurnsOf
import Derived.Test.YtjpaaihohkiomaaWLast
namespace Go.Proofs.Ytjpaaihohkiomaa.Pure
open Go.RowKit Go.Proofs.YtjpaaihohkiomaaW.PrintWords Go.Proofs.YtjpaaihohkiomaaW.PrintLast
theorem TurnsOf_holds : TurnsOf := by
  intro p q _ _ _
  refine ⟨_, rfl, ?_⟩
  unfold Go.Proofs.Ytjpaaihohkiomaa.PA.impl_TurnsOf.f
  congr 1
  unfold mx
  omega
end Go.Proofs.Ytjpaaihohkiomaa.Pure
