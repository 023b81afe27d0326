/- The plain law of IsPathDecomposition. -/
import Derived.Test.YtjpaaihohkiomaaVIsPathDecomposition
import Derived.Test.YtjpaaihohkiomaaEpd
namespace Go.Proofs.Ytjpaaihohkiomaa.Pure
open Go.RowKit Go.Proofs.YtjpaaihohkiomaaW.PrintWords Go.Proofs.YtjpaaihohkiomaaW.PrintLast Go.Proofs.Ytjpaaihohkiomaa.PA
theorem IsPathDecomposition_holds : IsPathDecomposition := by
  intro n l L _ _ _ hl
  exact both_ev (pd_spec n l L (by omega)) (pd_impl n l L (by omega))
end Go.Proofs.Ytjpaaihohkiomaa.Pure
