/- The plain law of LayoutOk. -/
import Derived.Test.YtjpaaihohkiomaaVLayoutOk
import Derived.Test.YtjpaaihohkiomaaElayout
namespace Go.Proofs.Ytjpaaihohkiomaa.Pure
open Go.RowKit Go.Proofs.YtjpaaihohkiomaaW.PrintWords Go.Proofs.YtjpaaihohkiomaaW.PrintLast Go.Proofs.Ytjpaaihohkiomaa.PA
theorem LayoutOk_holds : LayoutOk := by
  intro n l L _ _ _ hl
  exact both_ev (layout_spec n l L (by omega)) (layout_impl n l L (by omega))
end Go.Proofs.Ytjpaaihohkiomaa.Pure
