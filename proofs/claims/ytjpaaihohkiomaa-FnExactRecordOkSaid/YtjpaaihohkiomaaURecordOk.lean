/- The plain law of RecordOk. -/
import Derived.Test.YtjpaaihohkiomaaVRecordOk
import Derived.Test.YtjpaaihohkiomaaErec
namespace Go.Proofs.Ytjpaaihohkiomaa.Pure
open Go.RowKit Go.Proofs.YtjpaaihohkiomaaW.PrintWords Go.Proofs.YtjpaaihohkiomaaW.PrintLast Go.Proofs.Ytjpaaihohkiomaa.PA
theorem RecordOk_holds : RecordOk := by
  intro n l P F _ _ _ _ hl
  exact both_ev (rec_spec n l P F (by omega)) (rec_impl n l P F (by omega))
end Go.Proofs.Ytjpaaihohkiomaa.Pure
