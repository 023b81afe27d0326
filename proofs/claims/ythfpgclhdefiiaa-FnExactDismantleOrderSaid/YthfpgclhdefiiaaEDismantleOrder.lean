/- What both programs tell: DismantleOrder. -/
import Derived.Test.YthfpgclhdefiiaaEdism
import Derived.Test.YthfpgclhdefiiaaPAx20
import Derived.Test.YthfpgclhdefiiaaPAx24
namespace Go.Proofs.Ythfpgclhdefiiaa.Pure
open Go.RowKit Go.Proofs.YthfpgclhdefiiaaW.PrintWords Go.Proofs.YthfpgclhdefiiaaW.PrintLast Go.Proofs.Ythfpgclhdefiiaa.PA
set_option linter.unusedVariables false
set_option linter.unusedSimpArgs false
theorem DismantleOrderspec_t {n : Int} {l : List Int} (g : GOk n l) : Ev (fun k => spec_DismantleOrder.f k n l) ((dis l 256 (2 ^ l.length - 1)).1.map Prod.fst) := by
  refine Ev.bind (graph_spec_t g) ?_
  simp only [↓reduceIte]
  exact Ev.bind (dism_spec g) (Ev.now _)
theorem DismantleOrderspec_f {n : Int} {l : List Int} (g : ¬ GOk n l) : Ev (fun k => spec_DismantleOrder.f k n l) ([] : List Int) := by
  refine Ev.bind (graph_spec_f g) ?_
  simp only [↓reduceIte, Bool.false_eq_true]
  exact Ev.now _
theorem DismantleOrderimpl_t {n : Int} {l : List Int} (g : GOk n l) : Ev (fun k => impl_DismantleOrder.f k n l) ((dis l 256 (2 ^ l.length - 1)).1.map Prod.fst) := by
  refine Ev.bind (graph_impl_t g) ?_
  simp only [↓reduceIte]
  exact Ev.bind (dism_impl g) (Ev.now _)
theorem DismantleOrderimpl_f {n : Int} {l : List Int} (g : ¬ GOk n l) : Ev (fun k => impl_DismantleOrder.f k n l) ([] : List Int) := by
  refine Ev.bind (graph_impl_f g) ?_
  simp only [↓reduceIte, Bool.false_eq_true]
  exact Ev.now _
end Go.Proofs.Ythfpgclhdefiiaa.Pure
