/- What both programs tell: LeftOver. -/
import Derived.Test.YthfpgclhdefiiaaEdism
import Derived.Test.YthfpgclhdefiiaaPAx24
import Derived.Test.YthfpgclhdefiiaaPAx25
namespace Go.Proofs.Ythfpgclhdefiiaa.Pure
open Go.RowKit Go.Proofs.YthfpgclhdefiiaaW.PrintWords Go.Proofs.YthfpgclhdefiiaaW.PrintLast Go.Proofs.Ythfpgclhdefiiaa.PA
set_option linter.unusedVariables false
set_option linter.unusedSimpArgs false
theorem LeftOverspec_t {n : Int} {l : List Int} (g : GOk n l) : Ev (fun k => spec_LeftOver.f k n l) (((dis l 256 (2 ^ l.length - 1)).2 : Int)) := by
  refine Ev.bind (graph_spec_t g) ?_
  simp only [↓reduceIte]
  exact Ev.bind (dism_spec g) (Ev.now _)
theorem LeftOverspec_f {n : Int} {l : List Int} (g : ¬ GOk n l) : Ev (fun k => spec_LeftOver.f k n l) (0 : Int) := by
  refine Ev.bind (graph_spec_f g) ?_
  simp only [↓reduceIte, Bool.false_eq_true]
  exact Ev.now _
theorem LeftOverimpl_t {n : Int} {l : List Int} (g : GOk n l) : Ev (fun k => impl_LeftOver.f k n l) (((dis l 256 (2 ^ l.length - 1)).2 : Int)) := by
  refine Ev.bind (graph_impl_t g) ?_
  simp only [↓reduceIte]
  exact Ev.bind (dism_impl g) (Ev.now _)
theorem LeftOverimpl_f {n : Int} {l : List Int} (g : ¬ GOk n l) : Ev (fun k => impl_LeftOver.f k n l) (0 : Int) := by
  refine Ev.bind (graph_impl_f g) ?_
  simp only [↓reduceIte, Bool.false_eq_true]
  exact Ev.now _
end Go.Proofs.Ythfpgclhdefiiaa.Pure
