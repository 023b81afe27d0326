/- The plain law of IsPursuerWin. -/
import Derived.Test.YtilanbgciofkjaaVIsPursuerWin
import Derived.Test.YtilanbgciofkjaaEfar
import Derived.Test.YtilanbgciofkjaaPAx15
import Derived.Test.YtilanbgciofkjaaTstarts
namespace Go.Proofs.Ytilanbgciofkjaa.Pure
open Go.RowKit Go.Proofs.YtilanbgciofkjaaW.PrintWords Go.Proofs.YtilanbgciofkjaaW.PrintLast Go.Proofs.Ytilanbgciofkjaa.PA
set_option linter.unusedVariables false
set_option linter.unusedSimpArgs false
theorem IsPursuerWin_holds : IsPursuerWin := by
  intro n l _ _ _
  by_cases g : GOk n l
  · obtain ⟨n, rfl⟩ : ∃ m : Nat, n = (m : Int) := ⟨n.toNat, by have := g.lo; omega⟩
    refine both_ev (r := decide (((startsV l n).length : Int) > 0)) (Ev.bind (starts_spec_t g) (Ev.now _)) (Ev.bind (Ev.bind (graph_impl_t g) ?_) (Ev.now _))
    simp only [↓reduceIte, Int.toNat_natCast]; exact Ev.now _
  · refine both_ev (r := decide ((([] : List Int).length : Int) > 0)) (Ev.bind (starts_spec_f g) (Ev.now _)) (Ev.bind (Ev.bind (graph_impl_f g) ?_) (Ev.now _))
    simp only [↓reduceIte, Bool.false_eq_true]; exact Ev.now _
end Go.Proofs.Ytilanbgciofkjaa.Pure
