/- The plain law of FewestSearchers. -/
import Derived.Test.YthfpgclhdefiiaaVFewestSearchers
import Derived.Test.YthfpgclhdefiiaaEbest
import Derived.Test.YthfpgclhdefiiaaPAx11
import Derived.Test.YthfpgclhdefiiaaPAx15
namespace Go.Proofs.Ythfpgclhdefiiaa.Pure
open Go.RowKit Go.Proofs.YthfpgclhdefiiaaW.PrintWords Go.Proofs.YthfpgclhdefiiaaW.PrintLast Go.Proofs.Ythfpgclhdefiiaa.PA
theorem FewestSearchers_holds : FewestSearchers := by
  intro n l _ _ _
  by_cases g : GOk n l
  · obtain ⟨T, r, hT, hr, h1, h2, h3⟩ := best_all g
    have hp := Nat.two_pow_pos l.length
    have e0 : rd T 0 = T.getD 0 0 := rfl
    refine both_ev (r := T.getD 0 0) (Ev.bind (graph_spec_t g) ?_) (Ev.bind (graph_impl_t g) ?_)
    · simp only [↓reduceIte]
      refine Ev.bind h1 ?_
      simp only [show (0 : Int) < (T.length : Int) from by omega, ↓reduceIte, e0]
      exact Ev.now _
    · simp only [↓reduceIte]
      exact Ev.bind h3 (Ev.now _)
  · refine both_ev (r := -1) (Ev.bind (graph_spec_f g) ?_) (Ev.bind (graph_impl_f g) ?_)
    · simp only [↓reduceIte, Bool.false_eq_true]; exact Ev.now _
    · simp only [↓reduceIte, Bool.false_eq_true]; exact Ev.now _
end Go.Proofs.Ythfpgclhdefiiaa.Pure
