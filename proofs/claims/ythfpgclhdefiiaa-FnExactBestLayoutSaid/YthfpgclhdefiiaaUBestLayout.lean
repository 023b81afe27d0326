/- The plain law of BestLayout. -/
import Derived.Test.YthfpgclhdefiiaaVBestLayout
import Derived.Test.YthfpgclhdefiiaaEbest
import Derived.Test.YthfpgclhdefiiaaPAx16
import Derived.Test.YthfpgclhdefiiaaPAx17
namespace Go.Proofs.Ythfpgclhdefiiaa.Pure
open Go.RowKit Go.Proofs.YthfpgclhdefiiaaW.PrintWords Go.Proofs.YthfpgclhdefiiaaW.PrintLast Go.Proofs.Ythfpgclhdefiiaa.PA
theorem BestLayout_holds : BestLayout := by
  intro n l _ _ _
  by_cases g : GOk n l
  · obtain ⟨T, r, hT, hr, h1, h2, h3⟩ := best_all g
    obtain ⟨ks, e1⟩ : Ev (fun k => spec_BestLayout.f k n l) (r, true) := by
      refine Ev.bind (graph_spec_t g) ?_
      simp only [↓reduceIte]
      exact Ev.bind h1 h2
    obtain ⟨ki, e2⟩ : Ev (fun k => impl_BestLayout.f k n l) (r, true) := by
      refine Ev.bind (graph_impl_t g) ?_
      simp only [↓reduceIte]
      exact Ev.bind h3 (Ev.now _)
    exact ⟨ks, ki, _, _, e1 ks (Nat.le_refl _), e2 ki (Nat.le_refl _), by omega⟩
  · obtain ⟨ks, e1⟩ : Ev (fun k => spec_BestLayout.f k n l) (([] : List Int), false) := by
      refine Ev.bind (graph_spec_f g) ?_
      simp only [↓reduceIte, Bool.false_eq_true]; exact Ev.now _
    obtain ⟨ki, e2⟩ : Ev (fun k => impl_BestLayout.f k n l) (([] : List Int), false) := by
      refine Ev.bind (graph_impl_f g) ?_
      simp only [↓reduceIte, Bool.false_eq_true]; exact Ev.now _
    exact ⟨ks, ki, _, _, e1 ks (Nat.le_refl _), e2 ki (Nat.le_refl _), by simp⟩
end Go.Proofs.Ythfpgclhdefiiaa.Pure
