/- The plain law of FrontOf. -/
import Derived.Test.YtjpaaihohkiomaaVFrontOf
import Derived.Test.YtjpaaihohkiomaaEfront
namespace Go.Proofs.Ytjpaaihohkiomaa.Pure
open Go.RowKit Go.Proofs.YtjpaaihohkiomaaW.PrintWords Go.Proofs.YtjpaaihohkiomaaW.PrintLast Go.Proofs.Ytjpaaihohkiomaa.PA
theorem FrontOf_holds : FrontOf := by
  intro n l a _ _ _ hl
  by_cases h : GOk n l ∧ 0 ≤ a ∧ a < 2 ^ l.length
  · obtain ⟨s, rfl, hs, _⟩ := set_nat h.1 a h.2.1 h.2.2
    refine both_ev (r := (frontN l s : Int)) (Ev.bind (set_spec_t h) ?_) (Ev.bind (set_impl_t h) ?_)
    · simp only [↓reduceIte]; exact Ev.bind (front_spec h.1 s hs) (Ev.now _)
    · simp only [↓reduceIte]; exact Ev.bind (front_impl h.1 s hs) (Ev.now _)
  · refine both_ev (r := 0) (Ev.bind (set_spec_f h) ?_) (Ev.bind (set_impl_f h) ?_)
    · simp only [Bool.false_eq_true, ↓reduceIte]; exact Ev.now _
    · simp only [Bool.false_eq_true, ↓reduceIte]; exact Ev.now _
end Go.Proofs.Ytjpaaihohkiomaa.Pure
