/- The plain law of GuardsOf. -/
import Derived.Test.YtjpaaihohkiomaaVGuardsOf
import Derived.Test.YtjpaaihohkiomaaEteam
namespace Go.Proofs.Ytjpaaihohkiomaa.Pure
open Go.RowKit Go.Proofs.YtjpaaihohkiomaaW.PrintWords Go.Proofs.YtjpaaihohkiomaaW.PrintLast Go.Proofs.Ytjpaaihohkiomaa.PA
theorem GuardsOf_holds : GuardsOf := by
  intro n l L _ _ _ hl
  by_cases h : TOk n l L
  · have h8 := h.g.len8
    have hm : ∀ x ∈ L, 0 ≤ x ∧ x < 62 := fun x hx => by have := h.small x hx; omega
    refine both_ev (r := (nearN l (setN L) : Int)) (Ev.bind (team_spec_t h) ?_) (Ev.bind (team_impl_t h) ?_)
    · simp only [↓reduceIte]; exact Ev.bind (setof_spec L (by omega) hm) (Ev.bind (near_spec h.g _ h.set_lt) (Ev.now _))
    · simp only [↓reduceIte]; exact Ev.bind (setof_impl L (by omega) hm) (Ev.bind (near_impl h.g _ h.set_lt) (Ev.now _))
  · refine both_ev (r := 0) (Ev.bind (team_spec_f (by omega) h) ?_) (Ev.bind (team_impl_f (by omega) h) ?_)
    · simp only [↓reduceIte, Bool.false_eq_true]; exact Ev.now _
    · simp only [↓reduceIte, Bool.false_eq_true]; exact Ev.now _
end Go.Proofs.Ytjpaaihohkiomaa.Pure
