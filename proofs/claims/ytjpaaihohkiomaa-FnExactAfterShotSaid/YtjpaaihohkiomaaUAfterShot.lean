/- The plain law of AfterShot. -/
import Derived.Test.YtjpaaihohkiomaaVAfterShot
import Derived.Test.YtjpaaihohkiomaaEfox
namespace Go.Proofs.Ytjpaaihohkiomaa.Pure
open Go.RowKit Go.Proofs.YtjpaaihohkiomaaW.PrintWords Go.Proofs.YtjpaaihohkiomaaW.PrintLast Go.Proofs.Ytjpaaihohkiomaa.PA
theorem AfterShot_holds : AfterShot := by
  intro n l a b _ _ _ _ hl
  by_cases h : GOk n l ∧ 0 ≤ a ∧ a < 2 ^ l.length
  · obtain ⟨s, rfl, hs, _⟩ := set_nat h.1 a h.2.1 h.2.2
    have hn := h.1.len
    have hv : ∀ _ : Nat, impl_Graph_isVertex.f n l [b] = some (decide (0 ≤ b ∧ b < n)) := fun _ => by rw [vert_impl n l [b] h.1.lo h.1.hi]; simp [verts]
    by_cases hb : 0 ≤ b ∧ b < n
    · obtain ⟨v, rfl⟩ : ∃ v : Nat, b = (v : Int) := ⟨b.toNat, by omega⟩
      refine both_ev (r := (afterN l s v : Int)) (Ev.bind (set_spec_t h) ?_) (Ev.bind (set_impl_t h) ?_)
      · simp only [↓reduceIte, vert_spec, Option.bind_some, decide_eq_true hb]; exact Ev.bind (after_spec h.1 s v hs (by omega)) (Ev.now _)
      · simp only [↓reduceIte, hv 0, Option.bind_some, decide_eq_true hb]; exact Ev.bind (after_impl h.1 s v hs (by omega)) (Ev.now _)
    · refine both_ev (r := 0) (Ev.bind (set_spec_t h) ?_) (Ev.bind (set_impl_t h) ?_)
      · simp only [↓reduceIte, vert_spec, Option.bind_some, decide_eq_false hb, Bool.false_eq_true]; exact Ev.now _
      · simp only [↓reduceIte, hv 0, Option.bind_some, decide_eq_false hb, Bool.false_eq_true]; exact Ev.now _
  · refine both_ev (r := 0) (Ev.bind (set_spec_f h) ?_) (Ev.bind (set_impl_f h) ?_)
    · simp only [Bool.false_eq_true, ↓reduceIte]; exact Ev.now _
    · simp only [Bool.false_eq_true, ↓reduceIte]; exact Ev.now _
end Go.Proofs.Ytjpaaihohkiomaa.Pure
