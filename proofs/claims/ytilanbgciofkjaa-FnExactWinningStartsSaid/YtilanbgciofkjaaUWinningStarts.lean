/- The plain law of WinningStarts. -/
import Derived.Test.YtilanbgciofkjaaVWinningStarts
import Derived.Test.YtilanbgciofkjaaEfar
import Derived.Test.YtilanbgciofkjaaPAx15
import Derived.Test.YtilanbgciofkjaaTstarts
namespace Go.Proofs.Ytilanbgciofkjaa.Pure
open Go.RowKit Go.Proofs.YtilanbgciofkjaaW.PrintWords Go.Proofs.YtilanbgciofkjaaW.PrintLast Go.Proofs.Ytilanbgciofkjaa.PA
set_option linter.unusedVariables false
set_option linter.unusedSimpArgs false
theorem both_len {f g : Nat → Option (List Int)} {r : List Int} (h1 : Ev f r) (h2 : Ev g r) (h3 : r.length ≤ 1000000) : ∃ (ks ki : Nat) (r : List Int), f ks = some r ∧ g ki = some r ∧ r.length ≤ 1000000 := by
  obtain ⟨k1, h1⟩ := h1.rounds
  obtain ⟨k2, h2⟩ := h2.rounds
  exact ⟨k1, k2, r, h1, h2, h3⟩
theorem WinningStarts_holds : WinningStarts := by
  intro n l _ _ _
  by_cases g : GOk n l
  · obtain ⟨n, rfl⟩ : ∃ m : Nat, n = (m : Int) := ⟨n.toNat, by have := g.lo; omega⟩
    refine both_len (starts_spec_t g) (Ev.bind (graph_impl_t g) ?_) (by have := numsOf_len (winsFrom l n) n; have := g.len8; have := nlen g; unfold startsV; omega)
    simp only [↓reduceIte, Int.toNat_natCast]; exact Ev.now _
  · refine both_len (starts_spec_f g) (Ev.bind (graph_impl_f g) ?_) (by simp)
    simp only [↓reduceIte, Bool.false_eq_true]; exact Ev.now _
end Go.Proofs.Ytilanbgciofkjaa.Pure
