/- The plain law of IsCaught. -/
import Derived.Test.YtjpaaihohkiomaaVIsCaught
import Derived.Test.YtjpaaihohkiomaaErec
import Derived.Test.YtjpaaihohkiomaaPAx10
import Derived.Test.YtjpaaihohkiomaaPAx9
namespace Go.Proofs.Ytjpaaihohkiomaa.Pure
open Go.RowKit Go.Proofs.YtjpaaihohkiomaaW.PrintWords Go.Proofs.YtjpaaihohkiomaaW.PrintLast Go.Proofs.Ytjpaaihohkiomaa.PA
set_option linter.unusedVariables false
set_option linter.unusedSimpArgs false
open Classical in
theorem IsCaught_holds : IsCaught := by
  intro n l P F _ _ _ _ hl
  have hs := rec_spec n l P F (by omega)
  have hi := rec_impl n l P F (by omega)
  by_cases h : ROk n l P F
  · rw [decide_eq_true h] at hs hi
    have h1 := h.one; have h2 := h.most; have h3 := h.len
    have e1 : wrap64 ((P.length : Int) - 1) = ((P.length - 1 : Nat) : Int) := by unfold wrap64; omega
    have e2 : wrap64 ((F.length : Int) - 1) = ((P.length - 1 : Nat) : Int) := by unfold wrap64; omega
    refine both_ev (r := P.getD (P.length - 1) 0 == F.getD (P.length - 1) 0) (Ev.bind hs ?_) (Ev.bind hi ?_)
    · simp only [↓reduceIte, e1, e2, rd_nat, show (0 : Int) ≤ ((P.length - 1 : Nat) : Int) from Int.natCast_nonneg _, show ((P.length - 1 : Nat) : Int) < (P.length : Int) from by omega, show ((P.length - 1 : Nat) : Int) < (F.length : Int) from by omega]
      exact Ev.now _
    · simp only [↓reduceIte, e1, e2, rd_nat, show (0 : Int) ≤ ((P.length - 1 : Nat) : Int) from Int.natCast_nonneg _, show ((P.length - 1 : Nat) : Int) < (P.length : Int) from by omega, show ((P.length - 1 : Nat) : Int) < (F.length : Int) from by omega]
      exact Ev.now _
  · rw [decide_eq_false h] at hs hi
    refine both_ev (r := false) (Ev.bind hs ?_) (Ev.bind hi ?_)
    · simp only [↓reduceIte, Bool.false_eq_true]; exact Ev.now _
    · simp only [↓reduceIte, Bool.false_eq_true]; exact Ev.now _
end Go.Proofs.Ytjpaaihohkiomaa.Pure
