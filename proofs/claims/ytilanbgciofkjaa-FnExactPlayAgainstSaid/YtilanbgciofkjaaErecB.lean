/- Records: what both programs take for one. -/
import Derived.Test.YtilanbgciofkjaaMb
import Derived.Test.YtilanbgciofkjaaPAx17
import Derived.Test.YtilanbgciofkjaaPAx0
import Derived.Test.YtilanbgciofkjaaPAx1
import Derived.Test.YtilanbgciofkjaaPAx2
import Derived.Test.YtilanbgciofkjaaPAx3
import Derived.Test.YtilanbgciofkjaaPAx7
import Derived.Test.YtilanbgciofkjaaPAx10
import Derived.Test.YtilanbgciofkjaaPAx9
namespace Go.Proofs.Ytilanbgciofkjaa.Pure
open Go.RowKit Go.Proofs.YtilanbgciofkjaaW.PrintWords Go.Proofs.YtilanbgciofkjaaW.PrintLast Go.Proofs.Ytilanbgciofkjaa.PA
set_option linter.unusedVariables false
set_option linter.unusedSimpArgs false
/-- a player can go from a to b, or stay -/
def stepP (n : Int) (l : List Int) (a b : Int) : Bool := decide (0 ≤ a ∧ a < n) && (decide (0 ≤ b ∧ b < n) && (decide (a = b) || (row l a.toNat).testBit b.toNat))
theorem step_spec {n : Int} {l : List Int} (g : GOk n l) (a b : Int) : spec_l07Step.f n l a b = some (stepP n l a b) := by
  have hn := g.len
  have h8 := g.len8
  unfold spec_l07Step.f stepP
  rw [vert_spec, Option.bind_some]
  by_cases ha : 0 ≤ a ∧ a < n
  · rw [decide_eq_true ha, if_pos rfl, vert_spec, Option.bind_some]
    by_cases hb : 0 ≤ b ∧ b < n
    · rw [decide_eq_true hb, if_pos rfl]
      by_cases e : a = b
      · rw [if_pos e, decide_eq_true e]; rfl
      · obtain ⟨v, rfl, hv⟩ : ∃ v : Nat, a = (v : Int) ∧ (v : Int) < n := ⟨a.toNat, by omega, by omega⟩
        obtain ⟨w, rfl, hw⟩ : ∃ w : Nat, b = (w : Int) ∧ (w : Int) < n := ⟨b.toNat, by omega, by omega⟩
        have h1 := g.row_lt8 v (by omega)
        rw [if_neg e, if_pos (by omega), if_pos (by omega), rd_nat, g.row_eq v (by omega), has_spec _ w (by omega) (by omega), Option.bind_some, decide_eq_false e, Int.toNat_natCast, Int.toNat_natCast]
        rfl
    · rw [decide_eq_false hb, if_neg (by simp)]; simp
  · rw [decide_eq_false ha, if_neg (by simp)]; simp
/-- the program's test of the turn i -/
def turnI (l P F : List Int) (i : Nat) : Bool := decide (P.getD i 0 ≠ F.getD i 0) && ((stayN l (P.getD i 0).toNat).testBit (P.getD (i + 1) 0).toNat && ((stayN l (F.getD i 0).toNat).testBit (F.getD (i + 1) 0).toNat && (decide (P.getD (i + 1) 0 ≠ F.getD i 0) || decide (F.getD (i + 1) 0 = F.getD i 0))))
structure ROk (n : Int) (l P F : List Int) : Prop where
  g : GOk n l
  one : 1 ≤ P.length
  most : P.length ≤ 60
  len : F.length = P.length
  p : ∀ i, i < P.length → 0 ≤ P.getD i 0 ∧ P.getD i 0 < n
  f : ∀ i, i < P.length → 0 ≤ F.getD i 0 ∧ F.getD i 0 < n
  turns : ∀ i, i + 1 < P.length → turnI l P F i = true
theorem step_stay {n : Int} {l : List Int} (a b : Int) (ha : 0 ≤ a ∧ a < n) (hb : 0 ≤ b ∧ b < n) : stepP n l a b = (stayN l a.toNat).testBit b.toNat := by
  unfold stepP stayN
  rw [decide_eq_true ha, decide_eq_true hb, Bool.true_and, Bool.true_and, Nat.testBit_or, two_bit, Bool.or_comm]
  congr 1
  rw [Bool.eq_iff_iff, decide_eq_true_eq, decide_eq_true_eq]; omega
theorem step_vs {n : Int} {l : List Int} {a b : Int} (h : stepP n l a b = true) : (0 ≤ a ∧ a < n) ∧ (0 ≤ b ∧ b < n) := by
  unfold stepP at h
  rw [Bool.and_eq_true, Bool.and_eq_true, decide_eq_true_eq, decide_eq_true_eq] at h
  exact ⟨h.1, h.2.1⟩
end Go.Proofs.Ytilanbgciofkjaa.Pure
