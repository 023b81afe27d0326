/- The least number of shots: both programs tell it alike. -/
import Derived.Test.YthfpgclhdefiiaaEfewi
import Derived.Test.YthfpgclhdefiiaaPAx31
import Derived.Test.YthfpgclhdefiiaaPAx34
namespace Go.Proofs.Ythfpgclhdefiiaa.Pure
open Go.RowKit Go.Proofs.YthfpgclhdefiiaaW.PrintWords Go.Proofs.YthfpgclhdefiiaaW.PrintLast Go.Proofs.Ythfpgclhdefiiaa.PA
set_option linter.unusedVariables false
set_option linter.unusedSimpArgs false
theorem all_lt2 (n : Nat) : 2 ^ n - 1 < 2 ^ n := by have := Nat.one_le_two_pow (n := n); omega
theorem all_int2 (n : Nat) : ((2 ^ n : Nat) : Int) - 1 = ((2 ^ n - 1 : Nat) : Int) := by have := Nat.one_le_two_pow (n := n); omega
/-- the number that is told -/
def Told (l : List Int) (r : Int) : Prop := (r = -1 ∧ ∀ j, ¬ Dk l j (2 ^ l.length - 1)) ∨ ∃ j : Nat, Dk l j (2 ^ l.length - 1) ∧ r = (j : Int)
theorem Told.uniq {l : List Int} {r q : Int} (h1 : Told l r) (h2 : Told l q) : r = q := by
  rcases h1 with a | ⟨j, a1, a2⟩ <;> rcases h2 with b | ⟨k, b1, b2⟩
  · rw [a.1, b.1]
  · exact absurd b1 (a.2 k)
  · exact absurd a1 (b.2 j)
  · rw [a2, b2, D_uniq a1 b1]
theorem few_spec {n : Int} {l : List Int} (g : GOk n l) : Tells (fun f => spec_FewestShots.f f n l) (Told l) := by
  have hn := g.len
  have h8 := g.len8
  have p8 := pow8 _ g.len8
  have ha := all_lt2 l.length
  obtain ⟨T, h1, h2⟩ := table_spec g
  refine Tells.bind (graph_spec_t g) ?_
  simp only [↓reduceIte]
  refine Tells.bind h1 ?_
  have e : wrap64 (shl .i64 1 n - 1) = ((2 ^ l.length - 1 : Nat) : Int) := by rw [← hn, sShl _ (by omega), two_wrap _ (by omega), all_int2]
  have hlen := h2.1
  simp only [show (0 : Int) ≤ n from by omega, e, show (0 : Int) ≤ ((2 ^ l.length - 1 : Nat) : Int) from Int.natCast_nonneg _, show ((2 ^ l.length - 1 : Nat) : Int) < (T.length : Int) from by omega, ↓reduceIte, rd_nat]
  refine Tells.now ?_
  rcases h2.2 _ ha with q | ⟨j, q1, q2⟩
  · exact Or.inl q
  · exact Or.inr ⟨j, q1, q2⟩
theorem few_impl {n : Int} {l : List Int} (g : GOk n l) : Tells (fun f => impl_FewestShots.f f n l) (Told l) := by
  have hn := g.len
  have h8 := g.len8
  have p8 := pow8 _ g.len8
  have ha := all_lt2 l.length
  obtain ⟨T, h1, h2⟩ := table_impl g
  refine Tells.bind (graph_impl_t g) ?_
  simp only [↓reduceIte]
  refine Tells.bind h1 ?_
  have e : impl_Graph_all.f n l = some ((2 ^ l.length - 1 : Nat) : Int) := by rw [← hn, all_impl _ _ (by omega), all_int2]
  have hlen := h2.1
  simp only [e, Option.bind_some, show (0 : Int) ≤ ((2 ^ l.length - 1 : Nat) : Int) from Int.natCast_nonneg _, show ((2 ^ l.length - 1 : Nat) : Int) < (T.length : Int) from by omega, ↓reduceIte, rd_nat]
  unfold impl_told.f
  rcases h2.2 _ ha with q | ⟨j, q1, q2⟩
  · simp only [q.1, show (1000 : Int) ≥ 1000 from by decide, ↓reduceIte, Option.bind_some]
    exact Tells.now (Or.inl ⟨rfl, q.2⟩)
  · have := D_lt g ha q1
    simp only [q2, show ¬ ((j : Int) ≥ 1000) from by omega, ↓reduceIte, Option.bind_some]
    exact Tells.now (Or.inr ⟨j, q1, rfl⟩)
theorem few_both (n : Int) (l : List Int) : ∃ r : Int, Ev (fun f => spec_FewestShots.f f n l) r ∧ Ev (fun f => impl_FewestShots.f f n l) r ∧ ((¬ GOk n l ∧ r = -1) ∨ (GOk n l ∧ Told l r)) := by
  by_cases g : GOk n l
  · obtain ⟨r, h1, h2⟩ := few_spec g
    obtain ⟨q, h3, h4⟩ := few_impl g
    obtain rfl := h2.uniq h4
    exact ⟨r, h1, h3, Or.inr ⟨g, h2⟩⟩
  · refine ⟨-1, Ev.bind (graph_spec_f g) ?_, Ev.bind (graph_impl_f g) ?_, Or.inl ⟨g, rfl⟩⟩
    · simp only [↓reduceIte, Bool.false_eq_true]; exact Ev.now _
    · simp only [↓reduceIte, Bool.false_eq_true]; exact Ev.now _
end Go.Proofs.Ythfpgclhdefiiaa.Pure
