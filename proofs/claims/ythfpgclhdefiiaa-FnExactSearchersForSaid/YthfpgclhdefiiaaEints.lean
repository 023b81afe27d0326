/- The numbers below n, as a list; and what is around a set: both programs tell it alike. -/
import Derived.Test.YthfpgclhdefiiaaD
namespace Go.Proofs.Ythfpgclhdefiiaa.Pure
open Go.RowKit Go.Proofs.YthfpgclhdefiiaaW.PrintWords Go.Proofs.YthfpgclhdefiiaaW.PrintLast Go.Proofs.Ythfpgclhdefiiaa.PA
set_option linter.unusedVariables false
set_option linter.unusedSimpArgs false
def ints (n : Nat) : List Int := (List.range n).map fun (i : Nat) => (i : Int)
theorem mem_ints (n : Nat) (x : Int) : x ∈ ints n ↔ 0 ≤ x ∧ x < (n : Int) := by
  unfold ints
  rw [List.mem_map]
  constructor
  · rintro ⟨i, hi, rfl⟩
    have := List.mem_range.1 hi
    omega
  · intro h
    exact ⟨x.toNat, List.mem_range.2 (by omega), by omega⟩
theorem ints_nodup (n : Nat) : (ints n).Nodup := by
  unfold ints
  rw [List.Nodup, List.pairwise_map]
  exact List.Pairwise.imp (fun h e => h (by omega)) (List.nodup_range (n := n))
theorem ints_len (n : Nat) : (ints n).length = n := by simp [ints]
theorem ints_at (n i : Nat) (h : i < n) : (ints n).getD i 0 = (i : Int) := by
  simp [ints, List.getD_eq_getElem?_getD, List.getElem?_range h]
end Go.Proofs.Ythfpgclhdefiiaa.Pure
