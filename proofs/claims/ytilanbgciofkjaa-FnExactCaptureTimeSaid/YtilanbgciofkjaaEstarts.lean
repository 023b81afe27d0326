/- From where the pursuer wins, and how long it takes at the best. No program here. -/
import Derived.Test.YtilanbgciofkjaaMb
namespace Go.Proofs.Ytilanbgciofkjaa.Pure
open Go.RowKit Go.Proofs.YtilanbgciofkjaaW.PrintWords Go.Proofs.YtilanbgciofkjaaW.PrintLast Go.Proofs.Ytilanbgciofkjaa.PA
set_option linter.unusedVariables false
set_option linter.unusedSimpArgs false
/-- the vertices below k for which P holds -/
def numsOf (P : Nat → Bool) (k : Nat) : List Int := ((List.range k).filter P).map fun (p : Nat) => (p : Int)
theorem numsOf_succ (P : Nat → Bool) (k : Nat) : numsOf P (k + 1) = if P k = true then numsOf P k ++ [(k : Int)] else numsOf P k := by
  unfold numsOf
  rw [List.range_succ, List.filter_append, List.map_append]
  cases h : P k <;> simp [h]
theorem numsOf_len (P : Nat → Bool) (k : Nat) : (numsOf P k).length ≤ k := by
  unfold numsOf
  rw [List.length_map]
  exact Nat.le_trans (List.length_filter_le _ _) (by simp)
theorem numsOf_congr {P Q : Nat → Bool} {k : Nat} (h : ∀ j, j < k → P j = Q j) : numsOf P k = numsOf Q k := by
  unfold numsOf
  congr 1
  exact List.filter_congr (fun j hj => h j (List.mem_range.1 hj))
theorem numsOf_mem (P : Nat → Bool) (k : Nat) (x : Int) : x ∈ numsOf P k ↔ ∃ j : Nat, j < k ∧ P j = true ∧ x = (j : Int) := by
  unfold numsOf
  rw [List.mem_map]
  constructor
  · rintro ⟨j, hj, rfl⟩
    rw [List.mem_filter, List.mem_range] at hj
    exact ⟨j, hj.1, hj.2, rfl⟩
  · rintro ⟨j, h1, h2, rfl⟩
    exact ⟨j, by rw [List.mem_filter, List.mem_range]; exact ⟨h1, h2⟩, rfl⟩
/-- from p the pursuer catches the fugitive wherever it is -/
def winsFrom (l : List Int) (n p : Nat) : Bool := (List.range n).all fun f => decide (dist l p f ≠ -1)
def startsV (l : List Int) (n : Nat) : List Int := numsOf (winsFrom l n) n
/-- within k moves, from the best vertex -/
def winAll (l : List Int) (n k : Nat) : Bool := (List.range n).any fun p => (List.range n).all fun f => win l k p f
def captV (l : List Int) (n : Nat) : Int := leastK (winAll l n)
theorem worst_wins {n : Nat} {l : List Int} (g : GOk (n : Int) l) {C E : List Int} (h : TabFin n l C E) (p : Nat) (hp : p < n) : decide ((worstC C n).getD p 0 < 1000) = winsFrom l n p := by
  have h8 := g.len8
  have e := nlen g
  unfold winsFrom
  rw [Bool.eq_iff_iff, decide_eq_true_eq, List.all_eq_true, show ((worstC C n).getD p 0 < 1000 ↔ (worstC C n).getD p 0 ≤ 999) from by omega, worst_le C n p hp]
  constructor
  · intro h1 f hf
    have hfn := List.mem_range.1 hf
    rw [decide_eq_true_eq]
    rcases win_dist g h p f hp hfn with ⟨h2, h3⟩ | ⟨v, hv, h2, h3, _⟩
    · have := h1 f hfn; omega
    · omega
  · intro h1 f hf
    have := h1 f (List.mem_range.2 hf)
    rw [decide_eq_true_eq] at this
    rcases win_dist g h p f hp hf with ⟨h2, h3⟩ | ⟨v, hv, h2, h3, _⟩ <;> omega
theorem min_capt {n : Nat} {l : List Int} (g : GOk (n : Int) l) {C E : List Int} (h : TabFin n l C E) : impl_told.f (minV (worstC C n)) = some (captV l n) := by
  have h8 := g.len8
  have h1 := g.len1
  have e := nlen g
  have hle : ∀ b : Int, minV (worstC C n) ≤ b ↔ ∃ p, p < n ∧ ∀ f, f < n → C.getD (8 * p + f) 0 ≤ b := fun b => by
    rw [minV_le _ (by rw [worstC_len]; omega), worstC_len]
    constructor
    · rintro ⟨p, hp, h2⟩; exact ⟨p, hp, (worst_le C n p hp b).1 h2⟩
    · rintro ⟨p, hp, h2⟩; exact ⟨p, hp, (worst_le C n p hp b).2 h2⟩
  have h0 : 0 ≤ minV (worstC C n) := by
    apply Int.not_lt.1
    intro hlt
    obtain ⟨p, hp, h2⟩ := (hle (-1)).1 (by omega)
    have := h2 0 (by omega)
    have := h.inC.2 (8 * p + 0) (by omega)
    omega
  have h2 : minV (worstC C n) ≤ 1000 := (hle 1000).2 ⟨0, by omega, fun f hf => (h.inC.2 _ (by omega)).2⟩
  unfold impl_told.f captV
  rw [← told_of h0 h2 (P := winAll l n) (fun k hk => by
    rw [hle]
    unfold winAll
    rw [List.any_eq_true]
    constructor
    · rintro ⟨p, hp, h3⟩
      exact ⟨p, List.mem_range.2 hp, List.all_eq_true.2 (fun f hf => (h.ch p f hp (List.mem_range.1 hf) k hk).1 (h3 f (List.mem_range.1 hf)))⟩
    · rintro ⟨p, hp, h3⟩
      exact ⟨p, List.mem_range.1 hp, fun f hf => (h.ch p f (List.mem_range.1 hp) hf k hk).2 (List.all_eq_true.1 h3 f (List.mem_range.2 hf))⟩)]
  split <;> rfl
end Go.Proofs.Ytilanbgciofkjaa.Pure
