/- Games that are played: what both programs make of them. No program here. -/
import Derived.Test.YtilanbgciofkjaaMb
namespace Go.Proofs.Ytilanbgciofkjaa.Pure
open Go.RowKit Go.Proofs.YtilanbgciofkjaaW.PrintWords Go.Proofs.YtilanbgciofkjaaW.PrintLast Go.Proofs.Ytilanbgciofkjaa.PA
set_option linter.unusedVariables false
set_option linter.unusedSimpArgs false
/-- where the pursuer goes: it stays if it cannot catch -/
def chaseV (l : List Int) (p f : Nat) : Nat := if pursV l p f < 0 then p else (pursV l p f).toNat
/-- a game of at most d further turns, the next being turn j -/
def playL (l : List Int) (n : Nat) (mv : Nat → Nat → Nat → Int) : Nat → Nat → Nat → Nat → List Int → List Int → Option (List Int × List Int)
  | 0, _, _, _, P, F => some (P, F)
  | d + 1, j, p, f, P, F =>
    if p = f then some (P, F)
    else if chaseV l p f = f then playL l n mv d (j + 1) (chaseV l p f) f (P ++ [(chaseV l p f : Int)]) (F ++ [(f : Int)])
    else if 0 ≤ mv j (chaseV l p f) f ∧ mv j (chaseV l p f) f < (n : Int) ∧ (stayN l f).testBit (mv j (chaseV l p f) f).toNat = true then playL l n mv d (j + 1) (chaseV l p f) (mv j (chaseV l p f) f).toNat (P ++ [(chaseV l p f : Int)]) (F ++ [mv j (chaseV l p f) f])
    else none
/-- the three results -/
def played3 (x : Option (List Int × List Int)) : List Int × List Int × Bool := match x with | some (P, F) => (P, F, true) | none => ([], [], false)
theorem playL_len (l : List Int) (n : Nat) (mv : Nat → Nat → Nat → Int) : ∀ (d j p f : Nat) (P F P' F' : List Int), playL l n mv d j p f P F = some (P', F') → P'.length ≤ P.length + d ∧ F'.length ≤ F.length + d
  | 0, _, _, _, P, F, P', F', h => by
    unfold playL at h
    cases h
    exact ⟨Nat.le_refl _, Nat.le_refl _⟩
  | d + 1, j, p, f, P, F, P', F', h => by
    unfold playL at h
    split at h
    · cases h; omega
    · split at h
      · have := playL_len l n mv d _ _ _ _ _ _ _ h
        simp only [List.length_append, List.length_cons, List.length_nil] at this
        omega
      · split at h
        · have := playL_len l n mv d _ _ _ _ _ _ _ h
          simp only [List.length_append, List.length_cons, List.length_nil] at this
          omega
        · cases h
theorem pursV_vert {n : Nat} {l : List Int} (g : GOk (n : Int) l) (p f : Nat) (hp : p < n) : pursV l p f = -1 ∨ ∃ q : Nat, pursV l p f = (q : Int) ∧ q < n := by
  have e := nlen g
  unfold pursV
  split
  · exact .inr ⟨p, rfl, hp⟩
  · split
    · exact .inl rfl
    · cases h : (stayL l p).find? fun x => decide (edist l x.toNat f = dist l p f - 1) with
      | none => exact .inl rfl
      | some x =>
        have := List.mem_of_find?_eq_some h
        obtain ⟨u, rfl, hu, _⟩ := stayL_mem g p (by omega) x this
        exact .inr ⟨u, rfl, by omega⟩
theorem chase_lt {n : Nat} {l : List Int} (g : GOk (n : Int) l) (p f : Nat) (hp : p < n) : chaseV l p f < n := by
  unfold chaseV
  rcases pursV_vert g p f hp with h | ⟨q, h, hq⟩
  · rw [h]; simp; exact hp
  · rw [h, if_neg (by omega)]; simpa using hq
end Go.Proofs.Ytilanbgciofkjaa.Pure
