/- The plain law of PlayBest. -/
import Derived.Test.YtilanbgciofkjaaPAx0
import Derived.Test.YtilanbgciofkjaaPAx1
import Derived.Test.YtilanbgciofkjaaPAx3
import Derived.Test.YtilanbgciofkjaaPAx4
import Derived.Test.YtilanbgciofkjaaPAx6
import Derived.Test.YtilanbgciofkjaaPAx22
import Derived.Test.YtilanbgciofkjaaTplayb
import GoSem.Claim
import Derived.Test.YtilanbgciofkjaaUBestPursuit
import Derived.Test.YtilanbgciofkjaaMt
import Derived.Test.YtilanbgciofkjaaMb
import Derived.Test.YtilanbgciofkjaaEstab
import Derived.Test.YtilanbgciofkjaaEplay
namespace Go.Proofs.Ytilanbgciofkjaa.Pure
open Go.RowKit Go.Proofs.YtilanbgciofkjaaW.PrintWords Go.Proofs.YtilanbgciofkjaaW.PrintLast Go.Proofs.Ytilanbgciofkjaa.PA
set_option linter.unusedVariables false
set_option linter.unusedSimpArgs false
theorem chase_spec {n : Nat} {l : List Int} (g : GOk (n : Int) l) (p f : Nat) (hp : p < n) (hf : f < n) : Ev (fun k => spec_l07Chase.f k (n : Int) l (p : Int) (f : Int)) (chaseV l p f : Int) := by
  refine Ev.bind (purs_spec_t g p f hp hf) ?_
  unfold chaseV
  by_cases h : pursV l p f < 0
  · simp only [h, ↓reduceIte]; exact Ev.now _
  · simp only [h, ↓reduceIte]
    rw [Int.toNat_of_nonneg (by omega)]
    exact Ev.now _
theorem played3_len (l : List Int) (n : Nat) (mv : Nat → Nat → Nat → Int) (turns p f : Nat) (ht : turns ≤ 59) : (played3 (playL l n mv turns 0 p f [(p : Int)] [(f : Int)])).1.length ≤ 1000000 ∧ (played3 (playL l n mv turns 0 p f [(p : Int)] [(f : Int)])).2.1.length ≤ 1000000 := by
  cases h : playL l n mv turns 0 p f [(p : Int)] [(f : Int)] with
  | none => simp [played3]
  | some x =>
    obtain ⟨P, F⟩ := x
    have := playL_len l n mv turns 0 p f _ _ _ _ h
    simp only [List.length_cons, List.length_nil] at this
    simp only [played3]
    omega
theorem both3 {s i : Nat → Option (List Int × List Int × Bool)} {r : List Int × List Int × Bool} (h1 : Ev s r) (h2 : Ev i r) (hl : r.1.length ≤ 1000000 ∧ r.2.1.length ≤ 1000000) : ∃ (ks ki : Nat) (r1 : List Int) (r2 : List Int) (r3 : Bool), s ks = some (r1, r2, r3) ∧ i ki = some (r1, r2, r3) ∧ r1.length ≤ 1000000 ∧ r2.length ≤ 1000000 := by
  obtain ⟨ks, hs⟩ := h1.rounds
  obtain ⟨ki, hi⟩ := h2.rounds
  obtain ⟨r1, r2, r3⟩ := r
  exact ⟨ks, ki, r1, r2, r3, hs, hi, hl.1, hl.2⟩
end Go.Proofs.Ytilanbgciofkjaa.Pure
