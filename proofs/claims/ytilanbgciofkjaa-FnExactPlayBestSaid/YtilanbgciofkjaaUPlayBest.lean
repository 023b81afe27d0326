/- The plain law of PlayBest. -/
import Derived.Test.YtilanbgciofkjaaVPlayBest
import Derived.Test.YtilanbgciofkjaaUBestPursuit
import Derived.Test.YtilanbgciofkjaaUBestEscape
import Derived.Test.YtilanbgciofkjaaEplay
import Derived.Test.YtilanbgciofkjaaPAx22
import Derived.Test.YtilanbgciofkjaaPAx25
import Derived.Test.YtilanbgciofkjaaTplayb
namespace Go.Proofs.Ytilanbgciofkjaa.Pure
open Go.RowKit Go.Proofs.YtilanbgciofkjaaW.PrintWords Go.Proofs.YtilanbgciofkjaaW.PrintLast Go.Proofs.Ytilanbgciofkjaa.PA
set_option linter.unusedVariables false
set_option linter.unusedSimpArgs false
theorem fS_in (l : List Int) (p : Nat) : ∀ (L : List Int) (b : Int), L.foldl (flightS l p) b = b ∨ L.foldl (flightS l p) b ∈ L
  | [], b => .inl rfl
  | x :: L, b => by
    rw [List.foldl_cons]
    have hb : flightS l p b x = x ∨ flightS l p b x = b := by unfold flightS; split; exact .inl rfl; exact .inr rfl
    rcases fS_in l p L (flightS l p b x) with h | h
    · rw [h]
      rcases hb with h1 | h1
      · rw [h1]; exact .inr List.mem_cons_self
      · exact .inl h1
    · exact .inr (List.mem_cons_of_mem _ h)
theorem flight_ok {n : Nat} {l : List Int} (g : GOk (n : Int) l) (p f : Nat) (hf : f < n) (hne : p ≠ f) : ∃ u : Nat, flightV l p f = (u : Int) ∧ u < n ∧ (stayN l f).testBit u = true := by
  have e := nlen g
  have hm : flightV l p f ∈ stayL l f := by
    unfold flightV
    rw [if_neg hne]
    have ho := own_stayL g f (by omega)
    cases hs : stayL l f with
    | nil => rw [hs] at ho; cases ho
    | cons x L =>
      rw [List.foldl_cons, show flightS l p (-1) x = x from by unfold flightS; exact if_pos (.inl (by decide))]
      rcases fS_in l p L x with h | h
      · rw [h]; exact List.mem_cons_self
      · exact List.mem_cons_of_mem _ h
  obtain ⟨u, h1, h2, h3⟩ := stayL_mem g f (by omega) _ hm
  exact ⟨u, h1, by omega, h3⟩
theorem chase_spec {n : Nat} {l : List Int} (g : GOk (n : Int) l) (p f : Nat) (hp : p < n) (hf : f < n) : Ev (fun k => spec_l07Chase.f k (n : Int) l (p : Int) (f : Int)) (chaseV l p f : Int) := by
  refine Ev.bind (purs_spec_t g p f hp hf) ?_
  unfold chaseV
  by_cases h : pursV l p f < 0
  · simp only [h, ↓reduceIte]; exact Ev.now _
  · simp only [h, ↓reduceIte]
    rw [Int.toNat_of_nonneg (by omega)]
    exact Ev.now _
theorem pb_l0 {n : Nat} {l : List Int} (g : GOk (n : Int) l) (turns : Nat) (ht : turns ≤ 59) : ∀ (d j p f : Nat) (P F : List Int), j + d = turns → p < n → f < n → P.length ≤ j + 1 → F.length ≤ j + 1 → Ev (fun k => spec_PlayBest.l0 k (p : Int) (f : Int) (turns : Int) (j : Int) (n : Int) l P F) (played3 (playL l n (fun _ p f => flightV l p f) d j p f P F))
  | 0, j, p, f, P, F, hj, hp, hf, hP, hF => by
    unfold playL
    refine Ev.step (fun k => ?_) (Ev.step (g := fun k => spec_PlayBest.j2 k (p : Int) (f : Int) (turns : Int) (j : Int) false (n : Int) l P F) (fun k => ?_) (Ev.now _))
    · rw [spec_PlayBest.l0.eq_2, if_neg (by omega)]
    · rw [spec_PlayBest.j2.eq_2, if_neg (by decide)]; rfl
  | d + 1, j, p, f, P, F, hj, hp, hf, hP, hF => by
    by_cases e : p = f
    · unfold playL
      rw [if_pos e]
      refine Ev.step (fun k => ?_) (Ev.step (g := fun k => spec_PlayBest.j2 k (p : Int) (f : Int) (turns : Int) (j : Int) false (n : Int) l P F) (fun k => ?_) (Ev.now _))
      · rw [spec_PlayBest.l0.eq_2, if_pos (by omega), show ((p : Int) != (f : Int)) = false from by rw [bne_eq_false_iff_eq]; omega]
      · rw [spec_PlayBest.j2.eq_2, if_neg (by decide)]; rfl
    · have hc := chase_lt g p f hp
      have hlen : (P ++ [(chaseV l p f : Int)]).length ≤ j + 1 + 1 := by rw [List.length_append]; simp; omega
      have step : ∀ u : Nat, u < n → flightV l (chaseV l p f) f = (u : Int) → Ev (fun k => spec_PlayBest.l0 k (p : Int) (f : Int) (turns : Int) (j : Int) (n : Int) l P F) (played3 (playL l n (fun _ p f => flightV l p f) d (j + 1) (chaseV l p f) u (P ++ [(chaseV l p f : Int)]) (F ++ [(u : Int)]))) := fun u hu hv => by
        refine Ev.step (fun k => ?_) (Ev.step (g := fun k => spec_PlayBest.j2 k (p : Int) (f : Int) (turns : Int) (j : Int) true (n : Int) l P F) (f := fun k => (spec_l07Chase.f k (n : Int) l (p : Int) (f : Int)).bind fun t => (spec_BestEscape.f k (n : Int) l t (f : Int)).bind fun t2 => if P.length < 17592186044416 then (if F.length < 17592186044416 then spec_PlayBest.l0 k t t2 (turns : Int) (wrap64 ((j : Int) + 1)) (n : Int) l (P ++ [t]) (F ++ [t2]) else none) else none) (fun k => ?_) ?_)
        · rw [spec_PlayBest.l0.eq_2, if_pos (by omega), show ((p : Int) != (f : Int)) = true from by rw [bne_iff_ne]; omega]
        · rw [spec_PlayBest.j2.eq_2, if_pos rfl]
        · refine Ev.bind (chase_spec g p f hp hf) (Ev.bind (flight_spec_t g (chaseV l p f) f hc hf) ?_)
          rw [hv]
          have h1 : P.length < 17592186044416 := by omega
          have h2 : F.length < 17592186044416 := by omega
          have hw : wrap64 ((j : Int) + 1) = ((j + 1 : Nat) : Int) := by unfold wrap64; omega
          simp only [h1, h2, ↓reduceIte, hw]
          exact pb_l0 g turns ht d (j + 1) (chaseV l p f) u _ _ (by omega) hc hu hlen (by rw [List.length_append]; simp; omega)
      unfold playL
      rw [if_neg e]
      by_cases c : chaseV l p f = f
      · rw [if_pos c]
        exact step f hf (by unfold flightV; rw [if_pos c])
      · rw [if_neg c]
        obtain ⟨u, h1, h2, h3⟩ := flight_ok g (chaseV l p f) f hf c
        rw [if_pos ⟨by omega, by omega, by rw [h1, Int.toNat_natCast]; exact h3⟩, h1, Int.toNat_natCast]
        exact step u h2 h1
theorem played3_len (l : List Int) (n : Nat) (mv : Nat → Nat → Nat → Int) (turns p f : Nat) (ht : turns ≤ 59) : (played3 (playL l n mv turns 0 p f [(p : Int)] [(f : Int)])).1.length ≤ 1000000 ∧ (played3 (playL l n mv turns 0 p f [(p : Int)] [(f : Int)])).2.1.length ≤ 1000000 := by
  cases h : playL l n mv turns 0 p f [(p : Int)] [(f : Int)] with
  | none => simp [played3]
  | some x =>
    obtain ⟨P, F⟩ := x
    have := playL_len l n mv turns 0 p f _ _ _ _ h
    simp only [List.length_cons, List.length_nil] at this
    simp only [played3]
    omega
theorem both3 {s i : Nat → Option (List Int × List Int × Bool)} {r : List Int × List Int × Bool} (h1 : Ev s r) (h2 : Ev i r) (hl : r.1.length ≤ 1000000 ∧ r.2.1.length ≤ 1000000) : ∃ (ks ki : Nat) (r1 : List Int) (r2 : List Int) (r3 : Bool), s ks = some (r1, r2, r3) ∧ i ki = some (r1, r2, r3) ∧ r1.length ≤ 1000000 ∧ r2.length ≤ 1000000 := by
  obtain ⟨ks, hs⟩ := h1.rounds
  obtain ⟨ki, hi⟩ := h2.rounds
  obtain ⟨r1, r2, r3⟩ := r
  exact ⟨ks, ki, r1, r2, r3, hs, hi, hl.1, hl.2⟩
theorem PlayBest_holds : PlayBest := by
  intro n l p f turns _ _ _ _ _ _
  by_cases h : Ok2 n l p f
  · by_cases h2 : 0 ≤ turns ∧ turns ≤ 59
    · obtain ⟨n, rfl⟩ : ∃ m : Nat, n = (m : Int) := ⟨n.toNat, by have := h.1.lo; omega⟩
      obtain ⟨p, f, rfl, rfl, hp, hf⟩ := verts2 h.2
      obtain ⟨turns, rfl⟩ : ∃ m : Nat, turns = (m : Int) := ⟨turns.toNat, by omega⟩
      refine both3 (r := played3 (playL l n (fun _ p f => flightV l p f) turns 0 p f [(p : Int)] [(f : Int)])) (Ev.bind (ok_spec_t h) ?_) (Ev.bind (hold_t h.1 h.2) ?_) (played3_len l n _ turns p f (by omega))
      · simp only [↓reduceIte]
        rw [in_spec, decide_eq_true h2]
        simp only [Option.bind_some, Bool.not_true]
        refine Ev.step (fun k => ?_) (pb_l0 h.1 turns (by omega) turns 0 p f _ _ (by omega) hp hf (by simp) (by simp))
        rw [spec_PlayBest.j0.eq_2, if_neg (by decide)]; rfl
      · simp only [h2, and_self, ↓reduceIte, Int.toNat_natCast]; exact Ev.now _
    · refine both3 (r := ([], [], false)) (Ev.bind (ok_spec_t h) ?_) (Ev.bind (hold_t h.1 h.2) ?_) (by simp)
      · simp only [↓reduceIte]
        rw [in_spec, decide_eq_false h2]
        simp only [Option.bind_some, Bool.not_false]
        refine Ev.step (fun k => ?_) (Ev.now _)
        rw [spec_PlayBest.j0.eq_2, if_pos rfl]
      · rw [if_neg (fun h3 => h2 h3.2)]; exact Ev.now _
  · refine both3 (r := ([], [], false)) (Ev.bind (ok_spec_f h) ?_) (Ev.bind (hold_f h) ?_) (by simp)
    · simp only [↓reduceIte, Bool.false_eq_true]
      refine Ev.step (fun k => ?_) (Ev.now _)
      rw [spec_PlayBest.j0.eq_2, if_pos rfl]
    · simp only [Bool.false_eq_true, false_and, ↓reduceIte]; exact Ev.now _
end Go.Proofs.Ytilanbgciofkjaa.Pure
