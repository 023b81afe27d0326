/- The plain law of PlayAgainst. -/
import Derived.Test.YtilanbgciofkjaaVPlayAgainst
import Derived.Test.YtilanbgciofkjaaUPlayBest
import Derived.Test.YtilanbgciofkjaaErecB
import Derived.Test.YtilanbgciofkjaaPAx17
import Derived.Test.YtilanbgciofkjaaPAx22
import Derived.Test.YtilanbgciofkjaaPAx23
import Derived.Test.YtilanbgciofkjaaTplayb
namespace Go.Proofs.Ytilanbgciofkjaa.Pure
open Go.RowKit Go.Proofs.YtilanbgciofkjaaW.PrintWords Go.Proofs.YtilanbgciofkjaaW.PrintLast Go.Proofs.Ytilanbgciofkjaa.PA
set_option linter.unusedVariables false
set_option linter.unusedSimpArgs false
theorem pa_l0 {n : Nat} {l : List Int} (g : GOk (n : Int) l) (M : List Int) (ht : M.length ≤ 59) : ∀ (d j p f : Nat) (P F : List Int), j + d = M.length → p < n → f < n → P.length ≤ j + 1 → F.length ≤ j + 1 → Ev (fun k => spec_PlayAgainst.l0 k (p : Int) (f : Int) M (M.length : Int) (j : Int) (n : Int) l P F) (played3 (playL l n (fun j _ _ => M.getD j 0) d j p f P F))
  | 0, j, p, f, P, F, hj, hp, hf, hP, hF => by
    unfold playL
    refine Ev.step (fun k => ?_) (Ev.now _)
    rw [spec_PlayAgainst.l0.eq_2, if_neg (by omega)]; rfl
  | d + 1, j, p, f, P, F, hj, hp, hf, hP, hF => by
    by_cases e : p = f
    · unfold playL
      rw [if_pos e]
      refine Ev.step (fun k => ?_) (Ev.now _)
      rw [spec_PlayAgainst.l0.eq_2, if_pos (by omega), if_pos (by omega), if_pos (by omega), if_pos (by omega)]; rfl
    · have hc := chase_lt g p f hp
      have en := nlen g
      have hlen : (P ++ [(chaseV l p f : Int)]).length ≤ j + 1 + 1 := by rw [List.length_append]; simp; omega
      have c1 : (j : Int) < (M.length : Int) := by omega
      have c2 : (0 : Int) ≤ (j : Int) := by omega
      have c3 : ¬ (p : Int) = (f : Int) := by omega
      have d1 : j + 1 + d = M.length := by omega
      have dF : ∀ y : Int, (F ++ [y]).length ≤ j + 1 + 1 := fun y => by rw [List.length_append]; simp; omega
      have hfn : (0 : Int) ≤ (f : Int) ∧ (f : Int) < (n : Int) := by omega
      have h1 : P.length < 17592186044416 := by omega
      have h2 : F.length < 17592186044416 := by omega
      have hw : wrap64 ((j : Int) + 1) = ((j + 1 : Nat) : Int) := by unfold wrap64; omega
      refine Ev.step (f := fun k => (spec_l07Chase.f k (n : Int) l (p : Int) (f : Int)).bind fun t339 => (if t339 = (f : Int) then (if P.length < 17592186044416 then (if F.length < 17592186044416 then (spec_PlayAgainst.l0 k t339 (f : Int) M (M.length : Int) (wrap64 ((j : Int) + 1)) (n : Int) l (P ++ [t339]) (F ++ [(f : Int)])) else (none)) else (none)) else ((spec_l07Step.f (n : Int) l (f : Int) (rd M (j : Int))).bind fun t346 => (if t346 = true then (if P.length < 17592186044416 then (if F.length < 17592186044416 then (spec_PlayAgainst.l0 k t339 (rd M (j : Int)) M (M.length : Int) (wrap64 ((j : Int) + 1)) (n : Int) l (P ++ [t339]) (F ++ [rd M (j : Int)])) else (none)) else (none)) else (some (([] : List Int), ([] : List Int), false)))))) (fun k => ?_) ?_
      · rw [spec_PlayAgainst.l0.eq_2, if_pos c1, if_pos c2, if_pos c1, if_neg c3]
      · refine Ev.bind (chase_spec g p f hp hf) ?_
        unfold playL
        rw [if_neg e, hw, rd_nat]
        simp only [h1, h2, ↓reduceIte]
        clear hw h1 h2
        by_cases c : chaseV l p f = f
        · simp only [c, ↓reduceIte]
          rw [c] at hlen
          exact pa_l0 g M ht d (j + 1) f f _ _ d1 hf hf hlen (dF _)
        · have c' : ¬ (chaseV l p f : Int) = (f : Int) := fun h => c (Int.natCast_inj.1 h)
          simp only [c', c, ↓reduceIte, step_spec g, Option.bind_some]
          by_cases hs : stepP (n : Int) l (f : Int) (M.getD j 0) = true
          · have hv := step_vs hs
            simp only [hs, ↓reduceIte]
            have hb : (stayN l f).testBit (M.getD j 0).toNat = true := by
              have := step_stay (l := l) (f : Int) (M.getD j 0) hv.1 hv.2
              rw [hs, Int.toNat_natCast] at this; exact this.symm
            rw [if_pos ⟨hv.2.1, hv.2.2, hb⟩]
            obtain ⟨u, hu⟩ : ∃ u : Nat, M.getD j 0 = (u : Int) := ⟨(M.getD j 0).toNat, by omega⟩
            rw [hu, Int.toNat_natCast]
            exact pa_l0 g M ht d (j + 1) (chaseV l p f) u _ _ d1 hc (by have := hv.2; omega) hlen (dF _)
          · simp only [hs, Bool.false_eq_true, ↓reduceIte]
            rw [if_neg (fun h => hs (by
              have := step_stay (l := l) (n := (n : Int)) (f : Int) (M.getD j 0) hfn ⟨h.1, h.2.1⟩
              rw [this, Int.toNat_natCast]; exact h.2.2))]
            exact Ev.now _
theorem PlayAgainst_holds : PlayAgainst := by
  intro n l p f M _ _ _ _ _ _
  by_cases h : Ok2 n l p f
  · by_cases h2 : M.length ≤ 59
    · obtain ⟨n, rfl⟩ : ∃ m : Nat, n = (m : Int) := ⟨n.toNat, by have := h.1.lo; omega⟩
      obtain ⟨p, f, rfl, rfl, hp, hf⟩ := verts2 h.2
      refine both3 (r := played3 (playL l n (fun j _ _ => M.getD j 0) M.length 0 p f [(p : Int)] [(f : Int)])) (Ev.bind (ok_spec_t h) ?_) (Ev.bind (hold_t h.1 h.2) ?_) (played3_len l n _ M.length p f h2)
      · simp only [↓reduceIte]
        rw [decide_eq_false (by omega)]
        refine Ev.step (fun k => ?_) (pa_l0 h.1 M h2 M.length 0 p f _ _ (by omega) hp hf (by simp) (by simp))
        rw [spec_PlayAgainst.j0.eq_2, if_neg (by decide)]; rfl
      · simp only [h2, and_self, ↓reduceIte, Int.toNat_natCast]; exact Ev.now _
    · refine both3 (r := ([], [], false)) (Ev.bind (ok_spec_t h) ?_) (Ev.bind (hold_t h.1 h.2) ?_) (by simp)
      · simp only [↓reduceIte]
        rw [decide_eq_true (by omega)]
        refine Ev.step (fun k => ?_) (Ev.now _)
        rw [spec_PlayAgainst.j0.eq_2, if_pos rfl]
      · rw [if_neg (fun h3 => h2 h3.2)]; exact Ev.now _
  · refine both3 (r := ([], [], false)) (Ev.bind (ok_spec_f h) ?_) (Ev.bind (hold_f h) ?_) (by simp)
    · simp only [↓reduceIte, Bool.false_eq_true]
      refine Ev.step (fun k => ?_) (Ev.now _)
      rw [spec_PlayAgainst.j0.eq_2, if_pos rfl]
    · simp only [Bool.false_eq_true, false_and, ↓reduceIte]; exact Ev.now _
end Go.Proofs.Ytilanbgciofkjaa.Pure
