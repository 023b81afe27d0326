/- The plain law of FirstMistake. -/
import Derived.Test.YtilanbgciofkjaaVFirstMistake
import Derived.Test.YtilanbgciofkjaaEstab
import Derived.Test.YtilanbgciofkjaaEmist
import Derived.Test.YtilanbgciofkjaaPAx19
namespace Go.Proofs.Ytilanbgciofkjaa.Pure
open Go.RowKit Go.Proofs.YtilanbgciofkjaaW.PrintWords Go.Proofs.YtilanbgciofkjaaW.PrintLast Go.Proofs.Ytilanbgciofkjaa.PA
set_option linter.unusedVariables false
set_option linter.unusedSimpArgs false
theorem dist_far (l : List Int) (p f : Nat) (h : p ≠ f) : dist l p f = -1 ∨ 0 < dist l p f := by
  unfold dist
  rcases leastK_cases (fun k => win l k p f) with ⟨h1, _⟩ | ⟨k, _, h1, h2, _⟩
  · exact .inl h1
  · refine .inr ?_
    rw [h1]
    cases k with
    | zero => exact absurd h2 (by simp [win, h])
    | succ k => omega
theorem fm_l0 {n : Nat} {l P F : List Int} (g : GOk (n : Int) l) {T : List Int} (hT : STab n l T) (h : ROk (n : Int) l P F) :
    ∀ (d i : Nat), i + 1 + d = P.length → (∀ j, j < i → badT l P F j = false) → Ev (fun k => spec_FirstMistake.l0 k T ((i + 1 : Nat) : Int) (n : Int) l P F) (fmV l P F)
  | 0, i, hi, hb => by
    refine Ev.step (fun k => ?_) (Ev.now _)
    rw [spec_FirstMistake.l0.eq_2, if_neg (by omega), fmV_none (fun j hj => hb j (by omega))]
  | d + 1, i, hi, hb => by
    have h8 := g.len8
    have e := nlen g
    have h60 : P.length ≤ 60 := h.most
    have hfl : F.length = P.length := h.len
    have hTl := hT.ins.1
    obtain ⟨p, eP, hp⟩ : ∃ p : Nat, P.getD i 0 = (p : Int) ∧ p < n := ⟨(P.getD i 0).toNat, by have := h.p i (by omega); omega, by have := h.p i (by omega); omega⟩
    obtain ⟨f, eF, hf⟩ : ∃ f : Nat, F.getD i 0 = (f : Int) ∧ f < n := ⟨(F.getD i 0).toNat, by have := h.f i (by omega); omega, by have := h.f i (by omega); omega⟩
    obtain ⟨p2, eP2, hp2⟩ : ∃ p : Nat, P.getD (i + 1) 0 = (p : Int) ∧ p < n := ⟨(P.getD (i + 1) 0).toNat, by have := h.p (i + 1) (by omega); omega, by have := h.p (i + 1) (by omega); omega⟩
    have hne : p ≠ f := by
      have ht := h.turns i (by omega)
      unfold turnI at ht
      rw [Bool.and_eq_true, decide_eq_true_eq, eP, eF] at ht
      intro hh; subst hh; exact ht.1 rfl
    have ew : wrap64 (((i + 1 : Nat) : Int) - 1) = (i : Int) := by unfold wrap64; omega
    have hd := hT.dist g p f hp hf
    have hin := hT.ins.2 (8 * p + f) (by omega)
    have hfar := dist_far l p f hne
    have hbad : badT l P F i = decide (dist l p f ≠ -1 ∧ (edist l p2 f = -1 ∨ edist l p2 f ≠ dist l p f - 1)) := by
      unfold badT; rw [eP, eF, eP2, Int.toNat_natCast, Int.toNat_natCast, Int.toNat_natCast]
    have hw := worst_spec g T hT.ins p2 f (by omega) (by omega)
    rw [hT.edist g p2 f hp2 hf] at hw
    have next : badT l P F i = false → Ev (fun k => spec_FirstMistake.l0 k T ((i + 1 + 1 : Nat) : Int) (n : Int) l P F) (fmV l P F) := fun hbi => fm_l0 g hT h d (i + 1) (by omega) (fun j hj => by
      rcases Nat.lt_or_ge j i with h1 | h1
      · exact hb j h1
      · obtain rfl : j = i := by omega
        exact hbi)
    by_cases c : dist l p f > 0
    · have ew2 : wrap64 (dist l p f - 1) = dist l p f - 1 := by unfold wrap64; omega
      by_cases c2 : edist l p2 f = dist l p f - 1
      · refine Ev.step (f := fun k => (spec_l05Worst.f k (n : Int) l T (p2 : Int) (f : Int)).bind fun t => if t = wrap64 (dist l p f - 1) then spec_FirstMistake.l0 k T ((i + 1 + 1 : Nat) : Int) (n : Int) l P F else some ((i + 1 : Nat) : Int)) (fun k => ?_) (Ev.bind hw ?_)
        · rw [spec_FirstMistake.l0.eq_2, if_pos (by omega), ew, if_pos (by omega), if_pos (by omega), if_pos (by omega), rd_nat, rd_nat, eP, eF, at_wrap p f (by omega) (by omega), if_pos (by omega), if_pos (by omega), rd_nat, hd, if_pos c, if_pos (by omega), rd_nat, eP2, wsucc (i + 1) (by omega)]
        · rw [ew2]
          simp only [c2, ↓reduceIte]
          exact next (by rw [hbad]; exact decide_eq_false (by omega))
      · refine Ev.step (f := fun k => (spec_l05Worst.f k (n : Int) l T (p2 : Int) (f : Int)).bind fun t => if t = wrap64 (dist l p f - 1) then spec_FirstMistake.l0 k T ((i + 1 + 1 : Nat) : Int) (n : Int) l P F else some ((i + 1 : Nat) : Int)) (fun k => ?_) (Ev.bind hw ?_)
        · rw [spec_FirstMistake.l0.eq_2, if_pos (by omega), ew, if_pos (by omega), if_pos (by omega), if_pos (by omega), rd_nat, rd_nat, eP, eF, at_wrap p f (by omega) (by omega), if_pos (by omega), if_pos (by omega), rd_nat, hd, if_pos c, if_pos (by omega), rd_nat, eP2, wsucc (i + 1) (by omega)]
        · rw [ew2]
          simp only [c2, ↓reduceIte]
          rw [fmV_some (j := i) (by omega) (by rw [hbad]; exact decide_eq_true (by omega)) hb]
          exact Ev.now _
    · refine Ev.step (fun k => ?_) (next (by rw [hbad]; exact decide_eq_false (by omega)))
      rw [spec_FirstMistake.l0.eq_2, if_pos (by omega), ew, if_pos (by omega), if_pos (by omega), if_pos (by omega), rd_nat, rd_nat, eP, eF, at_wrap p f (by omega) (by omega), if_pos (by omega), if_pos (by omega), rd_nat, hd, if_neg c, wsucc (i + 1) (by omega)]
open Classical in
theorem FirstMistake_holds : FirstMistake := by
  intro n l P F _ _ _ _ hl
  have hL : P.length ≤ 1000000 := by omega
  by_cases h : ROk n l P F
  · have g : GOk n l := h.g
    obtain ⟨n, rfl⟩ : ∃ m : Nat, n = (m : Int) := ⟨n.toNat, by have := g.lo; omega⟩
    obtain ⟨T, hT, hE⟩ := table_spec g
    have hs := rec_spec (n : Int) l P F hL
    have hi := rec_impl (n : Int) l P F hL
    rw [decide_eq_true h] at hs hi
    have h1 : 1 ≤ P.length := h.one
    refine both_ev (r := fmV l P F) (Ev.bind hs ?_) ?_
    · simp only [↓reduceIte]
      refine Ev.bind hE ?_
      exact fm_l0 g hT h (P.length - 1) 0 (by omega) (fun j hj => absurd hj (Nat.not_lt_zero j))
    · unfold impl_FirstMistake.f
      simp only [hL, ↓reduceIte]
      refine Ev.bind hi ?_
      simp only [↓reduceIte]
      exact Ev.now _
  · have hs := rec_spec n l P F hL
    have hi := rec_impl n l P F hL
    rw [decide_eq_false h] at hs hi
    refine both_ev (r := 0) (Ev.bind hs ?_) ?_
    · simp only [↓reduceIte, Bool.false_eq_true]; exact Ev.now _
    · unfold impl_FirstMistake.f
      simp only [hL, ↓reduceIte]
      refine Ev.bind hi ?_
      simp only [↓reduceIte, Bool.false_eq_true]
      exact Ev.now _
end Go.Proofs.Ytilanbgciofkjaa.Pure
