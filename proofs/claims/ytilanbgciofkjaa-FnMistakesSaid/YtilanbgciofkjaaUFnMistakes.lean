/- The plain law of FnMistakes. -/
import Derived.Test.YtilanbgciofkjaaEmake
import Derived.Test.YtilanbgciofkjaaPMx3
import Derived.Test.YtilanbgciofkjaaEmist
import Derived.Test.YtilanbgciofkjaaTmist
import Derived.Test.YtilanbgciofkjaaTmoves
namespace Go.Proofs.Ytilanbgciofkjaa.Pure
open Go.RowKit Go.Proofs.YtilanbgciofkjaaW.PrintWords Go.Proofs.YtilanbgciofkjaaW.PrintLast Go.Proofs.Ytilanbgciofkjaa.PA
set_option linter.unusedVariables false
set_option linter.unusedSimpArgs false
theorem Ev_const {α : Type} {g : Nat → Option α} {r : α} (h : ∀ k, g k = some r) : Ev g r := ⟨0, fun k _ => h k⟩
theorem verts_pf {n p f : Nat} (hp : p < n) (hf : f < n) : verts (n : Int) [(p : Int), (f : Int)] = true := by simp [verts]; omega
theorem purs_ev {n : Nat} {l : List Int} (g : GOk (n : Int) l) (p f : Nat) (hp : p < n) (hf : f < n) : Ev (fun k => impl_PursuerMoves.f k (n : Int) l (p : Int) (f : Int)) (dist l p f) := by
  refine Ev.bind (hold_t g (verts_pf hp hf)) ?_
  simp only [↓reduceIte, Int.toNat_natCast]; exact Ev.now _
theorem fugi_ev {n : Nat} {l : List Int} (g : GOk (n : Int) l) (p f : Nat) (hp : p < n) (hf : f < n) : Ev (fun k => impl_FugitiveMoves.f k (n : Int) l (p : Int) (f : Int)) (edist l p f) := by
  refine Ev.bind (hold_t g (verts_pf hp hf)) ?_
  simp only [↓reduceIte, Int.toNat_natCast]; exact Ev.now _
open Classical in
theorem mist_ev {n : Int} {l P F : List Int} (hL : P.length ≤ 1000000) (h : ROk n l P F) : Ev (fun k => impl_FirstMistake.f k n l P F) (fmV l P F) := by
  have hi := rec_impl n l P F hL
  rw [decide_eq_true h] at hi
  unfold impl_FirstMistake.f
  simp only [hL, ↓reduceIte]
  refine Ev.bind hi ?_
  simp only [↓reduceIte]
  exact Ev.now _
theorem rok_pf {n : Nat} {l : List Int} (g : GOk (n : Int) l) (p f : Nat) (hp : p < n) (hf : f < n) (hne : p ≠ f) : ROk (n : Int) l [(p : Int), (p : Int)] [(f : Int), (f : Int)] := by
  refine ⟨g, by simp, by simp, rfl, fun i hi => ?_, fun i hi => ?_, fun i hi => ?_⟩
  · have : i = 0 ∨ i = 1 := by simp at hi; omega
    rcases this with rfl | rfl <;> simp <;> omega
  · have : i = 0 ∨ i = 1 := by simp at hi; omega
    rcases this with rfl | rfl <;> simp <;> omega
  · have : i = 0 := by simp at hi; omega
    subst this
    have hpf : ¬ (p : Int) = (f : Int) := by omega
    simp [turnI, stay_own, hpf, hne]
theorem rok_pp {n : Int} {l : List Int} (p : Int) : ¬ ROk n l [p, p] [p, p] := fun h => by
  have := h.turns 0 (by simp)
  simp [turnI] at this
theorem dist_self (l : List Int) (p : Nat) : dist l p p = 0 := by
  have := leastK_some (P := fun k => win l k p p) (k := 0) (by decide) (win_self l 0 p) (fun j hj => absurd hj (Nat.not_lt_zero j))
  exact this
theorem fm_two (l : List Int) (p f : Nat) : fmV l [(p : Int), (p : Int)] [(f : Int), (f : Int)] = if dist l p f ≠ -1 ∧ (edist l p f = -1 ∨ edist l p f ≠ dist l p f - 1) then 1 else 0 := by
  have hb : badT l [(p : Int), (p : Int)] [(f : Int), (f : Int)] 0 = decide (dist l p f ≠ -1 ∧ (edist l p f = -1 ∨ edist l p f ≠ dist l p f - 1)) := by
    unfold badT; simp
  by_cases c : dist l p f ≠ -1 ∧ (edist l p f = -1 ∨ edist l p f ≠ dist l p f - 1)
  · rw [if_pos c, fmV_some (j := 0) (by simp) (by rw [hb, decide_eq_true c]) (fun i hi => absurd hi (Nat.not_lt_zero i))]; rfl
  · rw [if_neg c, fmV_none (fun i hi => by
      have : i = 0 := by simp at hi; omega
      subst this; rw [hb, decide_eq_false c])]
theorem far (l : List Int) (p f : Nat) (h : p ≠ f) : dist l p f = -1 ∨ 0 < dist l p f := by
  unfold dist
  rcases leastK_cases (fun k => win l k p f) with ⟨h1, _⟩ | ⟨k, _, h1, h2, _⟩
  · exact .inl h1
  · refine .inr ?_
    rw [h1]
    cases k with
    | zero => exact absurd h2 (by simp [win, h])
    | succ k => omega
theorem dist_hi (l : List Int) (p f : Nat) : -1 ≤ dist l p f ∧ dist l p f < 1000 := by
  unfold dist
  rcases leastK_cases (fun k => win l k p f) with ⟨h1, _⟩ | ⟨k, hk, h1, _⟩ <;> rw [h1] <;> omega
theorem edist_hi (l : List Int) (p f : Nat) : -1 ≤ edist l p f := by
  unfold edist
  rcases leastK_cases (fun k => esc l k p f) with ⟨h1, _⟩ | ⟨k, hk, h1, _⟩ <;> rw [h1] <;> omega
theorem tmod_nat (m n : Nat) : Int.tmod (m : Int) (n : Int) = ((m % n : Nat) : Int) := by rw [Int.tmod_eq_emod_of_nonneg (Int.natCast_nonneg _)]; rfl
open Classical in
theorem FnMistakes_ev (b : List Int) : Ev (fun k => PM.laws_FnMistakes.f k b) true := by
  by_cases hb : (b.length : Int) > 1048576
  · refine Ev_const (fun k => ?_)
    unfold PM.laws_FnMistakes.f
    rw [if_pos hb]
  · obtain ⟨n, l, hG, hn, g⟩ := make_ok b (by omega) 0 (by omega) 7 (by omega) (by omega)
    obtain ⟨m1, h1, _⟩ := num_ok b (by omega) 30 (by omega)
    obtain ⟨m2, h2, _⟩ := num_ok b (by omega) 32 (by omega)
    have hlo := g.lo
    have hn0 : ¬ (n : Int) = 0 := by omega
    have hp : m1 % n < n := Nat.mod_lt _ (by omega)
    have hf : m2 % n < n := Nat.mod_lt _ (by omega)
    have ep := tmod_nat m1 n
    have ef := tmod_nat m2 n
    generalize m1 % n = p at hp ep
    generalize m2 % n = f at hf ef
    unfold PM.laws_FnMistakes.f
    simp only [hb, ↓reduceIte]
    refine Ev.bind hG ?_
    refine Ev.bind h1 ?_
    simp only [hn0, ↓reduceIte]
    refine Ev.bind h2 ?_
    simp only [ep, ef]
    refine Ev.bind (purs_ev g p f hp hf) ?_
    simp only [Option.bind_some]
    have hrec := rec_impl (n : Int) l [(p : Int), (p : Int)] [(f : Int), (f : Int)] (by simp)
    by_cases c : p = f
    · subst c
      rw [decide_eq_false (rok_pp (p : Int))] at hrec
      simp only [↓reduceIte]
      refine Ev.bind hrec ?_
      simp only [Bool.false_eq_true, ↓reduceIte, dist_self]
      exact Ev.now _
    · have c' : ¬ (p : Int) = (f : Int) := by omega
      have hrok := rok_pf g p f hp hf c
      rw [decide_eq_true hrok] at hrec
      simp only [c', ↓reduceIte]
      refine Ev.bind hrec ?_
      simp only [↓reduceIte]
      have hcaught : Ev (fun k => PM.impl_IsCaught.f k (n : Int) l [(p : Int), (p : Int)] [(f : Int), (f : Int)]) false := by
        refine Ev.bind hrec ?_
        have e1 : wrap64 ((([(p : Int), (p : Int)] : List Int).length : Int) - 1) = ((1 : Nat) : Int) := by show wrap64 (((2 : Nat) : Int) - 1) = _; unfold wrap64; omega
        have e2 : ((rd [(p : Int), (p : Int)] ((1 : Nat) : Int)) == (rd [(f : Int), (f : Int)] ((1 : Nat) : Int))) = false := by
          rw [rd_nat, rd_nat]; simpa using c'
        simp only [e1, e2, ↓reduceIte]
        exact Ev_const (fun k => by simp)
      refine Ev.bind hcaught ?_
      simp only [Bool.false_eq_true, ↓reduceIte]
      refine Ev.bind (mist_ev (by simp) hrok) ?_
      have hfm := fm_two l p f
      have hd := far l p f c
      have hh := dist_hi l p f
      have he := edist_hi l p f
      have ht : PM.impl_TurnsOf.f [(p : Int), (p : Int)] [(f : Int), (f : Int)] = some 1 := by
        show some (mx (wrap64 (((2 : Nat) : Int) - 1)) 0) = some 1
        rw [show wrap64 (((2 : Nat) : Int) - 1) = 1 from by unfold wrap64; omega]
        first | rfl | decide | simp [mx]
      by_cases k0 : dist l p f > 0
      · have ew : wrap64 (dist l p f - 1) = dist l p f - 1 := by unfold wrap64; omega
        simp only [k0, ↓reduceIte]
        refine Ev.bind (fugi_ev g p f hp hf) ?_
        have hk : ((fmV l [(p : Int), (p : Int)] [(f : Int), (f : Int)] == 1) == (edist l p f != wrap64 (dist l p f - 1))) = true := by
          rw [hfm, ew]
          by_cases q : edist l p f = dist l p f - 1
          · rw [if_neg (by omega), q]; simp
          · rw [if_pos ⟨by omega, .inr q⟩, bne_iff_ne.2 q]; rfl
        simp only [hk, ↓reduceIte, ht, Option.bind_some]
        exact Ev.now _
      · have hk : ((fmV l [(p : Int), (p : Int)] [(f : Int), (f : Int)] == 1) == false) = true := by
          rw [hfm, if_neg (by omega)]; rfl
        simp only [k0, ↓reduceIte, hk, ht, Option.bind_some]
        exact Ev.now _
end Go.Proofs.Ytilanbgciofkjaa.Pure
