/- Where the pursuer, and the fugitive, moves best. -/
import Derived.Test.YtilanbgciofkjaaEdist
import Derived.Test.YtilanbgciofkjaaPAx9
namespace Go.Proofs.Ytilanbgciofkjaa.Pure
open Go.RowKit Go.Proofs.YtilanbgciofkjaaW.PrintWords Go.Proofs.YtilanbgciofkjaaW.PrintLast Go.Proofs.Ytilanbgciofkjaa.PA
set_option linter.unusedVariables false
set_option linter.unusedSimpArgs false
theorem win_dist {n : Nat} {l : List Int} (g : GOk (n : Int) l) {C E : List Int} (h : TabFin n l C E) (p f : Nat) (hp : p < n) (hf : f < n) : (C.getD (8 * p + f) 0 = 1000 ∧ dist l p f = -1) ∨ (∃ v : Nat, v < 1000 ∧ C.getD (8 * p + f) 0 = (v : Int) ∧ dist l p f = (v : Int) ∧ win l v p f = true ∧ ∀ j, j < v → win l j p f = false) := by
  have h8 := g.len8
  have e := nlen g
  have hin := h.inC.2 (8 * p + f) (by omega)
  by_cases c : C.getD (8 * p + f) 0 = 1000
  · refine .inl ⟨c, leastK_none (fun k hk => ?_)⟩
    cases e : win l k p f with
    | false => rfl
    | true => have := (h.ch p f hp hf k hk).2 e; omega
  · have h1 := (h.ch p f hp hf (C.getD (8 * p + f) 0).toNat (by omega)).1 (by omega)
    have h2 : ∀ j, j < (C.getD (8 * p + f) 0).toNat → win l j p f = false := fun j hj => by
      cases e : win l j p f with
      | false => rfl
      | true => have := (h.ch p f hp hf j (by omega)).2 e; omega
    exact .inr ⟨(C.getD (8 * p + f) 0).toNat, by omega, by omega, leastK_some (by omega) h1 h2, h1, h2⟩
theorem esc_dist {n : Nat} {l : List Int} (g : GOk (n : Int) l) {C E : List Int} (h : TabFin n l C E) (p f : Nat) (hp : p < n) (hf : f < n) : (E.getD (8 * p + f) 0 = 1000 ∧ edist l p f = -1) ∨ (∃ v : Nat, v < 1000 ∧ E.getD (8 * p + f) 0 = (v : Int) ∧ edist l p f = (v : Int)) := by
  have h8 := g.len8
  have e := nlen g
  have hin := h.inE.2 (8 * p + f) (by omega)
  by_cases c : E.getD (8 * p + f) 0 = 1000
  · refine .inl ⟨c, leastK_none (fun k hk => ?_)⟩
    cases e : esc l k p f with
    | false => rfl
    | true => have := (h.es p f hp hf k hk).2 e; omega
  · have h1 := (h.es p f hp hf (E.getD (8 * p + f) 0).toNat (by omega)).1 (by omega)
    have h2 : ∀ j, j < (E.getD (8 * p + f) 0).toNat → esc l j p f = false := fun j hj => by
      cases e : esc l j p f with
      | false => rfl
      | true => have := (h.es p f hp hf j (by omega)).2 e; omega
    exact .inr ⟨(E.getD (8 * p + f) 0).toNat, by omega, by omega, leastK_some (by omega) h1 h2⟩
/-- where the pursuer moves, -1 if it cannot catch -/
def pursV (l : List Int) (p f : Nat) : Int :=
  if dist l p f = 0 then (p : Int) else if dist l p f = -1 then -1 else ((stayL l p).find? fun x => decide (edist l x.toNat f = dist l p f - 1)).getD (-1)
/-- some move of the pursuer leads to a win -/
theorem move_some (l : List Int) (p f : Nat) (v : Nat) (hv : v < 1000) (hd : dist l p f = (v : Int)) (h0 : v ≠ 0) : ∃ x ∈ stayL l p, edist l x.toNat f = dist l p f - 1 := by
  rcases leastK_cases (fun k => win l k p f) with ⟨h1, _⟩ | ⟨k, hk, h1, h2, h3⟩
  · have h1' : dist l p f = -1 := h1
    rw [hd] at h1'; omega
  · have h1' : dist l p f = (k : Int) := h1
    have hkv : k = v := by rw [hd] at h1'; omega
    subst hkv
    obtain ⟨j, rfl⟩ : ∃ j, k = j + 1 := ⟨k - 1, by omega⟩
    have hpf : p ≠ f := fun e => by subst e; have := h3 0 (by omega); rw [win_self] at this; cases this
    obtain ⟨x, hx, h4⟩ := (win_iff l p f hpf j).1 h2
    refine ⟨x, hx, ?_⟩
    have : edist l x.toNat f = (j : Int) := leastK_some (by omega) h4 (fun i hi => by
      cases e : esc l i x.toNat f with
      | false => rfl
      | true =>
        have := (win_iff l p f hpf i).2 ⟨x, hx, e⟩
        rw [h3 (i + 1) (by omega)] at this; cases this)
    rw [this, hd]; omega
/-- the first element for which p holds, and its place -/
theorem fidx_find (p : Int → Bool) : ∀ (L : List Int) (k : Nat), (∃ x ∈ L, p x = true) → ∃ m, m < L.length ∧ fidx p L k = ((k + m : Nat) : Int) ∧ L.find? p = some (L.getD m 0)
  | [], k, h => by obtain ⟨x, hx, _⟩ := h; cases hx
  | y :: L, k, h => by
    unfold fidx
    by_cases hy : p y = true
    · exact ⟨0, by simp, by simp [hy], by simp [hy]⟩
    · obtain ⟨x, hx, hpx⟩ := h
      have hx' : x ∈ L := by
        rcases List.mem_cons.1 hx with rfl | hx
        · exact absurd hpx hy
        · exact hx
      obtain ⟨m, h1, h2, h3⟩ := fidx_find p L (k + 1) ⟨x, hx', hpx⟩
      refine ⟨m + 1, by simp; omega, ?_, ?_⟩
      · rw [if_neg hy, h2]; congr 1; omega
      · rw [List.find?_cons_of_neg hy, h3]; rfl
/-- where the fugitive moves: the first of the best -/
def flightS (l : List Int) (p : Nat) (b x : Int) : Int := if b < 0 ∨ (dist l p b.toNat ≠ -1 ∧ (dist l p x.toNat = -1 ∨ dist l p x.toNat > dist l p b.toNat)) then x else b
def flightV (l : List Int) (p f : Nat) : Int := if p = f then (f : Int) else (stayL l f).foldl (flightS l p) (-1)
/-- the same, out of the table's numbers -/
def flC (C : List Int) (p : Nat) (b x : Int) : Int := if b < 0 then x else if C.getD (8 * p + x.toNat) 0 > C.getD (8 * p + b.toNat) 0 then x else b
theorem flC_eq {n : Nat} {l : List Int} (g : GOk (n : Int) l) {C E : List Int} (h : TabFin n l C E) (p : Nat) (hp : p < n) (b x : Int) (hb : b < n) (hx : x.toNat < n) : flC C p b x = flightS l p b x := by
  unfold flC flightS
  by_cases h0 : b < 0
  · rw [if_pos h0, if_pos (.inl h0)]
  · rw [if_neg h0]
    have e : C.getD (8 * p + x.toNat) 0 > C.getD (8 * p + b.toNat) 0 ↔ (dist l p b.toNat ≠ -1 ∧ (dist l p x.toNat = -1 ∨ dist l p x.toNat > dist l p b.toNat)) := by
      rcases win_dist g h p b.toNat hp (by omega) with ⟨h1, h2⟩ | ⟨v, hv, h1, h2, _, _⟩ <;> rcases win_dist g h p x.toNat hp hx with ⟨h3, h4⟩ | ⟨u, hu, h3, h4, _, _⟩ <;> omega
    by_cases c : C.getD (8 * p + x.toNat) 0 > C.getD (8 * p + b.toNat) 0
    · rw [if_pos c, if_pos (.inr (e.1 c))]
    · rw [if_neg c, if_neg (fun h => h.elim (fun h => h0 h) (fun h => c (e.2 h)))]
theorem flC_fold {n : Nat} {l : List Int} (g : GOk (n : Int) l) {C E : List Int} (h : TabFin n l C E) (p : Nat) (hp : p < n) : ∀ (L : List Int) (b : Int), b < n → (∀ x ∈ L, x < (n : Int) ∧ x.toNat < n) → L.foldl (flC C p) b = L.foldl (flightS l p) b
  | [], b, _, _ => rfl
  | x :: L, b, hb, hx => by
    have h1 := hx x List.mem_cons_self
    rw [List.foldl_cons, List.foldl_cons, flC_eq g h p hp b x hb h1.2]
    exact flC_fold g h p hp L _ (by unfold flightS; split <;> omega) (fun y hy => hx y (List.mem_cons_of_mem _ hy))
/-- behind the first one the best is one of the list -/
theorem flC_mem (C : List Int) (p : Nat) : ∀ (L : List Int) (b : Int), (∀ x ∈ L, 0 ≤ x) → (L.foldl (flC C p) b = b ∨ L.foldl (flC C p) b ∈ L) ∧ (L ≠ [] → 0 ≤ L.foldl (flC C p) b ∨ 0 ≤ b)
  | [], b, _ => ⟨.inl rfl, fun h => absurd rfl h⟩
  | x :: L, b, hx => by
    have ih := flC_mem C p L (flC C p b x) (fun y hy => hx y (List.mem_cons_of_mem _ hy))
    have hx0 := hx x List.mem_cons_self
    have hf : flC C p b x = x ∨ (flC C p b x = b ∧ 0 ≤ b) := by unfold flC; split; exact .inl rfl; split; exact .inl rfl; exact .inr ⟨rfl, by omega⟩
    rw [List.foldl_cons]
    refine ⟨?_, fun _ => ?_⟩
    · rcases ih.1 with h | h
      · rw [h]
        rcases hf with h2 | h2
        · right; rw [h2]; exact List.mem_cons_self
        · left; exact h2.1
      · right; exact List.mem_cons_of_mem _ h
    · rcases ih.1 with h | h
      · rw [h]; rcases hf with h2 | h2 <;> omega
      · left; exact hx _ (List.mem_cons_of_mem _ h)
theorem flC_at {n : Nat} {l : List Int} (g : GOk (n : Int) l) (C : List Int) (p f : Nat) (hf : f < n) (k : Nat) (hk0 : 0 < k) (hk : k ≤ (stayL l f).length) : ∃ u : Nat, ((stayL l f).take k).foldl (flC C p) (-1) = (u : Int) ∧ u < n := by
  have e := nlen g
  have hne : (stayL l f).take k ≠ [] := by
    intro h
    have := congrArg List.length h
    rw [List.length_take, List.length_nil] at this
    omega
  have hm : ∀ x ∈ (stayL l f).take k, ∃ u : Nat, x = (u : Int) ∧ u < n := fun x hx => by
    obtain ⟨u, e1, hu, _⟩ := stayL_mem g f (by omega) x (List.mem_of_mem_take hx)
    exact ⟨u, e1, by omega⟩
  have h := flC_mem C p ((stayL l f).take k) (-1) (fun x hx => by obtain ⟨u, rfl, _⟩ := hm x hx; omega)
  have h2 := h.2 hne
  rcases h.1 with h1 | h1
  · omega
  · exact hm _ h1
end Go.Proofs.Ytilanbgciofkjaa.Pure
