/- The numbers of moves: what one round of the program makes of two tables of 64 numbers. No program here. -/
import Derived.Test.YtilanbgciofkjaaEstay
namespace Go.Proofs.Ytilanbgciofkjaa.Pure
open Go.RowKit Go.Proofs.YtilanbgciofkjaaW.PrintWords Go.Proofs.YtilanbgciofkjaaW.PrintLast Go.Proofs.Ytilanbgciofkjaa.PA
set_option linter.unusedVariables false
set_option linter.unusedSimpArgs false
def mostS (C : List Int) (p : Nat) (m x : Int) : Int := if m < C.getD (8 * p + x.toNat) 0 then C.getD (8 * p + x.toNat) 0 else m
def mostF (l C : List Int) (p f : Nat) : Int := (stayL l f).foldl (mostS C p) 0
def fewS (E : List Int) (f : Nat) (m x : Int) : Int := if 1 + E.getD (8 * x.toNat + f) 0 < m then 1 + E.getD (8 * x.toNat + f) 0 else m
def fewF (l E : List Int) (p f : Nat) : Int := (stayL l p).foldl (fewS E f) 1000
/-- all numbers are in range -/
def InR (X : List Int) : Prop := X.length = 64 ∧ ∀ i, i < 64 → 0 ≤ X.getD i 0 ∧ X.getD i 0 ≤ 1000
theorem InR.at_ {X : List Int} (h : InR X) (i : Nat) (hi : i < 64) : 0 ≤ X.getD i 0 ∧ X.getD i 0 ≤ 1000 := h.2 i hi
theorem getD_set (X : List Int) (j i : Nat) (v : Int) (hj : j < X.length) : (X.set j v).getD i 0 = if i = j then v else X.getD i 0 := by
  rw [List.getD_eq_getElem?_getD, List.getD_eq_getElem?_getD, List.getElem?_set]
  by_cases h : j = i
  · subst h; simp [hj]
  · rw [if_neg h, if_neg (fun e => h e.symm)]
theorem InR.set {X : List Int} (h : InR X) (j : Nat) (hj : j < 64) (v : Int) (h0 : 0 ≤ v) (h1 : v ≤ 1000) : InR (X.set j v) :=
  ⟨by rw [List.length_set]; exact h.1, fun i hi => by
    rw [getD_set X j i v (by rw [h.1]; exact hj)]
    split
    · exact ⟨h0, h1⟩
    · exact h.2 i hi⟩
theorem mostS_in {C : List Int} (h : InR C) (p : Nat) (hp : p < 8) : ∀ (L : List Int) (m : Int), (∀ x ∈ L, x.toNat < 8) → 0 ≤ m → m ≤ 1000 → 0 ≤ L.foldl (mostS C p) m ∧ L.foldl (mostS C p) m ≤ 1000
  | [], m, _, h0, h1 => ⟨h0, h1⟩
  | x :: L, m, hx, h0, h1 => by
    have hc := h.2 (8 * p + x.toNat) (by have := hx x List.mem_cons_self; omega)
    rw [List.foldl_cons]
    exact mostS_in h p hp L _ (fun y hy => hx y (List.mem_cons_of_mem _ hy)) (by unfold mostS; split <;> omega) (by unfold mostS; split <;> omega)
theorem fewS_in {E : List Int} (h : InR E) (f : Nat) (hf : f < 8) : ∀ (L : List Int) (m : Int), (∀ x ∈ L, x.toNat < 8) → 0 ≤ m → m ≤ 1000 → 0 ≤ L.foldl (fewS E f) m ∧ L.foldl (fewS E f) m ≤ 1000
  | [], m, _, h0, h1 => ⟨h0, h1⟩
  | x :: L, m, hx, h0, h1 => by
    have hc := h.2 (8 * x.toNat + f) (by have := hx x List.mem_cons_self; omega)
    rw [List.foldl_cons]
    exact fewS_in h f hf L _ (fun y hy => hx y (List.mem_cons_of_mem _ hy)) (by unfold fewS; split <;> omega) (by unfold fewS; split <;> omega)
theorem stay8 {n : Int} {l : List Int} (g : GOk n l) (v : Nat) (hv : v < l.length) : ∀ x ∈ stayL l v, x.toNat < 8 := fun x hx => by
  obtain ⟨u, rfl, hu, _⟩ := stayL_mem g v hv x hx
  have := g.len8; omega
theorem mostF_in {n : Int} {l : List Int} (g : GOk n l) {C : List Int} (h : InR C) (p f : Nat) (hp : p < l.length) (hf : f < l.length) : 0 ≤ mostF l C p f ∧ mostF l C p f ≤ 1000 :=
  mostS_in h p (by have := g.len8; omega) _ 0 (stay8 g f hf) (by omega) (by omega)
theorem fewF_in {n : Int} {l : List Int} (g : GOk n l) {E : List Int} (h : InR E) (p f : Nat) (hp : p < l.length) (hf : f < l.length) : 0 ≤ fewF l E p f ∧ fewF l E p f ≤ 1000 :=
  fewS_in h f (by have := g.len8; omega) _ 1000 (stay8 g p hp) (by omega) (by omega)
theorem foldl_take_succ {α β : Type} (F : α → β → α) (z : α) (L : List β) (k : Nat) (d : β) (h : k < L.length) : (L.take (k + 1)).foldl F z = F ((L.take k).foldl F z) (L.getD k d) := by
  rw [List.take_succ_eq_append_getElem h, List.foldl_append]
  simp [List.getD_eq_getElem?_getD, List.getElem?_eq_getElem h]
/-- the first m places (of those with different vertices below n) hold val, the others what X held -/
def Grid (n : Nat) (val : Nat → Nat → Int) (X : List Int) (m : Nat) (X1 : List Int) : Prop :=
  InR X1 ∧ ∀ i, i < 64 → X1.getD i 0 = if i < m ∧ i % 8 < n ∧ i / 8 ≠ i % 8 then val (i / 8) (i % 8) else X.getD i 0
theorem Grid.start {n : Nat} {val : Nat → Nat → Int} {X : List Int} (h : InR X) : Grid n val X 0 X := ⟨h, fun i hi => by rw [if_neg (by omega)]⟩
theorem Grid.skip {n : Nat} {val : Nat → Nat → Int} {X X1 : List Int} {p : Nat} (hp : p < 8) (h : Grid n val X (8 * p + p) X1) : Grid n val X (8 * p + (p + 1)) X1 :=
  ⟨h.1, fun i hi => by
    rw [h.2 i hi]
    by_cases e : i = 8 * p + p
    · rw [if_neg (by omega), if_neg (by omega)]
    · by_cases c : i < 8 * p + p ∧ i % 8 < n ∧ i / 8 ≠ i % 8
      · rw [if_pos c, if_pos ⟨by omega, c.2.1, c.2.2⟩]
      · rw [if_neg c, if_neg (by omega)]⟩
theorem Grid.put {n : Nat} {val : Nat → Nat → Int} {X X1 : List Int} {p f : Nat} (hp : p < 8) (hf : f < n) (h8 : n ≤ 8) (hne : p ≠ f) (hv : 0 ≤ val p f ∧ val p f ≤ 1000) (h : Grid n val X (8 * p + f) X1) : Grid n val X (8 * p + (f + 1)) (X1.set (8 * p + f) (val p f)) :=
  ⟨h.1.set _ (by omega) _ hv.1 hv.2, fun i hi => by
    rw [getD_set _ _ _ _ (by rw [h.1.1]; omega)]
    by_cases e : i = 8 * p + f
    · rw [if_pos e, if_pos (by omega)]
      have e1 : i / 8 = p := by omega
      have e2 : i % 8 = f := by omega
      rw [e1, e2]
    · rw [if_neg e, h.2 i hi]
      by_cases c : i < 8 * p + f ∧ i % 8 < n ∧ i / 8 ≠ i % 8
      · rw [if_pos c, if_pos ⟨by omega, c.2.1, c.2.2⟩]
      · rw [if_neg c, if_neg (by omega)]⟩
theorem Grid.row {n : Nat} {val : Nat → Nat → Int} {X X1 : List Int} {p : Nat} (h8 : n ≤ 8) (h : Grid n val X (8 * p + n) X1) : Grid n val X (8 * (p + 1)) X1 :=
  ⟨h.1, fun i hi => by
    rw [h.2 i hi]
    by_cases c : i < 8 * p + n ∧ i % 8 < n ∧ i / 8 ≠ i % 8
    · rw [if_pos c, if_pos ⟨by omega, c.2.1, c.2.2⟩]
    · rw [if_neg c, if_neg (by omega)]⟩
theorem Grid.at_ {n : Nat} {val : Nat → Nat → Int} {X X1 : List Int} (h : Grid n val X (8 * n) X1) (p f : Nat) (h8 : n ≤ 8) (hp : p < n) (hf : f < n) (hne : p ≠ f) : X1.getD (8 * p + f) 0 = val p f := by
  have e1 : (8 * p + f) / 8 = p := by omega
  have e2 : (8 * p + f) % 8 = f := by omega
  rw [h.2 _ (by omega), e1, e2, if_pos ⟨by omega, hf, hne⟩]
theorem Grid.same {n : Nat} {val : Nat → Nat → Int} {X X1 : List Int} (h : Grid n val X (8 * n) X1) (p f : Nat) (hp : p < 8) (hf : f < 8) (hno : n ≤ p ∨ n ≤ f ∨ p = f) : X1.getD (8 * p + f) 0 = X.getD (8 * p + f) 0 := by
  rw [h.2 _ (by omega), if_neg (by omega)]
end Go.Proofs.Ytilanbgciofkjaa.Pure
