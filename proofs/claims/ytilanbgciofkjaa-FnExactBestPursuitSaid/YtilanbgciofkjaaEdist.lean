/- The numbers of moves as the document tells them (-1 for never), out of the table's numbers; what a valid graph with vertices is told by. -/
import Derived.Test.YtilanbgciofkjaaEwin
import Derived.Test.YtilanbgciofkjaaPAx8
import Derived.Test.YtilanbgciofkjaaPAx9
namespace Go.Proofs.Ytilanbgciofkjaa.Pure
open Go.RowKit Go.Proofs.YtilanbgciofkjaaW.PrintWords Go.Proofs.YtilanbgciofkjaaW.PrintLast Go.Proofs.Ytilanbgciofkjaa.PA
set_option linter.unusedVariables false
set_option linter.unusedSimpArgs false
/-- the least number below 1000 for which P holds, -1 if there is none -/
def leastK (P : Nat → Bool) : Int := match (List.range 1000).find? P with | some k => (k : Int) | none => -1
theorem leastK_none {P : Nat → Bool} (h : ∀ k, k < 1000 → P k = false) : leastK P = -1 := by
  unfold leastK
  rw [List.find?_eq_none.2 (fun x hx => by rw [h x (List.mem_range.1 hx)]; decide)]
theorem leastK_some {P : Nat → Bool} {k : Nat} (hk : k < 1000) (h : P k = true) (hl : ∀ j, j < k → P j = false) : leastK P = (k : Int) := by
  unfold leastK
  cases e : (List.range 1000).find? P with
  | none => have := List.find?_eq_none.1 e k (List.mem_range.2 hk); rw [h] at this; exact absurd rfl this
  | some m =>
    have hm := List.find?_some e
    have hm2 := List.mem_range.1 (List.mem_of_find?_eq_some e)
    have h1 : ¬ m < k := fun hlt => by rw [hl m hlt] at hm; cases hm
    have h2 : ¬ k < m := fun hlt => by
      rw [List.find?_range_eq_some] at e
      have := e.2.2 k hlt
      rw [h] at this; cases this
    have : m = k := by omega
    rw [this]
theorem leastK_cases (P : Nat → Bool) : (leastK P = -1 ∧ ∀ k, k < 1000 → P k = false) ∨ ∃ k : Nat, k < 1000 ∧ leastK P = (k : Int) ∧ P k = true ∧ ∀ j, j < k → P j = false := by
  unfold leastK
  cases e : (List.range 1000).find? P with
  | none => exact .inl ⟨rfl, fun k hk => by have := List.find?_eq_none.1 e k (List.mem_range.2 hk); simpa using this⟩
  | some m =>
    have hm := List.find?_some e
    have hm2 := List.mem_range.1 (List.mem_of_find?_eq_some e)
    rw [List.find?_range_eq_some] at e
    exact .inr ⟨m, hm2, rfl, hm, fun j hj => by have := e.2.2 j hj; simpa using this⟩
theorem leastK_congr {P Q : Nat → Bool} (h : ∀ k, k < 1000 → P k = Q k) : leastK P = leastK Q := by
  rcases leastK_cases Q with ⟨e, hq⟩ | ⟨k, hk, e, h1, h2⟩
  · rw [e, leastK_none (fun k hk => by rw [h k hk, hq k hk])]
  · rw [e, leastK_some hk (by rw [h k hk, h1]) (fun j hj => by rw [h j (by omega), h2 j hj])]
/-- the number of moves with the pursuer, or with the fugitive, to move -/
def dist (l : List Int) (p f : Nat) : Int := leastK fun k => win l k p f
def edist (l : List Int) (p f : Nat) : Int := leastK fun k => esc l k p f
theorem told_of {v : Int} {P : Nat → Bool} (h0 : 0 ≤ v) (h1 : v ≤ 1000) (h : ∀ k : Nat, k < 1000 → (v ≤ (k : Int) ↔ P k = true)) : (if v ≥ 1000 then -1 else v) = leastK P := by
  by_cases hv : v ≥ 1000
  · rw [if_pos hv, leastK_none (fun k hk => by
      cases e : P k with
      | false => rfl
      | true => have := (h k hk).2 e; omega)]
  · rw [if_neg hv]
    rw [leastK_some (k := v.toNat) (by omega) ((h v.toNat (by omega)).1 (by omega)) (fun j hj => by
      cases e : P j with
      | false => rfl
      | true => have := (h j (by omega)).2 e; omega)]
    omega
theorem TabFin.dist {n : Nat} {l C E : List Int} (h8 : n ≤ 8) (h : TabFin n l C E) (p f : Nat) (hp : p < n) (hf : f < n) : impl_told.f (C.getD (8 * p + f) 0) = some (dist l p f) := by
  have := h.inC.2 (8 * p + f) (by omega)
  unfold impl_told.f Pure.dist
  rw [← told_of this.1 this.2 (h.ch p f hp hf)]
  split <;> rfl
theorem TabFin.edist {n : Nat} {l C E : List Int} (h8 : n ≤ 8) (h : TabFin n l C E) (p f : Nat) (hp : p < n) (hf : f < n) : impl_told.f (E.getD (8 * p + f) 0) = some (edist l p f) := by
  have := h.inE.2 (8 * p + f) (by omega)
  unfold impl_told.f Pure.edist
  rw [← told_of this.1 this.2 (h.es p f hp hf)]
  split <;> rfl
theorem Ev_det {α : Type} {g : Nat → Option α} {a b : α} (h : Ev g a) (h' : Ev g b) : a = b := by
  obtain ⟨k, h⟩ := h
  obtain ⟨m, h'⟩ := h'
  exact Option.some.inj ((h (k + m) (by omega)).symm.trans (h' (k + m) (by omega)))
theorem hold_inv {k : Nat} {n : Int} {l L : List Int} {b : Bool} (h : impl_Graph_hold.f k n l L = some b) : b = true ↔ GOk n l ∧ verts n L = true := by
  have hev : Ev (fun k => impl_Graph_hold.f k n l L) b := Ev.of (fun k => impl_Graph_hold.mono n l L k) h
  by_cases hg : GOk n l ∧ verts n L = true
  · exact ⟨fun _ => hg, fun _ => Ev_det hev (hold_t hg.1 hg.2)⟩
  · exact ⟨fun e => (by have := Ev_det hev (hold_f hg); rw [e] at this; cases this), fun h => absurd h hg⟩
theorem graph_inv {k : Nat} {n : Int} {l : List Int} {b : Bool} (h : impl_GraphOk.f k n l = some b) : b = true ↔ GOk n l := by
  have hev : Ev (fun k => impl_GraphOk.f k n l) b := Ev.of (fun k => impl_GraphOk.mono n l k) h
  by_cases hg : GOk n l
  · exact ⟨fun _ => hg, fun _ => Ev_det hev (graph_impl_t hg)⟩
  · exact ⟨fun e => (by have := Ev_det hev (graph_impl_f hg); rw [e] at this; cases this), fun h => absurd h hg⟩
theorem verts2 {n : Nat} {p f : Int} (h : verts (n : Int) [p, f] = true) : ∃ p' f' : Nat, p = (p' : Int) ∧ f = (f' : Int) ∧ p' < n ∧ f' < n := by
  have h1 := verts_mem h p (by simp)
  have h2 := verts_mem h f (by simp)
  exact ⟨p.toNat, f.toNat, by omega, by omega, by omega, by omega⟩
end Go.Proofs.Ytilanbgciofkjaa.Pure
