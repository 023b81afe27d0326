/- The first mistake of a pursuer. No program here. -/
import Derived.Test.YtilanbgciofkjaaErecB
import Derived.Test.YtilanbgciofkjaaMb
import Derived.Test.YtilanbgciofkjaaPAx21
namespace Go.Proofs.Ytilanbgciofkjaa.Pure
open Go.RowKit Go.Proofs.YtilanbgciofkjaaW.PrintWords Go.Proofs.YtilanbgciofkjaaW.PrintLast Go.Proofs.Ytilanbgciofkjaa.PA
set_option linter.unusedVariables false
set_option linter.unusedSimpArgs false
/-- the turn j is a mistake -/
def badT (l P F : List Int) (j : Nat) : Bool := decide (dist l (P.getD j 0).toNat (F.getD j 0).toNat ≠ -1 ∧ (edist l (P.getD (j + 1) 0).toNat (F.getD j 0).toNat = -1 ∨ edist l (P.getD (j + 1) 0).toNat (F.getD j 0).toNat ≠ dist l (P.getD j 0).toNat (F.getD j 0).toNat - 1))
def fmV (l P F : List Int) : Int := match (List.range (P.length - 1)).find? (badT l P F) with | some j => (j : Int) + 1 | none => 0
theorem fmV_some {l P F : List Int} {j : Nat} (hj : j + 1 < P.length) (hb : badT l P F j = true) (hl : ∀ i, i < j → badT l P F i = false) : fmV l P F = (j : Int) + 1 := by
  unfold fmV
  have e : (List.range (P.length - 1)).find? (badT l P F) = some j := by
    rw [List.find?_range_eq_some]
    exact ⟨hb, by simp; omega, fun i hi => by rw [hl i hi]; rfl⟩
  rw [e]
theorem fmV_none {l P F : List Int} (hl : ∀ i, i + 1 < P.length → badT l P F i = false) : fmV l P F = 0 := by
  unfold fmV
  have e : (List.range (P.length - 1)).find? (badT l P F) = none := by
    rw [List.find?_eq_none]
    intro i hi
    rw [hl i (by have := List.mem_range.1 hi; omega)]; decide
  rw [e]
theorem bad_of {n : Nat} {l : List Int} (g : GOk (n : Int) l) {C E : List Int} (h : TabFin n l C E) (P F : List Int) (j p f p2 : Nat) (hp : p < n) (hf : f < n) (hp2 : p2 < n) (e1 : P.getD j 0 = (p : Int)) (e2 : F.getD j 0 = (f : Int)) (e3 : P.getD (j + 1) 0 = (p2 : Int)) :
    badT l P F j = (decide (C.getD (8 * p + f) 0 < 1000) && (E.getD (8 * p2 + f) 0 != C.getD (8 * p + f) 0 - 1)) := by
  unfold badT
  rw [e1, e2, e3, Int.toNat_natCast, Int.toNat_natCast, Int.toNat_natCast, Bool.eq_iff_iff, decide_eq_true_eq, Bool.and_eq_true, decide_eq_true_eq, bne_iff_ne]
  rcases win_dist g h p f hp hf with ⟨h1, h2⟩ | ⟨v, hv, h1, h2, _, _⟩ <;> rcases esc_dist g h p2 f hp2 hf with ⟨h3, h4⟩ | ⟨u, hu, h3, h4⟩ <;> omega
open Classical in
theorem rec_inv {k : Nat} {n : Int} {l P F : List Int} {b : Bool} (hL : P.length ≤ 1000000) (h : impl_RecordOk.f k n l P F = some b) : b = true ↔ ROk n l P F := by
  have hev : Ev (fun k => impl_RecordOk.f k n l P F) b := Ev.of (fun k => impl_RecordOk.mono n l P F k) h
  have := Ev_det hev (rec_impl n l P F hL)
  rw [this, decide_eq_true_eq]
end Go.Proofs.Ytilanbgciofkjaa.Pure
