/- A valid graph that holds some vertices. -/
import Derived.Test.YtilanbgciofkjaaD
import Derived.Test.YtilanbgciofkjaaPAx9
namespace Go.Proofs.Ytilanbgciofkjaa.Pure
open Go.RowKit Go.Proofs.YtilanbgciofkjaaW.PrintWords Go.Proofs.YtilanbgciofkjaaW.PrintLast Go.Proofs.Ytilanbgciofkjaa.PA
set_option linter.unusedVariables false
set_option linter.unusedSimpArgs false
theorem verts_mem {n : Int} {L : List Int} (h : verts n L = true) (x : Int) (hx : x ∈ L) : 0 ≤ x ∧ x < n := by
  unfold verts at h
  rw [List.all_eq_true] at h
  exact of_decide_eq_true (h x hx)
theorem hold_t {n : Int} {l L : List Int} (g : GOk n l) (h : verts n L = true) : Ev (fun k => impl_Graph_hold.f k n l L) true := by
  refine Ev.bind (graph_impl_t g) ?_
  simp only [↓reduceIte, vert_impl n l L g.lo g.hi, Option.bind_some, h]; exact Ev.now _
theorem hold_f {n : Int} {l L : List Int} (h : ¬ (GOk n l ∧ verts n L = true)) : Ev (fun k => impl_Graph_hold.f k n l L) false := by
  by_cases g : GOk n l
  · refine Ev.bind (graph_impl_t g) ?_
    have h2 : verts n L = false := by cases hv : verts n L with | true => exact absurd ⟨g, hv⟩ h | false => rfl
    simp only [↓reduceIte, vert_impl n l L g.lo g.hi, Option.bind_some, h2]; exact Ev.now _
  · refine Ev.bind (graph_impl_f g) ?_
    simp only [↓reduceIte, Bool.false_eq_true]; exact Ev.now _
end Go.Proofs.Ytilanbgciofkjaa.Pure
