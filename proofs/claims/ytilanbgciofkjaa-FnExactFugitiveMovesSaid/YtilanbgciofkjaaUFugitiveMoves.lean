/- The plain law of FugitiveMoves. -/
import Derived.Test.YtilanbgciofkjaaVFugitiveMoves
import Derived.Test.YtilanbgciofkjaaEstab
import Derived.Test.YtilanbgciofkjaaPAx11
import Derived.Test.YtilanbgciofkjaaTmoves
namespace Go.Proofs.Ytilanbgciofkjaa.Pure
open Go.RowKit Go.Proofs.YtilanbgciofkjaaW.PrintWords Go.Proofs.YtilanbgciofkjaaW.PrintLast Go.Proofs.Ytilanbgciofkjaa.PA
set_option linter.unusedVariables false
set_option linter.unusedSimpArgs false
theorem fmoves_spec_t {n : Nat} {l : List Int} (g : GOk (n : Int) l) (p f : Nat) (hp : p < n) (hf : f < n) : Ev (fun k => spec_FugitiveMoves.f k (n : Int) l (p : Int) (f : Int)) (edist l p f) := by
  have h8 := g.len8
  have e := nlen g
  obtain ⟨T, hT, hE⟩ := table_spec g
  have hl := hT.ins.1
  refine Ev.bind (ok_spec_t ⟨g, by simp [verts]; omega⟩) ?_
  simp only [↓reduceIte]
  refine Ev.bind hE ?_
  have hw := worst_spec g T hT.ins p f (by omega) (by omega)
  rw [hT.edist g p f hp hf] at hw
  exact Ev.bind hw (Ev.now _)
theorem fmoves_spec_f {n : Int} {l : List Int} {p f : Int} (h : ¬ Ok2 n l p f) : Ev (fun k => spec_FugitiveMoves.f k n l p f) (-1) := by
  refine Ev.bind (ok_spec_f h) ?_
  simp only [↓reduceIte, Bool.false_eq_true]; exact Ev.now _
theorem fmoves_impl_t {n : Nat} {l : List Int} (g : GOk (n : Int) l) (p f : Nat) (hp : p < n) (hf : f < n) : Ev (fun k => impl_FugitiveMoves.f k (n : Int) l (p : Int) (f : Int)) (edist l p f) := by
  refine Ev.bind (hold_t g (by simp [verts]; omega)) ?_
  simp only [↓reduceIte, Int.toNat_natCast]; exact Ev.now _
theorem fmoves_impl_f {n : Int} {l : List Int} {p f : Int} (h : ¬ Ok2 n l p f) : Ev (fun k => impl_FugitiveMoves.f k n l p f) (-1) := by
  refine Ev.bind (hold_f h) ?_
  simp only [↓reduceIte, Bool.false_eq_true]; exact Ev.now _
theorem FugitiveMoves_holds : FugitiveMoves := by
  intro n l p f _ _ _ _ _
  by_cases h : Ok2 n l p f
  · obtain ⟨n, rfl⟩ : ∃ m : Nat, n = (m : Int) := ⟨n.toNat, by have := h.1.lo; omega⟩
    obtain ⟨p, f, rfl, rfl, hp, hf⟩ := verts2 h.2
    exact both_ev (fmoves_spec_t h.1 p f hp hf) (fmoves_impl_t h.1 p f hp hf)
  · exact both_ev (fmoves_spec_f h) (fmoves_impl_f h)
end Go.Proofs.Ytilanbgciofkjaa.Pure
