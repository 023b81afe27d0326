/- Whether one vertex is left: both programs tell it alike. -/
import Derived.Test.YthfpgclhdefiiaaELeftOver
import Derived.Test.YthfpgclhdefiiaaEcount
import Derived.Test.YthfpgclhdefiiaaPAx24
import Derived.Test.YthfpgclhdefiiaaPAx25
namespace Go.Proofs.Ythfpgclhdefiiaa.Pure
open Go.RowKit Go.Proofs.YthfpgclhdefiiaaW.PrintWords Go.Proofs.YthfpgclhdefiiaaW.PrintLast Go.Proofs.Ythfpgclhdefiiaa.PA
set_option linter.unusedVariables false
set_option linter.unusedSimpArgs false
def oneLeft (l : List Int) : Bool := ((elems (dis l 256 (2 ^ l.length - 1)).2).length : Int) == 1
theorem IsDismantlablespec_t {n : Int} {l : List Int} (g : GOk n l) : Ev (fun k => spec_IsDismantlable.f k n l) (oneLeft l) := by
  have p8 := pow8 _ g.len8
  have h := dis_left 256 _ (all_lt' l.length)
  exact Ev.bind (LeftOverspec_t g) (Ev.bind (count_spec _ (by omega)) (Ev.now _))
theorem IsDismantlableimpl_t {n : Int} {l : List Int} (g : GOk n l) : Ev (fun k => impl_IsDismantlable.f k n l) (oneLeft l) := by
  have p8 := pow8 _ g.len8
  have h := dis_left 256 _ (all_lt' l.length)
  refine Ev.bind (LeftOverimpl_t g) ?_
  simp only [count_impl _ (show (dis l 256 (2 ^ l.length - 1)).2 < 256 by omega), Option.bind_some]
  exact Ev.now _
theorem IsDismantlablespec_f {n : Int} {l : List Int} (g : ¬ GOk n l) : Ev (fun k => spec_IsDismantlable.f k n l) false :=
  Ev.bind (LeftOverspec_f g) (Ev.bind (count_spec 0 (by omega)) (Ev.now _))
theorem IsDismantlableimpl_f {n : Int} {l : List Int} (g : ¬ GOk n l) : Ev (fun k => impl_IsDismantlable.f k n l) false := by
  refine Ev.bind (LeftOverimpl_f g) ?_
  have := count_impl 0 (by omega)
  simp only [Int.natCast_zero] at this
  simp only [this, Option.bind_some]
  exact Ev.now _
end Go.Proofs.Ythfpgclhdefiiaa.Pure
