/- Whether one vertex is left: both programs tell it alike (LeftOver, count, IsDismantlable in one text). -/
import Derived.Test.YthfpgclhdefiiaaEdism
import Derived.Test.YthfpgclhdefiiaaPAx24
import Derived.Test.YthfpgclhdefiiaaPAx25
namespace Go.Proofs.Ythfpgclhdefiiaa.Pure
open Go.RowKit Go.Proofs.YthfpgclhdefiiaaW.PrintWords Go.Proofs.YthfpgclhdefiiaaW.PrintLast Go.Proofs.Ythfpgclhdefiiaa.PA
set_option linter.unusedVariables false
set_option linter.unusedSimpArgs false
theorem LeftOverspec_t {n : Int} {l : List Int} (g : GOk n l) : Ev (fun k => spec_LeftOver.f k n l) (((dis l 256 (2 ^ l.length - 1)).2 : Int)) := by
  refine Ev.bind (graph_spec_t g) ?_
  simp only [↓reduceIte]
  exact Ev.bind (dism_spec g) (Ev.now _)
theorem LeftOverspec_f {n : Int} {l : List Int} (g : ¬ GOk n l) : Ev (fun k => spec_LeftOver.f k n l) (0 : Int) := by
  refine Ev.bind (graph_spec_f g) ?_
  simp only [↓reduceIte, Bool.false_eq_true]
  exact Ev.now _
theorem LeftOverimpl_t {n : Int} {l : List Int} (g : GOk n l) : Ev (fun k => impl_LeftOver.f k n l) (((dis l 256 (2 ^ l.length - 1)).2 : Int)) := by
  refine Ev.bind (graph_impl_t g) ?_
  simp only [↓reduceIte]
  exact Ev.bind (dism_impl g) (Ev.now _)
theorem LeftOverimpl_f {n : Int} {l : List Int} (g : ¬ GOk n l) : Ev (fun k => impl_LeftOver.f k n l) (0 : Int) := by
  refine Ev.bind (graph_impl_f g) ?_
  simp only [↓reduceIte, Bool.false_eq_true]
  exact Ev.now _
theorem count_spec (s : Nat) (hs : s < 256) : Ev (fun k => spec_l02Count.f k (s : Int)) ((elems s).length : Int) :=
  Ev.bind (list_spec s (by omega)) (Ev.now _)
theorem ones : ∀ s : Nat, s < 256 → bits_OnesCount64.f (s : Int) = some ((elems s).length : Int) := by
  decide +kernel
theorem wrap_small : ∀ s : Nat, s < 256 → IntKind.u64.wrap (s : Int) = (s : Int) := by decide +kernel
theorem count_impl (s : Nat) (hs : s < 256) : impl_CountSet.f (s : Int) = some ((elems s).length : Int) := by
  unfold impl_CountSet.f impl_isSet.f bits_OnesCount.f
  have e : IntKind.u64.wrap (s : Int) = (s : Int) := wrap_small s hs
  rw [in_impl, Option.bind_some, Option.bind_some, decide_eq_true (by omega), if_pos rfl, e, ones s hs, Option.bind_some, Option.bind_some]
def oneLeft (l : List Int) : Bool := ((elems (dis l 256 (2 ^ l.length - 1)).2).length : Int) == 1
theorem IsDismantlablespec_t {n : Int} {l : List Int} (g : GOk n l) : Ev (fun k => spec_IsDismantlable.f k n l) (oneLeft l) := by
  have p8 := pow8 _ g.len8
  have h := dis_left 256 _ (all_lt' l.length)
  exact Ev.bind (LeftOverspec_t g) (Ev.bind (count_spec _ (by omega)) (Ev.now _))
theorem IsDismantlableimpl_t {n : Int} {l : List Int} (g : GOk n l) : Ev (fun k => impl_IsDismantlable.f k n l) (oneLeft l) := by
  have p8 := pow8 _ g.len8
  have h := dis_left 256 _ (all_lt' l.length)
  refine Ev.bind (LeftOverimpl_t g) ?_
  simp only [count_impl _ (show (dis l 256 (2 ^ l.length - 1)).2 < 256 by omega), Option.bind_some]
  exact Ev.now _
theorem IsDismantlablespec_f {n : Int} {l : List Int} (g : ¬ GOk n l) : Ev (fun k => spec_IsDismantlable.f k n l) false :=
  Ev.bind (LeftOverspec_f g) (Ev.bind (count_spec 0 (by omega)) (Ev.now _))
theorem IsDismantlableimpl_f {n : Int} {l : List Int} (g : ¬ GOk n l) : Ev (fun k => impl_IsDismantlable.f k n l) false := by
  refine Ev.bind (LeftOverimpl_f g) ?_
  have := count_impl 0 (by omega)
  simp only [Int.natCast_zero] at this
  simp only [this, Option.bind_some]
  exact Ev.now _
end Go.Proofs.Ythfpgclhdefiiaa.Pure
