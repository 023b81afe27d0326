/- The number of a set's elements: both programs tell it alike. -/
import Derived.Test.YthfpgclhdefiiaaD
import Derived.Test.YthfpgclhdefiiaaPAx12
import Derived.Test.YthfpgclhdefiiaaPAx6
namespace Go.Proofs.Ythfpgclhdefiiaa.Pure
open Go.RowKit Go.Proofs.YthfpgclhdefiiaaW.PrintWords Go.Proofs.YthfpgclhdefiiaaW.PrintLast Go.Proofs.Ythfpgclhdefiiaa.PA
set_option linter.unusedVariables false
set_option linter.unusedSimpArgs false
theorem count_spec (s : Nat) (hs : s < 256) : Ev (fun k => spec_l02Count.f k (s : Int)) ((elems s).length : Int) :=
  Ev.bind (list_spec s (by omega)) (Ev.now _)
theorem ones : ∀ s : Nat, s < 256 → bits_OnesCount64.f (s : Int) = some ((elems s).length : Int) := by
  decide +kernel
theorem wrap_small : ∀ s : Nat, s < 256 → IntKind.u64.wrap (s : Int) = (s : Int) := by decide +kernel
theorem count_impl (s : Nat) (hs : s < 256) : impl_CountSet.f (s : Int) = some ((elems s).length : Int) := by
  unfold impl_CountSet.f impl_isSet.f bits_OnesCount.f
  have e : IntKind.u64.wrap (s : Int) = (s : Int) := wrap_small s hs
  rw [in_impl, Option.bind_some, Option.bind_some, decide_eq_true (by omega), if_pos rfl, e, ones s hs, Option.bind_some, Option.bind_some]
end Go.Proofs.Ythfpgclhdefiiaa.Pure
