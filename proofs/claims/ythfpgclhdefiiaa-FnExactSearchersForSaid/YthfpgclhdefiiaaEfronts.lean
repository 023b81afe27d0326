/- Walks along an order: the fronts, the bags. -/
import Derived.Test.YthfpgclhdefiiaaElayout
import Derived.Test.YthfpgclhdefiiaaEfront
namespace Go.Proofs.Ythfpgclhdefiiaa.Pure
open Go.RowKit Go.Proofs.YthfpgclhdefiiaaW.PrintWords Go.Proofs.YthfpgclhdefiiaaW.PrintLast Go.Proofs.Ythfpgclhdefiiaa.PA
set_option linter.unusedVariables false
set_option linter.unusedSimpArgs false
theorem setN_take_lt {n : Int} {l L : List Int} (h : LOk n l L) (i : Nat) : setN (L.take i) < 2 ^ l.length :=
  setN_lt _ _ (fun x hx => by have := h.vs x (List.mem_of_mem_take hx); have := h.g.len; omega)
theorem foldl_len {S : Type} (step : List Int × S → Int → List Int × S) (hs : ∀ st x, (step st x).1.length = st.1.length + 1) : ∀ (L : List Int) (st : List Int × S), (L.foldl step st).1.length = st.1.length + L.length
  | [], st => by simp
  | x :: L, st => by rw [List.foldl_cons, foldl_len step hs L, hs, List.length_cons]; omega
end Go.Proofs.Ythfpgclhdefiiaa.Pure
