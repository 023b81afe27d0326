/- The plain law of FnExactDismantleOrder: the two printed functions answer alike. -/
import Derived.Test.YthfpgclhdefiiaaPAx20
import Derived.Test.YthfpgclhdefiiaaPAx24
import GoSem.Claim
namespace Go.Proofs.Ythfpgclhdefiiaa.Pure
def DismantleOrder : Prop := ∀ (n0 : Int) (l0_1 : List Int), ((Lit.int .i64 n0).wf = true) → (∀ x ∈ l0_1, (Lit.int .i64 x).wf = true) → l0_1.length ≤ 1000000 → ∃ (ks ki : Nat) (r : List Int), Go.Proofs.Ythfpgclhdefiiaa.PA.spec_DismantleOrder.f ks n0 l0_1 = some r ∧ Go.Proofs.Ythfpgclhdefiiaa.PA.impl_DismantleOrder.f ki n0 l0_1 = some r ∧ r.length ≤ 1000000
end Go.Proofs.Ythfpgclhdefiiaa.Pure
