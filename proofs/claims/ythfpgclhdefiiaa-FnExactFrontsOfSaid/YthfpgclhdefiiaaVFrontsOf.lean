/- The plain law of FnExactFrontsOf: the two printed functions answer alike. -/
import Derived.Test.YthfpgclhdefiiaaPAx15
import Derived.Test.YthfpgclhdefiiaaPAx7
import GoSem.Claim
namespace Go.Proofs.Ythfpgclhdefiiaa.Pure
def FrontsOf : Prop := ∀ (n0 : Int) (l0_1 : List Int) (l1 : List Int), ((Lit.int .i64 n0).wf = true) → (∀ x ∈ l0_1, (Lit.int .i64 x).wf = true) → (∀ x ∈ l1, (Lit.int .i64 x).wf = true) → l0_1.length + l1.length ≤ 1000000 → ∃ (ks ki : Nat) (r : List Int), Go.Proofs.Ythfpgclhdefiiaa.PA.spec_FrontsOf.f ks n0 l0_1 l1 = some r ∧ Go.Proofs.Ythfpgclhdefiiaa.PA.impl_FrontsOf.f ki n0 l0_1 l1 = some r ∧ r.length ≤ 1000000
end Go.Proofs.Ythfpgclhdefiiaa.Pure
