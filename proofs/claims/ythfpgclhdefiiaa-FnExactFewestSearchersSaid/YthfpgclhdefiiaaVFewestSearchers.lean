/- The plain law of FnExactFewestSearchers: the two printed functions answer alike. -/
import Derived.Test.YthfpgclhdefiiaaPAx11
import Derived.Test.YthfpgclhdefiiaaPAx15
import GoSem.Claim
namespace Go.Proofs.Ythfpgclhdefiiaa.Pure
def FewestSearchers : Prop := ∀ (n0 : Int) (l0_1 : List Int), ((Lit.int .i64 n0).wf = true) → (∀ x ∈ l0_1, (Lit.int .i64 x).wf = true) → l0_1.length ≤ 1000000 → ∃ (ks ki : Nat) (r : Int), Go.Proofs.Ythfpgclhdefiiaa.PA.spec_FewestSearchers.f ks n0 l0_1 = some r ∧ Go.Proofs.Ythfpgclhdefiiaa.PA.impl_FewestSearchers.f ki n0 l0_1 = some r
end Go.Proofs.Ythfpgclhdefiiaa.Pure
