/- The plain law of FnExactLeftOver: the two printed functions answer alike. -/
import Derived.Test.YthfpgclhdefiiaaPAx24
import Derived.Test.YthfpgclhdefiiaaPAx25
import GoSem.Claim
namespace Go.Proofs.Ythfpgclhdefiiaa.Pure
def LeftOver : Prop := ∀ (n0 : Int) (l0_1 : List Int), ((Lit.int .i64 n0).wf = true) → (∀ x ∈ l0_1, (Lit.int .i64 x).wf = true) → l0_1.length ≤ 1000000 → ∃ (ks ki : Nat) (r : Int), Go.Proofs.Ythfpgclhdefiiaa.PA.spec_LeftOver.f ks n0 l0_1 = some r ∧ Go.Proofs.Ythfpgclhdefiiaa.PA.impl_LeftOver.f ki n0 l0_1 = some r
end Go.Proofs.Ythfpgclhdefiiaa.Pure
