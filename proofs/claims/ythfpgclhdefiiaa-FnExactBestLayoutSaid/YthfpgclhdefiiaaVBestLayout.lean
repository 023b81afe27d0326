/- The plain law of FnExactBestLayout: the two printed functions answer alike. -/
import Derived.Test.YthfpgclhdefiiaaPAx16
import Derived.Test.YthfpgclhdefiiaaPAx17
import GoSem.Claim
namespace Go.Proofs.Ythfpgclhdefiiaa.Pure
def BestLayout : Prop := ∀ (n0 : Int) (l0_1 : List Int), ((Lit.int .i64 n0).wf = true) → (∀ x ∈ l0_1, (Lit.int .i64 x).wf = true) → l0_1.length ≤ 1000000 → ∃ (ks ki : Nat) (r1 : List Int) (r2 : Bool), Go.Proofs.Ythfpgclhdefiiaa.PA.spec_BestLayout.f ks n0 l0_1 = some (r1, r2) ∧ Go.Proofs.Ythfpgclhdefiiaa.PA.impl_BestLayout.f ki n0 l0_1 = some (r1, r2) ∧ r1.length ≤ 1000000
end Go.Proofs.Ythfpgclhdefiiaa.Pure
