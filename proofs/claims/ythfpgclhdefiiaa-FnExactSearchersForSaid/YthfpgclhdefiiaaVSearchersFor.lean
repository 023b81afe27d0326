/- The plain law of FnExactSearchersFor: the two printed functions answer alike. -/
import Derived.Test.YthfpgclhdefiiaaPAx13
import Derived.Test.YthfpgclhdefiiaaPAx6
import GoSem.Claim
namespace Go.Proofs.Ythfpgclhdefiiaa.Pure
def SearchersFor : Prop := ∀ (n0 : Int) (l0_1 : List Int) (l1 : List Int), ((Lit.int .i64 n0).wf = true) → (∀ x ∈ l0_1, (Lit.int .i64 x).wf = true) → (∀ x ∈ l1, (Lit.int .i64 x).wf = true) → l0_1.length + l1.length ≤ 1000000 → ∃ (ks ki : Nat) (r : Int), Go.Proofs.Ythfpgclhdefiiaa.PA.spec_SearchersFor.f ks n0 l0_1 l1 = some r ∧ Go.Proofs.Ythfpgclhdefiiaa.PA.impl_SearchersFor.f ki n0 l0_1 l1 = some r
end Go.Proofs.Ythfpgclhdefiiaa.Pure
