/- The plain law of FnExactCornersOf: the two printed functions answer alike. -/
import Derived.Test.YtjpaaihohkiomaaPAx38
import Derived.Test.YtjpaaihohkiomaaPAx40
import GoSem.Claim
namespace Go.Proofs.Ytjpaaihohkiomaa.Pure
def CornersOf : Prop := ∀ (n0 : Int) (l0_1 : List Int), ((Lit.int .i64 n0).wf = true) → (∀ x ∈ l0_1, (Lit.int .i64 x).wf = true) → l0_1.length ≤ 1000000 → ∃ (ks ki : Nat) (r : List Int), Go.Proofs.Ytjpaaihohkiomaa.PA.spec_CornersOf.f ks n0 l0_1 = some r ∧ Go.Proofs.Ytjpaaihohkiomaa.PA.impl_CornersOf.f ki n0 l0_1 = some r ∧ r.length ≤ 1000000
end Go.Proofs.Ytjpaaihohkiomaa.Pure
