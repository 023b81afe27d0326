/- The plain law of FnExactIsPathDecomposition: the two printed functions answer alike. -/
import Derived.Test.YtjpaaihohkiomaaPAx18
import Derived.Test.YtjpaaihohkiomaaPAx20
import GoSem.Claim
namespace Go.Proofs.Ytjpaaihohkiomaa.Pure
def IsPathDecomposition : Prop := ∀ (n0 : Int) (l0_1 : List Int) (l1 : List Int), ((Lit.int .i64 n0).wf = true) → (∀ x ∈ l0_1, (Lit.int .i64 x).wf = true) → (∀ x ∈ l1, (Lit.int .i64 x).wf = true) → l0_1.length + l1.length ≤ 1000000 → ∃ (ks ki : Nat) (r : Bool), Go.Proofs.Ytjpaaihohkiomaa.PA.spec_IsPathDecomposition.f ks n0 l0_1 l1 = some r ∧ Go.Proofs.Ytjpaaihohkiomaa.PA.impl_IsPathDecomposition.f ki n0 l0_1 l1 = some r
end Go.Proofs.Ytjpaaihohkiomaa.Pure
