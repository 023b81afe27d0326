/- The plain law of FnExactFrontOf: the two printed functions answer alike. -/
import Derived.Test.YtjpaaihohkiomaaPAx10
import Derived.Test.YtjpaaihohkiomaaPAx12
import GoSem.Claim
namespace Go.Proofs.Ytjpaaihohkiomaa.Pure
def FrontOf : Prop := ∀ (n0 : Int) (l0_1 : List Int) (a1 : Int), ((Lit.int .i64 n0).wf = true) → (∀ x ∈ l0_1, (Lit.int .i64 x).wf = true) → ((Lit.int .i64 a1).wf = true) → l0_1.length ≤ 1000000 → ∃ (ks ki : Nat) (r : Int), Go.Proofs.Ytjpaaihohkiomaa.PA.spec_FrontOf.f ks n0 l0_1 a1 = some r ∧ Go.Proofs.Ytjpaaihohkiomaa.PA.impl_FrontOf.f ki n0 l0_1 a1 = some r
end Go.Proofs.Ytjpaaihohkiomaa.Pure
