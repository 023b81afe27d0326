/- The plain law of FnExactTurnsOf: the two printed functions answer alike. -/
import Derived.Test.YtjpaaihohkiomaaPAx1
import GoSem.Claim
namespace Go.Proofs.Ytjpaaihohkiomaa.Pure
def TurnsOf : Prop := ∀ (l0_0 l0_1 : List Int), (∀ x ∈ l0_0, (Lit.int .i64 x).wf = true) → (∀ x ∈ l0_1, (Lit.int .i64 x).wf = true) → l0_0.length + l0_1.length ≤ 1000000 → ∃ (r : Int), Go.Proofs.Ytjpaaihohkiomaa.PA.spec_TurnsOf.f l0_0 l0_1 = some r ∧ Go.Proofs.Ytjpaaihohkiomaa.PA.impl_TurnsOf.f l0_0 l0_1 = some r
end Go.Proofs.Ytjpaaihohkiomaa.Pure
