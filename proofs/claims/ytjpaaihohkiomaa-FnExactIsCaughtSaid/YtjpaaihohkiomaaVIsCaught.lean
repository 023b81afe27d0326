/- The plain law of FnExactIsCaught: the two printed functions answer alike. -/
import Derived.Test.YtjpaaihohkiomaaPAx10
import Derived.Test.YtjpaaihohkiomaaPAx9
import GoSem.Claim
namespace Go.Proofs.Ytjpaaihohkiomaa.Pure
def IsCaught : Prop := ∀ (n0 : Int) (l0_1 : List Int) (l1_0 l1_1 : List Int), ((Lit.int .i64 n0).wf = true) → (∀ x ∈ l0_1, (Lit.int .i64 x).wf = true) → (∀ x ∈ l1_0, (Lit.int .i64 x).wf = true) → (∀ x ∈ l1_1, (Lit.int .i64 x).wf = true) → l0_1.length + l1_0.length + l1_1.length ≤ 1000000 → ∃ (ks ki : Nat) (r : Bool), Go.Proofs.Ytjpaaihohkiomaa.PA.spec_IsCaught.f ks n0 l0_1 l1_0 l1_1 = some r ∧ Go.Proofs.Ytjpaaihohkiomaa.PA.impl_IsCaught.f ki n0 l0_1 l1_0 l1_1 = some r
end Go.Proofs.Ytjpaaihohkiomaa.Pure
