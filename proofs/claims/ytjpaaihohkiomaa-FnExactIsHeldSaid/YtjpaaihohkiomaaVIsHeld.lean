/- The plain law of FnExactIsHeld: the two printed functions answer alike. -/
import Derived.Test.YtjpaaihohkiomaaPAx30
import Derived.Test.YtjpaaihohkiomaaPAx32
import GoSem.Claim
namespace Go.Proofs.Ytjpaaihohkiomaa.Pure
def IsHeld : Prop := ∀ (n0 : Int) (l0_1 : List Int) (l1 : List Int) (a2 : Int), ((Lit.int .i64 n0).wf = true) → (∀ x ∈ l0_1, (Lit.int .i64 x).wf = true) → (∀ x ∈ l1, (Lit.int .i64 x).wf = true) → ((Lit.int .i64 a2).wf = true) → l0_1.length + l1.length ≤ 1000000 → ∃ (ks ki : Nat) (r : Bool), Go.Proofs.Ytjpaaihohkiomaa.PA.spec_IsHeld.f ks n0 l0_1 l1 a2 = some r ∧ Go.Proofs.Ytjpaaihohkiomaa.PA.impl_IsHeld.f ki n0 l0_1 l1 a2 = some r
end Go.Proofs.Ytjpaaihohkiomaa.Pure
