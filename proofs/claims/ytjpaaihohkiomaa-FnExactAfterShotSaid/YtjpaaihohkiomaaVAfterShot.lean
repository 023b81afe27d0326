/- The plain law of FnExactAfterShot: the two printed functions answer alike. -/
import Derived.Test.YtjpaaihohkiomaaPAx14
import Derived.Test.YtjpaaihohkiomaaPAx16
import GoSem.Claim
namespace Go.Proofs.Ytjpaaihohkiomaa.Pure
def AfterShot : Prop := ∀ (n0 : Int) (l0_1 : List Int) (a1 : Int) (a2 : Int), ((Lit.int .i64 n0).wf = true) → (∀ x ∈ l0_1, (Lit.int .i64 x).wf = true) → ((Lit.int .i64 a1).wf = true) → ((Lit.int .i64 a2).wf = true) → l0_1.length ≤ 1000000 → ∃ (ks ki : Nat) (r : Int), Go.Proofs.Ytjpaaihohkiomaa.PA.spec_AfterShot.f ks n0 l0_1 a1 a2 = some r ∧ Go.Proofs.Ytjpaaihohkiomaa.PA.impl_AfterShot.f ki n0 l0_1 a1 a2 = some r
end Go.Proofs.Ytjpaaihohkiomaa.Pure
