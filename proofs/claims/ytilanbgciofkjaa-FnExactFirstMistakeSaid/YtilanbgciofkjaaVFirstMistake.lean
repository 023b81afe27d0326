/- The plain law of FnExactFirstMistake: the two printed functions answer alike. -/
import Derived.Test.YtilanbgciofkjaaPAx19
import Derived.Test.YtilanbgciofkjaaTmist
import GoSem.Claim
namespace Go.Proofs.Ytilanbgciofkjaa.Pure
def FirstMistake : Prop := ∀ (n0 : Int) (l0_1 : List Int) (l1_0 l1_1 : List Int), ((Lit.int .i64 n0).wf = true) → (∀ x ∈ l0_1, (Lit.int .i64 x).wf = true) → (∀ x ∈ l1_0, (Lit.int .i64 x).wf = true) → (∀ x ∈ l1_1, (Lit.int .i64 x).wf = true) → l0_1.length + l1_0.length + l1_1.length ≤ 1000000 → ∃ (ks ki : Nat) (r : Int), Go.Proofs.Ytilanbgciofkjaa.PA.spec_FirstMistake.f ks n0 l0_1 l1_0 l1_1 = some r ∧ Go.Proofs.Ytilanbgciofkjaa.PA.impl_FirstMistake.f ki n0 l0_1 l1_0 l1_1 = some r
end Go.Proofs.Ytilanbgciofkjaa.Pure
