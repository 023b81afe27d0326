/- The plain law of FnExactCaptureTime: the two printed functions answer alike. -/
import Derived.Test.YtilanbgciofkjaaPAx16
import Derived.Test.YtilanbgciofkjaaTstarts
import GoSem.Claim
namespace Go.Proofs.Ytilanbgciofkjaa.Pure
def CaptureTime : Prop := ∀ (n0 : Int) (l0_1 : List Int), ((Lit.int .i64 n0).wf = true) → (∀ x ∈ l0_1, (Lit.int .i64 x).wf = true) → l0_1.length ≤ 1000000 → ∃ (ks ki : Nat) (r : Int), Go.Proofs.Ytilanbgciofkjaa.PA.spec_CaptureTime.f ks n0 l0_1 = some r ∧ Go.Proofs.Ytilanbgciofkjaa.PA.impl_CaptureTime.f ki n0 l0_1 = some r
end Go.Proofs.Ytilanbgciofkjaa.Pure
