/- The plain law of FnExactBestEscape: the two printed functions answer alike. -/
import Derived.Test.YtilanbgciofkjaaPAx13
import Derived.Test.YtilanbgciofkjaaTescape
import GoSem.Claim
namespace Go.Proofs.Ytilanbgciofkjaa.Pure
def BestEscape : Prop := ∀ (n0 : Int) (l0_1 : List Int) (a1 : Int) (a2 : Int), ((Lit.int .i64 n0).wf = true) → (∀ x ∈ l0_1, (Lit.int .i64 x).wf = true) → ((Lit.int .i64 a1).wf = true) → ((Lit.int .i64 a2).wf = true) → l0_1.length ≤ 1000000 → ∃ (ks ki : Nat) (r : Int), Go.Proofs.Ytilanbgciofkjaa.PA.spec_BestEscape.f ks n0 l0_1 a1 a2 = some r ∧ Go.Proofs.Ytilanbgciofkjaa.PA.impl_BestEscape.f ki n0 l0_1 a1 a2 = some r
end Go.Proofs.Ytilanbgciofkjaa.Pure
