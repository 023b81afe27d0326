/- The plain law of FnExactPlayBest: the two printed functions answer alike. -/
import Derived.Test.YtilanbgciofkjaaPAx25
import Derived.Test.YtilanbgciofkjaaTplayb
import GoSem.Claim
namespace Go.Proofs.Ytilanbgciofkjaa.Pure
def PlayBest : Prop := ∀ (n0 : Int) (l0_1 : List Int) (a1 : Int) (a2 : Int) (a3 : Int), ((Lit.int .i64 n0).wf = true) → (∀ x ∈ l0_1, (Lit.int .i64 x).wf = true) → ((Lit.int .i64 a1).wf = true) → ((Lit.int .i64 a2).wf = true) → ((Lit.int .i64 a3).wf = true) → l0_1.length ≤ 1000000 → ∃ (ks ki : Nat) (r1 : List Int) (r2 : List Int) (r3 : Bool), Go.Proofs.Ytilanbgciofkjaa.PA.spec_PlayBest.f ks n0 l0_1 a1 a2 a3 = some (r1, r2, r3) ∧ Go.Proofs.Ytilanbgciofkjaa.PA.impl_PlayBest.f ki n0 l0_1 a1 a2 a3 = some (r1, r2, r3) ∧ r1.length ≤ 1000000 ∧ r2.length ≤ 1000000
end Go.Proofs.Ytilanbgciofkjaa.Pure
