/- The plain law of FnExactPlayAgainst: the two printed functions answer alike. -/
import Derived.Test.YtilanbgciofkjaaPAx23
import Derived.Test.YtilanbgciofkjaaTplayb
import GoSem.Claim
namespace Go.Proofs.Ytilanbgciofkjaa.Pure
def PlayAgainst : Prop := ∀ (n0 : Int) (l0_1 : List Int) (a1 : Int) (a2 : Int) (l3 : List Int), ((Lit.int .i64 n0).wf = true) → (∀ x ∈ l0_1, (Lit.int .i64 x).wf = true) → ((Lit.int .i64 a1).wf = true) → ((Lit.int .i64 a2).wf = true) → (∀ x ∈ l3, (Lit.int .i64 x).wf = true) → l0_1.length + l3.length ≤ 1000000 → ∃ (ks ki : Nat) (r1 : List Int) (r2 : List Int) (r3 : Bool), Go.Proofs.Ytilanbgciofkjaa.PA.spec_PlayAgainst.f ks n0 l0_1 a1 a2 l3 = some (r1, r2, r3) ∧ Go.Proofs.Ytilanbgciofkjaa.PA.impl_PlayAgainst.f ki n0 l0_1 a1 a2 l3 = some (r1, r2, r3) ∧ r1.length ≤ 1000000 ∧ r2.length ≤ 1000000
end Go.Proofs.Ytilanbgciofkjaa.Pure
