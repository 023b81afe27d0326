/- The plain law of FnExactIsPursuerWin: the two printed functions answer alike. -/
import Derived.Test.YtilanbgciofkjaaPAx15
import Derived.Test.YtilanbgciofkjaaTstarts
import GoSem.Claim
namespace Go.Proofs.Ytilanbgciofkjaa.Pure
def IsPursuerWin : Prop := ∀ (n0 : Int) (l0_1 : List Int), ((Lit.int .i64 n0).wf = true) → (∀ x ∈ l0_1, (Lit.int .i64 x).wf = true) → l0_1.length ≤ 1000000 → ∃ (ks ki : Nat) (r : Bool), Go.Proofs.Ytilanbgciofkjaa.PA.spec_IsPursuerWin.f ks n0 l0_1 = some r ∧ Go.Proofs.Ytilanbgciofkjaa.PA.impl_IsPursuerWin.f ki n0 l0_1 = some r
end Go.Proofs.Ytilanbgciofkjaa.Pure
