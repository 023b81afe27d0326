/- The plain law of FnExactBestEscape: the two printed functions answer alike. -/
import Derived.Test.YtilanbgciofkjaaPAx13
import Derived.Test.YtilanbgciofkjaaTescape
import GoSem.Claim
namespace Go.Proofs.Ytilanbgciofkjaa.Pure
end Go.Proofs.Ytilanbgciofkjaa.Pure
