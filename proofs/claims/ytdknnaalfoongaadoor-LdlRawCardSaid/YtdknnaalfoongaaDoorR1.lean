/- Layer 7's theorem. -/
import Derived.Test.YtdknnaalfoongaaDoorV2
set_option linter.unusedSimpArgs false
set_option linter.unusedVariables false
set_option maxRecDepth 100000
set_option maxHeartbeats 4000000
namespace Go.Proofs.YtdknnaalfoongaaDoor

end Go.Proofs.YtdknnaalfoongaaDoor
