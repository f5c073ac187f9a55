/- Layer 7's theorem. -/
import Derived.Test.YtdknnaalfoongaaGreatDoorV2
set_option linter.unusedSimpArgs false
set_option linter.unusedVariables false
set_option maxRecDepth 100000
set_option maxHeartbeats 4000000
namespace Go.Proofs.YtdknnaalfoongaaGreatDoor

end Go.Proofs.YtdknnaalfoongaaGreatDoor
