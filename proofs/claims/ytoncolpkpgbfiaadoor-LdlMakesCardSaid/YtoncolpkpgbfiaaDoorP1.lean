/- Numbers of 256 bits in eight parts: lesser, sizes, products, sums. -/
import Derived.Test.YtoncolpkpgbfiaaDoorP0
set_option linter.unusedSimpArgs false
set_option linter.unusedVariables false
set_option maxRecDepth 100000
set_option maxHeartbeats 4000000
namespace Go.Proofs.YtoncolpkpgbfiaaDoor


end Go.Proofs.YtoncolpkpgbfiaaDoor
