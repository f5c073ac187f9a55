/- Decimals: which is greater; numbers of 64 bits; what is bounded. -/
import Derived.Test.YtoncolpkpgbfiaaDoorD3
set_option linter.unusedSimpArgs false
set_option linter.unusedVariables false
set_option maxRecDepth 100000
set_option maxHeartbeats 4000000
namespace Go.Proofs.YtoncolpkpgbfiaaDoor
theorem lenD_pos {n : Nat} (h : 0 < n) : 0 < lenD n := (lt_lenD n 0).2 (by omega)

theorem lenD_subI {x y : Int} {k : Nat} (hx : lenD x.natAbs ≤ k) (hy : lenD y.natAbs ≤ k) : lenD (x - y).natAbs ≤ k + 1 := lenD_mono (show (x - y).natAbs ≤ x.natAbs + y.natAbs by omega) (lenD_add hx hy)



end Go.Proofs.YtoncolpkpgbfiaaDoor
