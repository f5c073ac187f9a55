/- Numbers of 256 bits in eight parts: products. -/
import Derived.Test.YtoncolpkpgbfiaaDoorP2
set_option linter.unusedSimpArgs false
set_option linter.unusedVariables false
set_option maxRecDepth 100000
set_option maxHeartbeats 4000000
namespace Go.Proofs.YtoncolpkpgbfiaaDoor
theorem prodB {p00 p01 p10 p11 c0 d0 s01 d1 e1 s10 f1 g1 s11 f2 g2 : Nat} (h0 : p00 ≤ 18446744065119617025) (h1 : p01 ≤ 18446744065119617025) (h2 : p10 ≤ 18446744065119617025) (h3 : p11 ≤ 18446744065119617025)
    (hc0 : p00 / 4294967296 = c0) (hd0 : p00 % 4294967296 = d0) (hs01 : p01 + c0 = s01) (hd1 : s01 % 4294967296 = d1) (he1 : s01 / 4294967296 = e1) (hs10 : d1 + p10 = s10) (hf1 : s10 % 4294967296 = f1) (hg1 : s10 / 4294967296 = g1)
    (hs11 : e1 + p11 + g1 = s11) (hf2 : s11 % 4294967296 = f2) (hg2 : s11 / 4294967296 = g2) :
    uL (wB (p00 + 4294967296 * (p01 + p10) + 18446744073709551616 * p11)) = [.int .u64 (d0 : Int), .int .u64 (f1 : Int), .int .u64 (f2 : Int), .int .u64 (g2 : Int), .int .u64 0, .int .u64 0, .int .u64 0, .int .u64 0] := by
  have e : List.range 8 = [0, 1, 2, 3, 4, 5, 6, 7] := rfl
  unfold uL wB dB
  rw [e]
  simp only [List.map_cons, List.map_nil, List.cons.injEq, and_true, AV.int.injEq, true_and]
  refine ⟨?_, ?_, ?_, ?_, ?_, ?_, ?_, ?_⟩ <;> simp only [Nat.reducePow] <;> omega

end Go.Proofs.YtoncolpkpgbfiaaDoor
