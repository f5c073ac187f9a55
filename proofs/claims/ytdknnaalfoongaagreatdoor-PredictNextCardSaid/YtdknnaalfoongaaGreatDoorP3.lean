/- Numbers of 256 bits in eight parts: products. -/
import Derived.Test.YtdknnaalfoongaaGreatDoorP2
set_option linter.unusedSimpArgs false
set_option linter.unusedVariables false
set_option maxRecDepth 100000
set_option maxHeartbeats 4000000
namespace Go.Proofs.YtdknnaalfoongaaGreatDoor
theorem prodB {p00 p01 p10 p11 c0 d0 s01 d1 e1 s10 f1 g1 s11 f2 g2 : Nat} (h0 : p00 ≤ 18446744065119617025) (h1 : p01 ≤ 18446744065119617025) (h2 : p10 ≤ 18446744065119617025) (h3 : p11 ≤ 18446744065119617025)
    (hc0 : p00 / 4294967296 = c0) (hd0 : p00 % 4294967296 = d0) (hs01 : p01 + c0 = s01) (hd1 : s01 % 4294967296 = d1) (he1 : s01 / 4294967296 = e1) (hs10 : d1 + p10 = s10) (hf1 : s10 % 4294967296 = f1) (hg1 : s10 / 4294967296 = g1)
    (hs11 : e1 + p11 + g1 = s11) (hf2 : s11 % 4294967296 = f2) (hg2 : s11 / 4294967296 = g2) :
    uL (wB (p00 + 4294967296 * (p01 + p10) + 18446744073709551616 * p11)) = [.int .u64 (d0 : Int), .int .u64 (f1 : Int), .int .u64 (f2 : Int), .int .u64 (g2 : Int), .int .u64 0, .int .u64 0, .int .u64 0, .int .u64 0] := by
  have e : List.range 8 = [0, 1, 2, 3, 4, 5, 6, 7] := rfl
  unfold uL wB dB
  rw [e]
  simp only [List.map_cons, List.map_nil, List.cons.injEq, and_true, AV.int.injEq, true_and]
  refine ⟨?_, ?_, ?_, ?_, ?_, ?_, ?_, ?_⟩ <;> simp only [Nat.reducePow] <;> omega
noncomputable def c115 : Code := Tryz.f115.body.getD .skip
theorem b115 : Tryz.f115.body = some c115 := rfl
theorem d115 : fnOk Tryz.f115 c115 = true := by kernel_rfl
def D115 : Nat → List Tag
  | 11 => [.pure, .pure, .pure, .pure, .pure, .quiet, .pure, .pure, .pure, .quiet, .pure, .pure, .pure, .quiet, .pure, .pure, .pure, .pure, .pure]
  | _ => []
theorem e115 : drawsOk D115 c115 = true := by kernel_rfl
theorem prod_ok (a b : Int) (S : Heap) (ha : inI a) (hb : inI b) : Call theE 115 [.int .i64 a, .int .i64 b] S (longP (decide (a < 0) != decide (b < 0), a.natAbs * b.natAbs)) S := by
  have sa := fun S => sizeB_ok a S ha
  have sb := fun S => sizeB_ok b S hb
  unfold inI at ha hb
  obtain ⟨X, hX⟩ : ∃ X, a.natAbs = X := ⟨_, rfl⟩
  obtain ⟨Y, hY⟩ : ∃ Y, b.natAbs = Y := ⟨_, rfl⟩
  rw [hX] at sa
  rw [hY] at sb
  have r1 : Int.tmod (X : Int) 4294967296 = ((X % 4294967296 : Nat) : Int) := by rw [Int.tmod_eq_emod_of_nonneg (by omega)]; omega
  have r2 : Int.tdiv (X : Int) 4294967296 = ((X / 4294967296 : Nat) : Int) := by rw [Int.tdiv_eq_ediv_of_nonneg (by omega)]; omega
  have r3 : Int.tmod (Y : Int) 4294967296 = ((Y % 4294967296 : Nat) : Int) := by rw [Int.tmod_eq_emod_of_nonneg (by omega)]; omega
  have r4 : Int.tdiv (Y : Int) 4294967296 = ((Y / 4294967296 : Nat) : Int) := by rw [Int.tdiv_eq_ediv_of_nonneg (by omega)]; omega
  obtain ⟨x0, hx0⟩ : ∃ x, X % 4294967296 = x := ⟨_, rfl⟩
  obtain ⟨x1, hx1⟩ : ∃ x, X / 4294967296 = x := ⟨_, rfl⟩
  obtain ⟨y0, hy0⟩ : ∃ x, Y % 4294967296 = x := ⟨_, rfl⟩
  obtain ⟨y1, hy1⟩ : ∃ x, Y / 4294967296 = x := ⟨_, rfl⟩
  rw [hx0] at r1
  rw [hx1] at r2
  rw [hy0] at r3
  rw [hy1] at r4
  have lx0 : x0 ≤ 4294967295 := by omega
  have lx1 : x1 ≤ 4294967295 := by omega
  have ly0 : y0 ≤ 4294967295 := by omega
  have ly1 : y1 ≤ 4294967295 := by omega
  have ex : X = x0 + 4294967296 * x1 := by omega
  have ey : Y = y0 + 4294967296 * y1 := by omega
  have c1 : IntKind.u64.wrap (x0 : Int) = x0 := wrapU (by omega)
  have c2 : IntKind.u64.wrap (x1 : Int) = x1 := wrapU (by omega)
  have c3 : IntKind.u64.wrap (y0 : Int) = y0 := wrapU (by omega)
  have c4 : IntKind.u64.wrap (y1 : Int) = y1 := wrapU (by omega)
  obtain ⟨p00, h00⟩ : ∃ p, x0 * y0 = p := ⟨_, rfl⟩
  obtain ⟨p01, h01⟩ : ∃ p, x0 * y1 = p := ⟨_, rfl⟩
  obtain ⟨p10, h10⟩ : ∃ p, x1 * y0 = p := ⟨_, rfl⟩
  obtain ⟨p11, h11⟩ : ∃ p, x1 * y1 = p := ⟨_, rfl⟩
  have l00 : p00 ≤ 18446744065119617025 := by rw [← h00]; exact Nat.mul_le_mul lx0 ly0
  have l01 : p01 ≤ 18446744065119617025 := by rw [← h01]; exact Nat.mul_le_mul lx0 ly1
  have l10 : p10 ≤ 18446744065119617025 := by rw [← h10]; exact Nat.mul_le_mul lx1 ly0
  have l11 : p11 ≤ 18446744065119617025 := by rw [← h11]; exact Nat.mul_le_mul lx1 ly1
  have m00 : IntKind.u64.wrap ((x0 : Int) * y0) = (p00 : Int) := by rw [← Int.natCast_mul, h00]; exact wrapU (by omega)
  have m01 : IntKind.u64.wrap ((x0 : Int) * y1) = (p01 : Int) := by rw [← Int.natCast_mul, h01]; exact wrapU (by omega)
  have m10 : IntKind.u64.wrap ((x1 : Int) * y0) = (p10 : Int) := by rw [← Int.natCast_mul, h10]; exact wrapU (by omega)
  have m11 : IntKind.u64.wrap ((x1 : Int) * y1) = (p11 : Int) := by rw [← Int.natCast_mul, h11]; exact wrapU (by omega)
  have hN : X * Y = p00 + 4294967296 * (p01 + p10) + 18446744073709551616 * p11 := by
    rw [ex, ey, ← h00, ← h01, ← h10, ← h11, Nat.add_mul, Nat.mul_add, Nat.mul_add, Nat.mul_add, Nat.mul_left_comm x0, Nat.mul_assoc 4294967296 x1 y0, Nat.mul_assoc 4294967296 x1, Nat.mul_left_comm x1 4294967296 y1]
    omega
  obtain ⟨c0, hc0⟩ : ∃ x, p00 / 4294967296 = x := ⟨_, rfl⟩
  obtain ⟨d0, hd0⟩ : ∃ x, p00 % 4294967296 = x := ⟨_, rfl⟩
  obtain ⟨s01, hs01⟩ : ∃ x, p01 + c0 = x := ⟨_, rfl⟩
  obtain ⟨d1, hd1⟩ : ∃ x, s01 % 4294967296 = x := ⟨_, rfl⟩
  obtain ⟨e1, he1⟩ : ∃ x, s01 / 4294967296 = x := ⟨_, rfl⟩
  obtain ⟨s10, hs10⟩ : ∃ x, d1 + p10 = x := ⟨_, rfl⟩
  obtain ⟨f1, hf1⟩ : ∃ x, s10 % 4294967296 = x := ⟨_, rfl⟩
  obtain ⟨g1, hg1⟩ : ∃ x, s10 / 4294967296 = x := ⟨_, rfl⟩
  obtain ⟨s11, hs11⟩ : ∃ x, e1 + p11 + g1 = x := ⟨_, rfl⟩
  obtain ⟨f2, hf2⟩ : ∃ x, s11 % 4294967296 = x := ⟨_, rfl⟩
  obtain ⟨g2, hg2⟩ : ∃ x, s11 / 4294967296 = x := ⟨_, rfl⟩
  have pb := prodB l00 l01 l10 l11 hc0 hd0 hs01 hd1 he1 hs10 hf1 hg1 hs11 hf2 hg2
  have wz : ∀ x : Nat, x < 18446744073709551616 → IntKind.u64.wrap (0 + (x : Int)) = x := fun x h => by rw [Int.zero_add]; exact wrapU (by omega)
  have wy : ∀ x : Nat, x < 18446744073709551616 → IntKind.u64.wrap ((x : Int) + 0) = x := fun x h => by rw [Int.add_zero]; exact wrapU (by omega)
  have ws : ∀ x y z : Nat, x + y = z → z < 18446744073709551616 → IntKind.u64.wrap ((x : Int) + (y : Int)) = z := fun x y z h hz => by rw [wrapU (by omega)]; omega
  have wt : ∀ x y : Nat, x % 4294967296 = y → Int.tmod (x : Int) 4294967296 = y := fun x y h => by rw [Int.tmod_eq_emod_of_nonneg (by omega)]; omega
  have wd : ∀ x y : Nat, x / 4294967296 = y → Int.tdiv (x : Int) 4294967296 = y := fun x y h => by rw [Int.tdiv_eq_ediv_of_nonneg (by omega)]; omega
  have ww : ∀ x : Nat, x < 18446744073709551616 → IntKind.u64.wrap (x : Int) = x := fun x h => wrapU (by omega)
  have a1 := wz p00 (by omega)
  have a2 := wy p00 (by omega)
  have t1 := wt _ _ hd0
  have t2 := wd _ _ hc0
  have u1 := ww d0 (by omega)
  have u2 := ww c0 (by omega)
  have b1 := wz p01 (by omega)
  have b2 := ws _ _ _ hs01 (by omega)
  have t3 := wt _ _ hd1
  have t4 := wd _ _ he1
  have u3 := ww d1 (by omega)
  have u4 := ww e1 (by omega)
  have b3 := wz e1 (by omega)
  have k1 := ws _ _ _ hs10 (by omega)
  have k2 := wy s10 (by omega)
  have t5 := wt _ _ hf1
  have t6 := wd _ _ hg1
  have u5 := ww f1 (by omega)
  have u6 := ww g1 (by omega)
  obtain ⟨q11, hq11⟩ : ∃ x, e1 + p11 = x := ⟨_, rfl⟩
  have k3 := ws _ _ _ hq11 (by omega)
  have k4 := ws q11 g1 s11 (by omega) (by omega)
  have t7 := wt _ _ hf2
  have t8 := wd _ _ hg2
  have u7 := ww f2 (by omega)
  have u8 := ww g2 (by omega)
  have k5 := wz g2 (by omega)
  clear wz wy ws wt wd ww
  rw [hX, hY, hN]
  unfold longP longA
  rw [pb]
  clear pb hN ex ey
  refine Call.ofC Tryz.func115 YtdknnaalfoongaaGreatDoor.b115 YtdknnaalfoongaaGreatDoor.d115 YtdknnaalfoongaaGreatDoor.e115 (by simp [Tryz.f115]) ?_
  dsimp only [YtdknnaalfoongaaGreatDoor.c115, Tryz.f115, Option.getD_some]
  simp (maxSteps := 2000000) only [wk0, wk1, wk2, wk3, wk4, wk5, wk6, Fr.ev, Fr.put, Fr.get, storeA, List.replicate, IntKind.bits, sevalprocAttr, YtdknnaalfoongaaGreatDoor.D115, ty1, ty2, ty3, ty4, ty142, ty170, ty172, ty193]
  refine callThen_of (sa _) ?_
  simp (maxSteps := 2000000) only [wk0, wk1, wk2, wk3, wk4, wk5, wk6, Fr.ev, Fr.put, Fr.get, storeA, List.replicate, IntKind.bits, sevalprocAttr, r1, c1, YtdknnaalfoongaaGreatDoor.D115, ty1, ty2, ty3, ty4, ty142, ty170, ty172, ty193]
  refine callThen_of (sa _) ?_
  simp (maxSteps := 2000000) only [wk0, wk1, wk2, wk3, wk4, wk5, wk6, Fr.ev, Fr.put, Fr.get, storeA, List.replicate, IntKind.bits, sevalprocAttr, r2, c2, YtdknnaalfoongaaGreatDoor.D115, ty1, ty2, ty3, ty4, ty142, ty170, ty172, ty193]
  refine callThen_of (sb _) ?_
  simp (maxSteps := 2000000) only [wk0, wk1, wk2, wk3, wk4, wk5, wk6, Fr.ev, Fr.put, Fr.get, storeA, List.replicate, IntKind.bits, sevalprocAttr, r3, c3, YtdknnaalfoongaaGreatDoor.D115, ty1, ty2, ty3, ty4, ty142, ty170, ty172, ty193]
  refine callThen_of (sb _) ?_
  simp (maxSteps := 2000000) only [wk0, wk1, wk2, wk3, wk4, wk5, wk6, Fr.ev, Fr.put, Fr.get, storeA, List.replicate, IntKind.bits, sevalprocAttr, r4, c4, YtdknnaalfoongaaGreatDoor.D115, ty1, ty2, ty3, ty4, ty142, ty170, ty172, ty193]
  refine loopC_of ?_
  simp (maxSteps := 2000000) only [wk0, wk1, wk2, wk3, wk4, wk5, wk6, Fr.ev, Fr.put, Fr.get, storeA, List.replicate, IntKind.bits, sevalprocAttr, YtdknnaalfoongaaGreatDoor.D115, ty1, ty2, ty3, ty4, ty142, ty170, ty172, ty193]
  refine loopC_of ?_
  simp (maxSteps := 2000000) only [wk0, wk1, wk2, wk3, wk4, wk5, wk6, Fr.ev, Fr.put, Fr.get, storeA, List.replicate, IntKind.bits, sevalprocAttr, m00, a1, a2, t1, t2, u1, u2, YtdknnaalfoongaaGreatDoor.D115, ty1, ty2, ty3, ty4, ty142, ty170, ty172, ty193]
  refine loopC_of ?_
  simp (maxSteps := 2000000) only [wk0, wk1, wk2, wk3, wk4, wk5, wk6, Fr.ev, Fr.put, Fr.get, storeA, List.replicate, IntKind.bits, sevalprocAttr, m01, b1, b2, t3, t4, u3, u4, YtdknnaalfoongaaGreatDoor.D115, ty1, ty2, ty3, ty4, ty142, ty170, ty172, ty193]
  refine loopC_of ?_
  simp (maxSteps := 2000000) only [wk0, wk1, wk2, wk3, wk4, wk5, wk6, Fr.ev, Fr.put, Fr.get, storeA, List.replicate, IntKind.bits, sevalprocAttr, b3, YtdknnaalfoongaaGreatDoor.D115, ty1, ty2, ty3, ty4, ty142, ty170, ty172, ty193]
  refine loopC_of ?_
  simp (maxSteps := 2000000) only [wk0, wk1, wk2, wk3, wk4, wk5, wk6, Fr.ev, Fr.put, Fr.get, storeA, List.replicate, IntKind.bits, sevalprocAttr, YtdknnaalfoongaaGreatDoor.D115, ty1, ty2, ty3, ty4, ty142, ty170, ty172, ty193]
  refine loopC_of ?_
  simp (maxSteps := 2000000) only [wk0, wk1, wk2, wk3, wk4, wk5, wk6, Fr.ev, Fr.put, Fr.get, storeA, List.replicate, IntKind.bits, sevalprocAttr, m10, k1, k2, t5, t6, u5, u6, YtdknnaalfoongaaGreatDoor.D115, ty1, ty2, ty3, ty4, ty142, ty170, ty172, ty193]
  refine loopC_of ?_
  simp (maxSteps := 2000000) only [wk0, wk1, wk2, wk3, wk4, wk5, wk6, Fr.ev, Fr.put, Fr.get, storeA, List.replicate, IntKind.bits, sevalprocAttr, m11, k3, k4, t7, t8, u7, u8, YtdknnaalfoongaaGreatDoor.D115, ty1, ty2, ty3, ty4, ty142, ty170, ty172, ty193]
  refine loopC_of ?_
  simp (maxSteps := 2000000) only [wk0, wk1, wk2, wk3, wk4, wk5, wk6, Fr.ev, Fr.put, Fr.get, storeA, List.replicate, IntKind.bits, sevalprocAttr, k5, YtdknnaalfoongaaGreatDoor.D115, ty1, ty2, ty3, ty4, ty142, ty170, ty172, ty193]
  refine loopC_of ?_
  simp (maxSteps := 2000000) only [wk0, wk1, wk2, wk3, wk4, wk5, wk6, Fr.ev, Fr.put, Fr.get, storeA, List.replicate, IntKind.bits, sevalprocAttr, YtdknnaalfoongaaGreatDoor.D115, ty1, ty2, ty3, ty4, ty142, ty170, ty172, ty193]
  exact retB_plain (by simp [nmd_agg, nmd_bool, nmd_int]) rfl (by simp)
end Go.Proofs.YtdknnaalfoongaaGreatDoor
