/- Numbers of 256 bits in eight parts: lesser, sizes, products, sums. -/
import Derived.Test.YtdknnaalfoongaaGreatDoorP0
set_option linter.unusedSimpArgs false
set_option linter.unusedVariables false
set_option maxRecDepth 100000
set_option maxHeartbeats 4000000
namespace Go.Proofs.YtdknnaalfoongaaGreatDoor
noncomputable def c131 : Code := Tryz.f131.body.getD .skip
theorem b131 : Tryz.f131.body = some c131 := rfl
theorem d131 : fnOk Tryz.f131 c131 = true := by kernel_rfl
def D131 : Nat → List Tag
  | 4 => [.pure, .pure, .quiet, .pure, .pure, .quiet, .pure]
  | 5 => [.pure, .pure, .quiet, .pure, .pure, .quiet, .pure, .pure]
  | _ => []
theorem e131 : drawsOk D131 c131 = true := by kernel_rfl
theorem lowB_ok (a b : Nat) (S : Heap) (ha : a < 4294967296 ^ 8) (hb : b < 4294967296 ^ 8) : Call theE 131 [arrB a, arrB b] S (.bool (decide (a < b))) S := by
  have la : (uL (wB a)).length = 8 := by simp [uL, wB]
  have lb : (uL (wB b)).length = 8 := by simp [uL, wB]
  refine Call.ofC Tryz.func131 YtdknnaalfoongaaGreatDoor.b131 YtdknnaalfoongaaGreatDoor.d131 YtdknnaalfoongaaGreatDoor.e131 (by simp [Tryz.f131]) ?_
  dsimp only [YtdknnaalfoongaaGreatDoor.c131, Tryz.f131, Option.getD_some]
  simp (maxSteps := 2000000) only [wk0, wk1, wk2, wk3, wk4, wk5, wk6, Fr.ev, Fr.put, Fr.get, storeA, List.replicate, IntKind.bits, sevalprocAttr, arrB, la, lb, YtdknnaalfoongaaGreatDoor.D131, ty3, ty4, ty142, ty170]
  refine loopC_ind (fun m fr H => m ≤ 8 ∧ a / 4294967296 ^ m = b / 4294967296 ^ m ∧ fr.get 2 = .ptr S.length 0 0 ∧ fr.get 3 = .ptr (S.length + 1) 0 0 ∧ fr.get 5 = .int .i64 ((m : Int) - 1) ∧ H = S ++ [some ⟨uL (wB a), 0⟩, some ⟨uL (wB b), 0⟩]) ?_ (n := 8)
    ⟨Nat.le_refl _, by rw [Nat.div_eq_of_lt ha, Nat.div_eq_of_lt hb], rfl, rfl, rfl, rfl⟩
  rintro m fr H ⟨hm, hq, g2, g3, g5, rfl⟩ ih
  cases m with
  | zero =>
    have hab : a = b := by simpa using hq
    have p1 : ¬ (0 : Int) ≤ ((0 : Nat) : Int) - 1 := by omega
    simp (maxSteps := 2000000) only [wk0, wk1, wk2, wk3, wk4, wk5, wk6, Fr.ev, Fr.put, Fr.get, storeA, List.replicate, IntKind.bits, sevalprocAttr, g2, g3, g5, p1, YtdknnaalfoongaaGreatDoor.D131, ty3, ty4, ty142, ty170]
    exact retB_plain (by simp [nmd_bool]) (by simp [packA, hab]) (by simp)
  | succ k =>
    have p0 : ((k + 1 : Nat) : Int) - 1 = (k : Int) := by omega
    rw [p0] at g5
    have p1 : (0 : Int) ≤ (k : Int) := by omega
    have p2 : (k : Int) < 8 := by omega
    have w1 : IntKind.i64.wrap ((k : Int) - 1) = (k : Int) - 1 := wrapI (by omega)
    have ga := wB_get a (show k < 8 by omega)
    have gb := wB_get b (show k < 8 by omega)
    have hd := lessB hq
    by_cases hk : ((dB a k : Nat) : Int) = ((dB b k : Nat) : Int)
    · simp (maxSteps := 2000000) only [wk0, wk1, wk2, wk3, wk4, wk5, wk6, Fr.ev, Fr.put, Fr.get, storeA, List.replicate, IntKind.bits, sevalprocAttr, g2, g3, g5, p1, p2, w1, ga, gb, la, lb, hk, Int.toNat_natCast, Nat.mul_one, Nat.zero_add, YtdknnaalfoongaaGreatDoor.D131, ty3, ty4, ty142, ty170]
      exact ih k _ _ (by omega) ⟨by omega, hd.1 (by omega), by simp [Fr.get, g2], by simp [Fr.get, g3], by simp [Fr.get], rfl⟩
    · have hx : decide (((dB a k : Nat) : Int) < ((dB b k : Nat) : Int)) = decide (a < b) := by
        have := hd.2 (by omega)
        congr 1
        apply propext
        omega
      simp (maxSteps := 2000000) only [wk0, wk1, wk2, wk3, wk4, wk5, wk6, Fr.ev, Fr.put, Fr.get, storeA, List.replicate, IntKind.bits, sevalprocAttr, g2, g3, g5, p1, p2, w1, ga, gb, la, lb, hk, Int.toNat_natCast, Nat.mul_one, Nat.zero_add, YtdknnaalfoongaaGreatDoor.D131, ty3, ty4, ty142, ty170]
      exact retB_plain (by simp [nmd_bool]) (by rw [← hx]; simp [packA]) (by simp)
noncomputable def c87 : Code := Tryz.f87.body.getD .skip
theorem b87 : Tryz.f87.body = some c87 := rfl
theorem d87 : fnOk Tryz.f87 c87 = true := by kernel_rfl
def D87 : Nat → List Tag := fun _ => []
theorem e87 : drawsOk D87 c87 = true := by kernel_rfl
theorem sizeB_ok (a : Int) (S : Heap) (ha : inI a) : Call theE 87 [.int .i64 a] S (.int .u64 ((a.natAbs : Nat) : Int)) S := by
  unfold inI at ha
  have w0 : IntKind.u64.wrap a = a % 18446744073709551616 := wrapU64 a
  refine Call.ofC Tryz.func87 YtdknnaalfoongaaGreatDoor.b87 YtdknnaalfoongaaGreatDoor.d87 YtdknnaalfoongaaGreatDoor.e87 (by simp [Tryz.f87]) ?_
  dsimp only [YtdknnaalfoongaaGreatDoor.c87, Tryz.f87, Option.getD_some]
  by_cases h : a < 0
  · have w1 : IntKind.u64.wrap (0 - a % 18446744073709551616) = ((a.natAbs : Nat) : Int) := by rw [wrapU64]; omega
    simp (maxSteps := 2000000) only [wk0, wk1, wk2, wk3, wk4, wk5, wk6, Fr.ev, Fr.put, Fr.get, storeA, List.replicate, IntKind.bits, sevalprocAttr, h, w0, w1, YtdknnaalfoongaaGreatDoor.D87, ty2, ty4, ty142]
    exact retB_plain (by simp [nmd_int]) rfl (by simp)
  · have w1 : a % 18446744073709551616 = ((a.natAbs : Nat) : Int) := by omega
    simp (maxSteps := 2000000) only [wk0, wk1, wk2, wk3, wk4, wk5, wk6, Fr.ev, Fr.put, Fr.get, storeA, List.replicate, IntKind.bits, sevalprocAttr, h, w0, w1, YtdknnaalfoongaaGreatDoor.D87, ty2, ty4, ty142]
    exact retB_plain (by simp [nmd_int]) rfl (by simp)
end Go.Proofs.YtdknnaalfoongaaGreatDoor
