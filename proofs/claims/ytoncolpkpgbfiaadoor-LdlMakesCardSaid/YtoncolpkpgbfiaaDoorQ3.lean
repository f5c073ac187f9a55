/- qnum: other bits behind the point. -/
import Derived.Test.YtoncolpkpgbfiaaDoorQ2
set_option linter.unusedSimpArgs false
set_option linter.unusedVariables false
set_option maxRecDepth 100000
set_option maxHeartbeats 4000000
namespace Go.Proofs.YtoncolpkpgbfiaaDoor
theorem pow62 (n : Nat) (h : n ≤ 62) : (1 : Int) ≤ 2 ^ n ∧ (2 : Int) ^ n ≤ 4611686018427387904 := by
  refine ⟨Int.pow_pos (by decide), ?_⟩
  have h1 := Nat.pow_le_pow_right (n := 2) (by decide) h
  have h2 : ((2 ^ n : Nat) : Int) ≤ ((2 ^ 62 : Nat) : Int) := Int.ofNat_le.2 h1
  simpa using h2
noncomputable def c110 : Code := Tryd.f110.body.getD .skip
theorem b110 : Tryd.f110.body = some c110 := rfl
theorem d110 : fnOk Tryd.f110 c110 = true := by kernel_rfl
def D110 : Nat → List Tag := fun _ => []
theorem e110 : drawsOk D110 c110 = true := by kernel_rfl
theorem move_up (a : Int) (f k : Nat) (S : Heap) (hk : f + k ≤ 62) (ha : inI a) :
    Call theE 110 [.int .i64 a, .int .i64 f, .int .i64 ((f + k : Nat) : Int)] S (.tup [.int .i64 (bndI (a * 2 ^ k)), .bool (ovrB (a * 2 ^ k)), .nili]) S := by
  have hp := pow62 k (by omega)
  have c1 : decide (0 ≤ (f : Int) ∧ (f : Int) ≤ 62) = true := decide_eq_true (by omega)
  have c2 : decide (0 ≤ ((f + k : Nat) : Int) ∧ ((f + k : Nat) : Int) ≤ 62) = true := decide_eq_true (by omega)
  have q1 := fun S => pointed_ok f S
  have q2 := fun S => pointed_ok ((f + k : Nat) : Int) S
  rw [c1] at q1
  rw [c2] at q2
  have c3 : (f : Int) ≤ ((f + k : Nat) : Int) := by omega
  have c4 : IntKind.i64.wrap (((f + k : Nat) : Int) - f) = k := by rw [wrapI64]; omega
  have c5 : ¬ (k : Int) < 0 := by omega
  have c6 : (k : Int).toNat = k := by omega
  have c7 : k ≤ 64 := by omega
  have c8 : IntKind.i64.wrap (1 * 2 ^ k) = 2 ^ k := by rw [Int.one_mul]; exact wrapI (by omega)
  have hB : -42535295865117307932921825928971026432 ≤ a * 2 ^ k ∧ a * 2 ^ k ≤ 42535295865117307932921825928971026432 := by
    unfold inI at ha
    have hC : ((a * 2 ^ k).natAbs : Int) = (a.natAbs : Int) * (((2 : Int) ^ k).natAbs : Int) := by rw [Int.natAbs_mul]; simp
    have hB : 0 ≤ (a.natAbs : Int) * (((2 : Int) ^ k).natAbs : Int) ∧ (a.natAbs : Int) * (((2 : Int) ^ k).natAbs : Int) ≤ 9223372036854775808 * 4611686018427387904 := mulB (by omega) (by omega) (by omega) (by omega)
    rw [← hC] at hB
    omega
  have qp := fun S => product_ok a (2 ^ k) S ha (by omega)
  refine Call.ofC Tryd.func110 YtoncolpkpgbfiaaDoor.b110 YtoncolpkpgbfiaaDoor.d110 YtoncolpkpgbfiaaDoor.e110 (by simp [Tryd.f110]) ?_
  dsimp only [YtoncolpkpgbfiaaDoor.c110, Tryd.f110, Option.getD_some]
  simp (maxSteps := 2000000) only [wk0, wk1, wk2, wk3, wk4, wk5, wk6, Fr.ev, Fr.put, Fr.get, storeA, List.replicate, IntKind.bits, sevalprocAttr, YtoncolpkpgbfiaaDoor.D110, ty2, ty3, ty4, ty30, ty75, ty166]
  refine callThen_of (q1 _) ?_
  simp (maxSteps := 2000000) only [wk0, wk1, wk2, wk3, wk4, wk5, wk6, Fr.ev, Fr.put, Fr.get, storeA, List.replicate, IntKind.bits, sevalprocAttr, YtoncolpkpgbfiaaDoor.D110, ty2, ty3, ty4, ty30, ty75, ty166]
  refine callThen_of (q2 _) ?_
  simp (maxSteps := 2000000) only [wk0, wk1, wk2, wk3, wk4, wk5, wk6, Fr.ev, Fr.put, Fr.get, storeA, List.replicate, IntKind.bits, sevalprocAttr, YtoncolpkpgbfiaaDoor.D110, ty2, ty3, ty4, ty30, ty75, ty166]
  refine callThen_of (of_ok a _ ha) ?_
  simp (maxSteps := 2000000) only [wk0, wk1, wk2, wk3, wk4, wk5, wk6, Fr.ev, Fr.put, Fr.get, storeA, List.replicate, IntKind.bits, sevalprocAttr, enc3, c3, c4, c5, c6, c7, c8, YtoncolpkpgbfiaaDoor.D110, ty2, ty3, ty4, ty30, ty75, ty166]
  refine callThen_of (qp _) ?_
  simp (maxSteps := 2000000) only [wk0, wk1, wk2, wk3, wk4, wk5, wk6, Fr.ev, Fr.put, Fr.get, storeA, List.replicate, IntKind.bits, sevalprocAttr, enc3, YtoncolpkpgbfiaaDoor.D110, ty2, ty3, ty4, ty30, ty75, ty166]
  refine callThen_of (bounded_ok _ _ (by omega)) ?_
  simp (maxSteps := 2000000) only [wk0, wk1, wk2, wk3, wk4, wk5, wk6, Fr.ev, Fr.put, Fr.get, storeA, List.replicate, IntKind.bits, sevalprocAttr, enc3, YtoncolpkpgbfiaaDoor.D110, ty2, ty3, ty4, ty30, ty75, ty166]
  exact retB_plain (by simp [nmd_int, nmd_bool, nmd_nili]) rfl (by simp)
theorem move_down (a : Int) (t k : Nat) (S : Heap) (hk : t + (k + 1) ≤ 62) (ha : inI a) :
    Call theE 110 [.int .i64 a, .int .i64 ((t + (k + 1) : Nat) : Int), .int .i64 t] S (.tup [.int .i64 (bndI (rnd a (2 ^ (k + 1)))), .bool (ovrB (rnd a (2 ^ (k + 1)))), .nili]) S := by
  have c1 : decide (0 ≤ (t : Int) ∧ (t : Int) ≤ 62) = true := decide_eq_true (by omega)
  have c2 : decide (0 ≤ ((t + (k + 1) : Nat) : Int) ∧ ((t + (k + 1) : Nat) : Int) ≤ 62) = true := decide_eq_true (by omega)
  have q1 := fun S => pointed_ok t S
  have q2 := fun S => pointed_ok ((t + (k + 1) : Nat) : Int) S
  rw [c1] at q1
  rw [c2] at q2
  have c3 : ¬ ((t + (k + 1) : Nat) : Int) ≤ t := by omega
  have c4 : IntKind.i64.wrap (((t + (k + 1) : Nat) : Int) - t) = ((k + 1 : Nat) : Int) := by rw [wrapI64]; omega
  unfold inI at ha
  have hR := rnd_bound a (k + 1) 9223372036854775808 (by decide) (by omega)
  have qh := fun S => half_any a (k + 1) S (by omega) (by omega)
  refine Call.ofC Tryd.func110 YtoncolpkpgbfiaaDoor.b110 YtoncolpkpgbfiaaDoor.d110 YtoncolpkpgbfiaaDoor.e110 (by simp [Tryd.f110]) ?_
  dsimp only [YtoncolpkpgbfiaaDoor.c110, Tryd.f110, Option.getD_some]
  simp (maxSteps := 2000000) only [wk0, wk1, wk2, wk3, wk4, wk5, wk6, Fr.ev, Fr.put, Fr.get, storeA, List.replicate, IntKind.bits, sevalprocAttr, YtoncolpkpgbfiaaDoor.D110, ty2, ty3, ty4, ty30, ty75, ty166]
  refine callThen_of (q2 _) ?_
  simp (maxSteps := 2000000) only [wk0, wk1, wk2, wk3, wk4, wk5, wk6, Fr.ev, Fr.put, Fr.get, storeA, List.replicate, IntKind.bits, sevalprocAttr, YtoncolpkpgbfiaaDoor.D110, ty2, ty3, ty4, ty30, ty75, ty166]
  refine callThen_of (q1 _) ?_
  simp (maxSteps := 2000000) only [wk0, wk1, wk2, wk3, wk4, wk5, wk6, Fr.ev, Fr.put, Fr.get, storeA, List.replicate, IntKind.bits, sevalprocAttr, YtoncolpkpgbfiaaDoor.D110, ty2, ty3, ty4, ty30, ty75, ty166]
  refine callThen_of (of_ok a _ ha) ?_
  simp (maxSteps := 2000000) only [wk0, wk1, wk2, wk3, wk4, wk5, wk6, Fr.ev, Fr.put, Fr.get, storeA, List.replicate, IntKind.bits, sevalprocAttr, enc3, c3, c4, YtoncolpkpgbfiaaDoor.D110, ty2, ty3, ty4, ty30, ty75, ty166]
  refine callThen_of (qh _) ?_
  simp (maxSteps := 2000000) only [wk0, wk1, wk2, wk3, wk4, wk5, wk6, Fr.ev, Fr.put, Fr.get, storeA, List.replicate, IntKind.bits, sevalprocAttr, enc3, YtoncolpkpgbfiaaDoor.D110, ty2, ty3, ty4, ty30, ty75, ty166]
  refine callThen_of (bounded_ok _ _ (by omega)) ?_
  simp (maxSteps := 2000000) only [wk0, wk1, wk2, wk3, wk4, wk5, wk6, Fr.ev, Fr.put, Fr.get, storeA, List.replicate, IntKind.bits, sevalprocAttr, enc3, YtoncolpkpgbfiaaDoor.D110, ty2, ty3, ty4, ty30, ty75, ty166]
  exact retB_plain (by simp [nmd_int, nmd_bool, nmd_nili]) rfl (by simp)
theorem move_bad (a f t : Int) (S : Heap) (h : ¬ ((0 ≤ f ∧ f ≤ 62) ∧ 0 ≤ t ∧ t ≤ 62)) : Call theE 110 [.int .i64 a, .int .i64 f, .int .i64 t] S (.tup [.int .i64 0, .bool false, errA 1]) S := by
  refine Call.ofC Tryd.func110 YtoncolpkpgbfiaaDoor.b110 YtoncolpkpgbfiaaDoor.d110 YtoncolpkpgbfiaaDoor.e110 (by simp [Tryd.f110]) ?_
  dsimp only [YtoncolpkpgbfiaaDoor.c110, Tryd.f110, Option.getD_some]
  simp (maxSteps := 2000000) only [wk0, wk1, wk2, wk3, wk4, wk5, wk6, Fr.ev, Fr.put, Fr.get, storeA, List.replicate, IntKind.bits, sevalprocAttr, YtoncolpkpgbfiaaDoor.D110, ty2, ty3, ty4, ty30, ty75, ty166]
  refine callThen_of (pointed_ok f _) ?_
  by_cases h1 : 0 ≤ f ∧ f ≤ 62
  · have h2 : ¬ (0 ≤ t ∧ t ≤ 62) := fun h2 => h ⟨h1, h2⟩
    simp (maxSteps := 2000000) only [wk0, wk1, wk2, wk3, wk4, wk5, wk6, Fr.ev, Fr.put, Fr.get, storeA, List.replicate, IntKind.bits, sevalprocAttr, h1, YtoncolpkpgbfiaaDoor.D110, ty2, ty3, ty4, ty30, ty75, ty166]
    refine callThen_of (pointed_ok t _) ?_
    simp (maxSteps := 2000000) only [wk0, wk1, wk2, wk3, wk4, wk5, wk6, Fr.ev, Fr.put, Fr.get, storeA, List.replicate, IntKind.bits, sevalprocAttr, h2, YtoncolpkpgbfiaaDoor.D110, ty2, ty3, ty4, ty30, ty75, ty166]
    exact retB_plain (by simp [nmd_int, nmd_bool, nmd_ifc]) rfl (by simp)
  · simp (maxSteps := 2000000) only [wk0, wk1, wk2, wk3, wk4, wk5, wk6, Fr.ev, Fr.put, Fr.get, storeA, List.replicate, IntKind.bits, sevalprocAttr, h1, YtoncolpkpgbfiaaDoor.D110, ty2, ty3, ty4, ty30, ty75, ty166]
    exact retB_plain (by simp [nmd_int, nmd_bool, nmd_ifc]) rfl (by simp)
end Go.Proofs.YtoncolpkpgbfiaaDoor
