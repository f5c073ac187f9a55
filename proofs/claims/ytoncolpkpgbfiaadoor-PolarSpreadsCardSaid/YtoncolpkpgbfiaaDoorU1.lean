/- trig: a pair turned step by step; the sine and the cosine. -/
import Derived.Test.YtoncolpkpgbfiaaDoorU0
set_option linter.unusedSimpArgs false
set_option linter.unusedVariables false
set_option maxRecDepth 100000
set_option maxHeartbeats 4000000
namespace Go.Proofs.YtoncolpkpgbfiaaDoor
noncomputable def c94 : Code := Tryd.f94.body.getD .skip
theorem b94 : Tryd.f94.body = some c94 := rfl
theorem d94 : fnOk Tryd.f94 c94 = true := by kernel_rfl
def D94 : Nat → List Tag := fun _ => []
theorem e94 : drawsOk D94 c94 = true := by kernel_rfl
noncomputable def c95 : Code := Tryd.f95.body.getD .skip
theorem b95 : Tryd.f95.body = some c95 := rfl
theorem d95 : fnOk Tryd.f95 c95 = true := by kernel_rfl
def D95 : Nat → List Tag
  | 1 => [.pure, .quiet, .pure, .quiet, .pure, .pure, .pure, .pure, .quiet, .pure, .quiet, .pure, .pure, .pure, .pure, .seq]
  | _ => []
theorem e95 : drawsOk D95 c95 = true := by kernel_rfl
noncomputable def c96 : Code := Tryd.f96.body.getD .skip
theorem b96 : Tryd.f96.body = some c96 := rfl
theorem d96 : fnOk Tryd.f96 c96 = true := by kernel_rfl
def D96 : Nat → List Tag
  | 1 => [.pure, .quiet, .pure, .quiet, .pure, .pure, .pure, .pure, .quiet, .pure, .quiet, .pure, .pure, .pure, .pure, .seq]
  | _ => []
theorem e96 : drawsOk D96 c96 = true := by kernel_rfl
noncomputable def c97 : Code := Tryd.f97.body.getD .skip
theorem b97 : Tryd.f97.body = some c97 := rfl
theorem d97 : fnOk Tryd.f97 c97 = true := by kernel_rfl
def D97 : Nat → List Tag := fun _ => []
theorem e97 : drawsOk D97 c97 = true := by kernel_rfl
noncomputable def c72 : Code := Tryd.f72.body.getD .skip
theorem b72 : Tryd.f72.body = some c72 := rfl
theorem d72 : fnOk Tryd.f72 c72 = true := by kernel_rfl
def D72 : Nat → List Tag
  | 11 => [.pure, .quiet, .quiet, .pure, .quiet, .seq, .pure, .pure]
  | _ => []
theorem e72 : drawsOk D72 c72 = true := by kernel_rfl
noncomputable def c34 : Code := Tryd.f34.body.getD .skip
theorem b34 : Tryd.f34.body = some c34 := rfl
theorem d34 : fnOk Tryd.f34 c34 = true := by kernel_rfl
def D34 : Nat → List Tag := fun _ => []
theorem e34 : drawsOk D34 c34 = true := by kernel_rfl
noncomputable def c32 : Code := Tryd.f32.body.getD .skip
theorem b32 : Tryd.f32.body = some c32 := rfl
theorem d32 : fnOk Tryd.f32 c32 = true := by kernel_rfl
def D32 : Nat → List Tag := fun _ => []
theorem e32 : drawsOk D32 c32 = true := by kernel_rfl
theorem angles_ok (S : Heap) : Call theE 94 [] S (.agg (angL.map fun n => AV.int .i64 n)) S := by
  unfold angL
  simp only [List.map_cons, List.map_nil]
  refine Call.ofC Tryd.func94 YtoncolpkpgbfiaaDoor.b94 YtoncolpkpgbfiaaDoor.d94 YtoncolpkpgbfiaaDoor.e94 (by simp [Tryd.f94]) ?_
  dsimp only [YtoncolpkpgbfiaaDoor.c94, Tryd.f94, Option.getD_some]
  simp (maxSteps := 2000000) only [wk0, wk1, wk2, wk3, wk4, wk5, wk6, Fr.ev, Fr.put, Fr.get, storeA, List.replicate, IntKind.bits, sevalprocAttr, YtoncolpkpgbfiaaDoor.D94, ty162]
  exact retB_plain (by simp [nmd_agg, nmd_int]) rfl (by simp)
theorem left_ok (x y : Int) (k : Nat) (S : Heap) (hk : k ≤ 64) : Call theE 95 [.agg [.int .i64 x, .int .i64 y], .int .i64 k] S (.agg [.int .i64 (IntKind.i64.wrap (x - y / 2 ^ k)), .int .i64 (IntKind.i64.wrap (y + x / 2 ^ k))]) S := by
  have k0 : ¬ (k : Int) < 0 := by omega
  have s := fun (n : Int) => show n.fdiv (2 ^ k) = n / 2 ^ k from Int.fdiv_eq_ediv_of_nonneg _ (Int.le_of_lt (Int.pow_pos (by decide)))
  have mk : min k 64 = k := by omega
  have mk2 : (if k ≤ 64 then k else 64) = k := if_pos hk
  refine Call.ofC Tryd.func95 YtoncolpkpgbfiaaDoor.b95 YtoncolpkpgbfiaaDoor.d95 YtoncolpkpgbfiaaDoor.e95 (by simp [Tryd.f95]) ?_
  dsimp only [YtoncolpkpgbfiaaDoor.c95, Tryd.f95, Option.getD_some]
  simp (maxSteps := 2000000) only [wk0, wk1, wk2, wk3, wk4, wk5, wk6, Fr.ev, Fr.put, Fr.get, storeA, List.replicate, IntKind.bits, sevalprocAttr, k0, s, mk, mk2, hk, Int.toNat_natCast, YtoncolpkpgbfiaaDoor.D95, ty1, ty2, ty3, ty161]
  exact retB_plain (by simp [nmd_agg, nmd_int]) rfl (by simp)
theorem right_ok (x y : Int) (k : Nat) (S : Heap) (hk : k ≤ 64) : Call theE 96 [.agg [.int .i64 x, .int .i64 y], .int .i64 k] S (.agg [.int .i64 (IntKind.i64.wrap (x + y / 2 ^ k)), .int .i64 (IntKind.i64.wrap (y - x / 2 ^ k))]) S := by
  have k0 : ¬ (k : Int) < 0 := by omega
  have s := fun (n : Int) => show n.fdiv (2 ^ k) = n / 2 ^ k from Int.fdiv_eq_ediv_of_nonneg _ (Int.le_of_lt (Int.pow_pos (by decide)))
  have mk : min k 64 = k := by omega
  have mk2 : (if k ≤ 64 then k else 64) = k := if_pos hk
  refine Call.ofC Tryd.func96 YtoncolpkpgbfiaaDoor.b96 YtoncolpkpgbfiaaDoor.d96 YtoncolpkpgbfiaaDoor.e96 (by simp [Tryd.f96]) ?_
  dsimp only [YtoncolpkpgbfiaaDoor.c96, Tryd.f96, Option.getD_some]
  simp (maxSteps := 2000000) only [wk0, wk1, wk2, wk3, wk4, wk5, wk6, Fr.ev, Fr.put, Fr.get, storeA, List.replicate, IntKind.bits, sevalprocAttr, k0, s, mk, mk2, hk, Int.toNat_natCast, YtoncolpkpgbfiaaDoor.D96, ty1, ty2, ty3, ty161]
  exact retB_plain (by simp [nmd_agg, nmd_int]) rfl (by simp)
def r30 (n : Int) : Int := bndI (rnd n (2 ^ 30))
theorem rounded_ok (n : Int) (S : Heap) (hn : inI n) : Call theE 97 [.int .i64 n] S (.int .i64 (r30 n)) S := by
  have m := fun S => move_down n 0 29 S (by omega) hn
  change ∀ S, Call theE _ [.int .i64 n, .int .i64 30, .int .i64 0] S (.tup [.int .i64 (r30 n), .bool _, .nili]) S at m
  generalize ovrB (rnd n (2 ^ (29 + 1))) = o at m
  refine Call.ofC Tryd.func97 YtoncolpkpgbfiaaDoor.b97 YtoncolpkpgbfiaaDoor.d97 YtoncolpkpgbfiaaDoor.e97 (by simp [Tryd.f97]) ?_
  dsimp only [YtoncolpkpgbfiaaDoor.c97, Tryd.f97, Option.getD_some]
  simp (maxSteps := 2000000) only [wk0, wk1, wk2, wk3, wk4, wk5, wk6, Fr.ev, Fr.put, Fr.get, storeA, List.replicate, IntKind.bits, sevalprocAttr, YtoncolpkpgbfiaaDoor.D97, ty2, ty3, ty4, ty30]
  refine callThen_of (m _) ?_
  simp (maxSteps := 2000000) only [wk0, wk1, wk2, wk3, wk4, wk5, wk6, Fr.ev, Fr.put, Fr.get, storeA, List.replicate, IntKind.bits, sevalprocAttr, YtoncolpkpgbfiaaDoor.D97, ty2, ty3, ty4, ty30]
  exact retB_plain (by simp [nmd_int]) rfl (by simp)
/-- The pair of a step, whatever it is. -/
theorem stepP_left (k : Nat) (p : P3) : stepP true k p = ⟨IntKind.i64.wrap (p.x - p.y / 2 ^ k), IntKind.i64.wrap (p.y + p.x / 2 ^ k), IntKind.i64.wrap (p.z - angN k)⟩ := rfl
theorem stepP_right (k : Nat) (p : P3) : stepP false k p = ⟨IntKind.i64.wrap (p.x + p.y / 2 ^ k), IntKind.i64.wrap (p.y - p.x / 2 ^ k), IntKind.i64.wrap (p.z + angN k)⟩ := rfl
theorem first_ok (z : Int) (S : Heap) (hz : inI z) : Call theE 72 [.int .i64 z] S (.tup [.int .i64 (r30 (bothP z).x), .int .i64 (r30 (bothP z).y)]) S := by
  have a0 := fun S => angles_ok S
  obtain ⟨run, hrun⟩ : ∃ run : Nat → P3, run = runP (fun p => decide (0 ≤ p.z)) ⟨495056041134655927, 495056041134655927, z⟩ := ⟨_, rfl⟩
  have hin : ∀ k, OkP (run k) := fun k => by rw [hrun]; exact runP_okP ⟨show inI 495056041134655927 by unfold inI; omega, show inI 495056041134655927 by unfold inI; omega, hz⟩ k
  have hst : ∀ k, run (k + 1) = stepP (decide (0 ≤ (run k).z)) k (run k) := fun k => by rw [hrun]; rfl
  have h0 : run 0 = ⟨495056041134655927, 495056041134655927, z⟩ := by rw [hrun]; rfl
  have h40 : bothP z = run 40 := by rw [hrun]; rfl
  rw [h40]
  clear hrun h40
  have r1 := fun S => rounded_ok (run 40).x S (hin 40).x
  have r2 := fun S => rounded_ok (run 40).y S (hin 40).y
  refine Call.ofC Tryd.func72 YtoncolpkpgbfiaaDoor.b72 YtoncolpkpgbfiaaDoor.d72 YtoncolpkpgbfiaaDoor.e72 (by simp [Tryd.f72]) ?_
  dsimp only [YtoncolpkpgbfiaaDoor.c72, Tryd.f72, Option.getD_some]
  simp (maxSteps := 2000000) only [wk0, wk1, wk2, wk3, wk4, wk5, wk6, Fr.ev, Fr.put, Fr.get, storeA, List.replicate, IntKind.bits, sevalprocAttr, YtoncolpkpgbfiaaDoor.D72, ty1, ty2, ty3, ty4, ty161, ty162]
  refine callThen_of (a0 _) ?_
  simp (maxSteps := 2000000) only [wk0, wk1, wk2, wk3, wk4, wk5, wk6, Fr.ev, Fr.put, Fr.get, storeA, List.replicate, IntKind.bits, sevalprocAttr, YtoncolpkpgbfiaaDoor.D72, ty1, ty2, ty3, ty4, ty161, ty162]
  refine loopC_ind (fun m fr H => ∃ k : Nat, k + m = 40 ∧ fr.get 0 = .int .i64 (run k).z ∧ fr.get 4 = .ptr S.length 0 0 ∧ fr.get 8 = .agg (angL.map fun n => AV.int .i64 n) ∧ fr.get 9 = .int .i64 (k : Int) ∧
    H = S ++ [some ⟨[.int .i64 (run k).x, .int .i64 (run k).y], 0⟩]) ?_ (n := 40) ⟨0, by omega, by rw [h0]; rfl, rfl, rfl, rfl, by rw [h0]⟩
  rintro m fr H ⟨k, hkm, g0, g4, g8, g9, rfl⟩ ih
  by_cases hk : (k : Int) < 40
  · have hkn : k < 40 := by omega
    have ga := ang_at k hkn
    have p1 : (0 : Int) ≤ (k : Int) := by omega
    have wi : IntKind.i64.wrap ((k : Int) + 1) = ((k + 1 : Nat) : Int) := wrapI (by omega)
    have hs := hst k
    by_cases hz0 : 0 ≤ (run k).z
    · have l := fun S => left_ok (run k).x (run k).y k S (by omega)
      rw [decide_eq_true hz0, stepP_left] at hs
      simp (maxSteps := 2000000) only [wk0, wk1, wk2, wk3, wk4, wk5, wk6, Fr.ev, Fr.put, Fr.get, storeA, List.replicate, IntKind.bits, sevalprocAttr, g0, g4, g8, g9, hk, hz0, ga, p1, wi, Int.toNat_natCast, Nat.mul_one, YtoncolpkpgbfiaaDoor.D72, ty1, ty2, ty3, ty4, ty161, ty162]
      refine callThen_of (l _) ?_
      simp (maxSteps := 2000000) only [wk0, wk1, wk2, wk3, wk4, wk5, wk6, Fr.ev, Fr.put, Fr.get, storeA, List.replicate, IntKind.bits, sevalprocAttr, g0, g4, g8, g9, hk, hz0, ga, p1, wi, Int.toNat_natCast, Nat.mul_one, YtoncolpkpgbfiaaDoor.D72, ty1, ty2, ty3, ty4, ty161, ty162]
      exact ih (m - 1) _ _ (by omega) ⟨k + 1, by omega, by rw [hs]; simp [Fr.get], by simp [Fr.get, g4], by simp [Fr.get, g8], by simp [Fr.get], by rw [hs]⟩
    · have l := fun S => right_ok (run k).x (run k).y k S (by omega)
      rw [decide_eq_false hz0, stepP_right] at hs
      simp (maxSteps := 2000000) only [wk0, wk1, wk2, wk3, wk4, wk5, wk6, Fr.ev, Fr.put, Fr.get, storeA, List.replicate, IntKind.bits, sevalprocAttr, g0, g4, g8, g9, hk, hz0, ga, p1, wi, Int.toNat_natCast, Nat.mul_one, YtoncolpkpgbfiaaDoor.D72, ty1, ty2, ty3, ty4, ty161, ty162]
      refine callThen_of (l _) ?_
      simp (maxSteps := 2000000) only [wk0, wk1, wk2, wk3, wk4, wk5, wk6, Fr.ev, Fr.put, Fr.get, storeA, List.replicate, IntKind.bits, sevalprocAttr, g0, g4, g8, g9, hk, hz0, ga, p1, wi, Int.toNat_natCast, Nat.mul_one, YtoncolpkpgbfiaaDoor.D72, ty1, ty2, ty3, ty4, ty161, ty162]
      exact ih (m - 1) _ _ (by omega) ⟨k + 1, by omega, by rw [hs]; simp [Fr.get], by simp [Fr.get, g4], by simp [Fr.get, g8], by simp [Fr.get], by rw [hs]⟩
  · obtain rfl : k = 40 := by omega
    simp (maxSteps := 2000000) only [wk0, wk1, wk2, wk3, wk4, wk5, wk6, Fr.ev, Fr.put, Fr.get, storeA, List.replicate, IntKind.bits, sevalprocAttr, g0, g4, g8, g9, hk, YtoncolpkpgbfiaaDoor.D72, ty1, ty2, ty3, ty4, ty161, ty162]
    refine callThen_of (r1 _) ?_
    simp (maxSteps := 2000000) only [wk0, wk1, wk2, wk3, wk4, wk5, wk6, Fr.ev, Fr.put, Fr.get, storeA, List.replicate, IntKind.bits, sevalprocAttr, g0, g4, g8, g9, hk, YtoncolpkpgbfiaaDoor.D72, ty1, ty2, ty3, ty4, ty161, ty162]
    refine callThen_of (r2 _) ?_
    simp (maxSteps := 2000000) only [wk0, wk1, wk2, wk3, wk4, wk5, wk6, Fr.ev, Fr.put, Fr.get, storeA, List.replicate, IntKind.bits, sevalprocAttr, g0, g4, g8, g9, hk, YtoncolpkpgbfiaaDoor.D72, ty1, ty2, ty3, ty4, ty161, ty162]
    exact retB_plain (by simp [nmd_int]) rfl (by simp)
theorem r30_in (n : Int) : -4611686018427387903 ≤ r30 n ∧ r30 n ≤ 4611686018427387903 := by unfold r30 bndI; omega
def bothZ (t : Int) : Int := t % 1073741824 * 1073741824 - 576460752303423488
def cosQ (t : Int) : Int := r30 (bothP (bothZ t)).x
def sinQ (t : Int) : Int := r30 (bothP (bothZ t)).y
/-- The sine and the cosine of a direction. -/
def sinT (t : Int) : Int := if t / 1073741824 = 0 then sinQ t else if t / 1073741824 = 1 then cosQ t else if t / 1073741824 = 2 then -sinQ t else -cosQ t
def cosT (t : Int) : Int := if t / 1073741824 = 0 then cosQ t else if t / 1073741824 = 1 then -sinQ t else if t / 1073741824 = 2 then -cosQ t else sinQ t
theorem sinT_in (t : Int) : -4611686018427387903 ≤ sinT t ∧ sinT t ≤ 4611686018427387903 := by
  have h1 := r30_in (bothP (bothZ t)).x
  have h2 := r30_in (bothP (bothZ t)).y
  unfold sinT sinQ cosQ
  split
  · omega
  · split
    · omega
    · split <;> omega
theorem cosT_in (t : Int) : -4611686018427387903 ≤ cosT t ∧ cosT t ≤ 4611686018427387903 := by
  have h1 := r30_in (bothP (bothZ t)).x
  have h2 := r30_in (bothP (bothZ t)).y
  unfold cosT sinQ cosQ
  split
  · omega
  · split
    · omega
    · split <;> omega
theorem and30 {x : Int} (h : 0 ≤ x ∧ x < 4294967296) : bitsI .and .u32 x 1073741823 = some (.int .u32 (x % 1073741824)) := by
  show some (AV.int .u32 (IntKind.u32.wrap ((BitVec.ofInt 32 x &&& BitVec.ofInt 32 1073741823).toNat : Int))) = _
  have e1 : (BitVec.ofInt 32 x).toNat = x.toNat := by
    rw [BitVec.toNat_ofInt]
    congr 1
    omega
  have e2 : (BitVec.ofInt 32 1073741823).toNat = 2 ^ 30 - 1 := by decide
  rw [BitVec.toNat_and, e1, e2, Nat.and_two_pow_sub_one_eq_mod, Int.natCast_emod, Int.toNat_of_nonneg h.1]
  have e3 : ((2 ^ 30 : Nat) : Int) = 1073741824 := by decide
  rw [e3]
  congr 2
  simp [IntKind.wrap, IntKind.bits, IntKind.signed]
  omega
theorem both_ok (t : Int) (S : Heap) (ht : 0 ≤ t ∧ t < 4294967296) : Call theE 34 [.int .u32 t] S (.tup [.int .i64 (sinT t), .int .i64 (cosT t)]) S := by
  have hf := fun S => first_ok (bothZ t) S (by unfold inI bothZ; omega)
  have an := and30 ht
  have w0 : IntKind.i64.wrap (t % 1073741824) = t % 1073741824 := wrapI (by omega)
  have w1 : IntKind.i64.wrap (t % 1073741824 * 1073741824) = t % 1073741824 * 1073741824 := wrapI (by omega)
  have w2 : IntKind.i64.wrap (t % 1073741824 * 1073741824 - 576460752303423488) = bothZ t := wrapI (by omega)
  have sh : t.fdiv 1073741824 = t / 1073741824 := Int.fdiv_eq_ediv_of_nonneg _ (by omega)
  have h1 : -4611686018427387903 ≤ cosQ t ∧ cosQ t ≤ 4611686018427387903 := r30_in _
  have h2 : -4611686018427387903 ≤ sinQ t ∧ sinQ t ≤ 4611686018427387903 := r30_in _
  have n1 : IntKind.i64.wrap (0 - cosQ t) = -cosQ t := by rw [wrapI (by omega)]; omega
  have n2 : IntKind.i64.wrap (0 - sinQ t) = -sinQ t := by rw [wrapI (by omega)]; omega
  have hq : t / 1073741824 = 0 ∨ t / 1073741824 = 1 ∨ t / 1073741824 = 2 ∨ t / 1073741824 = 3 := by omega
  change ∀ S, Call theE _ _ _ (.tup [.int .i64 (cosQ t), .int .i64 (sinQ t)]) _ at hf
  unfold sinT cosT
  generalize cosQ t = c at *
  generalize sinQ t = s at *
  have m30 : min 30 32 = 30 := rfl
  refine Call.ofC Tryd.func34 YtoncolpkpgbfiaaDoor.b34 YtoncolpkpgbfiaaDoor.d34 YtoncolpkpgbfiaaDoor.e34 (by simp [Tryd.f34]) ?_
  dsimp only [YtoncolpkpgbfiaaDoor.c34, Tryd.f34, Option.getD_some]
  rcases hq with hq | hq | hq | hq
  · simp only [hq, if_true]
    simp (maxSteps := 2000000) only [wk0, wk1, wk2, wk3, wk4, wk5, wk6, Fr.ev, Fr.put, Fr.get, storeA, List.replicate, IntKind.bits, sevalprocAttr, an, w0, w1, w2, sh, hq, m30, YtoncolpkpgbfiaaDoor.D34, ty2, ty4, ty77, ty131]
    refine callThen_of (hf _) ?_
    simp (maxSteps := 2000000) only [wk0, wk1, wk2, wk3, wk4, wk5, wk6, Fr.ev, Fr.put, Fr.get, storeA, List.replicate, IntKind.bits, sevalprocAttr, an, w0, w1, w2, sh, hq, m30, YtoncolpkpgbfiaaDoor.D34, ty2, ty4, ty77, ty131]
    exact retB_plain (by simp [nmd_int]) rfl (by simp)
  · have e0 : ¬ (1 : Int) = 0 := by decide
    simp only [hq, e0, if_true, if_false]
    simp (maxSteps := 2000000) only [wk0, wk1, wk2, wk3, wk4, wk5, wk6, Fr.ev, Fr.put, Fr.get, storeA, List.replicate, IntKind.bits, sevalprocAttr, an, w0, w1, w2, sh, hq, n1, n2, m30, YtoncolpkpgbfiaaDoor.D34, ty2, ty4, ty77, ty131]
    refine callThen_of (hf _) ?_
    simp (maxSteps := 2000000) only [wk0, wk1, wk2, wk3, wk4, wk5, wk6, Fr.ev, Fr.put, Fr.get, storeA, List.replicate, IntKind.bits, sevalprocAttr, an, w0, w1, w2, sh, hq, n1, n2, m30, YtoncolpkpgbfiaaDoor.D34, ty2, ty4, ty77, ty131]
    exact retB_plain (by simp [nmd_int]) rfl (by simp)
  · have e0 : ¬ (2 : Int) = 0 := by decide
    have e1 : ¬ (2 : Int) = 1 := by decide
    simp only [hq, e0, e1, if_true, if_false]
    simp (maxSteps := 2000000) only [wk0, wk1, wk2, wk3, wk4, wk5, wk6, Fr.ev, Fr.put, Fr.get, storeA, List.replicate, IntKind.bits, sevalprocAttr, an, w0, w1, w2, sh, hq, n1, n2, m30, YtoncolpkpgbfiaaDoor.D34, ty2, ty4, ty77, ty131]
    refine callThen_of (hf _) ?_
    simp (maxSteps := 2000000) only [wk0, wk1, wk2, wk3, wk4, wk5, wk6, Fr.ev, Fr.put, Fr.get, storeA, List.replicate, IntKind.bits, sevalprocAttr, an, w0, w1, w2, sh, hq, n1, n2, m30, YtoncolpkpgbfiaaDoor.D34, ty2, ty4, ty77, ty131]
    exact retB_plain (by simp [nmd_int]) rfl (by simp)
  · have e0 : ¬ (3 : Int) = 0 := by decide
    have e1 : ¬ (3 : Int) = 1 := by decide
    have e2 : ¬ (3 : Int) = 2 := by decide
    simp only [hq, e0, e1, e2, if_true, if_false]
    simp (maxSteps := 2000000) only [wk0, wk1, wk2, wk3, wk4, wk5, wk6, Fr.ev, Fr.put, Fr.get, storeA, List.replicate, IntKind.bits, sevalprocAttr, an, w0, w1, w2, sh, hq, n1, n2, m30, YtoncolpkpgbfiaaDoor.D34, ty2, ty4, ty77, ty131]
    refine callThen_of (hf _) ?_
    simp (maxSteps := 2000000) only [wk0, wk1, wk2, wk3, wk4, wk5, wk6, Fr.ev, Fr.put, Fr.get, storeA, List.replicate, IntKind.bits, sevalprocAttr, an, w0, w1, w2, sh, hq, n1, n2, m30, YtoncolpkpgbfiaaDoor.D34, ty2, ty4, ty77, ty131]
    exact retB_plain (by simp [nmd_int]) rfl (by simp)
def plX (t far : Int) : Int := bndI (rnd (far * sinT t) (2 ^ 30))
def plY (t far : Int) : Int := bndI (rnd (far * cosT t) (2 ^ 30))
theorem place_ok (t far : Int) (S : Heap) (ht : 0 ≤ t ∧ t < 4294967296) (hf : 0 ≤ far ∧ far ≤ 4611686018427387903) : Call theE 32 [.int .u32 t, .int .i64 far] S (.tup [.int .i64 (plX t far), .int .i64 (plY t far), .nili]) S := by
  have b := fun S => both_ok t S ht
  have h1 := sinT_in t
  have h2 := cosT_in t
  have m1 := fun S => mul_ok far (sinT t) 30 S (by omega) (by unfold inI; omega) (by unfold inI; omega)
  have m2 := fun S => mul_ok far (cosT t) 30 S (by omega) (by unfold inI; omega) (by unfold inI; omega)
  have p1 : ¬ far < 0 := by omega
  have p2 : ¬ 4611686018427387903 < far := by omega
  change ∀ S, Call theE _ [_, _, .int .i64 30] _ (.tup [.int .i64 (plX t far), _, _]) _ at m1
  change ∀ S, Call theE _ [_, _, .int .i64 30] _ (.tup [.int .i64 (plY t far), _, _]) _ at m2
  refine Call.ofC Tryd.func32 YtoncolpkpgbfiaaDoor.b32 YtoncolpkpgbfiaaDoor.d32 YtoncolpkpgbfiaaDoor.e32 (by simp [Tryd.f32]) ?_
  dsimp only [YtoncolpkpgbfiaaDoor.c32, Tryd.f32, Option.getD_some]
  simp (maxSteps := 2000000) only [wk0, wk1, wk2, wk3, wk4, wk5, wk6, Fr.ev, Fr.put, Fr.get, storeA, List.replicate, IntKind.bits, sevalprocAttr, p1, p2, YtoncolpkpgbfiaaDoor.D32, ty2, ty3, ty4, ty30, ty75, ty77]
  refine callThen_of (b _) ?_
  simp (maxSteps := 2000000) only [wk0, wk1, wk2, wk3, wk4, wk5, wk6, Fr.ev, Fr.put, Fr.get, storeA, List.replicate, IntKind.bits, sevalprocAttr, p1, p2, YtoncolpkpgbfiaaDoor.D32, ty2, ty3, ty4, ty30, ty75, ty77]
  refine callThen_of (m1 _) ?_
  simp (maxSteps := 2000000) only [wk0, wk1, wk2, wk3, wk4, wk5, wk6, Fr.ev, Fr.put, Fr.get, storeA, List.replicate, IntKind.bits, sevalprocAttr, p1, p2, YtoncolpkpgbfiaaDoor.D32, ty2, ty3, ty4, ty30, ty75, ty77]
  refine callThen_of (m2 _) ?_
  simp (maxSteps := 2000000) only [wk0, wk1, wk2, wk3, wk4, wk5, wk6, Fr.ev, Fr.put, Fr.get, storeA, List.replicate, IntKind.bits, sevalprocAttr, p1, p2, YtoncolpkpgbfiaaDoor.D32, ty2, ty3, ty4, ty30, ty75, ty77]
  exact retB_plain (by simp [nmd_int, nmd_nili]) rfl (by simp)
theorem place_bad (t far : Int) (S : Heap) (hf : ¬ (0 ≤ far ∧ far ≤ 4611686018427387903)) : Call theE 32 [.int .u32 t, .int .i64 far] S (.tup [.int .i64 0, .int .i64 0, errA 1]) S := by
  refine Call.ofC Tryd.func32 YtoncolpkpgbfiaaDoor.b32 YtoncolpkpgbfiaaDoor.d32 YtoncolpkpgbfiaaDoor.e32 (by simp [Tryd.f32]) ?_
  dsimp only [YtoncolpkpgbfiaaDoor.c32, Tryd.f32, Option.getD_some]
  by_cases h : far < 0
  · simp (maxSteps := 2000000) only [wk0, wk1, wk2, wk3, wk4, wk5, wk6, Fr.ev, Fr.put, Fr.get, storeA, List.replicate, IntKind.bits, sevalprocAttr, h, YtoncolpkpgbfiaaDoor.D32, ty2, ty3, ty4, ty30, ty75, ty77]
    exact retB_plain (by simp [nmd_int, nmd_ifc]) rfl (by simp)
  · have p2 : 4611686018427387903 < far := by omega
    simp (maxSteps := 2000000) only [wk0, wk1, wk2, wk3, wk4, wk5, wk6, Fr.ev, Fr.put, Fr.get, storeA, List.replicate, IntKind.bits, sevalprocAttr, h, p2, YtoncolpkpgbfiaaDoor.D32, ty2, ty3, ty4, ty30, ty75, ty77]
    exact retB_plain (by simp [nmd_int, nmd_ifc]) rfl (by simp)
end Go.Proofs.YtoncolpkpgbfiaaDoor
