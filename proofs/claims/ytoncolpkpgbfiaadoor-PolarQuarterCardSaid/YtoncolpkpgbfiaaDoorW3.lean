/- The law PolarQuarter. -/
import Derived.Test.YtoncolpkpgbfiaaDoorW2
import Derived.Test.YtoncolpkpgbfiaaDoorEvO
import Derived.Test.YtoncolpkpgbfiaaDoorAs
set_option linter.unusedSimpArgs false
set_option linter.unusedVariables false
set_option maxRecDepth 100000
set_option maxHeartbeats 8000000
namespace Go.Proofs.YtoncolpkpgbfiaaDoor
noncomputable def c4 : Code := Tryd.f4.body.getD .skip
theorem b4 : Tryd.f4.body = some c4 := rfl
theorem d4 : fnOk Tryd.f4 c4 = true := by kernel_rfl
def D4 : Nat → List Tag := fun _ => []
theorem e4 : drawsOk D4 c4 = true := by kernel_rfl
theorem polarQuarterLaw_ok (x0 x1 : List AV) (S : Heap) (d0 : DatL [.int .i64, .int .i64] x0) (d1 : DatL [.int .i64, .int .u16, .int .i64] x1) : Call theE 4 [.agg x0, .agg x1] S (.bool true) S := by
  obtain ⟨a1, r1, rfl, h1, d0⟩ := d0.inv
  obtain ⟨a2, r2, rfl, h2, d0⟩ := d0.inv
  obtain rfl := d0.inv0
  obtain ⟨a3, r3, rfl, h3, d1⟩ := d1.inv
  obtain ⟨a4, r4, rfl, h4, d1⟩ := d1.inv
  obtain ⟨a5, r5, rfl, h5, d1⟩ := d1.inv
  obtain rfl := d1.inv0
  obtain ⟨R, rfl, hR⟩ := h1.i64
  obtain ⟨T, rfl, hT⟩ := h2.i64
  obtain ⟨far, rfl, hfar⟩ := h3.i64
  obtain ⟨z, rfl, hz0⟩ := h4.intW
  obtain ⟨tm, rfl, htm⟩ := h5.i64
  have hz : 0 ≤ z ∧ z < 65536 := by
    simp [Lit.wf, IntKind.min, IntKind.max, IntKind.signed, IntKind.bits] at hz0
    omega
  have su := fun S => sure10_ok S
  have nu := fun S => num8_given 1 S
  have wz : IntKind.u16.wrap (z + 16384) = (z + 16384) % 65536 := by simp [IntKind.wrap, IntKind.bits, IntKind.signed]
  have hz' : 0 ≤ (z + 16384) % 65536 ∧ (z + 16384) % 65536 < 65536 := by omega
  by_cases h : mayS R T ∧ 0 ≤ far ∧ far ≤ 1099511627776
  · have o := fun S => polarOf_ok R T far z tm S h.1 h.2 hz
    have o' := fun S => polarOf_ok R T far ((z + 16384) % 65536) tm S h.1 h.2 hz'
    rw [(quarter_pl hz).1, (quarter_pl hz).2, (quarter_po R T far hz).1, (quarter_po R T far hz).2.1, (quarter_po R T far hz).2.2] at o'
    have hX : inI (plX (65536 * z) far) ∧ inI (-plX (65536 * z) far) := ⟨inB _, inNB _⟩
    have hxy : inI (-poXY R T far (65536 * z)) := inNB _
    generalize (z + 16384) % 65536 = z' at *
    generalize plY (65536 * z) far = Y at *
    generalize plX (65536 * z) far = X at *
    generalize poYY R T far (65536 * z) = yy at *
    generalize poXX R T far (65536 * z) = xx at *
    generalize poXY R T far (65536 * z) = xy at *
    generalize poOv R T far (65536 * z) = ov at *
    generalize poOv R T far (65536 * z') = ov' at *
    obtain ⟨D, hD⟩ : ∃ D, far / 100000000 = D := ⟨_, rfl⟩
    have hD2 : 0 ≤ D ∧ D ≤ 10996 := by omega
    have td : far.tdiv 100000000 = D := by rw [Int.tdiv_eq_ediv_of_nonneg h.2.1, hD]
    have w1 : IntKind.i64.wrap D = D := wrapI (by omega)
    have w2 : IntKind.i64.wrap (D + 16) = D + 16 := wrapI (by omega)
    have w3 : IntKind.i64.wrap (Y - Y) = 0 := by rw [Int.sub_self]; rfl
    have w4 : IntKind.i64.wrap (-X + X) = 0 := by rw [Int.add_left_neg]; rfl
    have w5 : IntKind.i64.wrap (0 - X) = -X := by rw [Int.zero_sub]; exact wrapI hX.2
    have w6 : IntKind.i64.wrap (-X - -X) = 0 := by rw [Int.sub_self]; rfl
    have w7 : IntKind.i64.wrap (0 - xy) = -xy := by rw [Int.zero_sub]; exact wrapI hxy
    have g0 : (0 : Int) ≤ D + 16 := by omega
    have dd : ¬ (100000000 : Int) = 0 := by decide
    cases ov
    · cases ov'
      · refine Call.ofC Tryd.func4 YtoncolpkpgbfiaaDoor.b4 YtoncolpkpgbfiaaDoor.d4 YtoncolpkpgbfiaaDoor.e4 (by simp [Tryd.f4]) ?_
        dsimp only [YtoncolpkpgbfiaaDoor.c4, Tryd.f4, Option.getD_some]
        simp (maxSteps := 2000000) only [wk0, wk1, wk2, wk3, wk4, wk5, wk6, Fr.ev, Fr.put, Fr.get, storeA, List.replicate, IntKind.bits, sevalprocAttr, wz, td, dd, w1, w2, w3, w4, w5, w6, w7, g0, decide_true, decide_false, Bool.not_true, Bool.not_false, List.length_cons, List.length_nil, YtoncolpkpgbfiaaDoor.D4, keep4, ty1, ty2, ty3, ty4, ty23, ty24, ty26, ty28, ty30, ty33, ty34]
        refine callThen_of (o _) ?_
        simp (maxSteps := 2000000) only [wk0, wk1, wk2, wk3, wk4, wk5, wk6, Fr.ev, Fr.put, Fr.get, storeA, List.replicate, IntKind.bits, sevalprocAttr, wz, td, dd, w1, w2, w3, w4, w5, w6, w7, g0, decide_true, decide_false, Bool.not_true, Bool.not_false, List.length_cons, List.length_nil, YtoncolpkpgbfiaaDoor.D4, keep4, ty1, ty2, ty3, ty4, ty23, ty24, ty26, ty28, ty30, ty33, ty34]
        refine callThen_of (o' _) ?_
        simp (maxSteps := 2000000) only [wk0, wk1, wk2, wk3, wk4, wk5, wk6, Fr.ev, Fr.put, Fr.get, storeA, List.replicate, IntKind.bits, sevalprocAttr, wz, td, dd, w1, w2, w3, w4, w5, w6, w7, g0, decide_true, decide_false, Bool.not_true, Bool.not_false, List.length_cons, List.length_nil, YtoncolpkpgbfiaaDoor.D4, keep4, ty1, ty2, ty3, ty4, ty23, ty24, ty26, ty28, ty30, ty33, ty34]
        refine callThen_of (su _) ?_
        simp (maxSteps := 2000000) only [wk0, wk1, wk2, wk3, wk4, wk5, wk6, Fr.ev, Fr.put, Fr.get, storeA, List.replicate, IntKind.bits, sevalprocAttr, wz, td, dd, w1, w2, w3, w4, w5, w6, w7, g0, decide_true, decide_false, Bool.not_true, Bool.not_false, List.length_cons, List.length_nil, YtoncolpkpgbfiaaDoor.D4, keep4, ty1, ty2, ty3, ty4, ty23, ty24, ty26, ty28, ty30, ty33, ty34]
        exact retB_plain (by simp [nmd_bool]) rfl (by simp)
      · refine Call.ofC Tryd.func4 YtoncolpkpgbfiaaDoor.b4 YtoncolpkpgbfiaaDoor.d4 YtoncolpkpgbfiaaDoor.e4 (by simp [Tryd.f4]) ?_
        dsimp only [YtoncolpkpgbfiaaDoor.c4, Tryd.f4, Option.getD_some]
        simp (maxSteps := 2000000) only [wk0, wk1, wk2, wk3, wk4, wk5, wk6, Fr.ev, Fr.put, Fr.get, storeA, List.replicate, IntKind.bits, sevalprocAttr, wz, decide_true, decide_false, Bool.not_true, Bool.not_false, List.length_cons, List.length_nil, YtoncolpkpgbfiaaDoor.D4, keep4, ty1, ty2, ty3, ty4, ty23, ty24, ty26, ty28, ty30, ty33, ty34]
        refine callThen_of (o _) ?_
        simp (maxSteps := 2000000) only [wk0, wk1, wk2, wk3, wk4, wk5, wk6, Fr.ev, Fr.put, Fr.get, storeA, List.replicate, IntKind.bits, sevalprocAttr, wz, decide_true, decide_false, Bool.not_true, Bool.not_false, List.length_cons, List.length_nil, YtoncolpkpgbfiaaDoor.D4, keep4, ty1, ty2, ty3, ty4, ty23, ty24, ty26, ty28, ty30, ty33, ty34]
        refine callThen_of (o' _) ?_
        simp (maxSteps := 2000000) only [wk0, wk1, wk2, wk3, wk4, wk5, wk6, Fr.ev, Fr.put, Fr.get, storeA, List.replicate, IntKind.bits, sevalprocAttr, wz, decide_true, decide_false, Bool.not_true, Bool.not_false, List.length_cons, List.length_nil, YtoncolpkpgbfiaaDoor.D4, keep4, ty1, ty2, ty3, ty4, ty23, ty24, ty26, ty28, ty30, ty33, ty34]
        refine callThen_of (su _) ?_
        simp (maxSteps := 2000000) only [wk0, wk1, wk2, wk3, wk4, wk5, wk6, Fr.ev, Fr.put, Fr.get, storeA, List.replicate, IntKind.bits, sevalprocAttr, wz, decide_true, decide_false, Bool.not_true, Bool.not_false, List.length_cons, List.length_nil, YtoncolpkpgbfiaaDoor.D4, keep4, ty1, ty2, ty3, ty4, ty23, ty24, ty26, ty28, ty30, ty33, ty34]
        exact retB_plain (by simp [nmd_bool]) rfl (by simp)
    · refine Call.ofC Tryd.func4 YtoncolpkpgbfiaaDoor.b4 YtoncolpkpgbfiaaDoor.d4 YtoncolpkpgbfiaaDoor.e4 (by simp [Tryd.f4]) ?_
      dsimp only [YtoncolpkpgbfiaaDoor.c4, Tryd.f4, Option.getD_some]
      simp (maxSteps := 2000000) only [wk0, wk1, wk2, wk3, wk4, wk5, wk6, Fr.ev, Fr.put, Fr.get, storeA, List.replicate, IntKind.bits, sevalprocAttr, wz, decide_true, decide_false, Bool.not_true, Bool.not_false, List.length_cons, List.length_nil, YtoncolpkpgbfiaaDoor.D4, keep4, ty1, ty2, ty3, ty4, ty23, ty24, ty26, ty28, ty30, ty33, ty34]
      refine callThen_of (o _) ?_
      simp (maxSteps := 2000000) only [wk0, wk1, wk2, wk3, wk4, wk5, wk6, Fr.ev, Fr.put, Fr.get, storeA, List.replicate, IntKind.bits, sevalprocAttr, wz, decide_true, decide_false, Bool.not_true, Bool.not_false, List.length_cons, List.length_nil, YtoncolpkpgbfiaaDoor.D4, keep4, ty1, ty2, ty3, ty4, ty23, ty24, ty26, ty28, ty30, ty33, ty34]
      refine callThen_of (o' _) ?_
      simp (maxSteps := 2000000) only [wk0, wk1, wk2, wk3, wk4, wk5, wk6, Fr.ev, Fr.put, Fr.get, storeA, List.replicate, IntKind.bits, sevalprocAttr, wz, decide_true, decide_false, Bool.not_true, Bool.not_false, List.length_cons, List.length_nil, YtoncolpkpgbfiaaDoor.D4, keep4, ty1, ty2, ty3, ty4, ty23, ty24, ty26, ty28, ty30, ty33, ty34]
      refine callThen_of (su _) ?_
      simp (maxSteps := 2000000) only [wk0, wk1, wk2, wk3, wk4, wk5, wk6, Fr.ev, Fr.put, Fr.get, storeA, List.replicate, IntKind.bits, sevalprocAttr, wz, decide_true, decide_false, Bool.not_true, Bool.not_false, List.length_cons, List.length_nil, YtoncolpkpgbfiaaDoor.D4, keep4, ty1, ty2, ty3, ty4, ty23, ty24, ty26, ty28, ty30, ty33, ty34]
      exact retB_plain (by simp [nmd_bool]) rfl (by simp)
  · have o := fun S => polarOf_bad R T far z tm S h
    have o' := fun S => polarOf_bad R T far ((z + 16384) % 65536) tm S h
    simp only [errA] at o o'
    refine Call.ofC Tryd.func4 YtoncolpkpgbfiaaDoor.b4 YtoncolpkpgbfiaaDoor.d4 YtoncolpkpgbfiaaDoor.e4 (by simp [Tryd.f4]) ?_
    dsimp only [YtoncolpkpgbfiaaDoor.c4, Tryd.f4, Option.getD_some]
    simp (maxSteps := 2000000) only [wk0, wk1, wk2, wk3, wk4, wk5, wk6, Fr.ev, Fr.put, Fr.get, storeA, List.replicate, IntKind.bits, sevalprocAttr, wz, decide_true, decide_false, Bool.not_true, Bool.not_false, List.length_cons, List.length_nil, YtoncolpkpgbfiaaDoor.D4, keep4, ty1, ty2, ty3, ty4, ty23, ty24, ty26, ty28, ty30, ty33, ty34]
    refine callThen_of (o _) ?_
    simp (maxSteps := 2000000) only [wk0, wk1, wk2, wk3, wk4, wk5, wk6, Fr.ev, Fr.put, Fr.get, storeA, List.replicate, IntKind.bits, sevalprocAttr, wz, decide_true, decide_false, Bool.not_true, Bool.not_false, List.length_cons, List.length_nil, YtoncolpkpgbfiaaDoor.D4, keep4, ty1, ty2, ty3, ty4, ty23, ty24, ty26, ty28, ty30, ty33, ty34]
    refine callThen_of (o' _) ?_
    simp (maxSteps := 2000000) only [wk0, wk1, wk2, wk3, wk4, wk5, wk6, Fr.ev, Fr.put, Fr.get, storeA, List.replicate, IntKind.bits, sevalprocAttr, wz, decide_true, decide_false, Bool.not_true, Bool.not_false, List.length_cons, List.length_nil, YtoncolpkpgbfiaaDoor.D4, keep4, ty1, ty2, ty3, ty4, ty23, ty24, ty26, ty28, ty30, ty33, ty34]
    refine callThen_of (nu _) ?_
    simp (maxSteps := 2000000) only [wk0, wk1, wk2, wk3, wk4, wk5, wk6, Fr.ev, Fr.put, Fr.get, storeA, List.replicate, IntKind.bits, sevalprocAttr, wz, decide_true, decide_false, Bool.not_true, Bool.not_false, List.length_cons, List.length_nil, YtoncolpkpgbfiaaDoor.D4, keep4, ty1, ty2, ty3, ty4, ty23, ty24, ty26, ty28, ty30, ty33, ty34]
    refine callThen_of (nu _) ?_
    simp (maxSteps := 2000000) only [wk0, wk1, wk2, wk3, wk4, wk5, wk6, Fr.ev, Fr.put, Fr.get, storeA, List.replicate, IntKind.bits, sevalprocAttr, wz, decide_true, decide_false, Bool.not_true, Bool.not_false, List.length_cons, List.length_nil, YtoncolpkpgbfiaaDoor.D4, keep4, ty1, ty2, ty3, ty4, ty23, ty24, ty26, ty28, ty30, ty33, ty34]
    refine callThen_of (su _) ?_
    simp (maxSteps := 2000000) only [wk0, wk1, wk2, wk3, wk4, wk5, wk6, Fr.ev, Fr.put, Fr.get, storeA, List.replicate, IntKind.bits, sevalprocAttr, wz, decide_true, decide_false, Bool.not_true, Bool.not_false, List.length_cons, List.length_nil, YtoncolpkpgbfiaaDoor.D4, keep4, ty1, ty2, ty3, ty4, ty23, ty24, ty26, ty28, ty30, ty33, ty34]
    exact retB_plain (by simp [nmd_bool]) rfl (by simp)
end Go.Proofs.YtoncolpkpgbfiaaDoor
