/- The law PolarSpreads. -/
import Derived.Test.YtoncolpkpgbfiaaDoorW2
import Derived.Test.YtoncolpkpgbfiaaDoorEvO
import Derived.Test.YtoncolpkpgbfiaaDoorAs
set_option linter.unusedSimpArgs false
set_option linter.unusedVariables false
set_option maxRecDepth 100000
set_option maxHeartbeats 8000000
namespace Go.Proofs.YtoncolpkpgbfiaaDoor
noncomputable def c3 : Code := Tryd.f3.body.getD .skip
theorem b3 : Tryd.f3.body = some c3 := rfl
theorem d3 : fnOk Tryd.f3 c3 = true := by kernel_rfl
def D3 : Nat → List Tag := fun _ => []
theorem e3 : drawsOk D3 c3 = true := by kernel_rfl
theorem polarSpreadsLaw_ok (x0 x1 : List AV) (more : Int) (S : Heap) (d0 : DatL [.int .i64, .int .i64] x0) (d1 : DatL [.int .i64, .int .u16, .int .i64] x1) (hm : inI more) : Call theE 3 [.agg x0, .agg x1, .int .i64 more] S (.bool true) S := by
  obtain ⟨a1, r1, rfl, h1, d0⟩ := d0.inv
  obtain ⟨a2, r2, rfl, h2, d0⟩ := d0.inv
  obtain rfl := d0.inv0
  obtain ⟨a3, r3, rfl, h3, d1⟩ := d1.inv
  obtain ⟨a4, r4, rfl, h4, d1⟩ := d1.inv
  obtain ⟨a5, r5, rfl, h5, d1⟩ := d1.inv
  obtain rfl := d1.inv0
  obtain ⟨R, rfl, hR⟩ := h1.i64
  obtain ⟨T, rfl, hT⟩ := h2.i64
  obtain ⟨far, rfl, hfar⟩ := h3.i64
  obtain ⟨z, rfl, hz0⟩ := h4.intW
  obtain ⟨tm, rfl, htm⟩ := h5.i64
  have hz : 0 ≤ z ∧ z < 65536 := by
    simp [Lit.wf, IntKind.min, IntKind.max, IntKind.signed, IntKind.bits] at hz0
    omega
  unfold inI at hm
  have su := fun S => sure10_ok S
  have nu := fun S => num8_given 1 S
  by_cases h : mayS R T ∧ 0 ≤ far ∧ far ≤ 1099511627776
  · have o := fun S => polarOf_ok R T far z tm S h.1 h.2 hz
    have s := fun S => polarSpread_ok R T far S h.1 h.2
    have hT0 : 0 ≤ T := by have := h.1; unfold mayS at this; omega
    have hxx : inI (poXX R T far (65536 * z)) := inB _
    have hyy : inI (poYY R T far (65536 * z)) := inB _
    have aB := poA_nonneg R
    have bB := poB_nonneg far T
    have aT : poA R ≤ 4611686018427387903 := (bndI_in _).2
    have bT : poB far T ≤ 4611686018427387903 := (bndI_in _).2
    cases hov : poOv R T far (65536 * z)
    · have ps := po_spread hov
      rw [hov] at o
      obtain ⟨p1, p2, p3⟩ := ps
      obtain ⟨f2, hf2, ff, hle, f0, fT⟩ : ∃ f2, (∀ S, Call theE 10 [.agg [.int .i64 R, .int .i64 T], .int .i64 f2] S (.tup [.int .i64 (poA R), .int .i64 (poB f2 T), .nili]) S) ∧ (f2 = if 0 ≤ more ∧ more ≤ 1099511627776 - far then far + more else far) ∧ poB far T ≤ poB f2 T ∧ 0 ≤ f2 ∧ f2 ≤ 1099511627776 := by
        refine ⟨if 0 ≤ more ∧ more ≤ 1099511627776 - far then far + more else far, fun S => polarSpread_ok R T _ S h.1 ?_, rfl, ?_, ?_, ?_⟩
        · split <;> omega
        · refine poB_mono h.2.1 ?_ hT0
          split <;> omega
        · split <;> omega
        · split <;> omega
      generalize poB f2 T = B2 at *
      generalize plY (65536 * z) far = Y at *
      generalize plX (65536 * z) far = X at *
      generalize poYY R T far (65536 * z) = yy at *
      generalize poXX R T far (65536 * z) = xx at *
      generalize poXY R T far (65536 * z) = xy at *
      generalize poA R = A at *
      generalize poB far T = B at *
      unfold inI at hxx hyy
      have c1 : ¬ xx < -8 := by omega
      have c2 : ¬ yy < -8 := by omega
      have c3 : ¬ A < 0 := by omega
      have c4 : ¬ B < 0 := by omega
      have dd : ¬ (1000000 : Int) = 0 := by decide
      have t1 : A.tdiv 1000000 = A / 1000000 := Int.tdiv_eq_ediv_of_nonneg aB
      have t2 : B.tdiv 1000000 = B / 1000000 := Int.tdiv_eq_ediv_of_nonneg bB
      have w1 : IntKind.i64.wrap (A / 1000000) = A / 1000000 := wrapI (by omega)
      have w2 : IntKind.i64.wrap (B / 1000000) = B / 1000000 := wrapI (by omega)
      have w3 : IntKind.i64.wrap (A / 1000000 + B / 1000000) = A / 1000000 + B / 1000000 := wrapI (by omega)
      have w4 : IntKind.i64.wrap (A / 1000000 + B / 1000000 + 16) = A / 1000000 + B / 1000000 + 16 := wrapI (by omega)
      by_cases q1 : 1152921504606846976 < A
      · refine Call.ofC Tryd.func3 YtoncolpkpgbfiaaDoor.b3 YtoncolpkpgbfiaaDoor.d3 YtoncolpkpgbfiaaDoor.e3 (by simp [Tryd.f3]) ?_
        dsimp only [YtoncolpkpgbfiaaDoor.c3, Tryd.f3, Option.getD_some]
        simp (maxSteps := 2000000) only [wk0, wk1, wk2, wk3, wk4, wk5, wk6, Fr.ev, Fr.put, Fr.get, storeA, List.replicate, IntKind.bits, sevalprocAttr, c1, c2, c3, c4, dd, t1, t2, w1, w2, w3, w4, q1, decide_true, decide_false, Bool.not_true, Bool.not_false, List.length_cons, List.length_nil, YtoncolpkpgbfiaaDoor.D3, keep3, ty2, ty3, ty4, ty23, ty26, ty28, ty30, ty33, ty34]
        refine callThen_of (o _) ?_
        simp (maxSteps := 2000000) only [wk0, wk1, wk2, wk3, wk4, wk5, wk6, Fr.ev, Fr.put, Fr.get, storeA, List.replicate, IntKind.bits, sevalprocAttr, c1, c2, c3, c4, dd, t1, t2, w1, w2, w3, w4, q1, decide_true, decide_false, Bool.not_true, Bool.not_false, List.length_cons, List.length_nil, YtoncolpkpgbfiaaDoor.D3, keep3, ty2, ty3, ty4, ty23, ty26, ty28, ty30, ty33, ty34]
        refine callThen_of (s _) ?_
        simp (maxSteps := 2000000) only [wk0, wk1, wk2, wk3, wk4, wk5, wk6, Fr.ev, Fr.put, Fr.get, storeA, List.replicate, IntKind.bits, sevalprocAttr, c1, c2, c3, c4, dd, t1, t2, w1, w2, w3, w4, q1, decide_true, decide_false, Bool.not_true, Bool.not_false, List.length_cons, List.length_nil, YtoncolpkpgbfiaaDoor.D3, keep3, ty2, ty3, ty4, ty23, ty26, ty28, ty30, ty33, ty34]
        refine callThen_of (su _) ?_
        simp (maxSteps := 2000000) only [wk0, wk1, wk2, wk3, wk4, wk5, wk6, Fr.ev, Fr.put, Fr.get, storeA, List.replicate, IntKind.bits, sevalprocAttr, c1, c2, c3, c4, dd, t1, t2, w1, w2, w3, w4, q1, decide_true, decide_false, Bool.not_true, Bool.not_false, List.length_cons, List.length_nil, YtoncolpkpgbfiaaDoor.D3, keep3, ty2, ty3, ty4, ty23, ty26, ty28, ty30, ty33, ty34]
        exact retB_plain (by simp [nmd_bool]) rfl (by simp)
      · by_cases q2 : 1152921504606846976 < B
        · refine Call.ofC Tryd.func3 YtoncolpkpgbfiaaDoor.b3 YtoncolpkpgbfiaaDoor.d3 YtoncolpkpgbfiaaDoor.e3 (by simp [Tryd.f3]) ?_
          dsimp only [YtoncolpkpgbfiaaDoor.c3, Tryd.f3, Option.getD_some]
          simp (maxSteps := 2000000) only [wk0, wk1, wk2, wk3, wk4, wk5, wk6, Fr.ev, Fr.put, Fr.get, storeA, List.replicate, IntKind.bits, sevalprocAttr, c1, c2, c3, c4, dd, t1, t2, w1, w2, w3, w4, q1, q2, decide_true, decide_false, Bool.not_true, Bool.not_false, List.length_cons, List.length_nil, YtoncolpkpgbfiaaDoor.D3, keep3, ty2, ty3, ty4, ty23, ty26, ty28, ty30, ty33, ty34]
          refine callThen_of (o _) ?_
          simp (maxSteps := 2000000) only [wk0, wk1, wk2, wk3, wk4, wk5, wk6, Fr.ev, Fr.put, Fr.get, storeA, List.replicate, IntKind.bits, sevalprocAttr, c1, c2, c3, c4, dd, t1, t2, w1, w2, w3, w4, q1, q2, decide_true, decide_false, Bool.not_true, Bool.not_false, List.length_cons, List.length_nil, YtoncolpkpgbfiaaDoor.D3, keep3, ty2, ty3, ty4, ty23, ty26, ty28, ty30, ty33, ty34]
          refine callThen_of (s _) ?_
          simp (maxSteps := 2000000) only [wk0, wk1, wk2, wk3, wk4, wk5, wk6, Fr.ev, Fr.put, Fr.get, storeA, List.replicate, IntKind.bits, sevalprocAttr, c1, c2, c3, c4, dd, t1, t2, w1, w2, w3, w4, q1, q2, decide_true, decide_false, Bool.not_true, Bool.not_false, List.length_cons, List.length_nil, YtoncolpkpgbfiaaDoor.D3, keep3, ty2, ty3, ty4, ty23, ty26, ty28, ty30, ty33, ty34]
          refine callThen_of (su _) ?_
          simp (maxSteps := 2000000) only [wk0, wk1, wk2, wk3, wk4, wk5, wk6, Fr.ev, Fr.put, Fr.get, storeA, List.replicate, IntKind.bits, sevalprocAttr, c1, c2, c3, c4, dd, t1, t2, w1, w2, w3, w4, q1, q2, decide_true, decide_false, Bool.not_true, Bool.not_false, List.length_cons, List.length_nil, YtoncolpkpgbfiaaDoor.D3, keep3, ty2, ty3, ty4, ty23, ty26, ty28, ty30, ty33, ty34]
          exact retB_plain (by simp [nmd_bool]) rfl (by simp)
        · obtain ⟨⟨x1, x2, x3⟩, d1, d2⟩ := p3 (by omega) (by omega)
          have w5 : IntKind.i64.wrap (xx + yy) = xx + yy := wrapI (by omega)
          have w6 : IntKind.i64.wrap (xx + yy - A) = xx + yy - A := wrapI (by omega)
          have w7 : IntKind.i64.wrap (xx + yy - A - B) = xx + yy - A - B := wrapI (by omega)
          have w8 : IntKind.i64.wrap (1099511627776 - far) = 1099511627776 - far := wrapI (by omega)
          have w9 : IntKind.i64.wrap (0 - (A / 1000000 + B / 1000000 + 16)) = -(A / 1000000 + B / 1000000 + 16) := by rw [Int.zero_sub]; exact wrapI (by omega)
          by_cases m1 : 0 ≤ more
          · by_cases m2 : more ≤ 1099511627776 - far
            · rw [if_pos ⟨m1, m2⟩] at ff
              subst ff
              have w10 : IntKind.i64.wrap (far + more) = far + more := wrapI (by omega)
              refine Call.ofC Tryd.func3 YtoncolpkpgbfiaaDoor.b3 YtoncolpkpgbfiaaDoor.d3 YtoncolpkpgbfiaaDoor.e3 (by simp [Tryd.f3]) ?_
              dsimp only [YtoncolpkpgbfiaaDoor.c3, Tryd.f3, Option.getD_some]
              simp (maxSteps := 2000000) only [wk0, wk1, wk2, wk3, wk4, wk5, wk6, Fr.ev, Fr.put, Fr.get, storeA, List.replicate, IntKind.bits, sevalprocAttr, c1, c2, c3, c4, dd, t1, t2, w1, w2, w3, w4, w5, w6, w7, w8, w9, w10, m1, m2, hle, d1, d2, q1, q2, decide_true, decide_false, Bool.not_true, Bool.not_false, List.length_cons, List.length_nil, YtoncolpkpgbfiaaDoor.D3, keep3, ty2, ty3, ty4, ty23, ty26, ty28, ty30, ty33, ty34]
              refine callThen_of (o _) ?_
              simp (maxSteps := 2000000) only [wk0, wk1, wk2, wk3, wk4, wk5, wk6, Fr.ev, Fr.put, Fr.get, storeA, List.replicate, IntKind.bits, sevalprocAttr, c1, c2, c3, c4, dd, t1, t2, w1, w2, w3, w4, w5, w6, w7, w8, w9, w10, m1, m2, hle, d1, d2, q1, q2, decide_true, decide_false, Bool.not_true, Bool.not_false, List.length_cons, List.length_nil, YtoncolpkpgbfiaaDoor.D3, keep3, ty2, ty3, ty4, ty23, ty26, ty28, ty30, ty33, ty34]
              refine callThen_of (s _) ?_
              simp (maxSteps := 2000000) only [wk0, wk1, wk2, wk3, wk4, wk5, wk6, Fr.ev, Fr.put, Fr.get, storeA, List.replicate, IntKind.bits, sevalprocAttr, c1, c2, c3, c4, dd, t1, t2, w1, w2, w3, w4, w5, w6, w7, w8, w9, w10, m1, m2, hle, d1, d2, q1, q2, decide_true, decide_false, Bool.not_true, Bool.not_false, List.length_cons, List.length_nil, YtoncolpkpgbfiaaDoor.D3, keep3, ty2, ty3, ty4, ty23, ty26, ty28, ty30, ty33, ty34]
              refine callThen_of (hf2 _) ?_
              simp (maxSteps := 2000000) only [wk0, wk1, wk2, wk3, wk4, wk5, wk6, Fr.ev, Fr.put, Fr.get, storeA, List.replicate, IntKind.bits, sevalprocAttr, c1, c2, c3, c4, dd, t1, t2, w1, w2, w3, w4, w5, w6, w7, w8, w9, w10, m1, m2, hle, d1, d2, q1, q2, decide_true, decide_false, Bool.not_true, Bool.not_false, List.length_cons, List.length_nil, YtoncolpkpgbfiaaDoor.D3, keep3, ty2, ty3, ty4, ty23, ty26, ty28, ty30, ty33, ty34]
              refine callThen_of (su _) ?_
              simp (maxSteps := 2000000) only [wk0, wk1, wk2, wk3, wk4, wk5, wk6, Fr.ev, Fr.put, Fr.get, storeA, List.replicate, IntKind.bits, sevalprocAttr, c1, c2, c3, c4, dd, t1, t2, w1, w2, w3, w4, w5, w6, w7, w8, w9, w10, m1, m2, hle, d1, d2, q1, q2, decide_true, decide_false, Bool.not_true, Bool.not_false, List.length_cons, List.length_nil, YtoncolpkpgbfiaaDoor.D3, keep3, ty2, ty3, ty4, ty23, ty26, ty28, ty30, ty33, ty34]
              exact retB_plain (by simp [nmd_bool]) rfl (by simp)
            · rw [if_neg (fun h => m2 h.2)] at ff
              rw [ff] at hf2
              refine Call.ofC Tryd.func3 YtoncolpkpgbfiaaDoor.b3 YtoncolpkpgbfiaaDoor.d3 YtoncolpkpgbfiaaDoor.e3 (by simp [Tryd.f3]) ?_
              dsimp only [YtoncolpkpgbfiaaDoor.c3, Tryd.f3, Option.getD_some]
              simp (maxSteps := 2000000) only [wk0, wk1, wk2, wk3, wk4, wk5, wk6, Fr.ev, Fr.put, Fr.get, storeA, List.replicate, IntKind.bits, sevalprocAttr, c1, c2, c3, c4, dd, t1, t2, w1, w2, w3, w4, w5, w6, w7, w8, w9, m1, m2, hle, d1, d2, q1, q2, decide_true, decide_false, Bool.not_true, Bool.not_false, List.length_cons, List.length_nil, YtoncolpkpgbfiaaDoor.D3, keep3, ty2, ty3, ty4, ty23, ty26, ty28, ty30, ty33, ty34]
              refine callThen_of (o _) ?_
              simp (maxSteps := 2000000) only [wk0, wk1, wk2, wk3, wk4, wk5, wk6, Fr.ev, Fr.put, Fr.get, storeA, List.replicate, IntKind.bits, sevalprocAttr, c1, c2, c3, c4, dd, t1, t2, w1, w2, w3, w4, w5, w6, w7, w8, w9, m1, m2, hle, d1, d2, q1, q2, decide_true, decide_false, Bool.not_true, Bool.not_false, List.length_cons, List.length_nil, YtoncolpkpgbfiaaDoor.D3, keep3, ty2, ty3, ty4, ty23, ty26, ty28, ty30, ty33, ty34]
              refine callThen_of (s _) ?_
              simp (maxSteps := 2000000) only [wk0, wk1, wk2, wk3, wk4, wk5, wk6, Fr.ev, Fr.put, Fr.get, storeA, List.replicate, IntKind.bits, sevalprocAttr, c1, c2, c3, c4, dd, t1, t2, w1, w2, w3, w4, w5, w6, w7, w8, w9, m1, m2, hle, d1, d2, q1, q2, decide_true, decide_false, Bool.not_true, Bool.not_false, List.length_cons, List.length_nil, YtoncolpkpgbfiaaDoor.D3, keep3, ty2, ty3, ty4, ty23, ty26, ty28, ty30, ty33, ty34]
              refine callThen_of (hf2 _) ?_
              simp (maxSteps := 2000000) only [wk0, wk1, wk2, wk3, wk4, wk5, wk6, Fr.ev, Fr.put, Fr.get, storeA, List.replicate, IntKind.bits, sevalprocAttr, c1, c2, c3, c4, dd, t1, t2, w1, w2, w3, w4, w5, w6, w7, w8, w9, m1, m2, hle, d1, d2, q1, q2, decide_true, decide_false, Bool.not_true, Bool.not_false, List.length_cons, List.length_nil, YtoncolpkpgbfiaaDoor.D3, keep3, ty2, ty3, ty4, ty23, ty26, ty28, ty30, ty33, ty34]
              refine callThen_of (su _) ?_
              simp (maxSteps := 2000000) only [wk0, wk1, wk2, wk3, wk4, wk5, wk6, Fr.ev, Fr.put, Fr.get, storeA, List.replicate, IntKind.bits, sevalprocAttr, c1, c2, c3, c4, dd, t1, t2, w1, w2, w3, w4, w5, w6, w7, w8, w9, m1, m2, hle, d1, d2, q1, q2, decide_true, decide_false, Bool.not_true, Bool.not_false, List.length_cons, List.length_nil, YtoncolpkpgbfiaaDoor.D3, keep3, ty2, ty3, ty4, ty23, ty26, ty28, ty30, ty33, ty34]
              exact retB_plain (by simp [nmd_bool]) rfl (by simp)
          · rw [if_neg (fun h => m1 h.1)] at ff
            rw [ff] at hf2
            refine Call.ofC Tryd.func3 YtoncolpkpgbfiaaDoor.b3 YtoncolpkpgbfiaaDoor.d3 YtoncolpkpgbfiaaDoor.e3 (by simp [Tryd.f3]) ?_
            dsimp only [YtoncolpkpgbfiaaDoor.c3, Tryd.f3, Option.getD_some]
            simp (maxSteps := 2000000) only [wk0, wk1, wk2, wk3, wk4, wk5, wk6, Fr.ev, Fr.put, Fr.get, storeA, List.replicate, IntKind.bits, sevalprocAttr, c1, c2, c3, c4, dd, t1, t2, w1, w2, w3, w4, w5, w6, w7, w8, w9, m1, hle, d1, d2, q1, q2, decide_true, decide_false, Bool.not_true, Bool.not_false, List.length_cons, List.length_nil, YtoncolpkpgbfiaaDoor.D3, keep3, ty2, ty3, ty4, ty23, ty26, ty28, ty30, ty33, ty34]
            refine callThen_of (o _) ?_
            simp (maxSteps := 2000000) only [wk0, wk1, wk2, wk3, wk4, wk5, wk6, Fr.ev, Fr.put, Fr.get, storeA, List.replicate, IntKind.bits, sevalprocAttr, c1, c2, c3, c4, dd, t1, t2, w1, w2, w3, w4, w5, w6, w7, w8, w9, m1, hle, d1, d2, q1, q2, decide_true, decide_false, Bool.not_true, Bool.not_false, List.length_cons, List.length_nil, YtoncolpkpgbfiaaDoor.D3, keep3, ty2, ty3, ty4, ty23, ty26, ty28, ty30, ty33, ty34]
            refine callThen_of (s _) ?_
            simp (maxSteps := 2000000) only [wk0, wk1, wk2, wk3, wk4, wk5, wk6, Fr.ev, Fr.put, Fr.get, storeA, List.replicate, IntKind.bits, sevalprocAttr, c1, c2, c3, c4, dd, t1, t2, w1, w2, w3, w4, w5, w6, w7, w8, w9, m1, hle, d1, d2, q1, q2, decide_true, decide_false, Bool.not_true, Bool.not_false, List.length_cons, List.length_nil, YtoncolpkpgbfiaaDoor.D3, keep3, ty2, ty3, ty4, ty23, ty26, ty28, ty30, ty33, ty34]
            refine callThen_of (hf2 _) ?_
            simp (maxSteps := 2000000) only [wk0, wk1, wk2, wk3, wk4, wk5, wk6, Fr.ev, Fr.put, Fr.get, storeA, List.replicate, IntKind.bits, sevalprocAttr, c1, c2, c3, c4, dd, t1, t2, w1, w2, w3, w4, w5, w6, w7, w8, w9, m1, hle, d1, d2, q1, q2, decide_true, decide_false, Bool.not_true, Bool.not_false, List.length_cons, List.length_nil, YtoncolpkpgbfiaaDoor.D3, keep3, ty2, ty3, ty4, ty23, ty26, ty28, ty30, ty33, ty34]
            refine callThen_of (su _) ?_
            simp (maxSteps := 2000000) only [wk0, wk1, wk2, wk3, wk4, wk5, wk6, Fr.ev, Fr.put, Fr.get, storeA, List.replicate, IntKind.bits, sevalprocAttr, c1, c2, c3, c4, dd, t1, t2, w1, w2, w3, w4, w5, w6, w7, w8, w9, m1, hle, d1, d2, q1, q2, decide_true, decide_false, Bool.not_true, Bool.not_false, List.length_cons, List.length_nil, YtoncolpkpgbfiaaDoor.D3, keep3, ty2, ty3, ty4, ty23, ty26, ty28, ty30, ty33, ty34]
            exact retB_plain (by simp [nmd_bool]) rfl (by simp)
    · rw [hov] at o
      refine Call.ofC Tryd.func3 YtoncolpkpgbfiaaDoor.b3 YtoncolpkpgbfiaaDoor.d3 YtoncolpkpgbfiaaDoor.e3 (by simp [Tryd.f3]) ?_
      dsimp only [YtoncolpkpgbfiaaDoor.c3, Tryd.f3, Option.getD_some]
      simp (maxSteps := 2000000) only [wk0, wk1, wk2, wk3, wk4, wk5, wk6, Fr.ev, Fr.put, Fr.get, storeA, List.replicate, IntKind.bits, sevalprocAttr, decide_true, decide_false, Bool.not_true, Bool.not_false, List.length_cons, List.length_nil, YtoncolpkpgbfiaaDoor.D3, keep3, ty2, ty3, ty4, ty23, ty26, ty28, ty30, ty33, ty34]
      refine callThen_of (o _) ?_
      simp (maxSteps := 2000000) only [wk0, wk1, wk2, wk3, wk4, wk5, wk6, Fr.ev, Fr.put, Fr.get, storeA, List.replicate, IntKind.bits, sevalprocAttr, decide_true, decide_false, Bool.not_true, Bool.not_false, List.length_cons, List.length_nil, YtoncolpkpgbfiaaDoor.D3, keep3, ty2, ty3, ty4, ty23, ty26, ty28, ty30, ty33, ty34]
      refine callThen_of (su _) ?_
      simp (maxSteps := 2000000) only [wk0, wk1, wk2, wk3, wk4, wk5, wk6, Fr.ev, Fr.put, Fr.get, storeA, List.replicate, IntKind.bits, sevalprocAttr, decide_true, decide_false, Bool.not_true, Bool.not_false, List.length_cons, List.length_nil, YtoncolpkpgbfiaaDoor.D3, keep3, ty2, ty3, ty4, ty23, ty26, ty28, ty30, ty33, ty34]
      exact retB_plain (by simp [nmd_bool]) rfl (by simp)
  · have o := fun S => polarOf_bad R T far z tm S h
    simp only [errA] at o
    refine Call.ofC Tryd.func3 YtoncolpkpgbfiaaDoor.b3 YtoncolpkpgbfiaaDoor.d3 YtoncolpkpgbfiaaDoor.e3 (by simp [Tryd.f3]) ?_
    dsimp only [YtoncolpkpgbfiaaDoor.c3, Tryd.f3, Option.getD_some]
    simp (maxSteps := 2000000) only [wk0, wk1, wk2, wk3, wk4, wk5, wk6, Fr.ev, Fr.put, Fr.get, storeA, List.replicate, IntKind.bits, sevalprocAttr, decide_true, decide_false, Bool.not_true, Bool.not_false, List.length_cons, List.length_nil, YtoncolpkpgbfiaaDoor.D3, keep3, ty2, ty3, ty4, ty23, ty26, ty28, ty30, ty33, ty34]
    refine callThen_of (o _) ?_
    simp (maxSteps := 2000000) only [wk0, wk1, wk2, wk3, wk4, wk5, wk6, Fr.ev, Fr.put, Fr.get, storeA, List.replicate, IntKind.bits, sevalprocAttr, decide_true, decide_false, Bool.not_true, Bool.not_false, List.length_cons, List.length_nil, YtoncolpkpgbfiaaDoor.D3, keep3, ty2, ty3, ty4, ty23, ty26, ty28, ty30, ty33, ty34]
    refine callThen_of (nu _) ?_
    simp (maxSteps := 2000000) only [wk0, wk1, wk2, wk3, wk4, wk5, wk6, Fr.ev, Fr.put, Fr.get, storeA, List.replicate, IntKind.bits, sevalprocAttr, decide_true, decide_false, Bool.not_true, Bool.not_false, List.length_cons, List.length_nil, YtoncolpkpgbfiaaDoor.D3, keep3, ty2, ty3, ty4, ty23, ty26, ty28, ty30, ty33, ty34]
    refine callThen_of (su _) ?_
    simp (maxSteps := 2000000) only [wk0, wk1, wk2, wk3, wk4, wk5, wk6, Fr.ev, Fr.put, Fr.get, storeA, List.replicate, IntKind.bits, sevalprocAttr, decide_true, decide_false, Bool.not_true, Bool.not_false, List.length_cons, List.length_nil, YtoncolpkpgbfiaaDoor.D3, keep3, ty2, ty3, ty4, ty23, ty26, ty28, ty30, ty33, ty34]
    exact retB_plain (by simp [nmd_bool]) rfl (by simp)
end Go.Proofs.YtoncolpkpgbfiaaDoor
