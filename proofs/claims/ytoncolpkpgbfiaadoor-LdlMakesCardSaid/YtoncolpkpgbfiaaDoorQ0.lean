/- qnum: the sums of 192 bits. -/
import Derived.Test.YtoncolpkpgbfiaaDoorB0
set_option linter.unusedSimpArgs false
set_option linter.unusedVariables false
set_option maxRecDepth 100000
set_option maxHeartbeats 4000000
namespace Go.Proofs.YtoncolpkpgbfiaaDoor
def w0 (z : Int) : Int := z % 18446744073709551616
def w1 (z : Int) : Int := z / 18446744073709551616 % 18446744073709551616
def w2 (z : Int) : Int := z / 18446744073709551616 / 18446744073709551616 % 18446744073709551616
def enc3 (z : Int) : AV := .agg [.int .u64 (w0 z), .int .u64 (w1 z), .int .u64 (w2 z)]
theorem w0_in (z : Int) : 0 ≤ w0 z ∧ w0 z < 18446744073709551616 := by unfold w0; omega
theorem w1_in (z : Int) : 0 ≤ w1 z ∧ w1 z < 18446744073709551616 := by unfold w1; omega
theorem w2_in (z : Int) : 0 ≤ w2 z ∧ w2 z < 18446744073709551616 := by unfold w2; omega
noncomputable def c113 : Code := Tryd.f113.body.getD .skip
theorem b113 : Tryd.f113.body = some c113 := rfl
theorem d113 : fnOk Tryd.f113 c113 = true := by kernel_rfl
def D113 : Nat → List Tag := fun _ => []
theorem e113 : drawsOk D113 c113 = true := by kernel_rfl
noncomputable def c99 : Code := Tryd.f99.body.getD .skip
theorem b99 : Tryd.f99.body = some c99 := rfl
theorem d99 : fnOk Tryd.f99 c99 = true := by kernel_rfl
def D99 : Nat → List Tag
  | 5 => [.pure, .pure, .pure, .quiet, .pure, .pure, .quiet, .pure, .pure, .pure, .pure, .pure, .pure, .seq, .pure]
  | _ => []
theorem e99 : drawsOk D99 c99 = true := by kernel_rfl
noncomputable def c108 : Code := Tryd.f108.body.getD .skip
theorem b108 : Tryd.f108.body = some c108 := rfl
theorem d108 : fnOk Tryd.f108 c108 = true := by kernel_rfl
def D108 : Nat → List Tag := fun _ => []
theorem e108 : drawsOk D108 c108 = true := by kernel_rfl
noncomputable def c117 : Code := Tryd.f117.body.getD .skip
theorem b117 : Tryd.f117.body = some c117 := rfl
theorem d117 : fnOk Tryd.f117 c117 = true := by kernel_rfl
def D117 : Nat → List Tag := fun _ => []
theorem e117 : drawsOk D117 c117 = true := by kernel_rfl
noncomputable def c102 : Code := Tryd.f102.body.getD .skip
theorem b102 : Tryd.f102.body = some c102 := rfl
theorem d102 : fnOk Tryd.f102 c102 = true := by kernel_rfl
def D102 : Nat → List Tag
  | 1 => [.quiet, .quiet, .quiet, .fresh, .seq]
  | 2 => [.quiet, .quiet, .quiet, .fresh, .seq]
  | _ => []
theorem e102 : drawsOk D102 c102 = true := by kernel_rfl
theorem of_ok (a : Int) (S : Heap) (ha : -9223372036854775808 ≤ a ∧ a < 9223372036854775808) : Call theE 113 [.int .i64 a] S (enc3 a) S := by
  refine Call.ofC Tryd.func113 YtoncolpkpgbfiaaDoor.b113 YtoncolpkpgbfiaaDoor.d113 YtoncolpkpgbfiaaDoor.e113 (by simp [Tryd.f113]) ?_
  dsimp only [YtoncolpkpgbfiaaDoor.c113, Tryd.f113, Option.getD_some]
  simp (maxSteps := 2000000) only [wk0, wk1, wk2, wk3, wk4, wk5, wk6, Fr.ev, Fr.put, Fr.get, storeA, List.replicate, IntKind.bits, sevalprocAttr, YtoncolpkpgbfiaaDoor.D113, ty2, ty131, ty151, ty166]
  refine retB_plain (by simp [nmd_agg, nmd_int]) ?_ (by simp)
  have h : a.fdiv 9223372036854775808 = a / 9223372036854775808 := Int.fdiv_eq_ediv_of_nonneg a (by decide)
  simp only [packA, enc3, w0, w1, w2, h, wrapU64]
  have e1 : a / 9223372036854775808 % 18446744073709551616 = a / 18446744073709551616 % 18446744073709551616 := by omega
  have e2 : a / 9223372036854775808 % 18446744073709551616 = a / 18446744073709551616 / 18446744073709551616 % 18446744073709551616 := by
    rcases Int.lt_or_le a 0 with h | h
    · rw [show a / 9223372036854775808 = -1 by omega, show a / 18446744073709551616 / 18446744073709551616 = -1 by omega]
    · rw [show a / 9223372036854775808 = 0 by omega, show a / 18446744073709551616 / 18446744073709551616 = 0 by omega]
  rw [← e2, ← e1]
theorem plus_raw (x0 x1 x2 y0 y1 y2 : Int) (S : Heap) (hx0 : 0 ≤ x0 ∧ x0 < 18446744073709551616) (hx1 : 0 ≤ x1 ∧ x1 < 18446744073709551616) (hx2 : 0 ≤ x2 ∧ x2 < 18446744073709551616)
    (hy0 : 0 ≤ y0 ∧ y0 < 18446744073709551616) (hy1 : 0 ≤ y1 ∧ y1 < 18446744073709551616) (hy2 : 0 ≤ y2 ∧ y2 < 18446744073709551616) :
    Call theE 99 [.agg [.int .u64 x0, .int .u64 x1, .int .u64 x2], .agg [.int .u64 y0, .int .u64 y1, .int .u64 y2]] S
      (.agg [.int .u64 ((x0 + y0 + 0) % 18446744073709551616), .int .u64 ((x1 + y1 + (x0 + y0 + 0) / 18446744073709551616) % 18446744073709551616),
        .int .u64 ((x2 + y2 + (x1 + y1 + (x0 + y0 + 0) / 18446744073709551616) / 18446744073709551616) % 18446744073709551616)]) S := by
  have a0 := add64A_ok (x := x0) (y := y0) (c := 0) hx0.1 hy0.1 (by decide) (by decide)
  have a1 := add64A_ok (x := x1) (y := y1) (c := (x0 + y0 + 0) / 18446744073709551616) hx1.1 hy1.1 (by omega) (by omega)
  have a2 := add64A_ok (x := x2) (y := y2) (c := (x1 + y1 + (x0 + y0 + 0) / 18446744073709551616) / 18446744073709551616) hx2.1 hy2.1 (by omega) (by omega)
  refine Call.ofC Tryd.func99 YtoncolpkpgbfiaaDoor.b99 YtoncolpkpgbfiaaDoor.d99 YtoncolpkpgbfiaaDoor.e99 (by simp [Tryd.f99]) ?_
  dsimp only [YtoncolpkpgbfiaaDoor.c99, Tryd.f99, Option.getD_some]
  simp (maxSteps := 2000000) only [wk0, wk1, wk2, wk3, wk4, wk5, wk6, Fr.ev, Fr.put, Fr.get, storeA, List.replicate, IntKind.bits, sevalprocAttr, YtoncolpkpgbfiaaDoor.D99, ty3, ty151, ty166]
  refine loopC_of ?_
  simp (maxSteps := 2000000) only [wk0, wk1, wk2, wk3, wk4, wk5, wk6, Fr.ev, Fr.put, Fr.get, storeA, List.replicate, IntKind.bits, sevalprocAttr, a0, YtoncolpkpgbfiaaDoor.D99, ty3, ty151, ty166]
  refine loopC_of ?_
  simp (maxSteps := 2000000) only [wk0, wk1, wk2, wk3, wk4, wk5, wk6, Fr.ev, Fr.put, Fr.get, storeA, List.replicate, IntKind.bits, sevalprocAttr, a1, YtoncolpkpgbfiaaDoor.D99, ty3, ty151, ty166]
  refine loopC_of ?_
  simp (maxSteps := 2000000) only [wk0, wk1, wk2, wk3, wk4, wk5, wk6, Fr.ev, Fr.put, Fr.get, storeA, List.replicate, IntKind.bits, sevalprocAttr, a2, YtoncolpkpgbfiaaDoor.D99, ty3, ty151, ty166]
  refine loopC_of ?_
  simp (maxSteps := 2000000) only [wk0, wk1, wk2, wk3, wk4, wk5, wk6, Fr.ev, Fr.put, Fr.get, storeA, List.replicate, IntKind.bits, sevalprocAttr, YtoncolpkpgbfiaaDoor.D99, ty3, ty151, ty166]
  exact retB_plain (by simp [nmd_agg, nmd_int]) rfl (by simp)
theorem enc_add (x y : Int) : AV.agg [.int .u64 ((x % 18446744073709551616 + y % 18446744073709551616 + 0) % 18446744073709551616),
      .int .u64 ((x / 18446744073709551616 % 18446744073709551616 + y / 18446744073709551616 % 18446744073709551616 + (x % 18446744073709551616 + y % 18446744073709551616 + 0) / 18446744073709551616) % 18446744073709551616),
      .int .u64 ((x / 18446744073709551616 / 18446744073709551616 % 18446744073709551616 + y / 18446744073709551616 / 18446744073709551616 % 18446744073709551616 +
        (x / 18446744073709551616 % 18446744073709551616 + y / 18446744073709551616 % 18446744073709551616 + (x % 18446744073709551616 + y % 18446744073709551616 + 0) / 18446744073709551616) / 18446744073709551616) % 18446744073709551616)] = enc3 (x + y) := by
  have e0 : (x % 18446744073709551616 + y % 18446744073709551616 + 0) % 18446744073709551616 = (x + y) % 18446744073709551616 := by omega
  have e1 : (x / 18446744073709551616 % 18446744073709551616 + y / 18446744073709551616 % 18446744073709551616 + (x % 18446744073709551616 + y % 18446744073709551616 + 0) / 18446744073709551616) % 18446744073709551616 = (x + y) / 18446744073709551616 % 18446744073709551616 := by omega
  have e2 : (x / 18446744073709551616 / 18446744073709551616 % 18446744073709551616 + y / 18446744073709551616 / 18446744073709551616 % 18446744073709551616 +
        (x / 18446744073709551616 % 18446744073709551616 + y / 18446744073709551616 % 18446744073709551616 + (x % 18446744073709551616 + y % 18446744073709551616 + 0) / 18446744073709551616) / 18446744073709551616) % 18446744073709551616 = (x + y) / 18446744073709551616 / 18446744073709551616 % 18446744073709551616 := by omega
  rw [e0, e1, e2]; rfl
theorem plus_ok (x y : Int) (S : Heap) : Call theE 99 [enc3 x, enc3 y] S (enc3 (x + y)) S := by
  rw [← enc_add]
  exact plus_raw _ _ _ _ _ _ S (w0_in x) (w1_in x) (w2_in x) (w0_in y) (w1_in y) (w2_in y)
theorem neg_raw (x0 x1 x2 : Int) (S : Heap) (hx0 : 0 ≤ x0 ∧ x0 < 18446744073709551616) (hx1 : 0 ≤ x1 ∧ x1 < 18446744073709551616) (hx2 : 0 ≤ x2 ∧ x2 < 18446744073709551616) :
    Call theE 108 [.agg [.int .u64 x0, .int .u64 x1, .int .u64 x2]] S
      (.agg [.int .u64 ((18446744073709551615 - x0 + 0 + 1) % 18446744073709551616), .int .u64 ((18446744073709551615 - x1 + 0 + (18446744073709551615 - x0 + 0 + 1) / 18446744073709551616) % 18446744073709551616),
        .int .u64 ((18446744073709551615 - x2 + 0 + (18446744073709551615 - x1 + 0 + (18446744073709551615 - x0 + 0 + 1) / 18446744073709551616) / 18446744073709551616) % 18446744073709551616)]) S := by
  have a0 := add64A_ok (x := 18446744073709551615 - x0) (y := 0) (c := 1) (by omega) (by decide) (by decide) (by decide)
  have a1 := add64A_ok (x := 18446744073709551615 - x1) (y := 0) (c := (18446744073709551615 - x0 + 0 + 1) / 18446744073709551616) (by omega) (by omega) (by omega) (by omega)
  have a2 := add64A_ok (x := 18446744073709551615 - x2) (y := 0) (c := (18446744073709551615 - x1 + 0 + (18446744073709551615 - x0 + 0 + 1) / 18446744073709551616) / 18446744073709551616) (by omega) (by omega) (by omega) (by omega)
  have n0 := notU hx0
  have n1 := notU hx1
  have n2 := notU hx2
  refine Call.ofC Tryd.func108 YtoncolpkpgbfiaaDoor.b108 YtoncolpkpgbfiaaDoor.d108 YtoncolpkpgbfiaaDoor.e108 (by simp [Tryd.f108]) ?_
  dsimp only [YtoncolpkpgbfiaaDoor.c108, Tryd.f108, Option.getD_some]
  simp (maxSteps := 2000000) only [wk0, wk1, wk2, wk3, wk4, wk5, wk6, Fr.ev, Fr.put, Fr.get, storeA, List.replicate, IntKind.bits, sevalprocAttr, YtoncolpkpgbfiaaDoor.D108, ty3, ty151, ty166]
  refine loopC_of ?_
  simp (maxSteps := 2000000) only [wk0, wk1, wk2, wk3, wk4, wk5, wk6, Fr.ev, Fr.put, Fr.get, storeA, List.replicate, IntKind.bits, sevalprocAttr, a0, n0, YtoncolpkpgbfiaaDoor.D108, ty3, ty151, ty166]
  refine loopC_of ?_
  simp (maxSteps := 2000000) only [wk0, wk1, wk2, wk3, wk4, wk5, wk6, Fr.ev, Fr.put, Fr.get, storeA, List.replicate, IntKind.bits, sevalprocAttr, a1, n1, YtoncolpkpgbfiaaDoor.D108, ty3, ty151, ty166]
  refine loopC_of ?_
  simp (maxSteps := 2000000) only [wk0, wk1, wk2, wk3, wk4, wk5, wk6, Fr.ev, Fr.put, Fr.get, storeA, List.replicate, IntKind.bits, sevalprocAttr, a2, n2, YtoncolpkpgbfiaaDoor.D108, ty3, ty151, ty166]
  refine loopC_of ?_
  simp (maxSteps := 2000000) only [wk0, wk1, wk2, wk3, wk4, wk5, wk6, Fr.ev, Fr.put, Fr.get, storeA, List.replicate, IntKind.bits, sevalprocAttr, YtoncolpkpgbfiaaDoor.D108, ty3, ty151, ty166]
  exact retB_plain (by simp [nmd_agg, nmd_int]) rfl (by simp)
theorem enc_neg (x : Int) : AV.agg [.int .u64 ((18446744073709551615 - x % 18446744073709551616 + 0 + 1) % 18446744073709551616), .int .u64 ((18446744073709551615 - x / 18446744073709551616 % 18446744073709551616 + 0 + (18446744073709551615 - x % 18446744073709551616 + 0 + 1) / 18446744073709551616) % 18446744073709551616),
        .int .u64 ((18446744073709551615 - x / 18446744073709551616 / 18446744073709551616 % 18446744073709551616 + 0 + (18446744073709551615 - x / 18446744073709551616 % 18446744073709551616 + 0 + (18446744073709551615 - x % 18446744073709551616 + 0 + 1) / 18446744073709551616) / 18446744073709551616) % 18446744073709551616)] = enc3 (-x) := by
  have e0 : (18446744073709551615 - x % 18446744073709551616 + 0 + 1) % 18446744073709551616 = (-x) % 18446744073709551616 := by omega
  have e1 : (18446744073709551615 - x / 18446744073709551616 % 18446744073709551616 + 0 + (18446744073709551615 - x % 18446744073709551616 + 0 + 1) / 18446744073709551616) % 18446744073709551616 = (-x) / 18446744073709551616 % 18446744073709551616 := by omega
  have e2 : (18446744073709551615 - x / 18446744073709551616 / 18446744073709551616 % 18446744073709551616 + 0 + (18446744073709551615 - x / 18446744073709551616 % 18446744073709551616 + 0 + (18446744073709551615 - x % 18446744073709551616 + 0 + 1) / 18446744073709551616) / 18446744073709551616) % 18446744073709551616 = (-x) / 18446744073709551616 / 18446744073709551616 % 18446744073709551616 := by omega
  rw [e0, e1, e2]; rfl
theorem neg_ok (x : Int) (S : Heap) : Call theE 108 [enc3 x] S (enc3 (-x)) S := by
  rw [← enc_neg]
  exact neg_raw _ _ _ S (w0_in x) (w1_in x) (w2_in x)
theorem below_raw (x0 x1 x2 : Int) (S : Heap) (hx2 : 0 ≤ x2 ∧ x2 < 18446744073709551616) :
    Call theE 117 [.agg [.int .u64 x0, .int .u64 x1, .int .u64 x2]] S (.bool (decide (x2.fdiv 9223372036854775808 = 1))) S := by
  refine Call.ofC Tryd.func117 YtoncolpkpgbfiaaDoor.b117 YtoncolpkpgbfiaaDoor.d117 YtoncolpkpgbfiaaDoor.e117 (by simp [Tryd.f117]) ?_
  dsimp only [YtoncolpkpgbfiaaDoor.c117, Tryd.f117, Option.getD_some]
  simp (maxSteps := 2000000) only [wk0, wk1, wk2, wk3, wk4, wk5, wk6, Fr.ev, Fr.put, Fr.get, storeA, List.replicate, IntKind.bits, sevalprocAttr, YtoncolpkpgbfiaaDoor.D117, ty4, ty131, ty151, ty166]
  exact retB_plain (by simp [nmd_bool]) rfl (by simp)
theorem below_ok (x : Int) (S : Heap) (hx : -3138550867693340381917894711603833208051177722232017256448 ≤ x ∧ x < 3138550867693340381917894711603833208051177722232017256448) :
    Call theE 117 [enc3 x] S (.bool (decide (x < 0))) S := by
  have h : decide (x < 0) = decide ((x / 18446744073709551616 / 18446744073709551616 % 18446744073709551616).fdiv 9223372036854775808 = 1) := by
    rw [shr0 (by decide)]
    congr 1
    apply propext
    omega
  rw [h]
  exact below_raw _ _ _ S (w2_in x)
theorem bounded_ok (x : Int) (S : Heap) (hx : -1569275433846670190958947355801916604025588861116008628224 ≤ x ∧ x < 1569275433846670190958947355801916604025588861116008628224) :
    Call theE 102 [enc3 x] S (.tup [.int .i64 (bndI x), .bool (ovrB x)]) S := by
  refine Call.ofC Tryd.func102 YtoncolpkpgbfiaaDoor.b102 YtoncolpkpgbfiaaDoor.d102 YtoncolpkpgbfiaaDoor.e102 (by simp [Tryd.f102]) ?_
  dsimp only [YtoncolpkpgbfiaaDoor.c102, Tryd.f102, Option.getD_some]
  simp (maxSteps := 2000000) only [wk0, wk1, wk2, wk3, wk4, wk5, wk6, Fr.ev, Fr.put, Fr.get, storeA, List.replicate, IntKind.bits, sevalprocAttr, enc3, YtoncolpkpgbfiaaDoor.D102, ty2, ty4, ty151, ty166]
  refine callThen_of (of_ok 4611686018427387903 _ (by decide)) ?_
  simp (maxSteps := 2000000) only [wk0, wk1, wk2, wk3, wk4, wk5, wk6, Fr.ev, Fr.put, Fr.get, storeA, List.replicate, IntKind.bits, sevalprocAttr, enc3, YtoncolpkpgbfiaaDoor.D102, ty2, ty4, ty151, ty166]
  refine callThen_of (plus_ok _ _ _) ?_
  simp (maxSteps := 2000000) only [wk0, wk1, wk2, wk3, wk4, wk5, wk6, Fr.ev, Fr.put, Fr.get, storeA, List.replicate, IntKind.bits, sevalprocAttr, enc3, YtoncolpkpgbfiaaDoor.D102, ty2, ty4, ty151, ty166]
  refine callThen_of (of_ok (-4611686018427387904) _ (by decide)) ?_
  simp (maxSteps := 2000000) only [wk0, wk1, wk2, wk3, wk4, wk5, wk6, Fr.ev, Fr.put, Fr.get, storeA, List.replicate, IntKind.bits, sevalprocAttr, enc3, YtoncolpkpgbfiaaDoor.D102, ty2, ty4, ty151, ty166]
  refine callThen_of (plus_ok _ _ _) ?_
  simp (maxSteps := 2000000) only [wk0, wk1, wk2, wk3, wk4, wk5, wk6, Fr.ev, Fr.put, Fr.get, storeA, List.replicate, IntKind.bits, sevalprocAttr, enc3, YtoncolpkpgbfiaaDoor.D102, ty2, ty4, ty151, ty166]
  refine callThen_of (below_ok (x + 4611686018427387903) _ (by omega)) ?_
  by_cases h : x + 4611686018427387903 < 0
  · simp (maxSteps := 2000000) only [wk0, wk1, wk2, wk3, wk4, wk5, wk6, Fr.ev, Fr.put, Fr.get, storeA, List.replicate, IntKind.bits, sevalprocAttr, enc3, h, YtoncolpkpgbfiaaDoor.D102, ty2, ty4, ty151, ty166]
    refine retB_plain (by simp [nmd_bool, nmd_int]) ?_ (by simp)
    rw [show bndI x = -4611686018427387903 by unfold bndI; omega, show ovrB x = true from decide_eq_true (by omega)]; rfl
  · simp (maxSteps := 2000000) only [wk0, wk1, wk2, wk3, wk4, wk5, wk6, Fr.ev, Fr.put, Fr.get, storeA, List.replicate, IntKind.bits, sevalprocAttr, enc3, h, YtoncolpkpgbfiaaDoor.D102, ty2, ty4, ty151, ty166]
    refine callThen_of (below_ok (x + -4611686018427387904) _ (by omega)) ?_
    by_cases h' : x + -4611686018427387904 < 0
    · simp (maxSteps := 2000000) only [wk0, wk1, wk2, wk3, wk4, wk5, wk6, Fr.ev, Fr.put, Fr.get, storeA, List.replicate, IntKind.bits, sevalprocAttr, enc3, h', YtoncolpkpgbfiaaDoor.D102, ty2, ty4, ty151, ty166]
      refine retB_plain (by simp [nmd_bool, nmd_int]) ?_ (by simp)
      rw [show bndI x = x by unfold bndI; omega, show ovrB x = false from decide_eq_false (by omega)]
      rw [show IntKind.i64.wrap (w0 x) = x by rw [wrapI64]; unfold w0; omega]; rfl
    · simp (maxSteps := 2000000) only [wk0, wk1, wk2, wk3, wk4, wk5, wk6, Fr.ev, Fr.put, Fr.get, storeA, List.replicate, IntKind.bits, sevalprocAttr, enc3, h', YtoncolpkpgbfiaaDoor.D102, ty2, ty4, ty151, ty166]
      refine retB_plain (by simp [nmd_bool, nmd_int]) ?_ (by simp)
      rw [show bndI x = 4611686018427387903 by unfold bndI; omega, show ovrB x = true from decide_eq_true (by omega)]; rfl
noncomputable def c89 : Code := Tryd.f89.body.getD .skip
theorem b89 : Tryd.f89.body = some c89 := rfl
theorem d89 : fnOk Tryd.f89 c89 = true := by kernel_rfl
def D89 : Nat → List Tag := fun _ => []
theorem e89 : drawsOk D89 c89 = true := by kernel_rfl
noncomputable def c87 : Code := Tryd.f87.body.getD .skip
theorem b87 : Tryd.f87.body = some c87 := rfl
theorem d87 : fnOk Tryd.f87 c87 = true := by kernel_rfl
def D87 : Nat → List Tag := fun _ => []
theorem e87 : drawsOk D87 c87 = true := by kernel_rfl
theorem add_ok (a b : Int) (S : Heap) (ha : -9223372036854775808 ≤ a ∧ a < 9223372036854775808) (hb : -9223372036854775808 ≤ b ∧ b < 9223372036854775808) :
    Call theE 89 [.int .i64 a, .int .i64 b] S (.tup [.int .i64 (bndI (a + b)), .bool (ovrB (a + b))]) S := by
  refine Call.ofC Tryd.func89 YtoncolpkpgbfiaaDoor.b89 YtoncolpkpgbfiaaDoor.d89 YtoncolpkpgbfiaaDoor.e89 (by simp [Tryd.f89]) ?_
  dsimp only [YtoncolpkpgbfiaaDoor.c89, Tryd.f89, Option.getD_some]
  simp (maxSteps := 2000000) only [wk0, wk1, wk2, wk3, wk4, wk5, wk6, Fr.ev, Fr.put, Fr.get, storeA, List.replicate, IntKind.bits, sevalprocAttr, YtoncolpkpgbfiaaDoor.D89, ty2, ty4, ty166]
  refine callThen_of (of_ok a _ ha) ?_
  simp (maxSteps := 2000000) only [wk0, wk1, wk2, wk3, wk4, wk5, wk6, Fr.ev, Fr.put, Fr.get, storeA, List.replicate, IntKind.bits, sevalprocAttr, YtoncolpkpgbfiaaDoor.D89, ty2, ty4, ty166]
  refine callThen_of (of_ok b _ hb) ?_
  simp (maxSteps := 2000000) only [wk0, wk1, wk2, wk3, wk4, wk5, wk6, Fr.ev, Fr.put, Fr.get, storeA, List.replicate, IntKind.bits, sevalprocAttr, YtoncolpkpgbfiaaDoor.D89, ty2, ty4, ty166]
  refine callThen_of (plus_ok a b _) ?_
  simp (maxSteps := 2000000) only [wk0, wk1, wk2, wk3, wk4, wk5, wk6, Fr.ev, Fr.put, Fr.get, storeA, List.replicate, IntKind.bits, sevalprocAttr, YtoncolpkpgbfiaaDoor.D89, ty2, ty4, ty166]
  refine callThen_of (bounded_ok (a + b) _ (by omega)) ?_
  simp (maxSteps := 2000000) only [wk0, wk1, wk2, wk3, wk4, wk5, wk6, Fr.ev, Fr.put, Fr.get, storeA, List.replicate, IntKind.bits, sevalprocAttr, YtoncolpkpgbfiaaDoor.D89, ty2, ty4, ty166]
  exact retB_plain (by simp [nmd_bool, nmd_int]) rfl (by simp)
theorem sub_ok (a b : Int) (S : Heap) (ha : -9223372036854775808 ≤ a ∧ a < 9223372036854775808) (hb : -9223372036854775808 ≤ b ∧ b < 9223372036854775808) :
    Call theE 87 [.int .i64 a, .int .i64 b] S (.tup [.int .i64 (bndI (a + -b)), .bool (ovrB (a + -b))]) S := by
  refine Call.ofC Tryd.func87 YtoncolpkpgbfiaaDoor.b87 YtoncolpkpgbfiaaDoor.d87 YtoncolpkpgbfiaaDoor.e87 (by simp [Tryd.f87]) ?_
  dsimp only [YtoncolpkpgbfiaaDoor.c87, Tryd.f87, Option.getD_some]
  simp (maxSteps := 2000000) only [wk0, wk1, wk2, wk3, wk4, wk5, wk6, Fr.ev, Fr.put, Fr.get, storeA, List.replicate, IntKind.bits, sevalprocAttr, YtoncolpkpgbfiaaDoor.D87, ty2, ty4, ty166]
  refine callThen_of (of_ok a _ ha) ?_
  simp (maxSteps := 2000000) only [wk0, wk1, wk2, wk3, wk4, wk5, wk6, Fr.ev, Fr.put, Fr.get, storeA, List.replicate, IntKind.bits, sevalprocAttr, YtoncolpkpgbfiaaDoor.D87, ty2, ty4, ty166]
  refine callThen_of (of_ok b _ hb) ?_
  simp (maxSteps := 2000000) only [wk0, wk1, wk2, wk3, wk4, wk5, wk6, Fr.ev, Fr.put, Fr.get, storeA, List.replicate, IntKind.bits, sevalprocAttr, YtoncolpkpgbfiaaDoor.D87, ty2, ty4, ty166]
  refine callThen_of (neg_ok b _) ?_
  simp (maxSteps := 2000000) only [wk0, wk1, wk2, wk3, wk4, wk5, wk6, Fr.ev, Fr.put, Fr.get, storeA, List.replicate, IntKind.bits, sevalprocAttr, YtoncolpkpgbfiaaDoor.D87, ty2, ty4, ty166]
  refine callThen_of (plus_ok a (-b) _) ?_
  simp (maxSteps := 2000000) only [wk0, wk1, wk2, wk3, wk4, wk5, wk6, Fr.ev, Fr.put, Fr.get, storeA, List.replicate, IntKind.bits, sevalprocAttr, YtoncolpkpgbfiaaDoor.D87, ty2, ty4, ty166]
  refine callThen_of (bounded_ok (a + -b) _ (by omega)) ?_
  simp (maxSteps := 2000000) only [wk0, wk1, wk2, wk3, wk4, wk5, wk6, Fr.ev, Fr.put, Fr.get, storeA, List.replicate, IntKind.bits, sevalprocAttr, YtoncolpkpgbfiaaDoor.D87, ty2, ty4, ty166]
  exact retB_plain (by simp [nmd_bool, nmd_int]) rfl (by simp)
end Go.Proofs.YtoncolpkpgbfiaaDoor
