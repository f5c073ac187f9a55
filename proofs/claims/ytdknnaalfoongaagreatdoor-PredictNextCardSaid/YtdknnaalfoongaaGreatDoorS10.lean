/- predict: any matrix of six, or not; any state that may be, or not; the document's May (chapter 12). -/
import Derived.Test.YtdknnaalfoongaaGreatDoorS6
import Derived.Test.YtdknnaalfoongaaGreatDoorS7
import Derived.Test.YtdknnaalfoongaaGreatDoorN4
set_option linter.unusedSimpArgs false
set_option linter.unusedVariables false
set_option maxRecDepth 100000
set_option maxHeartbeats 8000000
namespace Go.Proofs.YtdknnaalfoongaaGreatDoor
theorem six_no1 (r c : Nat) (f : Nat → Nat → Int) (S : Heap) (hr : 1 ≤ r ∧ r ≤ 6) (hc : 1 ≤ c ∧ c ≤ 6) (h : ¬ (r = 6 ∧ c = 6)) : Call theE 36 [mk r c f] S (.bool false) S := by
  have tk := take36g c f (r * c)
  have ck := fun S => check_ok r c f S hr hc
  simp only [mk, matA] at ck ⊢
  by_cases h6 : r = 6
  · have q1 : ((r : Int) = 6) = True := eq_true (by omega)
    have q2 : ((c : Int) = 6) = False := eq_false (by omega)
    refine Call.ofC Tryz.func36 YtdknnaalfoongaaGreatDoor.b36 YtdknnaalfoongaaGreatDoor.d36 YtdknnaalfoongaaGreatDoor.e36 (by simp [Tryz.f36]) ?_
    dsimp only [YtdknnaalfoongaaGreatDoor.c36, Tryz.f36, Option.getD_some]
    simp (maxSteps := 2000000) only [wk0, wk1, wk2, wk3, wk4, wk5, wk6, Fr.ev, Fr.put, Fr.get, storeA, List.replicate, IntKind.bits, sevalprocAttr, mk, matA, List.length_map, gridP_len, tk, q1, q2, decide_true, decide_false, YtdknnaalfoongaaGreatDoor.D36, ty1, ty3, ty4, ty30, ty35]
    refine callThen_of (ck _) ?_
    simp (maxSteps := 2000000) only [wk0, wk1, wk2, wk3, wk4, wk5, wk6, Fr.ev, Fr.put, Fr.get, storeA, List.replicate, IntKind.bits, sevalprocAttr, mk, matA, List.length_map, gridP_len, tk, q1, q2, decide_true, decide_false, YtdknnaalfoongaaGreatDoor.D36, ty1, ty3, ty4, ty30, ty35]
    exact retB_plain (by simp [nmd_bool]) rfl (by simp)
  · have q1 : ((r : Int) = 6) = False := eq_false (by omega)
    refine Call.ofC Tryz.func36 YtdknnaalfoongaaGreatDoor.b36 YtdknnaalfoongaaGreatDoor.d36 YtdknnaalfoongaaGreatDoor.e36 (by simp [Tryz.f36]) ?_
    dsimp only [YtdknnaalfoongaaGreatDoor.c36, Tryz.f36, Option.getD_some]
    simp (maxSteps := 2000000) only [wk0, wk1, wk2, wk3, wk4, wk5, wk6, Fr.ev, Fr.put, Fr.get, storeA, List.replicate, IntKind.bits, sevalprocAttr, mk, matA, List.length_map, gridP_len, tk, q1, decide_true, decide_false, YtdknnaalfoongaaGreatDoor.D36, ty1, ty3, ty4, ty30, ty35]
    refine callThen_of (ck _) ?_
    simp (maxSteps := 2000000) only [wk0, wk1, wk2, wk3, wk4, wk5, wk6, Fr.ev, Fr.put, Fr.get, storeA, List.replicate, IntKind.bits, sevalprocAttr, mk, matA, List.length_map, gridP_len, tk, q1, decide_true, decide_false, YtdknnaalfoongaaGreatDoor.D36, ty1, ty3, ty4, ty30, ty35]
    exact retB_plain (by simp [nmd_bool]) rfl (by simp)
theorem six_no2 (r c : Int) (L : List Int) (S : Heap) (hL : L.length = 36) (h : ¬ fineM r c L) : Call theE 36 [matA r c L] S (.bool false) S := by
  have tk : List.take 36 (L.map fun x => AV.int .i64 x) = L.map fun x => .int .i64 x := List.take_of_length_le (by simp [hL])
  have ck := fun S => check_bad r c L S hL h
  simp only [matA, errA] at ck ⊢
  refine Call.ofC Tryz.func36 YtdknnaalfoongaaGreatDoor.b36 YtdknnaalfoongaaGreatDoor.d36 YtdknnaalfoongaaGreatDoor.e36 (by simp [Tryz.f36]) ?_
  dsimp only [YtdknnaalfoongaaGreatDoor.c36, Tryz.f36, Option.getD_some]
  simp (maxSteps := 2000000) only [wk0, wk1, wk2, wk3, wk4, wk5, wk6, Fr.ev, Fr.put, Fr.get, storeA, List.replicate, IntKind.bits, sevalprocAttr, matA, List.length_map, hL, tk, YtdknnaalfoongaaGreatDoor.D36, ty1, ty3, ty4, ty30, ty35]
  refine callThen_of (ck _) ?_
  simp (maxSteps := 2000000) only [wk0, wk1, wk2, wk3, wk4, wk5, wk6, Fr.ev, Fr.put, Fr.get, storeA, List.replicate, IntKind.bits, sevalprocAttr, matA, List.length_map, hL, tk, YtdknnaalfoongaaGreatDoor.D36, ty1, ty3, ty4, ty30, ty35]
  exact retB_plain (by simp [nmd_bool]) rfl (by simp)
theorem check12_no (x : Nat → Int) (r c : Int) (G : List Int) (S : Heap) (hG : G.length = 36) (sx : ∀ S, Call theE 36 [matA r c G] S (.bool false) S) : Call theE 8 [.agg (stC x r c G)] S (errA 1) S := by
  have tk : List.take 36 (G.map fun x => AV.int .i64 x) = G.map fun x => .int .i64 x := List.take_of_length_le (by simp [hG])
  simp only [matA] at sx
  refine Call.ofC Tryz.func8 YtdknnaalfoongaaGreatDoor.b8 YtdknnaalfoongaaGreatDoor.d8 YtdknnaalfoongaaGreatDoor.e8 (by simp [Tryz.f8]) ?_
  dsimp only [YtdknnaalfoongaaGreatDoor.c8, Tryz.f8, Option.getD_some]
  simp (maxSteps := 2000000) only [wk0, wk1, wk2, wk3, wk4, wk5, wk6, Fr.ev, Fr.put, Fr.get, storeA, List.replicate, IntKind.bits, sevalprocAttr, stC, List.length_cons, List.length_map, hG, List.take_succ_cons, List.drop_succ_cons, List.drop_zero, List.take_zero, tk, YtdknnaalfoongaaGreatDoor.D8, ty1, ty2, ty3, ty4, ty27, ty28, ty30, ty32, ty35, ty79]
  refine callThen_of (sx _) ?_
  simp (maxSteps := 2000000) only [wk0, wk1, wk2, wk3, wk4, wk5, wk6, Fr.ev, Fr.put, Fr.get, storeA, List.replicate, IntKind.bits, sevalprocAttr, stC, List.length_cons, List.length_map, hG, List.take_succ_cons, List.drop_succ_cons, List.drop_zero, List.take_zero, tk, YtdknnaalfoongaaGreatDoor.D8, ty1, ty2, ty3, ty4, ty27, ty28, ty30, ty32, ty35, ty79]
  exact retB_plain (by simp [nmd_ifc, nmd_int]) rfl (by simp)
theorem same12_any (x : Nat → Int) (r c : Int) (G : List Int) (S : Heap) (hG : G.length = 36) : Call theE 13 [.agg (stC x r c G), .agg (stC x r c G)] S (.bool true) S := by
  have tk : List.take 36 (G.map fun x => AV.int .i64 x) = G.map fun x => .int .i64 x := List.take_of_length_le (by simp [hG])
  have asf : allInts (stC x r c G) (stC x r c G) = some true := by
    have := allInts_self (x 0 :: x 1 :: x 2 :: x 3 :: x 4 :: x 5 :: r :: c :: G)
    simpa [stC] using this
  simp only [stC] at asf
  refine Call.ofC Tryz.func13 YtdknnaalfoongaaGreatDoor.b13 YtdknnaalfoongaaGreatDoor.d13 YtdknnaalfoongaaGreatDoor.e13 (by simp [Tryz.f13]) ?_
  dsimp only [YtdknnaalfoongaaGreatDoor.c13, Tryz.f13, Option.getD_some]
  simp (maxSteps := 2000000) only [wk0, wk1, wk2, wk3, wk4, wk5, wk6, Fr.ev, Fr.put, Fr.get, storeA, List.replicate, IntKind.bits, sevalprocAttr, stC, List.length_cons, List.length_map, hG, List.take_succ_cons, List.drop_succ_cons, List.drop_zero, List.take_zero, tk, asf, YtdknnaalfoongaaGreatDoor.D13, ty4, ty32]
  exact retB_plain (by simp [nmd_bool]) rfl (by simp)
theorem next12_bad (x : Nat → Int) (r c r1 c1 r2 c2 : Int) (G G1 G2 : List Int) (v : AV) (b1 b2 : Bool) (S : Heap) (hG : G.length = 36) (hG1 : G1.length = 36) (hG2 : G2.length = 36)
    (hv : v = .nili ∨ v = errA 1) (ck : ∀ S, Call theE 8 [.agg (stC x r c G)] S v S) (s1 : ∀ S, Call theE 36 [matA r1 c1 G1] S (.bool b1) S) (s2 : ∀ S, Call theE 36 [matA r2 c2 G2] S (.bool b2) S)
    (h : ¬ (v = .nili ∧ b1 = true ∧ b2 = true)) : Call theE 9 [.agg (stC x r c G), matA r1 c1 G1, matA r2 c2 G2] S (.tup [zeroS, .bool false, errA 1]) S := by
  have tk : List.take 36 (G.map fun x => AV.int .i64 x) = G.map fun x => .int .i64 x := List.take_of_length_le (by simp [hG])
  have tk1 : List.take 36 (G1.map fun x => AV.int .i64 x) = G1.map fun x => .int .i64 x := List.take_of_length_le (by simp [hG1])
  have tk2 : List.take 36 (G2.map fun x => AV.int .i64 x) = G2.map fun x => .int .i64 x := List.take_of_length_le (by simp [hG2])
  have al := all36g G
  unfold zeroS
  simp only [matA, stC, List.replicate] at ck s1 s2 ⊢
  simp only [errA] at hv ck
  rcases hv with rfl | rfl
  · cases b1
    · refine Call.ofC Tryz.func9 YtdknnaalfoongaaGreatDoor.b9 YtdknnaalfoongaaGreatDoor.d9 YtdknnaalfoongaaGreatDoor.e9 (by simp [Tryz.f9]) ?_
      dsimp only [YtdknnaalfoongaaGreatDoor.c9, Tryz.f9, Option.getD_some]
      simp (maxSteps := 2000000) only [wk0, wk1, wk2, wk3, wk4, wk5, wk6, Fr.ev, Fr.put, Fr.get, storeA, List.replicate, IntKind.bits, sevalprocAttr, stC, List.length_cons, List.length_map, hG, hG1, hG2, List.take_succ_cons, List.drop_succ_cons, List.drop_zero, List.take_zero, tk, tk1, tk2, YtdknnaalfoongaaGreatDoor.D9, ty1, ty4, ty22, ty27, ty30, ty32, ty35, ty79]
      refine callThen_of (ck _) ?_
      simp (maxSteps := 2000000) only [wk0, wk1, wk2, wk3, wk4, wk5, wk6, Fr.ev, Fr.put, Fr.get, storeA, List.replicate, IntKind.bits, sevalprocAttr, stC, List.length_cons, List.length_map, hG, hG1, hG2, List.take_succ_cons, List.drop_succ_cons, List.drop_zero, List.take_zero, tk, tk1, tk2, YtdknnaalfoongaaGreatDoor.D9, ty1, ty4, ty22, ty27, ty30, ty32, ty35, ty79]
      refine callThen_of (s1 _) ?_
      simp (maxSteps := 2000000) only [wk0, wk1, wk2, wk3, wk4, wk5, wk6, Fr.ev, Fr.put, Fr.get, storeA, List.replicate, IntKind.bits, sevalprocAttr, stC, List.length_cons, List.length_map, hG, hG1, hG2, List.take_succ_cons, List.drop_succ_cons, List.drop_zero, List.take_zero, tk, tk1, tk2, YtdknnaalfoongaaGreatDoor.D9, ty1, ty4, ty22, ty27, ty30, ty32, ty35, ty79]
      exact retB_plain (by simp [nmd_agg, nmd_int, nmd_bool, nmd_ifc]) rfl (by simp)
    · cases b2
      · refine Call.ofC Tryz.func9 YtdknnaalfoongaaGreatDoor.b9 YtdknnaalfoongaaGreatDoor.d9 YtdknnaalfoongaaGreatDoor.e9 (by simp [Tryz.f9]) ?_
        dsimp only [YtdknnaalfoongaaGreatDoor.c9, Tryz.f9, Option.getD_some]
        simp (maxSteps := 2000000) only [wk0, wk1, wk2, wk3, wk4, wk5, wk6, Fr.ev, Fr.put, Fr.get, storeA, List.replicate, IntKind.bits, sevalprocAttr, stC, List.length_cons, List.length_map, hG, hG1, hG2, List.take_succ_cons, List.drop_succ_cons, List.drop_zero, List.take_zero, tk, tk1, tk2, YtdknnaalfoongaaGreatDoor.D9, ty1, ty4, ty22, ty27, ty30, ty32, ty35, ty79]
        refine callThen_of (ck _) ?_
        simp (maxSteps := 2000000) only [wk0, wk1, wk2, wk3, wk4, wk5, wk6, Fr.ev, Fr.put, Fr.get, storeA, List.replicate, IntKind.bits, sevalprocAttr, stC, List.length_cons, List.length_map, hG, hG1, hG2, List.take_succ_cons, List.drop_succ_cons, List.drop_zero, List.take_zero, tk, tk1, tk2, YtdknnaalfoongaaGreatDoor.D9, ty1, ty4, ty22, ty27, ty30, ty32, ty35, ty79]
        refine callThen_of (s1 _) ?_
        simp (maxSteps := 2000000) only [wk0, wk1, wk2, wk3, wk4, wk5, wk6, Fr.ev, Fr.put, Fr.get, storeA, List.replicate, IntKind.bits, sevalprocAttr, stC, List.length_cons, List.length_map, hG, hG1, hG2, List.take_succ_cons, List.drop_succ_cons, List.drop_zero, List.take_zero, tk, tk1, tk2, YtdknnaalfoongaaGreatDoor.D9, ty1, ty4, ty22, ty27, ty30, ty32, ty35, ty79]
        refine callThen_of (s2 _) ?_
        simp (maxSteps := 2000000) only [wk0, wk1, wk2, wk3, wk4, wk5, wk6, Fr.ev, Fr.put, Fr.get, storeA, List.replicate, IntKind.bits, sevalprocAttr, stC, List.length_cons, List.length_map, hG, hG1, hG2, List.take_succ_cons, List.drop_succ_cons, List.drop_zero, List.take_zero, tk, tk1, tk2, YtdknnaalfoongaaGreatDoor.D9, ty1, ty4, ty22, ty27, ty30, ty32, ty35, ty79]
        exact retB_plain (by simp [nmd_agg, nmd_int, nmd_bool, nmd_ifc]) rfl (by simp)
      · exact absurd ⟨rfl, rfl, rfl⟩ h
  · refine Call.ofC Tryz.func9 YtdknnaalfoongaaGreatDoor.b9 YtdknnaalfoongaaGreatDoor.d9 YtdknnaalfoongaaGreatDoor.e9 (by simp [Tryz.f9]) ?_
    dsimp only [YtdknnaalfoongaaGreatDoor.c9, Tryz.f9, Option.getD_some]
    simp (maxSteps := 2000000) only [wk0, wk1, wk2, wk3, wk4, wk5, wk6, Fr.ev, Fr.put, Fr.get, storeA, List.replicate, IntKind.bits, sevalprocAttr, stC, List.length_cons, List.length_map, hG, hG1, hG2, List.take_succ_cons, List.drop_succ_cons, List.drop_zero, List.take_zero, tk, tk1, tk2, YtdknnaalfoongaaGreatDoor.D9, ty1, ty4, ty22, ty27, ty30, ty32, ty35, ty79]
    refine callThen_of (ck _) ?_
    simp (maxSteps := 2000000) only [wk0, wk1, wk2, wk3, wk4, wk5, wk6, Fr.ev, Fr.put, Fr.get, storeA, List.replicate, IntKind.bits, sevalprocAttr, stC, List.length_cons, List.length_map, hG, hG1, hG2, List.take_succ_cons, List.drop_succ_cons, List.drop_zero, List.take_zero, tk, tk1, tk2, YtdknnaalfoongaaGreatDoor.D9, ty1, ty4, ty22, ty27, ty30, ty32, ty35, ty79]
    exact retB_plain (by simp [nmd_agg, nmd_int, nmd_bool, nmd_ifc]) rfl (by simp)
theorem SixL.mtx {l : List (List Int)} (h : SixL l) : lstL l = mtx 6 6 (rowsF l) := by
  have := mtx_of h.1
  rwa [h.2.1, h.2.2] at this
theorem six12_any (l : List (List Int)) (S : Heap) : ∃ b, (b = true ↔ SixL l) ∧ ∀ S, Call theE 14 [lstL l] S (.bool b) S := by
  by_cases h : SixL l
  · exact ⟨true, by simp [h], fun S => six12_yes l S h⟩
  · exact ⟨false, by simp [h], fun S => six12_no l S h⟩
noncomputable def c11 : Code := Tryz.f11.body.getD .skip
theorem b11 : Tryz.f11.body = some c11 := rfl
theorem d11 : fnOk Tryz.f11 c11 = true := by kernel_rfl
def D11 : Nat → List Tag
  | 11 => [.pure, .seq, .pure, .pure, .seq, .pure, .pure, .seq, .seq, .pure, .pure, .pure, .quiet, .pure, .pure, .quiet, .pure, .pure, .quiet, .pure, .quiet, .pure, .pure, .quiet, .pure, .pure, .quiet, .pure, .pure]
  | _ => []
theorem e11 : drawsOk D11 c11 = true := by kernel_rfl
theorem refMay12_bad (u : AV) (l : List (List Int)) (X : List Int) (S : Heap) (h : ¬ (X.length = 6 ∧ SixL l)) : Call theE 11 [.agg [lstI X, lstL l]] S (.bool false) S := by
  simp only [lstI, lstL]
  by_cases h6 : X.length = 6
  · have sx := fun S => six12_no l S (fun hl => h ⟨h6, hl⟩)
    have q1 : ((X.length : Int) = 6) = True := eq_true (by omega)
    simp only [lstL] at sx
    refine Call.ofC Tryz.func11 YtdknnaalfoongaaGreatDoor.b11 YtdknnaalfoongaaGreatDoor.d11 YtdknnaalfoongaaGreatDoor.e11 (by simp [Tryz.f11]) ?_
    dsimp only [YtdknnaalfoongaaGreatDoor.c11, Tryz.f11, Option.getD_some]
    simp (maxSteps := 2000000) only [wk0, wk1, wk2, wk3, wk4, wk5, wk6, Fr.ev, Fr.put, Fr.get, storeA, List.replicate, IntKind.bits, sevalprocAttr, q1, decide_true, YtdknnaalfoongaaGreatDoor.D11, ty1, ty2, ty3, ty4, ty22, ty23, ty25]
    refine callThen_of (sx _) ?_
    simp (maxSteps := 2000000) only [wk0, wk1, wk2, wk3, wk4, wk5, wk6, Fr.ev, Fr.put, Fr.get, storeA, List.replicate, IntKind.bits, sevalprocAttr, q1, decide_true, YtdknnaalfoongaaGreatDoor.D11, ty1, ty2, ty3, ty4, ty22, ty23, ty25]
    exact retB_plain (by simp [nmd_bool]) rfl (by simp)
  · have q1 : ((X.length : Int) = 6) = False := eq_false (by omega)
    refine Call.ofC Tryz.func11 YtdknnaalfoongaaGreatDoor.b11 YtdknnaalfoongaaGreatDoor.d11 YtdknnaalfoongaaGreatDoor.e11 (by simp [Tryz.f11]) ?_
    dsimp only [YtdknnaalfoongaaGreatDoor.c11, Tryz.f11, Option.getD_some]
    simp (maxSteps := 2000000) only [wk0, wk1, wk2, wk3, wk4, wk5, wk6, Fr.ev, Fr.put, Fr.get, storeA, List.replicate, IntKind.bits, sevalprocAttr, q1, decide_false, YtdknnaalfoongaaGreatDoor.D11, ty1, ty2, ty3, ty4, ty22, ty23, ty25]
    exact retB_plain (by simp [nmd_bool]) rfl (by simp)
theorem refMay12_ok (x : Nat → Int) (l : List (List Int)) (S : Heap) (hl : SixL l) (b : Bool) (hb : b = true ↔ OkS x (rowsF l)) : Call theE 11 [.agg [lstI (xL x), lstL l]] S (.bool b) S := by
  have sx := fun S => six12_yes l S hl
  rw [hl.mtx] at sx ⊢
  generalize rowsF l = f at *
  have lx : (xL x).length = 6 := rfl
  simp only [lstI, mtx, lx] at sx ⊢
  have hin := fun n S => in12_ok n S
  refine Call.ofC Tryz.func11 YtdknnaalfoongaaGreatDoor.b11 YtdknnaalfoongaaGreatDoor.d11 YtdknnaalfoongaaGreatDoor.e11 (by simp [Tryz.f11]) ?_
  dsimp only [YtdknnaalfoongaaGreatDoor.c11, Tryz.f11, Option.getD_some]
  simp (maxSteps := 2000000) only [wk0, wk1, wk2, wk3, wk4, wk5, wk6, Fr.ev, Fr.put, Fr.get, storeA, List.replicate, IntKind.bits, sevalprocAttr, castLit, YtdknnaalfoongaaGreatDoor.D11, ty1, ty2, ty3, ty4, ty22, ty23, ty25]
  refine callThen_of (sx _) ?_
  simp (maxSteps := 2000000) only [wk0, wk1, wk2, wk3, wk4, wk5, wk6, Fr.ev, Fr.put, Fr.get, storeA, List.replicate, IntKind.bits, sevalprocAttr, castLit, YtdknnaalfoongaaGreatDoor.D11, ty1, ty2, ty3, ty4, ty22, ty23, ty25]
  refine loopC_ind (fun m fr H => ∃ i : Nat, i + m = 6 ∧ (∀ q, q < i → topI (x q) ∧ 0 ≤ f q q ∧ ∀ j, j < 6 → topI (f q j) ∧ f q j = f j q) ∧ fr.get 3 = .int .i64 (i : Int) ∧ fr.get 1 = .ptr S.length 0 0 ∧
    H = S ++ [some ⟨[.lst ((xL x).map fun x => .int .i64 x) 6, .lst (rowsA 6 6 f) 6], 0⟩]) ?_ (n := 6) ⟨0, by omega, fun q hq => absurd hq (by omega), rfl, rfl, rfl⟩
  rintro m fr H ⟨i, him, hq, g3, g1, rfl⟩ ih
  by_cases hi : (i : Int) < 6
  · have hin' : i < 6 := by omega
    have i0 : (0 : Int) ≤ i := by omega
    have wi : IntKind.i64.wrap ((i : Int) + 1) = ((i + 1 : Nat) : Int) := wrapI (by omega)
    have gx : ((xL x).map fun x => AV.int .i64 x)[i]? = some (.int .i64 (x i)) := by rw [xL_map, List.getElem?_map, List.getElem?_map, List.getElem?_range hin']; rfl
    have gr := rowsA_get (c := 6) (f := f) hin'
    have gd := rowF_get (f := f) (i := i) hin'
    have h1 := fun S => hin (x i) S
    by_cases t1 : topI (x i)
    · rw [decide_eq_true t1] at h1
      by_cases d1 : f i i < 0
      · obtain rfl : b = false := by
          cases b
          · rfl
          · exact absurd ((hb.1 rfl).diag i hin') (by omega)
        simp (maxSteps := 2000000) only [wk0, wk1, wk2, wk3, wk4, wk5, wk6, Fr.ev, Fr.put, Fr.get, storeA, List.replicate, IntKind.bits, sevalprocAttr, g3, g1, hi, i0, gx, gr, gd, d1, Int.toNat_natCast, Nat.mul_one, YtdknnaalfoongaaGreatDoor.D11, ty1, ty2, ty3, ty4, ty22, ty23, ty25]
        refine callThen_of (h1 _) ?_
        simp (maxSteps := 2000000) only [wk0, wk1, wk2, wk3, wk4, wk5, wk6, Fr.ev, Fr.put, Fr.get, storeA, List.replicate, IntKind.bits, sevalprocAttr, g3, g1, hi, i0, gx, gr, gd, d1, Int.toNat_natCast, Nat.mul_one, YtdknnaalfoongaaGreatDoor.D11, ty1, ty2, ty3, ty4, ty22, ty23, ty25]
        exact retB_plain (by simp [nmd_bool]) rfl (by simp)
      · simp (maxSteps := 2000000) only [wk0, wk1, wk2, wk3, wk4, wk5, wk6, Fr.ev, Fr.put, Fr.get, storeA, List.replicate, IntKind.bits, sevalprocAttr, g3, g1, hi, i0, gx, gr, gd, d1, Int.toNat_natCast, Nat.mul_one, YtdknnaalfoongaaGreatDoor.D11, ty1, ty2, ty3, ty4, ty22, ty23, ty25]
        refine callThen_of (h1 _) ?_
        simp (maxSteps := 2000000) only [wk0, wk1, wk2, wk3, wk4, wk5, wk6, Fr.ev, Fr.put, Fr.get, storeA, List.replicate, IntKind.bits, sevalprocAttr, g3, g1, hi, i0, gx, gr, gd, d1, Int.toNat_natCast, Nat.mul_one, YtdknnaalfoongaaGreatDoor.D11, ty1, ty2, ty3, ty4, ty22, ty23, ty25]
        refine loopC_ind (fun m' fr H => ∃ j : Nat, j + m' = 6 ∧ (∀ q, q < j → topI (f i q) ∧ f i q = f q i) ∧ fr.get 3 = .int .i64 (i : Int) ∧ fr.get 4 = .int .i64 (j : Int) ∧ fr.get 1 = .ptr S.length 0 0 ∧
          H = S ++ [some ⟨[.lst ((xL x).map fun x => .int .i64 x) 6, .lst (rowsA 6 6 f) 6], 0⟩]) ?_ (n := 6) ⟨0, by omega, fun q hq => absurd hq (by omega), by simp [Fr.get, g3], by simp [Fr.get], by simp [Fr.get, g1], rfl⟩
        clear g3 g1
        rintro m' fr H ⟨j, hjm, hq2, g3, g4, g1, rfl⟩ ih2
        by_cases hj : (j : Int) < 6
        · have hjn : j < 6 := by omega
          have j0 : (0 : Int) ≤ j := by omega
          have wj : IntKind.i64.wrap ((j : Int) + 1) = ((j + 1 : Nat) : Int) := wrapI (by omega)
          have gr2 := rowsA_get (c := 6) (f := f) hjn
          have ge := rowF_get (f := f) (i := i) hjn
          have ge2 := rowF_get (f := f) (i := j) hin'
          have h2 := fun S => hin (f i j) S
          by_cases t2 : topI (f i j)
          · rw [decide_eq_true t2] at h2
            by_cases e2 : f i j = f j i
            · simp (maxSteps := 2000000) only [wk0, wk1, wk2, wk3, wk4, wk5, wk6, Fr.ev, Fr.put, Fr.get, storeA, List.replicate, IntKind.bits, sevalprocAttr, g3, g4, g1, hj, i0, j0, gr, gr2, ge, ge2, hi, eq_true e2, wj, Int.toNat_natCast, Nat.mul_one, YtdknnaalfoongaaGreatDoor.D11, ty1, ty2, ty3, ty4, ty22, ty23, ty25]
              refine callThen_of (h2 _) ?_
              simp (maxSteps := 2000000) only [wk0, wk1, wk2, wk3, wk4, wk5, wk6, Fr.ev, Fr.put, Fr.get, storeA, List.replicate, IntKind.bits, sevalprocAttr, g3, g4, g1, hj, i0, j0, gr, gr2, ge, ge2, hi, eq_true e2, wj, Int.toNat_natCast, Nat.mul_one, YtdknnaalfoongaaGreatDoor.D11, ty1, ty2, ty3, ty4, ty22, ty23, ty25]
              exact ih2 (m' - 1) _ _ (by omega) ⟨j + 1, by omega, fun q hq => by
                by_cases e : q = j
                · subst e; exact ⟨t2, e2⟩
                · exact hq2 q (by omega), by simp [Fr.get, g3], by simp [Fr.get], by simp [Fr.get, g1], rfl⟩
            · obtain rfl : b = false := by
                cases b
                · rfl
                · exact absurd ((hb.1 rfl).even i j hin' hjn) e2
              simp (maxSteps := 2000000) only [wk0, wk1, wk2, wk3, wk4, wk5, wk6, Fr.ev, Fr.put, Fr.get, storeA, List.replicate, IntKind.bits, sevalprocAttr, g3, g4, g1, hj, i0, j0, gr, gr2, ge, ge2, hi, eq_false e2, wj, Int.toNat_natCast, Nat.mul_one, YtdknnaalfoongaaGreatDoor.D11, ty1, ty2, ty3, ty4, ty22, ty23, ty25]
              refine callThen_of (h2 _) ?_
              simp (maxSteps := 2000000) only [wk0, wk1, wk2, wk3, wk4, wk5, wk6, Fr.ev, Fr.put, Fr.get, storeA, List.replicate, IntKind.bits, sevalprocAttr, g3, g4, g1, hj, i0, j0, gr, gr2, ge, ge2, hi, eq_false e2, wj, Int.toNat_natCast, Nat.mul_one, YtdknnaalfoongaaGreatDoor.D11, ty1, ty2, ty3, ty4, ty22, ty23, ty25]
              exact retB_plain (by simp [nmd_bool]) rfl (by simp)
          · rw [decide_eq_false t2] at h2
            obtain rfl : b = false := by
              cases b
              · rfl
              · exact absurd ((hb.1 rfl).top i j hin' hjn) t2
            simp (maxSteps := 2000000) only [wk0, wk1, wk2, wk3, wk4, wk5, wk6, Fr.ev, Fr.put, Fr.get, storeA, List.replicate, IntKind.bits, sevalprocAttr, g3, g4, g1, hj, i0, j0, gr, gr2, ge, ge2, hi, Int.toNat_natCast, Nat.mul_one, YtdknnaalfoongaaGreatDoor.D11, ty1, ty2, ty3, ty4, ty22, ty23, ty25]
            refine callThen_of (h2 _) ?_
            simp (maxSteps := 2000000) only [wk0, wk1, wk2, wk3, wk4, wk5, wk6, Fr.ev, Fr.put, Fr.get, storeA, List.replicate, IntKind.bits, sevalprocAttr, g3, g4, g1, hj, i0, j0, gr, gr2, ge, ge2, hi, Int.toNat_natCast, Nat.mul_one, YtdknnaalfoongaaGreatDoor.D11, ty1, ty2, ty3, ty4, ty22, ty23, ty25]
            exact retB_plain (by simp [nmd_bool]) rfl (by simp)
        · obtain rfl : j = 6 := by omega
          simp (maxSteps := 2000000) only [wk0, wk1, wk2, wk3, wk4, wk5, wk6, Fr.ev, Fr.put, Fr.get, storeA, List.replicate, IntKind.bits, sevalprocAttr, g3, g4, g1, hj, wi, YtdknnaalfoongaaGreatDoor.D11, ty1, ty2, ty3, ty4, ty22, ty23, ty25]
          exact ih (m - 1) _ _ (by omega) ⟨i + 1, by omega, fun q hq' => by
            by_cases e : q = i
            · subst e; exact ⟨t1, by omega, hq2⟩
            · exact hq q (by omega), by simp [Fr.get], by simp [Fr.get, g1], rfl⟩
    · rw [decide_eq_false t1] at h1
      obtain rfl : b = false := by
        cases b
        · rfl
        · exact absurd ((hb.1 rfl).x i hin') t1
      simp (maxSteps := 2000000) only [wk0, wk1, wk2, wk3, wk4, wk5, wk6, Fr.ev, Fr.put, Fr.get, storeA, List.replicate, IntKind.bits, sevalprocAttr, g3, g1, hi, i0, gx, gr, gd, Int.toNat_natCast, Nat.mul_one, YtdknnaalfoongaaGreatDoor.D11, ty1, ty2, ty3, ty4, ty22, ty23, ty25]
      refine callThen_of (h1 _) ?_
      simp (maxSteps := 2000000) only [wk0, wk1, wk2, wk3, wk4, wk5, wk6, Fr.ev, Fr.put, Fr.get, storeA, List.replicate, IntKind.bits, sevalprocAttr, g3, g1, hi, i0, gx, gr, gd, Int.toNat_natCast, Nat.mul_one, YtdknnaalfoongaaGreatDoor.D11, ty1, ty2, ty3, ty4, ty22, ty23, ty25]
      exact retB_plain (by simp [nmd_bool]) rfl (by simp)
  · obtain rfl : i = 6 := by omega
    obtain rfl : b = true := hb.2 ⟨fun i j hi hj => ((hq i hi).2.2 j hj).2, fun i j hi hj => ((hq i hi).2.2 j hj).1, fun i hi => (hq i hi).2.1, fun i hi => (hq i hi).1⟩
    simp (maxSteps := 2000000) only [wk0, wk1, wk2, wk3, wk4, wk5, wk6, Fr.ev, Fr.put, Fr.get, storeA, List.replicate, IntKind.bits, sevalprocAttr, g3, g1, hi, YtdknnaalfoongaaGreatDoor.D11, ty1, ty2, ty3, ty4, ty22, ty23, ty25]
    exact retB_plain (by simp [nmd_bool]) rfl (by simp)
end Go.Proofs.YtdknnaalfoongaaGreatDoor
