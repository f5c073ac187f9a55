/- mat: what may be; single numbers; columns; turned; products; middles. -/
import Derived.Test.YtoncolpkpgbfiaaDoorM0
set_option linter.unusedSimpArgs false
set_option linter.unusedVariables false
set_option maxRecDepth 100000
set_option maxHeartbeats 4000000
namespace Go.Proofs.YtoncolpkpgbfiaaDoor
noncomputable def c29 : Code := Tryd.f29.body.getD .skip
theorem b29 : Tryd.f29.body = some c29 := rfl
theorem d29 : fnOk Tryd.f29 c29 = true := by kernel_rfl
def D29 : Nat → List Tag := fun _ => []
theorem e29 : drawsOk D29 c29 = true := by kernel_rfl
noncomputable def c68 : Code := Tryd.f68.body.getD .skip
theorem b68 : Tryd.f68.body = some c68 := rfl
theorem d68 : fnOk Tryd.f68 c68 = true := by kernel_rfl
def D68 : Nat → List Tag
  | 1 => [.pure, .pure, .pure, .quiet, .pure, .pure, .pure, .pure, .quiet, .pure, .quiet, .quiet, .pure, .quiet, .seq, .pure, .pure, .pure, .pure]
  | _ => []
theorem e68 : drawsOk D68 c68 = true := by kernel_rfl
theorem get38 {r c x : Int} {l : List Int} {k : Nat} (h : l[k]? = some x) : (AV.int .i64 r :: AV.int .i64 c :: l.map fun x => AV.int .i64 x)[2 + k]? = some (.int .i64 x) := by
  rw [show 2 + k = k + 1 + 1 by omega, List.getElem?_cons_succ, List.getElem?_cons_succ, List.getElem?_map, h]; rfl
theorem at_ok (r c i j : Nat) (l : List Int) (x : Int) (S : Heap) (hl : l.length = 36) (hk : i * c + j < 36) (hx : l[i * c + j]? = some x) (hc : c ≤ 36) (hi : i ≤ 36) (hj : j ≤ 36) :
    Call theE 63 [matA r c l, .int .i64 i, .int .i64 j] S (.int .i64 x) S := by
  have hic : i * c < 36 := by omega
  have w1 : IntKind.i64.wrap ((i : Int) * c) = ((i * c : Nat) : Int) := by rw [wrapI (by rw [← Int.natCast_mul]; omega)]; simp
  have w2 : IntKind.i64.wrap (((i * c : Nat) : Int) + j) = ((i * c + j : Nat) : Int) := wrapI (by omega)
  have k1 : (0 : Int) ≤ ((i * c + j : Nat) : Int) := by omega
  have k2 : ((i * c + j : Nat) : Int) < 36 := by omega
  have g := get38 (r := r) (c := c) hx
  refine Call.ofC Tryd.func63 YtoncolpkpgbfiaaDoor.b63 YtoncolpkpgbfiaaDoor.d63 YtoncolpkpgbfiaaDoor.e63 (by simp [Tryd.f63]) ?_
  dsimp only [YtoncolpkpgbfiaaDoor.c63, Tryd.f63, Option.getD_some]
  simp (maxSteps := 2000000) only [wk0, wk1, wk2, wk3, wk4, wk5, wk6, Fr.ev, Fr.put, Fr.get, storeA, List.replicate, IntKind.bits, sevalprocAttr, matA, w1, w2, k1, k2, Int.toNat_natCast, Nat.mul_one, g, YtoncolpkpgbfiaaDoor.D63, ty1, ty2, ty3, ty44, ty51]
  exact retB_plain (by simp [nmd_int]) rfl (by simp)
theorem at_mk (r c i j : Nat) (f : Nat → Nat → Int) (S : Heap) (hr : r ≤ 6) (hc : c ≤ 6) (hi : i < r) (hj : j < c) :
    Call theE 63 [mk r c f, .int .i64 i, .int .i64 j] S (.int .i64 (f i j)) S := by
  have h36 : r * c ≤ 36 := by have := Nat.mul_le_mul hr hc; omega
  have hk : i * c + j < r * c := by
    have := Nat.mul_le_mul_right c (show i + 1 ≤ r by omega)
    rw [Nat.add_mul, Nat.one_mul] at this
    omega
  exact at_ok r c i j _ _ S (gridP_len _ _ _) (by omega) (grid_get r c f i j hi hj h36) (by omega) (by omega) (by omega)
theorem check_ok (r c : Nat) (f : Nat → Nat → Int) (S : Heap) (hr : 1 ≤ r ∧ r ≤ 6) (hc : 1 ≤ c ∧ c ≤ 6) : Call theE 60 [mk r c f] S .nili S := by
  have h36 : r * c ≤ 36 := by have := Nat.mul_le_mul hr.2 hc.2; omega
  have s1 := fun S => sizedM_ok r S
  have s2 := fun S => sizedM_ok c S
  rw [decide_eq_true (by omega)] at s1 s2
  have w1 : IntKind.i64.wrap ((r : Int) * c) = ((r * c : Nat) : Int) := by rw [wrapI (by rw [← Int.natCast_mul]; omega)]; simp
  obtain ⟨p, hp⟩ : ∃ p, r * c = p := ⟨_, rfl⟩
  rw [hp] at w1 h36
  have k1 : (0 : Int) ≤ (p : Int) := by omega
  have k2 : (p : Int) ≤ 36 := by omega
  have gl := gridP_len c f p
  unfold mk
  rw [hp]
  refine Call.ofC Tryd.func60 YtoncolpkpgbfiaaDoor.b60 YtoncolpkpgbfiaaDoor.d60 YtoncolpkpgbfiaaDoor.e60 (by simp [Tryd.f60]) ?_
  dsimp only [YtoncolpkpgbfiaaDoor.c60, Tryd.f60, Option.getD_some]
  simp (maxSteps := 2000000) only [wk0, wk1, wk2, wk3, wk4, wk5, wk6, Fr.ev, Fr.put, Fr.get, storeA, List.replicate, IntKind.bits, sevalprocAttr, matA, YtoncolpkpgbfiaaDoor.D60, ty1, ty2, ty3, ty4, ty30, ty42, ty44, ty51, ty75]
  refine callThen_of (s1 _) ?_
  simp (maxSteps := 2000000) only [wk0, wk1, wk2, wk3, wk4, wk5, wk6, Fr.ev, Fr.put, Fr.get, storeA, List.replicate, IntKind.bits, sevalprocAttr, YtoncolpkpgbfiaaDoor.D60, ty1, ty2, ty3, ty4, ty30, ty42, ty44, ty51, ty75]
  refine callThen_of (s2 _) ?_
  by_cases h : p = 36
  · have h' : (p : Int) = 36 := by omega
    simp (maxSteps := 2000000) only [wk0, wk1, wk2, wk3, wk4, wk5, wk6, Fr.ev, Fr.put, Fr.get, storeA, List.replicate, IntKind.bits, sevalprocAttr, bd_none, bd_some, bv_int, sa_arr, w1, k1, k2, h', List.length_map, gl, Int.le_refl, Nat.le_refl, YtoncolpkpgbfiaaDoor.D60, ty1, ty2, ty3, ty4, ty30, ty42, ty44, ty51, ty75]
    refine loopC_of ?_
    simp (maxSteps := 2000000) only [wk0, wk1, wk2, wk3, wk4, wk5, wk6, Fr.ev, Fr.put, Fr.get, storeA, List.replicate, IntKind.bits, sevalprocAttr, YtoncolpkpgbfiaaDoor.D60, ty1, ty2, ty3, ty4, ty30, ty42, ty44, ty51, ty75]
    exact retB_plain (by simp [nmd_nili]) rfl (by simp)
  · have h' : ¬ (p : Int) = 36 := by omega
    have tz : ∀ k : Nat, k < 36 - p → (AV.int .i64 r :: AV.int .i64 c :: (gridP c f p).map fun x => AV.int .i64 x)[2 + p + k]? = some (.int .i64 0) := by
      intro k hk
      have := grid_tail r c f (p + k) (by omega) (by omega)
      rw [hp] at this
      rw [Nat.add_assoc]
      exact get38 this
    simp (maxSteps := 2000000) only [wk0, wk1, wk2, wk3, wk4, wk5, wk6, Fr.ev, Fr.put, Fr.get, storeA, List.replicate, IntKind.bits, sevalprocAttr, bd_none, bd_some, bv_int, sa_arr, w1, k1, k2, h', List.length_map, gl, Int.le_refl, Nat.le_refl, Int.toNat_natCast, Nat.mul_one, YtoncolpkpgbfiaaDoor.D60, ty1, ty2, ty3, ty4, ty30, ty42, ty44, ty51, ty75]
    refine loopC_ind (fun m fr H => ∃ k : Nat, k + m = 36 - p ∧ fr.get 24 = .int .i64 k ∧ fr.get 23 = .int .i64 ((36 - p : Nat) : Int) ∧ fr.get 22 = .sl S.length 0 (2 + p) (36 - p) (36 - p) 1 ∧ H = S ++ [some ⟨.int .i64 r :: .int .i64 c :: (gridP c f p).map fun x => .int .i64 x, 0⟩]) ?_ (n := 36 - p) ⟨0, by omega, rfl, rfl, rfl, rfl⟩
    rintro m fr H ⟨k, hkm, g24, g23, g22, rfl⟩ ih
    by_cases hk : (k : Int) < ((36 - p : Nat) : Int)
    · have q1 : (0 : Int) ≤ k := by omega
      have q2 := tz k (by omega)
      have wk : IntKind.i64.wrap ((k : Int) + 1) = ((k + 1 : Nat) : Int) := wrapI (by omega)
      simp (maxSteps := 2000000) only [wk0, wk1, wk2, wk3, wk4, wk5, wk6, Fr.ev, Fr.put, Fr.get, storeA, List.replicate, IntKind.bits, sevalprocAttr, g24, g23, g22, hk, q1, q2, Int.toNat_natCast, Nat.mul_one, wk, YtoncolpkpgbfiaaDoor.D60, ty1, ty2, ty3, ty4, ty30, ty42, ty44, ty51, ty75]
      exact ih (m - 1) _ _ (by omega) ⟨k + 1, by omega, by simp [Fr.get], by simp [Fr.get, g23], by simp [Fr.get, g22], rfl⟩
    · simp (maxSteps := 2000000) only [wk0, wk1, wk2, wk3, wk4, wk5, wk6, Fr.ev, Fr.put, Fr.get, storeA, List.replicate, IntKind.bits, sevalprocAttr, g24, g23, g22, hk, YtoncolpkpgbfiaaDoor.D60, ty1, ty2, ty3, ty4, ty30, ty42, ty44, ty51, ty75]
      exact retB_plain (by simp [nmd_nili]) rfl (by simp)
theorem turn1_ok (r c i j p : Nat) (f : Nat → Nat → Int) (S : Heap) (hr : r ≤ 6) (hc : c ≤ 6) (hi : i < c) (hj : j < r) (b1 : blkAt S p 0 = some ⟨.int .i64 r :: .int .i64 c :: (gridP c f (r * c)).map fun x => .int .i64 x, 0⟩) :
    Call theE 62 [.int .i64 i, .int .i64 j, .ptr p 0 0] S (.tup [.int .i64 (f j i), .bool false]) S := by
  have tk := take36 (gridP_len c f (r * c))
  have ha := at_mk r c j i f S hr hc hj hi
  simp only [mk, matA] at ha
  refine Call.ofC Tryd.func62 YtoncolpkpgbfiaaDoor.b62 YtoncolpkpgbfiaaDoor.d62 YtoncolpkpgbfiaaDoor.e62 (by simp [Tryd.f62]) ?_
  dsimp only [YtoncolpkpgbfiaaDoor.c62, Tryd.f62, Option.getD_some]
  simp (maxSteps := 2000000) only [wk0, wk1, wk2, wk3, wk4, wk5, wk6, Fr.ev, Fr.put, Fr.get, storeA, List.replicate, IntKind.bits, sevalprocAttr, b1, List.length_map, gridP_len, tk, YtoncolpkpgbfiaaDoor.D62, ty2, ty3, ty4, ty51]
  refine callThen_of ha ?_
  simp (maxSteps := 2000000) only [wk0, wk1, wk2, wk3, wk4, wk5, wk6, Fr.ev, Fr.put, Fr.get, storeA, List.replicate, IntKind.bits, sevalprocAttr, YtoncolpkpgbfiaaDoor.D62, ty2, ty3, ty4, ty51]
  exact retB_plain (by simp [nmd_int, nmd_bool]) rfl (by simp)
theorem turn_ok (r c : Nat) (f : Nat → Nat → Int) (S : Heap) (hr : 1 ≤ r ∧ r ≤ 6) (hc : 1 ≤ c ∧ c ≤ 6) : Call theE 25 [mk r c f] S (.tup [mk c r (fun i j => f j i), .nili]) S := by
  have tk := take36 (gridP_len c f (r * c))
  have tk2 := take36 (gridP_len r (fun i j => f j i) (c * r))
  have al : (List.map (fun x => AV.int .i64 x) (gridP r (fun i j => f j i) (c * r))).all AV.one = true := by simp [AV.one]
  have ck := fun S => check_ok r c f S hr hc
  have md := made_ok 62 [.ptr S.length 0 0] c r (fun i j => f j i) (fun _ _ => false) (S ++ [some ⟨.int .i64 r :: .int .i64 c :: (gridP c f (r * c)).map fun x => .int .i64 x, 0⟩, some ⟨zero38, 0⟩]) hc.2 hr.2 (by decide)
    (fun i j hi hj L => turn1_ok r c i j S.length f _ hr.2 hc.2 hi hj (by rw [List.append_assoc, blkAt_app0]; rfl))
  simp only [mk, matA, zero38, List.replicate] at ck md
  refine Call.ofC Tryd.func25 YtoncolpkpgbfiaaDoor.b25 YtoncolpkpgbfiaaDoor.d25 YtoncolpkpgbfiaaDoor.e25 (by simp [Tryd.f25]) ?_
  dsimp only [YtoncolpkpgbfiaaDoor.c25, Tryd.f25, Option.getD_some]
  simp (maxSteps := 2000000) only [wk0, wk1, wk2, wk3, wk4, wk5, wk6, Fr.ev, Fr.put, Fr.get, storeA, List.replicate, IntKind.bits, sevalprocAttr, mk, matA, List.length_map, gridP_len, tk, YtoncolpkpgbfiaaDoor.D25, ty1, ty3, ty4, ty30, ty51, ty124]
  refine callThen_of (ck _) ?_
  simp (maxSteps := 2000000) only [wk0, wk1, wk2, wk3, wk4, wk5, wk6, Fr.ev, Fr.put, Fr.get, storeA, List.replicate, IntKind.bits, sevalprocAttr, YtoncolpkpgbfiaaDoor.D25, ty1, ty3, ty4, ty30, ty51, ty124]
  refine callThen_of md ?_
  simp (maxSteps := 2000000) only [wk0, wk1, wk2, wk3, wk4, wk5, wk6, Fr.ev, Fr.put, Fr.get, storeA, List.replicate, IntKind.bits, sevalprocAttr, List.length_map, gridP_len, tk2, al, YtoncolpkpgbfiaaDoor.D25, ty1, ty3, ty4, ty30, ty51, ty124]
  exact retB_plain (by simp [nmd_agg, nmd_int, nmd_nili]) (by simp [packA]) (by simp)
end Go.Proofs.YtoncolpkpgbfiaaDoor
