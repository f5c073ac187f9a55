/- mat: what can't be. -/
import Derived.Test.YtdknnaalfoongaaGreatDoorN0
set_option linter.unusedSimpArgs false
set_option linter.unusedVariables false
set_option maxRecDepth 100000
set_option maxHeartbeats 4000000
namespace Go.Proofs.YtdknnaalfoongaaGreatDoor
def fineM (r c : Int) (L : List Int) : Prop := (1 ≤ r ∧ r ≤ 6) ∧ (1 ≤ c ∧ c ≤ 6) ∧ ∀ k : Nat, r * c ≤ k → k < 36 → L.getD k 0 = 0
theorem fine_mk {r c : Int} {L : List Int} (hL : L.length = 36) (h : fineM r c L) : ∃ (R C : Nat) (f : Nat → Nat → Int), (1 ≤ R ∧ R ≤ 6) ∧ (1 ≤ C ∧ C ≤ 6) ∧ r = R ∧ c = C ∧ matA r c L = mk R C f ∧ f = fun i j => L.getD (i * C + j) 0 := by
  obtain ⟨h1, h2, h3⟩ := h
  obtain ⟨R, rfl⟩ : ∃ R : Nat, r = R := ⟨r.toNat, by omega⟩
  obtain ⟨C, rfl⟩ : ∃ C : Nat, c = C := ⟨c.toNat, by omega⟩
  refine ⟨R, C, fun i j => L.getD (i * C + j) 0, by omega, by omega, rfl, rfl, ?_, rfl⟩
  unfold mk
  congr 1
  apply List.ext_getElem
  · rw [gridP_len, hL]
  · intro k h4 h5
    have hk : k < 36 := by omega
    simp only [gridP, List.getElem_map, List.getElem_range]
    split
    · rw [Nat.mul_comm, Nat.div_add_mod, List.getD_eq_getElem?_getD, List.getElem?_eq_getElem h4]; rfl
    · rename_i hq
      have := h3 k (by rw [← Int.natCast_mul]; omega) hk
      rw [List.getD_eq_getElem?_getD, List.getElem?_eq_getElem h4] at this
      exact this
theorem check_bad (r c : Int) (L : List Int) (S : Heap) (hL : L.length = 36) (h : ¬ fineM r c L) : Call theE 71 [matA r c L] S (errA 1) S := by
  have s1 := fun S => sizedM_ok r S
  have s2 := fun S => sizedM_ok c S
  refine Call.ofC Tryz.func71 YtdknnaalfoongaaGreatDoor.b71 YtdknnaalfoongaaGreatDoor.d71 YtdknnaalfoongaaGreatDoor.e71 (by simp [Tryz.f71]) ?_
  dsimp only [YtdknnaalfoongaaGreatDoor.c71, Tryz.f71, Option.getD_some]
  simp (maxSteps := 2000000) only [wk0, wk1, wk2, wk3, wk4, wk5, wk6, Fr.ev, Fr.put, Fr.get, storeA, List.replicate, IntKind.bits, sevalprocAttr, matA, YtdknnaalfoongaaGreatDoor.D71, ty1, ty2, ty3, ty4, ty22, ty28, ty30, ty35, ty79]
  refine callThen_of (s1 _) ?_
  by_cases hr : 1 ≤ r ∧ r ≤ 6
  · rw [decide_eq_true hr]
    simp (maxSteps := 2000000) only [wk0, wk1, wk2, wk3, wk4, wk5, wk6, Fr.ev, Fr.put, Fr.get, storeA, List.replicate, IntKind.bits, sevalprocAttr, matA, YtdknnaalfoongaaGreatDoor.D71, ty1, ty2, ty3, ty4, ty22, ty28, ty30, ty35, ty79]
    refine callThen_of (s2 _) ?_
    by_cases hc : 1 ≤ c ∧ c ≤ 6
    · rw [decide_eq_true hc]
      obtain ⟨R, rfl⟩ : ∃ R : Nat, r = R := ⟨r.toNat, by omega⟩
      obtain ⟨C, rfl⟩ : ∃ C : Nat, c = C := ⟨c.toNat, by omega⟩
      have h36 : R * C ≤ 36 := by have := Nat.mul_le_mul (show R ≤ 6 by omega) (show C ≤ 6 by omega); omega
      have w1 : IntKind.i64.wrap ((R : Int) * C) = ((R * C : Nat) : Int) := by rw [wrapI (by rw [← Int.natCast_mul]; omega)]; simp
      have hne : ∃ k : Nat, R * C ≤ k ∧ k < 36 ∧ ¬ L.getD k 0 = 0 := by
        refine Classical.byContradiction fun hn => h ⟨hr, hc, fun k h1 h2 => Classical.byContradiction fun h3 => hn ⟨k, by rw [← Int.natCast_mul] at h1; omega, h2, h3⟩⟩
      obtain ⟨p, hp⟩ : ∃ p, R * C = p := ⟨_, rfl⟩
      rw [hp] at w1 h36 hne
      have k1 : (0 : Int) ≤ (p : Int) := by omega
      have k2 : (p : Int) ≤ 36 := by omega
      have h' : ¬ (p : Int) = 36 := by obtain ⟨k, h1, h2, _⟩ := hne; omega
      have tz : ∀ k : Nat, k < 36 - p → (AV.int .i64 R :: AV.int .i64 C :: L.map fun x => AV.int .i64 x)[2 + p + k]? = some (.int .i64 (L.getD (p + k) 0)) := by
        intro k hk
        rw [Nat.add_assoc]
        refine get38 ?_
        rw [List.getD_eq_getElem?_getD, List.getElem?_eq_getElem (by omega)]; rfl
      simp (maxSteps := 2000000) only [wk0, wk1, wk2, wk3, wk4, wk5, wk6, Fr.ev, Fr.put, Fr.get, storeA, List.replicate, IntKind.bits, sevalprocAttr, bd_none, bd_some, bv_int, sa_arr, w1, k1, k2, h', List.length_map, hL, Int.le_refl, Nat.le_refl, Int.toNat_natCast, Nat.mul_one, YtdknnaalfoongaaGreatDoor.D71, ty1, ty2, ty3, ty4, ty22, ty28, ty30, ty35, ty79]
      refine loopC_ind (fun m fr H => ∃ k : Nat, k + m = 36 - p ∧ (∃ q : Nat, p + k ≤ q ∧ q < 36 ∧ ¬ L.getD q 0 = 0) ∧ fr.get 24 = .int .i64 k ∧ fr.get 23 = .int .i64 ((36 - p : Nat) : Int) ∧ fr.get 22 = .sl S.length 0 (2 + p) (36 - p) (36 - p) 1 ∧ H = S ++ [some ⟨.int .i64 R :: .int .i64 C :: L.map fun x => .int .i64 x, 0⟩]) ?_ (n := 36 - p) ⟨0, by omega, hne, rfl, rfl, rfl, rfl⟩
      rintro m fr H ⟨k, hkm, ⟨q, hq1, hq2, hq3⟩, g24, g23, g22, rfl⟩ ih
      have hk : (k : Int) < ((36 - p : Nat) : Int) := by omega
      have q1 : (0 : Int) ≤ k := by omega
      have q2 := tz k (by omega)
      have wk : IntKind.i64.wrap ((k : Int) + 1) = ((k + 1 : Nat) : Int) := wrapI (by omega)
      by_cases hz : L.getD (p + k) 0 = 0
      · rw [hz] at q2
        simp (maxSteps := 2000000) only [wk0, wk1, wk2, wk3, wk4, wk5, wk6, Fr.ev, Fr.put, Fr.get, storeA, List.replicate, IntKind.bits, sevalprocAttr, g24, g23, g22, hk, q1, q2, Int.toNat_natCast, Nat.mul_one, wk, YtdknnaalfoongaaGreatDoor.D71, ty1, ty2, ty3, ty4, ty22, ty28, ty30, ty35, ty79]
        refine ih (m - 1) _ _ (by omega) ⟨k + 1, by omega, ⟨q, ?_, hq2, hq3⟩, by simp [Fr.get], by simp [Fr.get, g23], by simp [Fr.get, g22], rfl⟩
        rcases Nat.lt_or_ge (p + k) q with h1 | h1
        · omega
        · obtain rfl : q = p + k := by omega
          exact absurd hz hq3
      · simp (maxSteps := 2000000) only [wk0, wk1, wk2, wk3, wk4, wk5, wk6, Fr.ev, Fr.put, Fr.get, storeA, List.replicate, IntKind.bits, sevalprocAttr, g24, g23, g22, hk, q1, q2, Int.toNat_natCast, Nat.mul_one, wk, hz, YtdknnaalfoongaaGreatDoor.D71, ty1, ty2, ty3, ty4, ty22, ty28, ty30, ty35, ty79]
        exact retB_plain (by simp [nmd_ifc, nmd_int]) rfl (by simp)
    · rw [decide_eq_false hc]
      simp (maxSteps := 2000000) only [wk0, wk1, wk2, wk3, wk4, wk5, wk6, Fr.ev, Fr.put, Fr.get, storeA, List.replicate, IntKind.bits, sevalprocAttr, matA, YtdknnaalfoongaaGreatDoor.D71, ty1, ty2, ty3, ty4, ty22, ty28, ty30, ty35, ty79]
      exact retB_plain (by simp [nmd_ifc, nmd_int]) rfl (by simp)
  · rw [decide_eq_false hr]
    simp (maxSteps := 2000000) only [wk0, wk1, wk2, wk3, wk4, wk5, wk6, Fr.ev, Fr.put, Fr.get, storeA, List.replicate, IntKind.bits, sevalprocAttr, matA, YtdknnaalfoongaaGreatDoor.D71, ty1, ty2, ty3, ty4, ty22, ty28, ty30, ty35, ty79]
    exact retB_plain (by simp [nmd_ifc, nmd_int]) rfl (by simp)
def zeroM : AV := matA 0 0 (List.replicate 36 0)
theorem zeroM_bad : ¬ fineM 0 0 (List.replicate 36 0) := fun h => by have := h.1.1; omega
/-! a matrix that can't be -/
section
variable (r c : Int) (L : List Int) (S : Heap) (hL : L.length = 36) (h : ¬ fineM r c L)
include hL h
theorem turn_bad : Call theE 37 [matA r c L] S (.tup [zeroM, errA 1]) S := by
  have tk := take36 hL
  have ck := fun S => check_bad r c L S hL h
  simp only [matA, errA] at ck
  refine Call.ofC Tryz.func37 YtdknnaalfoongaaGreatDoor.b37 YtdknnaalfoongaaGreatDoor.d37 YtdknnaalfoongaaGreatDoor.e37 (by simp [Tryz.f37]) ?_
  dsimp only [YtdknnaalfoongaaGreatDoor.c37, Tryz.f37, Option.getD_some]
  simp (maxSteps := 2000000) only [wk0, wk1, wk2, wk3, wk4, wk5, wk6, Fr.ev, Fr.put, Fr.get, storeA, List.replicate, IntKind.bits, sevalprocAttr, matA, List.length_map, hL, tk, YtdknnaalfoongaaGreatDoor.D37, ty1, ty3, ty4, ty30, ty35, ty122]
  refine callThen_of (ck _) ?_
  simp (maxSteps := 2000000) only [wk0, wk1, wk2, wk3, wk4, wk5, wk6, Fr.ev, Fr.put, Fr.get, storeA, List.replicate, IntKind.bits, sevalprocAttr, matA, List.length_map, hL, tk, YtdknnaalfoongaaGreatDoor.D37, ty1, ty3, ty4, ty30, ty35, ty122]
  exact retB_plain (by simp [nmd_agg, nmd_int, nmd_ifc]) rfl (by simp)
theorem even_bad : Call theE 78 [matA r c L] S (.tup [zeroM, .bool false, errA 1]) S := by
  have tk := take36 hL
  have ck := fun S => check_bad r c L S hL h
  simp only [matA, errA] at ck
  refine Call.ofC Tryz.func78 YtdknnaalfoongaaGreatDoor.b78 YtdknnaalfoongaaGreatDoor.d78 YtdknnaalfoongaaGreatDoor.e78 (by simp [Tryz.f78]) ?_
  dsimp only [YtdknnaalfoongaaGreatDoor.c78, Tryz.f78, Option.getD_some]
  simp (maxSteps := 2000000) only [wk0, wk1, wk2, wk3, wk4, wk5, wk6, Fr.ev, Fr.put, Fr.get, storeA, List.replicate, IntKind.bits, sevalprocAttr, matA, List.length_map, hL, tk, YtdknnaalfoongaaGreatDoor.D78, ty1, ty3, ty4, ty30, ty35, ty79, ty122]
  refine callThen_of (ck _) ?_
  simp (maxSteps := 2000000) only [wk0, wk1, wk2, wk3, wk4, wk5, wk6, Fr.ev, Fr.put, Fr.get, storeA, List.replicate, IntKind.bits, sevalprocAttr, matA, List.length_map, hL, tk, YtdknnaalfoongaaGreatDoor.D78, ty1, ty3, ty4, ty30, ty35, ty79, ty122]
  exact retB_plain (by simp [nmd_agg, nmd_int, nmd_ifc, nmd_bool]) rfl (by simp)
theorem rowM_bad (i : Int) : Call theE 85 [matA r c L, .int .i64 i] S (.tup [.nils, errA 1]) S := by
  have tk := take36 hL
  have ck := fun S => check_bad r c L S hL h
  simp only [matA, errA] at ck
  refine Call.ofC Tryz.func85 YtdknnaalfoongaaGreatDoor.b85 YtdknnaalfoongaaGreatDoor.d85 YtdknnaalfoongaaGreatDoor.e85 (by simp [Tryz.f85]) ?_
  dsimp only [YtdknnaalfoongaaGreatDoor.c85, Tryz.f85, Option.getD_some]
  simp (maxSteps := 2000000) only [wk0, wk1, wk2, wk3, wk4, wk5, wk6, Fr.ev, Fr.put, Fr.get, storeA, List.replicate, IntKind.bits, sevalprocAttr, matA, List.length_map, hL, tk, YtdknnaalfoongaaGreatDoor.D85, ty1, ty2, ty3, ty4, ty22, ty28, ty30, ty35, ty79]
  refine callThen_of (ck _) ?_
  simp (maxSteps := 2000000) only [wk0, wk1, wk2, wk3, wk4, wk5, wk6, Fr.ev, Fr.put, Fr.get, storeA, List.replicate, IntKind.bits, sevalprocAttr, matA, List.length_map, hL, tk, YtdknnaalfoongaaGreatDoor.D85, ty1, ty2, ty3, ty4, ty22, ty28, ty30, ty35, ty79]
  exact retB_plain (by simp [nmd_nils, nmd_int, nmd_ifc]) rfl (by simp)
theorem apply_bad (v : AV) : Call theE 39 [matA r c L, v] S (.tup [.nils, .bool false, errA 1]) S := by
  have tk := take36 hL
  have ck := fun S => check_bad r c L S hL h
  simp only [matA, errA] at ck
  refine Call.ofC Tryz.func39 YtdknnaalfoongaaGreatDoor.b39 YtdknnaalfoongaaGreatDoor.d39 YtdknnaalfoongaaGreatDoor.e39 (by simp [Tryz.f39]) ?_
  dsimp only [YtdknnaalfoongaaGreatDoor.c39, Tryz.f39, Option.getD_some]
  simp (maxSteps := 2000000) only [wk0, wk1, wk2, wk3, wk4, wk5, wk6, Fr.ev, Fr.put, Fr.get, storeA, List.replicate, IntKind.bits, sevalprocAttr, matA, List.length_map, hL, tk, YtdknnaalfoongaaGreatDoor.D39, ty1, ty2, ty3, ty4, ty22, ty28, ty30, ty35, ty79]
  refine callThen_of (ck _) ?_
  simp (maxSteps := 2000000) only [wk0, wk1, wk2, wk3, wk4, wk5, wk6, Fr.ev, Fr.put, Fr.get, storeA, List.replicate, IntKind.bits, sevalprocAttr, matA, List.length_map, hL, tk, YtdknnaalfoongaaGreatDoor.D39, ty1, ty2, ty3, ty4, ty22, ty28, ty30, ty35, ty79]
  exact retB_plain (by simp [nmd_nils, nmd_int, nmd_ifc, nmd_bool]) rfl (by simp)
theorem alike_bad1 (r' c' : Int) (L' : List Int) (hL' : L'.length = 36) : Call theE 107 [matA r c L, matA r' c' L'] S (errA 1) S := by
  have tk := take36 hL
  have ck := fun S => check_bad r c L S hL h
  simp only [matA, errA] at ck
  refine Call.ofC Tryz.func107 YtdknnaalfoongaaGreatDoor.b107 YtdknnaalfoongaaGreatDoor.d107 YtdknnaalfoongaaGreatDoor.e107 (by simp [Tryz.f107]) ?_
  dsimp only [YtdknnaalfoongaaGreatDoor.c107, Tryz.f107, Option.getD_some]
  simp (maxSteps := 2000000) only [wk0, wk1, wk2, wk3, wk4, wk5, wk6, Fr.ev, Fr.put, Fr.get, storeA, List.replicate, IntKind.bits, sevalprocAttr, matA, List.length_map, hL, tk, YtdknnaalfoongaaGreatDoor.D107, ty1, ty3, ty4, ty30, ty35, ty79]
  refine callThen_of (ck _) ?_
  simp (maxSteps := 2000000) only [wk0, wk1, wk2, wk3, wk4, wk5, wk6, Fr.ev, Fr.put, Fr.get, storeA, List.replicate, IntKind.bits, sevalprocAttr, matA, List.length_map, hL, tk, YtdknnaalfoongaaGreatDoor.D107, ty1, ty3, ty4, ty30, ty35, ty79]
  exact retB_plain (by simp [nmd_ifc, nmd_int]) rfl (by simp)
theorem mul_bad1 (r' c' : Int) (L' : List Int) (hL' : L'.length = 36) : Call theE 76 [matA r c L, matA r' c' L'] S (.tup [zeroM, .bool false, errA 1]) S := by
  have tk := take36 hL
  have ck := fun S => check_bad r c L S hL h
  simp only [matA, errA] at ck
  refine Call.ofC Tryz.func76 YtdknnaalfoongaaGreatDoor.b76 YtdknnaalfoongaaGreatDoor.d76 YtdknnaalfoongaaGreatDoor.e76 (by simp [Tryz.f76]) ?_
  dsimp only [YtdknnaalfoongaaGreatDoor.c76, Tryz.f76, Option.getD_some]
  simp (maxSteps := 2000000) only [wk0, wk1, wk2, wk3, wk4, wk5, wk6, Fr.ev, Fr.put, Fr.get, storeA, List.replicate, IntKind.bits, sevalprocAttr, matA, List.length_map, hL, tk, YtdknnaalfoongaaGreatDoor.D76, ty1, ty3, ty4, ty30, ty35, ty79, ty122]
  refine callThen_of (ck _) ?_
  simp (maxSteps := 2000000) only [wk0, wk1, wk2, wk3, wk4, wk5, wk6, Fr.ev, Fr.put, Fr.get, storeA, List.replicate, IntKind.bits, sevalprocAttr, matA, List.length_map, hL, tk, YtdknnaalfoongaaGreatDoor.D76, ty1, ty3, ty4, ty30, ty35, ty79, ty122]
  exact retB_plain (by simp [nmd_agg, nmd_int, nmd_ifc, nmd_bool]) rfl (by simp)
theorem alike_bad2 (R C : Nat) (f : Nat → Nat → Int) (hR : 1 ≤ R ∧ R ≤ 6) (hC : 1 ≤ C ∧ C ≤ 6) : Call theE 107 [mk R C f, matA r c L] S (errA 1) S := by
  have tk := take36 hL
  have tk2 := take36 (gridP_len C f (R * C))
  have ck := fun S => check_bad r c L S hL h
  have ck2 := fun S => check_ok R C f S hR hC
  simp only [mk, matA, errA] at ck ck2
  refine Call.ofC Tryz.func107 YtdknnaalfoongaaGreatDoor.b107 YtdknnaalfoongaaGreatDoor.d107 YtdknnaalfoongaaGreatDoor.e107 (by simp [Tryz.f107]) ?_
  dsimp only [YtdknnaalfoongaaGreatDoor.c107, Tryz.f107, Option.getD_some]
  simp (maxSteps := 2000000) only [wk0, wk1, wk2, wk3, wk4, wk5, wk6, Fr.ev, Fr.put, Fr.get, storeA, List.replicate, IntKind.bits, sevalprocAttr, mk, matA, List.length_map, hL, gridP_len, tk, tk2, YtdknnaalfoongaaGreatDoor.D107, ty1, ty3, ty4, ty30, ty35, ty79]
  refine callThen_of (ck2 _) ?_
  simp (maxSteps := 2000000) only [wk0, wk1, wk2, wk3, wk4, wk5, wk6, Fr.ev, Fr.put, Fr.get, storeA, List.replicate, IntKind.bits, sevalprocAttr, mk, matA, List.length_map, hL, gridP_len, tk, tk2, YtdknnaalfoongaaGreatDoor.D107, ty1, ty3, ty4, ty30, ty35, ty79]
  refine callThen_of (ck _) ?_
  simp (maxSteps := 2000000) only [wk0, wk1, wk2, wk3, wk4, wk5, wk6, Fr.ev, Fr.put, Fr.get, storeA, List.replicate, IntKind.bits, sevalprocAttr, mk, matA, List.length_map, hL, gridP_len, tk, tk2, YtdknnaalfoongaaGreatDoor.D107, ty1, ty3, ty4, ty30, ty35, ty79]
  exact retB_plain (by simp [nmd_ifc, nmd_int]) rfl (by simp)
theorem mul_bad2 (R C : Nat) (f : Nat → Nat → Int) (hR : 1 ≤ R ∧ R ≤ 6) (hC : 1 ≤ C ∧ C ≤ 6) : Call theE 76 [mk R C f, matA r c L] S (.tup [zeroM, .bool false, errA 1]) S := by
  have tk := take36 hL
  have tk2 := take36 (gridP_len C f (R * C))
  have ck := fun S => check_bad r c L S hL h
  have ck2 := fun S => check_ok R C f S hR hC
  simp only [mk, matA, errA] at ck ck2
  refine Call.ofC Tryz.func76 YtdknnaalfoongaaGreatDoor.b76 YtdknnaalfoongaaGreatDoor.d76 YtdknnaalfoongaaGreatDoor.e76 (by simp [Tryz.f76]) ?_
  dsimp only [YtdknnaalfoongaaGreatDoor.c76, Tryz.f76, Option.getD_some]
  simp (maxSteps := 2000000) only [wk0, wk1, wk2, wk3, wk4, wk5, wk6, Fr.ev, Fr.put, Fr.get, storeA, List.replicate, IntKind.bits, sevalprocAttr, mk, matA, List.length_map, hL, gridP_len, tk, tk2, YtdknnaalfoongaaGreatDoor.D76, ty1, ty3, ty4, ty30, ty35, ty79, ty122]
  refine callThen_of (ck2 _) ?_
  simp (maxSteps := 2000000) only [wk0, wk1, wk2, wk3, wk4, wk5, wk6, Fr.ev, Fr.put, Fr.get, storeA, List.replicate, IntKind.bits, sevalprocAttr, mk, matA, List.length_map, hL, gridP_len, tk, tk2, YtdknnaalfoongaaGreatDoor.D76, ty1, ty3, ty4, ty30, ty35, ty79, ty122]
  refine callThen_of (ck _) ?_
  simp (maxSteps := 2000000) only [wk0, wk1, wk2, wk3, wk4, wk5, wk6, Fr.ev, Fr.put, Fr.get, storeA, List.replicate, IntKind.bits, sevalprocAttr, mk, matA, List.length_map, hL, gridP_len, tk, tk2, YtdknnaalfoongaaGreatDoor.D76, ty1, ty3, ty4, ty30, ty35, ty79, ty122]
  exact retB_plain (by simp [nmd_agg, nmd_int, nmd_ifc, nmd_bool]) rfl (by simp)
end
/-! what does not fit together -/
theorem alike_bad3 (r c r' c' : Nat) (f g : Nat → Nat → Int) (S : Heap) (hr : 1 ≤ r ∧ r ≤ 6) (hc : 1 ≤ c ∧ c ≤ 6) (hr' : 1 ≤ r' ∧ r' ≤ 6) (hc' : 1 ≤ c' ∧ c' ≤ 6) (h : ¬ (r = r' ∧ c = c')) : Call theE 107 [mk r c f, mk r' c' g] S (errA 1) S := by
  have tk1 := take36 (gridP_len c f (r * c))
  have tk2 := take36 (gridP_len c' g (r' * c'))
  have k1 := fun S => check_ok r c f S hr hc
  have k2 := fun S => check_ok r' c' g S hr' hc'
  simp only [mk, matA] at k1 k2
  refine Call.ofC Tryz.func107 YtdknnaalfoongaaGreatDoor.b107 YtdknnaalfoongaaGreatDoor.d107 YtdknnaalfoongaaGreatDoor.e107 (by simp [Tryz.f107]) ?_
  dsimp only [YtdknnaalfoongaaGreatDoor.c107, Tryz.f107, Option.getD_some]
  by_cases h1 : r = r'
  · have h2 : ((c : Int) = c') = False := eq_false (by omega)
    have h1' : ((r : Int) = r') = True := eq_true (by omega)
    simp (maxSteps := 2000000) only [wk0, wk1, wk2, wk3, wk4, wk5, wk6, Fr.ev, Fr.put, Fr.get, storeA, List.replicate, IntKind.bits, sevalprocAttr, mk, matA, List.length_map, gridP_len, tk1, tk2, h1', h2, YtdknnaalfoongaaGreatDoor.D107, ty1, ty3, ty4, ty30, ty35, ty79]
    refine callThen_of (k1 _) ?_
    simp (maxSteps := 2000000) only [wk0, wk1, wk2, wk3, wk4, wk5, wk6, Fr.ev, Fr.put, Fr.get, storeA, List.replicate, IntKind.bits, sevalprocAttr, mk, matA, List.length_map, gridP_len, tk1, tk2, h1', h2, YtdknnaalfoongaaGreatDoor.D107, ty1, ty3, ty4, ty30, ty35, ty79]
    refine callThen_of (k2 _) ?_
    simp (maxSteps := 2000000) only [wk0, wk1, wk2, wk3, wk4, wk5, wk6, Fr.ev, Fr.put, Fr.get, storeA, List.replicate, IntKind.bits, sevalprocAttr, mk, matA, List.length_map, gridP_len, tk1, tk2, h1', h2, YtdknnaalfoongaaGreatDoor.D107, ty1, ty3, ty4, ty30, ty35, ty79]
    exact retB_plain (by simp [nmd_ifc, nmd_int]) rfl (by simp)
  · have h1' : ((r : Int) = r') = False := eq_false (by omega)
    simp (maxSteps := 2000000) only [wk0, wk1, wk2, wk3, wk4, wk5, wk6, Fr.ev, Fr.put, Fr.get, storeA, List.replicate, IntKind.bits, sevalprocAttr, mk, matA, List.length_map, gridP_len, tk1, tk2, h1', YtdknnaalfoongaaGreatDoor.D107, ty1, ty3, ty4, ty30, ty35, ty79]
    refine callThen_of (k1 _) ?_
    simp (maxSteps := 2000000) only [wk0, wk1, wk2, wk3, wk4, wk5, wk6, Fr.ev, Fr.put, Fr.get, storeA, List.replicate, IntKind.bits, sevalprocAttr, mk, matA, List.length_map, gridP_len, tk1, tk2, h1', YtdknnaalfoongaaGreatDoor.D107, ty1, ty3, ty4, ty30, ty35, ty79]
    refine callThen_of (k2 _) ?_
    simp (maxSteps := 2000000) only [wk0, wk1, wk2, wk3, wk4, wk5, wk6, Fr.ev, Fr.put, Fr.get, storeA, List.replicate, IntKind.bits, sevalprocAttr, mk, matA, List.length_map, gridP_len, tk1, tk2, h1', YtdknnaalfoongaaGreatDoor.D107, ty1, ty3, ty4, ty30, ty35, ty79]
    exact retB_plain (by simp [nmd_ifc, nmd_int]) rfl (by simp)
theorem mul_bad3 (r c r' c' : Nat) (f g : Nat → Nat → Int) (S : Heap) (hr : 1 ≤ r ∧ r ≤ 6) (hc : 1 ≤ c ∧ c ≤ 6) (hr' : 1 ≤ r' ∧ r' ≤ 6) (hc' : 1 ≤ c' ∧ c' ≤ 6) (h : ¬ c = r') : Call theE 76 [mk r c f, mk r' c' g] S (.tup [zeroM, .bool false, errA 1]) S := by
  have tk1 := take36 (gridP_len c f (r * c))
  have tk2 := take36 (gridP_len c' g (r' * c'))
  have k1 := fun S => check_ok r c f S hr hc
  have k2 := fun S => check_ok r' c' g S hr' hc'
  have h' : ((c : Int) = r') = False := eq_false (by omega)
  simp only [mk, matA] at k1 k2
  refine Call.ofC Tryz.func76 YtdknnaalfoongaaGreatDoor.b76 YtdknnaalfoongaaGreatDoor.d76 YtdknnaalfoongaaGreatDoor.e76 (by simp [Tryz.f76]) ?_
  dsimp only [YtdknnaalfoongaaGreatDoor.c76, Tryz.f76, Option.getD_some]
  simp (maxSteps := 2000000) only [wk0, wk1, wk2, wk3, wk4, wk5, wk6, Fr.ev, Fr.put, Fr.get, storeA, List.replicate, IntKind.bits, sevalprocAttr, mk, matA, List.length_map, gridP_len, tk1, tk2, h', YtdknnaalfoongaaGreatDoor.D76, ty1, ty3, ty4, ty30, ty35, ty79, ty122]
  refine callThen_of (k1 _) ?_
  simp (maxSteps := 2000000) only [wk0, wk1, wk2, wk3, wk4, wk5, wk6, Fr.ev, Fr.put, Fr.get, storeA, List.replicate, IntKind.bits, sevalprocAttr, mk, matA, List.length_map, gridP_len, tk1, tk2, h', YtdknnaalfoongaaGreatDoor.D76, ty1, ty3, ty4, ty30, ty35, ty79, ty122]
  refine callThen_of (k2 _) ?_
  simp (maxSteps := 2000000) only [wk0, wk1, wk2, wk3, wk4, wk5, wk6, Fr.ev, Fr.put, Fr.get, storeA, List.replicate, IntKind.bits, sevalprocAttr, mk, matA, List.length_map, gridP_len, tk1, tk2, h', YtdknnaalfoongaaGreatDoor.D76, ty1, ty3, ty4, ty30, ty35, ty79, ty122]
  exact retB_plain (by simp [nmd_agg, nmd_int, nmd_ifc, nmd_bool]) rfl (by simp)
theorem even_bad3 (r c : Nat) (f : Nat → Nat → Int) (S : Heap) (hr : 1 ≤ r ∧ r ≤ 6) (hc : 1 ≤ c ∧ c ≤ 6) (h : ¬ r = c) : Call theE 78 [mk r c f] S (.tup [zeroM, .bool false, errA 1]) S := by
  have tk1 := take36 (gridP_len c f (r * c))
  have k1 := fun S => check_ok r c f S hr hc
  have h' : ((r : Int) = c) = False := eq_false (by omega)
  simp only [mk, matA] at k1
  refine Call.ofC Tryz.func78 YtdknnaalfoongaaGreatDoor.b78 YtdknnaalfoongaaGreatDoor.d78 YtdknnaalfoongaaGreatDoor.e78 (by simp [Tryz.f78]) ?_
  dsimp only [YtdknnaalfoongaaGreatDoor.c78, Tryz.f78, Option.getD_some]
  simp (maxSteps := 2000000) only [wk0, wk1, wk2, wk3, wk4, wk5, wk6, Fr.ev, Fr.put, Fr.get, storeA, List.replicate, IntKind.bits, sevalprocAttr, mk, matA, List.length_map, gridP_len, tk1, h', YtdknnaalfoongaaGreatDoor.D78, ty1, ty3, ty4, ty30, ty35, ty79, ty122]
  refine callThen_of (k1 _) ?_
  simp (maxSteps := 2000000) only [wk0, wk1, wk2, wk3, wk4, wk5, wk6, Fr.ev, Fr.put, Fr.get, storeA, List.replicate, IntKind.bits, sevalprocAttr, mk, matA, List.length_map, gridP_len, tk1, h', YtdknnaalfoongaaGreatDoor.D78, ty1, ty3, ty4, ty30, ty35, ty79, ty122]
  exact retB_plain (by simp [nmd_agg, nmd_int, nmd_ifc, nmd_bool]) rfl (by simp)
theorem apply_bad3 (r c : Nat) (f : Nat → Nat → Int) (v : List Int) (S : Heap) (hr : 1 ≤ r ∧ r ≤ 6) (hc : 1 ≤ c ∧ c ≤ 6) (h : ¬ v.length = c) : Call theE 39 [mk r c f, lstI v] S (.tup [.nils, .bool false, errA 1]) S := by
  have tk1 := take36 (gridP_len c f (r * c))
  have k1 := fun S => check_ok r c f S hr hc
  have h' : ((v.length : Int) = c) = False := eq_false (by omega)
  simp only [mk, matA] at k1
  refine Call.ofC Tryz.func39 YtdknnaalfoongaaGreatDoor.b39 YtdknnaalfoongaaGreatDoor.d39 YtdknnaalfoongaaGreatDoor.e39 (by simp [Tryz.f39]) ?_
  dsimp only [YtdknnaalfoongaaGreatDoor.c39, Tryz.f39, Option.getD_some]
  simp (maxSteps := 2000000) only [wk0, wk1, wk2, wk3, wk4, wk5, wk6, Fr.ev, Fr.put, Fr.get, storeA, List.replicate, IntKind.bits, sevalprocAttr, mk, matA, lstI, List.length_map, gridP_len, tk1, h', YtdknnaalfoongaaGreatDoor.D39, ty1, ty2, ty3, ty4, ty22, ty28, ty30, ty35, ty79]
  refine callThen_of (k1 _) ?_
  simp (maxSteps := 2000000) only [wk0, wk1, wk2, wk3, wk4, wk5, wk6, Fr.ev, Fr.put, Fr.get, storeA, List.replicate, IntKind.bits, sevalprocAttr, mk, matA, lstI, List.length_map, gridP_len, tk1, h', YtdknnaalfoongaaGreatDoor.D39, ty1, ty2, ty3, ty4, ty22, ty28, ty30, ty35, ty79]
  exact retB_plain (by simp [nmd_nils, nmd_int, nmd_ifc, nmd_bool]) rfl (by simp)
theorem rowM_bad3 (r c : Nat) (i : Int) (f : Nat → Nat → Int) (S : Heap) (hr : 1 ≤ r ∧ r ≤ 6) (hc : 1 ≤ c ∧ c ≤ 6) (h : ¬ (0 ≤ i ∧ i < r)) : Call theE 85 [mk r c f, .int .i64 i] S (.tup [.nils, errA 1]) S := by
  have tk1 := take36 (gridP_len c f (r * c))
  have k1 := fun S => check_ok r c f S hr hc
  simp only [mk, matA] at k1
  refine Call.ofC Tryz.func85 YtdknnaalfoongaaGreatDoor.b85 YtdknnaalfoongaaGreatDoor.d85 YtdknnaalfoongaaGreatDoor.e85 (by simp [Tryz.f85]) ?_
  dsimp only [YtdknnaalfoongaaGreatDoor.c85, Tryz.f85, Option.getD_some]
  by_cases h1 : i < 0
  · simp (maxSteps := 2000000) only [wk0, wk1, wk2, wk3, wk4, wk5, wk6, Fr.ev, Fr.put, Fr.get, storeA, List.replicate, IntKind.bits, sevalprocAttr, mk, matA, List.length_map, gridP_len, tk1, h1, YtdknnaalfoongaaGreatDoor.D85, ty1, ty2, ty3, ty4, ty22, ty28, ty30, ty35, ty79]
    refine callThen_of (k1 _) ?_
    simp (maxSteps := 2000000) only [wk0, wk1, wk2, wk3, wk4, wk5, wk6, Fr.ev, Fr.put, Fr.get, storeA, List.replicate, IntKind.bits, sevalprocAttr, mk, matA, List.length_map, gridP_len, tk1, h1, YtdknnaalfoongaaGreatDoor.D85, ty1, ty2, ty3, ty4, ty22, ty28, ty30, ty35, ty79]
    exact retB_plain (by simp [nmd_nils, nmd_int, nmd_ifc]) rfl (by simp)
  · have h2 : (r : Int) ≤ i := by omega
    simp (maxSteps := 2000000) only [wk0, wk1, wk2, wk3, wk4, wk5, wk6, Fr.ev, Fr.put, Fr.get, storeA, List.replicate, IntKind.bits, sevalprocAttr, mk, matA, List.length_map, gridP_len, tk1, h1, h2, YtdknnaalfoongaaGreatDoor.D85, ty1, ty2, ty3, ty4, ty22, ty28, ty30, ty35, ty79]
    refine callThen_of (k1 _) ?_
    simp (maxSteps := 2000000) only [wk0, wk1, wk2, wk3, wk4, wk5, wk6, Fr.ev, Fr.put, Fr.get, storeA, List.replicate, IntKind.bits, sevalprocAttr, mk, matA, List.length_map, gridP_len, tk1, h1, h2, YtdknnaalfoongaaGreatDoor.D85, ty1, ty2, ty3, ty4, ty22, ty28, ty30, ty35, ty79]
    exact retB_plain (by simp [nmd_nils, nmd_int, nmd_ifc]) rfl (by simp)
/-! sums of what does not fit -/
theorem matAdd_bad (x y : AV) (rx cx ry cy : Int) (lx ly : List Int) (S : Heap) (hx : x = matA rx cx lx) (hy : y = matA ry cy ly) (lx36 : lx.length = 36) (ly36 : ly.length = 36) (h : ∀ S, Call theE 107 [x, y] S (errA 1) S) :
    Call theE 77 [x, y] S (.tup [zeroM, .bool false, errA 1]) S := by
  have tk1 := take36 lx36
  have tk2 := take36 ly36
  subst hx hy
  simp only [matA, errA] at h
  refine Call.ofC Tryz.func77 YtdknnaalfoongaaGreatDoor.b77 YtdknnaalfoongaaGreatDoor.d77 YtdknnaalfoongaaGreatDoor.e77 (by simp [Tryz.f77]) ?_
  dsimp only [YtdknnaalfoongaaGreatDoor.c77, Tryz.f77, Option.getD_some]
  simp (maxSteps := 2000000) only [wk0, wk1, wk2, wk3, wk4, wk5, wk6, Fr.ev, Fr.put, Fr.get, storeA, List.replicate, IntKind.bits, sevalprocAttr, matA, List.length_map, lx36, ly36, tk1, tk2, YtdknnaalfoongaaGreatDoor.D77, ty1, ty3, ty4, ty30, ty35, ty122]
  refine callThen_of (h _) ?_
  simp (maxSteps := 2000000) only [wk0, wk1, wk2, wk3, wk4, wk5, wk6, Fr.ev, Fr.put, Fr.get, storeA, List.replicate, IntKind.bits, sevalprocAttr, matA, List.length_map, lx36, ly36, tk1, tk2, YtdknnaalfoongaaGreatDoor.D77, ty1, ty3, ty4, ty30, ty35, ty122]
  exact retB_plain (by simp [nmd_agg, nmd_int, nmd_ifc, nmd_bool]) rfl (by simp)
end Go.Proofs.YtdknnaalfoongaaGreatDoor
