/- mat: rows that are none, ones of no size; the statements' helpers of layer 8. -/
import Derived.Test.YtdknnaalfoongaaGreatDoorN3
set_option linter.unusedSimpArgs false
set_option linter.unusedVariables false
set_option maxRecDepth 100000
set_option maxHeartbeats 4000000
namespace Go.Proofs.YtdknnaalfoongaaGreatDoor
theorem eye_bad (n : Int) (S : Heap) (h : ¬ (1 ≤ n ∧ n ≤ 6)) : Call theE 35 [.int .i64 n] S (.tup [zeroM, errA 1]) S := by
  have s1 := fun S => sizedM_ok n S
  rw [decide_eq_false h] at s1
  refine Call.ofC Tryz.func35 YtdknnaalfoongaaGreatDoor.b35 YtdknnaalfoongaaGreatDoor.d35 YtdknnaalfoongaaGreatDoor.e35 (by simp [Tryz.f35]) ?_
  dsimp only [YtdknnaalfoongaaGreatDoor.c35, Tryz.f35, Option.getD_some]
  simp (maxSteps := 2000000) only [wk0, wk1, wk2, wk3, wk4, wk5, wk6, Fr.ev, Fr.put, Fr.get, storeA, List.replicate, IntKind.bits, sevalprocAttr, YtdknnaalfoongaaGreatDoor.D35, ty2, ty3, ty4, ty28, ty30, ty35, ty79]
  refine callThen_of (s1 _) ?_
  simp (maxSteps := 2000000) only [wk0, wk1, wk2, wk3, wk4, wk5, wk6, Fr.ev, Fr.put, Fr.get, storeA, List.replicate, IntKind.bits, sevalprocAttr, YtdknnaalfoongaaGreatDoor.D35, ty2, ty3, ty4, ty28, ty30, ty35, ty79]
  exact retB_plain (by simp [nmd_agg, nmd_int, nmd_ifc]) rfl (by simp)
theorem of_mat_bad (l : List (List Int)) (S : Heap) (h : ¬ MayR l) : Call theE 41 [lstL l] S (.tup [zeroM, errA 1]) S := by
  unfold MayR at h
  have s1 := fun S => sizedM_ok l.length S
  by_cases hl : 1 ≤ l.length ∧ l.length ≤ 6
  · rw [decide_eq_true (by omega)] at s1
    have h0 : 0 < l.length := by omega
    have e0 : l.getD 0 [] = l[0] := getD_lst h0
    rw [e0] at h
    obtain ⟨c, hr0⟩ : ∃ c, l[0].length = c := ⟨_, rfl⟩
    rw [hr0] at h
    have s2 := fun S => sizedM_ok c S
    have g0 := get_lstL h0
    have k0 : (0 : Int) < l.length := by omega
    by_cases hc : 1 ≤ c ∧ c ≤ 6
    · rw [decide_eq_true (by omega)] at s2
      have hne : ∃ k, ∃ hk : k < l.length, l[k].length ≠ c := Classical.byContradiction fun hn => h ⟨hl, hc, fun r hr => Classical.byContradiction fun h3 => by
        obtain ⟨k, hk, rfl⟩ := List.getElem_of_mem hr
        exact hn ⟨k, hk, h3⟩⟩
      have z36 : List.replicate 36 (AV.int .i64 0) = (gridP c (rowsF l) 0).map fun x => .int .i64 x := by rw [gridP_zero]; simp
      refine Call.ofC Tryz.func41 YtdknnaalfoongaaGreatDoor.b41 YtdknnaalfoongaaGreatDoor.d41 YtdknnaalfoongaaGreatDoor.e41 (by simp [Tryz.f41]) ?_
      dsimp only [YtdknnaalfoongaaGreatDoor.c41, Tryz.f41, Option.getD_some]
      simp (maxSteps := 2000000) only [wk0, wk1, wk2, wk3, wk4, wk5, wk6, Fr.ev, Fr.put, Fr.get, storeA, List.replicate, IntKind.bits, sevalprocAttr, lstL, lstI, k0, g0, hr0, YtdknnaalfoongaaGreatDoor.D41, ty1, ty2, ty3, ty4, ty22, ty23, ty28, ty30, ty35, ty79]
      refine callThen_of (s1 _) ?_
      simp (maxSteps := 2000000) only [wk0, wk1, wk2, wk3, wk4, wk5, wk6, Fr.ev, Fr.put, Fr.get, storeA, List.replicate, IntKind.bits, sevalprocAttr, lstL, lstI, k0, g0, hr0, YtdknnaalfoongaaGreatDoor.D41, ty1, ty2, ty3, ty4, ty22, ty23, ty28, ty30, ty35, ty79]
      refine callThen_of (s2 _) ?_
      simp (maxSteps := 2000000) only [wk0, wk1, wk2, wk3, wk4, wk5, wk6, Fr.ev, Fr.put, Fr.get, storeA, List.replicate, IntKind.bits, sevalprocAttr, lstL, lstI, k0, g0, hr0, YtdknnaalfoongaaGreatDoor.D41, ty1, ty2, ty3, ty4, ty22, ty23, ty28, ty30, ty35, ty79]
      refine loopC_ind (fun m fr H => ∃ i : Nat, i + m = l.length ∧ (∃ k, ∃ hk : k < l.length, i ≤ k ∧ l[k].length ≠ c) ∧ fr.get 30 = .int .i64 i ∧ fr.get 29 = .int .i64 l.length ∧ fr.get 28 = lstL l ∧ fr.get 4 = .ptr (S.length + 1) 0 0 ∧ fr.get 2 = .ptr S.length 0 0 ∧
        H = S ++ [some ⟨zero38, 0⟩, some ⟨.int .i64 l.length :: .int .i64 c :: (gridP c (rowsF l) (i * c)).map fun x => .int .i64 x, 0⟩]) ?_ (n := l.length) ⟨0, by omega, (by obtain ⟨k, hk, h3⟩ := hne; exact ⟨k, hk, by omega, h3⟩), rfl, rfl, rfl, rfl, rfl, by rw [Nat.zero_mul, gridP_zero]; rfl⟩
      rintro m fr H ⟨i, him, ⟨k, hk, hik, hk3⟩, g30, g29, g28, g4, g2, rfl⟩ ih
      have hin : i < l.length := by omega
      have hi : (i : Int) < l.length := by omega
      have k1 : (0 : Int) ≤ i := by omega
      have wi : IntKind.i64.wrap ((i : Int) + 1) = ((i + 1 : Nat) : Int) := wrapI (by omega)
      have gl := get_lstL hin
      by_cases hri : l[i].length = c
      · have hic : (i + 1) * c ≤ 36 := by have := Nat.mul_le_mul (show i + 1 ≤ 6 by omega) hc.2; omega
        have hic' : i * c + c ≤ 36 := by rw [Nat.add_mul, Nat.one_mul] at hic; exact hic
        have w1 : IntKind.i64.wrap ((i : Int) * c) = ((i * c : Nat) : Int) := by rw [wrapI (by rw [← Int.natCast_mul]; omega)]; simp
        have q1 : (0 : Int) ≤ ((i * c : Nat) : Int) := by omega
        have q2 : ((i * c : Nat) : Int) ≤ 36 := by omega
        have q3 : ¬ ((i * c : Nat) : Int) = 36 := by omega
        have q4 : c ≤ 36 - i * c := by omega
        have q5 : 2 + i * c + c ≤ 38 := by omega
        have cr := copy_row (l.length : Int) (c : Int) (rowsF l) l.length c i hic
        rw [rowF_rows hin hri, List.append_assoc] at cr
        have tk : List.take c (l[i].map fun x => AV.int .i64 x) = l[i].map fun x => AV.int .i64 x := List.take_of_length_le (by simp [hri])
        have al : (List.map (fun x => AV.int .i64 x) l[i]).all AV.one = true := by simp [AV.one]
        simp (maxSteps := 2000000) only [wk0, wk1, wk2, wk3, wk4, wk5, wk6, Fr.ev, Fr.put, Fr.get, storeA, List.replicate, IntKind.bits, sevalprocAttr, lstI, lstL, g30, g29, g28, g4, g2, hi, k1, Int.toNat_natCast, Nat.mul_one, gl, hri, w1, bd_none, bd_some, bv_int, sa_arr, q1, q2, q3, q4, q5, Int.le_refl, List.length_map, gridP_len, mayCopy_own, cp_sl, tk, al, cr, Nat.le_refl, wi, YtdknnaalfoongaaGreatDoor.D41, ty1, ty2, ty3, ty4, ty22, ty23, ty28, ty30, ty35, ty79]
        refine ih (m - 1) _ _ (by omega) ⟨i + 1, by omega, ⟨k, hk, ?_, hk3⟩, by simp [Fr.get], by simp [Fr.get, g29], by simp [Fr.get, g28, lstL], by simp [Fr.get, g4], by simp [Fr.get, g2], rfl⟩
        rcases Nat.lt_or_ge i k with h1 | h1
        · omega
        · obtain rfl : k = i := by omega
          exact absurd hri hk3
      · have hri' : ((l[i].length : Int) = c) = False := eq_false (by omega)
        have zl : zero38.length = 38 := by simp [zero38]
        have zd : List.drop 38 zero38 = [] := List.drop_eq_nil_of_le (by omega)
        simp (maxSteps := 2000000) only [wk0, wk1, wk2, wk3, wk4, wk5, wk6, Fr.ev, Fr.put, Fr.get, storeA, List.replicate, IntKind.bits, sevalprocAttr, lstI, lstL, g30, g29, g28, g4, g2, hi, k1, Int.toNat_natCast, Nat.mul_one, gl, hri', zl, zd, YtdknnaalfoongaaGreatDoor.D41, ty1, ty2, ty3, ty4, ty22, ty23, ty28, ty30, ty35, ty79]
        exact retB_plain (by simp [nmd_agg, nmd_int, nmd_ifc]) rfl (by simp)
    · rw [decide_eq_false (by omega)] at s2
      refine Call.ofC Tryz.func41 YtdknnaalfoongaaGreatDoor.b41 YtdknnaalfoongaaGreatDoor.d41 YtdknnaalfoongaaGreatDoor.e41 (by simp [Tryz.f41]) ?_
      dsimp only [YtdknnaalfoongaaGreatDoor.c41, Tryz.f41, Option.getD_some]
      simp (maxSteps := 2000000) only [wk0, wk1, wk2, wk3, wk4, wk5, wk6, Fr.ev, Fr.put, Fr.get, storeA, List.replicate, IntKind.bits, sevalprocAttr, lstL, lstI, k0, g0, hr0, YtdknnaalfoongaaGreatDoor.D41, ty1, ty2, ty3, ty4, ty22, ty23, ty28, ty30, ty35, ty79]
      refine callThen_of (s1 _) ?_
      simp (maxSteps := 2000000) only [wk0, wk1, wk2, wk3, wk4, wk5, wk6, Fr.ev, Fr.put, Fr.get, storeA, List.replicate, IntKind.bits, sevalprocAttr, lstL, lstI, k0, g0, hr0, YtdknnaalfoongaaGreatDoor.D41, ty1, ty2, ty3, ty4, ty22, ty23, ty28, ty30, ty35, ty79]
      refine callThen_of (s2 _) ?_
      simp (maxSteps := 2000000) only [wk0, wk1, wk2, wk3, wk4, wk5, wk6, Fr.ev, Fr.put, Fr.get, storeA, List.replicate, IntKind.bits, sevalprocAttr, lstL, lstI, k0, g0, hr0, YtdknnaalfoongaaGreatDoor.D41, ty1, ty2, ty3, ty4, ty22, ty23, ty28, ty30, ty35, ty79]
      exact retB_plain (by simp [nmd_agg, nmd_int, nmd_ifc]) rfl (by simp)
  · rw [decide_eq_false (by omega)] at s1
    refine Call.ofC Tryz.func41 YtdknnaalfoongaaGreatDoor.b41 YtdknnaalfoongaaGreatDoor.d41 YtdknnaalfoongaaGreatDoor.e41 (by simp [Tryz.f41]) ?_
    dsimp only [YtdknnaalfoongaaGreatDoor.c41, Tryz.f41, Option.getD_some]
    simp (maxSteps := 2000000) only [wk0, wk1, wk2, wk3, wk4, wk5, wk6, Fr.ev, Fr.put, Fr.get, storeA, List.replicate, IntKind.bits, sevalprocAttr, lstL, lstI, YtdknnaalfoongaaGreatDoor.D41, ty1, ty2, ty3, ty4, ty22, ty23, ty28, ty30, ty35, ty79]
    refine callThen_of (s1 _) ?_
    simp (maxSteps := 2000000) only [wk0, wk1, wk2, wk3, wk4, wk5, wk6, Fr.ev, Fr.put, Fr.get, storeA, List.replicate, IntKind.bits, sevalprocAttr, lstL, lstI, YtdknnaalfoongaaGreatDoor.D41, ty1, ty2, ty3, ty4, ty22, ty23, ty28, ty30, ty35, ty79]
    exact retB_plain (by simp [nmd_agg, nmd_int, nmd_ifc]) rfl (by simp)

theorem eye_row (n i : Nat) (hi : i < n) : (List.replicate n (AV.int .i64 0)).set i (.int .i64 1048576) = (rowF (eyeP n) n i).map fun x => .int .i64 x := by
  apply List.ext_getElem
  · simp [rowF]
  · intro j h1 h2
    have hj : j < n := by simpa using h1
    simp only [List.getElem_set, List.getElem_replicate, rowF, List.getElem_map, List.getElem_range, eyeP]
    by_cases e : i = j
    · rw [if_pos e, if_pos ⟨e, hi⟩]
    · rw [if_neg e, if_neg fun h => e h.1]
theorem zeros_rep (n : Nat) : zeros [AV.int .i64 0] n = List.replicate n (.int .i64 0) := by
  unfold zeros
  induction n with
  | zero => rfl
  | succ n ih => rw [List.replicate_succ, List.flatten_cons, ih, List.replicate_succ]; rfl
theorem make_ints (P : Heap) (e n : Nat) (hn : n ≤ 1000000) : makeSliceA P (.slice e 1 8 [.int .i64 0]) (.int .i64 n) (.int .i64 n) = some (.sl P.length 0 0 n n 1, P ++ [some ⟨List.replicate n (.int .i64 0), 0⟩]) := by
  have h : makeSliceA P (.slice e 1 8 [.int .i64 0]) (.int .i64 n) (.int .i64 n) = if 0 ≤ (n : Int) ∧ (n : Int) ≤ n ∧ (n : Int).toNat * 8 ≤ maxBytes ∧ (n : Int) ≤ 9223372036854775807 ∧ [AV.int .i64 0].length = 1 then
    some (.sl P.length 0 0 (n : Int).toNat (n : Int).toNat 1, P ++ [some ⟨zeros [.int .i64 0] (n : Int).toNat, 0⟩]) else none := rfl
  have b3 : (n : Int).toNat = n := by omega
  rw [h, if_pos ⟨by omega, by omega, by rw [b3]; unfold maxBytes; omega, by omega, rfl⟩, b3, zeros_rep]
end Go.Proofs.YtdknnaalfoongaaGreatDoor
