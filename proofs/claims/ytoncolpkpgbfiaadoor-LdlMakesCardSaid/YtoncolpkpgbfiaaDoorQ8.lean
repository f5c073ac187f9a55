/- qnum: the quotient, rounded. -/
import Derived.Test.YtoncolpkpgbfiaaDoorQ7
set_option linter.unusedSimpArgs false
set_option linter.unusedVariables false
set_option maxRecDepth 100000
set_option maxHeartbeats 4000000
namespace Go.Proofs.YtoncolpkpgbfiaaDoor
theorem div_bad (a b n : Int) (S : Heap) (h : ¬ (0 ≤ n ∧ n ≤ 62)) : Call theE 78 [.int .i64 a, .int .i64 b, .int .i64 n] S (.tup [.int .i64 0, .bool false, errA 1]) S := by
  refine Call.ofC Tryd.func78 YtoncolpkpgbfiaaDoor.b78 YtoncolpkpgbfiaaDoor.d78 YtoncolpkpgbfiaaDoor.e78 (by simp [Tryd.f78]) ?_
  dsimp only [YtoncolpkpgbfiaaDoor.c78, Tryd.f78, Option.getD_some]
  simp (maxSteps := 2000000) only [wk0, wk1, wk2, wk3, wk4, wk5, wk6, Fr.ev, Fr.put, Fr.get, storeA, List.replicate, IntKind.bits, sevalprocAttr, YtoncolpkpgbfiaaDoor.D78, ty2, ty3, ty4, ty30, ty75, ty151, ty166]
  refine callThen_of (pointed_ok n _) ?_
  simp (maxSteps := 2000000) only [wk0, wk1, wk2, wk3, wk4, wk5, wk6, Fr.ev, Fr.put, Fr.get, storeA, List.replicate, IntKind.bits, sevalprocAttr, h, YtoncolpkpgbfiaaDoor.D78, ty2, ty3, ty4, ty30, ty75, ty151, ty166]
  exact retB_plain (by simp [nmd_int, nmd_bool, nmd_ifc]) rfl (by simp)
theorem div_nought (a n : Int) (S : Heap) (h : 0 ≤ n ∧ n ≤ 62) : Call theE 78 [.int .i64 a, .int .i64 0, .int .i64 n] S (.tup [.int .i64 0, .bool false, errA 11]) S := by
  refine Call.ofC Tryd.func78 YtoncolpkpgbfiaaDoor.b78 YtoncolpkpgbfiaaDoor.d78 YtoncolpkpgbfiaaDoor.e78 (by simp [Tryd.f78]) ?_
  dsimp only [YtoncolpkpgbfiaaDoor.c78, Tryd.f78, Option.getD_some]
  simp (maxSteps := 2000000) only [wk0, wk1, wk2, wk3, wk4, wk5, wk6, Fr.ev, Fr.put, Fr.get, storeA, List.replicate, IntKind.bits, sevalprocAttr, YtoncolpkpgbfiaaDoor.D78, ty2, ty3, ty4, ty30, ty75, ty151, ty166]
  refine callThen_of (pointed_ok n _) ?_
  simp (maxSteps := 2000000) only [wk0, wk1, wk2, wk3, wk4, wk5, wk6, Fr.ev, Fr.put, Fr.get, storeA, List.replicate, IntKind.bits, sevalprocAttr, h, YtoncolpkpgbfiaaDoor.D78, ty2, ty3, ty4, ty30, ty75, ty151, ty166]
  exact retB_plain (by simp [nmd_int, nmd_bool, nmd_ifc]) rfl (by simp)
theorem div_ok (a b : Int) (n : Nat) (S : Heap) (ha : inI a) (hb : inI b) (hb0 : b ≠ 0) (hn : n ≤ 62) : ∃ v : Int, v = (if (a < 0) ↔ (b < 0) then rnd (a.natAbs * 2 ^ n) b.natAbs else -(rnd (a.natAbs * 2 ^ n) b.natAbs)) ∧
    Call theE 78 [.int .i64 a, .int .i64 b, .int .i64 n] S (.tup [.int .i64 (bndI v), .bool (ovrB v), .nili]) S := by
  have c1 : (0 : Int) ≤ n ∧ (n : Int) ≤ 62 := by omega
  have c2 : ¬ b = 0 := hb0
  unfold inI at ha hb
  have hq := fun S => quotient_ok (a.natAbs : Int) (b.natAbs : Int) n S (by omega) (by omega) hn
  have hp := pow62 n hn
  have hN0 : 0 ≤ (a.natAbs : Int) * 2 ^ n := Int.mul_nonneg (by omega) (by omega)
  generalize (a.natAbs : Int) * 2 ^ n = N at *
  obtain ⟨B, hB⟩ : ∃ B, (b.natAbs : Int) = B := ⟨_, rfl⟩
  have hB0 : 0 < B := by omega
  rw [hB] at hq
  rw [hB]
  refine ⟨_, rfl, ?_⟩
  have hR0 := Int.emod_nonneg N (show B ≠ 0 by omega)
  have hR1 := Int.emod_lt_of_pos N hB0
  have hQ0 : 0 ≤ N / B := Int.ediv_nonneg hN0 (by omega)
  obtain ⟨E, hE⟩ : ∃ E, restI N B = E := ⟨_, rfl⟩
  have hrnd : rnd N B = N / B + (if 0 < E ∨ E = 0 ∧ N / B % 2 = 1 then 1 else 0) := by
    rw [← hE]; unfold rnd restI
    split <;> split <;> split <;> omega
  rw [hE] at hq
  obtain ⟨v, hv⟩ : ∃ v, rnd N B = v := ⟨_, rfl⟩
  rw [hv] at hrnd ⊢
  obtain ⟨Q, hQ⟩ : ∃ Q, N / B = Q := ⟨_, rfl⟩
  rw [hQ] at hrnd hQ0
  simp only [hQ] at hq
  obtain ⟨m, hm⟩ : ∃ m, Q % 18446744073709551616 = m := ⟨_, rfl⟩
  rw [hm] at hq
  have hm0 : 0 ≤ m ∧ m < 18446744073709551616 := by omega
  have am := and1 hm0
  have e0 : ∀ w : Int, 0 ≤ w → w < 18446744073709551616 → ∀ S, Call theE 108 [.agg [.int .u64 w, .int .u64 0, .int .u64 0]] S (enc3 (-w)) S := fun w h1 h2 S => by
    have e : AV.agg [.int .u64 w, .int .u64 0, .int .u64 0] = enc3 w := by
      unfold enc3 w0 w1 w2; rw [show w % 18446744073709551616 = w by omega, show w / 18446744073709551616 = 0 by omega]; rfl
    rw [e]; exact neg_ok w S
  have e1 : ∀ w : Int, 0 ≤ w → w < 18446744073709551616 → ∀ S, Call theE 108 [.agg [.int .u64 w, .int .u64 1, .int .u64 0]] S (enc3 (-(w + 18446744073709551616))) S := fun w h1 h2 S => by
    have e : AV.agg [.int .u64 w, .int .u64 1, .int .u64 0] = enc3 (w + 18446744073709551616) := by
      unfold enc3 w0 w1 w2; rw [show (w + 18446744073709551616) % 18446744073709551616 = w by omega, show (w + 18446744073709551616) / 18446744073709551616 = 1 by omega]; rfl
    rw [e]; exact neg_ok _ S
  have f0 : ∀ w : Int, 0 ≤ w → w < 18446744073709551616 → ∀ S, Call theE 102 [.agg [.int .u64 w, .int .u64 0, .int .u64 0]] S (.tup [.int .i64 (bndI w), .bool (ovrB w)]) S := fun w h1 h2 S => by
    have e : AV.agg [.int .u64 w, .int .u64 0, .int .u64 0] = enc3 w := by
      unfold enc3 w0 w1 w2; rw [show w % 18446744073709551616 = w by omega, show w / 18446744073709551616 = 0 by omega]; rfl
    rw [e]; exact bounded_ok w S (by omega)
  have f1 : ∀ w : Int, 0 ≤ w → w < 18446744073709551616 → ∀ S, Call theE 102 [.agg [.int .u64 w, .int .u64 1, .int .u64 0]] S (.tup [.int .i64 (bndI (w + 18446744073709551616)), .bool (ovrB (w + 18446744073709551616))]) S := fun w h1 h2 S => by
    have e : AV.agg [.int .u64 w, .int .u64 1, .int .u64 0] = enc3 (w + 18446744073709551616) := by
      unfold enc3 w0 w1 w2; rw [show (w + 18446744073709551616) % 18446744073709551616 = w by omega, show (w + 18446744073709551616) / 18446744073709551616 = 1 by omega]; rfl
    rw [e]; exact bounded_ok _ S (by omega)
  have f1z : ∀ S, Call theE 102 [.agg [.int .u64 0, .int .u64 1, .int .u64 0]] S (.tup [.int .i64 (bndI 18446744073709551616), .bool (ovrB 18446744073709551616)]) S := fun S => by
    have := f1 0 (by decide) (by decide) S
    simpa using this
  have e1z : ∀ S, Call theE 108 [.agg [.int .u64 0, .int .u64 1, .int .u64 0]] S (enc3 (-18446744073709551616)) S := fun S => by
    have := e1 0 (by decide) (by decide) S
    simpa using this
  have bb : ∀ x y : Int, (x = y ∨ (4611686018427387903 < x ∧ 4611686018427387903 < y) ∨ (x < -4611686018427387903 ∧ y < -4611686018427387903)) → bndI x = bndI y ∧ ovrB x = ovrB y := fun x y h => by
    unfold bndI ovrB
    refine ⟨by omega, ?_⟩
    rw [decide_eq_decide]; omega
  refine Call.ofC Tryd.func78 YtoncolpkpgbfiaaDoor.b78 YtoncolpkpgbfiaaDoor.d78 YtoncolpkpgbfiaaDoor.e78 (by simp [Tryd.f78]) ?_
  dsimp only [YtoncolpkpgbfiaaDoor.c78, Tryd.f78, Option.getD_some]
  simp (maxSteps := 2000000) only [wk0, wk1, wk2, wk3, wk4, wk5, wk6, Fr.ev, Fr.put, Fr.get, storeA, List.replicate, IntKind.bits, sevalprocAttr, YtoncolpkpgbfiaaDoor.D78, ty2, ty3, ty4, ty30, ty75, ty151, ty166]
  refine callThen_of (pointed_ok n _) ?_
  simp (maxSteps := 2000000) only [wk0, wk1, wk2, wk3, wk4, wk5, wk6, Fr.ev, Fr.put, Fr.get, storeA, List.replicate, IntKind.bits, sevalprocAttr, c1, c2, YtoncolpkpgbfiaaDoor.D78, ty2, ty3, ty4, ty30, ty75, ty151, ty166]
  refine callThen_of (size_ok a _ ha) ?_
  simp (maxSteps := 2000000) only [wk0, wk1, wk2, wk3, wk4, wk5, wk6, Fr.ev, Fr.put, Fr.get, storeA, List.replicate, IntKind.bits, sevalprocAttr, YtoncolpkpgbfiaaDoor.D78, ty2, ty3, ty4, ty30, ty75, ty151, ty166]
  refine callThen_of (size_ok b _ hb) ?_
  simp (maxSteps := 2000000) only [wk0, wk1, wk2, wk3, wk4, wk5, wk6, Fr.ev, Fr.put, Fr.get, storeA, List.replicate, IntKind.bits, sevalprocAttr, hB, YtoncolpkpgbfiaaDoor.D78, ty2, ty3, ty4, ty30, ty75, ty151, ty166]
  refine callThen_of (hq _) ?_
  by_cases k1 : 0 < E
  · have hv1 : v = Q + 1 := by rw [hrnd, if_pos (Or.inl k1)]
    by_cases k3 : m = 18446744073709551615
    · have k4 : IntKind.u64.wrap (m + 1) = 0 := by rw [k3]; rfl
      by_cases k6 : 18446744073709551616 ≤ Q
      · skip
        by_cases sa : a < 0 <;> by_cases sb : b < 0
        all_goals simp (maxSteps := 2000000) only [wk0, wk1, wk2, wk3, wk4, wk5, wk6, Fr.ev, Fr.put, Fr.get, storeA, List.replicate, IntKind.bits, sevalprocAttr, k1, k4, k6, sa, sb, YtoncolpkpgbfiaaDoor.D78, ty2, ty3, ty4, ty30, ty75, ty151, ty166]
        refine callThen_of (f1z _) ?_
        rotate_left
        refine callThen_of (e1z _) ?_
        rotate_left
        refine callThen_of (e1z _) ?_
        rotate_left
        refine callThen_of (f1z _) ?_
        rotate_left
        all_goals simp (maxSteps := 2000000) only [wk0, wk1, wk2, wk3, wk4, wk5, wk6, Fr.ev, Fr.put, Fr.get, storeA, List.replicate, IntKind.bits, sevalprocAttr, enc3, YtoncolpkpgbfiaaDoor.D78, ty2, ty3, ty4, ty30, ty75, ty151, ty166]
        · obtain ⟨h1, h2⟩ := bb (18446744073709551616) v (by omega)
          exact retB_plain (by simp [nmd_int, nmd_bool, nmd_nili]) (by simp [packA, h1, h2]) (by simp)
        refine callThen_of (bounded_ok (-(18446744073709551616)) _ (by omega)) ?_
        rotate_left
        refine callThen_of (bounded_ok (-(18446744073709551616)) _ (by omega)) ?_
        rotate_left
        · obtain ⟨h1, h2⟩ := bb (18446744073709551616) v (by omega)
          exact retB_plain (by simp [nmd_int, nmd_bool, nmd_nili]) (by simp [packA, h1, h2]) (by simp)
        all_goals simp (maxSteps := 2000000) only [wk0, wk1, wk2, wk3, wk4, wk5, wk6, Fr.ev, Fr.put, Fr.get, storeA, List.replicate, IntKind.bits, sevalprocAttr, YtoncolpkpgbfiaaDoor.D78, ty2, ty3, ty4, ty30, ty75, ty151, ty166]
        · obtain ⟨h1, h2⟩ := bb (-(18446744073709551616)) (-v) (by omega)
          exact retB_plain (by simp [nmd_int, nmd_bool, nmd_nili]) (by simp [packA, h1, h2]) (by simp)
        · obtain ⟨h1, h2⟩ := bb (-(18446744073709551616)) (-v) (by omega)
          exact retB_plain (by simp [nmd_int, nmd_bool, nmd_nili]) (by simp [packA, h1, h2]) (by simp)
      · skip
        by_cases sa : a < 0 <;> by_cases sb : b < 0
        all_goals simp (maxSteps := 2000000) only [wk0, wk1, wk2, wk3, wk4, wk5, wk6, Fr.ev, Fr.put, Fr.get, storeA, List.replicate, IntKind.bits, sevalprocAttr, k1, k4, k6, sa, sb, YtoncolpkpgbfiaaDoor.D78, ty2, ty3, ty4, ty30, ty75, ty151, ty166]
        refine callThen_of (f1z _) ?_
        rotate_left
        refine callThen_of (e1z _) ?_
        rotate_left
        refine callThen_of (e1z _) ?_
        rotate_left
        refine callThen_of (f1z _) ?_
        rotate_left
        all_goals simp (maxSteps := 2000000) only [wk0, wk1, wk2, wk3, wk4, wk5, wk6, Fr.ev, Fr.put, Fr.get, storeA, List.replicate, IntKind.bits, sevalprocAttr, enc3, YtoncolpkpgbfiaaDoor.D78, ty2, ty3, ty4, ty30, ty75, ty151, ty166]
        · obtain ⟨h1, h2⟩ := bb (18446744073709551616) v (by omega)
          exact retB_plain (by simp [nmd_int, nmd_bool, nmd_nili]) (by simp [packA, h1, h2]) (by simp)
        refine callThen_of (bounded_ok (-(18446744073709551616)) _ (by omega)) ?_
        rotate_left
        refine callThen_of (bounded_ok (-(18446744073709551616)) _ (by omega)) ?_
        rotate_left
        · obtain ⟨h1, h2⟩ := bb (18446744073709551616) v (by omega)
          exact retB_plain (by simp [nmd_int, nmd_bool, nmd_nili]) (by simp [packA, h1, h2]) (by simp)
        all_goals simp (maxSteps := 2000000) only [wk0, wk1, wk2, wk3, wk4, wk5, wk6, Fr.ev, Fr.put, Fr.get, storeA, List.replicate, IntKind.bits, sevalprocAttr, YtoncolpkpgbfiaaDoor.D78, ty2, ty3, ty4, ty30, ty75, ty151, ty166]
        · obtain ⟨h1, h2⟩ := bb (-(18446744073709551616)) (-v) (by omega)
          exact retB_plain (by simp [nmd_int, nmd_bool, nmd_nili]) (by simp [packA, h1, h2]) (by simp)
        · obtain ⟨h1, h2⟩ := bb (-(18446744073709551616)) (-v) (by omega)
          exact retB_plain (by simp [nmd_int, nmd_bool, nmd_nili]) (by simp [packA, h1, h2]) (by simp)
    · have k4 : IntKind.u64.wrap (m + 1) = m + 1 := wrapU (by omega)
      have k5 : ¬ m + 1 = 0 := by omega
      by_cases k6 : 18446744073709551616 ≤ Q
      · skip
        by_cases sa : a < 0 <;> by_cases sb : b < 0
        all_goals simp (maxSteps := 2000000) only [wk0, wk1, wk2, wk3, wk4, wk5, wk6, Fr.ev, Fr.put, Fr.get, storeA, List.replicate, IntKind.bits, sevalprocAttr, k1, k4, k5, k6, sa, sb, YtoncolpkpgbfiaaDoor.D78, ty2, ty3, ty4, ty30, ty75, ty151, ty166]
        refine callThen_of (f1 (m + 1) (by omega) (by omega) _) ?_
        rotate_left
        refine callThen_of (e1 (m + 1) (by omega) (by omega) _) ?_
        rotate_left
        refine callThen_of (e1 (m + 1) (by omega) (by omega) _) ?_
        rotate_left
        refine callThen_of (f1 (m + 1) (by omega) (by omega) _) ?_
        rotate_left
        all_goals simp (maxSteps := 2000000) only [wk0, wk1, wk2, wk3, wk4, wk5, wk6, Fr.ev, Fr.put, Fr.get, storeA, List.replicate, IntKind.bits, sevalprocAttr, enc3, YtoncolpkpgbfiaaDoor.D78, ty2, ty3, ty4, ty30, ty75, ty151, ty166]
        · obtain ⟨h1, h2⟩ := bb (m + 1 + 18446744073709551616) v (by omega)
          exact retB_plain (by simp [nmd_int, nmd_bool, nmd_nili]) (by simp [packA, h1, h2]) (by simp)
        refine callThen_of (bounded_ok (-(m + 1 + 18446744073709551616)) _ (by omega)) ?_
        rotate_left
        refine callThen_of (bounded_ok (-(m + 1 + 18446744073709551616)) _ (by omega)) ?_
        rotate_left
        · obtain ⟨h1, h2⟩ := bb (m + 1 + 18446744073709551616) v (by omega)
          exact retB_plain (by simp [nmd_int, nmd_bool, nmd_nili]) (by simp [packA, h1, h2]) (by simp)
        all_goals simp (maxSteps := 2000000) only [wk0, wk1, wk2, wk3, wk4, wk5, wk6, Fr.ev, Fr.put, Fr.get, storeA, List.replicate, IntKind.bits, sevalprocAttr, YtoncolpkpgbfiaaDoor.D78, ty2, ty3, ty4, ty30, ty75, ty151, ty166]
        · obtain ⟨h1, h2⟩ := bb (-(m + 1 + 18446744073709551616)) (-v) (by omega)
          exact retB_plain (by simp [nmd_int, nmd_bool, nmd_nili]) (by simp [packA, h1, h2]) (by simp)
        · obtain ⟨h1, h2⟩ := bb (-(m + 1 + 18446744073709551616)) (-v) (by omega)
          exact retB_plain (by simp [nmd_int, nmd_bool, nmd_nili]) (by simp [packA, h1, h2]) (by simp)
      · skip
        by_cases sa : a < 0 <;> by_cases sb : b < 0
        all_goals simp (maxSteps := 2000000) only [wk0, wk1, wk2, wk3, wk4, wk5, wk6, Fr.ev, Fr.put, Fr.get, storeA, List.replicate, IntKind.bits, sevalprocAttr, k1, k4, k5, k6, sa, sb, YtoncolpkpgbfiaaDoor.D78, ty2, ty3, ty4, ty30, ty75, ty151, ty166]
        refine callThen_of (f0 (m + 1) (by omega) (by omega) _) ?_
        rotate_left
        refine callThen_of (e0 (m + 1) (by omega) (by omega) _) ?_
        rotate_left
        refine callThen_of (e0 (m + 1) (by omega) (by omega) _) ?_
        rotate_left
        refine callThen_of (f0 (m + 1) (by omega) (by omega) _) ?_
        rotate_left
        all_goals simp (maxSteps := 2000000) only [wk0, wk1, wk2, wk3, wk4, wk5, wk6, Fr.ev, Fr.put, Fr.get, storeA, List.replicate, IntKind.bits, sevalprocAttr, enc3, YtoncolpkpgbfiaaDoor.D78, ty2, ty3, ty4, ty30, ty75, ty151, ty166]
        · obtain ⟨h1, h2⟩ := bb (m + 1) v (by omega)
          exact retB_plain (by simp [nmd_int, nmd_bool, nmd_nili]) (by simp [packA, h1, h2]) (by simp)
        refine callThen_of (bounded_ok (-(m + 1)) _ (by omega)) ?_
        rotate_left
        refine callThen_of (bounded_ok (-(m + 1)) _ (by omega)) ?_
        rotate_left
        · obtain ⟨h1, h2⟩ := bb (m + 1) v (by omega)
          exact retB_plain (by simp [nmd_int, nmd_bool, nmd_nili]) (by simp [packA, h1, h2]) (by simp)
        all_goals simp (maxSteps := 2000000) only [wk0, wk1, wk2, wk3, wk4, wk5, wk6, Fr.ev, Fr.put, Fr.get, storeA, List.replicate, IntKind.bits, sevalprocAttr, YtoncolpkpgbfiaaDoor.D78, ty2, ty3, ty4, ty30, ty75, ty151, ty166]
        · obtain ⟨h1, h2⟩ := bb (-(m + 1)) (-v) (by omega)
          exact retB_plain (by simp [nmd_int, nmd_bool, nmd_nili]) (by simp [packA, h1, h2]) (by simp)
        · obtain ⟨h1, h2⟩ := bb (-(m + 1)) (-v) (by omega)
          exact retB_plain (by simp [nmd_int, nmd_bool, nmd_nili]) (by simp [packA, h1, h2]) (by simp)
  · by_cases k2 : E = 0
    · by_cases k0 : m % 2 = 1
      · have hv1 : v = Q + 1 := by rw [hrnd, if_pos (Or.inr ⟨k2, by omega⟩)]
        by_cases k3 : m = 18446744073709551615
        · have k4 : IntKind.u64.wrap (m + 1) = 0 := by rw [k3]; rfl
          by_cases k6 : 18446744073709551616 ≤ Q
          · skip
            by_cases sa : a < 0 <;> by_cases sb : b < 0
            all_goals simp (maxSteps := 2000000) only [wk0, wk1, wk2, wk3, wk4, wk5, wk6, Fr.ev, Fr.put, Fr.get, storeA, List.replicate, IntKind.bits, sevalprocAttr, k1, k2, am, k0, Int.lt_irrefl, k4, k6, sa, sb, YtoncolpkpgbfiaaDoor.D78, ty2, ty3, ty4, ty30, ty75, ty151, ty166]
            refine callThen_of (f1z _) ?_
            rotate_left
            refine callThen_of (e1z _) ?_
            rotate_left
            refine callThen_of (e1z _) ?_
            rotate_left
            refine callThen_of (f1z _) ?_
            rotate_left
            all_goals simp (maxSteps := 2000000) only [wk0, wk1, wk2, wk3, wk4, wk5, wk6, Fr.ev, Fr.put, Fr.get, storeA, List.replicate, IntKind.bits, sevalprocAttr, enc3, YtoncolpkpgbfiaaDoor.D78, ty2, ty3, ty4, ty30, ty75, ty151, ty166]
            · obtain ⟨h1, h2⟩ := bb (18446744073709551616) v (by omega)
              exact retB_plain (by simp [nmd_int, nmd_bool, nmd_nili]) (by simp [packA, h1, h2]) (by simp)
            refine callThen_of (bounded_ok (-(18446744073709551616)) _ (by omega)) ?_
            rotate_left
            refine callThen_of (bounded_ok (-(18446744073709551616)) _ (by omega)) ?_
            rotate_left
            · obtain ⟨h1, h2⟩ := bb (18446744073709551616) v (by omega)
              exact retB_plain (by simp [nmd_int, nmd_bool, nmd_nili]) (by simp [packA, h1, h2]) (by simp)
            all_goals simp (maxSteps := 2000000) only [wk0, wk1, wk2, wk3, wk4, wk5, wk6, Fr.ev, Fr.put, Fr.get, storeA, List.replicate, IntKind.bits, sevalprocAttr, YtoncolpkpgbfiaaDoor.D78, ty2, ty3, ty4, ty30, ty75, ty151, ty166]
            · obtain ⟨h1, h2⟩ := bb (-(18446744073709551616)) (-v) (by omega)
              exact retB_plain (by simp [nmd_int, nmd_bool, nmd_nili]) (by simp [packA, h1, h2]) (by simp)
            · obtain ⟨h1, h2⟩ := bb (-(18446744073709551616)) (-v) (by omega)
              exact retB_plain (by simp [nmd_int, nmd_bool, nmd_nili]) (by simp [packA, h1, h2]) (by simp)
          · skip
            by_cases sa : a < 0 <;> by_cases sb : b < 0
            all_goals simp (maxSteps := 2000000) only [wk0, wk1, wk2, wk3, wk4, wk5, wk6, Fr.ev, Fr.put, Fr.get, storeA, List.replicate, IntKind.bits, sevalprocAttr, k1, k2, am, k0, Int.lt_irrefl, k4, k6, sa, sb, YtoncolpkpgbfiaaDoor.D78, ty2, ty3, ty4, ty30, ty75, ty151, ty166]
            refine callThen_of (f1z _) ?_
            rotate_left
            refine callThen_of (e1z _) ?_
            rotate_left
            refine callThen_of (e1z _) ?_
            rotate_left
            refine callThen_of (f1z _) ?_
            rotate_left
            all_goals simp (maxSteps := 2000000) only [wk0, wk1, wk2, wk3, wk4, wk5, wk6, Fr.ev, Fr.put, Fr.get, storeA, List.replicate, IntKind.bits, sevalprocAttr, enc3, YtoncolpkpgbfiaaDoor.D78, ty2, ty3, ty4, ty30, ty75, ty151, ty166]
            · obtain ⟨h1, h2⟩ := bb (18446744073709551616) v (by omega)
              exact retB_plain (by simp [nmd_int, nmd_bool, nmd_nili]) (by simp [packA, h1, h2]) (by simp)
            refine callThen_of (bounded_ok (-(18446744073709551616)) _ (by omega)) ?_
            rotate_left
            refine callThen_of (bounded_ok (-(18446744073709551616)) _ (by omega)) ?_
            rotate_left
            · obtain ⟨h1, h2⟩ := bb (18446744073709551616) v (by omega)
              exact retB_plain (by simp [nmd_int, nmd_bool, nmd_nili]) (by simp [packA, h1, h2]) (by simp)
            all_goals simp (maxSteps := 2000000) only [wk0, wk1, wk2, wk3, wk4, wk5, wk6, Fr.ev, Fr.put, Fr.get, storeA, List.replicate, IntKind.bits, sevalprocAttr, YtoncolpkpgbfiaaDoor.D78, ty2, ty3, ty4, ty30, ty75, ty151, ty166]
            · obtain ⟨h1, h2⟩ := bb (-(18446744073709551616)) (-v) (by omega)
              exact retB_plain (by simp [nmd_int, nmd_bool, nmd_nili]) (by simp [packA, h1, h2]) (by simp)
            · obtain ⟨h1, h2⟩ := bb (-(18446744073709551616)) (-v) (by omega)
              exact retB_plain (by simp [nmd_int, nmd_bool, nmd_nili]) (by simp [packA, h1, h2]) (by simp)
        · have k4 : IntKind.u64.wrap (m + 1) = m + 1 := wrapU (by omega)
          have k5 : ¬ m + 1 = 0 := by omega
          by_cases k6 : 18446744073709551616 ≤ Q
          · skip
            by_cases sa : a < 0 <;> by_cases sb : b < 0
            all_goals simp (maxSteps := 2000000) only [wk0, wk1, wk2, wk3, wk4, wk5, wk6, Fr.ev, Fr.put, Fr.get, storeA, List.replicate, IntKind.bits, sevalprocAttr, k1, k2, am, k0, Int.lt_irrefl, k4, k5, k6, sa, sb, YtoncolpkpgbfiaaDoor.D78, ty2, ty3, ty4, ty30, ty75, ty151, ty166]
            refine callThen_of (f1 (m + 1) (by omega) (by omega) _) ?_
            rotate_left
            refine callThen_of (e1 (m + 1) (by omega) (by omega) _) ?_
            rotate_left
            refine callThen_of (e1 (m + 1) (by omega) (by omega) _) ?_
            rotate_left
            refine callThen_of (f1 (m + 1) (by omega) (by omega) _) ?_
            rotate_left
            all_goals simp (maxSteps := 2000000) only [wk0, wk1, wk2, wk3, wk4, wk5, wk6, Fr.ev, Fr.put, Fr.get, storeA, List.replicate, IntKind.bits, sevalprocAttr, enc3, YtoncolpkpgbfiaaDoor.D78, ty2, ty3, ty4, ty30, ty75, ty151, ty166]
            · obtain ⟨h1, h2⟩ := bb (m + 1 + 18446744073709551616) v (by omega)
              exact retB_plain (by simp [nmd_int, nmd_bool, nmd_nili]) (by simp [packA, h1, h2]) (by simp)
            refine callThen_of (bounded_ok (-(m + 1 + 18446744073709551616)) _ (by omega)) ?_
            rotate_left
            refine callThen_of (bounded_ok (-(m + 1 + 18446744073709551616)) _ (by omega)) ?_
            rotate_left
            · obtain ⟨h1, h2⟩ := bb (m + 1 + 18446744073709551616) v (by omega)
              exact retB_plain (by simp [nmd_int, nmd_bool, nmd_nili]) (by simp [packA, h1, h2]) (by simp)
            all_goals simp (maxSteps := 2000000) only [wk0, wk1, wk2, wk3, wk4, wk5, wk6, Fr.ev, Fr.put, Fr.get, storeA, List.replicate, IntKind.bits, sevalprocAttr, YtoncolpkpgbfiaaDoor.D78, ty2, ty3, ty4, ty30, ty75, ty151, ty166]
            · obtain ⟨h1, h2⟩ := bb (-(m + 1 + 18446744073709551616)) (-v) (by omega)
              exact retB_plain (by simp [nmd_int, nmd_bool, nmd_nili]) (by simp [packA, h1, h2]) (by simp)
            · obtain ⟨h1, h2⟩ := bb (-(m + 1 + 18446744073709551616)) (-v) (by omega)
              exact retB_plain (by simp [nmd_int, nmd_bool, nmd_nili]) (by simp [packA, h1, h2]) (by simp)
          · skip
            by_cases sa : a < 0 <;> by_cases sb : b < 0
            all_goals simp (maxSteps := 2000000) only [wk0, wk1, wk2, wk3, wk4, wk5, wk6, Fr.ev, Fr.put, Fr.get, storeA, List.replicate, IntKind.bits, sevalprocAttr, k1, k2, am, k0, Int.lt_irrefl, k4, k5, k6, sa, sb, YtoncolpkpgbfiaaDoor.D78, ty2, ty3, ty4, ty30, ty75, ty151, ty166]
            refine callThen_of (f0 (m + 1) (by omega) (by omega) _) ?_
            rotate_left
            refine callThen_of (e0 (m + 1) (by omega) (by omega) _) ?_
            rotate_left
            refine callThen_of (e0 (m + 1) (by omega) (by omega) _) ?_
            rotate_left
            refine callThen_of (f0 (m + 1) (by omega) (by omega) _) ?_
            rotate_left
            all_goals simp (maxSteps := 2000000) only [wk0, wk1, wk2, wk3, wk4, wk5, wk6, Fr.ev, Fr.put, Fr.get, storeA, List.replicate, IntKind.bits, sevalprocAttr, enc3, YtoncolpkpgbfiaaDoor.D78, ty2, ty3, ty4, ty30, ty75, ty151, ty166]
            · obtain ⟨h1, h2⟩ := bb (m + 1) v (by omega)
              exact retB_plain (by simp [nmd_int, nmd_bool, nmd_nili]) (by simp [packA, h1, h2]) (by simp)
            refine callThen_of (bounded_ok (-(m + 1)) _ (by omega)) ?_
            rotate_left
            refine callThen_of (bounded_ok (-(m + 1)) _ (by omega)) ?_
            rotate_left
            · obtain ⟨h1, h2⟩ := bb (m + 1) v (by omega)
              exact retB_plain (by simp [nmd_int, nmd_bool, nmd_nili]) (by simp [packA, h1, h2]) (by simp)
            all_goals simp (maxSteps := 2000000) only [wk0, wk1, wk2, wk3, wk4, wk5, wk6, Fr.ev, Fr.put, Fr.get, storeA, List.replicate, IntKind.bits, sevalprocAttr, YtoncolpkpgbfiaaDoor.D78, ty2, ty3, ty4, ty30, ty75, ty151, ty166]
            · obtain ⟨h1, h2⟩ := bb (-(m + 1)) (-v) (by omega)
              exact retB_plain (by simp [nmd_int, nmd_bool, nmd_nili]) (by simp [packA, h1, h2]) (by simp)
            · obtain ⟨h1, h2⟩ := bb (-(m + 1)) (-v) (by omega)
              exact retB_plain (by simp [nmd_int, nmd_bool, nmd_nili]) (by simp [packA, h1, h2]) (by simp)
      · have hv1 : v = Q := by rw [hrnd, if_neg (by omega)]; omega
        by_cases k6 : 18446744073709551616 ≤ Q
        · skip
          by_cases sa : a < 0 <;> by_cases sb : b < 0
          all_goals simp (maxSteps := 2000000) only [wk0, wk1, wk2, wk3, wk4, wk5, wk6, Fr.ev, Fr.put, Fr.get, storeA, List.replicate, IntKind.bits, sevalprocAttr, k1, k2, am, k0, Int.lt_irrefl, k6, sa, sb, YtoncolpkpgbfiaaDoor.D78, ty2, ty3, ty4, ty30, ty75, ty151, ty166]
          refine callThen_of (f1 (m) (by omega) (by omega) _) ?_
          rotate_left
          refine callThen_of (e1 (m) (by omega) (by omega) _) ?_
          rotate_left
          refine callThen_of (e1 (m) (by omega) (by omega) _) ?_
          rotate_left
          refine callThen_of (f1 (m) (by omega) (by omega) _) ?_
          rotate_left
          all_goals simp (maxSteps := 2000000) only [wk0, wk1, wk2, wk3, wk4, wk5, wk6, Fr.ev, Fr.put, Fr.get, storeA, List.replicate, IntKind.bits, sevalprocAttr, enc3, YtoncolpkpgbfiaaDoor.D78, ty2, ty3, ty4, ty30, ty75, ty151, ty166]
          · obtain ⟨h1, h2⟩ := bb (m + 18446744073709551616) v (by omega)
            exact retB_plain (by simp [nmd_int, nmd_bool, nmd_nili]) (by simp [packA, h1, h2]) (by simp)
          refine callThen_of (bounded_ok (-(m + 18446744073709551616)) _ (by omega)) ?_
          rotate_left
          refine callThen_of (bounded_ok (-(m + 18446744073709551616)) _ (by omega)) ?_
          rotate_left
          · obtain ⟨h1, h2⟩ := bb (m + 18446744073709551616) v (by omega)
            exact retB_plain (by simp [nmd_int, nmd_bool, nmd_nili]) (by simp [packA, h1, h2]) (by simp)
          all_goals simp (maxSteps := 2000000) only [wk0, wk1, wk2, wk3, wk4, wk5, wk6, Fr.ev, Fr.put, Fr.get, storeA, List.replicate, IntKind.bits, sevalprocAttr, YtoncolpkpgbfiaaDoor.D78, ty2, ty3, ty4, ty30, ty75, ty151, ty166]
          · obtain ⟨h1, h2⟩ := bb (-(m + 18446744073709551616)) (-v) (by omega)
            exact retB_plain (by simp [nmd_int, nmd_bool, nmd_nili]) (by simp [packA, h1, h2]) (by simp)
          · obtain ⟨h1, h2⟩ := bb (-(m + 18446744073709551616)) (-v) (by omega)
            exact retB_plain (by simp [nmd_int, nmd_bool, nmd_nili]) (by simp [packA, h1, h2]) (by simp)
        · skip
          by_cases sa : a < 0 <;> by_cases sb : b < 0
          all_goals simp (maxSteps := 2000000) only [wk0, wk1, wk2, wk3, wk4, wk5, wk6, Fr.ev, Fr.put, Fr.get, storeA, List.replicate, IntKind.bits, sevalprocAttr, k1, k2, am, k0, Int.lt_irrefl, k6, sa, sb, YtoncolpkpgbfiaaDoor.D78, ty2, ty3, ty4, ty30, ty75, ty151, ty166]
          refine callThen_of (f0 (m) (by omega) (by omega) _) ?_
          rotate_left
          refine callThen_of (e0 (m) (by omega) (by omega) _) ?_
          rotate_left
          refine callThen_of (e0 (m) (by omega) (by omega) _) ?_
          rotate_left
          refine callThen_of (f0 (m) (by omega) (by omega) _) ?_
          rotate_left
          all_goals simp (maxSteps := 2000000) only [wk0, wk1, wk2, wk3, wk4, wk5, wk6, Fr.ev, Fr.put, Fr.get, storeA, List.replicate, IntKind.bits, sevalprocAttr, enc3, YtoncolpkpgbfiaaDoor.D78, ty2, ty3, ty4, ty30, ty75, ty151, ty166]
          · obtain ⟨h1, h2⟩ := bb (m) v (by omega)
            exact retB_plain (by simp [nmd_int, nmd_bool, nmd_nili]) (by simp [packA, h1, h2]) (by simp)
          refine callThen_of (bounded_ok (-(m)) _ (by omega)) ?_
          rotate_left
          refine callThen_of (bounded_ok (-(m)) _ (by omega)) ?_
          rotate_left
          · obtain ⟨h1, h2⟩ := bb (m) v (by omega)
            exact retB_plain (by simp [nmd_int, nmd_bool, nmd_nili]) (by simp [packA, h1, h2]) (by simp)
          all_goals simp (maxSteps := 2000000) only [wk0, wk1, wk2, wk3, wk4, wk5, wk6, Fr.ev, Fr.put, Fr.get, storeA, List.replicate, IntKind.bits, sevalprocAttr, YtoncolpkpgbfiaaDoor.D78, ty2, ty3, ty4, ty30, ty75, ty151, ty166]
          · obtain ⟨h1, h2⟩ := bb (-(m)) (-v) (by omega)
            exact retB_plain (by simp [nmd_int, nmd_bool, nmd_nili]) (by simp [packA, h1, h2]) (by simp)
          · obtain ⟨h1, h2⟩ := bb (-(m)) (-v) (by omega)
            exact retB_plain (by simp [nmd_int, nmd_bool, nmd_nili]) (by simp [packA, h1, h2]) (by simp)
    · have hv1 : v = Q := by rw [hrnd, if_neg (by omega)]; omega
      by_cases k6 : 18446744073709551616 ≤ Q
      · skip
        by_cases sa : a < 0 <;> by_cases sb : b < 0
        all_goals simp (maxSteps := 2000000) only [wk0, wk1, wk2, wk3, wk4, wk5, wk6, Fr.ev, Fr.put, Fr.get, storeA, List.replicate, IntKind.bits, sevalprocAttr, k1, k2, k6, sa, sb, YtoncolpkpgbfiaaDoor.D78, ty2, ty3, ty4, ty30, ty75, ty151, ty166]
        refine callThen_of (f1 (m) (by omega) (by omega) _) ?_
        rotate_left
        refine callThen_of (e1 (m) (by omega) (by omega) _) ?_
        rotate_left
        refine callThen_of (e1 (m) (by omega) (by omega) _) ?_
        rotate_left
        refine callThen_of (f1 (m) (by omega) (by omega) _) ?_
        rotate_left
        all_goals simp (maxSteps := 2000000) only [wk0, wk1, wk2, wk3, wk4, wk5, wk6, Fr.ev, Fr.put, Fr.get, storeA, List.replicate, IntKind.bits, sevalprocAttr, enc3, YtoncolpkpgbfiaaDoor.D78, ty2, ty3, ty4, ty30, ty75, ty151, ty166]
        · obtain ⟨h1, h2⟩ := bb (m + 18446744073709551616) v (by omega)
          exact retB_plain (by simp [nmd_int, nmd_bool, nmd_nili]) (by simp [packA, h1, h2]) (by simp)
        refine callThen_of (bounded_ok (-(m + 18446744073709551616)) _ (by omega)) ?_
        rotate_left
        refine callThen_of (bounded_ok (-(m + 18446744073709551616)) _ (by omega)) ?_
        rotate_left
        · obtain ⟨h1, h2⟩ := bb (m + 18446744073709551616) v (by omega)
          exact retB_plain (by simp [nmd_int, nmd_bool, nmd_nili]) (by simp [packA, h1, h2]) (by simp)
        all_goals simp (maxSteps := 2000000) only [wk0, wk1, wk2, wk3, wk4, wk5, wk6, Fr.ev, Fr.put, Fr.get, storeA, List.replicate, IntKind.bits, sevalprocAttr, YtoncolpkpgbfiaaDoor.D78, ty2, ty3, ty4, ty30, ty75, ty151, ty166]
        · obtain ⟨h1, h2⟩ := bb (-(m + 18446744073709551616)) (-v) (by omega)
          exact retB_plain (by simp [nmd_int, nmd_bool, nmd_nili]) (by simp [packA, h1, h2]) (by simp)
        · obtain ⟨h1, h2⟩ := bb (-(m + 18446744073709551616)) (-v) (by omega)
          exact retB_plain (by simp [nmd_int, nmd_bool, nmd_nili]) (by simp [packA, h1, h2]) (by simp)
      · skip
        by_cases sa : a < 0 <;> by_cases sb : b < 0
        all_goals simp (maxSteps := 2000000) only [wk0, wk1, wk2, wk3, wk4, wk5, wk6, Fr.ev, Fr.put, Fr.get, storeA, List.replicate, IntKind.bits, sevalprocAttr, k1, k2, k6, sa, sb, YtoncolpkpgbfiaaDoor.D78, ty2, ty3, ty4, ty30, ty75, ty151, ty166]
        refine callThen_of (f0 (m) (by omega) (by omega) _) ?_
        rotate_left
        refine callThen_of (e0 (m) (by omega) (by omega) _) ?_
        rotate_left
        refine callThen_of (e0 (m) (by omega) (by omega) _) ?_
        rotate_left
        refine callThen_of (f0 (m) (by omega) (by omega) _) ?_
        rotate_left
        all_goals simp (maxSteps := 2000000) only [wk0, wk1, wk2, wk3, wk4, wk5, wk6, Fr.ev, Fr.put, Fr.get, storeA, List.replicate, IntKind.bits, sevalprocAttr, enc3, YtoncolpkpgbfiaaDoor.D78, ty2, ty3, ty4, ty30, ty75, ty151, ty166]
        · obtain ⟨h1, h2⟩ := bb (m) v (by omega)
          exact retB_plain (by simp [nmd_int, nmd_bool, nmd_nili]) (by simp [packA, h1, h2]) (by simp)
        refine callThen_of (bounded_ok (-(m)) _ (by omega)) ?_
        rotate_left
        refine callThen_of (bounded_ok (-(m)) _ (by omega)) ?_
        rotate_left
        · obtain ⟨h1, h2⟩ := bb (m) v (by omega)
          exact retB_plain (by simp [nmd_int, nmd_bool, nmd_nili]) (by simp [packA, h1, h2]) (by simp)
        all_goals simp (maxSteps := 2000000) only [wk0, wk1, wk2, wk3, wk4, wk5, wk6, Fr.ev, Fr.put, Fr.get, storeA, List.replicate, IntKind.bits, sevalprocAttr, YtoncolpkpgbfiaaDoor.D78, ty2, ty3, ty4, ty30, ty75, ty151, ty166]
        · obtain ⟨h1, h2⟩ := bb (-(m)) (-v) (by omega)
          exact retB_plain (by simp [nmd_int, nmd_bool, nmd_nili]) (by simp [packA, h1, h2]) (by simp)
        · obtain ⟨h1, h2⟩ := bb (-(m)) (-v) (by omega)
          exact retB_plain (by simp [nmd_int, nmd_bool, nmd_nili]) (by simp [packA, h1, h2]) (by simp)
end Go.Proofs.YtoncolpkpgbfiaaDoor
