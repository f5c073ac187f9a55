/- Numbers of 256 bits in eight parts: by two to a power, rounded and bounded. -/
import Derived.Test.YtdknnaalfoongaaGreatDoorP4
set_option linter.unusedSimpArgs false
set_option linter.unusedVariables false
set_option maxRecDepth 100000
set_option maxHeartbeats 4000000
namespace Go.Proofs.YtdknnaalfoongaaGreatDoor
theorem mixL_past (Q i : Nat) (h : Q < 4294967296 ^ i) (hi : i ≤ 8) : mixL Q 0 i = wB Q := by
  unfold mixL wB
  apply List.map_congr_left
  intro k hk
  by_cases h1 : k < i
  · rw [if_pos h1]
  · rw [if_neg h1, dB_zero_of_lt (n := Q) (Nat.lt_of_lt_of_le h (Nat.pow_le_pow_right (by decide) (by omega))), dB_zero_of_lt (Nat.pow_pos (by decide))]
theorem wB8 (n : Nat) : uL (wB n) = [.int .u64 ((dB n 0 : Nat) : Int), .int .u64 ((dB n 1 : Nat) : Int), .int .u64 ((dB n 2 : Nat) : Int), .int .u64 ((dB n 3 : Nat) : Int), .int .u64 ((dB n 4 : Nat) : Int), .int .u64 ((dB n 5 : Nat) : Int), .int .u64 ((dB n 6 : Nat) : Int), .int .u64 ((dB n 7 : Nat) : Int)] := rfl
theorem wB_one : uL (wB 1) = [.int .u64 1, .int .u64 0, .int .u64 0, .int .u64 0, .int .u64 0, .int .u64 0, .int .u64 0, .int .u64 0] := by rw [wB8]; simp [dB]
theorem wB_top : uL (wB 4611686018427387904) = [.int .u64 0, .int .u64 1073741824, .int .u64 0, .int .u64 0, .int .u64 0, .int .u64 0, .int .u64 0, .int .u64 0] := by rw [wB8]; simp [dB]
theorem bndS {R : Nat} {z : Int} {g : Bool} (h : z = if g = true then -(R : Int) else R) : (¬ R < 4611686018427387904 → bndI z = (if g = true then -4611686018427387903 else 4611686018427387903) ∧ ovrB z = true) ∧ (R < 4611686018427387904 → bndI z = z ∧ ovrB z = false) := by
  unfold bndI ovrB
  cases g
  · simp only [Bool.false_eq_true, if_false] at h ⊢
    subst h
    refine ⟨fun h1 => ⟨by omega, decide_eq_true (by omega)⟩, fun h1 => ⟨by omega, decide_eq_false (by omega)⟩⟩
  · simp only [if_true] at h ⊢
    subst h
    refine ⟨fun h1 => ⟨by omega, decide_eq_true (by omega)⟩, fun h1 => ⟨by omega, decide_eq_false (by omega)⟩⟩
noncomputable def c116 : Code := Tryz.f116.body.getD .skip
theorem b116 : Tryz.f116.body = some c116 := rfl
theorem d116 : fnOk Tryz.f116 c116 = true := by kernel_rfl
def D116 : Nat → List Tag
  | 8 => [.pure, .pure, .pure, .quiet, .pure, .pure, .pure, .pure, .pure, .pure, .quiet, .pure, .pure, .pure, .pure, .pure, .pure, .seq]
  | 15 => [.pure, .pure, .pure, .pure, .pure, .pure, .pure, .seq, .pure, .pure, .pure, .pure, .pure, .pure, .pure, .pure]
  | _ => []
theorem e116 : drawsOk D116 c116 = true := by kernel_rfl
theorem by_ok (x : Bool × Nat) (b : Nat) (S : Heap) (hb : b ≤ 62) (hx : x.2 < 4294967296 ^ 8) : Call theE 116 [longP x, .int .i64 b] S (.tup [.int .i64 (bndI (rnd (valL x) (2 ^ b))), .bool (ovrB (rnd (valL x) (2 ^ b)))]) S := by
  obtain ⟨g, N⟩ := x
  obtain ⟨w, hw⟩ : ∃ w, b / 32 = w := ⟨_, rfl⟩
  obtain ⟨s, hs⟩ : ∃ s, b % 32 = s := ⟨_, rfl⟩
  have e : b = 32 * w + s := by omega
  have hw1 : w ≤ 1 := by omega
  have t1 : Int.tdiv (b : Int) 32 = (w : Int) := by rw [Int.tdiv_eq_ediv_of_nonneg (by omega)]; omega
  have t2 : Int.tmod (b : Int) 32 = (s : Int) := by rw [Int.tmod_eq_emod_of_nonneg (by omega)]; omega
  have w1 : IntKind.i64.wrap (w : Int) = w := wrapI (by omega)
  have w2 : IntKind.i64.wrap (s : Int) = s := wrapI (by omega)
  obtain ⟨Q, hQ⟩ : ∃ Q, N / 2 ^ b = Q := ⟨_, rfl⟩
  have hN : N < 4294967296 ^ 8 := hx
  have hQN : Q ≤ N := by rw [← hQ]; exact Nat.div_le_self _ _
  have hQ1 : Q < 4294967296 ^ (8 - w) := by
    rcases Nat.le_one_iff_eq_zero_or_eq_one.1 hw1 with h | h
    · rw [h]; exact Nat.lt_of_le_of_lt hQN hN
    · rw [h, ← hQ, Nat.div_lt_iff_lt_mul (Nat.pow_pos (by decide)), e, h]
      refine Nat.lt_of_lt_of_le hN ?_
      rw [show (4294967296 : Nat) ^ 8 = 4294967296 ^ (8 - 1) * 2 ^ 32 from rfl]
      exact Nat.mul_le_mul_left _ (Nat.pow_le_pow_right (by decide) (by omega))
  have w0 : (uL (wB 0)) = [.int .u64 0, .int .u64 0, .int .u64 0, .int .u64 0, .int .u64 0, .int .u64 0, .int .u64 0, .int .u64 0] := by
    unfold uL wB
    rw [show List.range 8 = [0, 1, 2, 3, 4, 5, 6, 7] from rfl]
    simp [dB]
  refine Call.ofC Tryz.func116 YtdknnaalfoongaaGreatDoor.b116 YtdknnaalfoongaaGreatDoor.d116 YtdknnaalfoongaaGreatDoor.e116 (by simp [Tryz.f116]) ?_
  dsimp only [YtdknnaalfoongaaGreatDoor.c116, Tryz.f116, Option.getD_some]
  simp (maxSteps := 2000000) only [wk0, wk1, wk2, wk3, wk4, wk5, wk6, Fr.ev, Fr.put, Fr.get, storeA, List.replicate, IntKind.bits, sevalprocAttr, longP, longA, uL_len, wB_len, List.length_cons, t1, t2, w1, w2, YtdknnaalfoongaaGreatDoor.D116, ty1, ty2, ty3, ty4, ty142, ty170, ty172]
  refine loopC_split 0 (fun fr H => fr.get 2 = .ptr S.length 0 0 ∧ fr.get 6 = .ptr (S.length + 1) 0 0 ∧ fr.get 1 = .int .i64 b ∧ H = S ++ [some ⟨.bool g :: uL (wB N), 0⟩, some ⟨uL (wB Q), 0⟩]) (fun K2 hK2 => ?_) ?_
  · refine loopC_ind (fun m fr H => ∃ i : Nat, i + m = 8 - w ∧ fr.get 2 = .ptr S.length 0 0 ∧ fr.get 6 = .ptr (S.length + 1) 0 0 ∧ fr.get 1 = .int .i64 b ∧ fr.get 7 = .int .i64 w ∧ fr.get 8 = .int .i64 s ∧ fr.get 9 = .int .i64 (i : Int) ∧
      H = S ++ [some ⟨.bool g :: uL (wB N), 0⟩, some ⟨uL (mixL Q 0 i), 0⟩]) ?_ (n := 8 - w) ⟨0, by omega, rfl, rfl, rfl, rfl, rfl, rfl, by rw [mixL_zero, w0]⟩
    rintro m fr H ⟨i, him, g2, g6, g1, g7, g8, g9, rfl⟩ ih
    have lm : (uL (mixL Q 0 i)).length = 8 := by rw [uL_len, mixL_len]
    have lb : (uL (wB N)).length = 8 := by rw [uL_len, wB_len]
    have v1 : IntKind.i64.wrap ((i : Int) + (w : Int)) = ((i + w : Nat) : Int) := by rw [wrapI (by omega)]; omega
    have v2 : IntKind.i64.wrap (((i + w : Nat) : Int) + 1) = ((i + w + 1 : Nat) : Int) := by rw [wrapI (by omega)]; omega
    have v3 : IntKind.i64.wrap ((i : Int) + 1) = ((i + 1 : Nat) : Int) := wrapI (by omega)
    by_cases hi : ((i + w : Nat) : Int) < 8
    · have hi8 : i + w < 8 := by omega
      have p1 : (0 : Int) ≤ (i : Int) := by omega
      have p2 : (0 : Int) ≤ ((i + w : Nat) : Int) := by omega
      have p3 : 1 + (i + w) ≤ 8 := by omega
      have p4 : (i : Int) < 8 := by omega
      have p5 : i < 8 := by omega
      have p10 : i ≤ 7 := by omega
      have p6 : ¬ (s : Int) < 0 := by omega
      have p7 : ¬ ((32 - s : Nat) : Int) < 0 := by omega
      have p8 : (0 : Int) ≤ ((i + w + 1 : Nat) : Int) := by omega
      have v4 : IntKind.i64.wrap (32 - (s : Int)) = ((32 - s : Nat) : Int) := by rw [wrapI (by omega)]; omega
      have mn : min s 64 = s := by omega
      have mn2 : min (32 - s) 64 = 32 - s := by omega
      have ga := bu_get (b := .bool g) (wB_get N hi8)
      have gm := mixL_get Q 0 i p5 (Nat.le_refl _)
      have sB := shiftB N w s i (by omega)
      rw [← e, hQ] at sB
      have d1 := dB_lt N (i + w)
      have d2 := dB_lt N (i + w + 1)
      have st := mixL_set Q 0 i p5
      have dq := dB_lt Q i
      have sh : ((dB N (i + w) : Nat) : Int).fdiv (2 ^ s) = ((dB N (i + w) / 2 ^ s : Nat) : Int) := by rw [Int.fdiv_eq_ediv_of_nonneg _ (Int.pow_nonneg (by decide))]; simp
      by_cases hi2 : ((i + w + 1 : Nat) : Int) < 8
      · have gb := bu_get (b := .bool g) (wB_get N (show i + w + 1 < 8 by omega))
        have p9 : 1 + (i + w + 1) ≤ 8 := by omega
        have hm : dB N (i + w + 1) * 2 ^ (32 - s) < 18446744073709551616 := by
          have h1 : 2 ^ (32 - s) ≤ 2 ^ 32 := Nat.pow_le_pow_right (by decide) (by omega)
          have h2 := Nat.mul_le_mul (show dB N (i + w + 1) ≤ 4294967295 by omega) h1
          rw [show 4294967295 * 2 ^ 32 = 18446744069414584320 from rfl] at h2
          omega
        obtain ⟨x1, hx1⟩ : ∃ x, dB N (i + w) / 2 ^ s = x := ⟨_, rfl⟩
        obtain ⟨y1, hy1⟩ : ∃ x, dB N (i + w + 1) * 2 ^ (32 - s) = x := ⟨_, rfl⟩
        rw [hx1] at sh sB
        rw [hy1] at hm sB
        have sl : IntKind.u64.wrap (((dB N (i + w + 1) : Nat) : Int) * 2 ^ (32 - s)) = (y1 : Int) := by
          rw [show ((dB N (i + w + 1) : Nat) : Int) * 2 ^ (32 - s) = (y1 : Int) by rw [← hy1]; simp]
          exact wrapU (by omega)
        have md : Int.tmod (y1 : Int) 4294967296 = ((y1 % 4294967296 : Nat) : Int) := by rw [Int.tmod_eq_emod_of_nonneg (by omega)]; omega
        have w3 : IntKind.u64.wrap ((y1 % 4294967296 : Nat) : Int) = ((y1 % 4294967296 : Nat) : Int) := wrapU (by omega)
        have w4 : IntKind.u64.wrap ((x1 : Int) + ((y1 % 4294967296 : Nat) : Int)) = ((dB Q i : Nat) : Int) := by rw [wrapU (by omega)]; omega
        have gs : (uL ((mixL Q 0 i).set i (x1 : Int)))[i]? = some (.int .u64 (x1 : Int)) := by rw [← uL_set]; simp [lm, p5]
        have ls : (uL ((mixL Q 0 i).set i (x1 : Int))).length = 8 := by rw [uL_len, List.length_set, mixL_len]
        simp (maxSteps := 2000000) only [wk0, wk1, wk2, wk3, wk4, wk5, wk6, Fr.ev, Fr.put, Fr.get, storeA, List.replicate, IntKind.bits, sevalprocAttr, g2, g6, g1, g7, g8, g9, v1, v2, v3, v4, hi, hi2, p1, p2, p3, p4, p5, p6, p7, p8, p9, p10, mn, mn2, ga, gb, gm, gs, sh, sl, md, w3, w4, lm, lb, ls, uL_set, List.set_set, st, Int.toNat_natCast, Nat.mul_one, Nat.zero_add, List.length_cons, YtdknnaalfoongaaGreatDoor.D116, ty1, ty2, ty3, ty4, ty142, ty170, ty172]
        exact ih (m - 1) _ _ (by omega) ⟨i + 1, by omega, by simp [Fr.get, g2], by simp [Fr.get, g6], by simp [Fr.get, g1], by simp [Fr.get, g7], by simp [Fr.get, g8], by simp [Fr.get], rfl⟩
      · have z1 : dB N (i + w + 1) = 0 := by rw [show i + w + 1 = 8 by omega]; exact dB_zero_of_lt hN
        rw [z1, Nat.zero_mul, Nat.zero_mod, Nat.add_zero] at sB
        rw [← sB] at sh
        simp (maxSteps := 2000000) only [wk0, wk1, wk2, wk3, wk4, wk5, wk6, Fr.ev, Fr.put, Fr.get, storeA, List.replicate, IntKind.bits, sevalprocAttr, g2, g6, g1, g7, g8, g9, v1, v2, v3, v4, hi, hi2, p1, p2, p3, p4, p5, p6, p10, mn, ga, gm, sh, lm, lb, uL_set, st, Int.toNat_natCast, Nat.mul_one, Nat.zero_add, List.length_cons, YtdknnaalfoongaaGreatDoor.D116, ty1, ty2, ty3, ty4, ty142, ty170, ty172]
        exact ih (m - 1) _ _ (by omega) ⟨i + 1, by omega, by simp [Fr.get, g2], by simp [Fr.get, g6], by simp [Fr.get, g1], by simp [Fr.get, g7], by simp [Fr.get, g8], by simp [Fr.get], rfl⟩
    · obtain rfl : i = 8 - w := by omega
      rw [mixL_past Q (8 - w) hQ1 (by omega)]
      simp (maxSteps := 2000000) only [wk0, wk1, wk2, wk3, wk4, wk5, wk6, Fr.ev, Fr.put, Fr.get, storeA, List.replicate, IntKind.bits, sevalprocAttr, g2, g6, g1, g7, g8, g9, v1, hi, YtdknnaalfoongaaGreatDoor.D116, ty1, ty2, ty3, ty4, ty142, ty170, ty172]
      exact hK2 _ _ ⟨by simp [Fr.get, g2], by simp [Fr.get, g6], by simp [Fr.get, g1], rfl⟩
  · rintro fr H ⟨g2, g6, g1, rfl⟩
    have hval : rnd (valL (g, N)) (2 ^ b) = if g = true then -((rB N b : Nat) : Int) else ((rB N b : Nat) : Int) := by
      rw [rB_rnd]
      unfold valL
      cases g
      · rfl
      · exact rnd_neg _ _ (Int.pow_pos (by decide))
    by_cases hb0 : (0 : Int) < (b : Int)
    · have tkN : List.take 8 (uL (wB N)) = uL (wB N) := List.take_of_length_le (by rw [uL_len, wB_len]; omega)
      have v0 : IntKind.i64.wrap ((b : Int) - 1) = ((b - 1 : Nat) : Int) := by rw [wrapI (by omega)]; omega
      have bt := fun S => bit_ok N (b - 1) S (by omega)
      simp only [arrB] at bt
      simp (maxSteps := 2000000) only [wk0, wk1, wk2, wk3, wk4, wk5, wk6, Fr.ev, Fr.put, Fr.get, storeA, List.replicate, IntKind.bits, sevalprocAttr, g2, g6, g1, hb0, tkN, v0, uL_len, wB_len, List.length_cons, YtdknnaalfoongaaGreatDoor.D116, ty1, ty2, ty3, ty4, ty142, ty170, ty172]
      refine callThen_of (bt _) ?_
      by_cases hz1 : ((N / 2 ^ (b - 1) % 2 : Nat) : Int) = 1
      · obtain ⟨u, hu⟩ : ∃ u, (b - 1) / 32 = u := ⟨_, rfl⟩
        obtain ⟨r, hr⟩ : ∃ r, (b - 1) % 32 = r := ⟨_, rfl⟩
        have e2 : b - 1 = 32 * u + r := by omega
        have hu1 : u ≤ 1 := by omega
        have k1 : Int.tdiv ((b - 1 : Nat) : Int) 32 = (u : Int) := by rw [Int.tdiv_eq_ediv_of_nonneg (by omega)]; omega
        have k2 : Int.tmod ((b - 1 : Nat) : Int) 32 = (r : Int) := by rw [Int.tmod_eq_emod_of_nonneg (by omega)]; omega
        have k3 : IntKind.i64.wrap (u : Int) = u := wrapI (by omega)
        have k4 : IntKind.i64.wrap (r : Int) = r := wrapI (by omega)
        have rb := restB N u r (by omega) hu1
        rw [← e2] at rb
        have hQ2 : Q + 1 < 4294967296 ^ 8 := by
          have h1 : Q * 2 ≤ N := by
            rw [← hQ]
            have h2 : (2 : Nat) ^ 1 ≤ 2 ^ b := Nat.pow_le_pow_right (by decide) (by omega)
            have h3 := Nat.div_mul_le_self N (2 ^ b)
            have h4 := Nat.mul_le_mul_left (N / 2 ^ b) h2
            omega
          have h5 : (1 : Nat) < 4294967296 ^ 8 := by decide
          generalize (4294967296 : Nat) ^ 8 = T at *
          omega
        have jb : ∀ S, Call theE 114 [.agg (.bool false :: uL (wB Q)), .agg (.bool false :: uL (wB 1))] S (.agg (.bool false :: uL (wB (Q + 1)))) S := fun S => joinB_ok (false, Q) (false, 1) S (Nat.lt_of_le_of_lt hQN hN) (by decide) hQ2
        simp only [wB8 Q, wB_one, wB8 (Q + 1)] at jb
        have g0N : (.bool g :: uL (wB N))[1]? = some (AV.int .u64 ((dB N 0 : Nat) : Int)) := bu_get (b := .bool g) (wB_get N (show 0 < 8 by omega))
        simp (maxSteps := 2000000) only [wk0, wk1, wk2, wk3, wk4, wk5, wk6, Fr.ev, Fr.put, Fr.get, storeA, List.replicate, IntKind.bits, sevalprocAttr, hz1, g2, g6, g1, YtdknnaalfoongaaGreatDoor.D116, ty1, ty2, ty3, ty4, ty142, ty170, ty172]
        refine loopC_split 2 (fun fr H => fr.get 10 = .bool (decide (u = 1) && decide (0 < dB N 0)) ∧ fr.get 2 = .ptr S.length 0 0 ∧ fr.get 6 = .ptr (S.length + 1) 0 0 ∧ fr.get 1 = .int .i64 b ∧ H = S ++ [some ⟨.bool g :: uL (wB N), 0⟩, some ⟨uL (wB Q), 0⟩]) (fun K2 hK2 => ?_) ?_
        · rcases Nat.le_one_iff_eq_zero_or_eq_one.1 hu1 with h | h
          · rw [h] at k1 k3
            refine loopC_of ?_
            simp (maxSteps := 2000000) only [wk0, wk1, wk2, wk3, wk4, wk5, wk6, Fr.ev, Fr.put, Fr.get, storeA, List.replicate, IntKind.bits, sevalprocAttr, g2, g6, g1, v0, k1, k3, YtdknnaalfoongaaGreatDoor.D116, ty1, ty2, ty3, ty4, ty142, ty170, ty172]
            exact hK2 _ _ ⟨by simp [Fr.get, h], by simp [Fr.get, g2], by simp [Fr.get, g6], by simp [Fr.get, g1], rfl⟩
          · rw [h] at k1 k3
            refine loopC_of ?_
            simp (maxSteps := 2000000) only [wk0, wk1, wk2, wk3, wk4, wk5, wk6, Fr.ev, Fr.put, Fr.get, storeA, List.replicate, IntKind.bits, sevalprocAttr, g2, g6, g1, v0, k1, k3, g0N, YtdknnaalfoongaaGreatDoor.D116, ty1, ty2, ty3, ty4, ty142, ty170, ty172]
            refine loopC_of ?_
            simp (maxSteps := 2000000) only [wk0, wk1, wk2, wk3, wk4, wk5, wk6, Fr.ev, Fr.put, Fr.get, storeA, List.replicate, IntKind.bits, sevalprocAttr, g2, g6, g1, v0, k1, k3, YtdknnaalfoongaaGreatDoor.D116, ty1, ty2, ty3, ty4, ty142, ty170, ty172]
            exact hK2 _ _ ⟨by simp [Fr.get, h], by simp [Fr.get, g2], by simp [Fr.get, g6], by simp [Fr.get, g1], rfl⟩
        · clear g2 g6 g1
          rintro fr H ⟨g10, g2, g6, g1, rfl⟩
          by_cases hd : u = 1 ∧ 0 < dB N 0
          · rw [decide_eq_true hd.1, decide_eq_true hd.2] at g10
            have hrest : N % 2 ^ (b - 1) ≠ 0 := fun h => by have := (rb.1 h).1 hd.1; omega
            have hup : upB N b = true := by unfold upB; rw [decide_eq_true (show 0 < b by omega), decide_eq_true (show N / 2 ^ (b - 1) % 2 = 1 by omega), decide_eq_true hrest]; rfl
            simp (maxSteps := 2000000) only [wk0, wk1, wk2, wk3, wk4, wk5, wk6, Fr.ev, Fr.put, Fr.get, storeA, List.replicate, IntKind.bits, sevalprocAttr, g10, g2, g6, g1, wB8 Q, YtdknnaalfoongaaGreatDoor.D116, ty1, ty2, ty3, ty4, ty142, ty170, ty172]
            refine callThen_of (jb _) ?_
            have hz : rnd (valL (g, N)) (2 ^ b) = if g = true then -(((Q + 1) : Nat) : Int) else (((Q + 1) : Nat) : Int) := by rw [hval, show rB N b = (Q + 1) by unfold rB; rw [hup, hQ]; rfl]
            have hbs := bndS hz
            have hl := fun S => lowB_ok ((Q + 1)) 4611686018427387904 S hQ2 (by decide)
            simp only [arrB, wB8 ((Q + 1)), wB_top] at hl
            simp (maxSteps := 2000000) only [wk0, wk1, wk2, wk3, wk4, wk5, wk6, Fr.ev, Fr.put, Fr.get, storeA, List.replicate, IntKind.bits, sevalprocAttr, g1, g2, g6, wB8 ((Q + 1)), YtdknnaalfoongaaGreatDoor.D116, ty1, ty2, ty3, ty4, ty142, ty170, ty172]
            refine callThen_of (hl _) ?_
            by_cases hR : (Q + 1) < 4611686018427387904
            · have hb2 := hbs.2 hR
              rw [hb2.1, hb2.2, hz]
              have q0 : dB ((Q + 1)) 0 = (Q + 1) % 4294967296 := by unfold dB; simp
              have q1 : dB ((Q + 1)) 1 = (Q + 1) / 4294967296 := by unfold dB; rw [Nat.pow_one]; omega
              have m1 : IntKind.u64.wrap (((dB ((Q + 1)) 1 : Nat) : Int) * 4294967296) = ((dB ((Q + 1)) 1 : Nat) : Int) * 4294967296 := wrapU (by omega)
              have m2 : IntKind.u64.wrap (((dB ((Q + 1)) 0 : Nat) : Int) + ((dB ((Q + 1)) 1 : Nat) : Int) * 4294967296) = (((Q + 1) : Nat) : Int) := by rw [wrapU (by omega)]; omega
              have m3 : IntKind.i64.wrap (((Q + 1) : Nat) : Int) = (((Q + 1) : Nat) : Int) := wrapI (by omega)
              have m4 : IntKind.i64.wrap (0 - (((Q + 1) : Nat) : Int)) = -(((Q + 1) : Nat) : Int) := by rw [wrapI (by omega)]; omega
              cases g
              · simp (maxSteps := 2000000) only [wk0, wk1, wk2, wk3, wk4, wk5, wk6, Fr.ev, Fr.put, Fr.get, storeA, List.replicate, IntKind.bits, sevalprocAttr, g1, g2, g6, hR, decide_true, m1, m2, m3, m4, YtdknnaalfoongaaGreatDoor.D116, ty1, ty2, ty3, ty4, ty142, ty170, ty172]
                exact retB_plain (by simp [nmd_int, nmd_bool]) (by simp [packA]) (by simp)
              · simp (maxSteps := 2000000) only [wk0, wk1, wk2, wk3, wk4, wk5, wk6, Fr.ev, Fr.put, Fr.get, storeA, List.replicate, IntKind.bits, sevalprocAttr, g1, g2, g6, hR, decide_true, m1, m2, m3, m4, YtdknnaalfoongaaGreatDoor.D116, ty1, ty2, ty3, ty4, ty142, ty170, ty172]
                exact retB_plain (by simp [nmd_int, nmd_bool]) (by simp [packA]) (by simp)
            · have hb2 := hbs.1 hR
              rw [hb2.1, hb2.2]
              cases g
              · simp (maxSteps := 2000000) only [wk0, wk1, wk2, wk3, wk4, wk5, wk6, Fr.ev, Fr.put, Fr.get, storeA, List.replicate, IntKind.bits, sevalprocAttr, g1, g2, g6, hR, decide_false, YtdknnaalfoongaaGreatDoor.D116, ty1, ty2, ty3, ty4, ty142, ty170, ty172]
                exact retB_plain (by simp [nmd_int, nmd_bool]) (by simp [packA]) (by simp)
              · simp (maxSteps := 2000000) only [wk0, wk1, wk2, wk3, wk4, wk5, wk6, Fr.ev, Fr.put, Fr.get, storeA, List.replicate, IntKind.bits, sevalprocAttr, g1, g2, g6, hR, decide_false, YtdknnaalfoongaaGreatDoor.D116, ty1, ty2, ty3, ty4, ty142, ty170, ty172]
                exact retB_plain (by simp [nmd_int, nmd_bool]) (by simp [packA]) (by simp)
          · have g10' : fr.get 10 = .bool false := by
              rw [g10]
              by_cases h1 : u = 1
              · rw [decide_eq_false (show ¬ 0 < dB N 0 by omega), Bool.and_false]
              · rw [decide_eq_false h1, Bool.false_and]
            have guN : (.bool g :: uL (wB N))[1 + u]? = some (AV.int .u64 ((dB N u : Nat) : Int)) := bu_get (b := .bool g) (wB_get N (show u < 8 by omega))
            have p1 : (0 : Int) ≤ u := by omega
            have p2 : (u : Int) < 8 := by omega
            have p3 : ¬ (r : Int) < 0 := by omega
            have mn : min r 64 = r := by omega
            have hp : 0 < 2 ^ r := Nat.pow_pos (by decide)
            have hp2 : 2 ^ r ≤ 2 ^ 32 := Nat.pow_le_pow_right (by decide) (by omega)
            have ep : (2 : Int) ^ r = ((2 ^ r : Nat) : Int) := by simp
            have rb2 : N % 2 ^ (b - 1) = 0 ↔ dB N u % 2 ^ r = 0 := by
              rw [rb]
              constructor
              · exact fun h => h.2
              · exact fun h => ⟨fun h1 => by omega, h⟩
            obtain ⟨P, hP⟩ : ∃ P, 2 ^ r = P := ⟨_, rfl⟩
            rw [hP] at ep hp hp2 rb2
            have sl : IntKind.u64.wrap (1 * 2 ^ r) = (P : Int) := by rw [Int.one_mul, ep]; exact wrapU (by omega)
            have p4 : ¬ (P : Int) = 0 := by omega
            have md : Int.tmod ((dB N u : Nat) : Int) (P : Int) = ((dB N u % P : Nat) : Int) := by rw [Int.tmod_eq_emod_of_nonneg (by omega)]; simp
            have dm := Nat.mod_lt (dB N u) hp
            obtain ⟨D, hD⟩ : ∃ D, dB N u % P = D := ⟨_, rfl⟩
            rw [hD] at md dm rb2
            have w9 : IntKind.u64.wrap (D : Int) = D := wrapU (by omega)
            by_cases h0 : (0 : Int) < (D : Int)
            · have hrest : N % 2 ^ (b - 1) ≠ 0 := fun h => by have := rb2.1 h; omega
              have hup : upB N b = true := by unfold upB; rw [decide_eq_true (show 0 < b by omega), decide_eq_true (show N / 2 ^ (b - 1) % 2 = 1 by omega), decide_eq_true hrest]; rfl
              simp (maxSteps := 2000000) only [wk0, wk1, wk2, wk3, wk4, wk5, wk6, Fr.ev, Fr.put, Fr.get, storeA, List.replicate, IntKind.bits, sevalprocAttr, g10', v0, k1, k2, k3, k4, guN, p1, p2, p3, p4, mn, sl, md, w9, h0, Int.toNat_natCast, Nat.mul_one, uL_len, wB_len, List.length_cons, g2, g6, g1, wB8 Q, YtdknnaalfoongaaGreatDoor.D116, ty1, ty2, ty3, ty4, ty142, ty170, ty172]
              refine callThen_of (jb _) ?_
              have hz : rnd (valL (g, N)) (2 ^ b) = if g = true then -(((Q + 1) : Nat) : Int) else (((Q + 1) : Nat) : Int) := by rw [hval, show rB N b = (Q + 1) by unfold rB; rw [hup, hQ]; rfl]
              have hbs := bndS hz
              have hl := fun S => lowB_ok ((Q + 1)) 4611686018427387904 S hQ2 (by decide)
              simp only [arrB, wB8 ((Q + 1)), wB_top] at hl
              simp (maxSteps := 2000000) only [wk0, wk1, wk2, wk3, wk4, wk5, wk6, Fr.ev, Fr.put, Fr.get, storeA, List.replicate, IntKind.bits, sevalprocAttr, g1, g2, g6, wB8 ((Q + 1)), YtdknnaalfoongaaGreatDoor.D116, ty1, ty2, ty3, ty4, ty142, ty170, ty172]
              refine callThen_of (hl _) ?_
              by_cases hR : (Q + 1) < 4611686018427387904
              · have hb2 := hbs.2 hR
                rw [hb2.1, hb2.2, hz]
                have q0 : dB ((Q + 1)) 0 = (Q + 1) % 4294967296 := by unfold dB; simp
                have q1 : dB ((Q + 1)) 1 = (Q + 1) / 4294967296 := by unfold dB; rw [Nat.pow_one]; omega
                have m1 : IntKind.u64.wrap (((dB ((Q + 1)) 1 : Nat) : Int) * 4294967296) = ((dB ((Q + 1)) 1 : Nat) : Int) * 4294967296 := wrapU (by omega)
                have m2 : IntKind.u64.wrap (((dB ((Q + 1)) 0 : Nat) : Int) + ((dB ((Q + 1)) 1 : Nat) : Int) * 4294967296) = (((Q + 1) : Nat) : Int) := by rw [wrapU (by omega)]; omega
                have m3 : IntKind.i64.wrap (((Q + 1) : Nat) : Int) = (((Q + 1) : Nat) : Int) := wrapI (by omega)
                have m4 : IntKind.i64.wrap (0 - (((Q + 1) : Nat) : Int)) = -(((Q + 1) : Nat) : Int) := by rw [wrapI (by omega)]; omega
                cases g
                · simp (maxSteps := 2000000) only [wk0, wk1, wk2, wk3, wk4, wk5, wk6, Fr.ev, Fr.put, Fr.get, storeA, List.replicate, IntKind.bits, sevalprocAttr, g1, g2, g6, hR, decide_true, m1, m2, m3, m4, YtdknnaalfoongaaGreatDoor.D116, ty1, ty2, ty3, ty4, ty142, ty170, ty172]
                  exact retB_plain (by simp [nmd_int, nmd_bool]) (by simp [packA]) (by simp)
                · simp (maxSteps := 2000000) only [wk0, wk1, wk2, wk3, wk4, wk5, wk6, Fr.ev, Fr.put, Fr.get, storeA, List.replicate, IntKind.bits, sevalprocAttr, g1, g2, g6, hR, decide_true, m1, m2, m3, m4, YtdknnaalfoongaaGreatDoor.D116, ty1, ty2, ty3, ty4, ty142, ty170, ty172]
                  exact retB_plain (by simp [nmd_int, nmd_bool]) (by simp [packA]) (by simp)
              · have hb2 := hbs.1 hR
                rw [hb2.1, hb2.2]
                cases g
                · simp (maxSteps := 2000000) only [wk0, wk1, wk2, wk3, wk4, wk5, wk6, Fr.ev, Fr.put, Fr.get, storeA, List.replicate, IntKind.bits, sevalprocAttr, g1, g2, g6, hR, decide_false, YtdknnaalfoongaaGreatDoor.D116, ty1, ty2, ty3, ty4, ty142, ty170, ty172]
                  exact retB_plain (by simp [nmd_int, nmd_bool]) (by simp [packA]) (by simp)
                · simp (maxSteps := 2000000) only [wk0, wk1, wk2, wk3, wk4, wk5, wk6, Fr.ev, Fr.put, Fr.get, storeA, List.replicate, IntKind.bits, sevalprocAttr, g1, g2, g6, hR, decide_false, YtdknnaalfoongaaGreatDoor.D116, ty1, ty2, ty3, ty4, ty142, ty170, ty172]
                  exact retB_plain (by simp [nmd_int, nmd_bool]) (by simp [packA]) (by simp)
            · have hrest : N % 2 ^ (b - 1) = 0 := rb2.2 (by omega)
              have q0 : dB Q 0 % 2 = Q % 2 := by unfold dB; rw [Nat.pow_zero, Nat.div_one]; omega
              have dq := dB_lt Q 0
              have m0 : Int.tmod ((dB Q 0 : Nat) : Int) 2 = ((Q % 2 : Nat) : Int) := by rw [Int.tmod_eq_emod_of_nonneg (by omega)]; omega
              have w10 : IntKind.u64.wrap ((Q % 2 : Nat) : Int) = ((Q % 2 : Nat) : Int) := wrapU (by omega)
              by_cases hodd : ((Q % 2 : Nat) : Int) = 1
              · have hup : upB N b = true := by unfold upB; rw [decide_eq_true (show 0 < b by omega), decide_eq_true (show N / 2 ^ (b - 1) % 2 = 1 by omega), decide_eq_false (show ¬ N % 2 ^ (b - 1) ≠ 0 from fun h => h hrest), hQ, decide_eq_true (show Q % 2 = 1 by omega)]; rfl
                simp (maxSteps := 2000000) only [wk0, wk1, wk2, wk3, wk4, wk5, wk6, Fr.ev, Fr.put, Fr.get, storeA, List.replicate, IntKind.bits, sevalprocAttr, g10', v0, k1, k2, k3, k4, guN, p1, p2, p3, p4, mn, sl, md, w9, h0, m0, w10, hodd, Int.toNat_natCast, Nat.mul_one, g2, g6, g1, wB8 Q, YtdknnaalfoongaaGreatDoor.D116, ty1, ty2, ty3, ty4, ty142, ty170, ty172]
                refine callThen_of (jb _) ?_
                have hz : rnd (valL (g, N)) (2 ^ b) = if g = true then -(((Q + 1) : Nat) : Int) else (((Q + 1) : Nat) : Int) := by rw [hval, show rB N b = (Q + 1) by unfold rB; rw [hup, hQ]; rfl]
                have hbs := bndS hz
                have hl := fun S => lowB_ok ((Q + 1)) 4611686018427387904 S hQ2 (by decide)
                simp only [arrB, wB8 ((Q + 1)), wB_top] at hl
                simp (maxSteps := 2000000) only [wk0, wk1, wk2, wk3, wk4, wk5, wk6, Fr.ev, Fr.put, Fr.get, storeA, List.replicate, IntKind.bits, sevalprocAttr, g1, g2, g6, wB8 ((Q + 1)), YtdknnaalfoongaaGreatDoor.D116, ty1, ty2, ty3, ty4, ty142, ty170, ty172]
                refine callThen_of (hl _) ?_
                by_cases hR : (Q + 1) < 4611686018427387904
                · have hb2 := hbs.2 hR
                  rw [hb2.1, hb2.2, hz]
                  have q0 : dB ((Q + 1)) 0 = (Q + 1) % 4294967296 := by unfold dB; simp
                  have q1 : dB ((Q + 1)) 1 = (Q + 1) / 4294967296 := by unfold dB; rw [Nat.pow_one]; omega
                  have m1 : IntKind.u64.wrap (((dB ((Q + 1)) 1 : Nat) : Int) * 4294967296) = ((dB ((Q + 1)) 1 : Nat) : Int) * 4294967296 := wrapU (by omega)
                  have m2 : IntKind.u64.wrap (((dB ((Q + 1)) 0 : Nat) : Int) + ((dB ((Q + 1)) 1 : Nat) : Int) * 4294967296) = (((Q + 1) : Nat) : Int) := by rw [wrapU (by omega)]; omega
                  have m3 : IntKind.i64.wrap (((Q + 1) : Nat) : Int) = (((Q + 1) : Nat) : Int) := wrapI (by omega)
                  have m4 : IntKind.i64.wrap (0 - (((Q + 1) : Nat) : Int)) = -(((Q + 1) : Nat) : Int) := by rw [wrapI (by omega)]; omega
                  cases g
                  · simp (maxSteps := 2000000) only [wk0, wk1, wk2, wk3, wk4, wk5, wk6, Fr.ev, Fr.put, Fr.get, storeA, List.replicate, IntKind.bits, sevalprocAttr, g1, g2, g6, hR, decide_true, m1, m2, m3, m4, YtdknnaalfoongaaGreatDoor.D116, ty1, ty2, ty3, ty4, ty142, ty170, ty172]
                    exact retB_plain (by simp [nmd_int, nmd_bool]) (by simp [packA]) (by simp)
                  · simp (maxSteps := 2000000) only [wk0, wk1, wk2, wk3, wk4, wk5, wk6, Fr.ev, Fr.put, Fr.get, storeA, List.replicate, IntKind.bits, sevalprocAttr, g1, g2, g6, hR, decide_true, m1, m2, m3, m4, YtdknnaalfoongaaGreatDoor.D116, ty1, ty2, ty3, ty4, ty142, ty170, ty172]
                    exact retB_plain (by simp [nmd_int, nmd_bool]) (by simp [packA]) (by simp)
                · have hb2 := hbs.1 hR
                  rw [hb2.1, hb2.2]
                  cases g
                  · simp (maxSteps := 2000000) only [wk0, wk1, wk2, wk3, wk4, wk5, wk6, Fr.ev, Fr.put, Fr.get, storeA, List.replicate, IntKind.bits, sevalprocAttr, g1, g2, g6, hR, decide_false, YtdknnaalfoongaaGreatDoor.D116, ty1, ty2, ty3, ty4, ty142, ty170, ty172]
                    exact retB_plain (by simp [nmd_int, nmd_bool]) (by simp [packA]) (by simp)
                  · simp (maxSteps := 2000000) only [wk0, wk1, wk2, wk3, wk4, wk5, wk6, Fr.ev, Fr.put, Fr.get, storeA, List.replicate, IntKind.bits, sevalprocAttr, g1, g2, g6, hR, decide_false, YtdknnaalfoongaaGreatDoor.D116, ty1, ty2, ty3, ty4, ty142, ty170, ty172]
                    exact retB_plain (by simp [nmd_int, nmd_bool]) (by simp [packA]) (by simp)
              · have hup : upB N b = false := by unfold upB; rw [decide_eq_false (show ¬ N % 2 ^ (b - 1) ≠ 0 from fun h => h hrest), hQ, decide_eq_false (show ¬ Q % 2 = 1 by omega)]; simp
                have hz : rnd (valL (g, N)) (2 ^ b) = if g = true then -((Q : Nat) : Int) else ((Q : Nat) : Int) := by rw [hval, show rB N b = Q by unfold rB; rw [hup, hQ]; rfl]
                have hbs := bndS hz
                have hl := fun S => lowB_ok (Q) 4611686018427387904 S (Nat.lt_of_le_of_lt hQN hN) (by decide)
                simp only [arrB, wB8 (Q), wB_top] at hl
                simp (maxSteps := 2000000) only [wk0, wk1, wk2, wk3, wk4, wk5, wk6, Fr.ev, Fr.put, Fr.get, storeA, List.replicate, IntKind.bits, sevalprocAttr, g10', v0, k1, k2, k3, k4, guN, p1, p2, p3, p4, mn, sl, md, w9, h0, m0, w10, hodd, g1, Int.toNat_natCast, Nat.mul_one, g2, g6, wB8 (Q), YtdknnaalfoongaaGreatDoor.D116, ty1, ty2, ty3, ty4, ty142, ty170, ty172]
                refine callThen_of (hl _) ?_
                by_cases hR : Q < 4611686018427387904
                · have hb2 := hbs.2 hR
                  rw [hb2.1, hb2.2, hz]
                  have q0 : dB (Q) 0 = Q % 4294967296 := by unfold dB; simp
                  have q1 : dB (Q) 1 = Q / 4294967296 := by unfold dB; rw [Nat.pow_one]; omega
                  have m1 : IntKind.u64.wrap (((dB (Q) 1 : Nat) : Int) * 4294967296) = ((dB (Q) 1 : Nat) : Int) * 4294967296 := wrapU (by omega)
                  have m2 : IntKind.u64.wrap (((dB (Q) 0 : Nat) : Int) + ((dB (Q) 1 : Nat) : Int) * 4294967296) = ((Q : Nat) : Int) := by rw [wrapU (by omega)]; omega
                  have m3 : IntKind.i64.wrap ((Q : Nat) : Int) = ((Q : Nat) : Int) := wrapI (by omega)
                  have m4 : IntKind.i64.wrap (0 - ((Q : Nat) : Int)) = -((Q : Nat) : Int) := by rw [wrapI (by omega)]; omega
                  cases g
                  · simp (maxSteps := 2000000) only [wk0, wk1, wk2, wk3, wk4, wk5, wk6, Fr.ev, Fr.put, Fr.get, storeA, List.replicate, IntKind.bits, sevalprocAttr, g10', v0, k1, k2, k3, k4, guN, p1, p2, p3, p4, mn, sl, md, w9, h0, m0, w10, hodd, g1, Int.toNat_natCast, Nat.mul_one, g2, g6, hR, decide_true, m1, m2, m3, m4, YtdknnaalfoongaaGreatDoor.D116, ty1, ty2, ty3, ty4, ty142, ty170, ty172]
                    exact retB_plain (by simp [nmd_int, nmd_bool]) (by simp [packA]) (by simp)
                  · simp (maxSteps := 2000000) only [wk0, wk1, wk2, wk3, wk4, wk5, wk6, Fr.ev, Fr.put, Fr.get, storeA, List.replicate, IntKind.bits, sevalprocAttr, g10', v0, k1, k2, k3, k4, guN, p1, p2, p3, p4, mn, sl, md, w9, h0, m0, w10, hodd, g1, Int.toNat_natCast, Nat.mul_one, g2, g6, hR, decide_true, m1, m2, m3, m4, YtdknnaalfoongaaGreatDoor.D116, ty1, ty2, ty3, ty4, ty142, ty170, ty172]
                    exact retB_plain (by simp [nmd_int, nmd_bool]) (by simp [packA]) (by simp)
                · have hb2 := hbs.1 hR
                  rw [hb2.1, hb2.2]
                  cases g
                  · simp (maxSteps := 2000000) only [wk0, wk1, wk2, wk3, wk4, wk5, wk6, Fr.ev, Fr.put, Fr.get, storeA, List.replicate, IntKind.bits, sevalprocAttr, g10', v0, k1, k2, k3, k4, guN, p1, p2, p3, p4, mn, sl, md, w9, h0, m0, w10, hodd, g1, Int.toNat_natCast, Nat.mul_one, g2, g6, hR, decide_false, YtdknnaalfoongaaGreatDoor.D116, ty1, ty2, ty3, ty4, ty142, ty170, ty172]
                    exact retB_plain (by simp [nmd_int, nmd_bool]) (by simp [packA]) (by simp)
                  · simp (maxSteps := 2000000) only [wk0, wk1, wk2, wk3, wk4, wk5, wk6, Fr.ev, Fr.put, Fr.get, storeA, List.replicate, IntKind.bits, sevalprocAttr, g10', v0, k1, k2, k3, k4, guN, p1, p2, p3, p4, mn, sl, md, w9, h0, m0, w10, hodd, g1, Int.toNat_natCast, Nat.mul_one, g2, g6, hR, decide_false, YtdknnaalfoongaaGreatDoor.D116, ty1, ty2, ty3, ty4, ty142, ty170, ty172]
                    exact retB_plain (by simp [nmd_int, nmd_bool]) (by simp [packA]) (by simp)
      · have hup : upB N b = false := by unfold upB; rw [decide_eq_false (show ¬ N / 2 ^ (b - 1) % 2 = 1 by omega)]; simp
        have hz : rnd (valL (g, N)) (2 ^ b) = if g = true then -((Q : Nat) : Int) else ((Q : Nat) : Int) := by rw [hval, show rB N b = Q by unfold rB; rw [hup, hQ]; rfl]
        have hbs := bndS hz
        have hl := fun S => lowB_ok (Q) 4611686018427387904 S (Nat.lt_of_le_of_lt hQN hN) (by decide)
        simp only [arrB, wB8 (Q), wB_top] at hl
        simp (maxSteps := 2000000) only [wk0, wk1, wk2, wk3, wk4, wk5, wk6, Fr.ev, Fr.put, Fr.get, storeA, List.replicate, IntKind.bits, sevalprocAttr, hz1, g2, g6, wB8 (Q), YtdknnaalfoongaaGreatDoor.D116, ty1, ty2, ty3, ty4, ty142, ty170, ty172]
        refine callThen_of (hl _) ?_
        by_cases hR : Q < 4611686018427387904
        · have hb2 := hbs.2 hR
          rw [hb2.1, hb2.2, hz]
          have q0 : dB (Q) 0 = Q % 4294967296 := by unfold dB; simp
          have q1 : dB (Q) 1 = Q / 4294967296 := by unfold dB; rw [Nat.pow_one]; omega
          have m1 : IntKind.u64.wrap (((dB (Q) 1 : Nat) : Int) * 4294967296) = ((dB (Q) 1 : Nat) : Int) * 4294967296 := wrapU (by omega)
          have m2 : IntKind.u64.wrap (((dB (Q) 0 : Nat) : Int) + ((dB (Q) 1 : Nat) : Int) * 4294967296) = ((Q : Nat) : Int) := by rw [wrapU (by omega)]; omega
          have m3 : IntKind.i64.wrap ((Q : Nat) : Int) = ((Q : Nat) : Int) := wrapI (by omega)
          have m4 : IntKind.i64.wrap (0 - ((Q : Nat) : Int)) = -((Q : Nat) : Int) := by rw [wrapI (by omega)]; omega
          cases g
          · simp (maxSteps := 2000000) only [wk0, wk1, wk2, wk3, wk4, wk5, wk6, Fr.ev, Fr.put, Fr.get, storeA, List.replicate, IntKind.bits, sevalprocAttr, hz1, g2, g6, hR, decide_true, m1, m2, m3, m4, YtdknnaalfoongaaGreatDoor.D116, ty1, ty2, ty3, ty4, ty142, ty170, ty172]
            exact retB_plain (by simp [nmd_int, nmd_bool]) (by simp [packA]) (by simp)
          · simp (maxSteps := 2000000) only [wk0, wk1, wk2, wk3, wk4, wk5, wk6, Fr.ev, Fr.put, Fr.get, storeA, List.replicate, IntKind.bits, sevalprocAttr, hz1, g2, g6, hR, decide_true, m1, m2, m3, m4, YtdknnaalfoongaaGreatDoor.D116, ty1, ty2, ty3, ty4, ty142, ty170, ty172]
            exact retB_plain (by simp [nmd_int, nmd_bool]) (by simp [packA]) (by simp)
        · have hb2 := hbs.1 hR
          rw [hb2.1, hb2.2]
          cases g
          · simp (maxSteps := 2000000) only [wk0, wk1, wk2, wk3, wk4, wk5, wk6, Fr.ev, Fr.put, Fr.get, storeA, List.replicate, IntKind.bits, sevalprocAttr, hz1, g2, g6, hR, decide_false, YtdknnaalfoongaaGreatDoor.D116, ty1, ty2, ty3, ty4, ty142, ty170, ty172]
            exact retB_plain (by simp [nmd_int, nmd_bool]) (by simp [packA]) (by simp)
          · simp (maxSteps := 2000000) only [wk0, wk1, wk2, wk3, wk4, wk5, wk6, Fr.ev, Fr.put, Fr.get, storeA, List.replicate, IntKind.bits, sevalprocAttr, hz1, g2, g6, hR, decide_false, YtdknnaalfoongaaGreatDoor.D116, ty1, ty2, ty3, ty4, ty142, ty170, ty172]
            exact retB_plain (by simp [nmd_int, nmd_bool]) (by simp [packA]) (by simp)
    · have hup : upB N b = false := by unfold upB; rw [decide_eq_false (show ¬ 0 < b by omega)]; simp
      have hz : rnd (valL (g, N)) (2 ^ b) = if g = true then -((Q : Nat) : Int) else ((Q : Nat) : Int) := by rw [hval, show rB N b = Q by unfold rB; rw [hup, hQ]; rfl]
      have hbs := bndS hz
      have hl := fun S => lowB_ok (Q) 4611686018427387904 S (Nat.lt_of_le_of_lt hQN hN) (by decide)
      simp only [arrB, wB8 (Q), wB_top] at hl
      simp (maxSteps := 2000000) only [wk0, wk1, wk2, wk3, wk4, wk5, wk6, Fr.ev, Fr.put, Fr.get, storeA, List.replicate, IntKind.bits, sevalprocAttr, g1, hb0, g2, g6, wB8 (Q), YtdknnaalfoongaaGreatDoor.D116, ty1, ty2, ty3, ty4, ty142, ty170, ty172]
      refine callThen_of (hl _) ?_
      by_cases hR : Q < 4611686018427387904
      · have hb2 := hbs.2 hR
        rw [hb2.1, hb2.2, hz]
        have q0 : dB (Q) 0 = Q % 4294967296 := by unfold dB; simp
        have q1 : dB (Q) 1 = Q / 4294967296 := by unfold dB; rw [Nat.pow_one]; omega
        have m1 : IntKind.u64.wrap (((dB (Q) 1 : Nat) : Int) * 4294967296) = ((dB (Q) 1 : Nat) : Int) * 4294967296 := wrapU (by omega)
        have m2 : IntKind.u64.wrap (((dB (Q) 0 : Nat) : Int) + ((dB (Q) 1 : Nat) : Int) * 4294967296) = ((Q : Nat) : Int) := by rw [wrapU (by omega)]; omega
        have m3 : IntKind.i64.wrap ((Q : Nat) : Int) = ((Q : Nat) : Int) := wrapI (by omega)
        have m4 : IntKind.i64.wrap (0 - ((Q : Nat) : Int)) = -((Q : Nat) : Int) := by rw [wrapI (by omega)]; omega
        cases g
        · simp (maxSteps := 2000000) only [wk0, wk1, wk2, wk3, wk4, wk5, wk6, Fr.ev, Fr.put, Fr.get, storeA, List.replicate, IntKind.bits, sevalprocAttr, g1, hb0, g2, g6, hR, decide_true, m1, m2, m3, m4, YtdknnaalfoongaaGreatDoor.D116, ty1, ty2, ty3, ty4, ty142, ty170, ty172]
          exact retB_plain (by simp [nmd_int, nmd_bool]) (by simp [packA]) (by simp)
        · simp (maxSteps := 2000000) only [wk0, wk1, wk2, wk3, wk4, wk5, wk6, Fr.ev, Fr.put, Fr.get, storeA, List.replicate, IntKind.bits, sevalprocAttr, g1, hb0, g2, g6, hR, decide_true, m1, m2, m3, m4, YtdknnaalfoongaaGreatDoor.D116, ty1, ty2, ty3, ty4, ty142, ty170, ty172]
          exact retB_plain (by simp [nmd_int, nmd_bool]) (by simp [packA]) (by simp)
      · have hb2 := hbs.1 hR
        rw [hb2.1, hb2.2]
        cases g
        · simp (maxSteps := 2000000) only [wk0, wk1, wk2, wk3, wk4, wk5, wk6, Fr.ev, Fr.put, Fr.get, storeA, List.replicate, IntKind.bits, sevalprocAttr, g1, hb0, g2, g6, hR, decide_false, YtdknnaalfoongaaGreatDoor.D116, ty1, ty2, ty3, ty4, ty142, ty170, ty172]
          exact retB_plain (by simp [nmd_int, nmd_bool]) (by simp [packA]) (by simp)
        · simp (maxSteps := 2000000) only [wk0, wk1, wk2, wk3, wk4, wk5, wk6, Fr.ev, Fr.put, Fr.get, storeA, List.replicate, IntKind.bits, sevalprocAttr, g1, hb0, g2, g6, hR, decide_false, YtdknnaalfoongaaGreatDoor.D116, ty1, ty2, ty3, ty4, ty142, ty170, ty172]
          exact retB_plain (by simp [nmd_int, nmd_bool]) (by simp [packA]) (by simp)
end Go.Proofs.YtdknnaalfoongaaGreatDoor
