/- math/bits: the long division. -/
import Derived.Test.YtoncolpkpgbfiaaDoorQ5
set_option linter.unusedSimpArgs false
set_option linter.unusedVariables false
set_option maxRecDepth 100000
set_option maxHeartbeats 4000000
namespace Go.Proofs.YtoncolpkpgbfiaaDoor
noncomputable def c118 : Code := Tryd.f118.body.getD .skip
theorem b118 : Tryd.f118.body = some c118 := rfl
theorem d118 : fnOk Tryd.f118 c118 = true := by kernel_rfl
def D118 : Nat → List Tag
  | 6 => [.pure, .pure, .pure, .pure, .pure, .pure, .pure, .pure]
  | _ => []
theorem e118 : drawsOk D118 c118 = true := by kernel_rfl
theorem div64_low (lo y : Int) (S : Heap) (hl : 0 ≤ lo ∧ lo < 18446744073709551616) (hy : 0 < y ∧ y < 18446744073709551616) : Call theE 118 [.int .u64 0, .int .u64 lo, .int .u64 y] S (.tup [.int .u64 (lo / y), .int .u64 (lo % y)]) S := by
  have c1 : ¬ y = 0 := by omega
  have c2 : ¬ y ≤ 0 := by omega
  have c3 : lo.tdiv y = lo / y := Int.tdiv_eq_ediv_of_nonneg hl.1
  have c4 : lo.tmod y = lo % y := Int.tmod_eq_emod_of_nonneg hl.1
  have c5 : IntKind.u64.wrap (lo / y) = lo / y := wrapU ⟨Int.ediv_nonneg hl.1 (by omega), by have := Int.ediv_le_self y hl.1; omega⟩
  refine Call.ofC Tryd.func118 YtoncolpkpgbfiaaDoor.b118 YtoncolpkpgbfiaaDoor.d118 YtoncolpkpgbfiaaDoor.e118 (by simp [Tryd.f118]) ?_
  dsimp only [YtoncolpkpgbfiaaDoor.c118, Tryd.f118, Option.getD_some]
  simp (maxSteps := 2000000) only [wk0, wk1, wk2, wk3, wk4, wk5, wk6, Fr.ev, Fr.put, Fr.get, storeA, List.replicate, IntKind.bits, sevalprocAttr, c1, c2, c3, c4, c5, YtoncolpkpgbfiaaDoor.D118, ty3, ty4, ty30, ty131, ty151]
  exact retB_plain (by simp [nmd_int]) rfl (by simp)
theorem mulLe {a b c : Int} (h : a ≤ b) (hc : 0 ≤ c) : a * c ≤ b * c := Int.mul_le_mul_of_nonneg_right h hc
theorem mulLt {a b c : Int} (h : a * c < b * c) (hc : 0 ≤ c) : a < b := Int.lt_of_mul_lt_mul_right h hc
theorem mulB' {a b A B : Int} (ha : 0 ≤ a) (hA : a ≤ A) (hb : 0 ≤ b) (hB : b ≤ B) : 0 ≤ a * b ∧ a * b ≤ A * B :=
  ⟨Int.mul_nonneg ha hb, Int.mul_le_mul hA hB hb (by omega)⟩
structure Dig (v1 v0 U u q : Int) : Prop where
  a1 : 2147483648 ≤ v1
  a2 : v1 < 4294967296
  b1 : 0 ≤ v0
  b2 : v0 < 4294967296
  c1 : 0 ≤ U
  c2 : U < v1 * 4294967296 + v0
  d1 : 0 ≤ u
  d2 : u < 4294967296
  e1 : q * (v1 * 4294967296 + v0) ≤ U * 4294967296 + u
  e2 : U * 4294967296 + u < (q + 1) * (v1 * 4294967296 + v0)
theorem Dig.q0 {v1 v0 U u q : Int} (h : Dig v1 v0 U u q) : 0 ≤ q := by
  have := mulLt (a := 0) (b := q + 1) (c := v1 * 4294967296 + v0) (by have := h.e2; have := h.c1; have := h.d1; omega) (by have := h.a1; have := h.b1; omega)
  omega
theorem Dig.qB {v1 v0 U u q : Int} (h : Dig v1 v0 U u q) : q < 4294967296 := by
  refine mulLt (c := v1 * 4294967296 + v0) ?_ (by have := h.a1; have := h.b1; omega)
  have := h.e1; have := h.c2; have := h.d2
  omega
theorem Dig.init {v1 v0 U u q : Int} (h : Dig v1 v0 U u q) : (U / v1) * v1 + U % v1 = U ∧ q ≤ U / v1 ∧ 0 ≤ U % v1 ∧ U % v1 < 4294967296 ∧ U / v1 ≤ 4294967297 := by
  have p1 : 0 < v1 := by have := h.a1; omega
  have e := Int.mul_ediv_add_emod U v1
  rw [Int.mul_comm] at e
  refine ⟨e, ?_, Int.emod_nonneg _ (by omega), by have := Int.emod_lt_of_pos U p1; have := h.a2; omega, ?_⟩
  · rw [Int.le_ediv_iff_mul_le p1]
    have e1 := h.e1
    rw [Int.mul_add, ← Int.mul_assoc] at e1
    have := Int.mul_nonneg h.q0 h.b1
    have := h.d2
    omega
  · have : U / v1 < 4294967298 := by
      apply Int.ediv_lt_of_lt_mul p1
      have := h.c2; have := h.b2; have := h.a1
      omega
    omega
theorem Dig.down {v1 v0 U u q k r : Int} (h : Dig v1 v0 U u q) (hk : k * v1 + r = U) (ht : 4294967296 ≤ k ∨ 4294967296 * r + u < k * v0) : q ≤ k - 1 := by
  rcases ht with ht | ht
  · have := h.qB; omega
  · have : q < k := by
      refine mulLt (c := v1 * 4294967296 + v0) ?_ (by have := h.a1; have := h.b1; omega)
      rw [Int.mul_add k, ← Int.mul_assoc k]
      have := h.e1
      omega
    omega
theorem Dig.stop {v1 v0 U u q k r : Int} (h : Dig v1 v0 U u q) (hk : k * v1 + r = U) (hq : q ≤ k) (h2 : k * v0 ≤ 4294967296 * r + u) : k = q := by
  have : k < q + 1 := by
    refine mulLt (c := v1 * 4294967296 + v0) ?_ (by have := h.a1; have := h.b1; omega)
    rw [Int.mul_add k, ← Int.mul_assoc k]
    have := h.e2
    omega
  omega
theorem Dig.leave {v1 v0 U u q k r : Int} (h : Dig v1 v0 U u q) (hk : k * v1 + r = U) (hq : q ≤ k) (hr : 4294967296 ≤ r) : k = q := by
  have kB : k < 4294967296 := by
    rcases Int.lt_or_le k 4294967296 with g | g
    · exact g
    · have := mulLe (c := v1) g (by have := h.a1; omega)
      have := h.c2; have := h.b2
      omega
  refine h.stop hk hq ?_
  have := (mulB' (a := k) (b := v0) (A := 4294967295) (B := 4294967295) (by have := h.q0; omega) (by omega) h.b1 (by have := h.b2; omega)).2
  have := h.d1
  omega
theorem lenU_in {y : Int} (h : 0 < y ∧ y < 18446744073709551616) : 1 ≤ lenU y.toNat ∧ lenU y.toNat ≤ 64 ∧ (2 : Int) ^ (lenU y.toNat - 1) ≤ y ∧ y < 2 ^ (lenU y.toNat) := by
  have h0 : y.toNat ≠ 0 := by omega
  have a1 := Nat.log2_self_le h0
  have a2 := Nat.lt_log2_self (n := y.toNat)
  have e : lenU y.toNat = y.toNat.log2 + 1 := by unfold lenU; rw [if_neg h0]
  have b1 : y.toNat.log2 < 64 := (Nat.pow_lt_pow_iff_right (a := 2) (by decide)).1 (by omega)
  rw [e]
  refine ⟨by omega, by omega, ?_, ?_⟩
  · have : ((2 ^ y.toNat.log2 : Nat) : Int) ≤ (y.toNat : Int) := Int.ofNat_le.2 a1
    simp only [Nat.add_sub_cancel]
    have e2 : ((2 ^ y.toNat.log2 : Nat) : Int) = (2 : Int) ^ y.toNat.log2 := by simp
    omega
  · have : (y.toNat : Int) < ((2 ^ (y.toNat.log2 + 1) : Nat) : Int) := Int.ofNat_lt.2 a2
    have e2 : ((2 ^ (y.toNat.log2 + 1) : Nat) : Int) = (2 : Int) ^ (y.toNat.log2 + 1) := by simp
    omega
theorem div64_any (hi lo y : Int) (S : Heap) (hh : 0 < hi ∧ hi < y) (hl : 0 ≤ lo ∧ lo < 18446744073709551616) (hy : y < 18446744073709551616) : Call theE 118 [.int .u64 hi, .int .u64 lo, .int .u64 y] S (.tup [.int .u64 ((hi * 18446744073709551616 + lo) / y), .int .u64 ((hi * 18446744073709551616 + lo) % y)]) S := by
  have c1 : ¬ y = 0 := by omega
  have c2 : ¬ y ≤ hi := by omega
  have c3 : ¬ hi = 0 := by omega
  obtain ⟨l1, l2, l3, l4⟩ := lenU_in (y := y) (by omega)
  have hlz := fun S => lz64_ok y S (by omega)
  generalize lenU y.toNat = L at *
  have w1 : IntKind.u64.wrap (64 - (L : Int)) = 64 - L := wrapU (by omega)
  have w2 : ¬ (64 : Int) - L < 0 := by omega
  have w3 : ((64 : Int) - L).toNat = 64 - L := by omega
  have w4 : 64 - L ≤ 64 := by omega
  have w5 : IntKind.u64.wrap (64 - (64 - (L : Int))) = L := by rw [wrapU64]; omega
  have w6 : ¬ (L : Int) < 0 := by omega
  have w7 : (L : Int).toNat = L := by omega
  have hMN : (2 : Int) ^ L * 2 ^ (64 - L) = 18446744073709551616 := by
    rw [← Int.pow_add, show L + (64 - L) = 64 by omega]; rfl
  have hq1 : (1 : Int) ≤ 2 ^ L := Int.pow_pos (by decide)
  have hp1 : (1 : Int) ≤ 2 ^ (64 - L) := Int.pow_pos (by decide)
  have hpq : (2 : Int) ^ L = 2 * 2 ^ (L - 1) := by
    obtain ⟨k, rfl⟩ : ∃ k, L = k + 1 := ⟨L - 1, by omega⟩
    rw [Nat.add_sub_cancel, Int.pow_succ]; omega
  have hor := fun (x z : Int) => @orU x z (64 - L)
  generalize hpp : (2 : Int) ^ (64 - L) = p at *
  generalize hqq : (2 : Int) ^ L = q at *
  refine Call.ofC Tryd.func118 YtoncolpkpgbfiaaDoor.b118 YtoncolpkpgbfiaaDoor.d118 YtoncolpkpgbfiaaDoor.e118 (by simp [Tryd.f118]) ?_
  dsimp only [YtoncolpkpgbfiaaDoor.c118, Tryd.f118, Option.getD_some]
  simp (maxSteps := 2000000) only [wk0, wk1, wk2, wk3, wk4, wk5, wk6, Fr.ev, Fr.put, Fr.get, storeA, List.replicate, IntKind.bits, sevalprocAttr, c1, c2, c3, YtoncolpkpgbfiaaDoor.D118, ty3, ty4, ty30, ty131, ty151]
  refine callThen_of (hlz _) ?_
  have hY1 : y * p < 18446744073709551616 := by
    have := (mulB (a := y) (b := p) (A := q - 1) (B := p) (by omega) (by omega) (by omega) (by omega)).2
    rw [Int.sub_mul, hMN] at this; omega
  have hY2 : 9223372036854775808 ≤ y * p := by
    have := mulLe (c := p) l3 (by omega)
    have e : 2 * (2 ^ (L - 1) * p) = 18446744073709551616 := by rw [← Int.mul_assoc, ← hpq, hMN]
    omega
  have y1 : IntKind.u64.wrap (y * p) = y * p := wrapU (by omega)
  obtain ⟨Y, hY⟩ : ∃ Y, y * p = Y := ⟨_, rfl⟩
  rw [hY] at hY1 hY2 y1
  have y2 : Y.fdiv 4294967296 = Y / 4294967296 := shr0 (by decide)
  have y3 := andU (x := Y) 32 (by decide) (by omega)
  simp only [Int.reducePow, Int.reduceSub] at y3
  have hU0 : 0 ≤ hi * p ∧ hi * p ≤ Y - p := by
    refine ⟨Int.mul_nonneg (by omega) (by omega), ?_⟩
    have := mulLe (c := p) (show hi ≤ y - 1 by omega) (by omega)
    rw [Int.sub_mul] at this; omega
  have u1 : IntKind.u64.wrap (hi * p) = hi * p := wrapU (by omega)
  have u2 : lo.fdiv q = lo / q := shr0 (by omega)
  have hlq : 0 ≤ lo / q ∧ lo / q < p := ⟨Int.ediv_nonneg hl.1 (by omega), Int.ediv_lt_of_lt_mul (by omega) (by rw [Int.mul_comm, hMN]; exact hl.2)⟩
  have u3 : bitsI .or .u64 (hi * p) (lo / q) = some (.int .u64 (lo / q + hi * p)) := by
    rw [orC (by omega) (by omega), hor _ _ hlq (by omega) (by omega)]
  have u4 : IntKind.u64.wrap (lo * p) = lo % q * p := shlU (by omega) hMN
  obtain ⟨U, hU⟩ : ∃ U, lo / q + hi * p = U := ⟨_, rfl⟩
  rw [hU] at u3
  obtain ⟨u, hu⟩ : ∃ u, lo % q * p = u := ⟨_, rfl⟩
  rw [hu] at u4
  simp (maxSteps := 2000000) only [wk0, wk1, wk2, wk3, wk4, wk5, wk6, Fr.ev, Fr.put, Fr.get, storeA, List.replicate, IntKind.bits, sevalprocAttr, w1, w2, w3, w4, w5, w6, w7, hpp, hqq, y1, hY, y2, y3, u1, u2, u3, u4, l2, YtoncolpkpgbfiaaDoor.D118, ty3, ty4, ty30, ty131, ty151]
  have hu0 : 0 ≤ u ∧ u ≤ 18446744073709551616 - p := by
    rw [← hu]
    have h1 := Int.emod_nonneg lo (show q ≠ 0 by omega)
    have h2 := Int.emod_lt_of_pos lo (show 0 < q by omega)
    refine ⟨Int.mul_nonneg h1 (by omega), ?_⟩
    have := mulLe (c := p) (show lo % q ≤ q - 1 by omega) (by omega)
    rw [Int.sub_mul q, hMN] at this; omega
  have y4 := andU (x := u) 32 (by decide) (by omega)
  simp only [Int.reducePow, Int.reduceSub] at y4
  have y5 : u.fdiv 4294967296 = u / 4294967296 := shr0 (by decide)
  have hUY : 0 ≤ U ∧ U < Y := by omega
  obtain ⟨V1, hV1⟩ : ∃ V, Y / 4294967296 = V := ⟨_, rfl⟩
  obtain ⟨V0, hV0⟩ : ∃ V, Y % 4294967296 = V := ⟨_, rfl⟩
  obtain ⟨n1, hn1⟩ : ∃ V, u / 4294967296 = V := ⟨_, rfl⟩
  obtain ⟨n0, hn0⟩ : ∃ V, u % 4294967296 = V := ⟨_, rfl⟩
  have hYV : Y = V1 * 4294967296 + V0 := by omega
  obtain ⟨q1, hq1d⟩ : ∃ V, (U * 4294967296 + n1) / Y = V := ⟨_, rfl⟩
  have D1 : Dig V1 V0 U n1 q1 := by
    have e1 := Int.mul_ediv_add_emod (U * 4294967296 + n1) Y
    have e2 := Int.emod_nonneg (U * 4294967296 + n1) (show Y ≠ 0 by omega)
    have e3 := Int.emod_lt_of_pos (U * 4294967296 + n1) (show 0 < Y by omega)
    rw [hq1d, Int.mul_comm] at e1
    exact ⟨by omega, by omega, by omega, by omega, by omega, by omega, by omega, by omega, by rw [← hYV]; omega, by rw [← hYV, Int.add_mul]; omega⟩
  obtain ⟨U2, hU2⟩ : ∃ V, U * 4294967296 + n1 - q1 * Y = V := ⟨_, rfl⟩
  obtain ⟨q0, hq0d⟩ : ∃ V, (U2 * 4294967296 + n0) / Y = V := ⟨_, rfl⟩
  have hU2Y : 0 ≤ U2 ∧ U2 < Y := by
    have e1 := D1.e1; have e2 := D1.e2
    rw [← hYV] at e1 e2
    rw [Int.add_mul] at e2
    omega
  have D0 : Dig V1 V0 U2 n0 q0 := by
    have e1 := Int.mul_ediv_add_emod (U2 * 4294967296 + n0) Y
    have e2 := Int.emod_nonneg (U2 * 4294967296 + n0) (show Y ≠ 0 by omega)
    have e3 := Int.emod_lt_of_pos (U2 * 4294967296 + n0) (show 0 < Y by omega)
    rw [hq0d, Int.mul_comm] at e1
    exact ⟨by omega, by omega, by omega, by omega, by omega, by omega, by omega, by omega, by rw [← hYV]; omega, by rw [← hYV, Int.add_mul]; omega⟩
  obtain ⟨i1, i2, i3, i4, i5⟩ := D1.init
  have t1 : U.tdiv V1 = U / V1 := Int.tdiv_eq_ediv_of_nonneg hUY.1
  have t2 : ¬ V1 = 0 := by have := D1.a1; omega
  obtain ⟨k1, hk1⟩ : ∃ V, U / V1 = V := ⟨_, rfl⟩
  rw [hk1] at i1 i2 i5 t1
  have t3 : IntKind.u64.wrap k1 = k1 := wrapU (by have := D1.q0; omega)
  obtain ⟨g1, hg1⟩ : ∃ V, k1 * V1 = V := ⟨_, rfl⟩
  have hg1p : 0 ≤ g1 := by rw [← hg1]; exact Int.mul_nonneg (by have := D1.q0; omega) (by have := D1.a1; omega)
  have t4 : IntKind.u64.wrap g1 = g1 := wrapU (by omega)
  obtain ⟨r1, hr1⟩ : ∃ V, U % V1 = V := ⟨_, rfl⟩
  rw [hr1] at i1 i3 i4
  have t5 : IntKind.u64.wrap (U - g1) = r1 := by rw [show U - g1 = r1 by omega]; exact wrapU (by omega)
  simp (maxSteps := 2000000) only [wk0, wk1, wk2, wk3, wk4, wk5, wk6, Fr.ev, Fr.put, Fr.get, storeA, List.replicate, IntKind.bits, sevalprocAttr, y4, y5, hV1, hV0, hn1, hn0, t1, t2, t3, hg1, t4, t5, YtoncolpkpgbfiaaDoor.D118, ty3, ty4, ty30, ty131, ty151]
  refine loopC_split 0 (fun fr H => fr.get 15 = .int .u64 q1 ∧ fr.get 2 = .int .u64 Y ∧ fr.get 8 = .int .u64 (64 - L) ∧ fr.get 9 = .int .u64 V1 ∧ fr.get 10 = .int .u64 V0 ∧ fr.get 11 = .int .u64 U ∧ fr.get 13 = .int .u64 n1 ∧ fr.get 14 = .int .u64 n0 ∧ H = S) (fun K' hK' => ?_) ?_
  · refine loopC_ind (fun m fr H => ∃ k r : Int, m = k.toNat ∧ k * V1 + r = U ∧ q1 ≤ k ∧ 0 ≤ r ∧ r < 4294967296 ∧ k ≤ 4294967297 ∧ fr.get 15 = .int .u64 k ∧ fr.get 16 = .int .u64 r ∧ fr.get 2 = .int .u64 Y ∧ fr.get 8 = .int .u64 (64 - L) ∧ fr.get 9 = .int .u64 V1 ∧ fr.get 10 = .int .u64 V0 ∧ fr.get 11 = .int .u64 U ∧ fr.get 13 = .int .u64 n1 ∧ fr.get 14 = .int .u64 n0 ∧ H = S) ?_ (n := k1.toNat)
      ⟨k1, r1, rfl, by omega, by omega, by omega, by omega, by omega, rfl, rfl, rfl, rfl, rfl, rfl, rfl, rfl, rfl, rfl⟩
    rintro m fr H ⟨k, r, rfl, hk, hqk, hr0, hrB, hkB, gk, gr, g2, g8, g9, g10, g11, g13, g14, rfl⟩ ih
    have hq0 := D1.q0
    have hP := mulB (a := k) (b := V0) (A := 4294967297) (B := 4294967295) (by omega) hkB D1.b1 (by have := D1.b2; omega)
    have z1 := D1.a2
    have z2 := D1.d1
    have z3 := D1.d2
    have z4 := D1.a1
    have dn := fun ht => D1.down (k := k) (r := r) hk ht
    have st := fun h2 => D1.stop (k := k) (r := r) hk hqk h2
    have lv := fun hq hr => D1.leave (k := k - 1) (r := r + V1) (by rw [Int.sub_mul]; omega) hq hr
    generalize hkV : k * V0 = P at *
    have s1 : IntKind.u64.wrap P = P := wrapU (by omega)
    have s2 : IntKind.u64.wrap (4294967296 * r) = 4294967296 * r := wrapU (by omega)
    have s3 : IntKind.u64.wrap (4294967296 * r + n1) = 4294967296 * r + n1 := wrapU (by omega)
    have s5 : IntKind.u64.wrap (r + V1) = r + V1 := wrapU (by omega)
    by_cases b1 : 4294967296 ≤ k
    · have s4 : IntKind.u64.wrap (k - 1) = k - 1 := wrapU (by omega)
      have hd := dn (Or.inl b1)
      by_cases b3 : 4294967296 ≤ r + V1
      · simp (maxSteps := 2000000) only [wk0, wk1, wk2, wk3, wk4, wk5, wk6, Fr.ev, Fr.put, Fr.get, storeA, List.replicate, IntKind.bits, sevalprocAttr, gk, gr, g2, g8, g9, g10, g11, g13, g14, b1, b3, s4, s5, YtoncolpkpgbfiaaDoor.D118, ty3, ty4, ty30, ty131, ty151]
        exact hK' _ _ ⟨by simp [Fr.get, lv hd b3], by simp [Fr.get, g2], by simp [Fr.get, g8], by simp [Fr.get, g9], by simp [Fr.get, g10], by simp [Fr.get, g11], by simp [Fr.get, g13], by simp [Fr.get, g14], rfl⟩
      · simp (maxSteps := 2000000) only [wk0, wk1, wk2, wk3, wk4, wk5, wk6, Fr.ev, Fr.put, Fr.get, storeA, List.replicate, IntKind.bits, sevalprocAttr, gk, gr, g2, g8, g9, g10, g11, g13, g14, b1, b3, s4, s5, YtoncolpkpgbfiaaDoor.D118, ty3, ty4, ty30, ty131, ty151]
        exact ih (k - 1).toNat _ _ (by omega) ⟨k - 1, r + V1, rfl, by rw [Int.sub_mul]; omega, hd, by omega, by omega, by omega, by simp [Fr.get], by simp [Fr.get], by simp [Fr.get, g2], by simp [Fr.get, g8], by simp [Fr.get, g9], by simp [Fr.get, g10], by simp [Fr.get, g11], by simp [Fr.get, g13], by simp [Fr.get, g14], rfl⟩
    · by_cases b2 : 4294967296 * r + n1 < P
      · have hd := dn (Or.inr b2)
        have s4 : IntKind.u64.wrap (k - 1) = k - 1 := wrapU (by omega)
        by_cases b3 : 4294967296 ≤ r + V1
        · simp (maxSteps := 2000000) only [wk0, wk1, wk2, wk3, wk4, wk5, wk6, Fr.ev, Fr.put, Fr.get, storeA, List.replicate, IntKind.bits, sevalprocAttr, gk, gr, g2, g8, g9, g10, g11, g13, g14, b1, b2, b3, hkV, s1, s2, s3, s4, s5, YtoncolpkpgbfiaaDoor.D118, ty3, ty4, ty30, ty131, ty151]
          exact hK' _ _ ⟨by simp [Fr.get, lv hd b3], by simp [Fr.get, g2], by simp [Fr.get, g8], by simp [Fr.get, g9], by simp [Fr.get, g10], by simp [Fr.get, g11], by simp [Fr.get, g13], by simp [Fr.get, g14], rfl⟩
        · simp (maxSteps := 2000000) only [wk0, wk1, wk2, wk3, wk4, wk5, wk6, Fr.ev, Fr.put, Fr.get, storeA, List.replicate, IntKind.bits, sevalprocAttr, gk, gr, g2, g8, g9, g10, g11, g13, g14, b1, b2, b3, hkV, s1, s2, s3, s4, s5, YtoncolpkpgbfiaaDoor.D118, ty3, ty4, ty30, ty131, ty151]
          exact ih (k - 1).toNat _ _ (by omega) ⟨k - 1, r + V1, rfl, by rw [Int.sub_mul]; omega, hd, by omega, by omega, by omega, by simp [Fr.get], by simp [Fr.get], by simp [Fr.get, g2], by simp [Fr.get, g8], by simp [Fr.get, g9], by simp [Fr.get, g10], by simp [Fr.get, g11], by simp [Fr.get, g13], by simp [Fr.get, g14], rfl⟩
      · simp (maxSteps := 2000000) only [wk0, wk1, wk2, wk3, wk4, wk5, wk6, Fr.ev, Fr.put, Fr.get, storeA, List.replicate, IntKind.bits, sevalprocAttr, gk, gr, g2, g8, g9, g10, g11, g13, g14, b1, b2, hkV, s1, s2, s3, YtoncolpkpgbfiaaDoor.D118, ty3, ty4, ty30, ty131, ty151]
        exact hK' _ _ ⟨by simp [Fr.get, gk, st (by omega)], by simp [Fr.get, g2], by simp [Fr.get, g8], by simp [Fr.get, g9], by simp [Fr.get, g10], by simp [Fr.get, g11], by simp [Fr.get, g13], by simp [Fr.get, g14], rfl⟩
  rintro fr H ⟨gq, g2, g8, g9, g10, g11, g13, g14, hHS⟩
  obtain rfl := hHS.symm
  obtain ⟨j1, j2, j3, j4, j5⟩ := D0.init
  have x1 : U2.tdiv V1 = U2 / V1 := Int.tdiv_eq_ediv_of_nonneg hU2Y.1
  obtain ⟨k2, hk2⟩ : ∃ V, U2 / V1 = V := ⟨_, rfl⟩
  rw [hk2] at j1 j2 j5 x1
  have x3 : IntKind.u64.wrap k2 = k2 := wrapU (by have := D0.q0; omega)
  obtain ⟨g2', hg2⟩ : ∃ V, k2 * V1 = V := ⟨_, rfl⟩
  have hg2p : 0 ≤ g2' := by rw [← hg2]; exact Int.mul_nonneg (by have := D0.q0; omega) (by have := D0.a1; omega)
  have x4 : IntKind.u64.wrap g2' = g2' := wrapU (by omega)
  obtain ⟨r2, hr2⟩ : ∃ V, U2 % V1 = V := ⟨_, rfl⟩
  rw [hr2] at j1 j3 j4
  have x5 : IntKind.u64.wrap (U2 - g2') = r2 := by rw [show U2 - g2' = r2 by omega]; exact wrapU (by omega)
  have x6 : IntKind.u64.wrap (IntKind.u64.wrap (IntKind.u64.wrap (U * 4294967296) + n1) - IntKind.u64.wrap (q1 * Y)) = U2 := by
    simp only [wrapU64]
    omega
  simp (maxSteps := 2000000) only [wk0, wk1, wk2, wk3, wk4, wk5, wk6, Fr.ev, Fr.put, Fr.get, storeA, List.replicate, IntKind.bits, sevalprocAttr, gq, g2, g8, g9, g10, g11, g13, g14, x6, x1, t2, x3, hg2, x4, x5, YtoncolpkpgbfiaaDoor.D118, ty3, ty4, ty30, ty131, ty151]
  refine loopC_split 2 (fun fr H => fr.get 18 = .int .u64 q0 ∧ fr.get 2 = .int .u64 Y ∧ fr.get 8 = .int .u64 (64 - L) ∧ fr.get 9 = .int .u64 V1 ∧ fr.get 10 = .int .u64 V0 ∧ fr.get 15 = .int .u64 q1 ∧ fr.get 17 = .int .u64 U2 ∧ fr.get 14 = .int .u64 n0 ∧ H = S) (fun K' hK' => ?_) ?_
  · refine loopC_ind (fun m fr H => ∃ k r : Int, m = k.toNat ∧ k * V1 + r = U2 ∧ q0 ≤ k ∧ 0 ≤ r ∧ r < 4294967296 ∧ k ≤ 4294967297 ∧ fr.get 18 = .int .u64 k ∧ fr.get 16 = .int .u64 r ∧ fr.get 2 = .int .u64 Y ∧ fr.get 8 = .int .u64 (64 - L) ∧ fr.get 9 = .int .u64 V1 ∧ fr.get 10 = .int .u64 V0 ∧ fr.get 15 = .int .u64 q1 ∧ fr.get 17 = .int .u64 U2 ∧ fr.get 14 = .int .u64 n0 ∧ H = S) ?_ (n := k2.toNat)
      ⟨k2, r2, rfl, by omega, by omega, by omega, by omega, by omega, by simp [Fr.get], by simp [Fr.get], by simp [Fr.get, g2], by simp [Fr.get, g8], by simp [Fr.get, g9], by simp [Fr.get, g10], by simp [Fr.get, gq], by simp [Fr.get], by simp [Fr.get, g14], rfl⟩
    rintro m fr H ⟨k, r, rfl, hk, hqk, hr0, hrB, hkB, gk, gr, g2, g8, g9, g10, g15, g17, g14, rfl⟩ ih
    have hq0 := D0.q0
    have hP := mulB (a := k) (b := V0) (A := 4294967297) (B := 4294967295) (by omega) hkB D0.b1 (by have := D0.b2; omega)
    have z1 := D0.a2
    have z2 := D0.d1
    have z3 := D0.d2
    have z4 := D0.a1
    have dn := fun ht => D0.down (k := k) (r := r) hk ht
    have st := fun h2 => D0.stop (k := k) (r := r) hk hqk h2
    have lv := fun hq hr => D0.leave (k := k - 1) (r := r + V1) (by rw [Int.sub_mul]; omega) hq hr
    generalize hkV : k * V0 = P at *
    have s1 : IntKind.u64.wrap P = P := wrapU (by omega)
    have s2 : IntKind.u64.wrap (4294967296 * r) = 4294967296 * r := wrapU (by omega)
    have s3 : IntKind.u64.wrap (4294967296 * r + n0) = 4294967296 * r + n0 := wrapU (by omega)
    have s5 : IntKind.u64.wrap (r + V1) = r + V1 := wrapU (by omega)
    by_cases b1 : 4294967296 ≤ k
    · have s4 : IntKind.u64.wrap (k - 1) = k - 1 := wrapU (by omega)
      have hd := dn (Or.inl b1)
      by_cases b3 : 4294967296 ≤ r + V1
      · simp (maxSteps := 2000000) only [wk0, wk1, wk2, wk3, wk4, wk5, wk6, Fr.ev, Fr.put, Fr.get, storeA, List.replicate, IntKind.bits, sevalprocAttr, gk, gr, g2, g8, g9, g10, g15, g17, g14, b1, b3, s4, s5, YtoncolpkpgbfiaaDoor.D118, ty3, ty4, ty30, ty131, ty151]
        exact hK' _ _ ⟨by simp [Fr.get, lv hd b3], by simp [Fr.get, g2], by simp [Fr.get, g8], by simp [Fr.get, g9], by simp [Fr.get, g10], by simp [Fr.get, g15], by simp [Fr.get, g17], by simp [Fr.get, g14], rfl⟩
      · simp (maxSteps := 2000000) only [wk0, wk1, wk2, wk3, wk4, wk5, wk6, Fr.ev, Fr.put, Fr.get, storeA, List.replicate, IntKind.bits, sevalprocAttr, gk, gr, g2, g8, g9, g10, g15, g17, g14, b1, b3, s4, s5, YtoncolpkpgbfiaaDoor.D118, ty3, ty4, ty30, ty131, ty151]
        exact ih (k - 1).toNat _ _ (by omega) ⟨k - 1, r + V1, rfl, by rw [Int.sub_mul]; omega, hd, by omega, by omega, by omega, by simp [Fr.get], by simp [Fr.get], by simp [Fr.get, g2], by simp [Fr.get, g8], by simp [Fr.get, g9], by simp [Fr.get, g10], by simp [Fr.get, g15], by simp [Fr.get, g17], by simp [Fr.get, g14], rfl⟩
    · by_cases b2 : 4294967296 * r + n0 < P
      · have hd := dn (Or.inr b2)
        have s4 : IntKind.u64.wrap (k - 1) = k - 1 := wrapU (by omega)
        by_cases b3 : 4294967296 ≤ r + V1
        · simp (maxSteps := 2000000) only [wk0, wk1, wk2, wk3, wk4, wk5, wk6, Fr.ev, Fr.put, Fr.get, storeA, List.replicate, IntKind.bits, sevalprocAttr, gk, gr, g2, g8, g9, g10, g15, g17, g14, b1, b2, b3, hkV, s1, s2, s3, s4, s5, YtoncolpkpgbfiaaDoor.D118, ty3, ty4, ty30, ty131, ty151]
          exact hK' _ _ ⟨by simp [Fr.get, lv hd b3], by simp [Fr.get, g2], by simp [Fr.get, g8], by simp [Fr.get, g9], by simp [Fr.get, g10], by simp [Fr.get, g15], by simp [Fr.get, g17], by simp [Fr.get, g14], rfl⟩
        · simp (maxSteps := 2000000) only [wk0, wk1, wk2, wk3, wk4, wk5, wk6, Fr.ev, Fr.put, Fr.get, storeA, List.replicate, IntKind.bits, sevalprocAttr, gk, gr, g2, g8, g9, g10, g15, g17, g14, b1, b2, b3, hkV, s1, s2, s3, s4, s5, YtoncolpkpgbfiaaDoor.D118, ty3, ty4, ty30, ty131, ty151]
          exact ih (k - 1).toNat _ _ (by omega) ⟨k - 1, r + V1, rfl, by rw [Int.sub_mul]; omega, hd, by omega, by omega, by omega, by simp [Fr.get], by simp [Fr.get], by simp [Fr.get, g2], by simp [Fr.get, g8], by simp [Fr.get, g9], by simp [Fr.get, g10], by simp [Fr.get, g15], by simp [Fr.get, g17], by simp [Fr.get, g14], rfl⟩
      · simp (maxSteps := 2000000) only [wk0, wk1, wk2, wk3, wk4, wk5, wk6, Fr.ev, Fr.put, Fr.get, storeA, List.replicate, IntKind.bits, sevalprocAttr, gk, gr, g2, g8, g9, g10, g15, g17, g14, b1, b2, hkV, s1, s2, s3, YtoncolpkpgbfiaaDoor.D118, ty3, ty4, ty30, ty131, ty151]
        exact hK' _ _ ⟨by simp [Fr.get, gk, st (by omega)], by simp [Fr.get, g2], by simp [Fr.get, g8], by simp [Fr.get, g9], by simp [Fr.get, g10], by simp [Fr.get, g15], by simp [Fr.get, g17], by simp [Fr.get, g14], rfl⟩
  rintro fr H ⟨gq0, g2, g8, g9, g10, gq, g17, g14, hHS⟩
  obtain rfl := hHS.symm
  have hQ1 := D1.qB
  have hQ1' := D1.q0
  have hQ0 := D0.qB
  have hQ0' := D0.q0
  obtain ⟨R, hR⟩ : ∃ V, U2 * 4294967296 + n0 - q0 * Y = V := ⟨_, rfl⟩
  have hRY : 0 ≤ R ∧ R < Y := by
    have e1 := D0.e1; have e2 := D0.e2
    rw [← hYV] at e1 e2
    rw [Int.add_mul] at e2
    omega
  have v1 : IntKind.u64.wrap (q1 * 4294967296) = q1 * 4294967296 := wrapU (by omega)
  have v2 : IntKind.u64.wrap (q1 * 4294967296 + q0) = q1 * 4294967296 + q0 := wrapU (by omega)
  have v3 : IntKind.u64.wrap (IntKind.u64.wrap (IntKind.u64.wrap (U2 * 4294967296) + n0) - IntKind.u64.wrap (q0 * Y)) = R := by
    simp only [wrapU64]
    omega
  have v4 : R.fdiv p = R / p := shr0 (by omega)
  have hlp : lo * p = lo / q * 18446744073709551616 + u := by
    have e := Int.mul_ediv_add_emod lo q
    rw [← hu, ← hMN, ← Int.mul_assoc, ← Int.add_mul, Int.mul_comm (lo / q) q, e]
  have hNp : (hi * 18446744073709551616 + lo) * p = (q1 * 4294967296 + q0) * Y + R := by
    rw [Int.add_mul, hlp, Int.mul_right_comm, Int.add_mul (q1 * 4294967296), Int.mul_right_comm q1]
    omega
  have hRp : ((hi * 18446744073709551616 + lo) - (q1 * 4294967296 + q0) * y) * p = R := by
    rw [Int.sub_mul, hNp, ← hY, Int.mul_assoc]; omega
  obtain ⟨N, hN⟩ : ∃ N, hi * 18446744073709551616 + lo = N := ⟨_, rfl⟩
  obtain ⟨Z, hZ⟩ : ∃ Z, q1 * 4294967296 + q0 = Z := ⟨_, rfl⟩
  obtain ⟨T, hT⟩ : ∃ T, N - Z * y = T := ⟨_, rfl⟩
  rw [hN, hZ, hT] at hRp
  have hT0 : 0 ≤ T := by
    rcases Int.lt_or_le T 0 with g | g
    · have := mulLe (a := T) (b := -1) (c := p) (by omega) (by omega)
      omega
    · exact g
  have hTy : T < y := mulLt (c := p) (by omega) (by omega)
  have hdiv : N / y = Z ∧ N % y = T := by
    have e : N = T + y * Z := by rw [Int.mul_comm]; omega
    rw [e, Int.add_mul_ediv_left _ _ (by omega), Int.add_mul_emod_self_left, Int.ediv_eq_zero_of_lt hT0 hTy, Int.emod_eq_of_lt hT0 hTy]
    omega
  have hRT : R / p = T := by rw [← hRp]; exact Int.mul_ediv_cancel _ (by omega)
  simp (maxSteps := 2000000) only [wk0, wk1, wk2, wk3, wk4, wk5, wk6, Fr.ev, Fr.put, Fr.get, storeA, List.replicate, IntKind.bits, sevalprocAttr, gq0, g2, g8, g9, g10, gq, g17, g14, v1, v2, v3, v4, w2, w3, w4, hpp, hRT, YtoncolpkpgbfiaaDoor.D118, ty3, ty4, ty30, ty131, ty151]
  exact retB_plain (by simp [nmd_int]) (by rw [hN, hdiv.1, hdiv.2, hZ]; rfl) (by simp)
end Go.Proofs.YtoncolpkpgbfiaaDoor
