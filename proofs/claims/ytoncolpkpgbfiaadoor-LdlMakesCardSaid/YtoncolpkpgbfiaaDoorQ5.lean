/- math/bits: how long a number is. -/
import Derived.Test.YtoncolpkpgbfiaaDoorQ4
set_option linter.unusedSimpArgs false
set_option linter.unusedVariables false
set_option maxRecDepth 100000
set_option maxHeartbeats 4000000
namespace Go.Proofs.YtoncolpkpgbfiaaDoor
noncomputable def c109 : Code := Tryd.f109.body.getD .skip
theorem b109 : Tryd.f109.body = some c109 := rfl
theorem d109 : fnOk Tryd.f109 c109 = true := by kernel_rfl
def D109 : Nat → List Tag := fun _ => []
theorem e109 : drawsOk D109 c109 = true := by kernel_rfl
noncomputable def c121 : Code := Tryd.f121.body.getD .skip
theorem b121 : Tryd.f121.body = some c121 := rfl
theorem d121 : fnOk Tryd.f121 c121 = true := by kernel_rfl
def D121 : Nat → List Tag := fun _ => []
theorem e121 : drawsOk D121 c121 = true := by kernel_rfl
def tabOk (s : ByteArray) : Bool := (List.range 256).all fun y => match s[y]? with
  | some t => decide (y < 2 ^ t.toNat) && (decide (y = 0 ∧ t.toNat = 0) || decide (2 ^ (t.toNat - 1) ≤ y ∧ 1 ≤ t.toNat)) && decide (t.toNat ≤ 8)
  | none => false
theorem tabOk_at {s : ByteArray} (h : tabOk s = true) (y : Int) (h0 : 0 ≤ y) (h1 : y < 256) : ∃ t : UInt8, s[y.toNat]? = some t ∧ y.toNat < 2 ^ t.toNat ∧ (y = 0 ∧ t.toNat = 0 ∨ 2 ^ (t.toNat - 1) ≤ y.toNat ∧ 1 ≤ t.toNat) ∧ t.toNat ≤ 8 := by
  have h2 := List.all_eq_true.1 h y.toNat (List.mem_range.2 (by omega))
  revert h2
  cases s[y.toNat]? with
  | none => intro h2; cases h2
  | some t =>
    intro h2
    simp only [Bool.and_eq_true, Bool.or_eq_true, decide_eq_true_eq] at h2
    exact ⟨t, rfl, h2.1.1, by omega, h2.2⟩
theorem wrapB {n : Int} (h : 0 ≤ n ∧ n < 256) : IntKind.u8.wrap n = n := by
  have e : IntKind.u8.wrap n = n % 256 := by simp [IntKind.wrap, IntKind.bits, IntKind.signed]
  rw [e]; omega
def lenU (x : Nat) : Nat := if x = 0 then 0 else x.log2 + 1
theorem lenU_of {x L : Nat} (h1 : 1 ≤ L) (h2 : 2 ^ (L - 1) ≤ x) (h3 : x < 2 ^ L) : lenU x = L := by
  have h0 : x ≠ 0 := by have := Nat.two_pow_pos (L - 1); omega
  unfold lenU
  rw [if_neg h0]
  have a1 := Nat.log2_self_le h0
  have a2 := Nat.lt_log2_self (n := x)
  have b1 : x.log2 < L := (Nat.pow_lt_pow_iff_right (a := 2) (by decide)).1 (by omega)
  have b2 : L - 1 < x.log2 + 1 := (Nat.pow_lt_pow_iff_right (a := 2) (by decide)).1 (by omega)
  omega
theorem lenU_leaf {x b t : Nat} (ht : x / 2 ^ b < 2 ^ t) (h : x / 2 ^ b = 0 ∧ t = 0 ∨ 2 ^ (t - 1) ≤ x / 2 ^ b ∧ 1 ≤ t) (hb : b = 0 ∨ x / 2 ^ b ≠ 0) : lenU x = b + t := by
  have hp := Nat.two_pow_pos b
  rcases h with ⟨h1, h2⟩ | ⟨h1, h2⟩
  · have hb0 : b = 0 := by omega
    subst hb0
    simp at h1
    subst h1
    simp [lenU, h2]
  · refine lenU_of (by omega) ?_ ?_
    · have e : 2 ^ (b + t - 1) = 2 ^ (t - 1) * 2 ^ b := by rw [← Nat.pow_add]; congr 1; omega
      rw [e]
      exact (Nat.le_div_iff_mul_le hp).1 h1
    · rw [Nat.add_comm, Nat.pow_add]
      exact (Nat.div_lt_iff_lt_mul hp).1 ht
theorem len64_ok (x : Int) (S : Heap) (hx : 0 ≤ x ∧ x < 18446744073709551616) : Call theE 109 [.int .u64 x] S (.int .i64 (lenU x.toNat)) S := by
  refine Call.ofC Tryd.func109 YtoncolpkpgbfiaaDoor.b109 YtoncolpkpgbfiaaDoor.d109 YtoncolpkpgbfiaaDoor.e109 (by simp [Tryd.f109]) ?_
  dsimp only [YtoncolpkpgbfiaaDoor.c109, Tryd.f109, Option.getD_some]
  by_cases h32 : 4294967296 ≤ x
  · simp (maxSteps := 2000000) only [wk0, wk1, wk2, wk3, wk4, wk5, wk6, Fr.ev, Fr.put, Fr.get, storeA, List.replicate, IntKind.bits, sevalprocAttr, shr0, h32, YtoncolpkpgbfiaaDoor.D109, ty3, ty4, ty5, ty9, ty131, ty151]
    by_cases h16 : 65536 ≤ x / 4294967296
    · simp (maxSteps := 2000000) only [wk0, wk1, wk2, wk3, wk4, wk5, wk6, Fr.ev, Fr.put, Fr.get, storeA, List.replicate, IntKind.bits, sevalprocAttr, shr0, h16, YtoncolpkpgbfiaaDoor.D109, ty3, ty4, ty5, ty9, ty131, ty151]
      by_cases h8 : 256 ≤ x / 4294967296 / 65536
      · simp (maxSteps := 2000000) only [wk0, wk1, wk2, wk3, wk4, wk5, wk6, Fr.ev, Fr.put, Fr.get, storeA, List.replicate, IntKind.bits, sevalprocAttr, shr0, h8, YtoncolpkpgbfiaaDoor.D109, ty3, ty4, ty5, ty9, ty131, ty151]
        have hy : 0 ≤ x / 4294967296 / 65536 / 256 ∧ x / 4294967296 / 65536 / 256 < 256 := by omega
        have k0 := hy.1
        have wy := wrapB hy
        simp (maxSteps := 2000000) only [wk0, wk1, wk2, wk3, wk4, wk5, wk6, Fr.ev, Fr.put, Fr.get, storeA, List.replicate, IntKind.bits, sevalprocAttr, shr0, wy, k0, indexA, YtoncolpkpgbfiaaDoor.D109, ty3, ty4, ty5, ty9, ty131, ty151]
        generalize hs : (ByteArray.mk _) = s
        have hT : tabOk s = true := by rw [← hs]; decide +kernel
        obtain ⟨t, e1, e2, e3, e4⟩ := tabOk_at hT (x / 4294967296 / 65536 / 256) hy.1 hy.2
        have w2 : IntKind.i64.wrap (t.toNat : Int) = t.toNat := wrapI (by omega)
        have w3 : IntKind.i64.wrap (56 + (t.toNat : Int)) = 56 + t.toNat := wrapI (by omega)
        simp (maxSteps := 2000000) only [wk0, wk1, wk2, wk3, wk4, wk5, wk6, Fr.ev, Fr.put, Fr.get, storeA, List.replicate, IntKind.bits, sevalprocAttr, e1, w2, w3, YtoncolpkpgbfiaaDoor.D109, ty3, ty4, ty5, ty9, ty131, ty151]
        have hd : (x / 4294967296 / 65536 / 256).toNat = x.toNat / 2 ^ 56 := by omega
        have hl : lenU x.toNat = 56 + t.toNat := lenU_leaf (by rw [← hd]; exact e2) (by rw [← hd]; omega) (by rw [← hd]; omega)
        exact retB_plain (by simp [nmd_int]) (by rw [hl]; simp [packA]) (by simp)
      · simp (maxSteps := 2000000) only [wk0, wk1, wk2, wk3, wk4, wk5, wk6, Fr.ev, Fr.put, Fr.get, storeA, List.replicate, IntKind.bits, sevalprocAttr, shr0, h8, YtoncolpkpgbfiaaDoor.D109, ty3, ty4, ty5, ty9, ty131, ty151]
        have hy : 0 ≤ x / 4294967296 / 65536 ∧ x / 4294967296 / 65536 < 256 := by omega
        have k0 := hy.1
        have wy := wrapB hy
        simp (maxSteps := 2000000) only [wk0, wk1, wk2, wk3, wk4, wk5, wk6, Fr.ev, Fr.put, Fr.get, storeA, List.replicate, IntKind.bits, sevalprocAttr, shr0, wy, k0, indexA, YtoncolpkpgbfiaaDoor.D109, ty3, ty4, ty5, ty9, ty131, ty151]
        generalize hs : (ByteArray.mk _) = s
        have hT : tabOk s = true := by rw [← hs]; decide +kernel
        obtain ⟨t, e1, e2, e3, e4⟩ := tabOk_at hT (x / 4294967296 / 65536) hy.1 hy.2
        have w2 : IntKind.i64.wrap (t.toNat : Int) = t.toNat := wrapI (by omega)
        have w3 : IntKind.i64.wrap (48 + (t.toNat : Int)) = 48 + t.toNat := wrapI (by omega)
        simp (maxSteps := 2000000) only [wk0, wk1, wk2, wk3, wk4, wk5, wk6, Fr.ev, Fr.put, Fr.get, storeA, List.replicate, IntKind.bits, sevalprocAttr, e1, w2, w3, YtoncolpkpgbfiaaDoor.D109, ty3, ty4, ty5, ty9, ty131, ty151]
        have hd : (x / 4294967296 / 65536).toNat = x.toNat / 2 ^ 48 := by omega
        have hl : lenU x.toNat = 48 + t.toNat := lenU_leaf (by rw [← hd]; exact e2) (by rw [← hd]; omega) (by rw [← hd]; omega)
        exact retB_plain (by simp [nmd_int]) (by rw [hl]; simp [packA]) (by simp)
    · simp (maxSteps := 2000000) only [wk0, wk1, wk2, wk3, wk4, wk5, wk6, Fr.ev, Fr.put, Fr.get, storeA, List.replicate, IntKind.bits, sevalprocAttr, shr0, h16, YtoncolpkpgbfiaaDoor.D109, ty3, ty4, ty5, ty9, ty131, ty151]
      by_cases h8 : 256 ≤ x / 4294967296
      · simp (maxSteps := 2000000) only [wk0, wk1, wk2, wk3, wk4, wk5, wk6, Fr.ev, Fr.put, Fr.get, storeA, List.replicate, IntKind.bits, sevalprocAttr, shr0, h8, YtoncolpkpgbfiaaDoor.D109, ty3, ty4, ty5, ty9, ty131, ty151]
        have hy : 0 ≤ x / 4294967296 / 256 ∧ x / 4294967296 / 256 < 256 := by omega
        have k0 := hy.1
        have wy := wrapB hy
        simp (maxSteps := 2000000) only [wk0, wk1, wk2, wk3, wk4, wk5, wk6, Fr.ev, Fr.put, Fr.get, storeA, List.replicate, IntKind.bits, sevalprocAttr, shr0, wy, k0, indexA, YtoncolpkpgbfiaaDoor.D109, ty3, ty4, ty5, ty9, ty131, ty151]
        generalize hs : (ByteArray.mk _) = s
        have hT : tabOk s = true := by rw [← hs]; decide +kernel
        obtain ⟨t, e1, e2, e3, e4⟩ := tabOk_at hT (x / 4294967296 / 256) hy.1 hy.2
        have w2 : IntKind.i64.wrap (t.toNat : Int) = t.toNat := wrapI (by omega)
        have w3 : IntKind.i64.wrap (40 + (t.toNat : Int)) = 40 + t.toNat := wrapI (by omega)
        simp (maxSteps := 2000000) only [wk0, wk1, wk2, wk3, wk4, wk5, wk6, Fr.ev, Fr.put, Fr.get, storeA, List.replicate, IntKind.bits, sevalprocAttr, e1, w2, w3, YtoncolpkpgbfiaaDoor.D109, ty3, ty4, ty5, ty9, ty131, ty151]
        have hd : (x / 4294967296 / 256).toNat = x.toNat / 2 ^ 40 := by omega
        have hl : lenU x.toNat = 40 + t.toNat := lenU_leaf (by rw [← hd]; exact e2) (by rw [← hd]; omega) (by rw [← hd]; omega)
        exact retB_plain (by simp [nmd_int]) (by rw [hl]; simp [packA]) (by simp)
      · simp (maxSteps := 2000000) only [wk0, wk1, wk2, wk3, wk4, wk5, wk6, Fr.ev, Fr.put, Fr.get, storeA, List.replicate, IntKind.bits, sevalprocAttr, shr0, h8, YtoncolpkpgbfiaaDoor.D109, ty3, ty4, ty5, ty9, ty131, ty151]
        have hy : 0 ≤ x / 4294967296 ∧ x / 4294967296 < 256 := by omega
        have k0 := hy.1
        have wy := wrapB hy
        simp (maxSteps := 2000000) only [wk0, wk1, wk2, wk3, wk4, wk5, wk6, Fr.ev, Fr.put, Fr.get, storeA, List.replicate, IntKind.bits, sevalprocAttr, shr0, wy, k0, indexA, YtoncolpkpgbfiaaDoor.D109, ty3, ty4, ty5, ty9, ty131, ty151]
        generalize hs : (ByteArray.mk _) = s
        have hT : tabOk s = true := by rw [← hs]; decide +kernel
        obtain ⟨t, e1, e2, e3, e4⟩ := tabOk_at hT (x / 4294967296) hy.1 hy.2
        have w2 : IntKind.i64.wrap (t.toNat : Int) = t.toNat := wrapI (by omega)
        have w3 : IntKind.i64.wrap (32 + (t.toNat : Int)) = 32 + t.toNat := wrapI (by omega)
        simp (maxSteps := 2000000) only [wk0, wk1, wk2, wk3, wk4, wk5, wk6, Fr.ev, Fr.put, Fr.get, storeA, List.replicate, IntKind.bits, sevalprocAttr, e1, w2, w3, YtoncolpkpgbfiaaDoor.D109, ty3, ty4, ty5, ty9, ty131, ty151]
        have hd : (x / 4294967296).toNat = x.toNat / 2 ^ 32 := by omega
        have hl : lenU x.toNat = 32 + t.toNat := lenU_leaf (by rw [← hd]; exact e2) (by rw [← hd]; omega) (by rw [← hd]; omega)
        exact retB_plain (by simp [nmd_int]) (by rw [hl]; simp [packA]) (by simp)
  · simp (maxSteps := 2000000) only [wk0, wk1, wk2, wk3, wk4, wk5, wk6, Fr.ev, Fr.put, Fr.get, storeA, List.replicate, IntKind.bits, sevalprocAttr, shr0, h32, YtoncolpkpgbfiaaDoor.D109, ty3, ty4, ty5, ty9, ty131, ty151]
    by_cases h16 : 65536 ≤ x
    · simp (maxSteps := 2000000) only [wk0, wk1, wk2, wk3, wk4, wk5, wk6, Fr.ev, Fr.put, Fr.get, storeA, List.replicate, IntKind.bits, sevalprocAttr, shr0, h16, YtoncolpkpgbfiaaDoor.D109, ty3, ty4, ty5, ty9, ty131, ty151]
      by_cases h8 : 256 ≤ x / 65536
      · simp (maxSteps := 2000000) only [wk0, wk1, wk2, wk3, wk4, wk5, wk6, Fr.ev, Fr.put, Fr.get, storeA, List.replicate, IntKind.bits, sevalprocAttr, shr0, h8, YtoncolpkpgbfiaaDoor.D109, ty3, ty4, ty5, ty9, ty131, ty151]
        have hy : 0 ≤ x / 65536 / 256 ∧ x / 65536 / 256 < 256 := by omega
        have k0 := hy.1
        have wy := wrapB hy
        simp (maxSteps := 2000000) only [wk0, wk1, wk2, wk3, wk4, wk5, wk6, Fr.ev, Fr.put, Fr.get, storeA, List.replicate, IntKind.bits, sevalprocAttr, shr0, wy, k0, indexA, YtoncolpkpgbfiaaDoor.D109, ty3, ty4, ty5, ty9, ty131, ty151]
        generalize hs : (ByteArray.mk _) = s
        have hT : tabOk s = true := by rw [← hs]; decide +kernel
        obtain ⟨t, e1, e2, e3, e4⟩ := tabOk_at hT (x / 65536 / 256) hy.1 hy.2
        have w2 : IntKind.i64.wrap (t.toNat : Int) = t.toNat := wrapI (by omega)
        have w3 : IntKind.i64.wrap (24 + (t.toNat : Int)) = 24 + t.toNat := wrapI (by omega)
        simp (maxSteps := 2000000) only [wk0, wk1, wk2, wk3, wk4, wk5, wk6, Fr.ev, Fr.put, Fr.get, storeA, List.replicate, IntKind.bits, sevalprocAttr, e1, w2, w3, YtoncolpkpgbfiaaDoor.D109, ty3, ty4, ty5, ty9, ty131, ty151]
        have hd : (x / 65536 / 256).toNat = x.toNat / 2 ^ 24 := by omega
        have hl : lenU x.toNat = 24 + t.toNat := lenU_leaf (by rw [← hd]; exact e2) (by rw [← hd]; omega) (by rw [← hd]; omega)
        exact retB_plain (by simp [nmd_int]) (by rw [hl]; simp [packA]) (by simp)
      · simp (maxSteps := 2000000) only [wk0, wk1, wk2, wk3, wk4, wk5, wk6, Fr.ev, Fr.put, Fr.get, storeA, List.replicate, IntKind.bits, sevalprocAttr, shr0, h8, YtoncolpkpgbfiaaDoor.D109, ty3, ty4, ty5, ty9, ty131, ty151]
        have hy : 0 ≤ x / 65536 ∧ x / 65536 < 256 := by omega
        have k0 := hy.1
        have wy := wrapB hy
        simp (maxSteps := 2000000) only [wk0, wk1, wk2, wk3, wk4, wk5, wk6, Fr.ev, Fr.put, Fr.get, storeA, List.replicate, IntKind.bits, sevalprocAttr, shr0, wy, k0, indexA, YtoncolpkpgbfiaaDoor.D109, ty3, ty4, ty5, ty9, ty131, ty151]
        generalize hs : (ByteArray.mk _) = s
        have hT : tabOk s = true := by rw [← hs]; decide +kernel
        obtain ⟨t, e1, e2, e3, e4⟩ := tabOk_at hT (x / 65536) hy.1 hy.2
        have w2 : IntKind.i64.wrap (t.toNat : Int) = t.toNat := wrapI (by omega)
        have w3 : IntKind.i64.wrap (16 + (t.toNat : Int)) = 16 + t.toNat := wrapI (by omega)
        simp (maxSteps := 2000000) only [wk0, wk1, wk2, wk3, wk4, wk5, wk6, Fr.ev, Fr.put, Fr.get, storeA, List.replicate, IntKind.bits, sevalprocAttr, e1, w2, w3, YtoncolpkpgbfiaaDoor.D109, ty3, ty4, ty5, ty9, ty131, ty151]
        have hd : (x / 65536).toNat = x.toNat / 2 ^ 16 := by omega
        have hl : lenU x.toNat = 16 + t.toNat := lenU_leaf (by rw [← hd]; exact e2) (by rw [← hd]; omega) (by rw [← hd]; omega)
        exact retB_plain (by simp [nmd_int]) (by rw [hl]; simp [packA]) (by simp)
    · simp (maxSteps := 2000000) only [wk0, wk1, wk2, wk3, wk4, wk5, wk6, Fr.ev, Fr.put, Fr.get, storeA, List.replicate, IntKind.bits, sevalprocAttr, shr0, h16, YtoncolpkpgbfiaaDoor.D109, ty3, ty4, ty5, ty9, ty131, ty151]
      by_cases h8 : 256 ≤ x
      · simp (maxSteps := 2000000) only [wk0, wk1, wk2, wk3, wk4, wk5, wk6, Fr.ev, Fr.put, Fr.get, storeA, List.replicate, IntKind.bits, sevalprocAttr, shr0, h8, YtoncolpkpgbfiaaDoor.D109, ty3, ty4, ty5, ty9, ty131, ty151]
        have hy : 0 ≤ x / 256 ∧ x / 256 < 256 := by omega
        have k0 := hy.1
        have wy := wrapB hy
        simp (maxSteps := 2000000) only [wk0, wk1, wk2, wk3, wk4, wk5, wk6, Fr.ev, Fr.put, Fr.get, storeA, List.replicate, IntKind.bits, sevalprocAttr, shr0, wy, k0, indexA, YtoncolpkpgbfiaaDoor.D109, ty3, ty4, ty5, ty9, ty131, ty151]
        generalize hs : (ByteArray.mk _) = s
        have hT : tabOk s = true := by rw [← hs]; decide +kernel
        obtain ⟨t, e1, e2, e3, e4⟩ := tabOk_at hT (x / 256) hy.1 hy.2
        have w2 : IntKind.i64.wrap (t.toNat : Int) = t.toNat := wrapI (by omega)
        have w3 : IntKind.i64.wrap (8 + (t.toNat : Int)) = 8 + t.toNat := wrapI (by omega)
        simp (maxSteps := 2000000) only [wk0, wk1, wk2, wk3, wk4, wk5, wk6, Fr.ev, Fr.put, Fr.get, storeA, List.replicate, IntKind.bits, sevalprocAttr, e1, w2, w3, YtoncolpkpgbfiaaDoor.D109, ty3, ty4, ty5, ty9, ty131, ty151]
        have hd : (x / 256).toNat = x.toNat / 2 ^ 8 := by omega
        have hl : lenU x.toNat = 8 + t.toNat := lenU_leaf (by rw [← hd]; exact e2) (by rw [← hd]; omega) (by rw [← hd]; omega)
        exact retB_plain (by simp [nmd_int]) (by rw [hl]; simp [packA]) (by simp)
      · simp (maxSteps := 2000000) only [wk0, wk1, wk2, wk3, wk4, wk5, wk6, Fr.ev, Fr.put, Fr.get, storeA, List.replicate, IntKind.bits, sevalprocAttr, shr0, h8, YtoncolpkpgbfiaaDoor.D109, ty3, ty4, ty5, ty9, ty131, ty151]
        have hy : 0 ≤ x ∧ x < 256 := by omega
        have k0 := hy.1
        have wy := wrapB hy
        simp (maxSteps := 2000000) only [wk0, wk1, wk2, wk3, wk4, wk5, wk6, Fr.ev, Fr.put, Fr.get, storeA, List.replicate, IntKind.bits, sevalprocAttr, shr0, wy, k0, indexA, YtoncolpkpgbfiaaDoor.D109, ty3, ty4, ty5, ty9, ty131, ty151]
        generalize hs : (ByteArray.mk _) = s
        have hT : tabOk s = true := by rw [← hs]; decide +kernel
        obtain ⟨t, e1, e2, e3, e4⟩ := tabOk_at hT (x) hy.1 hy.2
        have w2 : IntKind.i64.wrap (t.toNat : Int) = t.toNat := wrapI (by omega)
        have w3 : IntKind.i64.wrap (0 + (t.toNat : Int)) = 0 + t.toNat := wrapI (by omega)
        simp (maxSteps := 2000000) only [wk0, wk1, wk2, wk3, wk4, wk5, wk6, Fr.ev, Fr.put, Fr.get, storeA, List.replicate, IntKind.bits, sevalprocAttr, e1, w2, w3, YtoncolpkpgbfiaaDoor.D109, ty3, ty4, ty5, ty9, ty131, ty151]
        have hd : (x).toNat = x.toNat / 2 ^ 0 := by omega
        have hl : lenU x.toNat = 0 + t.toNat := lenU_leaf (by rw [← hd]; exact e2) (by rw [← hd]; omega) (by rw [← hd]; omega)
        exact retB_plain (by simp [nmd_int]) (by rw [hl]; simp [packA]) (by simp)
theorem lz64_ok (x : Int) (S : Heap) (hx : 0 ≤ x ∧ x < 18446744073709551616) : Call theE 121 [.int .u64 x] S (.int .i64 (64 - lenU x.toNat)) S := by
  have hL : lenU x.toNat ≤ 64 := by
    unfold lenU
    split
    · omega
    · rename_i h
      have a1 := Nat.log2_self_le h
      have b1 : x.toNat.log2 < 64 := (Nat.pow_lt_pow_iff_right (a := 2) (by decide)).1 (by omega)
      omega
  have w : IntKind.i64.wrap (64 - (lenU x.toNat : Int)) = 64 - lenU x.toNat := wrapI (by omega)
  refine Call.ofC Tryd.func121 YtoncolpkpgbfiaaDoor.b121 YtoncolpkpgbfiaaDoor.d121 YtoncolpkpgbfiaaDoor.e121 (by simp [Tryd.f121]) ?_
  dsimp only [YtoncolpkpgbfiaaDoor.c121, Tryd.f121, Option.getD_some]
  simp (maxSteps := 2000000) only [wk0, wk1, wk2, wk3, wk4, wk5, wk6, Fr.ev, Fr.put, Fr.get, storeA, List.replicate, IntKind.bits, sevalprocAttr, YtoncolpkpgbfiaaDoor.D121, ty3, ty151]
  refine callThen_of (len64_ok x _ hx) ?_
  simp (maxSteps := 2000000) only [wk0, wk1, wk2, wk3, wk4, wk5, wk6, Fr.ev, Fr.put, Fr.get, storeA, List.replicate, IntKind.bits, sevalprocAttr, w, YtoncolpkpgbfiaaDoor.D121, ty3, ty151]
  exact retB_plain (by simp [nmd_int]) rfl (by simp)
end Go.Proofs.YtoncolpkpgbfiaaDoor
