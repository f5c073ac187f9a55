/- Decimals: powers of two, quotients cut down, rounded, halved. -/
import Derived.Test.YtoncolpkpgbfiaaDoorD7
set_option linter.unusedSimpArgs false
set_option linter.unusedVariables false
set_option maxRecDepth 100000
set_option maxHeartbeats 4000000
namespace Go.Proofs.YtoncolpkpgbfiaaDoor
theorem lenD_pow (k : Nat) : lenD ((2 : Int) ^ k).natAbs ≤ k + 1 := by
  rw [Int.natAbs_pow]
  refine (lenD_le _ _).2 ?_
  have h1 : (2 : Int).natAbs ^ k ≤ 10 ^ k := Nat.pow_le_pow_left (by decide) k
  have h2 : 10 ^ (k + 1) = 10 ^ k * 10 := Nat.pow_succ ..
  have h3 : 0 < 10 ^ k := Nat.pow_pos (by decide)
  omega
theorem lenD_lit {n k : Nat} (h : n < 10 ^ k) {m : Nat} (hm : k ≤ m) : lenD n ≤ m := Nat.le_trans ((lenD_le _ _).2 h) hm
theorem mul_le_neg {x d : Int} (hx : x ≤ 0) (hd : 1 ≤ d) : x * d ≤ x := by
  have h := Int.mul_le_mul_of_nonneg_right hd (show 0 ≤ -x by omega)
  rw [Int.mul_neg, Int.mul_neg, Int.one_mul, Int.mul_comm d] at h
  omega
noncomputable def c45 : Code := Tryd.f45.body.getD .skip
theorem b45 : Tryd.f45.body = some c45 := rfl
theorem d45 : fnOk Tryd.f45 c45 = true := by kernel_rfl
def D45 : Nat → List Tag
  | 5 => [.quiet, .quiet, .seq, .seq]
  | _ => []
theorem e45 : drawsOk D45 c45 = true := by kernel_rfl
theorem decTwo_ok (n : Nat) (S : Heap) (hn : n ≤ 1000) : Call theE 45 [.int .i64 n] S (decA (2 ^ n)) S := by
  have o1 := fun S => decOf_ok 1 S (by unfold inI; omega)
  have o2 := fun S => decOf_ok 1073741824 S (by unfold inI; omega)
  have l2 : lenD (1073741824 : Int).natAbs ≤ 30000 := lenD_lit (k := 20) (by decide) (by omega)
  have mu := fun (z : Int) (h : lenD z.natAbs ≤ 30000) S => decMul_ok z 1073741824 S h l2
  have ad := fun (z : Int) (h : lenD z.natAbs ≤ 30000) S => decAdd_ok z z S (by omega) (by omega)
  simp only [decA, lstI, digs_len] at o1 o2 mu ad ⊢
  refine Call.ofC Tryd.func45 YtoncolpkpgbfiaaDoor.b45 YtoncolpkpgbfiaaDoor.d45 YtoncolpkpgbfiaaDoor.e45 (by simp [Tryd.f45]) ?_
  dsimp only [YtoncolpkpgbfiaaDoor.c45, Tryd.f45, Option.getD_some]
  iterate 2
    simp (maxSteps := 2000000) only [wk0, wk1, wk2, wk3, wk4, wk5, wk6, Fr.ev, Fr.put, Fr.get, storeA, List.replicate, IntKind.bits, sevalprocAttr, YtoncolpkpgbfiaaDoor.D45, ty2, ty3, ty4, ty102]
    try first
      | refine callThen_of (o1 _) ?_
  refine loopC_ind (fun m fr H => ∃ j : Nat, 30 * j + m = n ∧ fr.get 0 = .int .i64 n ∧ fr.get 2 = .ptr S.length 0 0 ∧ fr.get 3 = .ptr (S.length + 1) 0 0 ∧ fr.get 4 = .int .i64 ((30 * j : Nat) : Int) ∧
    H = S ++ [some ⟨[.bool false, .nils], 0⟩, some ⟨[.bool (decide ((2 : Int) ^ (30 * j) < 0)), .lst ((digs ((2 : Int) ^ (30 * j)).natAbs).map fun x => .int .i64 x) (lenD ((2 : Int) ^ (30 * j)).natAbs)], 0⟩]) ?_ (n := n) ⟨0, by omega, rfl, rfl, rfl, rfl, rfl⟩
  rintro m fr H ⟨j, hjm, g0, g2, g3, g4, rfl⟩ ih
  have w1 : IntKind.i64.wrap (((30 * j : Nat) : Int) + 30) = ((30 * (j + 1) : Nat) : Int) := by rw [wrapI (by omega)]; omega
  have lj := lenD_pow (30 * j)
  by_cases h1 : ((30 * (j + 1) : Nat) : Int) ≤ (n : Int)
  · have muj := mu ((2 : Int) ^ (30 * j)) (by omega)
    have e : (2 : Int) ^ (30 * j) * 1073741824 = 2 ^ (30 * (j + 1)) := by rw [show 30 * (j + 1) = 30 * j + 30 by omega, Int.pow_add]; rfl
    rw [e] at muj
    iterate 3
      simp (maxSteps := 2000000) only [wk0, wk1, wk2, wk3, wk4, wk5, wk6, Fr.ev, Fr.put, Fr.get, storeA, List.replicate, IntKind.bits, sevalprocAttr, g0, g2, g3, g4, w1, h1, YtoncolpkpgbfiaaDoor.D45, ty2, ty3, ty4, ty102]
      try first
        | refine callThen_of (o2 _) ?_
        | refine callThen_of (muj _) ?_
    exact ih (m - 30) _ _ (by omega) ⟨j + 1, by omega, by simp [Fr.get, g0], by simp [Fr.get, g2], by simp [Fr.get, g3], by simp [Fr.get], rfl⟩
  · have e30 : Int.tmod (n : Int) 30 = ((n - 30 * j : Nat) : Int) := by rw [Int.tmod_eq_emod_of_nonneg (by omega)]; omega
    simp (maxSteps := 2000000) only [wk0, wk1, wk2, wk3, wk4, wk5, wk6, Fr.ev, Fr.put, Fr.get, storeA, List.replicate, IntKind.bits, sevalprocAttr, g0, g2, g3, g4, w1, h1, YtoncolpkpgbfiaaDoor.D45, ty2, ty3, ty4, ty102]
    refine loopC_ind (fun m fr H => ∃ i : Nat, i + m = n - 30 * j ∧ fr.get 0 = .int .i64 n ∧ fr.get 2 = .ptr S.length 0 0 ∧ fr.get 3 = .ptr (S.length + 1) 0 0 ∧ fr.get 5 = .int .i64 (i : Int) ∧
      H = S ++ [some ⟨[.bool false, .nils], 0⟩, some ⟨[.bool (decide ((2 : Int) ^ (30 * j + i) < 0)), .lst ((digs ((2 : Int) ^ (30 * j + i)).natAbs).map fun x => .int .i64 x) (lenD ((2 : Int) ^ (30 * j + i)).natAbs)], 0⟩]) ?_ (n := n - 30 * j) ⟨0, by omega, by simp [Fr.get, g0], by simp [Fr.get, g2], by simp [Fr.get, g3], by simp [Fr.get], rfl⟩
    rintro m' fr H ⟨i, him, g0, g2, g3, g5, rfl⟩ ih'
    have wi : IntKind.i64.wrap ((i : Int) + 1) = ((i + 1 : Nat) : Int) := wrapI (by omega)
    have li := lenD_pow (30 * j + i)
    by_cases h2 : (i : Int) < ((n - 30 * j : Nat) : Int)
    · have adi := ad ((2 : Int) ^ (30 * j + i)) (by omega)
      have e : (2 : Int) ^ (30 * j + i) + 2 ^ (30 * j + i) = 2 ^ (30 * j + (i + 1)) := by rw [← Nat.add_assoc, Int.pow_succ]; omega
      rw [e] at adi
      iterate 2
        simp (maxSteps := 2000000) only [wk0, wk1, wk2, wk3, wk4, wk5, wk6, Fr.ev, Fr.put, Fr.get, storeA, List.replicate, IntKind.bits, sevalprocAttr, g0, g2, g3, g5, e30, h2, wi, YtoncolpkpgbfiaaDoor.D45, ty2, ty3, ty4, ty102]
        try first
          | refine callThen_of (adi _) ?_
      exact ih' (m' - 1) _ _ (by omega) ⟨i + 1, by omega, by simp [Fr.get, g0], by simp [Fr.get, g2], by simp [Fr.get, g3], by simp [Fr.get], rfl⟩
    · have e : 30 * j + i = n := by omega
      rw [e]
      simp (maxSteps := 2000000) only [wk0, wk1, wk2, wk3, wk4, wk5, wk6, Fr.ev, Fr.put, Fr.get, storeA, List.replicate, IntKind.bits, sevalprocAttr, g0, g2, g3, g5, e30, h2, YtoncolpkpgbfiaaDoor.D45, ty2, ty3, ty4, ty102]
      exact retB_plain (by simp [nmd_agg, nmd_bool, nmd_lst]) rfl (by simp)
theorem rnd_size (z p : Int) (hp : 0 < p) : (rnd z p).natAbs ≤ z.natAbs + 1 := by
  have h1 := Int.mul_ediv_add_emod z p
  have h2 := Int.emod_nonneg z (show p ≠ 0 by omega)
  have h3 := Int.emod_lt_of_pos z hp
  unfold rnd
  rcases Int.le_total 0 z with hz | hz
  · have h4 : z / p ≤ z := Int.ediv_le_self p hz
    have h5 : 0 ≤ z / p := Int.ediv_nonneg hz (by omega)
    split <;> omega
  · have h5 : z ≤ z / p := by
      rw [Int.le_ediv_iff_mul_le hp]
      exact mul_le_neg hz (by omega)
    have h6 : z / p ≤ 0 := by
      have := Int.ediv_le_ediv hp hz
      rwa [Int.zero_ediv] at this
    split <;> omega
end Go.Proofs.YtoncolpkpgbfiaaDoor

/- Decimals: sums that begin with a number of no digits at all. -/
set_option linter.unusedSimpArgs false
set_option linter.unusedVariables false
set_option maxRecDepth 100000
set_option maxHeartbeats 4000000
namespace Go.Proofs.YtoncolpkpgbfiaaDoor
theorem decPlusN_ok (b : Nat) (S : Heap) (hb : lenD b ≤ 90000) : Call theE 83 [.nils, lstI (digs b)] S (lstI (digs b)) S := by
  have db := digs_len b
  refine Call.ofC Tryd.func83 YtoncolpkpgbfiaaDoor.b83 YtoncolpkpgbfiaaDoor.d83 YtoncolpkpgbfiaaDoor.e83 (by simp [Tryd.f83]) ?_
  dsimp only [YtoncolpkpgbfiaaDoor.c83, Tryd.f83, Option.getD_some]
  simp (maxSteps := 2000000) only [wk0, wk1, wk2, wk3, wk4, wk5, wk6, Fr.ev, Fr.put, Fr.get, storeA, List.replicate, IntKind.bits, sevalprocAttr, lstI, db, YtoncolpkpgbfiaaDoor.D83, ty1, ty3, ty4, ty100]
  refine loopC_ind (fun m fr H => ∃ i cap : Nat, i + m = lenD b ∧ fr.get 0 = .nils ∧ fr.get 1 = .lst ((digs b).map fun x => .int .i64 x) (lenD b) ∧ fr.get 5 = .sl S.length i 0 i cap 1 ∧ fr.get 6 = .int .i64 0 ∧ fr.get 7 = .int .i64 (i : Int) ∧
    H = S ++ [some ⟨(dgN b i).map fun x => .int .i64 x, i⟩]) ?_ (n := lenD b) ⟨0, 0, by omega, rfl, rfl, rfl, rfl, rfl, rfl⟩
  rintro m fr H ⟨i, cap, him, g0, g1, g5, g6, g7, rfl⟩ ih
  have cl : (dgN b i).length = i := dgN_len _ _
  have a1 : (i + 1) * 8 ≤ maxBytes := by unfold maxBytes; omega
  have a2 : i + 1 ≤ 9223372036854775807 := by omega
  have p1 : (0 : Int) ≤ (i : Int) := by omega
  have p0 : ¬ (i : Int) < 0 := by omega
  have wi : IntKind.i64.wrap ((i : Int) + 1) = ((i + 1 : Nat) : Int) := wrapI (by omega)
  by_cases hb1 : (i : Int) < ((lenD b : Nat) : Int)
  · have gb := digs_getA b (show i < lenD b by omega)
    have y1 := dgt_lt b i
    have cs := dgN_app b i
    have z0 : (0 : Int) + ((dgt b i : Nat) : Int) = ((dgt b i : Nat) : Int) := by omega
    have wy : IntKind.i64.wrap ((dgt b i : Nat) : Int) = ((dgt b i : Nat) : Int) := wrapI (by omega)
    have e1 : Int.tmod ((dgt b i : Nat) : Int) 10 = ((dgt b i : Nat) : Int) := by rw [Int.tmod_eq_emod_of_nonneg (by omega)]; omega
    have e2 : Int.tdiv ((dgt b i : Nat) : Int) 10 = 0 := by rw [Int.tdiv_eq_ediv_of_nonneg (by omega)]; omega
    have w0 : IntKind.i64.wrap 0 = 0 := by decide
    simp (maxSteps := 2000000) only [wk0, wk1, wk2, wk3, wk4, wk5, wk6, Fr.ev, Fr.put, Fr.get, storeA, List.replicate, IntKind.bits, sevalprocAttr, g0, g1, g5, g6, g7, p0, hb1, p1, z0, wy, gb, cl, cs, a1, a2, e1, e2, w0, wi, List.length_map, Nat.mul_one, Int.toNat_natCast, YtoncolpkpgbfiaaDoor.D83, ty1, ty3, ty4, ty100]
    exact ih (m - 1) _ _ (by omega) ⟨i + 1, i + 1, by omega, by simp [Fr.get, g0], by simp [Fr.get, g1], by simp [Fr.get], by simp [Fr.get], by simp [Fr.get], rfl⟩
  · obtain rfl : i = lenD b := by omega
    have lb := lt_pow_lenD b
    have hn : b < 10 ^ (lenD b + 1) := by rw [Nat.pow_succ]; omega
    have d0 : dgt b (lenD b) = 0 := dgt_zero_of_lt lb
    have cs := dgN_app b (lenD b)
    rw [d0] at cs
    change _ ++ [AV.int .i64 0] = _ at cs
    have ht := trim_ok S.length (lenD b + 1) (lenD b + 1) (lenD b + 1) b (lenD b + 1) (S ++ [some ⟨(dgN b (lenD b + 1)).map fun x => .int .i64 x, lenD b + 1⟩]) (by omega) hn (by rw [blkAt_app0, blkAt_zero])
    rw [slD_pos (by omega)] at ht
    simp (maxSteps := 2000000) only [wk0, wk1, wk2, wk3, wk4, wk5, wk6, Fr.ev, Fr.put, Fr.get, storeA, List.replicate, IntKind.bits, sevalprocAttr, g0, g1, g5, g6, g7, p0, hb1, cl, cs, a1, a2, List.length_map, Nat.mul_one, YtoncolpkpgbfiaaDoor.D83, ty1, ty3, ty4, ty100]
    refine callThen_of ht ?_
    simp (maxSteps := 2000000) only [wk0, wk1, wk2, wk3, wk4, wk5, wk6, Fr.ev, Fr.put, Fr.get, storeA, List.replicate, IntKind.bits, sevalprocAttr, mv_slD, YtoncolpkpgbfiaaDoor.D83, ty1, ty3, ty4, ty100]
    refine retB_one ?_ (by simp)
    have h := fin_slD (base := S.length) (id := S.length) (ver := lenD b + 1) (cap := lenD b + 1) (u := lenD b + 1) (k := lenD b) (L := dgN b (lenD b + 1)) (H := S ++ [some ⟨(dgN b (lenD b + 1)).map fun x => .int .i64 x, lenD b + 1⟩]) (by omega) (by rw [blkAt_app0, blkAt_zero]) (by rw [dgN_len]; omega)
    rw [dgN_take _ (by omega)] at h
    have e : lstI (dgN b (lenD b)) = AV.lst ((digs b).map fun x => .int .i64 x) (lenD b) := by unfold lstI; rw [dgN_len]; rfl
    rw [e] at h
    exact h
theorem decAddN_ok (y : Int) (S : Heap) (hy : 0 ≤ y) (hl : lenD y.natAbs ≤ 80000) : Call theE 46 [.agg [.bool false, .nils], decA y] S (decA y) S := by
  have p := fun S => decPlusN_ok y.natAbs S (by omega)
  have n := fun S => decNum1_ok false y.natAbs S (by omega)
  have e : decA y = .agg [.bool false, lstI (digs y.natAbs)] := by unfold decA; rw [decide_eq_false (by omega)]
  rw [e]
  simp only [numA, lstI, digs_len, Bool.false_and] at p n ⊢
  refine Call.ofC Tryd.func46 YtoncolpkpgbfiaaDoor.b46 YtoncolpkpgbfiaaDoor.d46 YtoncolpkpgbfiaaDoor.e46 (by simp [Tryd.f46]) ?_
  dsimp only [YtoncolpkpgbfiaaDoor.c46, Tryd.f46, Option.getD_some]
  iterate 3
    simp (maxSteps := 2000000) only [wk0, wk1, wk2, wk3, wk4, wk5, wk6, Fr.ev, Fr.put, Fr.get, storeA, List.replicate, IntKind.bits, sevalprocAttr, beq_self_eq_true, decide_true, YtoncolpkpgbfiaaDoor.D46, ty1, ty4, ty100, ty102]
    try first
      | refine callThen_of (p _) ?_
      | refine callThen_of (n _) ?_
  exact retB_plain (by simp [nmd_agg, nmd_bool, nmd_lst]) rfl (by simp)
end Go.Proofs.YtoncolpkpgbfiaaDoor
