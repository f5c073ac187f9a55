/- Decimals: products. -/
import Derived.Test.YtoncolpkpgbfiaaDoorD5
set_option linter.unusedSimpArgs false
set_option linter.unusedVariables false
set_option maxRecDepth 100000
set_option maxHeartbeats 4000000
namespace Go.Proofs.YtoncolpkpgbfiaaDoor
theorem make_at {S : Heap} {e n : Nat} {L : Heap} (hn : n ≤ 1000000) : makeSliceA (S ++ L) (.slice e 1 8 [.int .i64 0]) (.int .i64 n) (.int .i64 n) = some (.sl (S.length + L.length) 0 0 n n 1, S ++ (L ++ [some ⟨(fnL (fun _ => 0) n).map fun x => .int .i64 x, 0⟩])) := by
  have h : makeSliceA (S ++ L) (.slice e 1 8 [.int .i64 0]) (.int .i64 n) (.int .i64 n) = if 0 ≤ (n : Int) ∧ (n : Int) ≤ n ∧ (n : Int).toNat * 8 ≤ maxBytes ∧ (n : Int) ≤ 9223372036854775807 ∧ [AV.int .i64 0].length = 1 then
    some (.sl (S ++ L).length 0 0 (n : Int).toNat (n : Int).toNat 1, (S ++ L) ++ [some ⟨zeros [.int .i64 0] (n : Int).toNat, 0⟩]) else none := rfl
  rw [h, if_pos ⟨by omega, by omega, by unfold maxBytes; omega, by omega, rfl⟩, Int.toNat_natCast, fnL_zeros, List.length_append, List.append_assoc]
theorem one_slD {id ver k cap : Nat} : (slD id ver k cap).one = true := by unfold slD; split <;> rfl
theorem nmd_slD {n id ver k cap : Nat} (h : id < n) : Nmd n (slD id ver k cap) := by
  unfold slD
  split
  · exact .lst _ _
  · exact .sl _ _ _ _ _ _ h
theorem decNumD_ok (neg : Bool) (id ver k cap : Nat) (S : Heap) (hid : id < S.length) : Call theE 81 [.bool neg, slD id ver k cap] S (.agg [.bool (neg && decide (0 < k)), slD id ver k cap]) S := by
  have hn := nmd_slD (n := S.length) (ver := ver) (k := k) (cap := cap) hid
  refine Call.ofC Tryd.func81 YtoncolpkpgbfiaaDoor.b81 YtoncolpkpgbfiaaDoor.d81 YtoncolpkpgbfiaaDoor.e81 (by simp [Tryd.f81]) ?_
  dsimp only [YtoncolpkpgbfiaaDoor.c81, Tryd.f81, Option.getD_some]
  by_cases hk : k = 0
  · subst hk
    rw [slD_zero] at hn ⊢
    cases neg with
    | false =>
      simp (maxSteps := 2000000) only [wk0, wk1, wk2, wk3, wk4, wk5, wk6, Fr.ev, Fr.put, Fr.get, storeA, List.replicate, IntKind.bits, sevalprocAttr, YtoncolpkpgbfiaaDoor.D81, ty3, ty4, ty100, ty102]
      exact retB_plain (by simp [nmd_agg, nmd_bool, nmd_lst]) (by simp [packA]) (by simp)
    | true =>
      simp (maxSteps := 2000000) only [wk0, wk1, wk2, wk3, wk4, wk5, wk6, Fr.ev, Fr.put, Fr.get, storeA, List.replicate, IntKind.bits, sevalprocAttr, YtoncolpkpgbfiaaDoor.D81, ty3, ty4, ty100, ty102]
      exact retB_plain (by simp [nmd_agg, nmd_bool, nmd_lst]) (by simp [packA]) (by simp)
  · rw [slD_pos hk] at hn ⊢
    have p1 : (0 : Int) < (k : Int) := by omega
    have p2 : 0 < k := by omega
    cases neg with
    | false =>
      simp (maxSteps := 2000000) only [wk0, wk1, wk2, wk3, wk4, wk5, wk6, Fr.ev, Fr.put, Fr.get, storeA, List.replicate, IntKind.bits, sevalprocAttr, YtoncolpkpgbfiaaDoor.D81, ty3, ty4, ty100, ty102]
      exact retB_plain (by simp [nmd_agg, nmd_bool, hn]) (by simp [packA]) (by simp)
    | true =>
      simp (maxSteps := 2000000) only [wk0, wk1, wk2, wk3, wk4, wk5, wk6, Fr.ev, Fr.put, Fr.get, storeA, List.replicate, IntKind.bits, sevalprocAttr, p1, YtoncolpkpgbfiaaDoor.D81, ty3, ty4, ty100, ty102]
      exact retB_plain (by simp [nmd_agg, nmd_bool, hn]) (by simp [packA, p2]) (by simp)
noncomputable def c43 : Code := Tryd.f43.body.getD .skip
theorem b43 : Tryd.f43.body = some c43 := rfl
theorem d43 : fnOk Tryd.f43 c43 = true := by kernel_rfl
def D43 : Nat → List Tag
  | 11 => [.pure, .pure, .quiet, .pure, .pure, .quiet, .pure, .quiet, .pure, .pure, .quiet, .pure, .pure, .pure]
  | 14 => [.pure, .quiet, .pure, .quiet, .pure, .pure, .quiet, .seq, .seq]
  | _ => []
theorem e43 : drawsOk D43 c43 = true := by kernel_rfl
theorem decMul1_ok (sx sy : Bool) (a b : Nat) (S : Heap) (ha : lenD a ≤ 30000) (hb : lenD b ≤ 30000) : Call theE 43 [decS sx a, decS sy b] S (numA (!(sx == sy)) (a * b)) S := by
  have da := digs_len a
  have db := digs_len b
  obtain ⟨n, hn⟩ : ∃ n, lenD a + lenD b + 1 = n := ⟨_, rfl⟩
  have w1 : IntKind.i64.wrap (((lenD a : Nat) : Int) + ((lenD b : Nat) : Int)) = ((lenD a : Nat) : Int) + ((lenD b : Nat) : Int) := wrapI (by omega)
  have w2 : IntKind.i64.wrap (((lenD a : Nat) : Int) + ((lenD b : Nat) : Int) + 1) = (n : Int) := by rw [wrapI (by omega)]; omega
  have mk : ∀ (x y z : Option Blk) e, makeSliceA (S ++ [x, y, z]) (.slice e 1 8 [.int .i64 0]) (.int .i64 n) (.int .i64 n) = some (.sl (S.length + 3) 0 0 n n 1, S ++ [x, y, z, some ⟨(fnL (fun _ => 0) n).map fun x => .int .i64 x, 0⟩]) := fun x y z e => make_at (by omega)
  refine Call.ofC Tryd.func43 YtoncolpkpgbfiaaDoor.b43 YtoncolpkpgbfiaaDoor.d43 YtoncolpkpgbfiaaDoor.e43 (by simp [Tryd.f43]) ?_
  dsimp only [YtoncolpkpgbfiaaDoor.c43, Tryd.f43, Option.getD_some]
  simp (maxSteps := 2000000) only [wk0, wk1, wk2, wk3, wk4, wk5, wk6, Fr.ev, Fr.put, Fr.get, storeA, List.replicate, IntKind.bits, sevalprocAttr, decS, lstI, da, db, w1, w2, mk, YtoncolpkpgbfiaaDoor.D43, ty1, ty3, ty4, ty100, ty102]
  refine loopC_ind (fun m fr H => ∃ i : Nat, i + m = lenD a ∧ fr.get 2 = .ptr S.length 0 0 ∧ fr.get 3 = .ptr (S.length + 1) 0 0 ∧ fr.get 4 = .ptr (S.length + 2) 0 0 ∧ fr.get 5 = .sl (S.length + 3) 0 0 n n 1 ∧ fr.get 6 = .int .i64 (i : Int) ∧
    H = S ++ [some ⟨[.bool sx, .lst ((digs a).map fun x => .int .i64 x) (lenD a)], 0⟩, some ⟨[.bool sy, .lst ((digs b).map fun x => .int .i64 x) (lenD b)], 0⟩, some ⟨[.bool false, .nils], 0⟩, some ⟨(dgN (muX a b i) n).map fun x => .int .i64 x, 0⟩]) ?_ (n := lenD a)
    ⟨0, by omega, rfl, rfl, rfl, rfl, rfl, by
      have e : fnL (fun _ => 0) n = dgN (muX a b 0) n := by rw [muX_zero, ← fnL_dgt]; exact fnL_congr fun k _ => by simp [dgt]
      rw [e]⟩
  rintro m fr H ⟨i, him, g2, g3, g4, g5, g6, rfl⟩ ih
  by_cases hi : (i : Int) < ((lenD a : Nat) : Int)
  · have hin : i < lenD a := by omega
    have wi : IntKind.i64.wrap ((i : Int) + 1) = ((i + 1 : Nat) : Int) := wrapI (by omega)
    have ga := digs_getA a hin
    have pi : (0 : Int) ≤ (i : Int) := by omega
    simp (maxSteps := 2000000) only [wk0, wk1, wk2, wk3, wk4, wk5, wk6, Fr.ev, Fr.put, Fr.get, storeA, List.replicate, IntKind.bits, sevalprocAttr, g2, g3, g4, g5, g6, hi, YtoncolpkpgbfiaaDoor.D43, ty1, ty3, ty4, ty100, ty102]
    refine loopC_ind (fun m fr H => ∃ j : Nat, j + m = lenD b + 1 ∧ fr.get 2 = .ptr S.length 0 0 ∧ fr.get 3 = .ptr (S.length + 1) 0 0 ∧ fr.get 4 = .ptr (S.length + 2) 0 0 ∧ fr.get 5 = .sl (S.length + 3) 0 0 n n 1 ∧ fr.get 6 = .int .i64 (i : Int) ∧
      fr.get 7 = .int .i64 ((maC (muX a b i / 10 ^ i) (dgt a i) b j : Nat) : Int) ∧ fr.get 8 = .int .i64 (j : Int) ∧
      H = S ++ [some ⟨[.bool sx, .lst ((digs a).map fun x => .int .i64 x) (lenD a)], 0⟩, some ⟨[.bool sy, .lst ((digs b).map fun x => .int .i64 x) (lenD b)], 0⟩, some ⟨[.bool false, .nils], 0⟩, some ⟨(fnL (mxD (muX a b i) (muX a b (i + 1)) (i + j)) n).map fun x => .int .i64 x, 0⟩]) ?_ (n := lenD b + 1)
      ⟨0, by omega, by simp [Fr.get, g2], by simp [Fr.get, g3], by simp [Fr.get, g4], by simp [Fr.get, g5], by simp [Fr.get, g6], by rw [maC_zero]; rfl, rfl, by
        rw [← fnL_dgt, fnL_congr (f := mxD (muX a b i) (muX a b (i + 1)) (i + 0)) (g := fun k => ((dgt (muX a b i) k : Nat) : Int)) fun k _ => mxD_begin a b i k]⟩
    rintro m' fr H ⟨j, hjm, g2, g3, g4, g5, g6, g7, g8, rfl⟩ ihj
    by_cases hj : (j : Int) ≤ ((lenD b : Nat) : Int)
    · have wj : IntKind.i64.wrap ((j : Int) + 1) = ((j + 1 : Nat) : Int) := wrapI (by omega)
      have wij : IntKind.i64.wrap ((i : Int) + (j : Int)) = ((i + j : Nat) : Int) := wrapI (by omega)
      have q1 : (0 : Int) ≤ ((i + j : Nat) : Int) := by omega
      have q2 : ((i + j : Nat) : Int) < (n : Int) := by omega
      have q3 : i + j + 1 ≤ n := by omega
      have gx := fnL_getA (mxD (muX a b i) (muX a b (i + 1)) (i + j)) (show i + j < n by omega)
      rw [mxD_at, dgt_shift] at gx
      have st := fnL_setA (mxD (muX a b i) (muX a b (i + 1)) (i + j)) n (i + j) ((dgt (muX a b (i + 1)) (i + j) : Nat) : Int)
      rw [mxD_set, dgt_shift (muX a b (i + 1)), muX_high] at st
      have hd := dgt_lt a i
      have c1 := maC_lt hd (muX a b i / 10 ^ i) b j
      have c2 := maC_lt hd (muX a b i / 10 ^ i) b (j + 1)
      have x1 := dgt_lt (muX a b i / 10 ^ i) j
      have y1 := dgt_lt b j
      have s1 := maC_dgt (muX a b i / 10 ^ i) (dgt a i) b j
      have s2 := maC_step (muX a b i / 10 ^ i) (dgt a i) b j
      have z1 := dgt_lt (muX a b i / 10 ^ i + dgt a i * b) j
      have zP : dgt a i * dgt b j ≤ 9 * 9 := Nat.mul_le_mul (by omega) (by omega)
      have eP : ((dgt a i : Nat) : Int) * ((dgt b j : Nat) : Int) = ((dgt a i * dgt b j : Nat) : Int) := by rw [Int.natCast_mul]
      generalize hP : dgt a i * dgt b j = P at *
      generalize hC : maC (muX a b i / 10 ^ i) (dgt a i) b j = c at *
      generalize hC' : maC (muX a b i / 10 ^ i) (dgt a i) b (j + 1) = c' at *
      generalize hX : dgt (muX a b i / 10 ^ i) j = x at *
      generalize hZ : dgt (muX a b i / 10 ^ i + dgt a i * b) j = z at *
      have wv : IntKind.i64.wrap ((x : Int) + (c : Int)) = (x : Int) + (c : Int) := wrapI (by omega)
      have wz : IntKind.i64.wrap ((c' : Nat) : Int) = ((c' : Nat) : Int) := wrapI (by omega)
      by_cases hj2 : (j : Int) < ((lenD b : Nat) : Int)
      · have gb := digs_getA b (show j < lenD b by omega)
        have pj : (0 : Int) ≤ (j : Int) := by omega
        have wp : IntKind.i64.wrap ((P : Nat) : Int) = ((P : Nat) : Int) := wrapI (by omega)
        have wq : IntKind.i64.wrap ((x : Int) + (c : Int) + (P : Int)) = (x : Int) + (c : Int) + (P : Int) := wrapI (by omega)
        have e1 : Int.tmod ((x : Int) + (c : Int) + (P : Int)) 10 = (z : Int) := by rw [Int.tmod_eq_emod_of_nonneg (by omega)]; omega
        have e2 : Int.tdiv ((x : Int) + (c : Int) + (P : Int)) 10 = (c' : Int) := by rw [Int.tdiv_eq_ediv_of_nonneg (by omega)]; omega
        simp (maxSteps := 2000000) only [wk0, wk1, wk2, wk3, wk4, wk5, wk6, Fr.ev, Fr.put, Fr.get, storeA, List.replicate, IntKind.bits, sevalprocAttr, g2, g3, g4, g5, g6, g7, g8, hj, hj2, wij, q1, q2, q3, gx, wv, ga, gb, hi, pi, pj, eP, wp, wq, e1, e2, wz, st, wj, fnL_len, List.length_map, Int.toNat_natCast, Nat.mul_one, Nat.zero_add, YtoncolpkpgbfiaaDoor.D43, ty1, ty3, ty4, ty100, ty102]
        exact ihj (m' - 1) _ _ (by omega) ⟨j + 1, by omega, by simp [Fr.get, g2], by simp [Fr.get, g3], by simp [Fr.get, g4], by simp [Fr.get, g5], by simp [Fr.get, g6], by simp [Fr.get, hC'], by simp [Fr.get], rfl⟩
      · have hjb : j = lenD b := by omega
        have y0 : dgt b j = 0 := dgt_zero_of_lt (by rw [hjb]; exact lt_pow_lenD b)
        have hP0 : P = 0 := by rw [← hP, y0, Nat.mul_zero]
        have e1 : Int.tmod ((x : Int) + (c : Int)) 10 = (z : Int) := by rw [Int.tmod_eq_emod_of_nonneg (by omega)]; omega
        have e2 : Int.tdiv ((x : Int) + (c : Int)) 10 = (c' : Int) := by rw [Int.tdiv_eq_ediv_of_nonneg (by omega)]; omega
        simp (maxSteps := 2000000) only [wk0, wk1, wk2, wk3, wk4, wk5, wk6, Fr.ev, Fr.put, Fr.get, storeA, List.replicate, IntKind.bits, sevalprocAttr, g2, g3, g4, g5, g6, g7, g8, hj, hj2, wij, q1, q2, q3, gx, wv, hi, pi, e1, e2, wz, st, wj, fnL_len, List.length_map, Int.toNat_natCast, Nat.mul_one, Nat.zero_add, YtoncolpkpgbfiaaDoor.D43, ty1, ty3, ty4, ty100, ty102]
        exact ihj (m' - 1) _ _ (by omega) ⟨j + 1, by omega, by simp [Fr.get, g2], by simp [Fr.get, g3], by simp [Fr.get, g4], by simp [Fr.get, g5], by simp [Fr.get, g6], by simp [Fr.get, hC'], by simp [Fr.get], rfl⟩
    · have hjb : j = lenD b + 1 := by omega
      subst hjb
      simp (maxSteps := 2000000) only [wk0, wk1, wk2, wk3, wk4, wk5, wk6, Fr.ev, Fr.put, Fr.get, storeA, List.replicate, IntKind.bits, sevalprocAttr, g2, g3, g4, g5, g6, g7, g8, hj, wi, YtoncolpkpgbfiaaDoor.D43, ty1, ty3, ty4, ty100, ty102]
      exact ih (m - 1) _ _ (by omega) ⟨i + 1, by omega, by simp [Fr.get, g2], by simp [Fr.get, g3], by simp [Fr.get, g4], by simp [Fr.get, g5], by simp [Fr.get], by
        rw [← fnL_dgt, ← Nat.add_assoc, fnL_congr (f := mxD (muX a b i) (muX a b (i + 1)) (i + lenD b + 1)) (g := fun k => ((dgt (muX a b (i + 1)) k : Nat) : Int)) fun k hk => mxD_end hk]⟩
  · obtain rfl : i = lenD a := by omega
    rw [muX_end b (lt_pow_lenD a)]
    have hl1 : a * b < 10 ^ n := by
      rw [← hn]
      have := muX_lt a b (lenD a)
      rw [muX_end b (lt_pow_lenD a)] at this
      exact Nat.lt_of_lt_of_le this (Nat.pow_le_pow_right (by omega) (by omega))
    have hln := (lenD_le _ _).2 hl1
    have tr := fun (x y z : Option Blk) => trim_ok (S.length + 3) 0 n n (a * b) 0 (S ++ [x, y, z, some ⟨(dgN (a * b) n).map fun x => .int .i64 x, 0⟩]) (by omega) hl1 (by rw [blkAt_app]; rfl)
    unfold numA
    have nu := fun (x y z w : Option Blk) => decNumD_ok (!(sx == sy)) (S.length + 3) 0 (lenD (a * b)) n (S ++ [x, y, z, w]) (by simp)
    rw [slD_pos (show n ≠ 0 by omega)] at tr
    have fin := fun (x y z : Option Blk) => fin_slD (base := S.length) (id := S.length + 3) (ver := 0) (cap := n) (u := 0) (k := lenD (a * b)) (L := dgN (a * b) n) (H := S ++ [x, y, z, some ⟨(dgN (a * b) n).map fun x => .int .i64 x, 0⟩]) (by omega) (by rw [blkAt_app]; rfl) (by rw [dgN_len]; exact hln)
    rw [dgN_take _ hln] at fin
    have pz : decide (0 < lenD (a * b)) = decide (0 < a * b) := by
      congr 1; apply propext
      have := lt_lenD (a * b) 0
      rw [Nat.pow_zero] at this
      generalize a * b = N at *
      omega
    rw [← pz]
    clear pz
    have dz : dgN (a * b) (lenD (a * b)) = digs (a * b) := rfl
    simp only [dz] at fin
    generalize hk : lenD (a * b) = k at *
    by_cases h0 : k = 0
    · subst h0
      simp only [slD_zero] at tr nu fin
      iterate 3
        simp (maxSteps := 2000000) only [wk0, wk1, wk2, wk3, wk4, wk5, wk6, Fr.ev, Fr.put, Fr.get, storeA, List.replicate, IntKind.bits, sevalprocAttr, g2, g3, g4, g5, g6, hi, YtoncolpkpgbfiaaDoor.D43, ty1, ty3, ty4, ty100, ty102]
        try first
          | refine callThen_of (tr _ _ _) ?_
          | refine callThen_of (nu _ _ _ _) ?_
      refine retB_one ?_ (by simp)
      exact .agg _ _ (.cons _ _ _ _ (.same _ (.bool _)) (.cons _ _ _ _ (fin _ _ _) .nil))
    · simp only [slD_pos h0] at tr nu fin
      iterate 3
        simp (maxSteps := 2000000) only [wk0, wk1, wk2, wk3, wk4, wk5, wk6, Fr.ev, Fr.put, Fr.get, storeA, List.replicate, IntKind.bits, sevalprocAttr, g2, g3, g4, g5, g6, hi, YtoncolpkpgbfiaaDoor.D43, ty1, ty3, ty4, ty100, ty102]
        try first
          | refine callThen_of (tr _ _ _) ?_
          | refine callThen_of (nu _ _ _ _) ?_
      refine retB_one ?_ (by simp)
      exact .agg _ _ (.cons _ _ _ _ (.same _ (.bool _)) (.cons _ _ _ _ (fin _ _ _) .nil))
theorem decMul_ok (x y : Int) (S : Heap) (hx : lenD x.natAbs ≤ 30000) (hy : lenD y.natAbs ≤ 30000) : Call theE 43 [decA x, decA y] S (decA (x * y)) S := by
  have := decMul1_ok (decide (x < 0)) (decide (y < 0)) x.natAbs y.natAbs S hx hy
  have e : numA (!(decide (x < 0) == decide (y < 0))) (x.natAbs * y.natAbs) = decA (x * y) := by
    rw [decA_S, numA_S]
    refine decS_eq ?_ (by rw [Int.natAbs_mul])
    rcases Int.lt_trichotomy x 0 with h1 | h1 | h1 <;> rcases Int.lt_trichotomy y 0 with h2 | h2 | h2
    · have := Int.mul_pos_of_neg_of_neg h1 h2
      rw [decide_eq_true h1, decide_eq_true h2, decide_eq_false (show ¬ x * y < 0 by omega)]; rfl
    · subst h2; simp
    · have := Int.mul_neg_of_neg_of_pos h1 h2
      rw [decide_eq_true h1, decide_eq_false (by omega), decide_eq_true this, decide_eq_true (Nat.mul_pos (by omega) (by omega))]; rfl
    · subst h1; simp
    · subst h1; simp
    · subst h1; simp
    · have := Int.mul_neg_of_pos_of_neg h1 h2
      rw [decide_eq_true h2, decide_eq_false (by omega), decide_eq_true this, decide_eq_true (Nat.mul_pos (by omega) (by omega))]; rfl
    · subst h2; simp
    · have := Int.mul_pos h1 h2
      rw [decide_eq_false (show ¬ x < 0 by omega), decide_eq_false (show ¬ y < 0 by omega), decide_eq_false (show ¬ x * y < 0 by omega)]; rfl
  rwa [e] at this
end Go.Proofs.YtoncolpkpgbfiaaDoor
