/- Decimals: lesser, sums and differences of sizes. -/
import Derived.Test.YtoncolpkpgbfiaaDoorD1
set_option linter.unusedSimpArgs false
set_option linter.unusedVariables false
set_option maxRecDepth 100000
set_option maxHeartbeats 4000000
namespace Go.Proofs.YtoncolpkpgbfiaaDoor
theorem digs_getA (n : Nat) {k : Nat} (h : k < lenD n) : ((digs n).map fun x => AV.int .i64 x)[k]? = some (.int .i64 ((dgt n k : Nat) : Int)) := dgN_getA n h
noncomputable def c48 : Code := Tryd.f48.body.getD .skip
theorem b48 : Tryd.f48.body = some c48 := rfl
theorem d48 : fnOk Tryd.f48 c48 = true := by kernel_rfl
def D48 : Nat → List Tag
  | 6 => [.pure, .pure, .pure, .quiet, .pure, .pure, .pure, .quiet, .pure]
  | 7 => [.pure, .pure, .pure, .quiet, .pure, .pure, .pure, .quiet, .pure, .pure]
  | _ => []
theorem e48 : drawsOk D48 c48 = true := by kernel_rfl
theorem decLess_ok (a b : Nat) (S : Heap) (ha : lenD a ≤ 100000) (hb : lenD b ≤ 100000) : Call theE 48 [lstI (digs a), lstI (digs b)] S (.bool (decide (a < b))) S := by
  have da := digs_len a
  have db := digs_len b
  refine Call.ofC Tryd.func48 YtoncolpkpgbfiaaDoor.b48 YtoncolpkpgbfiaaDoor.d48 YtoncolpkpgbfiaaDoor.e48 (by simp [Tryd.f48]) ?_
  dsimp only [YtoncolpkpgbfiaaDoor.c48, Tryd.f48, Option.getD_some]
  by_cases hl : lenD a = lenD b
  · have hl1 : ((lenD a : Nat) : Int) = ((lenD b : Nat) : Int) := by omega
    have w0 : IntKind.i64.wrap (((lenD b : Nat) : Int) - 1) = ((lenD b : Nat) : Int) - 1 := wrapI (by omega)
    simp (maxSteps := 2000000) only [wk0, wk1, wk2, wk3, wk4, wk5, wk6, Fr.ev, Fr.put, Fr.get, storeA, List.replicate, IntKind.bits, sevalprocAttr, lstI, da, db, hl1, w0, YtoncolpkpgbfiaaDoor.D48, ty3, ty4, ty100]
    refine loopC_ind (fun m fr H => m ≤ lenD b ∧ a / 10 ^ m = b / 10 ^ m ∧ fr.get 0 = .lst ((digs a).map fun x => .int .i64 x) (lenD a) ∧ fr.get 1 = .lst ((digs b).map fun x => .int .i64 x) (lenD b) ∧ fr.get 5 = .int .i64 ((m : Int) - 1) ∧ H = S) ?_ (n := lenD b)
      ⟨Nat.le_refl _, by rw [Nat.div_eq_of_lt (lt_pow_lenD b), ← hl, Nat.div_eq_of_lt (lt_pow_lenD a)], by simp [Fr.get, hl], by simp [Fr.get], by simp [Fr.get], rfl⟩
    rintro m fr H ⟨hm, hq, g0, g1, g5, rfl⟩ ih
    cases m with
    | zero =>
      have hab : a = b := by simpa using hq
      have p1 : ¬ (0 : Int) ≤ ((0 : Nat) : Int) - 1 := by omega
      simp (maxSteps := 2000000) only [wk0, wk1, wk2, wk3, wk4, wk5, wk6, Fr.ev, Fr.put, Fr.get, storeA, List.replicate, IntKind.bits, sevalprocAttr, g0, g1, g5, p1, YtoncolpkpgbfiaaDoor.D48, ty3, ty4, ty100]
      exact retB_plain (by simp [nmd_bool]) (by simp [packA, hab]) (by simp)
    | succ k =>
      have p0 : ((k + 1 : Nat) : Int) - 1 = (k : Int) := by omega
      rw [p0] at g5
      have p1 : (0 : Int) ≤ (k : Int) := by omega
      have w1 : IntKind.i64.wrap ((k : Int) - 1) = (k : Int) - 1 := wrapI (by omega)
      have ga := digs_getA a (show k < lenD a by omega)
      have gb := digs_getA b (show k < lenD b by omega)
      have p2 : (k : Int) < ((lenD a : Nat) : Int) := by omega
      have p3 : (k : Int) < ((lenD b : Nat) : Int) := by omega
      have hd := less_dgt hq
      by_cases hk : ((dgt a k : Nat) : Int) = ((dgt b k : Nat) : Int)
      · simp (maxSteps := 2000000) only [wk0, wk1, wk2, wk3, wk4, wk5, wk6, Fr.ev, Fr.put, Fr.get, storeA, List.replicate, IntKind.bits, sevalprocAttr, g0, g1, g5, p1, p2, p3, w1, ga, gb, hk, Int.toNat_natCast, Nat.mul_one, YtoncolpkpgbfiaaDoor.D48, ty3, ty4, ty100]
        exact ih k _ _ (by omega) ⟨by omega, hd.1 (by omega), by simp [Fr.get, g0], by simp [Fr.get, g1], by simp [Fr.get], rfl⟩
      · have hx : decide (((dgt a k : Nat) : Int) < ((dgt b k : Nat) : Int)) = decide (a < b) := by
          have := hd.2 (by omega)
          congr 1
          apply propext
          omega
        simp (maxSteps := 2000000) only [wk0, wk1, wk2, wk3, wk4, wk5, wk6, Fr.ev, Fr.put, Fr.get, storeA, List.replicate, IntKind.bits, sevalprocAttr, g0, g1, g5, p1, p2, p3, w1, ga, gb, hk, Int.toNat_natCast, Nat.mul_one, YtoncolpkpgbfiaaDoor.D48, ty3, ty4, ty100]
        exact retB_plain (by simp [nmd_bool]) (by rw [← hx]; simp [packA]) (by simp)
  · have hl1 : ¬ ((lenD a : Nat) : Int) = ((lenD b : Nat) : Int) := by omega
    have hx : decide (((lenD a : Nat) : Int) < ((lenD b : Nat) : Int)) = decide (a < b) := by
      congr 1
      apply propext
      have h1 := lt_pow_lenD a
      have h2 := lt_pow_lenD b
      constructor
      · intro h
        have := (lt_lenD b (lenD a)).1 (by omega)
        omega
      · intro h
        rcases Nat.lt_or_ge (lenD a) (lenD b) with h3 | h3
        · omega
        · have := (lt_lenD a (lenD b)).1 (by omega)
          omega
    simp (maxSteps := 2000000) only [wk0, wk1, wk2, wk3, wk4, wk5, wk6, Fr.ev, Fr.put, Fr.get, storeA, List.replicate, IntKind.bits, sevalprocAttr, lstI, da, db, hl1, YtoncolpkpgbfiaaDoor.D48, ty3, ty4, ty100]
    exact retB_plain (by simp [nmd_bool]) (by rw [← hx]; simp [packA]) (by simp)
theorem dgN_app (n i : Nat) : (dgN n i).map (fun x => AV.int .i64 x) ++ [AV.int .i64 ((dgt n i : Nat) : Int)] = (dgN n (i + 1)).map fun x => .int .i64 x := by rw [dgN_succ, List.map_append]; rfl
noncomputable def c83 : Code := Tryd.f83.body.getD .skip
theorem b83 : Tryd.f83.body = some c83 := rfl
theorem d83 : fnOk Tryd.f83 c83 = true := by kernel_rfl
def D83 : Nat → List Tag := fun _ => []
theorem e83 : drawsOk D83 c83 = true := by kernel_rfl
theorem decPlus_ok (a b : Nat) (S : Heap) (ha : lenD a ≤ 90000) (hb : lenD b ≤ 90000) : Call theE 83 [lstI (digs a), lstI (digs b)] S (lstI (digs (a + b))) S := by
  have da := digs_len a
  have db := digs_len b
  obtain ⟨M, hM⟩ : ∃ M, max (lenD a) (lenD b) = M := ⟨_, rfl⟩
  have hM1 : lenD a ≤ M := by omega
  have hM2 : lenD b ≤ M := by omega
  refine Call.ofC Tryd.func83 YtoncolpkpgbfiaaDoor.b83 YtoncolpkpgbfiaaDoor.d83 YtoncolpkpgbfiaaDoor.e83 (by simp [Tryd.f83]) ?_
  dsimp only [YtoncolpkpgbfiaaDoor.c83, Tryd.f83, Option.getD_some]
  simp (maxSteps := 2000000) only [wk0, wk1, wk2, wk3, wk4, wk5, wk6, Fr.ev, Fr.put, Fr.get, storeA, List.replicate, IntKind.bits, sevalprocAttr, lstI, da, db, YtoncolpkpgbfiaaDoor.D83, ty1, ty3, ty4, ty100]
  refine loopC_ind (fun m fr H => ∃ i cap : Nat, i + m = M ∧ fr.get 0 = .lst ((digs a).map fun x => .int .i64 x) (lenD a) ∧ fr.get 1 = .lst ((digs b).map fun x => .int .i64 x) (lenD b) ∧ fr.get 5 = .sl S.length i 0 i cap 1 ∧ fr.get 6 = .int .i64 ((caD a b i : Nat) : Int) ∧ fr.get 7 = .int .i64 (i : Int) ∧
    H = S ++ [some ⟨(dgN (a + b) i).map fun x => .int .i64 x, i⟩]) ?_ (n := M) ⟨0, 0, by omega, rfl, rfl, rfl, by rw [caD_zero]; rfl, rfl, rfl⟩
  rintro m fr H ⟨i, cap, him, g0, g1, g5, g6, g7, rfl⟩ ih
  have cl : (dgN (a + b) i).length = i := dgN_len _ _
  have cs := dgN_app (a + b) i
  have a1 : (i + 1) * 8 ≤ maxBytes := by unfold maxBytes; omega
  have a2 : i + 1 ≤ 9223372036854775807 := by omega
  have c1 := caD_lt a b i
  have c2 := caD_lt a b (i + 1)
  have x1 := dgt_lt a i
  have y1 := dgt_lt b i
  have z1 := dgt_lt (a + b) i
  have s1 := caD_dgt a b i
  have s2 := caD_step a b i
  have p1 : (0 : Int) ≤ (i : Int) := by omega
  have wi : IntKind.i64.wrap ((i : Int) + 1) = ((i + 1 : Nat) : Int) := wrapI (by omega)
  have wx : IntKind.i64.wrap (((caD a b i : Nat) : Int) + ((dgt a i : Nat) : Int)) = ((caD a b i : Nat) : Int) + ((dgt a i : Nat) : Int) := wrapI (by omega)
  have wy : IntKind.i64.wrap (((caD a b i : Nat) : Int) + ((dgt b i : Nat) : Int)) = ((caD a b i : Nat) : Int) + ((dgt b i : Nat) : Int) := wrapI (by omega)
  have wxy : IntKind.i64.wrap (((caD a b i : Nat) : Int) + ((dgt a i : Nat) : Int) + ((dgt b i : Nat) : Int)) = ((caD a b i : Nat) : Int) + ((dgt a i : Nat) : Int) + ((dgt b i : Nat) : Int) := wrapI (by omega)
  have e3 : IntKind.i64.wrap ((dgt (a + b) i : Nat) : Int) = ((dgt (a + b) i : Nat) : Int) := wrapI (by omega)
  have e4 : IntKind.i64.wrap ((caD a b (i + 1) : Nat) : Int) = ((caD a b (i + 1) : Nat) : Int) := wrapI (by omega)
  by_cases ha1 : (i : Int) < ((lenD a : Nat) : Int)
  · have ga := digs_getA a (show i < lenD a by omega)
    by_cases hb1 : (i : Int) < ((lenD b : Nat) : Int)
    · have gb := digs_getA b (show i < lenD b by omega)
      have e1 : Int.tmod (((caD a b i : Nat) : Int) + ((dgt a i : Nat) : Int) + ((dgt b i : Nat) : Int)) 10 = ((dgt (a + b) i : Nat) : Int) := by rw [Int.tmod_eq_emod_of_nonneg (by omega)]; omega
      have e2 : Int.tdiv (((caD a b i : Nat) : Int) + ((dgt a i : Nat) : Int) + ((dgt b i : Nat) : Int)) 10 = ((caD a b (i + 1) : Nat) : Int) := by rw [Int.tdiv_eq_ediv_of_nonneg (by omega)]; omega
      simp (maxSteps := 2000000) only [wk0, wk1, wk2, wk3, wk4, wk5, wk6, Fr.ev, Fr.put, Fr.get, storeA, List.replicate, IntKind.bits, sevalprocAttr, g0, g1, g5, g6, g7, ha1, hb1, p1, wx, wy, wxy, ga, gb, cl, cs, a1, a2, e1, e2, e3, e4, wi, List.length_map, Nat.mul_one, Int.toNat_natCast, YtoncolpkpgbfiaaDoor.D83, ty1, ty3, ty4, ty100]
      exact ih (m - 1) _ _ (by omega) ⟨i + 1, i + 1, by omega, by simp [Fr.get, g0], by simp [Fr.get, g1], by simp [Fr.get], by simp [Fr.get], by simp [Fr.get], rfl⟩
    · have gb := True.intro
      have y0 := dgt_zero_of_lt ((lenD_le i b).1 (by omega))
      have e1 : Int.tmod (((caD a b i : Nat) : Int) + ((dgt a i : Nat) : Int)) 10 = ((dgt (a + b) i : Nat) : Int) := by rw [Int.tmod_eq_emod_of_nonneg (by omega)]; omega
      have e2 : Int.tdiv (((caD a b i : Nat) : Int) + ((dgt a i : Nat) : Int)) 10 = ((caD a b (i + 1) : Nat) : Int) := by rw [Int.tdiv_eq_ediv_of_nonneg (by omega)]; omega
      simp (maxSteps := 2000000) only [wk0, wk1, wk2, wk3, wk4, wk5, wk6, Fr.ev, Fr.put, Fr.get, storeA, List.replicate, IntKind.bits, sevalprocAttr, g0, g1, g5, g6, g7, ha1, hb1, p1, wx, wy, wxy, ga, gb, cl, cs, a1, a2, e1, e2, e3, e4, wi, List.length_map, Nat.mul_one, Int.toNat_natCast, YtoncolpkpgbfiaaDoor.D83, ty1, ty3, ty4, ty100]
      exact ih (m - 1) _ _ (by omega) ⟨i + 1, i + 1, by omega, by simp [Fr.get, g0], by simp [Fr.get, g1], by simp [Fr.get], by simp [Fr.get], by simp [Fr.get], rfl⟩
  · have x0 := dgt_zero_of_lt ((lenD_le i a).1 (by omega))
    have ga := True.intro
    by_cases hb1 : (i : Int) < ((lenD b : Nat) : Int)
    · have gb := digs_getA b (show i < lenD b by omega)
      have e1 : Int.tmod (((caD a b i : Nat) : Int) + ((dgt b i : Nat) : Int)) 10 = ((dgt (a + b) i : Nat) : Int) := by rw [Int.tmod_eq_emod_of_nonneg (by omega)]; omega
      have e2 : Int.tdiv (((caD a b i : Nat) : Int) + ((dgt b i : Nat) : Int)) 10 = ((caD a b (i + 1) : Nat) : Int) := by rw [Int.tdiv_eq_ediv_of_nonneg (by omega)]; omega
      simp (maxSteps := 2000000) only [wk0, wk1, wk2, wk3, wk4, wk5, wk6, Fr.ev, Fr.put, Fr.get, storeA, List.replicate, IntKind.bits, sevalprocAttr, g0, g1, g5, g6, g7, ha1, hb1, p1, wx, wy, wxy, ga, gb, cl, cs, a1, a2, e1, e2, e3, e4, wi, List.length_map, Nat.mul_one, Int.toNat_natCast, YtoncolpkpgbfiaaDoor.D83, ty1, ty3, ty4, ty100]
      exact ih (m - 1) _ _ (by omega) ⟨i + 1, i + 1, by omega, by simp [Fr.get, g0], by simp [Fr.get, g1], by simp [Fr.get], by simp [Fr.get], by simp [Fr.get], rfl⟩
    · obtain rfl : i = M := by omega
      have la := (lenD_le i a).1 hM1
      have lb := (lenD_le i b).1 hM2
      have hc := caD_end la lb
      rw [hc] at g6
      have hn : a + b < 10 ^ (i + 1) := by rw [Nat.pow_succ]; omega
      have ht := trim_ok S.length (i + 1) (i + 1) (i + 1) (a + b) (i + 1) (S ++ [some ⟨(dgN (a + b) (i + 1)).map fun x => .int .i64 x, i + 1⟩]) (by omega) hn (by rw [blkAt_app0, blkAt_zero])
      rw [slD_pos (by omega)] at ht
      simp (maxSteps := 2000000) only [wk0, wk1, wk2, wk3, wk4, wk5, wk6, Fr.ev, Fr.put, Fr.get, storeA, List.replicate, IntKind.bits, sevalprocAttr, g0, g1, g5, g6, g7, ha1, hb1, cl, cs, a1, a2, List.length_map, Nat.mul_one, YtoncolpkpgbfiaaDoor.D83, ty1, ty3, ty4, ty100]
      refine callThen_of ht ?_
      simp (maxSteps := 2000000) only [wk0, wk1, wk2, wk3, wk4, wk5, wk6, Fr.ev, Fr.put, Fr.get, storeA, List.replicate, IntKind.bits, sevalprocAttr, mv_slD, YtoncolpkpgbfiaaDoor.D83, ty1, ty3, ty4, ty100]
      refine retB_one ?_ (by simp)
      have h := fin_slD (base := S.length) (id := S.length) (ver := i + 1) (cap := i + 1) (u := i + 1) (k := lenD (a + b)) (L := dgN (a + b) (i + 1)) (H := S ++ [some ⟨(dgN (a + b) (i + 1)).map fun x => .int .i64 x, i + 1⟩]) (by omega) (by rw [blkAt_app0, blkAt_zero]) (by rw [dgN_len]; exact (lenD_le _ _).2 hn)
      rw [dgN_take _ ((lenD_le _ _).2 hn)] at h
      exact h
theorem trim_sl0 (id ver cap u : Nat) (cells : List AV) (S : Heap) (hb : blkAt S id ver = some ⟨cells, u⟩) :
    Call theE 82 [.sl id ver 0 0 cap 1] S (.sl id ver 0 0 cap 1) S := by
  refine Call.ofC Tryd.func82 YtoncolpkpgbfiaaDoor.b82 YtoncolpkpgbfiaaDoor.d82 YtoncolpkpgbfiaaDoor.e82 (by simp [Tryd.f82]) ?_
  dsimp only [YtoncolpkpgbfiaaDoor.c82, Tryd.f82, Option.getD_some]
  simp (maxSteps := 2000000) only [wk0, wk1, wk2, wk3, wk4, wk5, wk6, Fr.ev, Fr.put, Fr.get, storeA, List.replicate, IntKind.bits, sevalprocAttr, hb, YtoncolpkpgbfiaaDoor.D82, ty3, ty4, ty100]
  refine loopC_of ?_
  simp (maxSteps := 2000000) only [wk0, wk1, wk2, wk3, wk4, wk5, wk6, Fr.ev, Fr.put, Fr.get, storeA, List.replicate, IntKind.bits, sevalprocAttr, hb, YtoncolpkpgbfiaaDoor.D82, ty3, ty4, ty100]
  exact retB_plain (by intro x hx; rw [List.mem_singleton.1 hx]; exact .sl _ _ _ _ _ _ (blk_lt hb)) rfl (by simp)
noncomputable def c84 : Code := Tryd.f84.body.getD .skip
theorem b84 : Tryd.f84.body = some c84 := rfl
theorem d84 : fnOk Tryd.f84 c84 = true := by kernel_rfl
def D84 : Nat → List Tag := fun _ => []
theorem e84 : drawsOk D84 c84 = true := by kernel_rfl
theorem decMinus_ok (a b : Nat) (S : Heap) (hab : b ≤ a) (ha : lenD a ≤ 90000) : Call theE 84 [lstI (digs a), lstI (digs b)] S (lstI (digs (a - b))) S := by
  have da := digs_len a
  have db := digs_len b
  have hlb : lenD b ≤ lenD a := (lenD_le _ _).2 (Nat.lt_of_le_of_lt hab (lt_pow_lenD a))
  have hn : a - b < 10 ^ lenD a := by have := lt_pow_lenD a; omega
  refine Call.ofC Tryd.func84 YtoncolpkpgbfiaaDoor.b84 YtoncolpkpgbfiaaDoor.d84 YtoncolpkpgbfiaaDoor.e84 (by simp [Tryd.f84]) ?_
  dsimp only [YtoncolpkpgbfiaaDoor.c84, Tryd.f84, Option.getD_some]
  simp (maxSteps := 2000000) only [wk0, wk1, wk2, wk3, wk4, wk5, wk6, Fr.ev, Fr.put, Fr.get, storeA, List.replicate, IntKind.bits, sevalprocAttr, lstI, da, db, YtoncolpkpgbfiaaDoor.D84, ty1, ty3, ty4, ty100]
  refine loopC_ind (fun m fr H => ∃ i cap : Nat, i + m = lenD a ∧ fr.get 0 = .lst ((digs a).map fun x => .int .i64 x) (lenD a) ∧ fr.get 1 = .lst ((digs b).map fun x => .int .i64 x) (lenD b) ∧ fr.get 5 = .sl S.length i 0 i cap 1 ∧ fr.get 6 = .int .i64 ((boD a b i : Nat) : Int) ∧ fr.get 7 = .int .i64 (i : Int) ∧
    H = S ++ [some ⟨(dgN (a - b) i).map fun x => .int .i64 x, i⟩]) ?_ (n := lenD a) ⟨0, 0, by omega, rfl, rfl, rfl, by rw [boD_zero]; rfl, rfl, rfl⟩
  rintro m fr H ⟨i, cap, him, g0, g1, g5, g6, g7, rfl⟩ ih
  have cl : (dgN (a - b) i).length = i := dgN_len _ _
  have a1 : (i + 1) * 8 ≤ maxBytes := by unfold maxBytes; omega
  have a2 : i + 1 ≤ 9223372036854775807 := by omega
  by_cases hi : (i : Int) < ((lenD a : Nat) : Int)
  · have ga := digs_getA a (show i < lenD a by omega)
    have c1 := boD_le a b i
    have x1 := dgt_lt a i
    have y1 := dgt_lt b i
    have s1 := boD_dgt hab i
    have s2 := boD_step a b i
    have p1 : (0 : Int) ≤ (i : Int) := by omega
    have wi : IntKind.i64.wrap ((i : Int) + 1) = ((i + 1 : Nat) : Int) := wrapI (by omega)
    have cs0 := dgN_app (a - b) i
    have w1 : IntKind.i64.wrap (((dgt a i : Nat) : Int) - ((boD a b i : Nat) : Int)) = ((dgt a i : Nat) : Int) - ((boD a b i : Nat) : Int) := wrapI (by omega)
    have w2 : IntKind.i64.wrap (((dgt a i : Nat) : Int) - ((boD a b i : Nat) : Int) - ((dgt b i : Nat) : Int)) = ((dgt a i : Nat) : Int) - ((boD a b i : Nat) : Int) - ((dgt b i : Nat) : Int) := wrapI (by omega)
    by_cases hv0 : ((dgt a i : Nat) : Int) - ((boD a b i : Nat) : Int) - ((dgt b i : Nat) : Int) < 0
    · rw [if_pos hv0] at s1 s2
      rw [s1] at cs0
      by_cases hb1 : (i : Int) < ((lenD b : Nat) : Int)
      · have gb := digs_getA b (show i < lenD b by omega)
        have hv := hv0
        have cs := cs0
        have w3 : IntKind.i64.wrap (((dgt a i : Nat) : Int) - ((boD a b i : Nat) : Int) - ((dgt b i : Nat) : Int) + 10) = ((dgt a i : Nat) : Int) - ((boD a b i : Nat) : Int) - ((dgt b i : Nat) : Int) + 10 := wrapI (by omega)
        simp (maxSteps := 2000000) only [wk0, wk1, wk2, wk3, wk4, wk5, wk6, Fr.ev, Fr.put, Fr.get, storeA, List.replicate, IntKind.bits, sevalprocAttr, g0, g1, g5, g6, g7, hi, hb1, p1, wi, ga, gb, hv, w1, w2, w3, cl, cs, a1, a2, List.length_map, Nat.mul_one, Int.toNat_natCast, YtoncolpkpgbfiaaDoor.D84, ty1, ty3, ty4, ty100]
        exact ih (m - 1) _ _ (by omega) ⟨i + 1, i + 1, by omega, by simp [Fr.get, g0], by simp [Fr.get, g1], by simp [Fr.get], by rw [s2]; simp [Fr.get], by simp [Fr.get], rfl⟩
      · have gb := True.intro
        have y0 := dgt_zero_of_lt ((lenD_le i b).1 (by omega))
        have hv := hv0
        have cs := cs0
        rw [y0, show ∀ x : Int, x - ((0 : Nat) : Int) = x from fun x => by omega] at hv cs
        have w3 : IntKind.i64.wrap (((dgt a i : Nat) : Int) - ((boD a b i : Nat) : Int) + 10) = ((dgt a i : Nat) : Int) - ((boD a b i : Nat) : Int) + 10 := wrapI (by omega)
        simp (maxSteps := 2000000) only [wk0, wk1, wk2, wk3, wk4, wk5, wk6, Fr.ev, Fr.put, Fr.get, storeA, List.replicate, IntKind.bits, sevalprocAttr, g0, g1, g5, g6, g7, hi, hb1, p1, wi, ga, gb, hv, w1, w2, w3, cl, cs, a1, a2, List.length_map, Nat.mul_one, Int.toNat_natCast, YtoncolpkpgbfiaaDoor.D84, ty1, ty3, ty4, ty100]
        exact ih (m - 1) _ _ (by omega) ⟨i + 1, i + 1, by omega, by simp [Fr.get, g0], by simp [Fr.get, g1], by simp [Fr.get], by rw [s2]; simp [Fr.get], by simp [Fr.get], rfl⟩
    · rw [if_neg hv0] at s1 s2
      rw [s1] at cs0
      have w3 := True.intro
      by_cases hb1 : (i : Int) < ((lenD b : Nat) : Int)
      · have gb := digs_getA b (show i < lenD b by omega)
        have hv := hv0
        have cs := cs0
        simp (maxSteps := 2000000) only [wk0, wk1, wk2, wk3, wk4, wk5, wk6, Fr.ev, Fr.put, Fr.get, storeA, List.replicate, IntKind.bits, sevalprocAttr, g0, g1, g5, g6, g7, hi, hb1, p1, wi, ga, gb, hv, w1, w2, w3, cl, cs, a1, a2, List.length_map, Nat.mul_one, Int.toNat_natCast, YtoncolpkpgbfiaaDoor.D84, ty1, ty3, ty4, ty100]
        exact ih (m - 1) _ _ (by omega) ⟨i + 1, i + 1, by omega, by simp [Fr.get, g0], by simp [Fr.get, g1], by simp [Fr.get], by rw [s2]; simp [Fr.get], by simp [Fr.get], rfl⟩
      · have gb := True.intro
        have y0 := dgt_zero_of_lt ((lenD_le i b).1 (by omega))
        have hv := hv0
        have cs := cs0
        rw [y0, show ∀ x : Int, x - ((0 : Nat) : Int) = x from fun x => by omega] at hv cs
        simp (maxSteps := 2000000) only [wk0, wk1, wk2, wk3, wk4, wk5, wk6, Fr.ev, Fr.put, Fr.get, storeA, List.replicate, IntKind.bits, sevalprocAttr, g0, g1, g5, g6, g7, hi, hb1, p1, wi, ga, gb, hv, w1, w2, w3, cl, cs, a1, a2, List.length_map, Nat.mul_one, Int.toNat_natCast, YtoncolpkpgbfiaaDoor.D84, ty1, ty3, ty4, ty100]
        exact ih (m - 1) _ _ (by omega) ⟨i + 1, i + 1, by omega, by simp [Fr.get, g0], by simp [Fr.get, g1], by simp [Fr.get], by rw [s2]; simp [Fr.get], by simp [Fr.get], rfl⟩
  · obtain rfl : m = 0 := by omega
    have hi2 : i = lenD a := by omega
    subst hi2
    have hb0 : blkAt (S ++ [some ⟨(dgN (a - b) (lenD a)).map fun x => .int .i64 x, lenD a⟩]) S.length (lenD a) = some ⟨(dgN (a - b) (lenD a)).map fun x => .int .i64 x, lenD a⟩ := by rw [blkAt_app0, blkAt_zero]
    simp (maxSteps := 2000000) only [wk0, wk1, wk2, wk3, wk4, wk5, wk6, Fr.ev, Fr.put, Fr.get, storeA, List.replicate, IntKind.bits, sevalprocAttr, g0, g1, g5, g6, g7, hi, YtoncolpkpgbfiaaDoor.D84, ty1, ty3, ty4, ty100]
    by_cases h0 : lenD a = 0
    · have hd : a - b = 0 := by rw [h0] at hn; simpa using hn
      have hz : digs (a - b) = [] := by rw [hd]; unfold digs; rw [lenD_zero]; rfl
      rw [hz]
      rw [h0] at hb0 ⊢
      have ht := trim_sl0 S.length 0 cap _ _ _ hb0
      have h := fin_take (base := S.length) (cap := cap) (k := 0) (by omega) hb0 (by omega)
      refine callThen_of ht ?_
      simp (maxSteps := 2000000) only [wk0, wk1, wk2, wk3, wk4, wk5, wk6, Fr.ev, Fr.put, Fr.get, storeA, List.replicate, IntKind.bits, sevalprocAttr, mv_slD, YtoncolpkpgbfiaaDoor.D84, ty1, ty3, ty4, ty100]
      exact retB_one h (by simp)
    · have ht := trim_ok S.length (lenD a) (lenD a) cap (a - b) (lenD a) _ (by omega) hn hb0
      rw [slD_pos h0] at ht
      refine callThen_of ht ?_
      simp (maxSteps := 2000000) only [wk0, wk1, wk2, wk3, wk4, wk5, wk6, Fr.ev, Fr.put, Fr.get, storeA, List.replicate, IntKind.bits, sevalprocAttr, mv_slD, YtoncolpkpgbfiaaDoor.D84, ty1, ty3, ty4, ty100]
      refine retB_one ?_ (by simp)
      have h := fin_slD (base := S.length) (cap := cap) (k := lenD (a - b)) (by omega) hb0 (by rw [dgN_len]; exact (lenD_le _ _).2 hn)
      rw [dgN_take _ ((lenD_le _ _).2 hn)] at h
      exact h
end Go.Proofs.YtoncolpkpgbfiaaDoor
