/- Numbers of 256 bits in eight parts: sums with signs. -/
import Derived.Test.YtdknnaalfoongaaGreatDoorP1
set_option linter.unusedSimpArgs false
set_option linter.unusedVariables false
set_option maxRecDepth 100000
set_option maxHeartbeats 4000000
namespace Go.Proofs.YtdknnaalfoongaaGreatDoor
/-- A sum of both, with their signs. -/
def joinW (x y : Bool × Nat) : Bool × Nat := if x.1 = y.1 then (x.1, x.2 + y.2) else if x.2 < y.2 then (y.1, y.2 - x.2) else (x.1, x.2 - y.2)
def longP (x : Bool × Nat) : AV := longA x.1 x.2
def valL (x : Bool × Nat) : Int := if x.1 then -(x.2 : Int) else x.2
theorem valL_join (x y : Bool × Nat) : valL (joinW x y) = valL x + valL y := by
  obtain ⟨s, n⟩ := x
  obtain ⟨t, m⟩ := y
  unfold joinW valL
  cases s <;> cases t <;> simp only [if_true, reduceCtorEq, if_false, Bool.false_eq_true] <;> (try split) <;> simp <;> omega
theorem abs_valL (x : Bool × Nat) : (valL x).natAbs = x.2 := by unfold valL; split <;> omega
theorem blkL {S : Heap} {L : Heap} {b0 b1 : Option Blk} {v : Nat} : blkAt (S ++ (b0 :: b1 :: L)) (S.length + 1) v = (match b1 with | some b => if b.ver = v then some b else none | none => none) := by
  rw [blkAt_app, blkAt_succ]
  cases b1 <;> rfl
noncomputable def c114 : Code := Tryz.f114.body.getD .skip
theorem b114 : Tryz.f114.body = some c114 := rfl
theorem d114 : fnOk Tryz.f114 c114 = true := by kernel_rfl
def D114 : Nat → List Tag
  | 8 => [.pure, .pure, .pure, .quiet, .pure, .pure, .pure, .pure, .quiet, .pure, .pure, .pure, .pure]
  | 16 => [.pure, .pure, .pure, .quiet, .pure, .pure, .pure, .quiet, .pure, .pure, .pure, .pure]
  | _ => []
theorem e114 : drawsOk D114 c114 = true := by kernel_rfl
theorem joinB_ok (x y : Bool × Nat) (S : Heap) (hx : x.2 < 4294967296 ^ 8) (hy : y.2 < 4294967296 ^ 8) (hs : x.2 + y.2 < 4294967296 ^ 8) : Call theE 114 [longP x, longP y] S (longP (joinW x y)) S := by
  obtain ⟨s, n⟩ := x
  obtain ⟨t, m⟩ := y
  have hl := fun S => lowB_ok n m S hx hy
  have ln : (uL (wB n)).length = 8 := by rw [uL_len, wB_len]
  have lm : (uL (wB m)).length = 8 := by rw [uL_len, wB_len]
  simp only [arrB] at hl
  unfold joinW longP
  refine Call.ofC Tryz.func114 YtdknnaalfoongaaGreatDoor.b114 YtdknnaalfoongaaGreatDoor.d114 YtdknnaalfoongaaGreatDoor.e114 (by simp [Tryz.f114]) ?_
  dsimp only [YtdknnaalfoongaaGreatDoor.c114, Tryz.f114, Option.getD_some]
  have tn : List.take 8 (uL (wB n)) = uL (wB n) := List.take_of_length_le (by omega)
  have tm : List.take 8 (uL (wB m)) = uL (wB m) := List.take_of_length_le (by omega)
  by_cases hst : s = t
  · subst hst
    rw [if_pos rfl]
    simp (maxSteps := 2000000) only [wk0, wk1, wk2, wk3, wk4, wk5, wk6, Fr.ev, Fr.put, Fr.get, storeA, List.replicate, IntKind.bits, sevalprocAttr, longA, ln, lm, List.length_cons, beq_self_eq_true, bne_self_eq_false, Bool.not_true, YtdknnaalfoongaaGreatDoor.D114, ty1, ty3, ty4, ty142, ty170, ty172]
    refine loopC_ind (fun c fr H => ∃ i : Nat, i + c = 8 ∧ fr.get 2 = .ptr S.length 0 0 ∧ fr.get 3 = .ptr (S.length + 1) 0 0 ∧ fr.get 4 = .ptr (S.length + 2) 0 0 ∧ fr.get 8 = .int .u64 ((cB n m i : Nat) : Int) ∧ fr.get 9 = .int .i64 (i : Int) ∧
        H = S ++ [some ⟨.bool s :: uL (mixL (n + m) n i), 0⟩, some ⟨.bool s :: uL (wB m), 0⟩, some ⟨[.bool false, .int .u64 0, .int .u64 0, .int .u64 0, .int .u64 0, .int .u64 0, .int .u64 0, .int .u64 0, .int .u64 0], 0⟩]) ?_ (n := 8) ⟨0, rfl, rfl, rfl, rfl, by rw [cB_zero]; rfl, rfl, by first | (rw [mixL_zero]; done) | (rw [mixL_zero, hXn, hXm]; done)⟩
    rintro c fr H ⟨i, him, g2, g3, g4, g8, g9, rfl⟩ ih
    have lm : (uL (mixL (n + m) n i)).length = 8 := by rw [uL_len, mixL_len]
    have lb : (uL (wB m)).length = 8 := by rw [uL_len, wB_len]
    by_cases hi : (i : Int) < 8
    · have hi8 : i < 8 := by omega
      have p1 : (0 : Int) ≤ (i : Int) := by omega
      have p3 : 1 + i ≤ 8 := by omega
      have wi : IntKind.i64.wrap ((i : Int) + 1) = ((i + 1 : Nat) : Int) := wrapI (by omega)
      have da := dB_lt n i
      have db := dB_lt m i
      have e1 := cB_lt n m i
      have e2 := cB_step n m i
      have e3 := cB_dgt n m i
      have ga := bu_get (b := .bool s) (mixL_get (n + m) n i hi8 (Nat.le_refl _))
      have gb := bu_get (b := .bool s) (wB_get m hi8)
      have w1 : IntKind.u64.wrap (((dB n i : Nat) : Int) + ((dB m i : Nat) : Int)) = ((dB n i : Nat) : Int) + ((dB m i : Nat) : Int) := wrapU (by omega)
      have w2 : IntKind.u64.wrap (((dB n i : Nat) : Int) + ((dB m i : Nat) : Int) + ((cB n m i : Nat) : Int)) = ((dB n i : Nat) : Int) + ((dB m i : Nat) : Int) + ((cB n m i : Nat) : Int) := wrapU (by omega)
      have t1 : Int.tmod (((dB n i : Nat) : Int) + ((dB m i : Nat) : Int) + ((cB n m i : Nat) : Int)) 4294967296 = ((dB (n + m) i : Nat) : Int) := by rw [Int.tmod_eq_emod_of_nonneg (by omega)]; omega
      have t2 : Int.tdiv (((dB n i : Nat) : Int) + ((dB m i : Nat) : Int) + ((cB n m i : Nat) : Int)) 4294967296 = ((cB n m (i + 1) : Nat) : Int) := by rw [Int.tdiv_eq_ediv_of_nonneg (by omega)]; omega
      have dr := dB_lt (n + m) i
      have e4 := cB_lt n m (i + 1)
      have w4 : IntKind.u64.wrap ((dB (n + m) i : Nat) : Int) = ((dB (n + m) i : Nat) : Int) := wrapU (by omega)
      have w5 : IntKind.u64.wrap ((cB n m (i + 1) : Nat) : Int) = ((cB n m (i + 1) : Nat) : Int) := wrapU (by omega)
      have st := mixL_set (n + m) n i hi8
      simp (maxSteps := 2000000) only [wk0, wk1, wk2, wk3, wk4, wk5, wk6, Fr.ev, Fr.put, Fr.get, storeA, List.replicate, IntKind.bits, sevalprocAttr, g2, g3, g4, g8, g9, hi, p1, p3, wi, ga, gb, w1, w2, w4, w5, t1, t2, lm, lb, bu_set, uL_set, st, Int.toNat_natCast, Nat.mul_one, List.length_cons, YtdknnaalfoongaaGreatDoor.D114, ty1, ty3, ty4, ty142, ty170, ty172]
      exact ih (c - 1) _ _ (by omega) ⟨i + 1, by omega, by simp [Fr.get, g2], by simp [Fr.get, g3], by simp [Fr.get, g4], by simp [Fr.get], by simp [Fr.get], rfl⟩
    · obtain rfl : i = 8 := by omega
      obtain ⟨x0, x1, x2, x3, x4, x5, x6, x7, hX⟩ := ex8 (mixL (n + m) n 8) (mixL_len _ _ _)
      simp (maxSteps := 2000000) only [wk0, wk1, wk2, wk3, wk4, wk5, wk6, Fr.ev, Fr.put, Fr.get, storeA, List.replicate, IntKind.bits, sevalprocAttr, g2, g3, g4, g8, g9, hi, hX, YtdknnaalfoongaaGreatDoor.D114, ty1, ty3, ty4, ty142, ty170, ty172]
      exact retB_plain (by simp [nmd_agg, nmd_bool, nmd_int]) (by simp only [packA, longA]; rw [← mixL_all (n + m) n, hX]) (by simp)
  · rw [if_neg hst]
    have hs1 : (s == t) = false := by simpa using hst
    have hs2 : (s != t) = true := by simpa using hst
    simp (maxSteps := 2000000) only [wk0, wk1, wk2, wk3, wk4, wk5, wk6, Fr.ev, Fr.put, Fr.get, storeA, List.replicate, IntKind.bits, sevalprocAttr, longA, ln, lm, List.length_cons, hst, hs1, hs2, Bool.not_false, tn, tm, YtdknnaalfoongaaGreatDoor.D114, ty1, ty3, ty4, ty142, ty170, ty172]
    refine callThen_of (hl _) ?_
    by_cases hnm : n < m
    · rw [if_pos hnm]
      have hba : n ≤ m := by omega
      obtain ⟨x0, x1, x2, x3, x4, x5, x6, x7, hXn⟩ := ex8 (wB n) (wB_len n)
      obtain ⟨y0, y1, y2, y3, y4, y5, y6, y7, hXm⟩ := ex8 (wB m) (wB_len m)
      simp (maxSteps := 2000000) only [wk0, wk1, wk2, wk3, wk4, wk5, wk6, Fr.ev, Fr.put, Fr.get, storeA, List.replicate, IntKind.bits, sevalprocAttr, hnm, decide_true, hXn, hXm, YtdknnaalfoongaaGreatDoor.D114, ty1, ty3, ty4, ty142, ty170, ty172]
      refine loopC_ind (fun c fr H => ∃ i : Nat, i + c = 8 ∧ fr.get 2 = .ptr S.length 0 0 ∧ fr.get 3 = .ptr (S.length + 1) 0 0 ∧ fr.get 4 = .ptr (S.length + 2) 0 0 ∧ fr.get 5 = .int .u64 ((eB m n i : Nat) : Int) ∧ fr.get 6 = .int .i64 (i : Int) ∧
          H = S ++ [some ⟨.bool t :: uL (mixL (m - n) m i), 0⟩, some ⟨.bool s :: uL (wB n), 0⟩, some ⟨[.bool false, .int .u64 0, .int .u64 0, .int .u64 0, .int .u64 0, .int .u64 0, .int .u64 0, .int .u64 0, .int .u64 0], 0⟩]) ?_ (n := 8) ⟨0, rfl, rfl, rfl, rfl, by rw [eB_zero]; rfl, rfl, by first | (rw [mixL_zero]; done) | (rw [mixL_zero, hXn, hXm]; done)⟩
      rintro c fr H ⟨i, him, g2, g3, g4, g5, g6, rfl⟩ ih
      have lm : (uL (mixL (m - n) m i)).length = 8 := by rw [uL_len, mixL_len]
      have lb : (uL (wB n)).length = 8 := by rw [uL_len, wB_len]
      by_cases hi : (i : Int) < 8
      · have hi8 : i < 8 := by omega
        have p1 : (0 : Int) ≤ (i : Int) := by omega
        have p3 : 1 + i ≤ 8 := by omega
        have wi : IntKind.i64.wrap ((i : Int) + 1) = ((i + 1 : Nat) : Int) := wrapI (by omega)
        have da := dB_lt m i
        have db := dB_lt n i
        have e1 := eB_le m n i
        have e2 := eB_step m n i
        have e3 := eB_dgt hba i
        have ga := bu_get (b := .bool t) (mixL_get (m - n) m i hi8 (Nat.le_refl _))
        have gb := bu_get (b := .bool s) (wB_get n hi8)
        have w1 : IntKind.u64.wrap (4294967296 + ((dB m i : Nat) : Int)) = 4294967296 + ((dB m i : Nat) : Int) := wrapU (by omega)
        have w2 : IntKind.u64.wrap (4294967296 + ((dB m i : Nat) : Int) - ((dB n i : Nat) : Int)) = 4294967296 + ((dB m i : Nat) : Int) - ((dB n i : Nat) : Int) := wrapU (by omega)
        have w3 : IntKind.u64.wrap (4294967296 + ((dB m i : Nat) : Int) - ((dB n i : Nat) : Int) - ((eB m n i : Nat) : Int)) = 4294967296 + ((dB m i : Nat) : Int) - ((dB n i : Nat) : Int) - ((eB m n i : Nat) : Int) := wrapU (by omega)
        have t1 : Int.tmod (4294967296 + ((dB m i : Nat) : Int) - ((dB n i : Nat) : Int) - ((eB m n i : Nat) : Int)) 4294967296 = ((dB (m - n) i : Nat) : Int) := by rw [Int.tmod_eq_emod_of_nonneg (by omega)]; exact e3.symm
        have t2 : Int.tdiv (4294967296 + ((dB m i : Nat) : Int) - ((dB n i : Nat) : Int) - ((eB m n i : Nat) : Int)) 4294967296 = 1 - ((eB m n (i + 1) : Nat) : Int) := by rw [Int.tdiv_eq_ediv_of_nonneg (by omega)]; omega
        have dr := dB_lt (m - n) i
        have e4 := eB_le m n (i + 1)
        have w4 : IntKind.u64.wrap ((dB (m - n) i : Nat) : Int) = ((dB (m - n) i : Nat) : Int) := wrapU (by omega)
        have w5 : IntKind.u64.wrap (1 - ((eB m n (i + 1) : Nat) : Int)) = 1 - ((eB m n (i + 1) : Nat) : Int) := wrapU (by omega)
        have w6 : IntKind.u64.wrap (1 - (1 - ((eB m n (i + 1) : Nat) : Int))) = ((eB m n (i + 1) : Nat) : Int) := by rw [wrapU (by omega)]; omega
        have st := mixL_set (m - n) m i hi8
        simp (maxSteps := 2000000) only [wk0, wk1, wk2, wk3, wk4, wk5, wk6, Fr.ev, Fr.put, Fr.get, storeA, List.replicate, IntKind.bits, sevalprocAttr, g2, g3, g4, g5, g6, hi, p1, p3, wi, ga, gb, w1, w2, w3, w4, w5, w6, t1, t2, lm, lb, bu_set, uL_set, st, Int.toNat_natCast, Nat.mul_one, List.length_cons, YtdknnaalfoongaaGreatDoor.D114, ty1, ty3, ty4, ty142, ty170, ty172]
        exact ih (c - 1) _ _ (by omega) ⟨i + 1, by omega, by simp [Fr.get, g2], by simp [Fr.get, g3], by simp [Fr.get, g4], by simp [Fr.get], by simp [Fr.get], rfl⟩
      · obtain rfl : i = 8 := by omega
        obtain ⟨x0, x1, x2, x3, x4, x5, x6, x7, hX⟩ := ex8 (mixL (m - n) m 8) (mixL_len _ _ _)
        simp (maxSteps := 2000000) only [wk0, wk1, wk2, wk3, wk4, wk5, wk6, Fr.ev, Fr.put, Fr.get, storeA, List.replicate, IntKind.bits, sevalprocAttr, g2, g3, g4, g5, g6, hi, hX, YtdknnaalfoongaaGreatDoor.D114, ty1, ty3, ty4, ty142, ty170, ty172]
        exact retB_plain (by simp [nmd_agg, nmd_bool, nmd_int]) (by simp only [packA, longA]; rw [← mixL_all (m - n) m, hX]) (by simp)
    · rw [if_neg hnm]
      have hba : m ≤ n := by omega
      simp (maxSteps := 2000000) only [wk0, wk1, wk2, wk3, wk4, wk5, wk6, Fr.ev, Fr.put, Fr.get, storeA, List.replicate, IntKind.bits, sevalprocAttr, hnm, decide_false, ln, lm, List.length_cons, YtdknnaalfoongaaGreatDoor.D114, ty1, ty3, ty4, ty142, ty170, ty172]
      refine loopC_ind (fun c fr H => ∃ i : Nat, i + c = 8 ∧ fr.get 2 = .ptr S.length 0 0 ∧ fr.get 3 = .ptr (S.length + 1) 0 0 ∧ fr.get 4 = .ptr (S.length + 2) 0 0 ∧ fr.get 5 = .int .u64 ((eB n m i : Nat) : Int) ∧ fr.get 6 = .int .i64 (i : Int) ∧
          H = S ++ [some ⟨.bool s :: uL (mixL (n - m) n i), 0⟩, some ⟨.bool t :: uL (wB m), 0⟩, some ⟨[.bool false, .int .u64 0, .int .u64 0, .int .u64 0, .int .u64 0, .int .u64 0, .int .u64 0, .int .u64 0, .int .u64 0], 0⟩]) ?_ (n := 8) ⟨0, rfl, rfl, rfl, rfl, by rw [eB_zero]; rfl, rfl, by first | (rw [mixL_zero]; done) | (rw [mixL_zero, hXn, hXm]; done)⟩
      rintro c fr H ⟨i, him, g2, g3, g4, g5, g6, rfl⟩ ih
      have lm : (uL (mixL (n - m) n i)).length = 8 := by rw [uL_len, mixL_len]
      have lb : (uL (wB m)).length = 8 := by rw [uL_len, wB_len]
      by_cases hi : (i : Int) < 8
      · have hi8 : i < 8 := by omega
        have p1 : (0 : Int) ≤ (i : Int) := by omega
        have p3 : 1 + i ≤ 8 := by omega
        have wi : IntKind.i64.wrap ((i : Int) + 1) = ((i + 1 : Nat) : Int) := wrapI (by omega)
        have da := dB_lt n i
        have db := dB_lt m i
        have e1 := eB_le n m i
        have e2 := eB_step n m i
        have e3 := eB_dgt hba i
        have ga := bu_get (b := .bool s) (mixL_get (n - m) n i hi8 (Nat.le_refl _))
        have gb := bu_get (b := .bool t) (wB_get m hi8)
        have w1 : IntKind.u64.wrap (4294967296 + ((dB n i : Nat) : Int)) = 4294967296 + ((dB n i : Nat) : Int) := wrapU (by omega)
        have w2 : IntKind.u64.wrap (4294967296 + ((dB n i : Nat) : Int) - ((dB m i : Nat) : Int)) = 4294967296 + ((dB n i : Nat) : Int) - ((dB m i : Nat) : Int) := wrapU (by omega)
        have w3 : IntKind.u64.wrap (4294967296 + ((dB n i : Nat) : Int) - ((dB m i : Nat) : Int) - ((eB n m i : Nat) : Int)) = 4294967296 + ((dB n i : Nat) : Int) - ((dB m i : Nat) : Int) - ((eB n m i : Nat) : Int) := wrapU (by omega)
        have t1 : Int.tmod (4294967296 + ((dB n i : Nat) : Int) - ((dB m i : Nat) : Int) - ((eB n m i : Nat) : Int)) 4294967296 = ((dB (n - m) i : Nat) : Int) := by rw [Int.tmod_eq_emod_of_nonneg (by omega)]; exact e3.symm
        have t2 : Int.tdiv (4294967296 + ((dB n i : Nat) : Int) - ((dB m i : Nat) : Int) - ((eB n m i : Nat) : Int)) 4294967296 = 1 - ((eB n m (i + 1) : Nat) : Int) := by rw [Int.tdiv_eq_ediv_of_nonneg (by omega)]; omega
        have dr := dB_lt (n - m) i
        have e4 := eB_le n m (i + 1)
        have w4 : IntKind.u64.wrap ((dB (n - m) i : Nat) : Int) = ((dB (n - m) i : Nat) : Int) := wrapU (by omega)
        have w5 : IntKind.u64.wrap (1 - ((eB n m (i + 1) : Nat) : Int)) = 1 - ((eB n m (i + 1) : Nat) : Int) := wrapU (by omega)
        have w6 : IntKind.u64.wrap (1 - (1 - ((eB n m (i + 1) : Nat) : Int))) = ((eB n m (i + 1) : Nat) : Int) := by rw [wrapU (by omega)]; omega
        have st := mixL_set (n - m) n i hi8
        simp (maxSteps := 2000000) only [wk0, wk1, wk2, wk3, wk4, wk5, wk6, Fr.ev, Fr.put, Fr.get, storeA, List.replicate, IntKind.bits, sevalprocAttr, g2, g3, g4, g5, g6, hi, p1, p3, wi, ga, gb, w1, w2, w3, w4, w5, w6, t1, t2, lm, lb, bu_set, uL_set, st, Int.toNat_natCast, Nat.mul_one, List.length_cons, YtdknnaalfoongaaGreatDoor.D114, ty1, ty3, ty4, ty142, ty170, ty172]
        exact ih (c - 1) _ _ (by omega) ⟨i + 1, by omega, by simp [Fr.get, g2], by simp [Fr.get, g3], by simp [Fr.get, g4], by simp [Fr.get], by simp [Fr.get], rfl⟩
      · obtain rfl : i = 8 := by omega
        obtain ⟨x0, x1, x2, x3, x4, x5, x6, x7, hX⟩ := ex8 (mixL (n - m) n 8) (mixL_len _ _ _)
        simp (maxSteps := 2000000) only [wk0, wk1, wk2, wk3, wk4, wk5, wk6, Fr.ev, Fr.put, Fr.get, storeA, List.replicate, IntKind.bits, sevalprocAttr, g2, g3, g4, g5, g6, hi, hX, YtdknnaalfoongaaGreatDoor.D114, ty1, ty3, ty4, ty142, ty170, ty172]
        exact retB_plain (by simp [nmd_agg, nmd_bool, nmd_int]) (by simp only [packA, longA]; rw [← mixL_all (n - m) n, hX]) (by simp)
end Go.Proofs.YtdknnaalfoongaaGreatDoor
