/- Decimals: sums with signs; numbers of 64 bits; what is bounded. -/
import Derived.Test.YtoncolpkpgbfiaaDoorD2
set_option linter.unusedSimpArgs false
set_option linter.unusedVariables false
set_option maxRecDepth 100000
set_option maxHeartbeats 4000000
namespace Go.Proofs.YtoncolpkpgbfiaaDoor
theorem lenD_add {a b k : Nat} (ha : lenD a ≤ k) (hb : lenD b ≤ k) : lenD (a + b) ≤ k + 1 := (lenD_le _ _).2 (by
  have h1 := (lenD_le _ _).1 ha
  have h2 := (lenD_le _ _).1 hb
  rw [Nat.pow_succ]
  omega)
theorem lenD_sub {b k : Nat} (a : Nat) (hb : lenD b ≤ k) : lenD (b - a) ≤ k := (lenD_le _ _).2 (by have h1 := (lenD_le _ _).1 hb; omega)
theorem lenD_mono {a b k : Nat} (h : a ≤ b) (hb : lenD b ≤ k) : lenD a ≤ k := (lenD_le _ _).2 (Nat.lt_of_le_of_lt h ((lenD_le _ _).1 hb))
def numA (neg : Bool) (n : Nat) : AV := .agg [.bool (neg && decide (0 < n)), lstI (digs n)]
def decS (s : Bool) (n : Nat) : AV := .agg [.bool s, lstI (digs n)]
theorem decA_S (z : Int) : decA z = decS (decide (z < 0)) z.natAbs := rfl
theorem numA_S (neg : Bool) (n : Nat) : numA neg n = decS (neg && decide (0 < n)) n := rfl
theorem decS_eq {s t : Bool} {n m : Nat} (h : s = t) (h2 : n = m) : decS s n = decS t m := by rw [h, h2]
noncomputable def c81 : Code := Tryd.f81.body.getD .skip
theorem b81 : Tryd.f81.body = some c81 := rfl
theorem d81 : fnOk Tryd.f81 c81 = true := by kernel_rfl
def D81 : Nat → List Tag := fun _ => []
theorem e81 : drawsOk D81 c81 = true := by kernel_rfl
theorem decNum1_ok (neg : Bool) (n : Nat) (S : Heap) (hn : lenD n ≤ 100000) : Call theE 81 [.bool neg, lstI (digs n)] S (numA neg n) S := by
  have dn := digs_len n
  refine Call.ofC Tryd.func81 YtoncolpkpgbfiaaDoor.b81 YtoncolpkpgbfiaaDoor.d81 YtoncolpkpgbfiaaDoor.e81 (by simp [Tryd.f81]) ?_
  dsimp only [YtoncolpkpgbfiaaDoor.c81, Tryd.f81, Option.getD_some]
  cases neg with
  | false =>
    simp (maxSteps := 2000000) only [wk0, wk1, wk2, wk3, wk4, wk5, wk6, Fr.ev, Fr.put, Fr.get, storeA, List.replicate, IntKind.bits, sevalprocAttr, lstI, dn, YtoncolpkpgbfiaaDoor.D81, ty3, ty4, ty100, ty102]
    exact retB_plain (by simp [nmd_agg, nmd_bool, nmd_lst]) (by simp [packA, numA, lstI, dn]) (by simp)
  | true =>
    by_cases h0 : n = 0
    · have p1 : ¬ (0 : Int) < ((lenD n : Nat) : Int) := by rw [h0, lenD_zero]; decide
      simp (maxSteps := 2000000) only [wk0, wk1, wk2, wk3, wk4, wk5, wk6, Fr.ev, Fr.put, Fr.get, storeA, List.replicate, IntKind.bits, sevalprocAttr, lstI, dn, p1, YtoncolpkpgbfiaaDoor.D81, ty3, ty4, ty100, ty102]
      exact retB_plain (by simp [nmd_agg, nmd_bool, nmd_lst]) (by subst h0; simp [packA, numA, lstI, dn]) (by simp)
    · have p1 : (0 : Int) < ((lenD n : Nat) : Int) := by have := (lt_lenD n 0).2 (by omega); omega
      have p2 : 0 < n := by omega
      simp (maxSteps := 2000000) only [wk0, wk1, wk2, wk3, wk4, wk5, wk6, Fr.ev, Fr.put, Fr.get, storeA, List.replicate, IntKind.bits, sevalprocAttr, lstI, dn, p1, YtoncolpkpgbfiaaDoor.D81, ty3, ty4, ty100, ty102]
      exact retB_plain (by simp [nmd_agg, nmd_bool, nmd_lst]) (by simp [packA, numA, lstI, dn, p2]) (by simp)
noncomputable def c85 : Code := Tryd.f85.body.getD .skip
theorem b85 : Tryd.f85.body = some c85 := rfl
theorem d85 : fnOk Tryd.f85 c85 = true := by kernel_rfl
def D85 : Nat → List Tag := fun _ => []
theorem e85 : drawsOk D85 c85 = true := by kernel_rfl
theorem decNeg1_ok (s : Bool) (n : Nat) (S : Heap) (hn : lenD n ≤ 100000) : Call theE 85 [decS s n] S (numA (!s) n) S := by
  refine Call.ofC Tryd.func85 YtoncolpkpgbfiaaDoor.b85 YtoncolpkpgbfiaaDoor.d85 YtoncolpkpgbfiaaDoor.e85 (by simp [Tryd.f85]) ?_
  dsimp only [YtoncolpkpgbfiaaDoor.c85, Tryd.f85, Option.getD_some]
  have hc := fun S => decNum1_ok (!s) n S hn
  simp (maxSteps := 2000000) only [wk0, wk1, wk2, wk3, wk4, wk5, wk6, Fr.ev, Fr.put, Fr.get, storeA, List.replicate, IntKind.bits, sevalprocAttr, decS, lstI, YtoncolpkpgbfiaaDoor.D85, ty1, ty4, ty100, ty102]
  refine callThen_of (hc _) ?_
  simp (maxSteps := 2000000) only [wk0, wk1, wk2, wk3, wk4, wk5, wk6, Fr.ev, Fr.put, Fr.get, storeA, List.replicate, IntKind.bits, sevalprocAttr, numA, lstI, YtoncolpkpgbfiaaDoor.D85, ty1, ty4, ty100, ty102]
  exact retB_plain (by simp [nmd_agg, nmd_bool, nmd_lst, lstI]) rfl (by simp)
theorem decNeg_ok (z : Int) (S : Heap) (hn : lenD z.natAbs ≤ 100000) : Call theE 85 [decA z] S (decA (-z)) S := by
  have := decNeg1_ok (decide (z < 0)) z.natAbs S hn
  rw [numA_S] at this
  rw [decA_S, decA_S, decS_eq (s := decide (-z < 0)) (t := (!decide (z < 0) && decide (0 < z.natAbs))) (n := (-z).natAbs) (m := z.natAbs) ?_ (by omega)]
  · exact this
  · by_cases h : z < 0
    · simp [h]; omega
    · by_cases h2 : 0 < z.natAbs
      · simp [h, h2]; omega
      · simp [h, h2]; omega
def addA (sx sy : Bool) (a b : Nat) : AV := if sx = sy then numA sx (a + b) else if a < b then numA sy (b - a) else numA sx (a - b)
noncomputable def c46 : Code := Tryd.f46.body.getD .skip
theorem b46 : Tryd.f46.body = some c46 := rfl
theorem d46 : fnOk Tryd.f46 c46 = true := by kernel_rfl
def D46 : Nat → List Tag
  | 2 => [.pure, .quiet, .pure, .quiet, .pure, .quiet, .quiet, .seq, .seq]
  | 4 => [.pure, .quiet, .pure, .quiet, .pure, .quiet, .quiet, .seq, .seq]
  | 5 => [.pure, .quiet, .pure, .quiet, .pure, .quiet, .quiet, .seq, .seq]
  | _ => []
theorem e46 : drawsOk D46 c46 = true := by kernel_rfl
theorem decAdd1_ok (sx sy : Bool) (a b : Nat) (S : Heap) (ha : lenD a ≤ 80000) (hb : lenD b ≤ 80000) : Call theE 46 [decS sx a, decS sy b] S (addA sx sy a b) S := by
  have l1 := lenD_add ha hb
  have l2 := lenD_sub a hb
  have l3 := lenD_sub b ha
  have hp := fun S => decPlus_ok a b S (by omega) (by omega)
  have hn1 := fun S => decNum1_ok sx (a + b) S (by omega)
  have hl := fun S => decLess_ok a b S (by omega) (by omega)
  have hn2 := fun S => decNum1_ok sy (b - a) S (by omega)
  have hn3 := fun S => decNum1_ok sx (a - b) S (by omega)
  have e1 : numA sx (a + b) = .agg [.bool (sx && decide (0 < a + b)), .lst ((digs (a + b)).map fun x => .int .i64 x) (digs (a + b)).length] := rfl
  unfold addA
  refine Call.ofC Tryd.func46 YtoncolpkpgbfiaaDoor.b46 YtoncolpkpgbfiaaDoor.d46 YtoncolpkpgbfiaaDoor.e46 (by simp [Tryd.f46]) ?_
  dsimp only [YtoncolpkpgbfiaaDoor.c46, Tryd.f46, Option.getD_some]
  by_cases hs : sx = sy
  · subst hs
    rw [if_pos rfl]
    simp (maxSteps := 2000000) only [wk0, wk1, wk2, wk3, wk4, wk5, wk6, Fr.ev, Fr.put, Fr.get, storeA, List.replicate, IntKind.bits, sevalprocAttr, decS, beq_self_eq_true, decide_true, YtoncolpkpgbfiaaDoor.D46, ty1, ty4, ty100, ty102]
    refine callThen_of (hp _) ?_
    simp (maxSteps := 2000000) only [wk0, wk1, wk2, wk3, wk4, wk5, wk6, Fr.ev, Fr.put, Fr.get, storeA, List.replicate, IntKind.bits, sevalprocAttr, decS, lstI, YtoncolpkpgbfiaaDoor.D46, ty1, ty4, ty100, ty102]
    refine callThen_of (hn1 _) ?_
    simp (maxSteps := 2000000) only [wk0, wk1, wk2, wk3, wk4, wk5, wk6, Fr.ev, Fr.put, Fr.get, storeA, List.replicate, IntKind.bits, sevalprocAttr, numA, lstI, YtoncolpkpgbfiaaDoor.D46, ty1, ty4, ty100, ty102]
    exact retB_plain (by simp [nmd_agg, nmd_bool, nmd_lst, lstI]) rfl (by simp)
  · rw [if_neg hs]
    have hs1 : decide (sx = sy) = false := decide_eq_false hs
    have hs2 : (sx == sy) = false := by simpa using hs
    simp (maxSteps := 2000000) only [wk0, wk1, wk2, wk3, wk4, wk5, wk6, Fr.ev, Fr.put, Fr.get, storeA, List.replicate, IntKind.bits, sevalprocAttr, decS, lstI, hs, hs1, hs2, YtoncolpkpgbfiaaDoor.D46, ty1, ty4, ty100, ty102]
    refine callThen_of (hl _) ?_
    by_cases hab : a < b
    · rw [if_pos hab]
      have hm := fun S => decMinus_ok b a S (by omega) (by omega)
      simp (maxSteps := 2000000) only [wk0, wk1, wk2, wk3, wk4, wk5, wk6, Fr.ev, Fr.put, Fr.get, storeA, List.replicate, IntKind.bits, sevalprocAttr, decS, lstI, hab, decide_true, YtoncolpkpgbfiaaDoor.D46, ty1, ty4, ty100, ty102]
      refine callThen_of (hm _) ?_
      simp (maxSteps := 2000000) only [wk0, wk1, wk2, wk3, wk4, wk5, wk6, Fr.ev, Fr.put, Fr.get, storeA, List.replicate, IntKind.bits, sevalprocAttr, decS, lstI, YtoncolpkpgbfiaaDoor.D46, ty1, ty4, ty100, ty102]
      refine callThen_of (hn2 _) ?_
      simp (maxSteps := 2000000) only [wk0, wk1, wk2, wk3, wk4, wk5, wk6, Fr.ev, Fr.put, Fr.get, storeA, List.replicate, IntKind.bits, sevalprocAttr, numA, lstI, YtoncolpkpgbfiaaDoor.D46, ty1, ty4, ty100, ty102]
      exact retB_plain (by simp [nmd_agg, nmd_bool, nmd_lst, lstI]) rfl (by simp)
    · rw [if_neg hab]
      have hm := fun S => decMinus_ok a b S (by omega) (by omega)
      simp (maxSteps := 2000000) only [wk0, wk1, wk2, wk3, wk4, wk5, wk6, Fr.ev, Fr.put, Fr.get, storeA, List.replicate, IntKind.bits, sevalprocAttr, decS, lstI, hab, decide_false, YtoncolpkpgbfiaaDoor.D46, ty1, ty4, ty100, ty102]
      refine callThen_of (hm _) ?_
      simp (maxSteps := 2000000) only [wk0, wk1, wk2, wk3, wk4, wk5, wk6, Fr.ev, Fr.put, Fr.get, storeA, List.replicate, IntKind.bits, sevalprocAttr, decS, lstI, YtoncolpkpgbfiaaDoor.D46, ty1, ty4, ty100, ty102]
      refine callThen_of (hn3 _) ?_
      simp (maxSteps := 2000000) only [wk0, wk1, wk2, wk3, wk4, wk5, wk6, Fr.ev, Fr.put, Fr.get, storeA, List.replicate, IntKind.bits, sevalprocAttr, numA, lstI, YtoncolpkpgbfiaaDoor.D46, ty1, ty4, ty100, ty102]
      exact retB_plain (by simp [nmd_agg, nmd_bool, nmd_lst, lstI]) rfl (by simp)
theorem decAdd_ok (x y : Int) (S : Heap) (hx : lenD x.natAbs ≤ 80000) (hy : lenD y.natAbs ≤ 80000) : Call theE 46 [decA x, decA y] S (decA (x + y)) S := by
  have := decAdd1_ok (decide (x < 0)) (decide (y < 0)) x.natAbs y.natAbs S hx hy
  have e : addA (decide (x < 0)) (decide (y < 0)) x.natAbs y.natAbs = decA (x + y) := by
    unfold addA
    rw [decA_S]
    by_cases h1 : x < 0 <;> by_cases h2 : y < 0
    · rw [decide_eq_true h1, decide_eq_true h2, if_pos rfl, numA_S, decide_eq_true (show x + y < 0 by omega)]
      exact decS_eq (by simp; omega) (by omega)
    · rw [decide_eq_true h1, decide_eq_false h2, if_neg (by decide)]
      split
      · rw [numA_S, decide_eq_false (show ¬ x + y < 0 by omega)]
        exact decS_eq (by simp) (by omega)
      · rw [numA_S]
        exact decS_eq (by rw [Bool.true_and]; congr 1; apply propext; omega) (by omega)
    · rw [decide_eq_false h1, decide_eq_true h2, if_neg (by decide)]
      split
      · rw [numA_S]
        exact decS_eq (by rw [Bool.true_and]; congr 1; apply propext; omega) (by omega)
      · rw [numA_S, decide_eq_false (show ¬ x + y < 0 by omega)]
        exact decS_eq (by simp) (by omega)
    · rw [decide_eq_false h1, decide_eq_false h2, if_pos rfl, numA_S, decide_eq_false (show ¬ x + y < 0 by omega)]
      exact decS_eq (by simp) (by omega)
  rwa [e] at this
theorem lenD_neg (z : Int) : lenD (-z).natAbs = lenD z.natAbs := by rw [Int.natAbs_neg]
noncomputable def c47 : Code := Tryd.f47.body.getD .skip
theorem b47 : Tryd.f47.body = some c47 := rfl
theorem d47 : fnOk Tryd.f47 c47 = true := by kernel_rfl
def D47 : Nat → List Tag
  | 1 => [.quiet, .quiet, .quiet, .seq, .seq]
  | _ => []
theorem e47 : drawsOk D47 c47 = true := by kernel_rfl
theorem decSub_ok (x y : Int) (S : Heap) (hx : lenD x.natAbs ≤ 80000) (hy : lenD y.natAbs ≤ 80000) : Call theE 47 [decA x, decA y] S (decA (x - y)) S := by
  have h1 := fun S => decNeg_ok y S (by omega)
  have h2 := fun S => decAdd_ok x (-y) S hx (by rw [lenD_neg]; exact hy)
  rw [← Int.sub_eq_add_neg] at h2
  refine Call.ofC Tryd.func47 YtoncolpkpgbfiaaDoor.b47 YtoncolpkpgbfiaaDoor.d47 YtoncolpkpgbfiaaDoor.e47 (by simp [Tryd.f47]) ?_
  dsimp only [YtoncolpkpgbfiaaDoor.c47, Tryd.f47, Option.getD_some]
  simp (maxSteps := 2000000) only [wk0, wk1, wk2, wk3, wk4, wk5, wk6, Fr.ev, Fr.put, Fr.get, storeA, List.replicate, IntKind.bits, sevalprocAttr, decA, lstI, YtoncolpkpgbfiaaDoor.D47, ty102]
  refine callThen_of (h1 _) ?_
  simp (maxSteps := 2000000) only [wk0, wk1, wk2, wk3, wk4, wk5, wk6, Fr.ev, Fr.put, Fr.get, storeA, List.replicate, IntKind.bits, sevalprocAttr, decA, lstI, YtoncolpkpgbfiaaDoor.D47, ty102]
  refine callThen_of (h2 _) ?_
  simp (maxSteps := 2000000) only [wk0, wk1, wk2, wk3, wk4, wk5, wk6, Fr.ev, Fr.put, Fr.get, storeA, List.replicate, IntKind.bits, sevalprocAttr, decA, lstI, YtoncolpkpgbfiaaDoor.D47, ty102]
  exact retB_plain (by simp [nmd_agg, nmd_bool, nmd_lst, lstI]) rfl (by simp)
end Go.Proofs.YtoncolpkpgbfiaaDoor
