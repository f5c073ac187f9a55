/- Decimals: sums with signs; numbers of 64 bits; what is bounded. -/
import Derived.Test.YtdknnaalfoongaaGreatDoorD2
set_option linter.unusedSimpArgs false
set_option linter.unusedVariables false
set_option maxRecDepth 100000
set_option maxHeartbeats 4000000
namespace Go.Proofs.YtdknnaalfoongaaGreatDoor
theorem lenD_add {a b k : Nat} (ha : lenD a ≤ k) (hb : lenD b ≤ k) : lenD (a + b) ≤ k + 1 := (lenD_le _ _).2 (by
  have h1 := (lenD_le _ _).1 ha
  have h2 := (lenD_le _ _).1 hb
  rw [Nat.pow_succ]
  omega)
theorem lenD_sub {b k : Nat} (a : Nat) (hb : lenD b ≤ k) : lenD (b - a) ≤ k := (lenD_le _ _).2 (by have h1 := (lenD_le _ _).1 hb; omega)
theorem lenD_mono {a b k : Nat} (h : a ≤ b) (hb : lenD b ≤ k) : lenD a ≤ k := (lenD_le _ _).2 (Nat.lt_of_le_of_lt h ((lenD_le _ _).1 hb))
def numA (neg : Bool) (n : Nat) : AV := .agg [.bool (neg && decide (0 < n)), lstI (digs n)]
def decS (s : Bool) (n : Nat) : AV := .agg [.bool s, lstI (digs n)]
theorem decA_S (z : Int) : decA z = decS (decide (z < 0)) z.natAbs := rfl
theorem numA_S (neg : Bool) (n : Nat) : numA neg n = decS (neg && decide (0 < n)) n := rfl
theorem decS_eq {s t : Bool} {n m : Nat} (h : s = t) (h2 : n = m) : decS s n = decS t m := by rw [h, h2]
noncomputable def c101 : Code := Tryz.f101.body.getD .skip
theorem b101 : Tryz.f101.body = some c101 := rfl
theorem d101 : fnOk Tryz.f101 c101 = true := by kernel_rfl
def D101 : Nat → List Tag := fun _ => []
theorem e101 : drawsOk D101 c101 = true := by kernel_rfl
theorem decNum1_ok (neg : Bool) (n : Nat) (S : Heap) (hn : lenD n ≤ 100000) : Call theE 101 [.bool neg, lstI (digs n)] S (numA neg n) S := by
  have dn := digs_len n
  refine Call.ofC Tryz.func101 YtdknnaalfoongaaGreatDoor.b101 YtdknnaalfoongaaGreatDoor.d101 YtdknnaalfoongaaGreatDoor.e101 (by simp [Tryz.f101]) ?_
  dsimp only [YtdknnaalfoongaaGreatDoor.c101, Tryz.f101, Option.getD_some]
  cases neg with
  | false =>
    simp (maxSteps := 2000000) only [wk0, wk1, wk2, wk3, wk4, wk5, wk6, Fr.ev, Fr.put, Fr.get, storeA, List.replicate, IntKind.bits, sevalprocAttr, lstI, dn, YtdknnaalfoongaaGreatDoor.D101, ty3, ty4, ty113, ty115]
    exact retB_plain (by simp [nmd_agg, nmd_bool, nmd_lst]) (by simp [packA, numA, lstI, dn]) (by simp)
  | true =>
    by_cases h0 : n = 0
    · have p1 : ¬ (0 : Int) < ((lenD n : Nat) : Int) := by rw [h0, lenD_zero]; decide
      simp (maxSteps := 2000000) only [wk0, wk1, wk2, wk3, wk4, wk5, wk6, Fr.ev, Fr.put, Fr.get, storeA, List.replicate, IntKind.bits, sevalprocAttr, lstI, dn, p1, YtdknnaalfoongaaGreatDoor.D101, ty3, ty4, ty113, ty115]
      exact retB_plain (by simp [nmd_agg, nmd_bool, nmd_lst]) (by subst h0; simp [packA, numA, lstI, dn]) (by simp)
    · have p1 : (0 : Int) < ((lenD n : Nat) : Int) := by have := (lt_lenD n 0).2 (by omega); omega
      have p2 : 0 < n := by omega
      simp (maxSteps := 2000000) only [wk0, wk1, wk2, wk3, wk4, wk5, wk6, Fr.ev, Fr.put, Fr.get, storeA, List.replicate, IntKind.bits, sevalprocAttr, lstI, dn, p1, YtdknnaalfoongaaGreatDoor.D101, ty3, ty4, ty113, ty115]
      exact retB_plain (by simp [nmd_agg, nmd_bool, nmd_lst]) (by simp [packA, numA, lstI, dn, p2]) (by simp)
noncomputable def c130 : Code := Tryz.f130.body.getD .skip
theorem b130 : Tryz.f130.body = some c130 := rfl
theorem d130 : fnOk Tryz.f130 c130 = true := by kernel_rfl
def D130 : Nat → List Tag := fun _ => []
theorem e130 : drawsOk D130 c130 = true := by kernel_rfl
theorem decNeg1_ok (s : Bool) (n : Nat) (S : Heap) (hn : lenD n ≤ 100000) : Call theE 130 [decS s n] S (numA (!s) n) S := by
  refine Call.ofC Tryz.func130 YtdknnaalfoongaaGreatDoor.b130 YtdknnaalfoongaaGreatDoor.d130 YtdknnaalfoongaaGreatDoor.e130 (by simp [Tryz.f130]) ?_
  dsimp only [YtdknnaalfoongaaGreatDoor.c130, Tryz.f130, Option.getD_some]
  have hc := fun S => decNum1_ok (!s) n S hn
  simp (maxSteps := 2000000) only [wk0, wk1, wk2, wk3, wk4, wk5, wk6, Fr.ev, Fr.put, Fr.get, storeA, List.replicate, IntKind.bits, sevalprocAttr, decS, lstI, YtdknnaalfoongaaGreatDoor.D130, ty1, ty4, ty113, ty115]
  refine callThen_of (hc _) ?_
  simp (maxSteps := 2000000) only [wk0, wk1, wk2, wk3, wk4, wk5, wk6, Fr.ev, Fr.put, Fr.get, storeA, List.replicate, IntKind.bits, sevalprocAttr, numA, lstI, YtdknnaalfoongaaGreatDoor.D130, ty1, ty4, ty113, ty115]
  exact retB_plain (by simp [nmd_agg, nmd_bool, nmd_lst, lstI]) rfl (by simp)
theorem decNeg_ok (z : Int) (S : Heap) (hn : lenD z.natAbs ≤ 100000) : Call theE 130 [decA z] S (decA (-z)) S := by
  have := decNeg1_ok (decide (z < 0)) z.natAbs S hn
  rw [numA_S] at this
  rw [decA_S, decA_S, decS_eq (s := decide (-z < 0)) (t := (!decide (z < 0) && decide (0 < z.natAbs))) (n := (-z).natAbs) (m := z.natAbs) ?_ (by omega)]
  · exact this
  · by_cases h : z < 0
    · simp [h]; omega
    · by_cases h2 : 0 < z.natAbs
      · simp [h, h2]; omega
      · simp [h, h2]; omega
def addA (sx sy : Bool) (a b : Nat) : AV := if sx = sy then numA sx (a + b) else if a < b then numA sy (b - a) else numA sx (a - b)
noncomputable def c68 : Code := Tryz.f68.body.getD .skip
theorem b68 : Tryz.f68.body = some c68 := rfl
theorem d68 : fnOk Tryz.f68 c68 = true := by kernel_rfl
def D68 : Nat → List Tag
  | 2 => [.pure, .quiet, .pure, .quiet, .pure, .quiet, .quiet, .seq, .seq]
  | 4 => [.pure, .quiet, .pure, .quiet, .pure, .quiet, .quiet, .seq, .seq]
  | 5 => [.pure, .quiet, .pure, .quiet, .pure, .quiet, .quiet, .seq, .seq]
  | _ => []
theorem e68 : drawsOk D68 c68 = true := by kernel_rfl
theorem decAdd1_ok (sx sy : Bool) (a b : Nat) (S : Heap) (ha : lenD a ≤ 80000) (hb : lenD b ≤ 80000) : Call theE 68 [decS sx a, decS sy b] S (addA sx sy a b) S := by
  have l1 := lenD_add ha hb
  have l2 := lenD_sub a hb
  have l3 := lenD_sub b ha
  have hp := fun S => decPlus_ok a b S (by omega) (by omega)
  have hn1 := fun S => decNum1_ok sx (a + b) S (by omega)
  have hl := fun S => decLess_ok a b S (by omega) (by omega)
  have hn2 := fun S => decNum1_ok sy (b - a) S (by omega)
  have hn3 := fun S => decNum1_ok sx (a - b) S (by omega)
  have e1 : numA sx (a + b) = .agg [.bool (sx && decide (0 < a + b)), .lst ((digs (a + b)).map fun x => .int .i64 x) (digs (a + b)).length] := rfl
  unfold addA
  refine Call.ofC Tryz.func68 YtdknnaalfoongaaGreatDoor.b68 YtdknnaalfoongaaGreatDoor.d68 YtdknnaalfoongaaGreatDoor.e68 (by simp [Tryz.f68]) ?_
  dsimp only [YtdknnaalfoongaaGreatDoor.c68, Tryz.f68, Option.getD_some]
  by_cases hs : sx = sy
  · subst hs
    rw [if_pos rfl]
    simp (maxSteps := 2000000) only [wk0, wk1, wk2, wk3, wk4, wk5, wk6, Fr.ev, Fr.put, Fr.get, storeA, List.replicate, IntKind.bits, sevalprocAttr, decS, beq_self_eq_true, decide_true, YtdknnaalfoongaaGreatDoor.D68, ty1, ty4, ty113, ty115]
    refine callThen_of (hp _) ?_
    simp (maxSteps := 2000000) only [wk0, wk1, wk2, wk3, wk4, wk5, wk6, Fr.ev, Fr.put, Fr.get, storeA, List.replicate, IntKind.bits, sevalprocAttr, decS, lstI, YtdknnaalfoongaaGreatDoor.D68, ty1, ty4, ty113, ty115]
    refine callThen_of (hn1 _) ?_
    simp (maxSteps := 2000000) only [wk0, wk1, wk2, wk3, wk4, wk5, wk6, Fr.ev, Fr.put, Fr.get, storeA, List.replicate, IntKind.bits, sevalprocAttr, numA, lstI, YtdknnaalfoongaaGreatDoor.D68, ty1, ty4, ty113, ty115]
    exact retB_plain (by simp [nmd_agg, nmd_bool, nmd_lst, lstI]) rfl (by simp)
  · rw [if_neg hs]
    have hs1 : decide (sx = sy) = false := decide_eq_false hs
    have hs2 : (sx == sy) = false := by simpa using hs
    simp (maxSteps := 2000000) only [wk0, wk1, wk2, wk3, wk4, wk5, wk6, Fr.ev, Fr.put, Fr.get, storeA, List.replicate, IntKind.bits, sevalprocAttr, decS, lstI, hs, hs1, hs2, YtdknnaalfoongaaGreatDoor.D68, ty1, ty4, ty113, ty115]
    refine callThen_of (hl _) ?_
    by_cases hab : a < b
    · rw [if_pos hab]
      have hm := fun S => decMinus_ok b a S (by omega) (by omega)
      simp (maxSteps := 2000000) only [wk0, wk1, wk2, wk3, wk4, wk5, wk6, Fr.ev, Fr.put, Fr.get, storeA, List.replicate, IntKind.bits, sevalprocAttr, decS, lstI, hab, decide_true, YtdknnaalfoongaaGreatDoor.D68, ty1, ty4, ty113, ty115]
      refine callThen_of (hm _) ?_
      simp (maxSteps := 2000000) only [wk0, wk1, wk2, wk3, wk4, wk5, wk6, Fr.ev, Fr.put, Fr.get, storeA, List.replicate, IntKind.bits, sevalprocAttr, decS, lstI, YtdknnaalfoongaaGreatDoor.D68, ty1, ty4, ty113, ty115]
      refine callThen_of (hn2 _) ?_
      simp (maxSteps := 2000000) only [wk0, wk1, wk2, wk3, wk4, wk5, wk6, Fr.ev, Fr.put, Fr.get, storeA, List.replicate, IntKind.bits, sevalprocAttr, numA, lstI, YtdknnaalfoongaaGreatDoor.D68, ty1, ty4, ty113, ty115]
      exact retB_plain (by simp [nmd_agg, nmd_bool, nmd_lst, lstI]) rfl (by simp)
    · rw [if_neg hab]
      have hm := fun S => decMinus_ok a b S (by omega) (by omega)
      simp (maxSteps := 2000000) only [wk0, wk1, wk2, wk3, wk4, wk5, wk6, Fr.ev, Fr.put, Fr.get, storeA, List.replicate, IntKind.bits, sevalprocAttr, decS, lstI, hab, decide_false, YtdknnaalfoongaaGreatDoor.D68, ty1, ty4, ty113, ty115]
      refine callThen_of (hm _) ?_
      simp (maxSteps := 2000000) only [wk0, wk1, wk2, wk3, wk4, wk5, wk6, Fr.ev, Fr.put, Fr.get, storeA, List.replicate, IntKind.bits, sevalprocAttr, decS, lstI, YtdknnaalfoongaaGreatDoor.D68, ty1, ty4, ty113, ty115]
      refine callThen_of (hn3 _) ?_
      simp (maxSteps := 2000000) only [wk0, wk1, wk2, wk3, wk4, wk5, wk6, Fr.ev, Fr.put, Fr.get, storeA, List.replicate, IntKind.bits, sevalprocAttr, numA, lstI, YtdknnaalfoongaaGreatDoor.D68, ty1, ty4, ty113, ty115]
      exact retB_plain (by simp [nmd_agg, nmd_bool, nmd_lst, lstI]) rfl (by simp)
theorem decAdd_ok (x y : Int) (S : Heap) (hx : lenD x.natAbs ≤ 80000) (hy : lenD y.natAbs ≤ 80000) : Call theE 68 [decA x, decA y] S (decA (x + y)) S := by
  have := decAdd1_ok (decide (x < 0)) (decide (y < 0)) x.natAbs y.natAbs S hx hy
  have e : addA (decide (x < 0)) (decide (y < 0)) x.natAbs y.natAbs = decA (x + y) := by
    unfold addA
    rw [decA_S]
    by_cases h1 : x < 0 <;> by_cases h2 : y < 0
    · rw [decide_eq_true h1, decide_eq_true h2, if_pos rfl, numA_S, decide_eq_true (show x + y < 0 by omega)]
      exact decS_eq (by simp; omega) (by omega)
    · rw [decide_eq_true h1, decide_eq_false h2, if_neg (by decide)]
      split
      · rw [numA_S, decide_eq_false (show ¬ x + y < 0 by omega)]
        exact decS_eq (by simp) (by omega)
      · rw [numA_S]
        exact decS_eq (by rw [Bool.true_and]; congr 1; apply propext; omega) (by omega)
    · rw [decide_eq_false h1, decide_eq_true h2, if_neg (by decide)]
      split
      · rw [numA_S]
        exact decS_eq (by rw [Bool.true_and]; congr 1; apply propext; omega) (by omega)
      · rw [numA_S, decide_eq_false (show ¬ x + y < 0 by omega)]
        exact decS_eq (by simp) (by omega)
    · rw [decide_eq_false h1, decide_eq_false h2, if_pos rfl, numA_S, decide_eq_false (show ¬ x + y < 0 by omega)]
      exact decS_eq (by simp) (by omega)
  rwa [e] at this
theorem lenD_neg (z : Int) : lenD (-z).natAbs = lenD z.natAbs := by rw [Int.natAbs_neg]
noncomputable def c99 : Code := Tryz.f99.body.getD .skip
theorem b99 : Tryz.f99.body = some c99 := rfl
theorem d99 : fnOk Tryz.f99 c99 = true := by kernel_rfl
def D99 : Nat → List Tag
  | 1 => [.quiet, .quiet, .quiet, .seq, .seq]
  | _ => []
theorem e99 : drawsOk D99 c99 = true := by kernel_rfl
theorem decSub_ok (x y : Int) (S : Heap) (hx : lenD x.natAbs ≤ 80000) (hy : lenD y.natAbs ≤ 80000) : Call theE 99 [decA x, decA y] S (decA (x - y)) S := by
  have h1 := fun S => decNeg_ok y S (by omega)
  have h2 := fun S => decAdd_ok x (-y) S hx (by rw [lenD_neg]; exact hy)
  rw [← Int.sub_eq_add_neg] at h2
  refine Call.ofC Tryz.func99 YtdknnaalfoongaaGreatDoor.b99 YtdknnaalfoongaaGreatDoor.d99 YtdknnaalfoongaaGreatDoor.e99 (by simp [Tryz.f99]) ?_
  dsimp only [YtdknnaalfoongaaGreatDoor.c99, Tryz.f99, Option.getD_some]
  simp (maxSteps := 2000000) only [wk0, wk1, wk2, wk3, wk4, wk5, wk6, Fr.ev, Fr.put, Fr.get, storeA, List.replicate, IntKind.bits, sevalprocAttr, decA, lstI, YtdknnaalfoongaaGreatDoor.D99, ty115]
  refine callThen_of (h1 _) ?_
  simp (maxSteps := 2000000) only [wk0, wk1, wk2, wk3, wk4, wk5, wk6, Fr.ev, Fr.put, Fr.get, storeA, List.replicate, IntKind.bits, sevalprocAttr, decA, lstI, YtdknnaalfoongaaGreatDoor.D99, ty115]
  refine callThen_of (h2 _) ?_
  simp (maxSteps := 2000000) only [wk0, wk1, wk2, wk3, wk4, wk5, wk6, Fr.ev, Fr.put, Fr.get, storeA, List.replicate, IntKind.bits, sevalprocAttr, decA, lstI, YtdknnaalfoongaaGreatDoor.D99, ty115]
  exact retB_plain (by simp [nmd_agg, nmd_bool, nmd_lst, lstI]) rfl (by simp)
end Go.Proofs.YtdknnaalfoongaaGreatDoor
