/- The law PredictBlank. -/
import Derived.Test.YtdknnaalfoongaaDoorS7
import Derived.Test.YtdknnaalfoongaaDoorEvO
import Derived.Test.YtdknnaalfoongaaDoorAs
set_option linter.unusedSimpArgs false
set_option linter.unusedVariables false
set_option maxRecDepth 100000
set_option maxHeartbeats 16000000
namespace Go.Proofs.YtdknnaalfoongaaDoor
def xor1 (x : Int) : Int := IntKind.i64.wrap (BitVec.ofInt 64 x ^^^ BitVec.ofInt 64 1).toNat
theorem xor1_ne (x : Int) : x ≠ xor1 x := by
  intro h
  have h1 : (BitVec.ofInt 64 x ^^^ BitVec.ofInt 64 1).toNat % 2 = ((x % 18446744073709551616).toNat + 1) % 2 := by
    rw [BitVec.toNat_xor, BitVec.toNat_ofInt, BitVec.toNat_ofInt]
    have h2 := Nat.testBit_xor (x % ((2 ^ 64 : Nat) : Int)).toNat (1 % ((2 ^ 64 : Nat) : Int)).toNat 0
    simp only [Nat.testBit_zero] at h2
    have h3 : (1 % ((2 ^ 64 : Nat) : Int)).toNat = 1 := rfl
    rw [h3] at h2 ⊢
    have h4 : (x % ((2 ^ 64 : Nat) : Int)).toNat = (x % 18446744073709551616).toNat := rfl
    rw [h4] at h2 ⊢
    generalize (x % 18446744073709551616).toNat = a at *
    generalize a ^^^ 1 = b at *
    by_cases ha : a % 2 = 1
    · simp [ha] at h2; omega
    · simp [ha] at h2; omega
  unfold xor1 at h
  generalize (BitVec.ofInt 64 x ^^^ BitVec.ofInt 64 1).toNat = m at *
  simp only [IntKind.wrap, IntKind.bits, IntKind.signed] at h
  simp at h
  split at h <;> omega
theorem st_set (x : Nat → Int) (f : Nat → Nat → Int) (k : Nat) (hk : k < 6) (v : Int) : (stC x 6 6 (gridP 6 f 36)).set k (.int .i64 v) = stC (fun i => if i = k then v else x i) 6 6 (gridP 6 f 36) := by
  match k, hk with
  | 0, _ => rfl
  | 1, _ => rfl
  | 2, _ => rfl
  | 3, _ => rfl
  | 4, _ => rfl
  | 5, _ => rfl
theorem st_get (x : Nat → Int) (f : Nat → Nat → Int) (k : Nat) (hk : k < 6) : (stC x 6 6 (gridP 6 f 36))[k]? = some (.int .i64 (x k)) := by
  match k, hk with
  | 0, _ => rfl
  | 1, _ => rfl
  | 2, _ => rfl
  | 3, _ => rfl
  | 4, _ => rfl
  | 5, _ => rfl
theorem st_len (x : Nat → Int) (f : Nat → Nat → Int) : (stC x 6 6 (gridP 6 f 36)).length = 44 := by simp [stC, gridP_len]
theorem st_all (x : Nat → Int) (f : Nat → Nat → Int) : (stC x 6 6 (gridP 6 f 36)).all AV.one = true := by simp [stC, AV.one]
theorem st_take (x : Nat → Int) (f : Nat → Nat → Int) : List.take 44 (stC x 6 6 (gridP 6 f 36)) = stC x 6 6 (gridP 6 f 36) := List.take_of_length_le (by rw [st_len]; exact Nat.le_refl _)
theorem sp44 (C : List AV) (h : C.length = 44) : splice (List.replicate 44 (.int .i64 0)) 0 C = C := by
  unfold splice
  split
  · simp at h
  · simp [h]
theorem mk6 (H : Heap) (e : Nat) : makeSliceA H (.slice e 1 8 [.int .i64 0]) (.int .i64 6) (.int .i64 6) = some (.sl H.length 0 0 6 6 1, H ++ [some ⟨[.int .i64 0, .int .i64 0, .int .i64 0, .int .i64 0, .int .i64 0, .int .i64 0], 0⟩]) := by
  unfold makeSliceA
  simp only
  rw [if_pos ⟨by omega, by omega, by unfold maxBytes; omega, by omega, rfl⟩]
  rfl
theorem nm6 (n : Nat) (a b c d e f : Int) : (∀ x ∈ [AV.int .i64 a, .int .i64 b, .int .i64 c, .int .i64 d, .int .i64 e, .int .i64 f], Nmd n x) = True := eq_true (by
  intro x hx
  simp only [List.mem_cons, List.not_mem_nil, or_false] at hx
  rcases hx with rfl | rfl | rfl | rfl | rfl | rfl <;> exact .int _ _)
theorem mbx (n : Nat) (h : n ≤ 1000) : n ≤ maxBytes := by unfold maxBytes; omega
theorem mln (n : Nat) (h : n ≤ 1000) : n ≤ 9223372036854775807 := by omega
def gdP (l : List Int) (q : Nat) : Prop := topI (l.getD q 0) ∧ (4 ≤ q → 1 ≤ l.getD q 0)
theorem l7_at {l : List Int} (hl : l.length = 7) (k : Nat) (h : k < 7) : (l.map fun x => AV.int .i64 x)[k]? = some (.int .i64 (l.getD k 0)) := by
  rw [List.getElem?_map, List.getElem?_eq_getElem (by omega), Option.map_some, List.getD_eq_getElem?_getD, List.getElem?_eq_getElem (by omega)]
  rfl
noncomputable def c4 : Code := Tryd.f4.body.getD .skip
theorem b4 : Tryd.f4.body = some c4 := rfl
theorem d4 : fnOk Tryd.f4 c4 = true := by kernel_rfl
def D4 : Nat → List Tag := fun _ => []
theorem e4 : drawsOk D4 c4 = true := by kernel_rfl
theorem predictBlank_ok (x : List AV) (at_ : Int) (S : Heap) (dat : DatL [.int .i64, .int .i64, .int .i64, .int .i64, .int .i64, .int .i64, .int .i64] x) (hat : -9223372036854775808 ≤ at_ ∧ at_ < 9223372036854775808) :
    Call theE 4 [.agg x, .int .i64 at_] S (.bool true) S := by
  obtain ⟨l, rfl, hl⟩ : ∃ l : List Int, x = l.map (fun x => AV.int .i64 x) ∧ l.length = 7 := by
    obtain ⟨a0, r0, rfl, h0, dat⟩ := dat.inv
    obtain ⟨a1, r1, rfl, h1, dat⟩ := dat.inv
    obtain ⟨a2, r2, rfl, h2, dat⟩ := dat.inv
    obtain ⟨a3, r3, rfl, h3, dat⟩ := dat.inv
    obtain ⟨a4, r4, rfl, h4, dat⟩ := dat.inv
    obtain ⟨a5, r5, rfl, h5, dat⟩ := dat.inv
    obtain ⟨a6, r6, rfl, h6, dat⟩ := dat.inv
    obtain rfl := dat.inv0
    obtain ⟨n0, rfl, -⟩ := h0.i64
    obtain ⟨n1, rfl, -⟩ := h1.i64
    obtain ⟨n2, rfl, -⟩ := h2.i64
    obtain ⟨n3, rfl, -⟩ := h3.i64
    obtain ⟨n4, rfl, -⟩ := h4.i64
    obtain ⟨n5, rfl, -⟩ := h5.i64
    obtain ⟨n6, rfl, -⟩ := h6.i64
    exact ⟨[n0, n1, n2, n3, n4, n5, n6], rfl, rfl⟩
  have su := fun S => sure12_ok S
  have n1 := fun S => num20_given 1 S
  have q0 := l7_at hl 0 (by decide)
  have q1 := l7_at hl 1 (by decide)
  have q2 := l7_at hl 2 (by decide)
  have q3 := l7_at hl 3 (by decide)
  have q4 := l7_at hl 4 (by decide)
  have q5 := l7_at hl 5 (by decide)
  have q6 := l7_at hl 6 (by decide)
  have tl : List.take 7 (l.map fun x => AV.int .i64 x) = l.map fun x => .int .i64 x := List.take_of_length_le (by simp [hl])
  have ll : (l.map fun x => AV.int .i64 x).length = 7 := by simp [hl]
  by_cases hF : ∀ q, q < 7 → gdP l q
  · have t1 : topI (l.getD 0 0) ∧ topI (l.getD 2 0) ∧ topI (l.getD 1 0) ∧ topI (l.getD 3 0) := ⟨(hF 0 (by decide)).1, (hF 2 (by decide)).1, (hF 1 (by decide)).1, (hF 3 (by decide)).1⟩
    have t2 : topI (l.getD 4 0) ∧ topI (l.getD 5 0) ∧ topI (l.getD 6 0) := ⟨(hF 4 (by decide)).1, (hF 5 (by decide)).1, (hF 6 (by decide)).1⟩
    have t3 : 1 ≤ l.getD 4 0 ∧ 1 ≤ l.getD 5 0 ∧ 1 ≤ l.getD 6 0 := ⟨(hF 4 (by decide)).2 (by decide), (hF 5 (by decide)).2 (by decide), (hF 6 (by decide)).2 (by decide)⟩
    have bl := fun S => blank12_ok (l.getD 0 0) (l.getD 1 0) (l.getD 2 0) (l.getD 3 0) (l.getD 4 0) (l.getD 5 0) (l.getD 6 0) S t1 t2 t3
    simp only [stA] at bl
    refine Call.ofC Tryd.func4 YtdknnaalfoongaaDoor.b4 YtdknnaalfoongaaDoor.d4 YtdknnaalfoongaaDoor.e4 (by simp [Tryd.f4]) ?_
    dsimp only [YtdknnaalfoongaaDoor.c4, Tryd.f4, Option.getD_some]
    have sl := st_len (blX (l.getD 0 0) (l.getD 2 0) (l.getD 1 0) (l.getD 3 0)) (blF (l.getD 4 0) (l.getD 5 0) (l.getD 6 0))
    have sa := st_all (blX (l.getD 0 0) (l.getD 2 0) (l.getD 1 0) (l.getD 3 0)) (blF (l.getD 4 0) (l.getD 5 0) (l.getD 6 0))
    have st := st_take (blX (l.getD 0 0) (l.getD 2 0) (l.getD 1 0) (l.getD 3 0)) (blF (l.getD 4 0) (l.getD 5 0) (l.getD 6 0))
    obtain ⟨C, hC⟩ : ∃ C, stC (blX (l.getD 0 0) (l.getD 2 0) (l.getD 1 0) (l.getD 3 0)) 6 6 (gridP 6 (blF (l.getD 4 0) (l.getD 5 0) (l.getD 6 0)) 36) = C := ⟨_, rfl⟩
    rw [hC] at sl sa st
    simp only [hC] at bl
    have sp := sp44 C sl
    simp only [List.replicate] at sp
    simp (maxSteps := 2000000) only [wk0, wk1, wk2, wk3, wk4, wk5, Fr.ev, Fr.put, Fr.get, pkB, pkT, pkF, storeA, if_false, if_true, Nat.reduceEqDiff, reduceIte, Nat.reduceAdd, List.replicate, Nat.reduceLeDiff, Nat.reduceMul, Nat.reduceSub, Nat.reducePow, Int.reduceLT, Int.reduceLE, Int.reduceToNat, Int.reducePow, IntKind.bits, Int.reduceEq, Int.reduceMul, Int.reduceNeg, ne_eq, reduceCtorEq, BEq.rfl, beq_self_eq_true, Int.reduceAdd, Int.reduceSub, Int.reduceMod, Int.reduceDiv, Nat.reduceMod, Nat.reduceDiv, Nat.reduceLT, cond_true, cond_false, gt_iff_lt, ge_iff_le, q0, q1, q2, q3, q4, q5, q6, tl, ll, sl, sa, st, sp, YtdknnaalfoongaaDoor.D4, keep4, ty1, ty2, ty3, ty4, ty6, ty25, ty50, ty51, ty56, ty60, ty61, ty63, ty64]
    refine callThen_of (bl _) ?_
    simp (maxSteps := 2000000) only [wk0, wk1, wk2, wk3, wk4, wk5, Fr.ev, Fr.put, Fr.get, pkB, pkT, pkF, storeA, if_false, if_true, Nat.reduceEqDiff, reduceIte, Nat.reduceAdd, List.replicate, Nat.reduceLeDiff, Nat.reduceMul, Nat.reduceSub, Nat.reducePow, Int.reduceLT, Int.reduceLE, Int.reduceToNat, Int.reducePow, IntKind.bits, Int.reduceEq, Int.reduceMul, Int.reduceNeg, ne_eq, reduceCtorEq, BEq.rfl, beq_self_eq_true, Int.reduceAdd, Int.reduceSub, Int.reduceMod, Int.reduceDiv, Nat.reduceMod, Nat.reduceDiv, Nat.reduceLT, cond_true, cond_false, gt_iff_lt, ge_iff_le, q0, q1, q2, q3, q4, q5, q6, tl, ll, sl, sa, st, sp, YtdknnaalfoongaaDoor.D4, keep4, ty1, ty2, ty3, ty4, ty6, ty25, ty50, ty51, ty56, ty60, ty61, ty63, ty64]
    refine loopC_ind (fun m fr H => ∃ i : Nat, i + m = 7 ∧ fr.get 1 = .int .i64 at_ ∧ fr.get 2 = .ptr S.length 0 0 ∧ fr.get 5 = .ptr (S.length + 1) 0 0 ∧ fr.get 6 = .nili ∧ fr.get 7 = .bool true ∧ fr.get 8 = .int .i64 i ∧ H = S ++ [some ⟨l.map fun x => .int .i64 x, 0⟩, some ⟨C, 0⟩]) ?_ (n := 7) ⟨0, by omega, rfl, rfl, rfl, rfl, rfl, rfl, rfl⟩
    rintro m fr H ⟨i, him, g1, g2, g5, g6, g7, g8, rfl⟩ ih
    by_cases hi : (i : Int) < 7
    · have hin : i < 7 := by omega
      have k1 : (0 : Int) ≤ i := by omega
      have gi := l7_at hl i hin
      have ic := fun S => in12_ok (l.getD i 0) S
      rw [decide_eq_true (hF i hin).1] at ic
      have wi : IntKind.i64.wrap ((i : Int) + 1) = ((i + 1 : Nat) : Int) := wrapI (by omega)
      by_cases h4 : (i : Int) < 4
      · simp (maxSteps := 2000000) only [wk0, wk1, wk2, wk3, wk4, wk5, Fr.ev, Fr.put, Fr.get, pkB, pkT, pkF, storeA, if_false, if_true, Nat.reduceEqDiff, reduceIte, Nat.reduceAdd, List.replicate, Nat.reduceLeDiff, Nat.reduceMul, Nat.reduceSub, Nat.reducePow, Int.reduceLT, Int.reduceLE, Int.reduceToNat, Int.reducePow, IntKind.bits, Int.reduceEq, Int.reduceMul, Int.reduceNeg, ne_eq, reduceCtorEq, BEq.rfl, beq_self_eq_true, Int.reduceAdd, Int.reduceSub, Int.reduceMod, Int.reduceDiv, Nat.reduceMod, Nat.reduceDiv, Nat.reduceLT, cond_true, cond_false, gt_iff_lt, ge_iff_le, g1, g2, g5, g6, g7, g8, hi, h4, k1, gi, ll, wi, Int.toNat_natCast, Nat.mul_one, decide_true, decide_false, YtdknnaalfoongaaDoor.D4, keep4, ty1, ty2, ty3, ty4, ty6, ty25, ty50, ty51, ty56, ty60, ty61, ty63, ty64]
        refine callThen_of (ic _) ?_
        simp (maxSteps := 2000000) only [wk0, wk1, wk2, wk3, wk4, wk5, Fr.ev, Fr.put, Fr.get, pkB, pkT, pkF, storeA, if_false, if_true, Nat.reduceEqDiff, reduceIte, Nat.reduceAdd, List.replicate, Nat.reduceLeDiff, Nat.reduceMul, Nat.reduceSub, Nat.reducePow, Int.reduceLT, Int.reduceLE, Int.reduceToNat, Int.reducePow, IntKind.bits, Int.reduceEq, Int.reduceMul, Int.reduceNeg, ne_eq, reduceCtorEq, BEq.rfl, beq_self_eq_true, Int.reduceAdd, Int.reduceSub, Int.reduceMod, Int.reduceDiv, Nat.reduceMod, Nat.reduceDiv, Nat.reduceLT, cond_true, cond_false, gt_iff_lt, ge_iff_le, g1, g2, g5, g6, g7, g8, hi, h4, k1, gi, ll, wi, Int.toNat_natCast, Nat.mul_one, decide_true, decide_false, YtdknnaalfoongaaDoor.D4, keep4, ty1, ty2, ty3, ty4, ty6, ty25, ty50, ty51, ty56, ty60, ty61, ty63, ty64]
        exact ih (m - 1) _ _ (by omega) ⟨i + 1, by omega, by simp [Fr.get, g1], by simp [Fr.get, g2], by simp [Fr.get, g5], by simp [Fr.get, g6], by simp [Fr.get], by simp [Fr.get], rfl⟩
      · have h1 : 1 ≤ l.getD i 0 := (hF i hin).2 (by omega)
        simp (maxSteps := 2000000) only [wk0, wk1, wk2, wk3, wk4, wk5, Fr.ev, Fr.put, Fr.get, pkB, pkT, pkF, storeA, if_false, if_true, Nat.reduceEqDiff, reduceIte, Nat.reduceAdd, List.replicate, Nat.reduceLeDiff, Nat.reduceMul, Nat.reduceSub, Nat.reducePow, Int.reduceLT, Int.reduceLE, Int.reduceToNat, Int.reducePow, IntKind.bits, Int.reduceEq, Int.reduceMul, Int.reduceNeg, ne_eq, reduceCtorEq, BEq.rfl, beq_self_eq_true, Int.reduceAdd, Int.reduceSub, Int.reduceMod, Int.reduceDiv, Nat.reduceMod, Nat.reduceDiv, Nat.reduceLT, cond_true, cond_false, gt_iff_lt, ge_iff_le, g1, g2, g5, g6, g7, g8, hi, h4, h1, k1, gi, ll, wi, Int.toNat_natCast, Nat.mul_one, decide_true, decide_false, YtdknnaalfoongaaDoor.D4, keep4, ty1, ty2, ty3, ty4, ty6, ty25, ty50, ty51, ty56, ty60, ty61, ty63, ty64]
        refine callThen_of (ic _) ?_
        simp (maxSteps := 2000000) only [wk0, wk1, wk2, wk3, wk4, wk5, Fr.ev, Fr.put, Fr.get, pkB, pkT, pkF, storeA, if_false, if_true, Nat.reduceEqDiff, reduceIte, Nat.reduceAdd, List.replicate, Nat.reduceLeDiff, Nat.reduceMul, Nat.reduceSub, Nat.reducePow, Int.reduceLT, Int.reduceLE, Int.reduceToNat, Int.reducePow, IntKind.bits, Int.reduceEq, Int.reduceMul, Int.reduceNeg, ne_eq, reduceCtorEq, BEq.rfl, beq_self_eq_true, Int.reduceAdd, Int.reduceSub, Int.reduceMod, Int.reduceDiv, Nat.reduceMod, Nat.reduceDiv, Nat.reduceLT, cond_true, cond_false, gt_iff_lt, ge_iff_le, g1, g2, g5, g6, g7, g8, hi, h4, h1, k1, gi, ll, wi, Int.toNat_natCast, Nat.mul_one, decide_true, decide_false, YtdknnaalfoongaaDoor.D4, keep4, ty1, ty2, ty3, ty4, ty6, ty25, ty50, ty51, ty56, ty60, ty61, ty63, ty64]
        exact ih (m - 1) _ _ (by omega) ⟨i + 1, by omega, by simp [Fr.get, g1], by simp [Fr.get, g2], by simp [Fr.get, g5], by simp [Fr.get, g6], by simp [Fr.get], by simp [Fr.get], rfl⟩
    · clear ih
      have m0 : Int.tmod 0 3 = 0 := rfl
      have m1 : Int.tmod 1 3 = 1 := rfl
      have m2 : Int.tmod 2 3 = 2 := rfl
      have m3 : Int.tmod 3 3 = 0 := rfl
      have m4 : Int.tmod 4 3 = 1 := rfl
      have m5 : Int.tmod 5 3 = 2 := rfl
      simp (maxSteps := 2000000) only [wk0, wk1, wk2, wk3, wk4, wk5, Fr.ev, Fr.put, Fr.get, pkB, pkT, pkF, storeA, if_false, if_true, Nat.reduceEqDiff, reduceIte, Nat.reduceAdd, List.replicate, Nat.reduceLeDiff, Nat.reduceMul, Nat.reduceSub, Nat.reducePow, Int.reduceLT, Int.reduceLE, Int.reduceToNat, Int.reducePow, IntKind.bits, Int.reduceEq, Int.reduceMul, Int.reduceNeg, ne_eq, reduceCtorEq, BEq.rfl, beq_self_eq_true, Int.reduceAdd, Int.reduceSub, Int.reduceMod, Int.reduceDiv, Nat.reduceMod, Nat.reduceDiv, Nat.reduceLT, cond_true, cond_false, gt_iff_lt, ge_iff_le, g1, g2, g5, g6, g7, g8, hi, q0, q1, q2, q3, q4, q5, q6, tl, ll, sl, sa, st, sp, YtdknnaalfoongaaDoor.D4, keep4, ty1, ty2, ty3, ty4, ty6, ty25, ty50, ty51, ty56, ty60, ty61, ty63, ty64]
      iterate 7
        refine loopC_of ?_
        simp (maxSteps := 2000000) only [wk0, wk1, wk2, wk3, wk4, wk5, Fr.ev, Fr.put, Fr.get, pkB, pkT, pkF, storeA, if_false, if_true, Nat.reduceEqDiff, reduceIte, Nat.reduceAdd, List.replicate, Nat.reduceLeDiff, Nat.reduceMul, Nat.reduceSub, Nat.reducePow, Int.reduceLT, Int.reduceLE, Int.reduceToNat, Int.reducePow, IntKind.bits, Int.reduceEq, Int.reduceMul, Int.reduceNeg, ne_eq, reduceCtorEq, BEq.rfl, beq_self_eq_true, Int.reduceAdd, Int.reduceSub, Int.reduceMod, Int.reduceDiv, Nat.reduceMod, Nat.reduceDiv, Nat.reduceLT, cond_true, cond_false, gt_iff_lt, ge_iff_le, q0, q1, q2, q3, q4, q5, q6, tl, ll, sl, sa, st, sp, m0, m1, m2, m3, m4, m5, mk6, nm6, mbx, Nat.le_add_right, List.length_append, List.append_assoc, List.cons_append, List.nil_append, List.set_cons_zero, List.set_cons_succ, List.length_cons, List.length_nil, YtdknnaalfoongaaDoor.D4, keep4, ty1, ty2, ty3, ty4, ty6, ty25, ty50, ty51, ty56, ty60, ty61, ty63, ty64]
      obtain ⟨k, hk6, hk⟩ : ∃ k : Nat, k < 6 ∧ IntKind.i64.wrap ((IntKind.u64.wrap at_).tmod 6) = (k : Int) := by
        have hu : 0 ≤ IntKind.u64.wrap at_ := by simp [IntKind.wrap, IntKind.bits, IntKind.signed]; omega
        generalize IntKind.u64.wrap at_ = z at hu
        have h1 : z.tmod 6 = ((z.toNat % 6 : Nat) : Int) := by rw [Int.tmod_eq_emod_of_nonneg hu]; omega
        exact ⟨z.toNat % 6, by omega, by rw [h1, wrapI (by omega)]⟩
      have p1 : (0 : Int) ≤ k := by omega
      have p2 : (k : Int) < 6 := by omega
      have p3 : k ≤ 43 := by omega
      have ok := bl_ok t1 t2 t3
      have ck := fun S => check12_ok _ _ S ok
      have s1 := fun S => same12_ok (blX (l.getD 0 0) (l.getD 2 0) (l.getD 1 0) (l.getD 3 0)) (blF (l.getD 4 0) (l.getD 5 0) (l.getD 6 0)) S
      have gk := st_get (blX (l.getD 0 0) (l.getD 2 0) (l.getD 1 0) (l.getD 3 0)) (blF (l.getD 4 0) (l.getD 5 0) (l.getD 6 0)) k hk6
      have s2 := fun S => same12_no (blX (l.getD 0 0) (l.getD 2 0) (l.getD 1 0) (l.getD 3 0)) (fun i => if i = k then xor1 (blX (l.getD 0 0) (l.getD 2 0) (l.getD 1 0) (l.getD 3 0) k) else blX (l.getD 0 0) (l.getD 2 0) (l.getD 1 0) (l.getD 3 0) i) (blF (l.getD 4 0) (l.getD 5 0) (l.getD 6 0)) S k hk6 (by rw [if_pos rfl]; exact xor1_ne _)
      have ss := st_set (blX (l.getD 0 0) (l.getD 2 0) (l.getD 1 0) (l.getD 3 0)) (blF (l.getD 4 0) (l.getD 5 0) (l.getD 6 0)) k hk6 (xor1 (blX (l.getD 0 0) (l.getD 2 0) (l.getD 1 0) (l.getD 3 0) k))
      have is1 : ∀ (v : AV) (S : Heap), RowsIn S 6 6 (blF (l.getD 4 0) (l.getD 5 0) (l.getD 6 0)) v → Call theE 22 [.agg C, .agg [.lst [.int .i64 (l.getD 0 0), .int .i64 (l.getD 2 0), .int .i64 0, .int .i64 (l.getD 1 0), .int .i64 (l.getD 3 0), .int .i64 0] 6, v]] S (.bool true) S := fun v S h => by
        have := isState12_ok v (blX (l.getD 0 0) (l.getD 2 0) (l.getD 1 0) (l.getD 3 0)) (blF (l.getD 4 0) (l.getD 5 0) (l.getD 6 0)) S h
        rw [show stA (blX (l.getD 0 0) (l.getD 2 0) (l.getD 1 0) (l.getD 3 0)) (blF (l.getD 4 0) (l.getD 5 0) (l.getD 6 0)) = .agg C by rw [← hC]; rfl] at this
        exact this
      have sl2 := st_len (fun i => if i = k then xor1 (blX (l.getD 0 0) (l.getD 2 0) (l.getD 1 0) (l.getD 3 0) k) else blX (l.getD 0 0) (l.getD 2 0) (l.getD 1 0) (l.getD 3 0) i) (blF (l.getD 4 0) (l.getD 5 0) (l.getD 6 0))
      have st2 := st_take (fun i => if i = k then xor1 (blX (l.getD 0 0) (l.getD 2 0) (l.getD 1 0) (l.getD 3 0) k) else blX (l.getD 0 0) (l.getD 2 0) (l.getD 1 0) (l.getD 3 0) i) (blF (l.getD 4 0) (l.getD 5 0) (l.getD 6 0))
      have sa2 := st_all (fun i => if i = k then xor1 (blX (l.getD 0 0) (l.getD 2 0) (l.getD 1 0) (l.getD 3 0) k) else blX (l.getD 0 0) (l.getD 2 0) (l.getD 1 0) (l.getD 3 0) i) (blF (l.getD 4 0) (l.getD 5 0) (l.getD 6 0))
      rw [hC] at gk ss
      simp only [stA, hC] at ck s1 s2
      generalize blX (l.getD 0 0) (l.getD 2 0) (l.getD 1 0) (l.getD 3 0) k = a at *
      have xr : bitsI .xor .i64 a 1 = some (.int .i64 (xor1 a)) := rfl
      generalize hC2 : stC (fun i => if i = k then xor1 a else blX (l.getD 0 0) (l.getD 2 0) (l.getD 1 0) (l.getD 3 0) i) 6 6 (gridP 6 (blF (l.getD 4 0) (l.getD 5 0) (l.getD 6 0)) 36) = C2 at *
      simp (maxSteps := 2000000) only [wk0, wk1, wk2, wk3, wk4, wk5, Fr.ev, Fr.put, Fr.get, pkB, pkT, pkF, storeA, if_false, if_true, Nat.reduceEqDiff, reduceIte, Nat.reduceAdd, List.replicate, Nat.reduceLeDiff, Nat.reduceMul, Nat.reduceSub, Nat.reducePow, Int.reduceLT, Int.reduceLE, Int.reduceToNat, Int.reducePow, IntKind.bits, Int.reduceEq, Int.reduceMul, Int.reduceNeg, ne_eq, reduceCtorEq, BEq.rfl, beq_self_eq_true, Int.reduceAdd, Int.reduceSub, Int.reduceMod, Int.reduceDiv, Nat.reduceMod, Nat.reduceDiv, Nat.reduceLT, cond_true, cond_false, gt_iff_lt, ge_iff_le, hk, p1, p2, p3, gk, ss, xr, sl, sa, st, sl2, st2, sa2, Int.toNat_natCast, Nat.mul_one, Nat.zero_add, List.set_cons_zero, List.set_cons_succ, List.length_cons, List.length_nil, YtdknnaalfoongaaDoor.D4, keep4, ty1, ty2, ty3, ty4, ty6, ty25, ty50, ty51, ty56, ty60, ty61, ty63, ty64]
      refine callThen_of (is1 _ _ (.sl _ _ _ (by rw [blkAt_app]; rfl))) ?_
      simp (maxSteps := 2000000) only [wk0, wk1, wk2, wk3, wk4, wk5, Fr.ev, Fr.put, Fr.get, pkB, pkT, pkF, storeA, if_false, if_true, Nat.reduceEqDiff, reduceIte, Nat.reduceAdd, List.replicate, Nat.reduceLeDiff, Nat.reduceMul, Nat.reduceSub, Nat.reducePow, Int.reduceLT, Int.reduceLE, Int.reduceToNat, Int.reducePow, IntKind.bits, Int.reduceEq, Int.reduceMul, Int.reduceNeg, ne_eq, reduceCtorEq, BEq.rfl, beq_self_eq_true, Int.reduceAdd, Int.reduceSub, Int.reduceMod, Int.reduceDiv, Nat.reduceMod, Nat.reduceDiv, Nat.reduceLT, cond_true, cond_false, gt_iff_lt, ge_iff_le, hk, p1, p2, p3, gk, ss, xr, sl, sa, st, sl2, st2, sa2, Int.toNat_natCast, Nat.mul_one, Nat.zero_add, List.set_cons_zero, List.set_cons_succ, List.length_cons, List.length_nil, YtdknnaalfoongaaDoor.D4, keep4, ty1, ty2, ty3, ty4, ty6, ty25, ty50, ty51, ty56, ty60, ty61, ty63, ty64]
      refine callThen_of (ck _) ?_
      simp (maxSteps := 2000000) only [wk0, wk1, wk2, wk3, wk4, wk5, Fr.ev, Fr.put, Fr.get, pkB, pkT, pkF, storeA, if_false, if_true, Nat.reduceEqDiff, reduceIte, Nat.reduceAdd, List.replicate, Nat.reduceLeDiff, Nat.reduceMul, Nat.reduceSub, Nat.reducePow, Int.reduceLT, Int.reduceLE, Int.reduceToNat, Int.reducePow, IntKind.bits, Int.reduceEq, Int.reduceMul, Int.reduceNeg, ne_eq, reduceCtorEq, BEq.rfl, beq_self_eq_true, Int.reduceAdd, Int.reduceSub, Int.reduceMod, Int.reduceDiv, Nat.reduceMod, Nat.reduceDiv, Nat.reduceLT, cond_true, cond_false, gt_iff_lt, ge_iff_le, hk, p1, p2, p3, gk, ss, xr, sl, sa, st, sl2, st2, sa2, Int.toNat_natCast, Nat.mul_one, Nat.zero_add, List.set_cons_zero, List.set_cons_succ, List.length_cons, List.length_nil, YtdknnaalfoongaaDoor.D4, keep4, ty1, ty2, ty3, ty4, ty6, ty25, ty50, ty51, ty56, ty60, ty61, ty63, ty64]
      refine callThen_of (s1 _) ?_
      simp (maxSteps := 2000000) only [wk0, wk1, wk2, wk3, wk4, wk5, Fr.ev, Fr.put, Fr.get, pkB, pkT, pkF, storeA, if_false, if_true, Nat.reduceEqDiff, reduceIte, Nat.reduceAdd, List.replicate, Nat.reduceLeDiff, Nat.reduceMul, Nat.reduceSub, Nat.reducePow, Int.reduceLT, Int.reduceLE, Int.reduceToNat, Int.reducePow, IntKind.bits, Int.reduceEq, Int.reduceMul, Int.reduceNeg, ne_eq, reduceCtorEq, BEq.rfl, beq_self_eq_true, Int.reduceAdd, Int.reduceSub, Int.reduceMod, Int.reduceDiv, Nat.reduceMod, Nat.reduceDiv, Nat.reduceLT, cond_true, cond_false, gt_iff_lt, ge_iff_le, hk, p1, p2, p3, gk, ss, xr, sl, sa, st, sl2, st2, sa2, Int.toNat_natCast, Nat.mul_one, Nat.zero_add, List.set_cons_zero, List.set_cons_succ, List.length_cons, List.length_nil, YtdknnaalfoongaaDoor.D4, keep4, ty1, ty2, ty3, ty4, ty6, ty25, ty50, ty51, ty56, ty60, ty61, ty63, ty64]
      refine callThen_of (s2 _) ?_
      simp (maxSteps := 2000000) only [wk0, wk1, wk2, wk3, wk4, wk5, Fr.ev, Fr.put, Fr.get, pkB, pkT, pkF, storeA, if_false, if_true, Nat.reduceEqDiff, reduceIte, Nat.reduceAdd, List.replicate, Nat.reduceLeDiff, Nat.reduceMul, Nat.reduceSub, Nat.reducePow, Int.reduceLT, Int.reduceLE, Int.reduceToNat, Int.reducePow, IntKind.bits, Int.reduceEq, Int.reduceMul, Int.reduceNeg, ne_eq, reduceCtorEq, BEq.rfl, beq_self_eq_true, Int.reduceAdd, Int.reduceSub, Int.reduceMod, Int.reduceDiv, Nat.reduceMod, Nat.reduceDiv, Nat.reduceLT, cond_true, cond_false, gt_iff_lt, ge_iff_le, hk, p1, p2, p3, gk, ss, xr, sl, sa, st, sl2, st2, sa2, Int.toNat_natCast, Nat.mul_one, Nat.zero_add, List.set_cons_zero, List.set_cons_succ, List.length_cons, List.length_nil, YtdknnaalfoongaaDoor.D4, keep4, ty1, ty2, ty3, ty4, ty6, ty25, ty50, ty51, ty56, ty60, ty61, ty63, ty64]
      refine callThen_of (su _) ?_
      simp (maxSteps := 2000000) only [wk0, wk1, wk2, wk3, wk4, wk5, Fr.ev, Fr.put, Fr.get, pkB, pkT, pkF, storeA, if_false, if_true, Nat.reduceEqDiff, reduceIte, Nat.reduceAdd, List.replicate, Nat.reduceLeDiff, Nat.reduceMul, Nat.reduceSub, Nat.reducePow, Int.reduceLT, Int.reduceLE, Int.reduceToNat, Int.reducePow, IntKind.bits, Int.reduceEq, Int.reduceMul, Int.reduceNeg, ne_eq, reduceCtorEq, BEq.rfl, beq_self_eq_true, Int.reduceAdd, Int.reduceSub, Int.reduceMod, Int.reduceDiv, Nat.reduceMod, Nat.reduceDiv, Nat.reduceLT, cond_true, cond_false, gt_iff_lt, ge_iff_le, hk, p1, p2, p3, gk, ss, xr, sl, sa, st, sl2, st2, sa2, Int.toNat_natCast, Nat.mul_one, Nat.zero_add, List.set_cons_zero, List.set_cons_succ, List.length_cons, List.length_nil, YtdknnaalfoongaaDoor.D4, keep4, ty1, ty2, ty3, ty4, ty6, ty25, ty50, ty51, ty56, ty60, ty61, ty63, ty64]
      exact retB_plain (by simp [nmd_bool]) rfl (by simp)
  · have bl := fun S => blank12_bad (l.getD 0 0) (l.getD 1 0) (l.getD 2 0) (l.getD 3 0) (l.getD 4 0) (l.getD 5 0) (l.getD 6 0) S (fun ⟨t1, t2, t3⟩ => hF fun q hq => by
      unfold gdP
      match q, hq with
      | 0, _ => exact ⟨t1.1, by omega⟩
      | 1, _ => exact ⟨t1.2.2.1, by omega⟩
      | 2, _ => exact ⟨t1.2.1, by omega⟩
      | 3, _ => exact ⟨t1.2.2.2, by omega⟩
      | 4, _ => exact ⟨t2.1, fun _ => t3.1⟩
      | 5, _ => exact ⟨t2.2.1, fun _ => t3.2.1⟩
      | 6, _ => exact ⟨t2.2.2, fun _ => t3.2.2⟩)
    unfold zeroS at bl
    simp only [errA] at bl
    obtain ⟨Z, hZ⟩ : ∃ Z, List.replicate 44 (AV.int .i64 0) = Z := ⟨_, rfl⟩
    have zl : Z.length = 44 := by rw [← hZ]; rfl
    have za : Z.all AV.one = true := by rw [← hZ]; rfl
    have zt : List.take 44 Z = Z := List.take_of_length_le (by omega)
    have zp := sp44 Z zl
    have zz : allInts Z [.int .i64 0, .int .i64 0, .int .i64 0, .int .i64 0, .int .i64 0, .int .i64 0, .int .i64 0, .int .i64 0, .int .i64 0, .int .i64 0, .int .i64 0, .int .i64 0, .int .i64 0, .int .i64 0, .int .i64 0, .int .i64 0, .int .i64 0, .int .i64 0, .int .i64 0, .int .i64 0, .int .i64 0, .int .i64 0, .int .i64 0, .int .i64 0, .int .i64 0, .int .i64 0, .int .i64 0, .int .i64 0, .int .i64 0, .int .i64 0, .int .i64 0, .int .i64 0, .int .i64 0, .int .i64 0, .int .i64 0, .int .i64 0, .int .i64 0, .int .i64 0, .int .i64 0, .int .i64 0, .int .i64 0, .int .i64 0, .int .i64 0, .int .i64 0] = some true := by
      rw [← hZ]; exact allInts_self (List.replicate 44 0)
    rw [hZ] at bl
    simp only [List.replicate] at zp
    refine Call.ofC Tryd.func4 YtdknnaalfoongaaDoor.b4 YtdknnaalfoongaaDoor.d4 YtdknnaalfoongaaDoor.e4 (by simp [Tryd.f4]) ?_
    dsimp only [YtdknnaalfoongaaDoor.c4, Tryd.f4, Option.getD_some]
    simp (maxSteps := 2000000) only [wk0, wk1, wk2, wk3, wk4, wk5, Fr.ev, Fr.put, Fr.get, pkB, pkT, pkF, storeA, if_false, if_true, Nat.reduceEqDiff, reduceIte, Nat.reduceAdd, List.replicate, Nat.reduceLeDiff, Nat.reduceMul, Nat.reduceSub, Nat.reducePow, Int.reduceLT, Int.reduceLE, Int.reduceToNat, Int.reducePow, IntKind.bits, Int.reduceEq, Int.reduceMul, Int.reduceNeg, ne_eq, reduceCtorEq, BEq.rfl, beq_self_eq_true, Int.reduceAdd, Int.reduceSub, Int.reduceMod, Int.reduceDiv, Nat.reduceMod, Nat.reduceDiv, Nat.reduceLT, cond_true, cond_false, gt_iff_lt, ge_iff_le, q0, q1, q2, q3, q4, q5, q6, tl, ll, zl, za, zt, zp, YtdknnaalfoongaaDoor.D4, keep4, ty1, ty2, ty3, ty4, ty6, ty25, ty50, ty51, ty56, ty60, ty61, ty63, ty64]
    refine callThen_of (bl _) ?_
    simp (maxSteps := 2000000) only [wk0, wk1, wk2, wk3, wk4, wk5, Fr.ev, Fr.put, Fr.get, pkB, pkT, pkF, storeA, if_false, if_true, Nat.reduceEqDiff, reduceIte, Nat.reduceAdd, List.replicate, Nat.reduceLeDiff, Nat.reduceMul, Nat.reduceSub, Nat.reducePow, Int.reduceLT, Int.reduceLE, Int.reduceToNat, Int.reducePow, IntKind.bits, Int.reduceEq, Int.reduceMul, Int.reduceNeg, ne_eq, reduceCtorEq, BEq.rfl, beq_self_eq_true, Int.reduceAdd, Int.reduceSub, Int.reduceMod, Int.reduceDiv, Nat.reduceMod, Nat.reduceDiv, Nat.reduceLT, cond_true, cond_false, gt_iff_lt, ge_iff_le, q0, q1, q2, q3, q4, q5, q6, tl, ll, zl, za, zt, zp, YtdknnaalfoongaaDoor.D4, keep4, ty1, ty2, ty3, ty4, ty6, ty25, ty50, ty51, ty56, ty60, ty61, ty63, ty64]
    refine loopC_ind (fun m fr H => ∃ (i : Nat) (b : Bool), i + m = 7 ∧ fr.get 2 = .ptr S.length 0 0 ∧ fr.get 5 = .ptr (S.length + 1) 0 0 ∧ fr.get 6 = .ifc 79 (.int .i64 1) ∧ fr.get 7 = .bool b ∧ fr.get 8 = .int .i64 i ∧ (b = true → ∀ q, q < i → gdP l q) ∧ H = S ++ [some ⟨l.map fun x => .int .i64 x, 0⟩, some ⟨Z, 0⟩]) ?_ (n := 7) ⟨0, true, by omega, rfl, rfl, rfl, rfl, rfl, fun _ q hq => by omega, rfl⟩
    rintro m fr H ⟨i, b, him, g2, g5, g6, g7, g8, hb, rfl⟩ ih
    by_cases hi : (i : Int) < 7
    · have hin : i < 7 := by omega
      have k1 : (0 : Int) ≤ i := by omega
      have gi := l7_at hl i hin
      have ic := fun S => in12_ok (l.getD i 0) S
      have wi : IntKind.i64.wrap ((i : Int) + 1) = ((i + 1 : Nat) : Int) := wrapI (by omega)
      cases b
      · simp (maxSteps := 2000000) only [wk0, wk1, wk2, wk3, wk4, wk5, Fr.ev, Fr.put, Fr.get, pkB, pkT, pkF, storeA, if_false, if_true, Nat.reduceEqDiff, reduceIte, Nat.reduceAdd, List.replicate, Nat.reduceLeDiff, Nat.reduceMul, Nat.reduceSub, Nat.reducePow, Int.reduceLT, Int.reduceLE, Int.reduceToNat, Int.reducePow, IntKind.bits, Int.reduceEq, Int.reduceMul, Int.reduceNeg, ne_eq, reduceCtorEq, BEq.rfl, beq_self_eq_true, Int.reduceAdd, Int.reduceSub, Int.reduceMod, Int.reduceDiv, Nat.reduceMod, Nat.reduceDiv, Nat.reduceLT, cond_true, cond_false, gt_iff_lt, ge_iff_le, g2, g5, g6, g7, g8, hi, k1, gi, ll, wi, Int.toNat_natCast, Nat.mul_one, decide_true, decide_false, YtdknnaalfoongaaDoor.D4, keep4, ty1, ty2, ty3, ty4, ty6, ty25, ty50, ty51, ty56, ty60, ty61, ty63, ty64]
        exact ih (m - 1) _ _ (by omega) ⟨i + 1, false, by omega, by simp [Fr.get, g2], by simp [Fr.get, g5], by simp [Fr.get, g6], by simp [Fr.get], by simp [Fr.get], by simp, rfl⟩
      · have hb := hb rfl
        by_cases ht : topI (l.getD i 0)
        · rw [decide_eq_true ht] at ic
          by_cases h4 : (i : Int) < 4
          · simp (maxSteps := 2000000) only [wk0, wk1, wk2, wk3, wk4, wk5, Fr.ev, Fr.put, Fr.get, pkB, pkT, pkF, storeA, if_false, if_true, Nat.reduceEqDiff, reduceIte, Nat.reduceAdd, List.replicate, Nat.reduceLeDiff, Nat.reduceMul, Nat.reduceSub, Nat.reducePow, Int.reduceLT, Int.reduceLE, Int.reduceToNat, Int.reducePow, IntKind.bits, Int.reduceEq, Int.reduceMul, Int.reduceNeg, ne_eq, reduceCtorEq, BEq.rfl, beq_self_eq_true, Int.reduceAdd, Int.reduceSub, Int.reduceMod, Int.reduceDiv, Nat.reduceMod, Nat.reduceDiv, Nat.reduceLT, cond_true, cond_false, gt_iff_lt, ge_iff_le, g2, g5, g6, g7, g8, hi, h4, k1, gi, ll, wi, Int.toNat_natCast, Nat.mul_one, decide_true, decide_false, YtdknnaalfoongaaDoor.D4, keep4, ty1, ty2, ty3, ty4, ty6, ty25, ty50, ty51, ty56, ty60, ty61, ty63, ty64]
            refine callThen_of (ic _) ?_
            simp (maxSteps := 2000000) only [wk0, wk1, wk2, wk3, wk4, wk5, Fr.ev, Fr.put, Fr.get, pkB, pkT, pkF, storeA, if_false, if_true, Nat.reduceEqDiff, reduceIte, Nat.reduceAdd, List.replicate, Nat.reduceLeDiff, Nat.reduceMul, Nat.reduceSub, Nat.reducePow, Int.reduceLT, Int.reduceLE, Int.reduceToNat, Int.reducePow, IntKind.bits, Int.reduceEq, Int.reduceMul, Int.reduceNeg, ne_eq, reduceCtorEq, BEq.rfl, beq_self_eq_true, Int.reduceAdd, Int.reduceSub, Int.reduceMod, Int.reduceDiv, Nat.reduceMod, Nat.reduceDiv, Nat.reduceLT, cond_true, cond_false, gt_iff_lt, ge_iff_le, g2, g5, g6, g7, g8, hi, h4, k1, gi, ll, wi, Int.toNat_natCast, Nat.mul_one, decide_true, decide_false, YtdknnaalfoongaaDoor.D4, keep4, ty1, ty2, ty3, ty4, ty6, ty25, ty50, ty51, ty56, ty60, ty61, ty63, ty64]
            exact ih (m - 1) _ _ (by omega) ⟨i + 1, true, by omega, by simp [Fr.get, g2], by simp [Fr.get, g5], by simp [Fr.get, g6], by simp [Fr.get], by simp [Fr.get], fun _ q hq => by
              by_cases e : q = i
              · subst e; exact ⟨ht, fun h => by omega⟩
              · exact hb q (by omega), rfl⟩
          · by_cases h1 : 1 ≤ l.getD i 0
            · simp (maxSteps := 2000000) only [wk0, wk1, wk2, wk3, wk4, wk5, Fr.ev, Fr.put, Fr.get, pkB, pkT, pkF, storeA, if_false, if_true, Nat.reduceEqDiff, reduceIte, Nat.reduceAdd, List.replicate, Nat.reduceLeDiff, Nat.reduceMul, Nat.reduceSub, Nat.reducePow, Int.reduceLT, Int.reduceLE, Int.reduceToNat, Int.reducePow, IntKind.bits, Int.reduceEq, Int.reduceMul, Int.reduceNeg, ne_eq, reduceCtorEq, BEq.rfl, beq_self_eq_true, Int.reduceAdd, Int.reduceSub, Int.reduceMod, Int.reduceDiv, Nat.reduceMod, Nat.reduceDiv, Nat.reduceLT, cond_true, cond_false, gt_iff_lt, ge_iff_le, g2, g5, g6, g7, g8, hi, h4, h1, k1, gi, ll, wi, Int.toNat_natCast, Nat.mul_one, decide_true, decide_false, YtdknnaalfoongaaDoor.D4, keep4, ty1, ty2, ty3, ty4, ty6, ty25, ty50, ty51, ty56, ty60, ty61, ty63, ty64]
              refine callThen_of (ic _) ?_
              simp (maxSteps := 2000000) only [wk0, wk1, wk2, wk3, wk4, wk5, Fr.ev, Fr.put, Fr.get, pkB, pkT, pkF, storeA, if_false, if_true, Nat.reduceEqDiff, reduceIte, Nat.reduceAdd, List.replicate, Nat.reduceLeDiff, Nat.reduceMul, Nat.reduceSub, Nat.reducePow, Int.reduceLT, Int.reduceLE, Int.reduceToNat, Int.reducePow, IntKind.bits, Int.reduceEq, Int.reduceMul, Int.reduceNeg, ne_eq, reduceCtorEq, BEq.rfl, beq_self_eq_true, Int.reduceAdd, Int.reduceSub, Int.reduceMod, Int.reduceDiv, Nat.reduceMod, Nat.reduceDiv, Nat.reduceLT, cond_true, cond_false, gt_iff_lt, ge_iff_le, g2, g5, g6, g7, g8, hi, h4, h1, k1, gi, ll, wi, Int.toNat_natCast, Nat.mul_one, decide_true, decide_false, YtdknnaalfoongaaDoor.D4, keep4, ty1, ty2, ty3, ty4, ty6, ty25, ty50, ty51, ty56, ty60, ty61, ty63, ty64]
              exact ih (m - 1) _ _ (by omega) ⟨i + 1, true, by omega, by simp [Fr.get, g2], by simp [Fr.get, g5], by simp [Fr.get, g6], by simp [Fr.get], by simp [Fr.get], fun _ q hq => by
                by_cases e : q = i
                · subst e; exact ⟨ht, fun _ => h1⟩
                · exact hb q (by omega), rfl⟩
            · simp (maxSteps := 2000000) only [wk0, wk1, wk2, wk3, wk4, wk5, Fr.ev, Fr.put, Fr.get, pkB, pkT, pkF, storeA, if_false, if_true, Nat.reduceEqDiff, reduceIte, Nat.reduceAdd, List.replicate, Nat.reduceLeDiff, Nat.reduceMul, Nat.reduceSub, Nat.reducePow, Int.reduceLT, Int.reduceLE, Int.reduceToNat, Int.reducePow, IntKind.bits, Int.reduceEq, Int.reduceMul, Int.reduceNeg, ne_eq, reduceCtorEq, BEq.rfl, beq_self_eq_true, Int.reduceAdd, Int.reduceSub, Int.reduceMod, Int.reduceDiv, Nat.reduceMod, Nat.reduceDiv, Nat.reduceLT, cond_true, cond_false, gt_iff_lt, ge_iff_le, g2, g5, g6, g7, g8, hi, h4, h1, k1, gi, ll, wi, Int.toNat_natCast, Nat.mul_one, decide_true, decide_false, YtdknnaalfoongaaDoor.D4, keep4, ty1, ty2, ty3, ty4, ty6, ty25, ty50, ty51, ty56, ty60, ty61, ty63, ty64]
              refine callThen_of (ic _) ?_
              simp (maxSteps := 2000000) only [wk0, wk1, wk2, wk3, wk4, wk5, Fr.ev, Fr.put, Fr.get, pkB, pkT, pkF, storeA, if_false, if_true, Nat.reduceEqDiff, reduceIte, Nat.reduceAdd, List.replicate, Nat.reduceLeDiff, Nat.reduceMul, Nat.reduceSub, Nat.reducePow, Int.reduceLT, Int.reduceLE, Int.reduceToNat, Int.reducePow, IntKind.bits, Int.reduceEq, Int.reduceMul, Int.reduceNeg, ne_eq, reduceCtorEq, BEq.rfl, beq_self_eq_true, Int.reduceAdd, Int.reduceSub, Int.reduceMod, Int.reduceDiv, Nat.reduceMod, Nat.reduceDiv, Nat.reduceLT, cond_true, cond_false, gt_iff_lt, ge_iff_le, g2, g5, g6, g7, g8, hi, h4, h1, k1, gi, ll, wi, Int.toNat_natCast, Nat.mul_one, decide_true, decide_false, YtdknnaalfoongaaDoor.D4, keep4, ty1, ty2, ty3, ty4, ty6, ty25, ty50, ty51, ty56, ty60, ty61, ty63, ty64]
              exact ih (m - 1) _ _ (by omega) ⟨i + 1, false, by omega, by simp [Fr.get, g2], by simp [Fr.get, g5], by simp [Fr.get, g6], by simp [Fr.get], by simp [Fr.get], by simp, rfl⟩
        · rw [decide_eq_false ht] at ic
          simp (maxSteps := 2000000) only [wk0, wk1, wk2, wk3, wk4, wk5, Fr.ev, Fr.put, Fr.get, pkB, pkT, pkF, storeA, if_false, if_true, Nat.reduceEqDiff, reduceIte, Nat.reduceAdd, List.replicate, Nat.reduceLeDiff, Nat.reduceMul, Nat.reduceSub, Nat.reducePow, Int.reduceLT, Int.reduceLE, Int.reduceToNat, Int.reducePow, IntKind.bits, Int.reduceEq, Int.reduceMul, Int.reduceNeg, ne_eq, reduceCtorEq, BEq.rfl, beq_self_eq_true, Int.reduceAdd, Int.reduceSub, Int.reduceMod, Int.reduceDiv, Nat.reduceMod, Nat.reduceDiv, Nat.reduceLT, cond_true, cond_false, gt_iff_lt, ge_iff_le, g2, g5, g6, g7, g8, hi, k1, gi, ll, wi, Int.toNat_natCast, Nat.mul_one, decide_true, decide_false, YtdknnaalfoongaaDoor.D4, keep4, ty1, ty2, ty3, ty4, ty6, ty25, ty50, ty51, ty56, ty60, ty61, ty63, ty64]
          refine callThen_of (ic _) ?_
          simp (maxSteps := 2000000) only [wk0, wk1, wk2, wk3, wk4, wk5, Fr.ev, Fr.put, Fr.get, pkB, pkT, pkF, storeA, if_false, if_true, Nat.reduceEqDiff, reduceIte, Nat.reduceAdd, List.replicate, Nat.reduceLeDiff, Nat.reduceMul, Nat.reduceSub, Nat.reducePow, Int.reduceLT, Int.reduceLE, Int.reduceToNat, Int.reducePow, IntKind.bits, Int.reduceEq, Int.reduceMul, Int.reduceNeg, ne_eq, reduceCtorEq, BEq.rfl, beq_self_eq_true, Int.reduceAdd, Int.reduceSub, Int.reduceMod, Int.reduceDiv, Nat.reduceMod, Nat.reduceDiv, Nat.reduceLT, cond_true, cond_false, gt_iff_lt, ge_iff_le, g2, g5, g6, g7, g8, hi, k1, gi, ll, wi, Int.toNat_natCast, Nat.mul_one, decide_true, decide_false, YtdknnaalfoongaaDoor.D4, keep4, ty1, ty2, ty3, ty4, ty6, ty25, ty50, ty51, ty56, ty60, ty61, ty63, ty64]
          exact ih (m - 1) _ _ (by omega) ⟨i + 1, false, by omega, by simp [Fr.get, g2], by simp [Fr.get, g5], by simp [Fr.get, g6], by simp [Fr.get], by simp [Fr.get], by simp, rfl⟩
    · clear ih
      cases b
      · simp (maxSteps := 2000000) only [wk0, wk1, wk2, wk3, wk4, wk5, Fr.ev, Fr.put, Fr.get, pkB, pkT, pkF, storeA, if_false, if_true, Nat.reduceEqDiff, reduceIte, Nat.reduceAdd, List.replicate, Nat.reduceLeDiff, Nat.reduceMul, Nat.reduceSub, Nat.reducePow, Int.reduceLT, Int.reduceLE, Int.reduceToNat, Int.reducePow, IntKind.bits, Int.reduceEq, Int.reduceMul, Int.reduceNeg, ne_eq, reduceCtorEq, BEq.rfl, beq_self_eq_true, Int.reduceAdd, Int.reduceSub, Int.reduceMod, Int.reduceDiv, Nat.reduceMod, Nat.reduceDiv, Nat.reduceLT, cond_true, cond_false, gt_iff_lt, ge_iff_le, g2, g5, g6, g7, g8, hi, zl, zt, zz, YtdknnaalfoongaaDoor.D4, keep4, ty1, ty2, ty3, ty4, ty6, ty25, ty50, ty51, ty56, ty60, ty61, ty63, ty64]
        refine callThen_of (n1 _) ?_
        simp (maxSteps := 2000000) only [wk0, wk1, wk2, wk3, wk4, wk5, Fr.ev, Fr.put, Fr.get, pkB, pkT, pkF, storeA, if_false, if_true, Nat.reduceEqDiff, reduceIte, Nat.reduceAdd, List.replicate, Nat.reduceLeDiff, Nat.reduceMul, Nat.reduceSub, Nat.reducePow, Int.reduceLT, Int.reduceLE, Int.reduceToNat, Int.reducePow, IntKind.bits, Int.reduceEq, Int.reduceMul, Int.reduceNeg, ne_eq, reduceCtorEq, BEq.rfl, beq_self_eq_true, Int.reduceAdd, Int.reduceSub, Int.reduceMod, Int.reduceDiv, Nat.reduceMod, Nat.reduceDiv, Nat.reduceLT, cond_true, cond_false, gt_iff_lt, ge_iff_le, g2, g5, g6, g7, g8, hi, zl, zt, zz, YtdknnaalfoongaaDoor.D4, keep4, ty1, ty2, ty3, ty4, ty6, ty25, ty50, ty51, ty56, ty60, ty61, ty63, ty64]
        refine callThen_of (su _) ?_
        simp (maxSteps := 2000000) only [wk0, wk1, wk2, wk3, wk4, wk5, Fr.ev, Fr.put, Fr.get, pkB, pkT, pkF, storeA, if_false, if_true, Nat.reduceEqDiff, reduceIte, Nat.reduceAdd, List.replicate, Nat.reduceLeDiff, Nat.reduceMul, Nat.reduceSub, Nat.reducePow, Int.reduceLT, Int.reduceLE, Int.reduceToNat, Int.reducePow, IntKind.bits, Int.reduceEq, Int.reduceMul, Int.reduceNeg, ne_eq, reduceCtorEq, BEq.rfl, beq_self_eq_true, Int.reduceAdd, Int.reduceSub, Int.reduceMod, Int.reduceDiv, Nat.reduceMod, Nat.reduceDiv, Nat.reduceLT, cond_true, cond_false, gt_iff_lt, ge_iff_le, g2, g5, g6, g7, g8, hi, zl, zt, zz, YtdknnaalfoongaaDoor.D4, keep4, ty1, ty2, ty3, ty4, ty6, ty25, ty50, ty51, ty56, ty60, ty61, ty63, ty64]
        exact retB_plain (by simp [nmd_bool]) rfl (by simp)
      · exact absurd (fun q hq => hb rfl q (by omega)) hF
end Go.Proofs.YtdknnaalfoongaaDoor
