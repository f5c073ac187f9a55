/- The law LdlRaw. -/
import Derived.Test.YtdknnaalfoongaaDoorL7
import Derived.Test.YtdknnaalfoongaaDoorAs
set_option linter.unusedSimpArgs false
set_option linter.unusedVariables false
set_option maxRecDepth 100000
set_option maxHeartbeats 16000000
namespace Go.Proofs.YtdknnaalfoongaaDoor
theorem fine_raw {n : Nat} (hn : 1 ≤ n) (G : List Int) (k : Nat) : okG n G k ↔ if n * n ≤ k ∨ k / n < k % n then G.getD k 0 = 0 else if k / n = k % n then G.getD k 0 = 1073741824 else -4611686018427387903 ≤ G.getD k 0 ∧ G.getD k 0 ≤ 4611686018427387903 := by
  unfold okG rightP
  generalize G.getD k 0 = x
  generalize k / n = a
  generalize k % n = b
  by_cases h1 : n * n ≤ k
  · rw [if_pos h1, if_pos (.inl h1)]
  · rw [if_neg h1]
    by_cases h2 : a < b
    · rw [if_pos (.inr h2)]
      constructor
      · intro h; exact h.1 (by omega)
      · intro h; subst h; exact ⟨fun _ => rfl, fun h => by omega, by omega, by omega⟩
    · rw [if_neg (by omega)]
      by_cases h3 : a = b
      · rw [if_pos h3]
        constructor
        · intro h; exact h.2.1 (by omega)
        · intro h; subst h; exact ⟨fun h => by omega, fun _ => rfl, by omega, by omega⟩
      · rw [if_neg h3]
        constructor
        · intro h; exact h.2.2
        · intro h; exact ⟨fun h => by omega, fun h => by omega, h⟩
section
variable {E : Env} {C : CallRel} {f base : Nat} {D : Nat → List Tag} {a b c : Code} {fr : Fr} {H : Heap} {K : Ex → Fr → Heap → Prop}
theorem assoc9 : wpC E C f base D (.seq a (.seq b c)) fr H K = wpC E C f base D (.seq (.seq a b) c) fr H K := by
  have h : seqC E C f base D (.seq b c) K = seqC E C f base D b (seqC E C f base D c K) := by
    funext e fr H
    cases e <;> rfl
  rw [c_seq, c_seq, c_seq, h]
theorem cut9 (Q : Fr → Heap → Prop) (h1 : ∀ K' : Ex → Fr → Heap → Prop, (∀ fr H, Q fr H → K' .normal fr H) → wpC E C f base D a fr H K') (h2 : ∀ fr H, Q fr H → wpC E C f base D b fr H K) : wpC E C f base D (.seq a b) fr H K := by
  rw [c_seq]
  exact h1 _ fun fr H h => h2 fr H h
end
theorem mkN (k : Nat) (hk : k ≤ 100) (H : Heap) (e : Nat) : makeSliceA H (.slice e 1 8 [.int .i64 0]) (.int .i64 k) (.int .i64 k) = some (.sl H.length 0 0 k k 1, H ++ [some ⟨(List.replicate k (0 : Int)).map fun x => .int .i64 x, 0⟩]) := by
  unfold makeSliceA
  simp only
  rw [if_pos ⟨by omega, by omega, by unfold maxBytes; omega, by omega, rfl⟩]
  simp only [Int.toNat_natCast, zeros, List.map_replicate]
  have hf : ∀ k : Nat, (List.replicate k [AV.int .i64 0]).flatten = List.replicate k (.int .i64 0) := fun k => by
    induction k with
    | zero => rfl
    | succ k ih => rw [List.replicate_succ, List.replicate_succ, List.flatten_cons, ih]; rfl
  rw [hf]
noncomputable def c5 : Code := Tryd.f5.body.getD .skip
theorem b5 : Tryd.f5.body = some c5 := rfl
theorem d5 : fnOk Tryd.f5 c5 = true := by kernel_rfl
def D5 : Nat → List Tag
  | 15 => [.pure, .pure, .pure, .pure, .pure, .pure, .pure, .pure]
  | _ => []
theorem e5 : drawsOk D5 c5 = true := by kernel_rfl
theorem ldlRaw_ok (n : Int) (l d : List Int) (S : Heap) (hn : inI n) (hl : ∀ x ∈ l, inI x) (hd : ∀ x ∈ d, inI x) :
    Call theE 5 [.int .i64 n, lstI l, lstI d] S (.bool true) S := by
  have su := fun S => sure09_ok S
  have n1 := fun S => num26_given 1 S
  refine Call.ofC Tryd.func5 YtdknnaalfoongaaDoor.b5 YtdknnaalfoongaaDoor.d5 YtdknnaalfoongaaDoor.e5 (by simp [Tryd.f5]) ?_
  dsimp only [YtdknnaalfoongaaDoor.c5, Tryd.f5, Option.getD_some]
  iterate 2 rw [assoc9]
  refine cut9 (fun fr H => fr.get 0 = .int .i64 n ∧ fr.get 2 = .lst (d.map fun x => .int .i64 x) d.length ∧ fr.get 7 = .ptr S.length 0 0 ∧ ∃ G : List Int, G.length = 42 ∧ (∀ x ∈ G, inI x) ∧ H = S ++ [some ⟨ldB n G, 0⟩]) ?_ ?_
  · intro K' hK'
    simp (maxSteps := 2000000) only [wk0, wk1, wk2, wk3, wk4, wk5, Fr.ev, Fr.put, Fr.get, pkB, pkT, pkF, storeA, if_false, if_true, Nat.reduceEqDiff, reduceIte, Nat.reduceAdd, List.replicate, Nat.reduceLeDiff, Nat.reduceMul, Nat.reduceSub, Nat.reducePow, Int.reduceLT, Int.reduceLE, Int.reduceToNat, Int.reducePow, IntKind.bits, Int.reduceEq, Int.reduceMul, Int.reduceNeg, ne_eq, reduceCtorEq, BEq.rfl, beq_self_eq_true, Int.reduceAdd, Int.reduceSub, Int.reduceMod, Int.reduceDiv, Nat.reduceMod, Nat.reduceDiv, Nat.reduceLT, cond_true, cond_false, gt_iff_lt, ge_iff_le, lstI, YtdknnaalfoongaaDoor.D5, keep5, ty1, ty2, ty3, ty4, ty25, ty51, ty52, ty60, ty70]
    refine loopC_ind (fun m fr H => ∃ (i : Nat) (G : List Int), i + m = 36 ∧ G.length = 42 ∧ (∀ x ∈ G, inI x) ∧ fr.get 0 = .int .i64 n ∧ fr.get 1 = .lst (l.map fun x => .int .i64 x) l.length ∧ fr.get 2 = .lst (d.map fun x => .int .i64 x) d.length ∧ fr.get 7 = .ptr S.length 0 0 ∧ fr.get 8 = .int .i64 i ∧ H = S ++ [some ⟨ldB n G, 0⟩]) ?_ (n := 36) ⟨0, List.replicate 42 0, by omega, rfl, fun x hx => by rw [List.eq_of_mem_replicate hx]; unfold inI; omega, rfl, rfl, rfl, rfl, rfl, rfl⟩
    rintro m fr H ⟨i, G, him, hG, hin, g0, g1, g2, g7, g8, rfl⟩ ih
    have gl : (ldB n G).length = 43 := by rw [ldB_len, hG]
    by_cases h1 : (i : Int) < l.length
    · by_cases h2 : (i : Int) < 36
      · have h3 : i < l.length := by omega
        have k1 : (0 : Int) ≤ i := by omega
        have wi : IntKind.i64.wrap ((i : Int) + 1) = ((i + 1 : Nat) : Int) := wrapI (by omega)
        have gx := gm_at l i h3
        have p1 : 1 + i ≤ 42 := by omega
        have p2 : 1 + i + 1 ≤ 43 := by omega
        have fs := ldB_set n G i (l.getD i 0)
        simp (maxSteps := 2000000) only [wk0, wk1, wk2, wk3, wk4, wk5, Fr.ev, Fr.put, Fr.get, pkB, pkT, pkF, storeA, if_false, if_true, Nat.reduceEqDiff, reduceIte, Nat.reduceAdd, List.replicate, Nat.reduceLeDiff, Nat.reduceMul, Nat.reduceSub, Nat.reducePow, Int.reduceLT, Int.reduceLE, Int.reduceToNat, Int.reducePow, IntKind.bits, Int.reduceEq, Int.reduceMul, Int.reduceNeg, ne_eq, reduceCtorEq, BEq.rfl, beq_self_eq_true, Int.reduceAdd, Int.reduceSub, Int.reduceMod, Int.reduceDiv, Nat.reduceMod, Nat.reduceDiv, Nat.reduceLT, cond_true, cond_false, gt_iff_lt, ge_iff_le, g0, g1, g2, g7, g8, h1, h2, k1, wi, gx, p1, p2, fs, gl, Int.toNat_natCast, Nat.mul_one, decide_true, decide_false, YtdknnaalfoongaaDoor.D5, keep5, ty1, ty2, ty3, ty4, ty25, ty51, ty52, ty60, ty70]
        exact ih (m - 1) _ _ (by omega) ⟨i + 1, G.set i (l.getD i 0), by omega, by rw [List.length_set]; exact hG, inI_set hin _ (getD_in hl _), by simp [Fr.get, g0], by simp [Fr.get, g1], by simp [Fr.get, g2], by simp [Fr.get, g7], by simp [Fr.get], rfl⟩
      · simp (maxSteps := 2000000) only [wk0, wk1, wk2, wk3, wk4, wk5, Fr.ev, Fr.put, Fr.get, pkB, pkT, pkF, storeA, if_false, if_true, Nat.reduceEqDiff, reduceIte, Nat.reduceAdd, List.replicate, Nat.reduceLeDiff, Nat.reduceMul, Nat.reduceSub, Nat.reducePow, Int.reduceLT, Int.reduceLE, Int.reduceToNat, Int.reducePow, IntKind.bits, Int.reduceEq, Int.reduceMul, Int.reduceNeg, ne_eq, reduceCtorEq, BEq.rfl, beq_self_eq_true, Int.reduceAdd, Int.reduceSub, Int.reduceMod, Int.reduceDiv, Nat.reduceMod, Nat.reduceDiv, Nat.reduceLT, cond_true, cond_false, gt_iff_lt, ge_iff_le, g0, g1, g2, g7, g8, h1, h2, decide_true, decide_false, YtdknnaalfoongaaDoor.D5, keep5, ty1, ty2, ty3, ty4, ty25, ty51, ty52, ty60, ty70]
        exact hK' _ _ ⟨by simp [Fr.get, g0], by simp [Fr.get, g2], by simp [Fr.get, g7], G, hG, hin, rfl⟩
    · simp (maxSteps := 2000000) only [wk0, wk1, wk2, wk3, wk4, wk5, Fr.ev, Fr.put, Fr.get, pkB, pkT, pkF, storeA, if_false, if_true, Nat.reduceEqDiff, reduceIte, Nat.reduceAdd, List.replicate, Nat.reduceLeDiff, Nat.reduceMul, Nat.reduceSub, Nat.reducePow, Int.reduceLT, Int.reduceLE, Int.reduceToNat, Int.reducePow, IntKind.bits, Int.reduceEq, Int.reduceMul, Int.reduceNeg, ne_eq, reduceCtorEq, BEq.rfl, beq_self_eq_true, Int.reduceAdd, Int.reduceSub, Int.reduceMod, Int.reduceDiv, Nat.reduceMod, Nat.reduceDiv, Nat.reduceLT, cond_true, cond_false, gt_iff_lt, ge_iff_le, g0, g1, g2, g7, g8, h1, decide_true, decide_false, YtdknnaalfoongaaDoor.D5, keep5, ty1, ty2, ty3, ty4, ty25, ty51, ty52, ty60, ty70]
      exact hK' _ _ ⟨by simp [Fr.get, g0], by simp [Fr.get, g2], by simp [Fr.get, g7], G, hG, hin, rfl⟩
  rintro fr H ⟨g0, g2, g7, G, hG, hin, rfl⟩
  refine cut9 (fun fr H => fr.get 0 = .int .i64 n ∧ fr.get 7 = .ptr S.length 0 0 ∧ ∃ G : List Int, G.length = 42 ∧ (∀ x ∈ G, inI x) ∧ H = S ++ [some ⟨ldB n G, 0⟩]) ?_ ?_
  · intro K' hK'
    simp (maxSteps := 2000000) only [wk0, wk1, wk2, wk3, wk4, wk5, Fr.ev, Fr.put, Fr.get, pkB, pkT, pkF, storeA, if_false, if_true, Nat.reduceEqDiff, reduceIte, Nat.reduceAdd, List.replicate, Nat.reduceLeDiff, Nat.reduceMul, Nat.reduceSub, Nat.reducePow, Int.reduceLT, Int.reduceLE, Int.reduceToNat, Int.reducePow, IntKind.bits, Int.reduceEq, Int.reduceMul, Int.reduceNeg, ne_eq, reduceCtorEq, BEq.rfl, beq_self_eq_true, Int.reduceAdd, Int.reduceSub, Int.reduceMod, Int.reduceDiv, Nat.reduceMod, Nat.reduceDiv, Nat.reduceLT, cond_true, cond_false, gt_iff_lt, ge_iff_le, g0, g2, g7, YtdknnaalfoongaaDoor.D5, keep5, ty1, ty2, ty3, ty4, ty25, ty51, ty52, ty60, ty70]
    refine loopC_ind (fun m fr H => ∃ (i : Nat) (G : List Int), i + m = 6 ∧ G.length = 42 ∧ (∀ x ∈ G, inI x) ∧ fr.get 0 = .int .i64 n ∧ fr.get 2 = .lst (d.map fun x => .int .i64 x) d.length ∧ fr.get 7 = .ptr S.length 0 0 ∧ fr.get 9 = .int .i64 i ∧ H = S ++ [some ⟨ldB n G, 0⟩]) ?_ (n := 6) ⟨0, G, by omega, hG, hin, by simp [Fr.get, g0], by simp [Fr.get, g2], by simp [Fr.get, g7], by simp [Fr.get], rfl⟩
    clear g0 g2 g7 hG hin G
    rintro m fr H ⟨i, G, him, hG, hin, g0, g2, g7, g9, rfl⟩ ih
    have gl : (ldB n G).length = 43 := by rw [ldB_len, hG]
    by_cases h1 : (i : Int) < d.length
    · by_cases h2 : (i : Int) < 6
      · have h3 : i < d.length := by omega
        have k1 : (0 : Int) ≤ i := by omega
        have wi : IntKind.i64.wrap ((i : Int) + 1) = ((i + 1 : Nat) : Int) := wrapI (by omega)
        have gx := gm_at d i h3
        have p1 : 37 + i ≤ 42 := by omega
        have p2 : 37 + i + 1 ≤ 43 := by omega
        have fs := ldB_set n G (36 + i) (d.getD i 0)
        rw [show 1 + (36 + i) = 37 + i by omega] at fs
        simp (maxSteps := 2000000) only [wk0, wk1, wk2, wk3, wk4, wk5, Fr.ev, Fr.put, Fr.get, pkB, pkT, pkF, storeA, if_false, if_true, Nat.reduceEqDiff, reduceIte, Nat.reduceAdd, List.replicate, Nat.reduceLeDiff, Nat.reduceMul, Nat.reduceSub, Nat.reducePow, Int.reduceLT, Int.reduceLE, Int.reduceToNat, Int.reducePow, IntKind.bits, Int.reduceEq, Int.reduceMul, Int.reduceNeg, ne_eq, reduceCtorEq, BEq.rfl, beq_self_eq_true, Int.reduceAdd, Int.reduceSub, Int.reduceMod, Int.reduceDiv, Nat.reduceMod, Nat.reduceDiv, Nat.reduceLT, cond_true, cond_false, gt_iff_lt, ge_iff_le, g0, g2, g7, g9, h1, h2, k1, wi, gx, p1, p2, fs, gl, Int.toNat_natCast, Nat.mul_one, decide_true, decide_false, YtdknnaalfoongaaDoor.D5, keep5, ty1, ty2, ty3, ty4, ty25, ty51, ty52, ty60, ty70]
        exact ih (m - 1) _ _ (by omega) ⟨i + 1, G.set (36 + i) (d.getD i 0), by omega, by rw [List.length_set]; exact hG, inI_set hin _ (getD_in hd _), by simp [Fr.get, g0], by simp [Fr.get, g2], by simp [Fr.get, g7], by simp [Fr.get], rfl⟩
      · simp (maxSteps := 2000000) only [wk0, wk1, wk2, wk3, wk4, wk5, Fr.ev, Fr.put, Fr.get, pkB, pkT, pkF, storeA, if_false, if_true, Nat.reduceEqDiff, reduceIte, Nat.reduceAdd, List.replicate, Nat.reduceLeDiff, Nat.reduceMul, Nat.reduceSub, Nat.reducePow, Int.reduceLT, Int.reduceLE, Int.reduceToNat, Int.reducePow, IntKind.bits, Int.reduceEq, Int.reduceMul, Int.reduceNeg, ne_eq, reduceCtorEq, BEq.rfl, beq_self_eq_true, Int.reduceAdd, Int.reduceSub, Int.reduceMod, Int.reduceDiv, Nat.reduceMod, Nat.reduceDiv, Nat.reduceLT, cond_true, cond_false, gt_iff_lt, ge_iff_le, g0, g2, g7, g9, h1, h2, decide_true, decide_false, YtdknnaalfoongaaDoor.D5, keep5, ty1, ty2, ty3, ty4, ty25, ty51, ty52, ty60, ty70]
        exact hK' _ _ ⟨by simp [Fr.get, g0], by simp [Fr.get, g7], G, hG, hin, rfl⟩
    · simp (maxSteps := 2000000) only [wk0, wk1, wk2, wk3, wk4, wk5, Fr.ev, Fr.put, Fr.get, pkB, pkT, pkF, storeA, if_false, if_true, Nat.reduceEqDiff, reduceIte, Nat.reduceAdd, List.replicate, Nat.reduceLeDiff, Nat.reduceMul, Nat.reduceSub, Nat.reducePow, Int.reduceLT, Int.reduceLE, Int.reduceToNat, Int.reducePow, IntKind.bits, Int.reduceEq, Int.reduceMul, Int.reduceNeg, ne_eq, reduceCtorEq, BEq.rfl, beq_self_eq_true, Int.reduceAdd, Int.reduceSub, Int.reduceMod, Int.reduceDiv, Nat.reduceMod, Nat.reduceDiv, Nat.reduceLT, cond_true, cond_false, gt_iff_lt, ge_iff_le, g0, g2, g7, g9, h1, decide_true, decide_false, YtdknnaalfoongaaDoor.D5, keep5, ty1, ty2, ty3, ty4, ty25, ty51, ty52, ty60, ty70]
      exact hK' _ _ ⟨by simp [Fr.get, g0], by simp [Fr.get, g7], G, hG, hin, rfl⟩
  clear g0 g2 g7 hG hin G
  rintro fr H ⟨g0, g7, G, hG, hin, rfl⟩
  have gl : (ldB n G).length = 43 := by rw [ldB_len, hG]
  have tl : List.take 43 (ldB n G) = ldB n G := List.take_of_length_le (by omega)
  by_cases hN : 1 ≤ n ∧ n ≤ 6
  · obtain ⟨N, rfl⟩ : ∃ N : Nat, n = (N : Int) := ⟨n.toNat, by omega⟩
    have hN1 : 1 ≤ N ∧ N ≤ 6 := by omega
    have hnn : N * N ≤ 36 := Nat.mul_le_mul hN1.2 hN1.2
    have n0 : ¬ (N : Int) = 0 := by omega
    have wn : IntKind.i64.wrap ((N : Int) * N) = ((N * N : Nat) : Int) := by rw [wrapI (by rw [← Int.natCast_mul]; omega)]; simp
    rw [assoc9]
    refine cut9 (fun fr H => fr.get 0 = .int .i64 N ∧ fr.get 7 = .ptr S.length 0 0 ∧ H = S ++ [some ⟨ldB N G, 0⟩] ∧ ∃ b : Bool, fr.get 10 = .bool b ∧ (b = true → ∀ q, q < 36 → okG N G q) ∧ ((∀ q, q < 36 → okG N G q) → b = true)) ?_ ?_
    · intro K' hK'
      simp (maxSteps := 2000000) only [wk0, wk1, wk2, wk3, wk4, wk5, Fr.ev, Fr.put, Fr.get, pkB, pkT, pkF, storeA, if_false, if_true, Nat.reduceEqDiff, reduceIte, Nat.reduceAdd, List.replicate, Nat.reduceLeDiff, Nat.reduceMul, Nat.reduceSub, Nat.reducePow, Int.reduceLT, Int.reduceLE, Int.reduceToNat, Int.reducePow, IntKind.bits, Int.reduceEq, Int.reduceMul, Int.reduceNeg, ne_eq, reduceCtorEq, BEq.rfl, beq_self_eq_true, Int.reduceAdd, Int.reduceSub, Int.reduceMod, Int.reduceDiv, Nat.reduceMod, Nat.reduceDiv, Nat.reduceLT, cond_true, cond_false, gt_iff_lt, ge_iff_le, g0, g7, hN.1, hN.2, decide_true, decide_false, YtdknnaalfoongaaDoor.D5, keep5, ty1, ty2, ty3, ty4, ty25, ty51, ty52, ty60, ty70]
      refine loopC_ind (fun m fr H => ∃ (k : Nat) (b : Bool), k + m = 36 ∧ fr.get 0 = .int .i64 N ∧ fr.get 7 = .ptr S.length 0 0 ∧ fr.get 10 = .bool b ∧ fr.get 11 = .int .i64 k ∧ (b = true → ∀ q, q < k → okG N G q) ∧ ((∀ q, q < 36 → okG N G q) → b = true) ∧ H = S ++ [some ⟨ldB N G, 0⟩]) ?_ (n := 36) ⟨0, true, by omega, by simp [Fr.get, g0], by simp [Fr.get, g7], by simp [Fr.get], by simp [Fr.get], fun _ q hq => by omega, fun _ => rfl, rfl⟩
      clear g0 g7
      rintro m fr H ⟨k, b, hkm, g0, g7, g10, g11, hb, hb2, rfl⟩ ih
      by_cases hk : (k : Int) < 36
      · have hk36 : k < 36 := by omega
        cases b
        · simp (maxSteps := 2000000) only [wk0, wk1, wk2, wk3, wk4, wk5, Fr.ev, Fr.put, Fr.get, pkB, pkT, pkF, storeA, if_false, if_true, Nat.reduceEqDiff, reduceIte, Nat.reduceAdd, List.replicate, Nat.reduceLeDiff, Nat.reduceMul, Nat.reduceSub, Nat.reducePow, Int.reduceLT, Int.reduceLE, Int.reduceToNat, Int.reducePow, IntKind.bits, Int.reduceEq, Int.reduceMul, Int.reduceNeg, ne_eq, reduceCtorEq, BEq.rfl, beq_self_eq_true, Int.reduceAdd, Int.reduceSub, Int.reduceMod, Int.reduceDiv, Nat.reduceMod, Nat.reduceDiv, Nat.reduceLT, cond_true, cond_false, gt_iff_lt, ge_iff_le, g0, g7, g10, g11, hk, decide_true, decide_false, YtdknnaalfoongaaDoor.D5, keep5, ty1, ty2, ty3, ty4, ty25, ty51, ty52, ty60, ty70]
          exact hK' _ _ ⟨by simp [Fr.get, g0], by simp [Fr.get, g7], rfl, false, by simp [Fr.get, g10], (fun h => by cases h), hb2⟩
        · have hb := hb rfl
          have k0 : (0 : Int) ≤ k := by omega
          have wi : IntKind.i64.wrap ((k : Int) + 1) = ((k + 1 : Nat) : Int) := wrapI (by omega)
          have gx := ldB_at N G k (by omega)
          have fr1 := fine_raw hN1.1 G k
          have ex : okG N G k → ∀ q, q < k + 1 → okG N G q := fun h q hq => by
            by_cases e : q = k
            · subst e; exact h
            · exact hb q (by omega)
          have td : (k : Int).tdiv N = ((k / N : Nat) : Int) := by rw [Int.tdiv_eq_ediv_of_nonneg k0]; exact (Int.natCast_ediv k N).symm
          have tm : (k : Int).tmod N = ((k % N : Nat) : Int) := by rw [Int.tmod_eq_emod_of_nonneg k0]; exact (Int.natCast_emod k N).symm
          have wd : IntKind.i64.wrap ((k / N : Nat) : Int) = ((k / N : Nat) : Int) := by
            have dl := Nat.div_le_self k N
            generalize k / N = d at dl ⊢
            exact wrapI (by omega)
          have p2 : 1 + k + 1 ≤ 43 := by omega
          generalize G.getD k 0 = x at *
          generalize k / N = a at *
          generalize k % N = c at *
          by_cases hA : N * N ≤ k
          · have a1 : ((N * N : Nat) : Int) ≤ k := by omega
            rw [if_pos (.inl hA)] at fr1
            by_cases hx : x = 0
            · subst hx
              simp (maxSteps := 2000000) only [wk0, wk1, wk2, wk3, wk4, wk5, Fr.ev, Fr.put, Fr.get, pkB, pkT, pkF, storeA, if_false, if_true, Nat.reduceEqDiff, reduceIte, Nat.reduceAdd, List.replicate, Nat.reduceLeDiff, Nat.reduceMul, Nat.reduceSub, Nat.reducePow, Int.reduceLT, Int.reduceLE, Int.reduceToNat, Int.reducePow, IntKind.bits, Int.reduceEq, Int.reduceMul, Int.reduceNeg, ne_eq, reduceCtorEq, BEq.rfl, beq_self_eq_true, Int.reduceAdd, Int.reduceSub, Int.reduceMod, Int.reduceDiv, Nat.reduceMod, Nat.reduceDiv, Nat.reduceLT, cond_true, cond_false, gt_iff_lt, ge_iff_le, g0, g7, g10, g11, hk, k0, wi, gx, td, tm, wd, wn, n0, a1, p2, gl, Int.toNat_natCast, Nat.mul_one, decide_true, decide_false, YtdknnaalfoongaaDoor.D5, keep5, ty1, ty2, ty3, ty4, ty25, ty51, ty52, ty60, ty70]
              exact ih (m - 1) _ _ (by omega) ⟨k + 1, true, by omega, by simp [Fr.get, g0], by simp [Fr.get, g7], by simp [Fr.get], by simp [Fr.get], fun _ => ex (fr1.2 rfl), fun _ => rfl, rfl⟩
            · simp (maxSteps := 2000000) only [wk0, wk1, wk2, wk3, wk4, wk5, Fr.ev, Fr.put, Fr.get, pkB, pkT, pkF, storeA, if_false, if_true, Nat.reduceEqDiff, reduceIte, Nat.reduceAdd, List.replicate, Nat.reduceLeDiff, Nat.reduceMul, Nat.reduceSub, Nat.reducePow, Int.reduceLT, Int.reduceLE, Int.reduceToNat, Int.reducePow, IntKind.bits, Int.reduceEq, Int.reduceMul, Int.reduceNeg, ne_eq, reduceCtorEq, BEq.rfl, beq_self_eq_true, Int.reduceAdd, Int.reduceSub, Int.reduceMod, Int.reduceDiv, Nat.reduceMod, Nat.reduceDiv, Nat.reduceLT, cond_true, cond_false, gt_iff_lt, ge_iff_le, g0, g7, g10, g11, hk, k0, wi, gx, td, tm, wd, wn, n0, a1, p2, gl, hx, Int.toNat_natCast, Nat.mul_one, decide_true, decide_false, YtdknnaalfoongaaDoor.D5, keep5, ty1, ty2, ty3, ty4, ty25, ty51, ty52, ty60, ty70]
              exact ih (m - 1) _ _ (by omega) ⟨k + 1, false, by omega, by simp [Fr.get, g0], by simp [Fr.get, g7], by simp [Fr.get], by simp [Fr.get], (fun h => by cases h), fun h => absurd (h k hk36) (fun h => hx (fr1.1 h)), rfl⟩
          · have a1 : ¬ ((N * N : Nat) : Int) ≤ k := by omega
            by_cases hB : a < c
            · have b1 : (a : Int) < c := by omega
              rw [if_pos (.inr hB)] at fr1
              by_cases hx : x = 0
              · subst hx
                simp (maxSteps := 2000000) only [wk0, wk1, wk2, wk3, wk4, wk5, Fr.ev, Fr.put, Fr.get, pkB, pkT, pkF, storeA, if_false, if_true, Nat.reduceEqDiff, reduceIte, Nat.reduceAdd, List.replicate, Nat.reduceLeDiff, Nat.reduceMul, Nat.reduceSub, Nat.reducePow, Int.reduceLT, Int.reduceLE, Int.reduceToNat, Int.reducePow, IntKind.bits, Int.reduceEq, Int.reduceMul, Int.reduceNeg, ne_eq, reduceCtorEq, BEq.rfl, beq_self_eq_true, Int.reduceAdd, Int.reduceSub, Int.reduceMod, Int.reduceDiv, Nat.reduceMod, Nat.reduceDiv, Nat.reduceLT, cond_true, cond_false, gt_iff_lt, ge_iff_le, g0, g7, g10, g11, hk, k0, wi, gx, td, tm, wd, wn, n0, a1, b1, p2, gl, Int.toNat_natCast, Nat.mul_one, decide_true, decide_false, YtdknnaalfoongaaDoor.D5, keep5, ty1, ty2, ty3, ty4, ty25, ty51, ty52, ty60, ty70]
                exact ih (m - 1) _ _ (by omega) ⟨k + 1, true, by omega, by simp [Fr.get, g0], by simp [Fr.get, g7], by simp [Fr.get], by simp [Fr.get], fun _ => ex (fr1.2 rfl), fun _ => rfl, rfl⟩
              · simp (maxSteps := 2000000) only [wk0, wk1, wk2, wk3, wk4, wk5, Fr.ev, Fr.put, Fr.get, pkB, pkT, pkF, storeA, if_false, if_true, Nat.reduceEqDiff, reduceIte, Nat.reduceAdd, List.replicate, Nat.reduceLeDiff, Nat.reduceMul, Nat.reduceSub, Nat.reducePow, Int.reduceLT, Int.reduceLE, Int.reduceToNat, Int.reducePow, IntKind.bits, Int.reduceEq, Int.reduceMul, Int.reduceNeg, ne_eq, reduceCtorEq, BEq.rfl, beq_self_eq_true, Int.reduceAdd, Int.reduceSub, Int.reduceMod, Int.reduceDiv, Nat.reduceMod, Nat.reduceDiv, Nat.reduceLT, cond_true, cond_false, gt_iff_lt, ge_iff_le, g0, g7, g10, g11, hk, k0, wi, gx, td, tm, wd, wn, n0, a1, b1, p2, gl, hx, Int.toNat_natCast, Nat.mul_one, decide_true, decide_false, YtdknnaalfoongaaDoor.D5, keep5, ty1, ty2, ty3, ty4, ty25, ty51, ty52, ty60, ty70]
                exact ih (m - 1) _ _ (by omega) ⟨k + 1, false, by omega, by simp [Fr.get, g0], by simp [Fr.get, g7], by simp [Fr.get], by simp [Fr.get], (fun h => by cases h), fun h => absurd (h k hk36) (fun h => hx (fr1.1 h)), rfl⟩
            · have b1 : ¬ (a : Int) < c := by omega
              rw [if_neg (by omega)] at fr1
              by_cases hC : a = c
              · subst hC
                rw [if_pos rfl] at fr1
                by_cases hx : x = 1073741824
                · subst hx
                  simp (maxSteps := 2000000) only [wk0, wk1, wk2, wk3, wk4, wk5, Fr.ev, Fr.put, Fr.get, pkB, pkT, pkF, storeA, if_false, if_true, Nat.reduceEqDiff, reduceIte, Nat.reduceAdd, List.replicate, Nat.reduceLeDiff, Nat.reduceMul, Nat.reduceSub, Nat.reducePow, Int.reduceLT, Int.reduceLE, Int.reduceToNat, Int.reducePow, IntKind.bits, Int.reduceEq, Int.reduceMul, Int.reduceNeg, ne_eq, reduceCtorEq, BEq.rfl, beq_self_eq_true, Int.reduceAdd, Int.reduceSub, Int.reduceMod, Int.reduceDiv, Nat.reduceMod, Nat.reduceDiv, Nat.reduceLT, cond_true, cond_false, gt_iff_lt, ge_iff_le, g0, g7, g10, g11, hk, k0, wi, gx, td, tm, wd, wn, n0, a1, b1, p2, gl, Int.toNat_natCast, Nat.mul_one, decide_true, decide_false, YtdknnaalfoongaaDoor.D5, keep5, ty1, ty2, ty3, ty4, ty25, ty51, ty52, ty60, ty70]
                  exact ih (m - 1) _ _ (by omega) ⟨k + 1, true, by omega, by simp [Fr.get, g0], by simp [Fr.get, g7], by simp [Fr.get], by simp [Fr.get], fun _ => ex (fr1.2 rfl), fun _ => rfl, rfl⟩
                · simp (maxSteps := 2000000) only [wk0, wk1, wk2, wk3, wk4, wk5, Fr.ev, Fr.put, Fr.get, pkB, pkT, pkF, storeA, if_false, if_true, Nat.reduceEqDiff, reduceIte, Nat.reduceAdd, List.replicate, Nat.reduceLeDiff, Nat.reduceMul, Nat.reduceSub, Nat.reducePow, Int.reduceLT, Int.reduceLE, Int.reduceToNat, Int.reducePow, IntKind.bits, Int.reduceEq, Int.reduceMul, Int.reduceNeg, ne_eq, reduceCtorEq, BEq.rfl, beq_self_eq_true, Int.reduceAdd, Int.reduceSub, Int.reduceMod, Int.reduceDiv, Nat.reduceMod, Nat.reduceDiv, Nat.reduceLT, cond_true, cond_false, gt_iff_lt, ge_iff_le, g0, g7, g10, g11, hk, k0, wi, gx, td, tm, wd, wn, n0, a1, b1, p2, gl, hx, Int.toNat_natCast, Nat.mul_one, decide_true, decide_false, YtdknnaalfoongaaDoor.D5, keep5, ty1, ty2, ty3, ty4, ty25, ty51, ty52, ty60, ty70]
                  exact ih (m - 1) _ _ (by omega) ⟨k + 1, false, by omega, by simp [Fr.get, g0], by simp [Fr.get, g7], by simp [Fr.get], by simp [Fr.get], (fun h => by cases h), fun h => absurd (h k hk36) (fun h => hx (fr1.1 h)), rfl⟩
              · have c1 : ((a : Int) = c) = False := eq_false (by omega)
                rw [if_neg hC] at fr1
                by_cases h1 : -4611686018427387903 ≤ x
                · by_cases h2 : x ≤ 4611686018427387903
                  · simp (maxSteps := 2000000) only [wk0, wk1, wk2, wk3, wk4, wk5, Fr.ev, Fr.put, Fr.get, pkB, pkT, pkF, storeA, if_false, if_true, Nat.reduceEqDiff, reduceIte, Nat.reduceAdd, List.replicate, Nat.reduceLeDiff, Nat.reduceMul, Nat.reduceSub, Nat.reducePow, Int.reduceLT, Int.reduceLE, Int.reduceToNat, Int.reducePow, IntKind.bits, Int.reduceEq, Int.reduceMul, Int.reduceNeg, ne_eq, reduceCtorEq, BEq.rfl, beq_self_eq_true, Int.reduceAdd, Int.reduceSub, Int.reduceMod, Int.reduceDiv, Nat.reduceMod, Nat.reduceDiv, Nat.reduceLT, cond_true, cond_false, gt_iff_lt, ge_iff_le, g0, g7, g10, g11, hk, k0, wi, gx, td, tm, wd, wn, n0, a1, b1, c1, h1, h2, p2, gl, Int.toNat_natCast, Nat.mul_one, decide_true, decide_false, YtdknnaalfoongaaDoor.D5, keep5, ty1, ty2, ty3, ty4, ty25, ty51, ty52, ty60, ty70]
                    exact ih (m - 1) _ _ (by omega) ⟨k + 1, true, by omega, by simp [Fr.get, g0], by simp [Fr.get, g7], by simp [Fr.get], by simp [Fr.get], fun _ => ex (fr1.2 ⟨h1, h2⟩), fun _ => rfl, rfl⟩
                  · simp (maxSteps := 2000000) only [wk0, wk1, wk2, wk3, wk4, wk5, Fr.ev, Fr.put, Fr.get, pkB, pkT, pkF, storeA, if_false, if_true, Nat.reduceEqDiff, reduceIte, Nat.reduceAdd, List.replicate, Nat.reduceLeDiff, Nat.reduceMul, Nat.reduceSub, Nat.reducePow, Int.reduceLT, Int.reduceLE, Int.reduceToNat, Int.reducePow, IntKind.bits, Int.reduceEq, Int.reduceMul, Int.reduceNeg, ne_eq, reduceCtorEq, BEq.rfl, beq_self_eq_true, Int.reduceAdd, Int.reduceSub, Int.reduceMod, Int.reduceDiv, Nat.reduceMod, Nat.reduceDiv, Nat.reduceLT, cond_true, cond_false, gt_iff_lt, ge_iff_le, g0, g7, g10, g11, hk, k0, wi, gx, td, tm, wd, wn, n0, a1, b1, c1, h1, h2, p2, gl, Int.toNat_natCast, Nat.mul_one, decide_true, decide_false, YtdknnaalfoongaaDoor.D5, keep5, ty1, ty2, ty3, ty4, ty25, ty51, ty52, ty60, ty70]
                    exact ih (m - 1) _ _ (by omega) ⟨k + 1, false, by omega, by simp [Fr.get, g0], by simp [Fr.get, g7], by simp [Fr.get], by simp [Fr.get], (fun h => by cases h), fun h => absurd (h k hk36) (fun h => h2 (fr1.1 h).2), rfl⟩
                · simp (maxSteps := 2000000) only [wk0, wk1, wk2, wk3, wk4, wk5, Fr.ev, Fr.put, Fr.get, pkB, pkT, pkF, storeA, if_false, if_true, Nat.reduceEqDiff, reduceIte, Nat.reduceAdd, List.replicate, Nat.reduceLeDiff, Nat.reduceMul, Nat.reduceSub, Nat.reducePow, Int.reduceLT, Int.reduceLE, Int.reduceToNat, Int.reducePow, IntKind.bits, Int.reduceEq, Int.reduceMul, Int.reduceNeg, ne_eq, reduceCtorEq, BEq.rfl, beq_self_eq_true, Int.reduceAdd, Int.reduceSub, Int.reduceMod, Int.reduceDiv, Nat.reduceMod, Nat.reduceDiv, Nat.reduceLT, cond_true, cond_false, gt_iff_lt, ge_iff_le, g0, g7, g10, g11, hk, k0, wi, gx, td, tm, wd, wn, n0, a1, b1, c1, h1, p2, gl, Int.toNat_natCast, Nat.mul_one, decide_true, decide_false, YtdknnaalfoongaaDoor.D5, keep5, ty1, ty2, ty3, ty4, ty25, ty51, ty52, ty60, ty70]
                  exact ih (m - 1) _ _ (by omega) ⟨k + 1, false, by omega, by simp [Fr.get, g0], by simp [Fr.get, g7], by simp [Fr.get], by simp [Fr.get], (fun h => by cases h), fun h => absurd (h k hk36) (fun h => h1 (fr1.1 h).1), rfl⟩
      · obtain rfl : k = 36 := by omega
        simp (maxSteps := 2000000) only [wk0, wk1, wk2, wk3, wk4, wk5, Fr.ev, Fr.put, Fr.get, pkB, pkT, pkF, storeA, if_false, if_true, Nat.reduceEqDiff, reduceIte, Nat.reduceAdd, List.replicate, Nat.reduceLeDiff, Nat.reduceMul, Nat.reduceSub, Nat.reducePow, Int.reduceLT, Int.reduceLE, Int.reduceToNat, Int.reducePow, IntKind.bits, Int.reduceEq, Int.reduceMul, Int.reduceNeg, ne_eq, reduceCtorEq, BEq.rfl, beq_self_eq_true, Int.reduceAdd, Int.reduceSub, Int.reduceMod, Int.reduceDiv, Nat.reduceMod, Nat.reduceDiv, Nat.reduceLT, cond_true, cond_false, gt_iff_lt, ge_iff_le, g0, g7, g10, g11, hk, decide_true, decide_false, YtdknnaalfoongaaDoor.D5, keep5, ty1, ty2, ty3, ty4, ty25, ty51, ty52, ty60, ty70]
        exact hK' _ _ ⟨by simp [Fr.get, g0], by simp [Fr.get, g7], rfl, b, by simp [Fr.get, g10], hb, hb2⟩
    clear g0 g7
    rintro fr H ⟨g0, g7, rfl, b0, g10, hb0, hb02⟩
    refine cut9 (fun fr H => fr.get 0 = .int .i64 N ∧ fr.get 7 = .ptr S.length 0 0 ∧ H = S ++ [some ⟨ldB N G, 0⟩] ∧ ∃ b : Bool, fr.get 10 = .bool b ∧ (b = true → FineF N G) ∧ (FineF N G → b = true)) ?_ ?_
    · intro K' hK'
      simp (maxSteps := 2000000) only [wk0, wk1, wk2, wk3, wk4, wk5, Fr.ev, Fr.put, Fr.get, pkB, pkT, pkF, storeA, if_false, if_true, Nat.reduceEqDiff, reduceIte, Nat.reduceAdd, List.replicate, Nat.reduceLeDiff, Nat.reduceMul, Nat.reduceSub, Nat.reducePow, Int.reduceLT, Int.reduceLE, Int.reduceToNat, Int.reducePow, IntKind.bits, Int.reduceEq, Int.reduceMul, Int.reduceNeg, ne_eq, reduceCtorEq, BEq.rfl, beq_self_eq_true, Int.reduceAdd, Int.reduceSub, Int.reduceMod, Int.reduceDiv, Nat.reduceMod, Nat.reduceDiv, Nat.reduceLT, cond_true, cond_false, gt_iff_lt, ge_iff_le, g0, g7, g10, YtdknnaalfoongaaDoor.D5, keep5, ty1, ty2, ty3, ty4, ty25, ty51, ty52, ty60, ty70]
      refine loopC_ind (fun m fr H => ∃ (k : Nat) (b : Bool), k + m = 6 ∧ fr.get 0 = .int .i64 N ∧ fr.get 7 = .ptr S.length 0 0 ∧ fr.get 10 = .bool b ∧ fr.get 15 = .int .i64 k ∧ (b = true → (∀ q, q < 36 → okG N G q) ∧ ∀ q, q < k → okD N G q) ∧ (FineF N G → b = true) ∧ H = S ++ [some ⟨ldB N G, 0⟩]) ?_ (n := 6) ⟨0, b0, by omega, by simp [Fr.get, g0], by simp [Fr.get, g7], by simp [Fr.get, g10], by simp [Fr.get], fun h => ⟨hb0 h, fun q hq => by omega⟩, fun h => hb02 h.1, rfl⟩
      clear g0 g7 g10 hb0 hb02
      rintro m fr H ⟨k, b, hkm, g0, g7, g10, g15, hb, hb2, rfl⟩ ih
      by_cases hk : (k : Int) < 6
      · have hk6 : k < 6 := by omega
        cases b
        · simp (maxSteps := 2000000) only [wk0, wk1, wk2, wk3, wk4, wk5, Fr.ev, Fr.put, Fr.get, pkB, pkT, pkF, storeA, if_false, if_true, Nat.reduceEqDiff, reduceIte, Nat.reduceAdd, List.replicate, Nat.reduceLeDiff, Nat.reduceMul, Nat.reduceSub, Nat.reducePow, Int.reduceLT, Int.reduceLE, Int.reduceToNat, Int.reducePow, IntKind.bits, Int.reduceEq, Int.reduceMul, Int.reduceNeg, ne_eq, reduceCtorEq, BEq.rfl, beq_self_eq_true, Int.reduceAdd, Int.reduceSub, Int.reduceMod, Int.reduceDiv, Nat.reduceMod, Nat.reduceDiv, Nat.reduceLT, cond_true, cond_false, gt_iff_lt, ge_iff_le, g0, g7, g10, g15, hk, decide_true, decide_false, YtdknnaalfoongaaDoor.D5, keep5, ty1, ty2, ty3, ty4, ty25, ty51, ty52, ty60, ty70]
          exact hK' _ _ ⟨by simp [Fr.get, g0], by simp [Fr.get, g7], rfl, false, by simp [Fr.get, g10], (fun h => by cases h), hb2⟩
        · have hb := hb rfl
          have k0 : (0 : Int) ≤ k := by omega
          have wi : IntKind.i64.wrap ((k : Int) + 1) = ((k + 1 : Nat) : Int) := wrapI (by omega)
          have gx : (ldB N G)[37 + k]? = some (.int .i64 (G.getD (36 + k) 0)) := by rw [← ldB_at N G (36 + k) (by omega), show 1 + (36 + k) = 37 + k by omega]
          have fd : okD N G k ↔ if N ≤ k then G.getD (36 + k) 0 = 0 else 1 ≤ G.getD (36 + k) 0 ∧ G.getD (36 + k) 0 ≤ 4611686018427387903 := Iff.rfl
          have ex : okD N G k → (∀ q, q < 36 → okG N G q) ∧ ∀ q, q < k + 1 → okD N G q := fun h => ⟨hb.1, fun q hq => by
            by_cases e : q = k
            · subst e; exact h
            · exact hb.2 q (by omega)⟩
          have p2 : 37 + k + 1 ≤ 43 := by omega
          generalize G.getD (36 + k) 0 = x at *
          by_cases hA : N ≤ k
          · have a1 : (N : Int) ≤ k := by omega
            have a2 : ¬ (k : Int) < N := by omega
            rw [if_pos hA] at fd
            by_cases hx : x = 0
            · subst hx
              simp (maxSteps := 2000000) only [wk0, wk1, wk2, wk3, wk4, wk5, Fr.ev, Fr.put, Fr.get, pkB, pkT, pkF, storeA, if_false, if_true, Nat.reduceEqDiff, reduceIte, Nat.reduceAdd, List.replicate, Nat.reduceLeDiff, Nat.reduceMul, Nat.reduceSub, Nat.reducePow, Int.reduceLT, Int.reduceLE, Int.reduceToNat, Int.reducePow, IntKind.bits, Int.reduceEq, Int.reduceMul, Int.reduceNeg, ne_eq, reduceCtorEq, BEq.rfl, beq_self_eq_true, Int.reduceAdd, Int.reduceSub, Int.reduceMod, Int.reduceDiv, Nat.reduceMod, Nat.reduceDiv, Nat.reduceLT, cond_true, cond_false, gt_iff_lt, ge_iff_le, g0, g7, g10, g15, hk, k0, wi, gx, a1, a2, p2, gl, Int.toNat_natCast, Nat.mul_one, decide_true, decide_false, YtdknnaalfoongaaDoor.D5, keep5, ty1, ty2, ty3, ty4, ty25, ty51, ty52, ty60, ty70]
              exact ih (m - 1) _ _ (by omega) ⟨k + 1, true, by omega, by simp [Fr.get, g0], by simp [Fr.get, g7], by simp [Fr.get], by simp [Fr.get], fun _ => ex (fd.2 rfl), fun _ => rfl, rfl⟩
            · simp (maxSteps := 2000000) only [wk0, wk1, wk2, wk3, wk4, wk5, Fr.ev, Fr.put, Fr.get, pkB, pkT, pkF, storeA, if_false, if_true, Nat.reduceEqDiff, reduceIte, Nat.reduceAdd, List.replicate, Nat.reduceLeDiff, Nat.reduceMul, Nat.reduceSub, Nat.reducePow, Int.reduceLT, Int.reduceLE, Int.reduceToNat, Int.reducePow, IntKind.bits, Int.reduceEq, Int.reduceMul, Int.reduceNeg, ne_eq, reduceCtorEq, BEq.rfl, beq_self_eq_true, Int.reduceAdd, Int.reduceSub, Int.reduceMod, Int.reduceDiv, Nat.reduceMod, Nat.reduceDiv, Nat.reduceLT, cond_true, cond_false, gt_iff_lt, ge_iff_le, g0, g7, g10, g15, hk, k0, wi, gx, a1, a2, p2, gl, hx, Int.toNat_natCast, Nat.mul_one, decide_true, decide_false, YtdknnaalfoongaaDoor.D5, keep5, ty1, ty2, ty3, ty4, ty25, ty51, ty52, ty60, ty70]
              exact ih (m - 1) _ _ (by omega) ⟨k + 1, false, by omega, by simp [Fr.get, g0], by simp [Fr.get, g7], by simp [Fr.get], by simp [Fr.get], (fun h => by cases h), fun h => absurd (h.2 k hk6) (fun h => hx (fd.1 h)), rfl⟩
          · have a1 : ¬ (N : Int) ≤ k := by omega
            have a2 : (k : Int) < N := by omega
            rw [if_neg hA] at fd
            by_cases h1 : 1 ≤ x
            · by_cases h2 : x ≤ 4611686018427387903
              · simp (maxSteps := 2000000) only [wk0, wk1, wk2, wk3, wk4, wk5, Fr.ev, Fr.put, Fr.get, pkB, pkT, pkF, storeA, if_false, if_true, Nat.reduceEqDiff, reduceIte, Nat.reduceAdd, List.replicate, Nat.reduceLeDiff, Nat.reduceMul, Nat.reduceSub, Nat.reducePow, Int.reduceLT, Int.reduceLE, Int.reduceToNat, Int.reducePow, IntKind.bits, Int.reduceEq, Int.reduceMul, Int.reduceNeg, ne_eq, reduceCtorEq, BEq.rfl, beq_self_eq_true, Int.reduceAdd, Int.reduceSub, Int.reduceMod, Int.reduceDiv, Nat.reduceMod, Nat.reduceDiv, Nat.reduceLT, cond_true, cond_false, gt_iff_lt, ge_iff_le, g0, g7, g10, g15, hk, k0, wi, gx, a1, a2, h1, h2, p2, gl, Int.toNat_natCast, Nat.mul_one, decide_true, decide_false, YtdknnaalfoongaaDoor.D5, keep5, ty1, ty2, ty3, ty4, ty25, ty51, ty52, ty60, ty70]
                exact ih (m - 1) _ _ (by omega) ⟨k + 1, true, by omega, by simp [Fr.get, g0], by simp [Fr.get, g7], by simp [Fr.get], by simp [Fr.get], fun _ => ex (fd.2 ⟨h1, h2⟩), fun _ => rfl, rfl⟩
              · simp (maxSteps := 2000000) only [wk0, wk1, wk2, wk3, wk4, wk5, Fr.ev, Fr.put, Fr.get, pkB, pkT, pkF, storeA, if_false, if_true, Nat.reduceEqDiff, reduceIte, Nat.reduceAdd, List.replicate, Nat.reduceLeDiff, Nat.reduceMul, Nat.reduceSub, Nat.reducePow, Int.reduceLT, Int.reduceLE, Int.reduceToNat, Int.reducePow, IntKind.bits, Int.reduceEq, Int.reduceMul, Int.reduceNeg, ne_eq, reduceCtorEq, BEq.rfl, beq_self_eq_true, Int.reduceAdd, Int.reduceSub, Int.reduceMod, Int.reduceDiv, Nat.reduceMod, Nat.reduceDiv, Nat.reduceLT, cond_true, cond_false, gt_iff_lt, ge_iff_le, g0, g7, g10, g15, hk, k0, wi, gx, a1, a2, h1, h2, p2, gl, Int.toNat_natCast, Nat.mul_one, decide_true, decide_false, YtdknnaalfoongaaDoor.D5, keep5, ty1, ty2, ty3, ty4, ty25, ty51, ty52, ty60, ty70]
                exact ih (m - 1) _ _ (by omega) ⟨k + 1, false, by omega, by simp [Fr.get, g0], by simp [Fr.get, g7], by simp [Fr.get], by simp [Fr.get], (fun h => by cases h), fun h => absurd (h.2 k hk6) (fun h => h2 (fd.1 h).2), rfl⟩
            · simp (maxSteps := 2000000) only [wk0, wk1, wk2, wk3, wk4, wk5, Fr.ev, Fr.put, Fr.get, pkB, pkT, pkF, storeA, if_false, if_true, Nat.reduceEqDiff, reduceIte, Nat.reduceAdd, List.replicate, Nat.reduceLeDiff, Nat.reduceMul, Nat.reduceSub, Nat.reducePow, Int.reduceLT, Int.reduceLE, Int.reduceToNat, Int.reducePow, IntKind.bits, Int.reduceEq, Int.reduceMul, Int.reduceNeg, ne_eq, reduceCtorEq, BEq.rfl, beq_self_eq_true, Int.reduceAdd, Int.reduceSub, Int.reduceMod, Int.reduceDiv, Nat.reduceMod, Nat.reduceDiv, Nat.reduceLT, cond_true, cond_false, gt_iff_lt, ge_iff_le, g0, g7, g10, g15, hk, k0, wi, gx, a1, a2, h1, p2, gl, Int.toNat_natCast, Nat.mul_one, decide_true, decide_false, YtdknnaalfoongaaDoor.D5, keep5, ty1, ty2, ty3, ty4, ty25, ty51, ty52, ty60, ty70]
              exact ih (m - 1) _ _ (by omega) ⟨k + 1, false, by omega, by simp [Fr.get, g0], by simp [Fr.get, g7], by simp [Fr.get], by simp [Fr.get], (fun h => by cases h), fun h => absurd (h.2 k hk6) (fun h => h1 (fd.1 h).1), rfl⟩
      · obtain rfl : k = 6 := by omega
        simp (maxSteps := 2000000) only [wk0, wk1, wk2, wk3, wk4, wk5, Fr.ev, Fr.put, Fr.get, pkB, pkT, pkF, storeA, if_false, if_true, Nat.reduceEqDiff, reduceIte, Nat.reduceAdd, List.replicate, Nat.reduceLeDiff, Nat.reduceMul, Nat.reduceSub, Nat.reducePow, Int.reduceLT, Int.reduceLE, Int.reduceToNat, Int.reducePow, IntKind.bits, Int.reduceEq, Int.reduceMul, Int.reduceNeg, ne_eq, reduceCtorEq, BEq.rfl, beq_self_eq_true, Int.reduceAdd, Int.reduceSub, Int.reduceMod, Int.reduceDiv, Nat.reduceMod, Nat.reduceDiv, Nat.reduceLT, cond_true, cond_false, gt_iff_lt, ge_iff_le, g0, g7, g10, g15, hk, decide_true, decide_false, YtdknnaalfoongaaDoor.D5, keep5, ty1, ty2, ty3, ty4, ty25, ty51, ty52, ty60, ty70]
        exact hK' _ _ ⟨by simp [Fr.get, g0], by simp [Fr.get, g7], rfl, b, by simp [Fr.get, g10], hb, hb2⟩
    clear g0 g7 g10 hb0 hb02
    rintro fr H ⟨g0, g7, rfl, b, g10, hb, hb2⟩
    have mn : min (N : Int) 6 = N := by omega
    have mx : max (0 : Int) N = N := by omega
    have mk := mkN N (by omega)
    cases b
    · have nf : ¬ FineF N G := fun h => by cases hb2 h
      have ck := fun S => ldlCheck_ok N G S hG hN1 _ (.inr ⟨nf, rfl⟩)
      have sv := fun v vm S => ldlSolve_bad N G v S hG ck vm
      have fa := fun v vm S => ldlFar_bad N G v [] S hG ck vm
      have lg := fun S => ldlLog_bad N G S hG ck
      simp only [errA] at ck sv fa lg
      simp (maxSteps := 2000000) only [wk0, wk1, wk2, wk3, wk4, wk5, Fr.ev, Fr.put, Fr.get, pkB, pkT, pkF, storeA, if_false, if_true, Nat.reduceEqDiff, reduceIte, Nat.reduceAdd, List.replicate, Nat.reduceLeDiff, Nat.reduceMul, Nat.reduceSub, Nat.reducePow, Int.reduceLT, Int.reduceLE, Int.reduceToNat, Int.reducePow, IntKind.bits, Int.reduceEq, Int.reduceMul, Int.reduceNeg, ne_eq, reduceCtorEq, BEq.rfl, beq_self_eq_true, Int.reduceAdd, Int.reduceSub, Int.reduceMod, Int.reduceDiv, Nat.reduceMod, Nat.reduceDiv, Nat.reduceLT, cond_true, cond_false, gt_iff_lt, ge_iff_le, g0, g7, g10, mn, mx, mk, gl, tl, decide_true, decide_false, YtdknnaalfoongaaDoor.D5, keep5, ty1, ty2, ty3, ty4, ty25, ty51, ty52, ty60, ty70]
      repeat
        first
        | refine callThen_of (ck _) ?_
        | refine callThen_of (n1 _) ?_
        | refine callThen_of (sv _ (fun _ _ => rfl) _) ?_
        | refine callThen_of (fa _ (fun _ _ => rfl) _) ?_
        | refine callThen_of (lg _) ?_
        | refine callThen_of (su _) ?_
        simp (maxSteps := 2000000) only [wk0, wk1, wk2, wk3, wk4, wk5, Fr.ev, Fr.put, Fr.get, pkB, pkT, pkF, storeA, if_false, if_true, Nat.reduceEqDiff, reduceIte, Nat.reduceAdd, List.replicate, Nat.reduceLeDiff, Nat.reduceMul, Nat.reduceSub, Nat.reducePow, Int.reduceLT, Int.reduceLE, Int.reduceToNat, Int.reducePow, IntKind.bits, Int.reduceEq, Int.reduceMul, Int.reduceNeg, ne_eq, reduceCtorEq, BEq.rfl, beq_self_eq_true, Int.reduceAdd, Int.reduceSub, Int.reduceMod, Int.reduceDiv, Nat.reduceMod, Nat.reduceDiv, Nat.reduceLT, cond_true, cond_false, gt_iff_lt, ge_iff_le, g0, g7, g10, mn, mx, mk, gl, tl, decide_true, decide_false, YtdknnaalfoongaaDoor.D5, keep5, ty1, ty2, ty3, ty4, ty25, ty51, ty52, ty60, ty70]
      exact retB_plain (by simp [nmd_bool]) rfl (by simp)
    · have ff := hb rfl
      have ck := fun S => ldlCheck_ok N G S hG hN1 _ (.inl ⟨ff, rfl⟩)
      have zin : ∀ x ∈ List.replicate N (0 : Int), inI x := fun x hx => by rw [List.eq_of_mem_replicate hx]; unfold inI; omega
      have vs : VecS (S ++ [some ⟨ldB N G, 0⟩, some ⟨(List.replicate N (0 : Int)).map fun x => .int .i64 x, 0⟩]) (.sl (S.length + 1) 0 0 N N 1) (List.replicate N 0) := by
        have := VecS.own (S := S ++ [some ⟨ldB N G, 0⟩, some ⟨(List.replicate N (0 : Int)).map fun x => .int .i64 x, 0⟩]) (id := S.length + 1) (ver := 0) (cap := N) (l := List.replicate N 0) (by rw [blk1]; simp [blkAt])
        rwa [List.length_replicate] at this
      have sv := ldlSolve_ok N G _ _ _ hN1 hG hin ff (by simp) zin vs _ _ rfl rfl
      have fa := ldlFar_ok N G _ _ _ hN1 hG hin ff (by simp) zin vs
      have lg := fun S => ldlLog_ok N G S hN1 hG ff
      simp only [lstI] at sv
      generalize bkX N G (svX G (dnY N G (List.replicate N 0) N) N) N = XL at *
      simp (maxSteps := 2000000) only [wk0, wk1, wk2, wk3, wk4, wk5, Fr.ev, Fr.put, Fr.get, pkB, pkT, pkF, storeA, if_false, if_true, Nat.reduceEqDiff, reduceIte, Nat.reduceAdd, List.replicate, Nat.reduceLeDiff, Nat.reduceMul, Nat.reduceSub, Nat.reducePow, Int.reduceLT, Int.reduceLE, Int.reduceToNat, Int.reducePow, IntKind.bits, Int.reduceEq, Int.reduceMul, Int.reduceNeg, ne_eq, reduceCtorEq, BEq.rfl, beq_self_eq_true, Int.reduceAdd, Int.reduceSub, Int.reduceMod, Int.reduceDiv, Nat.reduceMod, Nat.reduceDiv, Nat.reduceLT, cond_true, cond_false, gt_iff_lt, ge_iff_le, g0, g7, g10, mn, mx, mk, gl, tl, decide_true, decide_false, YtdknnaalfoongaaDoor.D5, keep5, ty1, ty2, ty3, ty4, ty25, ty51, ty52, ty60, ty70]
      refine callThen_of (ck _) ?_
      simp (maxSteps := 2000000) only [wk0, wk1, wk2, wk3, wk4, wk5, Fr.ev, Fr.put, Fr.get, pkB, pkT, pkF, storeA, if_false, if_true, Nat.reduceEqDiff, reduceIte, Nat.reduceAdd, List.replicate, Nat.reduceLeDiff, Nat.reduceMul, Nat.reduceSub, Nat.reducePow, Int.reduceLT, Int.reduceLE, Int.reduceToNat, Int.reducePow, IntKind.bits, Int.reduceEq, Int.reduceMul, Int.reduceNeg, ne_eq, reduceCtorEq, BEq.rfl, beq_self_eq_true, Int.reduceAdd, Int.reduceSub, Int.reduceMod, Int.reduceDiv, Nat.reduceMod, Nat.reduceDiv, Nat.reduceLT, cond_true, cond_false, gt_iff_lt, ge_iff_le, g0, g7, g10, mn, mx, mk, gl, tl, decide_true, decide_false, YtdknnaalfoongaaDoor.D5, keep5, ty1, ty2, ty3, ty4, ty25, ty51, ty52, ty60, ty70]
      refine callThen_of (sv) ?_
      simp (maxSteps := 2000000) only [wk0, wk1, wk2, wk3, wk4, wk5, Fr.ev, Fr.put, Fr.get, pkB, pkT, pkF, storeA, if_false, if_true, Nat.reduceEqDiff, reduceIte, Nat.reduceAdd, List.replicate, Nat.reduceLeDiff, Nat.reduceMul, Nat.reduceSub, Nat.reducePow, Int.reduceLT, Int.reduceLE, Int.reduceToNat, Int.reducePow, IntKind.bits, Int.reduceEq, Int.reduceMul, Int.reduceNeg, ne_eq, reduceCtorEq, BEq.rfl, beq_self_eq_true, Int.reduceAdd, Int.reduceSub, Int.reduceMod, Int.reduceDiv, Nat.reduceMod, Nat.reduceDiv, Nat.reduceLT, cond_true, cond_false, gt_iff_lt, ge_iff_le, g0, g7, g10, mn, mx, mk, gl, tl, decide_true, decide_false, YtdknnaalfoongaaDoor.D5, keep5, ty1, ty2, ty3, ty4, ty25, ty51, ty52, ty60, ty70]
      refine callThen_of (fa) ?_
      simp (maxSteps := 2000000) only [wk0, wk1, wk2, wk3, wk4, wk5, Fr.ev, Fr.put, Fr.get, pkB, pkT, pkF, storeA, if_false, if_true, Nat.reduceEqDiff, reduceIte, Nat.reduceAdd, List.replicate, Nat.reduceLeDiff, Nat.reduceMul, Nat.reduceSub, Nat.reducePow, Int.reduceLT, Int.reduceLE, Int.reduceToNat, Int.reducePow, IntKind.bits, Int.reduceEq, Int.reduceMul, Int.reduceNeg, ne_eq, reduceCtorEq, BEq.rfl, beq_self_eq_true, Int.reduceAdd, Int.reduceSub, Int.reduceMod, Int.reduceDiv, Nat.reduceMod, Nat.reduceDiv, Nat.reduceLT, cond_true, cond_false, gt_iff_lt, ge_iff_le, g0, g7, g10, mn, mx, mk, gl, tl, decide_true, decide_false, YtdknnaalfoongaaDoor.D5, keep5, ty1, ty2, ty3, ty4, ty25, ty51, ty52, ty60, ty70]
      refine callThen_of (lg _) ?_
      simp (maxSteps := 2000000) only [wk0, wk1, wk2, wk3, wk4, wk5, Fr.ev, Fr.put, Fr.get, pkB, pkT, pkF, storeA, if_false, if_true, Nat.reduceEqDiff, reduceIte, Nat.reduceAdd, List.replicate, Nat.reduceLeDiff, Nat.reduceMul, Nat.reduceSub, Nat.reducePow, Int.reduceLT, Int.reduceLE, Int.reduceToNat, Int.reducePow, IntKind.bits, Int.reduceEq, Int.reduceMul, Int.reduceNeg, ne_eq, reduceCtorEq, BEq.rfl, beq_self_eq_true, Int.reduceAdd, Int.reduceSub, Int.reduceMod, Int.reduceDiv, Nat.reduceMod, Nat.reduceDiv, Nat.reduceLT, cond_true, cond_false, gt_iff_lt, ge_iff_le, g0, g7, g10, mn, mx, mk, gl, tl, decide_true, decide_false, YtdknnaalfoongaaDoor.D5, keep5, ty1, ty2, ty3, ty4, ty25, ty51, ty52, ty60, ty70]
      refine callThen_of (su _) ?_
      simp (maxSteps := 2000000) only [wk0, wk1, wk2, wk3, wk4, wk5, Fr.ev, Fr.put, Fr.get, pkB, pkT, pkF, storeA, if_false, if_true, Nat.reduceEqDiff, reduceIte, Nat.reduceAdd, List.replicate, Nat.reduceLeDiff, Nat.reduceMul, Nat.reduceSub, Nat.reducePow, Int.reduceLT, Int.reduceLE, Int.reduceToNat, Int.reducePow, IntKind.bits, Int.reduceEq, Int.reduceMul, Int.reduceNeg, ne_eq, reduceCtorEq, BEq.rfl, beq_self_eq_true, Int.reduceAdd, Int.reduceSub, Int.reduceMod, Int.reduceDiv, Nat.reduceMod, Nat.reduceDiv, Nat.reduceLT, cond_true, cond_false, gt_iff_lt, ge_iff_le, g0, g7, g10, mn, mx, mk, gl, tl, decide_true, decide_false, YtdknnaalfoongaaDoor.D5, keep5, ty1, ty2, ty3, ty4, ty25, ty51, ty52, ty60, ty70]
      exact retB_plain (by simp [nmd_bool]) rfl (by simp)
  · have ck := fun S => ldlCheck_size n G S hG hN
    have sv := fun v vm S => ldlSolve_bad n G v S hG ck vm
    have fa := fun v vm S => ldlFar_bad n G v [] S hG ck vm
    have lg := fun S => ldlLog_bad n G S hG ck
    simp only [errA] at ck sv fa lg
    by_cases h1 : 1 ≤ n
    · have h2 : ¬ n ≤ 6 := by omega
      have mn : min n 6 = 6 := by omega
      have mx : max (0 : Int) 6 = 6 := by omega
      have mk := mkN 6 (by omega)
      simp only [castLit] at mk
      simp (maxSteps := 2000000) only [wk0, wk1, wk2, wk3, wk4, wk5, Fr.ev, Fr.put, Fr.get, pkB, pkT, pkF, storeA, if_false, if_true, Nat.reduceEqDiff, reduceIte, Nat.reduceAdd, List.replicate, Nat.reduceLeDiff, Nat.reduceMul, Nat.reduceSub, Nat.reducePow, Int.reduceLT, Int.reduceLE, Int.reduceToNat, Int.reducePow, IntKind.bits, Int.reduceEq, Int.reduceMul, Int.reduceNeg, ne_eq, reduceCtorEq, BEq.rfl, beq_self_eq_true, Int.reduceAdd, Int.reduceSub, Int.reduceMod, Int.reduceDiv, Nat.reduceMod, Nat.reduceDiv, Nat.reduceLT, cond_true, cond_false, gt_iff_lt, ge_iff_le, g0, g7, h1, h2, decide_true, decide_false, YtdknnaalfoongaaDoor.D5, keep5, ty1, ty2, ty3, ty4, ty25, ty51, ty52, ty60, ty70]
      refine loopC_of ?_
      simp (maxSteps := 2000000) only [wk0, wk1, wk2, wk3, wk4, wk5, Fr.ev, Fr.put, Fr.get, pkB, pkT, pkF, storeA, if_false, if_true, Nat.reduceEqDiff, reduceIte, Nat.reduceAdd, List.replicate, Nat.reduceLeDiff, Nat.reduceMul, Nat.reduceSub, Nat.reducePow, Int.reduceLT, Int.reduceLE, Int.reduceToNat, Int.reducePow, IntKind.bits, Int.reduceEq, Int.reduceMul, Int.reduceNeg, ne_eq, reduceCtorEq, BEq.rfl, beq_self_eq_true, Int.reduceAdd, Int.reduceSub, Int.reduceMod, Int.reduceDiv, Nat.reduceMod, Nat.reduceDiv, Nat.reduceLT, cond_true, cond_false, gt_iff_lt, ge_iff_le, g0, g7, h1, h2, decide_true, decide_false, YtdknnaalfoongaaDoor.D5, keep5, ty1, ty2, ty3, ty4, ty25, ty51, ty52, ty60, ty70]
      refine loopC_of ?_
      simp (maxSteps := 2000000) only [wk0, wk1, wk2, wk3, wk4, wk5, Fr.ev, Fr.put, Fr.get, pkB, pkT, pkF, storeA, if_false, if_true, Nat.reduceEqDiff, reduceIte, Nat.reduceAdd, List.replicate, Nat.reduceLeDiff, Nat.reduceMul, Nat.reduceSub, Nat.reducePow, Int.reduceLT, Int.reduceLE, Int.reduceToNat, Int.reducePow, IntKind.bits, Int.reduceEq, Int.reduceMul, Int.reduceNeg, ne_eq, reduceCtorEq, BEq.rfl, beq_self_eq_true, Int.reduceAdd, Int.reduceSub, Int.reduceMod, Int.reduceDiv, Nat.reduceMod, Nat.reduceDiv, Nat.reduceLT, cond_true, cond_false, gt_iff_lt, ge_iff_le, g0, g7, mn, mx, mk, gl, tl, decide_true, decide_false, YtdknnaalfoongaaDoor.D5, keep5, ty1, ty2, ty3, ty4, ty25, ty51, ty52, ty60, ty70]
      repeat
        first
        | refine callThen_of (ck _) ?_
        | refine callThen_of (n1 _) ?_
        | refine callThen_of (sv _ (fun _ _ => rfl) _) ?_
        | refine callThen_of (fa _ (fun _ _ => rfl) _) ?_
        | refine callThen_of (lg _) ?_
        | refine callThen_of (su _) ?_
        simp (maxSteps := 2000000) only [wk0, wk1, wk2, wk3, wk4, wk5, Fr.ev, Fr.put, Fr.get, pkB, pkT, pkF, storeA, if_false, if_true, Nat.reduceEqDiff, reduceIte, Nat.reduceAdd, List.replicate, Nat.reduceLeDiff, Nat.reduceMul, Nat.reduceSub, Nat.reducePow, Int.reduceLT, Int.reduceLE, Int.reduceToNat, Int.reducePow, IntKind.bits, Int.reduceEq, Int.reduceMul, Int.reduceNeg, ne_eq, reduceCtorEq, BEq.rfl, beq_self_eq_true, Int.reduceAdd, Int.reduceSub, Int.reduceMod, Int.reduceDiv, Nat.reduceMod, Nat.reduceDiv, Nat.reduceLT, cond_true, cond_false, gt_iff_lt, ge_iff_le, g0, g7, mn, mx, mk, gl, tl, decide_true, decide_false, YtdknnaalfoongaaDoor.D5, keep5, ty1, ty2, ty3, ty4, ty25, ty51, ty52, ty60, ty70]
      exact retB_plain (by simp [nmd_bool]) rfl (by simp)
    · have mn : min n 6 = n := by omega
      have mx : max (0 : Int) n = 0 := by omega
      have mk := mkN 0 (by omega)
      simp only [castLit] at mk
      simp (maxSteps := 2000000) only [wk0, wk1, wk2, wk3, wk4, wk5, Fr.ev, Fr.put, Fr.get, pkB, pkT, pkF, storeA, if_false, if_true, Nat.reduceEqDiff, reduceIte, Nat.reduceAdd, List.replicate, Nat.reduceLeDiff, Nat.reduceMul, Nat.reduceSub, Nat.reducePow, Int.reduceLT, Int.reduceLE, Int.reduceToNat, Int.reducePow, IntKind.bits, Int.reduceEq, Int.reduceMul, Int.reduceNeg, ne_eq, reduceCtorEq, BEq.rfl, beq_self_eq_true, Int.reduceAdd, Int.reduceSub, Int.reduceMod, Int.reduceDiv, Nat.reduceMod, Nat.reduceDiv, Nat.reduceLT, cond_true, cond_false, gt_iff_lt, ge_iff_le, g0, g7, h1, decide_true, decide_false, YtdknnaalfoongaaDoor.D5, keep5, ty1, ty2, ty3, ty4, ty25, ty51, ty52, ty60, ty70]
      refine loopC_of ?_
      simp (maxSteps := 2000000) only [wk0, wk1, wk2, wk3, wk4, wk5, Fr.ev, Fr.put, Fr.get, pkB, pkT, pkF, storeA, if_false, if_true, Nat.reduceEqDiff, reduceIte, Nat.reduceAdd, List.replicate, Nat.reduceLeDiff, Nat.reduceMul, Nat.reduceSub, Nat.reducePow, Int.reduceLT, Int.reduceLE, Int.reduceToNat, Int.reducePow, IntKind.bits, Int.reduceEq, Int.reduceMul, Int.reduceNeg, ne_eq, reduceCtorEq, BEq.rfl, beq_self_eq_true, Int.reduceAdd, Int.reduceSub, Int.reduceMod, Int.reduceDiv, Nat.reduceMod, Nat.reduceDiv, Nat.reduceLT, cond_true, cond_false, gt_iff_lt, ge_iff_le, g0, g7, h1, decide_true, decide_false, YtdknnaalfoongaaDoor.D5, keep5, ty1, ty2, ty3, ty4, ty25, ty51, ty52, ty60, ty70]
      refine loopC_of ?_
      simp (maxSteps := 2000000) only [wk0, wk1, wk2, wk3, wk4, wk5, Fr.ev, Fr.put, Fr.get, pkB, pkT, pkF, storeA, if_false, if_true, Nat.reduceEqDiff, reduceIte, Nat.reduceAdd, List.replicate, Nat.reduceLeDiff, Nat.reduceMul, Nat.reduceSub, Nat.reducePow, Int.reduceLT, Int.reduceLE, Int.reduceToNat, Int.reducePow, IntKind.bits, Int.reduceEq, Int.reduceMul, Int.reduceNeg, ne_eq, reduceCtorEq, BEq.rfl, beq_self_eq_true, Int.reduceAdd, Int.reduceSub, Int.reduceMod, Int.reduceDiv, Nat.reduceMod, Nat.reduceDiv, Nat.reduceLT, cond_true, cond_false, gt_iff_lt, ge_iff_le, g0, g7, mn, mx, mk, gl, tl, decide_true, decide_false, YtdknnaalfoongaaDoor.D5, keep5, ty1, ty2, ty3, ty4, ty25, ty51, ty52, ty60, ty70]
      repeat
        first
        | refine callThen_of (ck _) ?_
        | refine callThen_of (n1 _) ?_
        | refine callThen_of (sv _ (fun _ _ => rfl) _) ?_
        | refine callThen_of (fa _ (fun _ _ => rfl) _) ?_
        | refine callThen_of (lg _) ?_
        | refine callThen_of (su _) ?_
        simp (maxSteps := 2000000) only [wk0, wk1, wk2, wk3, wk4, wk5, Fr.ev, Fr.put, Fr.get, pkB, pkT, pkF, storeA, if_false, if_true, Nat.reduceEqDiff, reduceIte, Nat.reduceAdd, List.replicate, Nat.reduceLeDiff, Nat.reduceMul, Nat.reduceSub, Nat.reducePow, Int.reduceLT, Int.reduceLE, Int.reduceToNat, Int.reducePow, IntKind.bits, Int.reduceEq, Int.reduceMul, Int.reduceNeg, ne_eq, reduceCtorEq, BEq.rfl, beq_self_eq_true, Int.reduceAdd, Int.reduceSub, Int.reduceMod, Int.reduceDiv, Nat.reduceMod, Nat.reduceDiv, Nat.reduceLT, cond_true, cond_false, gt_iff_lt, ge_iff_le, g0, g7, mn, mx, mk, gl, tl, decide_true, decide_false, YtdknnaalfoongaaDoor.D5, keep5, ty1, ty2, ty3, ty4, ty25, ty51, ty52, ty60, ty70]
      exact retB_plain (by simp [nmd_bool]) rfl (by simp)
end Go.Proofs.YtdknnaalfoongaaDoor
