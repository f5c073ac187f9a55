/- trail: how long, and the middle. -/
import Derived.Test.YtdknnaalfoongaaDoorT1
set_option linter.unusedSimpArgs false
set_option linter.unusedVariables false
set_option maxRecDepth 100000
set_option maxHeartbeats 4000000
namespace Go.Proofs.YtdknnaalfoongaaDoor
theorem ptC_at (f : Nat → Pt) (c k : Nat) (h : k < c) : (ptC f c)[k * 3]? = some (.int .i64 (f k).t) ∧ (ptC f c)[k * 3 + 1]? = some (.int .i64 (f k).x) ∧ (ptC f c)[k * 3 + 2]? = some (.int .i64 (f k).y) := by
  have e := ptC_get f c k h
  have g := fun (j : Nat) => congrArg (fun l : List AV => l[j]?) e
  simp only [List.getElem?_take, List.getElem?_drop] at g
  refine ⟨by simpa using g 0, by simpa using g 1, by simpa using g 2⟩
noncomputable def c34 : Code := Tryd.f34.body.getD .skip
theorem b34 : Tryd.f34.body = some c34 := rfl
theorem d34 : fnOk Tryd.f34 c34 = true := by kernel_rfl
def D34 : Nat → List Tag := fun _ => []
theorem e34 : drawsOk D34 c34 = true := by kernel_rfl
noncomputable def c8 : Code := Tryd.f8.body.getD .skip
theorem b8 : Tryd.f8.body = some c8 := rfl
theorem d8 : fnOk Tryd.f8 c8 = true := by kernel_rfl
def D8 : Nat → List Tag
  | 7 => [.pure, .pure, .pure, .pure, .quiet, .pure, .pure, .pure, .pure, .pure, .quiet, .pure, .pure, .pure, .pure, .pure, .quiet, .pure, .pure, .pure, .pure, .pure, .quiet, .pure, .seq, .pure, .pure, .pure, .pure, .pure]
  | _ => []
theorem e8 : drawsOk D8 c8 = true := by kernel_rfl
noncomputable def c7 : Code := Tryd.f7.body.getD .skip
theorem b7 : Tryd.f7.body = some c7 := rfl
theorem d7 : fnOk Tryd.f7 c7 = true := by kernel_rfl
def D7 : Nat → List Tag
  | 9 => [.pure, .pure, .quiet, .pure, .pure, .pure, .quiet, .pure, .pure, .pure]
  | 11 => [.pure, .pure, .pure, .pure, .quiet, .quiet, .pure, .pure, .pure, .pure, .quiet, .seq, .pure, .pure, .pure]
  | _ => []
theorem e7 : drawsOk D7 c7 = true := by kernel_rfl
theorem floor_ok (n d : Int) (S : Heap) (hn : -4611686018427387904 ≤ n ∧ n ≤ 4611686018427387904) (hd : 0 < d) : Call theE 34 [.int .i64 n, .int .i64 d] S (.int .i64 (n / d)) S := by
  have e1 := Int.mul_tdiv_add_tmod n d
  have e2 := Int.tmod_lt_of_pos n hd
  have e3 := Int.lt_tmod_of_pos n hd
  have d0 : ¬ d = 0 := by omega
  obtain ⟨q, hq⟩ : ∃ q, n.tdiv d = q := ⟨_, rfl⟩
  obtain ⟨r, hr⟩ : ∃ r, n.tmod d = r := ⟨_, rfl⟩
  rw [hq, hr] at e1
  rw [hr] at e2 e3
  have qb : -4611686018427387904 ≤ q ∧ q ≤ 4611686018427387904 := by
    have := Int.natAbs_tdiv_le_natAbs n d
    rw [hq] at this
    omega
  have w1 : IntKind.i64.wrap q = q := wrapI (by omega)
  have w2 : IntKind.i64.wrap (q - 1) = q - 1 := wrapI (by omega)
  refine Call.ofC Tryd.func34 YtdknnaalfoongaaDoor.b34 YtdknnaalfoongaaDoor.d34 YtdknnaalfoongaaDoor.e34 (by simp [Tryd.f34]) ?_
  dsimp only [YtdknnaalfoongaaDoor.c34, Tryd.f34, Option.getD_some]
  by_cases h : r < 0
  · have e : n / d = q - 1 := ((Int.ediv_emod_unique (a := n) (b := d) (r := r + d) (q := q - 1) hd).2 ⟨by rw [Int.mul_sub]; omega, by omega, by omega⟩).1
    rw [e]
    simp (maxSteps := 2000000) only [wk0, wk1, wk2, wk3, wk4, wk5, Fr.ev, Fr.put, Fr.get, pkB, pkT, pkF, storeA, if_false, if_true, Nat.reduceEqDiff, reduceIte, Nat.reduceAdd, List.replicate, Nat.reduceLeDiff, Nat.reduceMul, Nat.reduceSub, Nat.reducePow, Int.reduceLT, Int.reduceLE, Int.reduceToNat, Int.reducePow, IntKind.bits, Int.reduceEq, Int.reduceMul, Int.reduceNeg, ne_eq, reduceCtorEq, BEq.rfl, beq_self_eq_true, Int.reduceAdd, Int.reduceSub, Int.reduceMod, Int.reduceDiv, Nat.reduceMod, Nat.reduceDiv, Nat.reduceLT, cond_true, cond_false, gt_iff_lt, ge_iff_le, d0, hq, hr, h, w1, w2, YtdknnaalfoongaaDoor.D34, ty2, ty4]
    exact retB_plain (by simp [nmd_int]) rfl (by simp)
  · have e : n / d = q := ((Int.ediv_emod_unique (a := n) (b := d) (r := r) (q := q) hd).2 ⟨by omega, by omega, by omega⟩).1
    rw [e]
    simp (maxSteps := 2000000) only [wk0, wk1, wk2, wk3, wk4, wk5, Fr.ev, Fr.put, Fr.get, pkB, pkT, pkF, storeA, if_false, if_true, Nat.reduceEqDiff, reduceIte, Nat.reduceAdd, List.replicate, Nat.reduceLeDiff, Nat.reduceMul, Nat.reduceSub, Nat.reducePow, Int.reduceLT, Int.reduceLE, Int.reduceToNat, Int.reducePow, IntKind.bits, Int.reduceEq, Int.reduceMul, Int.reduceNeg, ne_eq, reduceCtorEq, BEq.rfl, beq_self_eq_true, Int.reduceAdd, Int.reduceSub, Int.reduceMod, Int.reduceDiv, Nat.reduceMod, Nat.reduceDiv, Nat.reduceLT, cond_true, cond_false, gt_iff_lt, ge_iff_le, d0, hq, hr, h, w1, YtdknnaalfoongaaDoor.D34, ty2, ty4]
    exact retB_plain (by simp [nmd_int]) rfl (by simp)
/-- Sums of what is told of each of the first n. -/
def smI (f : Nat → Int) : Nat → Int
  | 0 => 0
  | n + 1 => smI f n + f n
theorem smI_bound {f : Nat → Int} {lo hi : Int} {n : Nat} (h : ∀ i, i < n → lo ≤ f i ∧ f i ≤ hi) : n * lo ≤ smI f n ∧ smI f n ≤ n * hi := by
  induction n with
  | zero => simp [smI]
  | succ n ih =>
    have h1 := ih fun i hi => h i (by omega)
    have h2 := h n (by omega)
    simp only [smI]
    rw [show ((n + 1 : Nat) : Int) * lo = n * lo + lo by rw [Int.natCast_add, Int.add_mul]; simp, show ((n + 1 : Nat) : Int) * hi = n * hi + hi by rw [Int.natCast_add, Int.add_mul]; simp]
    omega
theorem middle_ok (S : Heap) (q b c nx mn : Nat) (R : Nat → Pt) (h : TrS S q b c nx mn R) (hm : 1 ≤ mn) (hp : ∀ i, i < mn → mayP (ptI c nx mn R i)) :
    Call theE 7 [.ptr q 0 0] S (.tup [.int .i64 (smI (fun i => (ptI c nx mn R i).x) mn / mn), .int .i64 (smI (fun i => (ptI c nx mn R i).y) mn / mn), .nili]) S := by
  have f0 := fun L => blk_app (L := L) h.hq
  have q1 := fun L => points_ok (S ++ L) q b c nx mn R ⟨blk_app h.hq, blk_app h.hb, h.c1, h.n1, h.m1, h.ne⟩
  have q10 := q1 []
  rw [List.append_nil] at q10
  have m1 := h.m1
  have c1 := h.c1
  have f00 := h.hq
  have k0 : ¬ (mn : Int) = 0 := by omega
  generalize hF : ptI c nx mn R = F at *
  have sx : ∀ n, n ≤ mn → -(n * 35184372088832) ≤ smI (fun i => (F i).x) n ∧ smI (fun i => (F i).x) n ≤ n * 35184372088832 := fun n hn => by
    have := smI_bound (f := fun i => (F i).x) (lo := -35184372088832) (hi := 35184372088832) (n := n) fun i hi => (hp i (by omega)).2.1
    omega
  have sy : ∀ n, n ≤ mn → -(n * 35184372088832) ≤ smI (fun i => (F i).y) n ∧ smI (fun i => (F i).y) n ≤ n * 35184372088832 := fun n hn => by
    have := smI_bound (f := fun i => (F i).y) (lo := -35184372088832) (hi := 35184372088832) (n := n) fun i hi => (hp i (by omega)).2.2
    omega
  refine Call.ofC Tryd.func7 YtdknnaalfoongaaDoor.b7 YtdknnaalfoongaaDoor.d7 YtdknnaalfoongaaDoor.e7 (by simp [Tryd.f7]) ?_
  dsimp only [YtdknnaalfoongaaDoor.c7, Tryd.f7, Option.getD_some]
  simp (maxSteps := 2000000) only [wk0, wk1, wk2, wk3, wk4, wk5, Fr.ev, Fr.put, Fr.get, pkB, pkT, pkF, storeA, if_false, if_true, Nat.reduceEqDiff, reduceIte, Nat.reduceAdd, List.replicate, Nat.reduceLeDiff, Nat.reduceMul, Nat.reduceSub, Nat.reducePow, Int.reduceLT, Int.reduceLE, Int.reduceToNat, Int.reducePow, IntKind.bits, Int.reduceEq, Int.reduceMul, Int.reduceNeg, ne_eq, reduceCtorEq, BEq.rfl, beq_self_eq_true, Int.reduceAdd, Int.reduceSub, Int.reduceMod, Int.reduceDiv, Nat.reduceMod, Nat.reduceDiv, Nat.reduceLT, cond_true, cond_false, gt_iff_lt, ge_iff_le, f00, f0, k0, YtdknnaalfoongaaDoor.D7, ty1, ty2, ty3, ty4, ty23, ty25, ty35, ty36, ty79, ty81]
  refine callThen_of (q10) ?_
  simp (maxSteps := 2000000) only [wk0, wk1, wk2, wk3, wk4, wk5, Fr.ev, Fr.put, Fr.get, pkB, pkT, pkF, storeA, if_false, if_true, Nat.reduceEqDiff, reduceIte, Nat.reduceAdd, List.replicate, Nat.reduceLeDiff, Nat.reduceMul, Nat.reduceSub, Nat.reducePow, Int.reduceLT, Int.reduceLE, Int.reduceToNat, Int.reducePow, IntKind.bits, Int.reduceEq, Int.reduceMul, Int.reduceNeg, ne_eq, reduceCtorEq, BEq.rfl, beq_self_eq_true, Int.reduceAdd, Int.reduceSub, Int.reduceMod, Int.reduceDiv, Nat.reduceMod, Nat.reduceDiv, Nat.reduceLT, cond_true, cond_false, gt_iff_lt, ge_iff_le, f00, f0, k0, YtdknnaalfoongaaDoor.D7, ty1, ty2, ty3, ty4, ty23, ty25, ty35, ty36, ty79, ty81]
  refine loopC_ind (fun m fr H => ∃ (i : Nat) (T : Heap), i + m = mn ∧ fr.get 0 = .ptr q 0 0 ∧ fr.get 21 = .lst (ptC F mn) mn ∧ fr.get 22 = .int .i64 mn ∧ fr.get 23 = .int .i64 (i : Int) ∧ fr.get 5 = .int .i64 (smI (fun i => (F i).x) i) ∧ fr.get 6 = .int .i64 (smI (fun i => (F i).y) i) ∧ H = S ++ T) ?_ (n := mn) ⟨0, [], by omega, rfl, rfl, rfl, rfl, rfl, rfl, by simp⟩
  rintro m fr H ⟨i, T, him, g0, g21, g22, g23, g5, g6, rfl⟩ ih
  by_cases hi : (i : Int) < mn
  · have hin : i < mn := by omega
    have p1 : (0 : Int) ≤ i := by omega
    have wi : IntKind.i64.wrap ((i : Int) + 1) = ((i + 1 : Nat) : Int) := wrapI (by omega)
    have rd := ptC_get F mn i hin
    have le : i * 3 + 3 ≤ mn * 3 := by omega
    have wx : IntKind.i64.wrap (smI (fun i => (F i).x) i + (F i).x) = smI (fun i => (F i).x) (i + 1) := by have := sx (i + 1) hin; exact wrapI (by simp only [smI] at this; omega)
    have wy : IntKind.i64.wrap (smI (fun i => (F i).y) i + (F i).y) = smI (fun i => (F i).y) (i + 1) := by have := sy (i + 1) hin; exact wrapI (by simp only [smI] at this; omega)
    simp (maxSteps := 2000000) only [wk0, wk1, wk2, wk3, wk4, wk5, Fr.ev, Fr.put, Fr.get, pkB, pkT, pkF, storeA, if_false, if_true, Nat.reduceEqDiff, reduceIte, Nat.reduceAdd, List.replicate, Nat.reduceLeDiff, Nat.reduceMul, Nat.reduceSub, Nat.reducePow, Int.reduceLT, Int.reduceLE, Int.reduceToNat, Int.reducePow, IntKind.bits, Int.reduceEq, Int.reduceMul, Int.reduceNeg, ne_eq, reduceCtorEq, BEq.rfl, beq_self_eq_true, Int.reduceAdd, Int.reduceSub, Int.reduceMod, Int.reduceDiv, Nat.reduceMod, Nat.reduceDiv, Nat.reduceLT, cond_true, cond_false, gt_iff_lt, ge_iff_le, g0, g21, g22, g23, g5, g6, hi, p1, wi, rd, le, wx, wy, ptC_len, Int.toNat_natCast, List.length_append, List.append_assoc, YtdknnaalfoongaaDoor.D7, ty1, ty2, ty3, ty4, ty23, ty25, ty35, ty36, ty79, ty81]
    exact ih (m - 1) _ _ (by omega) ⟨i + 1, T ++ [some ⟨[.int .i64 (F i).t, .int .i64 (F i).x, .int .i64 (F i).y], 0⟩], by omega, by simp [Fr.get, g0], by simp [Fr.get, g21], by simp [Fr.get, g22], by simp [Fr.get], by simp [Fr.get], by simp [Fr.get], by simp⟩
  · obtain rfl : i = mn := by omega
    have bx := sx i (Nat.le_refl _)
    have by' := sy i (Nat.le_refl _)
    have z1 := fun S => floor_ok (smI (fun i => (F i).x) i) i S (by omega) (by omega)
    have z2 := fun S => floor_ok (smI (fun i => (F i).y) i) i S (by omega) (by omega)
    simp (maxSteps := 2000000) only [wk0, wk1, wk2, wk3, wk4, wk5, Fr.ev, Fr.put, Fr.get, pkB, pkT, pkF, storeA, if_false, if_true, Nat.reduceEqDiff, reduceIte, Nat.reduceAdd, List.replicate, Nat.reduceLeDiff, Nat.reduceMul, Nat.reduceSub, Nat.reducePow, Int.reduceLT, Int.reduceLE, Int.reduceToNat, Int.reducePow, IntKind.bits, Int.reduceEq, Int.reduceMul, Int.reduceNeg, ne_eq, reduceCtorEq, BEq.rfl, beq_self_eq_true, Int.reduceAdd, Int.reduceSub, Int.reduceMod, Int.reduceDiv, Nat.reduceMod, Nat.reduceDiv, Nat.reduceLT, cond_true, cond_false, gt_iff_lt, ge_iff_le, f0, g0, g21, g22, g23, g5, g6, hi, YtdknnaalfoongaaDoor.D7, ty1, ty2, ty3, ty4, ty23, ty25, ty35, ty36, ty79, ty81]
    refine callThen_of (z1 _) ?_
    simp (maxSteps := 2000000) only [wk0, wk1, wk2, wk3, wk4, wk5, Fr.ev, Fr.put, Fr.get, pkB, pkT, pkF, storeA, if_false, if_true, Nat.reduceEqDiff, reduceIte, Nat.reduceAdd, List.replicate, Nat.reduceLeDiff, Nat.reduceMul, Nat.reduceSub, Nat.reducePow, Int.reduceLT, Int.reduceLE, Int.reduceToNat, Int.reducePow, IntKind.bits, Int.reduceEq, Int.reduceMul, Int.reduceNeg, ne_eq, reduceCtorEq, BEq.rfl, beq_self_eq_true, Int.reduceAdd, Int.reduceSub, Int.reduceMod, Int.reduceDiv, Nat.reduceMod, Nat.reduceDiv, Nat.reduceLT, cond_true, cond_false, gt_iff_lt, ge_iff_le, f0, g0, g21, g22, g23, g5, g6, hi, YtdknnaalfoongaaDoor.D7, ty1, ty2, ty3, ty4, ty23, ty25, ty35, ty36, ty79, ty81]
    refine callThen_of (z2 _) ?_
    simp (maxSteps := 2000000) only [wk0, wk1, wk2, wk3, wk4, wk5, Fr.ev, Fr.put, Fr.get, pkB, pkT, pkF, storeA, if_false, if_true, Nat.reduceEqDiff, reduceIte, Nat.reduceAdd, List.replicate, Nat.reduceLeDiff, Nat.reduceMul, Nat.reduceSub, Nat.reducePow, Int.reduceLT, Int.reduceLE, Int.reduceToNat, Int.reducePow, IntKind.bits, Int.reduceEq, Int.reduceMul, Int.reduceNeg, ne_eq, reduceCtorEq, BEq.rfl, beq_self_eq_true, Int.reduceAdd, Int.reduceSub, Int.reduceMod, Int.reduceDiv, Nat.reduceMod, Nat.reduceDiv, Nat.reduceLT, cond_true, cond_false, gt_iff_lt, ge_iff_le, f0, g0, g21, g22, g23, g5, g6, hi, YtdknnaalfoongaaDoor.D7, ty1, ty2, ty3, ty4, ty23, ty25, ty35, ty36, ty79, ty81]
    exact retB_plain (by simp [nmd_int, nmd_nili]) rfl (by simp)
def lnS (r : Nat → Int) : Nat → Int
  | 0 => 0
  | n + 1 => bndI (lnS r n + r (n + 1))
def lnO (r : Nat → Int) : Nat → Bool
  | 0 => false
  | n + 1 => lnO r n || ovrB (lnS r n + r (n + 1))
/-- How far each point is from the one ahead of it. -/
def farR (F : Nat → Pt) (r : Nat → Int) (mn : Nat) : Prop := ∀ i, 1 ≤ i → i < mn → (0 ≤ r i ∧ r i ≤ 4611686018427387903) ∧ r i * r i ≤ ((F i).x - (F (i - 1)).x) * ((F i).x - (F (i - 1)).x) + ((F i).y - (F (i - 1)).y) * ((F i).y - (F (i - 1)).y) ∧
  ((F i).x - (F (i - 1)).x) * ((F i).x - (F (i - 1)).x) + ((F i).y - (F (i - 1)).y) * ((F i).y - (F (i - 1)).y) < (r i + 1) * (r i + 1)
theorem long_ok (S : Heap) (q b c nx mn : Nat) (R : Nat → Pt) (h : TrS S q b c nx mn R) (hm : 1 ≤ mn) (hp : ∀ i, i < mn → mayP (ptI c nx mn R i)) :
    ∃ r, farR (ptI c nx mn R) r mn ∧ ∀ S, TrS S q b c nx mn R → Call theE 8 [.ptr q 0 0] S (.tup [.int .i64 (lnS r (mn - 1)), .bool (lnO r (mn - 1))]) S := by
  have c1 := h.c1
  have m1 := h.m1
  have q1' := fun S hS => points_ok S q b c nx mn R hS
  generalize hF : ptI c nx mn R = F at *
  have ex : ∀ i, 1 ≤ i → i < mn → ∃ r : Int, ((0 ≤ r ∧ r ≤ 4611686018427387903) ∧ r * r ≤ ((F i).x - (F (i - 1)).x) * ((F i).x - (F (i - 1)).x) + ((F i).y - (F (i - 1)).y) * ((F i).y - (F (i - 1)).y) ∧
      ((F i).x - (F (i - 1)).x) * ((F i).x - (F (i - 1)).x) + ((F i).y - (F (i - 1)).y) * ((F i).y - (F (i - 1)).y) < (r + 1) * (r + 1)) ∧ ∀ S, Call theE 35 [.int .i64 ((F i).x - (F (i - 1)).x), .int .i64 ((F i).y - (F (i - 1)).y)] S (.tup [.int .i64 r, .nili]) S := by
    intro i h1 h2
    have ha := hp i h2
    have hb := hp (i - 1) (by omega)
    unfold mayP at ha hb
    obtain ⟨r, h3, h4, h5, h6⟩ := far_ok ((F i).x - (F (i - 1)).x) ((F i).y - (F (i - 1)).y) [] (by unfold topJ; omega) (by unfold topJ; omega)
    have hr : r ≤ 4611686018427387903 := by
      rcases Int.lt_or_le 4611686018427387903 r with h | h
      · exfalso
        have e1 := (mulB (a := 4611686018427387904) (b := 4611686018427387904) (A := r) (B := r) (by omega) (by omega) (by omega) (by omega)).2
        have bq : ∀ z : Int, -70368744177664 ≤ z → z ≤ 70368744177664 → z * z ≤ 4951760157141521099596496896 := by
          intro z z1 z2
          rcases Int.le_total 0 z with hz | hz
          · have := (mulB (a := z) (b := z) (A := 70368744177664) (B := 70368744177664) hz z2 hz z2).2; omega
          · have := (mulB (a := -z) (b := -z) (A := 70368744177664) (B := 70368744177664) (by omega) (by omega) (by omega) (by omega)).2
            rw [Int.neg_mul_neg] at this; omega
        have e2 := bq ((F i).x - (F (i - 1)).x) (by omega) (by omega)
        have e3 := bq ((F i).y - (F (i - 1)).y) (by omega) (by omega)
        omega
      · exact h
    refine ⟨r, ⟨⟨h3.1, hr⟩, h4, h5⟩, fun S => ?_⟩
    have := h6 S
    rwa [Int.min_eq_left hr] at this
  obtain ⟨r, hr⟩ : ∃ r : Nat → Int, ∀ i, 1 ≤ i → i < mn → ((0 ≤ r i ∧ r i ≤ 4611686018427387903) ∧ r i * r i ≤ ((F i).x - (F (i - 1)).x) * ((F i).x - (F (i - 1)).x) + ((F i).y - (F (i - 1)).y) * ((F i).y - (F (i - 1)).y) ∧
      ((F i).x - (F (i - 1)).x) * ((F i).x - (F (i - 1)).x) + ((F i).y - (F (i - 1)).y) * ((F i).y - (F (i - 1)).y) < (r i + 1) * (r i + 1)) ∧ ∀ S, Call theE 35 [.int .i64 ((F i).x - (F (i - 1)).x), .int .i64 ((F i).y - (F (i - 1)).y)] S (.tup [.int .i64 (r i), .nili]) S :=
    ⟨fun i => if hh : 1 ≤ i ∧ i < mn then Classical.choose (ex i hh.1 hh.2) else 0, fun i h1 h2 => by
      simp only [dif_pos (And.intro h1 h2)]
      exact Classical.choose_spec (ex i h1 h2)⟩
  refine ⟨r, fun i h1 h2 => (hr i h1 h2).1, fun S hS => ?_⟩
  have q1 := q1' S hS
  have sb : ∀ n, n < mn → -4611686018427387903 ≤ lnS r n ∧ lnS r n ≤ 4611686018427387903 := by
    intro n hn
    cases n with
    | zero => simp [lnS]
    | succ n => simp only [lnS]; unfold bndI; omega
  refine Call.ofC Tryd.func8 YtdknnaalfoongaaDoor.b8 YtdknnaalfoongaaDoor.d8 YtdknnaalfoongaaDoor.e8 (by simp [Tryd.f8]) ?_
  dsimp only [YtdknnaalfoongaaDoor.c8, Tryd.f8, Option.getD_some]
  simp (maxSteps := 2000000) only [wk0, wk1, wk2, wk3, wk4, wk5, Fr.ev, Fr.put, Fr.get, pkB, pkT, pkF, storeA, if_false, if_true, Nat.reduceEqDiff, reduceIte, Nat.reduceAdd, List.replicate, Nat.reduceLeDiff, Nat.reduceMul, Nat.reduceSub, Nat.reducePow, Int.reduceLT, Int.reduceLE, Int.reduceToNat, Int.reducePow, IntKind.bits, Int.reduceEq, Int.reduceMul, Int.reduceNeg, ne_eq, reduceCtorEq, BEq.rfl, beq_self_eq_true, Int.reduceAdd, Int.reduceSub, Int.reduceMod, Int.reduceDiv, Nat.reduceMod, Nat.reduceDiv, Nat.reduceLT, cond_true, cond_false, gt_iff_lt, ge_iff_le, YtdknnaalfoongaaDoor.D8, ty1, ty2, ty3, ty4, ty23, ty25, ty35, ty36]
  refine callThen_of (q1) ?_
  simp (maxSteps := 2000000) only [wk0, wk1, wk2, wk3, wk4, wk5, Fr.ev, Fr.put, Fr.get, pkB, pkT, pkF, storeA, if_false, if_true, Nat.reduceEqDiff, reduceIte, Nat.reduceAdd, List.replicate, Nat.reduceLeDiff, Nat.reduceMul, Nat.reduceSub, Nat.reducePow, Int.reduceLT, Int.reduceLE, Int.reduceToNat, Int.reducePow, IntKind.bits, Int.reduceEq, Int.reduceMul, Int.reduceNeg, ne_eq, reduceCtorEq, BEq.rfl, beq_self_eq_true, Int.reduceAdd, Int.reduceSub, Int.reduceMod, Int.reduceDiv, Nat.reduceMod, Nat.reduceDiv, Nat.reduceLT, cond_true, cond_false, gt_iff_lt, ge_iff_le, YtdknnaalfoongaaDoor.D8, ty1, ty2, ty3, ty4, ty23, ty25, ty35, ty36]
  refine loopC_ind (fun m fr H => ∃ (i : Nat), i + 1 + m = mn ∧ fr.get 6 = .lst (ptC F mn) mn ∧ fr.get 7 = .int .i64 ((i : Int) + 1) ∧ fr.get 4 = .int .i64 (lnS r i) ∧ fr.get 5 = .bool (lnO r i) ∧ H = S) ?_ (n := mn - 1) ⟨0, by omega, rfl, rfl, rfl, rfl, rfl⟩
  rintro m fr H ⟨i, him, g6, g7, g4, g5, rfl⟩ ih
  by_cases hi : (i : Int) + 1 < mn
  · have hin : i + 1 < mn := by omega
    have ha := hp (i + 1) hin
    have hb := hp i (by omega)
    unfold mayP at ha hb
    have p1 : (0 : Int) ≤ (i : Int) + 1 := by omega
    have p2 : (0 : Int) ≤ i := by omega
    have p3 : (i : Int) < mn := by omega
    have w0 : IntKind.i64.wrap ((i : Int) + 1 - 1) = (i : Int) := by rw [wrapI (by omega)]; omega
    have wi : IntKind.i64.wrap ((i : Int) + 1 + 1) = ((i + 1 : Nat) : Int) + 1 := by rw [wrapI (by omega)]; omega
    have tn : ((i : Int) + 1).toNat = i + 1 := by omega
    obtain ⟨_, a1, a2⟩ := ptC_at F mn (i + 1) hin
    obtain ⟨_, b1, b2⟩ := ptC_at F mn i (by omega)
    obtain ⟨⟨h3, h4, h5⟩, h6⟩ := hr (i + 1) (by omega) hin
    rw [Nat.add_sub_cancel] at h6
    have wx : IntKind.i64.wrap ((F (i + 1)).x - (F i).x) = (F (i + 1)).x - (F i).x := wrapI (by omega)
    have wy : IntKind.i64.wrap ((F (i + 1)).y - (F i).y) = (F (i + 1)).y - (F i).y := wrapI (by omega)
    have sbi := sb i (by omega)
    have ad := fun S => add_ok (lnS r i) (r (i + 1)) S (by omega) (by omega)
    simp (maxSteps := 2000000) only [wk0, wk1, wk2, wk3, wk4, wk5, Fr.ev, Fr.put, Fr.get, pkB, pkT, pkF, storeA, if_false, if_true, Nat.reduceEqDiff, reduceIte, Nat.reduceAdd, List.replicate, Nat.reduceLeDiff, Nat.reduceMul, Nat.reduceSub, Nat.reducePow, Int.reduceLT, Int.reduceLE, Int.reduceToNat, Int.reducePow, IntKind.bits, Int.reduceEq, Int.reduceMul, Int.reduceNeg, ne_eq, reduceCtorEq, BEq.rfl, beq_self_eq_true, Int.reduceAdd, Int.reduceSub, Int.reduceMod, Int.reduceDiv, Nat.reduceMod, Nat.reduceDiv, Nat.reduceLT, cond_true, cond_false, gt_iff_lt, ge_iff_le, g6, g7, g4, g5, hi, p1, p2, p3, w0, wi, tn, a1, a2, b1, b2, wx, wy, Int.toNat_natCast, YtdknnaalfoongaaDoor.D8, ty1, ty2, ty3, ty4, ty23, ty25, ty35, ty36]
    refine callThen_of (h6 _) ?_
    simp (maxSteps := 2000000) only [wk0, wk1, wk2, wk3, wk4, wk5, Fr.ev, Fr.put, Fr.get, pkB, pkT, pkF, storeA, if_false, if_true, Nat.reduceEqDiff, reduceIte, Nat.reduceAdd, List.replicate, Nat.reduceLeDiff, Nat.reduceMul, Nat.reduceSub, Nat.reducePow, Int.reduceLT, Int.reduceLE, Int.reduceToNat, Int.reducePow, IntKind.bits, Int.reduceEq, Int.reduceMul, Int.reduceNeg, ne_eq, reduceCtorEq, BEq.rfl, beq_self_eq_true, Int.reduceAdd, Int.reduceSub, Int.reduceMod, Int.reduceDiv, Nat.reduceMod, Nat.reduceDiv, Nat.reduceLT, cond_true, cond_false, gt_iff_lt, ge_iff_le, g6, g7, g4, g5, hi, p1, p2, p3, w0, wi, tn, a1, a2, b1, b2, wx, wy, Int.toNat_natCast, YtdknnaalfoongaaDoor.D8, ty1, ty2, ty3, ty4, ty23, ty25, ty35, ty36]
    refine callThen_of (ad _) ?_
    cases ho : lnO r i
    · cases hv : ovrB (lnS r i + r (i + 1))
      · simp (maxSteps := 2000000) only [wk0, wk1, wk2, wk3, wk4, wk5, Fr.ev, Fr.put, Fr.get, pkB, pkT, pkF, storeA, if_false, if_true, Nat.reduceEqDiff, reduceIte, Nat.reduceAdd, List.replicate, Nat.reduceLeDiff, Nat.reduceMul, Nat.reduceSub, Nat.reducePow, Int.reduceLT, Int.reduceLE, Int.reduceToNat, Int.reducePow, IntKind.bits, Int.reduceEq, Int.reduceMul, Int.reduceNeg, ne_eq, reduceCtorEq, BEq.rfl, beq_self_eq_true, Int.reduceAdd, Int.reduceSub, Int.reduceMod, Int.reduceDiv, Nat.reduceMod, Nat.reduceDiv, Nat.reduceLT, cond_true, cond_false, gt_iff_lt, ge_iff_le, g6, g7, g4, g5, ho, hv, wi, YtdknnaalfoongaaDoor.D8, ty1, ty2, ty3, ty4, ty23, ty25, ty35, ty36]
        exact ih (m - 1) _ _ (by omega) ⟨i + 1, by omega, by simp [Fr.get, g6], by simp [Fr.get], by simp [Fr.get, lnS], by simp [Fr.get, lnO, ho, hv], rfl⟩
      · simp (maxSteps := 2000000) only [wk0, wk1, wk2, wk3, wk4, wk5, Fr.ev, Fr.put, Fr.get, pkB, pkT, pkF, storeA, if_false, if_true, Nat.reduceEqDiff, reduceIte, Nat.reduceAdd, List.replicate, Nat.reduceLeDiff, Nat.reduceMul, Nat.reduceSub, Nat.reducePow, Int.reduceLT, Int.reduceLE, Int.reduceToNat, Int.reducePow, IntKind.bits, Int.reduceEq, Int.reduceMul, Int.reduceNeg, ne_eq, reduceCtorEq, BEq.rfl, beq_self_eq_true, Int.reduceAdd, Int.reduceSub, Int.reduceMod, Int.reduceDiv, Nat.reduceMod, Nat.reduceDiv, Nat.reduceLT, cond_true, cond_false, gt_iff_lt, ge_iff_le, g6, g7, g4, g5, ho, hv, wi, YtdknnaalfoongaaDoor.D8, ty1, ty2, ty3, ty4, ty23, ty25, ty35, ty36]
        exact ih (m - 1) _ _ (by omega) ⟨i + 1, by omega, by simp [Fr.get, g6], by simp [Fr.get], by simp [Fr.get, lnS], by simp [Fr.get, lnO, ho, hv], rfl⟩
    · simp (maxSteps := 2000000) only [wk0, wk1, wk2, wk3, wk4, wk5, Fr.ev, Fr.put, Fr.get, pkB, pkT, pkF, storeA, if_false, if_true, Nat.reduceEqDiff, reduceIte, Nat.reduceAdd, List.replicate, Nat.reduceLeDiff, Nat.reduceMul, Nat.reduceSub, Nat.reducePow, Int.reduceLT, Int.reduceLE, Int.reduceToNat, Int.reducePow, IntKind.bits, Int.reduceEq, Int.reduceMul, Int.reduceNeg, ne_eq, reduceCtorEq, BEq.rfl, beq_self_eq_true, Int.reduceAdd, Int.reduceSub, Int.reduceMod, Int.reduceDiv, Nat.reduceMod, Nat.reduceDiv, Nat.reduceLT, cond_true, cond_false, gt_iff_lt, ge_iff_le, g6, g7, g4, g5, ho, wi, YtdknnaalfoongaaDoor.D8, ty1, ty2, ty3, ty4, ty23, ty25, ty35, ty36]
      exact ih (m - 1) _ _ (by omega) ⟨i + 1, by omega, by simp [Fr.get, g6], by simp [Fr.get], by simp [Fr.get, lnS], by simp [Fr.get, lnO, ho], rfl⟩
  · have e : mn - 1 = i := by omega
    rw [e]
    simp (maxSteps := 2000000) only [wk0, wk1, wk2, wk3, wk4, wk5, Fr.ev, Fr.put, Fr.get, pkB, pkT, pkF, storeA, if_false, if_true, Nat.reduceEqDiff, reduceIte, Nat.reduceAdd, List.replicate, Nat.reduceLeDiff, Nat.reduceMul, Nat.reduceSub, Nat.reducePow, Int.reduceLT, Int.reduceLE, Int.reduceToNat, Int.reducePow, IntKind.bits, Int.reduceEq, Int.reduceMul, Int.reduceNeg, ne_eq, reduceCtorEq, BEq.rfl, beq_self_eq_true, Int.reduceAdd, Int.reduceSub, Int.reduceMod, Int.reduceDiv, Nat.reduceMod, Nat.reduceDiv, Nat.reduceLT, cond_true, cond_false, gt_iff_lt, ge_iff_le, g6, g7, g4, g5, hi, YtdknnaalfoongaaDoor.D8, ty1, ty2, ty3, ty4, ty23, ty25, ty35, ty36]
    exact retB_plain (by simp [nmd_int, nmd_bool]) rfl (by simp)
end Go.Proofs.YtdknnaalfoongaaDoor
