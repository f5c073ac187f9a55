/- trail: a ring of points. -/
import Derived.Test.YtdknnaalfoongaaDoorT0
import Derived.Test.YtdknnaalfoongaaDoorEvV
set_option linter.unusedSimpArgs false
set_option linter.unusedVariables false
set_option maxRecDepth 100000
set_option maxHeartbeats 4000000
namespace Go.Proofs.YtdknnaalfoongaaDoor
structure Pt where
  t : Int
  x : Int
  y : Int
def Pt.z : Pt := ⟨0, 0, 0⟩
def pc (p : Pt) : List AV := [.int .i64 p.t, .int .i64 p.x, .int .i64 p.y]
/-- The cells of the first c points. -/
def ptC (f : Nat → Pt) (c : Nat) : List AV := ((List.range c).map fun k => pc (f k)).flatten
theorem ptC_zero (f : Nat → Pt) : ptC f 0 = [] := rfl
theorem ptC_succ (f : Nat → Pt) (c : Nat) : ptC f (c + 1) = ptC f c ++ [.int .i64 (f c).t, .int .i64 (f c).x, .int .i64 (f c).y] := by
  unfold ptC; rw [List.range_succ, List.map_append, List.flatten_append]; simp [pc]
theorem ptC_len (f : Nat → Pt) (c : Nat) : (ptC f c).length = c * 3 := by
  induction c with
  | zero => rfl
  | succ c ih => rw [ptC_succ, List.length_append, ih]; simp; omega
theorem ptC_get (f : Nat → Pt) (c k : Nat) (h : k < c) : List.take 3 (List.drop (k * 3) (ptC f c)) = [.int .i64 (f k).t, .int .i64 (f k).x, .int .i64 (f k).y] := by
  induction c with
  | zero => omega
  | succ c ih =>
    rw [ptC_succ]
    rcases Nat.lt_or_ge k c with h1 | h1
    · rw [List.drop_append_of_le_length (by rw [ptC_len]; omega), List.take_append_of_le_length (by rw [List.length_drop, ptC_len]; omega)]
      exact ih h1
    · obtain rfl : k = c := by omega
      rw [List.drop_left' (by rw [ptC_len])]
      rfl
def upd (f : Nat → Pt) (k : Nat) (p : Pt) : Nat → Pt := fun i => if i = k then p else f i
theorem ptC_congr {f g : Nat → Pt} {c : Nat} (h : ∀ i, i < c → f i = g i) : ptC f c = ptC g c := by
  unfold ptC; rw [List.map_congr_left fun i hi => by rw [h i (List.mem_range.1 hi)]]
theorem ptC_set (f : Nat → Pt) (c k : Nat) (p : Pt) (h : k < c) : List.take (k * 3) (ptC f c) ++ (AV.int .i64 p.t :: AV.int .i64 p.x :: AV.int .i64 p.y :: List.drop (k * 3 + 3) (ptC f c)) = ptC (upd f k p) c := by
  induction c with
  | zero => omega
  | succ c ih =>
    rw [ptC_succ, ptC_succ]
    rcases Nat.lt_or_ge k c with h1 | h1
    · have hn : upd f k p c = f c := by unfold upd; rw [if_neg (by omega)]
      rw [List.take_append_of_le_length (by rw [ptC_len]; omega), List.drop_append_of_le_length (by rw [ptC_len]; omega), hn, ← ih h1]
      simp
    · obtain rfl : k = c := by omega
      have hn : upd f k p k = p := by unfold upd; rw [if_pos rfl]
      have hc : ptC (upd f k p) k = ptC f k := ptC_congr fun i hi => by unfold upd; rw [if_neg (by omega)]
      rw [List.take_left' (by rw [ptC_len]), List.drop_eq_nil_of_le (by simp [ptC_len]), hn, hc]
theorem ptC_nmd (f : Nat → Pt) (n c : Nat) : ∀ x ∈ ptC f c, Nmd n x := by
  induction c with
  | zero => intro x hx; simp [ptC_zero] at hx
  | succ c ih =>
    intro x hx
    rw [ptC_succ] at hx
    rcases List.mem_append.1 hx with h | h
    · exact ih x h
    · simp at h
      rcases h with rfl | rfl | rfl <;> exact .int _ _
theorem ptC_z (c : Nat) : zeros [.int .i64 0, .int .i64 0, .int .i64 0] c = ptC (fun _ => Pt.z) c := by
  induction c with
  | zero => rfl
  | succ c ih => rw [ptC_succ, ← ih]; unfold zeros; rw [List.replicate_succ', List.flatten_append]; rfl
/-- A trail at q, its ring at b. -/
structure TrS (S : Heap) (q b c nx mn : Nat) (R : Nat → Pt) : Prop where
  hq : blkAt S q 0 = some ⟨[.sl b 0 0 c c 3, .int .i64 nx, .int .i64 mn], 0⟩
  hb : blkAt S b 0 = some ⟨ptC R c, 0⟩
  c1 : 1 ≤ c ∧ c ≤ 256
  n1 : nx < c
  m1 : mn ≤ c
  ne : q ≠ b
/-- The i-th point, the oldest one's number 0. -/
def ptI (c nx mn : Nat) (R : Nat → Pt) (i : Nat) : Pt := R ((nx + c - mn + i) % c)
noncomputable def c12 : Code := Tryd.f12.body.getD .skip
theorem b12 : Tryd.f12.body = some c12 := rfl
theorem d12 : fnOk Tryd.f12 c12 = true := by kernel_rfl
def D12 : Nat → List Tag := fun _ => []
theorem e12 : drawsOk D12 c12 = true := by kernel_rfl
noncomputable def c38 : Code := Tryd.f38.body.getD .skip
theorem b38 : Tryd.f38.body = some c38 := rfl
theorem d38 : fnOk Tryd.f38 c38 = true := by kernel_rfl
def D38 : Nat → List Tag := fun _ => []
theorem e38 : drawsOk D38 c38 = true := by kernel_rfl
noncomputable def c31 : Code := Tryd.f31.body.getD .skip
theorem b31 : Tryd.f31.body = some c31 := rfl
theorem d31 : fnOk Tryd.f31 c31 = true := by kernel_rfl
def D31 : Nat → List Tag
  | 2 => [.pure, .pure, .pure, .quiet, .pure, .pure, .pure, .quiet, .pure, .pure, .pure, .quiet, .pure, .pure, .pure, .pure, .pure, .pure, .pure, .pure, .seq, .seq]
  | _ => []
theorem e31 : drawsOk D31 c31 = true := by kernel_rfl
noncomputable def c32 : Code := Tryd.f32.body.getD .skip
theorem b32 : Tryd.f32.body = some c32 := rfl
theorem d32 : fnOk Tryd.f32 c32 = true := by kernel_rfl
def D32 : Nat → List Tag := fun _ => []
theorem e32 : drawsOk D32 c32 = true := by kernel_rfl
noncomputable def c10 : Code := Tryd.f10.body.getD .skip
theorem b10 : Tryd.f10.body = some c10 := rfl
theorem d10 : fnOk Tryd.f10 c10 = true := by kernel_rfl
def D10 : Nat → List Tag
  | 3 => [.pure, .pure, .pure, .seq, .pure, .pure, .pure, .quiet, .pure, .quiet, .pure, .pure, .pure, .pure]
  | 5 => [.pure, .pure, .pure, .quiet, .pure, .pure, .pure, .quiet, .quiet, .pure, .seq]
  | 6 => [.pure, .pure, .pure, .pure, .quiet, .pure, .pure, .pure, .pure, .quiet, .pure, .pure, .pure, .pure, .seq]
  | 7 => [.pure, .pure, .pure, .pure, .quiet, .pure, .pure, .pure, .pure, .quiet, .pure, .pure, .pure, .pure, .seq]
  | _ => []
theorem e10 : drawsOk D10 c10 = true := by kernel_rfl
noncomputable def c11 : Code := Tryd.f11.body.getD .skip
theorem b11 : Tryd.f11.body = some c11 := rfl
theorem d11 : fnOk Tryd.f11 c11 = true := by kernel_rfl
def D11 : Nat → List Tag := fun _ => []
theorem e11 : drawsOk D11 c11 = true := by kernel_rfl
theorem new_ok (n : Nat) (S : Heap) (hn : 1 ≤ n ∧ n ≤ 256) : Call theE 12 [.int .i64 n] S (.tup [.ptr (S.length + 1) 0 0, .nili]) (S ++ [some ⟨ptC (fun _ => Pt.z) n, 0⟩, some ⟨[.sl S.length 0 0 n n 3, .int .i64 0, .int .i64 0], 0⟩]) := by
  have k1 : ¬ (n : Int) < 1 := by omega
  have k2 : ¬ (256 : Int) < n := by omega
  have b3 : (n : Int).toNat = n := by omega
  have mk : ∀ e, makeSliceA S (.slice e 3 24 [.int .i64 0, .int .i64 0, .int .i64 0]) (.int .i64 n) (.int .i64 n) = some (.sl S.length 0 0 n n 3, S ++ [some ⟨ptC (fun _ => Pt.z) n, 0⟩]) := fun e => by
    have h : makeSliceA S (.slice e 3 24 [.int .i64 0, .int .i64 0, .int .i64 0]) (.int .i64 n) (.int .i64 n) = if 0 ≤ (n : Int) ∧ (n : Int) ≤ n ∧ (n : Int).toNat * 24 ≤ maxBytes ∧ (n : Int) ≤ 9223372036854775807 ∧ [AV.int .i64 0, .int .i64 0, .int .i64 0].length = 3 then
      some (.sl S.length 0 0 (n : Int).toNat (n : Int).toNat 3, S ++ [some ⟨zeros [.int .i64 0, .int .i64 0, .int .i64 0] (n : Int).toNat, 0⟩]) else none := rfl
    rw [h, if_pos ⟨by omega, by omega, by rw [b3]; unfold maxBytes; omega, by omega, rfl⟩, b3, ptC_z]
  refine Call.ofC Tryd.func12 YtdknnaalfoongaaDoor.b12 YtdknnaalfoongaaDoor.d12 YtdknnaalfoongaaDoor.e12 (by simp [Tryd.f12]) ?_
  dsimp only [YtdknnaalfoongaaDoor.c12, Tryd.f12, Option.getD_some]
  simp (maxSteps := 2000000) only [wk0, wk1, wk2, wk3, wk4, wk5, Fr.ev, Fr.put, Fr.get, pkB, pkT, pkF, storeA, if_false, if_true, Nat.reduceEqDiff, reduceIte, Nat.reduceAdd, List.replicate, Nat.reduceLeDiff, Nat.reduceMul, Nat.reduceSub, Nat.reducePow, Int.reduceLT, Int.reduceLE, Int.reduceToNat, Int.reducePow, IntKind.bits, Int.reduceEq, Int.reduceMul, Int.reduceNeg, ne_eq, reduceCtorEq, BEq.rfl, beq_self_eq_true, Int.reduceAdd, Int.reduceSub, Int.reduceMod, Int.reduceDiv, Nat.reduceMod, Nat.reduceDiv, Nat.reduceLT, cond_true, cond_false, gt_iff_lt, ge_iff_le, k1, k2, mk, YtdknnaalfoongaaDoor.D12, ty3, ty4, ty23, ty25, ty36, ty79, ty81]
  exact ⟨trivial, _, rfl, by rw [if_pos (by rfl)]; exact ⟨rfl, rfl⟩⟩
def mayP (p : Pt) : Prop := (0 ≤ p.t ∧ p.t ≤ 35184372088832) ∧ (-35184372088832 ≤ p.x ∧ p.x ≤ 35184372088832) ∧ -35184372088832 ≤ p.y ∧ p.y ≤ 35184372088832
theorem mayP_ok (p : Pt) (S : Heap) (h : mayP p) : Call theE 38 [.agg [.int .i64 p.t, .int .i64 p.x, .int .i64 p.y]] S (.bool true) S := by
  obtain ⟨⟨h1, h2⟩, ⟨h3, h4⟩, h5, h6⟩ := h
  refine Call.ofC Tryd.func38 YtdknnaalfoongaaDoor.b38 YtdknnaalfoongaaDoor.d38 YtdknnaalfoongaaDoor.e38 (by simp [Tryd.f38]) ?_
  dsimp only [YtdknnaalfoongaaDoor.c38, Tryd.f38, Option.getD_some]
  simp (maxSteps := 2000000) only [wk0, wk1, wk2, wk3, wk4, wk5, Fr.ev, Fr.put, Fr.get, pkB, pkT, pkF, storeA, if_false, if_true, Nat.reduceEqDiff, reduceIte, Nat.reduceAdd, List.replicate, Nat.reduceLeDiff, Nat.reduceMul, Nat.reduceSub, Nat.reducePow, Int.reduceLT, Int.reduceLE, Int.reduceToNat, Int.reducePow, IntKind.bits, Int.reduceEq, Int.reduceMul, Int.reduceNeg, ne_eq, reduceCtorEq, BEq.rfl, beq_self_eq_true, Int.reduceAdd, Int.reduceSub, Int.reduceMod, Int.reduceDiv, Nat.reduceMod, Nat.reduceDiv, Nat.reduceLT, cond_true, cond_false, gt_iff_lt, ge_iff_le, h1, h2, h3, h4, h5, h6, decide_true, YtdknnaalfoongaaDoor.D38, ty1, ty2, ty4, ty35]
  exact retB_plain (by simp [nmd_bool]) rfl (by simp)
theorem mayP_bad (p : Pt) (S : Heap) (h : ¬ mayP p) : Call theE 38 [.agg [.int .i64 p.t, .int .i64 p.x, .int .i64 p.y]] S (.bool false) S := by
  unfold mayP at h
  refine Call.ofC Tryd.func38 YtdknnaalfoongaaDoor.b38 YtdknnaalfoongaaDoor.d38 YtdknnaalfoongaaDoor.e38 (by simp [Tryd.f38]) ?_
  dsimp only [YtdknnaalfoongaaDoor.c38, Tryd.f38, Option.getD_some]
  by_cases h1 : 0 ≤ p.t
  · by_cases h2 : p.t ≤ 35184372088832
    · by_cases h3 : -35184372088832 ≤ p.x
      · by_cases h4 : p.x ≤ 35184372088832
        · by_cases h5 : -35184372088832 ≤ p.y
          · have h6 : ¬ p.y ≤ 35184372088832 := fun h6 => h ⟨⟨h1, h2⟩, ⟨h3, h4⟩, h5, h6⟩
            simp (maxSteps := 2000000) only [wk0, wk1, wk2, wk3, wk4, wk5, Fr.ev, Fr.put, Fr.get, pkB, pkT, pkF, storeA, if_false, if_true, Nat.reduceEqDiff, reduceIte, Nat.reduceAdd, List.replicate, Nat.reduceLeDiff, Nat.reduceMul, Nat.reduceSub, Nat.reducePow, Int.reduceLT, Int.reduceLE, Int.reduceToNat, Int.reducePow, IntKind.bits, Int.reduceEq, Int.reduceMul, Int.reduceNeg, ne_eq, reduceCtorEq, BEq.rfl, beq_self_eq_true, Int.reduceAdd, Int.reduceSub, Int.reduceMod, Int.reduceDiv, Nat.reduceMod, Nat.reduceDiv, Nat.reduceLT, cond_true, cond_false, gt_iff_lt, ge_iff_le, h1, h2, h3, h4, h5, h6, decide_true, decide_false, YtdknnaalfoongaaDoor.D38, ty1, ty2, ty4, ty35]
            exact retB_plain (by simp [nmd_bool]) rfl (by simp)
          · simp (maxSteps := 2000000) only [wk0, wk1, wk2, wk3, wk4, wk5, Fr.ev, Fr.put, Fr.get, pkB, pkT, pkF, storeA, if_false, if_true, Nat.reduceEqDiff, reduceIte, Nat.reduceAdd, List.replicate, Nat.reduceLeDiff, Nat.reduceMul, Nat.reduceSub, Nat.reducePow, Int.reduceLT, Int.reduceLE, Int.reduceToNat, Int.reducePow, IntKind.bits, Int.reduceEq, Int.reduceMul, Int.reduceNeg, ne_eq, reduceCtorEq, BEq.rfl, beq_self_eq_true, Int.reduceAdd, Int.reduceSub, Int.reduceMod, Int.reduceDiv, Nat.reduceMod, Nat.reduceDiv, Nat.reduceLT, cond_true, cond_false, gt_iff_lt, ge_iff_le, h1, h2, h3, h4, h5, decide_true, decide_false, YtdknnaalfoongaaDoor.D38, ty1, ty2, ty4, ty35]
            exact retB_plain (by simp [nmd_bool]) rfl (by simp)
        · simp (maxSteps := 2000000) only [wk0, wk1, wk2, wk3, wk4, wk5, Fr.ev, Fr.put, Fr.get, pkB, pkT, pkF, storeA, if_false, if_true, Nat.reduceEqDiff, reduceIte, Nat.reduceAdd, List.replicate, Nat.reduceLeDiff, Nat.reduceMul, Nat.reduceSub, Nat.reducePow, Int.reduceLT, Int.reduceLE, Int.reduceToNat, Int.reducePow, IntKind.bits, Int.reduceEq, Int.reduceMul, Int.reduceNeg, ne_eq, reduceCtorEq, BEq.rfl, beq_self_eq_true, Int.reduceAdd, Int.reduceSub, Int.reduceMod, Int.reduceDiv, Nat.reduceMod, Nat.reduceDiv, Nat.reduceLT, cond_true, cond_false, gt_iff_lt, ge_iff_le, h1, h2, h3, h4, decide_true, decide_false, YtdknnaalfoongaaDoor.D38, ty1, ty2, ty4, ty35]
          exact retB_plain (by simp [nmd_bool]) rfl (by simp)
      · simp (maxSteps := 2000000) only [wk0, wk1, wk2, wk3, wk4, wk5, Fr.ev, Fr.put, Fr.get, pkB, pkT, pkF, storeA, if_false, if_true, Nat.reduceEqDiff, reduceIte, Nat.reduceAdd, List.replicate, Nat.reduceLeDiff, Nat.reduceMul, Nat.reduceSub, Nat.reducePow, Int.reduceLT, Int.reduceLE, Int.reduceToNat, Int.reducePow, IntKind.bits, Int.reduceEq, Int.reduceMul, Int.reduceNeg, ne_eq, reduceCtorEq, BEq.rfl, beq_self_eq_true, Int.reduceAdd, Int.reduceSub, Int.reduceMod, Int.reduceDiv, Nat.reduceMod, Nat.reduceDiv, Nat.reduceLT, cond_true, cond_false, gt_iff_lt, ge_iff_le, h1, h2, h3, decide_true, decide_false, YtdknnaalfoongaaDoor.D38, ty1, ty2, ty4, ty35]
        exact retB_plain (by simp [nmd_bool]) rfl (by simp)
    · simp (maxSteps := 2000000) only [wk0, wk1, wk2, wk3, wk4, wk5, Fr.ev, Fr.put, Fr.get, pkB, pkT, pkF, storeA, if_false, if_true, Nat.reduceEqDiff, reduceIte, Nat.reduceAdd, List.replicate, Nat.reduceLeDiff, Nat.reduceMul, Nat.reduceSub, Nat.reducePow, Int.reduceLT, Int.reduceLE, Int.reduceToNat, Int.reducePow, IntKind.bits, Int.reduceEq, Int.reduceMul, Int.reduceNeg, ne_eq, reduceCtorEq, BEq.rfl, beq_self_eq_true, Int.reduceAdd, Int.reduceSub, Int.reduceMod, Int.reduceDiv, Nat.reduceMod, Nat.reduceDiv, Nat.reduceLT, cond_true, cond_false, gt_iff_lt, ge_iff_le, h1, h2, decide_true, decide_false, YtdknnaalfoongaaDoor.D38, ty1, ty2, ty4, ty35]
      exact retB_plain (by simp [nmd_bool]) rfl (by simp)
  · simp (maxSteps := 2000000) only [wk0, wk1, wk2, wk3, wk4, wk5, Fr.ev, Fr.put, Fr.get, pkB, pkT, pkF, storeA, if_false, if_true, Nat.reduceEqDiff, reduceIte, Nat.reduceAdd, List.replicate, Nat.reduceLeDiff, Nat.reduceMul, Nat.reduceSub, Nat.reducePow, Int.reduceLT, Int.reduceLE, Int.reduceToNat, Int.reducePow, IntKind.bits, Int.reduceEq, Int.reduceMul, Int.reduceNeg, ne_eq, reduceCtorEq, BEq.rfl, beq_self_eq_true, Int.reduceAdd, Int.reduceSub, Int.reduceMod, Int.reduceDiv, Nat.reduceMod, Nat.reduceDiv, Nat.reduceLT, cond_true, cond_false, gt_iff_lt, ge_iff_le, h1, decide_false, YtdknnaalfoongaaDoor.D38, ty1, ty2, ty4, ty35]
    exact retB_plain (by simp [nmd_bool]) rfl (by simp)
theorem at_trail (S : Heap) (q b c nx mn i : Nat) (R : Nat → Pt) (h : TrS S q b c nx mn R) (hi : i < mn) :
    Call theE 31 [.ptr q 0 0, .int .i64 i] S (.agg [.int .i64 (ptI c nx mn R i).t, .int .i64 (ptI c nx mn R i).x, .int .i64 (ptI c nx mn R i).y]) S := by
  obtain ⟨hq, hb, c1, n1, m1, _⟩ := h
  have f0 := fun L => blk_app (L := L) hq
  have f1 := fun L => blk_app (L := L) hb
  have w1 : IntKind.i64.wrap ((nx : Int) - mn) = (nx : Int) - mn := wrapI (by omega)
  have w2 : IntKind.i64.wrap ((nx : Int) - mn + i) = (nx : Int) - mn + i := wrapI (by omega)
  have w3 : IntKind.i64.wrap ((nx : Int) - mn + i + c) = (nx : Int) - mn + i + c := wrapI (by omega)
  have c0 : ¬ (c : Int) = 0 := by omega
  have w4 : ((nx : Int) - mn + i + c).tmod c = (((nx + c - mn + i) % c : Nat) : Int) := by
    rw [Int.tmod_eq_emod_of_nonneg (by omega), show (nx : Int) - mn + i + c = ((nx + c - mn + i : Nat) : Int) by omega]; rfl
  unfold ptI
  obtain ⟨k, hk⟩ : ∃ k, (nx + c - mn + i) % c = k := ⟨_, rfl⟩
  have hkc : k < c := by rw [← hk]; exact Nat.mod_lt _ (by omega)
  rw [hk] at w4 ⊢
  have p1 : (0 : Int) ≤ k := by omega
  have p2 : (k : Int) < c := by omega
  have rd := ptC_get R c k hkc
  have le : k * 3 + 3 ≤ c * 3 := by omega
  refine Call.ofC Tryd.func31 YtdknnaalfoongaaDoor.b31 YtdknnaalfoongaaDoor.d31 YtdknnaalfoongaaDoor.e31 (by simp [Tryd.f31]) ?_
  dsimp only [YtdknnaalfoongaaDoor.c31, Tryd.f31, Option.getD_some]
  simp (maxSteps := 2000000) only [wk0, wk1, wk2, wk3, wk4, wk5, Fr.ev, Fr.put, Fr.get, pkB, pkT, pkF, storeA, if_false, if_true, Nat.reduceEqDiff, reduceIte, Nat.reduceAdd, List.replicate, Nat.reduceLeDiff, Nat.reduceMul, Nat.reduceSub, Nat.reducePow, Int.reduceLT, Int.reduceLE, Int.reduceToNat, Int.reducePow, IntKind.bits, Int.reduceEq, Int.reduceMul, Int.reduceNeg, ne_eq, reduceCtorEq, BEq.rfl, beq_self_eq_true, Int.reduceAdd, Int.reduceSub, Int.reduceMod, Int.reduceDiv, Nat.reduceMod, Nat.reduceDiv, Nat.reduceLT, cond_true, cond_false, gt_iff_lt, ge_iff_le, f0, f1, w1, w2, w3, w4, c0, p1, p2, rd, le, ptC_len, Int.toNat_natCast, Nat.zero_add, YtdknnaalfoongaaDoor.D31, ty1, ty2, ty3, ty23, ty35, ty36, ty81]
  exact retB_plain (by simp [nmd_agg, nmd_int]) rfl (by simp)
theorem last_trail (S : Heap) (q b c nx mn : Nat) (R : Nat → Pt) (h : TrS S q b c nx mn R) (hm : 1 ≤ mn) :
    Call theE 32 [.ptr q 0 0] S (.agg [.int .i64 (ptI c nx mn R (mn - 1)).t, .int .i64 (ptI c nx mn R (mn - 1)).x, .int .i64 (ptI c nx mn R (mn - 1)).y]) S := by
  have f0 := fun L => blk_app (L := L) h.hq
  have a := fun L => at_trail (S ++ L) q b c nx mn (mn - 1) R ⟨blk_app h.hq, blk_app h.hb, h.c1, h.n1, h.m1, h.ne⟩ (by omega)
  have w1 : IntKind.i64.wrap ((mn : Int) - 1) = ((mn - 1 : Nat) : Int) := by have := h.m1; have := h.c1; rw [wrapI (by omega)]; omega
  refine Call.ofC Tryd.func32 YtdknnaalfoongaaDoor.b32 YtdknnaalfoongaaDoor.d32 YtdknnaalfoongaaDoor.e32 (by simp [Tryd.f32]) ?_
  dsimp only [YtdknnaalfoongaaDoor.c32, Tryd.f32, Option.getD_some]
  simp (maxSteps := 2000000) only [wk0, wk1, wk2, wk3, wk4, wk5, Fr.ev, Fr.put, Fr.get, pkB, pkT, pkF, storeA, if_false, if_true, Nat.reduceEqDiff, reduceIte, Nat.reduceAdd, List.replicate, Nat.reduceLeDiff, Nat.reduceMul, Nat.reduceSub, Nat.reducePow, Int.reduceLT, Int.reduceLE, Int.reduceToNat, Int.reducePow, IntKind.bits, Int.reduceEq, Int.reduceMul, Int.reduceNeg, ne_eq, reduceCtorEq, BEq.rfl, beq_self_eq_true, Int.reduceAdd, Int.reduceSub, Int.reduceMod, Int.reduceDiv, Nat.reduceMod, Nat.reduceDiv, Nat.reduceLT, cond_true, cond_false, gt_iff_lt, ge_iff_le, f0, w1, YtdknnaalfoongaaDoor.D32, ty2, ty3, ty23, ty35, ty81]
  refine callThen_of (a _) ?_
  simp (maxSteps := 2000000) only [wk0, wk1, wk2, wk3, wk4, wk5, Fr.ev, Fr.put, Fr.get, pkB, pkT, pkF, storeA, if_false, if_true, Nat.reduceEqDiff, reduceIte, Nat.reduceAdd, List.replicate, Nat.reduceLeDiff, Nat.reduceMul, Nat.reduceSub, Nat.reducePow, Int.reduceLT, Int.reduceLE, Int.reduceToNat, Int.reducePow, IntKind.bits, Int.reduceEq, Int.reduceMul, Int.reduceNeg, ne_eq, reduceCtorEq, BEq.rfl, beq_self_eq_true, Int.reduceAdd, Int.reduceSub, Int.reduceMod, Int.reduceDiv, Nat.reduceMod, Nat.reduceDiv, Nat.reduceLT, cond_true, cond_false, gt_iff_lt, ge_iff_le, f0, w1, YtdknnaalfoongaaDoor.D32, ty2, ty3, ty23, ty35, ty81]
  exact retB_plain (by simp [nmd_agg, nmd_int]) rfl (by simp)
theorem points_ok (S : Heap) (q b c nx mn : Nat) (R : Nat → Pt) (h : TrS S q b c nx mn R) : Call theE 11 [.ptr q 0 0] S (.lst (ptC (ptI c nx mn R) mn) mn) S := by
  have f0 := fun L => blk_app (L := L) h.hq
  have a := fun i hi L => at_trail (S ++ L) q b c nx mn i R ⟨blk_app h.hq, blk_app h.hb, h.c1, h.n1, h.m1, h.ne⟩ hi
  have m1 := h.m1
  have c1 := h.c1
  generalize ptI c nx mn R = F at *
  refine Call.ofC Tryd.func11 YtdknnaalfoongaaDoor.b11 YtdknnaalfoongaaDoor.d11 YtdknnaalfoongaaDoor.e11 (by simp [Tryd.f11]) ?_
  dsimp only [YtdknnaalfoongaaDoor.c11, Tryd.f11, Option.getD_some]
  simp (maxSteps := 2000000) only [wk0, wk1, wk2, wk3, wk4, wk5, Fr.ev, Fr.put, Fr.get, pkB, pkT, pkF, storeA, if_false, if_true, Nat.reduceEqDiff, reduceIte, Nat.reduceAdd, List.replicate, Nat.reduceLeDiff, Nat.reduceMul, Nat.reduceSub, Nat.reducePow, Int.reduceLT, Int.reduceLE, Int.reduceToNat, Int.reducePow, IntKind.bits, Int.reduceEq, Int.reduceMul, Int.reduceNeg, ne_eq, reduceCtorEq, BEq.rfl, beq_self_eq_true, Int.reduceAdd, Int.reduceSub, Int.reduceMod, Int.reduceDiv, Nat.reduceMod, Nat.reduceDiv, Nat.reduceLT, cond_true, cond_false, gt_iff_lt, ge_iff_le, h.hq, f0, YtdknnaalfoongaaDoor.D11, ty1, ty2, ty3, ty4, ty23, ty35, ty36, ty81]
  refine loopC_ind (fun m fr H => ∃ i cap : Nat, i + m = mn ∧ fr.get 0 = .ptr q 0 0 ∧ fr.get 3 = .sl S.length i 0 i cap 3 ∧ fr.get 10 = .int .i64 mn ∧ fr.get 11 = .int .i64 (i : Int) ∧ H = S ++ [some ⟨ptC F i, i⟩]) ?_ (n := mn) ⟨0, 0, by omega, rfl, rfl, rfl, rfl, rfl⟩
  rintro m fr H ⟨i, cap, him, g0, g3, g10, g11, rfl⟩ ih
  by_cases hi : (i : Int) < mn
  · have hin : i < mn := by omega
    have wi : IntKind.i64.wrap ((i : Int) + 1) = ((i + 1 : Nat) : Int) := wrapI (by omega)
    have cl := ptC_len F i
    have cs := (ptC_succ F i).symm
    have a1 : (i + 1) * 24 ≤ maxBytes := by unfold maxBytes; omega
    have a2 : i + 1 ≤ 9223372036854775807 := by omega
    simp (maxSteps := 2000000) only [wk0, wk1, wk2, wk3, wk4, wk5, Fr.ev, Fr.put, Fr.get, pkB, pkT, pkF, storeA, if_false, if_true, Nat.reduceEqDiff, reduceIte, Nat.reduceAdd, List.replicate, Nat.reduceLeDiff, Nat.reduceMul, Nat.reduceSub, Nat.reducePow, Int.reduceLT, Int.reduceLE, Int.reduceToNat, Int.reducePow, IntKind.bits, Int.reduceEq, Int.reduceMul, Int.reduceNeg, ne_eq, reduceCtorEq, BEq.rfl, beq_self_eq_true, Int.reduceAdd, Int.reduceSub, Int.reduceMod, Int.reduceDiv, Nat.reduceMod, Nat.reduceDiv, Nat.reduceLT, cond_true, cond_false, gt_iff_lt, ge_iff_le, g0, g3, g10, g11, hi, wi, cl, cs, a1, a2, YtdknnaalfoongaaDoor.D11, ty1, ty2, ty3, ty4, ty23, ty35, ty36, ty81]
    refine callThen_of (a i hin _) ?_
    simp (maxSteps := 2000000) only [wk0, wk1, wk2, wk3, wk4, wk5, Fr.ev, Fr.put, Fr.get, pkB, pkT, pkF, storeA, if_false, if_true, Nat.reduceEqDiff, reduceIte, Nat.reduceAdd, List.replicate, Nat.reduceLeDiff, Nat.reduceMul, Nat.reduceSub, Nat.reducePow, Int.reduceLT, Int.reduceLE, Int.reduceToNat, Int.reducePow, IntKind.bits, Int.reduceEq, Int.reduceMul, Int.reduceNeg, ne_eq, reduceCtorEq, BEq.rfl, beq_self_eq_true, Int.reduceAdd, Int.reduceSub, Int.reduceMod, Int.reduceDiv, Nat.reduceMod, Nat.reduceDiv, Nat.reduceLT, cond_true, cond_false, gt_iff_lt, ge_iff_le, g0, g3, g10, g11, hi, wi, cl, cs, a1, a2, YtdknnaalfoongaaDoor.D11, ty1, ty2, ty3, ty4, ty23, ty35, ty36, ty81]
    exact ih (m - 1) _ _ (by omega) ⟨i + 1, i + 1, by omega, by simp [Fr.get, g0], by simp [Fr.get], by simp [Fr.get, g10], by simp [Fr.get], rfl⟩
  · obtain rfl : i = mn := by omega
    simp (maxSteps := 2000000) only [wk0, wk1, wk2, wk3, wk4, wk5, Fr.ev, Fr.put, Fr.get, pkB, pkT, pkF, storeA, if_false, if_true, Nat.reduceEqDiff, reduceIte, Nat.reduceAdd, List.replicate, Nat.reduceLeDiff, Nat.reduceMul, Nat.reduceSub, Nat.reducePow, Int.reduceLT, Int.reduceLE, Int.reduceToNat, Int.reducePow, IntKind.bits, Int.reduceEq, Int.reduceMul, Int.reduceNeg, ne_eq, reduceCtorEq, BEq.rfl, beq_self_eq_true, Int.reduceAdd, Int.reduceSub, Int.reduceMod, Int.reduceDiv, Nat.reduceMod, Nat.reduceDiv, Nat.reduceLT, cond_true, cond_false, gt_iff_lt, ge_iff_le, g0, g3, g10, g11, hi, YtdknnaalfoongaaDoor.D11, ty1, ty2, ty3, ty4, ty23, ty35, ty36, ty81]
    refine retB_one ?_ (by simp)
    have e := Fin1.sl (base := S.length) (H := S ++ [some ⟨ptC F i, i⟩]) S.length i 0 i cap 3 _ (Nat.le_refl _) (by rw [blkAt_app0, blkAt_zero]) (ptC_nmd F 0 i) (by simp [ptC_len])
    have e2 : List.take (i * 3) (List.drop 0 (ptC F i)) = ptC F i := by rw [List.drop_zero, List.take_of_length_le (by rw [ptC_len]; omega)]
    rwa [e2] at e
theorem blk_set {S : Heap} {i j v : Nat} {x : Option Blk} (h : i ≠ j) : blkAt (S.set i x) j v = blkAt S j v := by
  unfold blkAt; rw [List.getElem?_set_ne h]
theorem blk_set_self {S : Heap} {i : Nat} {x : Blk} (h : i < S.length) (hv : x.ver = 0) : blkAt (S.set i (some x)) i 0 = some x := by
  unfold blkAt; rw [List.getElem?_set_self h]; simp [hv]
theorem mod_once {a c : Nat} (h1 : c ≤ a) (h2 : a < 2 * c) : a % c = a - c := by
  rw [Nat.mod_eq_sub_mod h1, Nat.mod_eq_of_lt (by omega)]
theorem mod_cases {a c : Nat} (h2 : a < 2 * c) : (a < c ∧ a % c = a) ∨ (c ≤ a ∧ a % c = a - c) := by
  rcases Nat.lt_or_ge a c with h | h
  · exact .inl ⟨h, Nat.mod_eq_of_lt h⟩
  · exact .inr ⟨h, mod_once h h2⟩
/-- What is laid behind all. -/
theorem ptI_add (c nx mn : Nat) (R : Nat → Pt) (p : Pt) (hc : 1 ≤ c) (hn : nx < c) (hm : mn ≤ c) (i : Nat) (hi : i < min (mn + 1) c) :
    ptI c ((nx + 1) % c) (min (mn + 1) c) (upd R nx p) i = if i = min (mn + 1) c - 1 then p else ptI c nx mn R (i + (mn + 1 - min (mn + 1) c)) := by
  unfold ptI upd
  rcases Nat.lt_or_ge mn c with h | h
  · have e : min (mn + 1) c = mn + 1 := by omega
    rw [e] at hi ⊢
    rcases mod_cases (a := nx + 1) (c := c) (by omega) with ⟨_, e1⟩ | ⟨_, e1⟩ <;> rw [e1]
    all_goals
      rcases mod_cases (a := nx + c - mn + (i + (mn + 1 - (mn + 1)))) (c := c) (by omega) with ⟨_, e3⟩ | ⟨_, e3⟩ <;> rw [e3]
    · rw [show nx + 1 + c - (mn + 1) + i = nx + c - mn + (i + (mn + 1 - (mn + 1))) by omega, e3]
      by_cases hq : i = mn + 1 - 1
      · rw [if_pos hq, if_pos (by omega)]
      · rw [if_neg hq, if_neg (by omega)]
    · rw [show nx + 1 + c - (mn + 1) + i = nx + c - mn + (i + (mn + 1 - (mn + 1))) by omega, e3]
      by_cases hq : i = mn + 1 - 1
      · rw [if_pos hq, if_pos (by omega)]
      · rw [if_neg hq, if_neg (by omega)]
    · have e4 : (nx + 1 - c + c - (mn + 1) + i) % c = nx + 1 - c + c - (mn + 1) + i := Nat.mod_eq_of_lt (by omega)
      rw [e4]
      by_cases hq : i = mn + 1 - 1
      · rw [if_pos hq, if_pos (by omega)]
      · rw [if_neg hq, if_neg (by omega), show nx + 1 - c + c - (mn + 1) + i = nx + c - mn + (i + (mn + 1 - (mn + 1))) by omega]
    · rcases mod_cases (a := nx + 1 - c + c - (mn + 1) + i) (c := c) (by omega) with ⟨_, e4⟩ | ⟨_, e4⟩ <;> rw [e4]
      · by_cases hq : i = mn + 1 - 1
        · rw [if_pos hq, if_pos (by omega)]
        · rw [if_neg hq, if_neg (by omega)]
          congr 1; omega
      · by_cases hq : i = mn + 1 - 1
        · rw [if_pos hq, if_pos (by omega)]
        · rw [if_neg hq, if_neg (by omega)]
          congr 1; omega
  · have e : min (mn + 1) c = c := by omega
    have em : mn = c := by omega
    subst em
    rw [e] at hi ⊢
    have e2 : mn + 1 - mn = 1 := by omega
    rw [e2, show nx + mn - mn + (i + 1) = nx + 1 + i by omega]
    have e5 : ((nx + 1) % mn + mn - mn + i) % mn = (nx + 1 + i) % mn := by
      rw [show (nx + 1) % mn + mn - mn + i = (nx + 1) % mn + i by omega, Nat.mod_add_mod]
    rw [e5]
    rcases mod_cases (a := nx + 1 + i) (c := mn) (by omega) with ⟨_, e4⟩ | ⟨_, e4⟩ <;> rw [e4]
    · by_cases hq : i = mn - 1
      · exact absurd hq (by omega)
      · rw [if_neg hq, if_neg (by omega)]
    · by_cases hq : i = mn - 1
      · rw [if_pos hq, if_pos (by omega)]
      · rw [if_neg hq, if_neg (by omega)]
theorem add_bad1 (S : Heap) (q b c nx mn : Nat) (R : Nat → Pt) (p : Pt) (h : TrS S q b c nx mn R) (hp : ¬ mayP p) : Call theE 10 [.ptr q 0 0, .agg [.int .i64 p.t, .int .i64 p.x, .int .i64 p.y]] S (errA 1) S := by
  have m := fun S => mayP_bad p S hp
  refine Call.ofC Tryd.func10 YtdknnaalfoongaaDoor.b10 YtdknnaalfoongaaDoor.d10 YtdknnaalfoongaaDoor.e10 (by simp [Tryd.f10]) ?_
  dsimp only [YtdknnaalfoongaaDoor.c10, Tryd.f10, Option.getD_some]
  simp (maxSteps := 2000000) only [wk0, wk1, wk2, wk3, wk4, wk5, Fr.ev, Fr.put, Fr.get, pkB, pkT, pkF, storeA, if_false, if_true, Nat.reduceEqDiff, reduceIte, Nat.reduceAdd, List.replicate, Nat.reduceLeDiff, Nat.reduceMul, Nat.reduceSub, Nat.reducePow, Int.reduceLT, Int.reduceLE, Int.reduceToNat, Int.reducePow, IntKind.bits, Int.reduceEq, Int.reduceMul, Int.reduceNeg, ne_eq, reduceCtorEq, BEq.rfl, beq_self_eq_true, Int.reduceAdd, Int.reduceSub, Int.reduceMod, Int.reduceDiv, Nat.reduceMod, Nat.reduceDiv, Nat.reduceLT, cond_true, cond_false, gt_iff_lt, ge_iff_le, YtdknnaalfoongaaDoor.D10, ty1, ty2, ty3, ty4, ty23, ty25, ty35, ty36, ty79, ty81]
  refine callThen_of (m _) ?_
  simp (maxSteps := 2000000) only [wk0, wk1, wk2, wk3, wk4, wk5, Fr.ev, Fr.put, Fr.get, pkB, pkT, pkF, storeA, if_false, if_true, Nat.reduceEqDiff, reduceIte, Nat.reduceAdd, List.replicate, Nat.reduceLeDiff, Nat.reduceMul, Nat.reduceSub, Nat.reducePow, Int.reduceLT, Int.reduceLE, Int.reduceToNat, Int.reducePow, IntKind.bits, Int.reduceEq, Int.reduceMul, Int.reduceNeg, ne_eq, reduceCtorEq, BEq.rfl, beq_self_eq_true, Int.reduceAdd, Int.reduceSub, Int.reduceMod, Int.reduceDiv, Nat.reduceMod, Nat.reduceDiv, Nat.reduceLT, cond_true, cond_false, gt_iff_lt, ge_iff_le, YtdknnaalfoongaaDoor.D10, ty1, ty2, ty3, ty4, ty23, ty25, ty35, ty36, ty79, ty81]
  exact retB_plain (by simp [nmd_ifc, nmd_int]) rfl (by simp)
theorem add_bad2 (S : Heap) (q b c nx mn : Nat) (R : Nat → Pt) (p : Pt) (h : TrS S q b c nx mn R) (hp : mayP p) (hm : 1 ≤ mn) (ht : p.t ≤ (ptI c nx mn R (mn - 1)).t) : Call theE 10 [.ptr q 0 0, .agg [.int .i64 p.t, .int .i64 p.x, .int .i64 p.y]] S (errA 15) S := by
  have m := fun S => mayP_ok p S hp
  have f0 := fun L => blk_app (L := L) h.hq
  have a := fun L => last_trail (S ++ L) q b c nx mn R ⟨blk_app h.hq, blk_app h.hb, h.c1, h.n1, h.m1, h.ne⟩ hm
  have k1 : (0 : Int) < mn := by omega
  refine Call.ofC Tryd.func10 YtdknnaalfoongaaDoor.b10 YtdknnaalfoongaaDoor.d10 YtdknnaalfoongaaDoor.e10 (by simp [Tryd.f10]) ?_
  dsimp only [YtdknnaalfoongaaDoor.c10, Tryd.f10, Option.getD_some]
  simp (maxSteps := 2000000) only [wk0, wk1, wk2, wk3, wk4, wk5, Fr.ev, Fr.put, Fr.get, pkB, pkT, pkF, storeA, if_false, if_true, Nat.reduceEqDiff, reduceIte, Nat.reduceAdd, List.replicate, Nat.reduceLeDiff, Nat.reduceMul, Nat.reduceSub, Nat.reducePow, Int.reduceLT, Int.reduceLE, Int.reduceToNat, Int.reducePow, IntKind.bits, Int.reduceEq, Int.reduceMul, Int.reduceNeg, ne_eq, reduceCtorEq, BEq.rfl, beq_self_eq_true, Int.reduceAdd, Int.reduceSub, Int.reduceMod, Int.reduceDiv, Nat.reduceMod, Nat.reduceDiv, Nat.reduceLT, cond_true, cond_false, gt_iff_lt, ge_iff_le, f0, k1, ht, YtdknnaalfoongaaDoor.D10, ty1, ty2, ty3, ty4, ty23, ty25, ty35, ty36, ty79, ty81]
  refine callThen_of (m _) ?_
  simp (maxSteps := 2000000) only [wk0, wk1, wk2, wk3, wk4, wk5, Fr.ev, Fr.put, Fr.get, pkB, pkT, pkF, storeA, if_false, if_true, Nat.reduceEqDiff, reduceIte, Nat.reduceAdd, List.replicate, Nat.reduceLeDiff, Nat.reduceMul, Nat.reduceSub, Nat.reducePow, Int.reduceLT, Int.reduceLE, Int.reduceToNat, Int.reducePow, IntKind.bits, Int.reduceEq, Int.reduceMul, Int.reduceNeg, ne_eq, reduceCtorEq, BEq.rfl, beq_self_eq_true, Int.reduceAdd, Int.reduceSub, Int.reduceMod, Int.reduceDiv, Nat.reduceMod, Nat.reduceDiv, Nat.reduceLT, cond_true, cond_false, gt_iff_lt, ge_iff_le, f0, k1, ht, YtdknnaalfoongaaDoor.D10, ty1, ty2, ty3, ty4, ty23, ty25, ty35, ty36, ty79, ty81]
  refine callThen_of (a _) ?_
  simp (maxSteps := 2000000) only [wk0, wk1, wk2, wk3, wk4, wk5, Fr.ev, Fr.put, Fr.get, pkB, pkT, pkF, storeA, if_false, if_true, Nat.reduceEqDiff, reduceIte, Nat.reduceAdd, List.replicate, Nat.reduceLeDiff, Nat.reduceMul, Nat.reduceSub, Nat.reducePow, Int.reduceLT, Int.reduceLE, Int.reduceToNat, Int.reducePow, IntKind.bits, Int.reduceEq, Int.reduceMul, Int.reduceNeg, ne_eq, reduceCtorEq, BEq.rfl, beq_self_eq_true, Int.reduceAdd, Int.reduceSub, Int.reduceMod, Int.reduceDiv, Nat.reduceMod, Nat.reduceDiv, Nat.reduceLT, cond_true, cond_false, gt_iff_lt, ge_iff_le, f0, k1, ht, YtdknnaalfoongaaDoor.D10, ty1, ty2, ty3, ty4, ty23, ty25, ty35, ty36, ty79, ty81]
  exact retB_plain (by simp [nmd_ifc, nmd_int]) rfl (by simp)
theorem add_trail (S : Heap) (q b c nx mn : Nat) (R : Nat → Pt) (p : Pt) (h : TrS S q b c nx mn R) (hp : mayP p) (ht : 1 ≤ mn → ¬ p.t ≤ (ptI c nx mn R (mn - 1)).t) :
    ∃ S', S'.length = S.length ∧ TrS S' q b c ((nx + 1) % c) (min (mn + 1) c) (upd R nx p) ∧ (∀ i, i ≠ q → i ≠ b → S'[i]? = S[i]?) ∧ Call theE 10 [.ptr q 0 0, .agg [.int .i64 p.t, .int .i64 p.x, .int .i64 p.y]] S .nili S' := by
  have m := fun S => mayP_ok p S hp
  obtain ⟨mq, hmq⟩ : ∃ mq, min (mn + 1) c = mq := ⟨_, rfl⟩
  rw [hmq]
  have hqb := h.ne
  have lq := blk_lt h.hq
  have lb := blk_lt h.hb
  have c1 := h.c1
  have n1 := h.n1
  have m1 := h.m1
  obtain ⟨S1, hS1⟩ : ∃ S1, S.set b (some ⟨ptC (upd R nx p) c, 0⟩) = S1 := ⟨_, rfl⟩
  have l1 : S1.length = S.length := by rw [← hS1]; simp
  obtain ⟨S2, hS2⟩ : ∃ S2, S1.set q (some ⟨[.sl b 0 0 c c 3, .int .i64 (((nx + 1) % c : Nat) : Int), .int .i64 mn], 0⟩) = S2 := ⟨_, rfl⟩
  have l2 : S2.length = S.length := by rw [← hS2]; simp [l1]
  obtain ⟨S3, hS3⟩ : ∃ S3, S2.set q (some ⟨[.sl b 0 0 c c 3, .int .i64 (((nx + 1) % c : Nat) : Int), .int .i64 (mq : Int)], 0⟩) = S3 := ⟨_, rfl⟩
  have l3 : S3.length = S.length := by rw [← hS3]; simp [l2]
  have f0 := fun L => blk_app (L := L) h.hq
  have f1 := fun L => blk_app (L := L) h.hb
  have g0 := fun L => blk_app (L := L) (show blkAt S1 q 0 = some ⟨[.sl b 0 0 c c 3, .int .i64 nx, .int .i64 mn], 0⟩ by rw [← hS1, blk_set (Ne.symm hqb)]; exact h.hq)
  have g1 := fun L => blk_app (L := L) (show blkAt S2 q 0 = some ⟨[.sl b 0 0 c c 3, .int .i64 (((nx + 1) % c : Nat) : Int), .int .i64 mn], 0⟩ by rw [← hS2]; exact blk_set_self (by omega) rfl)
  have s1 := fun L => show (S ++ L).set b (some ⟨ptC (upd R nx p) c, 0⟩) = S1 ++ L by rw [List.set_append_left _ _ lb, hS1]
  have s2 := fun L => show (S1 ++ L).set q (some ⟨[.sl b 0 0 c c 3, .int .i64 (((nx + 1) % c : Nat) : Int), .int .i64 mn], 0⟩) = S2 ++ L by rw [List.set_append_left _ _ (by omega), hS2]
  have s3 := fun L => show (S2 ++ L).set q (some ⟨[.sl b 0 0 c c 3, .int .i64 (((nx + 1) % c : Nat) : Int), .int .i64 (mq : Int)], 0⟩) = S3 ++ L by rw [List.set_append_left _ _ (by omega), hS3]
  have t1 : ∀ x y z : Int, mayStore S.length b [.int .i64 x, .int .i64 y, .int .i64 z] = True := fun x y z => by simp [mayStore, nmd_int]
  have t2 : ∀ x : Int, mayStore S.length q [.int .i64 x] = True := fun x => by simp [mayStore, nmd_int]
  have w1 : IntKind.i64.wrap ((nx : Int) + 1) = ((nx + 1 : Nat) : Int) := wrapI (by omega)
  have w2 : ((nx + 1 : Nat) : Int).tmod c = (((nx + 1) % c : Nat) : Int) := by rw [Int.tmod_eq_emod_of_nonneg (by omega)]; rfl
  have w3 : IntKind.i64.wrap ((mn : Int) + 1) = ((mn + 1 : Nat) : Int) := wrapI (by omega)
  have w4 : min ((mn + 1 : Nat) : Int) (c : Int) = (mq : Int) := by omega
  have c0 : ¬ (c : Int) = 0 := by omega
  have p1 : (0 : Int) ≤ nx := by omega
  have p2 : (nx : Int) < c := by omega
  have es := ptC_set R c nx p n1
  have le : nx * 3 + 3 ≤ c * 3 := by omega
  refine ⟨S3, l3, ?_, ?_, ?_⟩
  · refine ⟨?_, ?_, c1, Nat.mod_lt _ (by omega), by omega, hqb⟩
    · rw [← hS3]; exact blk_set_self (by omega) rfl
    · rw [← hS3, blk_set hqb, ← hS2, blk_set hqb, ← hS1]; exact blk_set_self lb rfl
  · intro i hi1 hi2
    rw [← hS3, List.getElem?_set_ne (Ne.symm hi1), ← hS2, List.getElem?_set_ne (Ne.symm hi1), ← hS1, List.getElem?_set_ne (Ne.symm hi2)]
  have fin : ∀ L, S3 = (S3 ++ L).take S.length := fun L => by rw [← l3]; simp
  have fx := And.intro f0 <| And.intro f1 <| And.intro g0 <| And.intro g1 <| And.intro s1 <| And.intro s2 <| And.intro s3 <| And.intro t1 <| And.intro t2 <| And.intro w1 <| And.intro w2 <| And.intro w3 <| And.intro w4 <| And.intro c0 <| And.intro p1 <| And.intro p2 <| And.intro es le
  refine Call.ofC Tryd.func10 YtdknnaalfoongaaDoor.b10 YtdknnaalfoongaaDoor.d10 YtdknnaalfoongaaDoor.e10 (by simp [Tryd.f10]) ?_
  dsimp only [YtdknnaalfoongaaDoor.c10, Tryd.f10, Option.getD_some]
  by_cases hm : 1 ≤ mn
  · have ht' := ht hm
    have k1 : (0 : Int) < mn := by omega
    have a := fun L => last_trail (S ++ L) q b c nx mn R ⟨blk_app h.hq, blk_app h.hb, h.c1, h.n1, h.m1, h.ne⟩ hm
    simp (maxSteps := 2000000) only [wk0, wk1, wk2, wk3, wk4, wk5, Fr.ev, Fr.put, Fr.get, pkB, pkT, pkF, storeA, if_false, if_true, Nat.reduceEqDiff, reduceIte, Nat.reduceAdd, List.replicate, Nat.reduceLeDiff, Nat.reduceMul, Nat.reduceSub, Nat.reducePow, Int.reduceLT, Int.reduceLE, Int.reduceToNat, Int.reducePow, IntKind.bits, Int.reduceEq, Int.reduceMul, Int.reduceNeg, ne_eq, reduceCtorEq, BEq.rfl, beq_self_eq_true, Int.reduceAdd, Int.reduceSub, Int.reduceMod, Int.reduceDiv, Nat.reduceMod, Nat.reduceDiv, Nat.reduceLT, cond_true, cond_false, gt_iff_lt, ge_iff_le, fx, k1, ht', ptC_len, Int.toNat_natCast, Nat.zero_add, List.append_assoc, List.cons_append, List.nil_append, YtdknnaalfoongaaDoor.D10, ty1, ty2, ty3, ty4, ty23, ty25, ty35, ty36, ty79, ty81]
    refine callThen_of (m _) ?_
    simp (maxSteps := 2000000) only [wk0, wk1, wk2, wk3, wk4, wk5, Fr.ev, Fr.put, Fr.get, pkB, pkT, pkF, storeA, if_false, if_true, Nat.reduceEqDiff, reduceIte, Nat.reduceAdd, List.replicate, Nat.reduceLeDiff, Nat.reduceMul, Nat.reduceSub, Nat.reducePow, Int.reduceLT, Int.reduceLE, Int.reduceToNat, Int.reducePow, IntKind.bits, Int.reduceEq, Int.reduceMul, Int.reduceNeg, ne_eq, reduceCtorEq, BEq.rfl, beq_self_eq_true, Int.reduceAdd, Int.reduceSub, Int.reduceMod, Int.reduceDiv, Nat.reduceMod, Nat.reduceDiv, Nat.reduceLT, cond_true, cond_false, gt_iff_lt, ge_iff_le, fx, k1, ht', ptC_len, Int.toNat_natCast, Nat.zero_add, List.append_assoc, List.cons_append, List.nil_append, YtdknnaalfoongaaDoor.D10, ty1, ty2, ty3, ty4, ty23, ty25, ty35, ty36, ty79, ty81]
    refine callThen_of (a _) ?_
    simp (maxSteps := 2000000) only [wk0, wk1, wk2, wk3, wk4, wk5, Fr.ev, Fr.put, Fr.get, pkB, pkT, pkF, storeA, if_false, if_true, Nat.reduceEqDiff, reduceIte, Nat.reduceAdd, List.replicate, Nat.reduceLeDiff, Nat.reduceMul, Nat.reduceSub, Nat.reducePow, Int.reduceLT, Int.reduceLE, Int.reduceToNat, Int.reducePow, IntKind.bits, Int.reduceEq, Int.reduceMul, Int.reduceNeg, ne_eq, reduceCtorEq, BEq.rfl, beq_self_eq_true, Int.reduceAdd, Int.reduceSub, Int.reduceMod, Int.reduceDiv, Nat.reduceMod, Nat.reduceDiv, Nat.reduceLT, cond_true, cond_false, gt_iff_lt, ge_iff_le, fx, k1, ht', ptC_len, Int.toNat_natCast, Nat.zero_add, List.append_assoc, List.cons_append, List.nil_append, YtdknnaalfoongaaDoor.D10, ty1, ty2, ty3, ty4, ty23, ty25, ty35, ty36, ty79, ty81]
    exact retB_plain (by simp [nmd_nili]) rfl (fin _)
  · have k1 : ¬ (0 : Int) < mn := by omega
    simp (maxSteps := 2000000) only [wk0, wk1, wk2, wk3, wk4, wk5, Fr.ev, Fr.put, Fr.get, pkB, pkT, pkF, storeA, if_false, if_true, Nat.reduceEqDiff, reduceIte, Nat.reduceAdd, List.replicate, Nat.reduceLeDiff, Nat.reduceMul, Nat.reduceSub, Nat.reducePow, Int.reduceLT, Int.reduceLE, Int.reduceToNat, Int.reducePow, IntKind.bits, Int.reduceEq, Int.reduceMul, Int.reduceNeg, ne_eq, reduceCtorEq, BEq.rfl, beq_self_eq_true, Int.reduceAdd, Int.reduceSub, Int.reduceMod, Int.reduceDiv, Nat.reduceMod, Nat.reduceDiv, Nat.reduceLT, cond_true, cond_false, gt_iff_lt, ge_iff_le, fx, k1, ptC_len, Int.toNat_natCast, Nat.zero_add, List.append_assoc, List.cons_append, List.nil_append, YtdknnaalfoongaaDoor.D10, ty1, ty2, ty3, ty4, ty23, ty25, ty35, ty36, ty79, ty81]
    refine callThen_of (m _) ?_
    simp (maxSteps := 2000000) only [wk0, wk1, wk2, wk3, wk4, wk5, Fr.ev, Fr.put, Fr.get, pkB, pkT, pkF, storeA, if_false, if_true, Nat.reduceEqDiff, reduceIte, Nat.reduceAdd, List.replicate, Nat.reduceLeDiff, Nat.reduceMul, Nat.reduceSub, Nat.reducePow, Int.reduceLT, Int.reduceLE, Int.reduceToNat, Int.reducePow, IntKind.bits, Int.reduceEq, Int.reduceMul, Int.reduceNeg, ne_eq, reduceCtorEq, BEq.rfl, beq_self_eq_true, Int.reduceAdd, Int.reduceSub, Int.reduceMod, Int.reduceDiv, Nat.reduceMod, Nat.reduceDiv, Nat.reduceLT, cond_true, cond_false, gt_iff_lt, ge_iff_le, fx, k1, ptC_len, Int.toNat_natCast, Nat.zero_add, List.append_assoc, List.cons_append, List.nil_append, YtdknnaalfoongaaDoor.D10, ty1, ty2, ty3, ty4, ty23, ty25, ty35, ty36, ty79, ty81]
    exact retB_plain (by simp [nmd_nili]) rfl (fin _)
end Go.Proofs.YtdknnaalfoongaaDoor
