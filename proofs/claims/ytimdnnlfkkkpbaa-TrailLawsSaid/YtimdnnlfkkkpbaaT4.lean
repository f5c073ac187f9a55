/- The law TrailLaws. -/
import Derived.Test.YtimdnnlfkkkpbaaT3
import Derived.Test.YtimdnnlfkkkpbaaEvO
set_option linter.unusedSimpArgs false
set_option linter.unusedVariables false
set_option maxRecDepth 100000
set_option maxHeartbeats 8000000
namespace Go.Proofs.Ytimdnnlfkkkpbaa
theorem pts_of {v : AV} (h : DatC (.slice [.int .i64, .int .i64, .int .i64]) v) : ∃ l : List Pt, v = .lst (ptC (fun i => l.getD i Pt.z) l.length) l.length ∧ l.length ≤ maxLen := by
  obtain ⟨rows, rfl, h1, h2⟩ := h.rows
  obtain ⟨l, rfl, _⟩ := rows_all (f := pc) (q := fun _ => True) fun r hr => by
    obtain ⟨a, r, rfl, ha, hr⟩ := (h2 r hr).inv
    obtain ⟨b, r, rfl, hb, hr⟩ := hr.inv
    obtain ⟨c, r, rfl, hc, hr⟩ := hr.inv
    obtain rfl := hr.inv0
    obtain ⟨x, rfl, _⟩ := ha.i64
    obtain ⟨y, rfl, _⟩ := hb.i64
    obtain ⟨z, rfl, _⟩ := hc.i64
    exact ⟨⟨x, y, z⟩, trivial, rfl⟩
  refine ⟨l, ?_, by simpa using h1⟩
  rw [List.length_map, Go.Deep.map_by_index l Pt.z pc]
  rfl
theorem abs_far {F : Nat → Pt} {r : Nat → Int} {mn : Nat} (h : farR F r mn) (i : Nat) (h1 : 1 ≤ i) (h2 : i < mn) : (F i).x - (F (i - 1)).x ≤ r i ∧ (F (i - 1)).x - (F i).x ≤ r i := by
  obtain ⟨h3, h4, h5⟩ := h i h1 h2
  obtain ⟨dx, hdx⟩ : ∃ dx, (F i).x - (F (i - 1)).x = dx := ⟨_, rfl⟩
  obtain ⟨dy, hdy⟩ : ∃ dy, (F i).y - (F (i - 1)).y = dy := ⟨_, rfl⟩
  rw [hdx, hdy] at h4 h5
  have hy : 0 ≤ dy * dy := by
    rcases Int.le_total 0 dy with h | h
    · exact Int.mul_nonneg h h
    · rw [← Int.neg_mul_neg]; exact Int.mul_nonneg (by omega) (by omega)
  have key : ∀ z : Int, 0 ≤ z → z * z = dx * dx → z ≤ r i := fun z hz he => (sq_le (x := z) (r := r i) hz h3.1 h4 h5).1 (by omega)
  rcases Int.le_total 0 dx with h | h
  · have := key dx h rfl; omega
  · have := key (-dx) (by omega) (by rw [Int.neg_mul_neg]); omega
theorem far_long {F : Nat → Pt} {r : Nat → Int} {mn : Nat} (h : farR F r mn) : ∀ n, n < mn → lnO r n = false → (F n).x - (F 0).x ≤ lnS r n ∧ (F 0).x - (F n).x ≤ lnS r n := by
  intro n
  induction n with
  | zero => intro _ _; simp [lnS]
  | succ n ih =>
    intro hn ho
    simp only [lnO, Bool.or_eq_false_iff] at ho
    have h1 := ih (by omega) ho.1
    have h2 := abs_far h (n + 1) (by omega) hn
    rw [Nat.add_sub_cancel] at h2
    have h3 := ho.2
    unfold ovrB at h3
    rw [decide_eq_false_iff_not] at h3
    simp only [lnS]
    unfold bndI
    omega
theorem mid_in {f : Nat → Int} {lo hi : Int} {n : Nat} (hn : 1 ≤ n) (h : ∀ i, i < n → lo ≤ f i ∧ f i ≤ hi) : ¬ smI f n / n < lo ∧ ¬ hi < smI f n / n := by
  have b := smI_bound h
  have h1 : lo ≤ smI f n / n := Int.le_ediv_of_mul_le (by omega) (by rw [Int.mul_comm]; exact b.1)
  have h2 : smI f n / n ≤ hi := Int.ediv_le_of_le_mul (by omega) (by rw [Int.mul_comm]; exact b.2)
  omega
/-- The points that are kept may be, and their times rise. -/
structure GoodP (F : Nat → Pt) (mn : Nat) : Prop where
  may : ∀ i, i < mn → mayP (F i)
  rise : ∀ i, i + 1 < mn → (F i).t < (F (i + 1)).t
theorem good_add {c nx mn : Nat} {R : Nat → Pt} {p : Pt} (hc : 1 ≤ c) (hn : nx < c) (hm : mn ≤ c) (h : GoodP (ptI c nx mn R) mn) (hp : mayP p) (ht : 1 ≤ mn → ¬ p.t ≤ (ptI c nx mn R (mn - 1)).t) :
    GoodP (ptI c ((nx + 1) % c) (min (mn + 1) c) (upd R nx p)) (min (mn + 1) c) := by
  have e := fun i hi => ptI_add c nx mn R p hc hn hm i hi
  refine ⟨fun i hi => ?_, fun i hi => ?_⟩
  · rw [e i hi]
    split
    · exact hp
    · exact h.may _ (by omega)
  · rw [e i (by omega), e (i + 1) hi, if_neg (by omega)]
    by_cases hq : i + 1 = min (mn + 1) c - 1
    · rw [if_pos hq]
      have := ht (by omega)
      rw [show i + (mn + 1 - min (mn + 1) c) = mn - 1 by omega]
      omega
    · rw [if_neg hq, show i + 1 + (mn + 1 - min (mn + 1) c) = i + (mn + 1 - min (mn + 1) c) + 1 by omega]
      exact h.rise _ (by omega)
theorem all3 (a b c : Int) : allInts [.int .i64 a, .int .i64 b, .int .i64 c] [.int .i64 a, .int .i64 b, .int .i64 c] = some true := by simp [allInts]
noncomputable def c8 : Code := Try.f8.body.getD .skip
theorem b8 : Try.f8.body = some c8 := rfl
theorem d8 : fnOk Try.f8 c8 = true := by kernel_rfl
def D8 : Nat → List Tag
  | 10 => [.pure, .pure, .pure, .pure, .pure, .pure, .pure, .pure, .pure, .pure, .pure, .pure, .quiet, .pure, .pure, .pure, .quiet, .pure, .pure, .pure, .pure, .pure, .pure, .pure, .pure, .pure]
  | 15 => [.pure, .pure, .pure, .quiet, .pure, .pure, .pure, .quiet, .pure, .pure, .pure, .quiet, .pure, .pure, .pure, .quiet, .pure, .pure, .pure, .pure]
  | 19 => [.pure, .pure, .pure, .pure, .pure, .pure, .pure, .pure, .quiet, .pure, .pure, .pure, .pure, .quiet, .pure, .pure]
  | 21 => [.pure, .pure, .pure, .pure, .pure, .quiet, .pure, .pure, .pure, .pure, .pure, .pure, .quiet, .pure, .pure, .pure, .pure, .pure, .pure, .quiet, .pure, .pure, .pure, .pure, .pure, .pure, .quiet, .pure, .pure, .pure, .pure, .pure]
  | 22 => [.pure, .pure, .pure, .pure, .pure, .pure, .quiet, .pure, .pure, .pure, .quiet, .pure, .pure]
  | _ => []
theorem e8 : drawsOk D8 c8 = true := by kernel_rfl
theorem trailLaws_ok (most : Int) (x : AV) (S : Heap) (hm : -9223372036854775808 ≤ most ∧ most < 9223372036854775808) (dat : DatC (.slice [.int .i64, .int .i64, .int .i64]) x) : Call theE 8 [.int .i64 most, x] S (.bool true) S := by
  have hml : maxLen ≤ 9223372036854775807 := by decide
  obtain ⟨l, rfl, hl⟩ := pts_of dat
  have su := fun S => sure38_ok S
  obtain ⟨u, hu⟩ : ∃ u, most % 18446744073709551616 = u := ⟨_, rfl⟩
  have hub : 0 ≤ u ∧ u < 18446744073709551616 := by omega
  have w0 : IntKind.u64.wrap most = u := by rw [wrapU64]; exact hu
  obtain ⟨n, hn⟩ : ∃ n : Nat, 1 + u % 20 = (n : Int) := ⟨(1 + u % 20).toNat, by omega⟩
  have n20 : ¬ (20 : Int) = 0 := by decide
  have w1 : u.tmod 20 = u % 20 := Int.tmod_eq_emod_of_nonneg hub.1
  have w2 : IntKind.i64.wrap (u % 20) = u % 20 := wrapI (by omega)
  have w3 : IntKind.i64.wrap (1 + u % 20) = (n : Int) := by rw [hn]; exact wrapI (by omega)
  have hnb : 1 ≤ n ∧ n ≤ 20 := by omega
  have nw := new_ok n S (by omega)
  refine Call.ofC Try.func8 Ytimdnnlfkkkpbaa.b8 Ytimdnnlfkkkpbaa.d8 Ytimdnnlfkkkpbaa.e8 (by simp [Try.f8]) ?_
  dsimp only [Ytimdnnlfkkkpbaa.c8, Try.f8, Option.getD_some]
  simp (maxSteps := 2000000) only [wk0, wk1, wk2, wk3, keepA, keepT, Fr.keep, frzT, flatT, arrayAtA, ownT, extT, Fr.ev, Fr.put, Fr.get, initFr, buildSliceA, zeros, pkB, pkT, pkF, ownDst, Env.kd, ofConst, isConst, binA, intI, cmpI, shiftI, convertA, buildA, fillA, fillS, splice, AV.cells?, storeA, readAt, fieldAddrA, fieldA, indexA, extractA, unA, builtinA, appendA, lenA, sliceCells, isSliceK, makeInterfaceA, nilCheckA, eqA, AV.one, AV.plain, if_false, if_true, Nat.reduceEqDiff, reduceIte, Nat.reduceAdd, List.replicate, Nat.reduceLeDiff, Nat.reduceMul, Nat.reduceSub, Nat.reducePow, Int.reduceLT, Int.reduceLE, Int.reduceToNat, Int.reducePow, IntKind.bits, Int.reduceEq, Int.reduceMul, Int.reduceNeg, ne_eq, reduceCtorEq, escT, BEq.rfl, beq_self_eq_true, Int.reduceAdd, Int.reduceSub, Int.reduceMod, Int.reduceDiv, Nat.reduceMod, Nat.reduceDiv, Nat.reduceLT, cond_true, cond_false, gt_iff_lt, ge_iff_le, w0, n20, w1, w2, w3, Ytimdnnlfkkkpbaa.D8, keep8, ty1, ty2, ty3, ty4, ty24, ty55, ty68, ty69, ty74, ty75, ty76]
  refine callThen_of (nw) ?_
  simp (maxSteps := 2000000) only [wk0, wk1, wk2, wk3, keepA, keepT, Fr.keep, frzT, flatT, arrayAtA, ownT, extT, Fr.ev, Fr.put, Fr.get, initFr, buildSliceA, zeros, pkB, pkT, pkF, ownDst, Env.kd, ofConst, isConst, binA, intI, cmpI, shiftI, convertA, buildA, fillA, fillS, splice, AV.cells?, storeA, readAt, fieldAddrA, fieldA, indexA, extractA, unA, builtinA, appendA, lenA, sliceCells, isSliceK, makeInterfaceA, nilCheckA, eqA, AV.one, AV.plain, if_false, if_true, Nat.reduceEqDiff, reduceIte, Nat.reduceAdd, List.replicate, Nat.reduceLeDiff, Nat.reduceMul, Nat.reduceSub, Nat.reducePow, Int.reduceLT, Int.reduceLE, Int.reduceToNat, Int.reducePow, IntKind.bits, Int.reduceEq, Int.reduceMul, Int.reduceNeg, ne_eq, reduceCtorEq, escT, BEq.rfl, beq_self_eq_true, Int.reduceAdd, Int.reduceSub, Int.reduceMod, Int.reduceDiv, Nat.reduceMod, Nat.reduceDiv, Nat.reduceLT, cond_true, cond_false, gt_iff_lt, ge_iff_le, w0, n20, w1, w2, w3, Ytimdnnlfkkkpbaa.D8, keep8, ty1, ty2, ty3, ty4, ty24, ty55, ty68, ty69, ty74, ty75, ty76]
  refine loopC_ind (fun m fr H => ∃ (i nx mn : Nat) (R : Nat → Pt), i + m = min l.length 40 ∧ (fr.get 1 = .lst (ptC (fun i => l.getD i Pt.z) l.length) l.length ∧ fr.get 5 = .int .i64 n ∧ fr.get 6 = .ptr (S.length + 1) 0 0 ∧ fr.get 8 = .int .i64 (i : Int)) ∧
    TrS H (S.length + 1) S.length n nx mn R ∧ GoodP (ptI n nx mn R) mn ∧ H.length = S.length + 2 ∧ ∀ j, j < S.length → H[j]? = S[j]?) ?_ (n := min l.length 40)
    ⟨0, 0, 0, fun _ => Pt.z, by omega, ⟨by simp [Fr.get], by simp [Fr.get], by simp [Fr.get], by simp [Fr.get]⟩, ⟨by rw [blkAt_app]; rfl, by rw [blkAt_app0]; rfl, by omega, by omega, by omega, by omega⟩, ⟨fun i hi => by omega, fun i hi => by omega⟩, by simp, fun j hj => List.getElem?_append_left hj⟩
  rintro m fr H0 ⟨i, nx, mn, R, him, ⟨g1, g5, g6, g8⟩, tr, gd, hlen, hold⟩ ih
  have hn1 := tr.n1
  have hm1 := tr.m1
  have wi : IntKind.i64.wrap ((i : Int) + 1) = ((i + 1 : Nat) : Int) := wrapI (by omega)
  by_cases hi : (i : Int) < l.length
  · by_cases hi2 : (i : Int) < 40
    · have hin : i < l.length := by omega
      have p1 : (0 : Int) ≤ i := by omega
      have rd := ptC_get (fun i => l.getD i Pt.z) l.length i hin
      have le : i * 3 + 3 ≤ l.length * 3 := by omega
      obtain ⟨p, hp⟩ : ∃ p, l.getD i Pt.z = p := ⟨_, rfl⟩
      simp only [hp] at rd
      have bad : ∀ e : Int, (∀ S', S' = H0 → Call theE 39 [.ptr (S.length + 1) 0 0, .agg [.int .i64 p.t, .int .i64 p.x, .int .i64 p.y]] S' (errA e) S') → True := fun _ _ => trivial
      by_cases hmay : mayP p
      · by_cases hlt : 1 ≤ mn ∧ p.t ≤ (ptI n nx mn R (mn - 1)).t
        · have ad := add_bad2 _ _ _ _ _ _ _ p tr hmay hlt.1 hlt.2
          simp only [errA] at ad
          have tr' := tr
          have gd' := gd
          have hlen' := hlen
          have hold' := hold
          obtain ⟨mq, rfl⟩ : ∃ mq, mq = mn := ⟨mn, rfl⟩
          obtain ⟨G, rfl⟩ : ∃ G, G = H0 := ⟨H0, rfl⟩
          have hmq := hlt.1
          have tr'' := tr'
          obtain ⟨r, hfr, lg⟩ := long_ok _ _ _ _ _ _ _ tr' hmq gd'.may
          have lg := lg _ tr'
          have md := middle_ok _ _ _ _ _ _ _ tr' hmq gd'.may
          have pt := points_ok _ _ _ _ _ _ _ tr'
          have hfl := fun n hn ho => far_long hfr n hn ho
          have gm := gd'.may
          have gr := gd'.rise
          obtain ⟨F, hF⟩ : ∃ F, ptI n nx mq R = F := ⟨_, rfl⟩
          simp only [hF] at md pt hfl gm gr
          have hmn : 1 ≤ mq := hmq
          simp (maxSteps := 2000000) only [wk0, wk1, wk2, wk3, keepA, keepT, Fr.keep, frzT, flatT, arrayAtA, ownT, extT, Fr.ev, Fr.put, Fr.get, initFr, buildSliceA, zeros, pkB, pkT, pkF, ownDst, Env.kd, ofConst, isConst, binA, intI, cmpI, shiftI, convertA, buildA, fillA, fillS, splice, AV.cells?, storeA, readAt, fieldAddrA, fieldA, indexA, extractA, unA, builtinA, appendA, lenA, sliceCells, isSliceK, makeInterfaceA, nilCheckA, eqA, AV.one, AV.plain, if_false, if_true, Nat.reduceEqDiff, reduceIte, Nat.reduceAdd, List.replicate, Nat.reduceLeDiff, Nat.reduceMul, Nat.reduceSub, Nat.reducePow, Int.reduceLT, Int.reduceLE, Int.reduceToNat, Int.reducePow, IntKind.bits, Int.reduceEq, Int.reduceMul, Int.reduceNeg, ne_eq, reduceCtorEq, escT, BEq.rfl, beq_self_eq_true, Int.reduceAdd, Int.reduceSub, Int.reduceMod, Int.reduceDiv, Nat.reduceMod, Nat.reduceDiv, Nat.reduceLT, cond_true, cond_false, gt_iff_lt, ge_iff_le, g1, g5, g6, g8, hi, hi2, p1, rd, le, ptC_len, Int.toNat_natCast, Ytimdnnlfkkkpbaa.D8, keep8, ty1, ty2, ty3, ty4, ty24, ty55, ty68, ty69, ty74, ty75, ty76]
          refine callThen_of (ad) ?_
          simp (maxSteps := 2000000) only [wk0, wk1, wk2, wk3, keepA, keepT, Fr.keep, frzT, flatT, arrayAtA, ownT, extT, Fr.ev, Fr.put, Fr.get, initFr, buildSliceA, zeros, pkB, pkT, pkF, ownDst, Env.kd, ofConst, isConst, binA, intI, cmpI, shiftI, convertA, buildA, fillA, fillS, splice, AV.cells?, storeA, readAt, fieldAddrA, fieldA, indexA, extractA, unA, builtinA, appendA, lenA, sliceCells, isSliceK, makeInterfaceA, nilCheckA, eqA, AV.one, AV.plain, if_false, if_true, Nat.reduceEqDiff, reduceIte, Nat.reduceAdd, List.replicate, Nat.reduceLeDiff, Nat.reduceMul, Nat.reduceSub, Nat.reducePow, Int.reduceLT, Int.reduceLE, Int.reduceToNat, Int.reducePow, IntKind.bits, Int.reduceEq, Int.reduceMul, Int.reduceNeg, ne_eq, reduceCtorEq, escT, BEq.rfl, beq_self_eq_true, Int.reduceAdd, Int.reduceSub, Int.reduceMod, Int.reduceDiv, Nat.reduceMod, Nat.reduceDiv, Nat.reduceLT, cond_true, cond_false, gt_iff_lt, ge_iff_le, g1, g5, g6, g8, hi, hi2, p1, rd, le, ptC_len, Int.toNat_natCast, Ytimdnnlfkkkpbaa.D8, keep8, ty1, ty2, ty3, ty4, ty24, ty55, ty68, ty69, ty74, ty75, ty76]
          have k0 : ¬ (mq : Int) = 0 := by omega
          have kn : ¬ (n : Int) < mq := by omega
          obtain ⟨A0, A1, A2⟩ := ptC_at F mq 0 (by omega)
          simp only [Nat.zero_mul, Nat.zero_add] at A0 A1 A2
          have km : (0 : Int) < mq := by omega
          refine callThen_of (pt) ?_
          simp (maxSteps := 2000000) only [wk0, wk1, wk2, wk3, keepA, keepT, Fr.keep, frzT, flatT, arrayAtA, ownT, extT, Fr.ev, Fr.put, Fr.get, initFr, buildSliceA, zeros, pkB, pkT, pkF, ownDst, Env.kd, ofConst, isConst, binA, intI, cmpI, shiftI, convertA, buildA, fillA, fillS, splice, AV.cells?, storeA, readAt, fieldAddrA, fieldA, indexA, extractA, unA, builtinA, appendA, lenA, sliceCells, isSliceK, makeInterfaceA, nilCheckA, eqA, AV.one, AV.plain, if_false, if_true, Nat.reduceEqDiff, reduceIte, Nat.reduceAdd, List.replicate, Nat.reduceLeDiff, Nat.reduceMul, Nat.reduceSub, Nat.reducePow, Int.reduceLT, Int.reduceLE, Int.reduceToNat, Int.reducePow, IntKind.bits, Int.reduceEq, Int.reduceMul, Int.reduceNeg, ne_eq, reduceCtorEq, escT, BEq.rfl, beq_self_eq_true, Int.reduceAdd, Int.reduceSub, Int.reduceMod, Int.reduceDiv, Nat.reduceMod, Nat.reduceDiv, Nat.reduceLT, cond_true, cond_false, gt_iff_lt, ge_iff_le, g1, g5, g6, g8, k0, kn, A0, A1, A2, km, hi, Ytimdnnlfkkkpbaa.D8, keep8, ty1, ty2, ty3, ty4, ty24, ty55, ty68, ty69, ty74, ty75, ty76]
          refine callThen_of (lg) ?_
          simp (maxSteps := 2000000) only [wk0, wk1, wk2, wk3, keepA, keepT, Fr.keep, frzT, flatT, arrayAtA, ownT, extT, Fr.ev, Fr.put, Fr.get, initFr, buildSliceA, zeros, pkB, pkT, pkF, ownDst, Env.kd, ofConst, isConst, binA, intI, cmpI, shiftI, convertA, buildA, fillA, fillS, splice, AV.cells?, storeA, readAt, fieldAddrA, fieldA, indexA, extractA, unA, builtinA, appendA, lenA, sliceCells, isSliceK, makeInterfaceA, nilCheckA, eqA, AV.one, AV.plain, if_false, if_true, Nat.reduceEqDiff, reduceIte, Nat.reduceAdd, List.replicate, Nat.reduceLeDiff, Nat.reduceMul, Nat.reduceSub, Nat.reducePow, Int.reduceLT, Int.reduceLE, Int.reduceToNat, Int.reducePow, IntKind.bits, Int.reduceEq, Int.reduceMul, Int.reduceNeg, ne_eq, reduceCtorEq, escT, BEq.rfl, beq_self_eq_true, Int.reduceAdd, Int.reduceSub, Int.reduceMod, Int.reduceDiv, Nat.reduceMod, Nat.reduceDiv, Nat.reduceLT, cond_true, cond_false, gt_iff_lt, ge_iff_le, g1, g5, g6, g8, k0, kn, A0, A1, A2, km, hi, Ytimdnnlfkkkpbaa.D8, keep8, ty1, ty2, ty3, ty4, ty24, ty55, ty68, ty69, ty74, ty75, ty76]
          refine callThen_of (md) ?_
          simp (maxSteps := 2000000) only [wk0, wk1, wk2, wk3, keepA, keepT, Fr.keep, frzT, flatT, arrayAtA, ownT, extT, Fr.ev, Fr.put, Fr.get, initFr, buildSliceA, zeros, pkB, pkT, pkF, ownDst, Env.kd, ofConst, isConst, binA, intI, cmpI, shiftI, convertA, buildA, fillA, fillS, splice, AV.cells?, storeA, readAt, fieldAddrA, fieldA, indexA, extractA, unA, builtinA, appendA, lenA, sliceCells, isSliceK, makeInterfaceA, nilCheckA, eqA, AV.one, AV.plain, if_false, if_true, Nat.reduceEqDiff, reduceIte, Nat.reduceAdd, List.replicate, Nat.reduceLeDiff, Nat.reduceMul, Nat.reduceSub, Nat.reducePow, Int.reduceLT, Int.reduceLE, Int.reduceToNat, Int.reducePow, IntKind.bits, Int.reduceEq, Int.reduceMul, Int.reduceNeg, ne_eq, reduceCtorEq, escT, BEq.rfl, beq_self_eq_true, Int.reduceAdd, Int.reduceSub, Int.reduceMod, Int.reduceDiv, Nat.reduceMod, Nat.reduceDiv, Nat.reduceLT, cond_true, cond_false, gt_iff_lt, ge_iff_le, g1, g5, g6, g8, k0, kn, A0, A1, A2, km, hi, Ytimdnnlfkkkpbaa.D8, keep8, ty1, ty2, ty3, ty4, ty24, ty55, ty68, ty69, ty74, ty75, ty76]
          refine loopC_ind (fun m' fr H => ∃ (k : Nat) (La Lb Lc Ld : Int), k + m' = mq ∧ (fr.get 1 = .lst (ptC (fun i => l.getD i Pt.z) l.length) l.length ∧ fr.get 5 = .int .i64 n ∧ fr.get 6 = .ptr (S.length + 1) 0 0 ∧ fr.get 8 = .int .i64 (i : Int)) ∧
            (fr.get 10 = .lst (ptC F mq) mq ∧ fr.get 11 = .int .i64 (lnS r (mq - 1)) ∧ fr.get 12 = .bool (lnO r (mq - 1)) ∧ fr.get 13 = .int .i64 (smI (fun i => (F i).x) mq / mq) ∧ fr.get 14 = .int .i64 (smI (fun i => (F i).y) mq / mq) ∧ fr.get 15 = .nili) ∧
            (fr.get 16 = .int .i64 La ∧ fr.get 17 = .int .i64 Lb ∧ fr.get 18 = .int .i64 Lc ∧ fr.get 19 = .int .i64 Ld ∧ fr.get 20 = .int .i64 (k : Int)) ∧
            (∀ j, j < k → (La ≤ (F j).x ∧ (F j).x ≤ Lb) ∧ Lc ≤ (F j).y ∧ (F j).y ≤ Ld) ∧ H = G) ?_ (n := mq)
            ⟨0, _, _, _, _, by omega, ⟨by simp [Fr.get, g1], by simp [Fr.get, g5], by simp [Fr.get, g6], by simp [Fr.get, g8]⟩, ⟨by simp [Fr.get], by simp [Fr.get], by simp [Fr.get], by simp [Fr.get], by simp [Fr.get], by simp [Fr.get]⟩, ⟨rfl, rfl, rfl, rfl, by simp [Fr.get]⟩, fun j hj => by omega, rfl⟩
          clear g1 g5 g6 g8
          rintro m' fr H ⟨k, La, Lb, Lc, Ld, hkm, ⟨g1, g5, g6, g8⟩, ⟨g10, g11, g12, g13, g14, g15⟩, ⟨g16, g17, g18, g19, g20⟩, hall, rfl⟩ ih2
          by_cases hk : (k : Int) < mq
          · have hkn : k < mq := by omega
            have q1 : (0 : Int) ≤ k := by omega
            have wk : IntKind.i64.wrap ((k : Int) + 1) = ((k + 1 : Nat) : Int) := wrapI (by omega)
            obtain ⟨B0, B1, B2⟩ := ptC_at F mq k hkn
            have hall' : ∀ j, j < k + 1 → (min La (F k).x ≤ (F j).x ∧ (F j).x ≤ max Lb (F k).x) ∧ min Lc (F k).y ≤ (F j).y ∧ (F j).y ≤ max Ld (F k).y := fun j hj => by
              rcases Nat.lt_or_ge j k with h | h
              · have := hall j h; omega
              · obtain rfl : j = k := by omega
                omega
            by_cases hz : k = 0
            · have q2 : ¬ (0 : Int) < (k : Int) := by omega
              simp (maxSteps := 2000000) only [wk0, wk1, wk2, wk3, keepA, keepT, Fr.keep, frzT, flatT, arrayAtA, ownT, extT, Fr.ev, Fr.put, Fr.get, initFr, buildSliceA, zeros, pkB, pkT, pkF, ownDst, Env.kd, ofConst, isConst, binA, intI, cmpI, shiftI, convertA, buildA, fillA, fillS, splice, AV.cells?, storeA, readAt, fieldAddrA, fieldA, indexA, extractA, unA, builtinA, appendA, lenA, sliceCells, isSliceK, makeInterfaceA, nilCheckA, eqA, AV.one, AV.plain, if_false, if_true, Nat.reduceEqDiff, reduceIte, Nat.reduceAdd, List.replicate, Nat.reduceLeDiff, Nat.reduceMul, Nat.reduceSub, Nat.reducePow, Int.reduceLT, Int.reduceLE, Int.reduceToNat, Int.reducePow, IntKind.bits, Int.reduceEq, Int.reduceMul, Int.reduceNeg, ne_eq, reduceCtorEq, escT, BEq.rfl, beq_self_eq_true, Int.reduceAdd, Int.reduceSub, Int.reduceMod, Int.reduceDiv, Nat.reduceMod, Nat.reduceDiv, Nat.reduceLT, cond_true, cond_false, gt_iff_lt, ge_iff_le, g1, g5, g6, g8, g10, g11, g12, g13, g14, g15, g16, g17, g18, g19, g20, hk, q1, q2, wk, B0, B1, B2, Int.toNat_natCast, Ytimdnnlfkkkpbaa.D8, keep8, ty1, ty2, ty3, ty4, ty24, ty55, ty68, ty69, ty74, ty75, ty76]
              exact ih2 (m' - 1) _ _ (by omega) ⟨k + 1, min La (F k).x, max Lb (F k).x, min Lc (F k).y, max Ld (F k).y, by omega, ⟨by simp [Fr.get, g1], by simp [Fr.get, g5], by simp [Fr.get, g6], by simp [Fr.get, g8]⟩, ⟨by simp [Fr.get, g10], by simp [Fr.get, g11], by simp [Fr.get, g12], by simp [Fr.get, g13], by simp [Fr.get, g14], by simp [Fr.get, g15]⟩, ⟨by simp [Fr.get], by simp [Fr.get], by simp [Fr.get], by simp [Fr.get], by simp [Fr.get]⟩, hall', rfl⟩
            · have q2 : (0 : Int) < k := by omega
              have w1 : IntKind.i64.wrap ((k : Int) - 1) = ((k - 1 : Nat) : Int) := by rw [wrapI (by omega)]; omega
              have q3 : (0 : Int) ≤ ((k - 1 : Nat) : Int) := by omega
              have q4 : ((k - 1 : Nat) : Int) < mq := by omega
              obtain ⟨C0, _, _⟩ := ptC_at F mq (k - 1) (by omega)
              have q5 : ¬ (F k).t ≤ (F (k - 1)).t := by
                have := gr (k - 1) (by omega)
                rw [show k - 1 + 1 = k by omega] at this
                omega
              simp (maxSteps := 2000000) only [wk0, wk1, wk2, wk3, keepA, keepT, Fr.keep, frzT, flatT, arrayAtA, ownT, extT, Fr.ev, Fr.put, Fr.get, initFr, buildSliceA, zeros, pkB, pkT, pkF, ownDst, Env.kd, ofConst, isConst, binA, intI, cmpI, shiftI, convertA, buildA, fillA, fillS, splice, AV.cells?, storeA, readAt, fieldAddrA, fieldA, indexA, extractA, unA, builtinA, appendA, lenA, sliceCells, isSliceK, makeInterfaceA, nilCheckA, eqA, AV.one, AV.plain, if_false, if_true, Nat.reduceEqDiff, reduceIte, Nat.reduceAdd, List.replicate, Nat.reduceLeDiff, Nat.reduceMul, Nat.reduceSub, Nat.reducePow, Int.reduceLT, Int.reduceLE, Int.reduceToNat, Int.reducePow, IntKind.bits, Int.reduceEq, Int.reduceMul, Int.reduceNeg, ne_eq, reduceCtorEq, escT, BEq.rfl, beq_self_eq_true, Int.reduceAdd, Int.reduceSub, Int.reduceMod, Int.reduceDiv, Nat.reduceMod, Nat.reduceDiv, Nat.reduceLT, cond_true, cond_false, gt_iff_lt, ge_iff_le, g1, g5, g6, g8, g10, g11, g12, g13, g14, g15, g16, g17, g18, g19, g20, hk, q1, q2, w1, q3, q4, C0, q5, wk, B0, B1, B2, Int.toNat_natCast, Ytimdnnlfkkkpbaa.D8, keep8, ty1, ty2, ty3, ty4, ty24, ty55, ty68, ty69, ty74, ty75, ty76]
              exact ih2 (m' - 1) _ _ (by omega) ⟨k + 1, min La (F k).x, max Lb (F k).x, min Lc (F k).y, max Ld (F k).y, by omega, ⟨by simp [Fr.get, g1], by simp [Fr.get, g5], by simp [Fr.get, g6], by simp [Fr.get, g8]⟩, ⟨by simp [Fr.get, g10], by simp [Fr.get, g11], by simp [Fr.get, g12], by simp [Fr.get, g13], by simp [Fr.get, g14], by simp [Fr.get, g15]⟩, ⟨by simp [Fr.get], by simp [Fr.get], by simp [Fr.get], by simp [Fr.get], by simp [Fr.get]⟩, hall', rfl⟩
          · obtain rfl : k = mq := by omega
            obtain ⟨mx1, mx2⟩ := mid_in (f := fun i => (F i).x) (lo := La) (hi := Lb) hmn fun j hj => (hall j hj).1
            obtain ⟨my1, my2⟩ := mid_in (f := fun i => (F i).y) (lo := Lc) (hi := Ld) hmn fun j hj => (hall j hj).2
            have w1 : IntKind.i64.wrap ((k : Int) - 1) = ((k - 1 : Nat) : Int) := by rw [wrapI (by omega)]; omega
            have q3 : (0 : Int) ≤ ((k - 1 : Nat) : Int) := by omega
            have q4 : ((k - 1 : Nat) : Int) < k := by omega
            obtain ⟨_, C1, _⟩ := ptC_at F k (k - 1) (by omega)
            have ma := gm (k - 1) (by omega)
            have mb := gm 0 (by omega)
            unfold mayP at ma mb
            have hfl := hfl (k - 1) (by omega)
            have wi : IntKind.i64.wrap ((i : Int) + 1) = ((i + 1 : Nat) : Int) := wrapI (by omega)
            obtain ⟨d, hd⟩ : ∃ d, (F (k - 1)).x - (F 0).x = d := ⟨_, rfl⟩
            have wd : IntKind.i64.wrap ((F (k - 1)).x - (F 0).x) = d := by rw [wrapI (by omega)]; exact hd
            by_cases hneg : d < 0
            · have wn : IntKind.i64.wrap (0 - d) = -d := by rw [wrapI (by omega)]; omega
              have wl : IntKind.i64.wrap (-d - k) = -d - k := wrapI (by omega)
              cases ho : lnO r (k - 1)
              · have hx := hfl ho
                have q6 : ¬ lnS r (k - 1) < -d - k := by omega
                simp (maxSteps := 2000000) only [wk0, wk1, wk2, wk3, keepA, keepT, Fr.keep, frzT, flatT, arrayAtA, ownT, extT, Fr.ev, Fr.put, Fr.get, initFr, buildSliceA, zeros, pkB, pkT, pkF, ownDst, Env.kd, ofConst, isConst, binA, intI, cmpI, shiftI, convertA, buildA, fillA, fillS, splice, AV.cells?, storeA, readAt, fieldAddrA, fieldA, indexA, extractA, unA, builtinA, appendA, lenA, sliceCells, isSliceK, makeInterfaceA, nilCheckA, eqA, AV.one, AV.plain, if_false, if_true, Nat.reduceEqDiff, reduceIte, Nat.reduceAdd, List.replicate, Nat.reduceLeDiff, Nat.reduceMul, Nat.reduceSub, Nat.reducePow, Int.reduceLT, Int.reduceLE, Int.reduceToNat, Int.reducePow, IntKind.bits, Int.reduceEq, Int.reduceMul, Int.reduceNeg, ne_eq, reduceCtorEq, escT, BEq.rfl, beq_self_eq_true, Int.reduceAdd, Int.reduceSub, Int.reduceMod, Int.reduceDiv, Nat.reduceMod, Nat.reduceDiv, Nat.reduceLT, cond_true, cond_false, gt_iff_lt, ge_iff_le, g1, g5, g6, g8, g10, g11, g12, g13, g14, g15, g16, g17, g18, g19, g20, hk, km, A0, A1, A2, w1, q3, q4, C1, wd, hneg, wn, wl, mx1, mx2, my1, my2, ho, q6, wi, Int.toNat_natCast, Ytimdnnlfkkkpbaa.D8, keep8, ty1, ty2, ty3, ty4, ty24, ty55, ty68, ty69, ty74, ty75, ty76]
                exact ih (m - 1) _ _ (by omega) ⟨i + 1, _, _, _, by omega, ⟨by simp [Fr.get, g1], by simp [Fr.get, g5], by simp [Fr.get, g6], by simp [Fr.get]⟩, tr', gd', hlen', hold'⟩
              · simp (maxSteps := 2000000) only [wk0, wk1, wk2, wk3, keepA, keepT, Fr.keep, frzT, flatT, arrayAtA, ownT, extT, Fr.ev, Fr.put, Fr.get, initFr, buildSliceA, zeros, pkB, pkT, pkF, ownDst, Env.kd, ofConst, isConst, binA, intI, cmpI, shiftI, convertA, buildA, fillA, fillS, splice, AV.cells?, storeA, readAt, fieldAddrA, fieldA, indexA, extractA, unA, builtinA, appendA, lenA, sliceCells, isSliceK, makeInterfaceA, nilCheckA, eqA, AV.one, AV.plain, if_false, if_true, Nat.reduceEqDiff, reduceIte, Nat.reduceAdd, List.replicate, Nat.reduceLeDiff, Nat.reduceMul, Nat.reduceSub, Nat.reducePow, Int.reduceLT, Int.reduceLE, Int.reduceToNat, Int.reducePow, IntKind.bits, Int.reduceEq, Int.reduceMul, Int.reduceNeg, ne_eq, reduceCtorEq, escT, BEq.rfl, beq_self_eq_true, Int.reduceAdd, Int.reduceSub, Int.reduceMod, Int.reduceDiv, Nat.reduceMod, Nat.reduceDiv, Nat.reduceLT, cond_true, cond_false, gt_iff_lt, ge_iff_le, g1, g5, g6, g8, g10, g11, g12, g13, g14, g15, g16, g17, g18, g19, g20, hk, km, A0, A1, A2, w1, q3, q4, C1, wd, hneg, wn, wl, mx1, mx2, my1, my2, ho, wi, Int.toNat_natCast, Ytimdnnlfkkkpbaa.D8, keep8, ty1, ty2, ty3, ty4, ty24, ty55, ty68, ty69, ty74, ty75, ty76]
                exact ih (m - 1) _ _ (by omega) ⟨i + 1, _, _, _, by omega, ⟨by simp [Fr.get, g1], by simp [Fr.get, g5], by simp [Fr.get, g6], by simp [Fr.get]⟩, tr', gd', hlen', hold'⟩
            · have wl : IntKind.i64.wrap (d - k) = d - k := wrapI (by omega)
              cases ho : lnO r (k - 1)
              · have hx := hfl ho
                have q6 : ¬ lnS r (k - 1) < d - k := by omega
                simp (maxSteps := 2000000) only [wk0, wk1, wk2, wk3, keepA, keepT, Fr.keep, frzT, flatT, arrayAtA, ownT, extT, Fr.ev, Fr.put, Fr.get, initFr, buildSliceA, zeros, pkB, pkT, pkF, ownDst, Env.kd, ofConst, isConst, binA, intI, cmpI, shiftI, convertA, buildA, fillA, fillS, splice, AV.cells?, storeA, readAt, fieldAddrA, fieldA, indexA, extractA, unA, builtinA, appendA, lenA, sliceCells, isSliceK, makeInterfaceA, nilCheckA, eqA, AV.one, AV.plain, if_false, if_true, Nat.reduceEqDiff, reduceIte, Nat.reduceAdd, List.replicate, Nat.reduceLeDiff, Nat.reduceMul, Nat.reduceSub, Nat.reducePow, Int.reduceLT, Int.reduceLE, Int.reduceToNat, Int.reducePow, IntKind.bits, Int.reduceEq, Int.reduceMul, Int.reduceNeg, ne_eq, reduceCtorEq, escT, BEq.rfl, beq_self_eq_true, Int.reduceAdd, Int.reduceSub, Int.reduceMod, Int.reduceDiv, Nat.reduceMod, Nat.reduceDiv, Nat.reduceLT, cond_true, cond_false, gt_iff_lt, ge_iff_le, g1, g5, g6, g8, g10, g11, g12, g13, g14, g15, g16, g17, g18, g19, g20, hk, km, A0, A1, A2, w1, q3, q4, C1, wd, hneg, wl, mx1, mx2, my1, my2, ho, q6, wi, Int.toNat_natCast, Ytimdnnlfkkkpbaa.D8, keep8, ty1, ty2, ty3, ty4, ty24, ty55, ty68, ty69, ty74, ty75, ty76]
                exact ih (m - 1) _ _ (by omega) ⟨i + 1, _, _, _, by omega, ⟨by simp [Fr.get, g1], by simp [Fr.get, g5], by simp [Fr.get, g6], by simp [Fr.get]⟩, tr', gd', hlen', hold'⟩
              · simp (maxSteps := 2000000) only [wk0, wk1, wk2, wk3, keepA, keepT, Fr.keep, frzT, flatT, arrayAtA, ownT, extT, Fr.ev, Fr.put, Fr.get, initFr, buildSliceA, zeros, pkB, pkT, pkF, ownDst, Env.kd, ofConst, isConst, binA, intI, cmpI, shiftI, convertA, buildA, fillA, fillS, splice, AV.cells?, storeA, readAt, fieldAddrA, fieldA, indexA, extractA, unA, builtinA, appendA, lenA, sliceCells, isSliceK, makeInterfaceA, nilCheckA, eqA, AV.one, AV.plain, if_false, if_true, Nat.reduceEqDiff, reduceIte, Nat.reduceAdd, List.replicate, Nat.reduceLeDiff, Nat.reduceMul, Nat.reduceSub, Nat.reducePow, Int.reduceLT, Int.reduceLE, Int.reduceToNat, Int.reducePow, IntKind.bits, Int.reduceEq, Int.reduceMul, Int.reduceNeg, ne_eq, reduceCtorEq, escT, BEq.rfl, beq_self_eq_true, Int.reduceAdd, Int.reduceSub, Int.reduceMod, Int.reduceDiv, Nat.reduceMod, Nat.reduceDiv, Nat.reduceLT, cond_true, cond_false, gt_iff_lt, ge_iff_le, g1, g5, g6, g8, g10, g11, g12, g13, g14, g15, g16, g17, g18, g19, g20, hk, km, A0, A1, A2, w1, q3, q4, C1, wd, hneg, wl, mx1, mx2, my1, my2, ho, wi, Int.toNat_natCast, Ytimdnnlfkkkpbaa.D8, keep8, ty1, ty2, ty3, ty4, ty24, ty55, ty68, ty69, ty74, ty75, ty76]
                exact ih (m - 1) _ _ (by omega) ⟨i + 1, _, _, _, by omega, ⟨by simp [Fr.get, g1], by simp [Fr.get, g5], by simp [Fr.get, g6], by simp [Fr.get]⟩, tr', gd', hlen', hold'⟩
        · obtain ⟨G, hl', tr', k', ad⟩ := add_trail _ _ _ _ _ _ _ p tr hmay (fun h ht => hlt ⟨h, ht⟩)
          have gd' := good_add hnb.1 hn1 hm1 gd hmay (fun h ht => hlt ⟨h, ht⟩)
          have hlast := ptI_add n nx mn R p hnb.1 hn1 hm1 (min (mn + 1) n - 1) (by omega)
          rw [if_pos rfl] at hlast
          have hlen' : G.length = S.length + 2 := by omega
          have hold' : ∀ j, j < S.length → G[j]? = S[j]? := fun j hj => (k' j (by omega) (by omega)).trans (hold j hj)
          have hmq : 1 ≤ min (mn + 1) n := by omega
          have hmqn : min (mn + 1) n ≤ n := by omega
          obtain ⟨mq, hmqe⟩ : ∃ mq, min (mn + 1) n = mq := ⟨_, rfl⟩
          rw [hmqe] at gd' tr' hlast hmq hmqn
          have tr'' := tr'
          obtain ⟨r, hfr, lg⟩ := long_ok _ _ _ _ _ _ _ tr' hmq gd'.may
          have lg := lg _ tr'
          have md := middle_ok _ _ _ _ _ _ _ tr' hmq gd'.may
          have pt := points_ok _ _ _ _ _ _ _ tr'
          have hfl := fun n hn ho => far_long hfr n hn ho
          have gm := gd'.may
          have gr := gd'.rise
          obtain ⟨F, hF⟩ : ∃ F, ptI n ((nx + 1) % n) mq (upd R nx p) = F := ⟨_, rfl⟩
          simp only [hF] at md pt hfl gm gr
          have hmn : 1 ≤ mq := hmq
          simp (maxSteps := 2000000) only [wk0, wk1, wk2, wk3, keepA, keepT, Fr.keep, frzT, flatT, arrayAtA, ownT, extT, Fr.ev, Fr.put, Fr.get, initFr, buildSliceA, zeros, pkB, pkT, pkF, ownDst, Env.kd, ofConst, isConst, binA, intI, cmpI, shiftI, convertA, buildA, fillA, fillS, splice, AV.cells?, storeA, readAt, fieldAddrA, fieldA, indexA, extractA, unA, builtinA, appendA, lenA, sliceCells, isSliceK, makeInterfaceA, nilCheckA, eqA, AV.one, AV.plain, if_false, if_true, Nat.reduceEqDiff, reduceIte, Nat.reduceAdd, List.replicate, Nat.reduceLeDiff, Nat.reduceMul, Nat.reduceSub, Nat.reducePow, Int.reduceLT, Int.reduceLE, Int.reduceToNat, Int.reducePow, IntKind.bits, Int.reduceEq, Int.reduceMul, Int.reduceNeg, ne_eq, reduceCtorEq, escT, BEq.rfl, beq_self_eq_true, Int.reduceAdd, Int.reduceSub, Int.reduceMod, Int.reduceDiv, Nat.reduceMod, Nat.reduceDiv, Nat.reduceLT, cond_true, cond_false, gt_iff_lt, ge_iff_le, g1, g5, g6, g8, hi, hi2, p1, rd, le, ptC_len, Int.toNat_natCast, Ytimdnnlfkkkpbaa.D8, keep8, ty1, ty2, ty3, ty4, ty24, ty55, ty68, ty69, ty74, ty75, ty76]
          refine callThen_of (ad) ?_
          simp (maxSteps := 2000000) only [wk0, wk1, wk2, wk3, keepA, keepT, Fr.keep, frzT, flatT, arrayAtA, ownT, extT, Fr.ev, Fr.put, Fr.get, initFr, buildSliceA, zeros, pkB, pkT, pkF, ownDst, Env.kd, ofConst, isConst, binA, intI, cmpI, shiftI, convertA, buildA, fillA, fillS, splice, AV.cells?, storeA, readAt, fieldAddrA, fieldA, indexA, extractA, unA, builtinA, appendA, lenA, sliceCells, isSliceK, makeInterfaceA, nilCheckA, eqA, AV.one, AV.plain, if_false, if_true, Nat.reduceEqDiff, reduceIte, Nat.reduceAdd, List.replicate, Nat.reduceLeDiff, Nat.reduceMul, Nat.reduceSub, Nat.reducePow, Int.reduceLT, Int.reduceLE, Int.reduceToNat, Int.reducePow, IntKind.bits, Int.reduceEq, Int.reduceMul, Int.reduceNeg, ne_eq, reduceCtorEq, escT, BEq.rfl, beq_self_eq_true, Int.reduceAdd, Int.reduceSub, Int.reduceMod, Int.reduceDiv, Nat.reduceMod, Nat.reduceDiv, Nat.reduceLT, cond_true, cond_false, gt_iff_lt, ge_iff_le, g1, g5, g6, g8, hi, hi2, p1, rd, le, ptC_len, Int.toNat_natCast, Ytimdnnlfkkkpbaa.D8, keep8, ty1, ty2, ty3, ty4, ty24, ty55, ty68, ty69, ty74, ty75, ty76]
          rw [hF] at hlast
          have lst := ptC_get F mq (mq - 1) (by omega)
          rw [hlast] at lst
          have v1 : IntKind.i64.wrap ((mq : Int) - 1) = ((mq - 1 : Nat) : Int) := by rw [wrapI (by omega)]; omega
          have v2 : (0 : Int) ≤ ((mq - 1 : Nat) : Int) := by omega
          have v3 : ((mq - 1 : Nat) : Int) < mq := by omega
          have v4 : (mq - 1) * 3 + 3 ≤ mq * 3 := by omega
          have k0 : ¬ (mq : Int) = 0 := by omega
          have kn : ¬ (n : Int) < mq := by omega
          obtain ⟨A0, A1, A2⟩ := ptC_at F mq 0 (by omega)
          simp only [Nat.zero_mul, Nat.zero_add] at A0 A1 A2
          have km : (0 : Int) < mq := by omega
          refine callThen_of (pt) ?_
          simp (maxSteps := 2000000) only [wk0, wk1, wk2, wk3, keepA, keepT, Fr.keep, frzT, flatT, arrayAtA, ownT, extT, Fr.ev, Fr.put, Fr.get, initFr, buildSliceA, zeros, pkB, pkT, pkF, ownDst, Env.kd, ofConst, isConst, binA, intI, cmpI, shiftI, convertA, buildA, fillA, fillS, splice, AV.cells?, storeA, readAt, fieldAddrA, fieldA, indexA, extractA, unA, builtinA, appendA, lenA, sliceCells, isSliceK, makeInterfaceA, nilCheckA, eqA, AV.one, AV.plain, if_false, if_true, Nat.reduceEqDiff, reduceIte, Nat.reduceAdd, List.replicate, Nat.reduceLeDiff, Nat.reduceMul, Nat.reduceSub, Nat.reducePow, Int.reduceLT, Int.reduceLE, Int.reduceToNat, Int.reducePow, IntKind.bits, Int.reduceEq, Int.reduceMul, Int.reduceNeg, ne_eq, reduceCtorEq, escT, BEq.rfl, beq_self_eq_true, Int.reduceAdd, Int.reduceSub, Int.reduceMod, Int.reduceDiv, Nat.reduceMod, Nat.reduceDiv, Nat.reduceLT, cond_true, cond_false, gt_iff_lt, ge_iff_le, g1, g5, g6, g8, k0, kn, A0, A1, A2, km, v1, v2, v3, v4, lst, p1, rd, le, hi, ptC_len, all3, Int.toNat_natCast, Ytimdnnlfkkkpbaa.D8, keep8, ty1, ty2, ty3, ty4, ty24, ty55, ty68, ty69, ty74, ty75, ty76]
          refine callThen_of (lg) ?_
          simp (maxSteps := 2000000) only [wk0, wk1, wk2, wk3, keepA, keepT, Fr.keep, frzT, flatT, arrayAtA, ownT, extT, Fr.ev, Fr.put, Fr.get, initFr, buildSliceA, zeros, pkB, pkT, pkF, ownDst, Env.kd, ofConst, isConst, binA, intI, cmpI, shiftI, convertA, buildA, fillA, fillS, splice, AV.cells?, storeA, readAt, fieldAddrA, fieldA, indexA, extractA, unA, builtinA, appendA, lenA, sliceCells, isSliceK, makeInterfaceA, nilCheckA, eqA, AV.one, AV.plain, if_false, if_true, Nat.reduceEqDiff, reduceIte, Nat.reduceAdd, List.replicate, Nat.reduceLeDiff, Nat.reduceMul, Nat.reduceSub, Nat.reducePow, Int.reduceLT, Int.reduceLE, Int.reduceToNat, Int.reducePow, IntKind.bits, Int.reduceEq, Int.reduceMul, Int.reduceNeg, ne_eq, reduceCtorEq, escT, BEq.rfl, beq_self_eq_true, Int.reduceAdd, Int.reduceSub, Int.reduceMod, Int.reduceDiv, Nat.reduceMod, Nat.reduceDiv, Nat.reduceLT, cond_true, cond_false, gt_iff_lt, ge_iff_le, g1, g5, g6, g8, k0, kn, A0, A1, A2, km, v1, v2, v3, v4, lst, p1, rd, le, hi, ptC_len, all3, Int.toNat_natCast, Ytimdnnlfkkkpbaa.D8, keep8, ty1, ty2, ty3, ty4, ty24, ty55, ty68, ty69, ty74, ty75, ty76]
          refine callThen_of (md) ?_
          simp (maxSteps := 2000000) only [wk0, wk1, wk2, wk3, keepA, keepT, Fr.keep, frzT, flatT, arrayAtA, ownT, extT, Fr.ev, Fr.put, Fr.get, initFr, buildSliceA, zeros, pkB, pkT, pkF, ownDst, Env.kd, ofConst, isConst, binA, intI, cmpI, shiftI, convertA, buildA, fillA, fillS, splice, AV.cells?, storeA, readAt, fieldAddrA, fieldA, indexA, extractA, unA, builtinA, appendA, lenA, sliceCells, isSliceK, makeInterfaceA, nilCheckA, eqA, AV.one, AV.plain, if_false, if_true, Nat.reduceEqDiff, reduceIte, Nat.reduceAdd, List.replicate, Nat.reduceLeDiff, Nat.reduceMul, Nat.reduceSub, Nat.reducePow, Int.reduceLT, Int.reduceLE, Int.reduceToNat, Int.reducePow, IntKind.bits, Int.reduceEq, Int.reduceMul, Int.reduceNeg, ne_eq, reduceCtorEq, escT, BEq.rfl, beq_self_eq_true, Int.reduceAdd, Int.reduceSub, Int.reduceMod, Int.reduceDiv, Nat.reduceMod, Nat.reduceDiv, Nat.reduceLT, cond_true, cond_false, gt_iff_lt, ge_iff_le, g1, g5, g6, g8, k0, kn, A0, A1, A2, km, v1, v2, v3, v4, lst, p1, rd, le, hi, ptC_len, all3, Int.toNat_natCast, Ytimdnnlfkkkpbaa.D8, keep8, ty1, ty2, ty3, ty4, ty24, ty55, ty68, ty69, ty74, ty75, ty76]
          refine loopC_ind (fun m' fr H => ∃ (k : Nat) (La Lb Lc Ld : Int), k + m' = mq ∧ (fr.get 1 = .lst (ptC (fun i => l.getD i Pt.z) l.length) l.length ∧ fr.get 5 = .int .i64 n ∧ fr.get 6 = .ptr (S.length + 1) 0 0 ∧ fr.get 8 = .int .i64 (i : Int)) ∧
            (fr.get 10 = .lst (ptC F mq) mq ∧ fr.get 11 = .int .i64 (lnS r (mq - 1)) ∧ fr.get 12 = .bool (lnO r (mq - 1)) ∧ fr.get 13 = .int .i64 (smI (fun i => (F i).x) mq / mq) ∧ fr.get 14 = .int .i64 (smI (fun i => (F i).y) mq / mq) ∧ fr.get 15 = .nili) ∧
            (fr.get 16 = .int .i64 La ∧ fr.get 17 = .int .i64 Lb ∧ fr.get 18 = .int .i64 Lc ∧ fr.get 19 = .int .i64 Ld ∧ fr.get 20 = .int .i64 (k : Int)) ∧
            (∀ j, j < k → (La ≤ (F j).x ∧ (F j).x ≤ Lb) ∧ Lc ≤ (F j).y ∧ (F j).y ≤ Ld) ∧ H = G) ?_ (n := mq)
            ⟨0, _, _, _, _, by omega, ⟨by simp [Fr.get, g1], by simp [Fr.get, g5], by simp [Fr.get, g6], by simp [Fr.get, g8]⟩, ⟨by simp [Fr.get], by simp [Fr.get], by simp [Fr.get], by simp [Fr.get], by simp [Fr.get], by simp [Fr.get]⟩, ⟨rfl, rfl, rfl, rfl, by simp [Fr.get]⟩, fun j hj => by omega, rfl⟩
          clear g1 g5 g6 g8
          rintro m' fr H ⟨k, La, Lb, Lc, Ld, hkm, ⟨g1, g5, g6, g8⟩, ⟨g10, g11, g12, g13, g14, g15⟩, ⟨g16, g17, g18, g19, g20⟩, hall, rfl⟩ ih2
          by_cases hk : (k : Int) < mq
          · have hkn : k < mq := by omega
            have q1 : (0 : Int) ≤ k := by omega
            have wk : IntKind.i64.wrap ((k : Int) + 1) = ((k + 1 : Nat) : Int) := wrapI (by omega)
            obtain ⟨B0, B1, B2⟩ := ptC_at F mq k hkn
            have hall' : ∀ j, j < k + 1 → (min La (F k).x ≤ (F j).x ∧ (F j).x ≤ max Lb (F k).x) ∧ min Lc (F k).y ≤ (F j).y ∧ (F j).y ≤ max Ld (F k).y := fun j hj => by
              rcases Nat.lt_or_ge j k with h | h
              · have := hall j h; omega
              · obtain rfl : j = k := by omega
                omega
            by_cases hz : k = 0
            · have q2 : ¬ (0 : Int) < (k : Int) := by omega
              simp (maxSteps := 2000000) only [wk0, wk1, wk2, wk3, keepA, keepT, Fr.keep, frzT, flatT, arrayAtA, ownT, extT, Fr.ev, Fr.put, Fr.get, initFr, buildSliceA, zeros, pkB, pkT, pkF, ownDst, Env.kd, ofConst, isConst, binA, intI, cmpI, shiftI, convertA, buildA, fillA, fillS, splice, AV.cells?, storeA, readAt, fieldAddrA, fieldA, indexA, extractA, unA, builtinA, appendA, lenA, sliceCells, isSliceK, makeInterfaceA, nilCheckA, eqA, AV.one, AV.plain, if_false, if_true, Nat.reduceEqDiff, reduceIte, Nat.reduceAdd, List.replicate, Nat.reduceLeDiff, Nat.reduceMul, Nat.reduceSub, Nat.reducePow, Int.reduceLT, Int.reduceLE, Int.reduceToNat, Int.reducePow, IntKind.bits, Int.reduceEq, Int.reduceMul, Int.reduceNeg, ne_eq, reduceCtorEq, escT, BEq.rfl, beq_self_eq_true, Int.reduceAdd, Int.reduceSub, Int.reduceMod, Int.reduceDiv, Nat.reduceMod, Nat.reduceDiv, Nat.reduceLT, cond_true, cond_false, gt_iff_lt, ge_iff_le, g1, g5, g6, g8, g10, g11, g12, g13, g14, g15, g16, g17, g18, g19, g20, hk, q1, q2, wk, B0, B1, B2, Int.toNat_natCast, Ytimdnnlfkkkpbaa.D8, keep8, ty1, ty2, ty3, ty4, ty24, ty55, ty68, ty69, ty74, ty75, ty76]
              exact ih2 (m' - 1) _ _ (by omega) ⟨k + 1, min La (F k).x, max Lb (F k).x, min Lc (F k).y, max Ld (F k).y, by omega, ⟨by simp [Fr.get, g1], by simp [Fr.get, g5], by simp [Fr.get, g6], by simp [Fr.get, g8]⟩, ⟨by simp [Fr.get, g10], by simp [Fr.get, g11], by simp [Fr.get, g12], by simp [Fr.get, g13], by simp [Fr.get, g14], by simp [Fr.get, g15]⟩, ⟨by simp [Fr.get], by simp [Fr.get], by simp [Fr.get], by simp [Fr.get], by simp [Fr.get]⟩, hall', rfl⟩
            · have q2 : (0 : Int) < k := by omega
              have w1 : IntKind.i64.wrap ((k : Int) - 1) = ((k - 1 : Nat) : Int) := by rw [wrapI (by omega)]; omega
              have q3 : (0 : Int) ≤ ((k - 1 : Nat) : Int) := by omega
              have q4 : ((k - 1 : Nat) : Int) < mq := by omega
              obtain ⟨C0, _, _⟩ := ptC_at F mq (k - 1) (by omega)
              have q5 : ¬ (F k).t ≤ (F (k - 1)).t := by
                have := gr (k - 1) (by omega)
                rw [show k - 1 + 1 = k by omega] at this
                omega
              simp (maxSteps := 2000000) only [wk0, wk1, wk2, wk3, keepA, keepT, Fr.keep, frzT, flatT, arrayAtA, ownT, extT, Fr.ev, Fr.put, Fr.get, initFr, buildSliceA, zeros, pkB, pkT, pkF, ownDst, Env.kd, ofConst, isConst, binA, intI, cmpI, shiftI, convertA, buildA, fillA, fillS, splice, AV.cells?, storeA, readAt, fieldAddrA, fieldA, indexA, extractA, unA, builtinA, appendA, lenA, sliceCells, isSliceK, makeInterfaceA, nilCheckA, eqA, AV.one, AV.plain, if_false, if_true, Nat.reduceEqDiff, reduceIte, Nat.reduceAdd, List.replicate, Nat.reduceLeDiff, Nat.reduceMul, Nat.reduceSub, Nat.reducePow, Int.reduceLT, Int.reduceLE, Int.reduceToNat, Int.reducePow, IntKind.bits, Int.reduceEq, Int.reduceMul, Int.reduceNeg, ne_eq, reduceCtorEq, escT, BEq.rfl, beq_self_eq_true, Int.reduceAdd, Int.reduceSub, Int.reduceMod, Int.reduceDiv, Nat.reduceMod, Nat.reduceDiv, Nat.reduceLT, cond_true, cond_false, gt_iff_lt, ge_iff_le, g1, g5, g6, g8, g10, g11, g12, g13, g14, g15, g16, g17, g18, g19, g20, hk, q1, q2, w1, q3, q4, C0, q5, wk, B0, B1, B2, Int.toNat_natCast, Ytimdnnlfkkkpbaa.D8, keep8, ty1, ty2, ty3, ty4, ty24, ty55, ty68, ty69, ty74, ty75, ty76]
              exact ih2 (m' - 1) _ _ (by omega) ⟨k + 1, min La (F k).x, max Lb (F k).x, min Lc (F k).y, max Ld (F k).y, by omega, ⟨by simp [Fr.get, g1], by simp [Fr.get, g5], by simp [Fr.get, g6], by simp [Fr.get, g8]⟩, ⟨by simp [Fr.get, g10], by simp [Fr.get, g11], by simp [Fr.get, g12], by simp [Fr.get, g13], by simp [Fr.get, g14], by simp [Fr.get, g15]⟩, ⟨by simp [Fr.get], by simp [Fr.get], by simp [Fr.get], by simp [Fr.get], by simp [Fr.get]⟩, hall', rfl⟩
          · obtain rfl : k = mq := by omega
            obtain ⟨mx1, mx2⟩ := mid_in (f := fun i => (F i).x) (lo := La) (hi := Lb) hmn fun j hj => (hall j hj).1
            obtain ⟨my1, my2⟩ := mid_in (f := fun i => (F i).y) (lo := Lc) (hi := Ld) hmn fun j hj => (hall j hj).2
            have w1 : IntKind.i64.wrap ((k : Int) - 1) = ((k - 1 : Nat) : Int) := by rw [wrapI (by omega)]; omega
            have q3 : (0 : Int) ≤ ((k - 1 : Nat) : Int) := by omega
            have q4 : ((k - 1 : Nat) : Int) < k := by omega
            obtain ⟨_, C1, _⟩ := ptC_at F k (k - 1) (by omega)
            have ma := gm (k - 1) (by omega)
            have mb := gm 0 (by omega)
            unfold mayP at ma mb
            have hfl := hfl (k - 1) (by omega)
            have wi : IntKind.i64.wrap ((i : Int) + 1) = ((i + 1 : Nat) : Int) := wrapI (by omega)
            obtain ⟨d, hd⟩ : ∃ d, (F (k - 1)).x - (F 0).x = d := ⟨_, rfl⟩
            have wd : IntKind.i64.wrap ((F (k - 1)).x - (F 0).x) = d := by rw [wrapI (by omega)]; exact hd
            by_cases hneg : d < 0
            · have wn : IntKind.i64.wrap (0 - d) = -d := by rw [wrapI (by omega)]; omega
              have wl : IntKind.i64.wrap (-d - k) = -d - k := wrapI (by omega)
              cases ho : lnO r (k - 1)
              · have hx := hfl ho
                have q6 : ¬ lnS r (k - 1) < -d - k := by omega
                simp (maxSteps := 2000000) only [wk0, wk1, wk2, wk3, keepA, keepT, Fr.keep, frzT, flatT, arrayAtA, ownT, extT, Fr.ev, Fr.put, Fr.get, initFr, buildSliceA, zeros, pkB, pkT, pkF, ownDst, Env.kd, ofConst, isConst, binA, intI, cmpI, shiftI, convertA, buildA, fillA, fillS, splice, AV.cells?, storeA, readAt, fieldAddrA, fieldA, indexA, extractA, unA, builtinA, appendA, lenA, sliceCells, isSliceK, makeInterfaceA, nilCheckA, eqA, AV.one, AV.plain, if_false, if_true, Nat.reduceEqDiff, reduceIte, Nat.reduceAdd, List.replicate, Nat.reduceLeDiff, Nat.reduceMul, Nat.reduceSub, Nat.reducePow, Int.reduceLT, Int.reduceLE, Int.reduceToNat, Int.reducePow, IntKind.bits, Int.reduceEq, Int.reduceMul, Int.reduceNeg, ne_eq, reduceCtorEq, escT, BEq.rfl, beq_self_eq_true, Int.reduceAdd, Int.reduceSub, Int.reduceMod, Int.reduceDiv, Nat.reduceMod, Nat.reduceDiv, Nat.reduceLT, cond_true, cond_false, gt_iff_lt, ge_iff_le, g1, g5, g6, g8, g10, g11, g12, g13, g14, g15, g16, g17, g18, g19, g20, hk, km, A0, A1, A2, w1, q3, q4, C1, wd, hneg, wn, wl, mx1, mx2, my1, my2, ho, q6, wi, Int.toNat_natCast, Ytimdnnlfkkkpbaa.D8, keep8, ty1, ty2, ty3, ty4, ty24, ty55, ty68, ty69, ty74, ty75, ty76]
                exact ih (m - 1) _ _ (by omega) ⟨i + 1, _, _, _, by omega, ⟨by simp [Fr.get, g1], by simp [Fr.get, g5], by simp [Fr.get, g6], by simp [Fr.get]⟩, tr', gd', hlen', hold'⟩
              · simp (maxSteps := 2000000) only [wk0, wk1, wk2, wk3, keepA, keepT, Fr.keep, frzT, flatT, arrayAtA, ownT, extT, Fr.ev, Fr.put, Fr.get, initFr, buildSliceA, zeros, pkB, pkT, pkF, ownDst, Env.kd, ofConst, isConst, binA, intI, cmpI, shiftI, convertA, buildA, fillA, fillS, splice, AV.cells?, storeA, readAt, fieldAddrA, fieldA, indexA, extractA, unA, builtinA, appendA, lenA, sliceCells, isSliceK, makeInterfaceA, nilCheckA, eqA, AV.one, AV.plain, if_false, if_true, Nat.reduceEqDiff, reduceIte, Nat.reduceAdd, List.replicate, Nat.reduceLeDiff, Nat.reduceMul, Nat.reduceSub, Nat.reducePow, Int.reduceLT, Int.reduceLE, Int.reduceToNat, Int.reducePow, IntKind.bits, Int.reduceEq, Int.reduceMul, Int.reduceNeg, ne_eq, reduceCtorEq, escT, BEq.rfl, beq_self_eq_true, Int.reduceAdd, Int.reduceSub, Int.reduceMod, Int.reduceDiv, Nat.reduceMod, Nat.reduceDiv, Nat.reduceLT, cond_true, cond_false, gt_iff_lt, ge_iff_le, g1, g5, g6, g8, g10, g11, g12, g13, g14, g15, g16, g17, g18, g19, g20, hk, km, A0, A1, A2, w1, q3, q4, C1, wd, hneg, wn, wl, mx1, mx2, my1, my2, ho, wi, Int.toNat_natCast, Ytimdnnlfkkkpbaa.D8, keep8, ty1, ty2, ty3, ty4, ty24, ty55, ty68, ty69, ty74, ty75, ty76]
                exact ih (m - 1) _ _ (by omega) ⟨i + 1, _, _, _, by omega, ⟨by simp [Fr.get, g1], by simp [Fr.get, g5], by simp [Fr.get, g6], by simp [Fr.get]⟩, tr', gd', hlen', hold'⟩
            · have wl : IntKind.i64.wrap (d - k) = d - k := wrapI (by omega)
              cases ho : lnO r (k - 1)
              · have hx := hfl ho
                have q6 : ¬ lnS r (k - 1) < d - k := by omega
                simp (maxSteps := 2000000) only [wk0, wk1, wk2, wk3, keepA, keepT, Fr.keep, frzT, flatT, arrayAtA, ownT, extT, Fr.ev, Fr.put, Fr.get, initFr, buildSliceA, zeros, pkB, pkT, pkF, ownDst, Env.kd, ofConst, isConst, binA, intI, cmpI, shiftI, convertA, buildA, fillA, fillS, splice, AV.cells?, storeA, readAt, fieldAddrA, fieldA, indexA, extractA, unA, builtinA, appendA, lenA, sliceCells, isSliceK, makeInterfaceA, nilCheckA, eqA, AV.one, AV.plain, if_false, if_true, Nat.reduceEqDiff, reduceIte, Nat.reduceAdd, List.replicate, Nat.reduceLeDiff, Nat.reduceMul, Nat.reduceSub, Nat.reducePow, Int.reduceLT, Int.reduceLE, Int.reduceToNat, Int.reducePow, IntKind.bits, Int.reduceEq, Int.reduceMul, Int.reduceNeg, ne_eq, reduceCtorEq, escT, BEq.rfl, beq_self_eq_true, Int.reduceAdd, Int.reduceSub, Int.reduceMod, Int.reduceDiv, Nat.reduceMod, Nat.reduceDiv, Nat.reduceLT, cond_true, cond_false, gt_iff_lt, ge_iff_le, g1, g5, g6, g8, g10, g11, g12, g13, g14, g15, g16, g17, g18, g19, g20, hk, km, A0, A1, A2, w1, q3, q4, C1, wd, hneg, wl, mx1, mx2, my1, my2, ho, q6, wi, Int.toNat_natCast, Ytimdnnlfkkkpbaa.D8, keep8, ty1, ty2, ty3, ty4, ty24, ty55, ty68, ty69, ty74, ty75, ty76]
                exact ih (m - 1) _ _ (by omega) ⟨i + 1, _, _, _, by omega, ⟨by simp [Fr.get, g1], by simp [Fr.get, g5], by simp [Fr.get, g6], by simp [Fr.get]⟩, tr', gd', hlen', hold'⟩
              · simp (maxSteps := 2000000) only [wk0, wk1, wk2, wk3, keepA, keepT, Fr.keep, frzT, flatT, arrayAtA, ownT, extT, Fr.ev, Fr.put, Fr.get, initFr, buildSliceA, zeros, pkB, pkT, pkF, ownDst, Env.kd, ofConst, isConst, binA, intI, cmpI, shiftI, convertA, buildA, fillA, fillS, splice, AV.cells?, storeA, readAt, fieldAddrA, fieldA, indexA, extractA, unA, builtinA, appendA, lenA, sliceCells, isSliceK, makeInterfaceA, nilCheckA, eqA, AV.one, AV.plain, if_false, if_true, Nat.reduceEqDiff, reduceIte, Nat.reduceAdd, List.replicate, Nat.reduceLeDiff, Nat.reduceMul, Nat.reduceSub, Nat.reducePow, Int.reduceLT, Int.reduceLE, Int.reduceToNat, Int.reducePow, IntKind.bits, Int.reduceEq, Int.reduceMul, Int.reduceNeg, ne_eq, reduceCtorEq, escT, BEq.rfl, beq_self_eq_true, Int.reduceAdd, Int.reduceSub, Int.reduceMod, Int.reduceDiv, Nat.reduceMod, Nat.reduceDiv, Nat.reduceLT, cond_true, cond_false, gt_iff_lt, ge_iff_le, g1, g5, g6, g8, g10, g11, g12, g13, g14, g15, g16, g17, g18, g19, g20, hk, km, A0, A1, A2, w1, q3, q4, C1, wd, hneg, wl, mx1, mx2, my1, my2, ho, wi, Int.toNat_natCast, Ytimdnnlfkkkpbaa.D8, keep8, ty1, ty2, ty3, ty4, ty24, ty55, ty68, ty69, ty74, ty75, ty76]
                exact ih (m - 1) _ _ (by omega) ⟨i + 1, _, _, _, by omega, ⟨by simp [Fr.get, g1], by simp [Fr.get, g5], by simp [Fr.get, g6], by simp [Fr.get]⟩, tr', gd', hlen', hold'⟩
      · have ad := add_bad1 _ _ _ _ _ _ _ p tr hmay
        simp only [errA] at ad
        have tr' := tr
        have gd' := gd
        have hlen' := hlen
        have hold' := hold
        obtain ⟨mq, rfl⟩ : ∃ mq, mq = mn := ⟨mn, rfl⟩
        obtain ⟨G, rfl⟩ : ∃ G, G = H0 := ⟨H0, rfl⟩
        rcases Nat.eq_zero_or_pos mq with hz | hmq
        · have pt := points_ok _ _ _ _ _ _ _ tr'
          have k0 : (mq : Int) = 0 := by omega
          have kn : ¬ (n : Int) < 0 := by omega
          generalize hF : ptI n nx mq R = F at pt
          simp (maxSteps := 2000000) only [wk0, wk1, wk2, wk3, keepA, keepT, Fr.keep, frzT, flatT, arrayAtA, ownT, extT, Fr.ev, Fr.put, Fr.get, initFr, buildSliceA, zeros, pkB, pkT, pkF, ownDst, Env.kd, ofConst, isConst, binA, intI, cmpI, shiftI, convertA, buildA, fillA, fillS, splice, AV.cells?, storeA, readAt, fieldAddrA, fieldA, indexA, extractA, unA, builtinA, appendA, lenA, sliceCells, isSliceK, makeInterfaceA, nilCheckA, eqA, AV.one, AV.plain, if_false, if_true, Nat.reduceEqDiff, reduceIte, Nat.reduceAdd, List.replicate, Nat.reduceLeDiff, Nat.reduceMul, Nat.reduceSub, Nat.reducePow, Int.reduceLT, Int.reduceLE, Int.reduceToNat, Int.reducePow, IntKind.bits, Int.reduceEq, Int.reduceMul, Int.reduceNeg, ne_eq, reduceCtorEq, escT, BEq.rfl, beq_self_eq_true, Int.reduceAdd, Int.reduceSub, Int.reduceMod, Int.reduceDiv, Nat.reduceMod, Nat.reduceDiv, Nat.reduceLT, cond_true, cond_false, gt_iff_lt, ge_iff_le, g1, g5, g6, g8, hi, hi2, p1, rd, le, ptC_len, Int.toNat_natCast, Ytimdnnlfkkkpbaa.D8, keep8, ty1, ty2, ty3, ty4, ty24, ty55, ty68, ty69, ty74, ty75, ty76]
          refine callThen_of (ad) ?_
          simp (maxSteps := 2000000) only [wk0, wk1, wk2, wk3, keepA, keepT, Fr.keep, frzT, flatT, arrayAtA, ownT, extT, Fr.ev, Fr.put, Fr.get, initFr, buildSliceA, zeros, pkB, pkT, pkF, ownDst, Env.kd, ofConst, isConst, binA, intI, cmpI, shiftI, convertA, buildA, fillA, fillS, splice, AV.cells?, storeA, readAt, fieldAddrA, fieldA, indexA, extractA, unA, builtinA, appendA, lenA, sliceCells, isSliceK, makeInterfaceA, nilCheckA, eqA, AV.one, AV.plain, if_false, if_true, Nat.reduceEqDiff, reduceIte, Nat.reduceAdd, List.replicate, Nat.reduceLeDiff, Nat.reduceMul, Nat.reduceSub, Nat.reducePow, Int.reduceLT, Int.reduceLE, Int.reduceToNat, Int.reducePow, IntKind.bits, Int.reduceEq, Int.reduceMul, Int.reduceNeg, ne_eq, reduceCtorEq, escT, BEq.rfl, beq_self_eq_true, Int.reduceAdd, Int.reduceSub, Int.reduceMod, Int.reduceDiv, Nat.reduceMod, Nat.reduceDiv, Nat.reduceLT, cond_true, cond_false, gt_iff_lt, ge_iff_le, g1, g5, g6, g8, hi, hi2, p1, rd, le, ptC_len, Int.toNat_natCast, Ytimdnnlfkkkpbaa.D8, keep8, ty1, ty2, ty3, ty4, ty24, ty55, ty68, ty69, ty74, ty75, ty76]
          refine callThen_of (pt) ?_
          simp (maxSteps := 2000000) only [wk0, wk1, wk2, wk3, keepA, keepT, Fr.keep, frzT, flatT, arrayAtA, ownT, extT, Fr.ev, Fr.put, Fr.get, initFr, buildSliceA, zeros, pkB, pkT, pkF, ownDst, Env.kd, ofConst, isConst, binA, intI, cmpI, shiftI, convertA, buildA, fillA, fillS, splice, AV.cells?, storeA, readAt, fieldAddrA, fieldA, indexA, extractA, unA, builtinA, appendA, lenA, sliceCells, isSliceK, makeInterfaceA, nilCheckA, eqA, AV.one, AV.plain, if_false, if_true, Nat.reduceEqDiff, reduceIte, Nat.reduceAdd, List.replicate, Nat.reduceLeDiff, Nat.reduceMul, Nat.reduceSub, Nat.reducePow, Int.reduceLT, Int.reduceLE, Int.reduceToNat, Int.reducePow, IntKind.bits, Int.reduceEq, Int.reduceMul, Int.reduceNeg, ne_eq, reduceCtorEq, escT, BEq.rfl, beq_self_eq_true, Int.reduceAdd, Int.reduceSub, Int.reduceMod, Int.reduceDiv, Nat.reduceMod, Nat.reduceDiv, Nat.reduceLT, cond_true, cond_false, gt_iff_lt, ge_iff_le, g1, g5, g6, g8, k0, kn, wi, Ytimdnnlfkkkpbaa.D8, keep8, ty1, ty2, ty3, ty4, ty24, ty55, ty68, ty69, ty74, ty75, ty76]
          exact ih (m - 1) _ _ (by omega) ⟨i + 1, nx, mq, R, by omega, ⟨by simp [Fr.get, g1], by simp [Fr.get, g5], by simp [Fr.get, g6], by simp [Fr.get]⟩, tr', gd', hlen', hold'⟩
        · have hmqn : mq ≤ n := hm1
          have tr'' := tr'
          obtain ⟨r, hfr, lg⟩ := long_ok _ _ _ _ _ _ _ tr' hmq gd'.may
          have lg := lg _ tr'
          have md := middle_ok _ _ _ _ _ _ _ tr' hmq gd'.may
          have pt := points_ok _ _ _ _ _ _ _ tr'
          have hfl := fun n hn ho => far_long hfr n hn ho
          have gm := gd'.may
          have gr := gd'.rise
          obtain ⟨F, hF⟩ : ∃ F, ptI n nx mq R = F := ⟨_, rfl⟩
          simp only [hF] at md pt hfl gm gr
          have hmn : 1 ≤ mq := hmq
          simp (maxSteps := 2000000) only [wk0, wk1, wk2, wk3, keepA, keepT, Fr.keep, frzT, flatT, arrayAtA, ownT, extT, Fr.ev, Fr.put, Fr.get, initFr, buildSliceA, zeros, pkB, pkT, pkF, ownDst, Env.kd, ofConst, isConst, binA, intI, cmpI, shiftI, convertA, buildA, fillA, fillS, splice, AV.cells?, storeA, readAt, fieldAddrA, fieldA, indexA, extractA, unA, builtinA, appendA, lenA, sliceCells, isSliceK, makeInterfaceA, nilCheckA, eqA, AV.one, AV.plain, if_false, if_true, Nat.reduceEqDiff, reduceIte, Nat.reduceAdd, List.replicate, Nat.reduceLeDiff, Nat.reduceMul, Nat.reduceSub, Nat.reducePow, Int.reduceLT, Int.reduceLE, Int.reduceToNat, Int.reducePow, IntKind.bits, Int.reduceEq, Int.reduceMul, Int.reduceNeg, ne_eq, reduceCtorEq, escT, BEq.rfl, beq_self_eq_true, Int.reduceAdd, Int.reduceSub, Int.reduceMod, Int.reduceDiv, Nat.reduceMod, Nat.reduceDiv, Nat.reduceLT, cond_true, cond_false, gt_iff_lt, ge_iff_le, g1, g5, g6, g8, hi, hi2, p1, rd, le, ptC_len, Int.toNat_natCast, Ytimdnnlfkkkpbaa.D8, keep8, ty1, ty2, ty3, ty4, ty24, ty55, ty68, ty69, ty74, ty75, ty76]
          refine callThen_of (ad) ?_
          simp (maxSteps := 2000000) only [wk0, wk1, wk2, wk3, keepA, keepT, Fr.keep, frzT, flatT, arrayAtA, ownT, extT, Fr.ev, Fr.put, Fr.get, initFr, buildSliceA, zeros, pkB, pkT, pkF, ownDst, Env.kd, ofConst, isConst, binA, intI, cmpI, shiftI, convertA, buildA, fillA, fillS, splice, AV.cells?, storeA, readAt, fieldAddrA, fieldA, indexA, extractA, unA, builtinA, appendA, lenA, sliceCells, isSliceK, makeInterfaceA, nilCheckA, eqA, AV.one, AV.plain, if_false, if_true, Nat.reduceEqDiff, reduceIte, Nat.reduceAdd, List.replicate, Nat.reduceLeDiff, Nat.reduceMul, Nat.reduceSub, Nat.reducePow, Int.reduceLT, Int.reduceLE, Int.reduceToNat, Int.reducePow, IntKind.bits, Int.reduceEq, Int.reduceMul, Int.reduceNeg, ne_eq, reduceCtorEq, escT, BEq.rfl, beq_self_eq_true, Int.reduceAdd, Int.reduceSub, Int.reduceMod, Int.reduceDiv, Nat.reduceMod, Nat.reduceDiv, Nat.reduceLT, cond_true, cond_false, gt_iff_lt, ge_iff_le, g1, g5, g6, g8, hi, hi2, p1, rd, le, ptC_len, Int.toNat_natCast, Ytimdnnlfkkkpbaa.D8, keep8, ty1, ty2, ty3, ty4, ty24, ty55, ty68, ty69, ty74, ty75, ty76]
          have k0 : ¬ (mq : Int) = 0 := by omega
          have kn : ¬ (n : Int) < mq := by omega
          obtain ⟨A0, A1, A2⟩ := ptC_at F mq 0 (by omega)
          simp only [Nat.zero_mul, Nat.zero_add] at A0 A1 A2
          have km : (0 : Int) < mq := by omega
          refine callThen_of (pt) ?_
          simp (maxSteps := 2000000) only [wk0, wk1, wk2, wk3, keepA, keepT, Fr.keep, frzT, flatT, arrayAtA, ownT, extT, Fr.ev, Fr.put, Fr.get, initFr, buildSliceA, zeros, pkB, pkT, pkF, ownDst, Env.kd, ofConst, isConst, binA, intI, cmpI, shiftI, convertA, buildA, fillA, fillS, splice, AV.cells?, storeA, readAt, fieldAddrA, fieldA, indexA, extractA, unA, builtinA, appendA, lenA, sliceCells, isSliceK, makeInterfaceA, nilCheckA, eqA, AV.one, AV.plain, if_false, if_true, Nat.reduceEqDiff, reduceIte, Nat.reduceAdd, List.replicate, Nat.reduceLeDiff, Nat.reduceMul, Nat.reduceSub, Nat.reducePow, Int.reduceLT, Int.reduceLE, Int.reduceToNat, Int.reducePow, IntKind.bits, Int.reduceEq, Int.reduceMul, Int.reduceNeg, ne_eq, reduceCtorEq, escT, BEq.rfl, beq_self_eq_true, Int.reduceAdd, Int.reduceSub, Int.reduceMod, Int.reduceDiv, Nat.reduceMod, Nat.reduceDiv, Nat.reduceLT, cond_true, cond_false, gt_iff_lt, ge_iff_le, g1, g5, g6, g8, k0, kn, A0, A1, A2, km, hi, Ytimdnnlfkkkpbaa.D8, keep8, ty1, ty2, ty3, ty4, ty24, ty55, ty68, ty69, ty74, ty75, ty76]
          refine callThen_of (lg) ?_
          simp (maxSteps := 2000000) only [wk0, wk1, wk2, wk3, keepA, keepT, Fr.keep, frzT, flatT, arrayAtA, ownT, extT, Fr.ev, Fr.put, Fr.get, initFr, buildSliceA, zeros, pkB, pkT, pkF, ownDst, Env.kd, ofConst, isConst, binA, intI, cmpI, shiftI, convertA, buildA, fillA, fillS, splice, AV.cells?, storeA, readAt, fieldAddrA, fieldA, indexA, extractA, unA, builtinA, appendA, lenA, sliceCells, isSliceK, makeInterfaceA, nilCheckA, eqA, AV.one, AV.plain, if_false, if_true, Nat.reduceEqDiff, reduceIte, Nat.reduceAdd, List.replicate, Nat.reduceLeDiff, Nat.reduceMul, Nat.reduceSub, Nat.reducePow, Int.reduceLT, Int.reduceLE, Int.reduceToNat, Int.reducePow, IntKind.bits, Int.reduceEq, Int.reduceMul, Int.reduceNeg, ne_eq, reduceCtorEq, escT, BEq.rfl, beq_self_eq_true, Int.reduceAdd, Int.reduceSub, Int.reduceMod, Int.reduceDiv, Nat.reduceMod, Nat.reduceDiv, Nat.reduceLT, cond_true, cond_false, gt_iff_lt, ge_iff_le, g1, g5, g6, g8, k0, kn, A0, A1, A2, km, hi, Ytimdnnlfkkkpbaa.D8, keep8, ty1, ty2, ty3, ty4, ty24, ty55, ty68, ty69, ty74, ty75, ty76]
          refine callThen_of (md) ?_
          simp (maxSteps := 2000000) only [wk0, wk1, wk2, wk3, keepA, keepT, Fr.keep, frzT, flatT, arrayAtA, ownT, extT, Fr.ev, Fr.put, Fr.get, initFr, buildSliceA, zeros, pkB, pkT, pkF, ownDst, Env.kd, ofConst, isConst, binA, intI, cmpI, shiftI, convertA, buildA, fillA, fillS, splice, AV.cells?, storeA, readAt, fieldAddrA, fieldA, indexA, extractA, unA, builtinA, appendA, lenA, sliceCells, isSliceK, makeInterfaceA, nilCheckA, eqA, AV.one, AV.plain, if_false, if_true, Nat.reduceEqDiff, reduceIte, Nat.reduceAdd, List.replicate, Nat.reduceLeDiff, Nat.reduceMul, Nat.reduceSub, Nat.reducePow, Int.reduceLT, Int.reduceLE, Int.reduceToNat, Int.reducePow, IntKind.bits, Int.reduceEq, Int.reduceMul, Int.reduceNeg, ne_eq, reduceCtorEq, escT, BEq.rfl, beq_self_eq_true, Int.reduceAdd, Int.reduceSub, Int.reduceMod, Int.reduceDiv, Nat.reduceMod, Nat.reduceDiv, Nat.reduceLT, cond_true, cond_false, gt_iff_lt, ge_iff_le, g1, g5, g6, g8, k0, kn, A0, A1, A2, km, hi, Ytimdnnlfkkkpbaa.D8, keep8, ty1, ty2, ty3, ty4, ty24, ty55, ty68, ty69, ty74, ty75, ty76]
          refine loopC_ind (fun m' fr H => ∃ (k : Nat) (La Lb Lc Ld : Int), k + m' = mq ∧ (fr.get 1 = .lst (ptC (fun i => l.getD i Pt.z) l.length) l.length ∧ fr.get 5 = .int .i64 n ∧ fr.get 6 = .ptr (S.length + 1) 0 0 ∧ fr.get 8 = .int .i64 (i : Int)) ∧
            (fr.get 10 = .lst (ptC F mq) mq ∧ fr.get 11 = .int .i64 (lnS r (mq - 1)) ∧ fr.get 12 = .bool (lnO r (mq - 1)) ∧ fr.get 13 = .int .i64 (smI (fun i => (F i).x) mq / mq) ∧ fr.get 14 = .int .i64 (smI (fun i => (F i).y) mq / mq) ∧ fr.get 15 = .nili) ∧
            (fr.get 16 = .int .i64 La ∧ fr.get 17 = .int .i64 Lb ∧ fr.get 18 = .int .i64 Lc ∧ fr.get 19 = .int .i64 Ld ∧ fr.get 20 = .int .i64 (k : Int)) ∧
            (∀ j, j < k → (La ≤ (F j).x ∧ (F j).x ≤ Lb) ∧ Lc ≤ (F j).y ∧ (F j).y ≤ Ld) ∧ H = G) ?_ (n := mq)
            ⟨0, _, _, _, _, by omega, ⟨by simp [Fr.get, g1], by simp [Fr.get, g5], by simp [Fr.get, g6], by simp [Fr.get, g8]⟩, ⟨by simp [Fr.get], by simp [Fr.get], by simp [Fr.get], by simp [Fr.get], by simp [Fr.get], by simp [Fr.get]⟩, ⟨rfl, rfl, rfl, rfl, by simp [Fr.get]⟩, fun j hj => by omega, rfl⟩
          clear g1 g5 g6 g8
          rintro m' fr H ⟨k, La, Lb, Lc, Ld, hkm, ⟨g1, g5, g6, g8⟩, ⟨g10, g11, g12, g13, g14, g15⟩, ⟨g16, g17, g18, g19, g20⟩, hall, rfl⟩ ih2
          by_cases hk : (k : Int) < mq
          · have hkn : k < mq := by omega
            have q1 : (0 : Int) ≤ k := by omega
            have wk : IntKind.i64.wrap ((k : Int) + 1) = ((k + 1 : Nat) : Int) := wrapI (by omega)
            obtain ⟨B0, B1, B2⟩ := ptC_at F mq k hkn
            have hall' : ∀ j, j < k + 1 → (min La (F k).x ≤ (F j).x ∧ (F j).x ≤ max Lb (F k).x) ∧ min Lc (F k).y ≤ (F j).y ∧ (F j).y ≤ max Ld (F k).y := fun j hj => by
              rcases Nat.lt_or_ge j k with h | h
              · have := hall j h; omega
              · obtain rfl : j = k := by omega
                omega
            by_cases hz : k = 0
            · have q2 : ¬ (0 : Int) < (k : Int) := by omega
              simp (maxSteps := 2000000) only [wk0, wk1, wk2, wk3, keepA, keepT, Fr.keep, frzT, flatT, arrayAtA, ownT, extT, Fr.ev, Fr.put, Fr.get, initFr, buildSliceA, zeros, pkB, pkT, pkF, ownDst, Env.kd, ofConst, isConst, binA, intI, cmpI, shiftI, convertA, buildA, fillA, fillS, splice, AV.cells?, storeA, readAt, fieldAddrA, fieldA, indexA, extractA, unA, builtinA, appendA, lenA, sliceCells, isSliceK, makeInterfaceA, nilCheckA, eqA, AV.one, AV.plain, if_false, if_true, Nat.reduceEqDiff, reduceIte, Nat.reduceAdd, List.replicate, Nat.reduceLeDiff, Nat.reduceMul, Nat.reduceSub, Nat.reducePow, Int.reduceLT, Int.reduceLE, Int.reduceToNat, Int.reducePow, IntKind.bits, Int.reduceEq, Int.reduceMul, Int.reduceNeg, ne_eq, reduceCtorEq, escT, BEq.rfl, beq_self_eq_true, Int.reduceAdd, Int.reduceSub, Int.reduceMod, Int.reduceDiv, Nat.reduceMod, Nat.reduceDiv, Nat.reduceLT, cond_true, cond_false, gt_iff_lt, ge_iff_le, g1, g5, g6, g8, g10, g11, g12, g13, g14, g15, g16, g17, g18, g19, g20, hk, q1, q2, wk, B0, B1, B2, Int.toNat_natCast, Ytimdnnlfkkkpbaa.D8, keep8, ty1, ty2, ty3, ty4, ty24, ty55, ty68, ty69, ty74, ty75, ty76]
              exact ih2 (m' - 1) _ _ (by omega) ⟨k + 1, min La (F k).x, max Lb (F k).x, min Lc (F k).y, max Ld (F k).y, by omega, ⟨by simp [Fr.get, g1], by simp [Fr.get, g5], by simp [Fr.get, g6], by simp [Fr.get, g8]⟩, ⟨by simp [Fr.get, g10], by simp [Fr.get, g11], by simp [Fr.get, g12], by simp [Fr.get, g13], by simp [Fr.get, g14], by simp [Fr.get, g15]⟩, ⟨by simp [Fr.get], by simp [Fr.get], by simp [Fr.get], by simp [Fr.get], by simp [Fr.get]⟩, hall', rfl⟩
            · have q2 : (0 : Int) < k := by omega
              have w1 : IntKind.i64.wrap ((k : Int) - 1) = ((k - 1 : Nat) : Int) := by rw [wrapI (by omega)]; omega
              have q3 : (0 : Int) ≤ ((k - 1 : Nat) : Int) := by omega
              have q4 : ((k - 1 : Nat) : Int) < mq := by omega
              obtain ⟨C0, _, _⟩ := ptC_at F mq (k - 1) (by omega)
              have q5 : ¬ (F k).t ≤ (F (k - 1)).t := by
                have := gr (k - 1) (by omega)
                rw [show k - 1 + 1 = k by omega] at this
                omega
              simp (maxSteps := 2000000) only [wk0, wk1, wk2, wk3, keepA, keepT, Fr.keep, frzT, flatT, arrayAtA, ownT, extT, Fr.ev, Fr.put, Fr.get, initFr, buildSliceA, zeros, pkB, pkT, pkF, ownDst, Env.kd, ofConst, isConst, binA, intI, cmpI, shiftI, convertA, buildA, fillA, fillS, splice, AV.cells?, storeA, readAt, fieldAddrA, fieldA, indexA, extractA, unA, builtinA, appendA, lenA, sliceCells, isSliceK, makeInterfaceA, nilCheckA, eqA, AV.one, AV.plain, if_false, if_true, Nat.reduceEqDiff, reduceIte, Nat.reduceAdd, List.replicate, Nat.reduceLeDiff, Nat.reduceMul, Nat.reduceSub, Nat.reducePow, Int.reduceLT, Int.reduceLE, Int.reduceToNat, Int.reducePow, IntKind.bits, Int.reduceEq, Int.reduceMul, Int.reduceNeg, ne_eq, reduceCtorEq, escT, BEq.rfl, beq_self_eq_true, Int.reduceAdd, Int.reduceSub, Int.reduceMod, Int.reduceDiv, Nat.reduceMod, Nat.reduceDiv, Nat.reduceLT, cond_true, cond_false, gt_iff_lt, ge_iff_le, g1, g5, g6, g8, g10, g11, g12, g13, g14, g15, g16, g17, g18, g19, g20, hk, q1, q2, w1, q3, q4, C0, q5, wk, B0, B1, B2, Int.toNat_natCast, Ytimdnnlfkkkpbaa.D8, keep8, ty1, ty2, ty3, ty4, ty24, ty55, ty68, ty69, ty74, ty75, ty76]
              exact ih2 (m' - 1) _ _ (by omega) ⟨k + 1, min La (F k).x, max Lb (F k).x, min Lc (F k).y, max Ld (F k).y, by omega, ⟨by simp [Fr.get, g1], by simp [Fr.get, g5], by simp [Fr.get, g6], by simp [Fr.get, g8]⟩, ⟨by simp [Fr.get, g10], by simp [Fr.get, g11], by simp [Fr.get, g12], by simp [Fr.get, g13], by simp [Fr.get, g14], by simp [Fr.get, g15]⟩, ⟨by simp [Fr.get], by simp [Fr.get], by simp [Fr.get], by simp [Fr.get], by simp [Fr.get]⟩, hall', rfl⟩
          · obtain rfl : k = mq := by omega
            obtain ⟨mx1, mx2⟩ := mid_in (f := fun i => (F i).x) (lo := La) (hi := Lb) hmn fun j hj => (hall j hj).1
            obtain ⟨my1, my2⟩ := mid_in (f := fun i => (F i).y) (lo := Lc) (hi := Ld) hmn fun j hj => (hall j hj).2
            have w1 : IntKind.i64.wrap ((k : Int) - 1) = ((k - 1 : Nat) : Int) := by rw [wrapI (by omega)]; omega
            have q3 : (0 : Int) ≤ ((k - 1 : Nat) : Int) := by omega
            have q4 : ((k - 1 : Nat) : Int) < k := by omega
            obtain ⟨_, C1, _⟩ := ptC_at F k (k - 1) (by omega)
            have ma := gm (k - 1) (by omega)
            have mb := gm 0 (by omega)
            unfold mayP at ma mb
            have hfl := hfl (k - 1) (by omega)
            have wi : IntKind.i64.wrap ((i : Int) + 1) = ((i + 1 : Nat) : Int) := wrapI (by omega)
            obtain ⟨d, hd⟩ : ∃ d, (F (k - 1)).x - (F 0).x = d := ⟨_, rfl⟩
            have wd : IntKind.i64.wrap ((F (k - 1)).x - (F 0).x) = d := by rw [wrapI (by omega)]; exact hd
            by_cases hneg : d < 0
            · have wn : IntKind.i64.wrap (0 - d) = -d := by rw [wrapI (by omega)]; omega
              have wl : IntKind.i64.wrap (-d - k) = -d - k := wrapI (by omega)
              cases ho : lnO r (k - 1)
              · have hx := hfl ho
                have q6 : ¬ lnS r (k - 1) < -d - k := by omega
                simp (maxSteps := 2000000) only [wk0, wk1, wk2, wk3, keepA, keepT, Fr.keep, frzT, flatT, arrayAtA, ownT, extT, Fr.ev, Fr.put, Fr.get, initFr, buildSliceA, zeros, pkB, pkT, pkF, ownDst, Env.kd, ofConst, isConst, binA, intI, cmpI, shiftI, convertA, buildA, fillA, fillS, splice, AV.cells?, storeA, readAt, fieldAddrA, fieldA, indexA, extractA, unA, builtinA, appendA, lenA, sliceCells, isSliceK, makeInterfaceA, nilCheckA, eqA, AV.one, AV.plain, if_false, if_true, Nat.reduceEqDiff, reduceIte, Nat.reduceAdd, List.replicate, Nat.reduceLeDiff, Nat.reduceMul, Nat.reduceSub, Nat.reducePow, Int.reduceLT, Int.reduceLE, Int.reduceToNat, Int.reducePow, IntKind.bits, Int.reduceEq, Int.reduceMul, Int.reduceNeg, ne_eq, reduceCtorEq, escT, BEq.rfl, beq_self_eq_true, Int.reduceAdd, Int.reduceSub, Int.reduceMod, Int.reduceDiv, Nat.reduceMod, Nat.reduceDiv, Nat.reduceLT, cond_true, cond_false, gt_iff_lt, ge_iff_le, g1, g5, g6, g8, g10, g11, g12, g13, g14, g15, g16, g17, g18, g19, g20, hk, km, A0, A1, A2, w1, q3, q4, C1, wd, hneg, wn, wl, mx1, mx2, my1, my2, ho, q6, wi, Int.toNat_natCast, Ytimdnnlfkkkpbaa.D8, keep8, ty1, ty2, ty3, ty4, ty24, ty55, ty68, ty69, ty74, ty75, ty76]
                exact ih (m - 1) _ _ (by omega) ⟨i + 1, _, _, _, by omega, ⟨by simp [Fr.get, g1], by simp [Fr.get, g5], by simp [Fr.get, g6], by simp [Fr.get]⟩, tr', gd', hlen', hold'⟩
              · simp (maxSteps := 2000000) only [wk0, wk1, wk2, wk3, keepA, keepT, Fr.keep, frzT, flatT, arrayAtA, ownT, extT, Fr.ev, Fr.put, Fr.get, initFr, buildSliceA, zeros, pkB, pkT, pkF, ownDst, Env.kd, ofConst, isConst, binA, intI, cmpI, shiftI, convertA, buildA, fillA, fillS, splice, AV.cells?, storeA, readAt, fieldAddrA, fieldA, indexA, extractA, unA, builtinA, appendA, lenA, sliceCells, isSliceK, makeInterfaceA, nilCheckA, eqA, AV.one, AV.plain, if_false, if_true, Nat.reduceEqDiff, reduceIte, Nat.reduceAdd, List.replicate, Nat.reduceLeDiff, Nat.reduceMul, Nat.reduceSub, Nat.reducePow, Int.reduceLT, Int.reduceLE, Int.reduceToNat, Int.reducePow, IntKind.bits, Int.reduceEq, Int.reduceMul, Int.reduceNeg, ne_eq, reduceCtorEq, escT, BEq.rfl, beq_self_eq_true, Int.reduceAdd, Int.reduceSub, Int.reduceMod, Int.reduceDiv, Nat.reduceMod, Nat.reduceDiv, Nat.reduceLT, cond_true, cond_false, gt_iff_lt, ge_iff_le, g1, g5, g6, g8, g10, g11, g12, g13, g14, g15, g16, g17, g18, g19, g20, hk, km, A0, A1, A2, w1, q3, q4, C1, wd, hneg, wn, wl, mx1, mx2, my1, my2, ho, wi, Int.toNat_natCast, Ytimdnnlfkkkpbaa.D8, keep8, ty1, ty2, ty3, ty4, ty24, ty55, ty68, ty69, ty74, ty75, ty76]
                exact ih (m - 1) _ _ (by omega) ⟨i + 1, _, _, _, by omega, ⟨by simp [Fr.get, g1], by simp [Fr.get, g5], by simp [Fr.get, g6], by simp [Fr.get]⟩, tr', gd', hlen', hold'⟩
            · have wl : IntKind.i64.wrap (d - k) = d - k := wrapI (by omega)
              cases ho : lnO r (k - 1)
              · have hx := hfl ho
                have q6 : ¬ lnS r (k - 1) < d - k := by omega
                simp (maxSteps := 2000000) only [wk0, wk1, wk2, wk3, keepA, keepT, Fr.keep, frzT, flatT, arrayAtA, ownT, extT, Fr.ev, Fr.put, Fr.get, initFr, buildSliceA, zeros, pkB, pkT, pkF, ownDst, Env.kd, ofConst, isConst, binA, intI, cmpI, shiftI, convertA, buildA, fillA, fillS, splice, AV.cells?, storeA, readAt, fieldAddrA, fieldA, indexA, extractA, unA, builtinA, appendA, lenA, sliceCells, isSliceK, makeInterfaceA, nilCheckA, eqA, AV.one, AV.plain, if_false, if_true, Nat.reduceEqDiff, reduceIte, Nat.reduceAdd, List.replicate, Nat.reduceLeDiff, Nat.reduceMul, Nat.reduceSub, Nat.reducePow, Int.reduceLT, Int.reduceLE, Int.reduceToNat, Int.reducePow, IntKind.bits, Int.reduceEq, Int.reduceMul, Int.reduceNeg, ne_eq, reduceCtorEq, escT, BEq.rfl, beq_self_eq_true, Int.reduceAdd, Int.reduceSub, Int.reduceMod, Int.reduceDiv, Nat.reduceMod, Nat.reduceDiv, Nat.reduceLT, cond_true, cond_false, gt_iff_lt, ge_iff_le, g1, g5, g6, g8, g10, g11, g12, g13, g14, g15, g16, g17, g18, g19, g20, hk, km, A0, A1, A2, w1, q3, q4, C1, wd, hneg, wl, mx1, mx2, my1, my2, ho, q6, wi, Int.toNat_natCast, Ytimdnnlfkkkpbaa.D8, keep8, ty1, ty2, ty3, ty4, ty24, ty55, ty68, ty69, ty74, ty75, ty76]
                exact ih (m - 1) _ _ (by omega) ⟨i + 1, _, _, _, by omega, ⟨by simp [Fr.get, g1], by simp [Fr.get, g5], by simp [Fr.get, g6], by simp [Fr.get]⟩, tr', gd', hlen', hold'⟩
              · simp (maxSteps := 2000000) only [wk0, wk1, wk2, wk3, keepA, keepT, Fr.keep, frzT, flatT, arrayAtA, ownT, extT, Fr.ev, Fr.put, Fr.get, initFr, buildSliceA, zeros, pkB, pkT, pkF, ownDst, Env.kd, ofConst, isConst, binA, intI, cmpI, shiftI, convertA, buildA, fillA, fillS, splice, AV.cells?, storeA, readAt, fieldAddrA, fieldA, indexA, extractA, unA, builtinA, appendA, lenA, sliceCells, isSliceK, makeInterfaceA, nilCheckA, eqA, AV.one, AV.plain, if_false, if_true, Nat.reduceEqDiff, reduceIte, Nat.reduceAdd, List.replicate, Nat.reduceLeDiff, Nat.reduceMul, Nat.reduceSub, Nat.reducePow, Int.reduceLT, Int.reduceLE, Int.reduceToNat, Int.reducePow, IntKind.bits, Int.reduceEq, Int.reduceMul, Int.reduceNeg, ne_eq, reduceCtorEq, escT, BEq.rfl, beq_self_eq_true, Int.reduceAdd, Int.reduceSub, Int.reduceMod, Int.reduceDiv, Nat.reduceMod, Nat.reduceDiv, Nat.reduceLT, cond_true, cond_false, gt_iff_lt, ge_iff_le, g1, g5, g6, g8, g10, g11, g12, g13, g14, g15, g16, g17, g18, g19, g20, hk, km, A0, A1, A2, w1, q3, q4, C1, wd, hneg, wl, mx1, mx2, my1, my2, ho, wi, Int.toNat_natCast, Ytimdnnlfkkkpbaa.D8, keep8, ty1, ty2, ty3, ty4, ty24, ty55, ty68, ty69, ty74, ty75, ty76]
                exact ih (m - 1) _ _ (by omega) ⟨i + 1, _, _, _, by omega, ⟨by simp [Fr.get, g1], by simp [Fr.get, g5], by simp [Fr.get, g6], by simp [Fr.get]⟩, tr', gd', hlen', hold'⟩
    · simp (maxSteps := 2000000) only [wk0, wk1, wk2, wk3, keepA, keepT, Fr.keep, frzT, flatT, arrayAtA, ownT, extT, Fr.ev, Fr.put, Fr.get, initFr, buildSliceA, zeros, pkB, pkT, pkF, ownDst, Env.kd, ofConst, isConst, binA, intI, cmpI, shiftI, convertA, buildA, fillA, fillS, splice, AV.cells?, storeA, readAt, fieldAddrA, fieldA, indexA, extractA, unA, builtinA, appendA, lenA, sliceCells, isSliceK, makeInterfaceA, nilCheckA, eqA, AV.one, AV.plain, if_false, if_true, Nat.reduceEqDiff, reduceIte, Nat.reduceAdd, List.replicate, Nat.reduceLeDiff, Nat.reduceMul, Nat.reduceSub, Nat.reducePow, Int.reduceLT, Int.reduceLE, Int.reduceToNat, Int.reducePow, IntKind.bits, Int.reduceEq, Int.reduceMul, Int.reduceNeg, ne_eq, reduceCtorEq, escT, BEq.rfl, beq_self_eq_true, Int.reduceAdd, Int.reduceSub, Int.reduceMod, Int.reduceDiv, Nat.reduceMod, Nat.reduceDiv, Nat.reduceLT, cond_true, cond_false, gt_iff_lt, ge_iff_le, g1, g5, g6, g8, hi, hi2, Ytimdnnlfkkkpbaa.D8, keep8, ty1, ty2, ty3, ty4, ty24, ty55, ty68, ty69, ty74, ty75, ty76]
      refine callThen_of (su _) ?_
      simp (maxSteps := 2000000) only [wk0, wk1, wk2, wk3, keepA, keepT, Fr.keep, frzT, flatT, arrayAtA, ownT, extT, Fr.ev, Fr.put, Fr.get, initFr, buildSliceA, zeros, pkB, pkT, pkF, ownDst, Env.kd, ofConst, isConst, binA, intI, cmpI, shiftI, convertA, buildA, fillA, fillS, splice, AV.cells?, storeA, readAt, fieldAddrA, fieldA, indexA, extractA, unA, builtinA, appendA, lenA, sliceCells, isSliceK, makeInterfaceA, nilCheckA, eqA, AV.one, AV.plain, if_false, if_true, Nat.reduceEqDiff, reduceIte, Nat.reduceAdd, List.replicate, Nat.reduceLeDiff, Nat.reduceMul, Nat.reduceSub, Nat.reducePow, Int.reduceLT, Int.reduceLE, Int.reduceToNat, Int.reducePow, IntKind.bits, Int.reduceEq, Int.reduceMul, Int.reduceNeg, ne_eq, reduceCtorEq, escT, BEq.rfl, beq_self_eq_true, Int.reduceAdd, Int.reduceSub, Int.reduceMod, Int.reduceDiv, Nat.reduceMod, Nat.reduceDiv, Nat.reduceLT, cond_true, cond_false, gt_iff_lt, ge_iff_le, g1, g5, g6, g8, hi, hi2, Ytimdnnlfkkkpbaa.D8, keep8, ty1, ty2, ty3, ty4, ty24, ty55, ty68, ty69, ty74, ty75, ty76]
      exact retB_plain (by simp [nmd_bool]) rfl (keep_take hlen hold)
  · simp (maxSteps := 2000000) only [wk0, wk1, wk2, wk3, keepA, keepT, Fr.keep, frzT, flatT, arrayAtA, ownT, extT, Fr.ev, Fr.put, Fr.get, initFr, buildSliceA, zeros, pkB, pkT, pkF, ownDst, Env.kd, ofConst, isConst, binA, intI, cmpI, shiftI, convertA, buildA, fillA, fillS, splice, AV.cells?, storeA, readAt, fieldAddrA, fieldA, indexA, extractA, unA, builtinA, appendA, lenA, sliceCells, isSliceK, makeInterfaceA, nilCheckA, eqA, AV.one, AV.plain, if_false, if_true, Nat.reduceEqDiff, reduceIte, Nat.reduceAdd, List.replicate, Nat.reduceLeDiff, Nat.reduceMul, Nat.reduceSub, Nat.reducePow, Int.reduceLT, Int.reduceLE, Int.reduceToNat, Int.reducePow, IntKind.bits, Int.reduceEq, Int.reduceMul, Int.reduceNeg, ne_eq, reduceCtorEq, escT, BEq.rfl, beq_self_eq_true, Int.reduceAdd, Int.reduceSub, Int.reduceMod, Int.reduceDiv, Nat.reduceMod, Nat.reduceDiv, Nat.reduceLT, cond_true, cond_false, gt_iff_lt, ge_iff_le, g1, g5, g6, g8, hi, Ytimdnnlfkkkpbaa.D8, keep8, ty1, ty2, ty3, ty4, ty24, ty55, ty68, ty69, ty74, ty75, ty76]
    refine callThen_of (su _) ?_
    simp (maxSteps := 2000000) only [wk0, wk1, wk2, wk3, keepA, keepT, Fr.keep, frzT, flatT, arrayAtA, ownT, extT, Fr.ev, Fr.put, Fr.get, initFr, buildSliceA, zeros, pkB, pkT, pkF, ownDst, Env.kd, ofConst, isConst, binA, intI, cmpI, shiftI, convertA, buildA, fillA, fillS, splice, AV.cells?, storeA, readAt, fieldAddrA, fieldA, indexA, extractA, unA, builtinA, appendA, lenA, sliceCells, isSliceK, makeInterfaceA, nilCheckA, eqA, AV.one, AV.plain, if_false, if_true, Nat.reduceEqDiff, reduceIte, Nat.reduceAdd, List.replicate, Nat.reduceLeDiff, Nat.reduceMul, Nat.reduceSub, Nat.reducePow, Int.reduceLT, Int.reduceLE, Int.reduceToNat, Int.reducePow, IntKind.bits, Int.reduceEq, Int.reduceMul, Int.reduceNeg, ne_eq, reduceCtorEq, escT, BEq.rfl, beq_self_eq_true, Int.reduceAdd, Int.reduceSub, Int.reduceMod, Int.reduceDiv, Nat.reduceMod, Nat.reduceDiv, Nat.reduceLT, cond_true, cond_false, gt_iff_lt, ge_iff_le, g1, g5, g6, g8, hi, Ytimdnnlfkkkpbaa.D8, keep8, ty1, ty2, ty3, ty4, ty24, ty55, ty68, ty69, ty74, ty75, ty76]
    exact retB_plain (by simp [nmd_bool]) rfl (keep_take hlen hold)
end Go.Proofs.Ytimdnnlfkkkpbaa
