/- Layer 8's theorem. -/
import Derived.Test.YtimdnnlfkkkpbaaM4
set_option linter.unusedSimpArgs false
set_option linter.unusedVariables false
set_option maxRecDepth 100000
set_option maxHeartbeats 4000000
namespace Go.Proofs.Ytimdnnlfkkkpbaa
noncomputable def c4 : Code := Try.f4.body.getD .skip
theorem b4 : Try.f4.body = some c4 := rfl
theorem d4 : fnOk Try.f4 c4 = true := by kernel_rfl
def D4 : Nat → List Tag := fun _ => []
theorem e4 : drawsOk D4 c4 = true := by kernel_rfl
theorem allInts_cons {k : IntKind} {a b : Int} {r r' : List AV} : allInts (.int k a :: r) (.int k b :: r') = (allInts r r').map fun t => (a == b) && t := by simp [allInts]
theorem dotZ_append : ∀ {l r : List Int} {x y : Int}, l.length = r.length → dotZ (l ++ [x]) (r ++ [y]) = dotZ l r + x * y
  | [], [], x, y, _ => by simp [dotZ]
  | a :: l, b :: r, x, y, h => by
    have := dotZ_append (l := l) (r := r) (x := x) (y := y) (by simpa using h)
    simp only [List.cons_append, dotZ, this]
    omega
  | [], _ :: _, _, _, h => by simp at h
  | _ :: _, [], _, _, h => by simp at h
def sumZ (h : Nat → Int) : Nat → Int
  | 0 => 0
  | n + 1 => sumZ h n + h n
theorem dotZ_range (a b : Nat → Int) (n : Nat) : dotZ ((List.range n).map a) ((List.range n).map b) = sumZ (fun k => a k * b k) n := by
  induction n with
  | zero => rfl
  | succ n ih => rw [List.range_succ, List.map_append, List.map_append, List.map_cons, List.map_nil, List.map_cons, List.map_nil, dotZ_append (by simp), ih]; rfl
theorem sumZ_congr {g h : Nat → Int} {n : Nat} (e : ∀ k, k < n → g k = h k) : sumZ g n = sumZ h n := by
  induction n with
  | zero => rfl
  | succ n ih => simp only [sumZ]; rw [ih fun k hk => e k (by omega), e n (by omega)]
theorem sumZ_zero {h : Nat → Int} {n : Nat} (e : ∀ k, k < n → h k = 0) : sumZ h n = 0 := by
  induction n with
  | zero => rfl
  | succ n ih => simp only [sumZ]; rw [ih fun k hk => e k (by omega), e n (by omega)]; rfl
theorem sumZ_one {h : Nat → Int} {n j : Nat} (hj : j < n) (e : ∀ k, k < n → k ≠ j → h k = 0) : sumZ h n = h j := by
  induction n with
  | zero => omega
  | succ n ih =>
    simp only [sumZ]
    by_cases hn : j = n
    · subst hn
      rw [sumZ_zero fun k hk => e k (by omega) (by omega)]; omega
    · rw [ih (by omega) fun k hk hne => e k (by omega) hne, e n (by omega) (fun h => hn h.symm)]; omega
theorem rnd_mul' {x p : Int} (hp : 0 < p) : rnd (x * p) p = x := by
  unfold rnd
  rw [Int.mul_emod_left, Int.mul_ediv_cancel x (by omega), if_neg (by omega)]
  omega
theorem mulF_eye (f : Nat → Nat → Int) (n i j : Nat) (hj : j < n) : mulF f (eyeP n) n i j = f i j := by
  unfold mulF rowF colF
  rw [dotZ_range, sumZ_one hj]
  · simp only [eyeP, hj, and_self, if_true]
    exact rnd_mul' (by decide)
  · intro k hk hne
    simp [eyeP, hne]
theorem mulF_turn (f g : Nat → Nat → Int) (n i j : Nat) : mulF (fun i j => g j i) (fun i j => f j i) n i j = mulF f g n j i := by
  unfold mulF rowF colF
  rw [dotZ_range, dotZ_range]
  congr 1
  exact sumZ_congr fun k _ => Int.mul_comm _ _
theorem evenF_turn (f : Nat → Nat → Int) (i j : Nat) : evenF f j i = evenF f i j := by
  unfold evenF; congr 1; omega
theorem evenF_self {V : Nat → Nat → Int} {i j : Nat} (h : V j i = V i j) : evenF V i j = V i j := by
  unfold evenF
  rw [h, show V i j * 524288 + V i j * 524288 = V i j * 2 ^ 20 by omega]
  exact rnd_mul' (by decide)
theorem rowsF_in {l : List (List Int)} (h : ∀ r ∈ l, ∀ x ∈ r, inI x) (i j : Nat) : inI (rowsF l i j) := by
  unfold rowsF
  rw [List.getD_eq_getElem?_getD]
  cases hj : (l.getD i [])[j]? with
  | none => simp [inI]
  | some x =>
    have hx := List.mem_of_getElem? hj
    rw [List.getD_eq_getElem?_getD] at hx
    cases hi : l[i]? with
    | none => rw [hi] at hx; simp at hx
    | some r => rw [hi] at hx; exact h r (List.mem_of_getElem? hi) x hx
theorem matLaws_ok (a b : List (List Int)) (S : Heap) (ha : ∀ r ∈ a, ∀ x ∈ r, inI x) (hb : ∀ r ∈ b, ∀ x ∈ r, inI x) : Call theE 4 [lstL a, lstL b] S (.bool true) S := by
  have m1 := fun S => may_ok a S
  have m2 := fun S => may_ok b S
  have sr := sure08_ok
  refine Call.ofC Try.func4 Ytimdnnlfkkkpbaa.b4 Ytimdnnlfkkkpbaa.d4 Ytimdnnlfkkkpbaa.e4 (by simp [Try.f4]) ?_
  dsimp only [Ytimdnnlfkkkpbaa.c4, Try.f4, Option.getD_some]
  by_cases h1 : MayR a
  · rw [decide_eq_true h1] at m1
    by_cases h2 : MayR b
    · rw [decide_eq_true h2] at m2
      obtain ⟨ra, rb, rc⟩ := h1
      obtain ⟨sa, sb, sc⟩ := h2
      have h0 : 0 < a.length := by omega
      have g0 := get_lstL h0
      have k0 : (0 : Int) < a.length := by omega
      rw [getD_lst h0] at rb rc
      by_cases h3 : ((a[0]).length : Int) = b.length
      · obtain ⟨r, hr⟩ : ∃ r, a.length = r := ⟨_, rfl⟩
        obtain ⟨n, hn⟩ : ∃ n, b.length = n := ⟨_, rfl⟩
        obtain ⟨c, hc⟩ : ∃ c, (b.getD 0 []).length = c := ⟨_, rfl⟩
        have ean : (a[0]).length = n := by omega
        rw [ean] at rb rc
        rw [hc] at sb sc
        have x1 := fun S => matOf08_ok a n S ra rb rc
        have x2 := fun S => matOf08_ok b c S sa sb sc
        rw [hr] at ra k0 x1
        rw [hn] at sa x2
        obtain ⟨f, hf⟩ : ∃ f, rowsF a = f := ⟨_, rfl⟩
        obtain ⟨g, hg⟩ : ∃ g, rowsF b = g := ⟨_, rfl⟩
        have fi : ∀ i j, inI (f i j) := by rw [← hf]; exact rowsF_in ha
        have gi : ∀ i j, inI (g i j) := by rw [← hg]; exact rowsF_in hb
        rw [hf] at x1
        rw [hg] at x2
        have x3 := fun S => turn_ok r n f S ra rb
        have x4 := fun S => turn_ok n c g S sa sb
        have x5 : ∀ S, Call theE 19 [mk n r fun i j => f j i] S (.tup [mk r n f, .nili]) S := fun S => turn_ok n r (fun i j => f j i) S rb ra
        have x6 := fun S => mul_mat_ok r n c f g S ra rb sb (fun i j _ _ => fi i j) (fun i j _ _ => gi i j)
        obtain ⟨M, hM⟩ : ∃ M, (fun i j => bndI (mulF f g n i j)) = M := ⟨_, rfl⟩
        obtain ⟨o, ho⟩ : ∃ o, anyP c (fun i j => ovrB (mulF f g n i j)) (r * c) = o := ⟨_, rfl⟩
        have x7 : ∀ S, Call theE 20 [mk c n (fun i j => g j i), mk n r fun i j => f j i] S (.tup [mk c r (fun i j => M j i), .bool o, .nili]) S := fun S => by
          have := mul_mat_ok c n r (fun i j => g j i) (fun i j => f j i) S sb rb ra (fun i j _ _ => gi j i) (fun i j _ _ => fi j i)
          simp only [mulF_turn] at this
          have e : anyP r (fun i j => ovrB (mulF f g n j i)) (c * r) = o := by
            rw [← ho, Bool.eq_iff_iff, anyP_iff, anyP_iff]
            constructor
            · rintro ⟨i, j, hi, hj, e⟩; exact ⟨j, i, hj, hi, e⟩
            · rintro ⟨i, j, hi, hj, e⟩; exact ⟨j, i, hj, hi, e⟩
          rw [e] at this
          rw [← hM]
          exact this
        simp only [hM, ho] at x6
        have x8 := fun S => turn_ok r c M S ra sb
        have x9 := fun S => eye_ok n S sa
        obtain ⟨q, hq⟩ : ∃ q, anyP n (fun i j => ovrB (f i j)) (r * n) = q := ⟨_, rfl⟩
        have x10 : ∀ S, Call theE 20 [mk r n f, mk n n (eyeP n)] S (.tup [mk r n (fun i j => bndI (f i j)), .bool q, .nili]) S := fun S => by
          have := mul_mat_ok r n n f (eyeP n) S ra rb rb (fun i j _ _ => fi i j) (fun i j _ _ => by unfold eyeP inI; split <;> omega)
          rw [mk_congr (f := fun i j => bndI (mulF f (eyeP n) n i j)) (g := fun i j => bndI (f i j)) (fun i j _ hj => by rw [mulF_eye f n i j hj]), anyP_congr (f := fun i j => ovrB (mulF f (eyeP n) n i j)) (g := fun i j => ovrB (f i j)) (fun i j _ hj => by rw [mulF_eye f n i j hj]), hq] at this
          exact this
        have kr : (r : Int) = a.length := by omega
        simp only [lstL, hr, hn] at x1 x2
        simp only [lstL] at m1 m2
        simp only [hr, hn] at m1 m2
        simp only [mk, matA] at x1 x2 x3 x4 x5 x6 x7 x8 x9 x10
        have h3' : ((a[0]).length : Int) = n := by omega
        simp (maxSteps := 2000000) only [wk0, wk1, wk2, wk3, keepA, keepT, Fr.keep, frzT, flatT, arrayAtA, ownT, extT, Fr.ev, Fr.put, Fr.get, initFr, buildSliceA, zeros, pkB, pkT, pkF, ownDst, Env.kd, ofConst, isConst, binA, intI, cmpI, shiftI, convertA, buildA, fillA, fillS, splice, AV.cells?, storeA, readAt, fieldAddrA, fieldA, indexA, extractA, unA, builtinA, appendA, lenA, sliceCells, isSliceK, makeInterfaceA, nilCheckA, eqA, AV.one, AV.plain, if_false, if_true, Nat.reduceEqDiff, reduceIte, Nat.reduceAdd, List.replicate, Nat.reduceLeDiff, Nat.reduceMul, Nat.reduceSub, Nat.reducePow, Int.reduceLT, Int.reduceLE, Int.reduceToNat, Int.reducePow, IntKind.bits, Int.reduceEq, Int.reduceMul, Int.reduceNeg, ne_eq, reduceCtorEq, escT, BEq.rfl, beq_self_eq_true, Int.reduceAdd, Int.reduceSub, Int.reduceMod, Int.reduceDiv, Nat.reduceMod, Nat.reduceDiv, Nat.reduceLT, cond_true, cond_false, gt_iff_lt, ge_iff_le, lstL, lstI, hr, hn, Ytimdnnlfkkkpbaa.D4, ty3, ty4, ty22, ty24, ty29, ty36]
        refine callThen_of (m1 _) ?_
        simp (maxSteps := 2000000) only [wk0, wk1, wk2, wk3, keepA, keepT, Fr.keep, frzT, flatT, arrayAtA, ownT, extT, Fr.ev, Fr.put, Fr.get, initFr, buildSliceA, zeros, pkB, pkT, pkF, ownDst, Env.kd, ofConst, isConst, binA, intI, cmpI, shiftI, convertA, buildA, fillA, fillS, splice, AV.cells?, storeA, readAt, fieldAddrA, fieldA, indexA, extractA, unA, builtinA, appendA, lenA, sliceCells, isSliceK, makeInterfaceA, nilCheckA, eqA, AV.one, AV.plain, if_false, if_true, Nat.reduceEqDiff, reduceIte, Nat.reduceAdd, List.replicate, Nat.reduceLeDiff, Nat.reduceMul, Nat.reduceSub, Nat.reducePow, Int.reduceLT, Int.reduceLE, Int.reduceToNat, Int.reducePow, IntKind.bits, Int.reduceEq, Int.reduceMul, Int.reduceNeg, ne_eq, reduceCtorEq, escT, BEq.rfl, beq_self_eq_true, Int.reduceAdd, Int.reduceSub, Int.reduceMod, Int.reduceDiv, Nat.reduceMod, Nat.reduceDiv, Nat.reduceLT, cond_true, cond_false, gt_iff_lt, ge_iff_le, hr, hn, Ytimdnnlfkkkpbaa.D4, ty3, ty4, ty22, ty24, ty29, ty36]
        refine callThen_of (m2 _) ?_
        simp (maxSteps := 2000000) only [wk0, wk1, wk2, wk3, keepA, keepT, Fr.keep, frzT, flatT, arrayAtA, ownT, extT, Fr.ev, Fr.put, Fr.get, initFr, buildSliceA, zeros, pkB, pkT, pkF, ownDst, Env.kd, ofConst, isConst, binA, intI, cmpI, shiftI, convertA, buildA, fillA, fillS, splice, AV.cells?, storeA, readAt, fieldAddrA, fieldA, indexA, extractA, unA, builtinA, appendA, lenA, sliceCells, isSliceK, makeInterfaceA, nilCheckA, eqA, AV.one, AV.plain, if_false, if_true, Nat.reduceEqDiff, reduceIte, Nat.reduceAdd, List.replicate, Nat.reduceLeDiff, Nat.reduceMul, Nat.reduceSub, Nat.reducePow, Int.reduceLT, Int.reduceLE, Int.reduceToNat, Int.reducePow, IntKind.bits, Int.reduceEq, Int.reduceMul, Int.reduceNeg, ne_eq, reduceCtorEq, escT, BEq.rfl, beq_self_eq_true, Int.reduceAdd, Int.reduceSub, Int.reduceMod, Int.reduceDiv, Nat.reduceMod, Nat.reduceDiv, Nat.reduceLT, cond_true, cond_false, gt_iff_lt, ge_iff_le, hr, hn, k0, g0, lstI, h3', Ytimdnnlfkkkpbaa.D4, ty3, ty4, ty22, ty24, ty29, ty36]
        refine callThen_of (x1 _) ?_
        simp (maxSteps := 2000000) only [wk0, wk1, wk2, wk3, keepA, keepT, Fr.keep, frzT, flatT, arrayAtA, ownT, extT, Fr.ev, Fr.put, Fr.get, initFr, buildSliceA, zeros, pkB, pkT, pkF, ownDst, Env.kd, ofConst, isConst, binA, intI, cmpI, shiftI, convertA, buildA, fillA, fillS, splice, AV.cells?, storeA, readAt, fieldAddrA, fieldA, indexA, extractA, unA, builtinA, appendA, lenA, sliceCells, isSliceK, makeInterfaceA, nilCheckA, eqA, AV.one, AV.plain, if_false, if_true, Nat.reduceEqDiff, reduceIte, Nat.reduceAdd, List.replicate, Nat.reduceLeDiff, Nat.reduceMul, Nat.reduceSub, Nat.reducePow, Int.reduceLT, Int.reduceLE, Int.reduceToNat, Int.reducePow, IntKind.bits, Int.reduceEq, Int.reduceMul, Int.reduceNeg, ne_eq, reduceCtorEq, escT, BEq.rfl, beq_self_eq_true, Int.reduceAdd, Int.reduceSub, Int.reduceMod, Int.reduceDiv, Nat.reduceMod, Nat.reduceDiv, Nat.reduceLT, cond_true, cond_false, gt_iff_lt, ge_iff_le, hr, hn, List.length_map, gridP_len, take36g, all36g, allInts_self, allInts_cons, Ytimdnnlfkkkpbaa.D4, ty3, ty4, ty22, ty24, ty29, ty36]
        refine callThen_of (x2 _) ?_
        simp (maxSteps := 2000000) only [wk0, wk1, wk2, wk3, keepA, keepT, Fr.keep, frzT, flatT, arrayAtA, ownT, extT, Fr.ev, Fr.put, Fr.get, initFr, buildSliceA, zeros, pkB, pkT, pkF, ownDst, Env.kd, ofConst, isConst, binA, intI, cmpI, shiftI, convertA, buildA, fillA, fillS, splice, AV.cells?, storeA, readAt, fieldAddrA, fieldA, indexA, extractA, unA, builtinA, appendA, lenA, sliceCells, isSliceK, makeInterfaceA, nilCheckA, eqA, AV.one, AV.plain, if_false, if_true, Nat.reduceEqDiff, reduceIte, Nat.reduceAdd, List.replicate, Nat.reduceLeDiff, Nat.reduceMul, Nat.reduceSub, Nat.reducePow, Int.reduceLT, Int.reduceLE, Int.reduceToNat, Int.reducePow, IntKind.bits, Int.reduceEq, Int.reduceMul, Int.reduceNeg, ne_eq, reduceCtorEq, escT, BEq.rfl, beq_self_eq_true, Int.reduceAdd, Int.reduceSub, Int.reduceMod, Int.reduceDiv, Nat.reduceMod, Nat.reduceDiv, Nat.reduceLT, cond_true, cond_false, gt_iff_lt, ge_iff_le, hr, hn, List.length_map, gridP_len, take36g, all36g, allInts_self, allInts_cons, Ytimdnnlfkkkpbaa.D4, ty3, ty4, ty22, ty24, ty29, ty36]
        refine callThen_of (x3 _) ?_
        simp (maxSteps := 2000000) only [wk0, wk1, wk2, wk3, keepA, keepT, Fr.keep, frzT, flatT, arrayAtA, ownT, extT, Fr.ev, Fr.put, Fr.get, initFr, buildSliceA, zeros, pkB, pkT, pkF, ownDst, Env.kd, ofConst, isConst, binA, intI, cmpI, shiftI, convertA, buildA, fillA, fillS, splice, AV.cells?, storeA, readAt, fieldAddrA, fieldA, indexA, extractA, unA, builtinA, appendA, lenA, sliceCells, isSliceK, makeInterfaceA, nilCheckA, eqA, AV.one, AV.plain, if_false, if_true, Nat.reduceEqDiff, reduceIte, Nat.reduceAdd, List.replicate, Nat.reduceLeDiff, Nat.reduceMul, Nat.reduceSub, Nat.reducePow, Int.reduceLT, Int.reduceLE, Int.reduceToNat, Int.reducePow, IntKind.bits, Int.reduceEq, Int.reduceMul, Int.reduceNeg, ne_eq, reduceCtorEq, escT, BEq.rfl, beq_self_eq_true, Int.reduceAdd, Int.reduceSub, Int.reduceMod, Int.reduceDiv, Nat.reduceMod, Nat.reduceDiv, Nat.reduceLT, cond_true, cond_false, gt_iff_lt, ge_iff_le, hr, hn, List.length_map, gridP_len, take36g, all36g, allInts_self, allInts_cons, Ytimdnnlfkkkpbaa.D4, ty3, ty4, ty22, ty24, ty29, ty36]
        refine callThen_of (x4 _) ?_
        simp (maxSteps := 2000000) only [wk0, wk1, wk2, wk3, keepA, keepT, Fr.keep, frzT, flatT, arrayAtA, ownT, extT, Fr.ev, Fr.put, Fr.get, initFr, buildSliceA, zeros, pkB, pkT, pkF, ownDst, Env.kd, ofConst, isConst, binA, intI, cmpI, shiftI, convertA, buildA, fillA, fillS, splice, AV.cells?, storeA, readAt, fieldAddrA, fieldA, indexA, extractA, unA, builtinA, appendA, lenA, sliceCells, isSliceK, makeInterfaceA, nilCheckA, eqA, AV.one, AV.plain, if_false, if_true, Nat.reduceEqDiff, reduceIte, Nat.reduceAdd, List.replicate, Nat.reduceLeDiff, Nat.reduceMul, Nat.reduceSub, Nat.reducePow, Int.reduceLT, Int.reduceLE, Int.reduceToNat, Int.reducePow, IntKind.bits, Int.reduceEq, Int.reduceMul, Int.reduceNeg, ne_eq, reduceCtorEq, escT, BEq.rfl, beq_self_eq_true, Int.reduceAdd, Int.reduceSub, Int.reduceMod, Int.reduceDiv, Nat.reduceMod, Nat.reduceDiv, Nat.reduceLT, cond_true, cond_false, gt_iff_lt, ge_iff_le, hr, hn, List.length_map, gridP_len, take36g, all36g, allInts_self, allInts_cons, Ytimdnnlfkkkpbaa.D4, ty3, ty4, ty22, ty24, ty29, ty36]
        refine callThen_of (x5 _) ?_
        simp (maxSteps := 2000000) only [wk0, wk1, wk2, wk3, keepA, keepT, Fr.keep, frzT, flatT, arrayAtA, ownT, extT, Fr.ev, Fr.put, Fr.get, initFr, buildSliceA, zeros, pkB, pkT, pkF, ownDst, Env.kd, ofConst, isConst, binA, intI, cmpI, shiftI, convertA, buildA, fillA, fillS, splice, AV.cells?, storeA, readAt, fieldAddrA, fieldA, indexA, extractA, unA, builtinA, appendA, lenA, sliceCells, isSliceK, makeInterfaceA, nilCheckA, eqA, AV.one, AV.plain, if_false, if_true, Nat.reduceEqDiff, reduceIte, Nat.reduceAdd, List.replicate, Nat.reduceLeDiff, Nat.reduceMul, Nat.reduceSub, Nat.reducePow, Int.reduceLT, Int.reduceLE, Int.reduceToNat, Int.reducePow, IntKind.bits, Int.reduceEq, Int.reduceMul, Int.reduceNeg, ne_eq, reduceCtorEq, escT, BEq.rfl, beq_self_eq_true, Int.reduceAdd, Int.reduceSub, Int.reduceMod, Int.reduceDiv, Nat.reduceMod, Nat.reduceDiv, Nat.reduceLT, cond_true, cond_false, gt_iff_lt, ge_iff_le, hr, hn, List.length_map, gridP_len, take36g, all36g, allInts_self, allInts_cons, Ytimdnnlfkkkpbaa.D4, ty3, ty4, ty22, ty24, ty29, ty36]
        refine callThen_of (x6 _) ?_
        simp (maxSteps := 2000000) only [wk0, wk1, wk2, wk3, keepA, keepT, Fr.keep, frzT, flatT, arrayAtA, ownT, extT, Fr.ev, Fr.put, Fr.get, initFr, buildSliceA, zeros, pkB, pkT, pkF, ownDst, Env.kd, ofConst, isConst, binA, intI, cmpI, shiftI, convertA, buildA, fillA, fillS, splice, AV.cells?, storeA, readAt, fieldAddrA, fieldA, indexA, extractA, unA, builtinA, appendA, lenA, sliceCells, isSliceK, makeInterfaceA, nilCheckA, eqA, AV.one, AV.plain, if_false, if_true, Nat.reduceEqDiff, reduceIte, Nat.reduceAdd, List.replicate, Nat.reduceLeDiff, Nat.reduceMul, Nat.reduceSub, Nat.reducePow, Int.reduceLT, Int.reduceLE, Int.reduceToNat, Int.reducePow, IntKind.bits, Int.reduceEq, Int.reduceMul, Int.reduceNeg, ne_eq, reduceCtorEq, escT, BEq.rfl, beq_self_eq_true, Int.reduceAdd, Int.reduceSub, Int.reduceMod, Int.reduceDiv, Nat.reduceMod, Nat.reduceDiv, Nat.reduceLT, cond_true, cond_false, gt_iff_lt, ge_iff_le, hr, hn, List.length_map, gridP_len, take36g, all36g, allInts_self, allInts_cons, Ytimdnnlfkkkpbaa.D4, ty3, ty4, ty22, ty24, ty29, ty36]
        refine callThen_of (x7 _) ?_
        simp (maxSteps := 2000000) only [wk0, wk1, wk2, wk3, keepA, keepT, Fr.keep, frzT, flatT, arrayAtA, ownT, extT, Fr.ev, Fr.put, Fr.get, initFr, buildSliceA, zeros, pkB, pkT, pkF, ownDst, Env.kd, ofConst, isConst, binA, intI, cmpI, shiftI, convertA, buildA, fillA, fillS, splice, AV.cells?, storeA, readAt, fieldAddrA, fieldA, indexA, extractA, unA, builtinA, appendA, lenA, sliceCells, isSliceK, makeInterfaceA, nilCheckA, eqA, AV.one, AV.plain, if_false, if_true, Nat.reduceEqDiff, reduceIte, Nat.reduceAdd, List.replicate, Nat.reduceLeDiff, Nat.reduceMul, Nat.reduceSub, Nat.reducePow, Int.reduceLT, Int.reduceLE, Int.reduceToNat, Int.reducePow, IntKind.bits, Int.reduceEq, Int.reduceMul, Int.reduceNeg, ne_eq, reduceCtorEq, escT, BEq.rfl, beq_self_eq_true, Int.reduceAdd, Int.reduceSub, Int.reduceMod, Int.reduceDiv, Nat.reduceMod, Nat.reduceDiv, Nat.reduceLT, cond_true, cond_false, gt_iff_lt, ge_iff_le, hr, hn, List.length_map, gridP_len, take36g, all36g, allInts_self, allInts_cons, Ytimdnnlfkkkpbaa.D4, ty3, ty4, ty22, ty24, ty29, ty36]
        refine callThen_of (x8 _) ?_
        simp (maxSteps := 2000000) only [wk0, wk1, wk2, wk3, keepA, keepT, Fr.keep, frzT, flatT, arrayAtA, ownT, extT, Fr.ev, Fr.put, Fr.get, initFr, buildSliceA, zeros, pkB, pkT, pkF, ownDst, Env.kd, ofConst, isConst, binA, intI, cmpI, shiftI, convertA, buildA, fillA, fillS, splice, AV.cells?, storeA, readAt, fieldAddrA, fieldA, indexA, extractA, unA, builtinA, appendA, lenA, sliceCells, isSliceK, makeInterfaceA, nilCheckA, eqA, AV.one, AV.plain, if_false, if_true, Nat.reduceEqDiff, reduceIte, Nat.reduceAdd, List.replicate, Nat.reduceLeDiff, Nat.reduceMul, Nat.reduceSub, Nat.reducePow, Int.reduceLT, Int.reduceLE, Int.reduceToNat, Int.reducePow, IntKind.bits, Int.reduceEq, Int.reduceMul, Int.reduceNeg, ne_eq, reduceCtorEq, escT, BEq.rfl, beq_self_eq_true, Int.reduceAdd, Int.reduceSub, Int.reduceMod, Int.reduceDiv, Nat.reduceMod, Nat.reduceDiv, Nat.reduceLT, cond_true, cond_false, gt_iff_lt, ge_iff_le, hr, hn, List.length_map, gridP_len, take36g, all36g, allInts_self, allInts_cons, Ytimdnnlfkkkpbaa.D4, ty3, ty4, ty22, ty24, ty29, ty36]
        refine callThen_of (x9 _) ?_
        simp (maxSteps := 2000000) only [wk0, wk1, wk2, wk3, keepA, keepT, Fr.keep, frzT, flatT, arrayAtA, ownT, extT, Fr.ev, Fr.put, Fr.get, initFr, buildSliceA, zeros, pkB, pkT, pkF, ownDst, Env.kd, ofConst, isConst, binA, intI, cmpI, shiftI, convertA, buildA, fillA, fillS, splice, AV.cells?, storeA, readAt, fieldAddrA, fieldA, indexA, extractA, unA, builtinA, appendA, lenA, sliceCells, isSliceK, makeInterfaceA, nilCheckA, eqA, AV.one, AV.plain, if_false, if_true, Nat.reduceEqDiff, reduceIte, Nat.reduceAdd, List.replicate, Nat.reduceLeDiff, Nat.reduceMul, Nat.reduceSub, Nat.reducePow, Int.reduceLT, Int.reduceLE, Int.reduceToNat, Int.reducePow, IntKind.bits, Int.reduceEq, Int.reduceMul, Int.reduceNeg, ne_eq, reduceCtorEq, escT, BEq.rfl, beq_self_eq_true, Int.reduceAdd, Int.reduceSub, Int.reduceMod, Int.reduceDiv, Nat.reduceMod, Nat.reduceDiv, Nat.reduceLT, cond_true, cond_false, gt_iff_lt, ge_iff_le, hr, hn, List.length_map, gridP_len, take36g, all36g, allInts_self, allInts_cons, Ytimdnnlfkkkpbaa.D4, ty3, ty4, ty22, ty24, ty29, ty36]
        cases q
        · have x11 : ∀ S, Call theE 20 [mk r n f, mk n n (eyeP n)] S (.tup [mk r n f, .bool false, .nili]) S := fun S => by
            have e : mk r n (fun i j => bndI (f i j)) = mk r n f := mk_congr fun i j hi hj => by
              have : ¬ (anyP n (fun i j => ovrB (f i j)) (r * n) = true) := by rw [hq]; decide
              rw [anyP_iff] at this
              have h : ovrB (f i j) = false := by
                cases ho : ovrB (f i j) with
                | false => rfl
                | true => exact absurd ⟨i, j, hi, hj, ho⟩ this
              unfold ovrB at h
              have h := of_decide_eq_false h
              unfold bndI
              omega
            rw [← e]
            simp only [mk, matA]
            have := x10 S
            rw [show (gridP n (fun i j => bndI (f i j)) (r * n)) = gridP n f (r * n) by
              have := congrArg (fun v => match v with | AV.agg l => l.drop 2 | _ => []) e
              simp only [mk, matA, List.drop_succ_cons, List.drop_zero] at this
              exact (List.map_inj_right (fun x y h => by cases h; rfl)).1 this] at this ⊢
            exact this
          simp only [mk, matA] at x11
          refine callThen_of (x11 _) ?_
          by_cases h4 : (r : Int) = n
          · obtain rfl : r = n := by omega
            have y1 := fun S => even_mat_ok r f S ra (fun i j _ _ => fi i j)
            obtain ⟨V, hV⟩ : ∃ V, (fun i j => bndI (evenF f i j)) = V := ⟨_, rfl⟩
            have Vs : ∀ i j, V j i = V i j := by intro i j; rw [← hV]; simp only [evenF_turn f i j]
            have Vb : ∀ i j, -4611686018427387903 ≤ V i j ∧ V i j ≤ 4611686018427387903 := by intro i j; rw [← hV]; simp only [bndI]; omega
            obtain ⟨w, hw⟩ : ∃ w, anyP r (fun i j => ovrB (evenF f i j)) (r * r) = w := ⟨_, rfl⟩
            simp only [hV, hw] at y1
            have y2 : ∀ S, Call theE 19 [mk r r V] S (.tup [mk r r V, .nili]) S := fun S => by
              have := turn_ok r r V S ra ra
              simp only [Vs] at this
              exact this
            have y3 : ∀ S, Call theE 22 [mk r r V] S (.tup [mk r r V, .bool false, .nili]) S := fun S => by
              have := even_mat_ok r V S ra (fun i j _ _ => by have := Vb i j; unfold inI; omega)
              have e1 : ∀ i j, evenF V i j = V i j := fun i j => evenF_self (Vs i j)
              have e2 : ∀ i j, bndI (V i j) = V i j := fun i j => by have := Vb i j; unfold bndI; omega
              have e3 : ∀ i j, ovrB (V i j) = false := fun i j => by have := Vb i j; exact decide_eq_false (by omega)
              simp only [e1, e2, e3] at this
              have e4 : anyP r (fun _ _ => false) (r * r) = false := by simp [anyP]
              rw [e4] at this
              exact this
            simp only [mk, matA] at y1 y2 y3
            simp (maxSteps := 2000000) only [wk0, wk1, wk2, wk3, keepA, keepT, Fr.keep, frzT, flatT, arrayAtA, ownT, extT, Fr.ev, Fr.put, Fr.get, initFr, buildSliceA, zeros, pkB, pkT, pkF, ownDst, Env.kd, ofConst, isConst, binA, intI, cmpI, shiftI, convertA, buildA, fillA, fillS, splice, AV.cells?, storeA, readAt, fieldAddrA, fieldA, indexA, extractA, unA, builtinA, appendA, lenA, sliceCells, isSliceK, makeInterfaceA, nilCheckA, eqA, AV.one, AV.plain, if_false, if_true, Nat.reduceEqDiff, reduceIte, Nat.reduceAdd, List.replicate, Nat.reduceLeDiff, Nat.reduceMul, Nat.reduceSub, Nat.reducePow, Int.reduceLT, Int.reduceLE, Int.reduceToNat, Int.reducePow, IntKind.bits, Int.reduceEq, Int.reduceMul, Int.reduceNeg, ne_eq, reduceCtorEq, escT, BEq.rfl, beq_self_eq_true, Int.reduceAdd, Int.reduceSub, Int.reduceMod, Int.reduceDiv, Nat.reduceMod, Nat.reduceDiv, Nat.reduceLT, cond_true, cond_false, gt_iff_lt, ge_iff_le, hr, hn, k0, g0, lstI, ean, List.length_map, gridP_len, take36g, all36g, allInts_self, allInts_cons, Ytimdnnlfkkkpbaa.D4, ty3, ty4, ty22, ty24, ty29, ty36]
            refine callThen_of (y1 _) ?_
            simp (maxSteps := 2000000) only [wk0, wk1, wk2, wk3, keepA, keepT, Fr.keep, frzT, flatT, arrayAtA, ownT, extT, Fr.ev, Fr.put, Fr.get, initFr, buildSliceA, zeros, pkB, pkT, pkF, ownDst, Env.kd, ofConst, isConst, binA, intI, cmpI, shiftI, convertA, buildA, fillA, fillS, splice, AV.cells?, storeA, readAt, fieldAddrA, fieldA, indexA, extractA, unA, builtinA, appendA, lenA, sliceCells, isSliceK, makeInterfaceA, nilCheckA, eqA, AV.one, AV.plain, if_false, if_true, Nat.reduceEqDiff, reduceIte, Nat.reduceAdd, List.replicate, Nat.reduceLeDiff, Nat.reduceMul, Nat.reduceSub, Nat.reducePow, Int.reduceLT, Int.reduceLE, Int.reduceToNat, Int.reducePow, IntKind.bits, Int.reduceEq, Int.reduceMul, Int.reduceNeg, ne_eq, reduceCtorEq, escT, BEq.rfl, beq_self_eq_true, Int.reduceAdd, Int.reduceSub, Int.reduceMod, Int.reduceDiv, Nat.reduceMod, Nat.reduceDiv, Nat.reduceLT, cond_true, cond_false, gt_iff_lt, ge_iff_le, List.length_map, gridP_len, take36g, all36g, allInts_self, allInts_cons, Ytimdnnlfkkkpbaa.D4, ty3, ty4, ty22, ty24, ty29, ty36]
            refine callThen_of (y2 _) ?_
            simp (maxSteps := 2000000) only [wk0, wk1, wk2, wk3, keepA, keepT, Fr.keep, frzT, flatT, arrayAtA, ownT, extT, Fr.ev, Fr.put, Fr.get, initFr, buildSliceA, zeros, pkB, pkT, pkF, ownDst, Env.kd, ofConst, isConst, binA, intI, cmpI, shiftI, convertA, buildA, fillA, fillS, splice, AV.cells?, storeA, readAt, fieldAddrA, fieldA, indexA, extractA, unA, builtinA, appendA, lenA, sliceCells, isSliceK, makeInterfaceA, nilCheckA, eqA, AV.one, AV.plain, if_false, if_true, Nat.reduceEqDiff, reduceIte, Nat.reduceAdd, List.replicate, Nat.reduceLeDiff, Nat.reduceMul, Nat.reduceSub, Nat.reducePow, Int.reduceLT, Int.reduceLE, Int.reduceToNat, Int.reducePow, IntKind.bits, Int.reduceEq, Int.reduceMul, Int.reduceNeg, ne_eq, reduceCtorEq, escT, BEq.rfl, beq_self_eq_true, Int.reduceAdd, Int.reduceSub, Int.reduceMod, Int.reduceDiv, Nat.reduceMod, Nat.reduceDiv, Nat.reduceLT, cond_true, cond_false, gt_iff_lt, ge_iff_le, List.length_map, gridP_len, take36g, all36g, allInts_self, allInts_cons, Ytimdnnlfkkkpbaa.D4, ty3, ty4, ty22, ty24, ty29, ty36]
            refine callThen_of (y3 _) ?_
            simp (maxSteps := 2000000) only [wk0, wk1, wk2, wk3, keepA, keepT, Fr.keep, frzT, flatT, arrayAtA, ownT, extT, Fr.ev, Fr.put, Fr.get, initFr, buildSliceA, zeros, pkB, pkT, pkF, ownDst, Env.kd, ofConst, isConst, binA, intI, cmpI, shiftI, convertA, buildA, fillA, fillS, splice, AV.cells?, storeA, readAt, fieldAddrA, fieldA, indexA, extractA, unA, builtinA, appendA, lenA, sliceCells, isSliceK, makeInterfaceA, nilCheckA, eqA, AV.one, AV.plain, if_false, if_true, Nat.reduceEqDiff, reduceIte, Nat.reduceAdd, List.replicate, Nat.reduceLeDiff, Nat.reduceMul, Nat.reduceSub, Nat.reducePow, Int.reduceLT, Int.reduceLE, Int.reduceToNat, Int.reducePow, IntKind.bits, Int.reduceEq, Int.reduceMul, Int.reduceNeg, ne_eq, reduceCtorEq, escT, BEq.rfl, beq_self_eq_true, Int.reduceAdd, Int.reduceSub, Int.reduceMod, Int.reduceDiv, Nat.reduceMod, Nat.reduceDiv, Nat.reduceLT, cond_true, cond_false, gt_iff_lt, ge_iff_le, List.length_map, gridP_len, take36g, all36g, allInts_self, allInts_cons, Ytimdnnlfkkkpbaa.D4, ty3, ty4, ty22, ty24, ty29, ty36]
            refine callThen_of (sr _) ?_
            simp (maxSteps := 2000000) only [wk0, wk1, wk2, wk3, keepA, keepT, Fr.keep, frzT, flatT, arrayAtA, ownT, extT, Fr.ev, Fr.put, Fr.get, initFr, buildSliceA, zeros, pkB, pkT, pkF, ownDst, Env.kd, ofConst, isConst, binA, intI, cmpI, shiftI, convertA, buildA, fillA, fillS, splice, AV.cells?, storeA, readAt, fieldAddrA, fieldA, indexA, extractA, unA, builtinA, appendA, lenA, sliceCells, isSliceK, makeInterfaceA, nilCheckA, eqA, AV.one, AV.plain, if_false, if_true, Nat.reduceEqDiff, reduceIte, Nat.reduceAdd, List.replicate, Nat.reduceLeDiff, Nat.reduceMul, Nat.reduceSub, Nat.reducePow, Int.reduceLT, Int.reduceLE, Int.reduceToNat, Int.reducePow, IntKind.bits, Int.reduceEq, Int.reduceMul, Int.reduceNeg, ne_eq, reduceCtorEq, escT, BEq.rfl, beq_self_eq_true, Int.reduceAdd, Int.reduceSub, Int.reduceMod, Int.reduceDiv, Nat.reduceMod, Nat.reduceDiv, Nat.reduceLT, cond_true, cond_false, gt_iff_lt, ge_iff_le, Ytimdnnlfkkkpbaa.D4, ty3, ty4, ty22, ty24, ty29, ty36]
            exact retB_plain (by simp [nmd_bool]) rfl (by simp)
          · simp (maxSteps := 2000000) only [wk0, wk1, wk2, wk3, keepA, keepT, Fr.keep, frzT, flatT, arrayAtA, ownT, extT, Fr.ev, Fr.put, Fr.get, initFr, buildSliceA, zeros, pkB, pkT, pkF, ownDst, Env.kd, ofConst, isConst, binA, intI, cmpI, shiftI, convertA, buildA, fillA, fillS, splice, AV.cells?, storeA, readAt, fieldAddrA, fieldA, indexA, extractA, unA, builtinA, appendA, lenA, sliceCells, isSliceK, makeInterfaceA, nilCheckA, eqA, AV.one, AV.plain, if_false, if_true, Nat.reduceEqDiff, reduceIte, Nat.reduceAdd, List.replicate, Nat.reduceLeDiff, Nat.reduceMul, Nat.reduceSub, Nat.reducePow, Int.reduceLT, Int.reduceLE, Int.reduceToNat, Int.reducePow, IntKind.bits, Int.reduceEq, Int.reduceMul, Int.reduceNeg, ne_eq, reduceCtorEq, escT, BEq.rfl, beq_self_eq_true, Int.reduceAdd, Int.reduceSub, Int.reduceMod, Int.reduceDiv, Nat.reduceMod, Nat.reduceDiv, Nat.reduceLT, cond_true, cond_false, gt_iff_lt, ge_iff_le, hr, hn, k0, g0, lstI, ean, h4, List.length_map, gridP_len, take36g, all36g, allInts_self, allInts_cons, Ytimdnnlfkkkpbaa.D4, ty3, ty4, ty22, ty24, ty29, ty36]
            refine callThen_of (sr _) ?_
            simp (maxSteps := 2000000) only [wk0, wk1, wk2, wk3, keepA, keepT, Fr.keep, frzT, flatT, arrayAtA, ownT, extT, Fr.ev, Fr.put, Fr.get, initFr, buildSliceA, zeros, pkB, pkT, pkF, ownDst, Env.kd, ofConst, isConst, binA, intI, cmpI, shiftI, convertA, buildA, fillA, fillS, splice, AV.cells?, storeA, readAt, fieldAddrA, fieldA, indexA, extractA, unA, builtinA, appendA, lenA, sliceCells, isSliceK, makeInterfaceA, nilCheckA, eqA, AV.one, AV.plain, if_false, if_true, Nat.reduceEqDiff, reduceIte, Nat.reduceAdd, List.replicate, Nat.reduceLeDiff, Nat.reduceMul, Nat.reduceSub, Nat.reducePow, Int.reduceLT, Int.reduceLE, Int.reduceToNat, Int.reducePow, IntKind.bits, Int.reduceEq, Int.reduceMul, Int.reduceNeg, ne_eq, reduceCtorEq, escT, BEq.rfl, beq_self_eq_true, Int.reduceAdd, Int.reduceSub, Int.reduceMod, Int.reduceDiv, Nat.reduceMod, Nat.reduceDiv, Nat.reduceLT, cond_true, cond_false, gt_iff_lt, ge_iff_le, Ytimdnnlfkkkpbaa.D4, ty3, ty4, ty22, ty24, ty29, ty36]
            exact retB_plain (by simp [nmd_bool]) rfl (by simp)
        · refine callThen_of (x10 _) ?_
          by_cases h4 : (r : Int) = n
          · obtain rfl : r = n := by omega
            have y1 := fun S => even_mat_ok r f S ra (fun i j _ _ => fi i j)
            obtain ⟨V, hV⟩ : ∃ V, (fun i j => bndI (evenF f i j)) = V := ⟨_, rfl⟩
            have Vs : ∀ i j, V j i = V i j := by intro i j; rw [← hV]; simp only [evenF_turn f i j]
            have Vb : ∀ i j, -4611686018427387903 ≤ V i j ∧ V i j ≤ 4611686018427387903 := by intro i j; rw [← hV]; simp only [bndI]; omega
            obtain ⟨w, hw⟩ : ∃ w, anyP r (fun i j => ovrB (evenF f i j)) (r * r) = w := ⟨_, rfl⟩
            simp only [hV, hw] at y1
            have y2 : ∀ S, Call theE 19 [mk r r V] S (.tup [mk r r V, .nili]) S := fun S => by
              have := turn_ok r r V S ra ra
              simp only [Vs] at this
              exact this
            have y3 : ∀ S, Call theE 22 [mk r r V] S (.tup [mk r r V, .bool false, .nili]) S := fun S => by
              have := even_mat_ok r V S ra (fun i j _ _ => by have := Vb i j; unfold inI; omega)
              have e1 : ∀ i j, evenF V i j = V i j := fun i j => evenF_self (Vs i j)
              have e2 : ∀ i j, bndI (V i j) = V i j := fun i j => by have := Vb i j; unfold bndI; omega
              have e3 : ∀ i j, ovrB (V i j) = false := fun i j => by have := Vb i j; exact decide_eq_false (by omega)
              simp only [e1, e2, e3] at this
              have e4 : anyP r (fun _ _ => false) (r * r) = false := by simp [anyP]
              rw [e4] at this
              exact this
            simp only [mk, matA] at y1 y2 y3
            simp (maxSteps := 2000000) only [wk0, wk1, wk2, wk3, keepA, keepT, Fr.keep, frzT, flatT, arrayAtA, ownT, extT, Fr.ev, Fr.put, Fr.get, initFr, buildSliceA, zeros, pkB, pkT, pkF, ownDst, Env.kd, ofConst, isConst, binA, intI, cmpI, shiftI, convertA, buildA, fillA, fillS, splice, AV.cells?, storeA, readAt, fieldAddrA, fieldA, indexA, extractA, unA, builtinA, appendA, lenA, sliceCells, isSliceK, makeInterfaceA, nilCheckA, eqA, AV.one, AV.plain, if_false, if_true, Nat.reduceEqDiff, reduceIte, Nat.reduceAdd, List.replicate, Nat.reduceLeDiff, Nat.reduceMul, Nat.reduceSub, Nat.reducePow, Int.reduceLT, Int.reduceLE, Int.reduceToNat, Int.reducePow, IntKind.bits, Int.reduceEq, Int.reduceMul, Int.reduceNeg, ne_eq, reduceCtorEq, escT, BEq.rfl, beq_self_eq_true, Int.reduceAdd, Int.reduceSub, Int.reduceMod, Int.reduceDiv, Nat.reduceMod, Nat.reduceDiv, Nat.reduceLT, cond_true, cond_false, gt_iff_lt, ge_iff_le, hr, hn, k0, g0, lstI, ean, List.length_map, gridP_len, take36g, all36g, allInts_self, allInts_cons, Ytimdnnlfkkkpbaa.D4, ty3, ty4, ty22, ty24, ty29, ty36]
            refine callThen_of (y1 _) ?_
            simp (maxSteps := 2000000) only [wk0, wk1, wk2, wk3, keepA, keepT, Fr.keep, frzT, flatT, arrayAtA, ownT, extT, Fr.ev, Fr.put, Fr.get, initFr, buildSliceA, zeros, pkB, pkT, pkF, ownDst, Env.kd, ofConst, isConst, binA, intI, cmpI, shiftI, convertA, buildA, fillA, fillS, splice, AV.cells?, storeA, readAt, fieldAddrA, fieldA, indexA, extractA, unA, builtinA, appendA, lenA, sliceCells, isSliceK, makeInterfaceA, nilCheckA, eqA, AV.one, AV.plain, if_false, if_true, Nat.reduceEqDiff, reduceIte, Nat.reduceAdd, List.replicate, Nat.reduceLeDiff, Nat.reduceMul, Nat.reduceSub, Nat.reducePow, Int.reduceLT, Int.reduceLE, Int.reduceToNat, Int.reducePow, IntKind.bits, Int.reduceEq, Int.reduceMul, Int.reduceNeg, ne_eq, reduceCtorEq, escT, BEq.rfl, beq_self_eq_true, Int.reduceAdd, Int.reduceSub, Int.reduceMod, Int.reduceDiv, Nat.reduceMod, Nat.reduceDiv, Nat.reduceLT, cond_true, cond_false, gt_iff_lt, ge_iff_le, List.length_map, gridP_len, take36g, all36g, allInts_self, allInts_cons, Ytimdnnlfkkkpbaa.D4, ty3, ty4, ty22, ty24, ty29, ty36]
            refine callThen_of (y2 _) ?_
            simp (maxSteps := 2000000) only [wk0, wk1, wk2, wk3, keepA, keepT, Fr.keep, frzT, flatT, arrayAtA, ownT, extT, Fr.ev, Fr.put, Fr.get, initFr, buildSliceA, zeros, pkB, pkT, pkF, ownDst, Env.kd, ofConst, isConst, binA, intI, cmpI, shiftI, convertA, buildA, fillA, fillS, splice, AV.cells?, storeA, readAt, fieldAddrA, fieldA, indexA, extractA, unA, builtinA, appendA, lenA, sliceCells, isSliceK, makeInterfaceA, nilCheckA, eqA, AV.one, AV.plain, if_false, if_true, Nat.reduceEqDiff, reduceIte, Nat.reduceAdd, List.replicate, Nat.reduceLeDiff, Nat.reduceMul, Nat.reduceSub, Nat.reducePow, Int.reduceLT, Int.reduceLE, Int.reduceToNat, Int.reducePow, IntKind.bits, Int.reduceEq, Int.reduceMul, Int.reduceNeg, ne_eq, reduceCtorEq, escT, BEq.rfl, beq_self_eq_true, Int.reduceAdd, Int.reduceSub, Int.reduceMod, Int.reduceDiv, Nat.reduceMod, Nat.reduceDiv, Nat.reduceLT, cond_true, cond_false, gt_iff_lt, ge_iff_le, List.length_map, gridP_len, take36g, all36g, allInts_self, allInts_cons, Ytimdnnlfkkkpbaa.D4, ty3, ty4, ty22, ty24, ty29, ty36]
            refine callThen_of (y3 _) ?_
            simp (maxSteps := 2000000) only [wk0, wk1, wk2, wk3, keepA, keepT, Fr.keep, frzT, flatT, arrayAtA, ownT, extT, Fr.ev, Fr.put, Fr.get, initFr, buildSliceA, zeros, pkB, pkT, pkF, ownDst, Env.kd, ofConst, isConst, binA, intI, cmpI, shiftI, convertA, buildA, fillA, fillS, splice, AV.cells?, storeA, readAt, fieldAddrA, fieldA, indexA, extractA, unA, builtinA, appendA, lenA, sliceCells, isSliceK, makeInterfaceA, nilCheckA, eqA, AV.one, AV.plain, if_false, if_true, Nat.reduceEqDiff, reduceIte, Nat.reduceAdd, List.replicate, Nat.reduceLeDiff, Nat.reduceMul, Nat.reduceSub, Nat.reducePow, Int.reduceLT, Int.reduceLE, Int.reduceToNat, Int.reducePow, IntKind.bits, Int.reduceEq, Int.reduceMul, Int.reduceNeg, ne_eq, reduceCtorEq, escT, BEq.rfl, beq_self_eq_true, Int.reduceAdd, Int.reduceSub, Int.reduceMod, Int.reduceDiv, Nat.reduceMod, Nat.reduceDiv, Nat.reduceLT, cond_true, cond_false, gt_iff_lt, ge_iff_le, List.length_map, gridP_len, take36g, all36g, allInts_self, allInts_cons, Ytimdnnlfkkkpbaa.D4, ty3, ty4, ty22, ty24, ty29, ty36]
            refine callThen_of (sr _) ?_
            simp (maxSteps := 2000000) only [wk0, wk1, wk2, wk3, keepA, keepT, Fr.keep, frzT, flatT, arrayAtA, ownT, extT, Fr.ev, Fr.put, Fr.get, initFr, buildSliceA, zeros, pkB, pkT, pkF, ownDst, Env.kd, ofConst, isConst, binA, intI, cmpI, shiftI, convertA, buildA, fillA, fillS, splice, AV.cells?, storeA, readAt, fieldAddrA, fieldA, indexA, extractA, unA, builtinA, appendA, lenA, sliceCells, isSliceK, makeInterfaceA, nilCheckA, eqA, AV.one, AV.plain, if_false, if_true, Nat.reduceEqDiff, reduceIte, Nat.reduceAdd, List.replicate, Nat.reduceLeDiff, Nat.reduceMul, Nat.reduceSub, Nat.reducePow, Int.reduceLT, Int.reduceLE, Int.reduceToNat, Int.reducePow, IntKind.bits, Int.reduceEq, Int.reduceMul, Int.reduceNeg, ne_eq, reduceCtorEq, escT, BEq.rfl, beq_self_eq_true, Int.reduceAdd, Int.reduceSub, Int.reduceMod, Int.reduceDiv, Nat.reduceMod, Nat.reduceDiv, Nat.reduceLT, cond_true, cond_false, gt_iff_lt, ge_iff_le, Ytimdnnlfkkkpbaa.D4, ty3, ty4, ty22, ty24, ty29, ty36]
            exact retB_plain (by simp [nmd_bool]) rfl (by simp)
          · simp (maxSteps := 2000000) only [wk0, wk1, wk2, wk3, keepA, keepT, Fr.keep, frzT, flatT, arrayAtA, ownT, extT, Fr.ev, Fr.put, Fr.get, initFr, buildSliceA, zeros, pkB, pkT, pkF, ownDst, Env.kd, ofConst, isConst, binA, intI, cmpI, shiftI, convertA, buildA, fillA, fillS, splice, AV.cells?, storeA, readAt, fieldAddrA, fieldA, indexA, extractA, unA, builtinA, appendA, lenA, sliceCells, isSliceK, makeInterfaceA, nilCheckA, eqA, AV.one, AV.plain, if_false, if_true, Nat.reduceEqDiff, reduceIte, Nat.reduceAdd, List.replicate, Nat.reduceLeDiff, Nat.reduceMul, Nat.reduceSub, Nat.reducePow, Int.reduceLT, Int.reduceLE, Int.reduceToNat, Int.reducePow, IntKind.bits, Int.reduceEq, Int.reduceMul, Int.reduceNeg, ne_eq, reduceCtorEq, escT, BEq.rfl, beq_self_eq_true, Int.reduceAdd, Int.reduceSub, Int.reduceMod, Int.reduceDiv, Nat.reduceMod, Nat.reduceDiv, Nat.reduceLT, cond_true, cond_false, gt_iff_lt, ge_iff_le, hr, hn, k0, g0, lstI, ean, h4, List.length_map, gridP_len, take36g, all36g, allInts_self, allInts_cons, Ytimdnnlfkkkpbaa.D4, ty3, ty4, ty22, ty24, ty29, ty36]
            refine callThen_of (sr _) ?_
            simp (maxSteps := 2000000) only [wk0, wk1, wk2, wk3, keepA, keepT, Fr.keep, frzT, flatT, arrayAtA, ownT, extT, Fr.ev, Fr.put, Fr.get, initFr, buildSliceA, zeros, pkB, pkT, pkF, ownDst, Env.kd, ofConst, isConst, binA, intI, cmpI, shiftI, convertA, buildA, fillA, fillS, splice, AV.cells?, storeA, readAt, fieldAddrA, fieldA, indexA, extractA, unA, builtinA, appendA, lenA, sliceCells, isSliceK, makeInterfaceA, nilCheckA, eqA, AV.one, AV.plain, if_false, if_true, Nat.reduceEqDiff, reduceIte, Nat.reduceAdd, List.replicate, Nat.reduceLeDiff, Nat.reduceMul, Nat.reduceSub, Nat.reducePow, Int.reduceLT, Int.reduceLE, Int.reduceToNat, Int.reducePow, IntKind.bits, Int.reduceEq, Int.reduceMul, Int.reduceNeg, ne_eq, reduceCtorEq, escT, BEq.rfl, beq_self_eq_true, Int.reduceAdd, Int.reduceSub, Int.reduceMod, Int.reduceDiv, Nat.reduceMod, Nat.reduceDiv, Nat.reduceLT, cond_true, cond_false, gt_iff_lt, ge_iff_le, Ytimdnnlfkkkpbaa.D4, ty3, ty4, ty22, ty24, ty29, ty36]
            exact retB_plain (by simp [nmd_bool]) rfl (by simp)
      · have h3' : ¬ ((a[0]).length : Int) = b.length := h3
        simp only [lstL] at m1 m2
        simp (maxSteps := 2000000) only [wk0, wk1, wk2, wk3, keepA, keepT, Fr.keep, frzT, flatT, arrayAtA, ownT, extT, Fr.ev, Fr.put, Fr.get, initFr, buildSliceA, zeros, pkB, pkT, pkF, ownDst, Env.kd, ofConst, isConst, binA, intI, cmpI, shiftI, convertA, buildA, fillA, fillS, splice, AV.cells?, storeA, readAt, fieldAddrA, fieldA, indexA, extractA, unA, builtinA, appendA, lenA, sliceCells, isSliceK, makeInterfaceA, nilCheckA, eqA, AV.one, AV.plain, if_false, if_true, Nat.reduceEqDiff, reduceIte, Nat.reduceAdd, List.replicate, Nat.reduceLeDiff, Nat.reduceMul, Nat.reduceSub, Nat.reducePow, Int.reduceLT, Int.reduceLE, Int.reduceToNat, Int.reducePow, IntKind.bits, Int.reduceEq, Int.reduceMul, Int.reduceNeg, ne_eq, reduceCtorEq, escT, BEq.rfl, beq_self_eq_true, Int.reduceAdd, Int.reduceSub, Int.reduceMod, Int.reduceDiv, Nat.reduceMod, Nat.reduceDiv, Nat.reduceLT, cond_true, cond_false, gt_iff_lt, ge_iff_le, lstL, lstI, Ytimdnnlfkkkpbaa.D4, ty3, ty4, ty22, ty24, ty29, ty36]
        refine callThen_of (m1 _) ?_
        simp (maxSteps := 2000000) only [wk0, wk1, wk2, wk3, keepA, keepT, Fr.keep, frzT, flatT, arrayAtA, ownT, extT, Fr.ev, Fr.put, Fr.get, initFr, buildSliceA, zeros, pkB, pkT, pkF, ownDst, Env.kd, ofConst, isConst, binA, intI, cmpI, shiftI, convertA, buildA, fillA, fillS, splice, AV.cells?, storeA, readAt, fieldAddrA, fieldA, indexA, extractA, unA, builtinA, appendA, lenA, sliceCells, isSliceK, makeInterfaceA, nilCheckA, eqA, AV.one, AV.plain, if_false, if_true, Nat.reduceEqDiff, reduceIte, Nat.reduceAdd, List.replicate, Nat.reduceLeDiff, Nat.reduceMul, Nat.reduceSub, Nat.reducePow, Int.reduceLT, Int.reduceLE, Int.reduceToNat, Int.reducePow, IntKind.bits, Int.reduceEq, Int.reduceMul, Int.reduceNeg, ne_eq, reduceCtorEq, escT, BEq.rfl, beq_self_eq_true, Int.reduceAdd, Int.reduceSub, Int.reduceMod, Int.reduceDiv, Nat.reduceMod, Nat.reduceDiv, Nat.reduceLT, cond_true, cond_false, gt_iff_lt, ge_iff_le, Ytimdnnlfkkkpbaa.D4, ty3, ty4, ty22, ty24, ty29, ty36]
        refine callThen_of (m2 _) ?_
        simp (maxSteps := 2000000) only [wk0, wk1, wk2, wk3, keepA, keepT, Fr.keep, frzT, flatT, arrayAtA, ownT, extT, Fr.ev, Fr.put, Fr.get, initFr, buildSliceA, zeros, pkB, pkT, pkF, ownDst, Env.kd, ofConst, isConst, binA, intI, cmpI, shiftI, convertA, buildA, fillA, fillS, splice, AV.cells?, storeA, readAt, fieldAddrA, fieldA, indexA, extractA, unA, builtinA, appendA, lenA, sliceCells, isSliceK, makeInterfaceA, nilCheckA, eqA, AV.one, AV.plain, if_false, if_true, Nat.reduceEqDiff, reduceIte, Nat.reduceAdd, List.replicate, Nat.reduceLeDiff, Nat.reduceMul, Nat.reduceSub, Nat.reducePow, Int.reduceLT, Int.reduceLE, Int.reduceToNat, Int.reducePow, IntKind.bits, Int.reduceEq, Int.reduceMul, Int.reduceNeg, ne_eq, reduceCtorEq, escT, BEq.rfl, beq_self_eq_true, Int.reduceAdd, Int.reduceSub, Int.reduceMod, Int.reduceDiv, Nat.reduceMod, Nat.reduceDiv, Nat.reduceLT, cond_true, cond_false, gt_iff_lt, ge_iff_le, k0, g0, lstI, h3', Ytimdnnlfkkkpbaa.D4, ty3, ty4, ty22, ty24, ty29, ty36]
        refine callThen_of (sr _) ?_
        simp (maxSteps := 2000000) only [wk0, wk1, wk2, wk3, keepA, keepT, Fr.keep, frzT, flatT, arrayAtA, ownT, extT, Fr.ev, Fr.put, Fr.get, initFr, buildSliceA, zeros, pkB, pkT, pkF, ownDst, Env.kd, ofConst, isConst, binA, intI, cmpI, shiftI, convertA, buildA, fillA, fillS, splice, AV.cells?, storeA, readAt, fieldAddrA, fieldA, indexA, extractA, unA, builtinA, appendA, lenA, sliceCells, isSliceK, makeInterfaceA, nilCheckA, eqA, AV.one, AV.plain, if_false, if_true, Nat.reduceEqDiff, reduceIte, Nat.reduceAdd, List.replicate, Nat.reduceLeDiff, Nat.reduceMul, Nat.reduceSub, Nat.reducePow, Int.reduceLT, Int.reduceLE, Int.reduceToNat, Int.reducePow, IntKind.bits, Int.reduceEq, Int.reduceMul, Int.reduceNeg, ne_eq, reduceCtorEq, escT, BEq.rfl, beq_self_eq_true, Int.reduceAdd, Int.reduceSub, Int.reduceMod, Int.reduceDiv, Nat.reduceMod, Nat.reduceDiv, Nat.reduceLT, cond_true, cond_false, gt_iff_lt, ge_iff_le, Ytimdnnlfkkkpbaa.D4, ty3, ty4, ty22, ty24, ty29, ty36]
        exact retB_plain (by simp [nmd_bool]) rfl (by simp)
    · rw [decide_eq_false h2] at m2
      simp only [lstL] at m1 m2
      simp (maxSteps := 2000000) only [wk0, wk1, wk2, wk3, keepA, keepT, Fr.keep, frzT, flatT, arrayAtA, ownT, extT, Fr.ev, Fr.put, Fr.get, initFr, buildSliceA, zeros, pkB, pkT, pkF, ownDst, Env.kd, ofConst, isConst, binA, intI, cmpI, shiftI, convertA, buildA, fillA, fillS, splice, AV.cells?, storeA, readAt, fieldAddrA, fieldA, indexA, extractA, unA, builtinA, appendA, lenA, sliceCells, isSliceK, makeInterfaceA, nilCheckA, eqA, AV.one, AV.plain, if_false, if_true, Nat.reduceEqDiff, reduceIte, Nat.reduceAdd, List.replicate, Nat.reduceLeDiff, Nat.reduceMul, Nat.reduceSub, Nat.reducePow, Int.reduceLT, Int.reduceLE, Int.reduceToNat, Int.reducePow, IntKind.bits, Int.reduceEq, Int.reduceMul, Int.reduceNeg, ne_eq, reduceCtorEq, escT, BEq.rfl, beq_self_eq_true, Int.reduceAdd, Int.reduceSub, Int.reduceMod, Int.reduceDiv, Nat.reduceMod, Nat.reduceDiv, Nat.reduceLT, cond_true, cond_false, gt_iff_lt, ge_iff_le, lstL, lstI, Ytimdnnlfkkkpbaa.D4, ty3, ty4, ty22, ty24, ty29, ty36]
      refine callThen_of (m1 _) ?_
      simp (maxSteps := 2000000) only [wk0, wk1, wk2, wk3, keepA, keepT, Fr.keep, frzT, flatT, arrayAtA, ownT, extT, Fr.ev, Fr.put, Fr.get, initFr, buildSliceA, zeros, pkB, pkT, pkF, ownDst, Env.kd, ofConst, isConst, binA, intI, cmpI, shiftI, convertA, buildA, fillA, fillS, splice, AV.cells?, storeA, readAt, fieldAddrA, fieldA, indexA, extractA, unA, builtinA, appendA, lenA, sliceCells, isSliceK, makeInterfaceA, nilCheckA, eqA, AV.one, AV.plain, if_false, if_true, Nat.reduceEqDiff, reduceIte, Nat.reduceAdd, List.replicate, Nat.reduceLeDiff, Nat.reduceMul, Nat.reduceSub, Nat.reducePow, Int.reduceLT, Int.reduceLE, Int.reduceToNat, Int.reducePow, IntKind.bits, Int.reduceEq, Int.reduceMul, Int.reduceNeg, ne_eq, reduceCtorEq, escT, BEq.rfl, beq_self_eq_true, Int.reduceAdd, Int.reduceSub, Int.reduceMod, Int.reduceDiv, Nat.reduceMod, Nat.reduceDiv, Nat.reduceLT, cond_true, cond_false, gt_iff_lt, ge_iff_le, Ytimdnnlfkkkpbaa.D4, ty3, ty4, ty22, ty24, ty29, ty36]
      refine callThen_of (m2 _) ?_
      simp (maxSteps := 2000000) only [wk0, wk1, wk2, wk3, keepA, keepT, Fr.keep, frzT, flatT, arrayAtA, ownT, extT, Fr.ev, Fr.put, Fr.get, initFr, buildSliceA, zeros, pkB, pkT, pkF, ownDst, Env.kd, ofConst, isConst, binA, intI, cmpI, shiftI, convertA, buildA, fillA, fillS, splice, AV.cells?, storeA, readAt, fieldAddrA, fieldA, indexA, extractA, unA, builtinA, appendA, lenA, sliceCells, isSliceK, makeInterfaceA, nilCheckA, eqA, AV.one, AV.plain, if_false, if_true, Nat.reduceEqDiff, reduceIte, Nat.reduceAdd, List.replicate, Nat.reduceLeDiff, Nat.reduceMul, Nat.reduceSub, Nat.reducePow, Int.reduceLT, Int.reduceLE, Int.reduceToNat, Int.reducePow, IntKind.bits, Int.reduceEq, Int.reduceMul, Int.reduceNeg, ne_eq, reduceCtorEq, escT, BEq.rfl, beq_self_eq_true, Int.reduceAdd, Int.reduceSub, Int.reduceMod, Int.reduceDiv, Nat.reduceMod, Nat.reduceDiv, Nat.reduceLT, cond_true, cond_false, gt_iff_lt, ge_iff_le, Ytimdnnlfkkkpbaa.D4, ty3, ty4, ty22, ty24, ty29, ty36]
      refine callThen_of (sr _) ?_
      simp (maxSteps := 2000000) only [wk0, wk1, wk2, wk3, keepA, keepT, Fr.keep, frzT, flatT, arrayAtA, ownT, extT, Fr.ev, Fr.put, Fr.get, initFr, buildSliceA, zeros, pkB, pkT, pkF, ownDst, Env.kd, ofConst, isConst, binA, intI, cmpI, shiftI, convertA, buildA, fillA, fillS, splice, AV.cells?, storeA, readAt, fieldAddrA, fieldA, indexA, extractA, unA, builtinA, appendA, lenA, sliceCells, isSliceK, makeInterfaceA, nilCheckA, eqA, AV.one, AV.plain, if_false, if_true, Nat.reduceEqDiff, reduceIte, Nat.reduceAdd, List.replicate, Nat.reduceLeDiff, Nat.reduceMul, Nat.reduceSub, Nat.reducePow, Int.reduceLT, Int.reduceLE, Int.reduceToNat, Int.reducePow, IntKind.bits, Int.reduceEq, Int.reduceMul, Int.reduceNeg, ne_eq, reduceCtorEq, escT, BEq.rfl, beq_self_eq_true, Int.reduceAdd, Int.reduceSub, Int.reduceMod, Int.reduceDiv, Nat.reduceMod, Nat.reduceDiv, Nat.reduceLT, cond_true, cond_false, gt_iff_lt, ge_iff_le, Ytimdnnlfkkkpbaa.D4, ty3, ty4, ty22, ty24, ty29, ty36]
      exact retB_plain (by simp [nmd_bool]) rfl (by simp)
  · rw [decide_eq_false h1] at m1
    simp only [lstL] at m1
    simp (maxSteps := 2000000) only [wk0, wk1, wk2, wk3, keepA, keepT, Fr.keep, frzT, flatT, arrayAtA, ownT, extT, Fr.ev, Fr.put, Fr.get, initFr, buildSliceA, zeros, pkB, pkT, pkF, ownDst, Env.kd, ofConst, isConst, binA, intI, cmpI, shiftI, convertA, buildA, fillA, fillS, splice, AV.cells?, storeA, readAt, fieldAddrA, fieldA, indexA, extractA, unA, builtinA, appendA, lenA, sliceCells, isSliceK, makeInterfaceA, nilCheckA, eqA, AV.one, AV.plain, if_false, if_true, Nat.reduceEqDiff, reduceIte, Nat.reduceAdd, List.replicate, Nat.reduceLeDiff, Nat.reduceMul, Nat.reduceSub, Nat.reducePow, Int.reduceLT, Int.reduceLE, Int.reduceToNat, Int.reducePow, IntKind.bits, Int.reduceEq, Int.reduceMul, Int.reduceNeg, ne_eq, reduceCtorEq, escT, BEq.rfl, beq_self_eq_true, Int.reduceAdd, Int.reduceSub, Int.reduceMod, Int.reduceDiv, Nat.reduceMod, Nat.reduceDiv, Nat.reduceLT, cond_true, cond_false, gt_iff_lt, ge_iff_le, lstL, lstI, Ytimdnnlfkkkpbaa.D4, ty3, ty4, ty22, ty24, ty29, ty36]
    refine callThen_of (m1 _) ?_
    simp (maxSteps := 2000000) only [wk0, wk1, wk2, wk3, keepA, keepT, Fr.keep, frzT, flatT, arrayAtA, ownT, extT, Fr.ev, Fr.put, Fr.get, initFr, buildSliceA, zeros, pkB, pkT, pkF, ownDst, Env.kd, ofConst, isConst, binA, intI, cmpI, shiftI, convertA, buildA, fillA, fillS, splice, AV.cells?, storeA, readAt, fieldAddrA, fieldA, indexA, extractA, unA, builtinA, appendA, lenA, sliceCells, isSliceK, makeInterfaceA, nilCheckA, eqA, AV.one, AV.plain, if_false, if_true, Nat.reduceEqDiff, reduceIte, Nat.reduceAdd, List.replicate, Nat.reduceLeDiff, Nat.reduceMul, Nat.reduceSub, Nat.reducePow, Int.reduceLT, Int.reduceLE, Int.reduceToNat, Int.reducePow, IntKind.bits, Int.reduceEq, Int.reduceMul, Int.reduceNeg, ne_eq, reduceCtorEq, escT, BEq.rfl, beq_self_eq_true, Int.reduceAdd, Int.reduceSub, Int.reduceMod, Int.reduceDiv, Nat.reduceMod, Nat.reduceDiv, Nat.reduceLT, cond_true, cond_false, gt_iff_lt, ge_iff_le, Ytimdnnlfkkkpbaa.D4, ty3, ty4, ty22, ty24, ty29, ty36]
    refine callThen_of (sr _) ?_
    simp (maxSteps := 2000000) only [wk0, wk1, wk2, wk3, keepA, keepT, Fr.keep, frzT, flatT, arrayAtA, ownT, extT, Fr.ev, Fr.put, Fr.get, initFr, buildSliceA, zeros, pkB, pkT, pkF, ownDst, Env.kd, ofConst, isConst, binA, intI, cmpI, shiftI, convertA, buildA, fillA, fillS, splice, AV.cells?, storeA, readAt, fieldAddrA, fieldA, indexA, extractA, unA, builtinA, appendA, lenA, sliceCells, isSliceK, makeInterfaceA, nilCheckA, eqA, AV.one, AV.plain, if_false, if_true, Nat.reduceEqDiff, reduceIte, Nat.reduceAdd, List.replicate, Nat.reduceLeDiff, Nat.reduceMul, Nat.reduceSub, Nat.reducePow, Int.reduceLT, Int.reduceLE, Int.reduceToNat, Int.reducePow, IntKind.bits, Int.reduceEq, Int.reduceMul, Int.reduceNeg, ne_eq, reduceCtorEq, escT, BEq.rfl, beq_self_eq_true, Int.reduceAdd, Int.reduceSub, Int.reduceMod, Int.reduceDiv, Nat.reduceMod, Nat.reduceDiv, Nat.reduceLT, cond_true, cond_false, gt_iff_lt, ge_iff_le, Ytimdnnlfkkkpbaa.D4, ty3, ty4, ty22, ty24, ty29, ty36]
    exact retB_plain (by simp [nmd_bool]) rfl (by simp)
end Go.Proofs.Ytimdnnlfkkkpbaa
