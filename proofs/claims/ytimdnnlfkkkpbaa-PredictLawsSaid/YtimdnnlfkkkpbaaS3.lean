/- Layer 12's helpers: a state of any numbers. -/
import Derived.Test.YtimdnnlfkkkpbaaS2
set_option linter.unusedSimpArgs false
set_option linter.unusedVariables false
set_option maxRecDepth 100000
set_option maxHeartbeats 8000000
namespace Go.Proofs.Ytimdnnlfkkkpbaa
def prI (f : Nat → Int) (i : Nat) : List Int := (List.range i).map f
theorem prI_len (f : Nat → Int) (i : Nat) : (prI f i).length = i := by simp [prI]
theorem prI_app (f : Nat → Int) (i : Nat) : (prI f i).map (fun x => AV.int .i64 x) ++ [AV.int .i64 (f i)] = (prI f (i + 1)).map fun x => .int .i64 x := by unfold prI; rw [List.range_succ, List.map_append, List.map_append]; rfl
def rwA (f : Nat → Nat → Int) (i : Nat) : List AV := (List.range i).map fun k => .lst ((prI (f k) 6).map fun x => .int .i64 x) 6
theorem rwA_len (f : Nat → Nat → Int) (i : Nat) : (rwA f i).length = i := by simp [rwA]
theorem rwA_app (f : Nat → Nat → Int) (i : Nat) : rwA f i ++ [.lst ((prI (f i) 6).map fun x => .int .i64 x) 6] = rwA f (i + 1) := by unfold rwA; rw [List.range_succ, List.map_append]; rfl
theorem rwA_nmd (f : Nat → Nat → Int) (n i : Nat) : ∀ x ∈ rwA f i, Nmd n x := by
  intro x hx
  obtain ⟨k, _, rfl⟩ := List.mem_map.1 hx
  exact .lst _ _
theorem prI_nmd (f : Nat → Int) (n i : Nat) : ∀ x ∈ (prI f i).map (fun x => AV.int .i64 x), Nmd n x := by
  intro x hx
  obtain ⟨y, _, rfl⟩ := List.mem_map.1 hx
  exact .int _ _
theorem ofRows6 (f : Nat → Nat → Int) (S : Heap) : Call theE 59 [.lst (rwA f 6) 6] S (.tup [mk 6 6 f, .nili]) S := by
  have h := of_mat_ok ((List.range 6).map fun k => prI (f k) 6) 6 S (by simp) (by simp) (by
    intro r hr
    obtain ⟨k, _, rfl⟩ := List.mem_map.1 hr
    exact prI_len _ _)
  have e1 : lstL ((List.range 6).map fun k => prI (f k) 6) = .lst (rwA f 6) 6 := rfl
  have e2 : mk ((List.range 6).map fun k => prI (f k) 6).length 6 (rowsF ((List.range 6).map fun k => prI (f k) 6)) = mk 6 6 f := rfl
  rw [e1, e2] at h
  exact h
noncomputable def c44 : Code := Try.f44.body.getD .skip
theorem b44 : Try.f44.body = some c44 := rfl
theorem d44 : fnOk Try.f44 c44 = true := by kernel_rfl
def D44 : Nat → List Tag := fun _ => []
theorem e44 : drawsOk D44 c44 = true := by kernel_rfl
noncomputable def c45 : Code := Try.f45.body.getD .skip
theorem b45 : Try.f45.body = some c45 := rfl
theorem d45 : fnOk Try.f45 c45 = true := by kernel_rfl
def D45 : Nat → List Tag := fun _ => []
theorem e45 : drawsOk D45 c45 = true := by kernel_rfl
theorem giveState_ok (x : Nat → Int) (f : Nat → Nat → Int) (S : Heap) : Call theE 44 [.agg [.lst [.int .i64 (x 0), .int .i64 (x 1), .int .i64 (x 2), .int .i64 (x 3), .int .i64 (x 4), .int .i64 (x 5)] 6, .lst (rwA f 6) 6]] S (stA x f) S := by
  have q1 := fun S => matOf12_six (.lst (rwA f 6) 6) f S (fun _ _ _ => rfl) (ofRows6 f)
  have tk := take36g 6 f 36
  have al := all36g (gridP 6 f 36)
  simp only [stA, stC, mk, matA, Nat.reduceMul, castLit] at q1 ⊢
  refine Call.ofC Try.func44 Ytimdnnlfkkkpbaa.b44 Ytimdnnlfkkkpbaa.d44 Ytimdnnlfkkkpbaa.e44 (by simp [Try.f44]) ?_
  dsimp only [Ytimdnnlfkkkpbaa.c44, Try.f44, Option.getD_some]
  simp (maxSteps := 2000000) only [wk0, wk1, wk2, wk3, keepA, keepT, Fr.keep, frzT, flatT, arrayAtA, ownT, extT, Fr.ev, Fr.put, Fr.get, initFr, buildSliceA, zeros, pkB, pkT, pkF, ownDst, Env.kd, ofConst, isConst, binA, intI, cmpI, shiftI, convertA, buildA, fillA, fillS, splice, AV.cells?, storeA, readAt, fieldAddrA, fieldA, indexA, extractA, unA, builtinA, appendA, lenA, sliceCells, isSliceK, makeInterfaceA, nilCheckA, eqA, AV.one, AV.plain, if_false, if_true, Nat.reduceEqDiff, reduceIte, Nat.reduceAdd, List.replicate, Nat.reduceLeDiff, Nat.reduceMul, Nat.reduceSub, Nat.reducePow, Int.reduceLT, Int.reduceLE, Int.reduceToNat, Int.reducePow, IntKind.bits, Int.reduceEq, Int.reduceMul, Int.reduceNeg, ne_eq, reduceCtorEq, escT, BEq.rfl, beq_self_eq_true, Int.reduceAdd, Int.reduceSub, Int.reduceMod, Int.reduceDiv, Nat.reduceMod, Nat.reduceDiv, Nat.reduceLT, cond_true, cond_false, gt_iff_lt, ge_iff_le, List.length_cons, List.length_map, gridP_len, List.take_succ_cons, List.drop_succ_cons, List.drop_zero, List.take_zero, tk, al, List.getElem?_cons_succ, List.getElem?_cons_zero, castLit, Ytimdnnlfkkkpbaa.D44, ty1, ty2, ty3, ty4, ty22, ty29, ty36, ty82, ty84, ty87]
  refine callThen_of (q1 _) ?_
  simp (maxSteps := 2000000) only [wk0, wk1, wk2, wk3, keepA, keepT, Fr.keep, frzT, flatT, arrayAtA, ownT, extT, Fr.ev, Fr.put, Fr.get, initFr, buildSliceA, zeros, pkB, pkT, pkF, ownDst, Env.kd, ofConst, isConst, binA, intI, cmpI, shiftI, convertA, buildA, fillA, fillS, splice, AV.cells?, storeA, readAt, fieldAddrA, fieldA, indexA, extractA, unA, builtinA, appendA, lenA, sliceCells, isSliceK, makeInterfaceA, nilCheckA, eqA, AV.one, AV.plain, if_false, if_true, Nat.reduceEqDiff, reduceIte, Nat.reduceAdd, List.replicate, Nat.reduceLeDiff, Nat.reduceMul, Nat.reduceSub, Nat.reducePow, Int.reduceLT, Int.reduceLE, Int.reduceToNat, Int.reducePow, IntKind.bits, Int.reduceEq, Int.reduceMul, Int.reduceNeg, ne_eq, reduceCtorEq, escT, BEq.rfl, beq_self_eq_true, Int.reduceAdd, Int.reduceSub, Int.reduceMod, Int.reduceDiv, Nat.reduceMod, Nat.reduceDiv, Nat.reduceLT, cond_true, cond_false, gt_iff_lt, ge_iff_le, List.length_cons, List.length_map, gridP_len, List.take_succ_cons, List.drop_succ_cons, List.drop_zero, List.take_zero, tk, al, List.getElem?_cons_succ, List.getElem?_cons_zero, castLit, Ytimdnnlfkkkpbaa.D44, ty1, ty2, ty3, ty4, ty22, ty29, ty36, ty82, ty84, ty87]
  iterate 7
    refine loopC_of ?_
    simp (maxSteps := 2000000) only [wk0, wk1, wk2, wk3, keepA, keepT, Fr.keep, frzT, flatT, arrayAtA, ownT, extT, Fr.ev, Fr.put, Fr.get, initFr, buildSliceA, zeros, pkB, pkT, pkF, ownDst, Env.kd, ofConst, isConst, binA, intI, cmpI, shiftI, convertA, buildA, fillA, fillS, splice, AV.cells?, storeA, readAt, fieldAddrA, fieldA, indexA, extractA, unA, builtinA, appendA, lenA, sliceCells, isSliceK, makeInterfaceA, nilCheckA, eqA, AV.one, AV.plain, if_false, if_true, Nat.reduceEqDiff, reduceIte, Nat.reduceAdd, List.replicate, Nat.reduceLeDiff, Nat.reduceMul, Nat.reduceSub, Nat.reducePow, Int.reduceLT, Int.reduceLE, Int.reduceToNat, Int.reducePow, IntKind.bits, Int.reduceEq, Int.reduceMul, Int.reduceNeg, ne_eq, reduceCtorEq, escT, BEq.rfl, beq_self_eq_true, Int.reduceAdd, Int.reduceSub, Int.reduceMod, Int.reduceDiv, Nat.reduceMod, Nat.reduceDiv, Nat.reduceLT, cond_true, cond_false, gt_iff_lt, ge_iff_le, List.length_cons, List.length_map, gridP_len, List.take_succ_cons, List.drop_succ_cons, List.drop_zero, List.take_zero, tk, al, List.getElem?_cons_succ, List.getElem?_cons_zero, List.set_cons_succ, List.set_cons_zero, Ytimdnnlfkkkpbaa.D44, ty1, ty2, ty3, ty4, ty22, ty29, ty36, ty82, ty84, ty87]
  exact retB_plain (by simp [nmd_agg, nmd_int]) rfl (by simp)
theorem getA_lst12 {l : List Int} {i : Nat} (h : i < l.length) : (l.map fun x => AV.int .i64 x)[i]? = some (.int .i64 (l.getD i 0)) := by simp [List.getD_eq_getElem?_getD, List.getElem?_eq_getElem h]
def someN (p : List (List Int)) (a c : Nat) : Int := if a < p.length ∧ c < (p.getD a []).length then ((p.getD a []).getD c 0).tmod 1073741824 else 0
theorem someN_bound (p : List (List Int)) (a c : Nat) : -1073741824 < someN p a c ∧ someN p a c < 1073741824 := by
  unfold someN
  split
  · generalize (p.getD a []).getD c 0 = y
    have := Int.tmod_lt_of_pos y (show (0 : Int) < 1073741824 by decide)
    have h2 := Int.lt_tmod_of_pos y (show (0 : Int) < 1073741824 by decide)
    omega
  · omega
def someP (p : List (List Int)) (i j : Nat) : Int := if i = j then (if someN p (max i j) (min i j) < 0 then -(someN p (max i j) (min i j)) else someN p (max i j) (min i j)) + 68719476736 else someN p (max i j) (min i j)
def someX (l : List Int) (i : Nat) : Int := if i < l.length then (l.getD i 0).tmod 68719476736 else 0
theorem someX_bound (l : List Int) (i : Nat) : -68719476736 < someX l i ∧ someX l i < 68719476736 := by
  unfold someX
  split
  · generalize l.getD i 0 = y
    have := Int.tmod_lt_of_pos y (show (0 : Int) < 68719476736 by decide)
    have h2 := Int.lt_tmod_of_pos y (show (0 : Int) < 68719476736 by decide)
    omega
  · omega
theorem someState_ok (u : AV) (x : List Int) (p : List (List Int)) (S : Heap) (um : ∀ k H, moveA false k H u = some (u, H)) (ul : ∀ a b c z, lenOfA (.slice a b c z) u = some x.length) (hgo : 0 < x.length → u = lstI x) :
    Call theE 45 [u, lstL p, .int .i64 68719476736] S (.agg [.lst ((prI (someX x) 6).map fun y => .int .i64 y) 6, .lst (rwA (someP p) 6) 6]) S := by
  have m6 : ¬ (68719476736 : Int) = 0 := by decide
  have a3 : 8 ≤ maxBytes := by unfold maxBytes; omega
  have a4 : 24 ≤ maxBytes := by unfold maxBytes; omega
  refine Call.ofC Try.func45 Ytimdnnlfkkkpbaa.b45 Ytimdnnlfkkkpbaa.d45 Ytimdnnlfkkkpbaa.e45 (by simp [Try.f45]) ?_
  dsimp only [Ytimdnnlfkkkpbaa.c45, Try.f45, Option.getD_some]
  simp (maxSteps := 2000000) only [wk0, wk1, wk2, wk3, keepA, keepT, Fr.keep, frzT, flatT, arrayAtA, ownT, extT, Fr.ev, Fr.put, Fr.get, initFr, buildSliceA, zeros, pkB, pkT, pkF, ownDst, Env.kd, ofConst, isConst, binA, intI, cmpI, shiftI, convertA, buildA, fillA, fillS, splice, AV.cells?, storeA, readAt, fieldAddrA, fieldA, indexA, extractA, unA, builtinA, appendA, lenA, sliceCells, isSliceK, makeInterfaceA, nilCheckA, eqA, AV.one, AV.plain, if_false, if_true, Nat.reduceEqDiff, reduceIte, Nat.reduceAdd, List.replicate, Nat.reduceLeDiff, Nat.reduceMul, Nat.reduceSub, Nat.reducePow, Int.reduceLT, Int.reduceLE, Int.reduceToNat, Int.reducePow, IntKind.bits, Int.reduceEq, Int.reduceMul, Int.reduceNeg, ne_eq, reduceCtorEq, escT, BEq.rfl, beq_self_eq_true, Int.reduceAdd, Int.reduceSub, Int.reduceMod, Int.reduceDiv, Nat.reduceMod, Nat.reduceDiv, Nat.reduceLT, cond_true, cond_false, gt_iff_lt, ge_iff_le, lstL, Ytimdnnlfkkkpbaa.D45, ty1, ty2, ty3, ty4, ty22, ty29, ty87]
  refine loopC_ind (fun m fr H => ∃ i : Nat, i + m = 6 ∧ (fr.get 0 = u ∧ fr.get 1 = .lst (p.map lstI) p.length ∧ fr.get 2 = .int .i64 68719476736 ∧ fr.get 6 = .ptr S.length 0 0 ∧ fr.get 7 = .ptr (S.length + 1) 0 0 ∧ fr.get 8 = .int .i64 (i : Int)) ∧
    ((i = 0 ∧ H = S ++ [some ⟨[.nils, .nils], 0⟩, some ⟨[.nils, .nils], 0⟩]) ∨ (1 ≤ i ∧ ∃ capX capP T, H = S ++ some ⟨[.nils, .nils], 0⟩ :: some ⟨[.sl (S.length + 2) i 0 i capX 1, .sl (S.length + 4) i 0 i capP 1], 0⟩ :: some ⟨(prI (someX x) i).map fun y => .int .i64 y, i⟩ :: none :: some ⟨rwA (someP p) i, i⟩ :: T))) ?_ (n := 6) ⟨0, by omega, ⟨rfl, rfl, rfl, rfl, rfl, rfl⟩, .inl ⟨rfl, rfl⟩⟩
  rintro m fr H ⟨i, him, ⟨g0, g1, g2, g6, g7, g8⟩, hH⟩ ih
  rcases hH with ⟨rfl, rfl⟩ | ⟨hi1, capX, capP, T, rfl⟩
  · have g8 : fr.get 8 = .int .i64 0 := by simpa using g8
    obtain ⟨n, hn⟩ : ∃ n : Int, someX x 0 = n := ⟨_, rfl⟩
    have e1 : prI (someX x) 1 = [n] := by rw [← hn]; rfl
    have px := prI_nmd (someP p 0) 0 6
    have tk : List.take 6 ((prI (someP p 0) 6).map fun y => AV.int .i64 y) = (prI (someP p 0) 6).map fun y => .int .i64 y := List.take_of_length_le (by simp [prI_len])
    have er : rwA (someP p) 1 = [.lst ((prI (someP p 0) 6).map fun y => .int .i64 y) 6] := rfl
    by_cases h : 0 < x.length
    · have h' : (0 : Int) < x.length := by omega
      have ga := getA_lst12 h
      have ht : (x.getD 0 0).tmod 68719476736 = n := by rw [← hn]; unfold someX; rw [if_pos h]
      have eu := hgo (by omega)
      simp only [lstI] at eu
      simp (maxSteps := 2000000) only [wk0, wk1, wk2, wk3, keepA, keepT, Fr.keep, frzT, flatT, arrayAtA, ownT, extT, Fr.ev, Fr.put, Fr.get, initFr, buildSliceA, zeros, pkB, pkT, pkF, ownDst, Env.kd, ofConst, isConst, binA, intI, cmpI, shiftI, convertA, buildA, fillA, fillS, splice, AV.cells?, storeA, readAt, fieldAddrA, fieldA, indexA, extractA, unA, builtinA, appendA, lenA, sliceCells, isSliceK, makeInterfaceA, nilCheckA, eqA, AV.one, AV.plain, if_false, if_true, Nat.reduceEqDiff, reduceIte, Nat.reduceAdd, List.replicate, Nat.reduceLeDiff, Nat.reduceMul, Nat.reduceSub, Nat.reducePow, Int.reduceLT, Int.reduceLE, Int.reduceToNat, Int.reducePow, IntKind.bits, Int.reduceEq, Int.reduceMul, Int.reduceNeg, ne_eq, reduceCtorEq, escT, BEq.rfl, beq_self_eq_true, Int.reduceAdd, Int.reduceSub, Int.reduceMod, Int.reduceDiv, Nat.reduceMod, Nat.reduceDiv, Nat.reduceLT, cond_true, cond_false, gt_iff_lt, ge_iff_le, eu, g0, g1, g2, g6, g7, g8, h', ga, ht, m6, a3, a4, List.length_cons, List.length_nil, Nat.zero_add, Nat.reduceAdd, Ytimdnnlfkkkpbaa.D45, ty1, ty2, ty3, ty4, ty22, ty29, ty87]
      refine loopC_split 2 (fun fr H => (fr.get 0 = u ∧ fr.get 1 = .lst (p.map lstI) p.length ∧ fr.get 2 = .int .i64 68719476736 ∧ fr.get 6 = .ptr S.length 0 0 ∧ fr.get 7 = .ptr (S.length + 1) 0 0 ∧ fr.get 8 = .int .i64 0) ∧ (∃ cap2, fr.get 10 = .sl (S.length + 3) 6 0 6 cap2 1) ∧
        H = S ++ [some ⟨[.nils, .nils], 0⟩, some ⟨[.sl (S.length + 2) 1 0 1 1 1, .nils], 0⟩, some ⟨[.int .i64 n], 1⟩,  some ⟨(prI (someP p 0) 6).map fun y => .int .i64 y, 6⟩ ]) (fun K' hK' => ?_) ?_
      · refine loopC_ind (fun m' fr H => ∃ (j cap2 : Nat), j + m' = 6 ∧ (fr.get 0 = u ∧ fr.get 1 = .lst (p.map lstI) p.length ∧ fr.get 2 = .int .i64 68719476736 ∧ fr.get 6 = .ptr S.length 0 0 ∧ fr.get 7 = .ptr (S.length + 1) 0 0 ∧ fr.get 8 = .int .i64 0) ∧ fr.get 10 = .sl (S.length + 3) j 0 j cap2 1 ∧ fr.get 11 = .int .i64 (j : Int) ∧
          H = S ++ [some ⟨[.nils, .nils], 0⟩, some ⟨[.sl (S.length + 2) 1 0 1 1 1, .nils], 0⟩, some ⟨[.int .i64 n], 1⟩,  some ⟨(prI (someP p 0) j).map fun y => .int .i64 y, j⟩ ]) ?_ (n := 6) ⟨0, 0, by omega, ⟨by simp [Fr.get, g0], by simp [Fr.get, g1], by simp [Fr.get, g2], by simp [Fr.get, g6], by simp [Fr.get, g7], by simp [Fr.get, g8]⟩, by first | rfl | simp [Fr.get], by first | rfl | simp [Fr.get], by first | rfl | simp [prI]⟩
        clear g0 g1 g2 g6 g7 g8
        rintro m' fr H ⟨j, cap2, hjm, ⟨g0, g1, g2, g6, g7, g8⟩, g10, g11, rfl⟩ ih2
        have cl2 := prI_len (someP p 0) j
        by_cases hj : (j : Int) < 6
        · have k1 : (0 : Int) ≤ j := by omega
          have wj : IntKind.i64.wrap ((j : Int) + 1) = ((j + 1 : Nat) : Int) := wrapI (by omega)
          have cs2 := prI_app (someP p 0) j
          have b1 : (j + 1) * 8 ≤ maxBytes := by unfold maxBytes; omega
          have b2 : j + 1 ≤ 9223372036854775807 := by omega
          have h64 : (68719476736 : Int).tdiv 64 = 1073741824 := by decide
          obtain ⟨a, ha⟩ : ∃ a, max 0 j = a := ⟨_, rfl⟩
          obtain ⟨c, hc⟩ : ∃ c, min 0 j = c := ⟨_, rfl⟩
          have mx : max (0 : Int) (j : Int) = (a : Int) := by omega
          have mn : min (0 : Int) (j : Int) = (c : Int) := by omega
          have hb := someN_bound p a c
          by_cases hA : a < p.length
          · have ga := get_lstL hA
            have p1 : (0 : Int) ≤ (a : Int) := by omega
            have p2 : (a : Int) < p.length := by omega
            by_cases hC : c < p[a].length
            · have gc := get_lstI hC
              have p3 : (0 : Int) ≤ (c : Int) := by omega
              have p4 : (c : Int) < p[a].length := by omega
              have p5 : ¬ (1073741824 : Int) = 0 := by decide
              obtain ⟨n, hn⟩ : ∃ n, (p[a][c]).tmod 1073741824 = n := ⟨_, rfl⟩
              have hn0 : someN p a c = n := by unfold someN; rw [getD_lst hA, if_pos ⟨hA, hC⟩, List.getD_eq_getElem?_getD, List.getElem?_eq_getElem hC]; exact hn
              rw [hn0] at hb
              have fx := And.intro ga <| And.intro p1 <| And.intro p2 <| And.intro gc <| And.intro p3 <| And.intro p4 <| And.intro p5 hn
              simp only [lstI] at fx
              by_cases hij : 0 = j
              · have hv : someP p 0 j = (if n < 0 then -n else n) + 68719476736 := by unfold someP; rw [ha, hc, hn0, if_pos hij]
                have q1 : ((0 : Int) = (j : Int)) = True := eq_true (by omega)
                by_cases hneg : n < 0
                · rw [if_pos hneg] at hv
                  have w3 : IntKind.i64.wrap (0 - n) = -n := by rw [wrapI (by omega)]; omega
                  have w4 : IntKind.i64.wrap (-n + 68719476736) = someP p 0 j := by rw [wrapI (by omega)]; omega
                  simp (maxSteps := 2000000) only [wk0, wk1, wk2, wk3, keepA, keepT, Fr.keep, frzT, flatT, arrayAtA, ownT, extT, Fr.ev, Fr.put, Fr.get, initFr, buildSliceA, zeros, pkB, pkT, pkF, ownDst, Env.kd, ofConst, isConst, binA, intI, cmpI, shiftI, convertA, buildA, fillA, fillS, splice, AV.cells?, storeA, readAt, fieldAddrA, fieldA, indexA, extractA, unA, builtinA, appendA, lenA, sliceCells, isSliceK, makeInterfaceA, nilCheckA, eqA, AV.one, AV.plain, if_false, if_true, Nat.reduceEqDiff, reduceIte, Nat.reduceAdd, List.replicate, Nat.reduceLeDiff, Nat.reduceMul, Nat.reduceSub, Nat.reducePow, Int.reduceLT, Int.reduceLE, Int.reduceToNat, Int.reducePow, IntKind.bits, Int.reduceEq, Int.reduceMul, Int.reduceNeg, ne_eq, reduceCtorEq, escT, BEq.rfl, beq_self_eq_true, Int.reduceAdd, Int.reduceSub, Int.reduceMod, Int.reduceDiv, Nat.reduceMod, Nat.reduceDiv, Nat.reduceLT, cond_true, cond_false, gt_iff_lt, ge_iff_le, g0, g1, g2, g6, g7, g8, g10, g11, hj, k1, mx, mn, fx, h64, q1, hneg, w3, w4, cl2, cs2, b1, b2, wj, List.length_map, Nat.mul_one, Int.toNat_natCast, Ytimdnnlfkkkpbaa.D45, ty1, ty2, ty3, ty4, ty22, ty29, ty87]
                  exact ih2 (m' - 1) _ _ (by omega) ⟨j + 1, j + 1, by omega, ⟨by simp [Fr.get, g0], by simp [Fr.get, g1], by simp [Fr.get, g2], by simp [Fr.get, g6], by simp [Fr.get, g7], by simp [Fr.get, g8]⟩, by simp [Fr.get], by simp [Fr.get], rfl⟩
                · rw [if_neg hneg] at hv
                  have w4 : IntKind.i64.wrap (n + 68719476736) = someP p 0 j := by rw [wrapI (by omega)]; omega
                  simp (maxSteps := 2000000) only [wk0, wk1, wk2, wk3, keepA, keepT, Fr.keep, frzT, flatT, arrayAtA, ownT, extT, Fr.ev, Fr.put, Fr.get, initFr, buildSliceA, zeros, pkB, pkT, pkF, ownDst, Env.kd, ofConst, isConst, binA, intI, cmpI, shiftI, convertA, buildA, fillA, fillS, splice, AV.cells?, storeA, readAt, fieldAddrA, fieldA, indexA, extractA, unA, builtinA, appendA, lenA, sliceCells, isSliceK, makeInterfaceA, nilCheckA, eqA, AV.one, AV.plain, if_false, if_true, Nat.reduceEqDiff, reduceIte, Nat.reduceAdd, List.replicate, Nat.reduceLeDiff, Nat.reduceMul, Nat.reduceSub, Nat.reducePow, Int.reduceLT, Int.reduceLE, Int.reduceToNat, Int.reducePow, IntKind.bits, Int.reduceEq, Int.reduceMul, Int.reduceNeg, ne_eq, reduceCtorEq, escT, BEq.rfl, beq_self_eq_true, Int.reduceAdd, Int.reduceSub, Int.reduceMod, Int.reduceDiv, Nat.reduceMod, Nat.reduceDiv, Nat.reduceLT, cond_true, cond_false, gt_iff_lt, ge_iff_le, g0, g1, g2, g6, g7, g8, g10, g11, hj, k1, mx, mn, fx, h64, q1, hneg, w4, cl2, cs2, b1, b2, wj, List.length_map, Nat.mul_one, Int.toNat_natCast, Ytimdnnlfkkkpbaa.D45, ty1, ty2, ty3, ty4, ty22, ty29, ty87]
                  exact ih2 (m' - 1) _ _ (by omega) ⟨j + 1, j + 1, by omega, ⟨by simp [Fr.get, g0], by simp [Fr.get, g1], by simp [Fr.get, g2], by simp [Fr.get, g6], by simp [Fr.get, g7], by simp [Fr.get, g8]⟩, by simp [Fr.get], by simp [Fr.get], rfl⟩
              · have hv : someP p 0 j = n := by unfold someP; rw [ha, hc, hn0, if_neg hij]
                have q1 : ((0 : Int) = (j : Int)) = False := eq_false (by omega)
                rw [hv] at cs2
                simp (maxSteps := 2000000) only [wk0, wk1, wk2, wk3, keepA, keepT, Fr.keep, frzT, flatT, arrayAtA, ownT, extT, Fr.ev, Fr.put, Fr.get, initFr, buildSliceA, zeros, pkB, pkT, pkF, ownDst, Env.kd, ofConst, isConst, binA, intI, cmpI, shiftI, convertA, buildA, fillA, fillS, splice, AV.cells?, storeA, readAt, fieldAddrA, fieldA, indexA, extractA, unA, builtinA, appendA, lenA, sliceCells, isSliceK, makeInterfaceA, nilCheckA, eqA, AV.one, AV.plain, if_false, if_true, Nat.reduceEqDiff, reduceIte, Nat.reduceAdd, List.replicate, Nat.reduceLeDiff, Nat.reduceMul, Nat.reduceSub, Nat.reducePow, Int.reduceLT, Int.reduceLE, Int.reduceToNat, Int.reducePow, IntKind.bits, Int.reduceEq, Int.reduceMul, Int.reduceNeg, ne_eq, reduceCtorEq, escT, BEq.rfl, beq_self_eq_true, Int.reduceAdd, Int.reduceSub, Int.reduceMod, Int.reduceDiv, Nat.reduceMod, Nat.reduceDiv, Nat.reduceLT, cond_true, cond_false, gt_iff_lt, ge_iff_le, g0, g1, g2, g6, g7, g8, g10, g11, hj, k1, mx, mn, fx, h64, q1, cl2, cs2, b1, b2, wj, List.length_map, Nat.mul_one, Int.toNat_natCast, Ytimdnnlfkkkpbaa.D45, ty1, ty2, ty3, ty4, ty22, ty29, ty87]
                exact ih2 (m' - 1) _ _ (by omega) ⟨j + 1, j + 1, by omega, ⟨by simp [Fr.get, g0], by simp [Fr.get, g1], by simp [Fr.get, g2], by simp [Fr.get, g6], by simp [Fr.get, g7], by simp [Fr.get, g8]⟩, by simp [Fr.get], by simp [Fr.get], rfl⟩
            · have p4 : ¬ (c : Int) < p[a].length := by omega
              have hn0 : someN p a c = 0 := by unfold someN; rw [getD_lst hA, if_neg (fun h => hC h.2)]
              have fx := And.intro ga <| And.intro p1 <| And.intro p2 p4
              simp only [lstI] at fx
              by_cases hij : 0 = j
              · have hv : someP p 0 j = 68719476736 := by unfold someP; rw [ha, hc, hn0, if_pos hij]; rfl
                have q1 : ((0 : Int) = (j : Int)) = True := eq_true (by omega)
                rw [hv] at cs2
                simp (maxSteps := 2000000) only [wk0, wk1, wk2, wk3, keepA, keepT, Fr.keep, frzT, flatT, arrayAtA, ownT, extT, Fr.ev, Fr.put, Fr.get, initFr, buildSliceA, zeros, pkB, pkT, pkF, ownDst, Env.kd, ofConst, isConst, binA, intI, cmpI, shiftI, convertA, buildA, fillA, fillS, splice, AV.cells?, storeA, readAt, fieldAddrA, fieldA, indexA, extractA, unA, builtinA, appendA, lenA, sliceCells, isSliceK, makeInterfaceA, nilCheckA, eqA, AV.one, AV.plain, if_false, if_true, Nat.reduceEqDiff, reduceIte, Nat.reduceAdd, List.replicate, Nat.reduceLeDiff, Nat.reduceMul, Nat.reduceSub, Nat.reducePow, Int.reduceLT, Int.reduceLE, Int.reduceToNat, Int.reducePow, IntKind.bits, Int.reduceEq, Int.reduceMul, Int.reduceNeg, ne_eq, reduceCtorEq, escT, BEq.rfl, beq_self_eq_true, Int.reduceAdd, Int.reduceSub, Int.reduceMod, Int.reduceDiv, Nat.reduceMod, Nat.reduceDiv, Nat.reduceLT, cond_true, cond_false, gt_iff_lt, ge_iff_le, g0, g1, g2, g6, g7, g8, g10, g11, hj, k1, mx, mn, fx, h64, q1, cl2, cs2, b1, b2, wj, List.length_map, Nat.mul_one, Int.toNat_natCast, Ytimdnnlfkkkpbaa.D45, ty1, ty2, ty3, ty4, ty22, ty29, ty87]
                exact ih2 (m' - 1) _ _ (by omega) ⟨j + 1, j + 1, by omega, ⟨by simp [Fr.get, g0], by simp [Fr.get, g1], by simp [Fr.get, g2], by simp [Fr.get, g6], by simp [Fr.get, g7], by simp [Fr.get, g8]⟩, by simp [Fr.get], by simp [Fr.get], rfl⟩
              · have hv : someP p 0 j = 0 := by unfold someP; rw [ha, hc, hn0, if_neg hij]
                have q1 : ((0 : Int) = (j : Int)) = False := eq_false (by omega)
                rw [hv] at cs2
                simp (maxSteps := 2000000) only [wk0, wk1, wk2, wk3, keepA, keepT, Fr.keep, frzT, flatT, arrayAtA, ownT, extT, Fr.ev, Fr.put, Fr.get, initFr, buildSliceA, zeros, pkB, pkT, pkF, ownDst, Env.kd, ofConst, isConst, binA, intI, cmpI, shiftI, convertA, buildA, fillA, fillS, splice, AV.cells?, storeA, readAt, fieldAddrA, fieldA, indexA, extractA, unA, builtinA, appendA, lenA, sliceCells, isSliceK, makeInterfaceA, nilCheckA, eqA, AV.one, AV.plain, if_false, if_true, Nat.reduceEqDiff, reduceIte, Nat.reduceAdd, List.replicate, Nat.reduceLeDiff, Nat.reduceMul, Nat.reduceSub, Nat.reducePow, Int.reduceLT, Int.reduceLE, Int.reduceToNat, Int.reducePow, IntKind.bits, Int.reduceEq, Int.reduceMul, Int.reduceNeg, ne_eq, reduceCtorEq, escT, BEq.rfl, beq_self_eq_true, Int.reduceAdd, Int.reduceSub, Int.reduceMod, Int.reduceDiv, Nat.reduceMod, Nat.reduceDiv, Nat.reduceLT, cond_true, cond_false, gt_iff_lt, ge_iff_le, g0, g1, g2, g6, g7, g8, g10, g11, hj, k1, mx, mn, fx, h64, q1, cl2, cs2, b1, b2, wj, List.length_map, Nat.mul_one, Int.toNat_natCast, Ytimdnnlfkkkpbaa.D45, ty1, ty2, ty3, ty4, ty22, ty29, ty87]
                exact ih2 (m' - 1) _ _ (by omega) ⟨j + 1, j + 1, by omega, ⟨by simp [Fr.get, g0], by simp [Fr.get, g1], by simp [Fr.get, g2], by simp [Fr.get, g6], by simp [Fr.get, g7], by simp [Fr.get, g8]⟩, by simp [Fr.get], by simp [Fr.get], rfl⟩
          · have p2 : ¬ (a : Int) < p.length := by omega
            have hn0 : someN p a c = 0 := by unfold someN; rw [if_neg (fun h => hA h.1)]
            have fx := p2
            by_cases hij : 0 = j
            · have hv : someP p 0 j = 68719476736 := by unfold someP; rw [ha, hc, hn0, if_pos hij]; rfl
              have q1 : ((0 : Int) = (j : Int)) = True := eq_true (by omega)
              rw [hv] at cs2
              simp (maxSteps := 2000000) only [wk0, wk1, wk2, wk3, keepA, keepT, Fr.keep, frzT, flatT, arrayAtA, ownT, extT, Fr.ev, Fr.put, Fr.get, initFr, buildSliceA, zeros, pkB, pkT, pkF, ownDst, Env.kd, ofConst, isConst, binA, intI, cmpI, shiftI, convertA, buildA, fillA, fillS, splice, AV.cells?, storeA, readAt, fieldAddrA, fieldA, indexA, extractA, unA, builtinA, appendA, lenA, sliceCells, isSliceK, makeInterfaceA, nilCheckA, eqA, AV.one, AV.plain, if_false, if_true, Nat.reduceEqDiff, reduceIte, Nat.reduceAdd, List.replicate, Nat.reduceLeDiff, Nat.reduceMul, Nat.reduceSub, Nat.reducePow, Int.reduceLT, Int.reduceLE, Int.reduceToNat, Int.reducePow, IntKind.bits, Int.reduceEq, Int.reduceMul, Int.reduceNeg, ne_eq, reduceCtorEq, escT, BEq.rfl, beq_self_eq_true, Int.reduceAdd, Int.reduceSub, Int.reduceMod, Int.reduceDiv, Nat.reduceMod, Nat.reduceDiv, Nat.reduceLT, cond_true, cond_false, gt_iff_lt, ge_iff_le, g0, g1, g2, g6, g7, g8, g10, g11, hj, k1, mx, mn, fx, h64, q1, cl2, cs2, b1, b2, wj, List.length_map, Nat.mul_one, Int.toNat_natCast, Ytimdnnlfkkkpbaa.D45, ty1, ty2, ty3, ty4, ty22, ty29, ty87]
              exact ih2 (m' - 1) _ _ (by omega) ⟨j + 1, j + 1, by omega, ⟨by simp [Fr.get, g0], by simp [Fr.get, g1], by simp [Fr.get, g2], by simp [Fr.get, g6], by simp [Fr.get, g7], by simp [Fr.get, g8]⟩, by simp [Fr.get], by simp [Fr.get], rfl⟩
            · have hv : someP p 0 j = 0 := by unfold someP; rw [ha, hc, hn0, if_neg hij]
              have q1 : ((0 : Int) = (j : Int)) = False := eq_false (by omega)
              rw [hv] at cs2
              simp (maxSteps := 2000000) only [wk0, wk1, wk2, wk3, keepA, keepT, Fr.keep, frzT, flatT, arrayAtA, ownT, extT, Fr.ev, Fr.put, Fr.get, initFr, buildSliceA, zeros, pkB, pkT, pkF, ownDst, Env.kd, ofConst, isConst, binA, intI, cmpI, shiftI, convertA, buildA, fillA, fillS, splice, AV.cells?, storeA, readAt, fieldAddrA, fieldA, indexA, extractA, unA, builtinA, appendA, lenA, sliceCells, isSliceK, makeInterfaceA, nilCheckA, eqA, AV.one, AV.plain, if_false, if_true, Nat.reduceEqDiff, reduceIte, Nat.reduceAdd, List.replicate, Nat.reduceLeDiff, Nat.reduceMul, Nat.reduceSub, Nat.reducePow, Int.reduceLT, Int.reduceLE, Int.reduceToNat, Int.reducePow, IntKind.bits, Int.reduceEq, Int.reduceMul, Int.reduceNeg, ne_eq, reduceCtorEq, escT, BEq.rfl, beq_self_eq_true, Int.reduceAdd, Int.reduceSub, Int.reduceMod, Int.reduceDiv, Nat.reduceMod, Nat.reduceDiv, Nat.reduceLT, cond_true, cond_false, gt_iff_lt, ge_iff_le, g0, g1, g2, g6, g7, g8, g10, g11, hj, k1, mx, mn, fx, h64, q1, cl2, cs2, b1, b2, wj, List.length_map, Nat.mul_one, Int.toNat_natCast, Ytimdnnlfkkkpbaa.D45, ty1, ty2, ty3, ty4, ty22, ty29, ty87]
              exact ih2 (m' - 1) _ _ (by omega) ⟨j + 1, j + 1, by omega, ⟨by simp [Fr.get, g0], by simp [Fr.get, g1], by simp [Fr.get, g2], by simp [Fr.get, g6], by simp [Fr.get, g7], by simp [Fr.get, g8]⟩, by simp [Fr.get], by simp [Fr.get], rfl⟩
        · obtain rfl : j = 6 := by omega
          simp (maxSteps := 2000000) only [wk0, wk1, wk2, wk3, keepA, keepT, Fr.keep, frzT, flatT, arrayAtA, ownT, extT, Fr.ev, Fr.put, Fr.get, initFr, buildSliceA, zeros, pkB, pkT, pkF, ownDst, Env.kd, ofConst, isConst, binA, intI, cmpI, shiftI, convertA, buildA, fillA, fillS, splice, AV.cells?, storeA, readAt, fieldAddrA, fieldA, indexA, extractA, unA, builtinA, appendA, lenA, sliceCells, isSliceK, makeInterfaceA, nilCheckA, eqA, AV.one, AV.plain, if_false, if_true, Nat.reduceEqDiff, reduceIte, Nat.reduceAdd, List.replicate, Nat.reduceLeDiff, Nat.reduceMul, Nat.reduceSub, Nat.reducePow, Int.reduceLT, Int.reduceLE, Int.reduceToNat, Int.reducePow, IntKind.bits, Int.reduceEq, Int.reduceMul, Int.reduceNeg, ne_eq, reduceCtorEq, escT, BEq.rfl, beq_self_eq_true, Int.reduceAdd, Int.reduceSub, Int.reduceMod, Int.reduceDiv, Nat.reduceMod, Nat.reduceDiv, Nat.reduceLT, cond_true, cond_false, gt_iff_lt, ge_iff_le, g0, g1, g2, g6, g7, g8, g10, g11, hj, Ytimdnnlfkkkpbaa.D45, ty1, ty2, ty3, ty4, ty22, ty29, ty87]
          exact hK' _ _ ⟨⟨g0, g1, g2, g6, g7, g8⟩, ⟨cap2, g10⟩, rfl⟩
      · rintro fr H ⟨⟨g0, g1, g2, g6, g7, g8⟩, ⟨cap2, g10⟩, rfl⟩
        simp (maxSteps := 2000000) only [wk0, wk1, wk2, wk3, keepA, keepT, Fr.keep, frzT, flatT, arrayAtA, ownT, extT, Fr.ev, Fr.put, Fr.get, initFr, buildSliceA, zeros, pkB, pkT, pkF, ownDst, Env.kd, ofConst, isConst, binA, intI, cmpI, shiftI, convertA, buildA, fillA, fillS, splice, AV.cells?, storeA, readAt, fieldAddrA, fieldA, indexA, extractA, unA, builtinA, appendA, lenA, sliceCells, isSliceK, makeInterfaceA, nilCheckA, eqA, AV.one, AV.plain, if_false, if_true, Nat.reduceEqDiff, reduceIte, Nat.reduceAdd, List.replicate, Nat.reduceLeDiff, Nat.reduceMul, Nat.reduceSub, Nat.reducePow, Int.reduceLT, Int.reduceLE, Int.reduceToNat, Int.reducePow, IntKind.bits, Int.reduceEq, Int.reduceMul, Int.reduceNeg, ne_eq, reduceCtorEq, escT, BEq.rfl, beq_self_eq_true, Int.reduceAdd, Int.reduceSub, Int.reduceMod, Int.reduceDiv, Nat.reduceMod, Nat.reduceDiv, Nat.reduceLT, cond_true, cond_false, gt_iff_lt, ge_iff_le, g0, g1, g2, g6, g7, g8, g10, tk, eq_true px, List.length_map, prI_len, Nat.zero_add, Nat.mul_one, Nat.le_refl, Nat.le_add_right, a3, a4, Ytimdnnlfkkkpbaa.D45, ty1, ty2, ty3, ty4, ty22, ty29, ty87]
        exact ih (m - 1) _ _ (by omega) ⟨1, by omega, ⟨by simp [Fr.get, g0], by simp [Fr.get, g1], by simp [Fr.get, g2], by simp [Fr.get, g6], by simp [Fr.get, g7], by simp [Fr.get]⟩, .inr ⟨by omega, 1, 1, [], by rw [e1, er]; rfl⟩⟩
    · have h' : ¬ (0 : Int) < x.length := by omega
      have ht : n = 0 := by rw [← hn]; unfold someX; rw [if_neg h]
      subst ht
      simp (maxSteps := 2000000) only [wk0, wk1, wk2, wk3, keepA, keepT, Fr.keep, frzT, flatT, arrayAtA, ownT, extT, Fr.ev, Fr.put, Fr.get, initFr, buildSliceA, zeros, pkB, pkT, pkF, ownDst, Env.kd, ofConst, isConst, binA, intI, cmpI, shiftI, convertA, buildA, fillA, fillS, splice, AV.cells?, storeA, readAt, fieldAddrA, fieldA, indexA, extractA, unA, builtinA, appendA, lenA, sliceCells, isSliceK, makeInterfaceA, nilCheckA, eqA, AV.one, AV.plain, if_false, if_true, Nat.reduceEqDiff, reduceIte, Nat.reduceAdd, List.replicate, Nat.reduceLeDiff, Nat.reduceMul, Nat.reduceSub, Nat.reducePow, Int.reduceLT, Int.reduceLE, Int.reduceToNat, Int.reducePow, IntKind.bits, Int.reduceEq, Int.reduceMul, Int.reduceNeg, ne_eq, reduceCtorEq, escT, BEq.rfl, beq_self_eq_true, Int.reduceAdd, Int.reduceSub, Int.reduceMod, Int.reduceDiv, Nat.reduceMod, Nat.reduceDiv, Nat.reduceLT, cond_true, cond_false, gt_iff_lt, ge_iff_le, um, ul, g0, g1, g2, g6, g7, g8, h', m6, a3, a4, List.length_cons, List.length_nil, Nat.zero_add, Nat.reduceAdd, Ytimdnnlfkkkpbaa.D45, ty1, ty2, ty3, ty4, ty22, ty29, ty87]
      refine loopC_split 2 (fun fr H => (fr.get 0 = u ∧ fr.get 1 = .lst (p.map lstI) p.length ∧ fr.get 2 = .int .i64 68719476736 ∧ fr.get 6 = .ptr S.length 0 0 ∧ fr.get 7 = .ptr (S.length + 1) 0 0 ∧ fr.get 8 = .int .i64 0) ∧ (∃ cap2, fr.get 10 = .sl (S.length + 3) 6 0 6 cap2 1) ∧
        H = S ++ [some ⟨[.nils, .nils], 0⟩, some ⟨[.sl (S.length + 2) 1 0 1 1 1, .nils], 0⟩, some ⟨[.int .i64 0], 1⟩,  some ⟨(prI (someP p 0) 6).map fun y => .int .i64 y, 6⟩ ]) (fun K' hK' => ?_) ?_
      · refine loopC_ind (fun m' fr H => ∃ (j cap2 : Nat), j + m' = 6 ∧ (fr.get 0 = u ∧ fr.get 1 = .lst (p.map lstI) p.length ∧ fr.get 2 = .int .i64 68719476736 ∧ fr.get 6 = .ptr S.length 0 0 ∧ fr.get 7 = .ptr (S.length + 1) 0 0 ∧ fr.get 8 = .int .i64 0) ∧ fr.get 10 = .sl (S.length + 3) j 0 j cap2 1 ∧ fr.get 11 = .int .i64 (j : Int) ∧
          H = S ++ [some ⟨[.nils, .nils], 0⟩, some ⟨[.sl (S.length + 2) 1 0 1 1 1, .nils], 0⟩, some ⟨[.int .i64 0], 1⟩,  some ⟨(prI (someP p 0) j).map fun y => .int .i64 y, j⟩ ]) ?_ (n := 6) ⟨0, 0, by omega, ⟨by simp [Fr.get, g0], by simp [Fr.get, g1], by simp [Fr.get, g2], by simp [Fr.get, g6], by simp [Fr.get, g7], by simp [Fr.get, g8]⟩, by first | rfl | simp [Fr.get], by first | rfl | simp [Fr.get], by first | rfl | simp [prI]⟩
        clear g0 g1 g2 g6 g7 g8
        rintro m' fr H ⟨j, cap2, hjm, ⟨g0, g1, g2, g6, g7, g8⟩, g10, g11, rfl⟩ ih2
        have cl2 := prI_len (someP p 0) j
        by_cases hj : (j : Int) < 6
        · have k1 : (0 : Int) ≤ j := by omega
          have wj : IntKind.i64.wrap ((j : Int) + 1) = ((j + 1 : Nat) : Int) := wrapI (by omega)
          have cs2 := prI_app (someP p 0) j
          have b1 : (j + 1) * 8 ≤ maxBytes := by unfold maxBytes; omega
          have b2 : j + 1 ≤ 9223372036854775807 := by omega
          have h64 : (68719476736 : Int).tdiv 64 = 1073741824 := by decide
          obtain ⟨a, ha⟩ : ∃ a, max 0 j = a := ⟨_, rfl⟩
          obtain ⟨c, hc⟩ : ∃ c, min 0 j = c := ⟨_, rfl⟩
          have mx : max (0 : Int) (j : Int) = (a : Int) := by omega
          have mn : min (0 : Int) (j : Int) = (c : Int) := by omega
          have hb := someN_bound p a c
          by_cases hA : a < p.length
          · have ga := get_lstL hA
            have p1 : (0 : Int) ≤ (a : Int) := by omega
            have p2 : (a : Int) < p.length := by omega
            by_cases hC : c < p[a].length
            · have gc := get_lstI hC
              have p3 : (0 : Int) ≤ (c : Int) := by omega
              have p4 : (c : Int) < p[a].length := by omega
              have p5 : ¬ (1073741824 : Int) = 0 := by decide
              obtain ⟨n, hn⟩ : ∃ n, (p[a][c]).tmod 1073741824 = n := ⟨_, rfl⟩
              have hn0 : someN p a c = n := by unfold someN; rw [getD_lst hA, if_pos ⟨hA, hC⟩, List.getD_eq_getElem?_getD, List.getElem?_eq_getElem hC]; exact hn
              rw [hn0] at hb
              have fx := And.intro ga <| And.intro p1 <| And.intro p2 <| And.intro gc <| And.intro p3 <| And.intro p4 <| And.intro p5 hn
              simp only [lstI] at fx
              by_cases hij : 0 = j
              · have hv : someP p 0 j = (if n < 0 then -n else n) + 68719476736 := by unfold someP; rw [ha, hc, hn0, if_pos hij]
                have q1 : ((0 : Int) = (j : Int)) = True := eq_true (by omega)
                by_cases hneg : n < 0
                · rw [if_pos hneg] at hv
                  have w3 : IntKind.i64.wrap (0 - n) = -n := by rw [wrapI (by omega)]; omega
                  have w4 : IntKind.i64.wrap (-n + 68719476736) = someP p 0 j := by rw [wrapI (by omega)]; omega
                  simp (maxSteps := 2000000) only [wk0, wk1, wk2, wk3, keepA, keepT, Fr.keep, frzT, flatT, arrayAtA, ownT, extT, Fr.ev, Fr.put, Fr.get, initFr, buildSliceA, zeros, pkB, pkT, pkF, ownDst, Env.kd, ofConst, isConst, binA, intI, cmpI, shiftI, convertA, buildA, fillA, fillS, splice, AV.cells?, storeA, readAt, fieldAddrA, fieldA, indexA, extractA, unA, builtinA, appendA, lenA, sliceCells, isSliceK, makeInterfaceA, nilCheckA, eqA, AV.one, AV.plain, if_false, if_true, Nat.reduceEqDiff, reduceIte, Nat.reduceAdd, List.replicate, Nat.reduceLeDiff, Nat.reduceMul, Nat.reduceSub, Nat.reducePow, Int.reduceLT, Int.reduceLE, Int.reduceToNat, Int.reducePow, IntKind.bits, Int.reduceEq, Int.reduceMul, Int.reduceNeg, ne_eq, reduceCtorEq, escT, BEq.rfl, beq_self_eq_true, Int.reduceAdd, Int.reduceSub, Int.reduceMod, Int.reduceDiv, Nat.reduceMod, Nat.reduceDiv, Nat.reduceLT, cond_true, cond_false, gt_iff_lt, ge_iff_le, g0, g1, g2, g6, g7, g8, g10, g11, hj, k1, mx, mn, fx, h64, q1, hneg, w3, w4, cl2, cs2, b1, b2, wj, List.length_map, Nat.mul_one, Int.toNat_natCast, Ytimdnnlfkkkpbaa.D45, ty1, ty2, ty3, ty4, ty22, ty29, ty87]
                  exact ih2 (m' - 1) _ _ (by omega) ⟨j + 1, j + 1, by omega, ⟨by simp [Fr.get, g0], by simp [Fr.get, g1], by simp [Fr.get, g2], by simp [Fr.get, g6], by simp [Fr.get, g7], by simp [Fr.get, g8]⟩, by simp [Fr.get], by simp [Fr.get], rfl⟩
                · rw [if_neg hneg] at hv
                  have w4 : IntKind.i64.wrap (n + 68719476736) = someP p 0 j := by rw [wrapI (by omega)]; omega
                  simp (maxSteps := 2000000) only [wk0, wk1, wk2, wk3, keepA, keepT, Fr.keep, frzT, flatT, arrayAtA, ownT, extT, Fr.ev, Fr.put, Fr.get, initFr, buildSliceA, zeros, pkB, pkT, pkF, ownDst, Env.kd, ofConst, isConst, binA, intI, cmpI, shiftI, convertA, buildA, fillA, fillS, splice, AV.cells?, storeA, readAt, fieldAddrA, fieldA, indexA, extractA, unA, builtinA, appendA, lenA, sliceCells, isSliceK, makeInterfaceA, nilCheckA, eqA, AV.one, AV.plain, if_false, if_true, Nat.reduceEqDiff, reduceIte, Nat.reduceAdd, List.replicate, Nat.reduceLeDiff, Nat.reduceMul, Nat.reduceSub, Nat.reducePow, Int.reduceLT, Int.reduceLE, Int.reduceToNat, Int.reducePow, IntKind.bits, Int.reduceEq, Int.reduceMul, Int.reduceNeg, ne_eq, reduceCtorEq, escT, BEq.rfl, beq_self_eq_true, Int.reduceAdd, Int.reduceSub, Int.reduceMod, Int.reduceDiv, Nat.reduceMod, Nat.reduceDiv, Nat.reduceLT, cond_true, cond_false, gt_iff_lt, ge_iff_le, g0, g1, g2, g6, g7, g8, g10, g11, hj, k1, mx, mn, fx, h64, q1, hneg, w4, cl2, cs2, b1, b2, wj, List.length_map, Nat.mul_one, Int.toNat_natCast, Ytimdnnlfkkkpbaa.D45, ty1, ty2, ty3, ty4, ty22, ty29, ty87]
                  exact ih2 (m' - 1) _ _ (by omega) ⟨j + 1, j + 1, by omega, ⟨by simp [Fr.get, g0], by simp [Fr.get, g1], by simp [Fr.get, g2], by simp [Fr.get, g6], by simp [Fr.get, g7], by simp [Fr.get, g8]⟩, by simp [Fr.get], by simp [Fr.get], rfl⟩
              · have hv : someP p 0 j = n := by unfold someP; rw [ha, hc, hn0, if_neg hij]
                have q1 : ((0 : Int) = (j : Int)) = False := eq_false (by omega)
                rw [hv] at cs2
                simp (maxSteps := 2000000) only [wk0, wk1, wk2, wk3, keepA, keepT, Fr.keep, frzT, flatT, arrayAtA, ownT, extT, Fr.ev, Fr.put, Fr.get, initFr, buildSliceA, zeros, pkB, pkT, pkF, ownDst, Env.kd, ofConst, isConst, binA, intI, cmpI, shiftI, convertA, buildA, fillA, fillS, splice, AV.cells?, storeA, readAt, fieldAddrA, fieldA, indexA, extractA, unA, builtinA, appendA, lenA, sliceCells, isSliceK, makeInterfaceA, nilCheckA, eqA, AV.one, AV.plain, if_false, if_true, Nat.reduceEqDiff, reduceIte, Nat.reduceAdd, List.replicate, Nat.reduceLeDiff, Nat.reduceMul, Nat.reduceSub, Nat.reducePow, Int.reduceLT, Int.reduceLE, Int.reduceToNat, Int.reducePow, IntKind.bits, Int.reduceEq, Int.reduceMul, Int.reduceNeg, ne_eq, reduceCtorEq, escT, BEq.rfl, beq_self_eq_true, Int.reduceAdd, Int.reduceSub, Int.reduceMod, Int.reduceDiv, Nat.reduceMod, Nat.reduceDiv, Nat.reduceLT, cond_true, cond_false, gt_iff_lt, ge_iff_le, g0, g1, g2, g6, g7, g8, g10, g11, hj, k1, mx, mn, fx, h64, q1, cl2, cs2, b1, b2, wj, List.length_map, Nat.mul_one, Int.toNat_natCast, Ytimdnnlfkkkpbaa.D45, ty1, ty2, ty3, ty4, ty22, ty29, ty87]
                exact ih2 (m' - 1) _ _ (by omega) ⟨j + 1, j + 1, by omega, ⟨by simp [Fr.get, g0], by simp [Fr.get, g1], by simp [Fr.get, g2], by simp [Fr.get, g6], by simp [Fr.get, g7], by simp [Fr.get, g8]⟩, by simp [Fr.get], by simp [Fr.get], rfl⟩
            · have p4 : ¬ (c : Int) < p[a].length := by omega
              have hn0 : someN p a c = 0 := by unfold someN; rw [getD_lst hA, if_neg (fun h => hC h.2)]
              have fx := And.intro ga <| And.intro p1 <| And.intro p2 p4
              simp only [lstI] at fx
              by_cases hij : 0 = j
              · have hv : someP p 0 j = 68719476736 := by unfold someP; rw [ha, hc, hn0, if_pos hij]; rfl
                have q1 : ((0 : Int) = (j : Int)) = True := eq_true (by omega)
                rw [hv] at cs2
                simp (maxSteps := 2000000) only [wk0, wk1, wk2, wk3, keepA, keepT, Fr.keep, frzT, flatT, arrayAtA, ownT, extT, Fr.ev, Fr.put, Fr.get, initFr, buildSliceA, zeros, pkB, pkT, pkF, ownDst, Env.kd, ofConst, isConst, binA, intI, cmpI, shiftI, convertA, buildA, fillA, fillS, splice, AV.cells?, storeA, readAt, fieldAddrA, fieldA, indexA, extractA, unA, builtinA, appendA, lenA, sliceCells, isSliceK, makeInterfaceA, nilCheckA, eqA, AV.one, AV.plain, if_false, if_true, Nat.reduceEqDiff, reduceIte, Nat.reduceAdd, List.replicate, Nat.reduceLeDiff, Nat.reduceMul, Nat.reduceSub, Nat.reducePow, Int.reduceLT, Int.reduceLE, Int.reduceToNat, Int.reducePow, IntKind.bits, Int.reduceEq, Int.reduceMul, Int.reduceNeg, ne_eq, reduceCtorEq, escT, BEq.rfl, beq_self_eq_true, Int.reduceAdd, Int.reduceSub, Int.reduceMod, Int.reduceDiv, Nat.reduceMod, Nat.reduceDiv, Nat.reduceLT, cond_true, cond_false, gt_iff_lt, ge_iff_le, g0, g1, g2, g6, g7, g8, g10, g11, hj, k1, mx, mn, fx, h64, q1, cl2, cs2, b1, b2, wj, List.length_map, Nat.mul_one, Int.toNat_natCast, Ytimdnnlfkkkpbaa.D45, ty1, ty2, ty3, ty4, ty22, ty29, ty87]
                exact ih2 (m' - 1) _ _ (by omega) ⟨j + 1, j + 1, by omega, ⟨by simp [Fr.get, g0], by simp [Fr.get, g1], by simp [Fr.get, g2], by simp [Fr.get, g6], by simp [Fr.get, g7], by simp [Fr.get, g8]⟩, by simp [Fr.get], by simp [Fr.get], rfl⟩
              · have hv : someP p 0 j = 0 := by unfold someP; rw [ha, hc, hn0, if_neg hij]
                have q1 : ((0 : Int) = (j : Int)) = False := eq_false (by omega)
                rw [hv] at cs2
                simp (maxSteps := 2000000) only [wk0, wk1, wk2, wk3, keepA, keepT, Fr.keep, frzT, flatT, arrayAtA, ownT, extT, Fr.ev, Fr.put, Fr.get, initFr, buildSliceA, zeros, pkB, pkT, pkF, ownDst, Env.kd, ofConst, isConst, binA, intI, cmpI, shiftI, convertA, buildA, fillA, fillS, splice, AV.cells?, storeA, readAt, fieldAddrA, fieldA, indexA, extractA, unA, builtinA, appendA, lenA, sliceCells, isSliceK, makeInterfaceA, nilCheckA, eqA, AV.one, AV.plain, if_false, if_true, Nat.reduceEqDiff, reduceIte, Nat.reduceAdd, List.replicate, Nat.reduceLeDiff, Nat.reduceMul, Nat.reduceSub, Nat.reducePow, Int.reduceLT, Int.reduceLE, Int.reduceToNat, Int.reducePow, IntKind.bits, Int.reduceEq, Int.reduceMul, Int.reduceNeg, ne_eq, reduceCtorEq, escT, BEq.rfl, beq_self_eq_true, Int.reduceAdd, Int.reduceSub, Int.reduceMod, Int.reduceDiv, Nat.reduceMod, Nat.reduceDiv, Nat.reduceLT, cond_true, cond_false, gt_iff_lt, ge_iff_le, g0, g1, g2, g6, g7, g8, g10, g11, hj, k1, mx, mn, fx, h64, q1, cl2, cs2, b1, b2, wj, List.length_map, Nat.mul_one, Int.toNat_natCast, Ytimdnnlfkkkpbaa.D45, ty1, ty2, ty3, ty4, ty22, ty29, ty87]
                exact ih2 (m' - 1) _ _ (by omega) ⟨j + 1, j + 1, by omega, ⟨by simp [Fr.get, g0], by simp [Fr.get, g1], by simp [Fr.get, g2], by simp [Fr.get, g6], by simp [Fr.get, g7], by simp [Fr.get, g8]⟩, by simp [Fr.get], by simp [Fr.get], rfl⟩
          · have p2 : ¬ (a : Int) < p.length := by omega
            have hn0 : someN p a c = 0 := by unfold someN; rw [if_neg (fun h => hA h.1)]
            have fx := p2
            by_cases hij : 0 = j
            · have hv : someP p 0 j = 68719476736 := by unfold someP; rw [ha, hc, hn0, if_pos hij]; rfl
              have q1 : ((0 : Int) = (j : Int)) = True := eq_true (by omega)
              rw [hv] at cs2
              simp (maxSteps := 2000000) only [wk0, wk1, wk2, wk3, keepA, keepT, Fr.keep, frzT, flatT, arrayAtA, ownT, extT, Fr.ev, Fr.put, Fr.get, initFr, buildSliceA, zeros, pkB, pkT, pkF, ownDst, Env.kd, ofConst, isConst, binA, intI, cmpI, shiftI, convertA, buildA, fillA, fillS, splice, AV.cells?, storeA, readAt, fieldAddrA, fieldA, indexA, extractA, unA, builtinA, appendA, lenA, sliceCells, isSliceK, makeInterfaceA, nilCheckA, eqA, AV.one, AV.plain, if_false, if_true, Nat.reduceEqDiff, reduceIte, Nat.reduceAdd, List.replicate, Nat.reduceLeDiff, Nat.reduceMul, Nat.reduceSub, Nat.reducePow, Int.reduceLT, Int.reduceLE, Int.reduceToNat, Int.reducePow, IntKind.bits, Int.reduceEq, Int.reduceMul, Int.reduceNeg, ne_eq, reduceCtorEq, escT, BEq.rfl, beq_self_eq_true, Int.reduceAdd, Int.reduceSub, Int.reduceMod, Int.reduceDiv, Nat.reduceMod, Nat.reduceDiv, Nat.reduceLT, cond_true, cond_false, gt_iff_lt, ge_iff_le, g0, g1, g2, g6, g7, g8, g10, g11, hj, k1, mx, mn, fx, h64, q1, cl2, cs2, b1, b2, wj, List.length_map, Nat.mul_one, Int.toNat_natCast, Ytimdnnlfkkkpbaa.D45, ty1, ty2, ty3, ty4, ty22, ty29, ty87]
              exact ih2 (m' - 1) _ _ (by omega) ⟨j + 1, j + 1, by omega, ⟨by simp [Fr.get, g0], by simp [Fr.get, g1], by simp [Fr.get, g2], by simp [Fr.get, g6], by simp [Fr.get, g7], by simp [Fr.get, g8]⟩, by simp [Fr.get], by simp [Fr.get], rfl⟩
            · have hv : someP p 0 j = 0 := by unfold someP; rw [ha, hc, hn0, if_neg hij]
              have q1 : ((0 : Int) = (j : Int)) = False := eq_false (by omega)
              rw [hv] at cs2
              simp (maxSteps := 2000000) only [wk0, wk1, wk2, wk3, keepA, keepT, Fr.keep, frzT, flatT, arrayAtA, ownT, extT, Fr.ev, Fr.put, Fr.get, initFr, buildSliceA, zeros, pkB, pkT, pkF, ownDst, Env.kd, ofConst, isConst, binA, intI, cmpI, shiftI, convertA, buildA, fillA, fillS, splice, AV.cells?, storeA, readAt, fieldAddrA, fieldA, indexA, extractA, unA, builtinA, appendA, lenA, sliceCells, isSliceK, makeInterfaceA, nilCheckA, eqA, AV.one, AV.plain, if_false, if_true, Nat.reduceEqDiff, reduceIte, Nat.reduceAdd, List.replicate, Nat.reduceLeDiff, Nat.reduceMul, Nat.reduceSub, Nat.reducePow, Int.reduceLT, Int.reduceLE, Int.reduceToNat, Int.reducePow, IntKind.bits, Int.reduceEq, Int.reduceMul, Int.reduceNeg, ne_eq, reduceCtorEq, escT, BEq.rfl, beq_self_eq_true, Int.reduceAdd, Int.reduceSub, Int.reduceMod, Int.reduceDiv, Nat.reduceMod, Nat.reduceDiv, Nat.reduceLT, cond_true, cond_false, gt_iff_lt, ge_iff_le, g0, g1, g2, g6, g7, g8, g10, g11, hj, k1, mx, mn, fx, h64, q1, cl2, cs2, b1, b2, wj, List.length_map, Nat.mul_one, Int.toNat_natCast, Ytimdnnlfkkkpbaa.D45, ty1, ty2, ty3, ty4, ty22, ty29, ty87]
              exact ih2 (m' - 1) _ _ (by omega) ⟨j + 1, j + 1, by omega, ⟨by simp [Fr.get, g0], by simp [Fr.get, g1], by simp [Fr.get, g2], by simp [Fr.get, g6], by simp [Fr.get, g7], by simp [Fr.get, g8]⟩, by simp [Fr.get], by simp [Fr.get], rfl⟩
        · obtain rfl : j = 6 := by omega
          simp (maxSteps := 2000000) only [wk0, wk1, wk2, wk3, keepA, keepT, Fr.keep, frzT, flatT, arrayAtA, ownT, extT, Fr.ev, Fr.put, Fr.get, initFr, buildSliceA, zeros, pkB, pkT, pkF, ownDst, Env.kd, ofConst, isConst, binA, intI, cmpI, shiftI, convertA, buildA, fillA, fillS, splice, AV.cells?, storeA, readAt, fieldAddrA, fieldA, indexA, extractA, unA, builtinA, appendA, lenA, sliceCells, isSliceK, makeInterfaceA, nilCheckA, eqA, AV.one, AV.plain, if_false, if_true, Nat.reduceEqDiff, reduceIte, Nat.reduceAdd, List.replicate, Nat.reduceLeDiff, Nat.reduceMul, Nat.reduceSub, Nat.reducePow, Int.reduceLT, Int.reduceLE, Int.reduceToNat, Int.reducePow, IntKind.bits, Int.reduceEq, Int.reduceMul, Int.reduceNeg, ne_eq, reduceCtorEq, escT, BEq.rfl, beq_self_eq_true, Int.reduceAdd, Int.reduceSub, Int.reduceMod, Int.reduceDiv, Nat.reduceMod, Nat.reduceDiv, Nat.reduceLT, cond_true, cond_false, gt_iff_lt, ge_iff_le, g0, g1, g2, g6, g7, g8, g10, g11, hj, Ytimdnnlfkkkpbaa.D45, ty1, ty2, ty3, ty4, ty22, ty29, ty87]
          exact hK' _ _ ⟨⟨g0, g1, g2, g6, g7, g8⟩, ⟨cap2, g10⟩, rfl⟩
      · rintro fr H ⟨⟨g0, g1, g2, g6, g7, g8⟩, ⟨cap2, g10⟩, rfl⟩
        simp (maxSteps := 2000000) only [wk0, wk1, wk2, wk3, keepA, keepT, Fr.keep, frzT, flatT, arrayAtA, ownT, extT, Fr.ev, Fr.put, Fr.get, initFr, buildSliceA, zeros, pkB, pkT, pkF, ownDst, Env.kd, ofConst, isConst, binA, intI, cmpI, shiftI, convertA, buildA, fillA, fillS, splice, AV.cells?, storeA, readAt, fieldAddrA, fieldA, indexA, extractA, unA, builtinA, appendA, lenA, sliceCells, isSliceK, makeInterfaceA, nilCheckA, eqA, AV.one, AV.plain, if_false, if_true, Nat.reduceEqDiff, reduceIte, Nat.reduceAdd, List.replicate, Nat.reduceLeDiff, Nat.reduceMul, Nat.reduceSub, Nat.reducePow, Int.reduceLT, Int.reduceLE, Int.reduceToNat, Int.reducePow, IntKind.bits, Int.reduceEq, Int.reduceMul, Int.reduceNeg, ne_eq, reduceCtorEq, escT, BEq.rfl, beq_self_eq_true, Int.reduceAdd, Int.reduceSub, Int.reduceMod, Int.reduceDiv, Nat.reduceMod, Nat.reduceDiv, Nat.reduceLT, cond_true, cond_false, gt_iff_lt, ge_iff_le, g0, g1, g2, g6, g7, g8, g10, tk, eq_true px, List.length_map, prI_len, Nat.zero_add, Nat.mul_one, Nat.le_refl, Nat.le_add_right, a3, a4, Ytimdnnlfkkkpbaa.D45, ty1, ty2, ty3, ty4, ty22, ty29, ty87]
        exact ih (m - 1) _ _ (by omega) ⟨1, by omega, ⟨by simp [Fr.get, g0], by simp [Fr.get, g1], by simp [Fr.get, g2], by simp [Fr.get, g6], by simp [Fr.get, g7], by simp [Fr.get]⟩, .inr ⟨by omega, 1, 1, [], by rw [e1, er]; rfl⟩⟩
  · by_cases hi : (i : Int) < 6
    · have wi : IntKind.i64.wrap ((i : Int) + 1) = ((i + 1 : Nat) : Int) := wrapI (by omega)
      have p0 : (0 : Int) ≤ i := by omega
      have lX := prI_len (someX x) i
      have sX := prI_app (someX x) i
      have lP := rwA_len (someP p) i
      have sP := rwA_app (someP p) i
      have c1 : (i + 1) * 8 ≤ maxBytes := by unfold maxBytes; omega
      have c2 : (i + 1) * 24 ≤ maxBytes := by unfold maxBytes; omega
      have c3 : i + 1 ≤ 9223372036854775807 := by omega
      have px := prI_nmd (someP p i) 0 6
      have tk : List.take 6 ((prI (someP p i) 6).map fun y => AV.int .i64 y) = (prI (someP p i) 6).map fun y => .int .i64 y := List.take_of_length_le (by simp [prI_len])
      obtain ⟨n, hn⟩ : ∃ n : Int, someX x i = n := ⟨_, rfl⟩
      rw [hn] at sX
      by_cases h : i < x.length
      · have h' : (i : Int) < x.length := by omega
        have ga := getA_lst12 h
        have ht : (x.getD i 0).tmod 68719476736 = n := by rw [← hn]; unfold someX; rw [if_pos h]
        have eu := hgo (by omega)
        simp only [lstI] at eu
        simp (maxSteps := 2000000) only [wk0, wk1, wk2, wk3, keepA, keepT, Fr.keep, frzT, flatT, arrayAtA, ownT, extT, Fr.ev, Fr.put, Fr.get, initFr, buildSliceA, zeros, pkB, pkT, pkF, ownDst, Env.kd, ofConst, isConst, binA, intI, cmpI, shiftI, convertA, buildA, fillA, fillS, splice, AV.cells?, storeA, readAt, fieldAddrA, fieldA, indexA, extractA, unA, builtinA, appendA, lenA, sliceCells, isSliceK, makeInterfaceA, nilCheckA, eqA, AV.one, AV.plain, if_false, if_true, Nat.reduceEqDiff, reduceIte, Nat.reduceAdd, List.replicate, Nat.reduceLeDiff, Nat.reduceMul, Nat.reduceSub, Nat.reducePow, Int.reduceLT, Int.reduceLE, Int.reduceToNat, Int.reducePow, IntKind.bits, Int.reduceEq, Int.reduceMul, Int.reduceNeg, ne_eq, reduceCtorEq, escT, BEq.rfl, beq_self_eq_true, Int.reduceAdd, Int.reduceSub, Int.reduceMod, Int.reduceDiv, Nat.reduceMod, Nat.reduceDiv, Nat.reduceLT, cond_true, cond_false, gt_iff_lt, ge_iff_le, eu, g0, g1, g2, g6, g7, g8, hi, p0, h', ga, ht, m6, lX, sX, c1, c3, List.length_cons, List.length_map, List.length_append, List.cons_append, List.append_assoc, Int.toNat_natCast, Nat.mul_one, Ytimdnnlfkkkpbaa.D45, ty1, ty2, ty3, ty4, ty22, ty29, ty87]
        refine loopC_split 2 (fun fr H => (fr.get 0 = u ∧ fr.get 1 = .lst (p.map lstI) p.length ∧ fr.get 2 = .int .i64 68719476736 ∧ fr.get 6 = .ptr S.length 0 0 ∧ fr.get 7 = .ptr (S.length + 1) 0 0 ∧ fr.get 8 = .int .i64 i) ∧ (∃ cap2, fr.get 10 = .sl (S.length + (T.length + 1 + 1 + 1 + 1 + 1)) 6 0 6 cap2 1) ∧
          H = S ++ some ⟨[.nils, .nils], 0⟩ :: some ⟨[.sl (S.length + 2) (i + 1) 0 (i + 1) (i + 1) 1, .sl (S.length + 4) i 0 i capP 1], 0⟩ :: some ⟨(prI (someX x) (i + 1)).map fun y => .int .i64 y, i + 1⟩ :: none :: some ⟨rwA (someP p) i, i⟩ :: (T ++ [ some ⟨(prI (someP p i) 6).map fun y => .int .i64 y, 6⟩ ])) (fun K' hK' => ?_) ?_
        · refine loopC_ind (fun m' fr H => ∃ (j cap2 : Nat), j + m' = 6 ∧ (fr.get 0 = u ∧ fr.get 1 = .lst (p.map lstI) p.length ∧ fr.get 2 = .int .i64 68719476736 ∧ fr.get 6 = .ptr S.length 0 0 ∧ fr.get 7 = .ptr (S.length + 1) 0 0 ∧ fr.get 8 = .int .i64 i) ∧ fr.get 10 = .sl (S.length + (T.length + 1 + 1 + 1 + 1 + 1)) j 0 j cap2 1 ∧ fr.get 11 = .int .i64 (j : Int) ∧
            H = S ++ some ⟨[.nils, .nils], 0⟩ :: some ⟨[.sl (S.length + 2) (i + 1) 0 (i + 1) (i + 1) 1, .sl (S.length + 4) i 0 i capP 1], 0⟩ :: some ⟨(prI (someX x) (i + 1)).map fun y => .int .i64 y, i + 1⟩ :: none :: some ⟨rwA (someP p) i, i⟩ :: (T ++ [ some ⟨(prI (someP p i) j).map fun y => .int .i64 y, j⟩ ])) ?_ (n := 6) ⟨0, 0, by omega, ⟨by simp [Fr.get, g0], by simp [Fr.get, g1], by simp [Fr.get, g2], by simp [Fr.get, g6], by simp [Fr.get, g7], by simp [Fr.get, g8]⟩, by first | rfl | simp [Fr.get], by first | rfl | simp [Fr.get], by first | rfl | simp [prI]⟩
          clear g0 g1 g2 g6 g7 g8
          rintro m' fr H ⟨j, cap2, hjm, ⟨g0, g1, g2, g6, g7, g8⟩, g10, g11, rfl⟩ ih2
          have cl2 := prI_len (someP p i) j
          by_cases hj : (j : Int) < 6
          · have k1 : (0 : Int) ≤ j := by omega
            have wj : IntKind.i64.wrap ((j : Int) + 1) = ((j + 1 : Nat) : Int) := wrapI (by omega)
            have cs2 := prI_app (someP p i) j
            have b1 : (j + 1) * 8 ≤ maxBytes := by unfold maxBytes; omega
            have b2 : j + 1 ≤ 9223372036854775807 := by omega
            have h64 : (68719476736 : Int).tdiv 64 = 1073741824 := by decide
            obtain ⟨a, ha⟩ : ∃ a, max i j = a := ⟨_, rfl⟩
            obtain ⟨c, hc⟩ : ∃ c, min i j = c := ⟨_, rfl⟩
            have mx : max (i : Int) (j : Int) = (a : Int) := by omega
            have mn : min (i : Int) (j : Int) = (c : Int) := by omega
            have hb := someN_bound p a c
            by_cases hA : a < p.length
            · have ga := get_lstL hA
              have p1 : (0 : Int) ≤ (a : Int) := by omega
              have p2 : (a : Int) < p.length := by omega
              by_cases hC : c < p[a].length
              · have gc := get_lstI hC
                have p3 : (0 : Int) ≤ (c : Int) := by omega
                have p4 : (c : Int) < p[a].length := by omega
                have p5 : ¬ (1073741824 : Int) = 0 := by decide
                obtain ⟨n, hn⟩ : ∃ n, (p[a][c]).tmod 1073741824 = n := ⟨_, rfl⟩
                have hn0 : someN p a c = n := by unfold someN; rw [getD_lst hA, if_pos ⟨hA, hC⟩, List.getD_eq_getElem?_getD, List.getElem?_eq_getElem hC]; exact hn
                rw [hn0] at hb
                have fx := And.intro ga <| And.intro p1 <| And.intro p2 <| And.intro gc <| And.intro p3 <| And.intro p4 <| And.intro p5 hn
                simp only [lstI] at fx
                by_cases hij : i = j
                · have hv : someP p i j = (if n < 0 then -n else n) + 68719476736 := by unfold someP; rw [ha, hc, hn0, if_pos hij]
                  have q1 : ((i : Int) = (j : Int)) = True := eq_true (by omega)
                  by_cases hneg : n < 0
                  · rw [if_pos hneg] at hv
                    have w3 : IntKind.i64.wrap (0 - n) = -n := by rw [wrapI (by omega)]; omega
                    have w4 : IntKind.i64.wrap (-n + 68719476736) = someP p i j := by rw [wrapI (by omega)]; omega
                    simp (maxSteps := 2000000) only [wk0, wk1, wk2, wk3, keepA, keepT, Fr.keep, frzT, flatT, arrayAtA, ownT, extT, Fr.ev, Fr.put, Fr.get, initFr, buildSliceA, zeros, pkB, pkT, pkF, ownDst, Env.kd, ofConst, isConst, binA, intI, cmpI, shiftI, convertA, buildA, fillA, fillS, splice, AV.cells?, storeA, readAt, fieldAddrA, fieldA, indexA, extractA, unA, builtinA, appendA, lenA, sliceCells, isSliceK, makeInterfaceA, nilCheckA, eqA, AV.one, AV.plain, if_false, if_true, Nat.reduceEqDiff, reduceIte, Nat.reduceAdd, List.replicate, Nat.reduceLeDiff, Nat.reduceMul, Nat.reduceSub, Nat.reducePow, Int.reduceLT, Int.reduceLE, Int.reduceToNat, Int.reducePow, IntKind.bits, Int.reduceEq, Int.reduceMul, Int.reduceNeg, ne_eq, reduceCtorEq, escT, BEq.rfl, beq_self_eq_true, Int.reduceAdd, Int.reduceSub, Int.reduceMod, Int.reduceDiv, Nat.reduceMod, Nat.reduceDiv, Nat.reduceLT, cond_true, cond_false, gt_iff_lt, ge_iff_le, g0, g1, g2, g6, g7, g8, g10, g11, hj, k1, mx, mn, fx, h64, q1, hneg, w3, w4, cl2, cs2, b1, b2, wj, List.length_map, Nat.mul_one, Int.toNat_natCast, Ytimdnnlfkkkpbaa.D45, ty1, ty2, ty3, ty4, ty22, ty29, ty87]
                    exact ih2 (m' - 1) _ _ (by omega) ⟨j + 1, j + 1, by omega, ⟨by simp [Fr.get, g0], by simp [Fr.get, g1], by simp [Fr.get, g2], by simp [Fr.get, g6], by simp [Fr.get, g7], by simp [Fr.get, g8]⟩, by simp [Fr.get], by simp [Fr.get], rfl⟩
                  · rw [if_neg hneg] at hv
                    have w4 : IntKind.i64.wrap (n + 68719476736) = someP p i j := by rw [wrapI (by omega)]; omega
                    simp (maxSteps := 2000000) only [wk0, wk1, wk2, wk3, keepA, keepT, Fr.keep, frzT, flatT, arrayAtA, ownT, extT, Fr.ev, Fr.put, Fr.get, initFr, buildSliceA, zeros, pkB, pkT, pkF, ownDst, Env.kd, ofConst, isConst, binA, intI, cmpI, shiftI, convertA, buildA, fillA, fillS, splice, AV.cells?, storeA, readAt, fieldAddrA, fieldA, indexA, extractA, unA, builtinA, appendA, lenA, sliceCells, isSliceK, makeInterfaceA, nilCheckA, eqA, AV.one, AV.plain, if_false, if_true, Nat.reduceEqDiff, reduceIte, Nat.reduceAdd, List.replicate, Nat.reduceLeDiff, Nat.reduceMul, Nat.reduceSub, Nat.reducePow, Int.reduceLT, Int.reduceLE, Int.reduceToNat, Int.reducePow, IntKind.bits, Int.reduceEq, Int.reduceMul, Int.reduceNeg, ne_eq, reduceCtorEq, escT, BEq.rfl, beq_self_eq_true, Int.reduceAdd, Int.reduceSub, Int.reduceMod, Int.reduceDiv, Nat.reduceMod, Nat.reduceDiv, Nat.reduceLT, cond_true, cond_false, gt_iff_lt, ge_iff_le, g0, g1, g2, g6, g7, g8, g10, g11, hj, k1, mx, mn, fx, h64, q1, hneg, w4, cl2, cs2, b1, b2, wj, List.length_map, Nat.mul_one, Int.toNat_natCast, Ytimdnnlfkkkpbaa.D45, ty1, ty2, ty3, ty4, ty22, ty29, ty87]
                    exact ih2 (m' - 1) _ _ (by omega) ⟨j + 1, j + 1, by omega, ⟨by simp [Fr.get, g0], by simp [Fr.get, g1], by simp [Fr.get, g2], by simp [Fr.get, g6], by simp [Fr.get, g7], by simp [Fr.get, g8]⟩, by simp [Fr.get], by simp [Fr.get], rfl⟩
                · have hv : someP p i j = n := by unfold someP; rw [ha, hc, hn0, if_neg hij]
                  have q1 : ((i : Int) = (j : Int)) = False := eq_false (by omega)
                  rw [hv] at cs2
                  simp (maxSteps := 2000000) only [wk0, wk1, wk2, wk3, keepA, keepT, Fr.keep, frzT, flatT, arrayAtA, ownT, extT, Fr.ev, Fr.put, Fr.get, initFr, buildSliceA, zeros, pkB, pkT, pkF, ownDst, Env.kd, ofConst, isConst, binA, intI, cmpI, shiftI, convertA, buildA, fillA, fillS, splice, AV.cells?, storeA, readAt, fieldAddrA, fieldA, indexA, extractA, unA, builtinA, appendA, lenA, sliceCells, isSliceK, makeInterfaceA, nilCheckA, eqA, AV.one, AV.plain, if_false, if_true, Nat.reduceEqDiff, reduceIte, Nat.reduceAdd, List.replicate, Nat.reduceLeDiff, Nat.reduceMul, Nat.reduceSub, Nat.reducePow, Int.reduceLT, Int.reduceLE, Int.reduceToNat, Int.reducePow, IntKind.bits, Int.reduceEq, Int.reduceMul, Int.reduceNeg, ne_eq, reduceCtorEq, escT, BEq.rfl, beq_self_eq_true, Int.reduceAdd, Int.reduceSub, Int.reduceMod, Int.reduceDiv, Nat.reduceMod, Nat.reduceDiv, Nat.reduceLT, cond_true, cond_false, gt_iff_lt, ge_iff_le, g0, g1, g2, g6, g7, g8, g10, g11, hj, k1, mx, mn, fx, h64, q1, cl2, cs2, b1, b2, wj, List.length_map, Nat.mul_one, Int.toNat_natCast, Ytimdnnlfkkkpbaa.D45, ty1, ty2, ty3, ty4, ty22, ty29, ty87]
                  exact ih2 (m' - 1) _ _ (by omega) ⟨j + 1, j + 1, by omega, ⟨by simp [Fr.get, g0], by simp [Fr.get, g1], by simp [Fr.get, g2], by simp [Fr.get, g6], by simp [Fr.get, g7], by simp [Fr.get, g8]⟩, by simp [Fr.get], by simp [Fr.get], rfl⟩
              · have p4 : ¬ (c : Int) < p[a].length := by omega
                have hn0 : someN p a c = 0 := by unfold someN; rw [getD_lst hA, if_neg (fun h => hC h.2)]
                have fx := And.intro ga <| And.intro p1 <| And.intro p2 p4
                simp only [lstI] at fx
                by_cases hij : i = j
                · have hv : someP p i j = 68719476736 := by unfold someP; rw [ha, hc, hn0, if_pos hij]; rfl
                  have q1 : ((i : Int) = (j : Int)) = True := eq_true (by omega)
                  rw [hv] at cs2
                  simp (maxSteps := 2000000) only [wk0, wk1, wk2, wk3, keepA, keepT, Fr.keep, frzT, flatT, arrayAtA, ownT, extT, Fr.ev, Fr.put, Fr.get, initFr, buildSliceA, zeros, pkB, pkT, pkF, ownDst, Env.kd, ofConst, isConst, binA, intI, cmpI, shiftI, convertA, buildA, fillA, fillS, splice, AV.cells?, storeA, readAt, fieldAddrA, fieldA, indexA, extractA, unA, builtinA, appendA, lenA, sliceCells, isSliceK, makeInterfaceA, nilCheckA, eqA, AV.one, AV.plain, if_false, if_true, Nat.reduceEqDiff, reduceIte, Nat.reduceAdd, List.replicate, Nat.reduceLeDiff, Nat.reduceMul, Nat.reduceSub, Nat.reducePow, Int.reduceLT, Int.reduceLE, Int.reduceToNat, Int.reducePow, IntKind.bits, Int.reduceEq, Int.reduceMul, Int.reduceNeg, ne_eq, reduceCtorEq, escT, BEq.rfl, beq_self_eq_true, Int.reduceAdd, Int.reduceSub, Int.reduceMod, Int.reduceDiv, Nat.reduceMod, Nat.reduceDiv, Nat.reduceLT, cond_true, cond_false, gt_iff_lt, ge_iff_le, g0, g1, g2, g6, g7, g8, g10, g11, hj, k1, mx, mn, fx, h64, q1, cl2, cs2, b1, b2, wj, List.length_map, Nat.mul_one, Int.toNat_natCast, Ytimdnnlfkkkpbaa.D45, ty1, ty2, ty3, ty4, ty22, ty29, ty87]
                  exact ih2 (m' - 1) _ _ (by omega) ⟨j + 1, j + 1, by omega, ⟨by simp [Fr.get, g0], by simp [Fr.get, g1], by simp [Fr.get, g2], by simp [Fr.get, g6], by simp [Fr.get, g7], by simp [Fr.get, g8]⟩, by simp [Fr.get], by simp [Fr.get], rfl⟩
                · have hv : someP p i j = 0 := by unfold someP; rw [ha, hc, hn0, if_neg hij]
                  have q1 : ((i : Int) = (j : Int)) = False := eq_false (by omega)
                  rw [hv] at cs2
                  simp (maxSteps := 2000000) only [wk0, wk1, wk2, wk3, keepA, keepT, Fr.keep, frzT, flatT, arrayAtA, ownT, extT, Fr.ev, Fr.put, Fr.get, initFr, buildSliceA, zeros, pkB, pkT, pkF, ownDst, Env.kd, ofConst, isConst, binA, intI, cmpI, shiftI, convertA, buildA, fillA, fillS, splice, AV.cells?, storeA, readAt, fieldAddrA, fieldA, indexA, extractA, unA, builtinA, appendA, lenA, sliceCells, isSliceK, makeInterfaceA, nilCheckA, eqA, AV.one, AV.plain, if_false, if_true, Nat.reduceEqDiff, reduceIte, Nat.reduceAdd, List.replicate, Nat.reduceLeDiff, Nat.reduceMul, Nat.reduceSub, Nat.reducePow, Int.reduceLT, Int.reduceLE, Int.reduceToNat, Int.reducePow, IntKind.bits, Int.reduceEq, Int.reduceMul, Int.reduceNeg, ne_eq, reduceCtorEq, escT, BEq.rfl, beq_self_eq_true, Int.reduceAdd, Int.reduceSub, Int.reduceMod, Int.reduceDiv, Nat.reduceMod, Nat.reduceDiv, Nat.reduceLT, cond_true, cond_false, gt_iff_lt, ge_iff_le, g0, g1, g2, g6, g7, g8, g10, g11, hj, k1, mx, mn, fx, h64, q1, cl2, cs2, b1, b2, wj, List.length_map, Nat.mul_one, Int.toNat_natCast, Ytimdnnlfkkkpbaa.D45, ty1, ty2, ty3, ty4, ty22, ty29, ty87]
                  exact ih2 (m' - 1) _ _ (by omega) ⟨j + 1, j + 1, by omega, ⟨by simp [Fr.get, g0], by simp [Fr.get, g1], by simp [Fr.get, g2], by simp [Fr.get, g6], by simp [Fr.get, g7], by simp [Fr.get, g8]⟩, by simp [Fr.get], by simp [Fr.get], rfl⟩
            · have p2 : ¬ (a : Int) < p.length := by omega
              have hn0 : someN p a c = 0 := by unfold someN; rw [if_neg (fun h => hA h.1)]
              have fx := p2
              by_cases hij : i = j
              · have hv : someP p i j = 68719476736 := by unfold someP; rw [ha, hc, hn0, if_pos hij]; rfl
                have q1 : ((i : Int) = (j : Int)) = True := eq_true (by omega)
                rw [hv] at cs2
                simp (maxSteps := 2000000) only [wk0, wk1, wk2, wk3, keepA, keepT, Fr.keep, frzT, flatT, arrayAtA, ownT, extT, Fr.ev, Fr.put, Fr.get, initFr, buildSliceA, zeros, pkB, pkT, pkF, ownDst, Env.kd, ofConst, isConst, binA, intI, cmpI, shiftI, convertA, buildA, fillA, fillS, splice, AV.cells?, storeA, readAt, fieldAddrA, fieldA, indexA, extractA, unA, builtinA, appendA, lenA, sliceCells, isSliceK, makeInterfaceA, nilCheckA, eqA, AV.one, AV.plain, if_false, if_true, Nat.reduceEqDiff, reduceIte, Nat.reduceAdd, List.replicate, Nat.reduceLeDiff, Nat.reduceMul, Nat.reduceSub, Nat.reducePow, Int.reduceLT, Int.reduceLE, Int.reduceToNat, Int.reducePow, IntKind.bits, Int.reduceEq, Int.reduceMul, Int.reduceNeg, ne_eq, reduceCtorEq, escT, BEq.rfl, beq_self_eq_true, Int.reduceAdd, Int.reduceSub, Int.reduceMod, Int.reduceDiv, Nat.reduceMod, Nat.reduceDiv, Nat.reduceLT, cond_true, cond_false, gt_iff_lt, ge_iff_le, g0, g1, g2, g6, g7, g8, g10, g11, hj, k1, mx, mn, fx, h64, q1, cl2, cs2, b1, b2, wj, List.length_map, Nat.mul_one, Int.toNat_natCast, Ytimdnnlfkkkpbaa.D45, ty1, ty2, ty3, ty4, ty22, ty29, ty87]
                exact ih2 (m' - 1) _ _ (by omega) ⟨j + 1, j + 1, by omega, ⟨by simp [Fr.get, g0], by simp [Fr.get, g1], by simp [Fr.get, g2], by simp [Fr.get, g6], by simp [Fr.get, g7], by simp [Fr.get, g8]⟩, by simp [Fr.get], by simp [Fr.get], rfl⟩
              · have hv : someP p i j = 0 := by unfold someP; rw [ha, hc, hn0, if_neg hij]
                have q1 : ((i : Int) = (j : Int)) = False := eq_false (by omega)
                rw [hv] at cs2
                simp (maxSteps := 2000000) only [wk0, wk1, wk2, wk3, keepA, keepT, Fr.keep, frzT, flatT, arrayAtA, ownT, extT, Fr.ev, Fr.put, Fr.get, initFr, buildSliceA, zeros, pkB, pkT, pkF, ownDst, Env.kd, ofConst, isConst, binA, intI, cmpI, shiftI, convertA, buildA, fillA, fillS, splice, AV.cells?, storeA, readAt, fieldAddrA, fieldA, indexA, extractA, unA, builtinA, appendA, lenA, sliceCells, isSliceK, makeInterfaceA, nilCheckA, eqA, AV.one, AV.plain, if_false, if_true, Nat.reduceEqDiff, reduceIte, Nat.reduceAdd, List.replicate, Nat.reduceLeDiff, Nat.reduceMul, Nat.reduceSub, Nat.reducePow, Int.reduceLT, Int.reduceLE, Int.reduceToNat, Int.reducePow, IntKind.bits, Int.reduceEq, Int.reduceMul, Int.reduceNeg, ne_eq, reduceCtorEq, escT, BEq.rfl, beq_self_eq_true, Int.reduceAdd, Int.reduceSub, Int.reduceMod, Int.reduceDiv, Nat.reduceMod, Nat.reduceDiv, Nat.reduceLT, cond_true, cond_false, gt_iff_lt, ge_iff_le, g0, g1, g2, g6, g7, g8, g10, g11, hj, k1, mx, mn, fx, h64, q1, cl2, cs2, b1, b2, wj, List.length_map, Nat.mul_one, Int.toNat_natCast, Ytimdnnlfkkkpbaa.D45, ty1, ty2, ty3, ty4, ty22, ty29, ty87]
                exact ih2 (m' - 1) _ _ (by omega) ⟨j + 1, j + 1, by omega, ⟨by simp [Fr.get, g0], by simp [Fr.get, g1], by simp [Fr.get, g2], by simp [Fr.get, g6], by simp [Fr.get, g7], by simp [Fr.get, g8]⟩, by simp [Fr.get], by simp [Fr.get], rfl⟩
          · obtain rfl : j = 6 := by omega
            simp (maxSteps := 2000000) only [wk0, wk1, wk2, wk3, keepA, keepT, Fr.keep, frzT, flatT, arrayAtA, ownT, extT, Fr.ev, Fr.put, Fr.get, initFr, buildSliceA, zeros, pkB, pkT, pkF, ownDst, Env.kd, ofConst, isConst, binA, intI, cmpI, shiftI, convertA, buildA, fillA, fillS, splice, AV.cells?, storeA, readAt, fieldAddrA, fieldA, indexA, extractA, unA, builtinA, appendA, lenA, sliceCells, isSliceK, makeInterfaceA, nilCheckA, eqA, AV.one, AV.plain, if_false, if_true, Nat.reduceEqDiff, reduceIte, Nat.reduceAdd, List.replicate, Nat.reduceLeDiff, Nat.reduceMul, Nat.reduceSub, Nat.reducePow, Int.reduceLT, Int.reduceLE, Int.reduceToNat, Int.reducePow, IntKind.bits, Int.reduceEq, Int.reduceMul, Int.reduceNeg, ne_eq, reduceCtorEq, escT, BEq.rfl, beq_self_eq_true, Int.reduceAdd, Int.reduceSub, Int.reduceMod, Int.reduceDiv, Nat.reduceMod, Nat.reduceDiv, Nat.reduceLT, cond_true, cond_false, gt_iff_lt, ge_iff_le, g0, g1, g2, g6, g7, g8, g10, g11, hj, Ytimdnnlfkkkpbaa.D45, ty1, ty2, ty3, ty4, ty22, ty29, ty87]
            exact hK' _ _ ⟨⟨g0, g1, g2, g6, g7, g8⟩, ⟨cap2, g10⟩, rfl⟩
        · rintro fr H ⟨⟨g0, g1, g2, g6, g7, g8⟩, ⟨cap2, g10⟩, rfl⟩
          simp (maxSteps := 2000000) only [wk0, wk1, wk2, wk3, keepA, keepT, Fr.keep, frzT, flatT, arrayAtA, ownT, extT, Fr.ev, Fr.put, Fr.get, initFr, buildSliceA, zeros, pkB, pkT, pkF, ownDst, Env.kd, ofConst, isConst, binA, intI, cmpI, shiftI, convertA, buildA, fillA, fillS, splice, AV.cells?, storeA, readAt, fieldAddrA, fieldA, indexA, extractA, unA, builtinA, appendA, lenA, sliceCells, isSliceK, makeInterfaceA, nilCheckA, eqA, AV.one, AV.plain, if_false, if_true, Nat.reduceEqDiff, reduceIte, Nat.reduceAdd, List.replicate, Nat.reduceLeDiff, Nat.reduceMul, Nat.reduceSub, Nat.reducePow, Int.reduceLT, Int.reduceLE, Int.reduceToNat, Int.reducePow, IntKind.bits, Int.reduceEq, Int.reduceMul, Int.reduceNeg, ne_eq, reduceCtorEq, escT, BEq.rfl, beq_self_eq_true, Int.reduceAdd, Int.reduceSub, Int.reduceMod, Int.reduceDiv, Nat.reduceMod, Nat.reduceDiv, Nat.reduceLT, cond_true, cond_false, gt_iff_lt, ge_iff_le, g0, g1, g2, g6, g7, g8, g10, tk, eq_true px, List.length_map, prI_len, Nat.zero_add, Nat.mul_one, Nat.le_refl, Nat.le_add_right, lP, sP, c2, c3, wi, List.length_cons, List.length_append, List.cons_append, List.append_assoc, Ytimdnnlfkkkpbaa.D45, ty1, ty2, ty3, ty4, ty22, ty29, ty87]
          exact ih (m - 1) _ _ (by omega) ⟨i + 1, by omega, ⟨by simp [Fr.get, g0], by simp [Fr.get, g1], by simp [Fr.get, g2], by simp [Fr.get, g6], by simp [Fr.get, g7], by simp [Fr.get]⟩, .inr ⟨by omega, _, _, _, rfl⟩⟩
      · have h' : ¬ (i : Int) < x.length := by omega
        have ht : n = 0 := by rw [← hn]; unfold someX; rw [if_neg h]
        subst ht
        simp (maxSteps := 2000000) only [wk0, wk1, wk2, wk3, keepA, keepT, Fr.keep, frzT, flatT, arrayAtA, ownT, extT, Fr.ev, Fr.put, Fr.get, initFr, buildSliceA, zeros, pkB, pkT, pkF, ownDst, Env.kd, ofConst, isConst, binA, intI, cmpI, shiftI, convertA, buildA, fillA, fillS, splice, AV.cells?, storeA, readAt, fieldAddrA, fieldA, indexA, extractA, unA, builtinA, appendA, lenA, sliceCells, isSliceK, makeInterfaceA, nilCheckA, eqA, AV.one, AV.plain, if_false, if_true, Nat.reduceEqDiff, reduceIte, Nat.reduceAdd, List.replicate, Nat.reduceLeDiff, Nat.reduceMul, Nat.reduceSub, Nat.reducePow, Int.reduceLT, Int.reduceLE, Int.reduceToNat, Int.reducePow, IntKind.bits, Int.reduceEq, Int.reduceMul, Int.reduceNeg, ne_eq, reduceCtorEq, escT, BEq.rfl, beq_self_eq_true, Int.reduceAdd, Int.reduceSub, Int.reduceMod, Int.reduceDiv, Nat.reduceMod, Nat.reduceDiv, Nat.reduceLT, cond_true, cond_false, gt_iff_lt, ge_iff_le, um, ul, g0, g1, g2, g6, g7, g8, hi, p0, h', m6, lX, sX, c1, c3, List.length_cons, List.length_map, List.length_append, List.cons_append, List.append_assoc, Int.toNat_natCast, Nat.mul_one, Ytimdnnlfkkkpbaa.D45, ty1, ty2, ty3, ty4, ty22, ty29, ty87]
        refine loopC_split 2 (fun fr H => (fr.get 0 = u ∧ fr.get 1 = .lst (p.map lstI) p.length ∧ fr.get 2 = .int .i64 68719476736 ∧ fr.get 6 = .ptr S.length 0 0 ∧ fr.get 7 = .ptr (S.length + 1) 0 0 ∧ fr.get 8 = .int .i64 i) ∧ (∃ cap2, fr.get 10 = .sl (S.length + (T.length + 1 + 1 + 1 + 1 + 1)) 6 0 6 cap2 1) ∧
          H = S ++ some ⟨[.nils, .nils], 0⟩ :: some ⟨[.sl (S.length + 2) (i + 1) 0 (i + 1) (i + 1) 1, .sl (S.length + 4) i 0 i capP 1], 0⟩ :: some ⟨(prI (someX x) (i + 1)).map fun y => .int .i64 y, i + 1⟩ :: none :: some ⟨rwA (someP p) i, i⟩ :: (T ++ [ some ⟨(prI (someP p i) 6).map fun y => .int .i64 y, 6⟩ ])) (fun K' hK' => ?_) ?_
        · refine loopC_ind (fun m' fr H => ∃ (j cap2 : Nat), j + m' = 6 ∧ (fr.get 0 = u ∧ fr.get 1 = .lst (p.map lstI) p.length ∧ fr.get 2 = .int .i64 68719476736 ∧ fr.get 6 = .ptr S.length 0 0 ∧ fr.get 7 = .ptr (S.length + 1) 0 0 ∧ fr.get 8 = .int .i64 i) ∧ fr.get 10 = .sl (S.length + (T.length + 1 + 1 + 1 + 1 + 1)) j 0 j cap2 1 ∧ fr.get 11 = .int .i64 (j : Int) ∧
            H = S ++ some ⟨[.nils, .nils], 0⟩ :: some ⟨[.sl (S.length + 2) (i + 1) 0 (i + 1) (i + 1) 1, .sl (S.length + 4) i 0 i capP 1], 0⟩ :: some ⟨(prI (someX x) (i + 1)).map fun y => .int .i64 y, i + 1⟩ :: none :: some ⟨rwA (someP p) i, i⟩ :: (T ++ [ some ⟨(prI (someP p i) j).map fun y => .int .i64 y, j⟩ ])) ?_ (n := 6) ⟨0, 0, by omega, ⟨by simp [Fr.get, g0], by simp [Fr.get, g1], by simp [Fr.get, g2], by simp [Fr.get, g6], by simp [Fr.get, g7], by simp [Fr.get, g8]⟩, by first | rfl | simp [Fr.get], by first | rfl | simp [Fr.get], by first | rfl | simp [prI]⟩
          clear g0 g1 g2 g6 g7 g8
          rintro m' fr H ⟨j, cap2, hjm, ⟨g0, g1, g2, g6, g7, g8⟩, g10, g11, rfl⟩ ih2
          have cl2 := prI_len (someP p i) j
          by_cases hj : (j : Int) < 6
          · have k1 : (0 : Int) ≤ j := by omega
            have wj : IntKind.i64.wrap ((j : Int) + 1) = ((j + 1 : Nat) : Int) := wrapI (by omega)
            have cs2 := prI_app (someP p i) j
            have b1 : (j + 1) * 8 ≤ maxBytes := by unfold maxBytes; omega
            have b2 : j + 1 ≤ 9223372036854775807 := by omega
            have h64 : (68719476736 : Int).tdiv 64 = 1073741824 := by decide
            obtain ⟨a, ha⟩ : ∃ a, max i j = a := ⟨_, rfl⟩
            obtain ⟨c, hc⟩ : ∃ c, min i j = c := ⟨_, rfl⟩
            have mx : max (i : Int) (j : Int) = (a : Int) := by omega
            have mn : min (i : Int) (j : Int) = (c : Int) := by omega
            have hb := someN_bound p a c
            by_cases hA : a < p.length
            · have ga := get_lstL hA
              have p1 : (0 : Int) ≤ (a : Int) := by omega
              have p2 : (a : Int) < p.length := by omega
              by_cases hC : c < p[a].length
              · have gc := get_lstI hC
                have p3 : (0 : Int) ≤ (c : Int) := by omega
                have p4 : (c : Int) < p[a].length := by omega
                have p5 : ¬ (1073741824 : Int) = 0 := by decide
                obtain ⟨n, hn⟩ : ∃ n, (p[a][c]).tmod 1073741824 = n := ⟨_, rfl⟩
                have hn0 : someN p a c = n := by unfold someN; rw [getD_lst hA, if_pos ⟨hA, hC⟩, List.getD_eq_getElem?_getD, List.getElem?_eq_getElem hC]; exact hn
                rw [hn0] at hb
                have fx := And.intro ga <| And.intro p1 <| And.intro p2 <| And.intro gc <| And.intro p3 <| And.intro p4 <| And.intro p5 hn
                simp only [lstI] at fx
                by_cases hij : i = j
                · have hv : someP p i j = (if n < 0 then -n else n) + 68719476736 := by unfold someP; rw [ha, hc, hn0, if_pos hij]
                  have q1 : ((i : Int) = (j : Int)) = True := eq_true (by omega)
                  by_cases hneg : n < 0
                  · rw [if_pos hneg] at hv
                    have w3 : IntKind.i64.wrap (0 - n) = -n := by rw [wrapI (by omega)]; omega
                    have w4 : IntKind.i64.wrap (-n + 68719476736) = someP p i j := by rw [wrapI (by omega)]; omega
                    simp (maxSteps := 2000000) only [wk0, wk1, wk2, wk3, keepA, keepT, Fr.keep, frzT, flatT, arrayAtA, ownT, extT, Fr.ev, Fr.put, Fr.get, initFr, buildSliceA, zeros, pkB, pkT, pkF, ownDst, Env.kd, ofConst, isConst, binA, intI, cmpI, shiftI, convertA, buildA, fillA, fillS, splice, AV.cells?, storeA, readAt, fieldAddrA, fieldA, indexA, extractA, unA, builtinA, appendA, lenA, sliceCells, isSliceK, makeInterfaceA, nilCheckA, eqA, AV.one, AV.plain, if_false, if_true, Nat.reduceEqDiff, reduceIte, Nat.reduceAdd, List.replicate, Nat.reduceLeDiff, Nat.reduceMul, Nat.reduceSub, Nat.reducePow, Int.reduceLT, Int.reduceLE, Int.reduceToNat, Int.reducePow, IntKind.bits, Int.reduceEq, Int.reduceMul, Int.reduceNeg, ne_eq, reduceCtorEq, escT, BEq.rfl, beq_self_eq_true, Int.reduceAdd, Int.reduceSub, Int.reduceMod, Int.reduceDiv, Nat.reduceMod, Nat.reduceDiv, Nat.reduceLT, cond_true, cond_false, gt_iff_lt, ge_iff_le, g0, g1, g2, g6, g7, g8, g10, g11, hj, k1, mx, mn, fx, h64, q1, hneg, w3, w4, cl2, cs2, b1, b2, wj, List.length_map, Nat.mul_one, Int.toNat_natCast, Ytimdnnlfkkkpbaa.D45, ty1, ty2, ty3, ty4, ty22, ty29, ty87]
                    exact ih2 (m' - 1) _ _ (by omega) ⟨j + 1, j + 1, by omega, ⟨by simp [Fr.get, g0], by simp [Fr.get, g1], by simp [Fr.get, g2], by simp [Fr.get, g6], by simp [Fr.get, g7], by simp [Fr.get, g8]⟩, by simp [Fr.get], by simp [Fr.get], rfl⟩
                  · rw [if_neg hneg] at hv
                    have w4 : IntKind.i64.wrap (n + 68719476736) = someP p i j := by rw [wrapI (by omega)]; omega
                    simp (maxSteps := 2000000) only [wk0, wk1, wk2, wk3, keepA, keepT, Fr.keep, frzT, flatT, arrayAtA, ownT, extT, Fr.ev, Fr.put, Fr.get, initFr, buildSliceA, zeros, pkB, pkT, pkF, ownDst, Env.kd, ofConst, isConst, binA, intI, cmpI, shiftI, convertA, buildA, fillA, fillS, splice, AV.cells?, storeA, readAt, fieldAddrA, fieldA, indexA, extractA, unA, builtinA, appendA, lenA, sliceCells, isSliceK, makeInterfaceA, nilCheckA, eqA, AV.one, AV.plain, if_false, if_true, Nat.reduceEqDiff, reduceIte, Nat.reduceAdd, List.replicate, Nat.reduceLeDiff, Nat.reduceMul, Nat.reduceSub, Nat.reducePow, Int.reduceLT, Int.reduceLE, Int.reduceToNat, Int.reducePow, IntKind.bits, Int.reduceEq, Int.reduceMul, Int.reduceNeg, ne_eq, reduceCtorEq, escT, BEq.rfl, beq_self_eq_true, Int.reduceAdd, Int.reduceSub, Int.reduceMod, Int.reduceDiv, Nat.reduceMod, Nat.reduceDiv, Nat.reduceLT, cond_true, cond_false, gt_iff_lt, ge_iff_le, g0, g1, g2, g6, g7, g8, g10, g11, hj, k1, mx, mn, fx, h64, q1, hneg, w4, cl2, cs2, b1, b2, wj, List.length_map, Nat.mul_one, Int.toNat_natCast, Ytimdnnlfkkkpbaa.D45, ty1, ty2, ty3, ty4, ty22, ty29, ty87]
                    exact ih2 (m' - 1) _ _ (by omega) ⟨j + 1, j + 1, by omega, ⟨by simp [Fr.get, g0], by simp [Fr.get, g1], by simp [Fr.get, g2], by simp [Fr.get, g6], by simp [Fr.get, g7], by simp [Fr.get, g8]⟩, by simp [Fr.get], by simp [Fr.get], rfl⟩
                · have hv : someP p i j = n := by unfold someP; rw [ha, hc, hn0, if_neg hij]
                  have q1 : ((i : Int) = (j : Int)) = False := eq_false (by omega)
                  rw [hv] at cs2
                  simp (maxSteps := 2000000) only [wk0, wk1, wk2, wk3, keepA, keepT, Fr.keep, frzT, flatT, arrayAtA, ownT, extT, Fr.ev, Fr.put, Fr.get, initFr, buildSliceA, zeros, pkB, pkT, pkF, ownDst, Env.kd, ofConst, isConst, binA, intI, cmpI, shiftI, convertA, buildA, fillA, fillS, splice, AV.cells?, storeA, readAt, fieldAddrA, fieldA, indexA, extractA, unA, builtinA, appendA, lenA, sliceCells, isSliceK, makeInterfaceA, nilCheckA, eqA, AV.one, AV.plain, if_false, if_true, Nat.reduceEqDiff, reduceIte, Nat.reduceAdd, List.replicate, Nat.reduceLeDiff, Nat.reduceMul, Nat.reduceSub, Nat.reducePow, Int.reduceLT, Int.reduceLE, Int.reduceToNat, Int.reducePow, IntKind.bits, Int.reduceEq, Int.reduceMul, Int.reduceNeg, ne_eq, reduceCtorEq, escT, BEq.rfl, beq_self_eq_true, Int.reduceAdd, Int.reduceSub, Int.reduceMod, Int.reduceDiv, Nat.reduceMod, Nat.reduceDiv, Nat.reduceLT, cond_true, cond_false, gt_iff_lt, ge_iff_le, g0, g1, g2, g6, g7, g8, g10, g11, hj, k1, mx, mn, fx, h64, q1, cl2, cs2, b1, b2, wj, List.length_map, Nat.mul_one, Int.toNat_natCast, Ytimdnnlfkkkpbaa.D45, ty1, ty2, ty3, ty4, ty22, ty29, ty87]
                  exact ih2 (m' - 1) _ _ (by omega) ⟨j + 1, j + 1, by omega, ⟨by simp [Fr.get, g0], by simp [Fr.get, g1], by simp [Fr.get, g2], by simp [Fr.get, g6], by simp [Fr.get, g7], by simp [Fr.get, g8]⟩, by simp [Fr.get], by simp [Fr.get], rfl⟩
              · have p4 : ¬ (c : Int) < p[a].length := by omega
                have hn0 : someN p a c = 0 := by unfold someN; rw [getD_lst hA, if_neg (fun h => hC h.2)]
                have fx := And.intro ga <| And.intro p1 <| And.intro p2 p4
                simp only [lstI] at fx
                by_cases hij : i = j
                · have hv : someP p i j = 68719476736 := by unfold someP; rw [ha, hc, hn0, if_pos hij]; rfl
                  have q1 : ((i : Int) = (j : Int)) = True := eq_true (by omega)
                  rw [hv] at cs2
                  simp (maxSteps := 2000000) only [wk0, wk1, wk2, wk3, keepA, keepT, Fr.keep, frzT, flatT, arrayAtA, ownT, extT, Fr.ev, Fr.put, Fr.get, initFr, buildSliceA, zeros, pkB, pkT, pkF, ownDst, Env.kd, ofConst, isConst, binA, intI, cmpI, shiftI, convertA, buildA, fillA, fillS, splice, AV.cells?, storeA, readAt, fieldAddrA, fieldA, indexA, extractA, unA, builtinA, appendA, lenA, sliceCells, isSliceK, makeInterfaceA, nilCheckA, eqA, AV.one, AV.plain, if_false, if_true, Nat.reduceEqDiff, reduceIte, Nat.reduceAdd, List.replicate, Nat.reduceLeDiff, Nat.reduceMul, Nat.reduceSub, Nat.reducePow, Int.reduceLT, Int.reduceLE, Int.reduceToNat, Int.reducePow, IntKind.bits, Int.reduceEq, Int.reduceMul, Int.reduceNeg, ne_eq, reduceCtorEq, escT, BEq.rfl, beq_self_eq_true, Int.reduceAdd, Int.reduceSub, Int.reduceMod, Int.reduceDiv, Nat.reduceMod, Nat.reduceDiv, Nat.reduceLT, cond_true, cond_false, gt_iff_lt, ge_iff_le, g0, g1, g2, g6, g7, g8, g10, g11, hj, k1, mx, mn, fx, h64, q1, cl2, cs2, b1, b2, wj, List.length_map, Nat.mul_one, Int.toNat_natCast, Ytimdnnlfkkkpbaa.D45, ty1, ty2, ty3, ty4, ty22, ty29, ty87]
                  exact ih2 (m' - 1) _ _ (by omega) ⟨j + 1, j + 1, by omega, ⟨by simp [Fr.get, g0], by simp [Fr.get, g1], by simp [Fr.get, g2], by simp [Fr.get, g6], by simp [Fr.get, g7], by simp [Fr.get, g8]⟩, by simp [Fr.get], by simp [Fr.get], rfl⟩
                · have hv : someP p i j = 0 := by unfold someP; rw [ha, hc, hn0, if_neg hij]
                  have q1 : ((i : Int) = (j : Int)) = False := eq_false (by omega)
                  rw [hv] at cs2
                  simp (maxSteps := 2000000) only [wk0, wk1, wk2, wk3, keepA, keepT, Fr.keep, frzT, flatT, arrayAtA, ownT, extT, Fr.ev, Fr.put, Fr.get, initFr, buildSliceA, zeros, pkB, pkT, pkF, ownDst, Env.kd, ofConst, isConst, binA, intI, cmpI, shiftI, convertA, buildA, fillA, fillS, splice, AV.cells?, storeA, readAt, fieldAddrA, fieldA, indexA, extractA, unA, builtinA, appendA, lenA, sliceCells, isSliceK, makeInterfaceA, nilCheckA, eqA, AV.one, AV.plain, if_false, if_true, Nat.reduceEqDiff, reduceIte, Nat.reduceAdd, List.replicate, Nat.reduceLeDiff, Nat.reduceMul, Nat.reduceSub, Nat.reducePow, Int.reduceLT, Int.reduceLE, Int.reduceToNat, Int.reducePow, IntKind.bits, Int.reduceEq, Int.reduceMul, Int.reduceNeg, ne_eq, reduceCtorEq, escT, BEq.rfl, beq_self_eq_true, Int.reduceAdd, Int.reduceSub, Int.reduceMod, Int.reduceDiv, Nat.reduceMod, Nat.reduceDiv, Nat.reduceLT, cond_true, cond_false, gt_iff_lt, ge_iff_le, g0, g1, g2, g6, g7, g8, g10, g11, hj, k1, mx, mn, fx, h64, q1, cl2, cs2, b1, b2, wj, List.length_map, Nat.mul_one, Int.toNat_natCast, Ytimdnnlfkkkpbaa.D45, ty1, ty2, ty3, ty4, ty22, ty29, ty87]
                  exact ih2 (m' - 1) _ _ (by omega) ⟨j + 1, j + 1, by omega, ⟨by simp [Fr.get, g0], by simp [Fr.get, g1], by simp [Fr.get, g2], by simp [Fr.get, g6], by simp [Fr.get, g7], by simp [Fr.get, g8]⟩, by simp [Fr.get], by simp [Fr.get], rfl⟩
            · have p2 : ¬ (a : Int) < p.length := by omega
              have hn0 : someN p a c = 0 := by unfold someN; rw [if_neg (fun h => hA h.1)]
              have fx := p2
              by_cases hij : i = j
              · have hv : someP p i j = 68719476736 := by unfold someP; rw [ha, hc, hn0, if_pos hij]; rfl
                have q1 : ((i : Int) = (j : Int)) = True := eq_true (by omega)
                rw [hv] at cs2
                simp (maxSteps := 2000000) only [wk0, wk1, wk2, wk3, keepA, keepT, Fr.keep, frzT, flatT, arrayAtA, ownT, extT, Fr.ev, Fr.put, Fr.get, initFr, buildSliceA, zeros, pkB, pkT, pkF, ownDst, Env.kd, ofConst, isConst, binA, intI, cmpI, shiftI, convertA, buildA, fillA, fillS, splice, AV.cells?, storeA, readAt, fieldAddrA, fieldA, indexA, extractA, unA, builtinA, appendA, lenA, sliceCells, isSliceK, makeInterfaceA, nilCheckA, eqA, AV.one, AV.plain, if_false, if_true, Nat.reduceEqDiff, reduceIte, Nat.reduceAdd, List.replicate, Nat.reduceLeDiff, Nat.reduceMul, Nat.reduceSub, Nat.reducePow, Int.reduceLT, Int.reduceLE, Int.reduceToNat, Int.reducePow, IntKind.bits, Int.reduceEq, Int.reduceMul, Int.reduceNeg, ne_eq, reduceCtorEq, escT, BEq.rfl, beq_self_eq_true, Int.reduceAdd, Int.reduceSub, Int.reduceMod, Int.reduceDiv, Nat.reduceMod, Nat.reduceDiv, Nat.reduceLT, cond_true, cond_false, gt_iff_lt, ge_iff_le, g0, g1, g2, g6, g7, g8, g10, g11, hj, k1, mx, mn, fx, h64, q1, cl2, cs2, b1, b2, wj, List.length_map, Nat.mul_one, Int.toNat_natCast, Ytimdnnlfkkkpbaa.D45, ty1, ty2, ty3, ty4, ty22, ty29, ty87]
                exact ih2 (m' - 1) _ _ (by omega) ⟨j + 1, j + 1, by omega, ⟨by simp [Fr.get, g0], by simp [Fr.get, g1], by simp [Fr.get, g2], by simp [Fr.get, g6], by simp [Fr.get, g7], by simp [Fr.get, g8]⟩, by simp [Fr.get], by simp [Fr.get], rfl⟩
              · have hv : someP p i j = 0 := by unfold someP; rw [ha, hc, hn0, if_neg hij]
                have q1 : ((i : Int) = (j : Int)) = False := eq_false (by omega)
                rw [hv] at cs2
                simp (maxSteps := 2000000) only [wk0, wk1, wk2, wk3, keepA, keepT, Fr.keep, frzT, flatT, arrayAtA, ownT, extT, Fr.ev, Fr.put, Fr.get, initFr, buildSliceA, zeros, pkB, pkT, pkF, ownDst, Env.kd, ofConst, isConst, binA, intI, cmpI, shiftI, convertA, buildA, fillA, fillS, splice, AV.cells?, storeA, readAt, fieldAddrA, fieldA, indexA, extractA, unA, builtinA, appendA, lenA, sliceCells, isSliceK, makeInterfaceA, nilCheckA, eqA, AV.one, AV.plain, if_false, if_true, Nat.reduceEqDiff, reduceIte, Nat.reduceAdd, List.replicate, Nat.reduceLeDiff, Nat.reduceMul, Nat.reduceSub, Nat.reducePow, Int.reduceLT, Int.reduceLE, Int.reduceToNat, Int.reducePow, IntKind.bits, Int.reduceEq, Int.reduceMul, Int.reduceNeg, ne_eq, reduceCtorEq, escT, BEq.rfl, beq_self_eq_true, Int.reduceAdd, Int.reduceSub, Int.reduceMod, Int.reduceDiv, Nat.reduceMod, Nat.reduceDiv, Nat.reduceLT, cond_true, cond_false, gt_iff_lt, ge_iff_le, g0, g1, g2, g6, g7, g8, g10, g11, hj, k1, mx, mn, fx, h64, q1, cl2, cs2, b1, b2, wj, List.length_map, Nat.mul_one, Int.toNat_natCast, Ytimdnnlfkkkpbaa.D45, ty1, ty2, ty3, ty4, ty22, ty29, ty87]
                exact ih2 (m' - 1) _ _ (by omega) ⟨j + 1, j + 1, by omega, ⟨by simp [Fr.get, g0], by simp [Fr.get, g1], by simp [Fr.get, g2], by simp [Fr.get, g6], by simp [Fr.get, g7], by simp [Fr.get, g8]⟩, by simp [Fr.get], by simp [Fr.get], rfl⟩
          · obtain rfl : j = 6 := by omega
            simp (maxSteps := 2000000) only [wk0, wk1, wk2, wk3, keepA, keepT, Fr.keep, frzT, flatT, arrayAtA, ownT, extT, Fr.ev, Fr.put, Fr.get, initFr, buildSliceA, zeros, pkB, pkT, pkF, ownDst, Env.kd, ofConst, isConst, binA, intI, cmpI, shiftI, convertA, buildA, fillA, fillS, splice, AV.cells?, storeA, readAt, fieldAddrA, fieldA, indexA, extractA, unA, builtinA, appendA, lenA, sliceCells, isSliceK, makeInterfaceA, nilCheckA, eqA, AV.one, AV.plain, if_false, if_true, Nat.reduceEqDiff, reduceIte, Nat.reduceAdd, List.replicate, Nat.reduceLeDiff, Nat.reduceMul, Nat.reduceSub, Nat.reducePow, Int.reduceLT, Int.reduceLE, Int.reduceToNat, Int.reducePow, IntKind.bits, Int.reduceEq, Int.reduceMul, Int.reduceNeg, ne_eq, reduceCtorEq, escT, BEq.rfl, beq_self_eq_true, Int.reduceAdd, Int.reduceSub, Int.reduceMod, Int.reduceDiv, Nat.reduceMod, Nat.reduceDiv, Nat.reduceLT, cond_true, cond_false, gt_iff_lt, ge_iff_le, g0, g1, g2, g6, g7, g8, g10, g11, hj, Ytimdnnlfkkkpbaa.D45, ty1, ty2, ty3, ty4, ty22, ty29, ty87]
            exact hK' _ _ ⟨⟨g0, g1, g2, g6, g7, g8⟩, ⟨cap2, g10⟩, rfl⟩
        · rintro fr H ⟨⟨g0, g1, g2, g6, g7, g8⟩, ⟨cap2, g10⟩, rfl⟩
          simp (maxSteps := 2000000) only [wk0, wk1, wk2, wk3, keepA, keepT, Fr.keep, frzT, flatT, arrayAtA, ownT, extT, Fr.ev, Fr.put, Fr.get, initFr, buildSliceA, zeros, pkB, pkT, pkF, ownDst, Env.kd, ofConst, isConst, binA, intI, cmpI, shiftI, convertA, buildA, fillA, fillS, splice, AV.cells?, storeA, readAt, fieldAddrA, fieldA, indexA, extractA, unA, builtinA, appendA, lenA, sliceCells, isSliceK, makeInterfaceA, nilCheckA, eqA, AV.one, AV.plain, if_false, if_true, Nat.reduceEqDiff, reduceIte, Nat.reduceAdd, List.replicate, Nat.reduceLeDiff, Nat.reduceMul, Nat.reduceSub, Nat.reducePow, Int.reduceLT, Int.reduceLE, Int.reduceToNat, Int.reducePow, IntKind.bits, Int.reduceEq, Int.reduceMul, Int.reduceNeg, ne_eq, reduceCtorEq, escT, BEq.rfl, beq_self_eq_true, Int.reduceAdd, Int.reduceSub, Int.reduceMod, Int.reduceDiv, Nat.reduceMod, Nat.reduceDiv, Nat.reduceLT, cond_true, cond_false, gt_iff_lt, ge_iff_le, g0, g1, g2, g6, g7, g8, g10, tk, eq_true px, List.length_map, prI_len, Nat.zero_add, Nat.mul_one, Nat.le_refl, Nat.le_add_right, lP, sP, c2, c3, wi, List.length_cons, List.length_append, List.cons_append, List.append_assoc, Ytimdnnlfkkkpbaa.D45, ty1, ty2, ty3, ty4, ty22, ty29, ty87]
          exact ih (m - 1) _ _ (by omega) ⟨i + 1, by omega, ⟨by simp [Fr.get, g0], by simp [Fr.get, g1], by simp [Fr.get, g2], by simp [Fr.get, g6], by simp [Fr.get, g7], by simp [Fr.get]⟩, .inr ⟨by omega, _, _, _, rfl⟩⟩
    · obtain rfl : i = 6 := by omega
      simp (maxSteps := 2000000) only [wk0, wk1, wk2, wk3, keepA, keepT, Fr.keep, frzT, flatT, arrayAtA, ownT, extT, Fr.ev, Fr.put, Fr.get, initFr, buildSliceA, zeros, pkB, pkT, pkF, ownDst, Env.kd, ofConst, isConst, binA, intI, cmpI, shiftI, convertA, buildA, fillA, fillS, splice, AV.cells?, storeA, readAt, fieldAddrA, fieldA, indexA, extractA, unA, builtinA, appendA, lenA, sliceCells, isSliceK, makeInterfaceA, nilCheckA, eqA, AV.one, AV.plain, if_false, if_true, Nat.reduceEqDiff, reduceIte, Nat.reduceAdd, List.replicate, Nat.reduceLeDiff, Nat.reduceMul, Nat.reduceSub, Nat.reducePow, Int.reduceLT, Int.reduceLE, Int.reduceToNat, Int.reducePow, IntKind.bits, Int.reduceEq, Int.reduceMul, Int.reduceNeg, ne_eq, reduceCtorEq, escT, BEq.rfl, beq_self_eq_true, Int.reduceAdd, Int.reduceSub, Int.reduceMod, Int.reduceDiv, Nat.reduceMod, Nat.reduceDiv, Nat.reduceLT, cond_true, cond_false, gt_iff_lt, ge_iff_le, g0, g1, g2, g6, g7, g8, hi, Ytimdnnlfkkkpbaa.D45, ty1, ty2, ty3, ty4, ty22, ty29, ty87]
      refine retB_one ?_ (by simp)
      have hX := fin_sl (base := S.length) (id := S.length + 2) (ver := 6) (cap := capX) (u := 6) (L := prI (someX x) 6) (H := S ++ some ⟨[.sl (S.length + 2) 6 0 6 capX 1, .sl (S.length + 4) 6 0 6 capP 1], 0⟩ :: some ⟨[.sl (S.length + 2) 6 0 6 capX 1, .sl (S.length + 4) 6 0 6 capP 1], 0⟩ :: some ⟨(prI (someX x) 6).map fun y => .int .i64 y, 6⟩ :: none :: some ⟨rwA (someP p) 6, 6⟩ :: T) (by omega) (by rw [blkAt_app]; rfl)
      have hP := Fin1.sl (base := S.length) (H := S ++ some ⟨[.sl (S.length + 2) 6 0 6 capX 1, .sl (S.length + 4) 6 0 6 capP 1], 0⟩ :: some ⟨[.sl (S.length + 2) 6 0 6 capX 1, .sl (S.length + 4) 6 0 6 capP 1], 0⟩ :: some ⟨(prI (someX x) 6).map fun y => .int .i64 y, 6⟩ :: none :: some ⟨rwA (someP p) 6, 6⟩ :: T) (S.length + 4) 6 0 6 capP 1 ⟨rwA (someP p) 6, 6⟩ (by omega) (by rw [blkAt_app]; rfl) (rwA_nmd _ 0 6) (by simp [rwA_len])
      exact .agg _ _ (.cons _ _ _ _ hX (.cons _ _ _ _ hP .nil))
end Go.Proofs.Ytimdnnlfkkkpbaa
