/- The document's answer (chapter 9): what is left of a vector. -/
import Derived.Test.YtdknnaalfoongaaGreatDoorF3
import Derived.Test.YtdknnaalfoongaaGreatDoorAs
set_option linter.unusedSimpArgs false
set_option linter.unusedVariables false
set_option maxRecDepth 100000
set_option maxHeartbeats 8000000
namespace Go.Proofs.YtdknnaalfoongaaGreatDoor
noncomputable def c64 : Code := Tryz.f64.body.getD .skip
theorem b64 : Tryz.f64.body = some c64 := rfl
theorem d64 : fnOk Tryz.f64 c64 = true := by kernel_rfl
def D64 : Nat → List Tag := fun _ => []
theorem e64 : drawsOk D64 c64 = true := by kernel_rfl
theorem ref9Down_ok (n : Nat) (G l : List Int) (S : Heap) (hn : 1 ≤ n ∧ n ≤ 6) (hG : G.length = 42) (hin : ∀ x ∈ G, inI x) (hl : l.length = n) (hlin : ∀ x ∈ l, inI x) :
    Call theE 64 [.agg [mtx n n (gF n G), lstI (gD G n)], lstI l] S (.tup [lstI (dnY n G l n), .bool (dnT n G l false n)]) S := by
  have gdl := gD_len G n
  simp only [mtx, lstI, gdl, hl]
  refine Call.ofC Tryz.func64 YtdknnaalfoongaaGreatDoor.b64 YtdknnaalfoongaaGreatDoor.d64 YtdknnaalfoongaaGreatDoor.e64 (by simp [Tryz.f64]) ?_
  dsimp only [YtdknnaalfoongaaGreatDoor.c64, Tryz.f64, Option.getD_some]
  simp (maxSteps := 2000000) only [wk0, wk1, wk2, wk3, wk4, wk5, wk6, Fr.ev, Fr.put, Fr.get, storeA, List.replicate, IntKind.bits, sevalprocAttr, YtdknnaalfoongaaGreatDoor.D64, ty1, ty2, ty3, ty4, ty22, ty23, ty54]
  refine loopC_ind (fun m fr H => ∃ i c : Nat, i + m = n ∧ fr.get 1 = .lst (l.map fun x => .int .i64 x) n ∧ fr.get 2 = .ptr S.length 0 0 ∧ fr.get 6 = .sl (S.length + 1) i 0 i c 1 ∧ fr.get 7 = .bool (dnT n G l false i) ∧ fr.get 8 = .int .i64 i ∧
    H = S ++ [some ⟨[.lst (rowsA n n (gF n G)) n, .lst ((gD G n).map fun x => .int .i64 x) n], 0⟩, some ⟨(dnY n G l i).map fun x => .int .i64 x, i⟩]) ?_ (n := n) ⟨0, 0, by omega, rfl, rfl, rfl, rfl, rfl, rfl⟩
  rintro m fr H ⟨i, c, him, g1, g2, g6, g7, g8, rfl⟩ ih
  have yl := dnY_len n G l i
  by_cases hi : (i : Int) < n
  · have hin' : i < n := by omega
    have hin1 : i * n + n ≤ 36 := by
      have := Nat.mul_le_mul (show i + 1 ≤ 6 by omega) hn.2
      rw [Nat.add_mul, Nat.one_mul] at this; exact this
    have wi : IntKind.i64.wrap ((i : Int) + 1) = ((i + 1 : Nat) : Int) := wrapI (by omega)
    have i0 : (0 : Int) ≤ i := by omega
    have il : (i : Int) ≤ n := by omega
    have iln : i ≤ n := by omega
    have i2 : i + 1 ≤ n := by omega
    have ga := rowsA_get (c := n) (f := gF n G) hin'
    have rl := rowsA_len n n (gF n G)
    have gx := gm9_at l i (by omega)
    have rll : ((rowF (gF n G) n i).map fun x => AV.int .i64 x).length = n := by rw [List.length_map, rowF_len]
    have tk : List.take i ((rowF (gF n G) n i).map fun x => AV.int .i64 x) = (gC n G i i).map fun x => .int .i64 x := by
      rw [← List.map_take]
      congr 1
      unfold rowF gC
      rw [← List.map_take, List.take_range, Nat.min_eq_left iln]
    have cl := gC_len n G i i
    have e2 : gC n G i i = cutL G (i * n) i := gC_cut (by omega)
    have sw := fun x L => SlI.sl (S := S ++ x :: some ⟨(dnY n G l i).map fun x => .int .i64 x, i⟩ :: L) (id := S.length + 1) (ver := i) (off := 0) (cap := c) (l := dnY n G l i) (b := ⟨(dnY n G l i).map fun x => .int .i64 x, i⟩) (by rw [blkAt_app]; simp [blkAt]) (by rw [List.drop_zero, List.take_of_length_le (by simp)])
    rw [yl] at sw
    have d2 := fun S => ref9Less_ok (l.getD i 0) (bndI (dnS n G i (dnY n G l i))) S (getD_in hlin i) (bnd_in _)
    have ap : (dnY n G l i).map (fun x => AV.int .i64 x) ++ [.int .i64 (bndI (l.getD i 0 + -bndI (dnS n G i (dnY n G l i))))] = (dnY n G l (i + 1)).map fun x => .int .i64 x := by simp [dnY]
    have fT : ((dnT n G l false i || ovrB (dnS n G i (dnY n G l i))) || ovrB (l.getD i 0 + -bndI (dnS n G i (dnY n G l i)))) = dnT n G l false (i + 1) := rfl
    have a1 : (i + 1) * 8 ≤ maxBytes := by unfold maxBytes; omega
    have a2 : i + 1 ≤ 9223372036854775807 := by omega
    by_cases h0 : i = 0
    · have h0i : ((0 : Int) = (i : Int)) = True := eq_true (by omega)
      have d1 := fun x L => ref9Dot_ok _ _ (gC n G i i) (dnY n G l i) 30 (S ++ x :: some ⟨(dnY n G l i).map fun x => .int .i64 x, i⟩ :: L) (show SlI _ (.lst [] 0) (gC n G i i) by subst h0; exact SlI.lst []) (sw x L) (by omega) (by rw [cl, yl]) (by rw [cl]; omega) (gC_in hin) (dnY_in _ _ _ _)
      rw [e2] at d1
      change ∀ x L, Call theE _ [_, _, .int .i64 30] _ (.tup [.int .i64 (bndI (dnS n G i (dnY n G l i))), .bool (ovrB (dnS n G i (dnY n G l i)))]) _ at d1
      generalize ovrB (dnS n G i (dnY n G l i)) = o1 at *
      generalize ovrB (l.getD i 0 + -bndI (dnS n G i (dnY n G l i))) = o2 at *
      iterate 3
        simp (maxSteps := 2000000) only [wk0, wk1, wk2, wk3, wk4, wk5, wk6, Fr.ev, Fr.put, Fr.get, storeA, List.replicate, IntKind.bits, sevalprocAttr, gor, g1, g2, g6, g7, g8, hi, wi, i0, il, i2, iln, ga, rl, rll, gx, hl, h0i, yl, ap, a1, a2, sa_lst, bd_none, bd_some, bv_int, Int.le_refl, Int.toNat_natCast, Nat.mul_one, List.length_map, List.drop_zero, Nat.sub_zero, YtdknnaalfoongaaGreatDoor.D64, ty1, ty2, ty3, ty4, ty22, ty23, ty54]
        try first
          | refine callThen_of (d1 _ _) ?_
          | refine callThen_of (d2 _) ?_
      exact ih (m - 1) _ _ (by omega) ⟨i + 1, i + 1, by omega, by simp [Fr.get, g1], by simp [Fr.get, g2], by simp [Fr.get], by rw [← fT]; simp [Fr.get], by simp [Fr.get], rfl⟩
    · have h0i : ((0 : Int) = (i : Int)) = False := eq_false (by omega)
      have d1 := fun x L => ref9Dot_ok _ _ (gC n G i i) (dnY n G l i) 30 (S ++ x :: some ⟨(dnY n G l i).map fun x => .int .i64 x, i⟩ :: L) (SlI.lst (gC n G i i)) (sw x L) (by omega) (by rw [cl, yl]) (by rw [cl]; omega) (gC_in hin) (dnY_in _ _ _ _)
      rw [cl] at d1
      have d1' : ∀ x L, Call theE 65 [.lst ((gC n G i i).map fun x => .int .i64 x) i, .sl (S.length + 1) i 0 i c 1, .int .i64 30] (S ++ x :: some ⟨(dnY n G l i).map fun x => .int .i64 x, i⟩ :: L) (.tup [.int .i64 (bndI (dnS n G i (dnY n G l i))), .bool (ovrB (dnS n G i (dnY n G l i)))]) (S ++ x :: some ⟨(dnY n G l i).map fun x => .int .i64 x, i⟩ :: L) := fun x L => by
        have := d1 x L
        unfold dnS
        rw [← e2]
        exact this
      generalize ovrB (dnS n G i (dnY n G l i)) = o1 at *
      generalize ovrB (l.getD i 0 + -bndI (dnS n G i (dnY n G l i))) = o2 at *
      iterate 3
        simp (maxSteps := 2000000) only [wk0, wk1, wk2, wk3, wk4, wk5, wk6, Fr.ev, Fr.put, Fr.get, storeA, List.replicate, IntKind.bits, sevalprocAttr, gor, g1, g2, g6, g7, g8, hi, wi, i0, il, i2, iln, ga, rl, rll, gx, hl, h0i, yl, ap, a1, a2, tk, sa_lst, bd_none, bd_some, bv_int, Int.le_refl, Int.toNat_natCast, Nat.mul_one, List.length_map, List.drop_zero, Nat.sub_zero, YtdknnaalfoongaaGreatDoor.D64, ty1, ty2, ty3, ty4, ty22, ty23, ty54]
        try first
          | refine callThen_of (d1' _ _) ?_
          | refine callThen_of (d2 _) ?_
      exact ih (m - 1) _ _ (by omega) ⟨i + 1, i + 1, by omega, by simp [Fr.get, g1], by simp [Fr.get, g2], by simp [Fr.get], by rw [← fT]; simp [Fr.get], by simp [Fr.get], rfl⟩
  · obtain rfl : i = n := by omega
    simp (maxSteps := 2000000) only [wk0, wk1, wk2, wk3, wk4, wk5, wk6, Fr.ev, Fr.put, Fr.get, storeA, List.replicate, IntKind.bits, sevalprocAttr, g1, g2, g6, g7, g8, hi, YtdknnaalfoongaaGreatDoor.D64, ty1, ty2, ty3, ty4, ty22, ty23, ty54]
    have h1 := fin_sl (base := S.length) (id := S.length + 1) (ver := i) (cap := c) (u := i) (L := dnY i G l i) (H := S ++ [some ⟨[.lst (rowsA i i (gF i G)) i, .lst ((gD G i).map fun x => .int .i64 x) i], 0⟩, some ⟨(dnY i G l i).map fun x => .int .i64 x, i⟩]) (by omega) (by rw [blkAt_app]; simp [blkAt])
    rw [yl] at h1
    refine ⟨[lstI (dnY i G l i), .bool (dnT i G l false i)], .cons _ _ _ _ h1 (.cons _ _ _ _ (.same _ (.bool _)) .nil), ?_, by simp⟩
    simp [packA, lstI, yl]
end Go.Proofs.YtdknnaalfoongaaGreatDoor

/- The document's answer (chapter 9): how far a vector is from nought. -/
set_option linter.unusedSimpArgs false
set_option linter.unusedVariables false
set_option maxRecDepth 100000
set_option maxHeartbeats 8000000
namespace Go.Proofs.YtdknnaalfoongaaGreatDoor
noncomputable def c33 : Code := Tryz.f33.body.getD .skip
theorem b33 : Tryz.f33.body = some c33 := rfl
theorem d33 : fnOk Tryz.f33 c33 = true := by kernel_rfl
def D33 : Nat → List Tag
  | 6 => [.pure, .pure, .pure, .pure, .quiet, .pure, .pure, .pure, .pure, .quiet, .seq, .pure, .pure, .pure, .pure, .pure]
  | _ => []
theorem e33 : drawsOk D33 c33 = true := by kernel_rfl
theorem ref9Far_ok (n : Nat) (G l : List Int) (S : Heap) (hn : 1 ≤ n ∧ n ≤ 6) (hG : G.length = 42) (hin : ∀ x ∈ G, inI x) (hf : FineF n G) (hl : l.length = n) (hlin : ∀ x ∈ l, inI x) :
    Call theE 33 [.agg [mtx n n (gF n G), lstI (gD G n)], lstI l] S (.tup [.int .i64 (faS G (dnY n G l n) n), .bool (faT G (dnY n G l n) (dnT n G l false n) n)]) S := by
  have gdl := gD_len G n
  have dn := fun S => ref9Down_ok n G l S hn hG hin hl hlin
  have yl := dnY_len n G l n
  have yin := dnY_in n G l n
  simp only [mtx, lstI, gdl, hl, yl] at dn ⊢
  generalize dnY n G l n = Y at *
  generalize dnT n G l false n = T at *
  refine Call.ofC Tryz.func33 YtdknnaalfoongaaGreatDoor.b33 YtdknnaalfoongaaGreatDoor.d33 YtdknnaalfoongaaGreatDoor.e33 (by simp [Tryz.f33]) ?_
  dsimp only [YtdknnaalfoongaaGreatDoor.c33, Tryz.f33, Option.getD_some]
  iterate 2
    simp (maxSteps := 2000000) only [wk0, wk1, wk2, wk3, wk4, wk5, wk6, Fr.ev, Fr.put, Fr.get, storeA, List.replicate, IntKind.bits, sevalprocAttr, YtdknnaalfoongaaGreatDoor.D33, ty1, ty2, ty3, ty4, ty22, ty54, ty115]
    try first
      | refine callThen_of (dn _) ?_
  refine loopC_ind (fun m fr H => ∃ i : Nat, i + m = n ∧ fr.get 2 = .ptr S.length 0 0 ∧ fr.get 6 = .lst (Y.map fun x => .int .i64 x) n ∧ fr.get 7 = .bool (faT G Y T i) ∧ fr.get 8 = .int .i64 (faS G Y i) ∧ fr.get 9 = .int .i64 i ∧
    H = S ++ [some ⟨[.lst (rowsA n n (gF n G)) n, .lst ((gD G n).map fun x => .int .i64 x) n], 0⟩]) ?_ (n := n) ⟨0, by omega, rfl, rfl, rfl, rfl, rfl, rfl⟩
  rintro m fr H ⟨i, him, g2, g6, g7, g8, g9, rfl⟩ ih
  by_cases hi : (i : Int) < n
  · have hin' : i < n := by omega
    have wi : IntKind.i64.wrap ((i : Int) + 1) = ((i + 1 : Nat) : Int) := wrapI (by omega)
    have i0 : (0 : Int) ≤ i := by omega
    have i2 : i + 1 ≤ n := by omega
    have i3 : (i : Int) ≤ ((i + 1 : Nat) : Int) := by omega
    have i4 : ((i + 1 : Nat) : Int) ≤ n := by omega
    have i5 : ((i : Int) = ((i + 1 : Nat) : Int)) = False := eq_false (by omega)
    have i6 : i + 1 - i = 1 := by omega
    have gy : List.take 1 (List.drop i (Y.map fun x => AV.int .i64 x)) = [.int .i64 (Y.getD i 0)] := by
      rw [← List.map_drop, ← List.map_take, List.take_one]
      rw [List.head?_drop, List.getD_eq_getElem?_getD, List.getElem?_eq_getElem (by omega)]
      rfl
    have ymln : (Y.map fun x => AV.int .i64 x).length = n := by rw [List.length_map, yl]
    have gd : ((gD G n).map fun x => AV.int .i64 x)[i]? = some (.int .i64 (G.getD (36 + i) 0)) := by
      rw [List.getElem?_map, gD_get hin']; rfl
    have gdm : ((gD G n).map fun x => AV.int .i64 x).length = n := by rw [List.length_map, gdl]
    have dp := okD_pos hf hin' hn.2
    have c1 := fun S => ref9Dot_ok _ _ [Y.getD i 0] [Y.getD i 0] 20 S (SlI.lst _) (SlI.lst _) (by omega) rfl (by simp) (by simpa using getD_in yin i) (by simpa using getD_in yin i)
    simp only [show ∀ a b : Int, dotZ [a] [b] = a * b from fun a b => by simp [dotZ], List.map_cons, List.map_nil, List.length_cons, List.length_nil, Nat.zero_add] at c1
    change ∀ S, Call theE _ [_, _, .int .i64 20] S _ S at c1
    have c2 := fun S => refDiv_ok (bndI (rnd (Y.getD i 0 * Y.getD i 0) (2 ^ 20))) (G.getD (36 + i) 0) 20 S (bnd_in _) (getD_in hin _) (by omega) (by omega) (faP G Y i) rfl
    change ∀ S, Call theE _ [_, _, .int .i64 20] S _ S at c2
    have c3 := fun S => decOf_ok (faS G Y i) S (faS_in G Y i)
    have c4 := fun S => decOf_ok (bndI (faP G Y i)) S (bnd_in _)
    have la : lenD (faS G Y i).natAbs ≤ 20 := (lenD_le _ _).2 (by have := faS_in G Y i; unfold inI at this; omega)
    have lb : lenD (bndI (faP G Y i)).natAbs ≤ 20 := (lenD_le _ _).2 (by have := bnd_in (faP G Y i); unfold inI at this; omega)
    have c5 := fun S => decAdd_ok (faS G Y i) (bndI (faP G Y i)) S (by omega) (by omega)
    have l1 := lenD_mono (show (faS G Y i + bndI (faP G Y i)).natAbs ≤ (faS G Y i).natAbs + (bndI (faP G Y i)).natAbs by omega) (lenD_add la lb)
    have c6 := fun S => decBound_ok (faS G Y i + bndI (faP G Y i)) S (by omega)
    have fS : bndI (faS G Y i + bndI (faP G Y i)) = faS G Y (i + 1) := by show _ = bndI (faS G Y i + - -bndI (faP G Y i)); rw [Int.neg_neg]
    have fT : (((faT G Y T i || ovrB (rnd (Y.getD i 0 * Y.getD i 0) (2 ^ 20))) || ovrB (faP G Y i)) || ovrB (faS G Y i + bndI (faP G Y i))) = faT G Y T (i + 1) := by
      show _ = (((faT G Y T i || ovrB (rnd (Y.getD i 0 * Y.getD i 0) (2 ^ 20))) || ovrB (faP G Y i)) || ovrB (faS G Y i + - -bndI (faP G Y i)))
      rw [Int.neg_neg]
    rw [fS] at c6
    simp only [decA] at c3 c4 c5 c6
    generalize bndI (rnd (Y.getD i 0 * Y.getD i 0) (2 ^ 20)) = R at *
    generalize ovrB (rnd (Y.getD i 0 * Y.getD i 0) (2 ^ 20)) = o1 at *
    generalize ovrB (faP G Y i) = o2 at *
    generalize ovrB (faS G Y i + bndI (faP G Y i)) = o3 at *
    iterate 7
      simp (maxSteps := 2000000) only [wk0, wk1, wk2, wk3, wk4, wk5, wk6, Fr.ev, Fr.put, Fr.get, storeA, List.replicate, IntKind.bits, sevalprocAttr, gor, g2, g6, g7, g8, g9, hi, wi, i0, i2, i3, i4, i5, i6, gy, ymln, gd, gdm, sa_lst, bd_none, bd_some, bv_int, Int.le_refl, Int.toNat_natCast, Nat.mul_one, YtdknnaalfoongaaGreatDoor.D33, ty1, ty2, ty3, ty4, ty22, ty54, ty115]
      try first
        | refine callThen_of (c1 _) ?_
        | refine callThen_of (c2 _) ?_
        | refine callThen_of (c3 _) ?_
        | refine callThen_of (c4 _) ?_
        | refine callThen_of (c5 _) ?_
        | refine callThen_of (c6 _) ?_
    exact ih (m - 1) _ _ (by omega) ⟨i + 1, by omega, by simp [Fr.get, g2], by simp [Fr.get, g6], by rw [← fT]; simp [Fr.get], by simp [Fr.get], by simp [Fr.get], rfl⟩
  · obtain rfl : i = n := by omega
    simp (maxSteps := 2000000) only [wk0, wk1, wk2, wk3, wk4, wk5, wk6, Fr.ev, Fr.put, Fr.get, storeA, List.replicate, IntKind.bits, sevalprocAttr, g2, g6, g7, g8, g9, hi, YtdknnaalfoongaaGreatDoor.D33, ty1, ty2, ty3, ty4, ty22, ty54, ty115]
    exact retB_plain (by simp [nmd_int, nmd_bool]) rfl (by simp)
end Go.Proofs.YtdknnaalfoongaaGreatDoor

/- The document's answer (chapter 9): what the matrix times it is a vector. -/
set_option linter.unusedSimpArgs false
set_option linter.unusedVariables false
set_option maxRecDepth 100000
set_option maxHeartbeats 8000000
namespace Go.Proofs.YtdknnaalfoongaaGreatDoor
/-! from behind, with noughts ahead -/
def rsZ (G Y : List Int) (i : Nat) : Int := divZ (Y.getD i 0) (G.getD (36 + i) 0) 20
def rsB (n : Nat) (G X : List Int) (i : Nat) : Int := rnd (dotZ (bkL n G i (n - 1 - i)) (bkR X i (n - 1 - i))) (2 ^ 30)
def rsX (n : Nat) (G Y : List Int) : Nat → List Int
  | 0 => List.replicate n 0
  | k + 1 => (rsX n G Y k).set (n - 1 - k) (bndI (bndI (rsZ G Y (n - 1 - k)) + -bndI (rsB n G (rsX n G Y k) (n - 1 - k))))
def rsA (n : Nat) (G Y : List Int) (T : Bool) : Nat → Bool
  | 0 => T
  | k + 1 => ((rsA n G Y T k || ovrB (rsZ G Y (n - 1 - k))) || ovrB (rsB n G (rsX n G Y k) (n - 1 - k))) || ovrB (bndI (rsZ G Y (n - 1 - k)) + -bndI (rsB n G (rsX n G Y k) (n - 1 - k)))
theorem getD_set9 {X : List Int} {k j : Nat} {v : Int} (hk : k < X.length) : (X.set k v).getD j 0 = if j = k then v else X.getD j 0 := by
  by_cases e : j = k
  · subst e; rw [if_pos rfl]; exact getD_set_self hk
  · rw [if_neg e]; exact getD_set_ne (Ne.symm e)
theorem svX_get (G Y : List Int) (k : Nat) (hk : k ≤ Y.length) (i : Nat) : (svX G Y k).getD i 0 = if i < k then bndI (rsZ G Y i) else Y.getD i 0 := by
  induction k with
  | zero => rw [if_neg (by omega)]; rfl
  | succ k ih =>
    have hl : (svX G Y k).length = Y.length := by
      clear ih hk
      induction k with
      | zero => rfl
      | succ k ih => simp [svX, ih]
    have ih := ih (by omega)
    have e0 : (svX G Y k).getD k 0 = Y.getD k 0 := by
      have : ∀ k', k' ≤ k → (svX G Y k').getD k 0 = Y.getD k 0 := by
        intro k' hk'
        induction k' with
        | zero => rfl
        | succ k' ih' => exact (getD_set_ne (by omega)).trans (ih' (by omega))
      exact this k (Nat.le_refl _)
    show ((svX G Y k).set k (bndI (svP G (svX G Y k) k))).getD i 0 = _
    rw [getD_set9 (by omega)]
    by_cases e : i = k
    · subst e
      rw [if_pos rfl, if_pos (by omega)]
      unfold svP rsZ
      rw [e0]
    · rw [if_neg e, ih]
      by_cases h : i < k
      · rw [if_pos h, if_pos (by omega)]
      · rw [if_neg h, if_neg (by omega)]
theorem svT_any (G Y : List Int) (T : Bool) (k : Nat) (hk : k ≤ Y.length) : svT G Y T k = (T || (List.range k).any fun i => ovrB (rsZ G Y i)) := by
  induction k with
  | zero => simp [svT]
  | succ k ih =>
    have e : svP G (svX G Y k) k = rsZ G Y k := by
      unfold svP rsZ
      rw [svX_get G Y k (by omega), if_neg (by omega)]
    show (svT G Y T k || ovrB (svP G (svX G Y k) k)) = _
    rw [ih (by omega), e, List.range_succ, List.any_append]
    simp [Bool.or_assoc]
theorem bkT_or (n : Nat) (G X : List Int) (o : Bool) (k : Nat) : bkT n G X o k = (o || bkT n G X false k) := by
  induction k with
  | zero => simp [bkT]
  | succ k ih =>
    show ((bkT n G X o k || _) || _) = (o || ((bkT n G X false k || _) || _))
    rw [ih]
    simp [Bool.or_assoc]
theorem rs_eq (n : Nat) (G Y : List Int) (T : Bool) (hY : Y.length = n) (k : Nat) (hk : k ≤ n) :
    (rsX n G Y k).length = n ∧ (∀ t, n - k ≤ t → t < n → (rsX n G Y k).getD t 0 = (bkX n G (svX G Y n) k).getD t 0) ∧ (∀ t, t < n - k → (bkX n G (svX G Y n) k).getD t 0 = bndI (rsZ G Y t)) ∧
    rsA n G Y T k = ((T || (List.range k).any fun t => ovrB (rsZ G Y (n - 1 - t))) || bkT n G (svX G Y n) false k) := by
  induction k with
  | zero => exact ⟨by simp [rsX], fun t h1 h2 => by omega, fun t ht => by
      show (svX G Y n).getD t 0 = _
      rw [svX_get G Y n (by omega), if_pos (by omega)], by simp [rsA, bkT]⟩
  | succ k ih =>
    obtain ⟨h1, h2, h3, h4⟩ := ih (by omega)
    obtain ⟨i, hi⟩ : ∃ i, n - 1 - k = i := ⟨_, rfl⟩
    have bl : (bkX n G (svX G Y n) k).length = n := by
      have hs : ∀ k', (svX G Y k').length = n := fun k' => by
        induction k' with
        | zero => exact hY
        | succ k' ih' => simp [svX, ih']
      have hb : ∀ k', (bkX n G (svX G Y n) k').length = n := fun k' => by
        induction k' with
        | zero => exact hs n
        | succ k' ih' => simp [bkX, ih']
      exact hb k
    have eR : bkR (rsX n G Y k) i (n - 1 - i) = bkR (bkX n G (svX G Y n) k) i (n - 1 - i) := by
      unfold bkR
      apply List.map_congr_left
      intro t ht
      have := List.mem_range.1 ht
      exact h2 _ (by omega) (by omega)
    have eB : rsB n G (rsX n G Y k) i = bkS n G (bkX n G (svX G Y n) k) i := by unfold rsB bkS; rw [eR]
    have eV : bndI (rsZ G Y i) + -bndI (rsB n G (rsX n G Y k) i) = bkV n G (bkX n G (svX G Y n) k) i := by
      unfold bkV
      rw [eB, h3 i (by omega)]
    have eX : rsX n G Y (k + 1) = (rsX n G Y k).set i (bndI (bkV n G (bkX n G (svX G Y n) k) i)) := by
      show (rsX n G Y k).set (n - 1 - k) _ = _
      rw [hi, eV]
    have eK : bkX n G (svX G Y n) (k + 1) = (bkX n G (svX G Y n) k).set i (bndI (bkV n G (bkX n G (svX G Y n) k) i)) := by
      show (bkX n G (svX G Y n) k).set (n - 1 - k) _ = _
      rw [hi]
    refine ⟨by rw [eX, List.length_set]; exact h1, fun t ht hn => ?_, fun t ht => ?_, ?_⟩
    · rw [eX, eK, getD_set9 (by omega), getD_set9 (by omega)]
      by_cases e : t = i
      · rw [if_pos e, if_pos e]
      · rw [if_neg e, if_neg e]; exact h2 t (by omega) hn
    · rw [eK, getD_set9 (by omega), if_neg (by omega)]
      exact h3 t (by omega)
    · show (((rsA n G Y T k || ovrB (rsZ G Y (n - 1 - k))) || ovrB (rsB n G (rsX n G Y k) (n - 1 - k))) || ovrB (bndI (rsZ G Y (n - 1 - k)) + -bndI (rsB n G (rsX n G Y k) (n - 1 - k)))) = ((T || (List.range (k + 1)).any fun t => ovrB (rsZ G Y (n - 1 - t))) || ((bkT n G (svX G Y n) false k || ovrB (bkS n G (bkX n G (svX G Y n) k) (n - 1 - k))) || ovrB (bkV n G (bkX n G (svX G Y n) k) (n - 1 - k))))
      rw [hi, h4, eV, eB, List.range_succ, List.any_append]
      simp only [List.any_cons, List.any_nil, Bool.or_false, hi]
      generalize (List.range k).any (fun t => ovrB (rsZ G Y (n - 1 - t))) = a
      generalize bkT n G (svX G Y n) false k = b
      generalize ovrB (rsZ G Y i) = c
      generalize ovrB (bkS n G (bkX n G (svX G Y n) k) i) = d
      generalize ovrB (bkV n G (bkX n G (svX G Y n) k) i) = e
      cases T <;> cases a <;> cases b <;> cases c <;> cases d <;> cases e <;> rfl
theorem any_rev (n : Nat) (f : Nat → Bool) : ((List.range n).any fun t => f (n - 1 - t)) = (List.range n).any f := by
  rw [Bool.eq_iff_iff, List.any_eq_true, List.any_eq_true]
  constructor
  · rintro ⟨t, ht, h⟩
    have := List.mem_range.1 ht
    exact ⟨n - 1 - t, List.mem_range.2 (by omega), h⟩
  · rintro ⟨t, ht, h⟩
    have := List.mem_range.1 ht
    exact ⟨n - 1 - t, List.mem_range.2 (by omega), by rwa [show n - 1 - (n - 1 - t) = t by omega]⟩
theorem rs_all (n : Nat) (G Y : List Int) (T : Bool) (hY : Y.length = n) : rsX n G Y n = bkX n G (svX G Y n) n ∧ rsA n G Y T n = bkT n G (svX G Y n) (svT G Y T n) n := by
  obtain ⟨h1, h2, h3, h4⟩ := rs_eq n G Y T hY n (Nat.le_refl _)
  have hb : (bkX n G (svX G Y n) n).length = n := by
    have hs : ∀ k', (svX G Y k').length = n := fun k' => by
      induction k' with
      | zero => exact hY
      | succ k' ih' => simp [svX, ih']
    have : ∀ k, (bkX n G (svX G Y n) k).length = n := fun k => by
      induction k with
      | zero => exact hs n
      | succ k ih => simp [bkX, ih]
    exact this n
  refine ⟨?_, ?_⟩
  · apply List.ext_getElem (by rw [h1, hb])
    intro t ht1 ht2
    have := h2 t (by omega) (by omega)
    rw [List.getD_eq_getElem?_getD, List.getD_eq_getElem?_getD, List.getElem?_eq_getElem ht1, List.getElem?_eq_getElem ht2] at this
    exact this
  · rw [h4, any_rev n (fun i => ovrB (rsZ G Y i)), bkT_or n G _ (svT G Y T n), svT_any G Y T n (by omega)]
theorem mkN9 (k : Nat) (hk : k ≤ 100) (H : Heap) (e : Nat) : makeSliceA H (.slice e 1 8 [.int .i64 0]) (.int .i64 k) (.int .i64 k) = some (.sl H.length 0 0 k k 1, H ++ [some ⟨(List.replicate k (0 : Int)).map fun x => .int .i64 x, 0⟩]) := by
  unfold makeSliceA
  simp only
  rw [if_pos ⟨by omega, by omega, by unfold maxBytes; omega, by omega, rfl⟩]
  simp only [Int.toNat_natCast, zeros, List.map_replicate]
  have hf : ∀ k : Nat, (List.replicate k [AV.int .i64 0]).flatten = List.replicate k (.int .i64 0) := fun k => by
    induction k with
    | zero => rfl
    | succ k ih => rw [List.replicate_succ, List.replicate_succ, List.flatten_cons, ih]; rfl
  rw [hf]
theorem rsX_ok (n : Nat) (G Y : List Int) (k : Nat) : (rsX n G Y k).length = n ∧ ∀ x ∈ rsX n G Y k, inI x := by
  induction k with
  | zero => exact ⟨by simp [rsX], fun x hx => by rw [List.eq_of_mem_replicate hx]; unfold inI; omega⟩
  | succ k ih => exact ⟨by simp [rsX, ih.1], set_in ih.2 _ _⟩
noncomputable def c32 : Code := Tryz.f32.body.getD .skip
theorem b32 : Tryz.f32.body = some c32 := rfl
theorem d32 : fnOk Tryz.f32 c32 = true := by kernel_rfl
def D32 : Nat → List Tag
  | 7 => [.pure, .pure, .pure, .quiet, .pure, .quiet, .pure, .pure, .quiet, .seq, .pure, .pure, .pure, .pure, .pure]
  | 12 => [.pure, .pure, .quiet, .pure, .pure, .quiet, .pure, .pure, .quiet, .pure, .grow, .pure, .pure, .pure, .pure, .look, .pure, .seq, .pure, .pure]
  | _ => []
theorem e32 : drawsOk D32 c32 = true := by kernel_rfl
theorem ref9Solve_ok (n : Nat) (G l : List Int) (S : Heap) (hn : 1 ≤ n ∧ n ≤ 6) (hG : G.length = 42) (hin : ∀ x ∈ G, inI x) (hf : FineF n G) (hl : l.length = n) (hlin : ∀ x ∈ l, inI x) (Y : List Int) (T : Bool) (hY : dnY n G l n = Y) (hT : dnT n G l false n = T) :
    Call theE 32 [.agg [mtx n n (gF n G), lstI (gD G n)], lstI l] S (.tup [lstI (rsX n G Y n), .bool (rsA n G Y T n)]) S := by
  have gdl := gD_len G n
  have dn := fun S => ref9Down_ok n G l S hn hG hin hl hlin
  have yl := dnY_len n G l n
  have yin := dnY_in n G l n
  rw [hY, hT] at dn
  rw [hY] at yl yin
  clear hY hT
  have mk := mkN9 n (by omega)
  have w1 : IntKind.i64.wrap ((n : Int) - 1) = (n : Int) - 1 := wrapI (by omega)
  simp only [mtx, lstI, gdl, hl, yl] at dn ⊢
  refine Call.ofC Tryz.func32 YtdknnaalfoongaaGreatDoor.b32 YtdknnaalfoongaaGreatDoor.d32 YtdknnaalfoongaaGreatDoor.e32 (by simp [Tryz.f32]) ?_
  dsimp only [YtdknnaalfoongaaGreatDoor.c32, Tryz.f32, Option.getD_some]
  iterate 2
    simp (maxSteps := 2000000) only [wk0, wk1, wk2, wk3, wk4, wk5, wk6, Fr.ev, Fr.put, Fr.get, storeA, List.replicate, IntKind.bits, sevalprocAttr, mk, w1, YtdknnaalfoongaaGreatDoor.D32, ty1, ty2, ty3, ty4, ty22, ty23, ty54]
    try first
      | refine callThen_of (dn _) ?_
  refine loopC_ind (fun m fr H => ∃ (j : Nat) (R : Heap), j + m = n ∧ fr.get 2 = .ptr S.length 0 0 ∧ fr.get 6 = .lst (Y.map fun x => .int .i64 x) n ∧ fr.get 7 = .bool (rsA n G Y T j) ∧ fr.get 8 = .int .i64 n ∧ fr.get 9 = .sl (S.length + 1) 0 0 n n 1 ∧ fr.get 10 = .int .i64 ((n : Int) - 1 - j) ∧
    H = S ++ some ⟨[.lst (rowsA n n (gF n G)) n, .lst ((gD G n).map fun x => .int .i64 x) n], 0⟩ :: some ⟨(rsX n G Y j).map fun x => .int .i64 x, 0⟩ :: R) ?_ (n := n) ⟨0, [], by omega, rfl, rfl, rfl, rfl, rfl, by first | rfl | simp [Fr.get], rfl⟩
  rintro m fr H ⟨j, R, hjm, g2, g6, g7, g8, g9, g10, hH⟩ ih
  obtain ⟨xl, xin⟩ := rsX_ok n G Y j
  by_cases hj : j < n
  · obtain ⟨i, hi⟩ : ∃ i, n - 1 - j = i := ⟨_, rfl⟩
    have hik : i < n := by omega
    have hi2 : (n : Int) - 1 - j = (i : Int) := by omega
    rw [hi2] at g10
    have i0 : (0 : Int) ≤ i := by omega
    have ik : (i : Int) < n := by omega
    have i6 : i + 1 ≤ n := by omega
    have w2 : IntKind.i64.wrap ((i : Int) + 1) = ((i + 1 : Nat) : Int) := wrapI (by omega)
    have w3 : IntKind.i64.wrap ((i : Int) - 1) = (n : Int) - 1 - ((j + 1 : Nat) : Int) := by rw [wrapI (by omega)]; omega
    have bf : ∀ L, blkAt (H ++ L) S.length 0 = some ⟨[.lst (rowsA n n (gF n G)) n, .lst ((gD G n).map fun x => .int .i64 x) n], 0⟩ := fun L => by rw [hH, List.append_assoc]; exact (by rw [blkAt_app0]; rfl)
    have bf0 := bf []
    have bx : ∀ L, blkAt (H ++ L) (S.length + 1) 0 = some ⟨(rsX n G Y j).map fun x => .int .i64 x, 0⟩ := fun L => by rw [hH, List.append_assoc]; exact (by rw [blkAt_app]; rfl)
    have hs : ∀ (x : Option Blk), H.set (S.length + 1) x = S ++ some ⟨[.lst (rowsA n n (gF n G)) n, .lst ((gD G n).map fun x => .int .i64 x) n], 0⟩ :: x :: R := fun x => by rw [hH, set_app]; rfl
    have bl : S.length + 2 ≤ H.length := by rw [hH]; simp
    have ma1 := fun a b c d e x H' => show mayAppend S.length .append [.sl H.length a b c d e, x] H' = True from eq_true (.inl (by omega))
    have ma2 := fun a b c d e x H' => show mayAppend S.length .append [.sl (H.length + 1) a b c d e, x] H' = True from eq_true (.inl (by omega))
    have st2 : ∀ x L, (H ++ L).set (S.length + 1) x = S ++ some ⟨[.lst (rowsA n n (gF n G)) n, .lst ((gD G n).map fun x => .int .i64 x) n], 0⟩ :: x :: (R ++ L) := fun x L => by
      rw [List.set_append_left _ _ (by omega), hs, List.append_assoc]; rfl
    obtain ⟨X, hX⟩ : ∃ X, rsX n G Y j = X := ⟨_, rfl⟩
    obtain ⟨o, ho⟩ : ∃ o, rsA n G Y T j = o := ⟨_, rfl⟩
    have nX : rsX n G Y (j + 1) = X.set i (bndI (bndI (rsZ G Y i) + -bndI (rsB n G X i))) := by rw [← hX, ← hi]; rfl
    have nA : rsA n G Y T (j + 1) = (((o || ovrB (rsZ G Y i)) || ovrB (rsB n G X i)) || ovrB (bndI (rsZ G Y i) + -bndI (rsB n G X i))) := by rw [← hX, ← ho, ← hi]; rfl
    rw [hX] at xl xin bx
    rw [ho] at g7
    have dp := okD_pos hf hik hn.2
    have c0 := fun S => refDiv_ok (Y.getD i 0) (G.getD (36 + i) 0) 20 S (getD_in yin _) (getD_in hin _) (by omega) (by omega) (rsZ G Y i) rfl
    change ∀ S, Call theE _ [_, _, .int .i64 20] S _ S at c0
    have gY := gm9_at Y i (by omega)
    have ymln : (Y.map fun x => AV.int .i64 x).length = n := by rw [List.length_map, yl]
    have gd : ((gD G n).map fun x => AV.int .i64 x)[i]? = some (.int .i64 (G.getD (36 + i) 0)) := by
      rw [List.getElem?_map, gD_get hik]; rfl
    have gdm : ((gD G n).map fun x => AV.int .i64 x).length = n := by rw [List.length_map, gdl]
    have bf1 : blkAt H S.length 0 = some ⟨[.lst (rowsA n n (gF n G)) n, .lst ((gD G n).map fun x => .int .i64 x) n], 0⟩ := by have := bf0; rwa [List.append_nil] at this
    iterate 2
      simp (maxSteps := 2000000) only [wk0, wk1, wk2, wk3, wk4, wk5, wk6, Fr.ev, Fr.put, Fr.get, storeA, List.replicate, IntKind.bits, sevalprocAttr, g2, g6, g7, g8, g9, g10, i0, ik, i6, w2, bf1, gY, ymln, gd, gdm, Int.toNat_natCast, Nat.mul_one, YtdknnaalfoongaaGreatDoor.D32, ty1, ty2, ty3, ty4, ty22, ty23, ty54]
      try first
        | refine callThen_of (c0 _) ?_
    refine loopC_ind (fun m' fr H' => ∃ t cl cr : Nat, t + m' = n - 1 - i ∧ fr.get 2 = .ptr S.length 0 0 ∧ fr.get 6 = .lst (Y.map fun x => .int .i64 x) n ∧ fr.get 7 = .bool o ∧ fr.get 8 = .int .i64 n ∧ fr.get 9 = .sl (S.length + 1) 0 0 n n 1 ∧ fr.get 10 = .int .i64 (i : Int) ∧ fr.get 11 = .int .i64 (bndI (rsZ G Y i)) ∧ fr.get 12 = .bool (ovrB (rsZ G Y i)) ∧ fr.get 13 = .sl H.length t 0 t cl 1 ∧ fr.get 14 = .sl (H.length + 1) t 0 t cr 1 ∧ fr.get 15 = .int .i64 ((i + 1 + t : Nat) : Int) ∧
      H' = H ++ [some ⟨(bkL n G i t).map fun x => .int .i64 x, t⟩, some ⟨(bkR X i t).map fun x => .int .i64 x, t⟩]) ?_ (n := n - 1 - i) ⟨0, 0, 0, by omega, by simp [Fr.get, g2], by simp [Fr.get, g6], by simp [Fr.get, g7], by simp [Fr.get, g8], by simp [Fr.get, g9], by simp [Fr.get, g10], by simp [Fr.get], by simp [Fr.get], by first | rfl | simp [Fr.get], by first | rfl | simp [Fr.get], by first | rfl | simp [Fr.get], rfl⟩
    clear g2 g6 g7 g8 g9 g10
    rintro m' fr H' ⟨t, cl, cr, htm, g2, g6, g7, g8, g9, g10, g11, g12, g13, g14, g15, rfl⟩ ih2
    have ll := bkL_app n G i t
    have lr := bkR_app X i t
    have l1 : (bkL n G i t).length = t := by simp [bkL]
    have l2 : (bkR X i t).length = t := by simp [bkR]
    by_cases ht : ((i + 1 + t : Nat) : Int) < n
    · have htk : i + 1 + t < n := by omega
      have gx := gm9_at X (i + 1 + t) (by omega)
      have t0 : (0 : Int) ≤ ((i + 1 + t : Nat) : Int) := by omega
      have wi : IntKind.i64.wrap (((i + 1 + t : Nat) : Int) + 1) = ((i + 1 + (t + 1) : Nat) : Int) := by rw [wrapI (by omega)]; omega
      have a1 : (t + 1) * 8 ≤ maxBytes := by unfold maxBytes; omega
      have a2 : t + 1 ≤ 9223372036854775807 := by omega
      have q1 : i + 1 + t + 1 ≤ n := by omega
      have gr := rowsA_get (c := n) (f := gF n G) htk
      have gg : ((rowF (gF n G) n (i + 1 + t)).map fun x => AV.int .i64 x)[i]? = some (.int .i64 (G.getD ((i + 1 + t) * n + i) 0)) := rowF_at (f := gF n G) (i := i + 1 + t) hik
      have rl := rowsA_len n n (gF n G)
      generalize hjj : i + 1 + t = jj at *
      simp (maxSteps := 2000000) only [wk0, wk1, wk2, wk3, wk4, wk5, wk6, Fr.ev, Fr.put, Fr.get, storeA, List.replicate, IntKind.bits, sevalprocAttr, g2, g6, g7, g8, g9, g10, g11, g12, g13, g14, g15, ht, bf, bx, gx, gr, gg, rl, t0, i0, ik, wi, a1, a2, q1, xl, ll, lr, l1, l2, tally9_ints, ma1, ma2, List.length_map, Int.toNat_natCast, Nat.mul_one, Nat.zero_add, YtdknnaalfoongaaGreatDoor.D32, ty1, ty2, ty3, ty4, ty22, ty23, ty54]
      exact ih2 (m' - 1) _ _ (by omega) ⟨t + 1, t + 1, t + 1, by omega, by simp [Fr.get, g2], by simp [Fr.get, g6], by simp [Fr.get, g7], by simp [Fr.get, g8], by simp [Fr.get, g9], by simp [Fr.get, g10], by simp [Fr.get, g11], by simp [Fr.get, g12], by simp [Fr.get], by simp [Fr.get], by simp [Fr.get], rfl⟩
    · have htk : t = n - 1 - i := by omega
      subst htk
      clear ih2
      have sw1 := fun (L : Heap) => SlI.sl (S := H ++ some ⟨(bkL n G i (n - 1 - i)).map fun x => .int .i64 x, n - 1 - i⟩ :: L) (id := H.length) (ver := n - 1 - i) (off := 0) (cap := cl) (l := bkL n G i (n - 1 - i)) (b := ⟨(bkL n G i (n - 1 - i)).map fun x => .int .i64 x, n - 1 - i⟩) (by rw [blkAt_app0, blkAt_zero]) (by rw [List.drop_zero, List.take_of_length_le (by simp)])
      have sw2 := fun (x : Option Blk) (L : Heap) => SlI.sl (S := H ++ x :: some ⟨(bkR X i (n - 1 - i)).map fun x => .int .i64 x, n - 1 - i⟩ :: L) (id := H.length + 1) (ver := n - 1 - i) (off := 0) (cap := cr) (l := bkR X i (n - 1 - i)) (b := ⟨(bkR X i (n - 1 - i)).map fun x => .int .i64 x, n - 1 - i⟩) (by rw [blk1]; simp [blkAt]) (by rw [List.drop_zero, List.take_of_length_le (by simp)])
      rw [l1] at sw1
      rw [l2] at sw2
      have c2 := fun L => ref9Dot_ok _ _ _ _ 30 (H ++ some ⟨(bkL n G i (n - 1 - i)).map fun x => .int .i64 x, n - 1 - i⟩ :: some ⟨(bkR X i (n - 1 - i)).map fun x => .int .i64 x, n - 1 - i⟩ :: L) (sw1 _) (sw2 _ L) (by omega) (by rw [l1, l2]) (by rw [l1]; omega) (bkL_in hin _ _) (bkR_in xin _ _)
      change ∀ L, Call theE _ [_, _, .int .i64 30] _ (.tup [.int .i64 (bndI (rsB n G X i)), .bool (ovrB (rsB n G X i))]) _ at c2
      have c3 := fun S => ref9Less_ok (bndI (rsZ G Y i)) (bndI (rsB n G X i)) S (bnd_in _) (bnd_in _)
      have fX : (X.map fun x => AV.int .i64 x).set i (.int .i64 (bndI (bndI (rsZ G Y i) + -bndI (rsB n G X i)))) = (X.set i (bndI (bndI (rsZ G Y i) + -bndI (rsB n G X i)))).map fun x => .int .i64 x := by simp [List.map_set]
      generalize ovrB (rsZ G Y i) = o1 at *
      generalize ovrB (rsB n G X i) = o2 at *
      generalize ovrB (bndI (rsZ G Y i) + -bndI (rsB n G X i)) = o3 at *
      iterate 3
        simp (maxSteps := 2000000) only [wk0, wk1, wk2, wk3, wk4, wk5, wk6, Fr.ev, Fr.put, Fr.get, storeA, List.replicate, IntKind.bits, sevalprocAttr, gor, g2, g6, g7, g8, g9, g10, g11, g12, g13, g14, g15, ht, i0, ik, i6, w3, bf, bx, st2, fX, xl, List.length_map, Int.toNat_natCast, Nat.mul_one, Nat.zero_add, YtdknnaalfoongaaGreatDoor.D32, ty1, ty2, ty3, ty4, ty22, ty23, ty54]
        try first
          | refine callThen_of (c2 _) ?_
          | refine callThen_of (c3 _) ?_
      exact ih (m - 1) _ _ (by omega) ⟨j + 1, _, by omega, by simp [Fr.get, g2], by simp [Fr.get, g6], by rw [nA]; simp [Fr.get], by simp [Fr.get, g8], by simp [Fr.get, g9], by simp [Fr.get], by rw [nX]⟩
  · obtain rfl : j = n := by omega
    have i0 : ¬ (0 : Int) ≤ (j : Int) - 1 - j := by omega
    subst hH
    simp (maxSteps := 2000000) only [wk0, wk1, wk2, wk3, wk4, wk5, wk6, Fr.ev, Fr.put, Fr.get, storeA, List.replicate, IntKind.bits, sevalprocAttr, g2, g6, g7, g8, g9, g10, i0, YtdknnaalfoongaaGreatDoor.D32, ty1, ty2, ty3, ty4, ty22, ty23, ty54]
    refine ⟨[lstI (rsX j G Y j), .bool (rsA j G Y T j)], .cons _ _ _ _ ?_ (.cons _ _ _ _ (.same _ (.bool _)) .nil), by simp [packA, lstI, xl], by simp⟩
    have := fin_sl (base := S.length) (id := S.length + 1) (ver := 0) (cap := j) (u := 0) (L := rsX j G Y j) (H := S ++ some ⟨[.lst (rowsA j j (gF j G)) j, .lst ((gD G j).map fun x => .int .i64 x) j], 0⟩ :: some ⟨(rsX j G Y j).map fun x => .int .i64 x, 0⟩ :: R) (by omega) (by rw [blkAt_app]; simp [blkAt])
    rwa [xl] at this
end Go.Proofs.YtdknnaalfoongaaGreatDoor

/- ldl: a vector of another length; the vector of nought factors. -/
set_option linter.unusedSimpArgs false
set_option linter.unusedVariables false
set_option maxRecDepth 100000
set_option maxHeartbeats 8000000
namespace Go.Proofs.YtdknnaalfoongaaGreatDoor
theorem ldlSolve_len (n : Nat) (G l : List Int) (S : Heap) (hn : 1 ≤ n ∧ n ≤ 6) (hG : G.length = 42) (hf : FineF n G) (hl : l.length ≠ n) :
    Call theE 28 [.agg (ldB n G), lstI l] S (.tup [.nils, .bool false, errA 1]) S := by
  have ck := fun S => ldlCheck_ok n G S hG hn .nili (.inl ⟨hf, rfl⟩)
  have gl : (ldB n G).length = 43 := by rw [ldB_len, hG]
  have g0 : (ldB n G)[0]? = some (.int .i64 n) := rfl
  have tl : List.take 43 (ldB n G) = ldB n G := List.take_of_length_le (by omega)
  have hl' : ((l.length : Int) = n) = False := eq_false (by omega)
  simp only [lstI]
  refine Call.ofC Tryz.func28 YtdknnaalfoongaaGreatDoor.b28 YtdknnaalfoongaaGreatDoor.d28 YtdknnaalfoongaaGreatDoor.e28 (by simp [Tryz.f28]) ?_
  dsimp only [YtdknnaalfoongaaGreatDoor.c28, Tryz.f28, Option.getD_some]
  iterate 2
    simp (maxSteps := 2000000) only [wk0, wk1, wk2, wk3, wk4, wk5, wk6, Fr.ev, Fr.put, Fr.get, storeA, List.replicate, IntKind.bits, sevalprocAttr, gl, g0, tl, hl', decide_true, decide_false, YtdknnaalfoongaaGreatDoor.D28, ty1, ty2, ty3, ty4, ty22, ty27, ty35, ty50, ty79, ty95, ty96, ty98]
    try first
      | refine callThen_of (ck _) ?_
  exact retB_plain (by simp [nmd_bool, nmd_ifc, nmd_int, nmd_nils]) rfl (by simp)
theorem ldlFar_len (n : Nat) (G l : List Int) (S : Heap) (hn : 1 ≤ n ∧ n ≤ 6) (hG : G.length = 42) (hf : FineF n G) (hl : l.length ≠ n) :
    Call theE 29 [.agg (ldB n G), lstI l] S (.tup [.int .i64 0, .bool false, errA 1]) S := by
  have ck := fun S => ldlCheck_ok n G S hG hn .nili (.inl ⟨hf, rfl⟩)
  have gl : (ldB n G).length = 43 := by rw [ldB_len, hG]
  have g0 : (ldB n G)[0]? = some (.int .i64 n) := rfl
  have tl : List.take 43 (ldB n G) = ldB n G := List.take_of_length_le (by omega)
  have hl' : ((l.length : Int) = n) = False := eq_false (by omega)
  simp only [lstI]
  refine Call.ofC Tryz.func29 YtdknnaalfoongaaGreatDoor.b29 YtdknnaalfoongaaGreatDoor.d29 YtdknnaalfoongaaGreatDoor.e29 (by simp [Tryz.f29]) ?_
  dsimp only [YtdknnaalfoongaaGreatDoor.c29, Tryz.f29, Option.getD_some]
  iterate 2
    simp (maxSteps := 2000000) only [wk0, wk1, wk2, wk3, wk4, wk5, wk6, Fr.ev, Fr.put, Fr.get, storeA, List.replicate, IntKind.bits, sevalprocAttr, gl, g0, tl, hl', decide_true, decide_false, YtdknnaalfoongaaGreatDoor.D29, ty1, ty2, ty3, ty4, ty22, ty27, ty35, ty50, ty79, ty95, ty96, ty98]
    try first
      | refine callThen_of (ck _) ?_
  exact retB_plain (by simp [nmd_bool, nmd_ifc, nmd_int]) rfl (by simp)
/-! factors of nought -/
theorem ldB_zero : ldB 0 (List.replicate 42 0) = List.replicate 43 (.int .i64 0) := rfl
theorem zero_check (S : Heap) : Call theE 26 [.agg (List.replicate 43 (.int .i64 0))] S (errA 1) S := ldlCheck_size 0 (List.replicate 42 0) S rfl (by omega)
theorem zero_solve (l : List Int) (S : Heap) : Call theE 28 [.agg (List.replicate 43 (.int .i64 0)), lstI l] S (.tup [.nils, .bool false, errA 1]) S := ldlSolve_bad 0 (List.replicate 42 0) (lstI l) S rfl (fun S => zero_check S) (fun _ _ => rfl)
theorem zero_far (l : List Int) (S : Heap) : Call theE 29 [.agg (List.replicate 43 (.int .i64 0)), lstI l] S (.tup [.int .i64 0, .bool false, errA 1]) S := ldlFar_bad 0 (List.replicate 42 0) (lstI l) [] S rfl (fun S => zero_check S) (fun _ _ => rfl)
theorem zero_log (S : Heap) : Call theE 30 [.agg (List.replicate 43 (.int .i64 0))] S (.tup [.int .i64 0, errA 1]) S := ldlLog_bad 0 (List.replicate 42 0) S rfl (fun S => zero_check S)
end Go.Proofs.YtdknnaalfoongaaGreatDoor

/- The law LdlSolves, given the document's logarithm. -/
set_option linter.unusedSimpArgs false
set_option linter.unusedVariables false
set_option maxRecDepth 100000
set_option maxHeartbeats 16000000
namespace Go.Proofs.YtdknnaalfoongaaGreatDoor
noncomputable def c31 : Code := Tryz.f31.body.getD .skip
theorem b31 : Tryz.f31.body = some c31 := rfl
theorem d31 : fnOk Tryz.f31 c31 = true := by kernel_rfl
def D31 : Nat → List Tag := fun _ => []
theorem e31 : drawsOk D31 c31 = true := by kernel_rfl
noncomputable def c5 : Code := Tryz.f5.body.getD .skip
theorem b5 : Tryz.f5.body = some c5 := rfl
theorem d5 : fnOk Tryz.f5 c5 = true := by kernel_rfl
def D5 : Nat → List Tag := fun _ => []
theorem e5 : drawsOk D5 c5 = true := by kernel_rfl
theorem ref9Log_ok (rl : ∀ (x : Int) (S : Heap), 1 ≤ x ∧ x ≤ 4611686018427387903 → Call theE 63 [.int .i64 x, .int .i64 20] S (.int .i64 (logV x 20)) S) (n : Nat) (G : List Int) (S : Heap) (hn : 1 ≤ n ∧ n ≤ 6) (hf : FineF n G) (L : AV) (hL : L = mtx n n (gF n G)) :
    Call theE 31 [.agg [L, lstI (gD G n)]] S (.int .i64 (lgS G n)) S := by
  subst hL
  have gdl := gD_len G n
  simp only [mtx, lstI, gdl]
  refine Call.ofC Tryz.func31 YtdknnaalfoongaaGreatDoor.b31 YtdknnaalfoongaaGreatDoor.d31 YtdknnaalfoongaaGreatDoor.e31 (by simp [Tryz.f31]) ?_
  dsimp only [YtdknnaalfoongaaGreatDoor.c31, Tryz.f31, Option.getD_some]
  simp (maxSteps := 2000000) only [wk0, wk1, wk2, wk3, wk4, wk5, wk6, Fr.ev, Fr.put, Fr.get, storeA, List.replicate, IntKind.bits, sevalprocAttr, YtdknnaalfoongaaGreatDoor.D31, ty1, ty2, ty3, ty4, ty22, ty54]
  refine loopC_ind (fun m fr H => ∃ i : Nat, i + m = n ∧ fr.get 1 = .ptr S.length 0 0 ∧ fr.get 3 = .int .i64 (lgS G i) ∧ fr.get 4 = .int .i64 i ∧ H = S ++ [some ⟨[.lst (rowsA n n (gF n G)) n, .lst ((gD G n).map fun x => .int .i64 x) n], 0⟩]) ?_ (n := n) ⟨0, by omega, rfl, rfl, rfl, rfl⟩
  rintro m fr H ⟨i, him, g1, g3, g4, rfl⟩ ih
  by_cases hi : (i : Int) < n
  · have hin' : i < n := by omega
    have wi : IntKind.i64.wrap ((i : Int) + 1) = ((i + 1 : Nat) : Int) := wrapI (by omega)
    have i0 : (0 : Int) ≤ i := by omega
    have i2 : i + 1 ≤ n := by omega
    have gd : ((gD G n).map fun x => AV.int .i64 x)[i]? = some (.int .i64 (G.getD (36 + i) 0)) := by
      rw [List.getElem?_map, gD_get hin']; rfl
    have gdm : ((gD G n).map fun x => AV.int .i64 x).length = n := by rw [List.length_map, gdl]
    have c1 := fun S => rl (G.getD (36 + i) 0) S (okD_pos hf hin' hn.2)
    have lS : IntKind.i64.wrap (lgS G i + logV (G.getD (36 + i) 0) 20) = lgS G (i + 1) := rfl
    iterate 2
      simp (maxSteps := 2000000) only [wk0, wk1, wk2, wk3, wk4, wk5, wk6, Fr.ev, Fr.put, Fr.get, storeA, List.replicate, IntKind.bits, sevalprocAttr, g1, g3, g4, hi, wi, i0, i2, gd, gdm, lS, Int.toNat_natCast, Nat.mul_one, YtdknnaalfoongaaGreatDoor.D31, ty1, ty2, ty3, ty4, ty22, ty54]
      try first
        | refine callThen_of (c1 _) ?_
    exact ih (m - 1) _ _ (by omega) ⟨i + 1, by omega, by simp [Fr.get, g1], by simp [Fr.get], by simp [Fr.get], rfl⟩
  · obtain rfl : i = n := by omega
    simp (maxSteps := 2000000) only [wk0, wk1, wk2, wk3, wk4, wk5, wk6, Fr.ev, Fr.put, Fr.get, storeA, List.replicate, IntKind.bits, sevalprocAttr, g1, g3, g4, hi, YtdknnaalfoongaaGreatDoor.D31, ty1, ty2, ty3, ty4, ty22, ty54]
    exact retB_plain (by simp [nmd_int]) rfl (by simp)
theorem ldlSolvesBad_ok (m m2 U : AV) (k more : Int) (l : List Int) (S : Heap) (mm : ∀ o k H, moveA o k H m = some (m, H)) (mm2 : ∀ o k H, moveA o k H m2 = some (m2, H)) (ev : ∀ S, Call theE 17 [m, .int .i64 more] S m2 S) (mo : ∀ S, Call theE 19 [m2] S U S) (of : ∀ S, Call theE 18 [U] S (.tup [.agg (List.replicate 43 (.int .i64 0)), errA k]) S) :
    Call theE 5 [m, .int .i64 more, lstI l] S (.bool true) S := by
  have su := fun S => sure09_ok S
  have n1 := fun S => num21_given 1 S
  have spz := sp43 (List.replicate 43 (.int .i64 0)) rfl
  have z1 := fun S => zero_solve l S
  have z2 := fun S => zero_far l S
  have z3 := fun S => zero_log S
  simp only [List.replicate, errA] at spz of z1 z2 z3
  simp only [lstI] at z1 z2 ⊢
  refine Call.ofC Tryz.func5 YtdknnaalfoongaaGreatDoor.b5 YtdknnaalfoongaaGreatDoor.d5 YtdknnaalfoongaaGreatDoor.e5 (by simp [Tryz.f5]) ?_
  dsimp only [YtdknnaalfoongaaGreatDoor.c5, Tryz.f5, Option.getD_some]
  simp (maxSteps := 2000000) only [wk0, wk1, wk2, wk3, wk4, wk5, wk6, Fr.ev, Fr.put, Fr.get, storeA, List.replicate, IntKind.bits, sevalprocAttr, mm, mm2, spz, castLit, YtdknnaalfoongaaGreatDoor.D5, keep5, ty1, ty2, ty3, ty4, ty22, ty23, ty30, ty35, ty50, ty54]
  repeat
    first
    | refine callThen_of (ev _) ?_
    | refine callThen_of (mo _) ?_
    | refine callThen_of (of _) ?_
    | refine callThen_of (z1 _) ?_
    | refine callThen_of (z2 _) ?_
    | refine callThen_of (z3 _) ?_
    | refine callThen_of (n1 _) ?_
    | refine callThen_of (su _) ?_
    simp (maxSteps := 2000000) only [wk0, wk1, wk2, wk3, wk4, wk5, wk6, Fr.ev, Fr.put, Fr.get, storeA, List.replicate, IntKind.bits, sevalprocAttr, mm, mm2, spz, castLit, YtdknnaalfoongaaGreatDoor.D5, keep5, ty1, ty2, ty3, ty4, ty22, ty23, ty30, ty35, ty50, ty54]
  exact retB_plain (by simp [nmd_bool]) rfl (by simp)
theorem ldlSolvesGood_ok (rl : ∀ (x : Int) (S : Heap), 1 ≤ x ∧ x ≤ 4611686018427387903 → Call theE 63 [.int .i64 x, .int .i64 20] S (.int .i64 (logV x 20)) S) (n : Nat) (M : Nat → Nat → Int) (more : Int) (l : List Int) (S : Heap) (hn : 1 ≤ n ∧ n ≤ 6) (hmore : inI more) (hlin : ∀ x ∈ l, inI x) :
    Call theE 5 [mtx n n M, .int .i64 more, lstI l] S (.bool true) S := by
  have ev := fun S => evenRows_ok n M more S hn hmore (fun S => may_mtx hn M S)
  have hE := evV_even n M more
  have hI : ∀ i j, i < n → j < n → inI (evV M more i j) := fun i j _ _ => evV_in M more i j
  have mo := fun S => matOf9_ok (mtx n n (evV M more)) n n (evV M more) S (fun _ _ _ => rfl) (of_mtx hn (evV M more))
  cases hG : ofAll n (evV M more) n with
  | none =>
    have of := fun S => ldlOf_ok n (evV M more) S hn hI hE _ (.inr ⟨hG, rfl⟩)
    exact ldlSolvesBad_ok _ _ _ 8 more l S (fun _ _ _ => rfl) (fun _ _ _ => rfl) ev mo of
  | some G =>
    have of := fun S => ldlOf_ok n (evV M more) S hn hI hE _ (.inl ⟨G, hG, rfl⟩)
    have su := fun S => sure09_ok S
    have n1 := fun S => num21_given 1 S
    have pf := ofAll_PF hn.2 (evV M more) n (Nat.le_refl _) G hG
    have ff := pf.fine hn
    have hG2 := pf.s.len
    have hin := pf.s.ins
    have fa := fun S => factorsOf_ok n G S hn hG2 ff
    have lg := fun S => ldlLog_ok n G S hn hG2 ff
    have rg := fun S => ref9Log_ok rl n G S hn ff _ rfl
    have gl := show (ldB n G).length = 43 by rw [ldB_len, hG2]
    have tl := show List.take 43 (ldB n G) = ldB n G from List.take_of_length_le (by omega)
    have al := ldB_all n G
    have sp := sp43 (ldB n G) gl
    have gdl := gD_len G n
    have nn := eq_true (show (n : Int) = n from rfl)
    by_cases hl : l.length = n
    · have sv := fun S => ldlSolve_ok n G (lstI l) l S hn hG2 hin ff hl hlin (VecS.lst S l) _ _ rfl rfl
      have fr' := fun S => ldlFar_ok n G (lstI l) l S hn hG2 hin ff hl hlin (VecS.lst S l)
      have rs := fun S => ref9Solve_ok n G l S hn hG2 hin ff hl hlin _ _ rfl rfl
      have rf := fun S => ref9Far_ok n G l S hn hG2 hin ff hl hlin
      rw [(rs_all n G (dnY n G l n) (dnT n G l false n) (dnY_len n G l n)).1, (rs_all n G (dnY n G l n) (dnT n G l false n) (dnY_len n G l n)).2] at rs
      have xlen : (bkX n G (svX G (dnY n G l n) n) n).length = n := by
        rw [← (rs_all n G (dnY n G l n) false (dnY_len n G l n)).1]; exact (rsX_ok n G _ n).1
      generalize bkX n G (svX G (dnY n G l n) n) n = XL at *
      generalize bkT n G (svX G (dnY n G l n) n) (svT G (dnY n G l n) (dnT n G l false n) n) n = XT at *
      generalize faS G (dnY n G l n) n = FS at *
      generalize faT G (dnY n G l n) (dnT n G l false n) n = FT at *
      have nm := fun S => nums09_ok XL XL S (by rw [xlen]; unfold maxLen; omega)
      rw [decide_eq_true rfl] at nm
      have ttb : ∀ b : Bool, (b == b) = true := fun b => by cases b <;> rfl
      simp only [List.replicate] at sp
      simp only [mtx, lstI, gdl, hl, xlen] at ev mo sv fr' fa rg rs rf nm ⊢
      refine Call.ofC Tryz.func5 YtdknnaalfoongaaGreatDoor.b5 YtdknnaalfoongaaGreatDoor.d5 YtdknnaalfoongaaGreatDoor.e5 (by simp [Tryz.f5]) ?_
      dsimp only [YtdknnaalfoongaaGreatDoor.c5, Tryz.f5, Option.getD_some]
      cases XT <;> cases FT
      all_goals
        simp (maxSteps := 2000000) only [wk0, wk1, wk2, wk3, wk4, wk5, wk6, Fr.ev, Fr.put, Fr.get, storeA, List.replicate, IntKind.bits, sevalprocAttr, sp, gl, tl, al, nn, ttb, YtdknnaalfoongaaGreatDoor.D5, keep5, ty1, ty2, ty3, ty4, ty22, ty23, ty30, ty35, ty50, ty54]
        repeat
          first
          | refine callThen_of (ev _) ?_
          | refine callThen_of (mo _) ?_
          | refine callThen_of (of _) ?_
          | refine callThen_of (sv _) ?_
          | refine callThen_of (fr' _) ?_
          | refine callThen_of (lg _) ?_
          | refine callThen_of (fa _) ?_
          | refine callThen_of (rg _) ?_
          | refine callThen_of (rs _) ?_
          | refine callThen_of (rf _) ?_
          | refine callThen_of (nm _) ?_
          | refine callThen_of (su _) ?_
          simp (maxSteps := 2000000) only [wk0, wk1, wk2, wk3, wk4, wk5, wk6, Fr.ev, Fr.put, Fr.get, storeA, List.replicate, IntKind.bits, sevalprocAttr, sp, gl, tl, al, nn, ttb, YtdknnaalfoongaaGreatDoor.D5, keep5, ty1, ty2, ty3, ty4, ty22, ty23, ty30, ty35, ty50, ty54]
        exact retB_plain (by simp [nmd_bool]) rfl (by simp)
    · have sv := fun S => ldlSolve_len n G l S hn hG2 ff hl
      have fr' := fun S => ldlFar_len n G l S hn hG2 ff hl
      have hl' : ((l.length : Int) = n) = False := eq_false (by omega)
      simp only [List.replicate] at sp
      simp only [errA] at sv fr'
      simp only [mtx, lstI, gdl] at ev mo sv fr' fa rg ⊢
      refine Call.ofC Tryz.func5 YtdknnaalfoongaaGreatDoor.b5 YtdknnaalfoongaaGreatDoor.d5 YtdknnaalfoongaaGreatDoor.e5 (by simp [Tryz.f5]) ?_
      dsimp only [YtdknnaalfoongaaGreatDoor.c5, Tryz.f5, Option.getD_some]
      simp (maxSteps := 2000000) only [wk0, wk1, wk2, wk3, wk4, wk5, wk6, Fr.ev, Fr.put, Fr.get, storeA, List.replicate, IntKind.bits, sevalprocAttr, sp, gl, tl, al, nn, hl', castLit, YtdknnaalfoongaaGreatDoor.D5, keep5, ty1, ty2, ty3, ty4, ty22, ty23, ty30, ty35, ty50, ty54]
      repeat
        first
        | refine callThen_of (ev _) ?_
        | refine callThen_of (mo _) ?_
        | refine callThen_of (of _) ?_
        | refine callThen_of (sv _) ?_
        | refine callThen_of (fr' _) ?_
        | refine callThen_of (lg _) ?_
        | refine callThen_of (fa _) ?_
        | refine callThen_of (rg _) ?_
        | refine callThen_of (n1 _) ?_
        | refine callThen_of (su _) ?_
        simp (maxSteps := 2000000) only [wk0, wk1, wk2, wk3, wk4, wk5, wk6, Fr.ev, Fr.put, Fr.get, storeA, List.replicate, IntKind.bits, sevalprocAttr, sp, gl, tl, al, nn, hl', castLit, YtdknnaalfoongaaGreatDoor.D5, keep5, ty1, ty2, ty3, ty4, ty22, ty23, ty30, ty35, ty50, ty54]
      exact retB_plain (by simp [nmd_bool]) rfl (by simp)
end Go.Proofs.YtdknnaalfoongaaGreatDoor
