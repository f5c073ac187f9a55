/- The document's answer (chapter 9): do factors make rows? -/
import Derived.Test.YtoncolpkpgbfiaaDoorF11
import Derived.Test.YtoncolpkpgbfiaaDoorD6
import Derived.Test.YtoncolpkpgbfiaaDoorD9
import Derived.Test.YtoncolpkpgbfiaaDoorD11
set_option linter.unusedSimpArgs false
set_option linter.unusedVariables false
set_option maxRecDepth 100000
set_option maxHeartbeats 8000000
namespace Go.Proofs.YtoncolpkpgbfiaaDoor
/-! a number's sign and digits, as they lie -/
def dcS (z : Int) : Bool := decide (z < 0)
def dcD (z : Int) : AV := lstI (digs z.natAbs)
theorem decA_eq (z : Int) : decA z = .agg [.bool (dcS z), dcD z] := rfl
theorem dcD_one (z : Int) : AV.one (dcD z) = true := rfl
theorem dcD_mv (o : Bool) (k : Option TK) (H : Heap) (z : Int) : moveA o k H (dcD z) = some (dcD z, H) := rfl
theorem dcD_cl (z : Int) : (dcD z).cells? = some [dcD z] := rfl
theorem dcA_abs (z : Int) : decA (z.natAbs : Int) = .agg [.bool false, dcD z] := by
  rw [decA_eq]
  have h1 : dcS (z.natAbs : Int) = false := decide_eq_false (by omega)
  have h2 : dcD (z.natAbs : Int) = dcD z := by unfold dcD; rw [Int.natAbs_natCast]
  rw [h1, h2]
theorem sumF_bound {f : Nat → Int} {B : Nat} : ∀ {n : Nat}, (∀ k, k < n → (f k).natAbs ≤ B) → (sumF f n).natAbs ≤ n * B
  | 0, _ => by simp [sumF]
  | n + 1, h => by
    have ih := sumF_bound (n := n) fun k hk => h k (by omega)
    have hn := h n (by omega)
    unfold sumF
    rw [Nat.add_mul, Nat.one_mul]
    omega
def mkP (n : Nat) (G : List Int) (i j k : Nat) : Int := G.getD (i * n + k) 0 * G.getD (j * n + k) 0 * G.getD (36 + k) 0
def mkS (n : Nat) (G : List Int) (i j m : Nat) : Int := sumF (mkP n G i j) m
theorem mkP_b {G : List Int} (hin : ∀ x ∈ G, inI x) (n i j k : Nat) : (mkP n G i j k).natAbs ≤ 784637716923335095479473677900958302012794430558004314112 := by
  have h : ∀ q, (G.getD q 0).natAbs ≤ 9223372036854775808 := fun q => by have := getD_in hin q; unfold inI at this; omega
  unfold mkP
  rw [Int.natAbs_mul, Int.natAbs_mul]
  exact Nat.mul_le_mul (Nat.mul_le_mul (h _) (h _)) (h _)
theorem mkS_l {G : List Int} (hin : ∀ x ∈ G, inI x) (n i j m : Nat) (hm : m ≤ 6) : lenD (mkS n G i j m).natAbs ≤ 60 := by
  have h := sumF_bound (n := m) fun k _ => mkP_b hin n i j k
  have := Nat.mul_le_mul_right 784637716923335095479473677900958302012794430558004314112 hm
  refine lenD_le_of (Nat.lt_of_le_of_lt (Nat.le_trans h this) (by decide))
theorem mkE_l {G : List Int} (hin : ∀ x ∈ G, inI x) (n i j m : Nat) (hm : m ≤ 6) (hj : j ≤ 6) : lenD (mkE n G i j m).natAbs ≤ 60 := by
  have h := sumF_bound (f := fun k => ((G.getD (i * n + k) 0).natAbs : Int) * 2147483648) (B := 19807040628566084398385987584) (n := m) fun k _ => by
    have := getD_in hin (i * n + k)
    unfold inI at this
    omega
  have := Nat.mul_le_mul_right 19807040628566084398385987584 hm
  refine lenD_le_of (Nat.lt_of_le_of_lt (m := 200000000000000000000000000000) ?_ (by decide))
  unfold mkE
  omega
noncomputable def c16 : Code := Tryd.f16.body.getD .skip
theorem b16 : Tryd.f16.body = some c16 := rfl
theorem d16 : fnOk Tryd.f16 c16 = true := by kernel_rfl
def D16 : Nat → List Tag
  | 12 => [.quiet, .pure, .quiet, .pure, .pure, .quiet, .pure, .pure, .quiet, .quiet, .pure, .quiet, .pure, .pure, .quiet, .pure, .pure, .quiet, .quiet, .quiet, .pure, .quiet, .pure, .pure, .quiet, .quiet, .quiet, .seq, .seq]
  | 13 => [.quiet, .pure, .quiet, .pure, .pure, .quiet, .pure, .pure, .quiet, .quiet, .pure, .pure, .quiet, .quiet, .seq, .seq]
  | 14 => [.quiet, .pure, .quiet, .pure, .pure, .quiet, .quiet, .quiet, .quiet, .seq, .seq]
  | 15 => [.quiet, .pure, .pure, .pure, .quiet, .pure, .pure, .quiet, .quiet, .quiet, .quiet, .quiet, .fresh, .seq]
  | _ => []
theorem e16 : drawsOk D16 c16 = true := by kernel_rfl
theorem refMakes_ok (n : Nat) (G : List Int) (M : Nat → Nat → Int) (S : Heap) (hn : 1 ≤ n ∧ n ≤ 6) (hin : ∀ x ∈ G, inI x) (hM : ∀ i j, i < n → j < n → inI (M i j))
    (hmk : ∀ i j, j ≤ i → i < n → ¬ (mkE n G i j (j + 1) + G.getD (36 + j) 0 * 2147483648).natAbs < (mkS n G i j (j + 1) - M i j * 1152921504606846976).natAbs) :
    Call theE 16 [.agg [mtx n n (gF n G), lstI (gD G n)], mtx n n M] S (.bool true) S := by
  have gdl := gD_len G n
  have iG := fun q => getD_in hin q
  have l20 : ∀ x, inI x → lenD x.natAbs ≤ 20 := fun x h => lenD_le_of (by unfold inI at h; omega)
  simp only [mtx, lstI, gdl]
  refine Call.ofC Tryd.func16 YtoncolpkpgbfiaaDoor.b16 YtoncolpkpgbfiaaDoor.d16 YtoncolpkpgbfiaaDoor.e16 (by simp [Tryd.f16]) ?_
  dsimp only [YtoncolpkpgbfiaaDoor.c16, Tryd.f16, Option.getD_some]
  simp (maxSteps := 2000000) only [wk0, wk1, wk2, wk3, wk4, wk5, wk6, Fr.ev, Fr.put, Fr.get, storeA, List.replicate, IntKind.bits, sevalprocAttr, YtoncolpkpgbfiaaDoor.D16, ty1, ty2, ty3, ty4, ty41, ty42, ty55, ty100, ty102]
  obtain ⟨bx, hbx⟩ : ∃ bx : Blk, bx = ⟨[.lst (rowsA n n (gF n G)) n, .lst ((gD G n).map fun x => .int .i64 x) n], 0⟩ := ⟨_, rfl⟩
  have hver : bx.ver = 0 := by rw [hbx]
  have hcel : bx.cells = [.lst (rowsA n n (gF n G)) n, .lst ((gD G n).map fun x => .int .i64 x) n] := by rw [hbx]
  rw [← hbx]
  refine loopC_ind (fun m fr H => ∃ (i : Nat) (T : Heap), i + m = n ∧ fr.get 1 = .lst (rowsA n n M) n ∧ fr.get 2 = .ptr S.length 0 0 ∧ fr.get 5 = .int .i64 (i : Int) ∧ S ++ some bx :: T = H) ?_ (n := n) ⟨0, [], by omega, rfl, rfl, rfl, rfl⟩
  rintro m fr H ⟨i, T, him, g1, g2, g5, rfl⟩ ih
  by_cases hi : (i : Int) < n
  · have hin' : i < n := by omega
    have i0 : (0 : Int) ≤ i := by omega
    have wi : IntKind.i64.wrap ((i : Int) + 1) = ((i + 1 : Nat) : Int) := wrapI (by omega)
    simp (maxSteps := 2000000) only [wk0, wk1, wk2, wk3, wk4, wk5, wk6, Fr.ev, Fr.put, Fr.get, storeA, List.replicate, IntKind.bits, sevalprocAttr, g1, g2, g5, hi, YtoncolpkpgbfiaaDoor.D16, ty1, ty2, ty3, ty4, ty41, ty42, ty55, ty100, ty102]
    refine loopC_ind (fun m' fr H => ∃ (j : Nat) (T : Heap), j + m' = i + 1 ∧ fr.get 1 = .lst (rowsA n n M) n ∧ fr.get 2 = .ptr S.length 0 0 ∧ fr.get 5 = .int .i64 (i : Int) ∧ fr.get 6 = .int .i64 (j : Int) ∧ S ++ some bx :: T = H) ?_ (n := i + 1) ⟨0, T, by omega, by simp [Fr.get, g1], by simp [Fr.get, g2], by simp [Fr.get, g5], by simp [Fr.get], rfl⟩
    clear g1 g2 g5
    rintro m' fr P ⟨j, T, hjm, g1, g2, g5, g6, hP⟩ ih2
    by_cases hj : (j : Int) ≤ i
    · have hji : j ≤ i := by omega
      have hjn : j < n := by omega
      have j0 : (0 : Int) ≤ j := by omega
      have wj : IntKind.i64.wrap ((j : Int) + 1) = ((j + 1 : Nat) : Int) := wrapI (by omega)
      have w2 : IntKind.i64.wrap (2 * (j : Int)) = 2 * (j : Int) := wrapI (by omega)
      have w4 : IntKind.i64.wrap (2 * (j : Int) + 4) = 2 * (j : Int) + 4 := wrapI (by omega)
      have tb := fun L => tail_blk hP L hver
      have hjl : (j : Int) < n := by omega
      have o1 := fun S => decOf_ok (2 * (j : Int) + 4) S (by unfold inI; omega)
      have o2 : ∀ S, Call theE 45 [.int .i64 60] S (decA (2 ^ 60)) S := fun S => decTwo_ok 60 S (by omega)
      have o3 := fun S => decMul_ok (2 * (j : Int) + 4) (2 ^ 60) S (Nat.le_trans (l20 _ (by unfold inI; omega)) (by omega)) (by rw [show ((2 : Int) ^ 60).natAbs = 1152921504606846976 by decide]; exact Nat.le_trans (lenD_le_of (k := 20) (by decide)) (by omega))
      rw [show (2 * (j : Int) + 4) * 2 ^ 60 = mkE n G i j 0 by unfold mkE; rw [sumF, show (2 : Int) ^ 60 = 1152921504606846976 by decide]; omega] at o3
      have tm := fun vs => tail_may hP vs
      have tm2 := fun k vs => tail_may2 hP k vs
      have gi := rowsA_get (c := n) (f := gF n G) hin'
      have gj := rowsA_get (c := n) (f := gF n G) hjn
      have gd := fun k (hk : k < n) => show ((gD G n).map fun x => AV.int .i64 x)[k]? = some (.int .i64 (G.getD (36 + k) 0)) by rw [List.getElem?_map, gD_get hk]; rfl
      have b31 : lenD ((2 : Int) ^ 31).natAbs ≤ 20 := lenD_le_of (by decide)
      have b60 : lenD ((2 : Int) ^ 60).natAbs ≤ 20 := lenD_le_of (by decide)
      have u1 : ∀ S, Call theE 45 [.int .i64 31] S (decA (2 ^ 31)) S := fun S => decTwo_ok 31 S (by omega)
      have u2 := fun (x : Int) (hx : inI x) S => decMul_ok (x.natAbs : Int) (2 ^ 31) S (by rw [Int.natAbs_natCast]; exact Nat.le_trans (l20 x hx) (by omega)) (by omega)
      have u3 := fun (x : Int) (hx : inI x) S => decMul_ok x (2 ^ 31) S (Nat.le_trans (l20 x hx) (by omega)) (by omega)
      have u4 := fun (x : Int) (hx : inI x) S => decMul_ok x (2 ^ 60) S (Nat.le_trans (l20 x hx) (by omega)) (by omega)
      have u5 := fun (x : Int) (hx : inI x) S => decOf_ok x S hx
      simp only [dcA_abs] at u2
      have e31 : (2 : Int) ^ 31 = 2147483648 := by decide
      have e60 : (2 : Int) ^ 60 = 1152921504606846976 := by decide
      generalize ht60 : decA (2 ^ 60) = t60 at o2 o3 u4
      generalize ht31 : decA (2 ^ 31) = t31 at u1 u2 u3
      rw [e31] at u2 u3
      rw [e60] at u4
      simp only [decA_eq] at o1 o3 u2 u3 u4 u5
      iterate 4
        simp (maxSteps := 2000000) only [wk0, wk1, wk2, wk3, wk4, wk5, wk6, Fr.ev, Fr.put, Fr.get, storeA, List.replicate, IntKind.bits, sevalprocAttr, g1, g2, g5, g6, hj, w2, w4, dcD_one, dcD_cl, dcD_mv, tm, tm2, YtoncolpkpgbfiaaDoor.D16, ty1, ty2, ty3, ty4, ty41, ty42, ty55, ty100, ty102]
        try first
          | refine callThen_of (o1 _) ?_
          | refine callThen_of (o2 _) ?_
          | refine callThen_of (o3 _) ?_
      refine loopC_ind (fun m'' fr H => ∃ (k : Nat) (sk : List AV), k + m'' = j + 1 ∧ sk = (if k = 0 then [.bool false, .nils] else [.bool (dcS (mkS n G i j k)), dcD (mkS n G i j k)]) ∧ (fr.get 1 = .lst (rowsA n n M) n ∧ fr.get 2 = .ptr S.length 0 0 ∧ fr.get 5 = .int .i64 (i : Int) ∧ fr.get 6 = .int .i64 (j : Int) ∧ fr.get 7 = .ptr P.length 0 0 ∧ fr.get 8 = .ptr (P.length + 1) 0 0) ∧ fr.get 9 = .int .i64 (k : Int) ∧
        H = P ++ [some ⟨sk, 0⟩, some ⟨[.bool (dcS (mkE n G i j k)), dcD (mkE n G i j k)], 0⟩]) ?_ (n := j + 1) ⟨0, _, by omega, rfl, ⟨by simp [Fr.get, g1], by simp [Fr.get, g2], by simp [Fr.get, g5], by simp [Fr.get, g6], by simp [Fr.get], by simp [Fr.get]⟩, by simp [Fr.get], rfl⟩
      clear g1 g2 g5 g6
      rintro m'' fr H ⟨k, sk, hkm, hsk, ⟨g1, g2, g5, g6, g7, g8⟩, g9, rfl⟩ ih3
      have skl : sk.length = 2 := by rw [hsk]; split <;> rfl
      have skt : List.take 2 sk = sk := List.take_of_length_le (by omega)
      have skd : List.drop 2 sk = [] := List.drop_eq_nil_of_le (by omega)
      by_cases hk : (k : Int) ≤ j
      · have hkj : k ≤ j := by omega
        have hkn : k < n := by omega
        have k0 : (0 : Int) ≤ k := by omega
        have kn : (k : Int) < n := by omega
        have wk : IntKind.i64.wrap ((k : Int) + 1) = ((k + 1 : Nat) : Int) := wrapI (by omega)
        have gik : ((rowF (gF n G) n i).map fun x => AV.int .i64 x)[k]? = some (.int .i64 (G.getD (i * n + k) 0)) := rowF_get (f := gF n G) hkn
        have gjk : ((rowF (gF n G) n j).map fun x => AV.int .i64 x)[k]? = some (.int .i64 (G.getD (j * n + k) 0)) := rowF_get (f := gF n G) hkn
        have gdk := gd k hkn
        have lS := mkS_l hin n i j k (by omega)
        have lP : lenD (mkP n G i j k).natAbs ≤ 60 := by
          have := mkS_l hin n i j k (by omega)
          exact lenD_le_of (Nat.lt_of_le_of_lt (mkP_b hin n i j k) (by decide))
        have lE := mkE_l hin n i j k (by omega) (by omega)
        have ia := iG (i * n + k)
        have ib := iG (j * n + k)
        have id := iG (36 + k)
        have c1 := u5 _ ia
        have c2 := u5 _ ib
        have c4 := u5 _ id
        have lab : lenD (G.getD (i * n + k) 0 * G.getD (j * n + k) 0).natAbs ≤ 40 := by rw [Int.natAbs_mul]; exact lenD_mul (l20 _ ia) (l20 _ ib)
        have c3 := fun S => decMul_ok (G.getD (i * n + k) 0) (G.getD (j * n + k) 0) S (Nat.le_trans (l20 _ ia) (by omega)) (Nat.le_trans (l20 _ ib) (by omega))
        have c5 := fun S => decMul_ok (G.getD (i * n + k) 0 * G.getD (j * n + k) 0) (G.getD (36 + k) 0) S (by omega) (Nat.le_trans (l20 _ id) (by omega))
        have c6 : ∀ S, Call theE 46 [.agg sk, decA (mkP n G i j k)] S (decA (mkS n G i j (k + 1))) S := fun S => by
          rw [hsk]
          by_cases h0 : k = 0
          · subst h0
            rw [if_pos rfl, show mkS n G i j (0 + 1) = mkP n G i j 0 by unfold mkS sumF; simp [sumF]]
            exact decAddZ_ok _ S (by omega)
          · rw [if_neg h0]
            exact decAdd_ok (mkS n G i j k) (mkP n G i j k) S (by omega) (by omega)
        have c7 := u2 _ ia
        have c8 := fun S => decAdd_ok (mkE n G i j k) (((G.getD (i * n + k) 0).natAbs : Int) * 2147483648) S (by omega) (by unfold inI at ia; exact Nat.le_trans (lenD_le_of (k := 40) (by omega)) (by omega))
        rw [show mkE n G i j k + ((G.getD (i * n + k) 0).natAbs : Int) * 2147483648 = mkE n G i j (k + 1) by unfold mkE; rw [sumF]; omega] at c8
        change ∀ S, Call _ _ _ _ (decA (mkP n G i j k)) _ at c5
        have hsk2 : [AV.bool (dcS (mkS n G i j (k + 1))), dcD (mkS n G i j (k + 1))] = if k + 1 = 0 then [.bool false, .nils] else [.bool (dcS (mkS n G i j (k + 1))), dcD (mkS n G i j (k + 1))] := by rw [if_neg (by omega)]
        simp only [decA_eq] at c1 c2 c3 c4 c5 c6 c8
        generalize mkP n G i j k = pk at *
        generalize G.getD (i * n + k) 0 = va at *
        generalize G.getD (j * n + k) 0 = vb at *
        generalize G.getD (36 + k) 0 = vd at *
        simp (maxSteps := 2000000) only [wk0, wk1, wk2, wk3, wk4, wk5, wk6, Fr.ev, Fr.put, Fr.get, storeA, List.replicate, IntKind.bits, sevalprocAttr, g1, g2, g5, g6, g7, g8, g9, hk, tb, hcel, gi, gj, gik, gjk, gdk, i0, hi, j0, hjl, k0, kn, wk, skl, skt, skd, tm, tm2, dcD_one, dcD_cl, dcD_mv, Int.toNat_natCast, Nat.mul_one, List.length_map, gdl, YtoncolpkpgbfiaaDoor.D16, ty1, ty2, ty3, ty4, ty41, ty42, ty55, ty100, ty102]
        repeat
          first
          | refine callThen_of (c1 _) ?_
          | refine callThen_of (c2 _) ?_
          | refine callThen_of (c3 _) ?_
          | refine callThen_of (c4 _) ?_
          | refine callThen_of (c5 _) ?_
          | refine callThen_of (c6 _) ?_
          | refine callThen_of (u1 _) ?_
          | refine callThen_of (c7 _) ?_
          | refine callThen_of (c8 _) ?_
          simp (maxSteps := 2000000) only [wk0, wk1, wk2, wk3, wk4, wk5, wk6, Fr.ev, Fr.put, Fr.get, storeA, List.replicate, IntKind.bits, sevalprocAttr, g1, g2, g5, g6, g7, g8, g9, hk, tb, hcel, gi, gj, gik, gjk, gdk, i0, hi, j0, hjl, k0, kn, wk, skl, skt, skd, tm, tm2, dcD_one, dcD_cl, dcD_mv, Int.toNat_natCast, Nat.mul_one, List.length_map, gdl, YtoncolpkpgbfiaaDoor.D16, ty1, ty2, ty3, ty4, ty41, ty42, ty55, ty100, ty102]
        exact ih3 (m'' - 1) _ _ (by omega) ⟨k + 1, _, by omega, hsk2, ⟨by simp [Fr.get, g1], by simp [Fr.get, g2], by simp [Fr.get, g5], by simp [Fr.get, g6], by simp [Fr.get, g7], by simp [Fr.get, g8]⟩, by simp [Fr.get], rfl⟩
      · obtain rfl : k = j + 1 := by omega
        rw [if_neg (by omega)] at hsk
        subst hsk
        have gdj := gd j hjn
        have gMi := rowsA_get (c := n) (f := M) hin'
        have gMj := rowF_get (f := M) (i := i) hjn
        have lS := mkS_l hin n i j (j + 1) (by omega)
        have lE := mkE_l hin n i j (j + 1) (by omega) (by omega)
        have id := iG (36 + j)
        have im := hM i j hin' hjn
        have c1 := u5 _ id
        have c2 := u3 _ id
        have c3 := fun S => decAdd_ok (mkE n G i j (j + 1)) (G.getD (36 + j) 0 * 2147483648) S (by omega) (by unfold inI at id; exact Nat.le_trans (lenD_le_of (k := 40) (by omega)) (by omega))
        have c4 := u5 _ im
        have c5 := u4 _ im
        have c6 := fun S => decSub_ok (mkS n G i j (j + 1)) (M i j * 1152921504606846976) S (by omega) (by unfold inI at im; exact Nat.le_trans (lenD_le_of (k := 50) (by omega)) (by omega))
        have lmay : lenD (mkE n G i j (j + 1) + G.getD (36 + j) 0 * 2147483648).natAbs ≤ 100 := by
          unfold inI at id
          have := (lenD_le _ _).1 lE
          exact lenD_le_of (by omega)
        have ldif : lenD (mkS n G i j (j + 1) - M i j * 1152921504606846976).natAbs ≤ 100 := by
          unfold inI at im
          have := (lenD_le _ _).1 lS
          exact lenD_le_of (by omega)
        have c7 := fun S => decLess_ok (mkE n G i j (j + 1) + G.getD (36 + j) 0 * 2147483648).natAbs (mkS n G i j (j + 1) - M i j * 1152921504606846976).natAbs S (by omega) (by omega)
        rw [decide_eq_false (hmk i j hji hin')] at c7
        simp only [decA_eq] at c3 c6
        change ∀ S, Call _ _ [dcD _, dcD _] _ _ _ at c7
        generalize mkE n G i j (j + 1) + G.getD (36 + j) 0 * 2147483648 = may at *
        generalize mkS n G i j (j + 1) - M i j * 1152921504606846976 = dif at *
        simp (maxSteps := 2000000) only [wk0, wk1, wk2, wk3, wk4, wk5, wk6, Fr.ev, Fr.put, Fr.get, storeA, List.replicate, IntKind.bits, sevalprocAttr, g1, g2, g5, g6, g7, g8, g9, hk, tb, hcel, gi, gj, gdj, gMi, gMj, i0, hi, j0, hjl, wj, tm, tm2, dcD_one, dcD_cl, dcD_mv, Int.toNat_natCast, Nat.mul_one, List.length_map, gdl, YtoncolpkpgbfiaaDoor.D16, ty1, ty2, ty3, ty4, ty41, ty42, ty55, ty100, ty102]
        repeat
          first
          | refine callThen_of (c1 _) ?_
          | refine callThen_of (u1 _) ?_
          | refine callThen_of (c2 _) ?_
          | refine callThen_of (c3 _) ?_
          | refine callThen_of (c4 _) ?_
          | refine callThen_of (o2 _) ?_
          | refine callThen_of (c5 _) ?_
          | refine callThen_of (c6 _) ?_
          | refine callThen_of (c7 _) ?_
          simp (maxSteps := 2000000) only [wk0, wk1, wk2, wk3, wk4, wk5, wk6, Fr.ev, Fr.put, Fr.get, storeA, List.replicate, IntKind.bits, sevalprocAttr, g1, g2, g5, g6, g7, g8, g9, hk, tb, hcel, gi, gj, gdj, gMi, gMj, i0, hi, j0, hjl, wj, tm, tm2, dcD_one, dcD_cl, dcD_mv, Int.toNat_natCast, Nat.mul_one, List.length_map, gdl, YtoncolpkpgbfiaaDoor.D16, ty1, ty2, ty3, ty4, ty41, ty42, ty55, ty100, ty102]
        exact ih2 (m' - 1) _ _ (by omega) ⟨j + 1, T ++ [_, _, _], by omega, by simp [Fr.get, g1], by simp [Fr.get, g2], by simp [Fr.get, g5], by simp [Fr.get], by rw [← hP]; simp; exact ⟨rfl, rfl, rfl⟩⟩
    · obtain rfl : j = i + 1 := by omega
      simp (maxSteps := 2000000) only [wk0, wk1, wk2, wk3, wk4, wk5, wk6, Fr.ev, Fr.put, Fr.get, storeA, List.replicate, IntKind.bits, sevalprocAttr, g1, g2, g5, g6, hj, wi, YtoncolpkpgbfiaaDoor.D16, ty1, ty2, ty3, ty4, ty41, ty42, ty55, ty100, ty102]
      exact ih (m - 1) _ _ (by omega) ⟨i + 1, T, by omega, by simp [Fr.get, g1], by simp [Fr.get, g2], by simp [Fr.get], hP⟩
  · obtain rfl : i = n := by omega
    simp (maxSteps := 2000000) only [wk0, wk1, wk2, wk3, wk4, wk5, wk6, Fr.ev, Fr.put, Fr.get, storeA, List.replicate, IntKind.bits, sevalprocAttr, g1, g2, g5, hi, YtoncolpkpgbfiaaDoor.D16, ty1, ty2, ty3, ty4, ty41, ty42, ty55, ty100, ty102]
    exact retB_plain (by simp [nmd_bool]) rfl (by simp)
end Go.Proofs.YtoncolpkpgbfiaaDoor
