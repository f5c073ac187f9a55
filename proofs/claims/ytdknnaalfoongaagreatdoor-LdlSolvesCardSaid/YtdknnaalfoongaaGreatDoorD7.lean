/- Decimals: quotients, cut down, and what is left. -/
import Derived.Test.YtdknnaalfoongaaGreatDoorD6
set_option linter.unusedSimpArgs false
set_option linter.unusedVariables false
set_option maxRecDepth 100000
set_option maxHeartbeats 4000000
namespace Go.Proofs.YtdknnaalfoongaaGreatDoor
def hD (Q m k : Nat) : Int := if m ≤ k then ((dgt Q k : Nat) : Int) else 0
def qD (Q i c k : Nat) : Int := if k = i then (c : Int) else if i < k then ((dgt Q k : Nat) : Int) else 0
theorem hD_qD (Q i : Nat) : hD Q (i + 1) = qD Q i 0 := by
  funext k; unfold hD qD
  by_cases h : k = i
  · rw [if_pos h, if_neg (by omega)]; rfl
  · rw [if_neg h]
    by_cases h2 : i < k
    · rw [if_pos h2, if_pos (by omega)]
    · rw [if_neg h2, if_neg (by omega)]
theorem qD_hD (Q i : Nat) : qD Q i (dgt Q i) = hD Q i := by
  funext k; unfold hD qD
  by_cases h : k = i
  · subst h; rw [if_pos rfl, if_pos (Nat.le_refl _)]
  · rw [if_neg h]
    by_cases h2 : i < k
    · rw [if_pos h2, if_pos (by omega)]
    · rw [if_neg h2, if_neg (by omega)]
theorem qD_at (Q i c : Nat) : qD Q i c i = (c : Int) := by unfold qD; rw [if_pos rfl]
theorem qD_set (Q i c : Nat) : (fun k => if k = i then ((c + 1 : Nat) : Int) else qD Q i c k) = qD Q i (c + 1) := by
  funext k; unfold qD
  by_cases h : k = i
  · rw [if_pos h, if_pos h]
  · rw [if_neg h, if_neg h, if_neg h]
theorem hD_zero (Q n : Nat) : fnL (hD Q 0) n = dgN Q n := by
  rw [← fnL_dgt]; exact fnL_congr fun k _ => by unfold hD; rw [if_pos (Nat.zero_le _)]
theorem hD_top {n : Nat} (Q : Nat) : fnL (hD Q n) n = fnL (fun _ => 0) n := fnL_congr fun k hk => by unfold hD; rw [if_neg (by omega)]
theorem intsA_one (l : List Int) : (l.map fun x => AV.int .i64 x).all AV.one = true := by simp [AV.one]
theorem intsA_nmd (n : Nat) (l : List Int) : ∀ x ∈ l.map (fun x => AV.int .i64 x), Nmd n x := by
  intro x hx
  obtain ⟨y, _, rfl⟩ := List.mem_map.1 hx
  exact .int _ _
/-- A number of the digits of a list that is frozen. -/
theorem trimL_ok (n i : Nat) (S : Heap) (hi : i ≤ 100000) (hn : n < 10 ^ i) : Call theE 127 [.lst ((dgN n i).map fun x => .int .i64 x) i] S (lstI (digs n)) S := by
  have hl : lenD n ≤ i := (lenD_le _ _).2 hn
  refine Call.ofC Tryz.func127 YtdknnaalfoongaaGreatDoor.b127 YtdknnaalfoongaaGreatDoor.d127 YtdknnaalfoongaaGreatDoor.e127 (by simp [Tryz.f127]) ?_
  dsimp only [YtdknnaalfoongaaGreatDoor.c127, Tryz.f127, Option.getD_some]
  simp (maxSteps := 2000000) only [wk0, wk1, wk2, wk3, wk4, wk5, wk6, Fr.ev, Fr.put, Fr.get, storeA, List.replicate, IntKind.bits, sevalprocAttr, lstI, YtdknnaalfoongaaGreatDoor.D127, ty3, ty4, ty113]
  refine loopC_ind (fun m fr H => lenD n ≤ m ∧ m ≤ i ∧ fr.get 0 = .lst ((dgN n m).map fun x => .int .i64 x) m ∧ H = S) ?_ (n := i) ⟨hl, by omega, rfl, rfl⟩
  rintro m fr H ⟨hlm, hmi, g0, rfl⟩ ih
  cases m with
  | zero =>
    have h0 : lenD n = 0 := by omega
    simp (maxSteps := 2000000) only [wk0, wk1, wk2, wk3, wk4, wk5, wk6, Fr.ev, Fr.put, Fr.get, storeA, List.replicate, IntKind.bits, sevalprocAttr, g0, h0, YtdknnaalfoongaaGreatDoor.D127, ty3, ty4, ty113]
    exact retB_plain (by simp [nmd_lst]) (by simp [packA, lstI, digs, h0, dgN_zero]) (by simp)
  | succ k =>
    have w1 : IntKind.i64.wrap (((k + 1 : Nat) : Int) - 1) = (k : Int) := by rw [wrapI (by omega)]; omega
    have gk := dgN_getA n (show k < k + 1 by omega)
    have p1 : (0 : Int) < ((k + 1 : Nat) : Int) := by omega
    have p2 : (0 : Int) ≤ (k : Int) := by omega
    have p3 : (k : Int) < ((k + 1 : Nat) : Int) := by omega
    have p4 : (k : Int) ≤ ((k + 1 : Nat) : Int) := by omega
    by_cases hz : ((dgt n k : Nat) : Int) = 0
    · have hn' : n < 10 ^ k := dgt_zero ((lenD_le _ _).1 hlm) (by omega)
      have hl' := (lenD_le _ _).2 hn'
      have ll : k ≤ ((dgN n (k + 1)).map fun x => AV.int .i64 x).length := by rw [List.length_map, dgN_len]; omega
      have tk : List.take k ((dgN n (k + 1)).map fun x => AV.int .i64 x) = (dgN n k).map fun x => .int .i64 x := by rw [← List.map_take, dgN_take n (by omega)]
      cases k with
      | zero =>
        simp (maxSteps := 2000000) only [wk0, wk1, wk2, wk3, wk4, wk5, wk6, Fr.ev, Fr.put, Fr.get, storeA, List.replicate, IntKind.bits, sevalprocAttr, g0, w1, gk, p1, p2, p3, p4, hz, ll, tk, bd_none, bd_some, bv_int, sa_lst, Int.toNat_natCast, Nat.mul_one, Nat.zero_add, List.drop_zero, Nat.zero_mul, Nat.sub_zero, YtdknnaalfoongaaGreatDoor.D127, ty3, ty4, ty113]
        exact ih 0 _ _ (by omega) ⟨hl', by omega, by simp [Fr.get, dgN_zero], rfl⟩
      | succ k =>
        have p5 : ¬ (0 : Int) = ((k + 1 : Nat) : Int) := by omega
        simp (maxSteps := 2000000) only [wk0, wk1, wk2, wk3, wk4, wk5, wk6, Fr.ev, Fr.put, Fr.get, storeA, List.replicate, IntKind.bits, sevalprocAttr, g0, w1, gk, p1, p2, p3, p4, p5, hz, ll, tk, bd_none, bd_some, bv_int, sa_lst, Int.toNat_natCast, Nat.mul_one, Nat.zero_add, List.drop_zero, Nat.zero_mul, Nat.sub_zero, YtdknnaalfoongaaGreatDoor.D127, ty3, ty4, ty113]
        exact ih (k + 1) _ _ (by omega) ⟨hl', by omega, by simp [Fr.get], rfl⟩
    · have h0 : lenD n = k + 1 := by
        have := (lt_lenD n k).2 (by
          rcases Nat.lt_or_ge n (10 ^ k) with h | h
          · rw [dgt_zero_of_lt h] at hz; exact absurd rfl hz
          · exact h)
        omega
      simp (maxSteps := 2000000) only [wk0, wk1, wk2, wk3, wk4, wk5, wk6, Fr.ev, Fr.put, Fr.get, storeA, List.replicate, IntKind.bits, sevalprocAttr, g0, w1, gk, p1, p2, p3, p4, hz, Int.toNat_natCast, Nat.mul_one, Nat.zero_add, YtdknnaalfoongaaGreatDoor.D127, ty3, ty4, ty113]
      exact retB_plain (by simp [nmd_lst]) (by simp [packA, lstI, digs, h0, dgN_len]) (by simp)
theorem numA_dec (neg : Bool) (n : Nat) : numA neg n = decA (if neg then -(n : Int) else n) := by
  rw [decA_S, numA_S]
  cases neg with
  | false => exact decS_eq (by simp) (by simp)
  | true => exact decS_eq (by simp) (by simp)
theorem blkD_set {S : Heap} {i j v : Nat} {x : Option Blk} (h : i ≠ j) : blkAt (S.set i x) j v = blkAt S j v := by
  unfold blkAt; rw [List.getElem?_set_ne h]
theorem blkD_self {S : Heap} {i v : Nat} {cs : List AV} (h : i < S.length) : blkAt (S.set i (some ⟨cs, v⟩)) i v = some ⟨cs, v⟩ := by
  unfold blkAt; rw [List.getElem?_set_self h]; simp
structure DvS (S P : Heap) (sx sy : Bool) (a b : Nat) (cs : List AV) : Prop where
  h0 : blkAt P S.length 0 = some ⟨[.bool sx, .lst ((digs a).map fun x => .int .i64 x) (lenD a)], 0⟩
  h1 : blkAt P (S.length + 1) 0 = some ⟨[.bool sy, .lst ((digs b).map fun x => .int .i64 x) (lenD b)], 0⟩
  h2 : blkAt P (S.length + 2) 0 = some ⟨[.bool false, .nils], 0⟩
  h3 : blkAt P (S.length + 3) 0 = some ⟨[.bool false, .nils], 0⟩
  h5 : blkAt P (S.length + 5) 0 = some ⟨cs, 0⟩
  pre : P.take S.length = S
theorem DvS.len {S P : Heap} {sx sy : Bool} {a b : Nat} {cs : List AV} (h : DvS S P sx sy a b cs) : S.length + 5 < P.length := blk_lt h.h5
theorem DvS.app {S P : Heap} {sx sy : Bool} {a b : Nat} {cs : List AV} (h : DvS S P sx sy a b cs) (L : Heap) : DvS S (P ++ L) sx sy a b cs :=
  ⟨blk_app h.h0, blk_app h.h1, blk_app h.h2, blk_app h.h3, blk_app h.h5, by rw [List.take_append_of_le_length (by have := h.len; omega)]; exact h.pre⟩
theorem DvS.set {S P : Heap} {sx sy : Bool} {a b : Nat} {cs : List AV} (h : DvS S P sx sy a b cs) (cs' : List AV) : DvS S (P.set (S.length + 5) (some ⟨cs', 0⟩)) sx sy a b cs' :=
  ⟨by rw [blkD_set (by omega)]; exact h.h0, by rw [blkD_set (by omega)]; exact h.h1, by rw [blkD_set (by omega)]; exact h.h2, by rw [blkD_set (by omega)]; exact h.h3, blkD_self h.len, by rw [List.take_set_of_le (by omega)]; exact h.pre⟩
def qZ (sx sy : Bool) (a b : Nat) : Int := if sx && decide (0 < a % b) then (if sy then ((a / b : Nat) : Int) + 1 else -((a / b : Nat) : Int) - 1) else (if !(sx == sy) then -((a / b : Nat) : Int) else ((a / b : Nat) : Int))
def rZ (sx : Bool) (a b : Nat) : Int := if sx && decide (0 < a % b) then ((b - a % b : Nat) : Int) else ((a % b : Nat) : Int)
noncomputable def c128 : Code := Tryz.f128.body.getD .skip
theorem b128 : Tryz.f128.body = some c128 := rfl
theorem d128 : fnOk Tryz.f128 c128 = true := by kernel_rfl
def D128 : Nat → List Tag
  | 10 => [.pure, .quiet, .pure, .quiet, .pure, .pure, .quiet, .quiet, .fresh, .seq]
  | 15 => [.quiet, .quiet, .seq, .seq]
  | 16 => [.quiet, .quiet, .seq, .seq]
  | 17 => [.quiet, .peek, .lay, .seq]
  | _ => []
theorem e128 : drawsOk D128 c128 = true := by kernel_rfl
theorem decDiv1_ok (sx sy : Bool) (a b : Nat) (S : Heap) (ha : lenD a ≤ 30000) (hb : lenD b ≤ 30000) (hb0 : 0 < b) : Call theE 128 [decS sx a, decS sy b] S (.tup [decA (qZ sx sy a b), decA (rZ sx a b)]) S := by
  have da := digs_len a
  have db := digs_len b
  obtain ⟨n, hn⟩ : ∃ n, lenD a = n := ⟨_, rfl⟩
  have w1 : IntKind.i64.wrap ((n : Int) - 1) = (n : Int) - 1 := wrapI (by omega)
  have mk : ∀ (x y z w u : Option Blk) e, makeSliceA (S ++ [x, y, z, w, u]) (.slice e 1 8 [.int .i64 0]) (.int .i64 n) (.int .i64 n) = some (.sl (S.length + 5) 0 0 n n 1, S ++ [x, y, z, w, u, some ⟨(fnL (fun _ => 0) n).map fun x => .int .i64 x, 0⟩]) := fun x y z w u e => make_at (by omega)
  have nm0 : (∀ x ∈ ([] : List AV), Nmd 0 x) = True := eq_true (by simp)
  have less := fun (r : Nat) (hr : lenD r ≤ 30001) S => decLess_ok r b S (by omega) (by omega)
  simp only [lstI, digs_len] at less
  refine Call.ofC Tryz.func128 YtdknnaalfoongaaGreatDoor.b128 YtdknnaalfoongaaGreatDoor.d128 YtdknnaalfoongaaGreatDoor.e128 (by simp [Tryz.f128]) ?_
  dsimp only [YtdknnaalfoongaaGreatDoor.c128, Tryz.f128, Option.getD_some]
  simp (maxSteps := 2000000) only [wk0, wk1, wk2, wk3, wk4, wk5, wk6, Fr.ev, Fr.put, Fr.get, storeA, List.replicate, IntKind.bits, sevalprocAttr, decS, lstI, da, db, hn, w1, mk, nm0, Nat.le_add_right, List.drop_zero, List.take_nil, List.length_nil, YtdknnaalfoongaaGreatDoor.D128, ty1, ty2, ty3, ty4, ty113, ty115]
  refine loopC_ind (fun m fr H => m ≤ n ∧ fr.get 2 = .ptr S.length 0 0 ∧ fr.get 3 = .ptr (S.length + 1) 0 0 ∧ fr.get 4 = .ptr (S.length + 2) 0 0 ∧ fr.get 5 = .ptr (S.length + 3) 0 0 ∧ fr.get 6 = .lst ((digs (a / 10 ^ m % b)).map fun x => .int .i64 x) (lenD (a / 10 ^ m % b)) ∧
    fr.get 7 = .sl (S.length + 5) 0 0 n n 1 ∧ fr.get 8 = .int .i64 ((m : Int) - 1) ∧ DvS S H sx sy a b ((fnL (hD (a / b) m) n).map fun x => .int .i64 x)) ?_ (n := n)
    ⟨Nat.le_refl _, rfl, rfl, rfl, rfl, by
      have e : a / 10 ^ n % b = 0 := by rw [← hn, Nat.div_eq_of_lt (lt_pow_lenD a), Nat.zero_mod]
      rw [e, lenD_zero]; simp [Fr.get, digs, lenD_zero, dgN_zero], rfl, rfl, by
      rw [hD_top]
      exact ⟨by rw [blkAt_app0, hn]; rfl, by rw [blkAt_app]; rfl, by rw [blkAt_app]; rfl, by rw [blkAt_app]; rfl, by rw [blkAt_app]; rfl, by simp⟩⟩
  rintro m fr H ⟨hmn, g2, g3, g4, g5, g6, g7, g8, hH⟩ ih
  have hR := Nat.mod_lt (a / 10 ^ m) hb0
  have lR : lenD (a / 10 ^ m % b) ≤ 30000 := lenD_mono (by omega) hb
  cases m with
  | zero =>
    have p1 : ¬ (0 : Int) ≤ ((0 : Nat) : Int) - 1 := by omega
    rw [Nat.pow_zero, Nat.div_one] at g6 hR lR
    rw [hD_zero] at hH
    have qn : a / b < 10 ^ n := by rw [← hn]; exact Nat.lt_of_le_of_lt (Nat.div_le_self a b) (lt_pow_lenD a)
    have lQ : lenD (a / b) ≤ 30000 := lenD_mono (Nat.div_le_self a b) ha
    have tr := fun S => trimL_ok (a / b) n S (by omega) qn
    simp only [lstI, digs_len] at tr
    have hz := numA_dec (!(sx == sy)) (a / b)
    have nu1 := fun S => decNum1_ok (!(sx == sy)) (a / b) S (by omega)
    have nu2 := fun S => decNum1_ok false (a % b) S (by omega)
    have mi := fun S => decMinus_ok b (a % b) S (by omega) (by omega)
    have nu3 := fun S => decNum1_ok false (b - a % b) S (by have := lenD_mono (Nat.sub_le b (a % b)) hb; omega)
    have o1 := fun S => decOf_ok 1 S (by unfold inI; omega)
    have lz : lenD (if !(sx == sy) then -((a / b : Nat) : Int) else ((a / b : Nat) : Int)).natAbs ≤ 80000 := by
      split
      · rw [Int.natAbs_neg, Int.natAbs_natCast]; omega
      · rw [Int.natAbs_natCast]; omega
    have l1 : lenD (1 : Int).natAbs ≤ 80000 := Nat.le_trans ((lenD_le 1 1).2 (by omega)) (by omega)
    have ad := fun S => decAdd_ok _ 1 S lz l1
    have su := fun S => decSub_ok _ 1 S lz l1
    have eZ : decA (qZ sx sy a b) = if sx && decide (0 < a % b) then (if sy then decA (((a / b : Nat) : Int) + 1) else decA (-((a / b : Nat) : Int) - 1)) else numA (!(sx == sy)) (a / b) := by
      rw [hz]; unfold qZ
      split
      · split <;> rfl
      · rfl
    have eR : decA (rZ sx a b) = if sx && decide (0 < a % b) then numA false (b - a % b) else numA false (a % b) := by
      rw [numA_dec, numA_dec]; unfold rZ
      split <;> rfl
    rw [← hz] at ad su
    rw [eZ, eR]
    simp only [numA, decA, lstI, digs_len, Bool.false_and] at nu1 nu2 nu3 mi o1 ad su ⊢
    clear eZ eR hz lz
    obtain ⟨P, hP⟩ : ∃ P, H.set (S.length + 5) none = P := ⟨_, rfl⟩
    have lP : P.length = H.length := by rw [← hP]; simp
    have hHl := hH.len
    have k00 : blkAt P S.length 0 = some ⟨[.bool sx, .lst ((digs a).map fun x => .int .i64 x) (lenD a)], 0⟩ := by rw [← hP, blkD_set (by omega)]; exact hH.h0
    have k10 : blkAt P (S.length + 1) 0 = some ⟨[.bool sy, .lst ((digs b).map fun x => .int .i64 x) (lenD b)], 0⟩ := by rw [← hP, blkD_set (by omega)]; exact hH.h1
    have k20 : blkAt P (S.length + 2) 0 = some ⟨[.bool false, .nils], 0⟩ := by rw [← hP, blkD_set (by omega)]; exact hH.h2
    have k30 : blkAt P (S.length + 3) 0 = some ⟨[.bool false, .nils], 0⟩ := by rw [← hP, blkD_set (by omega)]; exact hH.h3
    have preP : P.take S.length = S := by rw [← hP, List.take_set_of_le (by omega)]; exact hH.pre
    have k0 := fun L => blk_app (L := L) k00
    have k1 := fun L => blk_app (L := L) k10
    have k2 := fun L => blk_app (L := L) k20
    have s2 := fun (c : Option Blk) (L : Heap) => show (P ++ L).set (S.length + 2) c = P.set (S.length + 2) c ++ L by rw [List.set_append_left _ _ (by omega)]
    have s3 := fun (c d : Option Blk) (L : Heap) => show (P.set (S.length + 2) c ++ L).set (S.length + 3) d = (P.set (S.length + 2) c).set (S.length + 3) d ++ L by rw [List.set_append_left _ _ (by simp; omega)]
    have k3 := fun (c : Option Blk) (L : Heap) => show blkAt (P.set (S.length + 2) c ++ L) (S.length + 3) 0 = some ⟨[.bool false, .nils], 0⟩ from blk_app (by rw [blkD_set (by omega)]; exact k30)
    have r2 := fun (x : List AV) (d : Option Blk) (L : Heap) => show blkAt ((P.set (S.length + 2) (some ⟨x, 0⟩)).set (S.length + 3) d ++ L) (S.length + 2) 0 = some ⟨x, 0⟩ from blk_app (by rw [blkD_set (by omega)]; exact blkD_self (by omega))
    have r3 := fun (c : Option Blk) (y : List AV) (L : Heap) => show blkAt ((P.set (S.length + 2) c).set (S.length + 3) (some ⟨y, 0⟩) ++ L) (S.length + 3) 0 = some ⟨y, 0⟩ from blk_app (blkD_self (by simp; omega))
    have oi := fun (c : Option Blk) (L : Heap) => show onlyIn (P ++ L) (P.set (S.length + 2) c ++ L) = True by rw [← s2]; exact eq_true (onlyIn_set (k2 L) rfl)
    have fin := fun (c d : Option Blk) (L : Heap) => show S = ((P.set (S.length + 2) c).set (S.length + 3) d ++ L).take S.length by
      rw [List.take_append_of_le_length (by simp; omega), List.take_set_of_le (by omega), List.take_set_of_le (by omega), preP]
    have nmq : (∀ x ∈ (dgN (a / b) n).map (fun x => AV.int .i64 x), Nmd 0 x) = True := eq_true (intsA_nmd 0 _)
    have tk5 : List.take n ((dgN (a / b) n).map fun x => AV.int .i64 x) = (dgN (a / b) n).map fun x => .int .i64 x := List.take_of_length_le (by rw [List.length_map, dgN_len]; omega)
    have ms1 := fun (vs : List AV) => show mayStore S.length P.length vs = True from eq_true (.inl (by omega))
    have ms2 := fun (vs : List AV) => show mayStore S.length (P.length + 1) vs = True from eq_true (.inl (by omega))
    have h5 := hH.h5
    have ln5 : n ≤ n := Nat.le_refl _
    simp (maxSteps := 2000000) only [wk0, wk1, wk2, wk3, wk4, wk5, wk6, Fr.ev, Fr.put, Fr.get, storeA, List.replicate, IntKind.bits, sevalprocAttr, g2, g3, g4, g5, g6, g7, g8, p1, h5, nmq, tk5, hP, k00, k10, ln5, Nat.le_add_right, dgN_len, List.length_map, Nat.mul_one, Nat.zero_add, List.drop_zero, YtdknnaalfoongaaGreatDoor.D128, ty1, ty2, ty3, ty4, ty113, ty115]
    refine callThen_of (tr _) ?_
    simp (maxSteps := 2000000) only [wk0, wk1, wk2, wk3, wk4, wk5, wk6, Fr.ev, Fr.put, Fr.get, storeA, List.replicate, IntKind.bits, sevalprocAttr, g2, g3, g4, g5, g6, g7, g8, k00, k10, YtdknnaalfoongaaGreatDoor.D128, ty1, ty2, ty3, ty4, ty113, ty115]
    refine callThen_of (nu1 _) ?_
    simp (maxSteps := 2000000) only [wk0, wk1, wk2, wk3, wk4, wk5, wk6, Fr.ev, Fr.put, Fr.get, storeA, List.replicate, IntKind.bits, sevalprocAttr, g2, g3, g4, g5, g6, g7, g8, k0, k00, ms1, ms2, YtdknnaalfoongaaGreatDoor.D128, ty1, ty2, ty3, ty4, ty113, ty115]
    refine callThen_of (nu2 _) ?_
    have pr : ((0 : Int) < ((lenD (a % b) : Nat) : Int)) ↔ 0 < a % b := by
      have := lt_lenD (a % b) 0
      rw [Nat.pow_zero] at this
      generalize a % b = r at *
      omega
    by_cases hr : 0 < a % b
    · have hr1 := pr.2 hr
      have hr2 := decide_eq_true hr
      rw [hr2]
      cases sx with
      | false =>
        simp (maxSteps := 2000000) only [wk0, wk1, wk2, wk3, wk4, wk5, wk6, Fr.ev, Fr.put, Fr.get, storeA, List.replicate, IntKind.bits, sevalprocAttr, g2, g3, g4, g5, g6, g7, g8, ms1, ms2, k0, k2, k3, s2, s3, oi, r2, r3, YtdknnaalfoongaaGreatDoor.D128, ty1, ty2, ty3, ty4, ty113, ty115]
        exact retB_plain (by simp [nmd_agg, nmd_bool, nmd_lst]) rfl (fin _ _ _)
      | true =>
        simp (maxSteps := 2000000) only [wk0, wk1, wk2, wk3, wk4, wk5, wk6, Fr.ev, Fr.put, Fr.get, storeA, List.replicate, IntKind.bits, sevalprocAttr, g2, g3, g4, g5, g6, g7, g8, ms1, ms2, k0, k1, k2, k3, s2, s3, oi, r2, r3, hr1, YtdknnaalfoongaaGreatDoor.D128, ty1, ty2, ty3, ty4, ty113, ty115]
        refine callThen_of (mi _) ?_
        simp (maxSteps := 2000000) only [wk0, wk1, wk2, wk3, wk4, wk5, wk6, Fr.ev, Fr.put, Fr.get, storeA, List.replicate, IntKind.bits, sevalprocAttr, g2, g3, g4, g5, g6, g7, g8, ms1, ms2, k0, k1, k2, k3, s2, s3, oi, r2, r3, hr1, YtdknnaalfoongaaGreatDoor.D128, ty1, ty2, ty3, ty4, ty113, ty115]
        refine callThen_of (nu3 _) ?_
        cases sy with
        | false =>
          simp (maxSteps := 2000000) only [wk0, wk1, wk2, wk3, wk4, wk5, wk6, Fr.ev, Fr.put, Fr.get, storeA, List.replicate, IntKind.bits, sevalprocAttr, g2, g3, g4, g5, g6, g7, g8, ms1, ms2, k0, k1, k2, k3, s2, s3, oi, r2, r3, hr1, YtdknnaalfoongaaGreatDoor.D128, ty1, ty2, ty3, ty4, ty113, ty115]
          refine callThen_of (o1 _) ?_
          simp (maxSteps := 2000000) only [wk0, wk1, wk2, wk3, wk4, wk5, wk6, Fr.ev, Fr.put, Fr.get, storeA, List.replicate, IntKind.bits, sevalprocAttr, g2, g3, g4, g5, g6, g7, g8, ms1, ms2, k0, k1, k2, k3, s2, s3, oi, r2, r3, hr1, YtdknnaalfoongaaGreatDoor.D128, ty1, ty2, ty3, ty4, ty113, ty115]
          refine callThen_of (su _) ?_
          simp (maxSteps := 2000000) only [wk0, wk1, wk2, wk3, wk4, wk5, wk6, Fr.ev, Fr.put, Fr.get, storeA, List.replicate, IntKind.bits, sevalprocAttr, g2, g3, g4, g5, g6, g7, g8, ms1, ms2, k0, k1, k2, k3, s2, s3, oi, r2, r3, hr1, YtdknnaalfoongaaGreatDoor.D128, ty1, ty2, ty3, ty4, ty113, ty115]
          exact retB_plain (by simp [nmd_agg, nmd_bool, nmd_lst]) rfl (fin _ _ _)
        | true =>
          simp (maxSteps := 2000000) only [wk0, wk1, wk2, wk3, wk4, wk5, wk6, Fr.ev, Fr.put, Fr.get, storeA, List.replicate, IntKind.bits, sevalprocAttr, g2, g3, g4, g5, g6, g7, g8, ms1, ms2, k0, k1, k2, k3, s2, s3, oi, r2, r3, hr1, YtdknnaalfoongaaGreatDoor.D128, ty1, ty2, ty3, ty4, ty113, ty115]
          refine callThen_of (o1 _) ?_
          simp (maxSteps := 2000000) only [wk0, wk1, wk2, wk3, wk4, wk5, wk6, Fr.ev, Fr.put, Fr.get, storeA, List.replicate, IntKind.bits, sevalprocAttr, g2, g3, g4, g5, g6, g7, g8, ms1, ms2, k0, k1, k2, k3, s2, s3, oi, r2, r3, hr1, YtdknnaalfoongaaGreatDoor.D128, ty1, ty2, ty3, ty4, ty113, ty115]
          refine callThen_of (ad _) ?_
          simp (maxSteps := 2000000) only [wk0, wk1, wk2, wk3, wk4, wk5, wk6, Fr.ev, Fr.put, Fr.get, storeA, List.replicate, IntKind.bits, sevalprocAttr, g2, g3, g4, g5, g6, g7, g8, ms1, ms2, k0, k1, k2, k3, s2, s3, oi, r2, r3, hr1, YtdknnaalfoongaaGreatDoor.D128, ty1, ty2, ty3, ty4, ty113, ty115]
          exact retB_plain (by simp [nmd_agg, nmd_bool, nmd_lst]) rfl (fin _ _ _)
    · have hr1 := fun h => hr (pr.1 h)
      have hr2 := decide_eq_false hr
      rw [hr2]
      cases sx with
      | false =>
        simp (maxSteps := 2000000) only [wk0, wk1, wk2, wk3, wk4, wk5, wk6, Fr.ev, Fr.put, Fr.get, storeA, List.replicate, IntKind.bits, sevalprocAttr, g2, g3, g4, g5, g6, g7, g8, ms1, ms2, k0, k2, k3, s2, s3, oi, r2, r3, YtdknnaalfoongaaGreatDoor.D128, ty1, ty2, ty3, ty4, ty113, ty115]
        exact retB_plain (by simp [nmd_agg, nmd_bool, nmd_lst]) rfl (fin _ _ _)
      | true =>
        have hr1' : ¬ (0 : Int) < ((lenD (a % b) : Nat) : Int) := hr1
        simp (maxSteps := 2000000) only [wk0, wk1, wk2, wk3, wk4, wk5, wk6, Fr.ev, Fr.put, Fr.get, storeA, List.replicate, IntKind.bits, sevalprocAttr, g2, g3, g4, g5, g6, g7, g8, ms1, ms2, k0, k2, k3, s2, s3, oi, r2, r3, hr1', YtdknnaalfoongaaGreatDoor.D128, ty1, ty2, ty3, ty4, ty113, ty115]
        exact retB_plain (by simp [nmd_agg, nmd_bool, nmd_lst]) rfl (fin _ _ _)
  | succ i =>
    have e8 : ((i + 1 : Nat) : Int) - 1 = (i : Int) := by omega
    rw [e8] at g8
    obtain ⟨e1, e2⟩ := quD_dgt hb0 (A := a) i
    have hd := dgt_lt a i
    generalize hRR : a / 10 ^ (i + 1) % b = R at *
    have cc := digs_consA hd R
    have clt := cons_lt hd R
    rw [Nat.add_comm (lenD R) 1] at cc clt
    have f0 := fun L => (hH.app L).h0
    have f1 := fun L => (hH.app L).h1
    have f00 := hH.h0
    have p1 : (0 : Int) ≤ (i : Int) := by omega
    have p2 : (i : Int) < (n : Int) := by omega
    have wi : IntKind.i64.wrap ((i : Int) - 1) = (i : Int) - 1 := wrapI (by omega)
    have ga := digs_getA a (show i < lenD a by omega)
    have tk : List.take (lenD R) ((digs R).map fun x => AV.int .i64 x) = (digs R).map fun x => .int .i64 x := List.take_of_length_le (by rw [List.length_map, digs_len]; omega)
    have al := intsA_one (digs R)
    have dR := digs_len R
    have a1 : (1 + lenD R) * 8 ≤ maxBytes := by unfold maxBytes; omega
    have a2 : 1 + lenD R ≤ 9223372036854775807 := by omega
    have a3 : lenD R ≤ lenD R := Nat.le_refl _
    have a4 : ¬ (1 + lenD R) = 0 := by omega
    have tr := trim_ok H.length (lenD R) (1 + lenD R) (1 + lenD R) (10 * R + dgt a i) (lenD R) (H ++ [some ⟨(dgN (10 * R + dgt a i) (1 + lenD R)).map fun x => .int .i64 x, lenD R⟩]) (by omega) clt (by rw [blkAt_app0, blkAt_zero])
    rw [slD_pos a4] at tr
    have lr : lenD (10 * R + dgt a i) ≤ 30001 := Nat.le_trans ((lenD_le _ _).2 clt) (by omega)
    have f5 := fun L => (hH.app L).h5
    have b1 : S.length ≤ H.length := by have := hH.len; omega
    have ma := fun (x : AV) (G : Heap) => show mayAppend S.length .append [.sl H.length 0 0 1 1 1, x] G = True from eq_true (.inl b1)
    have lrR : lenD (10 * R + dgt a i) ≤ 1 + lenD R := (lenD_le _ _).2 clt
    generalize hr : 10 * R + dgt a i = r at *
    simp (maxSteps := 2000000) only [wk0, wk1, wk2, wk3, wk4, wk5, wk6, Fr.ev, Fr.put, Fr.get, storeA, List.replicate, IntKind.bits, sevalprocAttr, g2, g3, g4, g5, g6, g7, g8, p1, p2, hn, f0, f00, ga, ma, tk, al, dR, a1, a2, a3, cc, Int.toNat_natCast, Nat.mul_one, Nat.zero_add, List.length_map, List.cons_append, List.nil_append, List.length_cons, List.length_nil, YtdknnaalfoongaaGreatDoor.D128, ty1, ty2, ty3, ty4, ty113, ty115]
    refine callThen_of tr ?_
    simp (maxSteps := 2000000) only [wk0, wk1, wk2, wk3, wk4, wk5, wk6, Fr.ev, Fr.put, Fr.get, storeA, List.replicate, IntKind.bits, sevalprocAttr, g2, g3, g4, g5, g6, g7, g8, mv_slD, YtdknnaalfoongaaGreatDoor.D128, ty1, ty2, ty3, ty4, ty113, ty115]
    have hc : ∀ c, c * b ≤ r → c < 10 := fun c h => by
      have h1 : c * b < 10 * b := Nat.lt_of_le_of_lt h (by omega)
      exact Nat.lt_of_mul_lt_mul_right h1
    by_cases h0 : lenD r = 0
    · have r0 : r = 0 := by have := (lenD_le 0 r).1 (by omega); simpa using this
      have ls0 := fun S => less 0 (by rw [lenD_zero]; omega) S
      rw [show digs 0 = [] by unfold digs; rw [lenD_zero]; rfl, lenD_zero, decide_eq_true hb0] at ls0
      rw [h0, slD_zero]
      refine loopC_of ?_
      simp (maxSteps := 2000000) only [wk0, wk1, wk2, wk3, wk4, wk5, wk6, Fr.ev, Fr.put, Fr.get, storeA, List.replicate, IntKind.bits, sevalprocAttr, g2, g3, g4, g5, g7, g8, f1, YtdknnaalfoongaaGreatDoor.D128, ty1, ty2, ty3, ty4, ty113, ty115]
      refine callThen_of (ls0 _) ?_
      simp (maxSteps := 2000000) only [wk0, wk1, wk2, wk3, wk4, wk5, wk6, Fr.ev, Fr.put, Fr.get, storeA, List.replicate, IntKind.bits, sevalprocAttr, g2, g3, g4, g5, g7, g8, wi, YtdknnaalfoongaaGreatDoor.D128, ty1, ty2, ty3, ty4, ty113, ty115]
      refine ih i _ _ (by omega) ⟨by omega, by simp [Fr.get, g2], by simp [Fr.get, g3], by simp [Fr.get, g4], by simp [Fr.get, g5], ?_, by simp [Fr.get, g7], by simp [Fr.get], ?_⟩
      · rw [e2, r0, Nat.zero_mod, lenD_zero]; simp [Fr.get, digs, lenD_zero, dgN_zero]
      · have e : hD (a / b) (i + 1) = hD (a / b) i := by rw [hD_qD, ← qD_hD, e1, r0, Nat.zero_div]
        rw [← e]; exact hH.app _
    · rw [slD_pos h0]
      have nm1 : (∀ x ∈ (dgN r (1 + lenD R)).map (fun x => AV.int .i64 x), Nmd 0 x) = True := eq_true (intsA_nmd 0 _)
      have tk2 : List.take (lenD r) ((dgN r (1 + lenD R)).map fun x => AV.int .i64 x) = (digs r).map fun x => .int .i64 x := by rw [← List.map_take, dgN_take r lrR]; rfl
      have ls := fun S => less r lr S
      refine loopC_of ?_
      simp (maxSteps := 2000000) only [wk0, wk1, wk2, wk3, wk4, wk5, wk6, Fr.ev, Fr.put, Fr.get, storeA, List.replicate, IntKind.bits, sevalprocAttr, g2, g3, g4, g5, g7, g8, f1, b1, nm1, tk2, lrR, dgN_len, List.length_map, Nat.mul_one, Nat.zero_add, List.drop_zero, List.set_cons_zero, YtdknnaalfoongaaGreatDoor.D128, ty1, ty2, ty3, ty4, ty113, ty115]
      refine callThen_of (ls _) ?_
      by_cases hlt : r < b
      · rw [decide_eq_true hlt]
        simp (maxSteps := 2000000) only [wk0, wk1, wk2, wk3, wk4, wk5, wk6, Fr.ev, Fr.put, Fr.get, storeA, List.replicate, IntKind.bits, sevalprocAttr, g2, g3, g4, g5, g7, g8, wi, YtdknnaalfoongaaGreatDoor.D128, ty1, ty2, ty3, ty4, ty113, ty115]
        refine ih i _ _ (by omega) ⟨by omega, by simp [Fr.get, g2], by simp [Fr.get, g3], by simp [Fr.get, g4], by simp [Fr.get, g5], ?_, by simp [Fr.get, g7], by simp [Fr.get], ?_⟩
        · rw [e2, Nat.mod_eq_of_lt hlt]; simp [Fr.get]
        · have e : hD (a / b) (i + 1) = hD (a / b) i := by rw [hD_qD, ← qD_hD, e1, Nat.div_eq_of_lt hlt]
          rw [← e]; exact hH.app _
      · rw [decide_eq_false hlt]
        have mi := fun S => decMinus_ok r b S (by omega) (by omega)
        simp only [lstI, digs_len] at mi
        have gx := fnL_getA (hD (a / b) (i + 1)) (show i < n by omega)
        rw [hD_qD, qD_at] at gx
        have st : ((fnL (qD (a / b) i 0) n).map fun x => AV.int .i64 x).set i (.int .i64 1) = (fnL (qD (a / b) i 1) n).map fun x => .int .i64 x := by
          have := fnL_setA (qD (a / b) i 0) n i ((0 + 1 : Nat) : Int)
          rw [qD_set] at this
          exact this
        have s5 := fun (x : Option Blk) (L : Heap) => show (H ++ L).set (S.length + 5) x = H.set (S.length + 5) x ++ L by rw [List.set_append_left _ _ hH.len]
        have w01 : IntKind.i64.wrap (((0 : Nat) : Int) + 1) = ((0 + 1 : Nat) : Int) := by rw [wrapI (by omega)]; rfl
        have p3 : i + 1 ≤ n := by omega
        rw [hD_qD] at f5
        simp (maxSteps := 2000000) only [wk0, wk1, wk2, wk3, wk4, wk5, wk6, Fr.ev, Fr.put, Fr.get, storeA, List.replicate, IntKind.bits, sevalprocAttr, g2, g3, g4, g5, g7, g8, f1, YtdknnaalfoongaaGreatDoor.D128, ty1, ty2, ty3, ty4, ty113, ty115]
        refine callThen_of (mi _) ?_
        simp (maxSteps := 2000000) only [wk0, wk1, wk2, wk3, wk4, wk5, wk6, Fr.ev, Fr.put, Fr.get, storeA, List.replicate, IntKind.bits, sevalprocAttr, g2, g3, g4, g5, g7, g8, p1, p2, p3, f5, gx, st, s5, w01, fnL_len, List.length_map, Int.toNat_natCast, Nat.mul_one, Nat.zero_add, YtdknnaalfoongaaGreatDoor.D128, ty1, ty2, ty3, ty4, ty113, ty115]
        refine loopC_ind (fun m fr H' => ∃ c, c * b ≤ r ∧ r - c * b = m ∧ fr.get 2 = .ptr S.length 0 0 ∧ fr.get 3 = .ptr (S.length + 1) 0 0 ∧ fr.get 4 = .ptr (S.length + 2) 0 0 ∧ fr.get 5 = .ptr (S.length + 3) 0 0 ∧ fr.get 6 = .lst ((digs (r - c * b)).map fun x => .int .i64 x) (lenD (r - c * b)) ∧
          fr.get 7 = .sl (S.length + 5) 0 0 n n 1 ∧ fr.get 8 = .int .i64 (i : Int) ∧ DvS S H' sx sy a b ((fnL (qD (a / b) i c) n).map fun x => .int .i64 x)) ?_ (n := r - b)
          ⟨1, by omega, by omega, by simp [Fr.get, g2], by simp [Fr.get, g3], by simp [Fr.get, g4], by simp [Fr.get, g5], by simp [Fr.get], by simp [Fr.get, g7], by simp [Fr.get, g8], (hH.set _).app _⟩
        rintro m' fr H' ⟨c, hcb, hcm, g2, g3, g4, g5, g6, g7, g8, hH'⟩ ih'
        have hc9 := hc c hcb
        have lrc : lenD (r - c * b) ≤ 30001 := lenD_mono (by omega) lr
        have ls' := fun S => less (r - c * b) lrc S
        have f1' := hH'.h1
        have f5' := hH'.h5
        by_cases hlt' : r - c * b < b
        · rw [decide_eq_true hlt'] at ls'
          have hcq : c = r / b := by
            have := Nat.div_eq_of_lt_le (m := r) (n := b) (k := c) hcb (by rw [Nat.add_mul]; omega)
            exact this.symm
          have hrm : r % b = r - c * b := by rw [Nat.mod_def, ← hcq, Nat.mul_comm]
          simp (maxSteps := 2000000) only [wk0, wk1, wk2, wk3, wk4, wk5, wk6, Fr.ev, Fr.put, Fr.get, storeA, List.replicate, IntKind.bits, sevalprocAttr, g2, g3, g4, g5, g6, g7, g8, f1', YtdknnaalfoongaaGreatDoor.D128, ty1, ty2, ty3, ty4, ty113, ty115]
          refine callThen_of (ls' _) ?_
          simp (maxSteps := 2000000) only [wk0, wk1, wk2, wk3, wk4, wk5, wk6, Fr.ev, Fr.put, Fr.get, storeA, List.replicate, IntKind.bits, sevalprocAttr, g2, g3, g4, g5, g6, g7, g8, wi, YtdknnaalfoongaaGreatDoor.D128, ty1, ty2, ty3, ty4, ty113, ty115]
          refine ih i _ _ (by omega) ⟨by omega, by simp [Fr.get, g2], by simp [Fr.get, g3], by simp [Fr.get, g4], by simp [Fr.get, g5], ?_, by simp [Fr.get, g7], by simp [Fr.get], ?_⟩
          · rw [e2, hrm]; simp [Fr.get, g6]
          · have e : qD (a / b) i c = hD (a / b) i := by rw [← qD_hD, e1, hcq]
            rw [← e]; exact hH'
        · rw [decide_eq_false hlt'] at ls'
          have mi' := fun S => decMinus_ok (r - c * b) b S (by omega) (by omega)
          simp only [lstI, digs_len] at mi'
          have gx' := fnL_getA (qD (a / b) i c) (show i < n by omega)
          rw [qD_at] at gx'
          have st' := fnL_setA (qD (a / b) i c) n i ((c + 1 : Nat) : Int)
          rw [qD_set] at st'
          have wc : IntKind.i64.wrap ((c : Int) + 1) = ((c + 1 : Nat) : Int) := wrapI (by omega)
          have ec : r - c * b - b = r - (c + 1) * b := by rw [Nat.add_mul]; omega
          rw [ec] at mi'
          simp (maxSteps := 2000000) only [wk0, wk1, wk2, wk3, wk4, wk5, wk6, Fr.ev, Fr.put, Fr.get, storeA, List.replicate, IntKind.bits, sevalprocAttr, g2, g3, g4, g5, g6, g7, g8, f1', YtdknnaalfoongaaGreatDoor.D128, ty1, ty2, ty3, ty4, ty113, ty115]
          refine callThen_of (ls' _) ?_
          simp (maxSteps := 2000000) only [wk0, wk1, wk2, wk3, wk4, wk5, wk6, Fr.ev, Fr.put, Fr.get, storeA, List.replicate, IntKind.bits, sevalprocAttr, g2, g3, g4, g5, g6, g7, g8, f1', YtdknnaalfoongaaGreatDoor.D128, ty1, ty2, ty3, ty4, ty113, ty115]
          refine callThen_of (mi' _) ?_
          simp (maxSteps := 2000000) only [wk0, wk1, wk2, wk3, wk4, wk5, wk6, Fr.ev, Fr.put, Fr.get, storeA, List.replicate, IntKind.bits, sevalprocAttr, g2, g3, g4, g5, g6, g7, g8, p1, p2, p3, f5', gx', st', wc, fnL_len, List.length_map, Int.toNat_natCast, Nat.mul_one, Nat.zero_add, YtdknnaalfoongaaGreatDoor.D128, ty1, ty2, ty3, ty4, ty113, ty115]
          exact ih' (r - (c + 1) * b) _ _ (by rw [Nat.add_mul]; omega) ⟨c + 1, by rw [Nat.add_mul]; omega, rfl, by simp [Fr.get, g2], by simp [Fr.get, g3], by simp [Fr.get, g4], by simp [Fr.get, g5], by simp [Fr.get], by simp [Fr.get, g7], by simp [Fr.get, g8], hH'.set _⟩
theorem decDiv_ok (x y : Int) (S : Heap) (hx : lenD x.natAbs ≤ 30000) (hy : lenD y.natAbs ≤ 30000) (h0 : y ≠ 0) : Call theE 128 [decA x, decA y] S (.tup [decA (x / y), decA (x % y)]) S := by
  have := decDiv1_ok (decide (x < 0)) (decide (y < 0)) x.natAbs y.natAbs S hx hy (by omega)
  obtain ⟨a, ha⟩ : ∃ a : Nat, x.natAbs = a := ⟨_, rfl⟩
  obtain ⟨b, hb⟩ : ∃ b : Nat, y.natAbs = b := ⟨_, rfl⟩
  have hb0 : 0 < b := by omega
  have key : qZ (decide (x < 0)) (decide (y < 0)) a b = x / y ∧ rZ (decide (x < 0)) a b = x % y := by
    have hm := Nat.mod_lt a hb0
    have hd := Nat.div_add_mod a b
    have hdi : ((b : Nat) : Int) * ((a / b : Nat) : Int) + ((a % b : Nat) : Int) = (a : Int) := by rw [← Int.natCast_mul, ← Int.natCast_add, hd]
    have uni : ∀ (y q r : Int), y ≠ 0 → y * q + r = x → 0 ≤ r → r < y.natAbs → q = x / y ∧ r = x % y := by
      intro y q r hy e h1 h2
      have hr : x % y = r := by
        rw [← e, Int.mul_add_emod_self_left]
        exact Int.emod_eq_of_lt h1 (by omega) |>.trans rfl |> fun h => by
          rcases Int.lt_or_gt_of_ne hy with hh | hh
          · rw [← Int.emod_neg]; exact Int.emod_eq_of_lt h1 (by omega)
          · exact Int.emod_eq_of_lt h1 (by omega)
      refine ⟨?_, hr.symm⟩
      have e2 := Int.mul_ediv_add_emod x y
      rw [hr] at e2
      have e3 : y * (x / y) = y * q := by omega
      exact (Int.eq_of_mul_eq_mul_left hy e3).symm
    generalize hq : a / b = q at *
    generalize hrr : a % b = r at *
    unfold qZ rZ
    rw [hq, hrr]
    by_cases hx0 : x < 0 <;> by_cases hy0 : y < 0
    · obtain rfl : y = -(b : Int) := by omega
      rw [decide_eq_true hx0, decide_eq_true hy0]
      by_cases hr : 0 < r
      · simp only [decide_eq_true hr, Bool.and_self, if_true]
        refine uni _ _ _ (by omega) ?_ (by omega) (by omega)
        have : -(b : Int) * ((q : Int) + 1) = -((b : Int) * q) - b := by rw [Int.neg_mul, Int.mul_add]; omega
        omega
      · simp only [decide_eq_false hr, Bool.and_false, Bool.false_eq_true, if_false, BEq.rfl, Bool.not_true]
        refine uni _ _ _ (by omega) ?_ (by omega) (by omega)
        have : -(b : Int) * (q : Int) = -((b : Int) * q) := Int.neg_mul _ _
        omega
    · obtain rfl : y = (b : Int) := by omega
      rw [decide_eq_true hx0, decide_eq_false hy0]
      by_cases hr : 0 < r
      · simp only [decide_eq_true hr, Bool.and_self, if_true, Bool.false_eq_true, if_false]
        refine uni _ _ _ (by omega) ?_ (by omega) (by omega)
        have : (b : Int) * (-(q : Int) - 1) = -((b : Int) * q) - b := by rw [Int.mul_sub, Int.mul_neg]; omega
        omega
      · have e : (!(true == false)) = true := rfl
        simp only [decide_eq_false hr, Bool.and_false, Bool.false_eq_true, if_false, e, if_true]
        refine uni _ _ _ (by omega) ?_ (by omega) (by omega)
        have : (b : Int) * (-(q : Int)) = -((b : Int) * q) := Int.mul_neg _ _
        omega
    · obtain rfl : y = -(b : Int) := by omega
      have e : (!(false == true)) = true := rfl
      rw [decide_eq_false hx0, decide_eq_true hy0]
      simp only [Bool.false_and, Bool.false_eq_true, if_false, e, if_true]
      refine uni _ _ _ (by omega) ?_ (by omega) (by omega)
      have : -(b : Int) * (-(q : Int)) = (b : Int) * q := Int.neg_mul_neg _ _
      omega
    · obtain rfl : y = (b : Int) := by omega
      rw [decide_eq_false hx0, decide_eq_false hy0]
      simp only [Bool.false_and, Bool.false_eq_true, if_false, BEq.rfl, Bool.not_true]
      exact uni _ _ _ (by omega) (by omega) (by omega) (by omega)
  rw [ha, hb, key.1, key.2] at this
  rw [decA_S x, decA_S y, ha, hb]
  exact this
end Go.Proofs.YtdknnaalfoongaaGreatDoor
