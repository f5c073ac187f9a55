/- mat: a matrix times a vector; the document's May; layer 8's helpers. -/
import Derived.Test.YtdknnaalfoongaaGreatDoorM3
set_option linter.unusedSimpArgs false
set_option linter.unusedVariables false
set_option maxRecDepth 100000
set_option maxHeartbeats 4000000
namespace Go.Proofs.YtdknnaalfoongaaGreatDoor

theorem take36g (c : Nat) (f : Nat → Nat → Int) (k : Nat) : List.take 36 ((gridP c f k).map fun x => AV.int .i64 x) = (gridP c f k).map fun x => .int .i64 x := take36 (gridP_len c f k)
theorem all36g (l : List Int) : (l.map fun x => AV.int .i64 x).all AV.one = true := by simp [AV.one]
theorem allInts_self : ∀ (l : List Int), allInts (l.map fun x => .int .i64 x) (l.map fun x => .int .i64 x) = some true
  | [] => rfl
  | x :: l => by simp [allInts, allInts_self l]
def appF (f : Nat → Nat → Int) (c : Nat) (v : List Int) (i : Nat) : Int := rnd (dotZ (rowF f c i) v) (2 ^ 20)
def appL (f : Nat → Nat → Int) (c : Nat) (v : List Int) (k : Nat) : List Int := (List.range k).map fun i => bndI (appF f c v i)
def appO (f : Nat → Nat → Int) (c : Nat) (v : List Int) (k : Nat) : Bool := (List.range k).any fun i => ovrB (appF f c v i)
theorem apply_ok (r c : Nat) (f : Nat → Nat → Int) (v : List Int) (S : Heap) (hr : 1 ≤ r ∧ r ≤ 6) (hc : 1 ≤ c ∧ c ≤ 6) (hv : v.length = c) (hf : ∀ i j, i < r → j < c → inI (f i j)) (hv' : ∀ x ∈ v, inI x) :
    Call theE 39 [mk r c f, lstI v] S (.tup [lstI (appL f c v r), .bool (appO f c v r), .nili]) S := by
  have h36 : r * c ≤ 36 := by have := Nat.mul_le_mul hr.2 hc.2; omega
  have ck := fun S => check_ok r c f S hr hc
  obtain ⟨B, hB⟩ : ∃ B, (AV.int .i64 r :: AV.int .i64 c :: (gridP c f (r * c)).map fun x => AV.int .i64 x) = B := ⟨_, rfl⟩
  have mks : ∀ e, makeSliceA (S ++ [some ⟨.int .i64 r :: .int .i64 c :: (gridP c f (r * c)).map fun x => .int .i64 x, 0⟩]) (.slice e 1 8 [.int .i64 0]) (.int .i64 0) (.int .i64 r) =
      some (.sl (S.length + 1) 0 0 0 r 1, S ++ [some ⟨.int .i64 r :: .int .i64 c :: (gridP c f (r * c)).map fun x => .int .i64 x, 0⟩, some ⟨[], 0⟩]) := by
    intro e
    unfold makeSliceA
    simp only
    rw [if_pos ⟨by omega, by omega, by unfold maxBytes; omega, by omega, rfl⟩]
    simp [zeros]
  simp only [mk, matA] at ck
  refine Call.ofC Tryz.func39 YtdknnaalfoongaaGreatDoor.b39 YtdknnaalfoongaaGreatDoor.d39 YtdknnaalfoongaaGreatDoor.e39 (by simp [Tryz.f39]) ?_
  dsimp only [YtdknnaalfoongaaGreatDoor.c39, Tryz.f39, Option.getD_some]
  simp (maxSteps := 2000000) only [wk0, wk1, wk2, wk3, wk4, wk5, wk6, Fr.ev, Fr.put, Fr.get, storeA, List.replicate, IntKind.bits, sevalprocAttr, mk, matA, lstI, List.length_map, gridP_len, take36g, YtdknnaalfoongaaGreatDoor.D39, ty1, ty2, ty3, ty4, ty22, ty28, ty30, ty35, ty79]
  refine callThen_of (ck _) ?_
  simp (maxSteps := 2000000) only [wk0, wk1, wk2, wk3, wk4, wk5, wk6, Fr.ev, Fr.put, Fr.get, storeA, List.replicate, IntKind.bits, sevalprocAttr, List.length_map, gridP_len, take36g, hv, mks, YtdknnaalfoongaaGreatDoor.D39, ty1, ty2, ty3, ty4, ty22, ty28, ty30, ty35, ty79]
  refine loopC_ind (fun m fr H => ∃ i cap : Nat, i + m = r ∧ fr.get 28 = .int .i64 i ∧ fr.get 27 = .int .i64 r ∧ fr.get 7 = .sl (S.length + 1) i 0 i cap 1 ∧ fr.get 8 = .bool (appO f c v i) ∧ fr.get 2 = .ptr S.length 0 0 ∧ fr.get 1 = .lst (v.map fun x => .int .i64 x) c ∧
    H = S ++ [some ⟨.int .i64 r :: .int .i64 c :: (gridP c f (r * c)).map fun x => .int .i64 x, 0⟩, some ⟨(appL f c v i).map fun x => .int .i64 x, i⟩]) ?_ (n := r) ⟨0, r, by omega, rfl, rfl, rfl, rfl, rfl, rfl, rfl⟩
  rintro m fr H ⟨i, cap, him, g28, g27, g7, g8, g2, g1, rfl⟩ ih
  by_cases hi : (i : Int) < r
  · have hin : i < r := by omega
    have wi : IntKind.i64.wrap ((i : Int) + 1) = ((i + 1 : Nat) : Int) := wrapI (by omega)
    have hic : i * c + c ≤ r * c := by
      have := Nat.mul_le_mul_right c (show i + 1 ≤ r by omega)
      rw [Nat.add_mul, Nat.one_mul] at this
      omega
    have e2 : (i + 1) * c = i * c + c := by rw [Nat.add_mul, Nat.one_mul]
    have w1 : IntKind.i64.wrap ((i : Int) * c) = ((i * c : Nat) : Int) := by rw [wrapI (by rw [← Int.natCast_mul]; omega)]; simp
    have w3 : IntKind.i64.wrap (((i + 1 : Nat) : Int) * c) = ((i * c + c : Nat) : Int) := by rw [← e2, wrapI (by rw [← Int.natCast_mul, e2]; omega)]; simp
    have k1 : (0 : Int) ≤ ((i * c : Nat) : Int) := by omega
    have k2 : ((i * c : Nat) : Int) ≤ ((i * c + c : Nat) : Int) := by omega
    have k3 : ((i * c + c : Nat) : Int) ≤ 36 := by omega
    have k4 : ¬ ((i * c : Nat) : Int) = ((i * c + c : Nat) : Int) := by omega
    have k5 : i * c + c - i * c = c := by omega
    have md := fun L => mdot_ok _ _ (rowF f c i) v (S ++ (some ⟨.int .i64 r :: .int .i64 c :: (gridP c f (r * c)).map fun x => .int .i64 x, 0⟩ :: L)) (row_sl _ S.length r c i f r c (36 - i * c) hin h36 (by rw [blkAt_app0, blkAt_zero])) (SlI.lst v) (by simp [rowF, hv]) (by simp [rowF]; omega) (by
      intro x hx
      obtain ⟨k, hk, rfl⟩ := List.mem_map.1 hx
      exact hf i k hin (List.mem_range.1 hk)) hv'
    simp only [hv] at md
    have al : (appL f c v i).length = i := by simp [appL]
    have aps : (appL f c v i).map (fun x => AV.int .i64 x) ++ [AV.int .i64 (bndI (appF f c v i))] = (appL f c v (i + 1)).map fun x => .int .i64 x := by unfold appL; rw [List.range_succ, List.map_append, List.map_append]; rfl
    have ao : appO f c v (i + 1) = (appO f c v i || ovrB (appF f c v i)) := by unfold appO; rw [List.range_succ, List.any_append]; simp
    have a1 : (i + 1) * 8 ≤ maxBytes := by unfold maxBytes; omega
    have a2 : i + 1 ≤ 9223372036854775807 := by omega
    change ∀ L, Call _ _ _ _ (.tup [.int .i64 (bndI (appF f c v i)), .bool (ovrB (appF f c v i))]) _ at md
    simp (maxSteps := 2000000) only [wk0, wk1, wk2, wk3, wk4, wk5, wk6, Fr.ev, Fr.put, Fr.get, storeA, List.replicate, IntKind.bits, sevalprocAttr, g28, g27, g7, g8, g2, g1, hi, w1, wi, w3, k1, k2, k3, k4, k5, bd_none, bd_some, bv_int, sa_arr, List.length_map, gridP_len, Int.toNat_natCast, Nat.mul_one, YtdknnaalfoongaaGreatDoor.D39, ty1, ty2, ty3, ty4, ty22, ty28, ty30, ty35, ty79]
    refine callThen_of (md _) ?_
    cases hb : appO f c v i
    · rw [hb, Bool.false_or] at ao
      simp (maxSteps := 2000000) only [wk0, wk1, wk2, wk3, wk4, wk5, wk6, Fr.ev, Fr.put, Fr.get, storeA, List.replicate, IntKind.bits, sevalprocAttr, g28, g27, g7, g8, g2, g1, List.length_map, al, aps, a1, a2, Nat.mul_one, wi, hb, YtdknnaalfoongaaGreatDoor.D39, ty1, ty2, ty3, ty4, ty22, ty28, ty30, ty35, ty79]
      exact ih (m - 1) _ _ (by omega) ⟨i + 1, i + 1, by omega, by simp [Fr.get], by simp [Fr.get, g27], by simp [Fr.get], by simp [Fr.get, ao], by simp [Fr.get, g2], by simp [Fr.get, g1], rfl⟩
    · rw [hb, Bool.true_or] at ao
      simp (maxSteps := 2000000) only [wk0, wk1, wk2, wk3, wk4, wk5, wk6, Fr.ev, Fr.put, Fr.get, storeA, List.replicate, IntKind.bits, sevalprocAttr, g28, g27, g7, g8, g2, g1, List.length_map, al, aps, a1, a2, Nat.mul_one, wi, hb, YtdknnaalfoongaaGreatDoor.D39, ty1, ty2, ty3, ty4, ty22, ty28, ty30, ty35, ty79]
      exact ih (m - 1) _ _ (by omega) ⟨i + 1, i + 1, by omega, by simp [Fr.get], by simp [Fr.get, g27], by simp [Fr.get], by simp [Fr.get, ao], by simp [Fr.get, g2], by simp [Fr.get, g1], rfl⟩
  · obtain rfl : i = r := by omega
    have al : (appL f c v i).length = i := by simp [appL]
    simp (maxSteps := 2000000) only [wk0, wk1, wk2, wk3, wk4, wk5, wk6, Fr.ev, Fr.put, Fr.get, storeA, List.replicate, IntKind.bits, sevalprocAttr, g28, g27, g7, g8, g2, g1, hi, YtdknnaalfoongaaGreatDoor.D39, ty1, ty2, ty3, ty4, ty22, ty28, ty30, ty35, ty79]
    refine ⟨[lstI (appL f c v i), .bool (appO f c v i), .nili], ?_, rfl, by simp⟩
    refine .cons _ _ _ _ ?_ (.cons _ _ _ _ (.same _ (.bool _)) (.cons _ _ _ _ (.same _ .nili) .nil))
    have h := Fin1.sl (base := S.length) (H := S ++ [some ⟨.int .i64 i :: .int .i64 c :: (gridP c f (i * c)).map fun x => .int .i64 x, 0⟩, some ⟨(appL f c v i).map fun x => .int .i64 x, i⟩]) (S.length + 1) i 0 i cap 1 _ (by omega) (show blkAt _ _ _ = some ⟨(appL f c v i).map fun x => .int .i64 x, i⟩ by rw [blkAt_app, show (1 : Nat) = 0 + 1 from rfl, blkAt_succ, blkAt_zero]) (by
      intro x hx
      obtain ⟨y, _, rfl⟩ := List.mem_map.1 hx
      exact .int _ _) (by simp [al])
    have e : List.take (i * 1) (List.drop 0 ((appL f c v i).map fun x => AV.int .i64 x)) = (appL f c v i).map fun x => AV.int .i64 x := by
      rw [List.drop_zero, List.take_of_length_le (by simp [al])]
    rw [e] at h
    simpa [lstI, al] using h
theorem may_ok (l : List (List Int)) (S : Heap) : Call theE 20 [lstL l] S (.bool (decide (MayR l))) S := by
  refine Call.ofC Tryz.func20 YtdknnaalfoongaaGreatDoor.b20 YtdknnaalfoongaaGreatDoor.d20 YtdknnaalfoongaaGreatDoor.e20 (by simp [Tryz.f20]) ?_
  dsimp only [YtdknnaalfoongaaGreatDoor.c20, Tryz.f20, Option.getD_some]
  by_cases h1 : (l.length : Int) < 1
  · rw [decide_eq_false (fun h => by have := h.1; omega)]
    simp (maxSteps := 2000000) only [wk0, wk1, wk2, wk3, wk4, wk5, wk6, Fr.ev, Fr.put, Fr.get, storeA, List.replicate, IntKind.bits, sevalprocAttr, lstL, h1, YtdknnaalfoongaaGreatDoor.D20, ty3, ty4, ty22, ty23]
    exact retB_plain (by simp [nmd_bool]) rfl (by simp)
  by_cases h2 : (6 : Int) < l.length
  · rw [decide_eq_false (fun h => by have := h.1; omega)]
    simp (maxSteps := 2000000) only [wk0, wk1, wk2, wk3, wk4, wk5, wk6, Fr.ev, Fr.put, Fr.get, storeA, List.replicate, IntKind.bits, sevalprocAttr, lstL, h1, h2, YtdknnaalfoongaaGreatDoor.D20, ty3, ty4, ty22, ty23]
    exact retB_plain (by simp [nmd_bool]) rfl (by simp)
  have h0 : 0 < l.length := by omega
  have g0 := get_lstL h0
  have k0 : (0 : Int) < l.length := by omega
  have e0 := getD_lst h0
  by_cases h3 : ((l[0]).length : Int) < 1
  · rw [decide_eq_false (fun h => by have := h.2.1; rw [e0] at this; omega)]
    simp (maxSteps := 2000000) only [wk0, wk1, wk2, wk3, wk4, wk5, wk6, Fr.ev, Fr.put, Fr.get, storeA, List.replicate, IntKind.bits, sevalprocAttr, lstL, lstI, h1, h2, g0, k0, h3, YtdknnaalfoongaaGreatDoor.D20, ty3, ty4, ty22, ty23]
    exact retB_plain (by simp [nmd_bool]) rfl (by simp)
  by_cases h4 : (6 : Int) < (l[0]).length
  · rw [decide_eq_false (fun h => by have := h.2.1; rw [e0] at this; omega)]
    simp (maxSteps := 2000000) only [wk0, wk1, wk2, wk3, wk4, wk5, wk6, Fr.ev, Fr.put, Fr.get, storeA, List.replicate, IntKind.bits, sevalprocAttr, lstL, lstI, h1, h2, g0, k0, h3, h4, YtdknnaalfoongaaGreatDoor.D20, ty3, ty4, ty22, ty23]
    exact retB_plain (by simp [nmd_bool]) rfl (by simp)
  simp (maxSteps := 2000000) only [wk0, wk1, wk2, wk3, wk4, wk5, wk6, Fr.ev, Fr.put, Fr.get, storeA, List.replicate, IntKind.bits, sevalprocAttr, lstL, lstI, h1, h2, g0, k0, h3, h4, YtdknnaalfoongaaGreatDoor.D20, ty3, ty4, ty22, ty23]
  refine loopC_ind (fun m fr H => ∃ i : Nat, i + m = l.length ∧ (∀ r ∈ l.take i, r.length = (l[0]).length) ∧ fr.get 3 = .int .i64 i ∧ fr.get 0 = lstL l ∧ H = S) ?_ (n := l.length) ⟨0, by omega, by simp, rfl, rfl, rfl⟩
  rintro m fr H ⟨i, him, hall, g3, g0', rfl⟩ ih
  by_cases hi : (i : Int) < l.length
  · have hin : i < l.length := by omega
    have k1 : (0 : Int) ≤ i := by omega
    have wi : IntKind.i64.wrap ((i : Int) + 1) = ((i + 1 : Nat) : Int) := wrapI (by omega)
    have gl := get_lstL hin
    by_cases hr : ((l[i]).length : Int) = (l[0]).length
    · simp (maxSteps := 2000000) only [wk0, wk1, wk2, wk3, wk4, wk5, wk6, Fr.ev, Fr.put, Fr.get, storeA, List.replicate, IntKind.bits, sevalprocAttr, lstI, lstL, g3, g0', hi, k1, k0, g0, Int.toNat_natCast, Nat.mul_one, gl, hr, wi, YtdknnaalfoongaaGreatDoor.D20, ty3, ty4, ty22, ty23]
      refine ih (m - 1) _ _ (by omega) ⟨i + 1, by omega, ?_, by simp [Fr.get], by simp [Fr.get, g0', lstL], rfl⟩
      intro r hr'
      rw [List.take_succ_eq_append_getElem hin] at hr'
      rcases List.mem_append.1 hr' with h | h
      · exact hall r h
      · rw [List.mem_singleton.1 h]; omega
    · rw [decide_eq_false (fun h => hr (by have := h.2.2 _ (List.getElem_mem hin); rw [e0] at this; omega))]
      simp (maxSteps := 2000000) only [wk0, wk1, wk2, wk3, wk4, wk5, wk6, Fr.ev, Fr.put, Fr.get, storeA, List.replicate, IntKind.bits, sevalprocAttr, lstI, lstL, g3, g0', hi, k1, k0, g0, Int.toNat_natCast, Nat.mul_one, gl, hr, wi, YtdknnaalfoongaaGreatDoor.D20, ty3, ty4, ty22, ty23]
      exact retB_plain (by simp [nmd_bool]) rfl (by simp)
  · obtain rfl : i = l.length := by omega
    rw [List.take_length] at hall
    rw [decide_eq_true ⟨by omega, by rw [e0]; omega, by rw [e0]; exact hall⟩]
    simp (maxSteps := 2000000) only [wk0, wk1, wk2, wk3, wk4, wk5, wk6, Fr.ev, Fr.put, Fr.get, storeA, List.replicate, IntKind.bits, sevalprocAttr, lstL, g3, g0', hi, YtdknnaalfoongaaGreatDoor.D20, ty3, ty4, ty22, ty23]
    exact retB_plain (by simp [nmd_bool]) rfl (by simp)
theorem mk_congr {r c : Nat} {f g : Nat → Nat → Int} (h : ∀ i j, i < r → j < c → f i j = g i j) : mk r c f = mk r c g := by
  unfold mk
  congr 1
  unfold gridP
  apply List.map_congr_left
  intro q _
  by_cases hq : q < r * c
  · rw [if_pos hq, if_pos hq]
    have hc : 0 < c := by
      rcases Nat.eq_zero_or_pos c with e | e
      · subst e; omega
      · exact e
    exact h _ _ ((Nat.div_lt_iff_lt_mul hc).2 hq) (Nat.mod_lt _ hc)
  · rw [if_neg hq, if_neg hq]
theorem anyP_congr {r c : Nat} {f g : Nat → Nat → Bool} (h : ∀ i j, i < r → j < c → f i j = g i j) : anyP c f (r * c) = anyP c g (r * c) := by
  rw [Bool.eq_iff_iff, anyP_iff, anyP_iff]
  constructor
  · rintro ⟨i, j, hi, hj, e⟩; exact ⟨i, j, hi, hj, by rw [← h i j hi hj]; exact e⟩
  · rintro ⟨i, j, hi, hj, e⟩; exact ⟨i, j, hi, hj, by rw [h i j hi hj]; exact e⟩
end Go.Proofs.YtdknnaalfoongaaGreatDoor
