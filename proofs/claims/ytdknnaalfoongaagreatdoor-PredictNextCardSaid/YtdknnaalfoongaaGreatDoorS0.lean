/- mat.Apply of any slice of numbers; predict: what may be. -/
import Derived.Test.YtdknnaalfoongaaGreatDoorN0
import Derived.Test.YtdknnaalfoongaaGreatDoorEvV
set_option linter.unusedSimpArgs false
set_option linter.unusedVariables false
set_option maxRecDepth 100000
set_option maxHeartbeats 4000000
namespace Go.Proofs.YtdknnaalfoongaaGreatDoor
theorem SlI.more {S : Heap} {u : AV} {l : List Int} (h : SlI S u l) (L : Heap) : SlI (S ++ L) u l where
  mv := h.mv
  ln := h.ln
  ia := h.ia
  mp := h.mp
  ld i hi a s z k L' := by rw [List.append_assoc]; exact h.ld i hi a s z k (L ++ L')
theorem apply_sl (r c : Nat) (f : Nat → Nat → Int) (u : AV) (v : List Int) (S : Heap) (hu : SlI S u v) (hr : 1 ≤ r ∧ r ≤ 6) (hc : 1 ≤ c ∧ c ≤ 6) (hv : v.length = c) (hf : ∀ i j, i < r → j < c → inI (f i j)) (hv' : ∀ x ∈ v, inI x) :
    Call theE 39 [mk r c f, u] S (.tup [lstI (appL f c v r), .bool (appO f c v r), .nili]) S := by
  have h36 : r * c ≤ 36 := by have := Nat.mul_le_mul hr.2 hc.2; omega
  have ck := fun S => check_ok r c f S hr hc
  obtain ⟨B, hB⟩ : ∃ B, (AV.int .i64 r :: AV.int .i64 c :: (gridP c f (r * c)).map fun x => AV.int .i64 x) = B := ⟨_, rfl⟩
  have mks : ∀ e, makeSliceA (S ++ [some ⟨.int .i64 r :: .int .i64 c :: (gridP c f (r * c)).map fun x => .int .i64 x, 0⟩]) (.slice e 1 8 [.int .i64 0]) (.int .i64 0) (.int .i64 r) =
      some (.sl (S.length + 1) 0 0 0 r 1, S ++ [some ⟨.int .i64 r :: .int .i64 c :: (gridP c f (r * c)).map fun x => .int .i64 x, 0⟩, some ⟨[], 0⟩]) := by
    intro e
    unfold makeSliceA
    simp only
    rw [if_pos ⟨by omega, by omega, by unfold maxBytes; omega, by omega, rfl⟩]
    simp [zeros]
  have um := hu.mv
  have ul := hu.ln
  simp only [mk, matA] at ck
  refine Call.ofC Tryz.func39 YtdknnaalfoongaaGreatDoor.b39 YtdknnaalfoongaaGreatDoor.d39 YtdknnaalfoongaaGreatDoor.e39 (by simp [Tryz.f39]) ?_
  dsimp only [YtdknnaalfoongaaGreatDoor.c39, Tryz.f39, Option.getD_some]
  simp (maxSteps := 2000000) only [wk0, wk1, wk2, wk3, wk4, wk5, wk6, Fr.ev, Fr.put, Fr.get, storeA, List.replicate, IntKind.bits, sevalprocAttr, um, ul, mk, matA, List.length_map, gridP_len, take36g, YtdknnaalfoongaaGreatDoor.D39, ty1, ty2, ty3, ty4, ty22, ty28, ty30, ty35, ty79]
  refine callThen_of (ck _) ?_
  simp (maxSteps := 2000000) only [wk0, wk1, wk2, wk3, wk4, wk5, wk6, Fr.ev, Fr.put, Fr.get, storeA, List.replicate, IntKind.bits, sevalprocAttr, um, ul, List.length_map, gridP_len, take36g, hv, mks, YtdknnaalfoongaaGreatDoor.D39, ty1, ty2, ty3, ty4, ty22, ty28, ty30, ty35, ty79]
  refine loopC_ind (fun m fr H => ∃ i cap : Nat, i + m = r ∧ fr.get 28 = .int .i64 i ∧ fr.get 27 = .int .i64 r ∧ fr.get 7 = .sl (S.length + 1) i 0 i cap 1 ∧ fr.get 8 = .bool (appO f c v i) ∧ fr.get 2 = .ptr S.length 0 0 ∧ fr.get 1 = u ∧
    H = S ++ [some ⟨.int .i64 r :: .int .i64 c :: (gridP c f (r * c)).map fun x => .int .i64 x, 0⟩, some ⟨(appL f c v i).map fun x => .int .i64 x, i⟩]) ?_ (n := r) ⟨0, r, by omega, rfl, rfl, rfl, rfl, rfl, rfl, rfl⟩
  rintro m fr H ⟨i, cap, him, g28, g27, g7, g8, g2, g1, rfl⟩ ih
  by_cases hi : (i : Int) < r
  · have hin : i < r := by omega
    have wi : IntKind.i64.wrap ((i : Int) + 1) = ((i + 1 : Nat) : Int) := wrapI (by omega)
    have hic : i * c + c ≤ r * c := by
      have := Nat.mul_le_mul_right c (show i + 1 ≤ r by omega)
      rw [Nat.add_mul, Nat.one_mul] at this
      omega
    have e2 : (i + 1) * c = i * c + c := by rw [Nat.add_mul, Nat.one_mul]
    have w1 : IntKind.i64.wrap ((i : Int) * c) = ((i * c : Nat) : Int) := by rw [wrapI (by rw [← Int.natCast_mul]; omega)]; simp
    have w3 : IntKind.i64.wrap (((i + 1 : Nat) : Int) * c) = ((i * c + c : Nat) : Int) := by rw [← e2, wrapI (by rw [← Int.natCast_mul, e2]; omega)]; simp
    have k1 : (0 : Int) ≤ ((i * c : Nat) : Int) := by omega
    have k2 : ((i * c : Nat) : Int) ≤ ((i * c + c : Nat) : Int) := by omega
    have k3 : ((i * c + c : Nat) : Int) ≤ 36 := by omega
    have k4 : ¬ ((i * c : Nat) : Int) = ((i * c + c : Nat) : Int) := by omega
    have k5 : i * c + c - i * c = c := by omega
    have md := fun L => mdot_ok _ _ (rowF f c i) v (S ++ (some ⟨.int .i64 r :: .int .i64 c :: (gridP c f (r * c)).map fun x => .int .i64 x, 0⟩ :: L)) (row_sl _ S.length r c i f r c (36 - i * c) hin h36 (by rw [blkAt_app0, blkAt_zero])) (hu.more _) (by simp [rowF, hv]) (by simp [rowF]; omega) (by
      intro x hx
      obtain ⟨k, hk, rfl⟩ := List.mem_map.1 hx
      exact hf i k hin (List.mem_range.1 hk)) hv'
    have al : (appL f c v i).length = i := by simp [appL]
    have aps : (appL f c v i).map (fun x => AV.int .i64 x) ++ [AV.int .i64 (bndI (appF f c v i))] = (appL f c v (i + 1)).map fun x => .int .i64 x := by unfold appL; rw [List.range_succ, List.map_append, List.map_append]; rfl
    have ao : appO f c v (i + 1) = (appO f c v i || ovrB (appF f c v i)) := by unfold appO; rw [List.range_succ, List.any_append]; simp
    have a1 : (i + 1) * 8 ≤ maxBytes := by unfold maxBytes; omega
    have a2 : i + 1 ≤ 9223372036854775807 := by omega
    change ∀ L, Call _ _ _ _ (.tup [.int .i64 (bndI (appF f c v i)), .bool (ovrB (appF f c v i))]) _ at md
    simp (maxSteps := 2000000) only [wk0, wk1, wk2, wk3, wk4, wk5, wk6, Fr.ev, Fr.put, Fr.get, storeA, List.replicate, IntKind.bits, sevalprocAttr, um, ul, g28, g27, g7, g8, g2, g1, hi, w1, wi, w3, k1, k2, k3, k4, k5, bd_none, bd_some, bv_int, sa_arr, List.length_map, gridP_len, Int.toNat_natCast, Nat.mul_one, YtdknnaalfoongaaGreatDoor.D39, ty1, ty2, ty3, ty4, ty22, ty28, ty30, ty35, ty79]
    refine callThen_of (md _) ?_
    cases hb : appO f c v i
    · rw [hb, Bool.false_or] at ao
      simp (maxSteps := 2000000) only [wk0, wk1, wk2, wk3, wk4, wk5, wk6, Fr.ev, Fr.put, Fr.get, storeA, List.replicate, IntKind.bits, sevalprocAttr, g28, g27, g7, g8, g2, g1, List.length_map, al, aps, a1, a2, Nat.mul_one, wi, hb, YtdknnaalfoongaaGreatDoor.D39, ty1, ty2, ty3, ty4, ty22, ty28, ty30, ty35, ty79]
      exact ih (m - 1) _ _ (by omega) ⟨i + 1, i + 1, by omega, by simp [Fr.get], by simp [Fr.get, g27], by simp [Fr.get], by simp [Fr.get, ao], by simp [Fr.get, g2], by simp [Fr.get, g1], rfl⟩
    · rw [hb, Bool.true_or] at ao
      simp (maxSteps := 2000000) only [wk0, wk1, wk2, wk3, wk4, wk5, wk6, Fr.ev, Fr.put, Fr.get, storeA, List.replicate, IntKind.bits, sevalprocAttr, g28, g27, g7, g8, g2, g1, List.length_map, al, aps, a1, a2, Nat.mul_one, wi, hb, YtdknnaalfoongaaGreatDoor.D39, ty1, ty2, ty3, ty4, ty22, ty28, ty30, ty35, ty79]
      exact ih (m - 1) _ _ (by omega) ⟨i + 1, i + 1, by omega, by simp [Fr.get], by simp [Fr.get, g27], by simp [Fr.get], by simp [Fr.get, ao], by simp [Fr.get, g2], by simp [Fr.get, g1], rfl⟩
  · obtain rfl : i = r := by omega
    have al : (appL f c v i).length = i := by simp [appL]
    simp (maxSteps := 2000000) only [wk0, wk1, wk2, wk3, wk4, wk5, wk6, Fr.ev, Fr.put, Fr.get, storeA, List.replicate, IntKind.bits, sevalprocAttr, g28, g27, g7, g8, g2, g1, hi, YtdknnaalfoongaaGreatDoor.D39, ty1, ty2, ty3, ty4, ty22, ty28, ty30, ty35, ty79]
    refine ⟨[lstI (appL f c v i), .bool (appO f c v i), .nili], ?_, rfl, by simp⟩
    refine .cons _ _ _ _ ?_ (.cons _ _ _ _ (.same _ (.bool _)) (.cons _ _ _ _ (.same _ .nili) .nil))
    have h := Fin1.sl (base := S.length) (H := S ++ [some ⟨.int .i64 i :: .int .i64 c :: (gridP c f (i * c)).map fun x => .int .i64 x, 0⟩, some ⟨(appL f c v i).map fun x => .int .i64 x, i⟩]) (S.length + 1) i 0 i cap 1 _ (by omega) (show blkAt _ _ _ = some ⟨(appL f c v i).map fun x => .int .i64 x, i⟩ by rw [blkAt_app, show (1 : Nat) = 0 + 1 from rfl, blkAt_succ, blkAt_zero]) (by
      intro x hx
      obtain ⟨y, _, rfl⟩ := List.mem_map.1 hx
      exact .int _ _) (by simp [al])
    have e : List.take (i * 1) (List.drop 0 ((appL f c v i).map fun x => AV.int .i64 x)) = (appL f c v i).map fun x => AV.int .i64 x := by
      rw [List.drop_zero, List.take_of_length_le (by simp [al])]
    rw [e] at h
    simpa [lstI, al] using h

/-! states -/
def stC (x : Nat → Int) (r c : Int) (G : List Int) : List AV := .int .i64 (x 0) :: .int .i64 (x 1) :: .int .i64 (x 2) :: .int .i64 (x 3) :: .int .i64 (x 4) :: .int .i64 (x 5) :: .int .i64 r :: .int .i64 c :: G.map fun y => .int .i64 y
def stA (x : Nat → Int) (f : Nat → Nat → Int) : AV := .agg (stC x 6 6 (gridP 6 f 36))
def xL (x : Nat → Int) : List Int := [x 0, x 1, x 2, x 3, x 4, x 5]
theorem xL_map (x : Nat → Int) : xL x = (List.range 6).map x := rfl
def topI (n : Int) : Prop := -4611686018427387903 ≤ n ∧ n ≤ 4611686018427387903
instance (n : Int) : Decidable (topI n) := by unfold topI; exact inferInstance
noncomputable def c38 : Code := Tryz.f38.body.getD .skip
theorem b38 : Tryz.f38.body = some c38 := rfl
theorem d38 : fnOk Tryz.f38 c38 = true := by kernel_rfl
def D38 : Nat → List Tag := fun _ => []
theorem e38 : drawsOk D38 c38 = true := by kernel_rfl
noncomputable def c36 : Code := Tryz.f36.body.getD .skip
theorem b36 : Tryz.f36.body = some c36 := rfl
theorem d36 : fnOk Tryz.f36 c36 = true := by kernel_rfl
def D36 : Nat → List Tag := fun _ => []
theorem e36 : drawsOk D36 c36 = true := by kernel_rfl
noncomputable def c8 : Code := Tryz.f8.body.getD .skip
theorem b8 : Tryz.f8.body = some c8 := rfl
theorem d8 : fnOk Tryz.f8 c8 = true := by kernel_rfl
def D8 : Nat → List Tag := fun _ => []
theorem e8 : drawsOk D8 c8 = true := by kernel_rfl
noncomputable def c13 : Code := Tryz.f13.body.getD .skip
theorem b13 : Tryz.f13.body = some c13 := rfl
theorem d13 : fnOk Tryz.f13 c13 = true := by kernel_rfl
def D13 : Nat → List Tag := fun _ => []
theorem e13 : drawsOk D13 c13 = true := by kernel_rfl
theorem bounded12_ok (n : Int) (S : Heap) : Call theE 38 [.int .i64 n] S (.bool (decide (topI n))) S := by
  unfold topI
  refine Call.ofC Tryz.func38 YtdknnaalfoongaaGreatDoor.b38 YtdknnaalfoongaaGreatDoor.d38 YtdknnaalfoongaaGreatDoor.e38 (by simp [Tryz.f38]) ?_
  dsimp only [YtdknnaalfoongaaGreatDoor.c38, Tryz.f38, Option.getD_some]
  by_cases h1 : -4611686018427387903 ≤ n
  · by_cases h2 : n ≤ 4611686018427387903
    · simp (maxSteps := 2000000) only [wk0, wk1, wk2, wk3, wk4, wk5, wk6, Fr.ev, Fr.put, Fr.get, storeA, List.replicate, IntKind.bits, sevalprocAttr, h1, h2, decide_true, YtdknnaalfoongaaGreatDoor.D38, ty2, ty4]
      exact retB_plain (by simp [nmd_bool]) (by simp [packA, h1, h2]) (by simp)
    · simp (maxSteps := 2000000) only [wk0, wk1, wk2, wk3, wk4, wk5, wk6, Fr.ev, Fr.put, Fr.get, storeA, List.replicate, IntKind.bits, sevalprocAttr, h1, h2, decide_true, decide_false, YtdknnaalfoongaaGreatDoor.D38, ty2, ty4]
      exact retB_plain (by simp [nmd_bool]) (by simp [packA, h1, h2]) (by simp)
  · simp (maxSteps := 2000000) only [wk0, wk1, wk2, wk3, wk4, wk5, wk6, Fr.ev, Fr.put, Fr.get, storeA, List.replicate, IntKind.bits, sevalprocAttr, h1, decide_false, YtdknnaalfoongaaGreatDoor.D38, ty2, ty4]
    exact retB_plain (by simp [nmd_bool]) (by simp [packA, h1]) (by simp)
theorem six_ok (f : Nat → Nat → Int) (S : Heap) : Call theE 36 [mk 6 6 f] S (.bool true) S := by
  have tk := take36g 6 f (6 * 6)
  have ck := fun S => check_ok 6 6 f S (by decide) (by decide)
  simp only [mk, matA] at ck ⊢
  refine Call.ofC Tryz.func36 YtdknnaalfoongaaGreatDoor.b36 YtdknnaalfoongaaGreatDoor.d36 YtdknnaalfoongaaGreatDoor.e36 (by simp [Tryz.f36]) ?_
  dsimp only [YtdknnaalfoongaaGreatDoor.c36, Tryz.f36, Option.getD_some]
  simp (maxSteps := 2000000) only [wk0, wk1, wk2, wk3, wk4, wk5, wk6, Fr.ev, Fr.put, Fr.get, storeA, List.replicate, IntKind.bits, sevalprocAttr, mk, matA, List.length_map, gridP_len, tk, Int.cast_ofNat_Int, castLit, YtdknnaalfoongaaGreatDoor.D36, ty1, ty3, ty4, ty30, ty35]
  refine callThen_of (ck _) ?_
  simp (maxSteps := 2000000) only [wk0, wk1, wk2, wk3, wk4, wk5, wk6, Fr.ev, Fr.put, Fr.get, storeA, List.replicate, IntKind.bits, sevalprocAttr, mk, matA, List.length_map, gridP_len, tk, Int.cast_ofNat_Int, castLit, YtdknnaalfoongaaGreatDoor.D36, ty1, ty3, ty4, ty30, ty35]
  exact retB_plain (by simp [nmd_bool]) rfl (by simp)
/-- A state that may be. -/
structure OkS (x : Nat → Int) (f : Nat → Nat → Int) : Prop where
  even : ∀ i j, i < 6 → j < 6 → f i j = f j i
  top : ∀ i j, i < 6 → j < 6 → topI (f i j)
  diag : ∀ i, i < 6 → 0 ≤ f i i
  x : ∀ i, i < 6 → topI (x i)
theorem grid_even {f : Nat → Nat → Int} (h : ∀ i j, i < 6 → j < 6 → f i j = f j i) : gridP 6 (fun i j => f j i) 36 = gridP 6 f 36 := by
  apply List.map_congr_left
  intro q hq
  have hq := List.mem_range.1 hq
  have h1 : q / 6 < 6 := by omega
  have h2 : q % 6 < 6 := by omega
  simp only [h (q / 6) (q % 6) h1 h2]
theorem xs_get (x : Nat → Int) (i : Nat) (hi : i < 6) : [AV.int .i64 (x 0), .int .i64 (x 1), .int .i64 (x 2), .int .i64 (x 3), .int .i64 (x 4), .int .i64 (x 5)][i]? = some (.int .i64 (x i)) := by
  match i, hi with
  | 0, _ => rfl
  | 1, _ => rfl
  | 2, _ => rfl
  | 3, _ => rfl
  | 4, _ => rfl
  | 5, _ => rfl
theorem grid_at (f : Nat → Nat → Int) (q : Nat) (hq : q < 36) : ((gridP 6 f 36).map fun x => AV.int .i64 x)[q]? = some (.int .i64 (f (q / 6) (q % 6))) := by
  unfold gridP
  rw [List.getElem?_map, List.getElem?_map, List.getElem?_range hq, Option.map_some, Option.map_some, if_pos hq]
theorem allSelf (r c : Int) (G : List Int) : allInts (.int .i64 r :: .int .i64 c :: G.map fun x => .int .i64 x) (.int .i64 r :: .int .i64 c :: G.map fun x => .int .i64 x) = some true := by
  have := allInts_self (r :: c :: G)
  simpa using this
theorem check12_ok (x : Nat → Int) (f : Nat → Nat → Int) (S : Heap) (h : OkS x f) : Call theE 8 [stA x f] S .nili S := by
  have tk := take36g 6 f 36
  have al := all36g (gridP 6 f 36)
  have si := fun S => six_ok f S
  have tu := fun S => turn_ok 6 6 f S (by decide) (by decide)
  have asf := allSelf 6 6 (gridP 6 f 36)
  simp only [mk, matA, Nat.reduceMul, castLit, grid_even h.even] at si tu
  refine Call.ofC Tryz.func8 YtdknnaalfoongaaGreatDoor.b8 YtdknnaalfoongaaGreatDoor.d8 YtdknnaalfoongaaGreatDoor.e8 (by simp [Tryz.f8]) ?_
  dsimp only [YtdknnaalfoongaaGreatDoor.c8, Tryz.f8, Option.getD_some]
  simp (maxSteps := 2000000) only [wk0, wk1, wk2, wk3, wk4, wk5, wk6, Fr.ev, Fr.put, Fr.get, storeA, List.replicate, IntKind.bits, sevalprocAttr, stA, stC, List.length_cons, List.length_map, gridP_len, List.take_succ_cons, List.drop_succ_cons, List.drop_zero, List.take_zero, tk, al, asf, YtdknnaalfoongaaGreatDoor.D8, ty1, ty2, ty3, ty4, ty27, ty28, ty30, ty32, ty35, ty79]
  refine callThen_of (si _) ?_
  simp (maxSteps := 2000000) only [wk0, wk1, wk2, wk3, wk4, wk5, wk6, Fr.ev, Fr.put, Fr.get, storeA, List.replicate, IntKind.bits, sevalprocAttr, stA, stC, List.length_cons, List.length_map, gridP_len, List.take_succ_cons, List.drop_succ_cons, List.drop_zero, List.take_zero, tk, al, asf, YtdknnaalfoongaaGreatDoor.D8, ty1, ty2, ty3, ty4, ty27, ty28, ty30, ty32, ty35, ty79]
  refine callThen_of (tu _) ?_
  simp (maxSteps := 2000000) only [wk0, wk1, wk2, wk3, wk4, wk5, wk6, Fr.ev, Fr.put, Fr.get, storeA, List.replicate, IntKind.bits, sevalprocAttr, stA, stC, List.length_cons, List.length_map, gridP_len, List.take_succ_cons, List.drop_succ_cons, List.drop_zero, List.take_zero, tk, al, asf, YtdknnaalfoongaaGreatDoor.D8, ty1, ty2, ty3, ty4, ty27, ty28, ty30, ty32, ty35, ty79]
  refine loopC_ind (fun m fr H => ∃ i : Nat, i + m = 36 ∧ fr.get 32 = .int .i64 (i : Int) ∧ fr.get 31 = .agg ((gridP 6 f 36).map fun x => .int .i64 x) ∧ fr.get 1 = .ptr S.length 0 0 ∧ ∃ L, H = S ++ some ⟨stC x 6 6 (gridP 6 f 36), 0⟩ :: L) ?_ (n := 36) ⟨0, by omega, rfl, rfl, rfl, _, rfl⟩
  rintro m fr H ⟨i, him, g32, g31, g1, L, rfl⟩ ih
  by_cases hi : (i : Int) < 36
  · have hin : i < 36 := by omega
    have p1 : (0 : Int) ≤ i := by omega
    have ga := grid_at f i hin
    have wi : IntKind.i64.wrap ((i : Int) + 1) = ((i + 1 : Nat) : Int) := wrapI (by omega)
    have bo := fun S => bounded12_ok (f (i / 6) (i % 6)) S
    rw [decide_eq_true (h.top _ _ (by omega) (by omega))] at bo
    have tm : (i : Int).tmod 7 = ((i % 7 : Nat) : Int) := by rw [Int.tmod_eq_emod_of_nonneg p1]; omega
    by_cases h7 : i % 7 = 0
    · have hd : ¬ f (i / 6) (i % 6) < 0 := by
        have : i % 6 = i / 6 := by omega
        rw [this]
        have := h.diag (i / 6) (by omega)
        omega
      have q7 : ((i % 7 : Nat) : Int) = 0 := by omega
      simp (maxSteps := 2000000) only [wk0, wk1, wk2, wk3, wk4, wk5, wk6, Fr.ev, Fr.put, Fr.get, storeA, List.replicate, IntKind.bits, sevalprocAttr, g32, g31, g1, hi, p1, ga, wi, tm, q7, hd, Int.toNat_natCast, Nat.mul_one, decide_true, decide_false, YtdknnaalfoongaaGreatDoor.D8, ty1, ty2, ty3, ty4, ty27, ty28, ty30, ty32, ty35, ty79]
      refine callThen_of (bo _) ?_
      simp (maxSteps := 2000000) only [wk0, wk1, wk2, wk3, wk4, wk5, wk6, Fr.ev, Fr.put, Fr.get, storeA, List.replicate, IntKind.bits, sevalprocAttr, g32, g31, g1, hi, p1, ga, wi, tm, q7, hd, Int.toNat_natCast, Nat.mul_one, decide_true, decide_false, YtdknnaalfoongaaGreatDoor.D8, ty1, ty2, ty3, ty4, ty27, ty28, ty30, ty32, ty35, ty79]
      exact ih (m - 1) _ _ (by omega) ⟨i + 1, by omega, by simp [Fr.get], by simp [Fr.get, g31], by simp [Fr.get, g1], _, rfl⟩
    · have q7 : (((i % 7 : Nat) : Int) = 0) = False := eq_false (by omega)
      simp (maxSteps := 2000000) only [wk0, wk1, wk2, wk3, wk4, wk5, wk6, Fr.ev, Fr.put, Fr.get, storeA, List.replicate, IntKind.bits, sevalprocAttr, g32, g31, g1, hi, p1, ga, wi, tm, q7, Int.toNat_natCast, Nat.mul_one, decide_true, decide_false, YtdknnaalfoongaaGreatDoor.D8, ty1, ty2, ty3, ty4, ty27, ty28, ty30, ty32, ty35, ty79]
      refine callThen_of (bo _) ?_
      simp (maxSteps := 2000000) only [wk0, wk1, wk2, wk3, wk4, wk5, wk6, Fr.ev, Fr.put, Fr.get, storeA, List.replicate, IntKind.bits, sevalprocAttr, g32, g31, g1, hi, p1, ga, wi, tm, q7, Int.toNat_natCast, Nat.mul_one, decide_true, decide_false, YtdknnaalfoongaaGreatDoor.D8, ty1, ty2, ty3, ty4, ty27, ty28, ty30, ty32, ty35, ty79]
      exact ih (m - 1) _ _ (by omega) ⟨i + 1, by omega, by simp [Fr.get], by simp [Fr.get, g31], by simp [Fr.get, g1], _, rfl⟩
  · simp (maxSteps := 2000000) only [wk0, wk1, wk2, wk3, wk4, wk5, wk6, Fr.ev, Fr.put, Fr.get, storeA, List.replicate, IntKind.bits, sevalprocAttr, g32, g31, g1, hi, stC, List.length_cons, List.length_map, gridP_len, List.take_succ_cons, List.drop_succ_cons, List.drop_zero, List.take_zero, YtdknnaalfoongaaGreatDoor.D8, ty1, ty2, ty3, ty4, ty27, ty28, ty30, ty32, ty35, ty79]
    refine loopC_ind (fun m fr H => ∃ i : Nat, i + m = 6 ∧ fr.get 52 = .int .i64 (i : Int) ∧ fr.get 51 = .agg [.int .i64 (x 0), .int .i64 (x 1), .int .i64 (x 2), .int .i64 (x 3), .int .i64 (x 4), .int .i64 (x 5)] ∧ ∃ L, H = S ++ L) ?_ (n := 6) ⟨0, by omega, rfl, rfl, _, rfl⟩
    rintro m fr H ⟨i, him, g52, g51, L, rfl⟩ ih
    by_cases hi : (i : Int) < 6
    · have hin : i < 6 := by omega
      have p1 : (0 : Int) ≤ i := by omega
      have ga := xs_get x i hin
      have wi : IntKind.i64.wrap ((i : Int) + 1) = ((i + 1 : Nat) : Int) := wrapI (by omega)
      have bo := fun S => bounded12_ok (x i) S
      rw [decide_eq_true (h.x _ hin)] at bo
      simp (maxSteps := 2000000) only [wk0, wk1, wk2, wk3, wk4, wk5, wk6, Fr.ev, Fr.put, Fr.get, storeA, List.replicate, IntKind.bits, sevalprocAttr, g52, g51, hi, p1, ga, wi, Int.toNat_natCast, Nat.mul_one, YtdknnaalfoongaaGreatDoor.D8, ty1, ty2, ty3, ty4, ty27, ty28, ty30, ty32, ty35, ty79]
      refine callThen_of (bo _) ?_
      simp (maxSteps := 2000000) only [wk0, wk1, wk2, wk3, wk4, wk5, wk6, Fr.ev, Fr.put, Fr.get, storeA, List.replicate, IntKind.bits, sevalprocAttr, g52, g51, hi, p1, ga, wi, Int.toNat_natCast, Nat.mul_one, YtdknnaalfoongaaGreatDoor.D8, ty1, ty2, ty3, ty4, ty27, ty28, ty30, ty32, ty35, ty79]
      exact ih (m - 1) _ _ (by omega) ⟨i + 1, by omega, by simp [Fr.get], by simp [Fr.get, g51], _, rfl⟩
    · simp (maxSteps := 2000000) only [wk0, wk1, wk2, wk3, wk4, wk5, wk6, Fr.ev, Fr.put, Fr.get, storeA, List.replicate, IntKind.bits, sevalprocAttr, g52, g51, hi, YtdknnaalfoongaaGreatDoor.D8, ty1, ty2, ty3, ty4, ty27, ty28, ty30, ty32, ty35, ty79]
      exact retB_plain (by simp [nmd_nili]) rfl (by simp)
theorem same12_ok (x : Nat → Int) (f : Nat → Nat → Int) (S : Heap) : Call theE 13 [stA x f, stA x f] S (.bool true) S := by
  have tk := take36g 6 f 36
  have asf : allInts (stC x 6 6 (gridP 6 f 36)) (stC x 6 6 (gridP 6 f 36)) = some true := by
    have := allInts_self (x 0 :: x 1 :: x 2 :: x 3 :: x 4 :: x 5 :: 6 :: 6 :: gridP 6 f 36)
    simpa [stC] using this
  simp only [stC] at asf
  refine Call.ofC Tryz.func13 YtdknnaalfoongaaGreatDoor.b13 YtdknnaalfoongaaGreatDoor.d13 YtdknnaalfoongaaGreatDoor.e13 (by simp [Tryz.f13]) ?_
  dsimp only [YtdknnaalfoongaaGreatDoor.c13, Tryz.f13, Option.getD_some]
  simp (maxSteps := 2000000) only [wk0, wk1, wk2, wk3, wk4, wk5, wk6, Fr.ev, Fr.put, Fr.get, storeA, List.replicate, IntKind.bits, sevalprocAttr, stA, stC, List.length_cons, List.length_map, gridP_len, List.take_succ_cons, List.drop_succ_cons, List.drop_zero, List.take_zero, tk, asf, YtdknnaalfoongaaGreatDoor.D13, ty4, ty32]
  exact retB_plain (by simp [nmd_bool]) rfl (by simp)
end Go.Proofs.YtdknnaalfoongaaGreatDoor
