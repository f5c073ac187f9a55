/- predict: a state that may not be; a blank one that may not be; two that are not the same. -/
import Derived.Test.YtdknnaalfoongaaGreatDoorS2
set_option linter.unusedSimpArgs false
set_option linter.unusedVariables false
set_option maxRecDepth 100000
set_option maxHeartbeats 8000000
namespace Go.Proofs.YtdknnaalfoongaaGreatDoor
theorem allInts_dec : ∀ (a b : List Int), a.length = b.length → allInts (a.map fun x => .int .i64 x) (b.map fun x => .int .i64 x) = some (decide (a = b))
  | [], [], _ => by simp [allInts]
  | x :: a, y :: b, h => by
    have ih := allInts_dec a b (by simpa using h)
    have k : allInts ((x :: a).map fun x => AV.int .i64 x) ((y :: b).map fun x => AV.int .i64 x) = (allInts (a.map fun x => AV.int .i64 x) (b.map fun x => AV.int .i64 x)).map fun t => (x == y) && t := by simp [allInts]
    rw [k, ih]
    by_cases e : x = y
    · by_cases e2 : a = b
      · simp [e, e2]
      · simp [e, e2]
    · simp [e]
theorem grid_ne {f : Nat → Nat → Int} (h : ¬ ∀ i j, i < 6 → j < 6 → f i j = f j i) : ¬ gridP 6 (fun i j => f j i) 36 = gridP 6 f 36 := by
  intro e
  apply h
  intro i j hi hj
  have := congrArg (fun l : List Int => l[i * 6 + j]?) e
  simp only [gridP, List.getElem?_map, List.getElem?_range (show i * 6 + j < 36 by omega), Option.map_some, if_pos (show i * 6 + j < 36 by omega), show (i * 6 + j) / 6 = i by omega, show (i * 6 + j) % 6 = j by omega, Option.some.injEq] at this
  exact this.symm
theorem allOdd {f : Nat → Nat → Int} (h : ¬ ∀ i j, i < 6 → j < 6 → f i j = f j i) : allInts (.int .i64 6 :: .int .i64 6 :: (gridP 6 (fun i j => f j i) 36).map fun x => .int .i64 x) (.int .i64 6 :: .int .i64 6 :: (gridP 6 f 36).map fun x => .int .i64 x) = some false := by
  have := allInts_dec (6 :: 6 :: gridP 6 (fun i j => f j i) 36) (6 :: 6 :: gridP 6 f 36) (by simp [gridP])
  have ne := grid_ne h
  rw [decide_eq_false (by simpa using ne)] at this
  simpa using this
theorem check12_bad (x : Nat → Int) (f : Nat → Nat → Int) (S : Heap) (h : ¬ OkS x f) : Call theE 8 [stA x f] S (errA 1) S := by
  have tk := take36g 6 f 36
  have tk2 := take36g 6 (fun i j => f j i) 36
  have al := all36g (gridP 6 f 36)
  have al2 := all36g (gridP 6 (fun i j => f j i) 36)
  have si := fun S => six_ok f S
  have tu := fun S => turn_ok 6 6 f S (by decide) (by decide)
  by_cases hev : ∀ i j, i < 6 → j < 6 → f i j = f j i
  · have asf := allSelf 6 6 (gridP 6 f 36)
    simp only [mk, matA, Nat.reduceMul, castLit, grid_even hev] at si tu
    refine Call.ofC Tryz.func8 YtdknnaalfoongaaGreatDoor.b8 YtdknnaalfoongaaGreatDoor.d8 YtdknnaalfoongaaGreatDoor.e8 (by simp [Tryz.f8]) ?_
    dsimp only [YtdknnaalfoongaaGreatDoor.c8, Tryz.f8, Option.getD_some]
    simp (maxSteps := 2000000) only [wk0, wk1, wk2, wk3, wk4, wk5, wk6, Fr.ev, Fr.put, Fr.get, storeA, List.replicate, IntKind.bits, sevalprocAttr, stA, stC, List.length_cons, List.length_map, gridP_len, List.take_succ_cons, List.drop_succ_cons, List.drop_zero, List.take_zero, tk, al, asf, YtdknnaalfoongaaGreatDoor.D8, ty1, ty2, ty3, ty4, ty27, ty28, ty30, ty32, ty35, ty79]
    refine callThen_of (si _) ?_
    simp (maxSteps := 2000000) only [wk0, wk1, wk2, wk3, wk4, wk5, wk6, Fr.ev, Fr.put, Fr.get, storeA, List.replicate, IntKind.bits, sevalprocAttr, stA, stC, List.length_cons, List.length_map, gridP_len, List.take_succ_cons, List.drop_succ_cons, List.drop_zero, List.take_zero, tk, al, asf, YtdknnaalfoongaaGreatDoor.D8, ty1, ty2, ty3, ty4, ty27, ty28, ty30, ty32, ty35, ty79]
    refine callThen_of (tu _) ?_
    simp (maxSteps := 2000000) only [wk0, wk1, wk2, wk3, wk4, wk5, wk6, Fr.ev, Fr.put, Fr.get, storeA, List.replicate, IntKind.bits, sevalprocAttr, stA, stC, List.length_cons, List.length_map, gridP_len, List.take_succ_cons, List.drop_succ_cons, List.drop_zero, List.take_zero, tk, al, asf, YtdknnaalfoongaaGreatDoor.D8, ty1, ty2, ty3, ty4, ty27, ty28, ty30, ty32, ty35, ty79]
    refine loopC_ind (fun m fr H => ∃ i : Nat, i + m = 36 ∧ fr.get 32 = .int .i64 (i : Int) ∧ fr.get 31 = .agg ((gridP 6 f 36).map fun x => .int .i64 x) ∧ fr.get 1 = .ptr S.length 0 0 ∧ (∃ L, H = S ++ some ⟨stC x 6 6 (gridP 6 f 36), 0⟩ :: L) ∧ ∀ q, q < i → topI (f (q / 6) (q % 6)) ∧ (q % 7 = 0 → 0 ≤ f (q / 6) (q % 6))) ?_ (n := 36) ⟨0, by omega, rfl, rfl, rfl, ⟨_, rfl⟩, fun q hq => by omega⟩
    rintro m fr H ⟨i, him, g32, g31, g1, ⟨L, rfl⟩, hq⟩ ih
    by_cases hi : (i : Int) < 36
    · have hin : i < 36 := by omega
      have p1 : (0 : Int) ≤ i := by omega
      have ga := grid_at f i hin
      have wi : IntKind.i64.wrap ((i : Int) + 1) = ((i + 1 : Nat) : Int) := wrapI (by omega)
      have bo := fun S => bounded12_ok (f (i / 6) (i % 6)) S
      have tm : (i : Int).tmod 7 = ((i % 7 : Nat) : Int) := by rw [Int.tmod_eq_emod_of_nonneg p1]; omega
      by_cases hb : topI (f (i / 6) (i % 6))
      · rw [decide_eq_true hb] at bo
        by_cases h7 : i % 7 = 0
        · have q7 : ((i % 7 : Nat) : Int) = 0 := by omega
          by_cases hd : f (i / 6) (i % 6) < 0
          · simp (maxSteps := 2000000) only [wk0, wk1, wk2, wk3, wk4, wk5, wk6, Fr.ev, Fr.put, Fr.get, storeA, List.replicate, IntKind.bits, sevalprocAttr, g32, g31, g1, hi, p1, ga, wi, tm, q7, hd, Int.toNat_natCast, Nat.mul_one, decide_true, decide_false, YtdknnaalfoongaaGreatDoor.D8, ty1, ty2, ty3, ty4, ty27, ty28, ty30, ty32, ty35, ty79]
            refine callThen_of (bo _) ?_
            simp (maxSteps := 2000000) only [wk0, wk1, wk2, wk3, wk4, wk5, wk6, Fr.ev, Fr.put, Fr.get, storeA, List.replicate, IntKind.bits, sevalprocAttr, g32, g31, g1, hi, p1, ga, wi, tm, q7, hd, Int.toNat_natCast, Nat.mul_one, decide_true, decide_false, YtdknnaalfoongaaGreatDoor.D8, ty1, ty2, ty3, ty4, ty27, ty28, ty30, ty32, ty35, ty79]
            exact retB_plain (by simp [nmd_ifc, nmd_int]) rfl (by simp)
          · have hq2 : ∀ q, q < i + 1 → topI (f (q / 6) (q % 6)) ∧ (q % 7 = 0 → 0 ≤ f (q / 6) (q % 6)) := by
              intro q hl
              by_cases e : q = i
              · subst e; exact ⟨hb, fun _ => by omega⟩
              · exact hq q (by omega)
            simp (maxSteps := 2000000) only [wk0, wk1, wk2, wk3, wk4, wk5, wk6, Fr.ev, Fr.put, Fr.get, storeA, List.replicate, IntKind.bits, sevalprocAttr, g32, g31, g1, hi, p1, ga, wi, tm, q7, hd, Int.toNat_natCast, Nat.mul_one, decide_true, decide_false, YtdknnaalfoongaaGreatDoor.D8, ty1, ty2, ty3, ty4, ty27, ty28, ty30, ty32, ty35, ty79]
            refine callThen_of (bo _) ?_
            simp (maxSteps := 2000000) only [wk0, wk1, wk2, wk3, wk4, wk5, wk6, Fr.ev, Fr.put, Fr.get, storeA, List.replicate, IntKind.bits, sevalprocAttr, g32, g31, g1, hi, p1, ga, wi, tm, q7, hd, Int.toNat_natCast, Nat.mul_one, decide_true, decide_false, YtdknnaalfoongaaGreatDoor.D8, ty1, ty2, ty3, ty4, ty27, ty28, ty30, ty32, ty35, ty79]
            exact ih (m - 1) _ _ (by omega) ⟨i + 1, by omega, by simp [Fr.get], by simp [Fr.get, g31], by simp [Fr.get, g1], ⟨_, rfl⟩, hq2⟩
        · have q7 : (((i % 7 : Nat) : Int) = 0) = False := eq_false (by omega)
          have hq2 : ∀ q, q < i + 1 → topI (f (q / 6) (q % 6)) ∧ (q % 7 = 0 → 0 ≤ f (q / 6) (q % 6)) := by
            intro q hl
            by_cases e : q = i
            · subst e; exact ⟨hb, fun e => absurd e h7⟩
            · exact hq q (by omega)
          simp (maxSteps := 2000000) only [wk0, wk1, wk2, wk3, wk4, wk5, wk6, Fr.ev, Fr.put, Fr.get, storeA, List.replicate, IntKind.bits, sevalprocAttr, g32, g31, g1, hi, p1, ga, wi, tm, q7, Int.toNat_natCast, Nat.mul_one, decide_true, decide_false, YtdknnaalfoongaaGreatDoor.D8, ty1, ty2, ty3, ty4, ty27, ty28, ty30, ty32, ty35, ty79]
          refine callThen_of (bo _) ?_
          simp (maxSteps := 2000000) only [wk0, wk1, wk2, wk3, wk4, wk5, wk6, Fr.ev, Fr.put, Fr.get, storeA, List.replicate, IntKind.bits, sevalprocAttr, g32, g31, g1, hi, p1, ga, wi, tm, q7, Int.toNat_natCast, Nat.mul_one, decide_true, decide_false, YtdknnaalfoongaaGreatDoor.D8, ty1, ty2, ty3, ty4, ty27, ty28, ty30, ty32, ty35, ty79]
          exact ih (m - 1) _ _ (by omega) ⟨i + 1, by omega, by simp [Fr.get], by simp [Fr.get, g31], by simp [Fr.get, g1], ⟨_, rfl⟩, hq2⟩
      · rw [decide_eq_false hb] at bo
        simp (maxSteps := 2000000) only [wk0, wk1, wk2, wk3, wk4, wk5, wk6, Fr.ev, Fr.put, Fr.get, storeA, List.replicate, IntKind.bits, sevalprocAttr, g32, g31, g1, hi, p1, ga, wi, Int.toNat_natCast, Nat.mul_one, decide_true, decide_false, YtdknnaalfoongaaGreatDoor.D8, ty1, ty2, ty3, ty4, ty27, ty28, ty30, ty32, ty35, ty79]
        refine callThen_of (bo _) ?_
        simp (maxSteps := 2000000) only [wk0, wk1, wk2, wk3, wk4, wk5, wk6, Fr.ev, Fr.put, Fr.get, storeA, List.replicate, IntKind.bits, sevalprocAttr, g32, g31, g1, hi, p1, ga, wi, Int.toNat_natCast, Nat.mul_one, decide_true, decide_false, YtdknnaalfoongaaGreatDoor.D8, ty1, ty2, ty3, ty4, ty27, ty28, ty30, ty32, ty35, ty79]
        exact retB_plain (by simp [nmd_ifc, nmd_int]) rfl (by simp)
    · obtain rfl : i = 36 := by omega
      simp (maxSteps := 2000000) only [wk0, wk1, wk2, wk3, wk4, wk5, wk6, Fr.ev, Fr.put, Fr.get, storeA, List.replicate, IntKind.bits, sevalprocAttr, g32, g31, g1, hi, stC, List.length_cons, List.length_map, gridP_len, List.take_succ_cons, List.drop_succ_cons, List.drop_zero, List.take_zero, YtdknnaalfoongaaGreatDoor.D8, ty1, ty2, ty3, ty4, ty27, ty28, ty30, ty32, ty35, ty79]
      refine loopC_ind (fun m fr H => ∃ i : Nat, i + m = 6 ∧ fr.get 52 = .int .i64 (i : Int) ∧ fr.get 51 = .agg [.int .i64 (x 0), .int .i64 (x 1), .int .i64 (x 2), .int .i64 (x 3), .int .i64 (x 4), .int .i64 (x 5)] ∧ (∃ L, H = S ++ L) ∧ ∀ q, q < i → topI (x q)) ?_ (n := 6) ⟨0, by omega, rfl, rfl, ⟨_, rfl⟩, fun q hq => by omega⟩
      rintro m fr H ⟨i, him, g52, g51, ⟨L, rfl⟩, hx⟩ ih
      by_cases hi : (i : Int) < 6
      · have hin : i < 6 := by omega
        have p1 : (0 : Int) ≤ i := by omega
        have ga := xs_get x i hin
        have wi : IntKind.i64.wrap ((i : Int) + 1) = ((i + 1 : Nat) : Int) := wrapI (by omega)
        have bo := fun S => bounded12_ok (x i) S
        by_cases hb : topI (x i)
        · rw [decide_eq_true hb] at bo
          have hx2 : ∀ q, q < i + 1 → topI (x q) := by
            intro q hl
            by_cases e : q = i
            · subst e; exact hb
            · exact hx q (by omega)
          simp (maxSteps := 2000000) only [wk0, wk1, wk2, wk3, wk4, wk5, wk6, Fr.ev, Fr.put, Fr.get, storeA, List.replicate, IntKind.bits, sevalprocAttr, g52, g51, hi, p1, ga, wi, Int.toNat_natCast, Nat.mul_one, YtdknnaalfoongaaGreatDoor.D8, ty1, ty2, ty3, ty4, ty27, ty28, ty30, ty32, ty35, ty79]
          refine callThen_of (bo _) ?_
          simp (maxSteps := 2000000) only [wk0, wk1, wk2, wk3, wk4, wk5, wk6, Fr.ev, Fr.put, Fr.get, storeA, List.replicate, IntKind.bits, sevalprocAttr, g52, g51, hi, p1, ga, wi, Int.toNat_natCast, Nat.mul_one, YtdknnaalfoongaaGreatDoor.D8, ty1, ty2, ty3, ty4, ty27, ty28, ty30, ty32, ty35, ty79]
          exact ih (m - 1) _ _ (by omega) ⟨i + 1, by omega, by simp [Fr.get], by simp [Fr.get, g51], ⟨_, rfl⟩, hx2⟩
        · rw [decide_eq_false hb] at bo
          simp (maxSteps := 2000000) only [wk0, wk1, wk2, wk3, wk4, wk5, wk6, Fr.ev, Fr.put, Fr.get, storeA, List.replicate, IntKind.bits, sevalprocAttr, g52, g51, hi, p1, ga, wi, Int.toNat_natCast, Nat.mul_one, YtdknnaalfoongaaGreatDoor.D8, ty1, ty2, ty3, ty4, ty27, ty28, ty30, ty32, ty35, ty79]
          refine callThen_of (bo _) ?_
          simp (maxSteps := 2000000) only [wk0, wk1, wk2, wk3, wk4, wk5, wk6, Fr.ev, Fr.put, Fr.get, storeA, List.replicate, IntKind.bits, sevalprocAttr, g52, g51, hi, p1, ga, wi, Int.toNat_natCast, Nat.mul_one, YtdknnaalfoongaaGreatDoor.D8, ty1, ty2, ty3, ty4, ty27, ty28, ty30, ty32, ty35, ty79]
          exact retB_plain (by simp [nmd_ifc, nmd_int]) rfl (by simp)
      · obtain rfl : i = 6 := by omega
        refine absurd ⟨hev, fun i j hi hj => ?_, fun i hi => ?_, fun i hi => hx i hi⟩ h
        · have := (hq (i * 6 + j) (by omega)).1
          rwa [show (i * 6 + j) / 6 = i by omega, show (i * 6 + j) % 6 = j by omega] at this
        · have := (hq (i * 6 + i) (by omega)).2 (by omega)
          rwa [show (i * 6 + i) / 6 = i by omega, show (i * 6 + i) % 6 = i by omega] at this
  · have asf := allOdd hev
    simp only [mk, matA, Nat.reduceMul, castLit] at si tu
    refine Call.ofC Tryz.func8 YtdknnaalfoongaaGreatDoor.b8 YtdknnaalfoongaaGreatDoor.d8 YtdknnaalfoongaaGreatDoor.e8 (by simp [Tryz.f8]) ?_
    dsimp only [YtdknnaalfoongaaGreatDoor.c8, Tryz.f8, Option.getD_some]
    simp (maxSteps := 2000000) only [wk0, wk1, wk2, wk3, wk4, wk5, wk6, Fr.ev, Fr.put, Fr.get, storeA, List.replicate, IntKind.bits, sevalprocAttr, stA, stC, List.length_cons, List.length_map, gridP_len, List.take_succ_cons, List.drop_succ_cons, List.drop_zero, List.take_zero, tk, al, tk2, al2, asf, YtdknnaalfoongaaGreatDoor.D8, ty1, ty2, ty3, ty4, ty27, ty28, ty30, ty32, ty35, ty79]
    refine callThen_of (si _) ?_
    simp (maxSteps := 2000000) only [wk0, wk1, wk2, wk3, wk4, wk5, wk6, Fr.ev, Fr.put, Fr.get, storeA, List.replicate, IntKind.bits, sevalprocAttr, stA, stC, List.length_cons, List.length_map, gridP_len, List.take_succ_cons, List.drop_succ_cons, List.drop_zero, List.take_zero, tk, al, tk2, al2, asf, YtdknnaalfoongaaGreatDoor.D8, ty1, ty2, ty3, ty4, ty27, ty28, ty30, ty32, ty35, ty79]
    refine callThen_of (tu _) ?_
    simp (maxSteps := 2000000) only [wk0, wk1, wk2, wk3, wk4, wk5, wk6, Fr.ev, Fr.put, Fr.get, storeA, List.replicate, IntKind.bits, sevalprocAttr, stA, stC, List.length_cons, List.length_map, gridP_len, List.take_succ_cons, List.drop_succ_cons, List.drop_zero, List.take_zero, tk, al, tk2, al2, asf, YtdknnaalfoongaaGreatDoor.D8, ty1, ty2, ty3, ty4, ty27, ty28, ty30, ty32, ty35, ty79]
    exact retB_plain (by simp [nmd_ifc, nmd_int]) rfl (by simp)
theorem bl_tops {x vx y vy a b c : Int} (h : OkS (blX x vx y vy) (blF a b c)) : (topI x ∧ topI vx ∧ topI y ∧ topI vy) ∧ topI a ∧ topI b ∧ topI c :=
  ⟨⟨h.x 0 (by decide), h.x 1 (by decide), h.x 3 (by decide), h.x 4 (by decide)⟩, h.top 0 0 (by decide) (by decide), h.top 1 1 (by decide) (by decide), h.top 2 2 (by decide) (by decide)⟩
def zeroS : AV := .agg (List.replicate 44 (.int .i64 0))
theorem blank12_bad (x y vx vy a b c : Int) (S : Heap) (h : ¬ ((topI x ∧ topI vx ∧ topI y ∧ topI vy) ∧ (topI a ∧ topI b ∧ topI c) ∧ 1 ≤ a ∧ 1 ≤ b ∧ 1 ≤ c)) :
    Call theE 34 [.int .i64 x, .int .i64 y, .int .i64 vx, .int .i64 vy, .int .i64 a, .int .i64 b, .int .i64 c] S (.tup [zeroS, errA 1]) S := by
  unfold zeroS
  simp only [List.replicate]
  refine Call.ofC Tryz.func34 YtdknnaalfoongaaGreatDoor.b34 YtdknnaalfoongaaGreatDoor.d34 YtdknnaalfoongaaGreatDoor.e34 (by simp [Tryz.f34]) ?_
  dsimp only [YtdknnaalfoongaaGreatDoor.c34, Tryz.f34, Option.getD_some]
  simp (maxSteps := 2000000) only [wk0, wk1, wk2, wk3, wk4, wk5, wk6, Fr.ev, Fr.put, Fr.get, storeA, List.replicate, IntKind.bits, sevalprocAttr, YtdknnaalfoongaaGreatDoor.D34, ty1, ty2, ty3, ty4, ty27, ty28, ty30, ty32, ty35, ty79]
  refine loopC_of ?_
  by_cases a1 : a < 1
  · simp (maxSteps := 2000000) only [wk0, wk1, wk2, wk3, wk4, wk5, wk6, Fr.ev, Fr.put, Fr.get, storeA, List.replicate, IntKind.bits, sevalprocAttr, a1, YtdknnaalfoongaaGreatDoor.D34, ty1, ty2, ty3, ty4, ty27, ty28, ty30, ty32, ty35, ty79]
    exact retB_plain (by simp [nmd_agg, nmd_int, nmd_ifc]) rfl (by simp)
  simp (maxSteps := 2000000) only [wk0, wk1, wk2, wk3, wk4, wk5, wk6, Fr.ev, Fr.put, Fr.get, storeA, List.replicate, IntKind.bits, sevalprocAttr, a1, YtdknnaalfoongaaGreatDoor.D34, ty1, ty2, ty3, ty4, ty27, ty28, ty30, ty32, ty35, ty79]
  refine loopC_of ?_
  by_cases b1 : b < 1
  · simp (maxSteps := 2000000) only [wk0, wk1, wk2, wk3, wk4, wk5, wk6, Fr.ev, Fr.put, Fr.get, storeA, List.replicate, IntKind.bits, sevalprocAttr, b1, YtdknnaalfoongaaGreatDoor.D34, ty1, ty2, ty3, ty4, ty27, ty28, ty30, ty32, ty35, ty79]
    exact retB_plain (by simp [nmd_agg, nmd_int, nmd_ifc]) rfl (by simp)
  simp (maxSteps := 2000000) only [wk0, wk1, wk2, wk3, wk4, wk5, wk6, Fr.ev, Fr.put, Fr.get, storeA, List.replicate, IntKind.bits, sevalprocAttr, b1, YtdknnaalfoongaaGreatDoor.D34, ty1, ty2, ty3, ty4, ty27, ty28, ty30, ty32, ty35, ty79]
  refine loopC_of ?_
  by_cases c1 : c < 1
  · simp (maxSteps := 2000000) only [wk0, wk1, wk2, wk3, wk4, wk5, wk6, Fr.ev, Fr.put, Fr.get, storeA, List.replicate, IntKind.bits, sevalprocAttr, c1, YtdknnaalfoongaaGreatDoor.D34, ty1, ty2, ty3, ty4, ty27, ty28, ty30, ty32, ty35, ty79]
    exact retB_plain (by simp [nmd_agg, nmd_int, nmd_ifc]) rfl (by simp)
  have ck := fun S => check12_bad (blX x vx y vy) (blF a b c) S (fun o => h ⟨(bl_tops o).1, (bl_tops o).2, by omega, by omega, by omega⟩)
  have eg : (gridP 6 (blF a b c) 36).map (fun x => AV.int .i64 x) = [.int .i64 a, .int .i64 0, .int .i64 0, .int .i64 0, .int .i64 0, .int .i64 0, .int .i64 0, .int .i64 b, .int .i64 0, .int .i64 0, .int .i64 0, .int .i64 0, .int .i64 0, .int .i64 0, .int .i64 c, .int .i64 0, .int .i64 0, .int .i64 0,
      .int .i64 0, .int .i64 0, .int .i64 0, .int .i64 a, .int .i64 0, .int .i64 0, .int .i64 0, .int .i64 0, .int .i64 0, .int .i64 0, .int .i64 b, .int .i64 0, .int .i64 0, .int .i64 0, .int .i64 0, .int .i64 0, .int .i64 0, .int .i64 c] := rfl
  simp only [stA, stC, eg, blX, errA] at ck
  simp (maxSteps := 2000000) only [wk0, wk1, wk2, wk3, wk4, wk5, wk6, Fr.ev, Fr.put, Fr.get, storeA, List.replicate, IntKind.bits, sevalprocAttr, c1, YtdknnaalfoongaaGreatDoor.D34, ty1, ty2, ty3, ty4, ty27, ty28, ty30, ty32, ty35, ty79]
  refine loopC_of ?_
  simp (maxSteps := 2000000) only [wk0, wk1, wk2, wk3, wk4, wk5, wk6, Fr.ev, Fr.put, Fr.get, storeA, List.replicate, IntKind.bits, sevalprocAttr, a1, YtdknnaalfoongaaGreatDoor.D34, ty1, ty2, ty3, ty4, ty27, ty28, ty30, ty32, ty35, ty79]
  refine loopC_of ?_
  simp (maxSteps := 2000000) only [wk0, wk1, wk2, wk3, wk4, wk5, wk6, Fr.ev, Fr.put, Fr.get, storeA, List.replicate, IntKind.bits, sevalprocAttr, b1, YtdknnaalfoongaaGreatDoor.D34, ty1, ty2, ty3, ty4, ty27, ty28, ty30, ty32, ty35, ty79]
  refine loopC_of ?_
  simp (maxSteps := 2000000) only [wk0, wk1, wk2, wk3, wk4, wk5, wk6, Fr.ev, Fr.put, Fr.get, storeA, List.replicate, IntKind.bits, sevalprocAttr, c1, YtdknnaalfoongaaGreatDoor.D34, ty1, ty2, ty3, ty4, ty27, ty28, ty30, ty32, ty35, ty79]
  refine loopC_of ?_
  simp (maxSteps := 2000000) only [wk0, wk1, wk2, wk3, wk4, wk5, wk6, Fr.ev, Fr.put, Fr.get, storeA, List.replicate, IntKind.bits, sevalprocAttr, YtdknnaalfoongaaGreatDoor.D34, ty1, ty2, ty3, ty4, ty27, ty28, ty30, ty32, ty35, ty79]
  refine callThen_of (ck _) ?_
  simp (maxSteps := 2000000) only [wk0, wk1, wk2, wk3, wk4, wk5, wk6, Fr.ev, Fr.put, Fr.get, storeA, List.replicate, IntKind.bits, sevalprocAttr, YtdknnaalfoongaaGreatDoor.D34, ty1, ty2, ty3, ty4, ty27, ty28, ty30, ty32, ty35, ty79]
  exact retB_plain (by simp [nmd_agg, nmd_int, nmd_ifc]) rfl (by simp)
theorem same12_no (x y : Nat → Int) (f : Nat → Nat → Int) (S : Heap) (k : Nat) (hk : k < 6) (hn : x k ≠ y k) : Call theE 13 [stA x f, stA y f] S (.bool false) S := by
  have tk := take36g 6 f 36
  have asf : allInts (stC x 6 6 (gridP 6 f 36)) (stC y 6 6 (gridP 6 f 36)) = some false := by
    have := allInts_dec (x 0 :: x 1 :: x 2 :: x 3 :: x 4 :: x 5 :: 6 :: 6 :: gridP 6 f 36) (y 0 :: y 1 :: y 2 :: y 3 :: y 4 :: y 5 :: 6 :: 6 :: gridP 6 f 36) rfl
    rw [decide_eq_false (by
      intro e
      simp only [List.cons.injEq] at e
      obtain ⟨e0, e1, e2, e3, e4, e5, -⟩ := e
      match k, hk with
      | 0, _ => exact hn e0
      | 1, _ => exact hn e1
      | 2, _ => exact hn e2
      | 3, _ => exact hn e3
      | 4, _ => exact hn e4
      | 5, _ => exact hn e5)] at this
    simpa [stC] using this
  simp only [stC] at asf
  refine Call.ofC Tryz.func13 YtdknnaalfoongaaGreatDoor.b13 YtdknnaalfoongaaGreatDoor.d13 YtdknnaalfoongaaGreatDoor.e13 (by simp [Tryz.f13]) ?_
  dsimp only [YtdknnaalfoongaaGreatDoor.c13, Tryz.f13, Option.getD_some]
  simp (maxSteps := 2000000) only [wk0, wk1, wk2, wk3, wk4, wk5, wk6, Fr.ev, Fr.put, Fr.get, storeA, List.replicate, IntKind.bits, sevalprocAttr, stA, stC, List.length_cons, List.length_map, gridP_len, List.take_succ_cons, List.drop_succ_cons, List.drop_zero, List.take_zero, tk, asf, YtdknnaalfoongaaGreatDoor.D13, ty4, ty32]
  exact retB_plain (by simp [nmd_bool]) rfl (by simp)
end Go.Proofs.YtdknnaalfoongaaGreatDoor
