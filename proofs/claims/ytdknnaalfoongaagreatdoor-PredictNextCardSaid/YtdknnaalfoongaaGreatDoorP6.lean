/- The document's sum of products, rounded once. -/
import Derived.Test.YtdknnaalfoongaaGreatDoorP5
import Derived.Test.YtdknnaalfoongaaGreatDoorQ2
set_option linter.unusedSimpArgs false
set_option linter.unusedVariables false
set_option maxRecDepth 100000
set_option maxHeartbeats 4000000
namespace Go.Proofs.YtdknnaalfoongaaGreatDoor
def prodL (x y : Int) : Bool × Nat := (decide (x < 0) != decide (y < 0), x.natAbs * y.natAbs)
theorem valL_prod (x y : Int) : valL (prodL x y) = x * y := by
  unfold valL prodL
  rcases Int.natAbs_eq x with hx | hx <;> rcases Int.natAbs_eq y with hy | hy
  all_goals
    generalize x.natAbs = a at *
    generalize y.natAbs = b at *
    subst hx hy
  · rw [decide_eq_false (by omega), decide_eq_false (by omega)]; simp
  · by_cases h : b = 0
    · subst h; simp
    · rw [decide_eq_false (by omega), decide_eq_true (by omega)]; simp [Int.mul_neg]
  · by_cases h : a = 0
    · subst h; simp
    · rw [decide_eq_true (by omega), decide_eq_false (by omega)]; simp [Int.neg_mul]
  · by_cases h : a = 0
    · subst h; simp
    · by_cases h2 : b = 0
      · subst h2; simp
      · rw [decide_eq_true (by omega), decide_eq_true (by omega)]; simp [Int.neg_mul, Int.mul_neg]
def sumL (l r : List Int) : Nat → Bool × Nat
  | 0 => (false, 0)
  | i + 1 => joinW (sumL l r i) (prodL (l.getD i 0) (r.getD i 0))
theorem valL_sum (l r : List Int) (i : Nat) (h1 : i ≤ l.length) (h2 : i ≤ r.length) : valL (sumL l r i) = dotP l r i := by
  induction i with
  | zero => rw [dotP_zero]; rfl
  | succ i ih =>
    rw [sumL, valL_join, valL_prod, ih (by omega) (by omega), dotP_succ l r i (by omega) (by omega)]
    simp [List.getD_eq_getElem?_getD, List.getElem?_eq_getElem (show i < l.length by omega), List.getElem?_eq_getElem (show i < r.length by omega)]
noncomputable def c83 : Code := Tryz.f83.body.getD .skip
theorem b83 : Tryz.f83.body = some c83 := rfl
theorem d83 : fnOk Tryz.f83 c83 = true := by kernel_rfl
def D83 : Nat → List Tag
  | 5 => [.quiet, .pure, .pure, .pure, .quiet, .pure, .pure, .pure, .quiet, .quiet, .seq, .seq]
  | _ => []
theorem e83 : drawsOk D83 c83 = true := by kernel_rfl
theorem refDot_ok (v u : AV) (l r : List Int) (n : Nat) (S : Heap) (hv : SlI S v l) (hu : SlI S u r) (hn : n ≤ 62) (hlr : l.length = r.length) (hl : l.length ≤ 64) (hl' : ∀ x ∈ l, inI x) (hr' : ∀ x ∈ r, inI x) :
    Call theE 83 [v, u, .int .i64 n] S (.tup [.int .i64 (bndI (rnd (dotZ l r) (2 ^ n))), .bool (ovrB (rnd (dotZ l r) (2 ^ n)))]) S := by
  have c1 := hv.mv
  have c2 := hu.mv
  have c3 := hv.ln
  have c4 := hu.ln
  have hT : (4294967296 : Nat) ^ 8 = 115792089237316195423570985008687907853269984665640564039457584007913129639936 := by decide
  have hs : ∀ i, i ≤ l.length → (sumL l r i).2 ≤ i * 85070591730234615865843651857942052864 := fun i hi => by
    have h1 := valL_sum l r i hi (by omega)
    have h2 := dotP_bound l r i hl' hr' hi (by omega)
    have h3 := abs_valL (sumL l r i)
    omega
  refine Call.ofC Tryz.func83 YtdknnaalfoongaaGreatDoor.b83 YtdknnaalfoongaaGreatDoor.d83 YtdknnaalfoongaaGreatDoor.e83 (by simp [Tryz.f83]) ?_
  dsimp only [YtdknnaalfoongaaGreatDoor.c83, Tryz.f83, Option.getD_some]
  simp (maxSteps := 2000000) only [wk0, wk1, wk2, wk3, wk4, wk5, wk6, Fr.ev, Fr.put, Fr.get, storeA, List.replicate, IntKind.bits, sevalprocAttr, c1, c2, c3, c4, YtdknnaalfoongaaGreatDoor.D83, ty2, ty3, ty4, ty22, ty172]
  refine loopC_ind (fun m fr H => ∃ i : Nat, i + m = l.length ∧ fr.get 0 = v ∧ fr.get 1 = u ∧ fr.get 2 = .int .i64 n ∧ fr.get 8 = .ptr S.length 0 0 ∧ fr.get 9 = .int .i64 (i : Int) ∧
    H = S ++ [some ⟨.bool (sumL l r i).1 :: uL (wB (sumL l r i).2), 0⟩]) ?_ (n := l.length) ⟨0, by omega, rfl, rfl, rfl, rfl, rfl, by rw [wB8]; simp [sumL, dB]⟩
  rintro m fr H ⟨i, him, g0, g1, g2, g8, g9, rfl⟩ ih
  have hsi := hs i (by omega)
  by_cases hi : (i : Int) < l.length
  · have hil : i < l.length := by omega
    have hir : i < r.length := by omega
    have ia1 := fun a c z x => hv.ia a c z x (i : Int) (by omega) (by omega)
    have ia2 := fun a c z x => hu.ia a c z x (i : Int) (by omega) (by omega)
    simp only [Int.toNat_natCast] at ia1 ia2
    have mp1 := fun k H => hv.mp k H i hil
    have mp2 := fun k H => hu.mp k H i hir
    have ld1 : ∀ s z k L, loadA ⟨false, s, z, k⟩ (S ++ L) (adrI v i) = some (.int .i64 (l.getD i 0)) := fun s z k L => by rw [hv.ld i hil]; simp [List.getD_eq_getElem?_getD, List.getElem?_eq_getElem hil]
    have ld2 : ∀ s z k L, loadA ⟨false, s, z, k⟩ (S ++ L) (adrI u i) = some (.int .i64 (r.getD i 0)) := fun s z k L => by rw [hu.ld i hir]; simp [List.getD_eq_getElem?_getD, List.getElem?_eq_getElem hir]
    have wi : IntKind.i64.wrap ((i : Int) + 1) = ((i + 1 : Nat) : Int) := wrapI (by omega)
    have il : inI (l.getD i 0) := by rw [List.getD_eq_getElem?_getD, List.getElem?_eq_getElem hil]; exact hl' _ (List.getElem_mem hil)
    have ir : inI (r.getD i 0) := by rw [List.getD_eq_getElem?_getD, List.getElem?_eq_getElem hir]; exact hr' _ (List.getElem_mem hir)
    have hp := fun S => prod_ok (l.getD i 0) (r.getD i 0) S il ir
    have hpb : (prodL (l.getD i 0) (r.getD i 0)).2 ≤ 85070591730234615865843651857942052864 := by
      unfold prodL inI at *
      exact Nat.le_trans (Nat.mul_le_mul (show (l.getD i 0).natAbs ≤ 9223372036854775808 by omega) (show (r.getD i 0).natAbs ≤ 9223372036854775808 by omega)) (by decide)
    have hj := fun S => joinB_ok (sumL l r i) (prodL (l.getD i 0) (r.getD i 0)) S (by rw [hT]; omega) (by rw [hT]; omega) (by rw [hT]; omega)
    have hj2 : joinW (sumL l r i) (prodL (l.getD i 0) (r.getD i 0)) = sumL l r (i + 1) := rfl
    rw [hj2] at hj
    simp only [longP, longA, wB8] at hp hj
    generalize l.getD i 0 = xl at *
    generalize r.getD i 0 = xr at *
    simp (maxSteps := 2000000) only [wk0, wk1, wk2, wk3, wk4, wk5, wk6, Fr.ev, Fr.put, Fr.get, storeA, List.replicate, IntKind.bits, sevalprocAttr, c1, c2, c3, g0, g1, g2, g8, g9, hi, ia1, ia2, mp1, mp2, ld1, ld2, wB8, YtdknnaalfoongaaGreatDoor.D83, ty2, ty3, ty4, ty22, ty172]
    refine callThen_of (hp _) ?_
    simp (maxSteps := 2000000) only [wk0, wk1, wk2, wk3, wk4, wk5, wk6, Fr.ev, Fr.put, Fr.get, storeA, List.replicate, IntKind.bits, sevalprocAttr, YtdknnaalfoongaaGreatDoor.D83, ty2, ty3, ty4, ty22, ty172]
    refine callThen_of (hj _) ?_
    simp (maxSteps := 2000000) only [wk0, wk1, wk2, wk3, wk4, wk5, wk6, Fr.ev, Fr.put, Fr.get, storeA, List.replicate, IntKind.bits, sevalprocAttr, c1, c2, g0, g1, g2, g8, g9, wi, YtdknnaalfoongaaGreatDoor.D83, ty2, ty3, ty4, ty22, ty172]
    exact ih (m - 1) _ _ (by omega) ⟨i + 1, by omega, by simp [Fr.get, g0], by simp [Fr.get, g1], by simp [Fr.get, g2], by simp [Fr.get, g8], by simp [Fr.get], rfl⟩
  · have hie : i = l.length := by omega
    have hz : valL (sumL l r i) = dotZ l r := by rw [valL_sum l r i (by omega) (by omega), hie]; exact dotP_all l r hlr
    have hb := fun S => by_ok (sumL l r i) n S hn (by rw [hT]; omega)
    rw [hz] at hb
    simp only [longP, longA, wB8] at hb
    simp (maxSteps := 2000000) only [wk0, wk1, wk2, wk3, wk4, wk5, wk6, Fr.ev, Fr.put, Fr.get, storeA, List.replicate, IntKind.bits, sevalprocAttr, c1, c2, c3, g0, g1, g2, g8, g9, hi, wB8, YtdknnaalfoongaaGreatDoor.D83, ty2, ty3, ty4, ty22, ty172]
    refine callThen_of (hb _) ?_
    simp (maxSteps := 2000000) only [wk0, wk1, wk2, wk3, wk4, wk5, wk6, Fr.ev, Fr.put, Fr.get, storeA, List.replicate, IntKind.bits, sevalprocAttr, YtdknnaalfoongaaGreatDoor.D83, ty2, ty3, ty4, ty22, ty172]
    exact retB_plain (by simp [nmd_int, nmd_bool]) rfl (by simp)
end Go.Proofs.YtdknnaalfoongaaGreatDoor
