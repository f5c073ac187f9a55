/- predict: a blank state; layer 12's helpers; what layer 12's statements are sure of. -/
import Derived.Test.YtdknnaalfoongaaGreatDoorS1
set_option linter.unusedSimpArgs false
set_option linter.unusedVariables false
set_option maxRecDepth 100000
set_option maxHeartbeats 8000000
namespace Go.Proofs.YtdknnaalfoongaaGreatDoor
def blX (x vx y vy : Int) : Nat → Int
  | 0 => x
  | 1 => vx
  | 2 => 0
  | 3 => y
  | 4 => vy
  | _ => 0
def blD (a b c : Int) : Nat → Int
  | 0 => a
  | 1 => b
  | 2 => c
  | 3 => a
  | 4 => b
  | _ => c
def blF (a b c : Int) (i j : Nat) : Int := if i = j then blD a b c i else 0
theorem bl_ok {x vx y vy a b c : Int} (h1 : topI x ∧ topI vx ∧ topI y ∧ topI vy) (h2 : topI a ∧ topI b ∧ topI c) (h3 : 1 ≤ a ∧ 1 ≤ b ∧ 1 ≤ c) : OkS (blX x vx y vy) (blF a b c) := by
  have hd : ∀ i, topI (blD a b c i) ∧ 0 ≤ blD a b c i := by
    intro i
    unfold blD
    split <;> (constructor <;> first | exact h2.1 | exact h2.2.1 | exact h2.2.2 | omega)
  refine ⟨fun i j _ _ => ?_, fun i j _ _ => ?_, fun i _ => ?_, fun i _ => ?_⟩
  · unfold blF
    by_cases e : i = j
    · subst e; rfl
    · rw [if_neg e, if_neg (Ne.symm e)]
  · unfold blF
    split
    · exact (hd _).1
    · unfold topI; omega
  · unfold blF; rw [if_pos rfl]; exact (hd _).2
  · unfold blX
    split
    · exact h1.1
    · exact h1.2.1
    · unfold topI; omega
    · exact h1.2.2.1
    · exact h1.2.2.2
    · unfold topI; omega
noncomputable def c34 : Code := Tryz.f34.body.getD .skip
theorem b34 : Tryz.f34.body = some c34 := rfl
theorem d34 : fnOk Tryz.f34 c34 = true := by kernel_rfl
def D34 : Nat → List Tag := fun _ => []
theorem e34 : drawsOk D34 c34 = true := by kernel_rfl
noncomputable def c14 : Code := Tryz.f14.body.getD .skip
theorem b14 : Tryz.f14.body = some c14 := rfl
theorem d14 : fnOk Tryz.f14 c14 = true := by kernel_rfl
def D14 : Nat → List Tag := fun _ => []
theorem e14 : drawsOk D14 c14 = true := by kernel_rfl
noncomputable def c10 : Code := Tryz.f10.body.getD .skip
theorem b10 : Tryz.f10.body = some c10 := rfl
theorem d10 : fnOk Tryz.f10 c10 = true := by kernel_rfl
def D10 : Nat → List Tag := fun _ => []
theorem e10 : drawsOk D10 c10 = true := by kernel_rfl
noncomputable def c6 : Code := Tryz.f6.body.getD .skip
theorem b6 : Tryz.f6.body = some c6 := rfl
theorem d6 : fnOk Tryz.f6 c6 = true := by kernel_rfl
def D6 : Nat → List Tag := fun _ => []
theorem e6 : drawsOk D6 c6 = true := by kernel_rfl
theorem blank12_ok (x y vx vy a b c : Int) (S : Heap) (h1 : topI x ∧ topI vx ∧ topI y ∧ topI vy) (h2 : topI a ∧ topI b ∧ topI c) (h3 : 1 ≤ a ∧ 1 ≤ b ∧ 1 ≤ c) :
    Call theE 34 [.int .i64 x, .int .i64 y, .int .i64 vx, .int .i64 vy, .int .i64 a, .int .i64 b, .int .i64 c] S (.tup [stA (blX x vx y vy) (blF a b c), .nili]) S := by
  have ck := fun S => check12_ok (blX x vx y vy) (blF a b c) S (bl_ok h1 h2 h3)
  have eg : (gridP 6 (blF a b c) 36).map (fun x => AV.int .i64 x) = [.int .i64 a, .int .i64 0, .int .i64 0, .int .i64 0, .int .i64 0, .int .i64 0, .int .i64 0, .int .i64 b, .int .i64 0, .int .i64 0, .int .i64 0, .int .i64 0, .int .i64 0, .int .i64 0, .int .i64 c, .int .i64 0, .int .i64 0, .int .i64 0,
      .int .i64 0, .int .i64 0, .int .i64 0, .int .i64 a, .int .i64 0, .int .i64 0, .int .i64 0, .int .i64 0, .int .i64 0, .int .i64 0, .int .i64 b, .int .i64 0, .int .i64 0, .int .i64 0, .int .i64 0, .int .i64 0, .int .i64 0, .int .i64 c] := rfl
  simp only [stA, stC, eg, blX] at ck ⊢
  have a1 : ¬ a < 1 := by omega
  have b1 : ¬ b < 1 := by omega
  have c1 : ¬ c < 1 := by omega
  refine Call.ofC Tryz.func34 YtdknnaalfoongaaGreatDoor.b34 YtdknnaalfoongaaGreatDoor.d34 YtdknnaalfoongaaGreatDoor.e34 (by simp [Tryz.f34]) ?_
  dsimp only [YtdknnaalfoongaaGreatDoor.c34, Tryz.f34, Option.getD_some]
  simp (maxSteps := 2000000) only [wk0, wk1, wk2, wk3, wk4, wk5, wk6, Fr.ev, Fr.put, Fr.get, storeA, List.replicate, IntKind.bits, sevalprocAttr, YtdknnaalfoongaaGreatDoor.D34, ty1, ty2, ty3, ty4, ty27, ty28, ty30, ty32, ty35, ty79]
  refine loopC_of ?_
  simp (maxSteps := 2000000) only [wk0, wk1, wk2, wk3, wk4, wk5, wk6, Fr.ev, Fr.put, Fr.get, storeA, List.replicate, IntKind.bits, sevalprocAttr, a1, YtdknnaalfoongaaGreatDoor.D34, ty1, ty2, ty3, ty4, ty27, ty28, ty30, ty32, ty35, ty79]
  refine loopC_of ?_
  simp (maxSteps := 2000000) only [wk0, wk1, wk2, wk3, wk4, wk5, wk6, Fr.ev, Fr.put, Fr.get, storeA, List.replicate, IntKind.bits, sevalprocAttr, b1, YtdknnaalfoongaaGreatDoor.D34, ty1, ty2, ty3, ty4, ty27, ty28, ty30, ty32, ty35, ty79]
  refine loopC_of ?_
  simp (maxSteps := 2000000) only [wk0, wk1, wk2, wk3, wk4, wk5, wk6, Fr.ev, Fr.put, Fr.get, storeA, List.replicate, IntKind.bits, sevalprocAttr, c1, YtdknnaalfoongaaGreatDoor.D34, ty1, ty2, ty3, ty4, ty27, ty28, ty30, ty32, ty35, ty79]
  refine loopC_of ?_
  simp (maxSteps := 2000000) only [wk0, wk1, wk2, wk3, wk4, wk5, wk6, Fr.ev, Fr.put, Fr.get, storeA, List.replicate, IntKind.bits, sevalprocAttr, a1, YtdknnaalfoongaaGreatDoor.D34, ty1, ty2, ty3, ty4, ty27, ty28, ty30, ty32, ty35, ty79]
  refine loopC_of ?_
  simp (maxSteps := 2000000) only [wk0, wk1, wk2, wk3, wk4, wk5, wk6, Fr.ev, Fr.put, Fr.get, storeA, List.replicate, IntKind.bits, sevalprocAttr, b1, YtdknnaalfoongaaGreatDoor.D34, ty1, ty2, ty3, ty4, ty27, ty28, ty30, ty32, ty35, ty79]
  refine loopC_of ?_
  simp (maxSteps := 2000000) only [wk0, wk1, wk2, wk3, wk4, wk5, wk6, Fr.ev, Fr.put, Fr.get, storeA, List.replicate, IntKind.bits, sevalprocAttr, c1, YtdknnaalfoongaaGreatDoor.D34, ty1, ty2, ty3, ty4, ty27, ty28, ty30, ty32, ty35, ty79]
  refine loopC_of ?_
  simp (maxSteps := 2000000) only [wk0, wk1, wk2, wk3, wk4, wk5, wk6, Fr.ev, Fr.put, Fr.get, storeA, List.replicate, IntKind.bits, sevalprocAttr, YtdknnaalfoongaaGreatDoor.D34, ty1, ty2, ty3, ty4, ty27, ty28, ty30, ty32, ty35, ty79]
  refine callThen_of (ck _) ?_
  simp (maxSteps := 2000000) only [wk0, wk1, wk2, wk3, wk4, wk5, wk6, Fr.ev, Fr.put, Fr.get, storeA, List.replicate, IntKind.bits, sevalprocAttr, YtdknnaalfoongaaGreatDoor.D34, ty1, ty2, ty3, ty4, ty27, ty28, ty30, ty32, ty35, ty79]
  exact retB_plain (by simp [nmd_agg, nmd_int, nmd_nili]) rfl (by simp)
def SixL (l : List (List Int)) : Prop := MayR l ∧ l.length = 6 ∧ (l.getD 0 []).length = 6
theorem six12_yes (l : List (List Int)) (S : Heap) (h : SixL l) : Call theE 14 [lstL l] S (.bool true) S := by
  have qm := fun S => may_ok l S
  rw [decide_eq_true h.1] at qm
  have h0 : 0 < l.length := by have := h.2.1; omega
  have gl := get_lstL h0
  have e0 := getD_lst h0
  have l0 : l[0].length = 6 := by rw [← e0]; exact h.2.2
  simp only [lstI, l0, h.2.1] at gl
  simp only [lstL, h.2.1] at qm ⊢
  refine Call.ofC Tryz.func14 YtdknnaalfoongaaGreatDoor.b14 YtdknnaalfoongaaGreatDoor.d14 YtdknnaalfoongaaGreatDoor.e14 (by simp [Tryz.f14]) ?_
  dsimp only [YtdknnaalfoongaaGreatDoor.c14, Tryz.f14, Option.getD_some]
  simp (maxSteps := 2000000) only [wk0, wk1, wk2, wk3, wk4, wk5, wk6, Fr.ev, Fr.put, Fr.get, storeA, List.replicate, IntKind.bits, sevalprocAttr, gl, castLit, YtdknnaalfoongaaGreatDoor.D14, ty3, ty4, ty22, ty23]
  refine callThen_of (qm _) ?_
  simp (maxSteps := 2000000) only [wk0, wk1, wk2, wk3, wk4, wk5, wk6, Fr.ev, Fr.put, Fr.get, storeA, List.replicate, IntKind.bits, sevalprocAttr, gl, castLit, YtdknnaalfoongaaGreatDoor.D14, ty3, ty4, ty22, ty23]
  exact retB_plain (by simp [nmd_bool]) rfl (by simp)
theorem six12_no (l : List (List Int)) (S : Heap) (h : ¬ SixL l) : Call theE 14 [lstL l] S (.bool false) S := by
  have qm := fun S => may_ok l S
  by_cases hm : MayR l
  · rw [decide_eq_true hm] at qm
    have h0 : 0 < l.length := by have := hm.1; omega
    have gl := get_lstL h0
    have e0 := getD_lst h0
    have k0 : (0 : Int) < l.length := by omega
    simp only [lstL, lstI] at qm gl ⊢
    by_cases h6 : l.length = 6
    · have h6' : ((l.length : Int) = 6) = True := eq_true (by omega)
      have hc : ((l[0].length : Int) = 6) = False := eq_false (fun e => h ⟨hm, h6, by rw [e0]; omega⟩)
      refine Call.ofC Tryz.func14 YtdknnaalfoongaaGreatDoor.b14 YtdknnaalfoongaaGreatDoor.d14 YtdknnaalfoongaaGreatDoor.e14 (by simp [Tryz.f14]) ?_
      dsimp only [YtdknnaalfoongaaGreatDoor.c14, Tryz.f14, Option.getD_some]
      simp (maxSteps := 2000000) only [wk0, wk1, wk2, wk3, wk4, wk5, wk6, Fr.ev, Fr.put, Fr.get, storeA, List.replicate, IntKind.bits, sevalprocAttr, gl, k0, h6', hc, decide_true, decide_false, YtdknnaalfoongaaGreatDoor.D14, ty3, ty4, ty22, ty23]
      refine callThen_of (qm _) ?_
      simp (maxSteps := 2000000) only [wk0, wk1, wk2, wk3, wk4, wk5, wk6, Fr.ev, Fr.put, Fr.get, storeA, List.replicate, IntKind.bits, sevalprocAttr, gl, k0, h6', hc, decide_true, decide_false, YtdknnaalfoongaaGreatDoor.D14, ty3, ty4, ty22, ty23]
      exact retB_plain (by simp [nmd_bool]) rfl (by simp)
    · have h6' : ((l.length : Int) = 6) = False := eq_false (by omega)
      refine Call.ofC Tryz.func14 YtdknnaalfoongaaGreatDoor.b14 YtdknnaalfoongaaGreatDoor.d14 YtdknnaalfoongaaGreatDoor.e14 (by simp [Tryz.f14]) ?_
      dsimp only [YtdknnaalfoongaaGreatDoor.c14, Tryz.f14, Option.getD_some]
      simp (maxSteps := 2000000) only [wk0, wk1, wk2, wk3, wk4, wk5, wk6, Fr.ev, Fr.put, Fr.get, storeA, List.replicate, IntKind.bits, sevalprocAttr, h6', decide_true, decide_false, YtdknnaalfoongaaGreatDoor.D14, ty3, ty4, ty22, ty23]
      refine callThen_of (qm _) ?_
      simp (maxSteps := 2000000) only [wk0, wk1, wk2, wk3, wk4, wk5, wk6, Fr.ev, Fr.put, Fr.get, storeA, List.replicate, IntKind.bits, sevalprocAttr, h6', decide_true, decide_false, YtdknnaalfoongaaGreatDoor.D14, ty3, ty4, ty22, ty23]
      exact retB_plain (by simp [nmd_bool]) rfl (by simp)
  · rw [decide_eq_false hm] at qm
    simp only [lstL] at qm ⊢
    refine Call.ofC Tryz.func14 YtdknnaalfoongaaGreatDoor.b14 YtdknnaalfoongaaGreatDoor.d14 YtdknnaalfoongaaGreatDoor.e14 (by simp [Tryz.f14]) ?_
    dsimp only [YtdknnaalfoongaaGreatDoor.c14, Tryz.f14, Option.getD_some]
    simp (maxSteps := 2000000) only [wk0, wk1, wk2, wk3, wk4, wk5, wk6, Fr.ev, Fr.put, Fr.get, storeA, List.replicate, IntKind.bits, sevalprocAttr, YtdknnaalfoongaaGreatDoor.D14, ty3, ty4, ty22, ty23]
    refine callThen_of (qm _) ?_
    simp (maxSteps := 2000000) only [wk0, wk1, wk2, wk3, wk4, wk5, wk6, Fr.ev, Fr.put, Fr.get, storeA, List.replicate, IntKind.bits, sevalprocAttr, YtdknnaalfoongaaGreatDoor.D14, ty3, ty4, ty22, ty23]
    exact retB_plain (by simp [nmd_bool]) rfl (by simp)
theorem matOf12_six (u : AV) (f : Nat → Nat → Int) (S : Heap) (hu : ∀ o k H, moveA o k H u = some (u, H)) (q : ∀ S, Call theE 41 [u] S (.tup [mk 6 6 f, .nili]) S) : Call theE 10 [u] S (mk 6 6 f) S := by
  have tk := take36g 6 f 36
  have al := all36g (gridP 6 f 36)
  simp only [mk, matA, Nat.reduceMul, castLit] at q ⊢
  refine Call.ofC Tryz.func10 YtdknnaalfoongaaGreatDoor.b10 YtdknnaalfoongaaGreatDoor.d10 YtdknnaalfoongaaGreatDoor.e10 (by simp [Tryz.f10]) ?_
  dsimp only [YtdknnaalfoongaaGreatDoor.c10, Tryz.f10, Option.getD_some]
  simp (maxSteps := 2000000) only [wk0, wk1, wk2, wk3, wk4, wk5, wk6, Fr.ev, Fr.put, Fr.get, storeA, List.replicate, IntKind.bits, sevalprocAttr, hu, List.length_map, gridP_len, tk, al, YtdknnaalfoongaaGreatDoor.D10, ty4, ty23, ty30, ty35]
  refine callThen_of (q _) ?_
  simp (maxSteps := 2000000) only [wk0, wk1, wk2, wk3, wk4, wk5, wk6, Fr.ev, Fr.put, Fr.get, storeA, List.replicate, IntKind.bits, sevalprocAttr, hu, List.length_map, gridP_len, tk, al, YtdknnaalfoongaaGreatDoor.D10, ty4, ty23, ty30, ty35]
  exact retB_plain (by simp [nmd_agg, nmd_int]) rfl (by simp)
def suF (i j : Nat) : Int := if i = j then 1048576 else if i = 0 ∧ j = 1 then 1048576 else 0
theorem sure12_ok (S : Heap) : Call theE 6 [] S (.bool true) S := by
  have q1 := fun S => blank12_ok 0 0 10485760 0 1048576 1048576 1048576 S (by decide) (by decide) (by decide)
  have q2 := fun S => eye_ok 6 S (by decide)
  have q3 := fun S => next12_ok (blX 0 10485760 0 0) (blF 1048576 1048576 1048576) suF (fun _ _ => 0) S (bl_ok (by decide) (by decide) (by decide)) (fun i j _ _ => by unfold suF inI; split <;> (try split) <;> omega) (fun _ _ _ _ => by unfold inI; omega)
  have e0 : nxX (blX 0 10485760 0 0) suF 0 = 10485760 := by decide
  have e1 : nxX (blX 0 10485760 0 0) suF 1 = 10485760 := by decide
  have eo : nxO (blX 0 10485760 0 0) (blF 1048576 1048576 1048576) suF (fun _ _ => 0) = false := by decide
  have g0 := grid_at (sprF (blF 1048576 1048576 1048576) suF (fun _ _ => 0)) 0 (by decide)
  have g1 := grid_at (sprF (blF 1048576 1048576 1048576) suF (fun _ _ => 0)) 1 (by decide)
  have e2 : sprF (blF 1048576 1048576 1048576) suF (fun _ _ => 0) (0 / 6) (0 % 6) = 2097152 := by decide
  have e3 : sprF (blF 1048576 1048576 1048576) suF (fun _ _ => 0) (1 / 6) (1 % 6) = 1048576 := by decide
  rw [e2] at g0
  rw [e3] at g1
  have ee : (gridP 6 (eyeP 6) 36).map (fun x => AV.int .i64 x) = (AV.int .i64 1048576 :: AV.int .i64 0 :: ((gridP 6 (eyeP 6) 36).drop 2).map fun x => AV.int .i64 x) := rfl
  have es : (gridP 6 suF 36).map (fun x => AV.int .i64 x) = (AV.int .i64 1048576 :: AV.int .i64 1048576 :: ((gridP 6 (eyeP 6) 36).drop 2).map fun x => AV.int .i64 x) := rfl
  have ez : (gridP 6 (fun _ _ => 0) 36).map (fun x => AV.int .i64 x) = List.replicate 36 (.int .i64 0) := rfl
  have el : ((gridP 6 (eyeP 6) 36).drop 2).length = 34 := by simp [gridP_len]
  simp only [stA, stC, mk, matA, Nat.reduceMul, castLit, eo, e0, e1, ee, es, ez, List.replicate] at q1 q2 q3
  generalize (gridP 6 (eyeP 6) 36).drop 2 = R at *
  have tR : List.take 34 (R.map fun x => AV.int .i64 x) = R.map fun x => .int .i64 x := List.take_of_length_le (by simp [el])
  have aR := all36g R
  generalize sprF (blF 1048576 1048576 1048576) suF (fun _ _ => 0) = F2 at *
  generalize blF 1048576 1048576 1048576 = F1 at *
  generalize blX 0 10485760 0 0 = X1 at *
  generalize nxX X1 suF = X2 at *
  refine Call.ofC Tryz.func6 YtdknnaalfoongaaGreatDoor.b6 YtdknnaalfoongaaGreatDoor.d6 YtdknnaalfoongaaGreatDoor.e6 (by simp [Tryz.f6]) ?_
  dsimp only [YtdknnaalfoongaaGreatDoor.c6, Tryz.f6, Option.getD_some]
  simp (maxSteps := 2000000) only [wk0, wk1, wk2, wk3, wk4, wk5, wk6, Fr.ev, Fr.put, Fr.get, storeA, List.replicate, IntKind.bits, sevalprocAttr, g0, g1, List.length_cons, List.length_map, gridP_len, el, tR, aR, List.take_succ_cons, List.drop_succ_cons, List.drop_zero, List.take_zero, take36g, all36g, List.getElem?_cons_succ, List.getElem?_cons_zero, YtdknnaalfoongaaGreatDoor.D6, ty1, ty2, ty3, ty4, ty27, ty28, ty30, ty32, ty35]
  refine callThen_of (q1 _) ?_
  simp (maxSteps := 2000000) only [wk0, wk1, wk2, wk3, wk4, wk5, wk6, Fr.ev, Fr.put, Fr.get, storeA, List.replicate, IntKind.bits, sevalprocAttr, g0, g1, List.length_cons, List.length_map, gridP_len, el, tR, aR, List.take_succ_cons, List.drop_succ_cons, List.drop_zero, List.take_zero, take36g, all36g, List.getElem?_cons_succ, List.getElem?_cons_zero, YtdknnaalfoongaaGreatDoor.D6, ty1, ty2, ty3, ty4, ty27, ty28, ty30, ty32, ty35]
  refine callThen_of (q2 _) ?_
  simp (maxSteps := 2000000) only [wk0, wk1, wk2, wk3, wk4, wk5, wk6, Fr.ev, Fr.put, Fr.get, storeA, List.replicate, IntKind.bits, sevalprocAttr, g0, g1, List.length_cons, List.length_map, gridP_len, el, tR, aR, List.take_succ_cons, List.drop_succ_cons, List.drop_zero, List.take_zero, take36g, all36g, List.getElem?_cons_succ, List.getElem?_cons_zero, YtdknnaalfoongaaGreatDoor.D6, ty1, ty2, ty3, ty4, ty27, ty28, ty30, ty32, ty35]
  refine callThen_of (q3 _) ?_
  simp (maxSteps := 2000000) only [wk0, wk1, wk2, wk3, wk4, wk5, wk6, Fr.ev, Fr.put, Fr.get, storeA, List.replicate, IntKind.bits, sevalprocAttr, g0, g1, List.length_cons, List.length_map, gridP_len, el, tR, aR, List.take_succ_cons, List.drop_succ_cons, List.drop_zero, List.take_zero, take36g, all36g, List.getElem?_cons_succ, List.getElem?_cons_zero, YtdknnaalfoongaaGreatDoor.D6, ty1, ty2, ty3, ty4, ty27, ty28, ty30, ty32, ty35]
  exact retB_plain (by simp [nmd_bool]) rfl (by simp)
end Go.Proofs.YtdknnaalfoongaaGreatDoor
