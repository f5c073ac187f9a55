/- predict: a state after a step. -/
import Derived.Test.YtdknnaalfoongaaGreatDoorS0
set_option linter.unusedSimpArgs false
set_option linter.unusedVariables false
set_option maxRecDepth 100000
set_option maxHeartbeats 4000000
namespace Go.Proofs.YtdknnaalfoongaaGreatDoor
theorem bnd_inI (x : Int) : inI (bndI x) := by unfold inI bndI; omega
theorem bnd_top (x : Int) : topI (bndI x) := by unfold topI bndI; omega
def sprA (p st : Nat → Nat → Int) (i j : Nat) : Int := bndI (mulF st p 6 i j)
def sprB (p st : Nat → Nat → Int) (i j : Nat) : Int := bndI (mulF (sprA p st) (fun i j => st j i) 6 i j)
def sprC (p st no : Nat → Nat → Int) (i j : Nat) : Int := bndI (sprB p st i j + no i j)
def sprD (p st no : Nat → Nat → Int) (i j : Nat) : Int := bndI (evenF (sprC p st no) i j)
def dgF (D : Nat → Nat → Int) (k i j : Nat) : Int := if i = j ∧ i < k then max 0 (D i j) else D i j
def sprF (p st no : Nat → Nat → Int) : Nat → Nat → Int := dgF (sprD p st no) 6
def sprO (p st no : Nat → Nat → Int) : Bool :=
  (((anyP 6 (fun i j => ovrB (mulF st p 6 i j)) 36 || anyP 6 (fun i j => ovrB (mulF (sprA p st) (fun i j => st j i) 6 i j)) 36) || anyP 6 (fun i j => ovrB (sprB p st i j + no i j)) 36) || anyP 6 (fun i j => ovrB (evenF (sprC p st no) i j)) 36)
theorem dg_set (D : Nat → Nat → Int) (k : Nat) (hk : k < 6) : (gridP 6 (dgF D k) 36).set (k * 7) (max 0 (D k k)) = gridP 6 (dgF D (k + 1)) 36 := by
  apply List.ext_getElem
  · simp [gridP]
  · intro q h1 h2
    have hq : q < 36 := by simpa [gridP] using h2
    simp only [gridP, dgF, List.getElem_set, List.getElem_map, List.getElem_range, if_pos hq]
    by_cases e : k * 7 = q
    · have d1 : q / 6 = k := by omega
      have d2 : q % 6 = k := by omega
      rw [if_pos e, d1, d2, if_pos ⟨rfl, by omega⟩]
    · rw [if_neg e]
      by_cases h4 : q / 6 = q % 6 ∧ q / 6 < k
      · rw [if_pos h4, if_pos (by omega)]
      · rw [if_neg h4, if_neg (by omega)]
noncomputable def c40 : Code := Tryz.f40.body.getD .skip
theorem b40 : Tryz.f40.body = some c40 := rfl
theorem d40 : fnOk Tryz.f40 c40 = true := by kernel_rfl
def D40 : Nat → List Tag := fun _ => []
theorem e40 : drawsOk D40 c40 = true := by kernel_rfl
noncomputable def c9 : Code := Tryz.f9.body.getD .skip
theorem b9 : Tryz.f9.body = some c9 := rfl
theorem d9 : fnOk Tryz.f9 c9 = true := by kernel_rfl
def D9 : Nat → List Tag
  | 3 => [.quiet, .pure, .quiet, .seq, .pure, .pure, .pure, .pure, .pure, .pure, .pure]
  | 9 => [.pure, .pure, .quiet, .quiet, .pure, .pure, .pure, .pure, .pure, .seq, .pure, .pure]
  | _ => []
theorem e9 : drawsOk D9 c9 = true := by kernel_rfl
theorem spread_ok (p st no : Nat → Nat → Int) (S : Heap) (hp : ∀ i j, i < 6 → j < 6 → inI (p i j)) (hs : ∀ i j, i < 6 → j < 6 → inI (st i j)) (hn : ∀ i j, i < 6 → j < 6 → inI (no i j)) :
    Call theE 40 [mk 6 6 p, mk 6 6 st, mk 6 6 no] S (.tup [mk 6 6 (sprF p st no), .bool (sprO p st no), .nili]) S := by
  have q1 := fun S => mul_mat_ok 6 6 6 st p S (by decide) (by decide) (by decide) hs hp
  have q2 := fun S => turn_ok 6 6 st S (by decide) (by decide)
  have q3 := fun S => mul_mat_ok 6 6 6 (sprA p st) (fun i j => st j i) S (by decide) (by decide) (by decide) (fun i j _ _ => bnd_inI _) (fun i j hi hj => hs j i hj hi)
  have q4 := fun S => matAdd_ok 6 6 (sprB p st) no S (by decide) (by decide) (fun i j _ _ => bnd_inI _) hn
  have q5 := fun S => even_mat_ok 6 (sprC p st no) S (by decide) (fun i j _ _ => bnd_inI _)
  change ∀ S, Call _ _ _ _ (.tup [mk 6 6 (sprA p st), _, _]) _ at q1
  change ∀ S, Call _ _ _ _ (.tup [mk 6 6 (sprB p st), _, _]) _ at q3
  change ∀ S, Call _ _ _ _ (.tup [mk 6 6 (sprC p st no), _, _]) _ at q4
  change ∀ S, Call _ _ _ _ (.tup [mk 6 6 (sprD p st no), _, _]) _ at q5
  unfold sprO sprF
  simp only [mk, matA, Nat.reduceMul, castLit] at q1 q2 q3 q4 q5 ⊢
  generalize sprA p st = A at *
  generalize sprB p st = B at *
  generalize sprC p st no = Cc at *
  generalize sprD p st no = Dd at *
  generalize anyP 6 (fun i j => ovrB (mulF st p 6 i j)) 36 = o1 at *
  generalize anyP 6 (fun i j => ovrB (mulF A (fun i j => st j i) 6 i j)) 36 = o2 at *
  generalize anyP 6 (fun i j => ovrB (B i j + no i j)) 36 = o3 at *
  generalize anyP 6 (fun i j => ovrB (evenF Cc i j)) 36 = o4 at *
  have z : ∀ g : Nat → Nat → Int, dgF g 0 = g := fun g => by funext i j; unfold dgF; rw [if_neg (by omega)]
  refine Call.ofC Tryz.func40 YtdknnaalfoongaaGreatDoor.b40 YtdknnaalfoongaaGreatDoor.d40 YtdknnaalfoongaaGreatDoor.e40 (by simp [Tryz.f40]) ?_
  dsimp only [YtdknnaalfoongaaGreatDoor.c40, Tryz.f40, Option.getD_some]
  simp (maxSteps := 2000000) only [wk0, wk1, wk2, wk3, wk4, wk5, wk6, Fr.ev, Fr.put, Fr.get, storeA, List.replicate, IntKind.bits, sevalprocAttr, List.length_map, gridP_len, take36g, all36g, YtdknnaalfoongaaGreatDoor.D40, ty2, ty3, ty4, ty28, ty30, ty35]
  refine callThen_of (q1 _) ?_
  simp (maxSteps := 2000000) only [wk0, wk1, wk2, wk3, wk4, wk5, wk6, Fr.ev, Fr.put, Fr.get, storeA, List.replicate, IntKind.bits, sevalprocAttr, List.length_map, gridP_len, take36g, all36g, YtdknnaalfoongaaGreatDoor.D40, ty2, ty3, ty4, ty28, ty30, ty35]
  refine callThen_of (q2 _) ?_
  simp (maxSteps := 2000000) only [wk0, wk1, wk2, wk3, wk4, wk5, wk6, Fr.ev, Fr.put, Fr.get, storeA, List.replicate, IntKind.bits, sevalprocAttr, List.length_map, gridP_len, take36g, all36g, YtdknnaalfoongaaGreatDoor.D40, ty2, ty3, ty4, ty28, ty30, ty35]
  refine callThen_of (q3 _) ?_
  simp (maxSteps := 2000000) only [wk0, wk1, wk2, wk3, wk4, wk5, wk6, Fr.ev, Fr.put, Fr.get, storeA, List.replicate, IntKind.bits, sevalprocAttr, List.length_map, gridP_len, take36g, all36g, YtdknnaalfoongaaGreatDoor.D40, ty2, ty3, ty4, ty28, ty30, ty35]
  refine callThen_of (q4 _) ?_
  simp (maxSteps := 2000000) only [wk0, wk1, wk2, wk3, wk4, wk5, wk6, Fr.ev, Fr.put, Fr.get, storeA, List.replicate, IntKind.bits, sevalprocAttr, List.length_map, gridP_len, take36g, all36g, YtdknnaalfoongaaGreatDoor.D40, ty2, ty3, ty4, ty28, ty30, ty35]
  refine callThen_of (q5 _) ?_
  simp (maxSteps := 2000000) only [wk0, wk1, wk2, wk3, wk4, wk5, wk6, Fr.ev, Fr.put, Fr.get, storeA, List.replicate, IntKind.bits, sevalprocAttr, List.length_map, gridP_len, take36g, all36g, YtdknnaalfoongaaGreatDoor.D40, ty2, ty3, ty4, ty28, ty30, ty35]
  refine loopC_ind (fun m fr H => ∃ i : Nat, i + m = 6 ∧ fr.get 68 = .int .i64 (i : Int) ∧ fr.get 6 = .ptr (S.length + 3) 0 0 ∧ fr.get 10 = .bool o1 ∧ fr.get 14 = .bool o2 ∧ fr.get 16 = .bool o3 ∧ fr.get 18 = .bool o4 ∧ fr.get 11 = .nili ∧ fr.get 17 = .ptr (S.length + 8) 0 0 ∧
    ∃ b0 b1 b2 b4 b5 b6 b7, H = S ++ [b0, b1, b2, some ⟨zero38, 0⟩, b4, b5, b6, b7, some ⟨.int .i64 6 :: .int .i64 6 :: (gridP 6 (dgF Dd i) 36).map fun x => .int .i64 x, 0⟩]) ?_ (n := 6) ⟨0, by omega, rfl, rfl, rfl, rfl, rfl, rfl, rfl, rfl, _, _, _, _, _, _, _, by rw [z]; rfl⟩
  rintro m fr H ⟨i, him, g68, g6, g10, g14, g16, g18, g11, g17, b0, b1, b2, b4, b5, b6, b7, rfl⟩ ih
  by_cases hi : (i : Int) < 6
  · have hin : i < 6 := by omega
    have w7 : IntKind.i64.wrap ((i : Int) * 7) = ((i * 7 : Nat) : Int) := by rw [wrapI (by omega)]; omega
    have wi : IntKind.i64.wrap ((i : Int) + 1) = ((i + 1 : Nat) : Int) := wrapI (by omega)
    have p1 : (0 : Int) ≤ ((i * 7 : Nat) : Int) := by omega
    have p2 : ((i * 7 : Nat) : Int) < 36 := by omega
    have p3 : 2 + i * 7 + 1 ≤ 38 := by omega
    have ga : (AV.int .i64 6 :: AV.int .i64 6 :: (gridP 6 (dgF Dd i) 36).map fun x => AV.int .i64 x)[2 + i * 7]? = some (.int .i64 (Dd i i)) := by
      refine get38 ?_
      unfold gridP
      rw [List.getElem?_map, List.getElem?_range (by omega), Option.map_some, if_pos (by omega), show i * 7 / 6 = i by omega, show i * 7 % 6 = i by omega]
      unfold dgF
      rw [if_neg (by omega)]
    have es := dg_set Dd i hin
    simp (maxSteps := 2000000) only [wk0, wk1, wk2, wk3, wk4, wk5, wk6, Fr.ev, Fr.put, Fr.get, storeA, List.replicate, IntKind.bits, sevalprocAttr, g68, g6, g10, g14, g16, g18, g11, g17, hi, w7, wi, p1, p2, p3, ga, set38, es, List.length_map, gridP_len, Int.toNat_natCast, Nat.mul_one, YtdknnaalfoongaaGreatDoor.D40, ty2, ty3, ty4, ty28, ty30, ty35]
    exact ih (m - 1) _ _ (by omega) ⟨i + 1, by omega, by simp [Fr.get], by simp [Fr.get, g6], by simp [Fr.get, g10], by simp [Fr.get, g14], by simp [Fr.get, g16], by simp [Fr.get, g18], by simp [Fr.get, g11], by simp [Fr.get, g17], _, _, _, _, _, _, _, rfl⟩
  · obtain rfl : i = 6 := by omega
    have zl : zero38.length = 38 := by simp [zero38]
    have zd : List.drop 38 zero38 = [] := List.drop_eq_nil_of_le (by omega)
    simp (maxSteps := 2000000) only [wk0, wk1, wk2, wk3, wk4, wk5, wk6, Fr.ev, Fr.put, Fr.get, storeA, List.replicate, IntKind.bits, sevalprocAttr, gor, g68, g6, g10, g14, g16, g18, g11, g17, hi, List.length_map, gridP_len, take36g, all36g, zl, zd, YtdknnaalfoongaaGreatDoor.D40, ty2, ty3, ty4, ty28, ty30, ty35]
    exact retB_plain (by simp [nmd_agg, nmd_int, nmd_nili, nmd_bool]) (by simp [packA]) (by simp)
def nxX (x : Nat → Int) (st : Nat → Nat → Int) (i : Nat) : Int := bndI (appF st 6 (xL x) i)
def nxO (x : Nat → Int) (f st no : Nat → Nat → Int) : Bool := appO st 6 (xL x) 6 || sprO f st no
theorem zero44 : True := trivial
theorem next12_ok (x : Nat → Int) (f st no : Nat → Nat → Int) (S : Heap) (h : OkS x f) (hs : ∀ i j, i < 6 → j < 6 → inI (st i j)) (hn : ∀ i j, i < 6 → j < 6 → inI (no i j)) :
    Call theE 9 [stA x f, mk 6 6 st, mk 6 6 no] S (.tup [stA (nxX x st) (sprF f st no), .bool (nxO x f st no), .nili]) S := by
  have hf : ∀ i j, i < 6 → j < 6 → inI (f i j) := fun i j hi hj => by have := h.top i j hi hj; unfold topI at this; unfold inI; omega
  have hx : ∀ y ∈ xL x, inI y := by
    intro y hy
    rw [xL_map] at hy
    obtain ⟨i, hi, rfl⟩ := List.mem_map.1 hy
    have := h.x i (List.mem_range.1 hi)
    unfold topI at this; unfold inI; omega
  have q1 := fun S => check12_ok x f S h
  have q2 := fun S => six_ok st S
  have q3 := fun S => six_ok no S
  have q5 := fun S => spread_ok f st no S hf hs hn
  have q4 : ∀ L, Call theE 39 [mk 6 6 st, .sl S.length 0 0 6 6 1] (S ++ some ⟨stC x 6 6 (gridP 6 f 36), 0⟩ :: L) (.tup [.lst [.int .i64 (nxX x st 0), .int .i64 (nxX x st 1), .int .i64 (nxX x st 2), .int .i64 (nxX x st 3), .int .i64 (nxX x st 4), .int .i64 (nxX x st 5)] 6, .bool (appO st 6 (xL x) 6), .nili]) (S ++ some ⟨stC x 6 6 (gridP 6 f 36), 0⟩ :: L) := fun L =>
    apply_sl 6 6 st (.sl S.length 0 0 6 6 1) (xL x) _ (SlI.sl (off := 0) (cap := 6) (l := xL x) (b := ⟨stC x 6 6 (gridP 6 f 36), 0⟩) (by rw [blkAt_app0, blkAt_zero]) rfl) (by decide) (by decide) rfl hs hx
  simp only [stA, stC, mk, matA, Nat.reduceMul, castLit] at q1 q2 q3 q4 q5 ⊢
  unfold nxO
  generalize sprF f st no = F2 at *
  generalize sprO f st no = o2 at *
  generalize appO st 6 (xL x) 6 = o1 at *
  generalize nxX x st = X2 at *
  refine Call.ofC Tryz.func9 YtdknnaalfoongaaGreatDoor.b9 YtdknnaalfoongaaGreatDoor.d9 YtdknnaalfoongaaGreatDoor.e9 (by simp [Tryz.f9]) ?_
  dsimp only [YtdknnaalfoongaaGreatDoor.c9, Tryz.f9, Option.getD_some]
  simp (maxSteps := 2000000) only [wk0, wk1, wk2, wk3, wk4, wk5, wk6, Fr.ev, Fr.put, Fr.get, storeA, List.replicate, IntKind.bits, sevalprocAttr, gor, stA, stC, List.length_cons, List.length_map, gridP_len, List.take_succ_cons, List.drop_succ_cons, List.drop_zero, List.take_zero, take36g, all36g, sa_arr, bd_none, bd_some, bv_int, YtdknnaalfoongaaGreatDoor.D9, ty1, ty4, ty22, ty27, ty30, ty32, ty35, ty79]
  refine callThen_of (q1 _) ?_
  simp (maxSteps := 2000000) only [wk0, wk1, wk2, wk3, wk4, wk5, wk6, Fr.ev, Fr.put, Fr.get, storeA, List.replicate, IntKind.bits, sevalprocAttr, gor, stA, stC, List.length_cons, List.length_map, gridP_len, List.take_succ_cons, List.drop_succ_cons, List.drop_zero, List.take_zero, take36g, all36g, sa_arr, bd_none, bd_some, bv_int, YtdknnaalfoongaaGreatDoor.D9, ty1, ty4, ty22, ty27, ty30, ty32, ty35, ty79]
  refine callThen_of (q2 _) ?_
  simp (maxSteps := 2000000) only [wk0, wk1, wk2, wk3, wk4, wk5, wk6, Fr.ev, Fr.put, Fr.get, storeA, List.replicate, IntKind.bits, sevalprocAttr, gor, stA, stC, List.length_cons, List.length_map, gridP_len, List.take_succ_cons, List.drop_succ_cons, List.drop_zero, List.take_zero, take36g, all36g, sa_arr, bd_none, bd_some, bv_int, YtdknnaalfoongaaGreatDoor.D9, ty1, ty4, ty22, ty27, ty30, ty32, ty35, ty79]
  refine callThen_of (q3 _) ?_
  simp (maxSteps := 2000000) only [wk0, wk1, wk2, wk3, wk4, wk5, wk6, Fr.ev, Fr.put, Fr.get, storeA, List.replicate, IntKind.bits, sevalprocAttr, gor, stA, stC, List.length_cons, List.length_map, gridP_len, List.take_succ_cons, List.drop_succ_cons, List.drop_zero, List.take_zero, take36g, all36g, sa_arr, bd_none, bd_some, bv_int, YtdknnaalfoongaaGreatDoor.D9, ty1, ty4, ty22, ty27, ty30, ty32, ty35, ty79]
  refine callThen_of (q4 _) ?_
  simp (maxSteps := 2000000) only [wk0, wk1, wk2, wk3, wk4, wk5, wk6, Fr.ev, Fr.put, Fr.get, storeA, List.replicate, IntKind.bits, sevalprocAttr, gor, stA, stC, List.length_cons, List.length_map, gridP_len, List.take_succ_cons, List.drop_succ_cons, List.drop_zero, List.take_zero, take36g, all36g, sa_arr, bd_none, bd_some, bv_int, YtdknnaalfoongaaGreatDoor.D9, ty1, ty4, ty22, ty27, ty30, ty32, ty35, ty79]
  refine callThen_of (q5 _) ?_
  simp (maxSteps := 2000000) only [wk0, wk1, wk2, wk3, wk4, wk5, wk6, Fr.ev, Fr.put, Fr.get, storeA, List.replicate, IntKind.bits, sevalprocAttr, gor, stA, stC, List.length_cons, List.length_map, gridP_len, List.take_succ_cons, List.drop_succ_cons, List.drop_zero, List.take_zero, take36g, all36g, sa_arr, bd_none, bd_some, bv_int, YtdknnaalfoongaaGreatDoor.D9, ty1, ty4, ty22, ty27, ty30, ty32, ty35, ty79]
  cases o1
  · simp only [Bool.not_true, Bool.not_false, guardThen_true, guardThen_false]
    exact retB_plain (by simp [nmd_agg, nmd_int, nmd_nili, nmd_bool]) (by simp [packA]) (by simp)
  · simp (maxSteps := 2000000) only [wk0, wk1, wk2, wk3, wk4, wk5, wk6, Fr.ev, Fr.put, Fr.get, storeA, List.replicate, IntKind.bits, sevalprocAttr, Bool.not_true, stA, stC, List.length_cons, List.length_map, gridP_len, List.take_succ_cons, List.drop_succ_cons, List.drop_zero, List.take_zero, take36g, all36g, YtdknnaalfoongaaGreatDoor.D9, ty1, ty4, ty22, ty27, ty30, ty32, ty35, ty79]
    exact retB_plain (by simp [nmd_agg, nmd_int, nmd_nili, nmd_bool]) (by simp [packA]) (by simp)
end Go.Proofs.YtdknnaalfoongaaGreatDoor
