/- mat: sums, differences, vectors as a matrix, rows. -/
import Derived.Test.YtdknnaalfoongaaGreatDoorM4
import Derived.Test.YtdknnaalfoongaaGreatDoorEvV
set_option linter.unusedSimpArgs false
set_option linter.unusedVariables false
set_option maxRecDepth 100000
set_option maxHeartbeats 4000000
namespace Go.Proofs.YtdknnaalfoongaaGreatDoor
noncomputable def c107 : Code := Tryz.f107.body.getD .skip
theorem b107 : Tryz.f107.body = some c107 := rfl
theorem d107 : fnOk Tryz.f107 c107 = true := by kernel_rfl
def D107 : Nat → List Tag := fun _ => []
theorem e107 : drawsOk D107 c107 = true := by kernel_rfl
noncomputable def c77 : Code := Tryz.f77.body.getD .skip
theorem b77 : Tryz.f77.body = some c77 := rfl
theorem d77 : fnOk Tryz.f77 c77 = true := by kernel_rfl
def D77 : Nat → List Tag := fun _ => []
theorem e77 : drawsOk D77 c77 = true := by kernel_rfl
noncomputable def c108 : Code := Tryz.f108.body.getD .skip
theorem b108 : Tryz.f108.body = some c108 := rfl
theorem d108 : fnOk Tryz.f108 c108 = true := by kernel_rfl
def D108 : Nat → List Tag
  | 1 => [.quiet, .pure, .pure, .quiet, .quiet, .pure, .pure, .seq, .seq, .pure, .pure, .pure, .pure]
  | _ => []
theorem e108 : drawsOk D108 c108 = true := by kernel_rfl
noncomputable def c85 : Code := Tryz.f85.body.getD .skip
theorem b85 : Tryz.f85.body = some c85 := rfl
theorem d85 : fnOk Tryz.f85 c85 = true := by kernel_rfl
def D85 : Nat → List Tag := fun _ => []
theorem e85 : drawsOk D85 c85 = true := by kernel_rfl
theorem alike_ok (r c : Nat) (f g : Nat → Nat → Int) (S : Heap) (hr : 1 ≤ r ∧ r ≤ 6) (hc : 1 ≤ c ∧ c ≤ 6) : Call theE 107 [mk r c f, mk r c g] S .nili S := by
  have tk1 := take36 (gridP_len c f (r * c))
  have tk2 := take36 (gridP_len c g (r * c))
  have k1 := fun S => check_ok r c f S hr hc
  have k2 := fun S => check_ok r c g S hr hc
  simp only [mk, matA] at k1 k2
  refine Call.ofC Tryz.func107 YtdknnaalfoongaaGreatDoor.b107 YtdknnaalfoongaaGreatDoor.d107 YtdknnaalfoongaaGreatDoor.e107 (by simp [Tryz.f107]) ?_
  dsimp only [YtdknnaalfoongaaGreatDoor.c107, Tryz.f107, Option.getD_some]
  simp (maxSteps := 2000000) only [wk0, wk1, wk2, wk3, wk4, wk5, wk6, Fr.ev, Fr.put, Fr.get, storeA, List.replicate, IntKind.bits, sevalprocAttr, mk, matA, List.length_map, gridP_len, tk1, tk2, YtdknnaalfoongaaGreatDoor.D107, ty1, ty3, ty4, ty30, ty35, ty79]
  refine callThen_of (k1 _) ?_
  simp (maxSteps := 2000000) only [wk0, wk1, wk2, wk3, wk4, wk5, wk6, Fr.ev, Fr.put, Fr.get, storeA, List.replicate, IntKind.bits, sevalprocAttr, mk, matA, List.length_map, gridP_len, tk1, tk2, YtdknnaalfoongaaGreatDoor.D107, ty1, ty3, ty4, ty30, ty35, ty79]
  refine callThen_of (k2 _) ?_
  simp (maxSteps := 2000000) only [wk0, wk1, wk2, wk3, wk4, wk5, wk6, Fr.ev, Fr.put, Fr.get, storeA, List.replicate, IntKind.bits, sevalprocAttr, mk, matA, List.length_map, gridP_len, tk1, tk2, YtdknnaalfoongaaGreatDoor.D107, ty1, ty3, ty4, ty30, ty35, ty79]
  exact retB_plain (by simp [nmd_nili]) rfl (by simp)
theorem matAddOne_ok (r c i j p : Nat) (f g : Nat → Nat → Int) (S : Heap) (hr : r ≤ 6) (hc : c ≤ 6) (hi : i < r) (hj : j < c) (hf : ∀ i j, i < r → j < c → inI (f i j)) (hg : ∀ i j, i < r → j < c → inI (g i j))
    (b1 : blkAt S p 0 = some ⟨.int .i64 r :: .int .i64 c :: (gridP c f (r * c)).map fun x => .int .i64 x, 0⟩) (b2 : blkAt S (p + 1) 0 = some ⟨.int .i64 r :: .int .i64 c :: (gridP c g (r * c)).map fun x => .int .i64 x, 0⟩) :
    Call theE 108 [.int .i64 i, .int .i64 j, .ptr p 0 0, .ptr (p + 1) 0 0] S (.tup [.int .i64 (bndI (f i j + (g i j))), .bool (ovrB (f i j + (g i j)))]) S := by
  have tk1 := take36 (gridP_len c f (r * c))
  have tk2 := take36 (gridP_len c g (r * c))
  have a1 := at_mk r c i j f S hr hc hi hj
  have a2 := at_mk r c i j g S hr hc hi hj
  have ad := add_ok (f i j) (g i j) S (hf _ _ hi hj) (hg _ _ hi hj)
  simp only [mk, matA] at a1 a2
  refine Call.ofC Tryz.func108 YtdknnaalfoongaaGreatDoor.b108 YtdknnaalfoongaaGreatDoor.d108 YtdknnaalfoongaaGreatDoor.e108 (by simp [Tryz.f108]) ?_
  dsimp only [YtdknnaalfoongaaGreatDoor.c108, Tryz.f108, Option.getD_some]
  simp (maxSteps := 2000000) only [wk0, wk1, wk2, wk3, wk4, wk5, wk6, Fr.ev, Fr.put, Fr.get, storeA, List.replicate, IntKind.bits, sevalprocAttr, b1, b2, List.length_map, gridP_len, tk1, tk2, YtdknnaalfoongaaGreatDoor.D108, ty2, ty3, ty4, ty30]
  refine callThen_of (a1) ?_
  simp (maxSteps := 2000000) only [wk0, wk1, wk2, wk3, wk4, wk5, wk6, Fr.ev, Fr.put, Fr.get, storeA, List.replicate, IntKind.bits, sevalprocAttr, b1, b2, List.length_map, gridP_len, tk1, tk2, YtdknnaalfoongaaGreatDoor.D108, ty2, ty3, ty4, ty30]
  refine callThen_of (a2) ?_
  simp (maxSteps := 2000000) only [wk0, wk1, wk2, wk3, wk4, wk5, wk6, Fr.ev, Fr.put, Fr.get, storeA, List.replicate, IntKind.bits, sevalprocAttr, b1, b2, List.length_map, gridP_len, tk1, tk2, YtdknnaalfoongaaGreatDoor.D108, ty2, ty3, ty4, ty30]
  refine callThen_of (ad) ?_
  simp (maxSteps := 2000000) only [wk0, wk1, wk2, wk3, wk4, wk5, wk6, Fr.ev, Fr.put, Fr.get, storeA, List.replicate, IntKind.bits, sevalprocAttr, b1, b2, List.length_map, gridP_len, tk1, tk2, YtdknnaalfoongaaGreatDoor.D108, ty2, ty3, ty4, ty30]
  exact retB_plain (by simp [nmd_int, nmd_bool]) rfl (by simp)
theorem matAdd_ok (r c : Nat) (f g : Nat → Nat → Int) (S : Heap) (hr : 1 ≤ r ∧ r ≤ 6) (hc : 1 ≤ c ∧ c ≤ 6) (hf : ∀ i j, i < r → j < c → inI (f i j)) (hg : ∀ i j, i < r → j < c → inI (g i j)) :
    Call theE 77 [mk r c f, mk r c g] S (.tup [mk r c (fun i j => bndI (f i j + (g i j))), .bool (anyP c (fun i j => ovrB (f i j + (g i j))) (r * c)), .nili]) S := by
  have tk1 := take36 (gridP_len c f (r * c))
  have tk2 := take36 (gridP_len c g (r * c))
  have tk3 := take36 (gridP_len c (fun i j => bndI (f i j + (g i j))) (r * c))
  have al : (List.map (fun x => AV.int .i64 x) (gridP c (fun i j => bndI (f i j + (g i j))) (r * c))).all AV.one = true := by simp [AV.one]
  have ck := fun S => alike_ok r c f g S hr hc
  have md := made_ok 108 [.ptr S.length 0 0, .ptr (S.length + 1) 0 0] r c (fun i j => bndI (f i j + (g i j))) (fun i j => ovrB (f i j + (g i j))) (S ++ [some ⟨.int .i64 r :: .int .i64 c :: (gridP c f (r * c)).map fun x => .int .i64 x, 0⟩, some ⟨.int .i64 r :: .int .i64 c :: (gridP c g (r * c)).map fun x => .int .i64 x, 0⟩, some ⟨zero38, 0⟩]) hr.2 hc.2 (by decide)
    (fun i j hi hj L => matAddOne_ok r c i j S.length f g _ hr.2 hc.2 hi hj hf hg (by rw [List.append_assoc, blkAt_app0]; rfl) (by rw [List.append_assoc, blkAt_app]; rfl))
  simp only [mk, matA, zero38, List.replicate] at ck md
  refine Call.ofC Tryz.func77 YtdknnaalfoongaaGreatDoor.b77 YtdknnaalfoongaaGreatDoor.d77 YtdknnaalfoongaaGreatDoor.e77 (by simp [Tryz.f77]) ?_
  dsimp only [YtdknnaalfoongaaGreatDoor.c77, Tryz.f77, Option.getD_some]
  simp (maxSteps := 2000000) only [wk0, wk1, wk2, wk3, wk4, wk5, wk6, Fr.ev, Fr.put, Fr.get, storeA, List.replicate, IntKind.bits, sevalprocAttr, mk, matA, List.length_map, gridP_len, tk1, tk2, tk3, al, YtdknnaalfoongaaGreatDoor.D77, ty1, ty3, ty4, ty30, ty35, ty122]
  refine callThen_of (ck _) ?_
  simp (maxSteps := 2000000) only [wk0, wk1, wk2, wk3, wk4, wk5, wk6, Fr.ev, Fr.put, Fr.get, storeA, List.replicate, IntKind.bits, sevalprocAttr, mk, matA, List.length_map, gridP_len, tk1, tk2, tk3, al, YtdknnaalfoongaaGreatDoor.D77, ty1, ty3, ty4, ty30, ty35, ty122]
  refine callThen_of (md) ?_
  simp (maxSteps := 2000000) only [wk0, wk1, wk2, wk3, wk4, wk5, wk6, Fr.ev, Fr.put, Fr.get, storeA, List.replicate, IntKind.bits, sevalprocAttr, mk, matA, List.length_map, gridP_len, tk1, tk2, tk3, al, YtdknnaalfoongaaGreatDoor.D77, ty1, ty3, ty4, ty30, ty35, ty122]
  exact retB_plain (by simp [nmd_agg, nmd_int, nmd_nili, nmd_bool]) (by simp [packA]) (by simp)
theorem part_lst {l : List Int} {i : Nat} (h : i < l.length) : List.take 1 (List.drop i (l.map fun x => AV.int .i64 x)) = [.int .i64 (l.getD i 0)] := by
  rw [List.drop_eq_getElem_cons (by simpa using h)]
  simp [List.getD_eq_getElem?_getD, List.getElem?_eq_getElem h]
theorem rowM_ok (r c i : Nat) (f : Nat → Nat → Int) (S : Heap) (hr : 1 ≤ r ∧ r ≤ 6) (hc : 1 ≤ c ∧ c ≤ 6) (hi : i < r) :
    Call theE 85 [mk r c f, .int .i64 i] S (.tup [lstI (rowF f c i), .nili]) S := by
  have h36 : r * c ≤ 36 := by have := Nat.mul_le_mul hr.2 hc.2; omega
  have hin : i * c + c ≤ r * c := by
    have := Nat.mul_le_mul_right c (show i + 1 ≤ r by omega)
    rw [Nat.add_mul, Nat.one_mul] at this
    omega
  have e2 : (i + 1) * c = i * c + c := by rw [Nat.add_mul, Nat.one_mul]
  have tk := take36 (gridP_len c f (r * c))
  have ck := fun S => check_ok r c f S hr hc
  have w1 : IntKind.i64.wrap ((i : Int) * c) = ((i * c : Nat) : Int) := by rw [wrapI (by rw [← Int.natCast_mul]; omega)]; simp
  have w2 : IntKind.i64.wrap ((i : Int) + 1) = ((i + 1 : Nat) : Int) := wrapI (by omega)
  have w3 : IntKind.i64.wrap (((i + 1 : Nat) : Int) * c) = ((i * c + c : Nat) : Int) := by rw [← e2, wrapI (by rw [← Int.natCast_mul, e2]; omega)]; simp
  have q1 : ¬ (i : Int) < 0 := by omega
  have q2 : ¬ (r : Int) ≤ i := by omega
  have k1 : (0 : Int) ≤ ((i * c : Nat) : Int) := by omega
  have k2 : ((i * c : Nat) : Int) ≤ ((i * c + c : Nat) : Int) := by omega
  have k3 : ((i * c + c : Nat) : Int) ≤ 36 := by omega
  have k4 : ¬ ((i * c : Nat) : Int) = ((i * c + c : Nat) : Int) := by omega
  have k5 : i * c + c - i * c = c := by omega
  have a1 : c * 8 ≤ maxBytes := by unfold maxBytes; omega
  have a2 : c ≤ 9223372036854775807 := by omega
  have k6 : 2 + i * c + c ≤ 38 := by omega
  have rc := row_cells r c i f (r : Int) (c : Int) hi h36
  have lr : (rowF f c i).length = c := by simp [rowF]
  simp only [mk, matA] at ck
  refine Call.ofC Tryz.func85 YtdknnaalfoongaaGreatDoor.b85 YtdknnaalfoongaaGreatDoor.d85 YtdknnaalfoongaaGreatDoor.e85 (by simp [Tryz.f85]) ?_
  dsimp only [YtdknnaalfoongaaGreatDoor.c85, Tryz.f85, Option.getD_some]
  simp (maxSteps := 2000000) only [wk0, wk1, wk2, wk3, wk4, wk5, wk6, Fr.ev, Fr.put, Fr.get, storeA, List.replicate, IntKind.bits, sevalprocAttr, mk, matA, List.length_map, gridP_len, tk, q1, q2, bd_none, bd_some, bv_int, sa_arr, w1, w2, w3, k1, k2, k3, k4, k5, k6, Int.toNat_natCast, Nat.mul_one, Nat.le_refl, a1, a2, rc, YtdknnaalfoongaaGreatDoor.D85, ty1, ty2, ty3, ty4, ty22, ty28, ty30, ty35, ty79]
  refine callThen_of (ck _) ?_
  simp (maxSteps := 2000000) only [wk0, wk1, wk2, wk3, wk4, wk5, wk6, Fr.ev, Fr.put, Fr.get, storeA, List.replicate, IntKind.bits, sevalprocAttr, mk, matA, List.length_map, gridP_len, tk, q1, q2, bd_none, bd_some, bv_int, sa_arr, w1, w2, w3, k1, k2, k3, k4, k5, k6, Int.toNat_natCast, Nat.mul_one, Nat.le_refl, a1, a2, rc, YtdknnaalfoongaaGreatDoor.D85, ty1, ty2, ty3, ty4, ty22, ty28, ty30, ty35, ty79]
  refine retB_two ?_ (.same _ .nili) (by simp)
  have h := fin_sl (base := S.length) (id := S.length + 1) (ver := c) (cap := c) (u := c) (L := rowF f c i) (H := S ++ [some ⟨.int .i64 r :: .int .i64 c :: (gridP c f (r * c)).map fun x => .int .i64 x, 0⟩, some ⟨(rowF f c i).map fun x => .int .i64 x, c⟩]) (by omega) (by rw [blkAt_app, blkAt_succ, blkAt_zero])
  rw [lr] at h
  exact h
end Go.Proofs.YtdknnaalfoongaaGreatDoor
