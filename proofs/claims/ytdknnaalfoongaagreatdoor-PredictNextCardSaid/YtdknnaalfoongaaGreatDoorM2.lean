/- mat: products, middles. -/
import Derived.Test.YtdknnaalfoongaaGreatDoorM1
set_option linter.unusedSimpArgs false
set_option linter.unusedVariables false
set_option maxRecDepth 100000
set_option maxHeartbeats 4000000
namespace Go.Proofs.YtdknnaalfoongaaGreatDoor
theorem mdot_ok (v u : AV) (l r : List Int) (S : Heap) (hv : SlI S v l) (hu : SlI S u r) (hlr : l.length = r.length) (hl : l.length ≤ 64) (hl' : ∀ x ∈ l, inI x) (hr' : ∀ x ∈ r, inI x) :
    Call theE 75 [v, u] S (.tup [.int .i64 (bndI (rnd (dotZ l r) (2 ^ 20))), .bool (ovrB (rnd (dotZ l r) (2 ^ 20)))]) S := by
  have hd := dot_ok v u l r 20 S hv hu (by decide) hlr hl hl' hr'
  have c1 := hv.mv
  have c2 := hu.mv
  obtain ⟨Z, hZ⟩ : ∃ Z, rnd (dotZ l r) (2 ^ 20) = Z := ⟨_, rfl⟩
  rw [hZ] at hd ⊢
  obtain ⟨O, hO⟩ : ∃ O, ovrB Z = O := ⟨_, rfl⟩
  rw [hO] at hd ⊢
  refine Call.ofC Tryz.func75 YtdknnaalfoongaaGreatDoor.b75 YtdknnaalfoongaaGreatDoor.d75 YtdknnaalfoongaaGreatDoor.e75 (by simp [Tryz.f75]) ?_
  dsimp only [YtdknnaalfoongaaGreatDoor.c75, Tryz.f75, Option.getD_some]
  simp (maxSteps := 2000000) only [wk0, wk1, wk2, wk3, wk4, wk5, wk6, Fr.ev, Fr.put, Fr.get, storeA, List.replicate, IntKind.bits, sevalprocAttr, c1, c2, YtdknnaalfoongaaGreatDoor.D75, ty2, ty3, ty4, ty22, ty35]
  refine callThen_of hd ?_
  cases O
  · simp (maxSteps := 2000000) only [wk0, wk1, wk2, wk3, wk4, wk5, wk6, Fr.ev, Fr.put, Fr.get, storeA, List.replicate, IntKind.bits, sevalprocAttr, YtdknnaalfoongaaGreatDoor.D75, ty2, ty3, ty4, ty22, ty35]
    exact retB_plain (by simp [nmd_int, nmd_bool]) rfl (by simp)
  · simp (maxSteps := 2000000) only [wk0, wk1, wk2, wk3, wk4, wk5, wk6, Fr.ev, Fr.put, Fr.get, storeA, List.replicate, IntKind.bits, sevalprocAttr, YtdknnaalfoongaaGreatDoor.D75, ty2, ty3, ty4, ty22, ty35]
    exact retB_plain (by simp [nmd_int, nmd_bool]) rfl (by simp)
def colF (f : Nat → Nat → Int) (r j : Nat) : List Int := (List.range r).map fun i => f i j
def rowF (f : Nat → Nat → Int) (c i : Nat) : List Int := (List.range c).map fun j => f i j
theorem colF_succ (f : Nat → Nat → Int) (i j : Nat) : colF f (i + 1) j = colF f i j ++ [f i j] := by unfold colF; rw [List.range_succ, List.map_append]; rfl
theorem column_ok (r c j : Nat) (f : Nat → Nat → Int) (S : Heap) (hr : r ≤ 6) (hc : c ≤ 6) (hj : j < c) : Call theE 106 [mk r c f, .int .i64 j] S (lstI (colF f r j)) S := by
  have tk := take36 (gridP_len c f (r * c))
  have mks : ∀ e, makeSliceA (S ++ [some ⟨.int .i64 r :: .int .i64 c :: (gridP c f (r * c)).map fun x => .int .i64 x, 0⟩]) (.slice e 1 8 [.int .i64 0]) (.int .i64 0) (.int .i64 r) =
      some (.sl (S.length + 1) 0 0 0 r 1, S ++ [some ⟨.int .i64 r :: .int .i64 c :: (gridP c f (r * c)).map fun x => .int .i64 x, 0⟩, some ⟨[], 0⟩]) := by
    intro e
    unfold makeSliceA
    simp only
    rw [if_pos ⟨by omega, by omega, by unfold maxBytes; omega, by omega, rfl⟩]
    simp [zeros]
  refine Call.ofC Tryz.func106 YtdknnaalfoongaaGreatDoor.b106 YtdknnaalfoongaaGreatDoor.d106 YtdknnaalfoongaaGreatDoor.e106 (by simp [Tryz.f106]) ?_
  dsimp only [YtdknnaalfoongaaGreatDoor.c106, Tryz.f106, Option.getD_some]
  simp (maxSteps := 2000000) only [wk0, wk1, wk2, wk3, wk4, wk5, wk6, Fr.ev, Fr.put, Fr.get, storeA, List.replicate, IntKind.bits, sevalprocAttr, mk, matA, mks, YtdknnaalfoongaaGreatDoor.D106, ty1, ty2, ty3, ty4, ty22, ty30]
  refine loopC_ind (fun m fr H => ∃ i cap : Nat, i + m = r ∧ fr.get 12 = .int .i64 i ∧ fr.get 11 = .int .i64 r ∧ fr.get 5 = .sl (S.length + 1) i 0 i cap 1 ∧ fr.get 2 = .ptr S.length 0 0 ∧ fr.get 1 = .int .i64 j ∧
    H = S ++ [some ⟨.int .i64 r :: .int .i64 c :: (gridP c f (r * c)).map fun x => .int .i64 x, 0⟩, some ⟨(colF f i j).map fun x => .int .i64 x, i⟩]) ?_ (n := r) ⟨0, r, by omega, rfl, rfl, rfl, rfl, rfl, rfl⟩
  rintro m fr H ⟨i, cap, him, g12, g11, g5, g2, g1, rfl⟩ ih
  by_cases hi : (i : Int) < r
  · have wi : IntKind.i64.wrap ((i : Int) + 1) = ((i + 1 : Nat) : Int) := wrapI (by omega)
    have ha := fun S => at_mk r c i j f S hr hc (by omega) hj
    have cl : (colF f i j).length = i := by simp [colF]
    have cs : (colF f i j).map (fun x => AV.int .i64 x) ++ [AV.int .i64 (f i j)] = (colF f (i + 1) j).map fun x => .int .i64 x := by rw [colF_succ, List.map_append]; rfl
    have a1 : (i + 1) * 8 ≤ maxBytes := by unfold maxBytes; omega
    have a2 : i + 1 ≤ 9223372036854775807 := by omega
    simp only [mk, matA] at ha
    simp (maxSteps := 2000000) only [wk0, wk1, wk2, wk3, wk4, wk5, wk6, Fr.ev, Fr.put, Fr.get, storeA, List.replicate, IntKind.bits, sevalprocAttr, g12, g11, g5, g2, g1, hi, List.length_map, gridP_len, tk, YtdknnaalfoongaaGreatDoor.D106, ty1, ty2, ty3, ty4, ty22, ty30]
    refine callThen_of (ha _) ?_
    simp (maxSteps := 2000000) only [wk0, wk1, wk2, wk3, wk4, wk5, wk6, Fr.ev, Fr.put, Fr.get, storeA, List.replicate, IntKind.bits, sevalprocAttr, g12, g11, g5, g2, g1, hi, List.length_map, cl, cs, a1, a2, Nat.mul_one, wi, YtdknnaalfoongaaGreatDoor.D106, ty1, ty2, ty3, ty4, ty22, ty30]
    exact ih (m - 1) _ _ (by omega) ⟨i + 1, i + 1, by omega, by simp [Fr.get], by simp [Fr.get, g11], by simp [Fr.get], by simp [Fr.get, g2], by simp [Fr.get, g1], rfl⟩
  · obtain rfl : i = r := by omega
    have cl : (colF f i j).length = i := by simp [colF]
    simp (maxSteps := 2000000) only [wk0, wk1, wk2, wk3, wk4, wk5, wk6, Fr.ev, Fr.put, Fr.get, storeA, List.replicate, IntKind.bits, sevalprocAttr, g12, g11, g5, g2, g1, hi, YtdknnaalfoongaaGreatDoor.D106, ty1, ty2, ty3, ty4, ty22, ty30]
    refine ⟨[lstI (colF f i j)], ?_, rfl, by simp⟩
    refine .cons _ _ _ _ ?_ .nil
    have h := Fin1.sl (base := S.length) (H := S ++ [some ⟨.int .i64 i :: .int .i64 c :: (gridP c f (i * c)).map fun x => .int .i64 x, 0⟩, some ⟨(colF f i j).map fun x => .int .i64 x, i⟩]) (S.length + 1) i 0 i cap 1 _ (by omega) (show blkAt _ _ _ = some ⟨(colF f i j).map fun x => .int .i64 x, i⟩ by rw [blkAt_app, show (1 : Nat) = 0 + 1 from rfl, blkAt_succ, blkAt_zero]) (by
      intro x hx
      obtain ⟨y, _, rfl⟩ := List.mem_map.1 hx
      exact .int _ _) (by simp [cl])
    have e : List.take (i * 1) (List.drop 0 ((colF f i j).map fun x => AV.int .i64 x)) = (colF f i j).map fun x => AV.int .i64 x := by
      rw [List.drop_zero, List.take_of_length_le (by simp [cl])]
    rw [e] at h
    simpa [lstI, cl] using h
theorem row_cells (r c i : Nat) (f : Nat → Nat → Int) (R C : Int) (hi : i < r) (h36 : r * c ≤ 36) : List.take c (List.drop (2 + i * c) (AV.int .i64 R :: AV.int .i64 C :: (gridP c f (r * c)).map fun x => AV.int .i64 x)) = (rowF f c i).map fun x => .int .i64 x := by
  have hic : i * c + c ≤ r * c := by
    have := Nat.mul_le_mul_right c (show i + 1 ≤ r by omega)
    rw [Nat.add_mul, Nat.one_mul] at this
    omega
  apply List.ext_getElem?
  intro j
  rw [List.getElem?_take]
  by_cases hj : j < c
  · rw [if_pos hj, List.getElem?_drop, Nat.add_assoc, get38 (grid_get r c f i j hi hj h36)]
    simp [rowF, hj]
  · rw [if_neg hj, List.getElem?_eq_none (by simp [rowF]; omega)]
theorem row_sl (S : Heap) (p r c i : Nat) (f : Nat → Nat → Int) (R C : Int) (cap : Nat) (hi : i < r) (h36 : r * c ≤ 36) (b1 : blkAt S p 0 = some ⟨AV.int .i64 R :: AV.int .i64 C :: (gridP c f (r * c)).map fun x => AV.int .i64 x, 0⟩) :
    SlI S (.sl p 0 (2 + i * c) c cap 1) (rowF f c i) := by
  have hl : (rowF f c i).length = c := by simp [rowF]
  have := SlI.sl (off := 2 + i * c) (cap := cap) (l := rowF f c i) b1 (by rw [hl]; exact row_cells r c i f R C hi h36)
  rwa [hl] at this
def mulF (f g : Nat → Nat → Int) (n : Nat) (i j : Nat) : Int := rnd (dotZ (rowF f n i) (colF g n j)) (2 ^ 20)
theorem mul1_ok (r n c i j p : Nat) (f g : Nat → Nat → Int) (S : Heap) (hr : r ≤ 6) (hn : 1 ≤ n ∧ n ≤ 6) (hc : c ≤ 6) (hi : i < r) (hj : j < c) (hf : ∀ i j, i < r → j < n → inI (f i j)) (hg : ∀ i j, i < n → j < c → inI (g i j))
    (b1 : blkAt S p 0 = some ⟨.int .i64 r :: .int .i64 n :: (gridP n f (r * n)).map fun x => .int .i64 x, 0⟩) (b2 : blkAt S (p + 1) 0 = some ⟨.int .i64 n :: .int .i64 c :: (gridP c g (n * c)).map fun x => .int .i64 x, 0⟩) :
    Call theE 105 [.int .i64 i, .int .i64 j, .ptr p 0 0, .ptr (p + 1) 0 0] S (.tup [.int .i64 (bndI (mulF f g n i j)), .bool (ovrB (mulF f g n i j))]) S := by
  have h36 : r * n ≤ 36 := by have := Nat.mul_le_mul hr hn.2; omega
  have hin : i * n + n ≤ r * n := by
    have := Nat.mul_le_mul_right n (show i + 1 ≤ r by omega)
    rw [Nat.add_mul, Nat.one_mul] at this
    omega
  have e2 : (i + 1) * n = i * n + n := by rw [Nat.add_mul, Nat.one_mul]
  have w1 : IntKind.i64.wrap ((i : Int) * n) = ((i * n : Nat) : Int) := by rw [wrapI (by rw [← Int.natCast_mul]; omega)]; simp
  have w2 : IntKind.i64.wrap ((i : Int) + 1) = ((i + 1 : Nat) : Int) := wrapI (by omega)
  have w3 : IntKind.i64.wrap (((i + 1 : Nat) : Int) * n) = ((i * n + n : Nat) : Int) := by rw [← e2, wrapI (by rw [← Int.natCast_mul, e2]; omega)]; simp
  have k1 : (0 : Int) ≤ ((i * n : Nat) : Int) := by omega
  have k2 : ((i * n : Nat) : Int) ≤ ((i * n + n : Nat) : Int) := by omega
  have k3 : ((i * n + n : Nat) : Int) ≤ 36 := by omega
  have k4 : ¬ ((i * n : Nat) : Int) = ((i * n + n : Nat) : Int) := by omega
  have k5 : i * n + n - i * n = n := by omega
  have tk := take36 (gridP_len c g (n * c))
  have co := column_ok n c j g S hn.2 hc hj
  have lr : (rowF f n i).length = n := by simp [rowF]
  have lc : (colF g n j).length = n := by simp [colF]
  have md := mdot_ok _ _ (rowF f n i) (colF g n j) S (row_sl S p r n i f r n (36 - i * n) hi h36 b1) (SlI.lst _) (by omega) (by omega) (by
    intro x hx
    obtain ⟨k, hk, rfl⟩ := List.mem_map.1 hx
    exact hf i k hi (List.mem_range.1 hk)) (by
    intro x hx
    obtain ⟨k, hk, rfl⟩ := List.mem_map.1 hx
    exact hg k j (List.mem_range.1 hk) hj)
  simp only [mk, matA, lstI] at co
  refine Call.ofC Tryz.func105 YtdknnaalfoongaaGreatDoor.b105 YtdknnaalfoongaaGreatDoor.d105 YtdknnaalfoongaaGreatDoor.e105 (by simp [Tryz.f105]) ?_
  dsimp only [YtdknnaalfoongaaGreatDoor.c105, Tryz.f105, Option.getD_some]
  simp (maxSteps := 2000000) only [wk0, wk1, wk2, wk3, wk4, wk5, wk6, Fr.ev, Fr.put, Fr.get, storeA, List.replicate, IntKind.bits, sevalprocAttr, b1, b2, bd_none, bd_some, bv_int, sa_arr, w1, w2, w3, k1, k2, k3, k4, k5, List.length_map, gridP_len, tk, Int.toNat_natCast, Nat.mul_one, YtdknnaalfoongaaGreatDoor.D105, ty1, ty2, ty3, ty4, ty22, ty28, ty30]
  refine callThen_of co ?_
  simp (maxSteps := 2000000) only [wk0, wk1, wk2, wk3, wk4, wk5, wk6, Fr.ev, Fr.put, Fr.get, storeA, List.replicate, IntKind.bits, sevalprocAttr, YtdknnaalfoongaaGreatDoor.D105, ty1, ty2, ty3, ty4, ty22, ty28, ty30]
  refine callThen_of md ?_
  simp (maxSteps := 2000000) only [wk0, wk1, wk2, wk3, wk4, wk5, wk6, Fr.ev, Fr.put, Fr.get, storeA, List.replicate, IntKind.bits, sevalprocAttr, YtdknnaalfoongaaGreatDoor.D105, ty1, ty2, ty3, ty4, ty22, ty28, ty30]
  exact retB_plain (by simp [nmd_int, nmd_bool]) rfl (by simp)
theorem mul_mat_ok (r n c : Nat) (f g : Nat → Nat → Int) (S : Heap) (hr : 1 ≤ r ∧ r ≤ 6) (hn : 1 ≤ n ∧ n ≤ 6) (hc : 1 ≤ c ∧ c ≤ 6) (hf : ∀ i j, i < r → j < n → inI (f i j)) (hg : ∀ i j, i < n → j < c → inI (g i j)) :
    Call theE 76 [mk r n f, mk n c g] S (.tup [mk r c (fun i j => bndI (mulF f g n i j)), .bool (anyP c (fun i j => ovrB (mulF f g n i j)) (r * c)), .nili]) S := by
  have tk1 := take36 (gridP_len n f (r * n))
  have tk2 := take36 (gridP_len c g (n * c))
  have tk3 := take36 (gridP_len c (fun i j => bndI (mulF f g n i j)) (r * c))
  have al : (List.map (fun x => AV.int .i64 x) (gridP c (fun i j => bndI (mulF f g n i j)) (r * c))).all AV.one = true := by simp [AV.one]
  have ck1 := fun S => check_ok r n f S hr hn
  have ck2 := fun S => check_ok n c g S hn hc
  have md := made_ok 105 [.ptr S.length 0 0, .ptr (S.length + 1) 0 0] r c (fun i j => bndI (mulF f g n i j)) (fun i j => ovrB (mulF f g n i j)) (S ++ [some ⟨.int .i64 r :: .int .i64 n :: (gridP n f (r * n)).map fun x => .int .i64 x, 0⟩, some ⟨.int .i64 n :: .int .i64 c :: (gridP c g (n * c)).map fun x => .int .i64 x, 0⟩, some ⟨zero38, 0⟩]) hr.2 hc.2 (by decide)
    (fun i j hi hj L => mul1_ok r n c i j S.length f g _ hr.2 hn hc.2 hi hj hf hg (by rw [List.append_assoc, blkAt_app0]; rfl) (by rw [List.append_assoc, blkAt_app]; rfl))
  simp only [mk, matA, zero38, List.replicate] at ck1 ck2 md
  refine Call.ofC Tryz.func76 YtdknnaalfoongaaGreatDoor.b76 YtdknnaalfoongaaGreatDoor.d76 YtdknnaalfoongaaGreatDoor.e76 (by simp [Tryz.f76]) ?_
  dsimp only [YtdknnaalfoongaaGreatDoor.c76, Tryz.f76, Option.getD_some]
  simp (maxSteps := 2000000) only [wk0, wk1, wk2, wk3, wk4, wk5, wk6, Fr.ev, Fr.put, Fr.get, storeA, List.replicate, IntKind.bits, sevalprocAttr, mk, matA, List.length_map, gridP_len, tk1, tk2, YtdknnaalfoongaaGreatDoor.D76, ty1, ty3, ty4, ty30, ty35, ty79, ty122]
  refine callThen_of (ck1 _) ?_
  simp (maxSteps := 2000000) only [wk0, wk1, wk2, wk3, wk4, wk5, wk6, Fr.ev, Fr.put, Fr.get, storeA, List.replicate, IntKind.bits, sevalprocAttr, List.length_map, gridP_len, tk1, tk2, YtdknnaalfoongaaGreatDoor.D76, ty1, ty3, ty4, ty30, ty35, ty79, ty122]
  refine callThen_of (ck2 _) ?_
  simp (maxSteps := 2000000) only [wk0, wk1, wk2, wk3, wk4, wk5, wk6, Fr.ev, Fr.put, Fr.get, storeA, List.replicate, IntKind.bits, sevalprocAttr, List.length_map, gridP_len, tk1, tk2, YtdknnaalfoongaaGreatDoor.D76, ty1, ty3, ty4, ty30, ty35, ty79, ty122]
  refine callThen_of md ?_
  simp (maxSteps := 2000000) only [wk0, wk1, wk2, wk3, wk4, wk5, wk6, Fr.ev, Fr.put, Fr.get, storeA, List.replicate, IntKind.bits, sevalprocAttr, List.length_map, gridP_len, tk3, al, YtdknnaalfoongaaGreatDoor.D76, ty1, ty3, ty4, ty30, ty35, ty79, ty122]
  exact retB_plain (by simp [nmd_agg, nmd_int, nmd_nili, nmd_bool]) (by simp [packA]) (by simp)
def evenF (f : Nat → Nat → Int) (i j : Nat) : Int := rnd (f i j * 524288 + f j i * 524288) (2 ^ 20)
theorem even1_ok (n i j p : Nat) (f : Nat → Nat → Int) (S : Heap) (hn : n ≤ 6) (hi : i < n) (hj : j < n) (hf : ∀ i j, i < n → j < n → inI (f i j))
    (b1 : blkAt S p 0 = some ⟨.int .i64 n :: .int .i64 n :: (gridP n f (n * n)).map fun x => .int .i64 x, 0⟩) :
    Call theE 110 [.int .i64 i, .int .i64 j, .ptr p 0 0] S (.tup [.int .i64 (bndI (evenF f i j)), .bool (ovrB (evenF f i j))]) S := by
  have tk := take36 (gridP_len n f (n * n))
  have a1 := at_mk n n i j f S hn hn hi hj
  have a2 := at_mk n n j i f S hn hn hj hi
  have md := mdot_ok _ _ [f i j, f j i] [524288, 524288] S (SlI.lst _) (SlI.lst _) rfl (by simp) (by simp; exact ⟨hf _ _ hi hj, hf _ _ hj hi⟩) (by simp [inI])
  simp only [mk, matA, dotZ, Int.add_zero] at a1 a2 md
  refine Call.ofC Tryz.func110 YtdknnaalfoongaaGreatDoor.b110 YtdknnaalfoongaaGreatDoor.d110 YtdknnaalfoongaaGreatDoor.e110 (by simp [Tryz.f110]) ?_
  dsimp only [YtdknnaalfoongaaGreatDoor.c110, Tryz.f110, Option.getD_some]
  simp (maxSteps := 2000000) only [wk0, wk1, wk2, wk3, wk4, wk5, wk6, Fr.ev, Fr.put, Fr.get, storeA, List.replicate, IntKind.bits, sevalprocAttr, b1, List.length_map, gridP_len, tk, YtdknnaalfoongaaGreatDoor.D110, ty2, ty3, ty4, ty22, ty30]
  refine callThen_of a1 ?_
  simp (maxSteps := 2000000) only [wk0, wk1, wk2, wk3, wk4, wk5, wk6, Fr.ev, Fr.put, Fr.get, storeA, List.replicate, IntKind.bits, sevalprocAttr, b1, List.length_map, gridP_len, tk, YtdknnaalfoongaaGreatDoor.D110, ty2, ty3, ty4, ty22, ty30]
  refine callThen_of a2 ?_
  simp (maxSteps := 2000000) only [wk0, wk1, wk2, wk3, wk4, wk5, wk6, Fr.ev, Fr.put, Fr.get, storeA, List.replicate, IntKind.bits, sevalprocAttr, YtdknnaalfoongaaGreatDoor.D110, ty2, ty3, ty4, ty22, ty30]
  refine callThen_of md ?_
  simp (maxSteps := 2000000) only [wk0, wk1, wk2, wk3, wk4, wk5, wk6, Fr.ev, Fr.put, Fr.get, storeA, List.replicate, IntKind.bits, sevalprocAttr, YtdknnaalfoongaaGreatDoor.D110, ty2, ty3, ty4, ty22, ty30]
  exact retB_plain (by simp [nmd_int, nmd_bool]) rfl (by simp)
theorem even_mat_ok (n : Nat) (f : Nat → Nat → Int) (S : Heap) (hn : 1 ≤ n ∧ n ≤ 6) (hf : ∀ i j, i < n → j < n → inI (f i j)) :
    Call theE 78 [mk n n f] S (.tup [mk n n (fun i j => bndI (evenF f i j)), .bool (anyP n (fun i j => ovrB (evenF f i j)) (n * n)), .nili]) S := by
  have tk1 := take36 (gridP_len n f (n * n))
  have tk3 := take36 (gridP_len n (fun i j => bndI (evenF f i j)) (n * n))
  have al : (List.map (fun x => AV.int .i64 x) (gridP n (fun i j => bndI (evenF f i j)) (n * n))).all AV.one = true := by simp [AV.one]
  have ck1 := fun S => check_ok n n f S hn hn
  have md := made_ok 110 [.ptr S.length 0 0] n n (fun i j => bndI (evenF f i j)) (fun i j => ovrB (evenF f i j)) (S ++ [some ⟨.int .i64 n :: .int .i64 n :: (gridP n f (n * n)).map fun x => .int .i64 x, 0⟩, some ⟨zero38, 0⟩]) hn.2 hn.2 (by decide)
    (fun i j hi hj L => even1_ok n i j S.length f _ hn.2 hi hj hf (by rw [List.append_assoc, blkAt_app0]; rfl))
  simp only [mk, matA, zero38, List.replicate] at ck1 md
  refine Call.ofC Tryz.func78 YtdknnaalfoongaaGreatDoor.b78 YtdknnaalfoongaaGreatDoor.d78 YtdknnaalfoongaaGreatDoor.e78 (by simp [Tryz.f78]) ?_
  dsimp only [YtdknnaalfoongaaGreatDoor.c78, Tryz.f78, Option.getD_some]
  simp (maxSteps := 2000000) only [wk0, wk1, wk2, wk3, wk4, wk5, wk6, Fr.ev, Fr.put, Fr.get, storeA, List.replicate, IntKind.bits, sevalprocAttr, mk, matA, List.length_map, gridP_len, tk1, YtdknnaalfoongaaGreatDoor.D78, ty1, ty3, ty4, ty30, ty35, ty79, ty122]
  refine callThen_of (ck1 _) ?_
  simp (maxSteps := 2000000) only [wk0, wk1, wk2, wk3, wk4, wk5, wk6, Fr.ev, Fr.put, Fr.get, storeA, List.replicate, IntKind.bits, sevalprocAttr, List.length_map, gridP_len, tk1, YtdknnaalfoongaaGreatDoor.D78, ty1, ty3, ty4, ty30, ty35, ty79, ty122]
  refine callThen_of md ?_
  simp (maxSteps := 2000000) only [wk0, wk1, wk2, wk3, wk4, wk5, wk6, Fr.ev, Fr.put, Fr.get, storeA, List.replicate, IntKind.bits, sevalprocAttr, List.length_map, gridP_len, tk3, al, YtdknnaalfoongaaGreatDoor.D78, ty1, ty3, ty4, ty30, ty35, ty79, ty122]
  exact retB_plain (by simp [nmd_agg, nmd_int, nmd_nili, nmd_bool]) (by simp [packA]) (by simp)
end Go.Proofs.YtdknnaalfoongaaGreatDoor
