/- mat: of rows, of ones, single numbers, times a vector; the document's May. -/
import Derived.Test.YtdknnaalfoongaaGreatDoorM2
import Derived.Test.YtdknnaalfoongaaGreatDoorR1
set_option linter.unusedSimpArgs false
set_option linter.unusedVariables false
set_option maxRecDepth 100000
set_option maxHeartbeats 4000000
namespace Go.Proofs.YtdknnaalfoongaaGreatDoor
noncomputable def c41 : Code := Tryz.f41.body.getD .skip
theorem b41 : Tryz.f41.body = some c41 := rfl
theorem d41 : fnOk Tryz.f41 c41 = true := by kernel_rfl
def D41 : Nat → List Tag := fun _ => []
theorem e41 : drawsOk D41 c41 = true := by kernel_rfl
noncomputable def c35 : Code := Tryz.f35.body.getD .skip
theorem b35 : Tryz.f35.body = some c35 := rfl
theorem d35 : fnOk Tryz.f35 c35 = true := by kernel_rfl
def D35 : Nat → List Tag := fun _ => []
theorem e35 : drawsOk D35 c35 = true := by kernel_rfl
noncomputable def c39 : Code := Tryz.f39.body.getD .skip
theorem b39 : Tryz.f39.body = some c39 := rfl
theorem d39 : fnOk Tryz.f39 c39 = true := by kernel_rfl
def D39 : Nat → List Tag := fun _ => []
theorem e39 : drawsOk D39 c39 = true := by kernel_rfl
noncomputable def c20 : Code := Tryz.f20.body.getD .skip
theorem b20 : Tryz.f20.body = some c20 := rfl
theorem d20 : fnOk Tryz.f20 c20 = true := by kernel_rfl
def D20 : Nat → List Tag
  | 6 => [.pure, .pure, .pure, .quiet, .pure, .pure, .pure, .quiet, .pure, .pure]
  | _ => []
theorem e20 : drawsOk D20 c20 = true := by kernel_rfl
section
variable {base : Nat} {H : Heap}
theorem mayCopy_own {j v o l c e : Nat} {x : AV} : mayAppend base .copy [.sl (base + j) v o l c e, x] H = True := by simp [mayAppend]
theorem cp_sl {a esz b id ver off len cap e : Nat} {z : List AV} {s : AV} : copyA H (.slice a esz b z) (.sl id ver off len cap e) s = ((lenA s).bind fun n => (sliceCells H n esz s).bind fun cs => (blkAt H id ver).bind fun b =>
      if n ≤ len ∧ e = esz ∧ off + n * esz ≤ b.cells.length ∧ cs.all AV.one = true then some (.int .i64 n, H.set id (some ⟨b.cells.take off ++ cs ++ b.cells.drop (off + cs.length), b.ver⟩)) else none) := (rfl)
end
def rowsF (l : List (List Int)) (i j : Nat) : Int := (l.getD i []).getD j 0
def MayR (l : List (List Int)) : Prop := (1 ≤ l.length ∧ l.length ≤ 6) ∧ (1 ≤ (l.getD 0 []).length ∧ (l.getD 0 []).length ≤ 6) ∧ ∀ r ∈ l, r.length = (l.getD 0 []).length
instance (l : List (List Int)) : Decidable (MayR l) := by unfold MayR; exact inferInstance
theorem copy_row (R C : Int) (f : Nat → Nat → Int) (r c i : Nat) (hi : (i + 1) * c ≤ 36) : List.take (2 + i * c) (AV.int .i64 R :: AV.int .i64 C :: (gridP c f (i * c)).map fun x => AV.int .i64 x) ++ ((rowF f c i).map fun x => AV.int .i64 x) ++
    List.drop (2 + i * c + c) (AV.int .i64 R :: AV.int .i64 C :: (gridP c f (i * c)).map fun x => AV.int .i64 x) = AV.int .i64 R :: AV.int .i64 C :: (gridP c f ((i + 1) * c)).map fun x => AV.int .i64 x := by
  have e : (i + 1) * c = i * c + c := by rw [Nat.add_mul, Nat.one_mul]
  rw [show 2 + i * c = (i * c) + 1 + 1 by omega, show i * c + 1 + 1 + c = (i * c + c) + 1 + 1 by omega]
  simp only [List.take_succ_cons, List.drop_succ_cons, List.cons_append]
  congr 2
  rw [← List.map_take, ← List.map_drop, ← List.map_append, ← List.map_append]
  congr 1
  apply List.ext_getElem?
  intro k
  have hl : (rowF f c i).length = c := by simp [rowF]
  have hg := gridP_len c f (i * c)
  rw [List.getElem?_append, List.getElem?_append]
  simp only [List.length_append, List.length_take, hl, hg, show min (i * c) 36 = i * c by omega]
  by_cases h1 : k < i * c + c
  · rw [if_pos h1]
    by_cases h2 : k < i * c
    · rw [if_pos h2, List.getElem?_take, if_pos h2]
      unfold gridP
      rw [List.getElem?_map, List.getElem?_map, List.getElem?_range (by omega), Option.map_some, Option.map_some, if_pos h2, if_pos (by omega)]
    · rw [if_neg h2]
      unfold rowF gridP
      have d1 : k / c = i := by
        have : k = c * i + (k - i * c) := by rw [Nat.mul_comm]; omega
        rw [this, Nat.mul_add_div (by omega), Nat.div_eq_of_lt (by omega)]; omega
      have d2 : k % c = k - i * c := by
        have : k = c * i + (k - i * c) := by rw [Nat.mul_comm]; omega
        rw [this, Nat.mul_add_mod, Nat.mod_eq_of_lt (by omega), ← this]
      rw [List.getElem?_map, List.getElem?_map, List.getElem?_range (by omega), List.getElem?_range (by omega), Option.map_some, Option.map_some, if_pos (by omega), d1, d2]
  · rw [if_neg h1, List.getElem?_drop]
    unfold gridP
    rw [List.getElem?_map, List.getElem?_map]
    by_cases h3 : k < 36
    · rw [show i * c + c + (k - (i * c + c)) = k by omega, List.getElem?_range h3, Option.map_some, Option.map_some, if_neg (by omega), if_neg (by omega)]
    · rw [List.getElem?_eq_none (by simp; omega), List.getElem?_eq_none (by simp; omega)]
      rfl
theorem getD_lst {l : List (List Int)} {i : Nat} (h : i < l.length) : l.getD i [] = l[i] := by rw [List.getD_eq_getElem?_getD, List.getElem?_eq_getElem h]; rfl
theorem rowF_rows {l : List (List Int)} {c i : Nat} (hi : i < l.length) (hc : (l[i]).length = c) : rowF (rowsF l) c i = l[i] := by
  apply List.ext_getElem
  · simp [rowF, hc]
  · intro j h1 h2
    simp only [rowF, rowsF, List.getElem_map, List.getElem_range, getD_lst hi]
    rw [List.getD_eq_getElem?_getD, List.getElem?_eq_getElem h2]; rfl
theorem of_mat_ok (l : List (List Int)) (c : Nat) (S : Heap) (hl : 1 ≤ l.length ∧ l.length ≤ 6) (hc : 1 ≤ c ∧ c ≤ 6) (hr : ∀ r ∈ l, r.length = c) :
    Call theE 41 [lstL l] S (.tup [mk l.length c (rowsF l), .nili]) S := by
  have h0 : 0 < l.length := by omega
  have s1 := fun S => sizedM_ok l.length S
  have s2 := fun S => sizedM_ok c S
  rw [decide_eq_true (by omega)] at s1 s2
  have g0 := get_lstL h0
  have hr0 := hr _ (List.getElem_mem h0)
  have k0 : (0 : Int) < l.length := by omega
  have z36 : List.replicate 36 (AV.int .i64 0) = (gridP c (rowsF l) 0).map fun x => .int .i64 x := by rw [gridP_zero]; simp
  refine Call.ofC Tryz.func41 YtdknnaalfoongaaGreatDoor.b41 YtdknnaalfoongaaGreatDoor.d41 YtdknnaalfoongaaGreatDoor.e41 (by simp [Tryz.f41]) ?_
  dsimp only [YtdknnaalfoongaaGreatDoor.c41, Tryz.f41, Option.getD_some]
  simp (maxSteps := 2000000) only [wk0, wk1, wk2, wk3, wk4, wk5, wk6, Fr.ev, Fr.put, Fr.get, storeA, List.replicate, IntKind.bits, sevalprocAttr, lstL, lstI, YtdknnaalfoongaaGreatDoor.D41, ty1, ty2, ty3, ty4, ty22, ty23, ty28, ty30, ty35, ty79]
  refine callThen_of (s1 _) ?_
  simp (maxSteps := 2000000) only [wk0, wk1, wk2, wk3, wk4, wk5, wk6, Fr.ev, Fr.put, Fr.get, storeA, List.replicate, IntKind.bits, sevalprocAttr, lstL, lstI, k0, g0, hr0, YtdknnaalfoongaaGreatDoor.D41, ty1, ty2, ty3, ty4, ty22, ty23, ty28, ty30, ty35, ty79]
  refine callThen_of (s2 _) ?_
  simp (maxSteps := 2000000) only [wk0, wk1, wk2, wk3, wk4, wk5, wk6, Fr.ev, Fr.put, Fr.get, storeA, List.replicate, IntKind.bits, sevalprocAttr, lstL, lstI, k0, g0, hr0, YtdknnaalfoongaaGreatDoor.D41, ty1, ty2, ty3, ty4, ty22, ty23, ty28, ty30, ty35, ty79]
  refine loopC_ind (fun m fr H => ∃ i : Nat, i + m = l.length ∧ fr.get 30 = .int .i64 i ∧ fr.get 29 = .int .i64 l.length ∧ fr.get 28 = lstL l ∧ fr.get 4 = .ptr (S.length + 1) 0 0 ∧ fr.get 2 = .ptr S.length 0 0 ∧
    H = S ++ [some ⟨zero38, 0⟩, some ⟨.int .i64 l.length :: .int .i64 c :: (gridP c (rowsF l) (i * c)).map fun x => .int .i64 x, 0⟩]) ?_ (n := l.length) ⟨0, by omega, rfl, rfl, rfl, rfl, rfl, by rw [Nat.zero_mul, gridP_zero]; rfl⟩
  rintro m fr H ⟨i, him, g30, g29, g28, g4, g2, rfl⟩ ih
  by_cases hi : (i : Int) < l.length
  · have hin : i < l.length := by omega
    have k1 : (0 : Int) ≤ i := by omega
    have wi : IntKind.i64.wrap ((i : Int) + 1) = ((i + 1 : Nat) : Int) := wrapI (by omega)
    have gl := get_lstL hin
    have hri := hr _ (List.getElem_mem hin)
    have hic : (i + 1) * c ≤ 36 := by have := Nat.mul_le_mul (show i + 1 ≤ 6 by omega) hc.2; omega
    have hic' : i * c + c ≤ 36 := by rw [Nat.add_mul, Nat.one_mul] at hic; exact hic
    have w1 : IntKind.i64.wrap ((i : Int) * c) = ((i * c : Nat) : Int) := by rw [wrapI (by rw [← Int.natCast_mul]; omega)]; simp
    have q1 : (0 : Int) ≤ ((i * c : Nat) : Int) := by omega
    have q2 : ((i * c : Nat) : Int) ≤ 36 := by omega
    have q3 : ¬ ((i * c : Nat) : Int) = 36 := by omega
    have q4 : c ≤ 36 - i * c := by omega
    have q5 : 2 + i * c + c ≤ 38 := by omega
    have cr := copy_row (l.length : Int) (c : Int) (rowsF l) l.length c i hic
    rw [rowF_rows hin hri, List.append_assoc] at cr
    have tk : List.take c (l[i].map fun x => AV.int .i64 x) = l[i].map fun x => AV.int .i64 x := List.take_of_length_le (by simp [hri])
    have al : (List.map (fun x => AV.int .i64 x) l[i]).all AV.one = true := by simp [AV.one]
    simp (maxSteps := 2000000) only [wk0, wk1, wk2, wk3, wk4, wk5, wk6, Fr.ev, Fr.put, Fr.get, storeA, List.replicate, IntKind.bits, sevalprocAttr, lstI, lstL, g30, g29, g28, g4, g2, hi, k1, Int.toNat_natCast, Nat.mul_one, gl, hri, w1, bd_none, bd_some, bv_int, sa_arr, q1, q2, q3, q4, q5, Int.le_refl, List.length_map, gridP_len, mayCopy_own, cp_sl, tk, al, cr, Nat.le_refl, wi, YtdknnaalfoongaaGreatDoor.D41, ty1, ty2, ty3, ty4, ty22, ty23, ty28, ty30, ty35, ty79]
    exact ih (m - 1) _ _ (by omega) ⟨i + 1, by omega, by simp [Fr.get], by simp [Fr.get, g29], by simp [Fr.get, g28, lstL], by simp [Fr.get, g4], by simp [Fr.get, g2], rfl⟩
  · obtain rfl : i = l.length := by omega
    have tk := take36 (gridP_len c (rowsF l) (l.length * c))
    have al : (List.map (fun x => AV.int .i64 x) (gridP c (rowsF l) (l.length * c))).all AV.one = true := by simp [AV.one]
    have zl : zero38.length = 38 := by simp [zero38]
    have zd : List.drop 38 zero38 = [] := List.drop_eq_nil_of_le (by omega)
    simp (maxSteps := 2000000) only [wk0, wk1, wk2, wk3, wk4, wk5, wk6, Fr.ev, Fr.put, Fr.get, storeA, List.replicate, IntKind.bits, sevalprocAttr, g30, g29, g28, g4, g2, hi, List.length_map, gridP_len, tk, al, zl, zd, YtdknnaalfoongaaGreatDoor.D41, ty1, ty2, ty3, ty4, ty22, ty23, ty28, ty30, ty35, ty79]
    exact retB_plain (by simp [nmd_agg, nmd_int, nmd_nili, mk, matA]) (by simp [packA, mk, matA]) (by simp)
def eyeP (k i j : Nat) : Int := if i = j ∧ i < k then 1048576 else 0
theorem eye_zero (n : Nat) : gridP n (eyeP 0) (n * n) = List.replicate 36 0 := by
  apply List.ext_getElem
  · simp [gridP]
  · intro q h1 h2
    simp only [gridP, eyeP, List.getElem_map, List.getElem_range, List.getElem_replicate]
    split
    · rw [if_neg (by omega)]
    · rfl
theorem eye_set (n k : Nat) (hk : k < n) (h36 : n * n ≤ 36) : (gridP n (eyeP k) (n * n)).set (k * n + k) 1048576 = gridP n (eyeP (k + 1)) (n * n) := by
  have hkn : k * n + k < n * n := by
    have := Nat.mul_le_mul_right n (show k + 1 ≤ n by omega)
    rw [Nat.add_mul, Nat.one_mul] at this
    omega
  apply List.ext_getElem
  · simp [gridP]
  · intro q h1 h2
    simp only [gridP, eyeP, List.getElem_set, List.getElem_map, List.getElem_range]
    by_cases e : k * n + k = q
    · subst e
      have d1 : (k * n + k) / n = k := by rw [Nat.mul_comm, Nat.mul_add_div (by omega), Nat.div_eq_of_lt hk]; omega
      have d2 : (k * n + k) % n = k := by rw [Nat.mul_comm, Nat.mul_add_mod, Nat.mod_eq_of_lt hk]
      rw [if_pos rfl, if_pos hkn, d1, d2, if_pos ⟨rfl, by omega⟩]
    · rw [if_neg e]
      by_cases h3 : q < n * n
      · rw [if_pos h3, if_pos h3]
        have hq := Nat.div_add_mod q n
        by_cases h4 : q / n = q % n ∧ q / n < k
        · rw [if_pos h4, if_pos (by omega)]
        · rw [if_neg h4, if_neg]
          rintro ⟨h5, h6⟩
          have h7 : q / n = k := by omega
          rw [← h5, h7, Nat.mul_comm] at hq
          omega
      · rw [if_neg h3, if_neg h3]
theorem eye_ok (n : Nat) (S : Heap) (hn : 1 ≤ n ∧ n ≤ 6) : Call theE 35 [.int .i64 n] S (.tup [mk n n (eyeP n), .nili]) S := by
  have h36 : n * n ≤ 36 := by have := Nat.mul_le_mul hn.2 hn.2; omega
  have s1 := fun S => sizedM_ok n S
  rw [decide_eq_true (by omega)] at s1
  refine Call.ofC Tryz.func35 YtdknnaalfoongaaGreatDoor.b35 YtdknnaalfoongaaGreatDoor.d35 YtdknnaalfoongaaGreatDoor.e35 (by simp [Tryz.f35]) ?_
  dsimp only [YtdknnaalfoongaaGreatDoor.c35, Tryz.f35, Option.getD_some]
  simp (maxSteps := 2000000) only [wk0, wk1, wk2, wk3, wk4, wk5, wk6, Fr.ev, Fr.put, Fr.get, storeA, List.replicate, IntKind.bits, sevalprocAttr, YtdknnaalfoongaaGreatDoor.D35, ty2, ty3, ty4, ty28, ty30, ty35, ty79]
  refine callThen_of (s1 _) ?_
  simp (maxSteps := 2000000) only [wk0, wk1, wk2, wk3, wk4, wk5, wk6, Fr.ev, Fr.put, Fr.get, storeA, List.replicate, IntKind.bits, sevalprocAttr, YtdknnaalfoongaaGreatDoor.D35, ty2, ty3, ty4, ty28, ty30, ty35, ty79]
  refine loopC_ind (fun m fr H => ∃ i : Nat, i + m = n ∧ fr.get 15 = .int .i64 i ∧ fr.get 14 = .int .i64 n ∧ fr.get 0 = .int .i64 n ∧ fr.get 4 = .ptr (S.length + 1) 0 0 ∧ fr.get 2 = .ptr S.length 0 0 ∧
    H = S ++ [some ⟨zero38, 0⟩, some ⟨.int .i64 n :: .int .i64 n :: (gridP n (eyeP i) (n * n)).map fun x => .int .i64 x, 0⟩]) ?_ (n := n) ⟨0, by omega, rfl, rfl, rfl, rfl, rfl, by rw [eye_zero]; rfl⟩
  rintro m fr H ⟨i, him, g15, g14, g0, g4, g2, rfl⟩ ih
  by_cases hi : (i : Int) < n
  · have hin : i < n := by omega
    have wi : IntKind.i64.wrap ((i : Int) + 1) = ((i + 1 : Nat) : Int) := wrapI (by omega)
    have hkn : i * n + i < n * n := by
      have := Nat.mul_le_mul_right n (show i + 1 ≤ n by omega)
      rw [Nat.add_mul, Nat.one_mul] at this
      omega
    have w1 : IntKind.i64.wrap ((i : Int) * n) = ((i * n : Nat) : Int) := by rw [wrapI (by rw [← Int.natCast_mul]; omega)]; simp
    have w2 : IntKind.i64.wrap (((i * n : Nat) : Int) + i) = ((i * n + i : Nat) : Int) := wrapI (by omega)
    have k1 : (0 : Int) ≤ ((i * n + i : Nat) : Int) := by omega
    have k2 : ((i * n + i : Nat) : Int) < 36 := by omega
    have st := eye_set n i hin h36
    have ln : 2 + (i * n + i) + 1 ≤ 38 := by omega
    simp (maxSteps := 2000000) only [wk0, wk1, wk2, wk3, wk4, wk5, wk6, Fr.ev, Fr.put, Fr.get, storeA, List.replicate, IntKind.bits, sevalprocAttr, g15, g14, g0, g4, g2, hi, w1, w2, k1, k2, Int.toNat_natCast, Nat.mul_one, set38, List.length_map, gridP_len, ln, st, wi, YtdknnaalfoongaaGreatDoor.D35, ty2, ty3, ty4, ty28, ty30, ty35, ty79]
    exact ih (m - 1) _ _ (by omega) ⟨i + 1, by omega, by simp [Fr.get], by simp [Fr.get, g14], by simp [Fr.get, g0], by simp [Fr.get, g4], by simp [Fr.get, g2], rfl⟩
  · obtain rfl : i = n := by omega
    have tk := take36 (gridP_len i (eyeP i) (i * i))
    have al : (List.map (fun x => AV.int .i64 x) (gridP i (eyeP i) (i * i))).all AV.one = true := by simp [AV.one]
    have zl : zero38.length = 38 := by simp [zero38]
    have zd : List.drop 38 zero38 = [] := List.drop_eq_nil_of_le (by omega)
    simp (maxSteps := 2000000) only [wk0, wk1, wk2, wk3, wk4, wk5, wk6, Fr.ev, Fr.put, Fr.get, storeA, List.replicate, IntKind.bits, sevalprocAttr, g15, g14, g0, g4, g2, hi, List.length_map, gridP_len, tk, al, zl, zd, YtdknnaalfoongaaGreatDoor.D35, ty2, ty3, ty4, ty28, ty30, ty35, ty79]
    exact retB_plain (by simp [nmd_agg, nmd_int, nmd_nili, mk, matA]) (by simp [packA, mk, matA]) (by simp)
end Go.Proofs.YtdknnaalfoongaaGreatDoor
