/- mat: matrices; what is made of what is told of each place. -/
import Derived.Test.YtoncolpkpgbfiaaDoorV2
set_option linter.unusedSimpArgs false
set_option linter.unusedVariables false
set_option maxRecDepth 100000
set_option maxHeartbeats 4000000
namespace Go.Proofs.YtoncolpkpgbfiaaDoor
/-- A matrix's cells: rows, columns, and 36 numbers. -/
def matA (r c : Int) (l : List Int) : AV := .agg (.int .i64 r :: .int .i64 c :: l.map fun x => .int .i64 x)
/-- The first k cells by what is told of each place; noughts behind. -/
def gridP (c : Nat) (f : Nat → Nat → Int) (k : Nat) : List Int := (List.range 36).map fun q => if q < k then f (q / c) (q % c) else 0
def mk (r c : Nat) (f : Nat → Nat → Int) : AV := matA r c (gridP c f (r * c))
theorem gridP_len (c : Nat) (f : Nat → Nat → Int) (k : Nat) : (gridP c f k).length = 36 := by simp [gridP]
theorem gridP_zero (c : Nat) (f : Nat → Nat → Int) : gridP c f 0 = List.replicate 36 0 := by
  apply List.ext_getElem
  · simp [gridP]
  · intro i h1 h2
    simp only [gridP, List.getElem_map, List.getElem_range, List.getElem_replicate]
    rw [if_neg (by omega)]
theorem gridP_set (c : Nat) (f : Nat → Nat → Int) (i j : Nat) (hj : j < c) (h : i * c + j < 36) : (gridP c f (i * c + j)).set (i * c + j) (f i j) = gridP c f (i * c + j + 1) := by
  apply List.ext_getElem
  · simp [gridP]
  · intro q h1 h2
    simp only [gridP, List.getElem_set, List.getElem_map, List.getElem_range]
    by_cases e : i * c + j = q
    · subst e
      have d1 : (i * c + j) / c = i := by rw [Nat.mul_comm, Nat.mul_add_div (by omega), Nat.div_eq_of_lt hj]; omega
      have d2 : (i * c + j) % c = j := by rw [Nat.mul_comm, Nat.mul_add_mod, Nat.mod_eq_of_lt hj]
      rw [if_pos rfl, if_pos (by omega), d1, d2]
    · rw [if_neg e]
      by_cases e2 : q < i * c + j
      · rw [if_pos e2, if_pos (by omega)]
      · rw [if_neg e2, if_neg (by omega)]
theorem grid_get (r c : Nat) (f : Nat → Nat → Int) (i j : Nat) (hi : i < r) (hj : j < c) (h : r * c ≤ 36) : (gridP c f (r * c))[i * c + j]? = some (f i j) := by
  have hk : i * c + j < r * c := by
    have := Nat.mul_le_mul_right c (show i + 1 ≤ r by omega)
    rw [Nat.add_mul, Nat.one_mul] at this
    omega
  unfold gridP
  rw [List.getElem?_map, List.getElem?_range (by omega), Option.map_some, if_pos hk]
  have d1 : (i * c + j) / c = i := by rw [Nat.mul_comm, Nat.mul_add_div (by omega), Nat.div_eq_of_lt hj]; omega
  have d2 : (i * c + j) % c = j := by rw [Nat.mul_comm, Nat.mul_add_mod, Nat.mod_eq_of_lt hj]
  rw [d1, d2]
theorem grid_tail (r c : Nat) (f : Nat → Nat → Int) (k : Nat) (h : r * c ≤ k) (hk : k < 36) : (gridP c f (r * c))[k]? = some 0 := by
  unfold gridP
  rw [List.getElem?_map, List.getElem?_range hk, Option.map_some, if_neg (by omega)]
def anyP (c : Nat) (os : Nat → Nat → Bool) (k : Nat) : Bool := (List.range k).any fun q => os (q / c) (q % c)
theorem anyP_succ (c : Nat) (os : Nat → Nat → Bool) (i j : Nat) (hj : j < c) : anyP c os (i * c + j + 1) = (anyP c os (i * c + j) || os i j) := by
  have d1 : (i * c + j) / c = i := by rw [Nat.mul_comm, Nat.mul_add_div (by omega), Nat.div_eq_of_lt hj]; omega
  have d2 : (i * c + j) % c = j := by rw [Nat.mul_comm, Nat.mul_add_mod, Nat.mod_eq_of_lt hj]
  unfold anyP
  rw [List.range_succ, List.any_append]
  simp [d1, d2]
theorem anyP_iff (r c : Nat) (os : Nat → Nat → Bool) : anyP c os (r * c) = true ↔ ∃ i j, i < r ∧ j < c ∧ os i j = true := by
  unfold anyP
  rw [List.any_eq_true]
  constructor
  · rintro ⟨q, hq, h⟩
    have hq := List.mem_range.1 hq
    have hc : 0 < c := by
      rcases Nat.eq_zero_or_pos c with e | e
      · subst e; omega
      · exact e
    exact ⟨q / c, q % c, (Nat.div_lt_iff_lt_mul hc).2 hq, Nat.mod_lt _ hc, h⟩
  · rintro ⟨i, j, hi, hj, h⟩
    have d1 : (i * c + j) / c = i := by rw [Nat.mul_comm, Nat.mul_add_div (by omega), Nat.div_eq_of_lt hj]; omega
    have d2 : (i * c + j) % c = j := by rw [Nat.mul_comm, Nat.mul_add_mod, Nat.mod_eq_of_lt hj]
    refine ⟨i * c + j, List.mem_range.2 ?_, by rw [d1, d2]; exact h⟩
    have := Nat.mul_le_mul_right c (show i + 1 ≤ r by omega)
    rw [Nat.add_mul, Nat.one_mul] at this
    omega
noncomputable def c61 : Code := Tryd.f61.body.getD .skip
theorem b61 : Tryd.f61.body = some c61 := rfl
theorem d61 : fnOk Tryd.f61 c61 = true := by kernel_rfl
def D61 : Nat → List Tag := fun _ => []
theorem e61 : drawsOk D61 c61 = true := by kernel_rfl
noncomputable def c79 : Code := Tryd.f79.body.getD .skip
theorem b79 : Tryd.f79.body = some c79 := rfl
theorem d79 : fnOk Tryd.f79 c79 = true := by kernel_rfl
def D79 : Nat → List Tag := fun _ => []
theorem e79 : drawsOk D79 c79 = true := by kernel_rfl
noncomputable def c60 : Code := Tryd.f60.body.getD .skip
theorem b60 : Tryd.f60.body = some c60 := rfl
theorem d60 : fnOk Tryd.f60 c60 = true := by kernel_rfl
def D60 : Nat → List Tag := fun _ => []
theorem e60 : drawsOk D60 c60 = true := by kernel_rfl
noncomputable def c63 : Code := Tryd.f63.body.getD .skip
theorem b63 : Tryd.f63.body = some c63 := rfl
theorem d63 : fnOk Tryd.f63 c63 = true := by kernel_rfl
def D63 : Nat → List Tag := fun _ => []
theorem e63 : drawsOk D63 c63 = true := by kernel_rfl
noncomputable def c69 : Code := Tryd.f69.body.getD .skip
theorem b69 : Tryd.f69.body = some c69 := rfl
theorem d69 : fnOk Tryd.f69 c69 = true := by kernel_rfl
def D69 : Nat → List Tag := fun _ => []
theorem e69 : drawsOk D69 c69 = true := by kernel_rfl
noncomputable def c67 : Code := Tryd.f67.body.getD .skip
theorem b67 : Tryd.f67.body = some c67 := rfl
theorem d67 : fnOk Tryd.f67 c67 = true := by kernel_rfl
def D67 : Nat → List Tag
  | 2 => [.pure, .pure, .pure, .pure, .pure, .pure, .pure, .pure]
  | _ => []
theorem e67 : drawsOk D67 c67 = true := by kernel_rfl
noncomputable def c25 : Code := Tryd.f25.body.getD .skip
theorem b25 : Tryd.f25.body = some c25 := rfl
theorem d25 : fnOk Tryd.f25 c25 = true := by kernel_rfl
def D25 : Nat → List Tag := fun _ => []
theorem e25 : drawsOk D25 c25 = true := by kernel_rfl
noncomputable def c62 : Code := Tryd.f62.body.getD .skip
theorem b62 : Tryd.f62.body = some c62 := rfl
theorem d62 : fnOk Tryd.f62 c62 = true := by kernel_rfl
def D62 : Nat → List Tag := fun _ => []
theorem e62 : drawsOk D62 c62 = true := by kernel_rfl
theorem set38 {r c v : Int} {l : List Int} {k : Nat} : List.set (AV.int .i64 r :: AV.int .i64 c :: l.map fun x => AV.int .i64 x) (2 + k) (.int .i64 v) = AV.int .i64 r :: AV.int .i64 c :: (l.set k v).map fun x => AV.int .i64 x := by
  rw [show 2 + k = k + 1 + 1 by omega, List.set_cons_succ, List.set_cons_succ, List.map_set]
theorem take36 {l : List Int} (h : l.length = 36) : List.take 36 (l.map fun x => AV.int .i64 x) = l.map fun x => .int .i64 x := List.take_of_length_le (by simp [h])
def zero38 : List AV := List.replicate 38 (.int .i64 0)
theorem sizedM_ok (n : Int) (S : Heap) : Call theE 79 [.int .i64 n] S (.bool (decide (1 ≤ n ∧ n ≤ 6))) S := by
  refine Call.ofC Tryd.func79 YtoncolpkpgbfiaaDoor.b79 YtoncolpkpgbfiaaDoor.d79 YtoncolpkpgbfiaaDoor.e79 (by simp [Tryd.f79]) ?_
  dsimp only [YtoncolpkpgbfiaaDoor.c79, Tryd.f79, Option.getD_some]
  by_cases h1 : 1 ≤ n
  · by_cases h2 : n ≤ 6
    · simp (maxSteps := 2000000) only [wk0, wk1, wk2, wk3, wk4, wk5, wk6, Fr.ev, Fr.put, Fr.get, storeA, List.replicate, IntKind.bits, sevalprocAttr, h1, h2, YtoncolpkpgbfiaaDoor.D79, ty3, ty4]
      exact retB_plain (by simp [nmd_bool]) rfl (by simp)
    · simp (maxSteps := 2000000) only [wk0, wk1, wk2, wk3, wk4, wk5, wk6, Fr.ev, Fr.put, Fr.get, storeA, List.replicate, IntKind.bits, sevalprocAttr, h1, h2, YtoncolpkpgbfiaaDoor.D79, ty3, ty4]
      exact retB_plain (by simp [nmd_bool]) rfl (by simp)
  · simp (maxSteps := 2000000) only [wk0, wk1, wk2, wk3, wk4, wk5, wk6, Fr.ev, Fr.put, Fr.get, storeA, List.replicate, IntKind.bits, sevalprocAttr, h1, YtoncolpkpgbfiaaDoor.D79, ty3, ty4]
    exact retB_plain (by simp [nmd_bool]) rfl (by simp)
theorem made_ok (g : FuncId) (caps : List AV) (r c : Nat) (xs : Nat → Nat → Int) (os : Nat → Nat → Bool) (S : Heap) (hr : r ≤ 6) (hc : c ≤ 6) (hg : ¬ g = 115)
    (hcl : ∀ i j, i < r → j < c → ∀ L, Call theE g (.int .i64 (i : Int) :: .int .i64 (j : Int) :: caps) (S ++ L) (.tup [.int .i64 (xs i j), .bool (os i j)]) (S ++ L)) :
    Call theE 61 [.int .i64 r, .int .i64 c, .fn g caps] S (.tup [mk r c xs, .bool (anyP c os (r * c))]) S := by
  have zl : zero38.length = 38 := by simp [zero38]
  have zd : List.drop 38 zero38 = [] := List.drop_eq_nil_of_le (by omega)
  have hcc : c * 6 ≤ 36 := by omega
  refine Call.ofC Tryd.func61 YtoncolpkpgbfiaaDoor.b61 YtoncolpkpgbfiaaDoor.d61 YtoncolpkpgbfiaaDoor.e61 (by simp [Tryd.f61]) ?_
  dsimp only [YtoncolpkpgbfiaaDoor.c61, Tryd.f61, Option.getD_some]
  simp (maxSteps := 2000000) only [wk0, wk1, wk2, wk3, wk4, wk5, wk6, Fr.ev, Fr.put, Fr.get, storeA, List.replicate, IntKind.bits, sevalprocAttr, YtoncolpkpgbfiaaDoor.D61, ty2, ty3, ty4, ty44, ty51, ty124]
  refine loopC_split 0 (fun fr H => fr.get 9 = .bool (anyP c os (r * c)) ∧ fr.get 8 = .ptr (S.length + 1) 0 0 ∧ fr.get 6 = .ptr S.length 0 0 ∧ H = S ++ [some ⟨zero38, 0⟩, some ⟨.int .i64 r :: .int .i64 c :: (gridP c xs (r * c)).map fun x => .int .i64 x, 0⟩]) (fun K' hK => ?_) ?_
  · refine loopC_ind (fun m fr H => ∃ i : Nat, i + m = r ∧ fr.get 18 = .int .i64 i ∧ fr.get 17 = .int .i64 r ∧ fr.get 9 = .bool (anyP c os (i * c)) ∧ fr.get 8 = .ptr (S.length + 1) 0 0 ∧ fr.get 6 = .ptr S.length 0 0 ∧ fr.get 1 = .int .i64 c ∧ fr.get 2 = .fn g caps ∧
      H = S ++ [some ⟨zero38, 0⟩, some ⟨.int .i64 r :: .int .i64 c :: (gridP c xs (i * c)).map fun x => .int .i64 x, 0⟩]) ?_ (n := r) ⟨0, by omega, rfl, rfl, by simp [anyP, Fr.get], rfl, rfl, rfl, rfl, by rw [Nat.zero_mul, gridP_zero]; rfl⟩
    rintro m fr H ⟨i, him, g18, g17, g9, g8, g6, g1, g2, rfl⟩ ih
    by_cases hi : (i : Int) < r
    · have wi : IntKind.i64.wrap ((i : Int) + 1) = ((i + 1 : Nat) : Int) := wrapI (by omega)
      have hic : (i + 1) * c ≤ 36 := by
        have := Nat.mul_le_mul (show i + 1 ≤ 6 by omega) hc
        omega
      have hic' : i * c + c ≤ 36 := by rw [Nat.add_mul, Nat.one_mul] at hic; exact hic
      simp (maxSteps := 2000000) only [wk0, wk1, wk2, wk3, wk4, wk5, wk6, Fr.ev, Fr.put, Fr.get, storeA, List.replicate, IntKind.bits, sevalprocAttr, g18, g17, g9, g8, g6, g1, g2, hi, YtoncolpkpgbfiaaDoor.D61, ty2, ty3, ty4, ty44, ty51, ty124]
      refine loopC_split 2 (fun fr H => fr.get 18 = .int .i64 i ∧ fr.get 17 = .int .i64 r ∧ fr.get 9 = .bool (anyP c os ((i + 1) * c)) ∧ fr.get 8 = .ptr (S.length + 1) 0 0 ∧ fr.get 6 = .ptr S.length 0 0 ∧ fr.get 1 = .int .i64 c ∧ fr.get 2 = .fn g caps ∧
        H = S ++ [some ⟨zero38, 0⟩, some ⟨.int .i64 r :: .int .i64 c :: (gridP c xs ((i + 1) * c)).map fun x => .int .i64 x, 0⟩]) (fun K2 hK2 => ?_) ?_
      · refine loopC_ind (fun m fr H => ∃ j : Nat, j + m = c ∧ fr.get 22 = .int .i64 j ∧ fr.get 21 = .int .i64 c ∧ fr.get 10 = .int .i64 i ∧ fr.get 18 = .int .i64 i ∧ fr.get 17 = .int .i64 r ∧ fr.get 9 = .bool (anyP c os (i * c + j)) ∧ fr.get 8 = .ptr (S.length + 1) 0 0 ∧ fr.get 6 = .ptr S.length 0 0 ∧ fr.get 1 = .int .i64 c ∧ fr.get 2 = .fn g caps ∧
          H = S ++ [some ⟨zero38, 0⟩, some ⟨.int .i64 r :: .int .i64 c :: (gridP c xs (i * c + j)).map fun x => .int .i64 x, 0⟩]) ?_ (n := c) ⟨0, by omega, by simp [Fr.get], by simp [Fr.get], by simp [Fr.get], by simp [Fr.get, g18], by simp [Fr.get, g17], by simp [Fr.get, g9], by simp [Fr.get, g8], by simp [Fr.get, g6], by simp [Fr.get, g1], by simp [Fr.get, g2], rfl⟩
        rintro m fr H ⟨j, hjm, g22, g21, g10, g18, g17, g9, g8, g6, g1, g2, rfl⟩ ih2
        by_cases hj : (j : Int) < c
        · have wj : IntKind.i64.wrap ((j : Int) + 1) = ((j + 1 : Nat) : Int) := wrapI (by omega)
          have hjc : j < c := by omega
          have w1 : IntKind.i64.wrap ((i : Int) * c) = ((i * c : Nat) : Int) := by rw [wrapI (by rw [← Int.natCast_mul]; omega)]; simp
          have w2 : IntKind.i64.wrap (((i * c : Nat) : Int) + j) = ((i * c + j : Nat) : Int) := wrapI (by omega)
          have k1 : (0 : Int) ≤ ((i * c + j : Nat) : Int) := by omega
          have k2 : ((i * c + j : Nat) : Int) < 36 := by omega
          have st := gridP_set c xs i j hjc (by omega)
          have ln : 2 + (i * c + j) + 1 ≤ 38 := by omega
          have hcall := hcl i j (by omega) hjc
          have ap := (anyP_succ c os i j hjc).symm
          simp (maxSteps := 2000000) only [wk0, wk1, wk2, wk3, wk4, wk5, wk6, Fr.ev, Fr.put, Fr.get, storeA, List.replicate, IntKind.bits, sevalprocAttr, g22, g21, g10, g18, g17, g9, g8, g6, g1, g2, hj, hg, YtoncolpkpgbfiaaDoor.D61, ty2, ty3, ty4, ty44, ty51, ty124]
          refine callThen_of (hcall _) ?_
          cases hb : anyP c os (i * c + j)
          · rw [hb, Bool.false_or] at ap
            simp (maxSteps := 2000000) only [wk0, wk1, wk2, wk3, wk4, wk5, wk6, Fr.ev, Fr.put, Fr.get, storeA, List.replicate, IntKind.bits, sevalprocAttr, g22, g21, g10, g18, g17, g9, g8, g6, g1, g2, hj, w1, w2, k1, k2, Int.toNat_natCast, Nat.mul_one, set38, List.length_map, gridP_len, ln, st, wj, hb, YtoncolpkpgbfiaaDoor.D61, ty2, ty3, ty4, ty44, ty51, ty124]
            exact ih2 (m - 1) _ _ (by omega) ⟨j + 1, by omega, by simp [Fr.get], by simp [Fr.get, g21], by simp [Fr.get, g10], by simp [Fr.get, g18], by simp [Fr.get, g17], by simp [Fr.get, ← Nat.add_assoc, ap], by simp [Fr.get, g8], by simp [Fr.get, g6], by simp [Fr.get, g1], by simp [Fr.get, g2], rfl⟩
          · rw [hb, Bool.true_or] at ap
            simp (maxSteps := 2000000) only [wk0, wk1, wk2, wk3, wk4, wk5, wk6, Fr.ev, Fr.put, Fr.get, storeA, List.replicate, IntKind.bits, sevalprocAttr, g22, g21, g10, g18, g17, g9, g8, g6, g1, g2, hj, w1, w2, k1, k2, Int.toNat_natCast, Nat.mul_one, set38, List.length_map, gridP_len, ln, st, wj, hb, YtoncolpkpgbfiaaDoor.D61, ty2, ty3, ty4, ty44, ty51, ty124]
            exact ih2 (m - 1) _ _ (by omega) ⟨j + 1, by omega, by simp [Fr.get], by simp [Fr.get, g21], by simp [Fr.get, g10], by simp [Fr.get, g18], by simp [Fr.get, g17], by simp [Fr.get, ← Nat.add_assoc, ← ap], by simp [Fr.get, g8], by simp [Fr.get, g6], by simp [Fr.get, g1], by simp [Fr.get, g2], rfl⟩
        · obtain rfl : j = c := by omega
          have e : i * j + j = (i + 1) * j := by rw [Nat.add_mul, Nat.one_mul]
          rw [e] at g9
          simp (maxSteps := 2000000) only [wk0, wk1, wk2, wk3, wk4, wk5, wk6, Fr.ev, Fr.put, Fr.get, storeA, List.replicate, IntKind.bits, sevalprocAttr, g22, g21, g10, g18, g17, g9, g8, g6, g1, g2, hj, e, YtoncolpkpgbfiaaDoor.D61, ty2, ty3, ty4, ty44, ty51, ty124]
          exact hK2 _ _ ⟨by simp [Fr.get, g18], by simp [Fr.get, g17], by simp [Fr.get, g9], by simp [Fr.get, g8], by simp [Fr.get, g6], by simp [Fr.get, g1], by simp [Fr.get, g2], rfl⟩
      · rintro fr H ⟨g18, g17, g9, g8, g6, g1, g2, rfl⟩
        simp (maxSteps := 2000000) only [wk0, wk1, wk2, wk3, wk4, wk5, wk6, Fr.ev, Fr.put, Fr.get, storeA, List.replicate, IntKind.bits, sevalprocAttr, g18, g17, g9, g8, g6, g1, g2, wi, YtoncolpkpgbfiaaDoor.D61, ty2, ty3, ty4, ty44, ty51, ty124]
        exact ih (m - 1) _ _ (by omega) ⟨i + 1, by omega, by simp [Fr.get], by simp [Fr.get, g17], by simp [Fr.get, g9], by simp [Fr.get, g8], by simp [Fr.get, g6], by simp [Fr.get, g1], by simp [Fr.get, g2], rfl⟩
    · obtain rfl : i = r := by omega
      simp (maxSteps := 2000000) only [wk0, wk1, wk2, wk3, wk4, wk5, wk6, Fr.ev, Fr.put, Fr.get, storeA, List.replicate, IntKind.bits, sevalprocAttr, g18, g17, g9, g8, g6, g1, g2, hi, YtoncolpkpgbfiaaDoor.D61, ty2, ty3, ty4, ty44, ty51, ty124]
      exact hK _ _ ⟨by simp [Fr.get, g9], by simp [Fr.get, g8], by simp [Fr.get, g6], rfl⟩
  · rintro fr H ⟨g9, g8, g6, rfl⟩
    have tk := take36 (gridP_len c xs (r * c))
    have al : (List.map (fun x => AV.int .i64 x) (gridP c xs (r * c))).all AV.one = true := by simp [AV.one]
    simp (maxSteps := 2000000) only [wk0, wk1, wk2, wk3, wk4, wk5, wk6, Fr.ev, Fr.put, Fr.get, storeA, List.replicate, IntKind.bits, sevalprocAttr, g9, g8, g6, List.length_map, gridP_len, tk, zl, zd, al, YtoncolpkpgbfiaaDoor.D61, ty2, ty3, ty4, ty44, ty51, ty124]
    exact retB_plain (by simp [nmd_agg, nmd_int, nmd_bool, mk, matA]) (by simp [packA, mk, matA]) (by simp)
end Go.Proofs.YtoncolpkpgbfiaaDoor
