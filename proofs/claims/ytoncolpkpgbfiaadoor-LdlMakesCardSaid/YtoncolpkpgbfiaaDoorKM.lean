/- mat: of rows; may rows be; one that may not be; rows as they lie (what layer 9 needs). -/
import Derived.Test.YtoncolpkpgbfiaaDoorM1
import Derived.Test.YtoncolpkpgbfiaaDoorEvV
set_option linter.unusedSimpArgs false
set_option linter.unusedVariables false
set_option maxRecDepth 100000
set_option maxHeartbeats 8000000
namespace Go.Proofs.YtoncolpkpgbfiaaDoor
def preL (f : Nat → Int) (i : Nat) : List Int := (List.range i).map f
def preO (f : Nat → Bool) (i : Nat) : Bool := (List.range i).any f
theorem preL_len (f : Nat → Int) (i : Nat) : (preL f i).length = i := by simp [preL]
theorem preL_app (f : Nat → Int) (i : Nat) : (preL f i).map (fun x => AV.int .i64 x) ++ [AV.int .i64 (f i)] = (preL f (i + 1)).map fun x => .int .i64 x := by unfold preL; rw [List.range_succ, List.map_append, List.map_append]; rfl
theorem preO_succ (f : Nat → Bool) (i : Nat) : preO f (i + 1) = (preO f i || f i) := by unfold preO; rw [List.range_succ, List.any_append]; simp
/-! an own slice, and blocks behind it -/
section
variable {S T P : Heap} {a b c : Option Blk} {v : Nat} {x : Blk}
theorem tail_set (h : S ++ a :: T = P) (L : Heap) (b : Option Blk) : (P ++ L).set S.length b = P.set S.length b ++ L := by
  rw [List.set_append_left]; rw [← h]; simp
theorem tail_blk (h : S ++ some x :: T = P) (L : Heap) (hv : x.ver = v) : blkAt (P ++ L) S.length v = some x := by
  subst hv
  rw [← h, List.append_assoc, blkAt_app0]; simp [blkAt]
theorem tail_blk0 (h : S ++ some x :: T = P) (hv : x.ver = v) : blkAt P S.length v = some x := by
  subst hv
  rw [← h, blkAt_app0]; simp [blkAt]
theorem tail_may (h : S ++ a :: T = P) (vs : List AV) : mayStore S.length P.length vs = True := by
  simp only [mayStore, eq_iff_iff, iff_true]; left; rw [← h]; simp
theorem tail_may2 (h : S ++ a :: T = P) (j : Nat) (vs : List AV) : mayStore S.length (P.length + j) vs = True := by
  simp only [mayStore, eq_iff_iff, iff_true]; left; rw [← h]; simp; omega
theorem tail_step (h : S ++ a :: T = P) : S ++ b :: (T ++ [c]) = P.set S.length b ++ [c] := by
  rw [← h, set_app0]; simp
theorem tail_take (h : S ++ a :: T = P) : P.take S.length = S := by rw [← h]; simp
end
def rowF (f : Nat → Nat → Int) (c i : Nat) : List Int := (List.range c).map fun j => f i j
noncomputable def c41 : Code := Tryd.f41.body.getD .skip
theorem b41 : Tryd.f41.body = some c41 := rfl
theorem d41 : fnOk Tryd.f41 c41 = true := by kernel_rfl
def D41 : Nat → List Tag := fun _ => []
theorem e41 : drawsOk D41 c41 = true := by kernel_rfl
noncomputable def c37 : Code := Tryd.f37.body.getD .skip
theorem b37 : Tryd.f37.body = some c37 := rfl
theorem d37 : fnOk Tryd.f37 c37 = true := by kernel_rfl
def D37 : Nat → List Tag
  | 6 => [.pure, .pure, .pure, .quiet, .pure, .pure, .pure, .quiet, .pure, .pure]
  | _ => []
theorem e37 : drawsOk D37 c37 = true := by kernel_rfl
section
variable {base : Nat} {H : Heap}
theorem mayCopy_own {j v o l c e : Nat} {x : AV} : mayAppend base .copy [.sl (base + j) v o l c e, x] H = True := by simp [mayAppend]
theorem cp_sl {a esz b id ver off len cap e : Nat} {z : List AV} {s : AV} : copyA H (.slice a esz b z) (.sl id ver off len cap e) s = ((lenA s).bind fun n => (sliceCells H n esz s).bind fun cs => (blkAt H id ver).bind fun b =>
      if n ≤ len ∧ e = esz ∧ off + n * esz ≤ b.cells.length ∧ cs.all AV.one = true then some (.int .i64 n, H.set id (some ⟨b.cells.take off ++ cs ++ b.cells.drop (off + cs.length), b.ver⟩)) else none) := (rfl)
end
def rowsF (l : List (List Int)) (i j : Nat) : Int := (l.getD i []).getD j 0
def MayR (l : List (List Int)) : Prop := (1 ≤ l.length ∧ l.length ≤ 6) ∧ (1 ≤ (l.getD 0 []).length ∧ (l.getD 0 []).length ≤ 6) ∧ ∀ r ∈ l, r.length = (l.getD 0 []).length
instance (l : List (List Int)) : Decidable (MayR l) := by unfold MayR; exact inferInstance
theorem copy_row (R C : Int) (f : Nat → Nat → Int) (r c i : Nat) (hi : (i + 1) * c ≤ 36) : List.take (2 + i * c) (AV.int .i64 R :: AV.int .i64 C :: (gridP c f (i * c)).map fun x => AV.int .i64 x) ++ ((rowF f c i).map fun x => AV.int .i64 x) ++
    List.drop (2 + i * c + c) (AV.int .i64 R :: AV.int .i64 C :: (gridP c f (i * c)).map fun x => AV.int .i64 x) = AV.int .i64 R :: AV.int .i64 C :: (gridP c f ((i + 1) * c)).map fun x => AV.int .i64 x := by
  have e : (i + 1) * c = i * c + c := by rw [Nat.add_mul, Nat.one_mul]
  rw [show 2 + i * c = (i * c) + 1 + 1 by omega, show i * c + 1 + 1 + c = (i * c + c) + 1 + 1 by omega]
  simp only [List.take_succ_cons, List.drop_succ_cons, List.cons_append]
  congr 2
  rw [← List.map_take, ← List.map_drop, ← List.map_append, ← List.map_append]
  congr 1
  apply List.ext_getElem?
  intro k
  have hl : (rowF f c i).length = c := by simp [rowF]
  have hg := gridP_len c f (i * c)
  rw [List.getElem?_append, List.getElem?_append]
  simp only [List.length_append, List.length_take, hl, hg, show min (i * c) 36 = i * c by omega]
  by_cases h1 : k < i * c + c
  · rw [if_pos h1]
    by_cases h2 : k < i * c
    · rw [if_pos h2, List.getElem?_take, if_pos h2]
      unfold gridP
      rw [List.getElem?_map, List.getElem?_map, List.getElem?_range (by omega), Option.map_some, Option.map_some, if_pos h2, if_pos (by omega)]
    · rw [if_neg h2]
      unfold rowF gridP
      have d1 : k / c = i := by
        have : k = c * i + (k - i * c) := by rw [Nat.mul_comm]; omega
        rw [this, Nat.mul_add_div (by omega), Nat.div_eq_of_lt (by omega)]; omega
      have d2 : k % c = k - i * c := by
        have : k = c * i + (k - i * c) := by rw [Nat.mul_comm]; omega
        rw [this, Nat.mul_add_mod, Nat.mod_eq_of_lt (by omega), ← this]
      rw [List.getElem?_map, List.getElem?_map, List.getElem?_range (by omega), List.getElem?_range (by omega), Option.map_some, Option.map_some, if_pos (by omega), d1, d2]
  · rw [if_neg h1, List.getElem?_drop]
    unfold gridP
    rw [List.getElem?_map, List.getElem?_map]
    by_cases h3 : k < 36
    · rw [show i * c + c + (k - (i * c + c)) = k by omega, List.getElem?_range h3, Option.map_some, Option.map_some, if_neg (by omega), if_neg (by omega)]
    · rw [List.getElem?_eq_none (by simp; omega), List.getElem?_eq_none (by simp; omega)]
      rfl
theorem getD_lst {l : List (List Int)} {i : Nat} (h : i < l.length) : l.getD i [] = l[i] := by rw [List.getD_eq_getElem?_getD, List.getElem?_eq_getElem h]; rfl
theorem rowF_rows {l : List (List Int)} {c i : Nat} (hi : i < l.length) (hc : (l[i]).length = c) : rowF (rowsF l) c i = l[i] := by
  apply List.ext_getElem
  · simp [rowF, hc]
  · intro j h1 h2
    simp only [rowF, rowsF, List.getElem_map, List.getElem_range, getD_lst hi]
    rw [List.getD_eq_getElem?_getD, List.getElem?_eq_getElem h2]; rfl
theorem of_mat_ok (l : List (List Int)) (c : Nat) (S : Heap) (hl : 1 ≤ l.length ∧ l.length ≤ 6) (hc : 1 ≤ c ∧ c ≤ 6) (hr : ∀ r ∈ l, r.length = c) :
    Call theE 41 [lstL l] S (.tup [mk l.length c (rowsF l), .nili]) S := by
  have h0 : 0 < l.length := by omega
  have s1 := fun S => sizedM_ok l.length S
  have s2 := fun S => sizedM_ok c S
  rw [decide_eq_true (by omega)] at s1 s2
  have g0 := get_lstL h0
  have hr0 := hr _ (List.getElem_mem h0)
  have k0 : (0 : Int) < l.length := by omega
  have z36 : List.replicate 36 (AV.int .i64 0) = (gridP c (rowsF l) 0).map fun x => .int .i64 x := by rw [gridP_zero]; simp
  refine Call.ofC Tryd.func41 YtoncolpkpgbfiaaDoor.b41 YtoncolpkpgbfiaaDoor.d41 YtoncolpkpgbfiaaDoor.e41 (by simp [Tryd.f41]) ?_
  dsimp only [YtoncolpkpgbfiaaDoor.c41, Tryd.f41, Option.getD_some]
  simp (maxSteps := 2000000) only [wk0, wk1, wk2, wk3, wk4, wk5, wk6, Fr.ev, Fr.put, Fr.get, storeA, List.replicate, IntKind.bits, sevalprocAttr, lstL, lstI, YtoncolpkpgbfiaaDoor.D41, ty1, ty2, ty3, ty4, ty30, ty41, ty42, ty44, ty51, ty75]
  refine callThen_of (s1 _) ?_
  simp (maxSteps := 2000000) only [wk0, wk1, wk2, wk3, wk4, wk5, wk6, Fr.ev, Fr.put, Fr.get, storeA, List.replicate, IntKind.bits, sevalprocAttr, lstL, lstI, k0, g0, hr0, YtoncolpkpgbfiaaDoor.D41, ty1, ty2, ty3, ty4, ty30, ty41, ty42, ty44, ty51, ty75]
  refine callThen_of (s2 _) ?_
  simp (maxSteps := 2000000) only [wk0, wk1, wk2, wk3, wk4, wk5, wk6, Fr.ev, Fr.put, Fr.get, storeA, List.replicate, IntKind.bits, sevalprocAttr, lstL, lstI, k0, g0, hr0, YtoncolpkpgbfiaaDoor.D41, ty1, ty2, ty3, ty4, ty30, ty41, ty42, ty44, ty51, ty75]
  refine loopC_ind (fun m fr H => ∃ i : Nat, i + m = l.length ∧ fr.get 30 = .int .i64 i ∧ fr.get 29 = .int .i64 l.length ∧ fr.get 28 = lstL l ∧ fr.get 4 = .ptr (S.length + 1) 0 0 ∧ fr.get 2 = .ptr S.length 0 0 ∧
    H = S ++ [some ⟨zero38, 0⟩, some ⟨.int .i64 l.length :: .int .i64 c :: (gridP c (rowsF l) (i * c)).map fun x => .int .i64 x, 0⟩]) ?_ (n := l.length) ⟨0, by omega, rfl, rfl, rfl, rfl, rfl, by rw [Nat.zero_mul, gridP_zero]; rfl⟩
  rintro m fr H ⟨i, him, g30, g29, g28, g4, g2, rfl⟩ ih
  by_cases hi : (i : Int) < l.length
  · have hin : i < l.length := by omega
    have k1 : (0 : Int) ≤ i := by omega
    have wi : IntKind.i64.wrap ((i : Int) + 1) = ((i + 1 : Nat) : Int) := wrapI (by omega)
    have gl := get_lstL hin
    have hri := hr _ (List.getElem_mem hin)
    have hic : (i + 1) * c ≤ 36 := by have := Nat.mul_le_mul (show i + 1 ≤ 6 by omega) hc.2; omega
    have hic' : i * c + c ≤ 36 := by rw [Nat.add_mul, Nat.one_mul] at hic; exact hic
    have w1 : IntKind.i64.wrap ((i : Int) * c) = ((i * c : Nat) : Int) := by rw [wrapI (by rw [← Int.natCast_mul]; omega)]; simp
    have q1 : (0 : Int) ≤ ((i * c : Nat) : Int) := by omega
    have q2 : ((i * c : Nat) : Int) ≤ 36 := by omega
    have q3 : ¬ ((i * c : Nat) : Int) = 36 := by omega
    have q4 : c ≤ 36 - i * c := by omega
    have q5 : 2 + i * c + c ≤ 38 := by omega
    have cr := copy_row (l.length : Int) (c : Int) (rowsF l) l.length c i hic
    rw [rowF_rows hin hri, List.append_assoc] at cr
    have tk : List.take c (l[i].map fun x => AV.int .i64 x) = l[i].map fun x => AV.int .i64 x := List.take_of_length_le (by simp [hri])
    have al : (List.map (fun x => AV.int .i64 x) l[i]).all AV.one = true := by simp [AV.one]
    simp (maxSteps := 2000000) only [wk0, wk1, wk2, wk3, wk4, wk5, wk6, Fr.ev, Fr.put, Fr.get, storeA, List.replicate, IntKind.bits, sevalprocAttr, lstI, lstL, g30, g29, g28, g4, g2, hi, k1, Int.toNat_natCast, Nat.mul_one, gl, hri, w1, bd_none, bd_some, bv_int, sa_arr, q1, q2, q3, q4, q5, Int.le_refl, List.length_map, gridP_len, mayCopy_own, cp_sl, tk, al, cr, Nat.le_refl, wi, YtoncolpkpgbfiaaDoor.D41, ty1, ty2, ty3, ty4, ty30, ty41, ty42, ty44, ty51, ty75]
    exact ih (m - 1) _ _ (by omega) ⟨i + 1, by omega, by simp [Fr.get], by simp [Fr.get, g29], by simp [Fr.get, g28, lstL], by simp [Fr.get, g4], by simp [Fr.get, g2], rfl⟩
  · obtain rfl : i = l.length := by omega
    have tk := take36 (gridP_len c (rowsF l) (l.length * c))
    have al : (List.map (fun x => AV.int .i64 x) (gridP c (rowsF l) (l.length * c))).all AV.one = true := by simp [AV.one]
    have zl : zero38.length = 38 := by simp [zero38]
    have zd : List.drop 38 zero38 = [] := List.drop_eq_nil_of_le (by omega)
    simp (maxSteps := 2000000) only [wk0, wk1, wk2, wk3, wk4, wk5, wk6, Fr.ev, Fr.put, Fr.get, storeA, List.replicate, IntKind.bits, sevalprocAttr, g30, g29, g28, g4, g2, hi, List.length_map, gridP_len, tk, al, zl, zd, YtoncolpkpgbfiaaDoor.D41, ty1, ty2, ty3, ty4, ty30, ty41, ty42, ty44, ty51, ty75]
    exact retB_plain (by simp [nmd_agg, nmd_int, nmd_nili, mk, matA]) (by simp [packA, mk, matA]) (by simp)
theorem take36g (c : Nat) (f : Nat → Nat → Int) (k : Nat) : List.take 36 ((gridP c f k).map fun x => AV.int .i64 x) = (gridP c f k).map fun x => .int .i64 x := take36 (gridP_len c f k)
theorem all36g (l : List Int) : (l.map fun x => AV.int .i64 x).all AV.one = true := by simp [AV.one]
theorem allInts_self : ∀ (l : List Int), allInts (l.map fun x => .int .i64 x) (l.map fun x => .int .i64 x) = some true
  | [] => rfl
  | x :: l => by simp [allInts, allInts_self l]
theorem may_ok (l : List (List Int)) (S : Heap) : Call theE 37 [lstL l] S (.bool (decide (MayR l))) S := by
  refine Call.ofC Tryd.func37 YtoncolpkpgbfiaaDoor.b37 YtoncolpkpgbfiaaDoor.d37 YtoncolpkpgbfiaaDoor.e37 (by simp [Tryd.f37]) ?_
  dsimp only [YtoncolpkpgbfiaaDoor.c37, Tryd.f37, Option.getD_some]
  by_cases h1 : (l.length : Int) < 1
  · rw [decide_eq_false (fun h => by have := h.1; omega)]
    simp (maxSteps := 2000000) only [wk0, wk1, wk2, wk3, wk4, wk5, wk6, Fr.ev, Fr.put, Fr.get, storeA, List.replicate, IntKind.bits, sevalprocAttr, lstL, h1, YtoncolpkpgbfiaaDoor.D37, ty3, ty4, ty41, ty42]
    exact retB_plain (by simp [nmd_bool]) rfl (by simp)
  by_cases h2 : (6 : Int) < l.length
  · rw [decide_eq_false (fun h => by have := h.1; omega)]
    simp (maxSteps := 2000000) only [wk0, wk1, wk2, wk3, wk4, wk5, wk6, Fr.ev, Fr.put, Fr.get, storeA, List.replicate, IntKind.bits, sevalprocAttr, lstL, h1, h2, YtoncolpkpgbfiaaDoor.D37, ty3, ty4, ty41, ty42]
    exact retB_plain (by simp [nmd_bool]) rfl (by simp)
  have h0 : 0 < l.length := by omega
  have g0 := get_lstL h0
  have k0 : (0 : Int) < l.length := by omega
  have e0 := getD_lst h0
  by_cases h3 : ((l[0]).length : Int) < 1
  · rw [decide_eq_false (fun h => by have := h.2.1; rw [e0] at this; omega)]
    simp (maxSteps := 2000000) only [wk0, wk1, wk2, wk3, wk4, wk5, wk6, Fr.ev, Fr.put, Fr.get, storeA, List.replicate, IntKind.bits, sevalprocAttr, lstL, lstI, h1, h2, g0, k0, h3, YtoncolpkpgbfiaaDoor.D37, ty3, ty4, ty41, ty42]
    exact retB_plain (by simp [nmd_bool]) rfl (by simp)
  by_cases h4 : (6 : Int) < (l[0]).length
  · rw [decide_eq_false (fun h => by have := h.2.1; rw [e0] at this; omega)]
    simp (maxSteps := 2000000) only [wk0, wk1, wk2, wk3, wk4, wk5, wk6, Fr.ev, Fr.put, Fr.get, storeA, List.replicate, IntKind.bits, sevalprocAttr, lstL, lstI, h1, h2, g0, k0, h3, h4, YtoncolpkpgbfiaaDoor.D37, ty3, ty4, ty41, ty42]
    exact retB_plain (by simp [nmd_bool]) rfl (by simp)
  simp (maxSteps := 2000000) only [wk0, wk1, wk2, wk3, wk4, wk5, wk6, Fr.ev, Fr.put, Fr.get, storeA, List.replicate, IntKind.bits, sevalprocAttr, lstL, lstI, h1, h2, g0, k0, h3, h4, YtoncolpkpgbfiaaDoor.D37, ty3, ty4, ty41, ty42]
  refine loopC_ind (fun m fr H => ∃ i : Nat, i + m = l.length ∧ (∀ r ∈ l.take i, r.length = (l[0]).length) ∧ fr.get 3 = .int .i64 i ∧ fr.get 0 = lstL l ∧ H = S) ?_ (n := l.length) ⟨0, by omega, by simp, rfl, rfl, rfl⟩
  rintro m fr H ⟨i, him, hall, g3, g0', rfl⟩ ih
  by_cases hi : (i : Int) < l.length
  · have hin : i < l.length := by omega
    have k1 : (0 : Int) ≤ i := by omega
    have wi : IntKind.i64.wrap ((i : Int) + 1) = ((i + 1 : Nat) : Int) := wrapI (by omega)
    have gl := get_lstL hin
    by_cases hr : ((l[i]).length : Int) = (l[0]).length
    · simp (maxSteps := 2000000) only [wk0, wk1, wk2, wk3, wk4, wk5, wk6, Fr.ev, Fr.put, Fr.get, storeA, List.replicate, IntKind.bits, sevalprocAttr, lstI, lstL, g3, g0', hi, k1, k0, g0, Int.toNat_natCast, Nat.mul_one, gl, hr, wi, YtoncolpkpgbfiaaDoor.D37, ty3, ty4, ty41, ty42]
      refine ih (m - 1) _ _ (by omega) ⟨i + 1, by omega, ?_, by simp [Fr.get], by simp [Fr.get, g0', lstL], rfl⟩
      intro r hr'
      rw [List.take_succ_eq_append_getElem hin] at hr'
      rcases List.mem_append.1 hr' with h | h
      · exact hall r h
      · rw [List.mem_singleton.1 h]; omega
    · rw [decide_eq_false (fun h => hr (by have := h.2.2 _ (List.getElem_mem hin); rw [e0] at this; omega))]
      simp (maxSteps := 2000000) only [wk0, wk1, wk2, wk3, wk4, wk5, wk6, Fr.ev, Fr.put, Fr.get, storeA, List.replicate, IntKind.bits, sevalprocAttr, lstI, lstL, g3, g0', hi, k1, k0, g0, Int.toNat_natCast, Nat.mul_one, gl, hr, wi, YtoncolpkpgbfiaaDoor.D37, ty3, ty4, ty41, ty42]
      exact retB_plain (by simp [nmd_bool]) rfl (by simp)
  · obtain rfl : i = l.length := by omega
    rw [List.take_length] at hall
    rw [decide_eq_true ⟨by omega, by rw [e0]; omega, by rw [e0]; exact hall⟩]
    simp (maxSteps := 2000000) only [wk0, wk1, wk2, wk3, wk4, wk5, wk6, Fr.ev, Fr.put, Fr.get, storeA, List.replicate, IntKind.bits, sevalprocAttr, lstL, g3, g0', hi, YtoncolpkpgbfiaaDoor.D37, ty3, ty4, ty41, ty42]
    exact retB_plain (by simp [nmd_bool]) rfl (by simp)
def fineM (r c : Int) (L : List Int) : Prop := (1 ≤ r ∧ r ≤ 6) ∧ (1 ≤ c ∧ c ≤ 6) ∧ ∀ k : Nat, r * c ≤ k → k < 36 → L.getD k 0 = 0
theorem fine_mk {r c : Int} {L : List Int} (hL : L.length = 36) (h : fineM r c L) : ∃ (R C : Nat) (f : Nat → Nat → Int), (1 ≤ R ∧ R ≤ 6) ∧ (1 ≤ C ∧ C ≤ 6) ∧ r = R ∧ c = C ∧ matA r c L = mk R C f ∧ f = fun i j => L.getD (i * C + j) 0 := by
  obtain ⟨h1, h2, h3⟩ := h
  obtain ⟨R, rfl⟩ : ∃ R : Nat, r = R := ⟨r.toNat, by omega⟩
  obtain ⟨C, rfl⟩ : ∃ C : Nat, c = C := ⟨c.toNat, by omega⟩
  refine ⟨R, C, fun i j => L.getD (i * C + j) 0, by omega, by omega, rfl, rfl, ?_, rfl⟩
  unfold mk
  congr 1
  apply List.ext_getElem
  · rw [gridP_len, hL]
  · intro k h4 h5
    have hk : k < 36 := by omega
    simp only [gridP, List.getElem_map, List.getElem_range]
    split
    · rw [Nat.mul_comm, Nat.div_add_mod, List.getD_eq_getElem?_getD, List.getElem?_eq_getElem h4]; rfl
    · rename_i hq
      have := h3 k (by rw [← Int.natCast_mul]; omega) hk
      rw [List.getD_eq_getElem?_getD, List.getElem?_eq_getElem h4] at this
      exact this
theorem check_bad (r c : Int) (L : List Int) (S : Heap) (hL : L.length = 36) (h : ¬ fineM r c L) : Call theE 60 [matA r c L] S (errA 1) S := by
  have s1 := fun S => sizedM_ok r S
  have s2 := fun S => sizedM_ok c S
  refine Call.ofC Tryd.func60 YtoncolpkpgbfiaaDoor.b60 YtoncolpkpgbfiaaDoor.d60 YtoncolpkpgbfiaaDoor.e60 (by simp [Tryd.f60]) ?_
  dsimp only [YtoncolpkpgbfiaaDoor.c60, Tryd.f60, Option.getD_some]
  simp (maxSteps := 2000000) only [wk0, wk1, wk2, wk3, wk4, wk5, wk6, Fr.ev, Fr.put, Fr.get, storeA, List.replicate, IntKind.bits, sevalprocAttr, matA, YtoncolpkpgbfiaaDoor.D60, ty1, ty2, ty3, ty4, ty30, ty42, ty44, ty51, ty75]
  refine callThen_of (s1 _) ?_
  by_cases hr : 1 ≤ r ∧ r ≤ 6
  · rw [decide_eq_true hr]
    simp (maxSteps := 2000000) only [wk0, wk1, wk2, wk3, wk4, wk5, wk6, Fr.ev, Fr.put, Fr.get, storeA, List.replicate, IntKind.bits, sevalprocAttr, matA, YtoncolpkpgbfiaaDoor.D60, ty1, ty2, ty3, ty4, ty30, ty42, ty44, ty51, ty75]
    refine callThen_of (s2 _) ?_
    by_cases hc : 1 ≤ c ∧ c ≤ 6
    · rw [decide_eq_true hc]
      obtain ⟨R, rfl⟩ : ∃ R : Nat, r = R := ⟨r.toNat, by omega⟩
      obtain ⟨C, rfl⟩ : ∃ C : Nat, c = C := ⟨c.toNat, by omega⟩
      have h36 : R * C ≤ 36 := by have := Nat.mul_le_mul (show R ≤ 6 by omega) (show C ≤ 6 by omega); omega
      have w1 : IntKind.i64.wrap ((R : Int) * C) = ((R * C : Nat) : Int) := by rw [wrapI (by rw [← Int.natCast_mul]; omega)]; simp
      have hne : ∃ k : Nat, R * C ≤ k ∧ k < 36 ∧ ¬ L.getD k 0 = 0 := by
        refine Classical.byContradiction fun hn => h ⟨hr, hc, fun k h1 h2 => Classical.byContradiction fun h3 => hn ⟨k, by rw [← Int.natCast_mul] at h1; omega, h2, h3⟩⟩
      obtain ⟨p, hp⟩ : ∃ p, R * C = p := ⟨_, rfl⟩
      rw [hp] at w1 h36 hne
      have k1 : (0 : Int) ≤ (p : Int) := by omega
      have k2 : (p : Int) ≤ 36 := by omega
      have h' : ¬ (p : Int) = 36 := by obtain ⟨k, h1, h2, _⟩ := hne; omega
      have tz : ∀ k : Nat, k < 36 - p → (AV.int .i64 R :: AV.int .i64 C :: L.map fun x => AV.int .i64 x)[2 + p + k]? = some (.int .i64 (L.getD (p + k) 0)) := by
        intro k hk
        rw [Nat.add_assoc]
        refine get38 ?_
        rw [List.getD_eq_getElem?_getD, List.getElem?_eq_getElem (by omega)]; rfl
      simp (maxSteps := 2000000) only [wk0, wk1, wk2, wk3, wk4, wk5, wk6, Fr.ev, Fr.put, Fr.get, storeA, List.replicate, IntKind.bits, sevalprocAttr, bd_none, bd_some, bv_int, sa_arr, w1, k1, k2, h', List.length_map, hL, Int.le_refl, Nat.le_refl, Int.toNat_natCast, Nat.mul_one, YtoncolpkpgbfiaaDoor.D60, ty1, ty2, ty3, ty4, ty30, ty42, ty44, ty51, ty75]
      refine loopC_ind (fun m fr H => ∃ k : Nat, k + m = 36 - p ∧ (∃ q : Nat, p + k ≤ q ∧ q < 36 ∧ ¬ L.getD q 0 = 0) ∧ fr.get 24 = .int .i64 k ∧ fr.get 23 = .int .i64 ((36 - p : Nat) : Int) ∧ fr.get 22 = .sl S.length 0 (2 + p) (36 - p) (36 - p) 1 ∧ H = S ++ [some ⟨.int .i64 R :: .int .i64 C :: L.map fun x => .int .i64 x, 0⟩]) ?_ (n := 36 - p) ⟨0, by omega, hne, rfl, rfl, rfl, rfl⟩
      rintro m fr H ⟨k, hkm, ⟨q, hq1, hq2, hq3⟩, g24, g23, g22, rfl⟩ ih
      have hk : (k : Int) < ((36 - p : Nat) : Int) := by omega
      have q1 : (0 : Int) ≤ k := by omega
      have q2 := tz k (by omega)
      have wk : IntKind.i64.wrap ((k : Int) + 1) = ((k + 1 : Nat) : Int) := wrapI (by omega)
      by_cases hz : L.getD (p + k) 0 = 0
      · rw [hz] at q2
        simp (maxSteps := 2000000) only [wk0, wk1, wk2, wk3, wk4, wk5, wk6, Fr.ev, Fr.put, Fr.get, storeA, List.replicate, IntKind.bits, sevalprocAttr, g24, g23, g22, hk, q1, q2, Int.toNat_natCast, Nat.mul_one, wk, YtoncolpkpgbfiaaDoor.D60, ty1, ty2, ty3, ty4, ty30, ty42, ty44, ty51, ty75]
        refine ih (m - 1) _ _ (by omega) ⟨k + 1, by omega, ⟨q, ?_, hq2, hq3⟩, by simp [Fr.get], by simp [Fr.get, g23], by simp [Fr.get, g22], rfl⟩
        rcases Nat.lt_or_ge (p + k) q with h1 | h1
        · omega
        · obtain rfl : q = p + k := by omega
          exact absurd hz hq3
      · simp (maxSteps := 2000000) only [wk0, wk1, wk2, wk3, wk4, wk5, wk6, Fr.ev, Fr.put, Fr.get, storeA, List.replicate, IntKind.bits, sevalprocAttr, g24, g23, g22, hk, q1, q2, Int.toNat_natCast, Nat.mul_one, wk, hz, YtoncolpkpgbfiaaDoor.D60, ty1, ty2, ty3, ty4, ty30, ty42, ty44, ty51, ty75]
        exact retB_plain (by simp [nmd_ifc, nmd_int]) rfl (by simp)
    · rw [decide_eq_false hc]
      simp (maxSteps := 2000000) only [wk0, wk1, wk2, wk3, wk4, wk5, wk6, Fr.ev, Fr.put, Fr.get, storeA, List.replicate, IntKind.bits, sevalprocAttr, matA, YtoncolpkpgbfiaaDoor.D60, ty1, ty2, ty3, ty4, ty30, ty42, ty44, ty51, ty75]
      exact retB_plain (by simp [nmd_ifc, nmd_int]) rfl (by simp)
  · rw [decide_eq_false hr]
    simp (maxSteps := 2000000) only [wk0, wk1, wk2, wk3, wk4, wk5, wk6, Fr.ev, Fr.put, Fr.get, storeA, List.replicate, IntKind.bits, sevalprocAttr, matA, YtoncolpkpgbfiaaDoor.D60, ty1, ty2, ty3, ty4, ty30, ty42, ty44, ty51, ty75]
    exact retB_plain (by simp [nmd_ifc, nmd_int]) rfl (by simp)
def zeroM : AV := matA 0 0 (List.replicate 36 0)
theorem zeroM_bad : ¬ fineM 0 0 (List.replicate 36 0) := fun h => by have := h.1.1; omega
/-! a matrix that can't be -/
section
variable (r c : Int) (L : List Int) (S : Heap) (hL : L.length = 36) (h : ¬ fineM r c L)
include hL h
theorem turn_bad : Call theE 25 [matA r c L] S (.tup [zeroM, errA 1]) S := by
  have tk := take36 hL
  have ck := fun S => check_bad r c L S hL h
  simp only [matA, errA] at ck
  refine Call.ofC Tryd.func25 YtoncolpkpgbfiaaDoor.b25 YtoncolpkpgbfiaaDoor.d25 YtoncolpkpgbfiaaDoor.e25 (by simp [Tryd.f25]) ?_
  dsimp only [YtoncolpkpgbfiaaDoor.c25, Tryd.f25, Option.getD_some]
  simp (maxSteps := 2000000) only [wk0, wk1, wk2, wk3, wk4, wk5, wk6, Fr.ev, Fr.put, Fr.get, storeA, List.replicate, IntKind.bits, sevalprocAttr, matA, List.length_map, hL, tk, YtoncolpkpgbfiaaDoor.D25, ty1, ty3, ty4, ty30, ty51, ty124]
  refine callThen_of (ck _) ?_
  simp (maxSteps := 2000000) only [wk0, wk1, wk2, wk3, wk4, wk5, wk6, Fr.ev, Fr.put, Fr.get, storeA, List.replicate, IntKind.bits, sevalprocAttr, matA, List.length_map, hL, tk, YtoncolpkpgbfiaaDoor.D25, ty1, ty3, ty4, ty30, ty51, ty124]
  exact retB_plain (by simp [nmd_agg, nmd_int, nmd_ifc]) rfl (by simp)
end
theorem of_mat_bad (l : List (List Int)) (S : Heap) (h : ¬ MayR l) : Call theE 41 [lstL l] S (.tup [zeroM, errA 1]) S := by
  unfold MayR at h
  have s1 := fun S => sizedM_ok l.length S
  by_cases hl : 1 ≤ l.length ∧ l.length ≤ 6
  · rw [decide_eq_true (by omega)] at s1
    have h0 : 0 < l.length := by omega
    have e0 : l.getD 0 [] = l[0] := getD_lst h0
    rw [e0] at h
    obtain ⟨c, hr0⟩ : ∃ c, l[0].length = c := ⟨_, rfl⟩
    rw [hr0] at h
    have s2 := fun S => sizedM_ok c S
    have g0 := get_lstL h0
    have k0 : (0 : Int) < l.length := by omega
    by_cases hc : 1 ≤ c ∧ c ≤ 6
    · rw [decide_eq_true (by omega)] at s2
      have hne : ∃ k, ∃ hk : k < l.length, l[k].length ≠ c := Classical.byContradiction fun hn => h ⟨hl, hc, fun r hr => Classical.byContradiction fun h3 => by
        obtain ⟨k, hk, rfl⟩ := List.getElem_of_mem hr
        exact hn ⟨k, hk, h3⟩⟩
      have z36 : List.replicate 36 (AV.int .i64 0) = (gridP c (rowsF l) 0).map fun x => .int .i64 x := by rw [gridP_zero]; simp
      refine Call.ofC Tryd.func41 YtoncolpkpgbfiaaDoor.b41 YtoncolpkpgbfiaaDoor.d41 YtoncolpkpgbfiaaDoor.e41 (by simp [Tryd.f41]) ?_
      dsimp only [YtoncolpkpgbfiaaDoor.c41, Tryd.f41, Option.getD_some]
      simp (maxSteps := 2000000) only [wk0, wk1, wk2, wk3, wk4, wk5, wk6, Fr.ev, Fr.put, Fr.get, storeA, List.replicate, IntKind.bits, sevalprocAttr, lstL, lstI, k0, g0, hr0, YtoncolpkpgbfiaaDoor.D41, ty1, ty2, ty3, ty4, ty30, ty41, ty42, ty44, ty51, ty75]
      refine callThen_of (s1 _) ?_
      simp (maxSteps := 2000000) only [wk0, wk1, wk2, wk3, wk4, wk5, wk6, Fr.ev, Fr.put, Fr.get, storeA, List.replicate, IntKind.bits, sevalprocAttr, lstL, lstI, k0, g0, hr0, YtoncolpkpgbfiaaDoor.D41, ty1, ty2, ty3, ty4, ty30, ty41, ty42, ty44, ty51, ty75]
      refine callThen_of (s2 _) ?_
      simp (maxSteps := 2000000) only [wk0, wk1, wk2, wk3, wk4, wk5, wk6, Fr.ev, Fr.put, Fr.get, storeA, List.replicate, IntKind.bits, sevalprocAttr, lstL, lstI, k0, g0, hr0, YtoncolpkpgbfiaaDoor.D41, ty1, ty2, ty3, ty4, ty30, ty41, ty42, ty44, ty51, ty75]
      refine loopC_ind (fun m fr H => ∃ i : Nat, i + m = l.length ∧ (∃ k, ∃ hk : k < l.length, i ≤ k ∧ l[k].length ≠ c) ∧ fr.get 30 = .int .i64 i ∧ fr.get 29 = .int .i64 l.length ∧ fr.get 28 = lstL l ∧ fr.get 4 = .ptr (S.length + 1) 0 0 ∧ fr.get 2 = .ptr S.length 0 0 ∧
        H = S ++ [some ⟨zero38, 0⟩, some ⟨.int .i64 l.length :: .int .i64 c :: (gridP c (rowsF l) (i * c)).map fun x => .int .i64 x, 0⟩]) ?_ (n := l.length) ⟨0, by omega, (by obtain ⟨k, hk, h3⟩ := hne; exact ⟨k, hk, by omega, h3⟩), rfl, rfl, rfl, rfl, rfl, by rw [Nat.zero_mul, gridP_zero]; rfl⟩
      rintro m fr H ⟨i, him, ⟨k, hk, hik, hk3⟩, g30, g29, g28, g4, g2, rfl⟩ ih
      have hin : i < l.length := by omega
      have hi : (i : Int) < l.length := by omega
      have k1 : (0 : Int) ≤ i := by omega
      have wi : IntKind.i64.wrap ((i : Int) + 1) = ((i + 1 : Nat) : Int) := wrapI (by omega)
      have gl := get_lstL hin
      by_cases hri : l[i].length = c
      · have hic : (i + 1) * c ≤ 36 := by have := Nat.mul_le_mul (show i + 1 ≤ 6 by omega) hc.2; omega
        have hic' : i * c + c ≤ 36 := by rw [Nat.add_mul, Nat.one_mul] at hic; exact hic
        have w1 : IntKind.i64.wrap ((i : Int) * c) = ((i * c : Nat) : Int) := by rw [wrapI (by rw [← Int.natCast_mul]; omega)]; simp
        have q1 : (0 : Int) ≤ ((i * c : Nat) : Int) := by omega
        have q2 : ((i * c : Nat) : Int) ≤ 36 := by omega
        have q3 : ¬ ((i * c : Nat) : Int) = 36 := by omega
        have q4 : c ≤ 36 - i * c := by omega
        have q5 : 2 + i * c + c ≤ 38 := by omega
        have cr := copy_row (l.length : Int) (c : Int) (rowsF l) l.length c i hic
        rw [rowF_rows hin hri, List.append_assoc] at cr
        have tk : List.take c (l[i].map fun x => AV.int .i64 x) = l[i].map fun x => AV.int .i64 x := List.take_of_length_le (by simp [hri])
        have al : (List.map (fun x => AV.int .i64 x) l[i]).all AV.one = true := by simp [AV.one]
        simp (maxSteps := 2000000) only [wk0, wk1, wk2, wk3, wk4, wk5, wk6, Fr.ev, Fr.put, Fr.get, storeA, List.replicate, IntKind.bits, sevalprocAttr, lstI, lstL, g30, g29, g28, g4, g2, hi, k1, Int.toNat_natCast, Nat.mul_one, gl, hri, w1, bd_none, bd_some, bv_int, sa_arr, q1, q2, q3, q4, q5, Int.le_refl, List.length_map, gridP_len, mayCopy_own, cp_sl, tk, al, cr, Nat.le_refl, wi, YtoncolpkpgbfiaaDoor.D41, ty1, ty2, ty3, ty4, ty30, ty41, ty42, ty44, ty51, ty75]
        refine ih (m - 1) _ _ (by omega) ⟨i + 1, by omega, ⟨k, hk, ?_, hk3⟩, by simp [Fr.get], by simp [Fr.get, g29], by simp [Fr.get, g28, lstL], by simp [Fr.get, g4], by simp [Fr.get, g2], rfl⟩
        rcases Nat.lt_or_ge i k with h1 | h1
        · omega
        · obtain rfl : k = i := by omega
          exact absurd hri hk3
      · have hri' : ((l[i].length : Int) = c) = False := eq_false (by omega)
        have zl : zero38.length = 38 := by simp [zero38]
        have zd : List.drop 38 zero38 = [] := List.drop_eq_nil_of_le (by omega)
        simp (maxSteps := 2000000) only [wk0, wk1, wk2, wk3, wk4, wk5, wk6, Fr.ev, Fr.put, Fr.get, storeA, List.replicate, IntKind.bits, sevalprocAttr, lstI, lstL, g30, g29, g28, g4, g2, hi, k1, Int.toNat_natCast, Nat.mul_one, gl, hri', zl, zd, YtoncolpkpgbfiaaDoor.D41, ty1, ty2, ty3, ty4, ty30, ty41, ty42, ty44, ty51, ty75]
        exact retB_plain (by simp [nmd_agg, nmd_int, nmd_ifc]) rfl (by simp)
    · rw [decide_eq_false (by omega)] at s2
      refine Call.ofC Tryd.func41 YtoncolpkpgbfiaaDoor.b41 YtoncolpkpgbfiaaDoor.d41 YtoncolpkpgbfiaaDoor.e41 (by simp [Tryd.f41]) ?_
      dsimp only [YtoncolpkpgbfiaaDoor.c41, Tryd.f41, Option.getD_some]
      simp (maxSteps := 2000000) only [wk0, wk1, wk2, wk3, wk4, wk5, wk6, Fr.ev, Fr.put, Fr.get, storeA, List.replicate, IntKind.bits, sevalprocAttr, lstL, lstI, k0, g0, hr0, YtoncolpkpgbfiaaDoor.D41, ty1, ty2, ty3, ty4, ty30, ty41, ty42, ty44, ty51, ty75]
      refine callThen_of (s1 _) ?_
      simp (maxSteps := 2000000) only [wk0, wk1, wk2, wk3, wk4, wk5, wk6, Fr.ev, Fr.put, Fr.get, storeA, List.replicate, IntKind.bits, sevalprocAttr, lstL, lstI, k0, g0, hr0, YtoncolpkpgbfiaaDoor.D41, ty1, ty2, ty3, ty4, ty30, ty41, ty42, ty44, ty51, ty75]
      refine callThen_of (s2 _) ?_
      simp (maxSteps := 2000000) only [wk0, wk1, wk2, wk3, wk4, wk5, wk6, Fr.ev, Fr.put, Fr.get, storeA, List.replicate, IntKind.bits, sevalprocAttr, lstL, lstI, k0, g0, hr0, YtoncolpkpgbfiaaDoor.D41, ty1, ty2, ty3, ty4, ty30, ty41, ty42, ty44, ty51, ty75]
      exact retB_plain (by simp [nmd_agg, nmd_int, nmd_ifc]) rfl (by simp)
  · rw [decide_eq_false (by omega)] at s1
    refine Call.ofC Tryd.func41 YtoncolpkpgbfiaaDoor.b41 YtoncolpkpgbfiaaDoor.d41 YtoncolpkpgbfiaaDoor.e41 (by simp [Tryd.f41]) ?_
    dsimp only [YtoncolpkpgbfiaaDoor.c41, Tryd.f41, Option.getD_some]
    simp (maxSteps := 2000000) only [wk0, wk1, wk2, wk3, wk4, wk5, wk6, Fr.ev, Fr.put, Fr.get, storeA, List.replicate, IntKind.bits, sevalprocAttr, lstL, lstI, YtoncolpkpgbfiaaDoor.D41, ty1, ty2, ty3, ty4, ty30, ty41, ty42, ty44, ty51, ty75]
    refine callThen_of (s1 _) ?_
    simp (maxSteps := 2000000) only [wk0, wk1, wk2, wk3, wk4, wk5, wk6, Fr.ev, Fr.put, Fr.get, storeA, List.replicate, IntKind.bits, sevalprocAttr, lstL, lstI, YtoncolpkpgbfiaaDoor.D41, ty1, ty2, ty3, ty4, ty30, ty41, ty42, ty44, ty51, ty75]
    exact retB_plain (by simp [nmd_agg, nmd_int, nmd_ifc]) rfl (by simp)
def rowsA (r c : Nat) (f : Nat → Nat → Int) : List AV := (List.range r).map fun i => lstI (rowF f c i)
/-- The matrix of these numbers, as its rows. -/
def mtx (r c : Nat) (f : Nat → Nat → Int) : AV := .lst (rowsA r c f) r
theorem rowF_len (f : Nat → Nat → Int) (c i : Nat) : (rowF f c i).length = c := by simp [rowF]
theorem rowF_in {f : Nat → Nat → Int} {c i : Nat} (h : ∀ j, j < c → inI (f i j)) : ∀ x ∈ rowF f c i, inI x := by
  intro x hx
  obtain ⟨k, hk, rfl⟩ := List.mem_map.1 hx
  exact h k (List.mem_range.1 hk)
theorem rowsA_len (r c : Nat) (f : Nat → Nat → Int) : (rowsA r c f).length = r := by simp [rowsA]
theorem rowsA_get {r c i : Nat} {f : Nat → Nat → Int} (h : i < r) : (rowsA r c f)[i]? = some (.lst ((rowF f c i).map fun x => .int .i64 x) c) := by simp [rowsA, h, lstI, rowF_len]
theorem rowF_get {c i j : Nat} {f : Nat → Nat → Int} (h : j < c) : ((rowF f c i).map fun x => AV.int .i64 x)[j]? = some (.int .i64 (f i j)) := by simp [rowF, h]
theorem rowsA_app (i c : Nat) (f : Nat → Nat → Int) : rowsA i c f ++ [.lst ((rowF f c i).map fun x => .int .i64 x) c] = rowsA (i + 1) c f := by
  unfold rowsA
  rw [List.range_succ, List.map_append]
  simp [lstI, rowF_len]
theorem rowF_pre (f : Nat → Nat → Int) (c i : Nat) : rowF f c i = preL (f i) c := rfl
theorem mtx_of {l : List (List Int)} (h : MayR l) : lstL l = mtx l.length (l.getD 0 []).length (rowsF l) := by
  unfold lstL mtx
  congr 1
  apply List.ext_getElem
  · simp [rowsA]
  · intro i h1 h2
    have hi : i < l.length := by simpa using h1
    simp only [rowsA, List.getElem_map, List.getElem_range]
    rw [rowF_rows hi (h.2.2 _ (List.getElem_mem hi))]
theorem rowsA_nmd (n r c : Nat) (f : Nat → Nat → Int) : ∀ x ∈ rowsA r c f, Nmd n x := by
  intro x hx
  obtain ⟨k, _, rfl⟩ := List.mem_map.1 hx
  exact .lst _ _
theorem rowsA_one (r c : Nat) (f : Nat → Nat → Int) : (rowsA r c f).all AV.one = true := by
  rw [List.all_eq_true]
  intro x hx
  obtain ⟨k, _, rfl⟩ := List.mem_map.1 hx
  rfl
theorem fin_rows {base id ver cap u r c : Nat} {f : Nat → Nat → Int} {H : Heap} (h : base ≤ id) (hb : blkAt H id ver = some ⟨rowsA r c f, u⟩) : Fin1 base H (.sl id ver 0 r cap 1) (mtx r c f) := by
  have e := Fin1.sl (base := base) (H := H) id ver 0 r cap 1 _ h hb (rowsA_nmd 0 r c f) (by simp [rowsA_len])
  have e2 : List.take (r * 1) (List.drop 0 (rowsA r c f)) = rowsA r c f := by rw [List.drop_zero, Nat.mul_one, List.take_of_length_le (by rw [rowsA_len]; omega)]
  rwa [e2] at e
theorem anyP_zero (c : Nat) (os : Nat → Nat → Bool) : anyP c os 0 = false := by simp [anyP]
theorem anyP_row (c : Nat) (os : Nat → Nat → Bool) (i : Nat) : anyP c os ((i + 1) * c) = (anyP c os (i * c) || preO (os i) c) := by
  have key : ∀ j, j ≤ c → anyP c os (i * c + j) = (anyP c os (i * c) || preO (os i) j) := by
    intro j
    induction j with
    | zero => intro _; simp [preO]
    | succ j ih =>
      intro hj
      rw [← Nat.add_assoc, anyP_succ c os i j (by omega), ih (by omega), preO_succ, Bool.or_assoc]
  rw [Nat.add_mul, Nat.one_mul]
  exact key c (Nat.le_refl _)
theorem pl_nmd (n : Nat) (l : List Int) : ∀ x ∈ l.map (fun x => AV.int .i64 x), Nmd n x := by
  intro x hx
  obtain ⟨y, _, rfl⟩ := List.mem_map.1 hx
  exact .int _ _

end Go.Proofs.YtoncolpkpgbfiaaDoor
