/- The document's answer (chapter 8): a matrix as its rows. -/
import Derived.Test.YtdknnaalfoongaaGreatDoorN1
import Derived.Test.YtdknnaalfoongaaGreatDoorV5
set_option linter.unusedSimpArgs false
set_option linter.unusedVariables false
set_option maxRecDepth 100000
set_option maxHeartbeats 4000000
namespace Go.Proofs.YtdknnaalfoongaaGreatDoor
def rowsA (r c : Nat) (f : Nat → Nat → Int) : List AV := (List.range r).map fun i => lstI (rowF f c i)
/-- The matrix of these numbers, as its rows. -/
def mtx (r c : Nat) (f : Nat → Nat → Int) : AV := .lst (rowsA r c f) r
theorem rowF_len (f : Nat → Nat → Int) (c i : Nat) : (rowF f c i).length = c := by simp [rowF]
theorem rowF_in {f : Nat → Nat → Int} {c i : Nat} (h : ∀ j, j < c → inI (f i j)) : ∀ x ∈ rowF f c i, inI x := by
  intro x hx
  obtain ⟨k, hk, rfl⟩ := List.mem_map.1 hx
  exact h k (List.mem_range.1 hk)
theorem rowsA_len (r c : Nat) (f : Nat → Nat → Int) : (rowsA r c f).length = r := by simp [rowsA]
theorem rowsA_get {r c i : Nat} {f : Nat → Nat → Int} (h : i < r) : (rowsA r c f)[i]? = some (.lst ((rowF f c i).map fun x => .int .i64 x) c) := by simp [rowsA, h, lstI, rowF_len]
theorem rowF_get {c i j : Nat} {f : Nat → Nat → Int} (h : j < c) : ((rowF f c i).map fun x => AV.int .i64 x)[j]? = some (.int .i64 (f i j)) := by simp [rowF, h]
theorem rowsA_app (i c : Nat) (f : Nat → Nat → Int) : rowsA i c f ++ [.lst ((rowF f c i).map fun x => .int .i64 x) c] = rowsA (i + 1) c f := by
  unfold rowsA
  rw [List.range_succ, List.map_append]
  simp [lstI, rowF_len]
theorem rowF_pre (f : Nat → Nat → Int) (c i : Nat) : rowF f c i = preL (f i) c := rfl
theorem mtx_of {l : List (List Int)} (h : MayR l) : lstL l = mtx l.length (l.getD 0 []).length (rowsF l) := by
  unfold lstL mtx
  congr 1
  apply List.ext_getElem
  · simp [rowsA]
  · intro i h1 h2
    have hi : i < l.length := by simpa using h1
    simp only [rowsA, List.getElem_map, List.getElem_range]
    rw [rowF_rows hi (h.2.2 _ (List.getElem_mem hi))]
theorem rowsA_nmd (n r c : Nat) (f : Nat → Nat → Int) : ∀ x ∈ rowsA r c f, Nmd n x := by
  intro x hx
  obtain ⟨k, _, rfl⟩ := List.mem_map.1 hx
  exact .lst _ _
theorem rowsA_one (r c : Nat) (f : Nat → Nat → Int) : (rowsA r c f).all AV.one = true := by
  rw [List.all_eq_true]
  intro x hx
  obtain ⟨k, _, rfl⟩ := List.mem_map.1 hx
  rfl
theorem fin_rows {base id ver cap u r c : Nat} {f : Nat → Nat → Int} {H : Heap} (h : base ≤ id) (hb : blkAt H id ver = some ⟨rowsA r c f, u⟩) : Fin1 base H (.sl id ver 0 r cap 1) (mtx r c f) := by
  have e := Fin1.sl (base := base) (H := H) id ver 0 r cap 1 _ h hb (rowsA_nmd 0 r c f) (by simp [rowsA_len])
  have e2 : List.take (r * 1) (List.drop 0 (rowsA r c f)) = rowsA r c f := by rw [List.drop_zero, Nat.mul_one, List.take_of_length_le (by rw [rowsA_len]; omega)]
  rwa [e2] at e
theorem anyP_zero (c : Nat) (os : Nat → Nat → Bool) : anyP c os 0 = false := by simp [anyP]
theorem anyP_row (c : Nat) (os : Nat → Nat → Bool) (i : Nat) : anyP c os ((i + 1) * c) = (anyP c os (i * c) || preO (os i) c) := by
  have key : ∀ j, j ≤ c → anyP c os (i * c + j) = (anyP c os (i * c) || preO (os i) j) := by
    intro j
    induction j with
    | zero => intro _; simp [preO]
    | succ j ih =>
      intro hj
      rw [← Nat.add_assoc, anyP_succ c os i j (by omega), ih (by omega), preO_succ, Bool.or_assoc]
  rw [Nat.add_mul, Nat.one_mul]
  exact key c (Nat.le_refl _)
theorem pl_nmd (n : Nat) (l : List Int) : ∀ x ∈ l.map (fun x => AV.int .i64 x), Nmd n x := by
  intro x hx
  obtain ⟨y, _, rfl⟩ := List.mem_map.1 hx
  exact .int _ _
noncomputable def c46 : Code := Tryz.f46.body.getD .skip
theorem b46 : Tryz.f46.body = some c46 := rfl
theorem d46 : fnOk Tryz.f46 c46 = true := by kernel_rfl
def D46 : Nat → List Tag := fun _ => []
theorem e46 : drawsOk D46 c46 = true := by kernel_rfl
theorem refTurn8_ok (r c : Nat) (f : Nat → Nat → Int) (S : Heap) (hr : 1 ≤ r ∧ r ≤ 1000) (hc : c ≤ 1000) : Call theE 46 [mtx r c f] S (mtx c r fun i j => f j i) S := by
  have q5 : (0 : Int) < r := by omega
  have gl0 := rowsA_get (c := c) (f := f) (show 0 < r by omega)
  refine Call.ofC Tryz.func46 YtdknnaalfoongaaGreatDoor.b46 YtdknnaalfoongaaGreatDoor.d46 YtdknnaalfoongaaGreatDoor.e46 (by simp [Tryz.f46]) ?_
  dsimp only [YtdknnaalfoongaaGreatDoor.c46, Tryz.f46, Option.getD_some]
  simp (maxSteps := 2000000) only [wk0, wk1, wk2, wk3, wk4, wk5, wk6, Fr.ev, Fr.put, Fr.get, storeA, List.replicate, IntKind.bits, sevalprocAttr, mtx, YtdknnaalfoongaaGreatDoor.D46, ty1, ty2, ty3, ty4, ty22, ty23]
  refine loopC_ind (fun m fr H => ∃ (i cap : Nat) (T : Heap), i + m = c ∧ fr.get 0 = .lst (rowsA r c f) r ∧ fr.get 3 = .sl S.length i 0 i cap 1 ∧ fr.get 4 = .int .i64 (i : Int) ∧
    S ++ some ⟨rowsA i r fun i j => f j i, i⟩ :: T = H) ?_ (n := c) ⟨0, 0, [], by omega, rfl, rfl, rfl, rfl⟩
  rintro m fr P ⟨i, cap, T, him, g0, g3, g4, hP⟩ ih
  have tb := fun L => tail_blk hP L rfl
  have tb0 := tail_blk0 hP rfl
  have ts := fun L b => tail_set hP L b
  have ta := fun a b c d e x H => show mayAppend S.length .append [.sl P.length a b c d e, x] H = True by simp only [mayAppend, eq_iff_iff, iff_true]; left; rw [← hP]; simp
  have lP : S.length ≤ P.length := by rw [← hP]; simp
  by_cases hi : (i : Int) < c
  · have k2 : (0 : Int) ≤ i := by omega
    have cs := rowsA_app i r fun i j => f j i
    have cl := rowsA_len i r fun i j => f j i
    have a1 : (i + 1) * 24 ≤ maxBytes := by unfold maxBytes; omega
    have a2 : i + 1 ≤ 9223372036854775807 := by omega
    have wi : IntKind.i64.wrap ((i : Int) + 1) = ((i + 1 : Nat) : Int) := wrapI (by omega)
    simp (maxSteps := 2000000) only [wk0, wk1, wk2, wk3, wk4, wk5, wk6, Fr.ev, Fr.put, Fr.get, storeA, List.replicate, IntKind.bits, sevalprocAttr, g0, g3, g4, hi, k2, gl0, q5, YtdknnaalfoongaaGreatDoor.D46, ty1, ty2, ty3, ty4, ty22, ty23]
    refine loopC_ind (fun m' fr H => ∃ (j cap2 : Nat), j + m' = r ∧ fr.get 0 = .lst (rowsA r c f) r ∧ fr.get 3 = .sl S.length i 0 i cap 1 ∧ fr.get 4 = .int .i64 (i : Int) ∧ fr.get 5 = .sl P.length j 0 j cap2 1 ∧ fr.get 6 = .int .i64 (j : Int) ∧
      H = P ++ [some ⟨(preL (fun j => f j i) j).map fun x => .int .i64 x, j⟩]) ?_ (n := r) ⟨0, 0, by omega, by simp [Fr.get, g0], by simp [Fr.get, g3], by simp [Fr.get, g4], rfl, rfl, rfl⟩
    rintro m' fr H ⟨j, cap2, hjm, g0, g3, g4, g5, g6, rfl⟩ ih2
    have cl2 := preL_len (fun j => f j i) j
    by_cases hj : (j : Int) < r
    · have hjn : j < r := by omega
      have hin : i < c := by omega
      have k1 : (0 : Int) ≤ j := by omega
      have gl := rowsA_get (c := c) (f := f) hjn
      have gk := rowF_get (i := j) (f := f) hin
      have wj : IntKind.i64.wrap ((j : Int) + 1) = ((j + 1 : Nat) : Int) := wrapI (by omega)
      have cs2 := preL_app (fun j => f j i) j
      have b1 : (j + 1) * 8 ≤ maxBytes := by unfold maxBytes; omega
      have b2 : j + 1 ≤ 9223372036854775807 := by omega
      simp (maxSteps := 2000000) only [wk0, wk1, wk2, wk3, wk4, wk5, wk6, Fr.ev, Fr.put, Fr.get, storeA, List.replicate, IntKind.bits, sevalprocAttr, g0, g3, g4, g5, g6, hi, hj, k1, k2, Int.toNat_natCast, Nat.mul_one, gl, gk, wj, List.length_map, cl2, cs2, b1, b2, ta, YtdknnaalfoongaaGreatDoor.D46, ty1, ty2, ty3, ty4, ty22, ty23]
      exact ih2 (m' - 1) _ _ (by omega) ⟨j + 1, j + 1, by omega, by simp [Fr.get, g0], by simp [Fr.get, g3], by simp [Fr.get, g4], by simp [Fr.get], by simp [Fr.get], rfl⟩
    · obtain rfl : j = r := by omega
      have px := pl_nmd 0 (preL (fun j => f j i) j)
      have tk : List.take j ((preL (fun j => f j i) j).map fun x => AV.int .i64 x) = (rowF (fun i j => f j i) j i).map fun x => .int .i64 x := List.take_of_length_le (by simp [cl2])
      simp (maxSteps := 2000000) only [wk0, wk1, wk2, wk3, wk4, wk5, wk6, Fr.ev, Fr.put, Fr.get, storeA, List.replicate, IntKind.bits, sevalprocAttr, g0, g3, g4, g5, g6, hj, lP, tb, tb0, ts, cl, cs, a1, a2, wi, List.length_map, Nat.mul_one, Nat.zero_add, Nat.le_refl, cl2, tk, eq_true px, YtdknnaalfoongaaGreatDoor.D46, ty1, ty2, ty3, ty4, ty22, ty23]
      exact ih (m - 1) _ _ (by omega) ⟨i + 1, i + 1, _, by omega, by simp [Fr.get, g0], by simp [Fr.get], by simp [Fr.get], tail_step hP⟩
  · obtain rfl : i = c := by omega
    simp (maxSteps := 2000000) only [wk0, wk1, wk2, wk3, wk4, wk5, wk6, Fr.ev, Fr.put, Fr.get, storeA, List.replicate, IntKind.bits, sevalprocAttr, g0, g3, g4, hi, gl0, q5, YtdknnaalfoongaaGreatDoor.D46, ty1, ty2, ty3, ty4, ty22, ty23]
    exact retB_one (fin_rows (Nat.le_refl _) tb0) (tail_take hP).symm
end Go.Proofs.YtdknnaalfoongaaGreatDoor
