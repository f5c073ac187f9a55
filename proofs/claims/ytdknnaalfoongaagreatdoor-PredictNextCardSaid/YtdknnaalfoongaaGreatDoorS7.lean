/- Layer 12's helpers: numbers, rows, a state part by part. -/
import Derived.Test.YtdknnaalfoongaaGreatDoorS6
import Derived.Test.YtdknnaalfoongaaGreatDoorN2
set_option linter.unusedSimpArgs false
set_option linter.unusedVariables false
set_option maxRecDepth 100000
set_option maxHeartbeats 8000000
namespace Go.Proofs.YtdknnaalfoongaaGreatDoor
noncomputable def c49 : Code := Tryz.f49.body.getD .skip
theorem b49 : Tryz.f49.body = some c49 := rfl
theorem d49 : fnOk Tryz.f49 c49 = true := by kernel_rfl
def D49 : Nat → List Tag
  | 6 => [.pure, .pure, .pure, .quiet, .pure, .pure, .pure, .quiet, .pure]
  | _ => []
theorem e49 : drawsOk D49 c49 = true := by kernel_rfl
noncomputable def c51 : Code := Tryz.f51.body.getD .skip
theorem b51 : Tryz.f51.body = some c51 := rfl
theorem d51 : fnOk Tryz.f51 c51 = true := by kernel_rfl
def D51 : Nat → List Tag := fun _ => []
theorem e51 : drawsOk D51 c51 = true := by kernel_rfl
noncomputable def c50 : Code := Tryz.f50.body.getD .skip
theorem b50 : Tryz.f50.body = some c50 := rfl
theorem d50 : fnOk Tryz.f50 c50 = true := by kernel_rfl
def D50 : Nat → List Tag
  | 6 => [.pure, .pure, .pure, .quiet, .pure, .pure, .pure, .quiet, .seq, .pure]
  | _ => []
theorem e50 : drawsOk D50 c50 = true := by kernel_rfl
noncomputable def c16 : Code := Tryz.f16.body.getD .skip
theorem b16 : Tryz.f16.body = some c16 := rfl
theorem d16 : fnOk Tryz.f16 c16 = true := by kernel_rfl
def D16 : Nat → List Tag
  | 1 => [.pure, .quiet, .pure, .quiet, .seq, .pure, .pure, .quiet, .quiet, .pure, .quiet, .seq, .pure, .pure]
  | _ => []
theorem e16 : drawsOk D16 c16 = true := by kernel_rfl
noncomputable def c42 : Code := Tryz.f42.body.getD .skip
theorem b42 : Tryz.f42.body = some c42 := rfl
theorem d42 : fnOk Tryz.f42 c42 = true := by kernel_rfl
def D42 : Nat → List Tag := fun _ => []
theorem e42 : drawsOk D42 c42 = true := by kernel_rfl
theorem in12_ok (n : Int) (S : Heap) : Call theE 42 [.int .i64 n] S (.bool (decide (topI n))) S := by
  unfold topI
  refine Call.ofC Tryz.func42 YtdknnaalfoongaaGreatDoor.b42 YtdknnaalfoongaaGreatDoor.d42 YtdknnaalfoongaaGreatDoor.e42 (by simp [Tryz.f42]) ?_
  dsimp only [YtdknnaalfoongaaGreatDoor.c42, Tryz.f42, Option.getD_some]
  by_cases h1 : -4611686018427387903 ≤ n
  · by_cases h2 : n ≤ 4611686018427387903
    · simp (maxSteps := 2000000) only [wk0, wk1, wk2, wk3, wk4, wk5, wk6, Fr.ev, Fr.put, Fr.get, storeA, List.replicate, IntKind.bits, sevalprocAttr, h1, h2, decide_true, YtdknnaalfoongaaGreatDoor.D42, ty2, ty4]
      exact retB_plain (by simp [nmd_bool]) (by simp [packA, h1, h2]) (by simp)
    · simp (maxSteps := 2000000) only [wk0, wk1, wk2, wk3, wk4, wk5, wk6, Fr.ev, Fr.put, Fr.get, storeA, List.replicate, IntKind.bits, sevalprocAttr, h1, h2, decide_true, decide_false, YtdknnaalfoongaaGreatDoor.D42, ty2, ty4]
      exact retB_plain (by simp [nmd_bool]) (by simp [packA, h1, h2]) (by simp)
  · simp (maxSteps := 2000000) only [wk0, wk1, wk2, wk3, wk4, wk5, wk6, Fr.ev, Fr.put, Fr.get, storeA, List.replicate, IntKind.bits, sevalprocAttr, h1, decide_false, YtdknnaalfoongaaGreatDoor.D42, ty2, ty4]
    exact retB_plain (by simp [nmd_bool]) (by simp [packA, h1]) (by simp)
theorem nums12_ok (u v : AV) (l r : List Int) (S : Heap) (hu : SlI S u l) (hv : SlI S v r) (hl : l.length ≤ maxLen) : Call theE 49 [u, v] S (.bool (decide (l = r))) S := by
  have hml : maxLen ≤ 9223372036854775807 := by decide
  have c1 := hu.mv
  have c2 := hv.mv
  have c3 := hu.ln
  have c4 := hv.ln
  refine Call.ofC Tryz.func49 YtdknnaalfoongaaGreatDoor.b49 YtdknnaalfoongaaGreatDoor.d49 YtdknnaalfoongaaGreatDoor.e49 (by simp [Tryz.f49]) ?_
  dsimp only [YtdknnaalfoongaaGreatDoor.c49, Tryz.f49, Option.getD_some]
  by_cases h6 : (l.length : Int) = r.length
  · simp (maxSteps := 2000000) only [wk0, wk1, wk2, wk3, wk4, wk5, wk6, Fr.ev, Fr.put, Fr.get, storeA, List.replicate, IntKind.bits, sevalprocAttr, c1, c2, c3, c4, h6, YtdknnaalfoongaaGreatDoor.D49, ty2, ty3, ty4, ty22]
    refine loopC_ind (fun m fr H => ∃ i : Nat, i + m = l.length ∧ l.take i = r.take i ∧ fr.get 5 = .int .i64 i ∧ fr.get 0 = u ∧ fr.get 1 = v ∧ ∃ L, H = S ++ L) ?_ (n := l.length) ⟨0, by omega, by simp, rfl, rfl, rfl, [], by simp⟩
    rintro m fr H ⟨i, him, hall, g5, g0, g1, L, rfl⟩ ih
    by_cases hi : (i : Int) < l.length
    · have hin : i < l.length := by omega
      have hir : i < r.length := by omega
      have hi' : (i : Int) < r.length := by omega
      have ia1 := fun a c z x => hu.ia a c z x (i : Int) (by omega) (by omega)
      have ia2 := fun a c z x => hv.ia a c z x (i : Int) (by omega) (by omega)
      simp only [Int.toNat_natCast] at ia1 ia2
      have mp1 := fun k H => hu.mp k H i hin
      have mp2 := fun k H => hv.mp k H i hir
      have ld1 : ∀ s z k L, loadA ⟨false, s, z, k⟩ (S ++ L) (adrI u i) = some (.int .i64 (l[i])) := fun s z k L => by rw [hu.ld i hin]; rfl
      have ld2 : ∀ s z k L, loadA ⟨false, s, z, k⟩ (S ++ L) (adrI v i) = some (.int .i64 (r[i])) := fun s z k L => by rw [hv.ld i hir]; rfl
      have wi : IntKind.i64.wrap ((i : Int) + 1) = ((i + 1 : Nat) : Int) := wrapI (by omega)
      by_cases hr : l[i] = r[i]
      · simp (maxSteps := 2000000) only [wk0, wk1, wk2, wk3, wk4, wk5, wk6, Fr.ev, Fr.put, Fr.get, storeA, List.replicate, IntKind.bits, sevalprocAttr, c1, c2, c3, c4, g5, g0, g1, hi, hi', ia1, ia2, mp1, mp2, ld1, ld2, hr, wi, YtdknnaalfoongaaGreatDoor.D49, ty2, ty3, ty4, ty22]
        refine ih (m - 1) _ _ (by omega) ⟨i + 1, by omega, ?_, by simp [Fr.get], by simp [Fr.get, g0], by simp [Fr.get, g1], _, rfl⟩
        rw [List.take_succ_eq_append_getElem hin, List.take_succ_eq_append_getElem hir, hall, hr]
      · rw [decide_eq_false (fun h => hr (by simp [h]))]
        simp (maxSteps := 2000000) only [wk0, wk1, wk2, wk3, wk4, wk5, wk6, Fr.ev, Fr.put, Fr.get, storeA, List.replicate, IntKind.bits, sevalprocAttr, c1, c2, c3, c4, g5, g0, g1, hi, hi', ia1, ia2, mp1, mp2, ld1, ld2, hr, wi, YtdknnaalfoongaaGreatDoor.D49, ty2, ty3, ty4, ty22]
        exact retB_plain (by simp [nmd_bool]) rfl (by simp)
    · obtain rfl : i = l.length := by omega
      rw [List.take_length, List.take_of_length_le (by omega)] at hall
      rw [decide_eq_true hall]
      simp (maxSteps := 2000000) only [wk0, wk1, wk2, wk3, wk4, wk5, wk6, Fr.ev, Fr.put, Fr.get, storeA, List.replicate, IntKind.bits, sevalprocAttr, c1, c2, c3, c4, g5, g0, g1, hi, YtdknnaalfoongaaGreatDoor.D49, ty2, ty3, ty4, ty22]
      exact retB_plain (by simp [nmd_bool]) rfl (by simp)
  · rw [decide_eq_false (fun h => h6 (by rw [h]))]
    simp (maxSteps := 2000000) only [wk0, wk1, wk2, wk3, wk4, wk5, wk6, Fr.ev, Fr.put, Fr.get, storeA, List.replicate, IntKind.bits, sevalprocAttr, c1, c2, c3, c4, h6, YtdknnaalfoongaaGreatDoor.D49, ty2, ty3, ty4, ty22]
    exact retB_plain (by simp [nmd_bool]) rfl (by simp)
theorem rowsOf12_ok (r c : Nat) (f : Nat → Nat → Int) (S : Heap) (hr : 1 ≤ r ∧ r ≤ 6) (hc : 1 ≤ c ∧ c ≤ 6) : Call theE 51 [mk r c f] S (mtx r c f) S := by
  have tk := take36 (gridP_len c f (r * c))
  have ck := fun S => check_ok r c f S hr hc
  have rw1 := fun i S hi => rowM_ok r c i f S hr hc hi
  simp only [mk, matA, lstI, rowF_len] at ck rw1
  refine Call.ofC Tryz.func51 YtdknnaalfoongaaGreatDoor.b51 YtdknnaalfoongaaGreatDoor.d51 YtdknnaalfoongaaGreatDoor.e51 (by simp [Tryz.f51]) ?_
  dsimp only [YtdknnaalfoongaaGreatDoor.c51, Tryz.f51, Option.getD_some]
  simp (maxSteps := 2000000) only [wk0, wk1, wk2, wk3, wk4, wk5, wk6, Fr.ev, Fr.put, Fr.get, storeA, List.replicate, IntKind.bits, sevalprocAttr, mk, matA, List.length_map, gridP_len, tk, YtdknnaalfoongaaGreatDoor.D51, ty1, ty3, ty4, ty22, ty23, ty30, ty35]
  refine callThen_of (ck _) ?_
  simp (maxSteps := 2000000) only [wk0, wk1, wk2, wk3, wk4, wk5, wk6, Fr.ev, Fr.put, Fr.get, storeA, List.replicate, IntKind.bits, sevalprocAttr, mk, matA, List.length_map, gridP_len, tk, YtdknnaalfoongaaGreatDoor.D51, ty1, ty3, ty4, ty22, ty23, ty30, ty35]
  refine loopC_ind (fun m fr H => ∃ (i cap : Nat), i + m = r ∧ fr.get 1 = .ptr S.length 0 0 ∧ fr.get 3 = .sl (S.length + 1) i 0 i cap 1 ∧ fr.get 4 = .int .i64 (i : Int) ∧
    H = S ++ [some ⟨.int .i64 r :: .int .i64 c :: (gridP c f (r * c)).map fun x => .int .i64 x, 0⟩, some ⟨rowsA i c f, i⟩]) ?_ (n := r) ⟨0, 0, by omega, rfl, rfl, rfl, rfl⟩
  rintro m fr H ⟨i, cap, him, g1, g3, g4, rfl⟩ ih
  by_cases hi : (i : Int) < r
  · have hin : i < r := by omega
    have cs := rowsA_app i c f
    have cl := rowsA_len i c f
    have a1 : (i + 1) * 24 ≤ maxBytes := by unfold maxBytes; omega
    have a2 : i + 1 ≤ 9223372036854775807 := by omega
    have wi : IntKind.i64.wrap ((i : Int) + 1) = ((i + 1 : Nat) : Int) := wrapI (by omega)
    simp (maxSteps := 2000000) only [wk0, wk1, wk2, wk3, wk4, wk5, wk6, Fr.ev, Fr.put, Fr.get, storeA, List.replicate, IntKind.bits, sevalprocAttr, g1, g3, g4, hi, List.length_map, gridP_len, tk, cs, cl, a1, a2, wi, Nat.mul_one, YtdknnaalfoongaaGreatDoor.D51, ty1, ty3, ty4, ty22, ty23, ty30, ty35]
    refine callThen_of (rw1 i _ hin) ?_
    simp (maxSteps := 2000000) only [wk0, wk1, wk2, wk3, wk4, wk5, wk6, Fr.ev, Fr.put, Fr.get, storeA, List.replicate, IntKind.bits, sevalprocAttr, g1, g3, g4, hi, List.length_map, gridP_len, tk, cs, cl, a1, a2, wi, Nat.mul_one, YtdknnaalfoongaaGreatDoor.D51, ty1, ty3, ty4, ty22, ty23, ty30, ty35]
    exact ih (m - 1) _ _ (by omega) ⟨i + 1, i + 1, by omega, by simp [Fr.get, g1], by simp [Fr.get], by simp [Fr.get], rfl⟩
  · obtain rfl : i = r := by omega
    simp (maxSteps := 2000000) only [wk0, wk1, wk2, wk3, wk4, wk5, wk6, Fr.ev, Fr.put, Fr.get, storeA, List.replicate, IntKind.bits, sevalprocAttr, g1, g3, g4, hi, YtdknnaalfoongaaGreatDoor.D51, ty1, ty3, ty4, ty22, ty23, ty30, ty35]
    exact retB_one (fin_rows (by omega) (by rw [blkAt_app, blkAt_succ, blkAt_zero])) (by simp)
/-- Rows that come as a list, or in a block that grows. -/
inductive RowsIn (S : Heap) (r c : Nat) (f : Nat → Nat → Int) : AV → Prop
  | lst : RowsIn S r c f (.lst (rowsA r c f) r)
  | sl (id ver cap : Nat) : blkAt S id ver = some ⟨rowsA r c f, ver⟩ → RowsIn S r c f (.sl id ver 0 r cap 1)
theorem sameRows12_ok (v : AV) (r c : Nat) (f : Nat → Nat → Int) (S : Heap) (hr : r ≤ 1000) (hc : c ≤ 1000) (hv : RowsIn S r c f v) : Call theE 50 [mtx r c f, v] S (.bool true) S := by
  have nu := fun i S => nums12_ok _ _ (rowF f c i) (rowF f c i) S (SlI.lst _) (SlI.lst _) (by rw [rowF_len]; unfold maxLen; omega)
  simp only [rowF_len, decide_true] at nu
  cases hv
  · refine Call.ofC Tryz.func50 YtdknnaalfoongaaGreatDoor.b50 YtdknnaalfoongaaGreatDoor.d50 YtdknnaalfoongaaGreatDoor.e50 (by simp [Tryz.f50]) ?_
    dsimp only [YtdknnaalfoongaaGreatDoor.c50, Tryz.f50, Option.getD_some]
    simp (maxSteps := 2000000) only [wk0, wk1, wk2, wk3, wk4, wk5, wk6, Fr.ev, Fr.put, Fr.get, storeA, List.replicate, IntKind.bits, sevalprocAttr, mtx, YtdknnaalfoongaaGreatDoor.D50, ty3, ty4, ty22, ty23]
    refine loopC_ind (fun m fr H => ∃ i : Nat, i + m = r ∧ fr.get 0 = .lst (rowsA r c f) r ∧ fr.get 1 = .lst (rowsA r c f) r ∧ fr.get 5 = .int .i64 (i : Int) ∧ H = S) ?_ (n := r) ⟨0, by omega, rfl, rfl, rfl, rfl⟩
    rintro m fr H ⟨i, him, g0, g1, g5, rfl⟩ ih
    by_cases hi : (i : Int) < r
    · have hin : i < r := by omega
      have k1 : (0 : Int) ≤ i := by omega
      have gl := rowsA_get (c := c) (f := f) hin
      have wi : IntKind.i64.wrap ((i : Int) + 1) = ((i + 1 : Nat) : Int) := wrapI (by omega)
      simp (maxSteps := 2000000) only [wk0, wk1, wk2, wk3, wk4, wk5, wk6, Fr.ev, Fr.put, Fr.get, storeA, List.replicate, IntKind.bits, sevalprocAttr, g0, g1, g5, hi, k1, gl, wi, Int.toNat_natCast, Nat.mul_one, YtdknnaalfoongaaGreatDoor.D50, ty3, ty4, ty22, ty23]
      refine callThen_of (nu i _) ?_
      simp (maxSteps := 2000000) only [wk0, wk1, wk2, wk3, wk4, wk5, wk6, Fr.ev, Fr.put, Fr.get, storeA, List.replicate, IntKind.bits, sevalprocAttr, g0, g1, g5, hi, k1, gl, wi, Int.toNat_natCast, Nat.mul_one, YtdknnaalfoongaaGreatDoor.D50, ty3, ty4, ty22, ty23]
      exact ih (m - 1) _ _ (by omega) ⟨i + 1, by omega, by simp [Fr.get, g0], by simp [Fr.get, g1], by simp [Fr.get], rfl⟩
    · simp (maxSteps := 2000000) only [wk0, wk1, wk2, wk3, wk4, wk5, wk6, Fr.ev, Fr.put, Fr.get, storeA, List.replicate, IntKind.bits, sevalprocAttr, g0, g1, g5, hi, YtdknnaalfoongaaGreatDoor.D50, ty3, ty4, ty22, ty23]
      exact retB_plain (by simp [nmd_bool]) rfl (by simp)
  · rename_i id ver cap hb
    have rl : (rowsA r c f).length = r := rowsA_len r c f
    refine Call.ofC Tryz.func50 YtdknnaalfoongaaGreatDoor.b50 YtdknnaalfoongaaGreatDoor.d50 YtdknnaalfoongaaGreatDoor.e50 (by simp [Tryz.f50]) ?_
    dsimp only [YtdknnaalfoongaaGreatDoor.c50, Tryz.f50, Option.getD_some]
    simp (maxSteps := 2000000) only [wk0, wk1, wk2, wk3, wk4, wk5, wk6, Fr.ev, Fr.put, Fr.get, storeA, List.replicate, IntKind.bits, sevalprocAttr, mtx, hb, YtdknnaalfoongaaGreatDoor.D50, ty3, ty4, ty22, ty23]
    refine loopC_ind (fun m fr H => ∃ i : Nat, i + m = r ∧ fr.get 0 = .lst (rowsA r c f) r ∧ fr.get 1 = .sl id ver 0 r cap 1 ∧ fr.get 5 = .int .i64 (i : Int) ∧ H = S) ?_ (n := r) ⟨0, by omega, rfl, rfl, rfl, rfl⟩
    rintro m fr H ⟨i, him, g0, g1, g5, rfl⟩ ih
    by_cases hi : (i : Int) < r
    · have hin : i < r := by omega
      have k1 : (0 : Int) ≤ i := by omega
      have gl := rowsA_get (c := c) (f := f) hin
      have wi : IntKind.i64.wrap ((i : Int) + 1) = ((i + 1 : Nat) : Int) := wrapI (by omega)
      simp (maxSteps := 2000000) only [wk0, wk1, wk2, wk3, wk4, wk5, wk6, Fr.ev, Fr.put, Fr.get, storeA, List.replicate, IntKind.bits, sevalprocAttr, g0, g1, g5, hi, hb, k1, gl, rl, wi, Int.toNat_natCast, Nat.mul_one, Nat.zero_add, Nat.add_zero, YtdknnaalfoongaaGreatDoor.D50, ty3, ty4, ty22, ty23]
      refine callThen_of (nu i _) ?_
      simp (maxSteps := 2000000) only [wk0, wk1, wk2, wk3, wk4, wk5, wk6, Fr.ev, Fr.put, Fr.get, storeA, List.replicate, IntKind.bits, sevalprocAttr, g0, g1, g5, hi, hb, k1, gl, rl, wi, Int.toNat_natCast, Nat.mul_one, Nat.zero_add, Nat.add_zero, YtdknnaalfoongaaGreatDoor.D50, ty3, ty4, ty22, ty23]
      exact ih (m - 1) _ _ (by omega) ⟨i + 1, by omega, by simp [Fr.get, g0], by simp [Fr.get, g1], by simp [Fr.get], rfl⟩
    · simp (maxSteps := 2000000) only [wk0, wk1, wk2, wk3, wk4, wk5, wk6, Fr.ev, Fr.put, Fr.get, storeA, List.replicate, IntKind.bits, sevalprocAttr, g0, g1, g5, hi, YtdknnaalfoongaaGreatDoor.D50, ty3, ty4, ty22, ty23]
      exact retB_plain (by simp [nmd_bool]) rfl (by simp)
theorem RowsIn.more {S : Heap} {r c : Nat} {f : Nat → Nat → Int} {v : AV} (h : RowsIn S r c f v) (L : Heap) : RowsIn (S ++ L) r c f v := by
  cases h
  · exact .lst
  · rename_i id ver cap hb
    exact .sl id ver cap (blk_app hb)
theorem isState12_ok (v : AV) (x : Nat → Int) (f : Nat → Nat → Int) (S : Heap) (hv : RowsIn S 6 6 f v) : Call theE 16 [stA x f, .agg [.lst ((xL x).map fun y => .int .i64 y) 6, v]] S (.bool true) S := by
  have nu : ∀ L, Call theE 49 [.sl S.length 0 0 6 6 1, .lst ((xL x).map fun y => .int .i64 y) 6] (S ++ some ⟨stC x 6 6 (gridP 6 f 36), 0⟩ :: L) (.bool true) (S ++ some ⟨stC x 6 6 (gridP 6 f 36), 0⟩ :: L) := fun L => by
    have := nums12_ok (.sl S.length 0 0 6 6 1) _ (xL x) (xL x) (S ++ some ⟨stC x 6 6 (gridP 6 f 36), 0⟩ :: L) (SlI.sl (off := 0) (cap := 6) (l := xL x) (b := ⟨stC x 6 6 (gridP 6 f 36), 0⟩) (by rw [blkAt_app0, blkAt_zero]) rfl) (SlI.lst (xL x)) (by show 6 ≤ maxLen; unfold maxLen; decide)
    rw [decide_eq_true rfl] at this
    exact this
  have ro := fun S => rowsOf12_ok 6 6 f S (by decide) (by decide)
  have sm := fun L => sameRows12_ok v 6 6 f (S ++ L) (by decide) (by decide) (hv.more L)
  simp only [mk, matA, Nat.reduceMul, castLit] at ro
  simp only [stA, stC] at nu ⊢
  generalize xL x = X at *
  cases hv
  all_goals
    refine Call.ofC Tryz.func16 YtdknnaalfoongaaGreatDoor.b16 YtdknnaalfoongaaGreatDoor.d16 YtdknnaalfoongaaGreatDoor.e16 (by simp [Tryz.f16]) ?_
    dsimp only [YtdknnaalfoongaaGreatDoor.c16, Tryz.f16, Option.getD_some]
    simp (maxSteps := 2000000) only [wk0, wk1, wk2, wk3, wk4, wk5, wk6, Fr.ev, Fr.put, Fr.get, storeA, List.replicate, IntKind.bits, sevalprocAttr, stC, sa_arr, bd_none, bd_some, bv_int, List.length_cons, List.length_map, gridP_len, List.take_succ_cons, List.drop_succ_cons, List.drop_zero, List.take_zero, take36g, all36g, YtdknnaalfoongaaGreatDoor.D16, ty1, ty4, ty22, ty23, ty25, ty27, ty30, ty32]
    refine callThen_of (nu _) ?_
    simp (maxSteps := 2000000) only [wk0, wk1, wk2, wk3, wk4, wk5, wk6, Fr.ev, Fr.put, Fr.get, storeA, List.replicate, IntKind.bits, sevalprocAttr, stC, sa_arr, bd_none, bd_some, bv_int, List.length_cons, List.length_map, gridP_len, List.take_succ_cons, List.drop_succ_cons, List.drop_zero, List.take_zero, take36g, all36g, YtdknnaalfoongaaGreatDoor.D16, ty1, ty4, ty22, ty23, ty25, ty27, ty30, ty32]
    refine callThen_of (ro _) ?_
    simp (maxSteps := 2000000) only [wk0, wk1, wk2, wk3, wk4, wk5, wk6, Fr.ev, Fr.put, Fr.get, storeA, List.replicate, IntKind.bits, sevalprocAttr, stC, sa_arr, bd_none, bd_some, bv_int, List.length_cons, List.length_map, gridP_len, List.take_succ_cons, List.drop_succ_cons, List.drop_zero, List.take_zero, take36g, all36g, YtdknnaalfoongaaGreatDoor.D16, ty1, ty4, ty22, ty23, ty25, ty27, ty30, ty32]
    refine callThen_of (sm _) ?_
    simp (maxSteps := 2000000) only [wk0, wk1, wk2, wk3, wk4, wk5, wk6, Fr.ev, Fr.put, Fr.get, storeA, List.replicate, IntKind.bits, sevalprocAttr, stC, sa_arr, bd_none, bd_some, bv_int, List.length_cons, List.length_map, gridP_len, List.take_succ_cons, List.drop_succ_cons, List.drop_zero, List.take_zero, take36g, all36g, YtdknnaalfoongaaGreatDoor.D16, ty1, ty4, ty22, ty23, ty25, ty27, ty30, ty32]
    exact retB_plain (by simp [nmd_bool]) rfl (by simp)
end Go.Proofs.YtdknnaalfoongaaGreatDoor
