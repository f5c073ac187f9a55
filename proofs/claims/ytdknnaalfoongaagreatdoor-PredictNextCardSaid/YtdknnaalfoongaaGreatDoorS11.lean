/- The law PredictNext. -/
import Derived.Test.YtdknnaalfoongaaGreatDoorGA12
import Derived.Test.YtdknnaalfoongaaGreatDoorS9
import Derived.Test.YtdknnaalfoongaaGreatDoorEvO
import Derived.Test.YtdknnaalfoongaaGreatDoorAs
set_option linter.unusedSimpArgs false
set_option linter.unusedVariables false
set_option maxRecDepth 100000
set_option maxHeartbeats 16000000
namespace Go.Proofs.YtdknnaalfoongaaGreatDoor
theorem stc_len (x : Nat → Int) (r c : Int) (G : List Int) (hG : G.length = 36) : (stC x r c G).length = 44 := by simp [stC, hG]
theorem stc_all (x : Nat → Int) (r c : Int) (G : List Int) : (stC x r c G).all AV.one = true := by simp [stC, AV.one]
theorem sp44 (C : List AV) (h : C.length = 44) : splice (List.replicate 44 (.int .i64 0)) 0 C = C := by
  unfold splice
  split
  · simp at h
  · simp [h]
theorem rows_inI {l : List (List Int)} (h : ∀ r ∈ l, ∀ x ∈ r, inI x) (i j : Nat) : inI (rowsF l i j) := by
  unfold rowsF
  refine inI_getD (fun x hx => ?_) j
  rcases Nat.lt_or_ge i l.length with h1 | h1
  · rw [getD_lst h1] at hx; exact h _ (List.getElem_mem h1) _ hx
  · rw [List.getD_eq_getElem?_getD, List.getElem?_eq_none h1] at hx; simp at hx
noncomputable def c3 : Code := Tryz.f3.body.getD .skip
theorem b3 : Tryz.f3.body = some c3 := rfl
theorem d3 : fnOk Tryz.f3 c3 = true := by kernel_rfl
def D3 : Nat → List Tag
  | 5 => [.quiet, .pure, .quiet, .pure, .quiet, .quiet, .pure, .pure, .pure, .pure, .fresh, .seq, .pure, .pure]
  | _ => []
theorem e3 : drawsOk D3 c3 = true := by kernel_rfl
theorem predictNext_odd (X : List Int) (p st no : AV) (S : Heap) (h : ¬ X.length = 6) (hp : p.one = true) (hp2 : ∀ o k H, moveA o k H p = some (p, H)) : Call theE 3 [.agg [lstI X, p], st, no] S (.bool true) S := by
  have su := fun S => sure12_ok S
  have q1 : ((X.length : Int) = 6) = False := eq_false (by omega)
  simp only [lstI]
  refine Call.ofC Tryz.func3 YtdknnaalfoongaaGreatDoor.b3 YtdknnaalfoongaaGreatDoor.d3 YtdknnaalfoongaaGreatDoor.e3 (by simp [Tryz.f3]) ?_
  dsimp only [YtdknnaalfoongaaGreatDoor.c3, Tryz.f3, Option.getD_some]
  simp (maxSteps := 2000000) only [wk0, wk1, wk2, wk3, wk4, wk5, wk6, Fr.ev, Fr.put, Fr.get, storeA, List.replicate, IntKind.bits, sevalprocAttr, q1, hp, YtdknnaalfoongaaGreatDoor.D3, keep3, ty3, ty4, ty22, ty23, ty25, ty30, ty32, ty35]
  refine callThen_of (su _) ?_
  simp (maxSteps := 2000000) only [wk0, wk1, wk2, wk3, wk4, wk5, wk6, Fr.ev, Fr.put, Fr.get, storeA, List.replicate, IntKind.bits, sevalprocAttr, q1, hp, YtdknnaalfoongaaGreatDoor.D3, keep3, ty3, ty4, ty22, ty23, ty25, ty30, ty32, ty35]
  exact retB_plain (by simp [nmd_bool]) rfl (by simp)
theorem predictNext_six (x : Nat → Int) (l st no : List (List Int)) (S : Heap) (hst : ∀ r ∈ st, ∀ x ∈ r, inI x) (hno : ∀ r ∈ no, ∀ x ∈ r, inI x) : Call theE 3 [.agg [lstI (xL x), lstL l], lstL st, lstL no] S (.bool true) S := by
  have su := fun S => sure12_ok S
  have n1 := fun S => num12_given 1 S
  obtain ⟨r, c, G, hm⟩ := matV l
  obtain ⟨v, hv, hvo, ck⟩ := check12_any x l r c G hm
  obtain ⟨b, hb, my⟩ := may12_any (xL x) l rfl
  obtain ⟨r1, c1, G1, hm1⟩ := matV st
  obtain ⟨r2, c2, G2, hm2⟩ := matV no
  obtain ⟨b1, hb1, s1⟩ := hm1.six
  obtain ⟨b2, hb2, s2⟩ := hm2.six
  obtain ⟨d1, hd1, t1⟩ := six12_any st S
  obtain ⟨d2, hd2, t2⟩ := six12_any no S
  obtain rfl : b1 = d1 := Bool.eq_iff_iff.2 (hb1.trans hd1.symm)
  obtain rfl : b2 = d2 := Bool.eq_iff_iff.2 (hb2.trans hd2.symm)
  have gv := fun S => giveState12_ok x l r c G S hm
  have sm := fun S => same12_any x r c G S hm.len
  have o1 := hm1.of
  have o2 := hm2.of
  have xx : (fun i => (xL x).getD i 0) = x ∨ True := .inr trivial
  have hbv : b = true ↔ v = .nili := by
    rw [hb, hvo]
    have : ∀ i, i < 6 → (xL x).getD i 0 = x i := fun i hi => by
      match i, hi with
      | 0, _ => rfl
      | 1, _ => rfl
      | 2, _ => rfl
      | 3, _ => rfl
      | 4, _ => rfl
      | 5, _ => rfl
    constructor
    · rintro ⟨h, o⟩; exact ⟨h, o.even, o.top, o.diag, fun i hi => this i hi ▸ o.x i hi⟩
    · rintro ⟨h, o⟩; exact ⟨h, o.even, o.top, o.diag, fun i hi => (this i hi).symm ▸ o.x i hi⟩
  by_cases hbad : v = .nili ∧ b1 = true ∧ b2 = true
  · obtain ⟨rfl, rfl, rfl⟩ := hbad
    obtain rfl : b = true := hbv.2 rfl
    have hl := hvo.1 rfl
    obtain ⟨rfl, rfl, rfl⟩ := hm.yes hl.1
    obtain ⟨rfl, rfl, rfl⟩ := hm1.yes (hb1.1 rfl)
    obtain ⟨rfl, rfl, rfl⟩ := hm2.yes (hb2.1 rfl)
    have hs : ∀ i j, i < 6 → j < 6 → inI (rowsF st i j) := fun i j _ _ => rows_inI hst i j
    have hn : ∀ i j, i < 6 → j < 6 → inI (rowsF no i j) := fun i j _ _ => rows_inI hno i j
    have nx := fun S => next12_ok x (rowsF l) (rowsF st) (rowsF no) S hl.2 hs hn
    have rf := fun S => refNext12_ok x (rowsF l) (rowsF st) (rowsF no) S hl.2 hs hn
    have is := fun S => isState12_ok _ (nxX x (rowsF st)) (sprF (rowsF l) (rowsF st) (rowsF no)) S .lst
    rw [show appL (rowsF st) 6 (xL x) 6 = xL (nxX x (rowsF st)) from rfl] at rf
    rw [← hl.1.mtx, ← (hb1.1 rfl).mtx, ← (hb2.1 rfl).mtx] at rf
    have sl := stc_len x 6 6 (gridP 6 (rowsF l) 36) hm.len
    have sa := stc_all x 6 6 (gridP 6 (rowsF l) 36)
    have stt : List.take 44 (stC x 6 6 (gridP 6 (rowsF l) 36)) = stC x 6 6 (gridP 6 (rowsF l) 36) := List.take_of_length_le (by omega)
    have sp := sp44 _ sl
    have sl' := stc_len (nxX x (rowsF st)) 6 6 (gridP 6 (sprF (rowsF l) (rowsF st) (rowsF no)) 36) (gridP_len _ _ _)
    have sa' := stc_all (nxX x (rowsF st)) 6 6 (gridP 6 (sprF (rowsF l) (rowsF st) (rowsF no)) 36)
    have stt' : List.take 44 (stC (nxX x (rowsF st)) 6 6 (gridP 6 (sprF (rowsF l) (rowsF st) (rowsF no)) 36)) = stC (nxX x (rowsF st)) 6 6 (gridP 6 (sprF (rowsF l) (rowsF st) (rowsF no)) 36) := List.take_of_length_le (by omega)
    have sp' := sp44 _ sl'
    simp only [stA, mk, mtx, Nat.reduceMul, castLit] at nx rf is
    generalize stC (nxX x (rowsF st)) 6 6 (gridP 6 (sprF (rowsF l) (rowsF st) (rowsF no)) 36) = C2 at *
    generalize stC x 6 6 (gridP 6 (rowsF l) 36) = C at *
    generalize nxO x (rowsF l) (rowsF st) (rowsF no) = o at *
    simp only [List.replicate] at sp sp'
    have lx : (xL x).length = 6 := rfl
    have lx' : (xL (nxX x (rowsF st))).length = 6 := rfl
    simp only [lstL, lstI, lx, lx'] at gv my rf ⊢
    simp only [lstL, matA] at nx o1 o2 t1 t2
    generalize (xL (nxX x (rowsF st))).map (fun x => AV.int .i64 x) = X2 at *
    refine Call.ofC Tryz.func3 YtdknnaalfoongaaGreatDoor.b3 YtdknnaalfoongaaGreatDoor.d3 YtdknnaalfoongaaGreatDoor.e3 (by simp [Tryz.f3]) ?_
    dsimp only [YtdknnaalfoongaaGreatDoor.c3, Tryz.f3, Option.getD_some]
    simp (maxSteps := 2000000) only [wk0, wk1, wk2, wk3, wk4, wk5, wk6, Fr.ev, Fr.put, Fr.get, storeA, List.replicate, IntKind.bits, sevalprocAttr, castLit, sl, sa, stt, sp, sl', sa', stt', sp', YtdknnaalfoongaaGreatDoor.D3, keep3, ty3, ty4, ty22, ty23, ty25, ty30, ty32, ty35]
    repeat
      first
      | refine callThen_of (gv _) ?_
      | refine callThen_of (ck _) ?_
      | refine callThen_of (o1 _) ?_
      | refine callThen_of (o2 _) ?_
      | refine callThen_of (nx _) ?_
      | refine callThen_of (my _) ?_
      | refine callThen_of (n1 _) ?_
      | refine callThen_of (sm _) ?_
      | refine callThen_of (su _) ?_
      | refine callThen_of (t1 _) ?_
      | refine callThen_of (t2 _) ?_
      | refine callThen_of (rf _) ?_
      | refine callThen_of (is _) ?_
      simp (maxSteps := 2000000) only [wk0, wk1, wk2, wk3, wk4, wk5, wk6, Fr.ev, Fr.put, Fr.get, storeA, List.replicate, IntKind.bits, sevalprocAttr, castLit, sl, sa, stt, sp, sl', sa', stt', sp', YtdknnaalfoongaaGreatDoor.D3, keep3, ty3, ty4, ty22, ty23, ty25, ty30, ty32, ty35]
    exact retB_plain (by simp [nmd_bool]) rfl (by simp)
  · have nx := fun S => next12_bad x r c r1 c1 r2 c2 G G1 G2 v b1 b2 S hm.len hm1.len hm2.len hv ck s1 s2 hbad
    unfold zeroS at nx
    have zl : (List.replicate 44 (AV.int .i64 0)).length = 44 := rfl
    have za : (List.replicate 44 (AV.int .i64 0)).all AV.one = true := rfl
    have zz : allInts (List.replicate 44 (AV.int .i64 0)) (List.replicate 44 (AV.int .i64 0)) = some true := allInts_self (List.replicate 44 0)
    have sl := stc_len x r c G hm.len
    have sa := stc_all x r c G
    have stt : List.take 44 (stC x r c G) = stC x r c G := List.take_of_length_le (by omega)
    have sp := sp44 _ sl
    have zp := sp44 _ zl
    have zt : List.take 44 (List.replicate 44 (AV.int .i64 0)) = List.replicate 44 (AV.int .i64 0) := rfl
    generalize stC x r c G = C at *
    have ez : ∀ Z : List AV, Z = List.replicate 44 (AV.int .i64 0) → [AV.int .i64 0, .int .i64 0, .int .i64 0, .int .i64 0, .int .i64 0, .int .i64 0, .int .i64 0, .int .i64 0, .int .i64 0, .int .i64 0, .int .i64 0, .int .i64 0, .int .i64 0, .int .i64 0, .int .i64 0, .int .i64 0, .int .i64 0, .int .i64 0, .int .i64 0, .int .i64 0, .int .i64 0, .int .i64 0, .int .i64 0, .int .i64 0, .int .i64 0, .int .i64 0, .int .i64 0, .int .i64 0, .int .i64 0, .int .i64 0, .int .i64 0, .int .i64 0, .int .i64 0, .int .i64 0, .int .i64 0, .int .i64 0, .int .i64 0, .int .i64 0, .int .i64 0, .int .i64 0, .int .i64 0, .int .i64 0, .int .i64 0, .int .i64 0] = Z := fun Z h => h ▸ rfl
    obtain ⟨Z, hZ⟩ : ∃ Z, Z = List.replicate 44 (AV.int .i64 0) := ⟨_, rfl⟩
    have ez := ez Z hZ
    simp only [List.replicate] at sp zp
    rw [ez] at sp zp
    rw [← hZ] at nx zl za zz zt
    have lx : (xL x).length = 6 := rfl
    simp only [lstL, lstI, lx] at gv my ⊢
    simp only [lstL, matA, errA] at nx o1 o2 ck hv t1 t2 hbv
    rcases hv with rfl | rfl
    · obtain rfl : b = true := hbv.2 rfl
      simp only [Bool.not_true, true_and] at hbad
      cases b1
      · refine Call.ofC Tryz.func3 YtdknnaalfoongaaGreatDoor.b3 YtdknnaalfoongaaGreatDoor.d3 YtdknnaalfoongaaGreatDoor.e3 (by simp [Tryz.f3]) ?_
        dsimp only [YtdknnaalfoongaaGreatDoor.c3, Tryz.f3, Option.getD_some]
        simp (maxSteps := 2000000) only [wk0, wk1, wk2, wk3, wk4, wk5, wk6, Fr.ev, Fr.put, Fr.get, storeA, List.replicate, IntKind.bits, sevalprocAttr, castLit, sl, sa, stt, sp, zl, za, zz, zt, zp, ez, YtdknnaalfoongaaGreatDoor.D3, keep3, ty3, ty4, ty22, ty23, ty25, ty30, ty32, ty35]
        repeat
          first
          | refine callThen_of (gv _) ?_
          | refine callThen_of (ck _) ?_
          | refine callThen_of (o1 _) ?_
          | refine callThen_of (o2 _) ?_
          | refine callThen_of (nx _) ?_
          | refine callThen_of (my _) ?_
          | refine callThen_of (n1 _) ?_
          | refine callThen_of (sm _) ?_
          | refine callThen_of (su _) ?_
          | refine callThen_of (t1 _) ?_
          simp (maxSteps := 2000000) only [wk0, wk1, wk2, wk3, wk4, wk5, wk6, Fr.ev, Fr.put, Fr.get, storeA, List.replicate, IntKind.bits, sevalprocAttr, castLit, sl, sa, stt, sp, zl, za, zz, zt, zp, ez, YtdknnaalfoongaaGreatDoor.D3, keep3, ty3, ty4, ty22, ty23, ty25, ty30, ty32, ty35]
        exact retB_plain (by simp [nmd_bool]) rfl (by simp)
      · obtain rfl : b2 = false := by
          cases b2
          · rfl
          · exact absurd ⟨rfl, rfl⟩ hbad
        refine Call.ofC Tryz.func3 YtdknnaalfoongaaGreatDoor.b3 YtdknnaalfoongaaGreatDoor.d3 YtdknnaalfoongaaGreatDoor.e3 (by simp [Tryz.f3]) ?_
        dsimp only [YtdknnaalfoongaaGreatDoor.c3, Tryz.f3, Option.getD_some]
        simp (maxSteps := 2000000) only [wk0, wk1, wk2, wk3, wk4, wk5, wk6, Fr.ev, Fr.put, Fr.get, storeA, List.replicate, IntKind.bits, sevalprocAttr, castLit, sl, sa, stt, sp, zl, za, zz, zt, zp, ez, YtdknnaalfoongaaGreatDoor.D3, keep3, ty3, ty4, ty22, ty23, ty25, ty30, ty32, ty35]
        repeat
          first
          | refine callThen_of (gv _) ?_
          | refine callThen_of (ck _) ?_
          | refine callThen_of (o1 _) ?_
          | refine callThen_of (o2 _) ?_
          | refine callThen_of (nx _) ?_
          | refine callThen_of (my _) ?_
          | refine callThen_of (n1 _) ?_
          | refine callThen_of (sm _) ?_
          | refine callThen_of (su _) ?_
          | refine callThen_of (t1 _) ?_
          | refine callThen_of (t2 _) ?_
          simp (maxSteps := 2000000) only [wk0, wk1, wk2, wk3, wk4, wk5, wk6, Fr.ev, Fr.put, Fr.get, storeA, List.replicate, IntKind.bits, sevalprocAttr, castLit, sl, sa, stt, sp, zl, za, zz, zt, zp, ez, YtdknnaalfoongaaGreatDoor.D3, keep3, ty3, ty4, ty22, ty23, ty25, ty30, ty32, ty35]
        exact retB_plain (by simp [nmd_bool]) rfl (by simp)
    · obtain rfl : b = false := by
        cases b
        · rfl
        · exact absurd (hbv.1 rfl) (by simp)
      refine Call.ofC Tryz.func3 YtdknnaalfoongaaGreatDoor.b3 YtdknnaalfoongaaGreatDoor.d3 YtdknnaalfoongaaGreatDoor.e3 (by simp [Tryz.f3]) ?_
      dsimp only [YtdknnaalfoongaaGreatDoor.c3, Tryz.f3, Option.getD_some]
      simp (maxSteps := 2000000) only [wk0, wk1, wk2, wk3, wk4, wk5, wk6, Fr.ev, Fr.put, Fr.get, storeA, List.replicate, IntKind.bits, sevalprocAttr, castLit, sl, sa, stt, sp, zl, za, zz, zt, zp, ez, YtdknnaalfoongaaGreatDoor.D3, keep3, ty3, ty4, ty22, ty23, ty25, ty30, ty32, ty35]
      repeat
        first
        | refine callThen_of (gv _) ?_
        | refine callThen_of (ck _) ?_
        | refine callThen_of (o1 _) ?_
        | refine callThen_of (o2 _) ?_
        | refine callThen_of (nx _) ?_
        | refine callThen_of (my _) ?_
        | refine callThen_of (n1 _) ?_
        | refine callThen_of (sm _) ?_
        | refine callThen_of (su _) ?_
        simp (maxSteps := 2000000) only [wk0, wk1, wk2, wk3, wk4, wk5, wk6, Fr.ev, Fr.put, Fr.get, storeA, List.replicate, IntKind.bits, sevalprocAttr, castLit, sl, sa, stt, sp, zl, za, zz, zt, zp, ez, YtdknnaalfoongaaGreatDoor.D3, keep3, ty3, ty4, ty22, ty23, ty25, ty30, ty32, ty35]
      exact retB_plain (by simp [nmd_bool]) rfl (by simp)
theorem predictNextLaw_ok (x : List AV) (st no : List (List Int)) (S : Heap) (dat : DatL [.slice [.int .i64], .slice [.slice [.int .i64]]] x) (hst : ∀ r ∈ st, ∀ y ∈ r, inI y) (hno : ∀ r ∈ no, ∀ y ∈ r, inI y) :
    Call theE 3 [.agg x, lstL st, lstL no] S (.bool true) S := by
  obtain ⟨a0, r0, rfl, h0, dat⟩ := dat.inv
  obtain ⟨a1, r1, rfl, h1, dat⟩ := dat.inv
  obtain rfl := dat.inv0
  obtain ⟨X, rfl, -, -⟩ := h0.ints
  obtain ⟨l, rfl, -, -⟩ := h1.intRows
  by_cases h6 : X.length = 6
  · match X, h6 with
    | [a, b, c, d, e, f], _ =>
      exact predictNext_six (fun i => [a, b, c, d, e, f].getD i 0) l st no S hst hno
  · exact predictNext_odd X _ _ _ S h6 rfl (fun _ _ _ => rfl)
end Go.Proofs.YtdknnaalfoongaaGreatDoor
