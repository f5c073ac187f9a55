/- A law's helpers (package radomelaw12): rows as a matrix, whatever they are; a state. -/
import Derived.Test.YtdknnaalfoongaaGreatDoorS10
set_option linter.unusedSimpArgs false
set_option linter.unusedVariables false
set_option maxRecDepth 100000
set_option maxHeartbeats 8000000
namespace Go.Proofs.YtdknnaalfoongaaGreatDoor
noncomputable def c7 : Code := Tryz.f7.body.getD .skip
theorem b7 : Tryz.f7.body = some c7 := rfl
theorem d7 : fnOk Tryz.f7 c7 = true := by kernel_rfl
def D7 : Nat → List Tag := fun _ => []
theorem e7 : drawsOk D7 c7 = true := by kernel_rfl
/-- What the program's matrix of some rows is. -/
structure MatV (l : List (List Int)) (r c : Int) (G : List Int) : Prop where
  len : G.length = 36
  of : ∀ S, Call theE 10 [lstL l] S (matA r c G) S
  six : ∃ b, (b = true ↔ SixL l) ∧ ∀ S, Call theE 36 [matA r c G] S (.bool b) S
  yes : SixL l → r = 6 ∧ c = 6 ∧ G = gridP 6 (rowsF l) 36
theorem matOf12_mk (u : AV) (r c : Nat) (f : Nat → Nat → Int) (S : Heap) (hu : ∀ o k H, moveA o k H u = some (u, H)) (q : ∀ S, Call theE 41 [u] S (.tup [mk r c f, .nili]) S) : Call theE 10 [u] S (mk r c f) S := by
  have tk := take36g c f (r * c)
  have al := all36g (gridP c f (r * c))
  simp only [mk, matA] at q ⊢
  refine Call.ofC Tryz.func10 YtdknnaalfoongaaGreatDoor.b10 YtdknnaalfoongaaGreatDoor.d10 YtdknnaalfoongaaGreatDoor.e10 (by simp [Tryz.f10]) ?_
  dsimp only [YtdknnaalfoongaaGreatDoor.c10, Tryz.f10, Option.getD_some]
  iterate 2
    simp (maxSteps := 2000000) only [wk0, wk1, wk2, wk3, wk4, wk5, wk6, Fr.ev, Fr.put, Fr.get, storeA, List.replicate, IntKind.bits, sevalprocAttr, hu, List.length_map, gridP_len, tk, al, YtdknnaalfoongaaGreatDoor.D10, ty4, ty23, ty30, ty35]
    try first
      | refine callThen_of (q _) ?_
  exact retB_plain (by simp [nmd_agg, nmd_int]) rfl (by simp)
theorem matOf12_bad (u : AV) (S : Heap) (hu : ∀ o k H, moveA o k H u = some (u, H)) (q : ∀ S, Call theE 41 [u] S (.tup [zeroM, errA 1]) S) : Call theE 10 [u] S zeroM S := by
  simp only [zeroM, matA, errA, List.replicate, List.map_cons, List.map_nil] at q ⊢
  refine Call.ofC Tryz.func10 YtdknnaalfoongaaGreatDoor.b10 YtdknnaalfoongaaGreatDoor.d10 YtdknnaalfoongaaGreatDoor.e10 (by simp [Tryz.f10]) ?_
  dsimp only [YtdknnaalfoongaaGreatDoor.c10, Tryz.f10, Option.getD_some]
  iterate 2
    simp (maxSteps := 2000000) only [wk0, wk1, wk2, wk3, wk4, wk5, wk6, Fr.ev, Fr.put, Fr.get, storeA, List.replicate, IntKind.bits, sevalprocAttr, hu, YtdknnaalfoongaaGreatDoor.D10, ty4, ty23, ty30, ty35]
    try first
      | refine callThen_of (q _) ?_
  exact retB_plain (by simp [nmd_agg, nmd_int]) rfl (by simp)
theorem matV (l : List (List Int)) : ∃ r c G, MatV l r c G := by
  by_cases h : MayR l
  · have q := fun S => of_mat_ok l (l.getD 0 []).length S h.1 h.2.1 h.2.2
    refine ⟨l.length, (l.getD 0 []).length, gridP (l.getD 0 []).length (rowsF l) (l.length * (l.getD 0 []).length), gridP_len _ _ _, fun S => matOf12_mk (lstL l) _ _ _ S (fun _ _ _ => rfl) q, ?_, fun hs => ?_⟩
    · by_cases h6 : l.length = 6 ∧ (l.getD 0 []).length = 6
      · refine ⟨true, ⟨fun _ => ⟨h, h6.1, h6.2⟩, fun _ => rfl⟩, fun S => ?_⟩
        rw [h6.1, h6.2]; exact six_ok _ S
      · refine ⟨false, ?_, fun S => six_no1 _ _ _ S h.1 h.2.1 h6⟩
        simp only [Bool.false_eq_true, false_iff]
        exact fun hs => h6 hs.2
    · rw [hs.2.1, hs.2.2]; exact ⟨rfl, rfl, rfl⟩
  · have q := fun S => of_mat_bad l S h
    refine ⟨0, 0, List.replicate 36 0, by simp, fun S => matOf12_bad (lstL l) S (fun _ _ _ => rfl) q, ⟨false, ?_, fun S => six_no2 _ _ _ S (by simp) zeroM_bad⟩, fun hs => absurd hs.1 h⟩
    simp only [Bool.false_eq_true, false_iff]
    exact fun hs => h hs.1
theorem giveState12_ok (x : Nat → Int) (l : List (List Int)) (r c : Int) (G : List Int) (S : Heap) (hm : MatV l r c G) : Call theE 7 [.agg [lstI (xL x), lstL l]] S (.agg (stC x r c G)) S := by
  have q1 := hm.of
  have hG := hm.len
  have tk : List.take 36 (G.map fun x => AV.int .i64 x) = G.map fun x => .int .i64 x := List.take_of_length_le (by simp [hG])
  have al := all36g G
  simp only [stC, matA, lstL, lstI, xL, List.map_cons, List.map_nil, List.length_cons, List.length_nil] at q1 ⊢
  refine Call.ofC Tryz.func7 YtdknnaalfoongaaGreatDoor.b7 YtdknnaalfoongaaGreatDoor.d7 YtdknnaalfoongaaGreatDoor.e7 (by simp [Tryz.f7]) ?_
  dsimp only [YtdknnaalfoongaaGreatDoor.c7, Tryz.f7, Option.getD_some]
  iterate 2
    simp (maxSteps := 2000000) only [wk0, wk1, wk2, wk3, wk4, wk5, wk6, Fr.ev, Fr.put, Fr.get, storeA, List.replicate, IntKind.bits, sevalprocAttr, List.length_cons, List.length_map, hG, List.take_succ_cons, List.drop_succ_cons, List.drop_zero, List.take_zero, tk, al, List.getElem?_cons_succ, List.getElem?_cons_zero, castLit, YtdknnaalfoongaaGreatDoor.D7, ty1, ty2, ty3, ty4, ty22, ty23, ty25, ty27, ty30, ty32]
    try first
      | refine callThen_of (q1 _) ?_
  iterate 7
    refine loopC_of ?_
    simp (maxSteps := 2000000) only [wk0, wk1, wk2, wk3, wk4, wk5, wk6, Fr.ev, Fr.put, Fr.get, storeA, List.replicate, IntKind.bits, sevalprocAttr, List.length_cons, List.length_map, hG, List.take_succ_cons, List.drop_succ_cons, List.drop_zero, List.take_zero, tk, al, List.getElem?_cons_succ, List.getElem?_cons_zero, List.set_cons_succ, List.set_cons_zero, YtdknnaalfoongaaGreatDoor.D7, ty1, ty2, ty3, ty4, ty22, ty23, ty25, ty27, ty30, ty32]
  exact retB_plain (by simp [nmd_agg, nmd_int]) rfl (by simp)
/-- A state that is given, and whether it may be. -/
theorem check12_any (x : Nat → Int) (l : List (List Int)) (r c : Int) (G : List Int) (hm : MatV l r c G) : ∃ v, (v = .nili ∨ v = errA 1) ∧ (v = .nili ↔ SixL l ∧ OkS x (rowsF l)) ∧ ∀ S, Call theE 8 [.agg (stC x r c G)] S v S := by
  obtain ⟨b, hb, hs⟩ := hm.six
  by_cases h6 : SixL l
  · obtain ⟨rfl, rfl, rfl⟩ := hm.yes h6
    by_cases ho : OkS x (rowsF l)
    · exact ⟨.nili, .inl rfl, by simp [h6, ho], fun S => check12_ok x _ S ho⟩
    · exact ⟨errA 1, .inr rfl, by simp [h6, ho, errA], fun S => check12_bad x _ S ho⟩
  · obtain rfl : b = false := by
      cases b
      · rfl
      · exact absurd (hb.1 rfl) h6
    exact ⟨errA 1, .inr rfl, by simp [h6, errA], fun S => check12_no x r c G S hm.len hs⟩
/-- The document's word on it. -/
theorem may12_any (X : List Int) (l : List (List Int)) (h6 : X.length = 6) : ∃ b, (b = true ↔ SixL l ∧ OkS (fun i => X.getD i 0) (rowsF l)) ∧ ∀ S, Call theE 11 [.agg [lstI X, lstL l]] S (.bool b) S := by
  have e : X = xL fun i => X.getD i 0 := by
    match X, h6 with
    | [a, b, c, d, e, f], _ => rfl
  by_cases hs : SixL l
  · by_cases ho : OkS (fun i => X.getD i 0) (rowsF l)
    · refine ⟨true, ⟨fun _ => ⟨hs, ho⟩, fun _ => rfl⟩, fun S => ?_⟩
      rw [e]; exact refMay12_ok _ l S hs true (by simpa using ho)
    · refine ⟨false, ⟨fun h => absurd h (by decide), fun h => absurd h.2 ho⟩, fun S => ?_⟩
      rw [e]; exact refMay12_ok _ l S hs false (by simpa using ho)
  · exact ⟨false, by simp [hs], fun S => refMay12_bad .nili l X S fun h => hs h.2⟩
end Go.Proofs.YtdknnaalfoongaaGreatDoor
