/- The law LdlMakes. -/
import Derived.Test.YtoncolpkpgbfiaaDoorF12
import Derived.Test.YtoncolpkpgbfiaaDoorF13
import Derived.Test.YtoncolpkpgbfiaaDoorL7
import Derived.Test.YtoncolpkpgbfiaaDoorAs
set_option linter.unusedSimpArgs false
set_option linter.unusedVariables false
set_option maxRecDepth 100000
set_option maxHeartbeats 16000000
namespace Go.Proofs.YtoncolpkpgbfiaaDoor
theorem nums09s_ok (u v : AV) (l r : List Int) (S : Heap) (hu : SlI S u l) (hv : SlI S v r) (hl : l.length ≤ maxLen) : Call theE 20 [u, v] S (.bool (decide (l = r))) S := by
  have hml : maxLen ≤ 9223372036854775807 := by decide
  have c1 := hu.mv
  have c2 := hv.mv
  have c3 := hu.ln
  have c4 := hv.ln
  refine Call.ofC Tryd.func20 YtoncolpkpgbfiaaDoor.b20 YtoncolpkpgbfiaaDoor.d20 YtoncolpkpgbfiaaDoor.e20 (by simp [Tryd.f20]) ?_
  dsimp only [YtoncolpkpgbfiaaDoor.c20, Tryd.f20, Option.getD_some]
  by_cases h6 : (l.length : Int) = r.length
  · simp (maxSteps := 2000000) only [wk0, wk1, wk2, wk3, wk4, wk5, wk6, Fr.ev, Fr.put, Fr.get, storeA, List.replicate, IntKind.bits, sevalprocAttr, c1, c2, c3, c4, h6, YtoncolpkpgbfiaaDoor.D20, ty2, ty3, ty4, ty42]
    refine loopC_ind (fun m fr H => ∃ i : Nat, i + m = l.length ∧ l.take i = r.take i ∧ fr.get 5 = .int .i64 i ∧ fr.get 0 = u ∧ fr.get 1 = v ∧ ∃ L, H = S ++ L) ?_ (n := l.length) ⟨0, by omega, by simp, rfl, rfl, rfl, [], by simp⟩
    rintro m fr H ⟨i, him, hall, g5, g0, g1, L, rfl⟩ ih
    by_cases hi : (i : Int) < l.length
    · have hin : i < l.length := by omega
      have hir : i < r.length := by omega
      have hi' : (i : Int) < r.length := by omega
      have ia1 := fun a c z x => hu.ia a c z x (i : Int) (by omega) (by omega)
      have ia2 := fun a c z x => hv.ia a c z x (i : Int) (by omega) (by omega)
      simp only [Int.toNat_natCast] at ia1 ia2
      have mp1 := fun k H => hu.mp k H i hin
      have mp2 := fun k H => hv.mp k H i hir
      have ld1 : ∀ s z k L, loadA ⟨false, s, z, k⟩ (S ++ L) (adrI u i) = some (.int .i64 (l[i])) := fun s z k L => by rw [hu.ld i hin]; rfl
      have ld2 : ∀ s z k L, loadA ⟨false, s, z, k⟩ (S ++ L) (adrI v i) = some (.int .i64 (r[i])) := fun s z k L => by rw [hv.ld i hir]; rfl
      have wi : IntKind.i64.wrap ((i : Int) + 1) = ((i + 1 : Nat) : Int) := wrapI (by omega)
      by_cases hr : l[i] = r[i]
      · simp (maxSteps := 2000000) only [wk0, wk1, wk2, wk3, wk4, wk5, wk6, Fr.ev, Fr.put, Fr.get, storeA, List.replicate, IntKind.bits, sevalprocAttr, c1, c2, c3, c4, g5, g0, g1, hi, hi', ia1, ia2, mp1, mp2, ld1, ld2, hr, wi, YtoncolpkpgbfiaaDoor.D20, ty2, ty3, ty4, ty42]
        refine ih (m - 1) _ _ (by omega) ⟨i + 1, by omega, ?_, by simp [Fr.get], by simp [Fr.get, g0], by simp [Fr.get, g1], _, rfl⟩
        rw [List.take_succ_eq_append_getElem hin, List.take_succ_eq_append_getElem hir, hall, hr]
      · rw [decide_eq_false (fun h => hr (by simp [h]))]
        simp (maxSteps := 2000000) only [wk0, wk1, wk2, wk3, wk4, wk5, wk6, Fr.ev, Fr.put, Fr.get, storeA, List.replicate, IntKind.bits, sevalprocAttr, c1, c2, c3, c4, g5, g0, g1, hi, hi', ia1, ia2, mp1, mp2, ld1, ld2, hr, wi, YtoncolpkpgbfiaaDoor.D20, ty2, ty3, ty4, ty42]
        exact retB_plain (by simp [nmd_bool]) rfl (by simp)
    · obtain rfl : i = l.length := by omega
      rw [List.take_length, List.take_of_length_le (by omega)] at hall
      rw [decide_eq_true hall]
      simp (maxSteps := 2000000) only [wk0, wk1, wk2, wk3, wk4, wk5, wk6, Fr.ev, Fr.put, Fr.get, storeA, List.replicate, IntKind.bits, sevalprocAttr, c1, c2, c3, c4, g5, g0, g1, hi, YtoncolpkpgbfiaaDoor.D20, ty2, ty3, ty4, ty42]
      exact retB_plain (by simp [nmd_bool]) rfl (by simp)
  · rw [decide_eq_false (fun h => h6 (by rw [h]))]
    simp (maxSteps := 2000000) only [wk0, wk1, wk2, wk3, wk4, wk5, wk6, Fr.ev, Fr.put, Fr.get, storeA, List.replicate, IntKind.bits, sevalprocAttr, c1, c2, c3, c4, h6, YtoncolpkpgbfiaaDoor.D20, ty2, ty3, ty4, ty42]
    exact retB_plain (by simp [nmd_bool]) rfl (by simp)

theorem zer_map : ∀ n : Nat, zeros [AV.int .i64 0] n = (List.replicate n 0).map fun x => .int .i64 x
  | 0 => rfl
  | n + 1 => by have ih := zer_map n; unfold zeros at *; rw [List.replicate_succ, List.flatten_cons, ih]; rfl
theorem mkzF (N e n : Nat) (hn : n ≤ 6) : freshMk N (.slice e 1 8 [.int .i64 0]) (.int .i64 n) (.int .i64 n) = some (.sl N 0 0 n n 1, ⟨(List.replicate n 0).map fun x => .int .i64 x, 0⟩) := by
  unfold freshMk
  simp only
  rw [if_pos ⟨by omega, by omega, by unfold maxBytes; simp; omega, by omega, rfl⟩, zer_map]
  simp
theorem mkz (H : Heap) (e n : Nat) (hn : n ≤ 6) : makeSliceA H (.slice e 1 8 [.int .i64 0]) (.int .i64 n) (.int .i64 n) = some (.sl H.length 0 0 n n 1, H ++ [some ⟨(List.replicate n 0).map fun x => .int .i64 x, 0⟩]) := by
  rw [makeSlice_fresh, mkzF _ _ _ hn]
  rfl
/-- The vector's own numbers, up to one. -/
def owL (l : List Int) (n k : Nat) : List Int := (List.range n).map fun t => if t < k then (l.getD t 0).tmod 1099511627776 else 0
theorem owL_len (l : List Int) (n k : Nat) : (owL l n k).length = n := by simp [owL]
theorem owL_zero (l : List Int) (n : Nat) : owL l n 0 = List.replicate n 0 := by
  apply List.ext_getElem (by simp [owL])
  intro i h1 h2
  simp [owL]
theorem owL_set {l : List Int} {n k : Nat} (hk : k < n) : (owL l n k).set k ((l.getD k 0).tmod 1099511627776) = owL l n (k + 1) := by
  apply List.ext_getElem (by simp [owL])
  intro i h1 h2
  simp only [owL, List.getElem_set, List.getElem_map, List.getElem_range]
  by_cases e : k = i
  · subst e; rw [if_pos rfl, if_pos (by omega)]
  · rw [if_neg e]
    by_cases h : i < k
    · rw [if_pos h, if_pos (by omega)]
    · rw [if_neg h, if_neg (by omega)]
theorem owL_in (l : List Int) (n k : Nat) : ∀ x ∈ owL l n k, -1099511627776 < x ∧ x < 1099511627776 := by
  intro x hx
  obtain ⟨t, _, rfl⟩ := List.mem_map.1 hx
  split
  · exact tm40 _
  · omega
def ngL (l : List Int) (n k : Nat) : List Int := (owL l n k).map fun x => -x
theorem ngL_set {l : List Int} {n k : Nat} (hk : k < n) : (ngL l n k).set k (-(l.getD k 0).tmod 1099511627776) = ngL l n (k + 1) := by
  unfold ngL
  rw [← owL_set hk, List.map_set]
theorem ngL_zero (l : List Int) (n : Nat) : ngL l n 0 = List.replicate n 0 := by unfold ngL; rw [owL_zero]; simp
theorem setA (L : List Int) (k : Nat) (v : Int) : (L.map fun x => AV.int .i64 x).set k (.int .i64 v) = (L.set k v).map fun x => .int .i64 x := by rw [List.map_set]
theorem owL_at {l : List Int} {n k : Nat} (hk : k < n) : ((owL l n (k + 1)).map fun x => AV.int .i64 x)[k]? = some (.int .i64 ((l.getD k 0).tmod 1099511627776)) := by
  simp [owL, hk]
noncomputable def c5 : Code := Tryd.f5.body.getD .skip
theorem b5 : Tryd.f5.body = some c5 := rfl
theorem d5 : fnOk Tryd.f5 c5 = true := by kernel_rfl
def D5 : Nat → List Tag
  | 7 => [.pure, .pure, .twin, .pure, .pure, .twin, .pure, .pure]
  | _ => []
theorem e5 : drawsOk D5 c5 = true := by kernel_rfl
theorem ldlMakesBad_ok (m m2 U : AV) (k more : Int) (l : List Int) (S : Heap) (hk : k = 1 ∨ k = 8) (mm : ∀ o k H, moveA o k H m = some (m, H)) (mm2 : ∀ o k H, moveA o k H m2 = some (m2, H)) (ev : ∀ S, Call theE 11 [m, .int .i64 more] S m2 S) (mo : ∀ S, Call theE 13 [m2] S U S) (of : ∀ S, Call theE 12 [U] S (.tup [.agg (List.replicate 43 (.int .i64 0)), errA k]) S) :
    Call theE 5 [m, .int .i64 more, lstI l] S (.bool true) S := by
  have su := fun S => sure09_ok S
  have n1 := fun S => num14_given k S
  have spz := sp43 (List.replicate 43 (.int .i64 0)) rfl
  simp only [List.replicate, errA] at spz of
  simp only [lstI]
  rcases hk with rfl | rfl
  · refine Call.ofC Tryd.func5 YtoncolpkpgbfiaaDoor.b5 YtoncolpkpgbfiaaDoor.d5 YtoncolpkpgbfiaaDoor.e5 (by simp [Tryd.f5]) ?_
    dsimp only [YtoncolpkpgbfiaaDoor.c5, Tryd.f5, Option.getD_some]
    iterate 6
      simp (maxSteps := 2000000) only [wk0, wk1, wk2, wk3, wk4, wk5, wk6, Fr.ev, Fr.put, Fr.get, storeA, List.replicate, IntKind.bits, sevalprocAttr, mm, mm2, spz, castLit, YtoncolpkpgbfiaaDoor.D5, keep5, ty2, ty3, ty4, ty30, ty41, ty42, ty47, ty51, ty55]
      try first
        | refine callThen_of (ev _) ?_
        | refine callThen_of (mo _) ?_
        | refine callThen_of (of _) ?_
        | refine callThen_of (n1 _) ?_
        | refine callThen_of (su _) ?_
    exact retB_plain (by simp [nmd_bool]) rfl (by simp)
  · refine Call.ofC Tryd.func5 YtoncolpkpgbfiaaDoor.b5 YtoncolpkpgbfiaaDoor.d5 YtoncolpkpgbfiaaDoor.e5 (by simp [Tryd.f5]) ?_
    dsimp only [YtoncolpkpgbfiaaDoor.c5, Tryd.f5, Option.getD_some]
    iterate 7
      simp (maxSteps := 2000000) only [wk0, wk1, wk2, wk3, wk4, wk5, wk6, Fr.ev, Fr.put, Fr.get, storeA, List.replicate, IntKind.bits, sevalprocAttr, mm, mm2, spz, castLit, YtoncolpkpgbfiaaDoor.D5, keep5, ty2, ty3, ty4, ty30, ty41, ty42, ty47, ty51, ty55]
      try first
        | refine callThen_of (ev _) ?_
        | refine callThen_of (mo _) ?_
        | refine callThen_of (of _) ?_
        | refine callThen_of (n1 _) ?_
        | refine callThen_of (su _) ?_
    exact retB_plain (by simp [nmd_bool]) rfl (by simp)
theorem ldlMakesGood_ok (n : Nat) (M : Nat → Nat → Int) (more : Int) (l : List Int) (S : Heap) (hn : 1 ≤ n ∧ n ≤ 6) (hmore : inI more) (hlin : ∀ x ∈ l, inI x) :
    Call theE 5 [mtx n n M, .int .i64 more, lstI l] S (.bool true) S := by
  have ev := fun S => evenRows_ok n M more S hn hmore (fun S => may_mtx hn M S)
  have hE := evV_even n M more
  have hI : ∀ i j, i < n → j < n → inI (evV M more i j) := fun i j _ _ => evV_in M more i j
  have mo := fun S => matOf9_ok (mtx n n (evV M more)) n n (evV M more) S (fun _ _ _ => rfl) (of_mtx hn (evV M more))
  cases hG : ofAll n (evV M more) n with
  | none =>
    have of := fun S => ldlOf_ok n (evV M more) S hn hI hE _ (.inr ⟨hG, rfl⟩)
    exact ldlMakesBad_ok _ _ _ 8 more l S (.inr rfl) (fun _ _ _ => rfl) (fun _ _ _ => rfl) ev mo of
  | some G =>
    have of := fun S => ldlOf_ok n (evV M more) S hn hI hE _ (.inl ⟨G, hG, rfl⟩)
    have su := fun S => sure09_ok S
    have pf := ofAll_PF hn.2 (evV M more) n (Nat.le_refl _) G hG
    have ff := pf.fine hn
    have hG2 := pf.s.len
    have hin := pf.s.ins
    have hd : ∀ k, k < n → 0 < G.getD (36 + k) 0 := fun k hk => by have := pf.s.pos k hk; omega
    have fa := fun S => factorsOf_ok n G S hn hG2 ff
    have gl := show (ldB n G).length = 43 by rw [ldB_len, hG2]
    have g0 : (ldB n G)[0]? = some (.int .i64 n) := rfl
    have tl := show List.take 43 (ldB n G) = ldB n G from List.take_of_length_le (by omega)
    have al := ldB_all n G
    have sp := sp43 (ldB n G) gl
    have gdl := gD_len G n
    have nn := eq_true (show (n : Int) = n from rfl)
    have pl := (plF_all (evV M more) hn.2 n (Nat.le_refl _) G hG).2
    have mk1 := fun S => refMakes_ok n G (evV M more) S hn hin hI (fun i j hj hi => makes_near (pl i j hj hi) hj (hd j (by omega)) ((pl j j (Nat.le_refl _) (by omega)).dia rfl).1)
    have mz := fun H e => mkz H e n hn.2
    have mzF := fun N e => mkzF N e n hn.2
    simp only [List.replicate] at sp
    simp only [mtx, lstI, gdl] at ev mo fa mk1 ⊢
    refine Call.ofC Tryd.func5 YtoncolpkpgbfiaaDoor.b5 YtoncolpkpgbfiaaDoor.d5 YtoncolpkpgbfiaaDoor.e5 (by simp [Tryd.f5]) ?_
    dsimp only [YtoncolpkpgbfiaaDoor.c5, Tryd.f5, Option.getD_some]
    iterate 6
      simp (maxSteps := 2000000) only [wk0, wk1, wk2, wk3, wk4, wk5, wk6, Fr.ev, Fr.put, Fr.get, storeA, List.replicate, IntKind.bits, sevalprocAttr, sp, gl, g0, tl, al, nn, mz, mzF, YtoncolpkpgbfiaaDoor.D5, keep5, ty2, ty3, ty4, ty30, ty41, ty42, ty47, ty51, ty55]
      try first
        | refine callThen_of (ev _) ?_
        | refine callThen_of (mo _) ?_
        | refine callThen_of (of _) ?_
        | refine callThen_of (fa _) ?_
        | refine callThen_of (mk1 _) ?_
    have tmb := fun k => tm40 (l.getD k 0)
    have e40 : ¬ (1099511627776 : Int) = 0 := by decide
    refine ⟨?_, ?_⟩
    · refine loopC_split 0 (fun fr H => ∃ k : Nat, (fr.get 7 = .lst (rowsA n n (evV M more)) n ∧ fr.get 8 = .ptr S.length 0 0 ∧ fr.get 10 = .sl (S.length + 1) 0 0 n n 1 ∧ fr.get 11 = .sl (S.length + 2) 0 0 n n 1 ∧ fr.get 12 = .sl (S.length + 3) 0 0 n n 1) ∧
        H = S ++ [some ⟨ldB n G, 0⟩, some ⟨(List.replicate n 0).map fun x => .int .i64 x, 0⟩, some ⟨(ngL l n k).map fun x => .int .i64 x, 0⟩, some ⟨(owL l n k).map fun x => .int .i64 x, 0⟩]) (fun K' hK' => ?_) ?_
      · refine loopC_ind (fun m fr H => ∃ k : Nat, k + m = n ∧ (fr.get 2 = .lst (l.map fun x => .int .i64 x) l.length ∧ fr.get 7 = .lst (rowsA n n (evV M more)) n ∧ fr.get 8 = .ptr S.length 0 0 ∧ fr.get 10 = .sl (S.length + 1) 0 0 n n 1 ∧ fr.get 11 = .sl (S.length + 2) 0 0 n n 1 ∧ fr.get 12 = .sl (S.length + 3) 0 0 n n 1) ∧ fr.get 13 = .int .i64 (k : Int) ∧
          H = S ++ [some ⟨ldB n G, 0⟩, some ⟨(List.replicate n 0).map fun x => .int .i64 x, 0⟩, some ⟨(ngL l n k).map fun x => .int .i64 x, 0⟩, some ⟨(owL l n k).map fun x => .int .i64 x, 0⟩]) ?_ (n := n) ⟨0, by omega, ⟨rfl, rfl, rfl, rfl, rfl, rfl⟩, rfl, by rw [ngL_zero, owL_zero]⟩
        rintro m fr H ⟨k, hkm, ⟨g2, g7, g8, g10, g11, g12⟩, g13, rfl⟩ ih
        by_cases hk : (k : Int) < n
        · by_cases hkl : (k : Int) < l.length
          · have hkn : k < n := by omega
            have hkl2 : k < l.length := by omega
            have k0 : (0 : Int) ≤ k := by omega
            have k1 : k + 1 ≤ n := by omega
            have wk : IntKind.i64.wrap ((k : Int) + 1) = ((k + 1 : Nat) : Int) := wrapI (by omega)
            have ga : (l.map fun x => AV.int .i64 x)[k]? = some (.int .i64 (l.getD k 0)) := by rw [List.getElem?_map, List.getElem?_eq_getElem hkl2, List.getD_eq_getElem?_getD, List.getElem?_eq_getElem hkl2]; rfl
            have oa := owL_at (l := l) hkn
            have os : ((owL l n k).map fun x => AV.int .i64 x).set k (.int .i64 ((l.getD k 0).tmod 1099511627776)) = (owL l n (k + 1)).map fun x => .int .i64 x := by rw [setA, owL_set hkn]
            have ns : ((ngL l n k).map fun x => AV.int .i64 x).set k (.int .i64 (-(l.getD k 0).tmod 1099511627776)) = (ngL l n (k + 1)).map fun x => .int .i64 x := by rw [setA, ngL_set hkn]
            have ol := owL_len l n k
            have ol2 := owL_len l n (k + 1)
            have nl : (ngL l n k).length = n := by simp [ngL, owL_len]
            have tb := tmb k
            have wn : IntKind.i64.wrap (0 - (l.getD k 0).tmod 1099511627776) = -(l.getD k 0).tmod 1099511627776 := by rw [Int.zero_sub]; exact wrapI (by omega)
            simp (maxSteps := 2000000) only [wk0, wk1, wk2, wk3, wk4, wk5, wk6, Fr.ev, Fr.put, Fr.get, storeA, List.replicate, IntKind.bits, sevalprocAttr, g2, g7, g8, g10, g11, g12, g13, hk, hkl, k0, k1, wk, ga, oa, os, ns, ol, ol2, nl, e40, wn, List.length_map, Int.toNat_natCast, Nat.mul_one, Nat.zero_add, List.set_cons_succ, List.set_cons_zero, YtoncolpkpgbfiaaDoor.D5, keep5, ty2, ty3, ty4, ty30, ty41, ty42, ty47, ty51, ty55]
            exact ih (m - 1) _ _ (by omega) ⟨k + 1, by omega, ⟨by simp [Fr.get, g2], by simp [Fr.get, g7], by simp [Fr.get, g8], by simp [Fr.get, g10], by simp [Fr.get, g11], by simp [Fr.get, g12]⟩, by simp [Fr.get], rfl⟩
          · simp (maxSteps := 2000000) only [wk0, wk1, wk2, wk3, wk4, wk5, wk6, Fr.ev, Fr.put, Fr.get, storeA, List.replicate, IntKind.bits, sevalprocAttr, g2, g7, g8, g10, g11, g12, g13, hk, hkl, YtoncolpkpgbfiaaDoor.D5, keep5, ty2, ty3, ty4, ty30, ty41, ty42, ty47, ty51, ty55]
            exact hK' _ _ ⟨k, ⟨by simp [Fr.get, g7], by simp [Fr.get, g8], by simp [Fr.get, g10], by simp [Fr.get, g11], by simp [Fr.get, g12]⟩, rfl⟩
        · simp (maxSteps := 2000000) only [wk0, wk1, wk2, wk3, wk4, wk5, wk6, Fr.ev, Fr.put, Fr.get, storeA, List.replicate, IntKind.bits, sevalprocAttr, g2, g7, g8, g10, g11, g12, g13, hk, YtoncolpkpgbfiaaDoor.D5, keep5, ty2, ty3, ty4, ty30, ty41, ty42, ty47, ty51, ty55]
          exact hK' _ _ ⟨k, ⟨by simp [Fr.get, g7], by simp [Fr.get, g8], by simp [Fr.get, g10], by simp [Fr.get, g11], by simp [Fr.get, g12]⟩, rfl⟩
      · rintro fr H ⟨k, ⟨g7, g8, g10, g11, g12⟩, rfl⟩
        have bo : blkAt (S ++ [some ⟨ldB n G, 0⟩, some ⟨(List.replicate n 0).map fun x => .int .i64 x, 0⟩, some ⟨(ngL l n k).map fun x => .int .i64 x, 0⟩, some ⟨(owL l n k).map fun x => .int .i64 x, 0⟩]) (S.length + 3) 0 = some ⟨(owL l n k).map fun x => .int .i64 x, 0⟩ := by rw [blkAt_app]; rfl
        have bn : blkAt (S ++ [some ⟨ldB n G, 0⟩, some ⟨(List.replicate n 0).map fun x => .int .i64 x, 0⟩, some ⟨(ngL l n k).map fun x => .int .i64 x, 0⟩, some ⟨(owL l n k).map fun x => .int .i64 x, 0⟩]) (S.length + 2) 0 = some ⟨(ngL l n k).map fun x => .int .i64 x, 0⟩ := by rw [blkAt_app]; rfl
        have bz : blkAt (S ++ [some ⟨ldB n G, 0⟩, some ⟨(List.replicate n 0).map fun x => .int .i64 x, 0⟩, some ⟨(ngL l n k).map fun x => .int .i64 x, 0⟩, some ⟨(owL l n k).map fun x => .int .i64 x, 0⟩]) (S.length + 1) 0 = some ⟨(List.replicate n 0).map fun x => .int .i64 x, 0⟩ := by rw [blkAt_app]; rfl
        have oin : ∀ x ∈ owL l n k, inI x := fun x hx => by have := owL_in l n k x hx; unfold inI; omega
        have nin : ∀ x ∈ ngL l n k, inI x := fun x hx => by obtain ⟨y, hy, rfl⟩ := List.mem_map.1 hx; have := owL_in l n k y hy; unfold inI; omega
        have zin : ∀ x ∈ List.replicate n (0 : Int), inI x := fun x hx => by rw [List.eq_of_mem_replicate hx]; unfold inI; omega
        have ol := owL_len l n k
        have nl : (ngL l n k).length = n := by simp [ngL, owL_len]
        have zl : (List.replicate n (0 : Int)).length = n := by simp
        have v1 := VecS.own (cap := n) bo
        have v2 := VecS.own (cap := n) bn
        have v3 := VecS.own (cap := n) bz
        rw [ol] at v1
        rw [nl] at v2
        rw [zl] at v3
        have f1 := ldlFar_ok n G _ (owL l n k) _ hn hG2 hin ff ol oin v1
        have f2 := ldlFar_ok n G _ (ngL l n k) _ hn hG2 hin ff nl nin v2
        have f3 := ldlFar_ok n G _ (List.replicate n 0) _ hn hG2 hin ff zl zin v3
        have s3 := ldlSolve_ok n G _ (List.replicate n 0) _ hn hG2 hin ff zl zin v3 _ _ rfl rfl
        have nm := nums09s_ok _ _ (List.replicate n 0) (List.replicate n 0) _ (SlI.lst _) ((v3 [] _ (Nat.le_refl _)).sl false) (by rw [zl]; unfold maxLen; omega)
        rw [show ngL l n k = (owL l n k).map fun x => -x from rfl, dnY_neg, faS_neg] at f2
        rw [dnY_zero, dnT_zero, faS_zero hd, faT_zero hd] at f3
        rw [dnY_zero, dnT_zero, svX_zero hd, svT_zero hd, bkX_zero, bkT_zero] at s3
        have fs := faS_nonneg (Y := dnY n G (owL l n k) n) (i := n) hd
        generalize faS G (dnY n G (owL l n k) n) n = FS at *
        generalize faT G (dnY n G (owL l n k) n) (dnT n G (owL l n k) false n) n = T1 at *
        generalize faT G ((dnY n G (owL l n k) n).map fun x => -x) (dnT n G ((owL l n k).map fun x => -x) false n) n = T2 at *
        simp only [lstI, zl] at s3
        simp only [lstI, zl, eq_self, decide_true] at nm
        rw [List.append_nil, List.set_eq_of_length_le (Nat.le_refl _)] at nm
        iterate 7
          simp (maxSteps := 2000000) only [wk0, wk1, wk2, wk3, wk4, wk5, wk6, Fr.ev, Fr.put, Fr.get, storeA, List.replicate, IntKind.bits, sevalprocAttr, g7, g8, g10, g11, g12, gl, tl, al, fs, YtoncolpkpgbfiaaDoor.D5, keep5, ty2, ty3, ty4, ty30, ty41, ty42, ty47, ty51, ty55]
          try first
            | refine callThen_of (f1) ?_
            | refine callThen_of (f2) ?_
            | refine callThen_of (f3) ?_
            | refine callThen_of (s3) ?_
            | refine callThen_of (nm) ?_
            | refine callThen_of (su _) ?_
        exact retB_plain (by simp [nmd_bool]) rfl (by simp)
    · refine loopC_split 0 (fun fr H => ∃ k : Nat, (fr.get 7 = .lst (rowsA n n (evV M more)) n ∧ fr.get 8 = .ptr S.length 0 0 ∧ fr.get 10 = .sl (S.length + 2) 0 0 n n 1 ∧ fr.get 11 = .sl (S.length + 1) 0 0 n n 1 ∧ fr.get 12 = .sl (S.length + 3) 0 0 n n 1) ∧
        H = S ++ [some ⟨ldB n G, 0⟩, some ⟨(ngL l n k).map fun x => .int .i64 x, 0⟩, some ⟨(List.replicate n 0).map fun x => .int .i64 x, 0⟩, some ⟨(owL l n k).map fun x => .int .i64 x, 0⟩]) (fun K' hK' => ?_) ?_
      · refine loopC_ind (fun m fr H => ∃ k : Nat, k + m = n ∧ (fr.get 2 = .lst (l.map fun x => .int .i64 x) l.length ∧ fr.get 7 = .lst (rowsA n n (evV M more)) n ∧ fr.get 8 = .ptr S.length 0 0 ∧ fr.get 10 = .sl (S.length + 2) 0 0 n n 1 ∧ fr.get 11 = .sl (S.length + 1) 0 0 n n 1 ∧ fr.get 12 = .sl (S.length + 3) 0 0 n n 1) ∧ fr.get 13 = .int .i64 (k : Int) ∧
          H = S ++ [some ⟨ldB n G, 0⟩, some ⟨(ngL l n k).map fun x => .int .i64 x, 0⟩, some ⟨(List.replicate n 0).map fun x => .int .i64 x, 0⟩, some ⟨(owL l n k).map fun x => .int .i64 x, 0⟩]) ?_ (n := n) ⟨0, by omega, ⟨rfl, rfl, rfl, rfl, rfl, rfl⟩, rfl, by rw [ngL_zero, owL_zero]⟩
        rintro m fr H ⟨k, hkm, ⟨g2, g7, g8, g10, g11, g12⟩, g13, rfl⟩ ih
        by_cases hk : (k : Int) < n
        · by_cases hkl : (k : Int) < l.length
          · have hkn : k < n := by omega
            have hkl2 : k < l.length := by omega
            have k0 : (0 : Int) ≤ k := by omega
            have k1 : k + 1 ≤ n := by omega
            have wk : IntKind.i64.wrap ((k : Int) + 1) = ((k + 1 : Nat) : Int) := wrapI (by omega)
            have ga : (l.map fun x => AV.int .i64 x)[k]? = some (.int .i64 (l.getD k 0)) := by rw [List.getElem?_map, List.getElem?_eq_getElem hkl2, List.getD_eq_getElem?_getD, List.getElem?_eq_getElem hkl2]; rfl
            have oa := owL_at (l := l) hkn
            have os : ((owL l n k).map fun x => AV.int .i64 x).set k (.int .i64 ((l.getD k 0).tmod 1099511627776)) = (owL l n (k + 1)).map fun x => .int .i64 x := by rw [setA, owL_set hkn]
            have ns : ((ngL l n k).map fun x => AV.int .i64 x).set k (.int .i64 (-(l.getD k 0).tmod 1099511627776)) = (ngL l n (k + 1)).map fun x => .int .i64 x := by rw [setA, ngL_set hkn]
            have ol := owL_len l n k
            have ol2 := owL_len l n (k + 1)
            have nl : (ngL l n k).length = n := by simp [ngL, owL_len]
            have tb := tmb k
            have wn : IntKind.i64.wrap (0 - (l.getD k 0).tmod 1099511627776) = -(l.getD k 0).tmod 1099511627776 := by rw [Int.zero_sub]; exact wrapI (by omega)
            simp (maxSteps := 2000000) only [wk0, wk1, wk2, wk3, wk4, wk5, wk6, Fr.ev, Fr.put, Fr.get, storeA, List.replicate, IntKind.bits, sevalprocAttr, g2, g7, g8, g10, g11, g12, g13, hk, hkl, k0, k1, wk, ga, oa, os, ns, ol, ol2, nl, e40, wn, List.length_map, Int.toNat_natCast, Nat.mul_one, Nat.zero_add, List.set_cons_succ, List.set_cons_zero, YtoncolpkpgbfiaaDoor.D5, keep5, ty2, ty3, ty4, ty30, ty41, ty42, ty47, ty51, ty55]
            exact ih (m - 1) _ _ (by omega) ⟨k + 1, by omega, ⟨by simp [Fr.get, g2], by simp [Fr.get, g7], by simp [Fr.get, g8], by simp [Fr.get, g10], by simp [Fr.get, g11], by simp [Fr.get, g12]⟩, by simp [Fr.get], rfl⟩
          · simp (maxSteps := 2000000) only [wk0, wk1, wk2, wk3, wk4, wk5, wk6, Fr.ev, Fr.put, Fr.get, storeA, List.replicate, IntKind.bits, sevalprocAttr, g2, g7, g8, g10, g11, g12, g13, hk, hkl, YtoncolpkpgbfiaaDoor.D5, keep5, ty2, ty3, ty4, ty30, ty41, ty42, ty47, ty51, ty55]
            exact hK' _ _ ⟨k, ⟨by simp [Fr.get, g7], by simp [Fr.get, g8], by simp [Fr.get, g10], by simp [Fr.get, g11], by simp [Fr.get, g12]⟩, rfl⟩
        · simp (maxSteps := 2000000) only [wk0, wk1, wk2, wk3, wk4, wk5, wk6, Fr.ev, Fr.put, Fr.get, storeA, List.replicate, IntKind.bits, sevalprocAttr, g2, g7, g8, g10, g11, g12, g13, hk, YtoncolpkpgbfiaaDoor.D5, keep5, ty2, ty3, ty4, ty30, ty41, ty42, ty47, ty51, ty55]
          exact hK' _ _ ⟨k, ⟨by simp [Fr.get, g7], by simp [Fr.get, g8], by simp [Fr.get, g10], by simp [Fr.get, g11], by simp [Fr.get, g12]⟩, rfl⟩
      · rintro fr H ⟨k, ⟨g7, g8, g10, g11, g12⟩, rfl⟩
        have bo : blkAt (S ++ [some ⟨ldB n G, 0⟩, some ⟨(ngL l n k).map fun x => .int .i64 x, 0⟩, some ⟨(List.replicate n 0).map fun x => .int .i64 x, 0⟩, some ⟨(owL l n k).map fun x => .int .i64 x, 0⟩]) (S.length + 3) 0 = some ⟨(owL l n k).map fun x => .int .i64 x, 0⟩ := by rw [blkAt_app]; rfl
        have bn : blkAt (S ++ [some ⟨ldB n G, 0⟩, some ⟨(ngL l n k).map fun x => .int .i64 x, 0⟩, some ⟨(List.replicate n 0).map fun x => .int .i64 x, 0⟩, some ⟨(owL l n k).map fun x => .int .i64 x, 0⟩]) (S.length + 1) 0 = some ⟨(ngL l n k).map fun x => .int .i64 x, 0⟩ := by rw [blkAt_app]; rfl
        have bz : blkAt (S ++ [some ⟨ldB n G, 0⟩, some ⟨(ngL l n k).map fun x => .int .i64 x, 0⟩, some ⟨(List.replicate n 0).map fun x => .int .i64 x, 0⟩, some ⟨(owL l n k).map fun x => .int .i64 x, 0⟩]) (S.length + 2) 0 = some ⟨(List.replicate n 0).map fun x => .int .i64 x, 0⟩ := by rw [blkAt_app]; rfl
        have oin : ∀ x ∈ owL l n k, inI x := fun x hx => by have := owL_in l n k x hx; unfold inI; omega
        have nin : ∀ x ∈ ngL l n k, inI x := fun x hx => by obtain ⟨y, hy, rfl⟩ := List.mem_map.1 hx; have := owL_in l n k y hy; unfold inI; omega
        have zin : ∀ x ∈ List.replicate n (0 : Int), inI x := fun x hx => by rw [List.eq_of_mem_replicate hx]; unfold inI; omega
        have ol := owL_len l n k
        have nl : (ngL l n k).length = n := by simp [ngL, owL_len]
        have zl : (List.replicate n (0 : Int)).length = n := by simp
        have v1 := VecS.own (cap := n) bo
        have v2 := VecS.own (cap := n) bn
        have v3 := VecS.own (cap := n) bz
        rw [ol] at v1
        rw [nl] at v2
        rw [zl] at v3
        have f1 := ldlFar_ok n G _ (owL l n k) _ hn hG2 hin ff ol oin v1
        have f2 := ldlFar_ok n G _ (ngL l n k) _ hn hG2 hin ff nl nin v2
        have f3 := ldlFar_ok n G _ (List.replicate n 0) _ hn hG2 hin ff zl zin v3
        have s3 := ldlSolve_ok n G _ (List.replicate n 0) _ hn hG2 hin ff zl zin v3 _ _ rfl rfl
        have nm := nums09s_ok _ _ (List.replicate n 0) (List.replicate n 0) _ (SlI.lst _) ((v3 [] _ (Nat.le_refl _)).sl false) (by rw [zl]; unfold maxLen; omega)
        rw [show ngL l n k = (owL l n k).map fun x => -x from rfl, dnY_neg, faS_neg] at f2
        rw [dnY_zero, dnT_zero, faS_zero hd, faT_zero hd] at f3
        rw [dnY_zero, dnT_zero, svX_zero hd, svT_zero hd, bkX_zero, bkT_zero] at s3
        have fs := faS_nonneg (Y := dnY n G (owL l n k) n) (i := n) hd
        generalize faS G (dnY n G (owL l n k) n) n = FS at *
        generalize faT G (dnY n G (owL l n k) n) (dnT n G (owL l n k) false n) n = T1 at *
        generalize faT G ((dnY n G (owL l n k) n).map fun x => -x) (dnT n G ((owL l n k).map fun x => -x) false n) n = T2 at *
        simp only [lstI, zl] at s3
        simp only [lstI, zl, eq_self, decide_true] at nm
        rw [List.append_nil, List.set_eq_of_length_le (Nat.le_refl _)] at nm
        iterate 7
          simp (maxSteps := 2000000) only [wk0, wk1, wk2, wk3, wk4, wk5, wk6, Fr.ev, Fr.put, Fr.get, storeA, List.replicate, IntKind.bits, sevalprocAttr, g7, g8, g10, g11, g12, gl, tl, al, fs, YtoncolpkpgbfiaaDoor.D5, keep5, ty2, ty3, ty4, ty30, ty41, ty42, ty47, ty51, ty55]
          try first
            | refine callThen_of (f1) ?_
            | refine callThen_of (f2) ?_
            | refine callThen_of (f3) ?_
            | refine callThen_of (s3) ?_
            | refine callThen_of (nm) ?_
            | refine callThen_of (su _) ?_
        exact retB_plain (by simp [nmd_bool]) rfl (by simp)
theorem ldlMakesLaw_ok (rows : List (List Int)) (more : Int) (l : List Int) (S : Heap) (hr : ∀ r ∈ rows, ∀ x ∈ r, inI x) (hmore : inI more) (hlin : ∀ x ∈ l, inI x) : Call theE 5 [lstL rows, .int .i64 more, lstI l] S (.bool true) S := by
  by_cases hm : MayR rows
  · by_cases hs : rows.length = (rows.getD 0 []).length
    · have hn : 1 ≤ rows.length ∧ rows.length ≤ 6 := hm.1
      have := ldlMakesGood_ok rows.length (rowsF rows) more l S hn hmore hlin
      rw [mtx_of hm, ← hs]
      exact this
    · have hb := hm.2.1
      have ev := fun S => evenRows_same rows more S (fun h => hs h.2)
      have mo := fun S => matOf9_ok (lstL rows) rows.length (rows.getD 0 []).length (rowsF rows) S (fun _ _ _ => rfl) (fun S => of_mat_ok rows _ S hm.1 hb (fun r hr => hm.2.2 r hr))
      exact ldlMakesBad_ok _ _ _ 1 more l S (.inl rfl) (fun _ _ _ => rfl) (fun _ _ _ => rfl) ev mo (fun S => ldlOf_odd _ _ _ S (by simp [gridP]) (fun S => ldlEven_ok _ _ _ S hm.1 hb false (by simp; intro h; exact hs h.1)))
  · exact ldlMakesBad_ok _ _ zeroM 1 more l S (.inl rfl) (fun _ _ _ => rfl) (fun _ _ _ => rfl) (fun S => evenRows_same rows more S (fun h => hm h.1)) (fun S => matOf9_bad rows S hm) (fun S => ldlOf_odd 0 0 _ S (by simp) ldlEven_bad)
end Go.Proofs.YtoncolpkpgbfiaaDoor
