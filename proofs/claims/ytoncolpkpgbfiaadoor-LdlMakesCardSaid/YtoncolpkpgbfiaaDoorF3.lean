/- Layer 9: what factors are made of may be; layer 9's small helpers. -/
import Derived.Test.YtoncolpkpgbfiaaDoorF2
import Derived.Test.YtoncolpkpgbfiaaDoorL7
set_option linter.unusedSimpArgs false
set_option linter.unusedVariables false
set_option maxRecDepth 100000
set_option maxHeartbeats 8000000
namespace Go.Proofs.YtoncolpkpgbfiaaDoor
/-- What stands of the factors of i rows. -/
structure PF9 (n i : Nat) (G : List Int) : Prop where
  s : OfS i G
  z : ZF n i G
  r : ∀ k t, k < i → t < n → rightP k t (gF n G k t)
  d : ∀ k, k < i → G.getD (36 + k) 0 ≤ 4611686018427387903
  e : ∀ k, i ≤ k → k < 6 → G.getD (36 + k) 0 = 0
theorem rep_get (q : Nat) : (List.replicate 42 (0 : Int)).getD q 0 = 0 := by rw [List.getD_eq_getElem?_getD, List.getElem?_replicate]; split <;> rfl
theorem PF9.zero (n : Nat) : PF9 n 0 (List.replicate 42 0) := ⟨OfS.zero, fun q _ _ => rep_get q, fun k t h => by omega, fun k h => by omega, fun k _ _ => rep_get _⟩
theorem ofG_low {n i k t : Nat} {M : Nat → Nat → Int} {G : List Int} (hk : k < i) (ht : t < n) (j : Nat) : gF n (ofG n M i G j) k t = gF n G k t := by
  induction j with
  | zero => rfl
  | succ j ih => exact (gF_low (by omega) hk ht).trans ih
theorem ofG_bnd {n i t : Nat} {M : Nat → Nat → Int} {G : List Int} (hS : OfS i G) (h : i * n + n ≤ 36) (j : Nat) (hj : j ≤ n) (ht : t < j) : -4611686018427387903 ≤ gF n (ofG n M i G j) i t ∧ gF n (ofG n M i G j) i t ≤ 4611686018427387903 := by
  induction j with
  | zero => omega
  | succ j ih =>
    by_cases e : t = j
    · subst e
      have : gF n (ofG n M i G (t + 1)) i t = bndI (ofQ n M i (ofG n M i G t) t) := getD_set_self (by rw [(hS.row (M := M) h t (by omega)).len]; omega)
      rw [this]
      unfold bndI; omega
    · have : gF n (ofG n M i G (j + 1)) i t = gF n (ofG n M i G j) i t := getD_set_ne (by omega)
      rw [this]
      exact ih (by omega) (by omega)
theorem PF9.next {n i : Nat} {M : Nat → Nat → Int} {G : List Int} (h : PF9 n i G) (hn : n ≤ 6) (hi : i < n) (hin : i * n + n ≤ 36) (hd : ¬ ofD n M i G ≤ 0) : PF9 n (i + 1) (ofN n M i G) := by
  obtain ⟨r1, r2, r3, r4, r5, r6, r7⟩ := ofN_row (M := M) h.s hn hi hin h.z
  have hRi := h.s.row (n := n) (M := M) hin i (by omega)
  obtain ⟨o1, o2, o3⟩ := ofG_rows n M i G hin i (by omega)
  have hI : OfS i (ofI n M i G) := hRi.low _ (by omega) (by unfold inI; omega)
  have hD : ofD n M i G ≤ 4611686018427387903 := by unfold ofD lrV bndI; omega
  have key : ∀ k, k ≠ i → (ofN n M i G).getD (36 + k) 0 = G.getD (36 + k) 0 := fun k hk => by
    unfold ofN ofI
    rw [getD_set_ne (by omega), getD_set_ne (by omega), o3 _ (by omega)]
  refine ⟨hI.next (by omega) (show inI (ofD n M i G) from lr_in _ _ _ _ _) (by omega), r7, fun k t hk ht => ?_, fun k hk => ?_, fun k hk h6 => ?_⟩
  · by_cases e : k = i
    · subst e
      rcases Nat.lt_trichotomy t k with h1 | h1 | h1
      · have hb := ofG_bnd (M := M) h.s hin k (by omega) h1
        have e1 : gF n (ofN n M k G) k t = gF n (ofG n M k G k) k t := by
          have := congrArg (fun l : List Int => l[t]?) r1
          simp only [gC_get h1] at this
          exact Option.some.inj this
        rw [e1]
        exact ⟨fun h => by omega, fun h => by omega, hb⟩
      · subst h1
        rw [r2]
        exact ⟨fun h => by omega, fun _ => rfl, by omega, by omega⟩
      · rw [r3 t h1 ht]
        exact ⟨fun _ => rfl, fun h => by omega, by omega, by omega⟩
    · have hk' : k < i := by omega
      have e1 : gF n (ofN n M i G) k t = gF n G k t := by
        unfold ofN ofI
        have hm := Nat.mul_le_mul_right n (show k + 1 ≤ i by omega)
        rw [gF_low (i := i) (by omega) hk' ht, gF_low (i := i) (by omega) hk' ht, ofG_low hk' ht]
      rw [e1]
      exact h.r k t hk' ht
  · by_cases e : k = i
    · subst e; rw [r6]; exact hD
    · rw [key k e]; exact h.d k (by omega)
  · rw [key k (by omega)]; exact h.e k (by omega) h6
theorem ofAll_PF {n : Nat} (hn : n ≤ 6) (M : Nat → Nat → Int) : ∀ (i : Nat), i ≤ n → ∀ G, ofAll n M i = some G → PF9 n i G
  | 0, _, G, h => by cases h; exact PF9.zero n
  | i + 1, hi, G, h => by
    have hin : i * n + n ≤ 36 := by
      have := Nat.mul_le_mul (show i + 1 ≤ 6 by omega) hn
      rw [Nat.add_mul, Nat.one_mul] at this; exact this
    cases h0 : ofAll n M i with
    | none => rw [show ofAll n M (i + 1) = (ofAll n M i).bind _ from rfl, h0] at h; cases h
    | some G0 =>
      have p := ofAll_PF hn M i (by omega) G0 h0
      rw [show ofAll n M (i + 1) = (ofAll n M i).bind (fun G => if ofD n M i G ≤ 0 ∨ ofO n M i G = true then none else some (ofN n M i G)) from rfl, h0, Option.bind_some] at h
      split at h
      · cases h
      · rename_i hc
        cases h
        exact p.next hn (by omega) hin (fun h => hc (.inl h))
theorem PF9.fine {n : Nat} {G : List Int} (h : PF9 n n G) (hn : 1 ≤ n ∧ n ≤ 6) : FineF n G := by
  constructor
  · intro q hq
    unfold okG
    by_cases hb : n * n ≤ q
    · rw [if_pos hb]; exact h.z q hb hq
    · rw [if_neg hb]
      have h1 : q / n < n := (Nat.div_lt_iff_lt_mul (by omega)).2 (by omega)
      have h2 : q % n < n := Nat.mod_lt _ (by omega)
      have := h.r (q / n) (q % n) h1 h2
      unfold gF at this
      rwa [show q / n * n + q % n = q by rw [Nat.mul_comm]; exact Nat.div_add_mod q n] at this
  · intro k hk
    unfold okD
    by_cases hb : n ≤ k
    · rw [if_pos hb]; exact h.e k hb hk
    · rw [if_neg hb]; exact ⟨h.s.pos k (by omega), h.d k (by omega)⟩
/-! rows as lists again -/
def rws (n : Nat) (M : Nat → Nat → Int) : List (List Int) := (List.range n).map (rowF M n)
theorem rws_mtx (n : Nat) (M : Nat → Nat → Int) : lstL (rws n M) = mtx n n M := by
  unfold lstL mtx rws rowsA
  simp [List.map_map, Function.comp_def]
theorem rws_may {n : Nat} (hn : 1 ≤ n ∧ n ≤ 6) (M : Nat → Nat → Int) : MayR (rws n M) ∧ (rws n M).length = n ∧ ((rws n M).getD 0 []).length = n := by
  have h0 : (rws n M).getD 0 [] = rowF M n 0 := by
    unfold rws
    rw [List.getD_eq_getElem?_getD, List.getElem?_map, List.getElem?_range (by omega)]; rfl
  have hl : (rws n M).length = n := by simp [rws]
  refine ⟨⟨by omega, by rw [h0, rowF_len]; exact hn, fun r hr => ?_⟩, hl, by rw [h0, rowF_len]⟩
  obtain ⟨k, _, rfl⟩ := List.mem_map.1 hr
  rw [h0, rowF_len, rowF_len]
theorem rws_rows {n i j : Nat} {M : Nat → Nat → Int} (hi : i < n) (hj : j < n) : rowsF (rws n M) i j = M i j := by
  unfold rowsF rws
  rw [List.getD_eq_getElem?_getD (l := List.map _ _), List.getElem?_map, List.getElem?_range hi]
  simp [rowF, List.getD_eq_getElem?_getD, hj]
theorem mk9_congr {n : Nat} {f g : Nat → Nat → Int} (hn : 1 ≤ n) (h : ∀ i j, i < n → j < n → f i j = g i j) : mk n n f = mk n n g := by
  unfold mk
  congr 1
  unfold gridP
  apply List.map_congr_left
  intro q _
  by_cases hb : q < n * n
  · rw [if_pos hb, if_pos hb]
    exact h _ _ ((Nat.div_lt_iff_lt_mul (by omega)).2 hb) (Nat.mod_lt _ (by omega))
  · rw [if_neg hb, if_neg hb]
theorem of_mtx {n : Nat} (hn : 1 ≤ n ∧ n ≤ 6) (M : Nat → Nat → Int) (S : Heap) : Call theE 41 [mtx n n M] S (.tup [mk n n M, .nili]) S := by
  obtain ⟨hm, hl, hc⟩ := rws_may hn M
  have := of_mat_ok (rws n M) n S hm.1 hn (fun r hr => (hm.2.2 r hr).trans hc)
  rw [rws_mtx, hl, mk9_congr hn.1 (fun i j hi hj => rws_rows hi hj)] at this
  exact this
theorem may_mtx {n : Nat} (hn : 1 ≤ n ∧ n ≤ 6) (M : Nat → Nat → Int) (S : Heap) : Call theE 37 [mtx n n M] S (.bool true) S := by
  obtain ⟨hm, -, -⟩ := rws_may hn M
  have := may_ok (rws n M) S
  rw [rws_mtx, decide_eq_true hm] at this
  exact this
theorem matOf9_bad (l : List (List Int)) (S : Heap) (h : ¬ MayR l) : Call theE 13 [lstL l] S zeroM S := by
  have q := fun S => of_mat_bad l S h
  simp only [lstL, errA, zeroM, matA, List.replicate, List.map_cons, List.map_nil] at q ⊢
  refine Call.ofC Tryd.func13 YtoncolpkpgbfiaaDoor.b13 YtoncolpkpgbfiaaDoor.d13 YtoncolpkpgbfiaaDoor.e13 (by simp [Tryd.f13]) ?_
  dsimp only [YtoncolpkpgbfiaaDoor.c13, Tryd.f13, Option.getD_some]
  iterate 2
    simp (maxSteps := 2000000) only [wk0, wk1, wk2, wk3, wk4, wk5, wk6, Fr.ev, Fr.put, Fr.get, storeA, List.replicate, IntKind.bits, sevalprocAttr, YtoncolpkpgbfiaaDoor.D13, ty4, ty30, ty41, ty51]
    try first
      | refine callThen_of (q _) ?_
  exact retB_plain (by simp [nmd_agg, nmd_int]) rfl (by simp)
theorem ldlEven_bad (S : Heap) : Call theE 38 [zeroM] S (.bool false) S := by
  have tu := fun S => turn_bad 0 0 (List.replicate 36 0) S (by simp) zeroM_bad
  simp only [errA, zeroM, matA, List.replicate, List.map_cons, List.map_nil] at tu ⊢
  refine Call.ofC Tryd.func38 YtoncolpkpgbfiaaDoor.b38 YtoncolpkpgbfiaaDoor.d38 YtoncolpkpgbfiaaDoor.e38 (by simp [Tryd.f38]) ?_
  dsimp only [YtoncolpkpgbfiaaDoor.c38, Tryd.f38, Option.getD_some]
  iterate 2
    simp (maxSteps := 2000000) only [wk0, wk1, wk2, wk3, wk4, wk5, wk6, Fr.ev, Fr.put, Fr.get, storeA, List.replicate, IntKind.bits, sevalprocAttr, YtoncolpkpgbfiaaDoor.D38, ty4, ty30, ty51]
    try first
      | refine callThen_of (tu _) ?_
  exact retB_plain (by simp [nmd_bool]) rfl (by simp)
theorem ldlOf_odd (r c : Int) (L : List Int) (S : Heap) (hL : L.length = 36) (ev : ∀ S, Call theE 38 [matA r c L] S (.bool false) S) : Call theE 12 [matA r c L] S (.tup [.agg (List.replicate 43 (.int .i64 0)), errA 1]) S := by
  have spz := sp43 (List.replicate 43 (.int .i64 0)) rfl
  have tk := take36 hL
  have al := all36g L
  simp only [List.replicate] at spz ⊢
  simp only [matA] at ev ⊢
  refine Call.ofC Tryd.func12 YtoncolpkpgbfiaaDoor.b12 YtoncolpkpgbfiaaDoor.d12 YtoncolpkpgbfiaaDoor.e12 (by simp [Tryd.f12]) ?_
  dsimp only [YtoncolpkpgbfiaaDoor.c12, Tryd.f12, Option.getD_some]
  iterate 2
    simp (maxSteps := 2000000) only [wk0, wk1, wk2, wk3, wk4, wk5, wk6, Fr.ev, Fr.put, Fr.get, storeA, List.replicate, IntKind.bits, sevalprocAttr, List.length_cons, List.length_map, hL, List.take_succ_cons, List.drop_succ_cons, List.drop_zero, List.take_zero, tk, al, spz, YtoncolpkpgbfiaaDoor.D12, ty1, ty2, ty3, ty4, ty30, ty44, ty45, ty47, ty51, ty75, ty91, ty92, ty94]
    try first
      | refine callThen_of (ev _) ?_
  exact retB_plain (by simp [nmd_agg, nmd_int, nmd_ifc]) rfl (by simp)

theorem evenRows_same (l : List (List Int)) (more : Int) (S : Heap) (h : ¬ (MayR l ∧ l.length = (l.getD 0 []).length)) : Call theE 11 [lstL l, .int .i64 more] S (lstL l) S := by
  have qm := fun S => may_ok l S
  by_cases hm : MayR l
  · rw [decide_eq_true hm] at qm
    have h0 : 0 < l.length := by have := hm.1; omega
    have gl := get_lstL h0
    have e0 := getD_lst h0
    have k0 : (0 : Int) < l.length := by omega
    have hc : ((l.length : Int) = l[0].length) = False := eq_false (fun e => h ⟨hm, by rw [e0]; omega⟩)
    have k1 : 1 ≤ l.length := by omega
    simp only [lstL, lstI] at qm gl ⊢
    refine Call.ofC Tryd.func11 YtoncolpkpgbfiaaDoor.b11 YtoncolpkpgbfiaaDoor.d11 YtoncolpkpgbfiaaDoor.e11 (by simp [Tryd.f11]) ?_
    dsimp only [YtoncolpkpgbfiaaDoor.c11, Tryd.f11, Option.getD_some]
    iterate 2
      simp (maxSteps := 2000000) only [wk0, wk1, wk2, wk3, wk4, wk5, wk6, Fr.ev, Fr.put, Fr.get, storeA, List.replicate, IntKind.bits, sevalprocAttr, gl, k0, k1, hc, List.length_map, decide_true, decide_false, YtoncolpkpgbfiaaDoor.D11, ty1, ty2, ty3, ty4, ty41, ty42]
      try first
        | refine callThen_of (qm _) ?_
    exact retB_plain (by simp [nmd_lst]) rfl (by simp)
  · rw [decide_eq_false hm] at qm
    simp only [lstL] at qm ⊢
    refine Call.ofC Tryd.func11 YtoncolpkpgbfiaaDoor.b11 YtoncolpkpgbfiaaDoor.d11 YtoncolpkpgbfiaaDoor.e11 (by simp [Tryd.f11]) ?_
    dsimp only [YtoncolpkpgbfiaaDoor.c11, Tryd.f11, Option.getD_some]
    iterate 2
      simp (maxSteps := 2000000) only [wk0, wk1, wk2, wk3, wk4, wk5, wk6, Fr.ev, Fr.put, Fr.get, storeA, List.replicate, IntKind.bits, sevalprocAttr, YtoncolpkpgbfiaaDoor.D11, ty1, ty2, ty3, ty4, ty41, ty42]
      try first
        | refine callThen_of (qm _) ?_
    exact retB_plain (by simp [nmd_lst]) rfl (by simp)
noncomputable def c14 : Code := Tryd.f14.body.getD .skip
theorem b14 : Tryd.f14.body = some c14 := rfl
theorem d14 : fnOk Tryd.f14 c14 = true := by kernel_rfl
def D14 : Nat → List Tag := fun _ => []
theorem e14 : drawsOk D14 c14 = true := by kernel_rfl
theorem num09_nil (S : Heap) : Call theE 14 [.nili] S (.int .i64 0) S := by
  refine Call.ofC Tryd.func14 YtoncolpkpgbfiaaDoor.b14 YtoncolpkpgbfiaaDoor.d14 YtoncolpkpgbfiaaDoor.e14 (by simp [Tryd.f14]) ?_
  dsimp only [YtoncolpkpgbfiaaDoor.c14, Tryd.f14, Option.getD_some]
  simp (maxSteps := 2000000) only [wk0, wk1, wk2, wk3, wk4, wk5, wk6, Fr.ev, Fr.put, Fr.get, storeA, List.replicate, IntKind.bits, sevalprocAttr, YtoncolpkpgbfiaaDoor.D14, ty3, ty4, ty20, ty30, ty75, ty88]
  exact retB_plain (by simp [nmd_int]) rfl (by simp)
end Go.Proofs.YtoncolpkpgbfiaaDoor
