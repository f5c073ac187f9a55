/- ldl: a tally of whether anything was too great; a number of the factors. -/
import Derived.Test.YtoncolpkpgbfiaaDoorQ8
import Derived.Test.YtoncolpkpgbfiaaDoorM1
set_option linter.unusedSimpArgs false
set_option linter.unusedVariables false
set_option maxRecDepth 100000
set_option maxHeartbeats 4000000
namespace Go.Proofs.YtoncolpkpgbfiaaDoor
def ttA (o : Bool) : Option Blk := some ⟨[.bool o], 0⟩
theorem tt_same {H : Heap} {q : Nat} {o p : Bool} (h : blkAt H q 0 = ttA o) : sameBut H (H.set q (ttA p)) := sameBut_set h rfl rfl
theorem tt_set {S : Heap} {q : Nat} {x : Option Blk} (h : q < S.length) (L : Heap) : (S ++ L).set q x = S.set q x ++ L := List.set_append_left _ _ h
theorem tt_self {S : Heap} {q : Nat} {o : Bool} (h : q < S.length) : blkAt (S.set q (ttA o)) q 0 = ttA o := by
  unfold ttA blkAt
  rw [List.getElem?_set_self h]
  simp
theorem tt_blk {S : Heap} {q : Nat} {o : Bool} (h : q < S.length) (L : Heap) : blkAt (S.set q (ttA o) ++ L) q 0 = ttA o := blk_app (tt_self h)
def divZ (a b : Int) (n : Nat) : Int := if (a < 0) ↔ (b < 0) then rnd (a.natAbs * 2 ^ n) b.natAbs else -(rnd (a.natAbs * 2 ^ n) b.natAbs)
noncomputable def c51 : Code := Tryd.f51.body.getD .skip
theorem b51 : Tryd.f51.body = some c51 := rfl
theorem d51 : fnOk Tryd.f51 c51 = true := by kernel_rfl
def D51 : Nat → List Tag := fun _ => []
theorem e51 : drawsOk D51 c51 = true := by kernel_rfl
noncomputable def c52 : Code := Tryd.f52.body.getD .skip
theorem b52 : Tryd.f52.body = some c52 := rfl
theorem d52 : fnOk Tryd.f52 c52 = true := by kernel_rfl
def D52 : Nat → List Tag := fun _ => []
theorem e52 : drawsOk D52 c52 = true := by kernel_rfl
noncomputable def c39 : Code := Tryd.f39.body.getD .skip
theorem b39 : Tryd.f39.body = some c39 := rfl
theorem d39 : fnOk Tryd.f39 c39 = true := by kernel_rfl
def D39 : Nat → List Tag := fun _ => []
theorem e39 : drawsOk D39 c39 = true := by kernel_rfl
noncomputable def c53 : Code := Tryd.f53.body.getD .skip
theorem b53 : Tryd.f53.body = some c53 := rfl
theorem d53 : fnOk Tryd.f53 c53 = true := by kernel_rfl
def D53 : Nat → List Tag
  | 1 => [.pure, .pure, .pure, .pure, .pure, .seq, .pure, .pure, .pure, .pure, .pure, .pure, .seq, .pure]
  | _ => []
theorem e53 : drawsOk D53 c53 = true := by kernel_rfl
noncomputable def c112 : Code := Tryd.f112.body.getD .skip
theorem b112 : Tryd.f112.body = some c112 := rfl
theorem d112 : fnOk Tryd.f112 c112 = true := by kernel_rfl
def D112 : Nat → List Tag := fun _ => []
theorem e112 : drawsOk D112 c112 = true := by kernel_rfl
noncomputable def c86 : Code := Tryd.f86.body.getD .skip
theorem b86 : Tryd.f86.body = some c86 := rfl
theorem d86 : fnOk Tryd.f86 c86 = true := by kernel_rfl
def D86 : Nat → List Tag := fun _ => []
theorem e86 : drawsOk D86 c86 = true := by kernel_rfl
theorem ldlDot_ok (v u : AV) (l r : List Int) (n : Nat) (q : Nat) (o : Bool) (S : Heap) (hv : SlI S v l) (hu : SlI S u r) (hn : n ≤ 62) (hlr : l.length = r.length) (hl : l.length ≤ 64) (hl' : ∀ x ∈ l, inI x) (hr' : ∀ x ∈ r, inI x) (hq : blkAt S q 0 = ttA o) :
    Call theE 51 [.ptr q 0 0, v, u, .int .i64 n] S (.int .i64 (bndI (rnd (dotZ l r) (2 ^ n)))) (S.set q (ttA (o || ovrB (rnd (dotZ l r) (2 ^ n))))) := by
  have c1 := hv.mv
  have c2 := hu.mv
  have d := dot_ok v u l r n S hv hu hn hlr hl hl' hr'
  have lq := blk_lt hq
  generalize bndI (rnd (dotZ l r) (2 ^ n)) = x at *
  generalize ovrB (rnd (dotZ l r) (2 ^ n)) = p at *
  unfold ttA at *
  have ms : ∀ b : Bool, mayStore S.length q [.bool b] = True := fun b => by simp [mayStore, nmd_bool]
  cases o <;> cases p
  all_goals
    refine Call.ofC Tryd.func51 YtoncolpkpgbfiaaDoor.b51 YtoncolpkpgbfiaaDoor.d51 YtoncolpkpgbfiaaDoor.e51 (by simp [Tryd.f51]) ?_
    dsimp only [YtoncolpkpgbfiaaDoor.c51, Tryd.f51, Option.getD_some]
    iterate 2
      simp (maxSteps := 2000000) only [wk0, wk1, wk2, wk3, wk4, wk5, wk6, Fr.ev, Fr.put, Fr.get, storeA, List.replicate, IntKind.bits, sevalprocAttr, c1, c2, hq, ms, List.set_cons_zero, YtoncolpkpgbfiaaDoor.D51, ty2, ty3, ty4, ty30, ty42, ty92, ty94]
      try first
        | refine callThen_of (d) ?_
    exact retB_plain (by simp [nmd_int]) rfl (by rw [List.take_of_length_le (by simp)])
theorem ldlLess_ok (a b : Int) (q : Nat) (o : Bool) (S : Heap) (ha : inI a) (hb : inI b) (hq : blkAt S q 0 = ttA o) :
    Call theE 52 [.ptr q 0 0, .int .i64 a, .int .i64 b] S (.int .i64 (bndI (a + -b))) (S.set q (ttA (o || ovrB (a + -b)))) := by
  have d := sub_ok a b S ha hb
  have lq := blk_lt hq
  generalize bndI (a + -b) = x at *
  generalize ovrB (a + -b) = p at *
  unfold ttA at *
  have ms : ∀ b : Bool, mayStore S.length q [.bool b] = True := fun b => by simp [mayStore, nmd_bool]
  refine Call.ofC Tryd.func52 YtoncolpkpgbfiaaDoor.b52 YtoncolpkpgbfiaaDoor.d52 YtoncolpkpgbfiaaDoor.e52 (by simp [Tryd.f52]) ?_
  dsimp only [YtoncolpkpgbfiaaDoor.c52, Tryd.f52, Option.getD_some]
  iterate 2
    simp (maxSteps := 2000000) only [wk0, wk1, wk2, wk3, wk4, wk5, wk6, Fr.ev, Fr.put, Fr.get, storeA, List.replicate, IntKind.bits, sevalprocAttr, hq, ms, gor, List.set_cons_zero, YtoncolpkpgbfiaaDoor.D52, ty2, ty4, ty92, ty94]
    try first
      | refine callThen_of (d) ?_
  exact retB_plain (by simp [nmd_int]) rfl (by rw [List.take_of_length_le (by simp)])
theorem ldlBy_ok (a b : Int) (n : Nat) (q : Nat) (o : Bool) (S : Heap) (ha : inI a) (hb : inI b) (hb0 : b ≠ 0) (hn : n ≤ 62) (hq : blkAt S q 0 = ttA o) :
    Call theE 39 [.ptr q 0 0, .int .i64 a, .int .i64 b, .int .i64 n] S (.int .i64 (bndI (divZ a b n))) (S.set q (ttA (o || ovrB (divZ a b n)))) := by
  obtain ⟨v, hv, d⟩ := div_ok a b n S ha hb hb0 hn
  have hz : v = divZ a b n := hv
  rw [hz] at d
  have lq := blk_lt hq
  generalize bndI (divZ a b n) = x at *
  generalize ovrB (divZ a b n) = p at *
  unfold ttA at *
  have ms : ∀ b : Bool, mayStore S.length q [.bool b] = True := fun b => by simp [mayStore, nmd_bool]
  cases o <;> cases p
  all_goals
    refine Call.ofC Tryd.func39 YtoncolpkpgbfiaaDoor.b39 YtoncolpkpgbfiaaDoor.d39 YtoncolpkpgbfiaaDoor.e39 (by simp [Tryd.f39]) ?_
    dsimp only [YtoncolpkpgbfiaaDoor.c39, Tryd.f39, Option.getD_some]
    iterate 2
      simp (maxSteps := 2000000) only [wk0, wk1, wk2, wk3, wk4, wk5, wk6, Fr.ev, Fr.put, Fr.get, storeA, List.replicate, IntKind.bits, sevalprocAttr, hq, ms, List.set_cons_zero, YtoncolpkpgbfiaaDoor.D39, ty2, ty3, ty4, ty30, ty92, ty94]
      try first
        | refine callThen_of (d) ?_
    exact retB_plain (by simp [nmd_int]) rfl (by rw [List.take_of_length_le (by simp)])
/-! factors: their number, 36 below the ones, 6 of the diagonal -/
def ldB (n : Int) (G : List Int) : List AV := .int .i64 n :: G.map fun x => .int .i64 x
theorem ldB_len (n : Int) (G : List Int) : (ldB n G).length = G.length + 1 := by simp [ldB]
theorem ldB_at (n : Int) (G : List Int) (k : Nat) (h : k < G.length) : (ldB n G)[1 + k]? = some (.int .i64 (G.getD k 0)) := by
  rw [Nat.add_comm 1 k]
  unfold ldB
  rw [List.getElem?_cons_succ, List.getElem?_map, List.getElem?_eq_getElem h, Option.map_some, List.getD_eq_getElem?_getD, List.getElem?_eq_getElem h]
  rfl
theorem ldlAt_ok (n i j p : Nat) (G : List Int) (S : Heap) (hn : n ≤ 6) (hG : G.length = 42) (h : i * n + j < 36) (hi : i ≤ 6) (hj : j ≤ 6) (hb : blkAt S p 0 = some ⟨ldB n G, 0⟩) :
    Call theE 53 [.ptr p 0 0, .int .i64 i, .int .i64 j] S (.int .i64 (G.getD (i * n + j) 0)) S := by
  have ga := ldB_at n G (i * n + j) (by omega)
  have gl : (ldB n G).length = 43 := by rw [ldB_len, hG]
  have hin : i * n ≤ 36 := Nat.mul_le_mul hi hn
  have w1 : IntKind.i64.wrap ((i : Int) * n) = ((i * n : Nat) : Int) := by rw [wrapI (by rw [← Int.natCast_mul]; omega)]; simp
  have w2 : IntKind.i64.wrap (((i * n : Nat) : Int) + j) = ((i * n + j : Nat) : Int) := by rw [wrapI (by omega)]; simp
  have p1 : (0 : Int) ≤ ((i * n + j : Nat) : Int) := by omega
  have p2 : ((i * n + j : Nat) : Int) < 36 := by omega
  have g0 : (ldB n G)[0]? = some (.int .i64 n) := rfl
  refine Call.ofC Tryd.func53 YtoncolpkpgbfiaaDoor.b53 YtoncolpkpgbfiaaDoor.d53 YtoncolpkpgbfiaaDoor.e53 (by simp [Tryd.f53]) ?_
  dsimp only [YtoncolpkpgbfiaaDoor.c53, Tryd.f53, Option.getD_some]
  simp (maxSteps := 2000000) only [wk0, wk1, wk2, wk3, wk4, wk5, wk6, Fr.ev, Fr.put, Fr.get, storeA, List.replicate, IntKind.bits, sevalprocAttr, hb, ga, gl, g0, w1, w2, p1, p2, Int.toNat_natCast, Nat.mul_one, YtoncolpkpgbfiaaDoor.D53, ty1, ty2, ty3, ty44, ty47, ty91]
  exact retB_plain (by simp [nmd_int]) rfl (by simp)
theorem ldlBounded_ok (n : Int) (S : Heap) : Call theE 112 [.int .i64 n] S (.bool (decide (-4611686018427387903 ≤ n ∧ n ≤ 4611686018427387903))) S := by
  refine Call.ofC Tryd.func112 YtoncolpkpgbfiaaDoor.b112 YtoncolpkpgbfiaaDoor.d112 YtoncolpkpgbfiaaDoor.e112 (by simp [Tryd.f112]) ?_
  dsimp only [YtoncolpkpgbfiaaDoor.c112, Tryd.f112, Option.getD_some]
  by_cases h1 : -4611686018427387903 ≤ n
  · by_cases h2 : n ≤ 4611686018427387903
    · simp (maxSteps := 2000000) only [wk0, wk1, wk2, wk3, wk4, wk5, wk6, Fr.ev, Fr.put, Fr.get, storeA, List.replicate, IntKind.bits, sevalprocAttr, h1, h2, decide_true, YtoncolpkpgbfiaaDoor.D112, ty2, ty4]
      exact retB_plain (by simp [nmd_bool]) (by simp [packA, h1, h2]) (by simp)
    · simp (maxSteps := 2000000) only [wk0, wk1, wk2, wk3, wk4, wk5, wk6, Fr.ev, Fr.put, Fr.get, storeA, List.replicate, IntKind.bits, sevalprocAttr, h1, h2, decide_true, decide_false, YtoncolpkpgbfiaaDoor.D112, ty2, ty4]
      exact retB_plain (by simp [nmd_bool]) (by simp [packA, h1, h2]) (by simp)
  · simp (maxSteps := 2000000) only [wk0, wk1, wk2, wk3, wk4, wk5, wk6, Fr.ev, Fr.put, Fr.get, storeA, List.replicate, IntKind.bits, sevalprocAttr, h1, decide_false, YtoncolpkpgbfiaaDoor.D112, ty2, ty4]
    exact retB_plain (by simp [nmd_bool]) (by simp [packA, h1]) (by simp)
def rightP (i j n : Int) : Prop := (i < j → n = 0) ∧ (i = j → n = 1073741824) ∧ -4611686018427387903 ≤ n ∧ n ≤ 4611686018427387903
instance (i j n : Int) : Decidable (rightP i j n) := by unfold rightP; exact inferInstance
theorem ldlRight_ok (i j n : Int) (S : Heap) : Call theE 86 [.int .i64 i, .int .i64 j, .int .i64 n] S (.bool (decide (rightP i j n))) S := by
  have bo := fun S => ldlBounded_ok n S
  refine Call.ofC Tryd.func86 YtoncolpkpgbfiaaDoor.b86 YtoncolpkpgbfiaaDoor.d86 YtoncolpkpgbfiaaDoor.e86 (by simp [Tryd.f86]) ?_
  dsimp only [YtoncolpkpgbfiaaDoor.c86, Tryd.f86, Option.getD_some]
  by_cases h1 : i < j
  · by_cases h2 : n = 0
    · subst h2
      simp (maxSteps := 2000000) only [wk0, wk1, wk2, wk3, wk4, wk5, wk6, Fr.ev, Fr.put, Fr.get, storeA, List.replicate, IntKind.bits, sevalprocAttr, h1, decide_true, YtoncolpkpgbfiaaDoor.D86, ty2, ty3, ty4]
      exact retB_plain (by simp [nmd_bool]) (by simp [packA, rightP, h1]; omega) (by simp)
    · simp (maxSteps := 2000000) only [wk0, wk1, wk2, wk3, wk4, wk5, wk6, Fr.ev, Fr.put, Fr.get, storeA, List.replicate, IntKind.bits, sevalprocAttr, h1, h2, decide_true, decide_false, YtoncolpkpgbfiaaDoor.D86, ty2, ty3, ty4]
      exact retB_plain (by simp [nmd_bool]) (by simp [packA, rightP, h1, h2]) (by simp)
  · by_cases h2 : i = j
    · by_cases h3 : n = 1073741824
      · subst h3 h2
        simp (maxSteps := 2000000) only [wk0, wk1, wk2, wk3, wk4, wk5, wk6, Fr.ev, Fr.put, Fr.get, storeA, List.replicate, IntKind.bits, sevalprocAttr, h1, decide_true, YtoncolpkpgbfiaaDoor.D86, ty2, ty3, ty4]
        exact retB_plain (by simp [nmd_bool]) (by simp [packA, rightP]) (by simp)
      · subst h2
        simp (maxSteps := 2000000) only [wk0, wk1, wk2, wk3, wk4, wk5, wk6, Fr.ev, Fr.put, Fr.get, storeA, List.replicate, IntKind.bits, sevalprocAttr, h1, h3, decide_true, decide_false, YtoncolpkpgbfiaaDoor.D86, ty2, ty3, ty4]
        exact retB_plain (by simp [nmd_bool]) (by simp [packA, rightP, h3]) (by simp)
    · have h2' : ¬ j = i := fun e => h2 e.symm
      iterate 2
        simp (maxSteps := 2000000) only [wk0, wk1, wk2, wk3, wk4, wk5, wk6, Fr.ev, Fr.put, Fr.get, storeA, List.replicate, IntKind.bits, sevalprocAttr, h1, h2, h2', decide_true, decide_false, YtoncolpkpgbfiaaDoor.D86, ty2, ty3, ty4]
        try first
          | refine callThen_of (bo _) ?_
      exact retB_plain (by simp [nmd_bool]) (by simp [packA, rightP, h1, h2]) (by simp)
end Go.Proofs.YtoncolpkpgbfiaaDoor

/- ldl: what of a matrix's number is left by the factors ahead; what is left of a vector. -/
set_option linter.unusedSimpArgs false
set_option linter.unusedVariables false
set_option maxRecDepth 100000
set_option maxHeartbeats 8000000
namespace Go.Proofs.YtoncolpkpgbfiaaDoor
theorem ldl_tail (S : Heap) (q : Nat) (o : Bool) (L : Heap) (p : Nat) (b : Option Blk) (hp : p ≠ q) (hb : blkAt S p 0 = b) (hs : b.isSome) : blkAt (S.set q (ttA o) ++ L) p 0 = b := by
  obtain ⟨b', rfl⟩ := Option.isSome_iff_exists.1 hs
  apply blk_app
  unfold blkAt at hb ⊢
  rw [List.getElem?_set_ne (Ne.symm hp)]
  exact hb
def cutL (G : List Int) (a j : Nat) : List Int := (G.drop a).take j
theorem cutL_len {G : List Int} {a j : Nat} (h : a + j ≤ G.length) : (cutL G a j).length = j := by simp [cutL]; omega
theorem cutL_in {G : List Int} (h : ∀ x ∈ G, inI x) (a j : Nat) : ∀ x ∈ cutL G a j, inI x := fun x hx => h x (List.mem_of_mem_drop (List.mem_of_mem_take hx))
theorem ldB_sl (S : Heap) (p n a j cap : Nat) (G : List Int) (h : a + j ≤ G.length) (hb : blkAt S p 0 = some ⟨ldB n G, 0⟩) : SlI S (.sl p 0 (1 + a) j cap 1) (cutL G a j) := by
  have hl := cutL_len h
  have := SlI.sl (off := 1 + a) (cap := cap) (l := cutL G a j) hb (by
    rw [hl]
    simp only [ldB, Nat.add_comm 1 a, List.drop_succ_cons, cutL]
    rw [← List.map_drop, ← List.map_take])
  rwa [hl] at this
/-! what is left -/
def lrW (n : Nat) (G : List Int) (j k : Nat) : Int := rnd (G.getD (j * n + k) 0 * G.getD (36 + k) 0) (2 ^ 30)
def lrL (n : Nat) (G : List Int) (j m : Nat) : List Int := (List.range m).map fun k => bndI (lrW n G j k)
def lrO (n : Nat) (G : List Int) (j m : Nat) : Bool := (List.range m).any fun k => ovrB (lrW n G j k)
def lrS (n : Nat) (G : List Int) (i j : Nat) : Int := rnd (dotZ (cutL G (i * n) j) (lrL n G j j)) (2 ^ 30)
def lrV (n : Nat) (G : List Int) (z : Int) (i j : Nat) : Int := bndI (z + -bndI (lrS n G i j))
def lrT (n : Nat) (G : List Int) (z : Int) (i j : Nat) (o : Bool) : Bool := ((o || lrO n G j j) || ovrB (lrS n G i j)) || ovrB (z + -bndI (lrS n G i j))
theorem lrL_len (n : Nat) (G : List Int) (j m : Nat) : (lrL n G j m).length = m := by simp [lrL]
theorem lrL_app (n : Nat) (G : List Int) (j m : Nat) : (lrL n G j m).map (fun x => AV.int .i64 x) ++ [AV.int .i64 (bndI (lrW n G j m))] = (lrL n G j (m + 1)).map fun x => .int .i64 x := by unfold lrL; rw [List.range_succ, List.map_append, List.map_append]; rfl
theorem lrO_app (n : Nat) (G : List Int) (j m : Nat) (o : Bool) : ((o || lrO n G j m) || ovrB (lrW n G j m)) = (o || lrO n G j (m + 1)) := by unfold lrO; rw [List.range_succ, List.any_append]; simp [Bool.or_assoc]
theorem bnd_in (x : Int) : inI (bndI x) := by unfold inI bndI; omega
theorem lrL_in (n : Nat) (G : List Int) (j m : Nat) : ∀ x ∈ lrL n G j m, inI x := by
  intro x hx
  obtain ⟨k, _, rfl⟩ := List.mem_map.1 hx
  exact bnd_in _
theorem getD_in {G : List Int} (h : ∀ x ∈ G, inI x) (k : Nat) : inI (G.getD k 0) := by
  rw [List.getD_eq_getElem?_getD]
  rcases Nat.lt_or_ge k G.length with hk | hk
  · rw [List.getElem?_eq_getElem hk]; exact h _ (List.getElem_mem hk)
  · rw [List.getElem?_eq_none hk]; unfold inI; simp
theorem mks_ok (S : Heap) (j : Nat) (hj : j ≤ 100) (e : Nat) : makeSliceA S (.slice e 1 8 [.int .i64 0]) (.int .i64 0) (.int .i64 j) = some (.sl S.length 0 0 0 j 1, S ++ [some ⟨[], 0⟩]) := by
  unfold makeSliceA
  simp only
  rw [if_pos ⟨by omega, by omega, by unfold maxBytes; omega, by omega, rfl⟩]
  simp [zeros]
noncomputable def c40 : Code := Tryd.f40.body.getD .skip
theorem b40 : Tryd.f40.body = some c40 := rfl
theorem d40 : fnOk Tryd.f40 c40 = true := by kernel_rfl
def D40 : Nat → List Tag
  | 5 => [.pure, .pure, .pure, .pure, .pure, .quiet, .pure, .pure, .pure, .pure, .pure, .pure, .quiet, .pure, .seq, .pure, .seq, .pure]
  | 7 => [.pure, .pure, .pure, .pure, .pure, .pure, .pure, .pure, .pure, .pure, .quiet, .pure, .pure, .pure, .pure, .pure, .quiet, .pure, .pure, .pure, .seq, .pure, .seq, .seq, .pure]
  | _ => []
theorem e40 : drawsOk D40 c40 = true := by kernel_rfl
theorem ldlRest_ok (n i j p q : Nat) (G : List Int) (z : Int) (o : Bool) (S : Heap) (hn : n ≤ 6) (hi : i < n) (hj : j ≤ i) (hG : G.length = 42) (hin : ∀ x ∈ G, inI x) (hz : inI z) (hpq : p ≠ q) (hb : blkAt S p 0 = some ⟨ldB n G, 0⟩) (hq : blkAt S q 0 = ttA o) :
    Call theE 40 [.ptr q 0 0, .ptr p 0 0, .int .i64 z, .int .i64 i, .int .i64 j] S (.int .i64 (lrV n G z i j)) (S.set q (ttA (lrT n G z i j o))) := by
  have lq := blk_lt hq
  have hin1 : i * n + n ≤ 36 := by
    have := Nat.mul_le_mul (show i + 1 ≤ 6 by omega) hn
    rw [Nat.add_mul, Nat.one_mul] at this; exact this
  have bp := fun o L => ldl_tail S q o L p _ hpq hb rfl
  have mks := fun e => mks_ok S j (by omega) e
  have gl : (ldB n G).length = 43 := by rw [ldB_len, hG]
  have e0 : S = S.set q (ttA o) := by
    apply List.ext_getElem?
    intro k
    by_cases hk : k = q
    · subst hk
      rw [List.getElem?_set_self lq]
      unfold ttA blkAt at hq
      cases h : S[k]? with
      | none => rw [h] at hq; cases hq
      | some x =>
        rw [h] at hq
        cases x with
        | none => cases hq
        | some b =>
          simp only [Option.bind_some] at hq
          split at hq
          · cases hq; rfl
          · cases hq
    · rw [List.getElem?_set_ne (Ne.symm hk)]
  refine Call.ofC Tryd.func40 YtoncolpkpgbfiaaDoor.b40 YtoncolpkpgbfiaaDoor.d40 YtoncolpkpgbfiaaDoor.e40 (by simp [Tryd.f40]) ?_
  dsimp only [YtoncolpkpgbfiaaDoor.c40, Tryd.f40, Option.getD_some]
  simp (maxSteps := 2000000) only [wk0, wk1, wk2, wk3, wk4, wk5, wk6, Fr.ev, Fr.put, Fr.get, storeA, List.replicate, IntKind.bits, sevalprocAttr, mks, YtoncolpkpgbfiaaDoor.D40, ty1, ty2, ty3, ty4, ty42, ty44, ty45, ty47, ty91, ty92]
  refine loopC_ind (fun m fr H => ∃ k cap : Nat, k + m = j ∧ fr.get 0 = .ptr q 0 0 ∧ fr.get 1 = .ptr p 0 0 ∧ fr.get 2 = .int .i64 z ∧ fr.get 3 = .int .i64 i ∧ fr.get 4 = .int .i64 j ∧ fr.get 11 = .sl S.length k 0 k cap 1 ∧ fr.get 15 = .int .i64 j ∧ fr.get 16 = .int .i64 k ∧
    H = S.set q (ttA (o || lrO n G j k)) ++ [some ⟨(lrL n G j k).map fun x => .int .i64 x, k⟩]) ?_ (n := j) ⟨0, j, by omega, rfl, rfl, rfl, rfl, rfl, rfl, rfl, rfl, by rw [show (o || lrO n G j 0) = o by simp [lrO], ← e0]; rfl⟩
  rintro m fr H ⟨k, cap, hkm, g0, g1, g2, g3, g4, g11, g15, g16, rfl⟩ ih
  have lq2 : ∀ x : Option Blk, q < (S.set q x).length := fun x => by simpa using lq
  have hjn : j * n + n ≤ 36 := by
    have := Nat.mul_le_mul (show j + 1 ≤ 6 by omega) hn
    rw [Nat.add_mul, Nat.one_mul] at this; exact this
  have g0' : (ldB n G)[0]? = some (.int .i64 n) := rfl
  have bw := fun (x : Option Blk) (L : Heap) (v : Nat) => show blkAt (S.set q x ++ L) S.length v = blkAt L 0 v by
    have := blkAt_app0 (S := S.set q x) (L := L) (v := v)
    rwa [List.length_set] at this
  have sw0 := fun (x : Option Blk) (L : Heap) (y : Option Blk) => show (S.set q x ++ L).set S.length y = S.set q x ++ L.set 0 y by
    rw [List.set_append_right _ _ (by simp), List.length_set, Nat.sub_self]
  by_cases hk : (k : Int) < j
  · have hkj : k < j := by omega
    have c1 := fun o L => ldlAt_ok n j k p G (S.set q (ttA o) ++ L) hn hG (by omega) (by omega) (by omega) (bp o L)
    have c2 := fun o L => ldlDot_ok _ _ [G.getD (j * n + k) 0] [G.getD (36 + k) 0] 30 q o (S.set q (ttA o) ++ L) (SlI.lst _) (SlI.lst _) (by omega) rfl (by simp) (by simpa using getD_in hin _) (by simpa using getD_in hin _) (tt_blk lq L)
    simp only [show ∀ a b : Int, dotZ [a] [b] = a * b from fun a b => by simp [dotZ], tt_set (lq2 _), List.set_set, List.map_cons, List.map_nil, List.length_cons, List.length_nil, Nat.zero_add] at c2
    change ∀ o L, Call theE _ [_, _, _, .int .i64 30] _ (.int .i64 (bndI (lrW n G j k))) (S.set q (ttA (o || ovrB (lrW n G j k))) ++ L) at c2
    have ga : (ldB n G)[37 + k]? = some (.int .i64 (G.getD (36 + k) 0)) := by rw [← ldB_at n G (36 + k) (by omega), show 1 + (36 + k) = 37 + k by omega]
    have ap := lrL_app n G j k
    have al := lrL_len n G j k
    have ro := lrO_app n G j k o
    have a1 : (k + 1) * 8 ≤ maxBytes := by unfold maxBytes; omega
    have a2 : k + 1 ≤ 9223372036854775807 := by omega
    have wi : IntKind.i64.wrap ((k : Int) + 1) = ((k + 1 : Nat) : Int) := wrapI (by omega)
    have p1 : (0 : Int) ≤ k := by omega
    have p2 : (k : Int) < 6 := by omega
    iterate 3
      simp (maxSteps := 2000000) only [wk0, wk1, wk2, wk3, wk4, wk5, wk6, Fr.ev, Fr.put, Fr.get, storeA, List.replicate, IntKind.bits, sevalprocAttr, g0, g1, g2, g3, g4, g11, g15, g16, hk, bp, ga, gl, p1, p2, wi, ap, al, a1, a2, ro, bw, sw0, List.set_cons_zero, Int.toNat_natCast, Nat.mul_one, List.length_map, List.length_set, YtoncolpkpgbfiaaDoor.D40, ty1, ty2, ty3, ty4, ty42, ty44, ty45, ty47, ty91, ty92]
      try first
        | refine callThen_of (c1 _ _) ?_
        | refine callThen_of (c2 _ _) ?_
    exact ih (m - 1) _ _ (by omega) ⟨k + 1, k + 1, by omega, by simp [Fr.get, g0], by simp [Fr.get, g1], by simp [Fr.get, g2], by simp [Fr.get, g3], by simp [Fr.get, g4], by simp [Fr.get], by simp [Fr.get, g15], by simp [Fr.get], rfl⟩
  · obtain rfl : k = j := by omega
    have w1 : IntKind.i64.wrap ((i : Int) * n) = ((i * n : Nat) : Int) := by rw [wrapI (by rw [← Int.natCast_mul]; omega)]; simp
    have w2 : IntKind.i64.wrap (((i * n : Nat) : Int) + k) = ((i * n + k : Nat) : Int) := by rw [wrapI (by omega)]; simp
    have k1 : (0 : Int) ≤ ((i * n : Nat) : Int) := by omega
    have k2 : ((i * n : Nat) : Int) ≤ ((i * n + k : Nat) : Int) := by omega
    have k3 : ((i * n + k : Nat) : Int) ≤ 36 := by omega
    have k5 : i * n + k - i * n = k := by omega
    have sl := fun o L => ldB_sl (S.set q (ttA o) ++ L) p n (i * n) k (36 - i * n) G (by omega) (bp o L)
    have sw := fun o L => SlI.sl (S := S.set q (ttA o) ++ some ⟨(lrL n G k k).map fun x => .int .i64 x, k⟩ :: L) (id := S.length) (ver := k) (off := 0) (cap := cap) (l := lrL n G k k) (b := ⟨(lrL n G k k).map fun x => .int .i64 x, k⟩) (by
      have := blkAt_app0 (S := S.set q (ttA o)) (L := some ⟨(lrL n G k k).map fun x => AV.int .i64 x, k⟩ :: L) (v := k)
      rw [List.length_set] at this
      rw [this, blkAt_zero]) (by rw [List.drop_zero, List.take_of_length_le (by simp)])
    rw [lrL_len] at sw
    have c3 := fun o L => ldlLess_ok z (bndI (lrS n G i k)) q o (S.set q (ttA o) ++ L) hz (bnd_in _) (tt_blk lq L)
    simp only [tt_set (lq2 _), List.set_set] at c3
    have fin := fun (x : Option Blk) (L : Heap) => show S.set q x = (S.set q x ++ L).take S.length by
      rw [List.take_left' (by simp)]
    by_cases hk0 : k = 0
    · subst hk0
      have w0 : IntKind.i64.wrap (((i * n : Nat) : Int) + 0) = ((i * n : Nat) : Int) := by rw [Int.add_zero, wrapI (by omega)]
      have k3' : ((i * n : Nat) : Int) ≤ 36 := by omega
      have c2 := fun o L => ldlDot_ok _ _ (cutL G (i * n) 0) (lrL n G 0 0) 30 q o (S.set q (ttA o) ++ some ⟨(lrL n G 0 0).map fun x => .int .i64 x, 0⟩ :: L) (SlI.lst _) (sw o L) (by omega) rfl (by simp [cutL]) (cutL_in hin _ _) (lrL_in _ _ _ _) (tt_blk lq _)
      simp only [tt_set (lq2 _), List.set_set] at c2
      change ∀ o L, Call theE _ [_, .lst [] 0, _, .int .i64 30] _ (.int .i64 (bndI (lrS n G i 0))) (S.set q (ttA (o || ovrB (lrS n G i 0))) ++ _) at c2
      iterate 3
        simp (maxSteps := 2000000) only [wk0, wk1, wk2, wk3, wk4, wk5, wk6, Fr.ev, Fr.put, Fr.get, storeA, List.replicate, IntKind.bits, sevalprocAttr, g0, g1, g2, g3, g4, g11, g15, g16, hk, bp, g0', gl, w1, w0, k1, k3', Int.le_refl, sa_arr, bd_none, bd_some, bv_int, Int.toNat_natCast, Nat.mul_one, List.length_map, List.length_set, YtoncolpkpgbfiaaDoor.D40, ty1, ty2, ty3, ty4, ty42, ty44, ty45, ty47, ty91, ty92]
        try first
          | refine callThen_of (c2 _ _) ?_
          | refine callThen_of (c3 _ _) ?_
      exact retB_plain (by simp [nmd_int]) rfl (fin _ _)
    · have k4 : ¬ ((i * n : Nat) : Int) = ((i * n + k : Nat) : Int) := by omega
      have c2 := fun o L => ldlDot_ok _ _ (cutL G (i * n) k) (lrL n G k k) 30 q o (S.set q (ttA o) ++ some ⟨(lrL n G k k).map fun x => .int .i64 x, k⟩ :: L) (sl o _) (sw o L) (by omega) (by rw [cutL_len (by omega), lrL_len]) (by rw [cutL_len (by omega)]; omega) (cutL_in hin _ _) (lrL_in _ _ _ _) (tt_blk lq _)
      simp only [tt_set (lq2 _), List.set_set] at c2
      change ∀ o L, Call theE _ [_, _, _, .int .i64 30] _ (.int .i64 (bndI (lrS n G i k))) (S.set q (ttA (o || ovrB (lrS n G i k))) ++ _) at c2
      iterate 3
        simp (maxSteps := 2000000) only [wk0, wk1, wk2, wk3, wk4, wk5, wk6, Fr.ev, Fr.put, Fr.get, storeA, List.replicate, IntKind.bits, sevalprocAttr, g0, g1, g2, g3, g4, g11, g15, g16, hk, bp, g0', gl, w1, w2, k1, k2, k3, k4, k5, sa_arr, bd_none, bd_some, bv_int, Int.toNat_natCast, Nat.mul_one, List.length_map, List.length_set, YtoncolpkpgbfiaaDoor.D40, ty1, ty2, ty3, ty4, ty42, ty44, ty45, ty47, ty91, ty92]
        try first
          | refine callThen_of (c2 _ _) ?_
          | refine callThen_of (c3 _ _) ?_
      exact retB_plain (by simp [nmd_int]) rfl (fin _ _)
end Go.Proofs.YtoncolpkpgbfiaaDoor

/- ldl: whether factors may be. -/
set_option linter.unusedSimpArgs false
set_option linter.unusedVariables false
set_option maxRecDepth 100000
set_option maxHeartbeats 8000000
namespace Go.Proofs.YtoncolpkpgbfiaaDoor
def okG (n : Nat) (G : List Int) (k : Nat) : Prop := if n * n ≤ k then G.getD k 0 = 0 else rightP ((k / n : Nat) : Int) ((k % n : Nat) : Int) (G.getD k 0)
instance (n : Nat) (G : List Int) (k : Nat) : Decidable (okG n G k) := by unfold okG; exact inferInstance
def okD (n : Nat) (G : List Int) (k : Nat) : Prop := if n ≤ k then G.getD (36 + k) 0 = 0 else 1 ≤ G.getD (36 + k) 0 ∧ G.getD (36 + k) 0 ≤ 4611686018427387903
instance (n : Nat) (G : List Int) (k : Nat) : Decidable (okD n G k) := by unfold okD; exact inferInstance
def FineF (n : Nat) (G : List Int) : Prop := (∀ k, k < 36 → okG n G k) ∧ ∀ k, k < 6 → okD n G k
theorem gm_at (G : List Int) (k : Nat) (h : k < G.length) : (G.map fun x => AV.int .i64 x)[k]? = some (.int .i64 (G.getD k 0)) := by
  rw [List.getElem?_map, List.getElem?_eq_getElem h, Option.map_some, List.getD_eq_getElem?_getD, List.getElem?_eq_getElem h]
  rfl
noncomputable def c49 : Code := Tryd.f49.body.getD .skip
theorem b49 : Tryd.f49.body = some c49 := rfl
theorem d49 : fnOk Tryd.f49 c49 = true := by kernel_rfl
def D49 : Nat → List Tag
  | 6 => [.pure, .pure, .quiet, .pure, .quiet, .pure, .pure, .pure, .pure, .pure, .pure, .pure, .pure, .pure, .quiet, .pure, .quiet, .pure, .pure, .pure, .pure, .pure, .quiet, .pure, .pure, .pure, .quiet, .pure, .pure, .seq, .pure, .pure, .pure]
  | _ => []
theorem e49 : drawsOk D49 c49 = true := by kernel_rfl
theorem ldlCheck_size (n : Int) (G : List Int) (S : Heap) (hG : G.length = 42) (h : ¬ (1 ≤ n ∧ n ≤ 6)) : Call theE 49 [.agg (ldB n G)] S (errA 1) S := by
  have gl : (ldB n G).length = 43 := by rw [ldB_len, hG]
  have g0 : (ldB n G)[0]? = some (.int .i64 n) := rfl
  have tl : List.take 43 (ldB n G) = ldB n G := List.take_of_length_le (by omega)
  refine Call.ofC Tryd.func49 YtoncolpkpgbfiaaDoor.b49 YtoncolpkpgbfiaaDoor.d49 YtoncolpkpgbfiaaDoor.e49 (by simp [Tryd.f49]) ?_
  dsimp only [YtoncolpkpgbfiaaDoor.c49, Tryd.f49, Option.getD_some]
  by_cases h1 : n < 1
  · simp (maxSteps := 2000000) only [wk0, wk1, wk2, wk3, wk4, wk5, wk6, Fr.ev, Fr.put, Fr.get, storeA, List.replicate, IntKind.bits, sevalprocAttr, gl, g0, tl, h1, decide_true, YtoncolpkpgbfiaaDoor.D49, ty1, ty2, ty3, ty4, ty30, ty44, ty45, ty47, ty75]
    exact retB_plain (by simp [nmd_ifc, nmd_int]) rfl (by simp)
  · have h2 : 6 < n := by omega
    simp (maxSteps := 2000000) only [wk0, wk1, wk2, wk3, wk4, wk5, wk6, Fr.ev, Fr.put, Fr.get, storeA, List.replicate, IntKind.bits, sevalprocAttr, gl, g0, tl, h1, h2, decide_true, decide_false, YtoncolpkpgbfiaaDoor.D49, ty1, ty2, ty3, ty4, ty30, ty44, ty45, ty47, ty75]
    exact retB_plain (by simp [nmd_ifc, nmd_int]) rfl (by simp)
theorem ldlCheck_ok (n : Nat) (G : List Int) (S : Heap) (hG : G.length = 42) (h : 1 ≤ n ∧ n ≤ 6) (v : AV) (hv : FineF n G ∧ v = .nili ∨ ¬ FineF n G ∧ v = errA 1) : Call theE 49 [.agg (ldB n G)] S v S := by
  have gl : (ldB n G).length = 43 := by rw [ldB_len, hG]
  have g0 : (ldB n G)[0]? = some (.int .i64 n) := rfl
  have tl : List.take 43 (ldB n G) = ldB n G := List.take_of_length_le (by omega)
  have t1 : List.take 36 (List.drop 1 (ldB n G)) = (G.take 36).map fun x => .int .i64 x := by rw [List.map_take]; rfl
  have t2 : List.take 6 (List.drop 37 (ldB n G)) = (G.drop 36).map fun x => .int .i64 x := by rw [List.take_of_length_le (by simp [gl]), List.map_drop]; rfl
  have h1 : ¬ (n : Int) < 1 := by omega
  have h2 : ¬ (6 : Int) < n := by omega
  have hnn : n * n ≤ 36 := Nat.mul_le_mul h.2 h.2
  have wn : IntKind.i64.wrap ((n : Int) * n) = ((n * n : Nat) : Int) := by rw [wrapI (by rw [← Int.natCast_mul]; omega)]; simp
  have n0 : ¬ (n : Int) = 0 := by omega
  refine Call.ofC Tryd.func49 YtoncolpkpgbfiaaDoor.b49 YtoncolpkpgbfiaaDoor.d49 YtoncolpkpgbfiaaDoor.e49 (by simp [Tryd.f49]) ?_
  dsimp only [YtoncolpkpgbfiaaDoor.c49, Tryd.f49, Option.getD_some]
  simp (maxSteps := 2000000) only [wk0, wk1, wk2, wk3, wk4, wk5, wk6, Fr.ev, Fr.put, Fr.get, storeA, List.replicate, IntKind.bits, sevalprocAttr, gl, g0, tl, t1, h1, h2, decide_false, YtoncolpkpgbfiaaDoor.D49, ty1, ty2, ty3, ty4, ty30, ty44, ty45, ty47, ty75]
  refine loopC_ind (fun m fr H => ∃ i : Nat, i + m = 36 ∧ fr.get 18 = .int .i64 (i : Int) ∧ fr.get 17 = .agg ((G.take 36).map fun x => .int .i64 x) ∧ fr.get 1 = .ptr S.length 0 0 ∧ (∃ L, H = S ++ some ⟨ldB n G, 0⟩ :: L) ∧ ∀ q, q < i → okG n G q) ?_ (n := 36) ⟨0, by omega, rfl, rfl, rfl, ⟨_, rfl⟩, fun q hq => by omega⟩
  rintro m fr H ⟨i, him, g18, g17, g1, ⟨L, rfl⟩, hq⟩ ih
  by_cases hi : (i : Int) < 36
  · have hin : i < 36 := by omega
    have p1 : (0 : Int) ≤ i := by omega
    have ga := gm_at (G.take 36) i (by simp; omega)
    rw [show (G.take 36).getD i 0 = G.getD i 0 by rw [List.getD_eq_getElem?_getD, List.getD_eq_getElem?_getD, List.getElem?_take_of_lt hin]] at ga
    have wi : IntKind.i64.wrap ((i : Int) + 1) = ((i + 1 : Nat) : Int) := wrapI (by omega)
    have ex : okG n G i → ∀ q, q < i + 1 → okG n G q := fun hk q hl => by
      by_cases e : q = i
      · subst e; exact hk
      · exact hq q (by omega)
    by_cases hb : n * n ≤ i
    · have b1 : ((n * n : Nat) : Int) ≤ i := by omega
      have b2 : ¬ (i : Int) < ((n * n : Nat) : Int) := by omega
      by_cases hz : G.getD i 0 = 0
      · have hk : okG n G i := by unfold okG; rw [if_pos hb]; exact hz
        have ex2 := ex hk
        rw [hz] at ga
        simp (maxSteps := 2000000) only [wk0, wk1, wk2, wk3, wk4, wk5, wk6, Fr.ev, Fr.put, Fr.get, storeA, List.replicate, IntKind.bits, sevalprocAttr, g18, g17, g1, gl, g0, hi, p1, ga, wi, wn, b1, b2, Int.toNat_natCast, Nat.mul_one, decide_true, decide_false, YtoncolpkpgbfiaaDoor.D49, ty1, ty2, ty3, ty4, ty30, ty44, ty45, ty47, ty75]
        exact ih (m - 1) _ _ (by omega) ⟨i + 1, by omega, by simp [Fr.get], by simp [Fr.get, g17], by simp [Fr.get, g1], ⟨_, rfl⟩, ex2⟩
      · have hk : ¬ okG n G i := by unfold okG; rw [if_pos hb]; exact hz
        rcases hv with hv | ⟨-, rfl⟩
        · exact absurd (hv.1.1 i hin) hk
        simp (maxSteps := 2000000) only [wk0, wk1, wk2, wk3, wk4, wk5, wk6, Fr.ev, Fr.put, Fr.get, storeA, List.replicate, IntKind.bits, sevalprocAttr, g18, g17, g1, gl, g0, hi, p1, ga, wi, wn, b1, b2, hz, Int.toNat_natCast, Nat.mul_one, decide_true, decide_false, YtoncolpkpgbfiaaDoor.D49, ty1, ty2, ty3, ty4, ty30, ty44, ty45, ty47, ty75]
        exact retB_plain (by simp [nmd_ifc, nmd_int, errA]) rfl (by simp)
    · have b1 : ¬ ((n * n : Nat) : Int) ≤ i := by omega
      have b2 : (i : Int) < ((n * n : Nat) : Int) := by omega
      have td : (i : Int).tdiv n = ((i / n : Nat) : Int) := by rw [Int.tdiv_eq_ediv_of_nonneg p1]; exact (Int.natCast_ediv i n).symm
      have tm : (i : Int).tmod n = ((i % n : Nat) : Int) := by rw [Int.tmod_eq_emod_of_nonneg p1]; exact (Int.natCast_emod i n).symm
      have c1 := fun S => ldlRight_ok ((i / n : Nat) : Int) ((i % n : Nat) : Int) (G.getD i 0) S
      have wd : IntKind.i64.wrap ((i / n : Nat) : Int) = ((i / n : Nat) : Int) := by
        have dl := Nat.div_le_self i n
        generalize i / n = d at dl ⊢
        exact wrapI (by omega)
      by_cases hr : rightP ((i / n : Nat) : Int) ((i % n : Nat) : Int) (G.getD i 0)
      · have hk : okG n G i := by unfold okG; rw [if_neg hb]; exact hr
        have ex2 := ex hk
        rw [decide_eq_true hr] at c1
        iterate 2
          simp (maxSteps := 2000000) only [wk0, wk1, wk2, wk3, wk4, wk5, wk6, Fr.ev, Fr.put, Fr.get, storeA, List.replicate, IntKind.bits, sevalprocAttr, g18, g17, g1, gl, g0, hi, p1, ga, wi, wn, wd, n0, td, tm, b1, b2, Int.toNat_natCast, Nat.mul_one, decide_true, decide_false, YtoncolpkpgbfiaaDoor.D49, ty1, ty2, ty3, ty4, ty30, ty44, ty45, ty47, ty75]
          try first
            | refine callThen_of (c1 _) ?_
        exact ih (m - 1) _ _ (by omega) ⟨i + 1, by omega, by simp [Fr.get], by simp [Fr.get, g17], by simp [Fr.get, g1], ⟨_, rfl⟩, ex2⟩
      · have hk : ¬ okG n G i := by unfold okG; rw [if_neg hb]; exact hr
        rcases hv with hv | ⟨-, rfl⟩
        · exact absurd (hv.1.1 i hin) hk
        rw [decide_eq_false hr] at c1
        iterate 2
          simp (maxSteps := 2000000) only [wk0, wk1, wk2, wk3, wk4, wk5, wk6, Fr.ev, Fr.put, Fr.get, storeA, List.replicate, IntKind.bits, sevalprocAttr, g18, g17, g1, gl, g0, hi, p1, ga, wi, wn, wd, n0, td, tm, b1, b2, Int.toNat_natCast, Nat.mul_one, decide_true, decide_false, YtoncolpkpgbfiaaDoor.D49, ty1, ty2, ty3, ty4, ty30, ty44, ty45, ty47, ty75]
          try first
            | refine callThen_of (c1 _) ?_
        exact retB_plain (by simp [nmd_ifc, nmd_int, errA]) rfl (by simp)
  · obtain rfl : i = 36 := by omega
    simp (maxSteps := 2000000) only [wk0, wk1, wk2, wk3, wk4, wk5, wk6, Fr.ev, Fr.put, Fr.get, storeA, List.replicate, IntKind.bits, sevalprocAttr, g18, g17, g1, gl, g0, hi, t2, YtoncolpkpgbfiaaDoor.D49, ty1, ty2, ty3, ty4, ty30, ty44, ty45, ty47, ty75]
    refine loopC_ind (fun m fr H => ∃ i : Nat, i + m = 6 ∧ fr.get 59 = .int .i64 (i : Int) ∧ fr.get 58 = .agg ((G.drop 36).map fun x => .int .i64 x) ∧ fr.get 1 = .ptr S.length 0 0 ∧ (∃ L, H = S ++ some ⟨ldB n G, 0⟩ :: L) ∧ ∀ q, q < i → okD n G q) ?_ (n := 6) ⟨0, by omega, rfl, rfl, by simp [Fr.get, g1], ⟨_, rfl⟩, fun q hq => by omega⟩
    clear g18 g17 g1
    rintro m fr H ⟨i, him, g59, g58, g1, ⟨L, rfl⟩, hd⟩ ih
    by_cases hi : (i : Int) < 6
    · have hin : i < 6 := by omega
      have p1 : (0 : Int) ≤ i := by omega
      have ga := gm_at (G.drop 36) i (by simp; omega)
      rw [show (G.drop 36).getD i 0 = G.getD (36 + i) 0 by rw [List.getD_eq_getElem?_getD, List.getD_eq_getElem?_getD, List.getElem?_drop]] at ga
      have wi : IntKind.i64.wrap ((i : Int) + 1) = ((i + 1 : Nat) : Int) := wrapI (by omega)
      have ex : okD n G i → ∀ q, q < i + 1 → okD n G q := fun hk q hl => by
        by_cases e : q = i
        · subst e; exact hk
        · exact hd q (by omega)
      by_cases hb : n ≤ i
      · have b1 : (n : Int) ≤ i := by omega
        have b2 : ¬ (i : Int) < n := by omega
        by_cases hz : G.getD (36 + i) 0 = 0
        · have hk : okD n G i := by unfold okD; rw [if_pos hb]; exact hz
          have ex2 := ex hk
          rw [hz] at ga
          simp (maxSteps := 2000000) only [wk0, wk1, wk2, wk3, wk4, wk5, wk6, Fr.ev, Fr.put, Fr.get, storeA, List.replicate, IntKind.bits, sevalprocAttr, g59, g58, g1, gl, g0, hi, p1, ga, wi, b1, b2, Int.toNat_natCast, Nat.mul_one, decide_true, decide_false, YtoncolpkpgbfiaaDoor.D49, ty1, ty2, ty3, ty4, ty30, ty44, ty45, ty47, ty75]
          exact ih (m - 1) _ _ (by omega) ⟨i + 1, by omega, by simp [Fr.get], by simp [Fr.get, g58], by simp [Fr.get, g1], ⟨_, rfl⟩, ex2⟩
        · have hk : ¬ okD n G i := by unfold okD; rw [if_pos hb]; exact hz
          rcases hv with hv | ⟨-, rfl⟩
          · exact absurd (hv.1.2 i hin) hk
          simp (maxSteps := 2000000) only [wk0, wk1, wk2, wk3, wk4, wk5, wk6, Fr.ev, Fr.put, Fr.get, storeA, List.replicate, IntKind.bits, sevalprocAttr, g59, g58, g1, gl, g0, hi, p1, ga, wi, b1, b2, hz, Int.toNat_natCast, Nat.mul_one, decide_true, decide_false, YtoncolpkpgbfiaaDoor.D49, ty1, ty2, ty3, ty4, ty30, ty44, ty45, ty47, ty75]
          exact retB_plain (by simp [nmd_ifc, nmd_int, errA]) rfl (by simp)
      · have b1 : ¬ (n : Int) ≤ i := by omega
        have b2 : (i : Int) < n := by omega
        by_cases d1 : G.getD (36 + i) 0 < 1
        · have hk : ¬ okD n G i := by unfold okD; rw [if_neg hb]; omega
          rcases hv with hv | ⟨-, rfl⟩
          · exact absurd (hv.1.2 i hin) hk
          simp (maxSteps := 2000000) only [wk0, wk1, wk2, wk3, wk4, wk5, wk6, Fr.ev, Fr.put, Fr.get, storeA, List.replicate, IntKind.bits, sevalprocAttr, g59, g58, g1, gl, g0, hi, p1, ga, wi, b1, b2, d1, Int.toNat_natCast, Nat.mul_one, decide_true, decide_false, YtoncolpkpgbfiaaDoor.D49, ty1, ty2, ty3, ty4, ty30, ty44, ty45, ty47, ty75]
          exact retB_plain (by simp [nmd_ifc, nmd_int, errA]) rfl (by simp)
        · by_cases d2 : 4611686018427387903 < G.getD (36 + i) 0
          · have hk : ¬ okD n G i := by unfold okD; rw [if_neg hb]; omega
            rcases hv with hv | ⟨-, rfl⟩
            · exact absurd (hv.1.2 i hin) hk
            simp (maxSteps := 2000000) only [wk0, wk1, wk2, wk3, wk4, wk5, wk6, Fr.ev, Fr.put, Fr.get, storeA, List.replicate, IntKind.bits, sevalprocAttr, g59, g58, g1, gl, g0, hi, p1, ga, wi, b1, b2, d1, d2, Int.toNat_natCast, Nat.mul_one, decide_true, decide_false, YtoncolpkpgbfiaaDoor.D49, ty1, ty2, ty3, ty4, ty30, ty44, ty45, ty47, ty75]
            exact retB_plain (by simp [nmd_ifc, nmd_int, errA]) rfl (by simp)
          · have hk : okD n G i := by unfold okD; rw [if_neg hb]; omega
            have ex2 := ex hk
            simp (maxSteps := 2000000) only [wk0, wk1, wk2, wk3, wk4, wk5, wk6, Fr.ev, Fr.put, Fr.get, storeA, List.replicate, IntKind.bits, sevalprocAttr, g59, g58, g1, gl, g0, hi, p1, ga, wi, b1, b2, d1, d2, Int.toNat_natCast, Nat.mul_one, decide_true, decide_false, YtoncolpkpgbfiaaDoor.D49, ty1, ty2, ty3, ty4, ty30, ty44, ty45, ty47, ty75]
            exact ih (m - 1) _ _ (by omega) ⟨i + 1, by omega, by simp [Fr.get], by simp [Fr.get, g58], by simp [Fr.get, g1], ⟨_, rfl⟩, ex2⟩
    · obtain rfl : i = 6 := by omega
      rcases hv with ⟨-, rfl⟩ | hv
      · simp (maxSteps := 2000000) only [wk0, wk1, wk2, wk3, wk4, wk5, wk6, Fr.ev, Fr.put, Fr.get, storeA, List.replicate, IntKind.bits, sevalprocAttr, g59, g58, g1, hi, YtoncolpkpgbfiaaDoor.D49, ty1, ty2, ty3, ty4, ty30, ty44, ty45, ty47, ty75]
        exact retB_plain (by simp [nmd_nili]) rfl (by simp)
      · exact absurd ⟨hq, hd⟩ hv.1
end Go.Proofs.YtoncolpkpgbfiaaDoor

/- ldl: what is left of a vector by the numbers below the ones. -/
set_option linter.unusedSimpArgs false
set_option linter.unusedVariables false
set_option maxRecDepth 100000
set_option maxHeartbeats 8000000
namespace Go.Proofs.YtoncolpkpgbfiaaDoor
def dnS (n : Nat) (G : List Int) (i : Nat) (y : List Int) : Int := rnd (dotZ (cutL G (i * n) i) y) (2 ^ 30)
def dnY (n : Nat) (G l : List Int) : Nat → List Int
  | 0 => []
  | i + 1 => dnY n G l i ++ [bndI (l.getD i 0 + -bndI (dnS n G i (dnY n G l i)))]
def dnT (n : Nat) (G l : List Int) (o : Bool) : Nat → Bool
  | 0 => o
  | i + 1 => (dnT n G l o i || ovrB (dnS n G i (dnY n G l i))) || ovrB (l.getD i 0 + -bndI (dnS n G i (dnY n G l i)))
theorem dnY_len (n : Nat) (G l : List Int) (i : Nat) : (dnY n G l i).length = i := by
  induction i with
  | zero => rfl
  | succ i ih => simp [dnY, ih]
theorem dnY_in (n : Nat) (G l : List Int) (i : Nat) : ∀ x ∈ dnY n G l i, inI x := by
  induction i with
  | zero => intro x hx; simp [dnY] at hx
  | succ i ih =>
    intro x hx
    rcases List.mem_append.1 hx with h | h
    · exact ih x h
    · rw [List.mem_singleton.1 h]; exact bnd_in _
noncomputable def c50 : Code := Tryd.f50.body.getD .skip
theorem b50 : Tryd.f50.body = some c50 := rfl
theorem d50 : fnOk Tryd.f50 c50 = true := by kernel_rfl
def D50 : Nat → List Tag
  | 5 => [.pure, .pure, .pure, .pure, .pure, .look, .pure, .pure, .pure, .pure, .pure, .pure, .pure, .pure, .quiet, .pure, .pure, .pure, .pure, .pure, .quiet, .pure, .pure, .pure, .quiet, .pure, .mark, .seq, .pure, .seq, .pure]
  | _ => []
theorem e50 : drawsOk D50 c50 = true := by kernel_rfl
theorem tt_id {S : Heap} {q : Nat} {o : Bool} (hq : blkAt S q 0 = ttA o) : S = S.set q (ttA o) := by
  have lq := blk_lt hq
  apply List.ext_getElem?
  intro k
  by_cases hk : k = q
  · subst hk
    rw [List.getElem?_set_self lq]
    unfold ttA blkAt at hq
    cases h : S[k]? with
    | none => rw [h] at hq; cases hq
    | some x =>
      rw [h] at hq
      cases x with
      | none => cases hq
      | some b =>
        simp only [Option.bind_some] at hq
        split at hq
        · cases hq; rfl
        · cases hq
  · rw [List.getElem?_set_ne (Ne.symm hk)]
theorem tt_sb {S : Heap} {q : Nat} (lq : q < S.length) (o p : Bool) (L : Heap) : sameBut (S.set q (ttA o) ++ L) (S.set q (ttA p) ++ L) := by
  have h := tt_blk (o := o) lq L
  have := tt_same (p := p) h
  rwa [tt_set (by simpa using lq), List.set_set] at this
/-- A slice of numbers that is read while a tally changes. -/
structure VecQ (S : Heap) (q : Nat) (v : AV) (l : List Int) : Prop where
  sl : ∀ o, SlI (S.set q (ttA o)) v l
  lk : ∀ o L k, k < l.length → lookV false (S.set q (ttA o) ++ L) (adrI v k)
theorem VecQ.lst (S : Heap) (q : Nat) (l : List Int) : VecQ S q (.lst (l.map fun x => .int .i64 x) l.length) l := ⟨fun _ => SlI.lst l, fun _ _ _ _ => trivial⟩
theorem VecQ.own {S : Heap} {q id cap ver : Nat} {l : List Int} (hb : blkAt S id ver = some ⟨l.map fun x => .int .i64 x, ver⟩) (hq : id ≠ q) : VecQ S q (.sl id ver 0 l.length cap 1) l := by
  have h : ∀ o, blkAt (S.set q (ttA o)) id ver = some ⟨l.map fun x => .int .i64 x, ver⟩ := fun o => by
    unfold blkAt at hb ⊢
    rw [List.getElem?_set_ne (Ne.symm hq)]
    exact hb
  refine ⟨fun o => SlI.sl (h o) (by rw [List.drop_zero, List.take_of_length_le (by simp)]), fun o L k hk => ?_⟩
  have := blk_app (L := L) (h o)
  unfold adrI
  rw [lv_ptr, this, lb_look]
  cases l with
  | nil => rfl
  | cons x l => rfl
theorem ldlDown_ok (n p q : Nat) (G : List Int) (v : AV) (l : List Int) (o : Bool) (S : Heap) (hn : 1 ≤ n ∧ n ≤ 6) (hG : G.length = 42) (hin : ∀ x ∈ G, inI x) (hl : l.length = n) (hlin : ∀ x ∈ l, inI x) (hpq : p ≠ q) (hb : blkAt S p 0 = some ⟨ldB n G, 0⟩) (hq : blkAt S q 0 = ttA o) (hv : VecQ S q v l) :
    Call theE 50 [.ptr q 0 0, .ptr p 0 0, v] S (.sl S.length n 0 n n 1) (S.set q (ttA (dnT n G l o n)) ++ [some ⟨(dnY n G l n).map fun x => .int .i64 x, n⟩]) := by
  have lq := blk_lt hq
  have bp := fun o L => ldl_tail S q o L p _ hpq hb rfl
  have mks := fun e => mks_ok S n (by omega) e
  have gl : (ldB n G).length = 43 := by rw [ldB_len, hG]
  have g0' : (ldB n G)[0]? = some (.int .i64 n) := rfl
  have vm := (hv.sl false).mv
  have lq2 : ∀ x : Option Blk, q < (S.set q x).length := fun x => by simpa using lq
  have bw := fun (x : Option Blk) (L : Heap) (v : Nat) => show blkAt (S.set q x ++ L) S.length v = blkAt L 0 v by
    have := blkAt_app0 (S := S.set q x) (L := L) (v := v)
    rwa [List.length_set] at this
  have sw0 := fun (x : Option Blk) (L : Heap) (y : Option Blk) => show (S.set q x ++ L).set S.length y = S.set q x ++ L.set 0 y by
    rw [List.set_append_right _ _ (by simp), List.length_set, Nat.sub_self]
  have hb0 : ∀ L, blkAt (S ++ L) p 0 = some ⟨ldB n G, 0⟩ := fun L => blk_app hb
  refine Call.ofC Tryd.func50 YtoncolpkpgbfiaaDoor.b50 YtoncolpkpgbfiaaDoor.d50 YtoncolpkpgbfiaaDoor.e50 (by simp [Tryd.f50]) ?_
  dsimp only [YtoncolpkpgbfiaaDoor.c50, Tryd.f50, Option.getD_some]
  simp (maxSteps := 2000000) only [wk0, wk1, wk2, wk3, wk4, wk5, wk6, Fr.ev, Fr.put, Fr.get, storeA, List.replicate, IntKind.bits, sevalprocAttr, mks, vm, hb, hb0, g0', gl, YtoncolpkpgbfiaaDoor.D50, ty1, ty2, ty3, ty4, ty42, ty44, ty47, ty91, ty92]
  refine loopC_ind (fun m fr H => ∃ k cap : Nat, k + m = n ∧ (cap = if k = 0 then n else k) ∧ fr.get 0 = .ptr q 0 0 ∧ fr.get 1 = .ptr p 0 0 ∧ fr.get 2 = v ∧ fr.get 7 = .sl S.length k 0 k cap 1 ∧ fr.get 17 = .int .i64 n ∧ fr.get 18 = .int .i64 k ∧
    H = S.set q (ttA (dnT n G l o k)) ++ [some ⟨(dnY n G l k).map fun x => .int .i64 x, k⟩]) ?_ (n := n) ⟨0, n, by omega, rfl, rfl, rfl, rfl, rfl, rfl, rfl, by rw [show dnT n G l o 0 = o from rfl, ← tt_id hq]; rfl⟩
  rintro m fr H ⟨k, cap, hkm, hcap, g0, g1, g2, g7, g17, g18, rfl⟩ ih
  by_cases hk : (k : Int) < n
  · have hkn : k < n := by omega
    have hin1 : k * n + n ≤ 36 := by
      have := Nat.mul_le_mul (show k + 1 ≤ 6 by omega) hn.2
      rw [Nat.add_mul, Nat.one_mul] at this; exact this
    have hkl : k < l.length := by omega
    have ia1 := fun a c z x => (hv.sl false).ia a c z x (k : Int) (by omega) (by omega)
    simp only [Int.toNat_natCast] at ia1
    have mp1 := fun j H => (hv.sl false).mp j H k hkl
    have ld1 : ∀ o s z j L, loadA ⟨false, s, z, j⟩ (S.set q (ttA o) ++ L) (adrI v k) = some (.int .i64 (l.getD k 0)) := fun o s z j L => by
      rw [(hv.sl o).ld k hkl, List.getD_eq_getElem?_getD, List.getElem?_eq_getElem hkl]; rfl
    have w1 : IntKind.i64.wrap ((k : Int) * n) = ((k * n : Nat) : Int) := by rw [wrapI (by rw [← Int.natCast_mul]; omega)]; simp
    have w2 : IntKind.i64.wrap (((k * n : Nat) : Int) + k) = ((k * n + k : Nat) : Int) := by rw [wrapI (by omega)]; simp
    have wi : IntKind.i64.wrap ((k : Int) + 1) = ((k + 1 : Nat) : Int) := wrapI (by omega)
    have yl := dnY_len n G l k
    have lk := fun o L => eq_true (hv.lk o L k hkl)
    have sb := fun (o p : Bool) (L : Heap) => eq_true (tt_sb lq o p L)
    have sw := fun o L => SlI.sl (S := S.set q (ttA o) ++ some ⟨(dnY n G l k).map fun x => .int .i64 x, k⟩ :: L) (id := S.length) (ver := k) (off := 0) (cap := cap) (l := dnY n G l k) (b := ⟨(dnY n G l k).map fun x => .int .i64 x, k⟩) (by rw [bw, blkAt_zero]) (by rw [List.drop_zero, List.take_of_length_le (by simp)])
    rw [yl] at sw
    have c3 := fun o L => ldlLess_ok (l.getD k 0) (bndI (dnS n G k (dnY n G l k))) q o (S.set q (ttA o) ++ L) (getD_in hlin k) (bnd_in _) (tt_blk lq L)
    simp only [tt_set (lq2 _), List.set_set] at c3
    have ap : (dnY n G l k).map (fun x => AV.int .i64 x) ++ [AV.int .i64 (bndI (l.getD k 0 + -bndI (dnS n G k (dnY n G l k))))] = (dnY n G l (k + 1)).map fun x => .int .i64 x := by simp [dnY]
    have at1 : ((dnT n G l o k || ovrB (dnS n G k (dnY n G l k))) || ovrB (l.getD k 0 + -bndI (dnS n G k (dnY n G l k)))) = dnT n G l o (k + 1) := rfl
    have a1 : (k + 1) * 8 ≤ maxBytes := by unfold maxBytes; omega
    have a2 : k + 1 ≤ 9223372036854775807 := by omega
    have cap1 : k + 1 = if k + 1 = 0 then n else k + 1 := rfl
    by_cases hk0 : k = 0
    · subst hk0
      have hk' : (0 : Int) < n := by omega
      have ia0 := fun a c z x => (hv.sl false).ia a c z x (0 : Int) (by omega) (by omega)
      simp only [Int.toNat_zero] at ia0
      have w0 : IntKind.i64.wrap 0 = 0 := rfl
      have c2 := fun o L => ldlDot_ok _ _ (cutL G (0 * n) 0) (dnY n G l 0) 30 q o (S.set q (ttA o) ++ some ⟨(dnY n G l 0).map fun x => .int .i64 x, 0⟩ :: L) (SlI.lst _) (sw o L) (by omega) rfl (by simp [cutL]) (cutL_in hin _ _) (dnY_in _ _ _ _) (tt_blk lq _)
      simp only [tt_set (lq2 _), List.set_set] at c2
      change ∀ o L, Call theE _ [_, .lst [] 0, _, .int .i64 30] _ (.int .i64 (bndI (dnS n G 0 (dnY n G l 0)))) (S.set q (ttA (o || ovrB (dnS n G 0 (dnY n G l 0)))) ++ _) at c2
      iterate 3
        simp (maxSteps := 2000000) only [wk0, wk1, wk2, wk3, wk4, wk5, wk6, Fr.ev, Fr.put, Fr.get, storeA, List.replicate, IntKind.bits, sevalprocAttr, g0, g1, g2, g7, g17, g18, hk', bp, g0', gl, vm, ia0, mp1, ld1, w0, Int.zero_mul, Int.zero_add, Int.add_zero, sb, lk, bw, sw0, ap, at1, a1, a2, yl, sa_arr, bd_none, bd_some, bv_int, Int.le_refl, Int.toNat_natCast, Nat.mul_one, List.length_map, List.length_set, List.set_cons_zero, YtoncolpkpgbfiaaDoor.D50, ty1, ty2, ty3, ty4, ty42, ty44, ty47, ty91, ty92]
        try first
          | refine callThen_of (c2 _ _) ?_
          | refine callThen_of (c3 _ _) ?_
      exact ih (m - 1) _ _ (by omega) ⟨1, 1, by omega, cap1, by simp [Fr.get, g0], by simp [Fr.get, g1], by simp [Fr.get, g2], by simp [Fr.get], by simp [Fr.get, g17], by simp [Fr.get], rfl⟩
    · have k1 : (0 : Int) ≤ ((k * n : Nat) : Int) := by omega
      have k2 : ((k * n : Nat) : Int) ≤ ((k * n + k : Nat) : Int) := by omega
      have k3 : ((k * n + k : Nat) : Int) ≤ 36 := by omega
      have k4 : ¬ ((k * n : Nat) : Int) = ((k * n + k : Nat) : Int) := by omega
      have k5 : k * n + k - k * n = k := by omega
      have sl := fun o L => ldB_sl (S.set q (ttA o) ++ L) p n (k * n) k (36 - k * n) G (by omega) (bp o L)
      have c2 := fun o L => ldlDot_ok _ _ (cutL G (k * n) k) (dnY n G l k) 30 q o (S.set q (ttA o) ++ some ⟨(dnY n G l k).map fun x => .int .i64 x, k⟩ :: L) (sl o _) (sw o L) (by omega) (by rw [cutL_len (by omega), yl]) (by rw [cutL_len (by omega)]; omega) (cutL_in hin _ _) (dnY_in _ _ _ _) (tt_blk lq _)
      simp only [tt_set (lq2 _), List.set_set] at c2
      change ∀ o L, Call theE _ [_, _, _, .int .i64 30] _ (.int .i64 (bndI (dnS n G k (dnY n G l k)))) (S.set q (ttA (o || ovrB (dnS n G k (dnY n G l k)))) ++ _) at c2
      iterate 3
        simp (maxSteps := 2000000) only [wk0, wk1, wk2, wk3, wk4, wk5, wk6, Fr.ev, Fr.put, Fr.get, storeA, List.replicate, IntKind.bits, sevalprocAttr, g0, g1, g2, g7, g17, g18, hk, bp, g0', gl, vm, ia1, mp1, ld1, w1, w2, wi, k1, k2, k3, k4, k5, sb, lk, bw, sw0, ap, at1, a1, a2, yl, sa_arr, bd_none, bd_some, bv_int, Int.le_refl, Int.toNat_natCast, Nat.mul_one, List.length_map, List.length_set, List.set_cons_zero, YtoncolpkpgbfiaaDoor.D50, ty1, ty2, ty3, ty4, ty42, ty44, ty47, ty91, ty92]
        try first
          | refine callThen_of (c2 _ _) ?_
          | refine callThen_of (c3 _ _) ?_
      exact ih (m - 1) _ _ (by omega) ⟨k + 1, k + 1, by omega, cap1, by simp [Fr.get, g0], by simp [Fr.get, g1], by simp [Fr.get, g2], by simp [Fr.get], by simp [Fr.get, g17], by simp [Fr.get], rfl⟩
  · obtain rfl : k = n := by omega
    have hc : cap = k := by rw [hcap, if_neg (by omega)]
    subst hc
    simp (maxSteps := 2000000) only [wk0, wk1, wk2, wk3, wk4, wk5, wk6, Fr.ev, Fr.put, Fr.get, storeA, List.replicate, IntKind.bits, sevalprocAttr, g0, g1, g2, g7, g17, g18, hk, YtoncolpkpgbfiaaDoor.D50, ty1, ty2, ty3, ty4, ty42, ty44, ty47, ty91, ty92]
    exact ⟨trivial, _, rfl, by rw [if_pos (by rfl)]; exact ⟨rfl, rfl⟩⟩
end Go.Proofs.YtoncolpkpgbfiaaDoor
