/- polar: a plot as a place; the reference's; the statement PolarOf. -/
import Derived.Test.YtoncolpkpgbfiaaDoorW0
import Derived.Test.YtoncolpkpgbfiaaDoorEvO
set_option linter.unusedSimpArgs false
set_option linter.unusedVariables false
set_option maxRecDepth 100000
set_option maxHeartbeats 4000000
namespace Go.Proofs.YtoncolpkpgbfiaaDoor
def po3 (a b x y : Int) : Int := bndI (rnd (dotZ [a, b] [x, y]) (2 ^ 30))
def po3o (a b x y : Int) : Bool := ovrB (rnd (dotZ [a, b] [x, y]) (2 ^ 30))
def poSS (t : Int) : Int := bndI (rnd (sinT t * sinT t) (2 ^ 30))
def poCC (t : Int) : Int := bndI (rnd (cosT t * cosT t) (2 ^ 30))
def poSC (t : Int) : Int := bndI (rnd (sinT t * cosT t) (2 ^ 30))
def poXX (R T far t : Int) : Int := po3 (poA R) (poB far T) (poSS t) (poCC t)
def poYY (R T far t : Int) : Int := po3 (poA R) (poB far T) (poCC t) (poSS t)
def poXY (R T far t : Int) : Int := po3 (poA R) (poB far T) (poSC t) (-poSC t)
def poOv (R T far t : Int) : Bool := ((poO R far T || po3o (poA R) (poB far T) (poSS t) (poCC t)) || po3o (poA R) (poB far T) (poCC t) (poSS t)) || po3o (poA R) (poB far T) (poSC t) (-poSC t)
theorem allI_cons {k : IntKind} {a b : Int} {r r' : List AV} : allInts (.int k a :: r) (.int k b :: r') = (allInts r r').map fun t => (a == b) && t := by simp [allInts]
theorem allI_nil : allInts [] [] = some true := rfl
theorem inB (n : Int) : inI (bndI n) := by have := bndI_in n; unfold inI; omega
theorem inNB (n : Int) : inI (-bndI n) := by have := bndI_in n; unfold inI; omega
theorem polarOf_ok (R T far z tm : Int) (S : Heap) (h : mayS R T) (hf : 0 ≤ far ∧ far ≤ 1099511627776) (hz : 0 ≤ z ∧ z < 65536) :
    Call theE 7 [.agg [.int .i64 R, .int .i64 T], .agg [.int .i64 far, .int .u16 z, .int .i64 tm]] S
      (.tup [.agg [.int .i64 (plX (65536 * z) far), .int .i64 (plY (65536 * z) far), .int .i64 (poXX R T far (65536 * z)), .int .i64 (poYY R T far (65536 * z)), .int .i64 (poXY R T far (65536 * z))], .bool (poOv R T far (65536 * z)), .nili]) S := by
  have c := fun S => polarCheck_ok R T S h
  unfold mayS at h
  have tu := fun S => turnOf_ok z S hz
  obtain ⟨t, ht⟩ : ∃ t, 65536 * z = t := ⟨_, rfl⟩
  rw [ht] at tu ⊢
  have ht' : 0 ≤ t ∧ t < 4294967296 := by omega
  have pl := fun S => place_ok t far S ht' (by omega)
  have bo := fun S => both_ok t S ht'
  have s1 := sin_small t
  have s2 := cos_small t
  have is : inI (sinT t) := by unfold inI; omega
  have ic : inI (cosT t) := by unfold inI; omega
  have e : ∀ (x y z w v : Option Blk), (S ++ [x, y, z, w]).set (S.length + 3) v = S ++ [x, y, z, v] := fun x y z w v => by rw [set_app]; rfl
  have sp := fun (x y w : Option Blk) => polarSpread1_ok R T far (S.length + 3) (S ++ [x, y, w, tlA false]) (by unfold inI; omega) (by unfold inI; omega) (by unfold inI; omega) (by rw [blkAt_app]; rfl)
  have one := fun (a b : Int) (ha : inI a) (hb : inI b) (o : Bool) (x y w : Option Blk) => polarDot_ok _ _ [a] [b] 30 (S.length + 3) o (S ++ [x, y, w, tlA o]) (SlI.lst _) (SlI.lst _) (by omega) rfl (by simp) (by simpa using ha) (by simpa using hb) (by rw [blkAt_app]; rfl)
  have two := fun (a b p q : Int) (ha : inI a) (hb : inI b) (hp : inI p) (hq : inI q) (o : Bool) (x y w : Option Blk) => polarDot_ok _ _ [a, b] [p, q] 30 (S.length + 3) o (S ++ [x, y, w, tlA o]) (SlI.lst _) (SlI.lst _) (by omega) rfl (by simp) (by simp [ha, hb]) (by simp [hp, hq]) (by rw [blkAt_app]; rfl)
  have dz : ∀ a b : Int, dotZ [a] [b] = a * b := fun a b => by simp [dotZ]
  simp only [e, dz, List.map_cons, List.map_nil, List.length_cons, List.length_nil, Nat.zero_add, Nat.reduceAdd] at sp one two
  have d1 := one (sinT t) (sinT t) is is
  have d2 := one (cosT t) (cosT t) ic ic
  have d3 := one (sinT t) (cosT t) is ic
  rw [ovr_prod s1 s1] at d1
  rw [ovr_prod s2 s2] at d2
  rw [ovr_prod s1 s2] at d3
  change ∀ (o : Bool) (x y w : Option Blk), Call theE _ [_, _, _, .int .i64 30] _ (.int .i64 (poSS t)) _ at d1
  change ∀ (o : Bool) (x y w : Option Blk), Call theE _ [_, _, _, .int .i64 30] _ (.int .i64 (poCC t)) _ at d2
  change ∀ (o : Bool) (x y w : Option Blk), Call theE _ [_, _, _, .int .i64 30] _ (.int .i64 (poSC t)) _ at d3
  have e1 := two (poA R) (poB far T) (poSS t) (poCC t) (inB _) (inB _) (inB _) (inB _)
  have e2 := two (poA R) (poB far T) (poCC t) (poSS t) (inB _) (inB _) (inB _) (inB _)
  have e3 := two (poA R) (poB far T) (poSC t) (-poSC t) (inB _) (inB _) (inB _) (inNB _)
  change ∀ (o : Bool) (x y w : Option Blk), Call theE _ [_, _, _, .int .i64 30] _ (.int .i64 (poXX R T far t)) (S ++ [x, y, w, tlA (o || po3o (poA R) (poB far T) (poSS t) (poCC t))]) at e1
  change ∀ (o : Bool) (x y w : Option Blk), Call theE _ [_, _, _, .int .i64 30] _ (.int .i64 (poYY R T far t)) (S ++ [x, y, w, tlA (o || po3o (poA R) (poB far T) (poCC t) (poSS t))]) at e2
  change ∀ (o : Bool) (x y w : Option Blk), Call theE _ [_, _, _, .int .i64 30] _ (.int .i64 (poXY R T far t)) (S ++ [x, y, w, tlA (o || po3o (poA R) (poB far T) (poSC t) (-poSC t))]) at e3
  have wn : IntKind.i64.wrap (0 - poSC t) = -poSC t := by have := bndI_in (rnd (sinT t * cosT t) (2 ^ 30)); rw [wrapI (by unfold poSC; omega)]; omega
  have oi := fun (x y c u w : Option Blk) => show onlyIn (S ++ [x, y, some ⟨[.int .i64 0, .int .i64 0, .int .i64 0, .int .i64 0, .int .i64 0], 0⟩, u, w]) (S ++ [x, y, c, u, w]) = True from eq_true (by
    have := onlyIn_set (H := S ++ [x, y, some ⟨[.int .i64 0, .int .i64 0, .int .i64 0, .int .i64 0, .int .i64 0], 0⟩, u, w]) (q := S.length + 2) (v := 0) (x := c) (by rw [blkAt_app]; rfl) rfl
    rw [set_app] at this
    exact this)
  have p1 : ¬ far < 0 := by omega
  have p2 : ¬ 1099511627776 < far := by omega
  unfold poOv
  unfold tlA at sp d1 d2 d3 e1 e2 e3
  simp only [Bool.or_false] at d1 d2 d3
  generalize poXX R T far t = xx at *
  generalize poYY R T far t = yy at *
  generalize poXY R T far t = xy at *
  generalize po3o (poA R) (poB far T) (poSS t) (poCC t) = o1 at *
  generalize po3o (poA R) (poB far T) (poCC t) (poSS t) = o2 at *
  generalize po3o (poA R) (poB far T) (poSC t) (-poSC t) = o3 at *
  generalize poO R far T = o0 at *
  generalize poSS t = ss at *
  generalize poCC t = cc at *
  generalize poSC t = sc at *
  generalize poA R = A at *
  generalize poB far T = B at *
  generalize sinT t = s at *
  generalize cosT t = co at *
  generalize plX t far = X at *
  generalize plY t far = Y at *
  refine Call.ofC Tryd.func7 YtoncolpkpgbfiaaDoor.b7 YtoncolpkpgbfiaaDoor.d7 YtoncolpkpgbfiaaDoor.e7 (by simp [Tryd.f7]) ?_
  dsimp only [YtoncolpkpgbfiaaDoor.c7, Tryd.f7, Option.getD_some]
  simp (maxSteps := 2000000) only [wk0, wk1, wk2, wk3, wk4, wk5, wk6, Fr.ev, Fr.put, Fr.get, storeA, List.replicate, IntKind.bits, sevalprocAttr, p1, p2, wn, oi, YtoncolpkpgbfiaaDoor.D7, ty1, ty2, ty3, ty4, ty24, ty28, ty30, ty33, ty34, ty42, ty75, ty77, ty80, ty82]
  repeat
    first
    | refine callThen_of (c _) ?_
    | refine callThen_of (tu _) ?_
    | refine callThen_of (pl _) ?_
    | refine callThen_of (sp _ _ _) ?_
    | refine callThen_of (bo _) ?_
    | refine callThen_of (d1 _ _ _ _) ?_
    | refine callThen_of (d2 _ _ _ _) ?_
    | refine callThen_of (d3 _ _ _ _) ?_
    | refine callThen_of (e1 _ _ _ _) ?_
    | refine callThen_of (e2 _ _ _ _) ?_
    | refine callThen_of (e3 _ _ _ _) ?_
    simp (maxSteps := 2000000) only [wk0, wk1, wk2, wk3, wk4, wk5, wk6, Fr.ev, Fr.put, Fr.get, storeA, List.replicate, IntKind.bits, sevalprocAttr, p1, p2, wn, oi, YtoncolpkpgbfiaaDoor.D7, ty1, ty2, ty3, ty4, ty24, ty28, ty30, ty33, ty34, ty42, ty75, ty77, ty80, ty82]
  exact retB_plain (by simp [nmd_int, nmd_nili, nmd_agg, nmd_bool]) rfl (by simp)
theorem polarOf_bad (R T far z tm : Int) (S : Heap) (h : ¬ (mayS R T ∧ 0 ≤ far ∧ far ≤ 1099511627776)) :
    Call theE 7 [.agg [.int .i64 R, .int .i64 T], .agg [.int .i64 far, .int .u16 z, .int .i64 tm]] S
      (.tup [.agg [.int .i64 0, .int .i64 0, .int .i64 0, .int .i64 0, .int .i64 0], .bool false, errA 1]) S := by
  refine Call.ofC Tryd.func7 YtoncolpkpgbfiaaDoor.b7 YtoncolpkpgbfiaaDoor.d7 YtoncolpkpgbfiaaDoor.e7 (by simp [Tryd.f7]) ?_
  dsimp only [YtoncolpkpgbfiaaDoor.c7, Tryd.f7, Option.getD_some]
  by_cases hm : mayS R T
  · have c := fun S => polarCheck_ok R T S hm
    by_cases p1 : far < 0
    · simp (maxSteps := 2000000) only [wk0, wk1, wk2, wk3, wk4, wk5, wk6, Fr.ev, Fr.put, Fr.get, storeA, List.replicate, IntKind.bits, sevalprocAttr, p1, YtoncolpkpgbfiaaDoor.D7, ty1, ty2, ty3, ty4, ty24, ty28, ty30, ty33, ty34, ty42, ty75, ty77, ty80, ty82]
      refine callThen_of (c _) ?_
      simp (maxSteps := 2000000) only [wk0, wk1, wk2, wk3, wk4, wk5, wk6, Fr.ev, Fr.put, Fr.get, storeA, List.replicate, IntKind.bits, sevalprocAttr, p1, YtoncolpkpgbfiaaDoor.D7, ty1, ty2, ty3, ty4, ty24, ty28, ty30, ty33, ty34, ty42, ty75, ty77, ty80, ty82]
      exact retB_plain (by simp [nmd_int, nmd_ifc, nmd_agg, nmd_bool]) rfl (by simp)
    · have p2 : 1099511627776 < far := by
        rcases Int.lt_or_le 1099511627776 far with h1 | h1
        · exact h1
        · exact absurd ⟨hm, by omega, h1⟩ h
      simp (maxSteps := 2000000) only [wk0, wk1, wk2, wk3, wk4, wk5, wk6, Fr.ev, Fr.put, Fr.get, storeA, List.replicate, IntKind.bits, sevalprocAttr, p1, p2, YtoncolpkpgbfiaaDoor.D7, ty1, ty2, ty3, ty4, ty24, ty28, ty30, ty33, ty34, ty42, ty75, ty77, ty80, ty82]
      refine callThen_of (c _) ?_
      simp (maxSteps := 2000000) only [wk0, wk1, wk2, wk3, wk4, wk5, wk6, Fr.ev, Fr.put, Fr.get, storeA, List.replicate, IntKind.bits, sevalprocAttr, p1, p2, YtoncolpkpgbfiaaDoor.D7, ty1, ty2, ty3, ty4, ty24, ty28, ty30, ty33, ty34, ty42, ty75, ty77, ty80, ty82]
      exact retB_plain (by simp [nmd_int, nmd_ifc, nmd_agg, nmd_bool]) rfl (by simp)
  · have c := fun S => polarCheck_bad R T S hm
    simp only [errA] at c
    simp (maxSteps := 2000000) only [wk0, wk1, wk2, wk3, wk4, wk5, wk6, Fr.ev, Fr.put, Fr.get, storeA, List.replicate, IntKind.bits, sevalprocAttr, YtoncolpkpgbfiaaDoor.D7, ty1, ty2, ty3, ty4, ty24, ty28, ty30, ty33, ty34, ty42, ty75, ty77, ty80, ty82]
    refine callThen_of (c _) ?_
    simp (maxSteps := 2000000) only [wk0, wk1, wk2, wk3, wk4, wk5, wk6, Fr.ev, Fr.put, Fr.get, storeA, List.replicate, IntKind.bits, sevalprocAttr, YtoncolpkpgbfiaaDoor.D7, ty1, ty2, ty3, ty4, ty24, ty28, ty30, ty33, ty34, ty42, ty75, ty77, ty80, ty82]
    exact retB_plain (by simp [nmd_int, nmd_ifc, nmd_agg, nmd_bool]) rfl (by simp)
noncomputable def c9 : Code := Tryd.f9.body.getD .skip
theorem b9 : Tryd.f9.body = some c9 := rfl
theorem d9 : fnOk Tryd.f9 c9 = true := by kernel_rfl
def D9 : Nat → List Tag := fun _ => []
theorem e9 : drawsOk D9 c9 = true := by kernel_rfl
theorem sure10_ok (S : Heap) : Call theE 9 [] S (.bool true) S := by
  have o := fun S => polarOf_ok 52428800 1048576 1048576000 0 0 S (by decide) (by decide) (by decide)
  have s := fun S => polarSpread_ok 52428800 1048576 1048576000 S (by decide) (by decide)
  have q : (1048575996 ≤ plY (65536 * 0) 1048576000 ∧ plY (65536 * 0) 1048576000 ≤ 1048576004) ∧ (-4 ≤ plX (65536 * 0) 1048576000 ∧ plX (65536 * 0) 1048576000 ≤ 4) ∧ poA 52428800 = 2621440000 ∧ (0 < poB 1048576000 1048576 ∧ poB 1048576000 1048576 ≤ 1000000000000) ∧
      poOv 52428800 1048576 1048576000 (65536 * 0) = false ∧ 2621431808 ≤ poYY 52428800 1048576 1048576000 (65536 * 0) ∧ poXX 52428800 1048576 1048576000 (65536 * 0) ≤ poB 1048576000 1048576 + 8192 := by decide +kernel
  obtain ⟨⟨q1, q2⟩, ⟨q3, q4⟩, q5, ⟨q6, q6'⟩, q7, q8, q9⟩ := q
  rw [q7] at o
  rw [q5] at s
  generalize plY (65536 * 0) 1048576000 = Y at *
  generalize plX (65536 * 0) 1048576000 = X at *
  generalize poYY 52428800 1048576 1048576000 (65536 * 0) = yy at *
  generalize poXX 52428800 1048576 1048576000 (65536 * 0) = xx at *
  generalize poXY 52428800 1048576 1048576000 (65536 * 0) = xy at *
  generalize poB 1048576000 1048576 = B at *
  have w1 : IntKind.i64.wrap 2621431808 = 2621431808 := by decide
  have w2 : IntKind.i64.wrap (B + 8192) = B + 8192 := wrapI (by omega)
  refine Call.ofC Tryd.func9 YtoncolpkpgbfiaaDoor.b9 YtoncolpkpgbfiaaDoor.d9 YtoncolpkpgbfiaaDoor.e9 (by simp [Tryd.f9]) ?_
  dsimp only [YtoncolpkpgbfiaaDoor.c9, Tryd.f9, Option.getD_some]
  simp (maxSteps := 2000000) only [wk0, wk1, wk2, wk3, wk4, wk5, wk6, Fr.ev, Fr.put, Fr.get, storeA, List.replicate, IntKind.bits, sevalprocAttr, q1, q2, q3, q4, q6, q8, q9, w1, w2, decide_true, Bool.not_false, YtoncolpkpgbfiaaDoor.D9, ty1, ty2, ty3, ty4, ty28, ty30, ty33, ty34]
  refine callThen_of (o _) ?_
  simp (maxSteps := 2000000) only [wk0, wk1, wk2, wk3, wk4, wk5, wk6, Fr.ev, Fr.put, Fr.get, storeA, List.replicate, IntKind.bits, sevalprocAttr, q1, q2, q3, q4, q6, q8, q9, w1, w2, decide_true, Bool.not_false, YtoncolpkpgbfiaaDoor.D9, ty1, ty2, ty3, ty4, ty28, ty30, ty33, ty34]
  refine callThen_of (s _) ?_
  simp (maxSteps := 2000000) only [wk0, wk1, wk2, wk3, wk4, wk5, wk6, Fr.ev, Fr.put, Fr.get, storeA, List.replicate, IntKind.bits, sevalprocAttr, q1, q2, q3, q4, q6, q8, q9, w1, w2, decide_true, Bool.not_false, YtoncolpkpgbfiaaDoor.D9, ty1, ty2, ty3, ty4, ty28, ty30, ty33, ty34]
  exact retB_plain (by simp [nmd_bool]) rfl (by simp)
end Go.Proofs.YtoncolpkpgbfiaaDoor
