/- qnum: sums of products. -/
import Derived.Test.YtoncolpkpgbfiaaDoorQ1
set_option linter.unusedSimpArgs false
set_option linter.unusedVariables false
set_option maxRecDepth 100000
set_option maxHeartbeats 4000000
namespace Go.Proofs.YtoncolpkpgbfiaaDoor
noncomputable def c98 : Code := Tryd.f98.body.getD .skip
theorem b98 : Tryd.f98.body = some c98 := rfl
theorem d98 : fnOk Tryd.f98 c98 = true := by kernel_rfl
def D98 : Nat → List Tag := fun _ => []
theorem e98 : drawsOk D98 c98 = true := by kernel_rfl
noncomputable def c73 : Code := Tryd.f73.body.getD .skip
theorem b73 : Tryd.f73.body = some c73 := rfl
theorem d73 : fnOk Tryd.f73 c73 = true := by kernel_rfl
def D73 : Nat → List Tag
  | 7 => [.quiet, .pure, .pure, .pure, .pure, .quiet, .quiet, .seq, .seq]
  | _ => []
theorem e73 : drawsOk D73 c73 = true := by kernel_rfl
noncomputable def c70 : Code := Tryd.f70.body.getD .skip
theorem b70 : Tryd.f70.body = some c70 := rfl
theorem d70 : fnOk Tryd.f70 c70 = true := by kernel_rfl
def D70 : Nat → List Tag := fun _ => []
theorem e70 : drawsOk D70 c70 = true := by kernel_rfl
theorem pointed_ok (n : Int) (S : Heap) : Call theE 98 [.int .i64 n] S (.bool (decide (0 ≤ n ∧ n ≤ 62))) S := by
  refine Call.ofC Tryd.func98 YtoncolpkpgbfiaaDoor.b98 YtoncolpkpgbfiaaDoor.d98 YtoncolpkpgbfiaaDoor.e98 (by simp [Tryd.f98]) ?_
  dsimp only [YtoncolpkpgbfiaaDoor.c98, Tryd.f98, Option.getD_some]
  by_cases h1 : 0 ≤ n
  · by_cases h2 : n ≤ 62
    · simp (maxSteps := 2000000) only [wk0, wk1, wk2, wk3, wk4, wk5, wk6, Fr.ev, Fr.put, Fr.get, storeA, List.replicate, IntKind.bits, sevalprocAttr, h1, h2, YtoncolpkpgbfiaaDoor.D98, ty3, ty4]
      exact retB_plain (by simp [nmd_bool]) rfl (by simp)
    · simp (maxSteps := 2000000) only [wk0, wk1, wk2, wk3, wk4, wk5, wk6, Fr.ev, Fr.put, Fr.get, storeA, List.replicate, IntKind.bits, sevalprocAttr, h1, h2, YtoncolpkpgbfiaaDoor.D98, ty3, ty4]
      exact retB_plain (by simp [nmd_bool]) rfl (by simp)
  · simp (maxSteps := 2000000) only [wk0, wk1, wk2, wk3, wk4, wk5, wk6, Fr.ev, Fr.put, Fr.get, storeA, List.replicate, IntKind.bits, sevalprocAttr, h1, YtoncolpkpgbfiaaDoor.D98, ty3, ty4]
    exact retB_plain (by simp [nmd_bool]) rfl (by simp)
theorem dotP_bound (l r : List Int) (i : Nat) (hl : ∀ x ∈ l, inI x) (hr : ∀ x ∈ r, inI x) (h1 : i ≤ l.length) (h2 : i ≤ r.length) : -(i * 85070591730234615865843651857942052864) ≤ dotP l r i ∧ dotP l r i ≤ i * 85070591730234615865843651857942052864 := by
  induction i with
  | zero => simp [dotP_zero]
  | succ i ih =>
    have ih := ih (by omega) (by omega)
    rw [dotP_succ l r i h1 h2]
    have a := hl _ (List.getElem_mem h1)
    have b := hr _ (List.getElem_mem h2)
    unfold inI at a b
    have hB : 0 ≤ ((l[i]).natAbs : Int) * ((r[i]).natAbs : Int) ∧ ((l[i]).natAbs : Int) * ((r[i]).natAbs : Int) ≤ 9223372036854775808 * 9223372036854775808 := mulB (by omega) (by omega) (by omega) (by omega)
    have hC : ((l[i] * r[i]).natAbs : Int) = ((l[i]).natAbs : Int) * ((r[i]).natAbs : Int) := by rw [Int.natAbs_mul]; simp
    rw [← hC] at hB
    omega
theorem rnd_one (z : Int) : rnd z 1 = z := by
  unfold rnd
  rw [if_neg (by omega)]
  simp
theorem half_any (z : Int) (n : Nat) (S : Heap) (hn : n ≤ 62) (hz : -1569275433846670190958947355801916604025588861116008628224 ≤ z ∧ z < 1569275433846670190958947355801916604025588861116008628224) :
    Call theE 101 [enc3 z, .int .i64 n] S (enc3 (rnd z (2 ^ n))) S := by
  by_cases h : n = 0
  · subst h
    rw [show (2 : Int) ^ 0 = 1 from rfl, rnd_one]
    exact half_zero z S
  · exact half_ok z n S (by omega) hz
theorem rnd_bound (z : Int) (n : Nat) (B : Int) (hB : 1 ≤ B) (hz : -B ≤ z ∧ z ≤ B) : -B ≤ rnd z (2 ^ n) ∧ rnd z (2 ^ n) ≤ B := by
  generalize hp : (2 : Int) ^ n = p
  have hp1 : 1 ≤ p := by rw [← hp]; exact Int.pow_pos (by decide)
  by_cases h1 : p = 1
  · rw [h1, rnd_one]; exact hz
  · have h2 : z / p ≤ B / 2 := by
      have e : z / p ≤ B / p := Int.ediv_le_ediv (by omega) hz.2
      have e' : B / p ≤ B / 2 := by
        apply Int.le_ediv_of_mul_le (by decide)
        have := Int.mul_ediv_self_le (x := B) (k := p) (by omega)
        have h3 : 0 ≤ B / p := Int.ediv_nonneg (by omega) (by omega)
        have h4 : B / p * 2 ≤ B / p * p := Int.mul_le_mul_of_nonneg_left (by omega) h3
        rw [Int.mul_comm] at this
        omega
      omega
    have h3 : -B ≤ z / p := by
      apply Int.le_ediv_of_mul_le (by omega)
      have : B * 1 ≤ B * p := Int.mul_le_mul_of_nonneg_left hp1 (by omega)
      rw [Int.neg_mul]
      omega
    unfold rnd
    split
    · by_cases hB1 : B = 1
      · subst hB1
        omega
      · omega
    · omega
theorem dot_bad (v u : AV) (l r : List Int) (n : Int) (S : Heap) (hv : SlI S v l) (hu : SlI S u r) (h : ¬ ((0 ≤ n ∧ n ≤ 62) ∧ l.length = r.length ∧ l.length ≤ 64)) :
    Call theE 73 [v, u, .int .i64 n] S (.tup [.int .i64 0, .bool false, errA 1]) S := by
  have c1 := hv.mv
  have c2 := hu.mv
  have c3 := hv.ln
  have c4 := hu.ln
  refine Call.ofC Tryd.func73 YtoncolpkpgbfiaaDoor.b73 YtoncolpkpgbfiaaDoor.d73 YtoncolpkpgbfiaaDoor.e73 (by simp [Tryd.f73]) ?_
  dsimp only [YtoncolpkpgbfiaaDoor.c73, Tryd.f73, Option.getD_some]
  simp (maxSteps := 2000000) only [wk0, wk1, wk2, wk3, wk4, wk5, wk6, Fr.ev, Fr.put, Fr.get, storeA, List.replicate, IntKind.bits, sevalprocAttr, c1, c2, c3, c4, YtoncolpkpgbfiaaDoor.D73, ty2, ty3, ty4, ty30, ty42, ty75, ty166]
  refine callThen_of (pointed_ok n _) ?_
  by_cases h1 : 0 ≤ n ∧ n ≤ 62
  · by_cases h2 : (l.length : Int) = r.length
    · have h3 : (64 : Int) < r.length := by omega
      simp (maxSteps := 2000000) only [wk0, wk1, wk2, wk3, wk4, wk5, wk6, Fr.ev, Fr.put, Fr.get, storeA, List.replicate, IntKind.bits, sevalprocAttr, c1, c2, c3, c4, h1, h2, h3, YtoncolpkpgbfiaaDoor.D73, ty2, ty3, ty4, ty30, ty42, ty75, ty166]
      exact retB_plain (by simp [nmd_int, nmd_bool, nmd_ifc]) rfl (by simp)
    · simp (maxSteps := 2000000) only [wk0, wk1, wk2, wk3, wk4, wk5, wk6, Fr.ev, Fr.put, Fr.get, storeA, List.replicate, IntKind.bits, sevalprocAttr, c1, c2, c3, c4, h1, h2, YtoncolpkpgbfiaaDoor.D73, ty2, ty3, ty4, ty30, ty42, ty75, ty166]
      exact retB_plain (by simp [nmd_int, nmd_bool, nmd_ifc]) rfl (by simp)
  · simp (maxSteps := 2000000) only [wk0, wk1, wk2, wk3, wk4, wk5, wk6, Fr.ev, Fr.put, Fr.get, storeA, List.replicate, IntKind.bits, sevalprocAttr, c1, c2, c3, c4, h1, YtoncolpkpgbfiaaDoor.D73, ty2, ty3, ty4, ty30, ty42, ty75, ty166]
    exact retB_plain (by simp [nmd_int, nmd_bool, nmd_ifc]) rfl (by simp)
theorem dot_ok (v u : AV) (l r : List Int) (n : Nat) (S : Heap) (hv : SlI S v l) (hu : SlI S u r) (hn : n ≤ 62) (hlr : l.length = r.length) (hl : l.length ≤ 64) (hl' : ∀ x ∈ l, inI x) (hr' : ∀ x ∈ r, inI x) :
    Call theE 73 [v, u, .int .i64 n] S (.tup [.int .i64 (bndI (rnd (dotZ l r) (2 ^ n))), .bool (ovrB (rnd (dotZ l r) (2 ^ n))), .nili]) S := by
  have c1 := hv.mv
  have c2 := hu.mv
  have c3 := hv.ln
  have c4 := hu.ln
  have h1 : (0 : Int) ≤ n ∧ (n : Int) ≤ 62 := by omega
  have h2 : (l.length : Int) = r.length := by omega
  have h3 : ¬ (64 : Int) < r.length := by omega
  refine Call.ofC Tryd.func73 YtoncolpkpgbfiaaDoor.b73 YtoncolpkpgbfiaaDoor.d73 YtoncolpkpgbfiaaDoor.e73 (by simp [Tryd.f73]) ?_
  dsimp only [YtoncolpkpgbfiaaDoor.c73, Tryd.f73, Option.getD_some]
  simp (maxSteps := 2000000) only [wk0, wk1, wk2, wk3, wk4, wk5, wk6, Fr.ev, Fr.put, Fr.get, storeA, List.replicate, IntKind.bits, sevalprocAttr, c1, c2, c3, c4, YtoncolpkpgbfiaaDoor.D73, ty2, ty3, ty4, ty30, ty42, ty75, ty166]
  refine callThen_of (pointed_ok n _) ?_
  simp (maxSteps := 2000000) only [wk0, wk1, wk2, wk3, wk4, wk5, wk6, Fr.ev, Fr.put, Fr.get, storeA, List.replicate, IntKind.bits, sevalprocAttr, c1, c2, c3, c4, h1, h2, h3, YtoncolpkpgbfiaaDoor.D73, ty2, ty3, ty4, ty30, ty42, ty75, ty166]
  refine loopC_ind (fun m fr H => ∃ i : Nat, i + m = l.length ∧ fr.get 32 = .int .i64 i ∧ fr.get 31 = .int .i64 r.length ∧ fr.get 30 = v ∧ fr.get 1 = u ∧ fr.get 2 = .int .i64 n ∧ fr.get 9 = .ptr S.length 0 0 ∧
    H = S ++ [some ⟨[.int .u64 (w0 (dotP l r i)), .int .u64 (w1 (dotP l r i)), .int .u64 (w2 (dotP l r i))], 0⟩]) ?_ (n := l.length) ⟨0, by omega, rfl, rfl, rfl, rfl, rfl, rfl, by rw [dotP_zero]; rfl⟩
  rintro m fr H ⟨i, him, g32, g31, g30, g1, g2, g9, rfl⟩ ih
  by_cases hi : (i : Int) < r.length
  · have hil : i < l.length := by omega
    have hir : i < r.length := by omega
    have ia1 := fun a c z x => hv.ia a c z x (i : Int) (by omega) (by omega)
    have ia2 := fun a c z x => hu.ia a c z x (i : Int) (by omega) (by omega)
    simp only [Int.toNat_natCast] at ia1 ia2
    have mp1 := fun k H => hv.mp k H i hil
    have mp2 := fun k H => hu.mp k H i hir
    have ld1 : ∀ s z k L, loadA ⟨false, s, z, k⟩ (S ++ L) (adrI v i) = some (.int .i64 (l[i])) := fun s z k L => by rw [hv.ld i hil]; rfl
    have ld2 : ∀ s z k L, loadA ⟨false, s, z, k⟩ (S ++ L) (adrI u i) = some (.int .i64 (r[i])) := fun s z k L => by rw [hu.ld i hir]; rfl
    have wi : IntKind.i64.wrap ((i : Int) + 1) = ((i + 1 : Nat) : Int) := wrapI (by omega)
    have hp := product_ok (l[i]) (r[i])
    have hs := plus_ok (dotP l r i) (l[i] * r[i])
    rw [← dotP_succ l r i hil hir] at hs
    simp (maxSteps := 2000000) only [wk0, wk1, wk2, wk3, wk4, wk5, wk6, Fr.ev, Fr.put, Fr.get, storeA, List.replicate, IntKind.bits, sevalprocAttr, c1, c2, g32, g31, g30, g1, g2, g9, hi, ia1, ia2, mp1, mp2, ld1, ld2, YtoncolpkpgbfiaaDoor.D73, ty2, ty3, ty4, ty30, ty42, ty75, ty166]
    refine callThen_of (hp _ (hl' _ (List.getElem_mem hil)) (hr' _ (List.getElem_mem hir))) ?_
    simp (maxSteps := 2000000) only [wk0, wk1, wk2, wk3, wk4, wk5, wk6, Fr.ev, Fr.put, Fr.get, storeA, List.replicate, IntKind.bits, sevalprocAttr, enc3, c1, c2, g32, g31, g30, g1, g2, g9, hi, YtoncolpkpgbfiaaDoor.D73, ty2, ty3, ty4, ty30, ty42, ty75, ty166]
    refine callThen_of (hs _) ?_
    simp (maxSteps := 2000000) only [wk0, wk1, wk2, wk3, wk4, wk5, wk6, Fr.ev, Fr.put, Fr.get, storeA, List.replicate, IntKind.bits, sevalprocAttr, enc3, c1, c2, g32, g31, g30, g1, g2, g9, hi, wi, YtoncolpkpgbfiaaDoor.D73, ty2, ty3, ty4, ty30, ty42, ty75, ty166]
    exact ih (m - 1) _ _ (by omega) ⟨i + 1, by omega, by simp [Fr.get], by simp [Fr.get, g31], by simp [Fr.get, g30], by simp [Fr.get, g1], by simp [Fr.get, g2], by simp [Fr.get, g9], rfl⟩
  · have hie : i = l.length := by omega
    have hz : dotP l r i = dotZ l r := by rw [hie]; exact dotP_all l r hlr
    have hB := dotP_bound l r i hl' hr' (by omega) (by omega)
    rw [hz] at hB
    simp (maxSteps := 2000000) only [wk0, wk1, wk2, wk3, wk4, wk5, wk6, Fr.ev, Fr.put, Fr.get, storeA, List.replicate, IntKind.bits, sevalprocAttr, c1, c2, g32, g31, g30, g1, g2, g9, hi, hz, YtoncolpkpgbfiaaDoor.D73, ty2, ty3, ty4, ty30, ty42, ty75, ty166]
    have hZ : -5444517870735015415413993718908291383296 ≤ dotZ l r ∧ dotZ l r ≤ 5444517870735015415413993718908291383296 := by omega
    have hR := rnd_bound (dotZ l r) n _ (by decide) hZ
    have hh := fun S => half_any (dotZ l r) n S hn (by omega)
    refine callThen_of (hh _) ?_
    simp (maxSteps := 2000000) only [wk0, wk1, wk2, wk3, wk4, wk5, wk6, Fr.ev, Fr.put, Fr.get, storeA, List.replicate, IntKind.bits, sevalprocAttr, c1, c2, g32, g31, g30, g1, g2, g9, hi, hz, YtoncolpkpgbfiaaDoor.D73, ty2, ty3, ty4, ty30, ty42, ty75, ty166]
    refine callThen_of (bounded_ok _ _ (by omega)) ?_
    simp (maxSteps := 2000000) only [wk0, wk1, wk2, wk3, wk4, wk5, wk6, Fr.ev, Fr.put, Fr.get, storeA, List.replicate, IntKind.bits, sevalprocAttr, c1, c2, g32, g31, g30, g1, g2, g9, hi, hz, YtoncolpkpgbfiaaDoor.D73, ty2, ty3, ty4, ty30, ty42, ty75, ty166]
    exact retB_plain (by simp [nmd_int, nmd_bool, nmd_nili]) rfl (by simp)
theorem mul_ok (a b : Int) (n : Nat) (S : Heap) (hn : n ≤ 62) (ha : inI a) (hb : inI b) :
    Call theE 70 [.int .i64 a, .int .i64 b, .int .i64 n] S (.tup [.int .i64 (bndI (rnd (a * b) (2 ^ n))), .bool (ovrB (rnd (a * b) (2 ^ n))), .nili]) S := by
  have h := fun S => dot_ok _ _ [a] [b] n S (SlI.lst [a]) (SlI.lst [b]) hn rfl (by simp) (by simpa using ha) (by simpa using hb)
  simp only [dotZ, Int.add_zero, List.map_cons, List.map_nil, List.length_cons, List.length_nil, Nat.zero_add] at h
  refine Call.ofC Tryd.func70 YtoncolpkpgbfiaaDoor.b70 YtoncolpkpgbfiaaDoor.d70 YtoncolpkpgbfiaaDoor.e70 (by simp [Tryd.f70]) ?_
  dsimp only [YtoncolpkpgbfiaaDoor.c70, Tryd.f70, Option.getD_some]
  simp (maxSteps := 2000000) only [wk0, wk1, wk2, wk3, wk4, wk5, wk6, Fr.ev, Fr.put, Fr.get, storeA, List.replicate, IntKind.bits, sevalprocAttr, YtoncolpkpgbfiaaDoor.D70, ty1, ty2, ty3, ty4, ty30, ty42]
  refine callThen_of (h _) ?_
  simp (maxSteps := 2000000) only [wk0, wk1, wk2, wk3, wk4, wk5, wk6, Fr.ev, Fr.put, Fr.get, storeA, List.replicate, IntKind.bits, sevalprocAttr, YtoncolpkpgbfiaaDoor.D70, ty1, ty2, ty3, ty4, ty30, ty42]
  exact retB_plain (by simp [nmd_int, nmd_bool, nmd_nili]) rfl (by simp)
theorem mul_bad (a b n : Int) (S : Heap) (hn : ¬ (0 ≤ n ∧ n ≤ 62)) : Call theE 70 [.int .i64 a, .int .i64 b, .int .i64 n] S (.tup [.int .i64 0, .bool false, errA 1]) S := by
  have h := fun S => dot_bad _ _ [a] [b] n S (SlI.lst [a]) (SlI.lst [b]) (fun h => hn h.1)
  simp only [List.map_cons, List.map_nil, List.length_cons, List.length_nil, Nat.zero_add] at h
  refine Call.ofC Tryd.func70 YtoncolpkpgbfiaaDoor.b70 YtoncolpkpgbfiaaDoor.d70 YtoncolpkpgbfiaaDoor.e70 (by simp [Tryd.f70]) ?_
  dsimp only [YtoncolpkpgbfiaaDoor.c70, Tryd.f70, Option.getD_some]
  simp (maxSteps := 2000000) only [wk0, wk1, wk2, wk3, wk4, wk5, wk6, Fr.ev, Fr.put, Fr.get, storeA, List.replicate, IntKind.bits, sevalprocAttr, YtoncolpkpgbfiaaDoor.D70, ty1, ty2, ty3, ty4, ty30, ty42]
  refine callThen_of (h _) ?_
  simp (maxSteps := 2000000) only [wk0, wk1, wk2, wk3, wk4, wk5, wk6, Fr.ev, Fr.put, Fr.get, storeA, List.replicate, IntKind.bits, sevalprocAttr, errA, YtoncolpkpgbfiaaDoor.D70, ty1, ty2, ty3, ty4, ty30, ty42]
  exact retB_plain (by simp [nmd_ifc, nmd_int, nmd_bool, nmd_nili]) rfl (by simp)
end Go.Proofs.YtoncolpkpgbfiaaDoor
