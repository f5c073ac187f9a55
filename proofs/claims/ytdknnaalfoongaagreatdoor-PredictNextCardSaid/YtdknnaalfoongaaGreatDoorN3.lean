/- The document's answer (chapter 8): sums, products, middles. -/
import Derived.Test.YtdknnaalfoongaaGreatDoorN2
set_option linter.unusedSimpArgs false
set_option linter.unusedVariables false
set_option maxRecDepth 100000
set_option maxHeartbeats 4000000
namespace Go.Proofs.YtdknnaalfoongaaGreatDoor
theorem preL_congr {f g : Nat → Int} {n : Nat} (h : ∀ j, j < n → f j = g j) : preL f n = preL g n := List.map_congr_left fun j hj => h j (List.mem_range.1 hj)
theorem preO_congr {f g : Nat → Bool} {n : Nat} (h : ∀ j, j < n → f j = g j) : preO f n = preO g n := by
  induction n with
  | zero => rfl
  | succ n ih => rw [preO_succ, preO_succ, ih fun j hj => h j (by omega), h n (by omega)]
theorem rowsA_congr {r c : Nat} {f g : Nat → Nat → Int} (h : ∀ i j, i < r → j < c → f i j = g i j) : rowsA r c f = rowsA r c g :=
  List.map_congr_left fun i hi => by rw [rowF_pre, rowF_pre, preL_congr fun j hj => h i j (List.mem_range.1 hi) hj]
theorem rowF_getD {f : Nat → Nat → Int} {c i j : Nat} (h : j < c) : (rowF f c i).getD j 0 = f i j := by
  rw [List.getD_eq_getElem?_getD]; simp [rowF, h]
theorem dotZ_comm (l r : List Int) : dotZ l r = dotZ r l := by
  induction l generalizing r with
  | nil => cases r <;> rfl
  | cons x l ih =>
    cases r with
    | nil => rfl
    | cons y r => simp only [dotZ]; rw [ih r, Int.mul_comm]
noncomputable def c47 : Code := Tryz.f47.body.getD .skip
theorem b47 : Tryz.f47.body = some c47 := rfl
theorem d47 : fnOk Tryz.f47 c47 = true := by kernel_rfl
def D47 : Nat → List Tag
  | 6 => [.pure, .pure, .pure, .quiet, .pure, .pure, .pure, .quiet, .pure, .seq, .pure, .pure, .pure, .pure, .pure]
  | _ => []
theorem e47 : drawsOk D47 c47 = true := by kernel_rfl
noncomputable def c44 : Code := Tryz.f44.body.getD .skip
theorem b44 : Tryz.f44.body = some c44 := rfl
theorem d44 : fnOk Tryz.f44 c44 = true := by kernel_rfl
def D44 : Nat → List Tag := fun _ => []
theorem e44 : drawsOk D44 c44 = true := by kernel_rfl
noncomputable def c45 : Code := Tryz.f45.body.getD .skip
theorem b45 : Tryz.f45.body = some c45 := rfl
theorem d45 : fnOk Tryz.f45 c45 = true := by kernel_rfl
def D45 : Nat → List Tag := fun _ => []
theorem e45 : drawsOk D45 c45 = true := by kernel_rfl
/-- A loop that lays rows. -/
theorem refAdd8_ok (r c : Nat) (f g : Nat → Nat → Int) (less : Bool) (S : Heap) (hr : r ≤ 1000) (hc : c ≤ 100) (hf : ∀ i j, i < r → j < c → inI (f i j)) (hg : ∀ i j, i < r → j < c → inI (g i j)) :
    Call theE 47 [mtx r c f, mtx r c g, .bool less] S (.tup [mtx r c (fun i j => bndI (f i j + sgn less (g i j))), .bool (anyP c (fun i j => ovrB (f i j + sgn less (g i j))) (r * c))]) S := by
  have hd : ∀ i S, i < r → Call theE 84 [.lst ((rowF f c i).map fun x => .int .i64 x) c, .lst ((rowF g c i).map fun x => .int .i64 x) c, .bool less] S (.tup [.lst ((rowF (fun i j => bndI (f i j + sgn less (g i j))) c i).map fun x => .int .i64 x) c, .bool (preO ((fun i j => ovrB (f i j + sgn less (g i j))) i) c)]) S := fun i S hi => by
    have h := refAdd_ok (rowF f c i) (rowF g c i) less S (by rw [rowF_len]; exact hc) (by rw [rowF_len, rowF_len]) (rowF_in fun j hj => hf i j hi hj) (rowF_in fun j hj => hg i j hi hj)
    simp only [rowF_len, lstI, preL_len] at h
    rw [preL_congr (g := fun j => bndI (f i j + sgn less (g i j))) (fun j hj => by rw [rowF_getD hj, rowF_getD hj]), preO_congr (g := fun j => ovrB (f i j + sgn less (g i j))) (fun j hj => by rw [rowF_getD hj, rowF_getD hj])] at h
    exact h
  generalize (fun i j => bndI (f i j + sgn less (g i j))) = F at *
  generalize (fun i j => ovrB (f i j + sgn less (g i j))) = G at *
  refine Call.ofC Tryz.func47 YtdknnaalfoongaaGreatDoor.b47 YtdknnaalfoongaaGreatDoor.d47 YtdknnaalfoongaaGreatDoor.e47 (by simp [Tryz.f47]) ?_
  dsimp only [YtdknnaalfoongaaGreatDoor.c47, Tryz.f47, Option.getD_some]
  simp (maxSteps := 2000000) only [wk0, wk1, wk2, wk3, wk4, wk5, wk6, Fr.ev, Fr.put, Fr.get, storeA, List.replicate, IntKind.bits, sevalprocAttr, mtx, YtdknnaalfoongaaGreatDoor.D47, ty1, ty3, ty4, ty22, ty23]
  refine loopC_ind (fun m fr H => ∃ (i cap : Nat), i + m = r ∧ (fr.get 0 = .lst (rowsA r c f) r ∧ fr.get 1 = .lst (rowsA r c g) r ∧ fr.get 2 = .bool less) ∧ fr.get 8 = .sl S.length i 0 i cap 1 ∧ fr.get 9 = .bool (anyP c G (i * c)) ∧ fr.get 10 = .int .i64 (i : Int) ∧
    H = S ++ [some ⟨rowsA i c F, i⟩]) ?_ (n := r) ⟨0, 0, by omega, by simp [Fr.get], rfl, by simp [Fr.get, anyP], rfl, rfl⟩
  rintro m fr H ⟨i, cap, him, ga, g3, g4, g5, rfl⟩ ih
  by_cases hi : (i : Int) < r
  · have hin : i < r := by omega
    have k2 : (0 : Int) ≤ i := by omega
    have cs := rowsA_app i c F
    have cl := rowsA_len i c F
    have a1 : (i + 1) * 24 ≤ maxBytes := by unfold maxBytes; omega
    have a2 : i + 1 ≤ 9223372036854775807 := by omega
    have wi : IntKind.i64.wrap ((i : Int) + 1) = ((i + 1 : Nat) : Int) := wrapI (by omega)
    have an := anyP_row c G i
    have fx := And.intro (rowsA_get (c := c) (f := f) hin) (rowsA_get (c := c) (f := g) hin)
    simp (maxSteps := 2000000) only [wk0, wk1, wk2, wk3, wk4, wk5, wk6, Fr.ev, Fr.put, Fr.get, storeA, List.replicate, IntKind.bits, sevalprocAttr, gor, ga, g3, g4, g5, hi, k2, cs, cl, a1, a2, wi, fx, List.length_map, Int.toNat_natCast, Nat.mul_one, YtdknnaalfoongaaGreatDoor.D47, ty1, ty3, ty4, ty22, ty23]
    refine callThen_of (hd i _ hin) ?_
    simp (maxSteps := 2000000) only [wk0, wk1, wk2, wk3, wk4, wk5, wk6, Fr.ev, Fr.put, Fr.get, storeA, List.replicate, IntKind.bits, sevalprocAttr, gor, ga, g3, g4, g5, hi, k2, cs, cl, a1, a2, wi, fx, List.length_map, Int.toNat_natCast, Nat.mul_one, YtdknnaalfoongaaGreatDoor.D47, ty1, ty3, ty4, ty22, ty23]
    exact ih (m - 1) _ _ (by omega) ⟨i + 1, i + 1, by omega, by simpa [Fr.get] using ga, by simp [Fr.get], by simp [Fr.get, an], by simp [Fr.get], rfl⟩
  · obtain rfl : i = r := by omega
    simp (maxSteps := 2000000) only [wk0, wk1, wk2, wk3, wk4, wk5, wk6, Fr.ev, Fr.put, Fr.get, storeA, List.replicate, IntKind.bits, sevalprocAttr, ga, g3, g4, g5, hi, YtdknnaalfoongaaGreatDoor.D47, ty1, ty3, ty4, ty22, ty23]
    exact retB_two (fin_rows (Nat.le_refl _) (by rw [blkAt_app0, blkAt_zero])) (.same _ (.bool _)) (by simp)
theorem refApply8_ok (r c : Nat) (f : Nat → Nat → Int) (v : List Int) (S : Heap) (hr : r ≤ 1000) (hc : c ≤ 64) (hv : v.length = c) (hf : ∀ i j, i < r → j < c → inI (f i j)) (hv' : ∀ x ∈ v, inI x) :
    Call theE 44 [mtx r c f, lstI v] S (.tup [lstI (appL f c v r), .bool (appO f c v r)]) S := by
  have hd : ∀ i S, i < r → Call theE 83 [.lst ((rowF f c i).map fun x => .int .i64 x) c, .lst (v.map fun x => .int .i64 x) v.length, .int .i64 20] S (.tup [.int .i64 ((fun i => bndI (appF f c v i)) i), .bool ((fun i => ovrB (appF f c v i)) i)]) S := fun i S hi => by
    have h := refDot_ok _ _ (rowF f c i) v 20 S (SlI.lst _) (SlI.lst _) (by decide) (by rw [rowF_len, hv]) (by rw [rowF_len]; exact hc) (rowF_in fun j hj => hf i j hi hj) hv'
    simp only [rowF_len] at h
    exact h
  have hF : appL f c v r = preL (fun i => bndI (appF f c v i)) r := rfl
  have hG : appO f c v r = preO (fun i => ovrB (appF f c v i)) r := rfl
  rw [hF, hG]
  generalize (fun i => bndI (appF f c v i)) = F at *
  generalize (fun i => ovrB (appF f c v i)) = G at *
  clear hF hG
  refine Call.ofC Tryz.func44 YtdknnaalfoongaaGreatDoor.b44 YtdknnaalfoongaaGreatDoor.d44 YtdknnaalfoongaaGreatDoor.e44 (by simp [Tryz.f44]) ?_
  dsimp only [YtdknnaalfoongaaGreatDoor.c44, Tryz.f44, Option.getD_some]
  simp (maxSteps := 2000000) only [wk0, wk1, wk2, wk3, wk4, wk5, wk6, Fr.ev, Fr.put, Fr.get, storeA, List.replicate, IntKind.bits, sevalprocAttr, mtx, lstI, YtdknnaalfoongaaGreatDoor.D44, ty1, ty2, ty3, ty4, ty22, ty23]
  refine loopC_ind (fun m fr H => ∃ (i cap : Nat), i + m = r ∧ fr.get 0 = .lst (rowsA r c f) r ∧ fr.get 1 = .lst (v.map fun x => .int .i64 x) v.length ∧ fr.get 6 = .sl S.length i 0 i cap 1 ∧ fr.get 7 = .bool (preO G i) ∧ fr.get 8 = .int .i64 (i : Int) ∧
    H = S ++ [some ⟨(preL F i).map fun x => .int .i64 x, i⟩]) ?_ (n := r) ⟨0, 0, by omega, rfl, rfl, rfl, rfl, rfl, rfl⟩
  rintro m fr H ⟨i, cap, him, g0, g1, g6, g7, g8, rfl⟩ ih
  have cl := preL_len F i
  by_cases hi : (i : Int) < r
  · have hin : i < r := by omega
    have k2 : (0 : Int) ≤ i := by omega
    have cs := preL_app F i
    have a1 : (i + 1) * 8 ≤ maxBytes := by unfold maxBytes; omega
    have a2 : i + 1 ≤ 9223372036854775807 := by omega
    have wi : IntKind.i64.wrap ((i : Int) + 1) = ((i + 1 : Nat) : Int) := wrapI (by omega)
    have an := preO_succ G i
    have gl := rowsA_get (c := c) (f := f) hin
    simp (maxSteps := 2000000) only [wk0, wk1, wk2, wk3, wk4, wk5, wk6, Fr.ev, Fr.put, Fr.get, storeA, List.replicate, IntKind.bits, sevalprocAttr, gor, g0, g1, g6, g7, g8, hi, k2, cs, cl, a1, a2, wi, gl, List.length_map, Int.toNat_natCast, Nat.mul_one, YtdknnaalfoongaaGreatDoor.D44, ty1, ty2, ty3, ty4, ty22, ty23]
    refine callThen_of (hd i _ hin) ?_
    simp (maxSteps := 2000000) only [wk0, wk1, wk2, wk3, wk4, wk5, wk6, Fr.ev, Fr.put, Fr.get, storeA, List.replicate, IntKind.bits, sevalprocAttr, gor, g0, g1, g6, g7, g8, hi, k2, cs, cl, a1, a2, wi, gl, List.length_map, Int.toNat_natCast, Nat.mul_one, YtdknnaalfoongaaGreatDoor.D44, ty1, ty2, ty3, ty4, ty22, ty23]
    exact ih (m - 1) _ _ (by omega) ⟨i + 1, i + 1, by omega, by simp [Fr.get, g0], by simp [Fr.get, g1], by simp [Fr.get], by simp [Fr.get, an], by simp [Fr.get], rfl⟩
  · obtain rfl : i = r := by omega
    simp (maxSteps := 2000000) only [wk0, wk1, wk2, wk3, wk4, wk5, wk6, Fr.ev, Fr.put, Fr.get, storeA, List.replicate, IntKind.bits, sevalprocAttr, g0, g1, g6, g7, g8, hi, YtdknnaalfoongaaGreatDoor.D44, ty1, ty2, ty3, ty4, ty22, ty23]
    refine retB_two ?_ (.same _ (.bool _)) (by simp)
    have h := fin_sl (base := S.length) (id := S.length) (ver := i) (cap := cap) (u := i) (L := preL F i) (H := S ++ [some ⟨(preL F i).map fun x => .int .i64 x, i⟩]) (Nat.le_refl _) (by rw [blkAt_app0, blkAt_zero])
    rw [cl] at h
    exact h
theorem refMul8_ok (r n c : Nat) (f g : Nat → Nat → Int) (S : Heap) (hr : r ≤ 1000) (hn : 1 ≤ n ∧ n ≤ 64) (hc : c ≤ 64) (hf : ∀ i j, i < r → j < n → inI (f i j)) (hg : ∀ i j, i < n → j < c → inI (g i j)) :
    Call theE 45 [mtx r n f, mtx n c g] S (.tup [mtx r c (fun i j => bndI (mulF f g n i j)), .bool (anyP c (fun i j => ovrB (mulF f g n i j)) (r * c))]) S := by
  have ht := fun S => refTurn8_ok n c g S (by omega) (by omega)
  have hd : ∀ i S, i < r → Call theE 44 [.lst (rowsA c n fun i j => g j i) c, .lst ((rowF f n i).map fun x => .int .i64 x) n] S (.tup [.lst ((rowF (fun i j => bndI (mulF f g n i j)) c i).map fun x => .int .i64 x) c, .bool (preO ((fun i j => ovrB (mulF f g n i j)) i) c)]) S := fun i S hi => by
    have h := refApply8_ok c n (fun i j => g j i) (rowF f n i) S (by omega) (by omega) (rowF_len _ _ _) (fun i j hi hj => hg j i hj hi) (rowF_in fun j hj => hf i j hi hj)
    have e : ∀ j, appF (fun i j => g j i) n (rowF f n i) j = mulF f g n i j := fun j => by unfold appF mulF; rw [dotZ_comm]; rfl
    have e1 : appL (fun i j => g j i) n (rowF f n i) c = rowF (fun i j => bndI (mulF f g n i j)) c i := by
      show List.map (fun k => bndI (appF (fun i j => g j i) n (rowF f n i) k)) (List.range c) = List.map (fun j => bndI (mulF f g n i j)) (List.range c)
      exact List.map_congr_left fun j _ => by rw [e j]
    have e2 : appO (fun i j => g j i) n (rowF f n i) c = preO ((fun i j => ovrB (mulF f g n i j)) i) c := by unfold appO preO; simp only [e]
    rw [e1, e2] at h
    simp only [mtx, lstI, rowF_len] at h
    exact h
  generalize (fun i j => bndI (mulF f g n i j)) = F at *
  generalize (fun i j => ovrB (mulF f g n i j)) = G at *
  simp only [mtx] at ht
  refine Call.ofC Tryz.func45 YtdknnaalfoongaaGreatDoor.b45 YtdknnaalfoongaaGreatDoor.d45 YtdknnaalfoongaaGreatDoor.e45 (by simp [Tryz.f45]) ?_
  dsimp only [YtdknnaalfoongaaGreatDoor.c45, Tryz.f45, Option.getD_some]
  simp (maxSteps := 2000000) only [wk0, wk1, wk2, wk3, wk4, wk5, wk6, Fr.ev, Fr.put, Fr.get, storeA, List.replicate, IntKind.bits, sevalprocAttr, mtx, YtdknnaalfoongaaGreatDoor.D45, ty1, ty3, ty4, ty22, ty23]
  refine callThen_of (ht _) ?_
  simp (maxSteps := 2000000) only [wk0, wk1, wk2, wk3, wk4, wk5, wk6, Fr.ev, Fr.put, Fr.get, storeA, List.replicate, IntKind.bits, sevalprocAttr, mtx, YtdknnaalfoongaaGreatDoor.D45, ty1, ty3, ty4, ty22, ty23]
  refine loopC_ind (fun m fr H => ∃ (i cap : Nat), i + m = r ∧ (fr.get 0 = .lst (rowsA r n f) r ∧ fr.get 6 = .lst (rowsA c n fun i j => g j i) c) ∧ fr.get 7 = .sl S.length i 0 i cap 1 ∧ fr.get 8 = .bool (anyP c G (i * c)) ∧ fr.get 9 = .int .i64 (i : Int) ∧
    H = S ++ [some ⟨rowsA i c F, i⟩]) ?_ (n := r) ⟨0, 0, by omega, by simp [Fr.get], rfl, by simp [Fr.get, anyP], rfl, rfl⟩
  rintro m fr H ⟨i, cap, him, ga, g3, g4, g5, rfl⟩ ih
  by_cases hi : (i : Int) < r
  · have hin : i < r := by omega
    have k2 : (0 : Int) ≤ i := by omega
    have cs := rowsA_app i c F
    have cl := rowsA_len i c F
    have a1 : (i + 1) * 24 ≤ maxBytes := by unfold maxBytes; omega
    have a2 : i + 1 ≤ 9223372036854775807 := by omega
    have wi : IntKind.i64.wrap ((i : Int) + 1) = ((i + 1 : Nat) : Int) := wrapI (by omega)
    have an := anyP_row c G i
    have fx := rowsA_get (c := n) (f := f) hin
    simp (maxSteps := 2000000) only [wk0, wk1, wk2, wk3, wk4, wk5, wk6, Fr.ev, Fr.put, Fr.get, storeA, List.replicate, IntKind.bits, sevalprocAttr, gor, ga, g3, g4, g5, hi, k2, cs, cl, a1, a2, wi, fx, List.length_map, Int.toNat_natCast, Nat.mul_one, YtdknnaalfoongaaGreatDoor.D45, ty1, ty3, ty4, ty22, ty23]
    refine callThen_of (hd i _ hin) ?_
    simp (maxSteps := 2000000) only [wk0, wk1, wk2, wk3, wk4, wk5, wk6, Fr.ev, Fr.put, Fr.get, storeA, List.replicate, IntKind.bits, sevalprocAttr, gor, ga, g3, g4, g5, hi, k2, cs, cl, a1, a2, wi, fx, List.length_map, Int.toNat_natCast, Nat.mul_one, YtdknnaalfoongaaGreatDoor.D45, ty1, ty3, ty4, ty22, ty23]
    exact ih (m - 1) _ _ (by omega) ⟨i + 1, i + 1, by omega, by simpa [Fr.get] using ga, by simp [Fr.get], by simp [Fr.get, an], by simp [Fr.get], rfl⟩
  · obtain rfl : i = r := by omega
    simp (maxSteps := 2000000) only [wk0, wk1, wk2, wk3, wk4, wk5, wk6, Fr.ev, Fr.put, Fr.get, storeA, List.replicate, IntKind.bits, sevalprocAttr, ga, g3, g4, g5, hi, YtdknnaalfoongaaGreatDoor.D45, ty1, ty3, ty4, ty22, ty23]
    exact retB_two (fin_rows (Nat.le_refl _) (by rw [blkAt_app0, blkAt_zero])) (.same _ (.bool _)) (by simp)
/-- Rows of their own, number by number. -/
theorem rnd_scale {z k p : Int} (hk : 0 < k) (hp : 0 < p) : rnd (k * z) (k * p) = rnd z p := by
  unfold rnd
  have e1 : k * z / (k * p) = z / p := Int.mul_ediv_mul_of_pos _ _ hk
  have e2 : k * z % (k * p) = k * (z % p) := Int.mul_emod_mul_of_pos _ _ hk
  rw [e1, e2]
  have e3 : (k * p < 2 * (k * (z % p))) ↔ (p < 2 * (z % p)) := by
    rw [show 2 * (k * (z % p)) = k * (2 * (z % p)) by rw [Int.mul_left_comm]]
    exact Int.mul_lt_mul_left hk
  have e4 : (k * p = 2 * (k * (z % p))) ↔ (p = 2 * (z % p)) := by
    rw [show 2 * (k * (z % p)) = k * (2 * (z % p)) by rw [Int.mul_left_comm]]
    exact Int.mul_eq_mul_left_iff (by omega)
  simp only [e3, e4]
end Go.Proofs.YtdknnaalfoongaaGreatDoor
