/- The document's middle (chapter 8), its rows as they lie: each a block of its own. -/
import Derived.Test.YtdknnaalfoongaaGreatDoorN3
set_option linter.unusedSimpArgs false
set_option linter.unusedVariables false
set_option maxRecDepth 100000
set_option maxHeartbeats 4000000
namespace Go.Proofs.YtdknnaalfoongaaGreatDoor
noncomputable def c48 : Code := Tryz.f48.body.getD .skip
theorem b48 : Tryz.f48.body = some c48 := rfl
theorem d48 : fnOk Tryz.f48 c48 = true := by kernel_rfl
def D48 : Nat → List Tag
  | 10 => [.pure, .pure, .pure, .quiet, .pure, .pure, .quiet, .pure, .pure, .pure, .quiet, .pure, .pure, .quiet, .pure, .pure, .seq, .pure, .pure, .pure, .pure, .pure]
  | _ => []
theorem e48 : drawsOk D48 c48 = true := by kernel_rfl
def evP (b k : Nat) : AV := .sl (b + 1 + 2 * k) 6 0 6 6 1
def evO (b n : Nat) : List AV := (List.range n).map (evP b)
def evB (b : Nat) (F : Nat → Nat → Int) (k : Nat) : Heap := [some ⟨(preL (F k) 6).map fun x => .int .i64 x, 6⟩, some ⟨[evP b k], 0⟩]
def evT (b : Nat) (F : Nat → Nat → Int) : Nat → Heap
  | 0 => []
  | k + 1 => evT b F k ++ evB b F k
theorem evO_len (b n : Nat) : (evO b n).length = n := by simp [evO]
theorem evT_len (b : Nat) (F : Nat → Nat → Int) (n : Nat) : (evT b F n).length = 2 * n := by
  induction n with
  | zero => rfl
  | succ n ih => simp only [evT, List.length_append, ih, evB, List.length_cons, List.length_nil]; omega
theorem refEvenE_ok (f : Nat → Nat → Int) (S : Heap) (hf : ∀ i j, i < 6 → j < 6 → inI (f i j)) :
    Call theE 48 [mtx 6 6 f] S (.tup [.sl S.length 6 0 6 6 1, .bool (anyP 6 (fun i j => ovrB (evenF f i j)) 36)]) (S ++ some ⟨evO S.length 6, 6⟩ :: evT S.length (fun i j => bndI (evenF f i j)) 6) := by
  have hd : ∀ i j S, i < 6 → j < 6 → Call theE 83 [.lst [.int .i64 (f i j), .int .i64 (f j i)] 2, .lst [.int .i64 1, .int .i64 1] 2, .int .i64 1] S (.tup [.int .i64 ((fun i j => bndI (evenF f i j)) i j), .bool ((fun i j => ovrB (evenF f i j)) i j)]) S := fun i j S hi hj => by
    have h := refDot_ok _ _ [f i j, f j i] [1, 1] 1 S (SlI.lst _) (SlI.lst _) (by decide) rfl (by simp) (by simp; exact ⟨hf _ _ hi hj, hf _ _ hj hi⟩) (by simp [inI])
    have e : rnd (dotZ [f i j, f j i] [1, 1]) (2 ^ 1) = evenF f i j := by
      have h := rnd_scale (z := f i j + f j i) (k := 524288) (p := 2) (by decide) (by decide)
      unfold evenF
      simp only [dotZ]
      rw [show f i j * 524288 + f j i * 524288 = 524288 * (f i j + f j i) by omega, show (2 : Int) ^ 20 = 524288 * 2 by decide, h]
      simp
    rw [e] at h
    exact h
  generalize (fun i j => bndI (evenF f i j)) = F at *
  generalize (fun i j => ovrB (evenF f i j)) = G at *
  refine Call.ofC Tryz.func48 YtdknnaalfoongaaGreatDoor.b48 YtdknnaalfoongaaGreatDoor.d48 YtdknnaalfoongaaGreatDoor.e48 (by simp [Tryz.f48]) ?_
  dsimp only [YtdknnaalfoongaaGreatDoor.c48, Tryz.f48, Option.getD_some]
  simp (maxSteps := 2000000) only [wk0, wk1, wk2, wk3, wk4, wk5, wk6, Fr.ev, Fr.put, Fr.get, storeA, List.replicate, IntKind.bits, sevalprocAttr, mtx, YtdknnaalfoongaaGreatDoor.D48, ty1, ty2, ty3, ty4, ty22, ty23]
  refine loopC_ind (fun m fr H => ∃ i : Nat, i + m = 6 ∧ fr.get 0 = .lst (rowsA 6 6 f) 6 ∧ fr.get 4 = .sl S.length i 0 i i 1 ∧ fr.get 5 = .bool (anyP 6 G (i * 6)) ∧ fr.get 6 = .int .i64 (i : Int) ∧
    S ++ some ⟨evO S.length i, i⟩ :: evT S.length F i = H) ?_ (n := 6) ⟨0, by omega, by simp [Fr.get], rfl, by simp [Fr.get, anyP], rfl, rfl⟩
  rintro m fr P ⟨i, him, ga, g3, g4, g5, hP⟩ ih
  have tb := fun L => tail_blk hP L rfl
  have tb0 := tail_blk0 hP rfl
  have ts := fun L b => tail_set hP L b
  have ta := fun a b c d e x H => show mayAppend S.length .append [.sl P.length a b c d e, x] H = True by simp only [mayAppend, eq_iff_iff, iff_true]; left; rw [← hP]; simp
  have lP : P.length = S.length + 1 + 2 * i := by rw [← hP]; simp [evT_len]; omega
  by_cases hi : (i : Int) < 6
  · have hin : i < 6 := by omega
    have k2 : (0 : Int) ≤ i := by omega
    have cs : evO S.length i ++ [.sl P.length 6 0 6 6 1] = evO S.length (i + 1) := by rw [lP]; unfold evO; rw [List.range_succ, List.map_append]; rfl
    have cl := evO_len S.length i
    have a1 : (i + 1) * 24 ≤ maxBytes := by unfold maxBytes; omega
    have a2 : i + 1 ≤ 9223372036854775807 := by omega
    have wi : IntKind.i64.wrap ((i : Int) + 1) = ((i + 1 : Nat) : Int) := wrapI (by omega)
    simp (maxSteps := 2000000) only [wk0, wk1, wk2, wk3, wk4, wk5, wk6, Fr.ev, Fr.put, Fr.get, storeA, List.replicate, IntKind.bits, sevalprocAttr, ga, g3, g4, g5, hi, k2, YtdknnaalfoongaaGreatDoor.D48, ty1, ty2, ty3, ty4, ty22, ty23]
    refine loopC_ind (fun m' fr H => ∃ j : Nat, j + m' = 6 ∧ fr.get 0 = .lst (rowsA 6 6 f) 6 ∧ fr.get 4 = .sl S.length i 0 i i 1 ∧ fr.get 5 = .bool (anyP 6 G (i * 6 + j)) ∧ fr.get 6 = .int .i64 (i : Int) ∧ fr.get 7 = .sl P.length j 0 j j 1 ∧ fr.get 8 = .int .i64 (j : Int) ∧
      H = P ++ [some ⟨(preL (F i) j).map fun x => .int .i64 x, j⟩]) ?_ (n := 6) ⟨0, by omega, by simpa [Fr.get] using ga, by simp [Fr.get, g3], by simp [Fr.get, g4], by simp [Fr.get, g5], rfl, rfl, rfl⟩
    clear ga g3 g4 g5
    rintro m' fr H ⟨j, hjm, ga, g3, g4, g5, g6, g7, rfl⟩ ih2
    have cl2 := preL_len (F i) j
    by_cases hj : (j : Int) < 6
    · have hjn : j < 6 := by omega
      have k1 : (0 : Int) ≤ j := by omega
      have wj : IntKind.i64.wrap ((j : Int) + 1) = ((j + 1 : Nat) : Int) := wrapI (by omega)
      have cs2 := preL_app (F i) j
      have b1 : (j + 1) * 8 ≤ maxBytes := by unfold maxBytes; omega
      have b2 : j + 1 ≤ 9223372036854775807 := by omega
      have an := anyP_succ 6 G i j hjn
      have pa := rowsA_get (c := 6) (f := f) hin
      have pb := rowsA_get (c := 6) (f := f) hjn
      have pc := rowF_get (f := f) (i := i) hjn
      have pd := rowF_get (f := f) (i := j) hin
      simp (maxSteps := 2000000) only [wk0, wk1, wk2, wk3, wk4, wk5, wk6, Fr.ev, Fr.put, Fr.get, storeA, List.replicate, IntKind.bits, sevalprocAttr, gor, ga, g3, g4, g5, g6, g7, hi, hj, k1, k2, pa, pb, pc, pd, wi, wj, Int.toNat_natCast, Nat.mul_one, List.length_map, cl2, cs2, b1, b2, ta, YtdknnaalfoongaaGreatDoor.D48, ty1, ty2, ty3, ty4, ty22, ty23]
      refine callThen_of (hd i j _ hin hjn) ?_
      simp (maxSteps := 2000000) only [wk0, wk1, wk2, wk3, wk4, wk5, wk6, Fr.ev, Fr.put, Fr.get, storeA, List.replicate, IntKind.bits, sevalprocAttr, gor, ga, g3, g4, g5, g6, g7, hi, hj, k1, k2, pa, pb, pc, pd, wi, wj, Int.toNat_natCast, Nat.mul_one, List.length_map, cl2, cs2, b1, b2, ta, YtdknnaalfoongaaGreatDoor.D48, ty1, ty2, ty3, ty4, ty22, ty23]
      exact ih2 (m' - 1) _ _ (by omega) ⟨j + 1, by omega, by simpa [Fr.get] using ga, by simp [Fr.get, g3], by simp [Fr.get, ← Nat.add_assoc, an], by simp [Fr.get, g5], by simp [Fr.get], by simp [Fr.get], rfl⟩
    · obtain rfl : j = 6 := by omega
      have lPs : S.length ≤ P.length := by omega
      have ea : (i + 1) * 6 = i * 6 + 6 := by omega
      simp (maxSteps := 2000000) only [wk0, wk1, wk2, wk3, wk4, wk5, wk6, Fr.ev, Fr.put, Fr.get, storeA, List.replicate, IntKind.bits, sevalprocAttr, ga, g3, g4, g5, g6, g7, hj, lPs, tb, tb0, ts, ta, cl, cs, a1, a2, wi, List.length_map, Nat.mul_one, Nat.zero_add, Nat.le_refl, cl2, YtdknnaalfoongaaGreatDoor.D48, ty1, ty2, ty3, ty4, ty22, ty23]
      refine ih (m - 1) _ _ (by omega) ⟨i + 1, by omega, by simpa [Fr.get] using ga, by simp [Fr.get], by simp [Fr.get, g4, ea], by simp [Fr.get], ?_⟩
      rw [lP, ← hP, set_app0]
      simp [evT, evB, evP]
  · obtain rfl : i = 6 := by omega
    simp (maxSteps := 2000000) only [wk0, wk1, wk2, wk3, wk4, wk5, wk6, Fr.ev, Fr.put, Fr.get, storeA, List.replicate, IntKind.bits, sevalprocAttr, ga, g3, g4, g5, hi, YtdknnaalfoongaaGreatDoor.D48, ty1, ty2, ty3, ty4, ty22, ty23]
    subst hP
    exact ⟨trivial, _, rfl, by rw [if_pos (by rfl)]; exact ⟨rfl, rfl⟩⟩
end Go.Proofs.YtdknnaalfoongaaGreatDoor
