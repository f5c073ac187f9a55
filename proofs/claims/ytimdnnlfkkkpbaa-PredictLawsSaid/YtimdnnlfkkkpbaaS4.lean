/- The law PredictLaws. -/
import Derived.Test.YtimdnnlfkkkpbaaS3
import Derived.Test.YtimdnnlfkkkpbaaM5
set_option linter.unusedSimpArgs false
set_option linter.unusedVariables false
set_option maxRecDepth 100000
set_option maxHeartbeats 8000000
namespace Go.Proofs.Ytimdnnlfkkkpbaa
section
variable {E : Env} {C : CallRel} {f base : Nat} {D : Nat → List Tag} {a b c : Code} {fr : Fr} {H : Heap} {K : Ex → Fr → Heap → Prop}
theorem seqAssoc : wpC E C f base D (.seq a (.seq b c)) fr H K = wpC E C f base D (.seq (.seq a b) c) fr H K := by
  have h : seqC E C f base D (.seq b c) K = seqC E C f base D b (seqC E C f base D c K) := by
    funext e fr H
    cases e <;> rfl
  rw [c_seq, c_seq, c_seq, h]
theorem seqCut (Q : Fr → Heap → Prop) (h1 : ∀ K' : Ex → Fr → Heap → Prop, (∀ fr H, Q fr H → K' .normal fr H) → wpC E C f base D a fr H K') (h2 : ∀ fr H, Q fr H → wpC E C f base D b fr H K) : wpC E C f base D (.seq a b) fr H K := by
  rw [c_seq]
  exact h1 _ fun fr H h => h2 fr H h
end
theorem bnd_of {x : Int} (h : topI x) : bndI x = x := by unfold topI at h; unfold bndI; omega
theorem ovr_of {x : Int} (h : topI x) : ovrB x = false := by unfold topI at h; exact decide_eq_false (by omega)
theorem mulF_congr {f f' g g' : Nat → Nat → Int} {n i j : Nat} (h1 : ∀ k, k < n → f i k = f' i k) (h2 : ∀ k, k < n → g k j = g' k j) : mulF f g n i j = mulF f' g' n i j := by
  unfold mulF rowF colF
  rw [List.map_congr_left (fun k hk => h1 k (List.mem_range.1 hk)), List.map_congr_left (fun k hk => h2 k (List.mem_range.1 hk))]
theorem eye_sym (n : Nat) : (fun i j => eyeP n j i) = eyeP n := by
  funext i j
  unfold eyeP
  by_cases e : i = j
  · subst e; rfl
  · rw [if_neg (fun h => e h.1.symm), if_neg (fun h => e h.1)]
theorem eye_mulF (f : Nat → Nat → Int) (n i j : Nat) (hi : i < n) : mulF (eyeP n) f n i j = f i j := by
  have h := mulF_turn (eyeP n) f n j i
  rw [eye_sym] at h
  rw [← h]
  exact mulF_eye (fun i j => f j i) n j i hi
theorem eye_appF (x : Nat → Int) (i : Nat) (hi : i < 6) : appF (eyeP 6) 6 (xL x) i = x i := by
  unfold appF rowF
  rw [xL_map, dotZ_range, sumZ_one (j := i) hi (fun k _ hne => by unfold eyeP; rw [if_neg (fun h => hne h.1.symm)]; simp)]
  unfold eyeP
  rw [if_pos ⟨rfl, hi⟩, Int.mul_comm]
  exact rnd_mul' (by decide)
theorem stA_congr {x x' : Nat → Int} {f f' : Nat → Nat → Int} (h1 : ∀ i, i < 6 → x i = x' i) (h2 : ∀ i j, i < 6 → j < 6 → f i j = f' i j) : stA x f = stA x' f' := by
  have hg : gridP 6 f 36 = gridP 6 f' 36 := List.map_congr_left fun q hq => by
    have hq := List.mem_range.1 hq
    rw [if_pos hq, if_pos hq, h2 _ _ (by omega) (by omega)]
  unfold stA stC
  rw [hg, h1 0 (by decide), h1 1 (by decide), h1 2 (by decide), h1 3 (by decide), h1 4 (by decide), h1 5 (by decide)]
theorem anyP_none {c : Nat} {f : Nat → Nat → Bool} {k : Nat} (h : ∀ q, q < k → f (q / c) (q % c) = false) : anyP c f k = false := by
  unfold anyP
  rw [List.any_eq_false]
  intro q hq
  rw [h q (List.mem_range.1 hq)]; decide
/-- A step of ones, without noise. -/
theorem next_eye {x : Nat → Int} {f : Nat → Nat → Int} (h : OkS x f) : stA (nxX x (eyeP 6)) (sprF f (eyeP 6) (fun _ _ => 0)) = stA x f ∧ nxO x f (eyeP 6) (fun _ _ => 0) = false := by
  have m1 : ∀ i j, i < 6 → mulF (eyeP 6) f 6 i j = f i j := fun i j hi => eye_mulF f 6 i j hi
  have hA : ∀ i j, i < 6 → j < 6 → sprA f (eyeP 6) i j = f i j := fun i j hi hj => by unfold sprA; rw [m1 i j hi, bnd_of (h.top i j hi hj)]
  have m2 : ∀ i j, i < 6 → j < 6 → mulF (sprA f (eyeP 6)) (fun i j => eyeP 6 j i) 6 i j = f i j := fun i j hi hj => by
    rw [eye_sym, mulF_congr (f' := f) (g' := eyeP 6) (fun k hk => hA i k hi hk) (fun _ _ => rfl)]
    exact mulF_eye f 6 i j hj
  have hB : ∀ i j, i < 6 → j < 6 → sprB f (eyeP 6) i j = f i j := fun i j hi hj => by unfold sprB; rw [m2 i j hi hj, bnd_of (h.top i j hi hj)]
  have hC : ∀ i j, i < 6 → j < 6 → sprC f (eyeP 6) (fun _ _ => 0) i j = f i j := fun i j hi hj => by
    unfold sprC; rw [hB i j hi hj, Int.add_zero, bnd_of (h.top i j hi hj)]
  have m4 : ∀ i j, i < 6 → j < 6 → evenF (sprC f (eyeP 6) (fun _ _ => 0)) i j = f i j := fun i j hi hj => by
    rw [evenF_self (by rw [hC j i hj hi, hC i j hi hj, h.even j i hj hi]), hC i j hi hj]
  have hD : ∀ i j, i < 6 → j < 6 → sprD f (eyeP 6) (fun _ _ => 0) i j = f i j := fun i j hi hj => by unfold sprD; rw [m4 i j hi hj, bnd_of (h.top i j hi hj)]
  constructor
  · refine stA_congr (fun i hi => ?_) (fun i j hi hj => ?_)
    · unfold nxX; rw [eye_appF x i hi, bnd_of (h.x i hi)]
    · unfold sprF dgF
      split
      · rename_i e
        obtain rfl := e.1
        rw [hD i i hi hi]
        have := h.diag i hi
        omega
      · exact hD i j hi hj
  · have q6 : ∀ q : Nat, q < 36 → q / 6 < 6 ∧ q % 6 < 6 := fun q hq => by omega
    unfold nxO sprO
    have e0 : appO (eyeP 6) 6 (xL x) 6 = false := by
      unfold appO
      rw [List.any_eq_false]
      intro i hi
      rw [eye_appF x i (List.mem_range.1 hi), ovr_of (h.x i (List.mem_range.1 hi))]; decide
    rw [e0, anyP_none (fun q hq => by rw [m1 _ _ (q6 q hq).1, ovr_of (h.top _ _ (q6 q hq).1 (q6 q hq).2)]), anyP_none (fun q hq => by rw [m2 _ _ (q6 q hq).1 (q6 q hq).2, ovr_of (h.top _ _ (q6 q hq).1 (q6 q hq).2)]),
      anyP_none (fun q hq => by rw [hB _ _ (q6 q hq).1 (q6 q hq).2, Int.add_zero, ovr_of (h.top _ _ (q6 q hq).1 (q6 q hq).2)]), anyP_none (fun q hq => by rw [m4 _ _ (q6 q hq).1 (q6 q hq).2, ovr_of (h.top _ _ (q6 q hq).1 (q6 q hq).2)])]
    rfl
/-- A state after a step may be. -/
theorem next_okS (x : Nat → Int) (f st no : Nat → Nat → Int) : OkS (nxX x st) (sprF f st no) := by
  have ev : ∀ i j, sprD f st no i j = sprD f st no j i := fun i j => by unfold sprD; rw [evenF_turn]
  refine ⟨fun i j hi hj => ?_, fun i j hi hj => ?_, fun i hi => ?_, fun i hi => bnd_top _⟩
  · unfold sprF dgF
    by_cases e : i = j
    · subst e; rfl
    · rw [if_neg (fun h => e h.1), if_neg (fun h => e h.1.symm), ev]
  · unfold sprF dgF
    have := bnd_top (evenF (sprC f st no) i j)
    split
    · unfold sprD topI at *; omega
    · exact this
  · unfold sprF dgF; rw [if_pos ⟨rfl, hi⟩]; omega
def nzF (k : Int) (i j : Nat) : Int := if i = j then k else 0
theorem next_more (f st : Nat → Nat → Int) (k : Int) (hk : 0 ≤ k) (i : Nat) (hi : i < 6) : sprF f st (fun _ _ => 0) i i ≤ sprF f st (nzF k) i i := by
  unfold sprF dgF
  rw [if_pos ⟨rfl, hi⟩, if_pos ⟨rfl, hi⟩]
  have h1 : sprC f st (fun _ _ => 0) i i ≤ sprC f st (nzF k) i i := by
    show bndI (sprB f st i i + 0) ≤ bndI (sprB f st i i + (if i = i then k else 0))
    rw [if_pos rfl]; unfold bndI; omega
  have h2 : sprD f st (fun _ _ => 0) i i ≤ sprD f st (nzF k) i i := by
    unfold sprD; rw [evenF_self rfl, evenF_self rfl]; unfold bndI; omega
  omega
theorem some_okS (x : List Int) (p : List (List Int)) : OkS (someX x) (someP p) := by
  refine ⟨fun i j _ _ => ?_, fun i j _ _ => ?_, fun i _ => ?_, fun i _ => ?_⟩
  · unfold someP
    rw [Nat.max_comm i j, Nat.min_comm i j]
    by_cases e : i = j
    · subst e; rfl
    · rw [if_neg e, if_neg (Ne.symm e)]
  · have := someN_bound p (max i j) (min i j)
    unfold someP topI
    split
    · split <;> omega
    · omega
  · have := someN_bound p (max i i) (min i i)
    unfold someP
    rw [if_pos rfl]
    split <;> omega
  · have := someX_bound x i
    unfold topI; omega
end Go.Proofs.Ytimdnnlfkkkpbaa
