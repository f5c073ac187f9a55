/- trig: plain facts of the steps that turn a pair (no program in sight). -/
import Derived.Test.YtoncolpkpgbfiaaDoorT0
import Derived.Test.YtoncolpkpgbfiaaDoorD9
import Derived.Test.YtoncolpkpgbfiaaDoorP6
import Derived.Test.YtoncolpkpgbfiaaDoorEvV
set_option linter.unusedSimpArgs false
set_option linter.unusedVariables false
set_option maxRecDepth 100000
set_option maxHeartbeats 4000000
namespace Go.Proofs.YtoncolpkpgbfiaaDoor
/-- The program's shift by a step's number. -/
theorem shrK (n : Int) (k : Nat) (h : k ≤ 64) : n.fdiv (2 ^ (min (Int.toNat (k : Int)) 64)) = n / 2 ^ k := by
  rw [Int.toNat_natCast, Nat.min_eq_left h, Int.fdiv_eq_ediv_of_nonneg _ (Int.le_of_lt (Int.pow_pos (by decide)))]
theorem div_pow_succ (n : Int) (k : Nat) : n / 2 ^ k / 2 = n / 2 ^ (k + 1) := by
  rw [Int.pow_succ, Int.ediv_ediv_of_nonneg (Int.le_of_lt (Int.pow_pos (by decide)))]
theorem div_pow_inI {n : Int} (h : inI n) (k : Nat) : inI (n / 2 ^ k) := by
  induction k with
  | zero => simpa using h
  | succ k ih =>
    rw [← div_pow_succ]
    unfold inI at ih ⊢
    omega
/-- The reference's halving, cut down: an odd number less one, then by two. -/
theorem halve_odd {n : Int} (h : inI n) (ho : ¬ n.tmod 2 = 0) : (IntKind.i64.wrap (n - 1)).tdiv 2 = n / 2 := by
  have h' := h
  unfold inI at h'
  have hm : n % 2 = 1 := by
    rcases Int.emod_two_eq n with e | e
    · exact absurd (Int.tmod_eq_zero_of_dvd (Int.dvd_of_emod_eq_zero e)) ho
    · exact e
  rw [wrapI (by omega)]
  obtain ⟨q, hq⟩ : ∃ q, n - 1 = 2 * q := ⟨n / 2, by omega⟩
  rw [hq, Int.mul_tdiv_cancel_left _ (by decide)]
  omega
theorem halve_even {n : Int} (ho : n.tmod 2 = 0) : n.tdiv 2 = n / 2 := by
  have hd : (2 : Int) ∣ n := Int.dvd_of_tmod_eq_zero ho
  obtain ⟨q, rfl⟩ := hd
  rw [Int.mul_tdiv_cancel_left _ (by decide)]
  omega
/-- The angles of the steps. -/
def angL : List Int := [576460752303423488, 340304653033718298, 179807632645220259, 91273161881380487,
  45813697873323707, 22929182573009054, 11467389120678282, 5734044481687724,
  2867065987018958, 1433538461969102, 716769914547871, 358385042719534,
  179192532040472, 89596267355325, 44798133844548, 22399066943135,
  11199533474175, 5599766737413, 2799883368747, 1399941684379,
  699970842190, 349985421095, 174992710548, 87496355274,
  43748177637, 21874088818, 10937044409, 5468522205,
  2734261102, 1367130551, 683565276, 341782638,
  170891319, 85445659, 42722830, 21361415,
  10680707, 5340354, 2670177, 1335088]
def angN (k : Nat) : Int := angL.getD k 0
theorem ang_at (k : Nat) (h : k < 40) : (angL.map fun n => AV.int .i64 n)[k]? = some (.int .i64 (angN k)) := by
  rw [List.getElem?_map, List.getElem?_eq_getElem (by simpa [angL] using h)]
  simp [angN, List.getD, List.getElem?_eq_getElem (show k < angL.length by simpa [angL] using h)]
/-- A pair and what is left of the angle, after a step to the left, or to the right. -/
structure P3 where
  x : Int
  y : Int
  z : Int
def stepP (left : Bool) (k : Nat) (p : P3) : P3 :=
  if left then ⟨IntKind.i64.wrap (p.x - p.y / 2 ^ k), IntKind.i64.wrap (p.y + p.x / 2 ^ k), IntKind.i64.wrap (p.z - angN k)⟩
  else ⟨IntKind.i64.wrap (p.x + p.y / 2 ^ k), IntKind.i64.wrap (p.y - p.x / 2 ^ k), IntKind.i64.wrap (p.z + angN k)⟩
/-- All steps up to one: to the left by a test of the pair. -/
def runP (left : P3 → Bool) (p : P3) : Nat → P3
  | 0 => p
  | k + 1 => stepP (left (runP left p k)) k (runP left p k)
structure OkP (p : P3) : Prop where
  x : inI p.x
  y : inI p.y
  z : inI p.z
theorem inI_wrap (n : Int) : inI (IntKind.i64.wrap n) := by
  rw [wrapI64]
  unfold inI
  omega
theorem step_in (l : Bool) (k : Nat) (p : P3) : OkP (stepP l k p) := by
  unfold stepP
  cases l <;> exact ⟨inI_wrap _, inI_wrap _, inI_wrap _⟩
theorem runP_okP {left : P3 → Bool} {p : P3} (h : OkP p) (k : Nat) : OkP (runP left p k) := by
  cases k with
  | zero => exact h
  | succ k => exact step_in _ _ _
/-- The sine's and the cosine's pair, of a rest of a quarter; and the angle of a pair. -/
def bothP (z : Int) : P3 := runP (fun p => decide (0 ≤ p.z)) ⟨495056041134655927, 495056041134655927, z⟩ 40
def angP (u v : Int) : P3 := runP (fun p => decide (p.y ≤ 0)) ⟨u, v, 0⟩ 40
end Go.Proofs.YtoncolpkpgbfiaaDoor
