/- The law TrailLaws. -/
import Derived.Test.YtdknnaalfoongaaDoorT3
import Derived.Test.YtdknnaalfoongaaDoorEvO
set_option linter.unusedSimpArgs false
set_option linter.unusedVariables false
set_option maxRecDepth 100000
set_option maxHeartbeats 8000000
namespace Go.Proofs.YtdknnaalfoongaaDoor
theorem pts_of {v : AV} (h : DatC (.slice [.int .i64, .int .i64, .int .i64]) v) : ∃ l : List Pt, v = .lst (ptC (fun i => l.getD i Pt.z) l.length) l.length ∧ l.length ≤ maxLen := by
  obtain ⟨rows, rfl, h1, h2⟩ := h.rows
  obtain ⟨l, rfl, _⟩ := rows_all (f := pc) (q := fun _ => True) fun r hr => by
    obtain ⟨a, r, rfl, ha, hr⟩ := (h2 r hr).inv
    obtain ⟨b, r, rfl, hb, hr⟩ := hr.inv
    obtain ⟨c, r, rfl, hc, hr⟩ := hr.inv
    obtain rfl := hr.inv0
    obtain ⟨x, rfl, _⟩ := ha.i64
    obtain ⟨y, rfl, _⟩ := hb.i64
    obtain ⟨z, rfl, _⟩ := hc.i64
    exact ⟨⟨x, y, z⟩, trivial, rfl⟩
  refine ⟨l, ?_, by simpa using h1⟩
  rw [List.length_map, Go.Deep.map_by_index l Pt.z pc]
  rfl
theorem abs_far {F : Nat → Pt} {r : Nat → Int} {mn : Nat} (h : farR F r mn) (i : Nat) (h1 : 1 ≤ i) (h2 : i < mn) : (F i).x - (F (i - 1)).x ≤ r i ∧ (F (i - 1)).x - (F i).x ≤ r i := by
  obtain ⟨h3, h4, h5⟩ := h i h1 h2
  obtain ⟨dx, hdx⟩ : ∃ dx, (F i).x - (F (i - 1)).x = dx := ⟨_, rfl⟩
  obtain ⟨dy, hdy⟩ : ∃ dy, (F i).y - (F (i - 1)).y = dy := ⟨_, rfl⟩
  rw [hdx, hdy] at h4 h5
  have hy : 0 ≤ dy * dy := by
    rcases Int.le_total 0 dy with h | h
    · exact Int.mul_nonneg h h
    · rw [← Int.neg_mul_neg]; exact Int.mul_nonneg (by omega) (by omega)
  have key : ∀ z : Int, 0 ≤ z → z * z = dx * dx → z ≤ r i := fun z hz he => (sq_le (x := z) (r := r i) hz h3.1 h4 h5).1 (by omega)
  rcases Int.le_total 0 dx with h | h
  · have := key dx h rfl; omega
  · have := key (-dx) (by omega) (by rw [Int.neg_mul_neg]); omega
theorem far_long {F : Nat → Pt} {r : Nat → Int} {mn : Nat} (h : farR F r mn) : ∀ n, n < mn → lnO r n = false → (F n).x - (F 0).x ≤ lnS r n ∧ (F 0).x - (F n).x ≤ lnS r n := by
  intro n
  induction n with
  | zero => intro _ _; simp [lnS]
  | succ n ih =>
    intro hn ho
    simp only [lnO, Bool.or_eq_false_iff] at ho
    have h1 := ih (by omega) ho.1
    have h2 := abs_far h (n + 1) (by omega) hn
    rw [Nat.add_sub_cancel] at h2
    have h3 := ho.2
    unfold ovrB at h3
    rw [decide_eq_false_iff_not] at h3
    simp only [lnS]
    unfold bndI
    omega
theorem mid_in {f : Nat → Int} {lo hi : Int} {n : Nat} (hn : 1 ≤ n) (h : ∀ i, i < n → lo ≤ f i ∧ f i ≤ hi) : ¬ smI f n / n < lo ∧ ¬ hi < smI f n / n := by
  have b := smI_bound h
  have h1 : lo ≤ smI f n / n := Int.le_ediv_of_mul_le (by omega) (by rw [Int.mul_comm]; exact b.1)
  have h2 : smI f n / n ≤ hi := Int.ediv_le_of_le_mul (by omega) (by rw [Int.mul_comm]; exact b.2)
  omega
/-- The points that are kept may be, and their times rise. -/
structure GoodP (F : Nat → Pt) (mn : Nat) : Prop where
  may : ∀ i, i < mn → mayP (F i)
  rise : ∀ i, i + 1 < mn → (F i).t < (F (i + 1)).t
theorem good_add {c nx mn : Nat} {R : Nat → Pt} {p : Pt} (hc : 1 ≤ c) (hn : nx < c) (hm : mn ≤ c) (h : GoodP (ptI c nx mn R) mn) (hp : mayP p) (ht : 1 ≤ mn → ¬ p.t ≤ (ptI c nx mn R (mn - 1)).t) :
    GoodP (ptI c ((nx + 1) % c) (min (mn + 1) c) (upd R nx p)) (min (mn + 1) c) := by
  have e := fun i hi => ptI_add c nx mn R p hc hn hm i hi
  refine ⟨fun i hi => ?_, fun i hi => ?_⟩
  · rw [e i hi]
    split
    · exact hp
    · exact h.may _ (by omega)
  · rw [e i (by omega), e (i + 1) hi, if_neg (by omega)]
    by_cases hq : i + 1 = min (mn + 1) c - 1
    · rw [if_pos hq]
      have := ht (by omega)
      rw [show i + (mn + 1 - min (mn + 1) c) = mn - 1 by omega]
      omega
    · rw [if_neg hq, show i + 1 + (mn + 1 - min (mn + 1) c) = i + (mn + 1 - min (mn + 1) c) + 1 by omega]
      exact h.rise _ (by omega)
theorem all3 (a b c : Int) : allInts [.int .i64 a, .int .i64 b, .int .i64 c] [.int .i64 a, .int .i64 b, .int .i64 c] = some true := by simp [allInts]

end Go.Proofs.YtdknnaalfoongaaDoor
