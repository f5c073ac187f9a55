/- The document's answer (chapter 9): a difference, a sum of products, what is left of a number. -/
import Derived.Test.YtoncolpkpgbfiaaDoorL3
import Derived.Test.YtoncolpkpgbfiaaDoorP7
import Derived.Test.YtoncolpkpgbfiaaDoorKM
import Derived.Test.YtoncolpkpgbfiaaDoorD4
import Derived.Test.YtoncolpkpgbfiaaDoorL7
set_option linter.unusedSimpArgs false
set_option linter.unusedVariables false
set_option maxRecDepth 100000
set_option maxHeartbeats 8000000
namespace Go.Proofs.YtoncolpkpgbfiaaDoor
/-! factors as rows: of 42 numbers -/
def gF (n : Nat) (G : List Int) (i j : Nat) : Int := G.getD (i * n + j) 0
def gD (G : List Int) (i : Nat) : List Int := (List.range i).map fun k => G.getD (36 + k) 0
def gC (n : Nat) (G : List Int) (i j : Nat) : List Int := (List.range j).map (gF n G i)
theorem gD_len (G : List Int) (i : Nat) : (gD G i).length = i := by simp [gD]
theorem gC_len (n : Nat) (G : List Int) (i j : Nat) : (gC n G i j).length = j := by simp [gC]
theorem gC_app (n : Nat) (G : List Int) (i j : Nat) : (gC n G i j).map (fun x => AV.int .i64 x) ++ [.int .i64 (gF n G i j)] = (gC n G i (j + 1)).map fun x => .int .i64 x := by unfold gC; rw [List.range_succ, List.map_append, List.map_append]; rfl
theorem gD_app (G : List Int) (i : Nat) : (gD G i).map (fun x => AV.int .i64 x) ++ [.int .i64 (G.getD (36 + i) 0)] = (gD G (i + 1)).map fun x => .int .i64 x := by unfold gD; rw [List.range_succ, List.map_append, List.map_append]; rfl
theorem gC_get {n i j k : Nat} {G : List Int} (h : k < j) : (gC n G i j)[k]? = some (gF n G i k) := by simp [gC, h]
theorem gD_get {i k : Nat} {G : List Int} (h : k < i) : (gD G i)[k]? = some (G.getD (36 + k) 0) := by simp [gD, h]
theorem gC_cut {n i j : Nat} {G : List Int} (h : i * n + j ≤ G.length) : gC n G i j = cutL G (i * n) j := by
  apply List.ext_getElem?
  intro k
  by_cases hk : k < j
  · rw [gC_get hk, cutL, List.getElem?_take_of_lt hk, List.getElem?_drop, gF, List.getD_eq_getElem?_getD, List.getElem?_eq_getElem (by omega)]
    rfl
  · rw [List.getElem?_eq_none (by rw [gC_len]; omega), List.getElem?_eq_none (by rw [cutL_len h]; omega)]
theorem gC_in {n i j : Nat} {G : List Int} (h : ∀ x ∈ G, inI x) : ∀ x ∈ gC n G i j, inI x := by
  intro x hx
  obtain ⟨k, _, rfl⟩ := List.mem_map.1 hx
  exact getD_in h _
/-- The rows and the numbers of i rows, as they lie: nothing, or two blocks that grow. -/
inductive FLD (S : Heap) (n i : Nat) (G : List Int) : AV → AV → Prop
  | nil : i = 0 → FLD S n i G .nils .nils
  | sl (a va ca b vb cb : Nat) : 0 < i → blkAt S a va = some ⟨rowsA i n (gF n G), va⟩ → blkAt S b vb = some ⟨(gD G i).map fun x => .int .i64 x, vb⟩ → FLD S n i G (.sl a va 0 i ca 1) (.sl b vb 0 i cb 1)

theorem gm9_at (G : List Int) (k : Nat) (h : k < G.length) : (G.map fun x => AV.int .i64 x)[k]? = some (.int .i64 (G.getD k 0)) := by
  rw [List.getElem?_map, List.getElem?_eq_getElem h, Option.map_some, List.getD_eq_getElem?_getD, List.getElem?_eq_getElem h]
  rfl
end Go.Proofs.YtoncolpkpgbfiaaDoor

/- The document's answer (chapter 9): the factors of rows: plain facts. -/
set_option linter.unusedSimpArgs false
set_option linter.unusedVariables false
set_option maxRecDepth 100000
set_option maxHeartbeats 8000000
namespace Go.Proofs.YtoncolpkpgbfiaaDoor
section
variable {E : Env} {C : CallRel} {f base : Nat} {D : Nat → List Tag} {a b c : Code} {fr : Fr} {H : Heap} {K : Ex → Fr → Heap → Prop}
theorem assocF : wpC E C f base D (.seq a (.seq b c)) fr H K = wpC E C f base D (.seq (.seq a b) c) fr H K := by
  have h : seqC E C f base D (.seq b c) K = seqC E C f base D b (seqC E C f base D c K) := by
    funext e fr H
    cases e <;> rfl
  rw [c_seq, c_seq, c_seq, h]
theorem cutF (Q : Fr → Heap → Prop) (h1 : ∀ K' : Ex → Fr → Heap → Prop, (∀ fr H, Q fr H → K' .normal fr H) → (∀ fr H, K .ret fr H → K' .ret fr H) → wpC E C f base D a fr H K') (h2 : ∀ fr H, Q fr H → wpC E C f base D b fr H K) : wpC E C f base D (.seq a b) fr H K := by
  rw [c_seq]
  exact h1 _ (fun fr H h => h2 fr H h) (fun fr H h => h)
end
/-! rows while numbers are set -/
def ZF (n i : Nat) (G : List Int) : Prop := ∀ q, i * n ≤ q → q < 36 → G.getD q 0 = 0
theorem gF_low {n i q k t : Nat} {G : List Int} {v : Int} (hq : i * n ≤ q) (hk : k < i) (ht : t < n) : gF n (G.set q v) k t = gF n G k t := by
  unfold gF
  refine getD_set_ne ?_
  have := Nat.mul_le_mul_right n (show k + 1 ≤ i by omega)
  rw [Nat.add_mul, Nat.one_mul] at this
  omega
theorem rowsA_congF {i n : Nat} {f g : Nat → Nat → Int} (h : ∀ k t, k < i → t < n → f k t = g k t) : rowsA i n f = rowsA i n g := by
  unfold rowsA
  apply List.map_congr_left
  intro k hk
  have hk := List.mem_range.1 hk
  congr 1
  unfold rowF
  apply List.map_congr_left
  intro t ht
  exact h k t hk (List.mem_range.1 ht)
theorem rowsA_low {n i q : Nat} {G : List Int} {v : Int} (hq : i * n ≤ q) : rowsA i n (gF n (G.set q v)) = rowsA i n (gF n G) := rowsA_congF fun _ _ hk ht => gF_low hq hk ht
theorem gD_low {q i : Nat} {G : List Int} {v : Int} (hq : q < 36) : gD (G.set q v) i = gD G i := by
  unfold gD
  apply List.map_congr_left
  intro k _
  exact getD_set_ne (by omega)
theorem ofG_rows (n : Nat) (M : Nat → Nat → Int) (i : Nat) (G : List Int) (h : i * n + n ≤ 36) (j : Nat) (hj : j ≤ n) : rowsA i n (gF n (ofG n M i G j)) = rowsA i n (gF n G) ∧ gD (ofG n M i G j) i = gD G i ∧ ∀ q, i * n + j ≤ q → (ofG n M i G j).getD q 0 = G.getD q 0 := by
  induction j with
  | zero => exact ⟨rfl, rfl, fun _ _ => rfl⟩
  | succ j ih =>
    obtain ⟨h1, h2, h3⟩ := ih (by omega)
    refine ⟨?_, ?_, fun q hq => ?_⟩
    · exact (rowsA_low (by omega)).trans h1
    · exact (gD_low (by omega)).trans h2
    · exact (getD_set_ne (by omega)).trans (h3 q (by omega))
theorem gC_low {n i j q : Nat} {G : List Int} {v : Int} (hq : i * n + j ≤ q) : gC n (G.set q v) i j = gC n G i j := by
  unfold gC
  apply List.map_congr_left
  intro t ht
  have := List.mem_range.1 ht
  exact getD_set_ne (by omega)
theorem gC_row (n i : Nat) (G : List Int) : rowF (gF n G) n i = gC n G i n := rfl
/-- The numbers behind row i. -/
def ofN (n : Nat) (M : Nat → Nat → Int) (i : Nat) (G : List Int) : List Int := (ofI n M i G).set (36 + i) (ofD n M i G)
theorem ofN_row {n i : Nat} {M : Nat → Nat → Int} {G : List Int} (hS : OfS i G) (hn6 : n ≤ 6) (hi : i < n) (h : i * n + n ≤ 36) (hz : ZF n i G) :
    gC n (ofN n M i G) i i = gC n (ofG n M i G i) i i ∧ gF n (ofN n M i G) i i = 1073741824 ∧ (∀ t, i < t → t < n → gF n (ofN n M i G) i t = 0) ∧ rowsA i n (gF n (ofN n M i G)) = rowsA i n (gF n G) ∧ gD (ofN n M i G) i = gD G i ∧ (ofN n M i G).getD (36 + i) 0 = ofD n M i G ∧ ZF n (i + 1) (ofN n M i G) := by
  obtain ⟨h1, h2, h3⟩ := ofG_rows n M i G h i (by omega)
  have hl : (ofG n M i G i).length = 42 := (hS.row (M := M) h i (by omega)).len
  have key : ∀ q, q < 36 → (ofN n M i G).getD q 0 = (ofI n M i G).getD q 0 := fun q hq => getD_set_ne (by omega)
  have hi6 : i < 36 := by have : n ≤ 36 := by omega
                          omega
  refine ⟨?_, ?_, fun t h4 h5 => ?_, ?_, ?_, ?_, fun q hq h36 => ?_⟩
  · unfold ofN ofI
    rw [gC_low (by omega), gC_low (by omega)]
  · unfold gF
    rw [key _ (by omega)]
    exact getD_set_self (by omega)
  · unfold gF
    rw [key _ (by omega)]
    unfold ofI
    rw [getD_set_ne (by omega), h3 _ (by omega)]
    exact hz _ (by omega) (by omega)
  · unfold ofN ofI
    rw [rowsA_low (by omega), rowsA_low (by omega), h1]
  · unfold gD
    apply List.map_congr_left
    intro k hk
    have hk := List.mem_range.1 hk
    have e : (ofN n M i G).getD (36 + k) 0 = (ofI n M i G).getD (36 + k) 0 := getD_set_ne (by omega)
    rw [e]
    unfold ofI
    rw [getD_set_ne (by omega)]
    have := congrArg (fun l : List Int => l[k]?) h2
    simp only [gD_get hk] at this
    exact Option.some.inj this
  · unfold ofN
    exact getD_set_self (by unfold ofI; rw [List.length_set, hl]; omega)
  · rw [Nat.add_mul, Nat.one_mul] at hq
    rw [key _ h36]
    unfold ofI
    rw [getD_set_ne (by omega), h3 _ (by omega)]
    exact hz _ (by omega) h36
theorem tally9_ints (X : List Int) : tallyC (X.map fun x => AV.int .i64 x) = false := by cases X <;> rfl
theorem tly_nils {l : List AV} : tallyC (.nils :: l) = false := rfl
theorem tly_sl {a b c d e f : Nat} {l : List AV} : tallyC (.sl a b c d e f :: l) = false := rfl
theorem lrT_or (n : Nat) (G : List Int) (z : Int) (i j : Nat) (o : Bool) : lrT n G z i j o = (o || lrT n G z i j false) := by unfold lrT; simp [Bool.or_assoc]
theorem cutL_low {G : List Int} {a j q : Nat} {v : Int} (h : a + j ≤ q) : cutL (G.set q v) a j = cutL G a j := by
  unfold cutL
  apply List.ext_getElem?
  intro k
  by_cases hk : k < j
  · rw [List.getElem?_take_of_lt hk, List.getElem?_take_of_lt hk, List.getElem?_drop, List.getElem?_drop, List.getElem?_set_ne (by omega)]
  · rw [List.getElem?_eq_none (by simp; omega), List.getElem?_eq_none (by simp; omega)]
theorem lrW_diag {n i k q : Nat} {G : List Int} {v : Int} (h1 : i * n + k ≠ q) (h2 : 36 + k ≠ q) : lrW n (G.set q v) i k = lrW n G i k := by
  unfold lrW
  rw [getD_set_ne (Ne.symm h1), getD_set_ne (Ne.symm h2)]
theorem lr_diag {n i : Nat} {G : List Int} {z v : Int} {o : Bool} (h : i * n + i < 36) : lrV n (G.set (i * n + i) v) z i i = lrV n G z i i ∧ lrT n (G.set (i * n + i) v) z i i o = lrT n G z i i o := by
  have e1 : lrL n (G.set (i * n + i) v) i i = lrL n G i i := by
    unfold lrL
    apply List.map_congr_left
    intro k hk
    have := List.mem_range.1 hk
    rw [lrW_diag (by omega) (by omega)]
  have e2 : lrO n (G.set (i * n + i) v) i i = lrO n G i i := by
    unfold lrO
    rw [Bool.eq_iff_iff, List.any_eq_true, List.any_eq_true]
    constructor
    · rintro ⟨k, hk, h1⟩
      have := List.mem_range.1 hk
      rw [lrW_diag (by omega) (by omega)] at h1
      exact ⟨k, hk, h1⟩
    · rintro ⟨k, hk, h1⟩
      have := List.mem_range.1 hk
      exact ⟨k, hk, by rw [lrW_diag (by omega) (by omega)]; exact h1⟩
  have e3 : lrS n (G.set (i * n + i) v) i i = lrS n G i i := by
    unfold lrS
    rw [e1, cutL_low (by omega)]
  unfold lrV lrT
  rw [e3, e2]
  exact ⟨rfl, rfl⟩
theorem rowF_at {f : Nat → Nat → Int} {n i j : Nat} (h : j < n) : ((rowF f n i).map fun x => AV.int .i64 x)[j]? = some (.int .i64 (f i j)) := by simp [rowF, h]
end Go.Proofs.YtoncolpkpgbfiaaDoor

/- Layer 9's helpers: rows made even; factors as rows. -/
set_option linter.unusedSimpArgs false
set_option linter.unusedVariables false
set_option maxRecDepth 100000
set_option maxHeartbeats 8000000
namespace Go.Proofs.YtoncolpkpgbfiaaDoor
def evV (M : Nat → Nat → Int) (more : Int) (i j : Nat) : Int :=
  if i = j then max 1 ((if (M i i).tmod 1099511627776 < 0 then -(M i i).tmod 1099511627776 else (M i i).tmod 1099511627776) + 1 + more.tmod 17592186044416) else (M (max i j) (min i j)).tmod 1099511627776
theorem tm40 (k : Int) : -1099511627776 < k.tmod 1099511627776 ∧ k.tmod 1099511627776 < 1099511627776 := by
  have := Int.tmod_lt_of_pos k (show (0 : Int) < 1099511627776 by decide)
  have h2 := Int.lt_tmod_of_pos k (show (0 : Int) < 1099511627776 by decide)
  omega
theorem tm44 (k : Int) : -17592186044416 < k.tmod 17592186044416 ∧ k.tmod 17592186044416 < 17592186044416 := by
  have := Int.tmod_lt_of_pos k (show (0 : Int) < 17592186044416 by decide)
  have h2 := Int.lt_tmod_of_pos k (show (0 : Int) < 17592186044416 by decide)
  omega
theorem evV_even (n : Nat) (M : Nat → Nat → Int) (more : Int) : EvenM n n (evV M more) := ⟨rfl, fun i j _ _ => by
  unfold evV
  by_cases e : i = j
  · subst e; rfl
  · rw [if_neg e, if_neg (Ne.symm e), Nat.max_comm, Nat.min_comm]⟩
theorem evV_in (M : Nat → Nat → Int) (more : Int) (i j : Nat) : inI (evV M more i j) := by
  have h1 := tm40 (M i i)
  have h2 := tm44 more
  have h3 := tm40 (M (max i j) (min i j))
  unfold evV inI
  split
  · split <;> omega
  · omega
noncomputable def c11 : Code := Tryd.f11.body.getD .skip
theorem b11 : Tryd.f11.body = some c11 := rfl
theorem d11 : fnOk Tryd.f11 c11 = true := by kernel_rfl
def D11 : Nat → List Tag := fun _ => []
theorem e11 : drawsOk D11 c11 = true := by kernel_rfl
theorem evenRows_ok (n : Nat) (M : Nat → Nat → Int) (more : Int) (S : Heap) (hn : 1 ≤ n ∧ n ≤ 6) (hmore : inI more) (qm : ∀ S, Call theE 37 [mtx n n M] S (.bool true) S) :
    Call theE 11 [mtx n n M, .int .i64 more] S (mtx n n (evV M more)) S := by
  have q5 : (0 : Int) < n := by omega
  have gl0 := rowsA_get (c := n) (f := M) (show 0 < n by omega)
  have rl := rowsA_len n n M
  have n1 : 1 ≤ n := hn.1
  simp only [mtx] at qm
  refine Call.ofC Tryd.func11 YtoncolpkpgbfiaaDoor.b11 YtoncolpkpgbfiaaDoor.d11 YtoncolpkpgbfiaaDoor.e11 (by simp [Tryd.f11]) ?_
  dsimp only [YtoncolpkpgbfiaaDoor.c11, Tryd.f11, Option.getD_some]
  iterate 2
    simp (maxSteps := 2000000) only [wk0, wk1, wk2, wk3, wk4, wk5, wk6, Fr.ev, Fr.put, Fr.get, storeA, List.replicate, IntKind.bits, sevalprocAttr, mtx, gl0, q5, rl, n1, castLit, YtoncolpkpgbfiaaDoor.D11, ty1, ty2, ty3, ty4, ty41, ty42]
    try first
      | refine callThen_of (qm _) ?_
  refine loopC_ind (fun m fr H => ∃ (i cap : Nat) (T : Heap), i + m = n ∧ fr.get 0 = .lst (rowsA n n M) n ∧ fr.get 1 = .int .i64 more ∧ fr.get 5 = .sl S.length i 0 i cap 1 ∧ fr.get 6 = .int .i64 (i : Int) ∧
    S ++ some ⟨rowsA i n (evV M more), i⟩ :: T = H) ?_ (n := n) ⟨0, 0, [], by omega, rfl, rfl, rfl, rfl, rfl⟩
  rintro m fr P ⟨i, cap, T, him, g0, g1, g5, g6, hP⟩ ih
  have tb := fun L => tail_blk hP L rfl
  have tb0 := tail_blk0 hP rfl
  have ts := fun L b => tail_set hP L b
  have ta := fun a b c d e x H => show mayAppend S.length .append [.sl P.length a b c d e, x] H = True by simp only [mayAppend, eq_iff_iff, iff_true]; left; rw [← hP]; simp
  have lP : S.length ≤ P.length := by rw [← hP]; simp
  by_cases hi : (i : Int) < n
  · have hin : i < n := by omega
    have k2 : (0 : Int) ≤ i := by omega
    have cs := rowsA_app i n (evV M more)
    have cl := rowsA_len i n (evV M more)
    have a1 : (i + 1) * 24 ≤ maxBytes := by unfold maxBytes; omega
    have a2 : i + 1 ≤ 9223372036854775807 := by omega
    have wi : IntKind.i64.wrap ((i : Int) + 1) = ((i + 1 : Nat) : Int) := wrapI (by omega)
    simp (maxSteps := 2000000) only [wk0, wk1, wk2, wk3, wk4, wk5, wk6, Fr.ev, Fr.put, Fr.get, storeA, List.replicate, IntKind.bits, sevalprocAttr, g0, g1, g5, g6, hi, k2, YtoncolpkpgbfiaaDoor.D11, ty1, ty2, ty3, ty4, ty41, ty42]
    refine loopC_ind (fun m' fr H => ∃ (j cap2 : Nat), j + m' = n ∧ fr.get 0 = .lst (rowsA n n M) n ∧ fr.get 1 = .int .i64 more ∧ fr.get 5 = .sl S.length i 0 i cap 1 ∧ fr.get 6 = .int .i64 (i : Int) ∧ fr.get 7 = .sl P.length j 0 j cap2 1 ∧ fr.get 8 = .int .i64 (j : Int) ∧
      H = P ++ [some ⟨(preL (evV M more i) j).map fun x => .int .i64 x, j⟩]) ?_ (n := n) ⟨0, 0, by omega, by simp [Fr.get, g0], by simp [Fr.get, g1], by simp [Fr.get, g5], by simp [Fr.get, g6], rfl, rfl, rfl⟩
    clear g0 g1 g5 g6
    rintro m' fr H ⟨j, cap2, hjm, g0, g1, g5, g6, g7, g8, rfl⟩ ih2
    have cl2 := preL_len (evV M more i) j
    by_cases hj : (j : Int) < n
    · have hjn : j < n := by omega
      have k1 : (0 : Int) ≤ j := by omega
      have wj : IntKind.i64.wrap ((j : Int) + 1) = ((j + 1 : Nat) : Int) := wrapI (by omega)
      have cs2 := preL_app (evV M more i) j
      have c1 : (j + 1) * 8 ≤ maxBytes := by unfold maxBytes; omega
      have c2 : j + 1 ≤ 9223372036854775807 := by omega
      obtain ⟨a, ha⟩ : ∃ a, max i j = a := ⟨_, rfl⟩
      obtain ⟨b, hb⟩ : ∃ b, min i j = b := ⟨_, rfl⟩
      have mx : max (i : Int) (j : Int) = (a : Int) := by omega
      have mn : min (i : Int) (j : Int) = (b : Int) := by omega
      have gl := rowsA_get (c := n) (f := M) (show a < n by omega)
      have gk := rowF_at (f := M) (i := a) (show b < n by omega)
      have m1 : ¬ (1099511627776 : Int) = 0 := by decide
      have m2 : ¬ (17592186044416 : Int) = 0 := by decide
      have a0 : (0 : Int) ≤ a := by omega
      have a1' : (a : Int) < n := by omega
      have b0 : (0 : Int) ≤ b := by omega
      have b1' : (b : Int) < n := by omega
      have hx := tm40 (M a b)
      have hy0 := tm44 more
      obtain ⟨x, ht⟩ : ∃ x, (M a b).tmod 1099511627776 = x := ⟨_, rfl⟩
      obtain ⟨y, hy⟩ : ∃ y, more.tmod 17592186044416 = y := ⟨_, rfl⟩
      rw [ht] at hx
      rw [hy] at hy0
      by_cases e : i = j
      · subst e
        have ea : a = i := by omega
        have eb : b = i := by omega
        subst ea
        have ev : evV M more a a = max 1 ((if x < 0 then -x else x) + 1 + y) := by
          unfold evV
          rw [if_pos rfl, hy]
          rw [eb] at ht
          rw [ht]
        have e1 : True := trivial
        by_cases hneg : x < 0
        · rw [if_pos hneg] at ev
          have w0 : IntKind.i64.wrap (0 - x) = -x := by rw [wrapI (by omega)]; omega
          have w1 : IntKind.i64.wrap (-x + 1) = -x + 1 := wrapI (by omega)
          have w2 : IntKind.i64.wrap (-x + 1 + y) = -x + 1 + y := wrapI (by omega)
          by_cases hz : -x + 1 + y < 1
          · have ev1 : evV M more a a = 1 := by omega
            rw [ev1] at cs2
            simp (maxSteps := 2000000) only [wk0, wk1, wk2, wk3, wk4, wk5, wk6, Fr.ev, Fr.put, Fr.get, storeA, List.replicate, IntKind.bits, sevalprocAttr, g0, g1, g5, g6, g7, g8, hi, hj, k1, k2, mx, mn, gl, gk, m1, m2, a0, a1', b0, b1', e1, ht, hy, wj, rl, cl2, cs2, c1, c2, ta, hneg, w0, w1, w2, hz, Int.toNat_natCast, Nat.mul_one, List.length_map, YtoncolpkpgbfiaaDoor.D11, ty1, ty2, ty3, ty4, ty41, ty42]
            exact ih2 (m' - 1) _ _ (by omega) ⟨a + 1, a + 1, by omega, by simp [Fr.get, g0], by simp [Fr.get, g1], by simp [Fr.get, g5], by simp [Fr.get, g6], by simp [Fr.get], by simp [Fr.get], rfl⟩
          · have ev1 : evV M more a a = -x + 1 + y := by omega
            rw [ev1] at cs2
            simp (maxSteps := 2000000) only [wk0, wk1, wk2, wk3, wk4, wk5, wk6, Fr.ev, Fr.put, Fr.get, storeA, List.replicate, IntKind.bits, sevalprocAttr, g0, g1, g5, g6, g7, g8, hi, hj, k1, k2, mx, mn, gl, gk, m1, m2, a0, a1', b0, b1', e1, ht, hy, wj, rl, cl2, cs2, c1, c2, ta, hneg, w0, w1, w2, hz, Int.toNat_natCast, Nat.mul_one, List.length_map, YtoncolpkpgbfiaaDoor.D11, ty1, ty2, ty3, ty4, ty41, ty42]
            exact ih2 (m' - 1) _ _ (by omega) ⟨a + 1, a + 1, by omega, by simp [Fr.get, g0], by simp [Fr.get, g1], by simp [Fr.get, g5], by simp [Fr.get, g6], by simp [Fr.get], by simp [Fr.get], rfl⟩
        · rw [if_neg hneg] at ev
          have w1 : IntKind.i64.wrap (x + 1) = x + 1 := wrapI (by omega)
          have w2 : IntKind.i64.wrap (x + 1 + y) = x + 1 + y := wrapI (by omega)
          by_cases hz : x + 1 + y < 1
          · have ev1 : evV M more a a = 1 := by omega
            rw [ev1] at cs2
            simp (maxSteps := 2000000) only [wk0, wk1, wk2, wk3, wk4, wk5, wk6, Fr.ev, Fr.put, Fr.get, storeA, List.replicate, IntKind.bits, sevalprocAttr, g0, g1, g5, g6, g7, g8, hi, hj, k1, k2, mx, mn, gl, gk, m1, m2, a0, a1', b0, b1', e1, ht, hy, wj, rl, cl2, cs2, c1, c2, ta, hneg, w1, w2, hz, Int.toNat_natCast, Nat.mul_one, List.length_map, YtoncolpkpgbfiaaDoor.D11, ty1, ty2, ty3, ty4, ty41, ty42]
            exact ih2 (m' - 1) _ _ (by omega) ⟨a + 1, a + 1, by omega, by simp [Fr.get, g0], by simp [Fr.get, g1], by simp [Fr.get, g5], by simp [Fr.get, g6], by simp [Fr.get], by simp [Fr.get], rfl⟩
          · have ev1 : evV M more a a = x + 1 + y := by omega
            rw [ev1] at cs2
            simp (maxSteps := 2000000) only [wk0, wk1, wk2, wk3, wk4, wk5, wk6, Fr.ev, Fr.put, Fr.get, storeA, List.replicate, IntKind.bits, sevalprocAttr, g0, g1, g5, g6, g7, g8, hi, hj, k1, k2, mx, mn, gl, gk, m1, m2, a0, a1', b0, b1', e1, ht, hy, wj, rl, cl2, cs2, c1, c2, ta, hneg, w1, w2, hz, Int.toNat_natCast, Nat.mul_one, List.length_map, YtoncolpkpgbfiaaDoor.D11, ty1, ty2, ty3, ty4, ty41, ty42]
            exact ih2 (m' - 1) _ _ (by omega) ⟨a + 1, a + 1, by omega, by simp [Fr.get, g0], by simp [Fr.get, g1], by simp [Fr.get, g5], by simp [Fr.get, g6], by simp [Fr.get], by simp [Fr.get], rfl⟩
      · have e1 : ((i : Int) = (j : Int)) = False := eq_false (by omega)
        have ev : evV M more i j = x := by unfold evV; rw [if_neg e, ha, hb]; exact ht
        rw [ev] at cs2
        simp (maxSteps := 2000000) only [wk0, wk1, wk2, wk3, wk4, wk5, wk6, Fr.ev, Fr.put, Fr.get, storeA, List.replicate, IntKind.bits, sevalprocAttr, g0, g1, g5, g6, g7, g8, hi, hj, k1, k2, mx, mn, gl, gk, m1, m2, a0, a1', b0, b1', e1, ht, hy, wj, rl, cl2, cs2, c1, c2, ta, e1, Int.toNat_natCast, Nat.mul_one, List.length_map, YtoncolpkpgbfiaaDoor.D11, ty1, ty2, ty3, ty4, ty41, ty42]
        exact ih2 (m' - 1) _ _ (by omega) ⟨j + 1, j + 1, by omega, by simp [Fr.get, g0], by simp [Fr.get, g1], by simp [Fr.get, g5], by simp [Fr.get, g6], by simp [Fr.get], by simp [Fr.get], rfl⟩
    · obtain rfl : j = n := by omega
      have px := pl_nmd 0 (preL (evV M more i) j)
      have tk : List.take j ((preL (evV M more i) j).map fun x => AV.int .i64 x) = (rowF (evV M more) j i).map fun x => .int .i64 x := List.take_of_length_le (by simp [cl2])
      simp (maxSteps := 2000000) only [wk0, wk1, wk2, wk3, wk4, wk5, wk6, Fr.ev, Fr.put, Fr.get, storeA, List.replicate, IntKind.bits, sevalprocAttr, g0, g1, g5, g6, g7, g8, hj, lP, tb, tb0, ts, cl, cs, a1, a2, wi, List.length_map, Nat.mul_one, Nat.zero_add, Nat.le_refl, cl2, tk, eq_true px, YtoncolpkpgbfiaaDoor.D11, ty1, ty2, ty3, ty4, ty41, ty42]
      exact ih (m - 1) _ _ (by omega) ⟨i + 1, i + 1, _, by omega, by simp [Fr.get, g0], by simp [Fr.get, g1], by simp [Fr.get], by simp [Fr.get], tail_step hP⟩
  · obtain rfl : i = n := by omega
    simp (maxSteps := 2000000) only [wk0, wk1, wk2, wk3, wk4, wk5, wk6, Fr.ev, Fr.put, Fr.get, storeA, List.replicate, IntKind.bits, sevalprocAttr, g0, g1, g5, g6, hi, YtoncolpkpgbfiaaDoor.D11, ty1, ty2, ty3, ty4, ty41, ty42]
    exact retB_one (fin_rows (Nat.le_refl _) tb0) (tail_take hP).symm
noncomputable def c17 : Code := Tryd.f17.body.getD .skip
theorem b17 : Tryd.f17.body = some c17 := rfl
theorem d17 : fnOk Tryd.f17 c17 = true := by kernel_rfl
def D17 : Nat → List Tag
  | 12 => [.pure, .quiet, .pure, .pure, .app, .pure, .look, .pure, .pure, .pure, .look, .pure, .seq, .pure, .seq, .pure, .seq]
  | _ => []
theorem e17 : drawsOk D17 c17 = true := by kernel_rfl
theorem factorsOf_ok (n : Nat) (G : List Int) (S : Heap) (hn : 1 ≤ n ∧ n ≤ 6) (hG : G.length = 42) (hf : FineF n G) : Call theE 17 [.agg (ldB n G)] S (.agg [mtx n n (gF n G), lstI (gD G n)]) S := by
  have ck := fun S => ldlCheck_ok n G S hG hn .nili (.inl ⟨hf, rfl⟩)
  have gl : (ldB n G).length = 43 := by rw [ldB_len, hG]
  have g0 : (ldB n G)[0]? = some (.int .i64 n) := rfl
  have tl : List.take 43 (ldB n G) = ldB n G := List.take_of_length_le (by omega)
  have m8 : 8 ≤ maxBytes := by unfold maxBytes; omega
  have m24 : 24 ≤ maxBytes := by unfold maxBytes; omega
  refine Call.ofC Tryd.func17 YtoncolpkpgbfiaaDoor.b17 YtoncolpkpgbfiaaDoor.d17 YtoncolpkpgbfiaaDoor.e17 (by simp [Tryd.f17]) ?_
  dsimp only [YtoncolpkpgbfiaaDoor.c17, Tryd.f17, Option.getD_some]
  iterate 2
    simp (maxSteps := 2000000) only [wk0, wk1, wk2, wk3, wk4, wk5, wk6, Fr.ev, Fr.put, Fr.get, storeA, List.replicate, IntKind.bits, sevalprocAttr, gl, g0, tl, YtoncolpkpgbfiaaDoor.D17, ty1, ty2, ty3, ty4, ty30, ty41, ty42, ty44, ty45, ty47, ty55]
    try first
      | refine callThen_of (ck _) ?_
  refine loopC_ind (fun m fr H => ∃ i : Nat, i + m = n ∧ fr.get 1 = .ptr S.length 0 0 ∧ fr.get 2 = .ptr (S.length + 1) 0 0 ∧ fr.get 3 = .ptr (S.length + 2) 0 0 ∧ fr.get 4 = .int .i64 i ∧
    ((i = 0 ∧ H = S ++ [some ⟨ldB n G, 0⟩, some ⟨[.nils, .nils], 0⟩, some ⟨[.nils, .nils], 0⟩]) ∨ (1 ≤ i ∧ ∃ ca cb T, H = S ++ some ⟨ldB n G, 0⟩ :: some ⟨[.nils, .nils], 0⟩ :: some ⟨[.sl (S.length + 4) i 0 i ca 1, .sl (S.length + 5) i 0 i cb 1], 0⟩ :: none :: some ⟨rowsA i n (gF n G), i⟩ :: some ⟨(gD G i).map fun x => .int .i64 x, i⟩ :: T))) ?_ (n := n) ⟨0, by omega, rfl, rfl, rfl, rfl, .inl ⟨rfl, rfl⟩⟩
  rintro m fr H ⟨i, him, g1, g2, g3, g4, hH⟩ ih
  by_cases hi : (i : Int) < n
  · have hin : i < n := by omega
    have hin1 : i * n + n ≤ 36 := by
      have := Nat.mul_le_mul (show i + 1 ≤ 6 by omega) hn.2
      rw [Nat.add_mul, Nat.one_mul] at this; exact this
    have wi : IntKind.i64.wrap ((i : Int) + 1) = ((i + 1 : Nat) : Int) := wrapI (by omega)
    have w1 : IntKind.i64.wrap ((i : Int) * n) = ((i * n : Nat) : Int) := by rw [wrapI (by rw [← Int.natCast_mul]; omega)]; simp
    have i0 : (0 : Int) ≤ i := by omega
    have i6 : (i : Int) < 6 := by omega
    have ga : (ldB n G)[37 + i]? = some (.int .i64 (G.getD (36 + i) 0)) := by rw [← ldB_at n G (36 + i) (by omega), show 1 + (36 + i) = 37 + i by omega]
    have q37 : 37 + i + 1 ≤ 43 := by omega
    rcases hH with ⟨h0, rfl⟩ | ⟨hi1, ca, cb, T, rfl⟩
    · simp (maxSteps := 2000000) only [wk0, wk1, wk2, wk3, wk4, wk5, wk6, Fr.ev, Fr.put, Fr.get, storeA, List.replicate, IntKind.bits, sevalprocAttr, g1, g2, g3, g4, g0, gl, hi, YtoncolpkpgbfiaaDoor.D17, ty1, ty2, ty3, ty4, ty30, ty41, ty42, ty44, ty45, ty47, ty55]
      refine loopC_ind (fun m' fr H => ∃ j c : Nat, j + m' = n ∧ fr.get 1 = .ptr S.length 0 0 ∧ fr.get 2 = .ptr (S.length + 1) 0 0 ∧ fr.get 3 = .ptr (S.length + 2) 0 0 ∧ fr.get 4 = .int .i64 i ∧ fr.get 5 = .sl (S.length + 3) j 0 j c 1 ∧ fr.get 6 = .int .i64 j ∧ H = S ++ [some ⟨ldB n G, 0⟩, some ⟨[.nils, .nils], 0⟩, some ⟨[.nils, .nils], 0⟩,  some ⟨(gC n G i j).map fun x => .int .i64 x, j⟩ ]) ?_ (n := n) ⟨0, 0, by omega, by simp [Fr.get, g1], by simp [Fr.get, g2], by simp [Fr.get, g3], by simp [Fr.get, g4], by first | rfl | simp [Fr.get], by first | rfl | simp [Fr.get], rfl⟩
      clear g1 g2 g3 g4
      rintro m' fr H ⟨j, c, hjm, g1, g2, g3, g4, g5, g6, rfl⟩ ih2
      have gcl := gC_len n G i j
      by_cases hj : (j : Int) < n
      · have hjn : j < n := by omega
        have wj : IntKind.i64.wrap ((j : Int) + 1) = ((j + 1 : Nat) : Int) := wrapI (by omega)
        have w2 : IntKind.i64.wrap (((i * n : Nat) : Int) + j) = ((i * n + j : Nat) : Int) := by rw [wrapI (by omega)]; simp
        have p1 : (0 : Int) ≤ ((i * n + j : Nat) : Int) := by omega
        have p2 : ((i * n + j : Nat) : Int) < 36 := by omega
        have p6 : 1 + (i * n + j) + 1 ≤ 43 := by omega
        have gx : (ldB n G)[1 + (i * n + j)]? = some (.int .i64 (gF n G i j)) := ldB_at n G (i * n + j) (by omega)
        have cs2 := gC_app n G i j
        have c1 : (j + 1) * 8 ≤ maxBytes := by unfold maxBytes; omega
        have c2 : j + 1 ≤ 9223372036854775807 := by omega
        simp (maxSteps := 2000000) only [wk0, wk1, wk2, wk3, wk4, wk5, wk6, Fr.ev, Fr.put, Fr.get, storeA, List.replicate, IntKind.bits, sevalprocAttr, g1, g2, g3, g4, g5, g6, g0, gl, hj, wj, w1, w2, p1, p2, p6, gx, cs2, c1, c2, gcl, Int.toNat_natCast, Nat.mul_one, List.length_map, YtoncolpkpgbfiaaDoor.D17, ty1, ty2, ty3, ty4, ty30, ty41, ty42, ty44, ty45, ty47, ty55]
        exact ih2 (m' - 1) _ _ (by omega) ⟨j + 1, j + 1, by omega, by simp [Fr.get, g1], by simp [Fr.get, g2], by simp [Fr.get, g3], by simp [Fr.get, g4], by simp [Fr.get], by simp [Fr.get], rfl⟩
      · obtain rfl : j = n := by omega
        clear ih2
        have px : ∀ x ∈ (gC j G i j).map (fun x => AV.int .i64 x), Nmd 0 x := pl_nmd 0 _
        have tk : List.take j ((gC j G i j).map fun x => AV.int .i64 x) = (gC j G i j).map fun x => .int .i64 x := List.take_of_length_le (by rw [List.length_map, gcl]; exact Nat.le_refl _)
        have rap := rowsA_app i j (gF j G)
        rw [gC_row] at rap
        have dap := gD_app G i
        simp (maxSteps := 2000000) only [wk0, wk1, wk2, wk3, wk4, wk5, wk6, Fr.ev, Fr.put, Fr.get, storeA, List.replicate, IntKind.bits, sevalprocAttr, g1, g2, g3, g4, g5, g6, g0, gl, hj, eq_true px, tk, m8, m24, wi, i0, i6, ga, q37, ldB_tly, freshApp, tly_nils, tly_sl, gcl, Int.toNat_natCast, List.length_map, Nat.zero_add, Nat.mul_one, Nat.le_refl, Nat.le_add_right, YtoncolpkpgbfiaaDoor.D17, ty1, ty2, ty3, ty4, ty30, ty41, ty42, ty44, ty45, ty47, ty55]
        subst h0
        exact ih (m - 1) _ _ (by omega) ⟨1, by omega, by simp [Fr.get, g1], by simp [Fr.get, g2], by simp [Fr.get, g3], by simp [Fr.get], .inr ⟨Nat.le_refl _, 1, 1, [], by (rw [← rap, ← dap]) <;> rfl⟩⟩
    · have a1 : (i + 1) * 8 ≤ maxBytes := by unfold maxBytes; omega
      have a2 : i + 1 ≤ 9223372036854775807 := by omega
      have a3 : (i + 1) * 24 ≤ maxBytes := by unfold maxBytes; omega
      have rl3 := rowsA_len i n (gF n G)
      have gdl3 : ((gD G i).map fun x => AV.int .i64 x).length = i := by simp [gD]
      simp (maxSteps := 2000000) only [wk0, wk1, wk2, wk3, wk4, wk5, wk6, Fr.ev, Fr.put, Fr.get, storeA, List.replicate, IntKind.bits, sevalprocAttr, g1, g2, g3, g4, g0, gl, hi, YtoncolpkpgbfiaaDoor.D17, ty1, ty2, ty3, ty4, ty30, ty41, ty42, ty44, ty45, ty47, ty55]
      refine loopC_ind (fun m' fr H => ∃ j c : Nat, j + m' = n ∧ fr.get 1 = .ptr S.length 0 0 ∧ fr.get 2 = .ptr (S.length + 1) 0 0 ∧ fr.get 3 = .ptr (S.length + 2) 0 0 ∧ fr.get 4 = .int .i64 i ∧ fr.get 5 = .sl (S.length + (T.length + 1 + 1 + 1 + 1 + 1 + 1)) j 0 j c 1 ∧ fr.get 6 = .int .i64 j ∧ H = S ++ some ⟨ldB n G, 0⟩ :: some ⟨[.nils, .nils], 0⟩ :: some ⟨[.sl (S.length + 4) i 0 i ca 1, .sl (S.length + 5) i 0 i cb 1], 0⟩ :: none :: some ⟨rowsA i n (gF n G), i⟩ :: some ⟨(gD G i).map fun x => .int .i64 x, i⟩ :: (T ++ [ some ⟨(gC n G i j).map fun x => .int .i64 x, j⟩ ])) ?_ (n := n) ⟨0, 0, by omega, by simp [Fr.get, g1], by simp [Fr.get, g2], by simp [Fr.get, g3], by simp [Fr.get, g4], by first | rfl | simp [Fr.get], by first | rfl | simp [Fr.get], rfl⟩
      clear g1 g2 g3 g4
      rintro m' fr H ⟨j, c, hjm, g1, g2, g3, g4, g5, g6, rfl⟩ ih2
      have gcl := gC_len n G i j
      by_cases hj : (j : Int) < n
      · have hjn : j < n := by omega
        have wj : IntKind.i64.wrap ((j : Int) + 1) = ((j + 1 : Nat) : Int) := wrapI (by omega)
        have w2 : IntKind.i64.wrap (((i * n : Nat) : Int) + j) = ((i * n + j : Nat) : Int) := by rw [wrapI (by omega)]; simp
        have p1 : (0 : Int) ≤ ((i * n + j : Nat) : Int) := by omega
        have p2 : ((i * n + j : Nat) : Int) < 36 := by omega
        have p6 : 1 + (i * n + j) + 1 ≤ 43 := by omega
        have gx : (ldB n G)[1 + (i * n + j)]? = some (.int .i64 (gF n G i j)) := ldB_at n G (i * n + j) (by omega)
        have cs2 := gC_app n G i j
        have c1 : (j + 1) * 8 ≤ maxBytes := by unfold maxBytes; omega
        have c2 : j + 1 ≤ 9223372036854775807 := by omega
        simp (maxSteps := 2000000) only [wk0, wk1, wk2, wk3, wk4, wk5, wk6, Fr.ev, Fr.put, Fr.get, storeA, List.replicate, IntKind.bits, sevalprocAttr, g1, g2, g3, g4, g5, g6, g0, gl, hj, wj, w1, w2, p1, p2, p6, gx, cs2, c1, c2, gcl, Int.toNat_natCast, Nat.mul_one, List.length_map, YtoncolpkpgbfiaaDoor.D17, ty1, ty2, ty3, ty4, ty30, ty41, ty42, ty44, ty45, ty47, ty55]
        exact ih2 (m' - 1) _ _ (by omega) ⟨j + 1, j + 1, by omega, by simp [Fr.get, g1], by simp [Fr.get, g2], by simp [Fr.get, g3], by simp [Fr.get, g4], by simp [Fr.get], by simp [Fr.get], rfl⟩
      · obtain rfl : j = n := by omega
        clear ih2
        have px : ∀ x ∈ (gC j G i j).map (fun x => AV.int .i64 x), Nmd 0 x := pl_nmd 0 _
        have tk : List.take j ((gC j G i j).map fun x => AV.int .i64 x) = (gC j G i j).map fun x => .int .i64 x := List.take_of_length_le (by rw [List.length_map, gcl]; exact Nat.le_refl _)
        have rap := rowsA_app i j (gF j G)
        rw [gC_row] at rap
        have dap := gD_app G i
        simp (maxSteps := 2000000) only [wk0, wk1, wk2, wk3, wk4, wk5, wk6, Fr.ev, Fr.put, Fr.get, storeA, List.replicate, IntKind.bits, sevalprocAttr, g1, g2, g3, g4, g5, g6, g0, gl, hj, eq_true px, tk, a1, a2, a3, rl3, gdl3, rap, dap, wi, i0, i6, ga, q37, ldB_tly, tly_nils, tly_sl, gcl, Int.toNat_natCast, List.length_map, Nat.zero_add, Nat.mul_one, Nat.le_refl, Nat.le_add_right, YtoncolpkpgbfiaaDoor.D17, ty1, ty2, ty3, ty4, ty30, ty41, ty42, ty44, ty45, ty47, ty55]
        exact ih (m - 1) _ _ (by omega) ⟨i + 1, by omega, by simp [Fr.get, g1], by simp [Fr.get, g2], by simp [Fr.get, g3], by simp [Fr.get], .inr ⟨by omega, i + 1, i + 1, T ++ [none], rfl⟩⟩
  · obtain rfl : i = n := by omega
    rcases hH with ⟨h0, -⟩ | ⟨-, ca, cb, T, rfl⟩
    · exact absurd h0 (by omega)
    simp (maxSteps := 2000000) only [wk0, wk1, wk2, wk3, wk4, wk5, wk6, Fr.ev, Fr.put, Fr.get, storeA, List.replicate, IntKind.bits, sevalprocAttr, g1, g2, g3, g4, g0, gl, hi, YtoncolpkpgbfiaaDoor.D17, ty1, ty2, ty3, ty4, ty30, ty41, ty42, ty44, ty45, ty47, ty55]
    have h1 := fin_rows (base := S.length) (id := S.length + 4) (ver := i) (cap := ca) (u := i) (r := i) (c := i) (f := gF i G) (H := S ++ some ⟨ldB i G, 0⟩ :: some ⟨[.sl (S.length + 4) i 0 i ca 1, .sl (S.length + 5) i 0 i cb 1], 0⟩ :: some ⟨[.sl (S.length + 4) i 0 i ca 1, .sl (S.length + 5) i 0 i cb 1], 0⟩ :: none :: some ⟨rowsA i i (gF i G), i⟩ :: some ⟨(gD G i).map fun x => .int .i64 x, i⟩ :: T) (by omega) (by rw [blkAt_app]; simp [blkAt])
    have h2 := fin_sl (base := S.length) (id := S.length + 5) (ver := i) (cap := cb) (u := i) (L := gD G i) (H := S ++ some ⟨ldB i G, 0⟩ :: some ⟨[.sl (S.length + 4) i 0 i ca 1, .sl (S.length + 5) i 0 i cb 1], 0⟩ :: some ⟨[.sl (S.length + 4) i 0 i ca 1, .sl (S.length + 5) i 0 i cb 1], 0⟩ :: none :: some ⟨rowsA i i (gF i G), i⟩ :: some ⟨(gD G i).map fun x => .int .i64 x, i⟩ :: T) (by omega) (by rw [blkAt_app]; simp [blkAt])
    rw [gD_len] at h2
    exact retB_one (.agg _ _ (.cons _ _ _ _ h1 (.cons _ _ _ _ h2 .nil))) (by simp)
end Go.Proofs.YtoncolpkpgbfiaaDoor
