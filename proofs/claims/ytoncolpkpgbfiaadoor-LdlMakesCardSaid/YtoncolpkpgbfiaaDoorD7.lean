/- Decimals: quotients, cut down, and what is left. -/
import Derived.Test.YtoncolpkpgbfiaaDoorD6
set_option linter.unusedSimpArgs false
set_option linter.unusedVariables false
set_option maxRecDepth 100000
set_option maxHeartbeats 4000000
namespace Go.Proofs.YtoncolpkpgbfiaaDoor
def hD (Q m k : Nat) : Int := if m ≤ k then ((dgt Q k : Nat) : Int) else 0
def qD (Q i c k : Nat) : Int := if k = i then (c : Int) else if i < k then ((dgt Q k : Nat) : Int) else 0
theorem hD_qD (Q i : Nat) : hD Q (i + 1) = qD Q i 0 := by
  funext k; unfold hD qD
  by_cases h : k = i
  · rw [if_pos h, if_neg (by omega)]; rfl
  · rw [if_neg h]
    by_cases h2 : i < k
    · rw [if_pos h2, if_pos (by omega)]
    · rw [if_neg h2, if_neg (by omega)]
theorem qD_hD (Q i : Nat) : qD Q i (dgt Q i) = hD Q i := by
  funext k; unfold hD qD
  by_cases h : k = i
  · subst h; rw [if_pos rfl, if_pos (Nat.le_refl _)]
  · rw [if_neg h]
    by_cases h2 : i < k
    · rw [if_pos h2, if_pos (by omega)]
    · rw [if_neg h2, if_neg (by omega)]
theorem qD_at (Q i c : Nat) : qD Q i c i = (c : Int) := by unfold qD; rw [if_pos rfl]
theorem qD_set (Q i c : Nat) : (fun k => if k = i then ((c + 1 : Nat) : Int) else qD Q i c k) = qD Q i (c + 1) := by
  funext k; unfold qD
  by_cases h : k = i
  · rw [if_pos h, if_pos h]
  · rw [if_neg h, if_neg h, if_neg h]
theorem hD_zero (Q n : Nat) : fnL (hD Q 0) n = dgN Q n := by
  rw [← fnL_dgt]; exact fnL_congr fun k _ => by unfold hD; rw [if_pos (Nat.zero_le _)]
theorem hD_top {n : Nat} (Q : Nat) : fnL (hD Q n) n = fnL (fun _ => 0) n := fnL_congr fun k hk => by unfold hD; rw [if_neg (by omega)]
theorem intsA_one (l : List Int) : (l.map fun x => AV.int .i64 x).all AV.one = true := by simp [AV.one]
theorem intsA_nmd (n : Nat) (l : List Int) : ∀ x ∈ l.map (fun x => AV.int .i64 x), Nmd n x := by
  intro x hx
  obtain ⟨y, _, rfl⟩ := List.mem_map.1 hx
  exact .int _ _
/-- A number of the digits of a list that is frozen. -/
theorem trimL_ok (n i : Nat) (S : Heap) (hi : i ≤ 100000) (hn : n < 10 ^ i) : Call theE 82 [.lst ((dgN n i).map fun x => .int .i64 x) i] S (lstI (digs n)) S := by
  have hl : lenD n ≤ i := (lenD_le _ _).2 hn
  refine Call.ofC Tryd.func82 YtoncolpkpgbfiaaDoor.b82 YtoncolpkpgbfiaaDoor.d82 YtoncolpkpgbfiaaDoor.e82 (by simp [Tryd.f82]) ?_
  dsimp only [YtoncolpkpgbfiaaDoor.c82, Tryd.f82, Option.getD_some]
  simp (maxSteps := 2000000) only [wk0, wk1, wk2, wk3, wk4, wk5, wk6, Fr.ev, Fr.put, Fr.get, storeA, List.replicate, IntKind.bits, sevalprocAttr, lstI, YtoncolpkpgbfiaaDoor.D82, ty3, ty4, ty100]
  refine loopC_ind (fun m fr H => lenD n ≤ m ∧ m ≤ i ∧ fr.get 0 = .lst ((dgN n m).map fun x => .int .i64 x) m ∧ H = S) ?_ (n := i) ⟨hl, by omega, rfl, rfl⟩
  rintro m fr H ⟨hlm, hmi, g0, rfl⟩ ih
  cases m with
  | zero =>
    have h0 : lenD n = 0 := by omega
    simp (maxSteps := 2000000) only [wk0, wk1, wk2, wk3, wk4, wk5, wk6, Fr.ev, Fr.put, Fr.get, storeA, List.replicate, IntKind.bits, sevalprocAttr, g0, h0, YtoncolpkpgbfiaaDoor.D82, ty3, ty4, ty100]
    exact retB_plain (by simp [nmd_lst]) (by simp [packA, lstI, digs, h0, dgN_zero]) (by simp)
  | succ k =>
    have w1 : IntKind.i64.wrap (((k + 1 : Nat) : Int) - 1) = (k : Int) := by rw [wrapI (by omega)]; omega
    have gk := dgN_getA n (show k < k + 1 by omega)
    have p1 : (0 : Int) < ((k + 1 : Nat) : Int) := by omega
    have p2 : (0 : Int) ≤ (k : Int) := by omega
    have p3 : (k : Int) < ((k + 1 : Nat) : Int) := by omega
    have p4 : (k : Int) ≤ ((k + 1 : Nat) : Int) := by omega
    by_cases hz : ((dgt n k : Nat) : Int) = 0
    · have hn' : n < 10 ^ k := dgt_zero ((lenD_le _ _).1 hlm) (by omega)
      have hl' := (lenD_le _ _).2 hn'
      have ll : k ≤ ((dgN n (k + 1)).map fun x => AV.int .i64 x).length := by rw [List.length_map, dgN_len]; omega
      have tk : List.take k ((dgN n (k + 1)).map fun x => AV.int .i64 x) = (dgN n k).map fun x => .int .i64 x := by rw [← List.map_take, dgN_take n (by omega)]
      cases k with
      | zero =>
        simp (maxSteps := 2000000) only [wk0, wk1, wk2, wk3, wk4, wk5, wk6, Fr.ev, Fr.put, Fr.get, storeA, List.replicate, IntKind.bits, sevalprocAttr, g0, w1, gk, p1, p2, p3, p4, hz, ll, tk, bd_none, bd_some, bv_int, sa_lst, Int.toNat_natCast, Nat.mul_one, Nat.zero_add, List.drop_zero, Nat.zero_mul, Nat.sub_zero, YtoncolpkpgbfiaaDoor.D82, ty3, ty4, ty100]
        exact ih 0 _ _ (by omega) ⟨hl', by omega, by simp [Fr.get, dgN_zero], rfl⟩
      | succ k =>
        have p5 : ¬ (0 : Int) = ((k + 1 : Nat) : Int) := by omega
        simp (maxSteps := 2000000) only [wk0, wk1, wk2, wk3, wk4, wk5, wk6, Fr.ev, Fr.put, Fr.get, storeA, List.replicate, IntKind.bits, sevalprocAttr, g0, w1, gk, p1, p2, p3, p4, p5, hz, ll, tk, bd_none, bd_some, bv_int, sa_lst, Int.toNat_natCast, Nat.mul_one, Nat.zero_add, List.drop_zero, Nat.zero_mul, Nat.sub_zero, YtoncolpkpgbfiaaDoor.D82, ty3, ty4, ty100]
        exact ih (k + 1) _ _ (by omega) ⟨hl', by omega, by simp [Fr.get], rfl⟩
    · have h0 : lenD n = k + 1 := by
        have := (lt_lenD n k).2 (by
          rcases Nat.lt_or_ge n (10 ^ k) with h | h
          · rw [dgt_zero_of_lt h] at hz; exact absurd rfl hz
          · exact h)
        omega
      simp (maxSteps := 2000000) only [wk0, wk1, wk2, wk3, wk4, wk5, wk6, Fr.ev, Fr.put, Fr.get, storeA, List.replicate, IntKind.bits, sevalprocAttr, g0, w1, gk, p1, p2, p3, p4, hz, Int.toNat_natCast, Nat.mul_one, Nat.zero_add, YtoncolpkpgbfiaaDoor.D82, ty3, ty4, ty100]
      exact retB_plain (by simp [nmd_lst]) (by simp [packA, lstI, digs, h0, dgN_len]) (by simp)
theorem numA_dec (neg : Bool) (n : Nat) : numA neg n = decA (if neg then -(n : Int) else n) := by
  rw [decA_S, numA_S]
  cases neg with
  | false => exact decS_eq (by simp) (by simp)
  | true => exact decS_eq (by simp) (by simp)
theorem blkD_set {S : Heap} {i j v : Nat} {x : Option Blk} (h : i ≠ j) : blkAt (S.set i x) j v = blkAt S j v := by
  unfold blkAt; rw [List.getElem?_set_ne h]
theorem blkD_self {S : Heap} {i v : Nat} {cs : List AV} (h : i < S.length) : blkAt (S.set i (some ⟨cs, v⟩)) i v = some ⟨cs, v⟩ := by
  unfold blkAt; rw [List.getElem?_set_self h]; simp
structure DvS (S P : Heap) (sx sy : Bool) (a b : Nat) (cs : List AV) : Prop where
  h0 : blkAt P S.length 0 = some ⟨[.bool sx, .lst ((digs a).map fun x => .int .i64 x) (lenD a)], 0⟩
  h1 : blkAt P (S.length + 1) 0 = some ⟨[.bool sy, .lst ((digs b).map fun x => .int .i64 x) (lenD b)], 0⟩
  h2 : blkAt P (S.length + 2) 0 = some ⟨[.bool false, .nils], 0⟩
  h3 : blkAt P (S.length + 3) 0 = some ⟨[.bool false, .nils], 0⟩
  h5 : blkAt P (S.length + 5) 0 = some ⟨cs, 0⟩
  pre : P.take S.length = S
theorem DvS.len {S P : Heap} {sx sy : Bool} {a b : Nat} {cs : List AV} (h : DvS S P sx sy a b cs) : S.length + 5 < P.length := blk_lt h.h5
theorem DvS.app {S P : Heap} {sx sy : Bool} {a b : Nat} {cs : List AV} (h : DvS S P sx sy a b cs) (L : Heap) : DvS S (P ++ L) sx sy a b cs :=
  ⟨blk_app h.h0, blk_app h.h1, blk_app h.h2, blk_app h.h3, blk_app h.h5, by rw [List.take_append_of_le_length (by have := h.len; omega)]; exact h.pre⟩
theorem DvS.set {S P : Heap} {sx sy : Bool} {a b : Nat} {cs : List AV} (h : DvS S P sx sy a b cs) (cs' : List AV) : DvS S (P.set (S.length + 5) (some ⟨cs', 0⟩)) sx sy a b cs' :=
  ⟨by rw [blkD_set (by omega)]; exact h.h0, by rw [blkD_set (by omega)]; exact h.h1, by rw [blkD_set (by omega)]; exact h.h2, by rw [blkD_set (by omega)]; exact h.h3, blkD_self h.len, by rw [List.take_set_of_le (by omega)]; exact h.pre⟩
def qZ (sx sy : Bool) (a b : Nat) : Int := if sx && decide (0 < a % b) then (if sy then ((a / b : Nat) : Int) + 1 else -((a / b : Nat) : Int) - 1) else (if !(sx == sy) then -((a / b : Nat) : Int) else ((a / b : Nat) : Int))
def rZ (sx : Bool) (a b : Nat) : Int := if sx && decide (0 < a % b) then ((b - a % b : Nat) : Int) else ((a % b : Nat) : Int)

end Go.Proofs.YtoncolpkpgbfiaaDoor
