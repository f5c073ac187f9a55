/- Slicing, blocks, lists: what every walk over slices uses. -/
import Derived.Test.YtoncolpkpgbfiaaDoorEvX
import Derived.Test.YtoncolpkpgbfiaaDoorEvV
set_option linter.unusedSimpArgs false
set_option linter.unusedVariables false
namespace Go.Proofs.YtoncolpkpgbfiaaDoor
/-! slices of parts -/
def boundV : AV → Option Int
  | .int _ n => some n
  | _ => none
section
variable {fr : Fr} {H : Heap} {d : Int}
theorem bd_none : boundA fr d none = some d := (rfl)
theorem bd_some {o : Operand} : boundA fr d (some o) = boundV (fr.ev o) := (rfl)
theorem bv_int {k : IntKind} {n : Int} : boundV (.int k n) = some n := (rfl)
theorem sa_arr {n esz id ver off : Nat} {a : Bool} {lo hi : Option Operand} : sliceA H fr (.array n esz a) (.ptr id ver off) lo hi = ((boundA fr 0 lo).bind fun l => (boundA fr n hi).bind fun h =>
      (blkAt H id ver).bind fun b => if 0 ≤ l ∧ l ≤ h ∧ h ≤ n ∧ off + n * esz ≤ b.cells.length then (if l = h then some (.lst [] 0) else some (.sl id ver (off + l.toNat * esz) (h.toNat - l.toNat) (n - l.toNat) esz)) else none) := (rfl)
theorem sa_sl {e esz eb id ver off len cap e' : Nat} {ez : List AV} {lo hi : Option Operand} : sliceA H fr (.slice e esz eb ez) (.sl id ver off len cap e') lo hi = ((boundA fr 0 lo).bind fun l => (boundA fr len hi).bind fun h =>
      if 0 ≤ l ∧ l ≤ h ∧ h ≤ len ∧ e' = esz then (if l = h then some (.lst [] 0) else some (.sl id ver (off + l.toNat * esz) (h.toNat - l.toNat) (cap - l.toNat) esz)) else none) := (rfl)
theorem sa_lst {e esz eb len : Nat} {ez cells : List AV} {lo hi : Option Operand} : sliceA H fr (.slice e esz eb ez) (.lst cells len) lo hi = ((boundA fr 0 lo).bind fun l => (boundA fr len hi).bind fun h =>
      if 0 ≤ l ∧ l ≤ h ∧ h ≤ len ∧ h.toNat * esz ≤ cells.length then (if l = h then some (.lst [] 0) else some (.lst ((cells.drop (l.toNat * esz)).take ((h.toNat - l.toNat) * esz)) (h.toNat - l.toNat))) else none) := (rfl)
theorem sa_nils {e esz eb : Nat} {ez : List AV} {lo hi : Option Operand} : sliceA H fr (.slice e esz eb ez) .nils lo hi = ((boundA fr 0 lo).bind fun l => (boundA fr 0 hi).bind fun h => if l = 0 ∧ h = 0 then some .nils else none) := (rfl)
end
theorem blk_app {S L : Heap} {id v : Nat} {b : Blk} (h : blkAt S id v = some b) : blkAt (S ++ L) id v = some b := by
  unfold blkAt at h ⊢
  rcases Nat.lt_or_ge id S.length with hl | hl
  · rw [List.getElem?_append_left hl]; exact h
  · rw [List.getElem?_eq_none hl] at h; cases h
def lstI (l : List Int) : AV := .lst (l.map fun x => .int .i64 x) l.length
theorem blk_lt {S : Heap} {id v : Nat} {b : Blk} (h : blkAt S id v = some b) : id < S.length := by
  rcases Nat.lt_or_ge id S.length with hl | hl
  · exact hl
  · unfold blkAt at h; rw [List.getElem?_eq_none hl] at h; cases h
def bndI (x : Int) : Int := max (-4611686018427387903) (min x 4611686018427387903)
def ovrB (x : Int) : Bool := decide (x < -4611686018427387903 ∨ 4611686018427387903 < x)
/-- Rounded to the nearest, from the middle to the even one. -/
def rnd (z p : Int) : Int := z / p + (if p < 2 * (z % p) ∨ p = 2 * (z % p) ∧ z / p % 2 = 1 then 1 else 0)
def dotZ : List Int → List Int → Int
  | x :: l, y :: r => x * y + dotZ l r
  | _, _ => 0
def errA (n : Int) : AV := .ifc 75 (.int .i64 n)
def inI (x : Int) : Prop := -9223372036854775808 ≤ x ∧ x < 9223372036854775808
def dotP (l r : List Int) (i : Nat) : Int := dotZ (l.take i) (r.take i)
theorem dotP_zero (l r : List Int) : dotP l r 0 = 0 := by simp [dotP, dotZ]
theorem dotP_succ (l r : List Int) (i : Nat) (h1 : i < l.length) (h2 : i < r.length) : dotP l r (i + 1) = dotP l r i + l[i] * r[i] := by
  induction i generalizing l r with
  | zero =>
    match l, r, h1, h2 with
    | x :: l, y :: r, _, _ => simp [dotP, dotZ]
  | succ i ih =>
    match l, r, h1, h2 with
    | x :: l, y :: r, h1, h2 =>
      have := ih l r (by simpa using h1) (by simpa using h2)
      simp only [dotP, List.take_succ_cons, dotZ, List.getElem_cons_succ] at this ⊢
      omega
theorem dotP_all (l r : List Int) (h : l.length = r.length) : dotP l r l.length = dotZ l r := by
  unfold dotP; rw [List.take_length, h, List.take_length]
/-! own slices that leave their call -/
theorem fin_take {base id ver cap u k : Nat} {L : List Int} {H : Heap} (h : base ≤ id) (hb : blkAt H id ver = some ⟨L.map fun x => .int .i64 x, u⟩) (hk : k ≤ L.length) : Fin1 base H (.sl id ver 0 k cap 1) (lstI (L.take k)) := by
  have e := Fin1.sl (base := base) (H := H) id ver 0 k cap 1 _ h hb (by
    intro x hx
    obtain ⟨y, _, rfl⟩ := List.mem_map.1 hx
    exact .int _ _) (by simp; omega)
  have e2 : List.take (k * 1) (List.drop 0 (L.map fun x => AV.int .i64 x)) = (L.take k).map fun x => AV.int .i64 x := by rw [List.drop_zero, Nat.mul_one, List.map_take]
  rw [e2] at e
  simpa [lstI, Nat.min_eq_left hk] using e
theorem fin_sl {base id ver cap u : Nat} {L : List Int} {H : Heap} (h : base ≤ id) (hb : blkAt H id ver = some ⟨L.map fun x => .int .i64 x, u⟩) : Fin1 base H (.sl id ver 0 L.length cap 1) (lstI L) := by
  have := fin_take (cap := cap) h hb (Nat.le_refl _)
  rwa [List.take_length] at this
def slD (id ver k cap : Nat) : AV := if k = 0 then .lst [] 0 else .sl id ver 0 k cap 1
theorem slD_pos {id ver k cap : Nat} (h : k ≠ 0) : slD id ver k cap = .sl id ver 0 k cap 1 := if_neg h
theorem slD_zero {id ver cap : Nat} : slD id ver 0 cap = .lst [] 0 := rfl
theorem mv_slD {o : Bool} {t : Option TK} {H : Heap} {id ver k cap : Nat} : moveA o t H (slD id ver k cap) = some (slD id ver k cap, H) := by unfold slD; split <;> rfl
theorem fin_slD {base id ver cap u k : Nat} {L : List Int} {H : Heap} (h : base ≤ id) (hb : blkAt H id ver = some ⟨L.map fun x => .int .i64 x, u⟩) (hk : k ≤ L.length) : Fin1 base H (slD id ver k cap) (lstI (L.take k)) := by
  by_cases h0 : k = 0
  · subst h0; rw [slD_zero]; exact .same _ (.lst _ _)
  · rw [slD_pos h0]; exact fin_take h hb hk
theorem retB_one {base : Nat} {v v' : AV} {H' H1 : Heap} (h : Fin1 base H1 v v') (hH : H' = H1.take base) : retB (some [v]) base v' H' H1 := ⟨[v'], .cons _ _ _ _ h .nil, rfl, hH⟩
theorem retB_two {base : Nat} {v v' u u' : AV} {H' H1 : Heap} (h : Fin1 base H1 v v') (h2 : Fin1 base H1 u u') (hH : H' = H1.take base) : retB (some [v, u]) base (.tup [v', u']) H' H1 := ⟨[v', u'], .cons _ _ _ _ h (.cons _ _ _ _ h2 .nil), rfl, hH⟩
end Go.Proofs.YtoncolpkpgbfiaaDoor
