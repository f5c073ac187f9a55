/- What each operation does on the machine, by what the interpreter says of it: numbers; all operations without a call together. -/
import Derived.Test.YtoncolpkpgbfiaaDoorEvG
import Derived.ChangeKeysEq
import Derived.Below
set_option linter.unusedVariables false
set_option linter.unusedSimpArgs false
namespace Go.Proofs.YtoncolpkpgbfiaaDoor

theorem cmpI_sound {P : Program} {w : World} {op : BinOp} {a b : Int} {v : AV} (h : cmpI op a b = some v) : ∃ y, (Op.intCmp op a b).run P w = .ok y w ∧ ∀ c, VRel c v y := by
  cases op <;> simp only [cmpI, Option.some.injEq, reduceCtorEq] at h <;> subst h <;> exact ⟨_, rfl, fun c => .bool _⟩
theorem bitsI_sound {P : Program} {w : World} {op : BinOp} {k : IntKind} {a b : Int} {v : AV} (h : bitsI op k a b = some v) : ∃ y, (Op.intBits op k a b).run P w = .ok y w ∧ ∀ c, VRel c v y := by
  cases op <;> simp only [bitsI, Option.some.injEq, reduceCtorEq] at h <;> subst h <;> exact ⟨_, rfl, fun c => .int _ _⟩
theorem shiftI_sound {P : Program} {w : World} {op : BinOp} {k k' : IntKind} {a b : Int} {v : AV} (h : shiftI op k a b = some v) : ∃ y, (Op.shift op k a k' b).run P w = .ok y w ∧ ∀ c, VRel c v y := by
  unfold shiftI at h
  split at h
  · cases h
  · rename_i hb
    cases op <;> simp only [Option.some.injEq, reduceCtorEq] at h <;> subst h <;> exact ⟨_, by simp only [Op.shift, hb, if_false]; rfl, fun c => .int _ _⟩

theorem intI_sound {P : Program} {w : World} {t : TypeId} {op : BinOp} {k : IntKind} {a b : Int} {v : AV} (h : intI op k a b = some v) : ∃ y, (binOp op t (.int k a) (.int k b)).run P w = .ok y w ∧ ∀ c, VRel c v y := by
  cases op <;> simp only [intI, reduceCtorEq] at h
  case add => cases h; exact ⟨_, by simp [binOp, Op.intArith], fun c => .int _ _⟩
  case sub => cases h; exact ⟨_, by simp [binOp, Op.intArith], fun c => .int _ _⟩
  case mul => cases h; exact ⟨_, by simp [binOp, Op.intArith], fun c => .int _ _⟩
  case quo =>
    split at h
    · cases h
    · rename_i hb; cases h; exact ⟨_, by simp [binOp, Op.intDiv, hb], fun c => .int _ _⟩
  case rem =>
    split at h
    · cases h
    · rename_i hb; cases h; exact ⟨_, by simp [binOp, Op.intDiv, hb], fun c => .int _ _⟩
  case and => obtain ⟨y, h1, h2⟩ := bitsI_sound (P := P) (w := w) h; exact ⟨y, by simpa [binOp] using h1, h2⟩
  case or => obtain ⟨y, h1, h2⟩ := bitsI_sound (P := P) (w := w) h; exact ⟨y, by simpa [binOp] using h1, h2⟩
  case xor => obtain ⟨y, h1, h2⟩ := bitsI_sound (P := P) (w := w) h; exact ⟨y, by simpa [binOp] using h1, h2⟩
  case andNot => obtain ⟨y, h1, h2⟩ := bitsI_sound (P := P) (w := w) h; exact ⟨y, by simpa [binOp] using h1, h2⟩
  all_goals (obtain ⟨y, h1, h2⟩ := cmpI_sound (P := P) (w := w) h; exact ⟨y, by simpa [binOp] using h1, h2⟩)

theorem kd_iface {E : Env} (hE : EnvOk E) {t : TypeId} (h : E.kd t = some .iface) : ∃ ms, E.P.underlying t = some (.interface ms) := by
  obtain ⟨i, d, hi, hd, hk⟩ := kd_spec hE h
  cases d <;> simp only [kindOk, Bool.false_eq_true] at hk
  exact ⟨_, hd⟩
theorem kd_ptr {E : Env} (hE : EnvOk E) {t : TypeId} (h : E.kd t = some .ptr) : ∃ e, E.P.underlying t = some (.pointer e) := by
  obtain ⟨i, d, hi, hd, hk⟩ := kd_spec hE h
  cases d <;> simp only [kindOk, Bool.false_eq_true] at hk
  exact ⟨_, hd⟩
theorem kd_fn {E : Env} (hE : EnvOk E) {t : TypeId} (h : E.kd t = some .fn) : ∃ a b v, E.P.underlying t = some (.func a b v) := by
  obtain ⟨i, d, hi, hd, hk⟩ := kd_spec hE h
  cases d <;> simp only [kindOk, Bool.false_eq_true] at hk
  exact ⟨_, _, _, hd⟩
theorem kd_bool {E : Env} (hE : EnvOk E) {t : TypeId} (h : E.kd t = some .bool) : E.P.underlying t = some .bool := by
  obtain ⟨i, d, hi, hd, hk⟩ := kd_spec hE h
  cases d <;> simp only [kindOk, Bool.false_eq_true] at hk
  exact hd

theorem run_equal_of {P : Program} {w : World} {t : TypeId} {x y : Value} {b : Bool} (h : ∀ d, (Op.equalIn (d + 1) t x y).run P w = .ok b w) : (Op.equal t x y).run P w = .ok b w := h 9999
/-- '==' itself, as the machine does it. -/
theorem equal_sound {E : Env} (hE : EnvOk E) {c : Ctx} {w : World} {t : TypeId} {cst : Bool} {x y : AV} {x' y' : Value} (hx : VRel c x x') (hy : VRel c y y') {b : Bool} (h : eqA (E.kd t) cst x y = some b) :
    (Op.equal t x' y').run E.P w = .ok b w ∧ (∀ l l', x' ≠ .agg l ∨ y' ≠ .agg l') ∧ (x' = .nilIface → y' = .nilIface → cst = true) ∧ (∀ k n, x' ≠ .int k n) ∧ (∀ k n, x' ≠ .float k n) ∧ (∀ k n m, x' ≠ .complex k n m) ∧ (∀ s, x' ≠ .string s) := by
  unfold eqA at h
  split at h
  case h_12 => cases h
  all_goals (split at h <;> (try cases h))
  · rename_i hk
    obtain rfl := hx.inv_bool; obtain rfl := hy.inv_bool
    exact ⟨run_equal_bool w t _ _ (kd_bool hE hk), by simp, by simp, by simp, by simp, by simp, by simp⟩
  · rename_i hk
    split at h
    · rename_i hc
      cases h
      cases hx; cases hy
      obtain ⟨ms, hu⟩ := kd_iface hE hk
      exact ⟨run_equal_of fun d => by simp [Op.equalIn, run_underlying hu], by simp, fun _ _ => hc, by simp, by simp, by simp, by simp⟩
    · cases h
  · rename_i hk
    cases hx; cases hy
    obtain ⟨ms, hu⟩ := kd_iface hE hk
    exact ⟨run_equal_of fun d => by simp [Op.equalIn, run_underlying hu], by simp, by simp, by simp, by simp, by simp, by simp⟩
  · rename_i hk
    cases hx; cases hy
    obtain ⟨ms, hu⟩ := kd_iface hE hk
    exact ⟨run_equal_of fun d => by simp [Op.equalIn, run_underlying hu], by simp, by simp, by simp, by simp, by simp, by simp⟩
  · rename_i hk
    cases hx; cases hy
    obtain ⟨e, hu⟩ := kd_ptr hE hk
    exact ⟨run_equal_of fun d => by simp [Op.equalIn, run_underlying hu], by simp, by simp, by simp, by simp, by simp, by simp⟩
  · rename_i hk
    obtain ⟨e, hu⟩ := kd_ptr hE hk
    cases hx; cases hy <;> exact ⟨run_equal_of fun d => by simp [Op.equalIn, run_underlying hu], by simp, by simp, by simp, by simp, by simp, by simp⟩
  · rename_i hk
    obtain ⟨e, hu⟩ := kd_ptr hE hk
    cases hy; cases hx <;> exact ⟨run_equal_of fun d => by simp [Op.equalIn, run_underlying hu], by simp, by simp, by simp, by simp, by simp, by simp⟩
  · rename_i hk
    obtain ⟨a, b, v, hu⟩ := kd_fn hE hk
    cases hx; cases hy
    exact ⟨run_equal_of fun d => by simp [Op.equalIn, run_underlying hu], by simp, by simp, by simp, by simp, by simp, by simp⟩
  · rename_i hk
    obtain ⟨a, b, v, hu⟩ := kd_fn hE hk
    cases hx; cases hy
    exact ⟨run_equal_of fun d => by simp [Op.equalIn, run_underlying hu], by simp, by simp, by simp, by simp, by simp, by simp⟩
  · rename_i hk
    obtain ⟨a, b, v, hu⟩ := kd_fn hE hk
    cases hx; cases hy
    exact ⟨run_equal_of fun d => by simp [Op.equalIn, run_underlying hu], by simp, by simp, by simp, by simp, by simp, by simp⟩
  · rename_i e esz eb ez hk
    obtain ⟨hu, _⟩ := kd_slice hE hk
    cases hx; cases hy
    exact ⟨run_equal_of fun d => by simp [Op.equalIn, run_underlying hu], by simp, by simp, by simp, by simp, by simp, by simp⟩

theorem binOp_sound {E : Env} (hE : EnvOk E) {c : Ctx} {w : World} {t : TypeId} {op : BinOp} {ox oy : Operand} {x y v : AV} {x' y' : Value} (hx : VRel c x x') (hy : VRel c y y')
    (h : binA (E.kd t) (isConst ox || isConst oy) op x y = some v) :
    ∃ z, (do eqGuard op t ox oy x' y'; binOp op t x' y' : Sem Value).run E.P w = .ok z w ∧ VRel c v z := by
  have hint : ∀ k a b, x' = .int k a → y' = .int k b → intI op k a b = some v → ∃ z, (do eqGuard op t ox oy x' y'; binOp op t x' y' : Sem Value).run E.P w = .ok z w ∧ VRel c v z := by
    intro k a b e1 e2 hi
    subst e1 e2
    obtain ⟨z, h1, h2⟩ := intI_sound (P := E.P) (w := w) (t := t) hi
    refine ⟨z, ?_, h2 c⟩
    have hg : (eqGuard op t ox oy (.int k a) (.int k b)).run E.P w = .ok () w := by cases op <;> simp [eqGuard]
    rw [Sem.run_bind, hg, Result.andThen_ok, h1]
  have heq : ∀ b, eqA (E.kd t) (isConst ox || isConst oy) x y = some b → ∀ op', (op' = .eql ∨ op' = .neq) → (do eqGuard op' t ox oy x' y'; binOp op' t x' y' : Sem Value).run E.P w = .ok (.bool (if op' = .eql then b else !b)) w := by
    intro b hb op' ho
    obtain ⟨h1, h2, h3, h4, h5, h6, h7⟩ := equal_sound hE (w := w) hx hy hb
    have hg : (eqGuard op' t ox oy x' y').run E.P w = .ok () w := by
      rcases ho with rfl | rfl
      all_goals
        unfold eqGuard
        simp only [Bool.not_true, Bool.false_eq_true, if_false]
        split
        · have hc := h3 rfl rfl
          cases ox <;> cases oy <;> first
            | rfl
            | (exfalso; simp [isConst] at hc; done)
        · rename_i l l'
          rcases h2 l l' with hh | hh <;> exact absurd rfl hh
        · rfl
    rw [Sem.run_bind, hg, Result.andThen_ok]
    rcases ho with rfl | rfl
    · have : (binOp .eql t x' y').run E.P w = .ok (.bool b) w := by
        unfold binOp
        split <;> first
          | (exfalso; exact h4 _ _ rfl)
          | (exfalso; exact h5 _ _ rfl)
          | (exfalso; exact h6 _ _ _ rfl)
          | (exfalso; exact h7 _ rfl)
          | (rename_i hh; cases hh; done)
          | (simp [h1]; done)
          | skip
        all_goals simp_all
      simpa using this
    · have : (binOp .neq t x' y').run E.P w = .ok (.bool (!b)) w := by
        unfold binOp
        split <;> first
          | (exfalso; exact h4 _ _ rfl)
          | (exfalso; exact h5 _ _ rfl)
          | (exfalso; exact h6 _ _ _ rfl)
          | (exfalso; exact h7 _ rfl)
          | (rename_i hh; cases hh; done)
          | (simp [h1]; done)
          | skip
        all_goals simp_all
      simpa using this
  unfold binA at h
  split at h
  · rename_i k a k' b
    obtain rfl := hx.inv_int; obtain rfl := hy.inv_int
    obtain ⟨z, h1, h2⟩ := shiftI_sound (P := E.P) (w := w) (k' := k') h
    exact ⟨z, by simpa [eqGuard, binOp] using h1, h2 c⟩
  · rename_i k a k' b
    obtain rfl := hx.inv_int; obtain rfl := hy.inv_int
    obtain ⟨z, h1, h2⟩ := shiftI_sound (P := E.P) (w := w) (k' := k') h
    exact ⟨z, by simpa [eqGuard, binOp] using h1, h2 c⟩
  · rename_i k a k' b _ _
    split at h
    · rename_i hk
      subst hk
      exact hint k a b hx.inv_int hy.inv_int h
    · cases h
  · cases hb : eqA (E.kd t) (isConst ox || isConst oy) x y with
    | none => simp [hb] at h
    | some b =>
      simp only [hb, Option.map_some, Option.some.injEq] at h
      subst h
      exact ⟨_, heq b hb .eql (.inl rfl), .bool _⟩
  · cases hb : eqA (E.kd t) (isConst ox || isConst oy) x y with
    | none => simp [hb] at h
    | some b =>
      simp only [hb, Option.map_some, Option.some.injEq] at h
      subst h
      exact ⟨_, heq b hb .neq (.inr rfl), .bool _⟩
  · cases h

/-! ### '==' of structs and arrays of integers -/
def PI : List Value → List Value → Prop
  | [], [] => True
  | .int k _ :: r, .int k' _ :: r' => k = k' ∧ PI r r'
  | _, _ => False
def eqV : List Value → List Value → Bool
  | .int _ a :: r, .int _ b :: r' => (a == b) && eqV r r'
  | _, _ => true
theorem PI.len : ∀ {X Y : List Value}, PI X Y → X.length = Y.length
  | [], [], _ => rfl
  | .int _ _ :: r, .int _ _ :: r', h => by simp [PI.len h.2]
theorem PI.take : ∀ {X Y : List Value} (n : Nat), PI X Y → PI (X.take n) (Y.take n)
  | [], [], n, _ => by simp [PI]
  | .int _ _ :: r, .int _ _ :: r', 0, h => by simp [PI]
  | .int _ _ :: r, .int _ _ :: r', n + 1, h => by simp only [List.take_succ_cons, PI]; exact ⟨h.1, PI.take n h.2⟩
theorem PI.drop : ∀ {X Y : List Value} (n : Nat), PI X Y → PI (X.drop n) (Y.drop n)
  | [], [], n, _ => by simp [PI]
  | .int _ _ :: r, .int _ _ :: r', 0, h => h
  | .int _ _ :: r, .int _ _ :: r', n + 1, h => by simp only [List.drop_succ_cons]; exact PI.drop n h.2
theorem eqV_split : ∀ {X Y : List Value} (n : Nat), PI X Y → eqV X Y = (eqV (X.take n) (Y.take n) && eqV (X.drop n) (Y.drop n))
  | [], [], n, _ => by simp [eqV]
  | .int _ _ :: r, .int _ _ :: r', 0, h => by simp [eqV]
  | .int _ _ :: r, .int _ _ :: r', n + 1, h => by simp only [List.take_succ_cons, List.drop_succ_cons, eqV]; rw [eqV_split n h.2, Bool.and_assoc]
def valOf (ag : Bool) (X : List Value) : Value := if ag then .agg X.toArray else X.headD undef
theorem run_part_of {P : Program} {t : TypeId} {i : TypeInfo} {d : TypeDesc} (hi : P.info? t = some i) (hu : P.underlying t = some d) (X : List Value) (o : Nat) (h : o + i.size ≤ X.length) (h1 : isAggD d = false → i.size = 1) (w : World) :
    (part t X.toArray o).run P w = .ok (valOf (isAggD d) ((X.drop o).take i.size)) w := by
  unfold part
  simp only [Sem.run_bind, run_isAgg hu, Result.andThen_ok]
  cases hd : isAggD d with
  | true =>
    simp only [if_true, Sem.run_bind, run_sizeOf hi, Result.andThen_ok, Sem.run_pure, valOf]
    congr 2
    apply Array.ext'
    rw [Array.toList_extract]
    simp [List.extract]
  | false =>
    have e := h1 hd
    have ho : o < X.length := by omega
    simp only [Bool.false_eq_true, if_false, List.getElem?_toArray, List.getElem?_eq_getElem ho, Sem.run_pure, valOf, e]
    rw [List.drop_eq_getElem_cons ho]
    rfl
def FlatRun (P : Program) (D : Nat) (t : TypeId) (n : Nat) : Prop :=
  ∃ d i, P.underlying t = some d ∧ P.info? t = some i ∧ i.size = n ∧ (isAggD d = false → i.size = 1) ∧ ∀ (w : World) (X Y : List Value), PI X Y → X.length = n → (Op.equalIn D t (valOf (isAggD d) X) (valOf (isAggD d) Y)).run P w = .ok (eqV X Y) w
theorem flatFs_run {P : Program} {D : Nat} {ok : TypeId → Nat → Bool} (hok : ∀ t n, ok t n = true → FlatRun P D t n) (w : World) {X Y : List Value} (hp : PI X Y) : ∀ (fs : List Field) (o : Nat), flatFs P ok fs o X.length = true →
    o ≤ X.length → (Op.eqFields D X.toArray Y.toArray fs).run P w = .ok (eqV (X.drop o) (Y.drop o)) w
  | [], o, h, _ => by
    simp only [flatFs, beq_iff_eq] at h
    have hY := hp.len
    simp [Op.eqFields, h, List.drop_eq_nil_of_le (show Y.length ≤ X.length by omega), eqV]
  | f :: fs, o, h, ho => by
    simp only [flatFs, Bool.and_eq_true, bne_iff_ne, ne_eq, beq_iff_eq] at h
    obtain ⟨⟨hn, hoff⟩, h⟩ := h
    split at h
    · rename_i i hi
      simp only [Bool.and_eq_true] at h
      obtain ⟨d, i', hu, hi', hsz, h1, hrun⟩ := hok _ _ h.1
      rw [hi] at hi'
      cases hi'
      have hle : ∀ (fs : List Field) (o : Nat), flatFs P ok fs o X.length = true → o ≤ X.length := by
        intro fs
        induction fs with
        | nil => intro o h; simp only [flatFs, beq_iff_eq] at h; omega
        | cons g gs ih =>
          intro o h
          simp only [flatFs, Bool.and_eq_true] at h
          obtain ⟨_, h⟩ := h
          split at h
          · simp only [Bool.and_eq_true] at h; have := ih _ h.2; omega
          · cases h
      have hle2 := hle _ _ h.2
      have ih := flatFs_run hok w hp fs (o + i.size) h.2 hle2
      have hY := hp.len
      simp only [Op.eqFields, hn, not_false_eq_true, ne_eq, if_true, Sem.run_bind, hoff, run_part_of hi hu X o hle2 h1, run_part_of hi hu Y o (by omega) h1, Result.andThen_ok]
      rw [hrun w _ _ ((hp.drop o).take i.size) (by simp; omega), eqV_split i.size (hp.drop o)]
      simp only [Result.andThen_ok, List.drop_drop]
      cases eqV ((X.drop o).take i.size) ((Y.drop o).take i.size)
      · simp
      · simpa using ih
    · cases h
theorem flatItems_run {P : Program} {D : Nat} {e : TypeId} {i : TypeInfo} (hi : P.info? e = some i) (hr : FlatRun P D e i.size) (w : World) {X Y : List Value} (hp : PI X Y) : ∀ (k j : Nat), (j + k) * i.size = X.length →
    (Op.eqItems D e i.size X.toArray Y.toArray (List.range' j k)).run P w = .ok (eqV (X.drop (j * i.size)) (Y.drop (j * i.size))) w
  | 0, j, h => by
    have hY := hp.len
    rw [Nat.add_zero] at h
    rw [h]
    simp [Op.eqItems, List.drop_eq_nil_of_le (show Y.length ≤ X.length by omega), eqV]
  | k + 1, j, h => by
    obtain ⟨d, i', hu, hi', hsz, h1, hrun⟩ := hr
    rw [hi] at hi'
    cases hi'
    have e1 : (j + 1 + k) * i.size = X.length := by rw [← h]; congr 1; omega
    have ih := flatItems_run hi ⟨d, i, hu, hi, rfl, h1, hrun⟩ w hp k (j + 1) e1
    have e2 : (j + 1) * i.size = j * i.size + i.size := by rw [Nat.add_mul, Nat.one_mul]
    have hle : j * i.size + i.size ≤ X.length := by rw [← e1, ← e2]; exact Nat.mul_le_mul_right _ (by omega)
    have hY := hp.len
    rw [List.range'_succ]
    simp only [Op.eqItems, Sem.run_bind, run_part_of hi hu X (j * i.size) hle h1, run_part_of hi hu Y (j * i.size) (by omega) h1, Result.andThen_ok]
    rw [hrun w _ _ ((hp.drop _).take i.size) (by simp; omega), eqV_split i.size (hp.drop (j * i.size))]
    simp only [Result.andThen_ok, List.drop_drop]
    rw [e2] at ih
    cases eqV ((X.drop (j * i.size)).take i.size) ((Y.drop (j * i.size)).take i.size)
    · simp
    · simpa using ih
theorem flat_run {P : Program} : ∀ (d : Nat) (t : TypeId) (n : Nat), flatOk P d t n = true → ∀ D, FlatRun P (D + d) t n
  | 0, _, _, h => by simp [flatOk] at h
  | d + 1, t, n, h => by
    intro D
    rw [show D + (d + 1) = (D + d) + 1 from rfl]
    unfold flatOk at h
    split at h
    · rename_i k i hu hi
      simp only [Bool.and_eq_true, beq_iff_eq] at h
      obtain ⟨rfl, h2⟩ := h
      refine ⟨_, i, hu, hi, h2, fun _ => h2, fun w X Y hp hl => ?_⟩
      match X, Y, hp, hl with
      | [.int k1 a], [.int k2 b], hp, _ =>
        obtain ⟨rfl, _⟩ := hp
        have : (Op.equalIn ((D + d) + 1) t (.int k1 a) (.int k1 b)).run P w = .ok (a == b) w := run_equalIn_int w _ t k1 k a b hu
        simpa [valOf, isAggD, eqV] using this
      | .int _ _ :: _ :: _, .int _ _ :: _, hp, hl => simp at hl
    · rename_i fs i hu hi
      simp only [Bool.and_eq_true, Bool.not_eq_true', beq_iff_eq] at h
      obtain ⟨⟨hs, hsz⟩, hf⟩ := h
      refine ⟨_, i, hu, hi, hsz, fun h => by simp [isAggD] at h, fun w X Y hp hl => ?_⟩
      subst hl
      have hfs : P.fieldsOf t = fs := by simp [Program.fieldsOf, hu]
      have := flatFs_run (D := D + d) (fun t n h => flat_run d t n h D) w hp fs.toList 0 hf (Nat.zero_le _)
      have h2 := run_equalIn_struct w (D + d) t X.toArray Y.toArray (by rw [hfs]; exact hu) hs
      rw [hfs, this] at h2
      simpa [valOf, isAggD] using h2
    · rename_i len e i hu hi
      simp only [Bool.and_eq_true, beq_iff_eq] at h
      obtain ⟨hsz, h⟩ := h
      refine ⟨_, i, hu, hi, hsz, fun h => by simp [isAggD] at h, fun w X Y hp hl => ?_⟩
      subst hl
      split at h
      · rename_i j hj
        simp only [Bool.and_eq_true, beq_iff_eq] at h
        have := flatItems_run hj (flat_run d e j.size h.1.1 D) w hp len 0 (by simpa using h.2)
        have h2 := run_equalIn_array w (D + d) X.toArray Y.toArray hu hj
        rw [← h.1.2, List.range_eq_range', this] at h2
        simpa [valOf, isAggD] using h2
      · cases h
    · cases h

theorem allInts_rel {c : Ctx} : ∀ {a b : List AV} {X Y : List Value} {r : Bool}, allInts a b = some r → LRel c a X → LRel c b Y → PI X Y ∧ eqV X Y = r
  | [], [], X, Y, r, h, hx, hy => by
    have e1 : X = [] := List.eq_nil_of_length_eq_zero (by simpa using hx.1.symm)
    have e2 : Y = [] := List.eq_nil_of_length_eq_zero (by simpa using hy.1.symm)
    subst e1 e2
    simp only [allInts, Option.some.injEq] at h
    exact ⟨trivial, by simp [eqV, h]⟩
  | .int k a :: l, .int k' b :: l', X, Y, r, h, hx, hy => by
    obtain ⟨x, X', rfl, h1, h2⟩ := hx.head
    obtain ⟨y, Y', rfl, h3, h4⟩ := hy.head
    obtain rfl := h1.inv_int; obtain rfl := h3.inv_int
    simp only [allInts] at h
    split at h
    · rename_i hk
      cases hr : allInts l l' with
      | none => simp [hr] at h
      | some q =>
        simp only [hr, Option.map_some, Option.some.injEq] at h
        obtain ⟨h5, h6⟩ := allInts_rel hr h2 h4
        exact ⟨⟨hk, h5⟩, by simp [eqV, h6, h]⟩
    · cases h
theorem binB_sound {E : Env} (hE : EnvOk E) {c : Ctx} {w : World} {t : TypeId} {op : BinOp} {ox oy : Operand} {x y v : AV} {x' y' : Value} (hx : VRel c x x') (hy : VRel c y y')
    (h : binB E t (isConst ox || isConst oy) op x y = some v) :
    ∃ z, (do eqGuard op t ox oy x' y'; binOp op t x' y' : Sem Value).run E.P w = .ok z w ∧ VRel c v z := by
  have key : ∀ a b r, x = .agg a → y = .agg b → E.flat t = some a.length → allInts a b = some r → ∃ X Y, x' = .agg X ∧ y' = .agg Y ∧ (∀ op', (eqGuard op' t ox oy (.agg X) (.agg Y)).run E.P w = .ok () w) ∧ (Op.equalIn 10000 t (.agg X) (.agg Y)).run E.P w = .ok r w := by
    intro a b r e1 e2 hf hr
    subst e1 e2
    obtain ⟨X, rfl, hX⟩ := hx.inv_agg
    obtain ⟨Y, rfl, hY⟩ := hy.inv_agg
    have hfl := hE.flat t _ hf
    unfold flatAt at hfl
    split at hfl
    · rename_i i hi
      simp only [Bool.and_eq_true, Bool.not_eq_true', beq_iff_eq] at hfl
      obtain ⟨⟨⟨h0, h1⟩, h2⟩, h3⟩ := hfl
      obtain ⟨d, i', hu, hi', hsz, _, hrun⟩ := flat_run 20 t i.size h1 9980
      obtain ⟨hp, he⟩ := allInts_rel hr hX hY
      refine ⟨_, _, rfl, rfl, fun op' => run_eqGuard_agg w op' t ox oy _ _ h2, ?_⟩
      have hd : isAggD d = true := by
        rw [hu] at h3
        split at h3
        · rename_i e; cases e; rfl
        · rename_i e; cases e; rfl
        · cases h3
      have := hrun w X Y hp (by rw [h0]; exact hX.1.symm)
      rw [he] at this
      simpa [valOf, hd] using this
    · cases hfl
  unfold binB at h
  split at h
  · rename_i a b
    split at h
    · rename_i hf
      cases hr : allInts a b with
      | none => simp [hr] at h
      | some r =>
        simp only [hr, Option.map_some, Option.some.injEq] at h
        subst h
        obtain ⟨X, Y, rfl, rfl, h1, h2⟩ := key a b r rfl rfl hf hr
        exact ⟨.bool r, by rw [Sem.run_bind, h1, Result.andThen_ok, run_eql_struct, h2]; rfl, .bool _⟩
    · cases h
  · rename_i a b
    split at h
    · rename_i hf
      cases hr : allInts a b with
      | none => simp [hr] at h
      | some r =>
        simp only [hr, Option.map_some, Option.some.injEq] at h
        subst h
        obtain ⟨X, Y, rfl, rfl, h1, h2⟩ := key a b r rfl rfl hf hr
        exact ⟨.bool (!r), by rw [Sem.run_bind, h1, Result.andThen_ok, run_neq_struct, h2]; rfl, .bool _⟩
    · cases h
  · exact binOp_sound hE hx hy h

theorem unA_sound {P : Program} {c : Ctx} {w : World} {op : UnOp} {x v : AV} {x' : Value} (hx : VRel c x x') (h : unA op x = some v) : ∃ z, (Op.unary op x').run P w = .ok z w ∧ VRel c v z := by
  unfold unA at h
  split at h
  · obtain rfl := hx.inv_int
    cases h
    exact ⟨_, by simp [Op.unary, Op.intArith], .int _ _⟩
  · rename_i k n
    obtain rfl := hx.inv_int
    obtain ⟨z, h1, h2⟩ := bitsI_sound (P := P) (w := w) h
    exact ⟨z, by simpa [Op.unary] using h1, h2 c⟩
  · obtain rfl := hx.inv_bool
    cases h
    exact ⟨_, rfl, .bool _⟩
  · cases h

theorem convert_sound {E : Env} (hE : EnvOk E) {c : Ctx} {w : World} {s d : TypeId} {ks kd : TK} (hs : E.kd s = some ks) (hd : E.kd d = some kd) {x v : AV} {x' : Value} (hx : VRel c x x') (h : convertA ks kd x = some v) :
    ∃ z, (convert s d x').run E.P w = .ok z w ∧ VRel c v z := by
  unfold convertA at h
  split at h
  · rename_i k1 k2 k n
    obtain rfl := hx.inv_int
    cases h
    obtain ⟨i1, d1, _, hd1, hk1⟩ := kd_spec hE hs
    obtain ⟨i2, d2, _, hd2, hk2⟩ := kd_spec hE hd
    cases d1 <;> simp only [kindOk, Bool.false_eq_true] at hk1
    cases d2 <;> simp only [kindOk, Bool.false_eq_true] at hk2
    simp only [beq_iff_eq] at hk1 hk2
    subst hk1 hk2
    exact ⟨_, by simp [convert, run_underlying hd1, run_underlying hd2, Conv.intToInt], .int _ _⟩
  · cases h

theorem makeInterface_sound {E : Env} (hE : EnvOk E) {c : Ctx} {w : World} {t : TypeId} {k : TK} (hk : E.kd t = some k) {x v : AV} {x' : Value} (hx : VRel c x x') (h : makeInterfaceA k t x = some v) :
    ∃ z, (Instr.makeInterface t x').run E.P w = .ok z w ∧ VRel c v z := by
  obtain ⟨i, d, hi, hd, hkd⟩ := kd_spec hE hk
  unfold makeInterfaceA at h
  split at h
  · cases h
  · cases h
  · cases h
  · rename_i h1 h2 h3
    cases h
    refine ⟨.iface t x', ?_, .ifc _ _ _ hx⟩
    have hni : ∀ ms, d ≠ .interface ms := by
      intro ms e
      subst e
      cases k <;> simp only [kindOk, Bool.false_eq_true] at hkd
      exact h1 rfl
    unfold Instr.makeInterface
    rw [Sem.run_bind, run_underlying hd, Result.andThen_ok]
    cases d <;> first | rfl | (exact absurd rfl (hni _))

theorem arrayAt_sound {E : Env} (hE : EnvOk E) {c : Ctx} {w : World} {t : TypeId} {k : TK} (hk : E.kd t = some k) {x v : AV} {x' : Value} (hx : VRel c x x') (h : arrayAtA k x = some v) :
    ∃ z, (Instr.arrayAt t x').run E.P w = .ok z w ∧ VRel c v z := by
  unfold arrayAtA at h
  split at h
  · rename_i n esz ag cells len
    obtain ⟨e, i, d, hu, _⟩ := kd_array hE hk
    split at h
    · rename_i hc
      cases h
      cases hx with
      | lst _ _ b o cap cs h1 h2 h3 h4 =>
        refine ⟨.pointer (some ⟨b, o, none⟩), ?_, by simpa using VRel.lel cells 0 b o cs h2 h3 h4⟩
        have : ¬ len < n := by omega
        simp [Instr.arrayAt, run_underlying hu, this]
      | lst0 a cap => omega
    · cases h
  · rename_i n esz ag id ver off len cap e'
    obtain ⟨e, i, d, hu, _⟩ := kd_array hE hk
    split at h
    · rename_i hc
      cases h
      have hl : ¬ len < n := by omega
      cases hx with
      | sl _ _ _ _ _ _ b sz cap' h1 h2 h3 h4 => exact ⟨.pointer (some ⟨b, off, none⟩), by simp [Instr.arrayAt, run_underlying hu, hl], .ptr _ _ _ _ _ h1⟩
      | slNone _ _ _ h1 => omega
      | slOld _ _ _ _ _ _ ver' bk b cap' h1 h2 h3 h4 => exact ⟨.pointer (some ⟨b, off, none⟩), by simp [Instr.arrayAt, run_underlying hu, hl], .ptrOld _ _ _ _ _ _ h1 h2⟩
      | slOldNone _ _ _ ver' bk h1 h2 => omega
    · cases h
  · cases h

theorem nilCheck_sound {P : Program} {c : Ctx} {w : World} {x v : AV} {x' : Value} (hx : VRel c x x') (h : nilCheckA x = some v) (a : Act) (o : Operand) (he : a.eval o = x') {dst : Option Nat} {ty : TypeId} {pos : String} {aft : Array Edge} {g : Option (Nat × Bool)} :
    ∃ z, (execOp a.eval ⟨dst, .nilCheck o, ty, pos, aft, g⟩).run P w = .ok (.value z) w ∧ VRel c v z := by
  unfold nilCheckA at h
  split at h
  · cases h
    cases hx with
    | ptr _ _ _ b sz hm => exact ⟨_, by simp [execOp, he], .ptr _ _ _ _ _ hm⟩
    | ptrOld _ _ _ ver' bk b hm hl => exact ⟨.pointer (some ⟨b, _, none⟩), by simp [execOp, he], .ptrOld _ _ _ _ _ _ hm hl⟩
  · cases h
    cases hx with
    | lel _ _ b o' cs hz hl hr => exact ⟨_, by simp [execOp, he], .lel _ _ _ _ _ hz hl hr⟩
  · cases h
    obtain ⟨l, rfl, hr⟩ := hx.inv_fn
    exact ⟨_, by simp [execOp, he], VRel.fn' hr⟩
  · cases h

theorem PRel.of_map {c : Ctx} {n : Nat} {fr : Fr} {a : Act} (hf : FRel c n fr a) : ∀ (l : List (Nat × Operand)), PRel c (l.map fun p => (p.1, fr.ev p.2)) (l.map fun p => (p.1, a.eval p.2))
  | [] => .nil
  | (i, o) :: l => .cons i _ _ _ _ (hf.ev o) (PRel.of_map hf l)

theorem move_sound {base : Nat} {c : Ctx} {H : Heap} {w : World} (s : Sim c H w) (hb : base ≤ H.length) {x v : AV} {x' : Value} (hx : VRel c x x') {own : Bool} {k : Option TK} {H' : Heap} (h : moveA own k H x = some (v, H')) :
    ∃ c', VRel c' v x' ∧ Trans base c H w c' H' w := by
  unfold moveA at h
  split at h
  · cases hx
    split at h
    · split at h
      · simp only [Option.some.injEq, Prod.mk.injEq] at h
        obtain ⟨rfl, rfl⟩ := h
        exact ⟨_, .slNone _ _ _ (Ctx.add_same _ _ _ _), s.allocNone hb 0⟩
      · cases h
    · simp only [Option.some.injEq, Prod.mk.injEq] at h
      obtain ⟨rfl, rfl⟩ := h
      exact ⟨c, .nils, .refl s⟩
  · simp only [Option.some.injEq, Prod.mk.injEq] at h
    obtain ⟨rfl, rfl⟩ := h
    exact ⟨c, hx, .refl s⟩

theorem pickA_spec {x a b v : AV} {H H' : Heap} (h : pickA x a b H = some (v, H')) : ∃ t, x = .bool t ∧ H' = H ∧ v = if t then a else b := by
  unfold pickA at h
  split at h
  · rename_i t p q
    simp only [Option.some.injEq, Prod.mk.injEq] at h
    obtain ⟨rfl, rfl⟩ := h
    exact ⟨t, rfl, rfl, by cases t <;> rfl⟩
  · simp only [Option.some.injEq, Prod.mk.injEq] at h
    obtain ⟨rfl, rfl⟩ := h
    exact ⟨_, rfl, rfl, rfl⟩
  · cases h

set_option maxHeartbeats 2000000 in
/-- An operation without a call. -/
theorem opA_sound {E : Env} (hE : EnvOk E) {f base : Nat} {c : Ctx} {H : Heap} {w : World} (s : Sim c H w) (hb : base ≤ H.length) {n : Nat} {fr : Fr} {a : Act} (hf : FRel c n fr a) {o : Oper} {v : AV} {H' : Heap}
    (h : opA E f o.dst o.type fr H o.op = some (v, H')) : ∃ c' x w', (execOp a.eval o).run E.P w = .ok (.value x) w' ∧ VRel c' v x ∧ Trans base c H w c' H' w' := by
  obtain ⟨dst, op, ty, pos, aft, g⟩ := o
  have did : ∀ {s : Sem Value}, Did E base c H w s v H' → ∃ c' x w', (do pure (Next.value (← s)) : Sem Next).run E.P w = .ok (.value x) w' ∧ VRel c' v x ∧ Trans base c H w c' H' w' := by
    intro s ⟨c', x, w', h1, h2, h3⟩
    exact ⟨c', x, w', by simp [h1], h2, h3⟩
  have still : ∀ {q : Sem Value}, (∃ x, q.run E.P w = .ok x w ∧ VRel c v x) → H' = H → ∃ c' x w', (do pure (Next.value (← q)) : Sem Next).run E.P w = .ok (.value x) w' ∧ VRel c' v x ∧ Trans base c H w c' H' w' := by
    intro q ⟨x, h1, h2⟩ e
    subst e
    exact ⟨c, x, w, by simp [h1], h2, .refl s⟩
  cases op <;> simp only [opA, reduceCtorEq] at h
  case move x =>
    obtain ⟨c', h1, h2⟩ := move_sound (base := base) s hb (hf.ev x) h
    exact ⟨c', _, w, rfl, h1, h2⟩
  case assign x =>
    obtain ⟨c', h1, h2⟩ := move_sound (base := base) s hb (hf.ev x) h
    exact ⟨c', _, w, rfl, h1, h2⟩
  case pick oc oa ob =>
    obtain ⟨t, e1, rfl, rfl⟩ := pickA_spec h
    have hc := hf.ev oc
    rw [e1] at hc
    refine ⟨c, if t then a.eval oa else a.eval ob, w, by simp [execOp, asBool, hc.inv_bool], ?_, .refl s⟩
    cases t
    · exact hf.ev ob
    · exact hf.ev oa
  case alloc t =>
    cases ht : E.T t with
    | none => simp [ht] at h
    | some ti =>
      simp only [ht, Option.map_some, Option.some.injEq, Prod.mk.injEq] at h
      obtain ⟨rfl, rfl⟩ := h
      exact did (alloc_sound hE s hb ht _)
  case box t x =>
    cases hc : (fr.ev x).cells? with
    | none => simp [hc] at h
    | some cs =>
      simp only [hc, Option.map_some, Option.some.injEq, Prod.mk.injEq] at h
      obtain ⟨rfl, rfl⟩ := h
      exact did (box_sound s hb (hf.ev x) hc)
  case build t parts =>
    cases ht : E.T t with
    | none => simp [ht] at h
    | some ti =>
      simp only [ht, Option.bind_some] at h
      cases hv : buildA ti (parts.toList.map fun p => (p.1, fr.ev p.2)) with
      | none => simp [hv] at h
      | some u =>
        simp only [hv, Option.map_some, Option.some.injEq, Prod.mk.injEq] at h
        obtain ⟨rfl, rfl⟩ := h
        simp only [execOp]
        exact still (build_sound hE ht (parts' := parts.map fun p => (p.1, a.eval p.2)) (by rw [Array.toList_map]; exact PRel.of_map hf _) hv) rfl
  case buildSlice t len parts =>
    cases hk : E.kd t with
    | none => simp [hk] at h
    | some k =>
      simp only [hk, Option.bind_some] at h
      simp only [execOp]
      exact did (buildSlice_sound hE s hb hk (parts' := parts.map fun p => (p.1, a.eval p.2)) (by rw [Array.toList_map]; exact PRel.of_map hf _) h)
  case load t x =>
    cases ht : E.T t with
    | none => simp [ht] at h
    | some ti =>
      simp only [ht, Option.bind_some] at h
      cases hv : loadA ti H (fr.ev x) with
      | none => simp [hv] at h
      | some u =>
        simp only [hv, Option.map_some, Option.some.injEq, Prod.mk.injEq] at h
        obtain ⟨rfl, rfl⟩ := h
        obtain ⟨p, y, h1, h2, h3⟩ := s.load hE ht (hf.ev x) hv
        simp only [execOp, Instr.loadAt, h1, Instr.sureAddr]
        exact still ⟨y, by simpa using h2, h3⟩ rfl
  case nilCheck x =>
    cases hv : nilCheckA (fr.ev x) with
    | none => simp [hv] at h
    | some u =>
      simp only [hv, Option.map_some, Option.some.injEq, Prod.mk.injEq] at h
      obtain ⟨rfl, rfl⟩ := h
      obtain ⟨z, h1, h2⟩ := nilCheck_sound (P := E.P) (w := w) (hf.ev x) hv a x rfl (dst := dst) (ty := ty) (pos := pos) (aft := aft) (g := g)
      exact ⟨c, z, w, h1, h2, .refl s⟩
  case binOp op t x y u =>
    cases hv : binB E t (isConst x || isConst y) op (fr.ev x) (fr.ev y) with
    | none => simp [hv] at h
    | some u' =>
      simp only [hv, Option.map_some, Option.some.injEq, Prod.mk.injEq] at h
      obtain ⟨rfl, rfl⟩ := h
      simp only [execOp]
      exact still (binB_sound hE (hf.ev x) (hf.ev y) hv) rfl
  case unOp op t x =>
    cases hv : unA op (fr.ev x) with
    | none => simp [hv] at h
    | some u =>
      simp only [hv, Option.map_some, Option.some.injEq, Prod.mk.injEq] at h
      obtain ⟨rfl, rfl⟩ := h
      simp only [execOp]
      exact still (unA_sound (hf.ev x) hv) rfl
  case convert t u x =>
    cases hk : E.kd t with
    | none => simp [hk] at h
    | some k =>
      cases hk' : E.kd u with
      | none => simp [hk, hk'] at h
      | some k' =>
        simp only [hk, hk', Option.bind_some] at h
        cases hv : convertA k k' (fr.ev x) with
        | none => simp [hv] at h
        | some u =>
          simp only [hv, Option.map_some, Option.some.injEq, Prod.mk.injEq] at h
          obtain ⟨rfl, rfl⟩ := h
          simp only [execOp]
          exact still (convert_sound hE hk hk' (hf.ev x) hv) rfl
  case makeInterface t x =>
    cases hk : E.kd t with
    | none => simp [hk] at h
    | some k =>
      simp only [hk, Option.bind_some] at h
      cases hv : makeInterfaceA k t (fr.ev x) with
      | none => simp [hv] at h
      | some u =>
        simp only [hv, Option.map_some, Option.some.injEq, Prod.mk.injEq] at h
        obtain ⟨rfl, rfl⟩ := h
        simp only [execOp]
        exact still (makeInterface_sound hE hk (hf.ev x) hv) rfl
  case makeFunc fn first caps =>
    cases fn <;> simp only [reduceCtorEq] at h
    split at h
    · rename_i g' hs
      simp only [Option.some.injEq, Prod.mk.injEq] at h
      obtain ⟨rfl, rfl⟩ := h
      have hfirst : first = #[] := Array.eq_empty_of_size_eq_zero hs
      refine ⟨c, .func (.func g') #[] (caps.map a.eval), w, by simp [execOp, Instr.makeFunc, hfirst], ?_, .refl s⟩
      have := VRel.fn' (f := g') (LRel.map (c := c) caps.toList (g := fr.ev) (g' := a.eval) fun x _ => hf.ev x)
      have e2 : (List.map a.eval caps.toList).toArray = caps.map a.eval := by rw [← Array.toList_map, Array.toArray_toList]
      rw [e2] at this
      exact this
    · cases h
  case sliceToArrayPointer t x =>
    cases hk : E.kd t with
    | none => simp [hk] at h
    | some k =>
      simp only [hk, Option.bind_some] at h
      cases hv : arrayAtA k (fr.ev x) with
      | none => simp [hv] at h
      | some u =>
        simp only [hv, Option.map_some, Option.some.injEq, Prod.mk.injEq] at h
        obtain ⟨rfl, rfl⟩ := h
        simp only [execOp]
        exact still (arrayAt_sound hE hk (hf.ev x) hv) rfl
  case makeSlice t l m =>
    cases hk : E.kd t with
    | none => simp [hk] at h
    | some k =>
      simp only [hk, Option.bind_some] at h
      simp only [execOp]
      exact did (makeSlice_sound hE s hb hk (hf.ev l) (hf.ev m) h)
  case slice t x lo hi mx =>
    cases mx with
    | some m => simp at h
    | none =>
      simp only at h
      cases hk : E.kd t with
      | none => simp [hk] at h
      | some k =>
        simp only [hk, Option.bind_some] at h
        cases hv : sliceA H fr k (fr.ev x) lo hi with
        | none => simp [hv] at h
        | some u =>
          simp only [hv, Option.map_some, Option.some.injEq, Prod.mk.injEq] at h
          obtain ⟨rfl, rfl⟩ := h
          simp only [execOp, Option.map_none]
          exact still (slice_sound hE s hf hk (hf.ev x) hv) rfl
  case fieldAddr t x i =>
    cases hk : E.kd t with
    | none => simp [hk] at h
    | some k =>
      simp only [hk, Option.bind_some] at h
      cases hv : fieldAddrA k (fr.ev x) i with
      | none => simp [hv] at h
      | some u =>
        simp only [hv, Option.map_some, Option.some.injEq, Prod.mk.injEq] at h
        obtain ⟨rfl, rfl⟩ := h
        simp only [execOp]
        exact still (fieldAddr_sound hE hk (hf.ev x) hv) rfl
  case field t x i =>
    cases hk : E.kd t with
    | none => simp [hk] at h
    | some k =>
      simp only [hk, Option.bind_some] at h
      cases hv : fieldA k (fr.ev x) i with
      | none => simp [hv] at h
      | some u =>
        simp only [hv, Option.map_some, Option.some.injEq, Prod.mk.injEq] at h
        obtain ⟨rfl, rfl⟩ := h
        simp only [execOp]
        exact still (field_sound hE hk (hf.ev x) hv) rfl
  case indexAddr t x i =>
    cases hk : E.kd t with
    | none => simp [hk] at h
    | some k =>
      simp only [hk, Option.bind_some] at h
      cases hv : indexAddrA k (fr.ev x) (fr.ev i) with
      | none => simp [hv] at h
      | some u =>
        simp only [hv, Option.map_some, Option.some.injEq, Prod.mk.injEq] at h
        obtain ⟨rfl, rfl⟩ := h
        simp only [execOp]
        exact still (indexAddr_sound hE hk (hf.ev x) (hf.ev i) hv) rfl
  case index t x i =>
    cases hk : E.kd t with
    | none => simp [hk] at h
    | some k =>
      simp only [hk, Option.bind_some] at h
      cases hv : indexA k (fr.ev x) (fr.ev i) with
      | none => simp [hv] at h
      | some u =>
        simp only [hv, Option.map_some, Option.some.injEq, Prod.mk.injEq] at h
        obtain ⟨rfl, rfl⟩ := h
        simp only [execOp]
        exact still (index_sound hE hk (hf.ev x) (hf.ev i) hv) rfl
  case extract x i =>
    cases hv : extractA (fr.ev x) i with
    | none => simp [hv] at h
    | some u =>
      simp only [hv, Option.map_some, Option.some.injEq, Prod.mk.injEq] at h
      obtain ⟨rfl, rfl⟩ := h
      unfold extractA at hv
      split at hv
      · rename_i vs e1
        have hx := hf.ev x
        rw [e1] at hx
        obtain ⟨l', e2, hl⟩ := hx.inv_tup
        obtain ⟨y, h1, h2⟩ := hl.get hv
        simp only [execOp]
        refine still ⟨y, ?_, h2⟩ rfl
        rw [e2]
        simp [Instr.extract, h1]
      · cases hv
end Go.Proofs.YtoncolpkpgbfiaaDoor

/- What each operation does on the machine, by what the interpreter says of it: stores, append, len, min, max. -/
set_option linter.unusedVariables false
set_option linter.unusedSimpArgs false
namespace Go.Proofs.YtoncolpkpgbfiaaDoor

theorem liveAt_set {H : Heap} {id i : Nat} {b x : Blk} (h : liveAt (H.set id (some b)) i x) : (i = id ∧ x = b ∧ id < H.length) ∨ (i ≠ id ∧ liveAt H i x) := by
  unfold liveAt at h ⊢
  by_cases e : id = i
  · subst e
    by_cases hl : id < H.length
    · rw [List.getElem?_set_self hl] at h
      simp only [Option.some.injEq] at h
      exact .inl ⟨rfl, h.symm, hl⟩
    · rw [List.getElem?_eq_none (by simp; omega)] at h; cases h
  · rw [List.getElem?_set_ne e] at h; exact .inr ⟨fun h => e h.symm, h⟩

/-- One block is written, or moves to a new one of the machine's. -/
theorem Sim.replace {base : Nat} {c : Ctx} {H : Heap} {w w' : World} (s : Sim c H w) {id : Nat} {b : Blk} (hl : liveAt H id b) {bk : Option (Nat × Nat)} (hm : c.m id = some (b.ver, bk)) {ver' : Nat} {bk' : Option (Nat × Nat)}
    (hv : (ver' = b.ver ∧ bk' = bk) ∨ b.ver < ver') {cells' : List AV} (hal : Alike w w') (hgrow : w.heap.size ≤ w'.heap.size) (hsame : ∀ k, k < w.heap.size → (∀ sz, bk ≠ some (k, sz)) → w'.heap[k]? = w.heap[k]?)
    (hbk : ∀ k sz, bk' = some (k, sz) → (∃ sz', bk = some (k, sz')) ∨ (w.heap.size ≤ k ∧ k < w'.heap.size)) (hb : BRel (c.add id ver' bk') w' ⟨cells', ver'⟩ bk')
    (hcl : base ≤ id ∨ ∀ n, id < n → n ≤ base → HClosed n H → ∀ x ∈ cells', Nmd n x) : Trans base c H w (c.add id ver' bk') (H.set id (some ⟨cells', ver'⟩)) w' := by
  have h0 : (c.add id ver' bk').m id = some (ver', bk') := Ctx.add_same _ _ _ _
  have h1 : ∀ i, i ≠ id → (c.add id ver' bk').m i = c.m i := fun i hi => by simp [Ctx.add, hi]
  have hid : id < H.length := liveAt_lt hl
  have hx : Ext c (c.add id ver' bk') := by
    refine ⟨fun _ _ h => h, fun i v k hk => ?_⟩
    by_cases e : i = id
    · subst e
      rw [hm] at hk
      simp only [Option.some.injEq, Prod.mk.injEq] at hk
      obtain ⟨rfl, rfl⟩ := hk
      exact ⟨ver', bk', h0, hv⟩
    · exact ⟨v, k, by rw [h1 i e]; exact hk, .inl ⟨rfl, rfl⟩⟩
  have hother : ∀ i v k sz, i ≠ id → c.m i = some (v, some (k, sz)) → ∀ sz', bk ≠ some (k, sz') := by
    intro i v k sz hi hk sz' e
    subst e
    exact hi (s.inj _ _ _ _ _ _ _ hk hm)
  refine ⟨hx, ⟨?_, ?_, ?_, ?_, ?_, ?_, fun b cs h => hx.z _ _ (s.glob b cs h)⟩, hgrow, ?_, ?_, fun _ _ h => .inl h, by simp, ?_, hal⟩
  · intro i p h
    by_cases e : i = id
    · subst e; simpa using hid
    · rw [h1 i e] at h; simpa using s.dom i p h
  · intro i x hi
    rcases liveAt_set hi with ⟨rfl, rfl, _⟩ | ⟨e, hi'⟩
    · exact ⟨bk', h0, hb⟩
    · obtain ⟨bi, h2, h3⟩ := s.blk i x hi'
      refine ⟨bi, by rw [h1 i e]; exact h2, h3.mono hx fun k sz e2 => ?_⟩
      subst e2
      exact hsame k (s.bnd _ _ _ _ h2) (hother i _ k sz e h2)
  · intro i j v v' k sz sz' hi hj
    by_cases e : i = id <;> by_cases e' : j = id
    · rw [e, e']
    · exfalso
      rw [e, h0] at hi; rw [h1 j e'] at hj
      simp only [Option.some.injEq, Prod.mk.injEq] at hi
      rcases hbk k sz hi.2 with ⟨z, h3⟩ | h3
      · exact hother j _ k sz' e' hj z h3
      · have := s.bnd _ _ _ _ hj; omega
    · exfalso
      rw [h1 i e] at hi; rw [e', h0] at hj
      simp only [Option.some.injEq, Prod.mk.injEq] at hj
      rcases hbk k sz' hj.2 with ⟨z, h3⟩ | h3
      · exact hother i _ k sz e hi z h3
      · have := s.bnd _ _ _ _ hi; omega
    · rw [h1 i e] at hi; rw [h1 j e'] at hj; exact s.inj _ _ _ _ _ _ _ hi hj
  · intro i v k sz hi
    by_cases e : i = id
    · rw [e, h0] at hi
      simp only [Option.some.injEq, Prod.mk.injEq] at hi
      rcases hbk k sz hi.2 with ⟨z, h3⟩ | h3
      · rw [h3] at hm; exact s.disj _ _ _ _ hm
      · show c.z k = none
        cases hz : c.z k with
        | none => rfl
        | some l => obtain ⟨T', fz, h4⟩ := s.froz _ _ hz; have := (Array.getElem?_eq_some_iff.1 h4).1; omega
    · rw [h1 i e] at hi; exact s.disj _ _ _ _ hi
  · intro i v k sz hi
    by_cases e : i = id
    · rw [e, h0] at hi
      simp only [Option.some.injEq, Prod.mk.injEq] at hi
      rcases hbk k sz hi.2 with ⟨z, h3⟩ | h3
      · rw [h3] at hm; have := s.bnd _ _ _ _ hm; omega
      · omega
    · rw [h1 i e] at hi; have := s.bnd _ _ _ _ hi; omega
  · intro k l hz
    obtain ⟨T', fz, h4⟩ := s.froz _ _ hz
    have hlt := (Array.getElem?_eq_some_iff.1 h4).1
    refine ⟨T', fz, ?_⟩
    rw [hsame k hlt fun sz e => ?_]
    · exact h4
    · rw [e] at hm; have := s.disj _ _ _ _ hm; rw [show c.z k = some l from hz] at this; cases this
  · intro k hk hn
    exact hsame k hk fun sz e => hn ⟨id, b.ver, sz, by rw [hm, e]⟩
  · intro k ⟨i, v, sz, h3⟩
    by_cases e : i = id
    · subst e
      rw [h0] at h3
      simp only [Option.some.injEq, Prod.mk.injEq] at h3
      rcases hbk k sz h3.2 with ⟨z, h4⟩ | h4
      · exact .inl ⟨i, b.ver, z, by rw [hm, h4]⟩
      · exact .inr h4.1
    · rw [h1 i e] at h3; exact .inl ⟨i, v, sz, h3⟩
  · intro n hn hc i x hi hin y hy
    rcases liveAt_set hi with ⟨rfl, rfl, _⟩ | ⟨e, hi'⟩
    · rcases hcl with h | h
      · omega
      · exact h n hin hn hc y hy
    · exact hc i x hi' hin y hy

theorem mem_splice {l : List AV} {off : Nat} {vs : List AV} (h : off + vs.length ≤ l.length) {x : AV} (hx : x ∈ splice l off vs) : x ∈ l ∨ x ∈ vs := by
  rw [splice_eq h] at hx
  simp only [List.append_assoc, List.mem_append] at hx
  rcases hx with h | h | h
  · exact .inl (List.mem_of_mem_take h)
  · exact .inr h
  · exact .inl (List.mem_of_mem_drop h)

theorem store_sound {E : Env} (hE : EnvOk E) {base : Nat} {c : Ctx} {H : Heap} {w : World} (s : Sim c H w) {t : TypeId} {ti : TI} (ht : E.T t = some ti) {a v : AV} {a' v' : Value} (ha : VRel c a a') (hv : VRel c v v')
    {id : Nat} {vs : List AV} {H' : Heap} (h : storeA ti H a v = some (id, vs, H')) (hst : mayStore base id vs) :
    ∃ c' w', (Instr.storeAt t a' v').run E.P w = .ok () w' ∧ Trans base c H w c' H' w' := by
  obtain ⟨i, d, z, hi, hd, hsz, hz, hzo, hzs, hag, hk⟩ := tyOk_spec (hE.ty _ _ ht)
  unfold storeA at h
  split at h
  · rename_i id' ver off vs' hc
    cases hb : blkAt H id' ver with
    | none => simp [hb] at h
    | some b =>
      simp only [hb, Option.bind_some] at h
      split at h
      · rename_i hcond
        obtain ⟨h1, h2, h3⟩ := hcond
        simp only [Option.some.injEq, Prod.mk.injEq] at h
        obtain ⟨rfl, rfl, rfl⟩ := h
        obtain ⟨k, sz, cs, T, rfl, hm, hk, rfl, hle, hr⟩ := s.ptr ha hb
        obtain ⟨hlive, hver⟩ := blkAt_some hb
        have hvc := hv.cells hc
        have hlen : v'.cells.toList.length = vs'.length := hvc.1.symm
        have hones := hvc.ones h3
        have hrun := run_storeCells_at E.P k off T v'.cells.toList 0 cs w hk (by rw [hlen]; omega) hones
        rw [Nat.add_zero] at hrun
        have hsize : v'.cells.size = i.size := by rw [hsz, ← h1, ← hlen]; simp
        refine ⟨c.add id' b.ver (some (k, cs.size)), w.setRow k (cs.toList.take off ++ v'.cells.toList ++ cs.toList.drop (off + v'.cells.toList.length)).toArray, ?_, s.replace hlive (by rw [hver]; exact hm) (.inl ⟨rfl, rfl⟩) (by exact ⟨rfl, rfl, rfl⟩) (by simp) ?_ ?_ ?_ ?_⟩
        · unfold Instr.storeAt storeVar
          simp only [Instr.sureAddr, Sem.run_bind, Sem.run_pure, Result.andThen_ok, run_sizeOf hi, hsize, ne_eq, not_true_eq_false, if_false]
          exact hrun
        · intro j hj hne
          exact setRow_other w k j _ fun e => hne cs.size (by rw [e])
        · intro j sz h; exact .inl ⟨sz, h⟩
        · have hx : Ext c (c.add id' b.ver (some (k, cs.size))) := by
            refine ⟨fun _ _ h => h, fun i v bk hmi => ⟨v, bk, ?_, .inl ⟨rfl, rfl⟩⟩⟩
            by_cases e : i = id'
            · subst e; rw [Ctx.add_same, hver, ← hm, hmi]
            · simpa [Ctx.add, e] using hmi
          refine ⟨_, T, setRow_heap w k cs _ T _ hk, ?_, ?_, ?_⟩
          · simp; omega
          · simp only; rw [splice_length (by omega)]; exact hle
          · simp only
            rw [splice_length (by omega)]
            have h5 := (hr.splice hvc (off := off) (by omega)).mono hx
            have e1 : (cs.toList.take off ++ v'.cells.toList ++ cs.toList.drop (off + v'.cells.toList.length)).take b.cells.length =
                (cs.toList.take b.cells.length).take off ++ v'.cells.toList ++ (cs.toList.take b.cells.length).drop (off + vs'.length) := by
              rw [hlen, List.take_append, List.take_append, List.take_take, List.drop_take]
              simp only [List.length_append, List.length_take, Array.length_toList, hlen, List.take_take]
              congr 2
              · congr 1; omega
              · rw [List.take_of_length_le (by rw [hlen]; omega)]
              · congr 1; omega
            rw [e1]
            exact h5
        · rcases hst with h4 | h4
          · exact .inl h4
          · refine .inr fun n hn _ hcl x hx => ?_
            rcases mem_splice (by omega) hx with h5 | h5
            · exact hcl id' b hlive hn x h5
            · exact (h4 x h5).mono (by omega)
      · cases h
  · cases h
end Go.Proofs.YtoncolpkpgbfiaaDoor

/- What each operation does on the machine, by what the interpreter says of it: append, len, min, max. -/
set_option linter.unusedVariables false
set_option linter.unusedSimpArgs false
namespace Go.Proofs.YtoncolpkpgbfiaaDoor

theorem run_firstCells_at {P : Program} (w : World) (size n k off len cap : Nat) {cs : Array Value} {T : TypeId} {fz : Nat × Nat} (hk : w.heap[k]? = some (.cells cs T fz)) (h : off + n * size ≤ cs.size) :
    (Builtin.firstCells size n (.slice (some ⟨k, off, none⟩) len cap)).run P w = .ok ((cs.toList.drop off).take (n * size)).toArray w := by
  refine run_firstCells_some w size n ⟨k, off, none⟩ len cap _ (by simp; omega) fun j v hv => ?_
  have hj : j < n * size := by have := (List.getElem?_eq_some_iff.1 hv).1; simp at this; omega
  rw [List.getElem?_take, if_pos hj, List.getElem?_drop] at hv
  rw [Addr.add_lit, cell_of_row w k _ cs T fz hk]
  simpa using hv

/-- The cells that are appended. -/
theorem appended_sound {P : Program} {c : Ctx} {H : Heap} {w : World} (s : Sim c H w) {x : AV} {x' : Value} (hx : VRel c x x') {n esz : Nat} (hn : lenA x = some n) {cs : List AV} (h : sliceCells H n esz x = some cs) :
    ∃ news : List Value, (∀ w2, (Builtin.lenOf x').run P w2 = .ok n w2) ∧ LRel c cs news ∧ cs.length = n * esz ∧ ∀ w2 : World, w2.heap = w.heap → (Builtin.firstCells esz n x').run P w2 = .ok news.toArray w2 := by
  unfold sliceCells at h
  split at h
  · simp only [lenA, Option.some.injEq] at hn
    subst hn
    simp only [if_true, Option.some.injEq] at h
    subst h
    cases hx
    exact ⟨[], fun w2 => rfl, .nil, by simp, fun w2 _ => rfl⟩
  · rename_i cells len
    simp only [lenA, Option.some.injEq] at hn
    subst hn
    split at h
    · rename_i hc
      cases h
      cases hx with
      | lst _ _ b o cap l hcap hz hl hr =>
        obtain ⟨T, fz, hk⟩ := s.froz _ _ hz
        have hr' : LRel (c.res 0) cells ((l.drop o).take cells.length) := LRel.of_window hl hr
        have hext : Ext (c.res 0) c := ⟨fun _ _ h => h, fun id ver bk hm => by simp [Ctx.res] at hm⟩
        refine ⟨(l.drop o).take (len * esz), fun w2 => rfl, ?_, by simp; omega, fun w2 hw => ?_⟩
        · have h1 := (hr'.mono hext).take (len * esz)
          rw [List.take_take, show min (len * esz) cells.length = len * esz by omega] at h1
          exact h1
        · have := run_firstCells_at (P := P) w2 esz len b o len cap (cs := l.toArray) (T := T) (fz := fz) (by rw [hw]; exact hk) (by simp; omega)
          simpa using this
      | lst0 a cap =>
        refine ⟨[], fun w2 => rfl, by simpa using LRel.nil, by simp, fun w2 _ => ?_⟩
        cases a with
        | none => rfl
        | some a => simp [Builtin.firstCells, loadCells, loadCellsFrom]
    · cases h
  · rename_i id ver off len cap e
    simp only [lenA, Option.some.injEq] at hn
    subst hn
    cases hb : blkAt H id ver with
    | none => simp [hb] at h
    | some b =>
      simp only [hb, Option.bind_some] at h
      split at h
      · rename_i hc
        obtain ⟨_, rfl, h3⟩ := hc
        cases h
        rcases s.sl hx hb with ⟨k, sz, cs, T, cap', rfl, _, _, _, hm, hk, rfl, hle, hr⟩ | ⟨rfl, rfl, rfl, rfl, hcells, hm⟩
        · refine ⟨(cs.toList.drop off).take (len * e), fun w2 => rfl, ?_, by simp; omega, fun w2 hw => ?_⟩
          · have h1 := (hr.drop off).take (len * e)
            rw [List.drop_take, List.take_take, show min (len * e) (b.cells.length - off) = len * e by omega] at h1
            exact h1
          · exact run_firstCells_at w2 e len k off len cap' (by rw [hw]; exact hk) (by omega)
        · exact ⟨[], fun w2 => rfl, by simpa using LRel.nil, by simp, fun w2 _ => by simp [Builtin.firstCells]⟩
      · cases h
  · cases h

theorem run_append_stay {P : Program} {w w' : World} {ts : Array TypeId} {sT xT e e' ty : TypeId} {i : TypeInfo} (h0 : ts[0]? = some sT) (h1 : ts[1]? = some xT) (hu : P.underlying sT = some (.slice e)) (hx : P.underlying xT = some (.slice e'))
    (hi : P.info? e = some i) {base : Option Addr} {sLen sCap n : Nat} {x : Value} {news : List Value} (hlen : ∀ w2, (Builtin.lenOf x).run P w2 = .ok n w2)
    (hf : (Builtin.firstCells i.size n x).run P w = .ok news.toArray w) (hroom : sLen + n ≤ sCap)
    (hst : ∀ a, base = some a → (storeCells (a.add (sLen * i.size)) news).run P w = .ok () w') (hno : base = none → w' = w) :
    (Builtin.append_ ts ty #[.slice base sLen sCap, x]).run P w = .ok (.slice base (sLen + n) sCap) w' := by
  unfold Builtin.append_
  simp only [h0, h1, List.getElem?_toArray, List.getElem?_cons_zero, List.getElem?_cons_succ, Sem.run_bind, run_underlying hu, Result.andThen_ok, run_sizeOf hi]
  cases base with
  | none =>
    obtain rfl := hno rfl
    simp [run_underlying hx, hlen, hroom, hf]
  | some a =>
    have := hst a rfl
    simp [run_underlying hx, hlen, hroom, hf, this]

theorem run_append_grow' {P : Program} {w : World} {ts : Array TypeId} {sT xT e e' ty : TypeId} {i : TypeInfo} {z : Value} (h0 : ts[0]? = some sT) (h1 : ts[1]? = some xT) (hu : P.underlying sT = some (.slice e)) (hx : P.underlying xT = some (.slice e'))
    (hi : P.info? e = some i) (hz : i.zero = some z) {base : Option Addr} {sLen sCap n : Nat} {x : Value} {olds news : List Value} (hlen : ∀ w2, (Builtin.lenOf x).run P w2 = .ok n w2)
    (hf : (Builtin.firstCells i.size n x).run P w.drew = .ok news.toArray w.drew) (ho : (Builtin.firstCells i.size sLen (.slice base sLen sCap)).run P w.drew = .ok olds.toArray w.drew) (hroom : sCap < sLen + n)
    (h63 : sLen + n ≤ 9223372036854775807) (hb : (sLen + n) * i.bytes ≤ 140737488355328) :
    (Builtin.append_ ts ty #[.slice base sLen sCap, x]).run P w = .ok (.slice (some ⟨w.heap.size, 0, none⟩) (sLen + n) (grownCap w (sLen + n) sCap e))
      (w.drew.alloc (.cells (olds ++ news ++ (Builtin.zeroCells z.cells (grownCap w (sLen + n) sCap e - (sLen + n))).toList).toArray e)) := by
  have hn : ¬ (sLen + n ≤ sCap) := by omega
  have h63' : ¬ (9223372036854775807 < ((sLen : Int) + (n : Int))) := by omega
  have h48' : ¬ (281474976710656 < Builtin.nextslicecap (sLen + n) sCap * i.bytes) := by have := growslice_fits (old := sCap) hroom hb; omega
  unfold Builtin.append_
  simp only [h0, h1, List.getElem?_toArray, List.getElem?_cons_zero, List.getElem?_cons_succ, Sem.run_bind, run_underlying hu, Result.andThen_ok, run_sizeOf hi]
  simp [run_underlying hx, hlen, hn, h63', h48', typeInfo, hi, Question.forced, hf, ho, newRow, grownCap, zeroValue, hz]
  congr 2
  apply Array.ext'
  simp

theorem size_zeroCells' (z : Array Value) (n : Nat) : (Builtin.zeroCells z n).size = n * z.size := size_zeroCells z n

theorem append_sound {E : Env} (hE : EnvOk E) {base : Nat} {c : Ctx} {H : Heap} {w : World} (sm : Sim c H w) (hb : base ≤ H.length) {ts : Array TypeId} {sT xT ty : TypeId} {k k2 : TK} (h0 : ts[0]? = some sT) (h1 : ts[1]? = some xT)
    (hk : E.kd sT = some k) (hk2 : E.kd xT = some k2) (hs2 : isSliceK k2 = true) {s x v : AV} {s' x' : Value} (hs : VRel c s s') (hx : VRel c x x') {H' : Heap} (h : appendA H k s x = some (v, H'))
    (hcl : ∀ id ver off len cap esz, s = .sl id ver off len cap esz → ∀ cs n esz', sliceCells H n esz' x = some cs → mayStore base id cs) :
    Did E base c H w (Builtin.append_ ts ty #[s', x']) v H' := by
  unfold appendA at h
  split at h
  · rename_i e esz bytes ez
    obtain ⟨hu, ie, z, hie, hes, heb, hz, hzo, hzs⟩ := kd_slice hE hk
    obtain ⟨e', hu2⟩ : ∃ e', E.P.underlying xT = some (.slice e') := by
      cases k2 <;> simp only [isSliceK, Bool.false_eq_true] at hs2
      obtain ⟨h3, _⟩ := kd_slice hE hk2
      exact ⟨_, h3⟩
    cases hn : lenA x with
    | none => simp [hn] at h
    | some n =>
      simp only [hn, Option.bind_some] at h
      cases hc : sliceCells H n esz x with
      | none => simp [hc] at h
      | some cs =>
        simp only [hc, Option.bind_some] at h
        obtain ⟨news, hlen, hnews, hcl2, hf⟩ := appended_sound (P := E.P) sm hx hn hc
        have hnl : news.length = n * esz := by rw [← hcl2]; exact hnews.1.symm
        split at h
        · -- onto nothing
          split at h
          · rename_i hbd
            simp only [Option.some.injEq, Prod.mk.injEq] at h
            obtain ⟨rfl, rfl⟩ := h
            cases hs
            rcases Nat.eq_zero_or_pos n with rfl | hpos
            · have e1 : cs = [] := List.eq_nil_of_length_eq_zero (by simpa using hcl2)
              subst e1
              refine ⟨_, .slice none 0 0, w, ?_, .slNone _ _ _ (Ctx.add_same _ _ _ _), sm.allocNone hb 0⟩
              exact run_append_stay h0 h1 hu hu2 hie hlen (by rw [hes]; exact hf w rfl) (Nat.le_refl _) (fun a e => by cases e) (fun _ => rfl)
            · have hrun := run_append_grow' (ty := ty) (w := w) (base := none) (sLen := 0) (sCap := 0) (olds := []) h0 h1 hu hu2 hie hz hlen (by rw [hes]; exact hf w.drew rfl) rfl (by omega) (by simpa using hbd.2) (by rw [heb]; simpa [maxBytes] using hbd.1)
              refine ⟨_, _, _, hrun, ?_, sm.alloc (cs := (([] : List Value) ++ news ++ (Builtin.zeroCells z.cells (grownCap w (0 + n) 0 e - (0 + n))).toList).toArray) (T := e) hb (by exact ⟨rfl, rfl, rfl⟩) (by simp) ?_ ?_ n ?_ ?_⟩
              · have hge := grownCap_ge w (0 + n) 0 e
                rw [Nat.zero_add] at *
                refine .sl _ _ _ _ _ _ _ _ _ (Ctx.add_same _ _ _ _) hge (Nat.le_refl _) ?_
                simp only [List.nil_append, List.size_toArray, List.length_append, Array.length_toList, size_zeroCells, hzs, hnl, ← Nat.add_mul]
                rw [Nat.zero_add]
                exact Nat.mul_le_mul_right _ (by omega)
              · exact heap_alloc_new w.drew _
              · intro k hk; exact heap_alloc_old w.drew _ k hk
              · simp [hcl2, hnl]
              · simp only [List.nil_append]
                rw [show cs.length = news.length from hnews.1]
                simpa using hnews
          · cases h
        · -- onto what stands in a block of ours
          rename_i id ver off len cap es
          cases hblk : blkAt H id ver with
          | none => simp [hblk] at h
          | some b =>
            simp only [hblk, Option.bind_some] at h
            split at h
            · rename_i hcond
              obtain ⟨rfl, rfl, hwhole, hbd1, hbd2, hone⟩ := hcond
              simp only [Option.some.injEq, Prod.mk.injEq] at h
              obtain ⟨rfl, rfl⟩ := h
              obtain ⟨hlive, hver⟩ := blkAt_some hblk
              have hclose : base ≤ id ∨ ∀ m, id < m → m ≤ base → HClosed m H → ∀ y ∈ b.cells ++ cs, Nmd m y := by
                rcases hcl _ _ _ _ _ _ rfl cs n es hc with h4 | h4
                · exact .inl h4
                · refine .inr fun m hm _ hcm y hy => ?_
                  rcases List.mem_append.1 hy with h5 | h5
                  · exact hcm id b hlive hm y h5
                  · exact (h4 y h5).mono (by omega)
              have hv2 : ∀ bk bk' : Option (Nat × Nat), (n = 0 → bk' = bk) → ((ver + n = b.ver ∧ bk' = bk) ∨ b.ver < ver + n) := by
                intro bk bk' hbk
                rcases Nat.eq_zero_or_pos n with e0 | hp
                · exact .inl ⟨by omega, hbk e0⟩
                · exact .inr (by omega)
              rcases sm.sl hs hblk with ⟨kk, sz, cur, T, cap', rfl, hc1, hc2, hc3, hm, hkk, rfl, hle, hr⟩ | ⟨rfl, _, rfl, rfl, hcells, hm⟩
              · -- backed
                by_cases hroom : len + n ≤ cap'
                · -- there is room
                  have hfit : (len + n) * es ≤ cap' * es := Nat.mul_le_mul_right _ hroom
                  rw [Nat.add_mul] at hfit
                  have hst := run_storeCells_at E.P kk (len * es) T news 0 cur w hkk (by rw [hnl]; omega) (hnews.ones hone)
                  rw [Nat.add_zero] at hst
                  have hrun := run_append_stay (ty := ty) (w' := w.setRow kk (cur.toList.take (len * es) ++ news ++ cur.toList.drop (len * es + news.length)).toArray) h0 h1 hu hu2 hie hlen (by rw [hes]; exact hf w rfl) hroom
                    (base := some ⟨kk, 0, none⟩) (fun a e => by cases e; rw [hes, Addr.add_lit, Nat.zero_add]; exact hst) (fun e => by cases e)
                  have hx' : Ext c (c.add id (ver + n) (some (kk, cur.size))) := by
                    refine ⟨fun _ _ h => h, fun i v bk hmi => ?_⟩
                    by_cases ee : i = id
                    · subst ee
                      rw [hm] at hmi
                      simp only [Option.some.injEq, Prod.mk.injEq] at hmi
                      obtain ⟨rfl, rfl⟩ := hmi
                      refine ⟨_, _, Ctx.add_same _ _ _ _, ?_⟩
                      rcases Nat.eq_zero_or_pos n with e0 | hp
                      · exact .inl ⟨by omega, rfl⟩
                      · exact .inr (by omega)
                    · exact ⟨v, bk, by simpa [Ctx.add, ee] using hmi, .inl ⟨rfl, rfl⟩⟩
                  refine ⟨_, _, _, hrun, ?_, sm.replace (bk' := some (kk, cur.size)) hlive (by rw [hver]; exact hm) (hv2 _ _ fun _ => rfl) (by exact ⟨rfl, rfl, rfl⟩) (by simp) ?_ ?_ ?_ hclose⟩
                  · refine .sl _ _ _ _ _ _ _ _ _ (Ctx.add_same _ _ _ _) hroom (Nat.le_refl _) (by omega)
                  · intro j hj hne; exact setRow_other w kk j _ fun e => hne cur.size (by rw [e])
                  · intro j sz h; exact .inl ⟨sz, h⟩
                  · refine ⟨_, T, setRow_heap w kk cur _ T _ hkk, ?_, ?_, ?_⟩
                    · simp [hnl]; omega
                    · simp only [List.length_append, hcl2]; omega
                    · simp only [List.length_append, hcl2]
                      rw [List.append_assoc, ← List.append_assoc]
                      have e5 : (cur.toList.take (len * es) ++ news ++ cur.toList.drop (len * es + news.length)).take (b.cells.length + n * es) = cur.toList.take b.cells.length ++ news := by
                        rw [List.take_append_of_le_length (by simp [hnl]; omega), List.take_of_length_le (by simp [hnl]; omega), hwhole]
                      rw [e5]
                      exact (hr.append hnews).mono hx'
                · -- it moves
                  have hrun := run_append_grow' (ty := ty) (w := w) (base := some ⟨kk, 0, none⟩) (sLen := len) (sCap := cap') (olds := (cur.toList.drop 0).take (len * es)) h0 h1 hu hu2 hie hz hlen (by rw [hes]; exact hf w.drew rfl)
                    (by rw [hes]; exact run_firstCells_at w.drew es len kk 0 len cap' hkk (by omega)) (by omega) hbd2 (by rw [heb]; simpa [maxBytes] using hbd1)
                  have hnp : 0 < n := by omega
                  have hx' : ∀ q, Ext c (c.add id (ver + n) q) := by
                    intro q
                    refine ⟨fun _ _ h => h, fun i v bk hmi => ?_⟩
                    by_cases ee : i = id
                    · subst ee
                      rw [hm] at hmi
                      simp only [Option.some.injEq, Prod.mk.injEq] at hmi
                      obtain ⟨rfl, rfl⟩ := hmi
                      exact ⟨_, _, Ctx.add_same _ _ _ _, .inr (by omega)⟩
                    · exact ⟨v, bk, by simpa [Ctx.add, ee] using hmi, .inl ⟨rfl, rfl⟩⟩
                  have hge := grownCap_ge w (len + n) cap' e
                  have hol : ((cur.toList.drop 0).take (len * es)).length = len * es := by simp; omega
                  have hsz : ((cur.toList.drop 0).take (len * es) ++ news ++ (Builtin.zeroCells z.cells (grownCap w (len + n) cap' e - (len + n))).toList).toArray.size = grownCap w (len + n) cap' e * es := by
                    simp only [List.size_toArray, List.length_append, hol, Array.length_toList, size_zeroCells, hzs, hnl, ← Nat.add_mul]
                    congr 1; omega
                  refine ⟨_, _, _, hrun, ?_, sm.replace (bk' := some (w.heap.size, grownCap w (len + n) cap' e * es)) hlive (by rw [hver]; exact hm) (.inr (by omega)) (by exact ⟨rfl, rfl, rfl⟩) (by simp) ?_ ?_ ?_ hclose⟩
                  · exact .sl _ _ _ _ _ _ _ _ _ (Ctx.add_same _ _ _ _) hge (Nat.le_refl _) (by omega)
                  · intro j hj _; exact heap_alloc_old w.drew _ j hj
                  · intro j sz h
                    simp only [Option.some.injEq, Prod.mk.injEq] at h
                    exact .inr ⟨by omega, by simp; omega⟩
                  · refine ⟨_, e, heap_alloc_new w.drew _, hsz, ?_, ?_⟩
                    · simp only [List.length_append, hcl2]
                      have : (len + n) * es ≤ grownCap w (len + n) cap' e * es := Nat.mul_le_mul_right _ hge
                      rw [Nat.add_mul] at this; omega
                    · simp only [List.length_append, hcl2]
                      rw [List.take_append_of_le_length (by simp [hnl]; omega), List.take_of_length_le (by simp [hnl]; omega), List.drop_zero, hwhole]
                      exact (hr.append hnews).mono (hx' _)
              · -- nothing yet
                rcases Nat.eq_zero_or_pos n with rfl | hpos
                · have e1 : cs = [] := List.eq_nil_of_length_eq_zero (by simpa using hcl2)
                  subst e1
                  refine ⟨_, .slice none 0 0, w, ?_, .slNone _ _ _ (Ctx.add_same _ _ _ _), sm.replace (bk' := none) hlive (by rw [hver]; exact hm) (.inl ⟨by omega, rfl⟩) (.refl w) (Nat.le_refl _) (fun _ _ _ => rfl) (fun _ _ h => by cases h) ?_ hclose⟩
                  · exact run_append_stay h0 h1 hu hu2 hie hlen (by rw [hes]; exact hf w rfl) (Nat.le_refl _) (fun a e => by cases e) (fun _ => rfl)
                  · show _ ++ _ = _
                    simp [hcells]
                · have hrun := run_append_grow' (ty := ty) (w := w) (base := none) (sLen := 0) (sCap := 0) (olds := []) h0 h1 hu hu2 hie hz hlen (by rw [hes]; exact hf w.drew rfl) rfl (by omega) (by simpa using hbd2) (by rw [heb]; simpa [maxBytes] using hbd1)
                  have hx' : ∀ q, Ext c (c.add id (ver + n) q) := by
                    intro q
                    refine ⟨fun _ _ h => h, fun i v bk hmi => ?_⟩
                    by_cases ee : i = id
                    · subst ee
                      rw [hm] at hmi
                      simp only [Option.some.injEq, Prod.mk.injEq] at hmi
                      obtain ⟨rfl, rfl⟩ := hmi
                      exact ⟨_, _, Ctx.add_same _ _ _ _, .inr (by omega)⟩
                    · exact ⟨v, bk, by simpa [Ctx.add, ee] using hmi, .inl ⟨rfl, rfl⟩⟩
                  have hge := grownCap_ge w (0 + n) 0 e
                  have hsz : (([] : List Value) ++ news ++ (Builtin.zeroCells z.cells (grownCap w (0 + n) 0 e - (0 + n))).toList).toArray.size = grownCap w (0 + n) 0 e * es := by
                    simp only [List.nil_append, List.size_toArray, List.length_append, Array.length_toList, size_zeroCells, hzs, hnl, ← Nat.add_mul]
                    congr 1; omega
                  refine ⟨_, _, _, hrun, ?_, sm.replace (bk' := some (w.heap.size, grownCap w (0 + n) 0 e * es)) hlive (by rw [hver]; exact hm) (.inr (by omega)) (by exact ⟨rfl, rfl, rfl⟩) (by simp) ?_ ?_ ?_ hclose⟩
                  · exact .sl _ _ _ _ _ _ _ _ _ (Ctx.add_same _ _ _ _) hge (Nat.le_refl _) (by omega)
                  · intro j hj _; exact heap_alloc_old w.drew _ j hj
                  · intro j sz h
                    simp only [Option.some.injEq, Prod.mk.injEq] at h
                    exact .inr ⟨by omega, by simp; omega⟩
                  · refine ⟨_, e, heap_alloc_new w.drew _, hsz, ?_, ?_⟩
                    · simp only [hcells, List.nil_append, hcl2]
                      exact Nat.mul_le_mul_right _ (by omega)
                    · simp only [hcells, List.nil_append]
                      rw [show cs.length = news.length from hnews.1]
                      simpa using hnews.mono (hx' _)
            · cases h
        · cases h
  · cases h
theorem copy_sound {E : Env} (hE : EnvOk E) {base : Nat} {c : Ctx} {H : Heap} {w : World} (sm : Sim c H w) (hb : base ≤ H.length) {ts : Array TypeId} {sT ty : TypeId} {k : TK} (h0 : ts[0]? = some sT)
    (hk : E.kd sT = some k) {d x v : AV} {d' x' : Value} (hd : VRel c d d') (hx : VRel c x x') {H' : Heap} (h : copyA H k d x = some (v, H'))
    (hcl : ∀ id ver off len cap esz, d = .sl id ver off len cap esz → ∀ cs n esz', sliceCells H n esz' x = some cs → mayStore base id cs) :
    Did E base c H w (Builtin.copy_ ts ty #[d', x']) v H' := by
  unfold copyA at h
  split at h
  · rename_i e esz bytes ez id ver off len cap es
    obtain ⟨hu, ie, z, hie, hes, heb, hz, hzo, hzs⟩ := kd_slice hE hk
    cases hn : lenA x with
    | none => simp [hn] at h
    | some n =>
      simp only [hn, Option.bind_some] at h
      cases hc : sliceCells H n esz x with
      | none => simp [hc] at h
      | some cs =>
        simp only [hc, Option.bind_some] at h
        obtain ⟨news, hlen, hnews, hcl2, hf⟩ := appended_sound (P := E.P) sm hx hn hc
        have hnl : news.length = n * esz := by rw [← hcl2]; exact hnews.1.symm
        cases hblk : blkAt H id ver with
        | none => simp [hblk] at h
        | some b =>
          simp only [hblk, Option.bind_some] at h
          split at h
          · rename_i hcond
            obtain ⟨hnl2, rfl, hfit, hone⟩ := hcond
            simp only [Option.some.injEq, Prod.mk.injEq] at h
            obtain ⟨rfl, rfl⟩ := h
            obtain ⟨hlive, hver⟩ := blkAt_some hblk
            have hmin : ∀ m, len ≤ m → Nat.min n m = n := fun m hm => Nat.min_eq_left (by omega)
            have hclose : base ≤ id ∨ ∀ m, id < m → m ≤ base → HClosed m H → ∀ y ∈ b.cells.take off ++ cs ++ b.cells.drop (off + cs.length), Nmd m y := by
              rcases hcl _ _ _ _ _ _ rfl cs n es hc with h4 | h4
              · exact .inl h4
              · refine .inr fun m hm _ hcm y hy => ?_
                rcases List.mem_append.1 hy with h5 | h5
                · rcases List.mem_append.1 h5 with h6 | h6
                  · exact hcm id b hlive hm y (List.mem_of_mem_take h6)
                  · exact (h4 y h6).mono (by omega)
                · exact hcm id b hlive hm y (List.mem_of_mem_drop h5)
            rcases sm.sl hd hblk with ⟨kk, sz, cur, T, cap', rfl, hc1, hc2, hc3, hm, hkk, rfl, hle, hr⟩ | ⟨rfl, rfl, rfl, rfl, hcells, hm⟩
            · have hst := run_storeCells_at E.P kk off T news 0 cur w hkk (by rw [hnl]; omega) (hnews.ones hone)
              rw [Nat.add_zero] at hst
              have hx' : Ext c (c.add id b.ver (some (kk, cur.size))) := by
                refine ⟨fun _ _ h => h, fun i v bk hmi => ⟨v, bk, ?_, .inl ⟨rfl, rfl⟩⟩⟩
                by_cases e : i = id
                · subst e; rw [Ctx.add_same, hver, ← hm, hmi]
                · simpa [Ctx.add, e] using hmi
              refine ⟨_, .int .i64 n, w.setRow kk (cur.toList.take off ++ news ++ cur.toList.drop (off + news.length)).toArray, ?_, .int _ _, sm.replace (bk' := some (kk, cur.size)) hlive (by rw [hver]; exact hm) (.inl ⟨rfl, rfl⟩) (by exact ⟨rfl, rfl, rfl⟩) (by simp) ?_ ?_ ?_ hclose⟩
              · unfold Builtin.copy_
                simp only [h0, List.getElem?_toArray, List.getElem?_cons_zero, List.getElem?_cons_succ, Sem.run_bind, run_underlying hu, Result.andThen_ok, hlen, run_sizeOf hie, hes, hmin len (Nat.le_refl _), hf w rfl]
                simp only [hst, Sem.run_bind, Result.andThen_ok, Sem.run_pure]
                rfl
              · intro j hj hne; exact setRow_other w kk j _ fun e => hne cur.size (by rw [e])
              · intro j sz h; exact .inl ⟨sz, h⟩
              · refine ⟨_, T, setRow_heap w kk cur _ T _ hkk, ?_, ?_, ?_⟩
                · simp [hnl]; omega
                · simp only [List.length_append, List.length_take, List.length_drop, hcl2]; omega
                · have hL : (b.cells.take off ++ cs ++ b.cells.drop (off + cs.length)).length = b.cells.length := by
                    simp only [List.length_append, List.length_take, List.length_drop, hcl2]; omega
                  rw [hL]
                  have e5 : (cur.toList.take off ++ news ++ cur.toList.drop (off + news.length)).take b.cells.length = (cur.toList.take b.cells.length).take off ++ news ++ (cur.toList.take b.cells.length).drop (off + cs.length) := by
                    apply List.ext_getElem?
                    intro j
                    simp only [List.getElem?_take, List.getElem?_append, List.length_append, List.length_take, List.getElem?_drop, hcl2, hnl, Array.length_toList]
                    have hmn : min off cur.size = off := by omega
                    have hmn2 : min off (min b.cells.length cur.size) = off := by omega
                    simp only [hmn, hmn2]
                    split
                    · split
                      · split
                        · rfl
                        · rfl
                      · rename_i h1 h2
                        rw [if_pos (by omega)]
                    · rename_i h1
                      have q1 : ¬ j < off + n * es := by omega
                      simp only [q1, if_false]
                      rw [if_neg (by omega)]
                  have e6 : (List.take b.cells.length (cur.toList.take off ++ news ++ cur.toList.drop (off + news.length)).toArray.toList) = (cur.toList.take b.cells.length).take off ++ news ++ (cur.toList.take b.cells.length).drop (off + cs.length) := e5
                  rw [e6]
                  exact (((hr.take off).append hnews).append (hr.drop _)).mono hx'
            · obtain rfl : n = 0 := by omega
              have e1 : cs = [] := List.eq_nil_of_length_eq_zero (by simpa using hcl2)
              have e2 : news = [] := List.eq_nil_of_length_eq_zero (by simpa using hnl)
              subst e1 e2
              refine ⟨_, .int .i64 0, w, ?_, .int _ _, sm.replace (bk' := none) hlive (by rw [hver]; exact hm) (.inl ⟨rfl, rfl⟩) (.refl w) (Nat.le_refl _) (fun _ _ _ => rfl) (fun _ _ h => by cases h) ?_ hclose⟩
              · unfold Builtin.copy_
                simp only [h0, List.getElem?_toArray, List.getElem?_cons_zero, List.getElem?_cons_succ, Sem.run_bind, run_underlying hu, Result.andThen_ok, hlen, run_sizeOf hie, hes, hmin 0 (Nat.le_refl _), hf w rfl]
                simp only [Sem.run_bind, Result.andThen_ok, Sem.run_pure]
                rfl
              · show _ = []
                simp [hcells]
          · cases h
  · cases h
end Go.Proofs.YtoncolpkpgbfiaaDoor

/- The interpreter is sound: operations with calls, regions in order, code, functions. -/
set_option linter.unusedSimpArgs false
set_option linter.unusedVariables false
namespace Go.Proofs.YtoncolpkpgbfiaaDoor

def rowAt (w : World) (k : Nat) : Option (List Value) :=
  match w.heap[k]? with
  | some (.cells cs _ _) => some cs.toList
  | _ => none
theorem Trans.weaken {base base' : Nat} {c : Ctx} {H : Heap} {w : World} {c' : Ctx} {H' : Heap} {w' : World} (h : Trans base' c H w c' H' w') (hb : base ≤ base') : Trans base c H w c' H' w' :=
  ⟨h.ext, h.sim, h.grow, h.unch, h.back, h.zback, h.len, fun n hn hc => h.closed n (by omega) hc, h.alike⟩

/-- What a call is to do on the machine. -/
def CallOk (E : Env) : CallRel := fun f args H v H' =>
  (∃ fn, E.P.funcs[f]? = some fn ∧ fn.body.isSome = true ∧ (fn.name == "runtime.NumGoroutine") = false) ∧
  ∀ c w cargs, Sim c H w → LRel c args cargs → Calls E.P f cargs.toArray w (fun e w' => ∃ c' x, e = .returned x ∧ VRel c' v x ∧ Trans H.length c H w c' H' w')

theorem builtin_sound {E : Env} (hE : EnvOk E) {base : Nat} {c : Ctx} {H : Heap} {w : World} (s : Sim c H w) (hb : base ≤ H.length) {b : Builtin} {ts : Array TypeId} {ty : TypeId} {cst : Array Bool} {args : List AV} {cargs : List Value} (ha : LRel c args cargs)
    {v : AV} {H' : Heap} (hm : mayAppend base b args H) (h : builtinA E b ts.toList args H = some (v, H')) : ∃ c' x w', (builtin b ts ty cst cargs.toArray).run E.P w = .ok (.value x) w' ∧ VRel c' v x ∧ Trans base c H w c' H' w' := by
  have wrapv : ∀ {q : Sem Value}, Did E base c H w q v H' → ∃ c' x w', (do pure (Next.value (← q)) : Sem Next).run E.P w = .ok (.value x) w' ∧ VRel c' v x ∧ Trans base c H w c' H' w' := by
    intro q ⟨c', x, w', h1, h2, h3⟩
    exact ⟨c', x, w', by simp [h1], h2, h3⟩
  unfold builtinA at h
  split at h
  · -- len
    rename_i x
    obtain ⟨x', r, rfl, hx, hr⟩ := ha.head
    have hr0 : r = [] := List.eq_nil_of_length_eq_zero (by simpa using hr.1.symm)
    subst hr0
    have hts : ts.toList[0]? = ts[0]? := by simp
    rw [hts] at h
    cases h0 : ts[0]? with
    | none => simp [h0] at h
    | some t =>
      simp only [h0, Option.bind_some] at h
      cases hk : E.kd t with
      | none => simp [hk] at h
      | some k =>
        simp only [hk, Option.bind_some] at h
        cases hl : lenOfA k x with
        | none => simp [hl] at h
        | some n =>
          simp only [hl, Option.map_some, Option.some.injEq, Prod.mk.injEq] at h
          obtain ⟨rfl, rfl⟩ := h
          simp only [builtin]
          refine wrapv (.still s (x := .int .i64 n) ?_ (.int _ _))
          unfold lenOfA at hl
          have hgo : ∀ m : Nat, goInt (m : Int) = Value.int .i64 m := fun m => rfl
          split at hl
          · cases hl
            obtain ⟨e, ie, d, hu, _⟩ := kd_array hE hk
            simp [Builtin.len_, h0, run_underlying hu, hgo]
          · cases hl
            obtain ⟨hu, _⟩ := kd_slice hE hk
            cases hx
            simp [Builtin.len_, h0, run_underlying hu, goInt]
          · cases hl
            obtain ⟨hu, _⟩ := kd_slice hE hk
            cases hx <;> simp [Builtin.len_, h0, run_underlying hu, goInt]
          · cases hl
            obtain ⟨hu, _⟩ := kd_slice hE hk
            cases hx <;> simp [Builtin.len_, h0, run_underlying hu, goInt]
          · cases hl
            obtain ⟨i, d, _, hd, hkd⟩ := kd_spec hE hk
            cases d <;> simp only [kindOk, Bool.false_eq_true] at hkd
            obtain rfl := hx.inv_str
            simp [Builtin.len_, h0, run_underlying hd, goInt]
          · cases hl
  · -- max of two
    rename_i k a k' b
    obtain ⟨x', r, rfl, hx, hr⟩ := ha.head
    obtain ⟨y', r', rfl, hy, hr'⟩ := hr.head
    have hr0 : r' = [] := List.eq_nil_of_length_eq_zero (by simpa using hr'.1.symm)
    subst hr0
    obtain rfl := hx.inv_int; obtain rfl := hy.inv_int
    split at h
    · rename_i hkk
      subst hkk
      simp only [Option.some.injEq, Prod.mk.injEq] at h
      obtain ⟨rfl, rfl⟩ := h
      simp only [builtin]
      refine wrapv (.still s (x := .int k (max a b)) ?_ (.int _ _))
      have := run_max_int2 (P := E.P) w ts ty k k a b
      rw [this]
      congr 2
      split <;> omega
    · cases h
  · -- min of two
    rename_i k a k' b
    obtain ⟨x', r, rfl, hx, hr⟩ := ha.head
    obtain ⟨y', r', rfl, hy, hr'⟩ := hr.head
    have hr0 : r' = [] := List.eq_nil_of_length_eq_zero (by simpa using hr'.1.symm)
    subst hr0
    obtain rfl := hx.inv_int; obtain rfl := hy.inv_int
    split at h
    · rename_i hkk
      subst hkk
      simp only [Option.some.injEq, Prod.mk.injEq] at h
      obtain ⟨rfl, rfl⟩ := h
      simp only [builtin]
      refine wrapv (.still s (x := .int k (min a b)) ?_ (.int _ _))
      have := run_min_int2 (P := E.P) w ts ty k k a b
      rw [this]
      congr 2
      split <;> omega
    · cases h
  · -- max of three
    rename_i k a k' b k'' d
    obtain ⟨x', r, rfl, hx, hr⟩ := ha.head
    obtain ⟨y', r', rfl, hy, hr'⟩ := hr.head
    obtain ⟨z', r'', rfl, hz, hr''⟩ := hr'.head
    have hr0 : r'' = [] := List.eq_nil_of_length_eq_zero (by simpa using hr''.1.symm)
    subst hr0
    obtain rfl := hx.inv_int; obtain rfl := hy.inv_int; obtain rfl := hz.inv_int
    split at h
    · rename_i hkk
      obtain ⟨rfl, rfl⟩ := hkk
      simp only [Option.some.injEq, Prod.mk.injEq] at h
      obtain ⟨rfl, rfl⟩ := h
      simp only [builtin]
      refine wrapv (.still s (x := .int k (max (max a b) d)) ?_ (.int _ _))
      simp only [Builtin.max_, List.foldlM, Builtin.max2, Sem.run_bind, Sem.run_pure, Result.andThen_ok]
      congr 2
      split <;> split <;> omega
    · cases h
  · -- min of three
    rename_i k a k' b k'' d
    obtain ⟨x', r, rfl, hx, hr⟩ := ha.head
    obtain ⟨y', r', rfl, hy, hr'⟩ := hr.head
    obtain ⟨z', r'', rfl, hz, hr''⟩ := hr'.head
    have hr0 : r'' = [] := List.eq_nil_of_length_eq_zero (by simpa using hr''.1.symm)
    subst hr0
    obtain rfl := hx.inv_int; obtain rfl := hy.inv_int; obtain rfl := hz.inv_int
    split at h
    · rename_i hkk
      obtain ⟨rfl, rfl⟩ := hkk
      simp only [Option.some.injEq, Prod.mk.injEq] at h
      obtain ⟨rfl, rfl⟩ := h
      simp only [builtin]
      refine wrapv (.still s (x := .int k (min (min a b) d)) ?_ (.int _ _))
      simp only [Builtin.min_, List.foldlM, Builtin.min2, Sem.run_bind, Sem.run_pure, Result.andThen_ok]
      congr 2
      split <;> split <;> omega
    · cases h
  · -- copy
    rename_i x y
    obtain ⟨x', r, rfl, hx, hr⟩ := ha.head
    obtain ⟨y', r', rfl, hy, hr'⟩ := hr.head
    have hr0 : r' = [] := List.eq_nil_of_length_eq_zero (by simpa using hr'.1.symm)
    subst hr0
    have hts0 : ts.toList[0]? = ts[0]? := by simp
    rw [hts0] at h
    cases h0 : ts[0]? with
    | none => simp [h0] at h
    | some t =>
      simp only [h0, Option.bind_some] at h
      cases hk : E.kd t with
      | none => simp [hk] at h
      | some k =>
        simp only [hk, Option.bind_some] at h
        simp only [builtin]
        refine wrapv (copy_sound hE s hb h0 hk hx hy h ?_)
        intro id ver off len cap esz e cs n esz' hc
        subst e
        rcases hm with h5 | h5
        · exact .inl h5
        · exact .inr (h5 n esz' cs hc)
  · -- append
    rename_i x y
    obtain ⟨x', r, rfl, hx, hr⟩ := ha.head
    obtain ⟨y', r', rfl, hy, hr'⟩ := hr.head
    have hr0 : r' = [] := List.eq_nil_of_length_eq_zero (by simpa using hr'.1.symm)
    subst hr0
    have hts0 : ts.toList[0]? = ts[0]? := by simp
    have hts1 : ts.toList[1]? = ts[1]? := by simp
    rw [hts0, hts1] at h
    cases h0 : ts[0]? with
    | none => simp [h0] at h
    | some t =>
      simp only [h0, Option.bind_some] at h
      cases hk : E.kd t with
      | none => simp [hk] at h
      | some k =>
        simp only [hk, Option.bind_some] at h
        cases h1 : ts[1]? with
        | none => simp [h1] at h
        | some u =>
          simp only [h1, Option.bind_some] at h
          cases hk2 : E.kd u with
          | none => simp [hk2] at h
          | some k2 =>
            simp only [hk2, Option.bind_some] at h
            split at h
            · rename_i hs2
              simp only [builtin]
              refine wrapv (append_sound hE s hb h0 h1 hk hk2 hs2 hx hy h ?_)
              intro id ver off len cap esz e cs n esz' hc
              subst e
              rcases hm with h5 | h5
              · exact .inl h5
              · exact .inr (h5 n esz' cs hc)
            · cases h
  · cases h

theorem stepA_sound {E : Env} (hE : EnvOk E) {C : CallRel} (hC : ∀ f args H v H', C f args H v H' → CallOk E f args H v H') {f base : Nat} {c : Ctx} {H : Heap} {w : World} (s : Sim c H w) (hb : base ≤ H.length) {n : Nat} {fr : Fr} {a : Act} (hf : FRel c n fr a)
    {o : Oper} {K : AV → Heap → Prop} (h : stepA E C f base o fr H K) {next : Act → World → Prop} {Q : Exit → Act → World → Prop}
    (hnext : ∀ v H' c' x w', K v H' → VRel c' v x → Trans base c H w c' H' w' → next (a.put o.dst x) w') : o.wp E.P a w next Q := by
  unfold Oper.wp
  unfold stepA at h
  split at h
  · -- a call
    rename_i cl hop
    have hex : execOp a.eval o = (do let d ← resolve a.eval cl o.type; invoke d.target d.args) := by simp only [execOp, hop]
    rw [hex]
    have hargs : LRel c (cl.args.toList.map fr.ev) (cl.args.toList.map a.eval) := LRel.map _ fun x _ => hf.ev x
    split at h
    · rename_i g hg
      unfold fnThen at h
      split at h
      · rename_i hh caps he
        have hgv := hf.ev g
        rw [he] at hgv
        obtain ⟨caps', e1, hcaps⟩ := hgv.inv_fn
        have hres : (resolve a.eval cl o.type).run E.P w = .ok { target := .fn (.func hh) caps'.toArray, args := #[] ++ cl.args.map a.eval } w := by
          simp only [resolve, hg, Deferred.ofValue, e1, Sem.run_pure]
        have hall : #[] ++ cl.args.map a.eval ++ caps'.toArray = (cl.args.toList.map a.eval ++ caps').toArray := by
          apply Array.ext'; simp
        have hrun : (do let d ← resolve a.eval cl o.type; invoke d.target d.args : Sem Next).run E.P w = (callFunc hh (cl.args.toList.map a.eval ++ caps').toArray).run E.P w := by
          rw [Sem.run_bind, hres, Result.andThen_ok]
          simp only [invoke, hall]
        rw [hrun]
        have hl := hargs.append hcaps
        split at h
        · rename_i v hv
          obtain ⟨x, h1, h2⟩ := hE.ext _ _ _ hv c _ w hl
          rw [h1]
          exact hnext _ _ _ _ _ h h2 (.refl s)
        · obtain ⟨v, H', h1, h2⟩ := h
          obtain ⟨⟨fn, h3, h4, h5⟩, h6⟩ := hC _ _ _ _ _ h1
          have hcf : (callFunc hh (cl.args.toList.map a.eval ++ caps').toArray).run E.P w = .ok (.enter hh (cl.args.toList.map a.eval ++ caps').toArray) w := by
            simp only [callFunc, Sem.run_bind, run_program, Result.andThen_ok, h3, h5]
            cases hbd : fn.body with
            | none => simp [hbd] at h4
            | some b => simp
          rw [hcf]
          simp only [Oper.upon]
          refine (h6 c w _ s hl).mono fun e w' he' => ?_
          obtain ⟨c', x, rfl, h7, h8⟩ := he'
          exact hnext _ _ _ _ _ h2 h7 (h8.weaken hb)
      · exact h.elim
    · rename_i b hg
      obtain ⟨hm, h⟩ := h
      obtain ⟨cst, hres⟩ : ∃ cst, (resolve a.eval cl o.type).run E.P w = .ok { target := .builtin b cl.argTypes o.type cst, args := cl.args.map a.eval } w := ⟨_, by
        simp only [resolve, hg, Sem.run_pure]; rfl⟩
      unfold someThen at h
      split at h
      · rename_i v H' hv
        obtain ⟨c', x, w', h1, h2, h3⟩ := builtin_sound hE s hb (ty := o.type) (cst := cst) hargs hm hv
        have hrun : (do let d ← resolve a.eval cl o.type; invoke d.target d.args : Sem Next).run E.P w = .ok (.value x) w' := by
          rw [Sem.run_bind, hres, Result.andThen_ok]
          simp only [invoke]
          have e2 : (cl.args.toList.map a.eval).toArray = cl.args.map a.eval := by rw [← Array.toList_map, Array.toArray_toList]
          rw [e2] at h1
          exact h1
        rw [hrun]
        exact hnext _ _ _ _ _ h h2 h3
      · exact h.elim
    · exact h.elim
  · -- a store
    rename_i t oa ox hop
    split at h
    · rename_i ti ht
      unfold storeThen at h
      split at h
      · rename_i id vs H' hst
        obtain ⟨hmay, hK⟩ := h
        obtain ⟨c', w', h1, h2⟩ := store_sound hE s ht (hf.ev oa) (hf.ev ox) hst hmay
        have hrun : (execOp a.eval o).run E.P w = .ok .skip w' := by
          simp only [execOp, hop]
          simp [h1]
        rw [hrun]
        exact hnext _ _ c' undef _ hK (VRel.tup' (l := []) (l' := []) .nil) h2
      · exact h.elim
    · exact h.elim
  · unfold someThen at h
    split at h
    · rename_i v H' hv
      obtain ⟨c', x, w', h1, h2, h3⟩ := opA_sound hE s hb hf hv
      rw [h1]
      exact hnext _ _ _ _ _ h h2 h3
    · exact h.elim

theorem guard_sound {c : Ctx} {n : Nat} {fr : Fr} {a : Act} (hf : FRel c n fr a) {all : Array Oper} {o : Oper} {b : Bool} (h : guardA all fr o.guard = some b) : Region.wanted o (yielded all a.tmps) = b := by
  unfold guardA at h
  unfold Region.wanted
  split at h
  · rename_i hg
    cases h
    simp [hg]
  · rename_i j want hg
    simp only [hg]
    unfold yielded
    split at h
    · rename_i d hd
      have hr := hf.rel d
      split at h
      · rename_i t he
        cases h
        rw [he] at hr
        have e1 := hr.inv_bool
        have e2 : a.tmps[d]? = some (.bool t) := by
          cases hq : a.tmps[d]? with
          | none => simp [Array.getD_eq_getD_getElem?, hq, undef] at e1
          | some y => simp [Array.getD_eq_getD_getElem?, hq] at e1; rw [e1]
        simp only [hd, Option.bind_some, e2]
        cases t <;> cases want <;> rfl
      · rename_i he
        cases h
        rw [he] at hr
        obtain ⟨l', e1, hl⟩ := hr.inv_tup
        simp only [hd, Option.bind_some]
        cases hq : a.tmps[d]? with
        | none => simp
        | some y =>
          have : y = .tuple l'.toArray := by simpa [Array.getD_eq_getD_getElem?, hq] using e1
          subst this
          simp
      · cases h
    · cases h

theorem wpOpsA_sound {E : Env} (hE : EnvOk E) {C : CallRel} (hC : ∀ f args H v H', C f args H v H' → CallOk E f args H v H') {f base : Nat} {all : Array Oper} {n : Nat} {Q : Exit → Act → World → Prop} {K : Fr → Heap → Prop} :
    ∀ (l : List (Nat × Oper)), (∀ p ∈ l, all[p.1]? = some p.2 ∧ ∀ d, p.2.dst = some d → d < n) → ∀ {fr : Fr} {H : Heap} {a : Act} {w : World} {c : Ctx}, wpOpsA E C f base all (l.map fun p => (p.2, Tag.seq)) fr H K → FRel c n fr a → Sim c H w → base ≤ H.length →
      (∀ fr' H' c' a' w', K fr' H' → FRel c' n fr' a' → Trans base c H w c' H' w' → Q .normal a' w') → wpOps E.P all Q (l.map (·.1)) a w
  | [], _, fr, H, a, w, c, h, hf, s, _, hQ => hQ fr H c a w h hf (.refl s)
  | (i, o) :: l, hl, fr, H, a, w, c, h, hf, s, hb, hQ => by
    simp only [List.map_cons, wpOpsA] at h
    simp only [List.map_cons, wpOps]
    obtain ⟨hi, hd⟩ := hl (i, o) (by simp)
    simp only [hi]
    split at h
    · rename_i hg
      rw [guard_sound hf hg, if_pos rfl]
      refine .inl (stepA_sound hE hC s hb hf h fun v H' c' x w' hk hv ht => ?_)
      refine wpOpsA_sound hE hC l (fun p hp => hl p (by simp [hp])) hk ((hf.mono ht.ext).put hd hv) ht.sim (Nat.le_trans hb ht.len) fun fr2 H2 c2 a2 w2 h1 h2 h3 => hQ fr2 H2 c2 a2 w2 h1 h2 (ht.trans h3)
    · rename_i hg
      rw [guard_sound hf hg, if_neg (by simp)]
      exact wpOpsA_sound hE hC l (fun p hp => hl p (by simp [hp])) h (hf.put hd (VRel.tup' (l := []) (l' := []) .nil)) s hb hQ
    · exact h.elim

/-! ### slices that grow no more -/
def zFrz (c : Ctx) (w : World) : Option (Nat × Nat) → Nat → Option (List Value)
  | some (k, _), j => if j = k then rowAt w k else c.z j
  | none, j => c.z j
theorem blk_frozen {base id : Nat} {c : Ctx} {H : Heap} {w : World} (s : Sim c H w) {b : Blk} (hl : liveAt H id b) :
    ∃ c', Trans base c H w c' (H.set id none) w ∧ c'.m id = some (b.ver + 1, none) ∧ (∀ k sz v cs T, c.m id = some (v, some (k, sz)) → w.heap[k]? = some (.cells cs T (0, 0)) → c'.z k = some cs.toList) := by
  obtain ⟨bk, hm, hb⟩ := s.blk id b hl
  have hid : id < H.length := s.dom _ _ hm
  have hlive : ∀ i x, liveAt (H.set id none) i x → i ≠ id ∧ liveAt H i x := by
    intro i x h
    unfold liveAt at h ⊢
    rw [List.getElem?_set] at h
    split at h
    · first
        | (simp at h; done)
        | (split at h <;> simp at h; done)
    · exact ⟨fun e => by omega, h⟩
  have hzk : ∀ k sz, bk = some (k, sz) → c.z k = none := fun k sz e => s.disj _ _ _ _ (by rw [hm, e])
  let z' : Nat → Option (List Value) := zFrz c w bk
  let c' : Ctx := { z := z', m := fun i => if i = id then some (b.ver + 1, none) else c.m i }
  have hz : ∀ j cs, c.z j = some cs → z' j = some cs := by
    intro j cs h
    show zFrz c w bk j = some cs
    match bk, hzk with
    | none, _ => exact h
    | some (k, sz), hzk =>
      by_cases e : j = k
      · subst e; rw [hzk j sz rfl] at h; cases h
      · simp only [zFrz, e, if_false]; exact h
  have hz' : ∀ j cs, z' j = some cs → c.z j = some cs ∨ ∃ sz, bk = some (j, sz) ∧ rowAt w j = some cs := by
    intro j cs h
    have h : zFrz c w bk j = some cs := h
    clear hm hb hzk hz
    match bk, h with
    | none, h => exact .inl h
    | some (k, sz), h =>
      by_cases e : j = k
      · subst e; simp only [zFrz, if_true] at h; exact .inr ⟨sz, rfl, h⟩
      · simp only [zFrz, e, if_false] at h; exact .inl h
  have hmm : ∀ i v k sz, c'.m i = some (v, some (k, sz)) → i ≠ id ∧ c.m i = some (v, some (k, sz)) := by
    intro i v k sz h
    have h : (if i = id then some (b.ver + 1, none) else c.m i) = some (v, some (k, sz)) := h
    split at h
    · simp at h
    · exact ⟨by assumption, h⟩
  have hx : Ext c c' := by
    refine ⟨hz, fun i v q h => ?_⟩
    by_cases e : i = id
    · subst e
      rw [hm] at h
      simp only [Option.some.injEq, Prod.mk.injEq] at h
      exact ⟨b.ver + 1, none, by simp [c'], .inr (by omega)⟩
    · exact ⟨v, q, by simp [c', e, h], .inl ⟨rfl, rfl⟩⟩
  refine ⟨c', ⟨hx, ⟨?_, ?_, ?_, ?_, ?_, ?_, fun b cs h => hx.z _ _ (s.glob b cs h)⟩, Nat.le_refl _, fun _ _ _ => rfl, ?_, ?_, by simp, ?_, .refl w⟩, by simp [c'], ?_⟩
  · intro i p h
    have h : (if i = id then some (b.ver + 1, none) else c.m i) = some p := h
    rw [List.length_set]
    split at h
    · rename_i e; rw [e]; exact hid
    · exact s.dom _ _ h
  · intro i x h
    obtain ⟨hne, h⟩ := hlive i x h
    obtain ⟨q, h1, h2⟩ := s.blk i x h
    exact ⟨q, by simp [c', hne, h1], h2.mono hx fun _ _ _ => rfl⟩
  · intro i j v v' k sz sz' hi hj
    exact s.inj _ _ _ _ _ _ _ (hmm _ _ _ _ hi).2 (hmm _ _ _ _ hj).2
  · intro i v k sz hi
    obtain ⟨hne, hi⟩ := hmm _ _ _ _ hi
    cases hq : z' k with
    | none => exact hq
    | some cs =>
      rcases hz' k cs hq with h | ⟨sz', h, _⟩
      · rw [s.disj _ _ _ _ hi] at h; cases h
      · exact absurd (s.inj _ _ _ _ _ _ _ hi (by rw [hm, h])) hne
  · intro i v k sz hi
    exact s.bnd _ _ _ _ (hmm _ _ _ _ hi).2
  · intro j cs hj
    rcases hz' j cs hj with h | ⟨sz, _, h⟩
    · exact s.froz _ _ h
    · unfold rowAt at h
      split at h
      · rename_i l T fz hl
        cases h
        exact ⟨T, fz, by simpa using hl⟩
      · cases h
  · rintro j ⟨i, v, sz, h⟩
    exact .inl ⟨i, v, sz, (hmm _ _ _ _ h).2⟩
  · intro j cs hj
    rcases hz' j cs hj with h | ⟨sz, h, _⟩
    · exact .inl h
    · exact .inr (.inl ⟨id, _, sz, by rw [hm, h]⟩)
  · intro m hm' hc i x h him y hy
    exact hc i x (hlive i x h).2 him y hy
  · intro k sz v cs T h1 h2
    rw [hm] at h1
    simp only [Option.some.injEq, Prod.mk.injEq] at h1
    show zFrz c w bk k = some cs.toList
    rw [h1.2]
    simp [zFrz, rowAt, h2]

theorem FRel.over {c : Ctx} {n : Nat} {fr : Fr} {a : Act} (h : FRel c n fr a) {t : Nat} {v : AV} (hv : VRel c v (a.tmps.getD t undef)) : FRel c n (fr.put (some t) v) a := by
  refine ⟨h.size, fun u => ?_, h.defers⟩
  simp only [Fr.put, Fr.get]
  split
  · rename_i e; subst e; exact hv
  · exact h.rel u

theorem frz_sound {base n : Nat} : ∀ (ts : List Nat) {fr : Fr} {H : Heap} {K : Fr → Heap → Prop} {c : Ctx} {a : Act} {w : World}, frzThen base ts fr H K → FRel c n fr a → Sim c H w →
    ∃ fr' H' c', K fr' H' ∧ FRel c' n fr' a ∧ Trans base c H w c' H' w
  | [], fr, H, K, c, a, w, h, hf, s => ⟨fr, H, c, h, hf, .refl s⟩
  | t :: ts, fr, H, K, c, a, w, h, hf, s => by
    simp only [frzThen] at h
    split at h
    · rename_i id ver off len cap esz hv
      split at h
      · rename_i b hb
        obtain ⟨_, hlen, hpl, hk⟩ := h
        obtain ⟨hlive, hver⟩ := blkAt_some hb
        obtain ⟨c', ht, _, hz⟩ := blk_frozen (base := base) s hlive
        have hr := hf.rel t
        rw [hv] at hr
        have key : VRel c' (.lst ((b.cells.drop off).take (len * esz)) len) (a.tmps.getD t undef) := by
          rcases s.sl hr hb with ⟨k, sz, cs, T, cap', e, h1, h2, h3, hm, hk', rfl, hle, hr'⟩ | ⟨e, rfl, rfl, rfl, hcells, hm⟩
          · rw [e]
            have hl : ((b.cells.drop off).take (len * esz)).length = len * esz := by simp; omega
            refine .lst _ _ _ _ _ _ (by omega) (hz _ _ _ _ _ hm hk') (by rw [hl]; simp; omega) fun i hi => ?_
            rw [hl] at hi
            have h4 := hr'.2 (off + i) (by omega)
            have e1 : ((b.cells.drop off).take (len * esz)).getD i .undef = b.cells.getD (off + i) .undef := by
              rw [List.getD_eq_getElem?_getD, List.getElem?_take, if_pos hi, List.getElem?_drop, ← List.getD_eq_getElem?_getD]
            have e2 : (cs.toList.take b.cells.length).getD (off + i) undef = cs.toList.getD (off + i) undef := by
              rw [List.getD_eq_getElem?_getD, List.getElem?_take, if_pos (by omega), ← List.getD_eq_getElem?_getD]
            rw [e1, ← e2]
            exact (h4.res (hpl _ (getD_mem (by omega)))).mono (Ext.res0 (c := c) (c' := c') ht.ext.z)
          · rw [e, hcells]
            simpa using VRel.lst0 none 0
        obtain ⟨fr', H', c2, h1, h2, h3⟩ := frz_sound ts hk ((hf.mono ht.ext).over key) ht.sim
        exact ⟨fr', H', c2, h1, h2, ht.trans h3⟩
      · exact h.elim
    · exact frz_sound ts h hf s
    · exact frz_sound ts h hf s
    · exact h.elim

def exOf : Ex → Exit
  | .normal => .normal
  | .exit id => .exit id
  | .ret => .ret

theorem range_ops (ops : Array Oper) : ∃ l : List (Nat × Oper), l.map (·.1) = List.range ops.size ∧ (l.map fun p => (p.2, Tag.seq)) = ops.toList.map (fun o => (o, Tag.seq)) ∧ ∀ p ∈ l, ops[p.1]? = some p.2 := by
  refine ⟨(List.range ops.size).zip ops.toList, ?_, ?_, ?_⟩
  · rw [List.map_fst_zip]; simp
  · have : ((List.range ops.size).zip ops.toList).map (fun p => (p.2, Tag.seq)) = (((List.range ops.size).zip ops.toList).map (·.2)).map fun o => (o, Tag.seq) := by simp
    rw [this, List.map_snd_zip]; simp
  · intro p hp
    obtain ⟨i, hi, e⟩ := List.getElem_of_mem hp
    simp only [List.getElem_zip, List.getElem_range] at e
    subst e
    simp

theorem dsts_region {n id : Nat} {ops : Array Oper} {draw : Bool} (h : dstsOk n (.region id ops draw) = true) {i : Nat} {o : Oper} (hi : ops[i]? = some o) {d : Nat} (hd : o.dst = some d) : d < n := by
  simp only [dstsOk, List.all_eq_true] at h
  have hm : o ∈ ops.toList := Array.mem_toList_iff.2 (Array.mem_of_getElem? hi)
  have := h o hm
  simpa [hd] using this

theorem wp_loop_of {P : Program} {Q : Exit → Act → World → Prop} {a : Act} {w : World} {c : Code}
    (h : ∀ (b : Frame) (k : List Item) (cs : List Frame), ∃ e a' w', Q e a' w' ∧ Arrives P (lone (b.at a (.code c :: .inLoop c :: k)) cs w) b k cs e a' w') : (Code.loop c).wp P Q a w :=
  fun b k cs => let ⟨e, a', w', q, r⟩ := h b k cs; ⟨e, a', w', q, .of_steps (.one step_loop) r⟩

/-- A round, and then whatever the next ones come to. -/
theorem loop_round {P : Program} {Q : Exit → Act → World → Prop} {a : Act} {w : World} {c : Code}
    (h : c.wp P (Exit.then (fun a w => ∀ (b : Frame) (k : List Item) (cs : List Frame), ∃ e a' w', Q e a' w' ∧ Arrives P (lone (b.at a (.code c :: .inLoop c :: k)) cs w) b k cs e a' w') Q) a w)
    (b : Frame) (k : List Item) (cs : List Frame) : ∃ e a' w', Q e a' w' ∧ Arrives P (lone (b.at a (.code c :: .inLoop c :: k)) cs w) b k cs e a' w' := by
  obtain ⟨e, a₁, w₁, hq, harr⟩ := h b (.inLoop c :: k) cs
  cases e with
  | normal =>
    obtain ⟨e₂, a₂, w₂, hq₂, harr₂⟩ := hq b k cs
    exact ⟨e₂, a₂, w₂, hq₂, .of_steps (Steps.trans harr (.one step_inLoop)) harr₂⟩
  | exit id => exact ⟨_, a₁, w₁, hq, .pass (x := .inLoop c) rfl (fun _ _ => .inl (by simp)) harr⟩
  | goto l => exact ⟨_, a₁, w₁, hq, .pass (x := .inLoop c) rfl (fun _ _ => .inl (by simp)) harr⟩
  | ret => exact ⟨_, a₁, w₁, hq, .pass (x := .inLoop c) rfl (fun _ _ => .inl (by simp)) harr⟩
  | panic ch => exact ⟨_, a₁, w₁, hq, .pass (x := .inLoop c) rfl (fun _ _ => .inl (by simp)) harr⟩
  | outgrown => exact ⟨_, a₁, w₁, hq, .pass (x := .inLoop c) rfl (fun _ _ => .inl (by simp)) harr⟩

/-- Regions that draw: laid in EvL. -/
def DrawOk (E : Env) : Prop := ∀ (C : CallRel), (∀ f args H v H', C f args H v H' → CallOk E f args H v H') → ∀ (f base n id : Nat) (ops : Array Oper) (D : Cert), drawOk ops D = true → dstsOk n (.region id ops true) = true →
  ∀ (fr : Fr) (H : Heap) (K : Fr → Heap → Prop) (a : Act) (w : World) (c : Ctx), drawW E C f base ops (twinPos (D.ord.map (·.2))) (D.ord.filterMap fun p => (ops[p.1]?).map fun o => (o, untwin p.2)) fr H K → FRel c n fr a → Sim c H w → base ≤ H.length →
  ∀ (Q : Exit → Act → World → Prop), (∀ fr' H' c' a' w', K fr' H' → FRel c' n fr' a' → Trans base c H w c' H' w' → Q .normal a' w') → (Code.region id ops true).wp E.P Q a w

theorem wpA_sound {E : Env} (hE : EnvOk E) (hD : DrawOk E) {C : CallRel} (hC : ∀ f args H v H', C f args H v H' → CallOk E f args H v H') {f base n : Nat} : ∀ (code : Code), dstsOk n code = true →
    ∀ {fr : Fr} {H : Heap} {K : Ex → Fr → Heap → Prop} {a : Act} {w : World} {c : Ctx}, wpA E C f base code fr H K → FRel c n fr a → Sim c H w → base ≤ H.length →
    ∀ {Q : Exit → Act → World → Prop}, (∀ e fr' H' c' a' w', K e fr' H' → FRel c' n fr' a' → Trans base c H w c' H' w' → Q (exOf e) a' w') → code.wp E.P Q a w := by
  intro code
  induction code with
  | skip => intro _ fr H K a w c h hf s hb Q hQ; exact wp_skip (hQ _ _ _ _ _ _ h hf (.refl s))
  | region id ops draw =>
    intro hd fr H K a w c h hf s hb Q hQ
    cases draw with
    | false =>
      obtain ⟨fr1, H1, c1, h, hf, ht⟩ := frz_sound _ h hf s
      obtain ⟨l, h1, h2, h3⟩ := range_ops ops
      refine wp_region ?_
      rw [← h1]
      refine wpOpsA_sound (f := f) hE hC l (fun p hp => ⟨h3 p hp, fun d hdd => dsts_region hd (h3 p hp) hdd⟩) (K := fun fr' H' => K .normal (keepA E f id fr') H') ?_ hf ht.sim (Nat.le_trans hb ht.len) fun fr' H' c' a' w' hk h4 h5 => hQ .normal _ _ c' a' w' hk h4.keep (ht.trans h5)
      rw [h2]
      exact h
    | true =>
      obtain ⟨fr1, H1, c1, h, hf, ht⟩ := frz_sound _ h hf s
      obtain ⟨ord, h1, h2⟩ := h
      exact hD C hC f base n id ops ord h1 hd fr1 H1 _ a w c1 h2 hf ht.sim (Nat.le_trans hb ht.len) Q fun fr' H' c' a' w' hk h4 h5 => hQ .normal _ _ c' a' w' hk h4.keep (ht.trans h5)
  | seq x y ihx ihy =>
    intro hd fr H K a w c h hf s hb Q hQ
    simp only [dstsOk, Bool.and_eq_true] at hd
    refine wp_seq (ihx hd.1 h hf s hb fun e fr' H' c' a' w' hk h1 h2 => ?_)
    cases e with
    | normal => exact ihy hd.2 hk h1 h2.sim (Nat.le_trans hb h2.len) fun e2 fr2 H2 c2 a2 w2 h3 h4 h5 => hQ e2 fr2 H2 c2 a2 w2 h3 h4 (h2.trans h5)
    | exit id => exact hQ (.exit id) _ _ c' a' w' hk h1 h2
    | ret => exact hQ .ret _ _ c' a' w' hk h1 h2
  | cond o x y ihx ihy =>
    intro hd fr H K a w c h hf s hb Q hQ
    simp only [dstsOk, Bool.and_eq_true] at hd
    simp only [wpA] at h
    split at h
    · rename_i b he
      have hr := hf.ev o
      rw [he] at hr
      exact wp_cond_split hr.inv_bool (fun hb' => ihx hd.1 (h.1 hb') hf s hb hQ) (fun hb' => ihy hd.2 (h.2 hb') hf s hb hQ)
    · exact h.elim
  | block id x ih =>
    intro hd fr H K a w c h hf s hb Q hQ
    refine wp_block (ih hd h hf s hb fun e fr' H' c' a' w' hk h1 h2 => ?_)
    cases e with
    | normal => exact hQ .normal _ _ c' a' w' hk h1 h2
    | exit id' =>
      simp only [exOf, Exit.inBlock]
      by_cases hid : id' = id
      · simp only [hid, if_true] at hk ⊢; exact hQ .normal _ _ c' a' w' hk h1 h2
      · simp only [hid, if_false] at hk ⊢; exact hQ (.exit id') _ _ c' a' w' hk h1 h2
    | ret => exact hQ .ret _ _ c' a' w' hk h1 h2
  | loop x ih =>
    intro hd fr H K a w c h hf s hb Q hQ
    refine wp_loop_of ?_
    -- whatever world it is come to, as long as it goes on from the one at hand
    let X : Fr → Heap → Prop := fun fr1 H1 => ∀ c1 a1 w1, FRel c1 n fr1 a1 → Trans base c H w c1 H1 w1 → ∀ (b : Frame) (k : List Item) (cs : List Frame), ∃ e a' w', Q e a' w' ∧ Arrives E.P (lone (b.at a1 (.code x :: .inLoop x :: k)) cs w1) b k cs e a' w'
    have hX : X fr H := by
      refine h X fun fr1 H1 h1 c1 a1 w1 hf1 ht1 => ?_
      refine loop_round (ih hd h1 hf1 ht1.sim (Nat.le_trans hb ht1.len) fun e fr' H' c' a' w' hk h2 h3 => ?_)
      cases e with
      | normal => exact hk c' a' w' h2 (ht1.trans h3)
      | exit id => exact hQ (.exit id) _ _ c' a' w' hk h2 (ht1.trans h3)
      | ret => exact hQ .ret _ _ c' a' w' hk h2 (ht1.trans h3)
    exact hX c a w hf (.refl s)
  | exit id => intro _ fr H K a w c h hf s hb Q hQ; exact wp_exit (hQ (.exit id) _ _ _ _ _ h hf (.refl s))
  | ret => intro _ fr H K a w c h hf s hb Q hQ; exact wp_ret (hQ .ret _ _ _ _ _ h hf (.refl s))
  | rangeFunc => intro _ fr H K a w c h; exact h.elim
  | scope => intro _ fr H K a w c h; exact h.elim
  | label => intro _ fr H K a w c h; exact h.elim
  | goto => intro _ fr H K a w c h; exact h.elim
  | refuse => intro _ fr H K a w c h; exact h.elim

/-! ### functions -/
theorem getD_range_zip (args : List AV) (t : Nat) : Fr.get (initFr args) t = args.getD t .undef := by
  have key : ∀ (l : List AV) (k : Nat), Fr.get ((List.range' k l.length).zip l) t = if k ≤ t then l.getD (t - k) .undef else .undef := by
    intro l
    induction l with
    | nil => intro k; simp [Fr.get]
    | cons x l ih =>
      intro k
      simp only [List.length_cons, List.range'_succ, List.zip_cons_cons, Fr.get]
      rw [ih (k + 1)]
      by_cases e : t = k
      · subst e; simp
      · rw [if_neg e]
        by_cases h : k ≤ t
        · have : t - k = (t - (k + 1)) + 1 := by omega
          rw [if_pos (by omega), if_pos h, this]
          simp
        · rw [if_neg (by omega), if_neg h]
  have := key args 0
  unfold initFr
  rw [List.range_eq_range', this]
  simp

theorem initFr_rel {c : Ctx} {args : List AV} {cargs : List Value} (h : LRel c args cargs) {n : Nat} (hn : args.length ≤ n) : FRel c n (initFr args) { tmps := cargs.toArray ++ Array.replicate (n - cargs.toArray.size) undef, defers := [] } := by
  have hl : args.length = cargs.length := h.1
  refine ⟨by simp; omega, fun t => ?_, rfl⟩
  rw [getD_range_zip]
  by_cases ht : t < args.length
  · have := h.2 t ht
    have e : (cargs.toArray ++ Array.replicate (n - cargs.toArray.size) undef).getD t undef = cargs.getD t undef := by
      have ht' : t < cargs.length := by omega
      simp [Array.getD_eq_getD_getElem?, Array.getElem?_append, ht', List.getD_eq_getElem?_getD]
    rw [e]; exact this
  · rw [List.getD_eq_getElem?_getD, List.getElem?_eq_none (by omega)]
    exact .undef _

theorem results_sound {E : Env} (hE : EnvOk E) {c : Ctx} {H : Heap} {w : World} (s : Sim c H w) {n : Nat} {fr : Fr} {a : Act} (hf : FRel c n fr a) : ∀ (rs : List ResultVar) {vs : List AV}, resultsA E fr H rs = some vs →
    ∃ xs, (rs.mapM fun r => (match r with | .tmp t => pure (a.tmps.getD t undef) | .cell p t => do loadVar t (← asAddr (a.tmps.getD p undef)) : Sem Value)).run E.P w = .ok xs w ∧ LRel c vs xs
  | [], vs, h => by
    simp only [resultsA, List.mapM_nil] at h
    cases h
    exact ⟨[], by simp, .nil⟩
  | r :: rs, vs, h => by
    simp only [resultsA, List.mapM_cons] at h
    cases hr : resA E fr H r with
    | none => simp [hr] at h
    | some v =>
      simp only [hr, Option.bind_eq_bind, Option.bind_some] at h
      cases hrs : rs.mapM (resA E fr H) with
      | none => simp [hrs] at h
      | some vs' =>
        simp only [hrs, Option.bind_some] at h
        cases h
        obtain ⟨xs, h1, h2⟩ := results_sound hE s hf rs (vs := vs') hrs
        have hone : ∃ x, (match r with | .tmp t => pure (a.tmps.getD t undef) | .cell p t => do loadVar t (← asAddr (a.tmps.getD p undef)) : Sem Value).run E.P w = .ok x w ∧ VRel c v x := by
          cases r with
          | tmp t =>
            simp only [resA, Option.some.injEq] at hr
            subst hr
            exact ⟨_, rfl, hf.rel t⟩
          | cell p t =>
            simp only [resA] at hr
            cases ht : E.T t with
            | none => simp [ht] at hr
            | some ti =>
              simp only [ht, Option.bind_some] at hr
              obtain ⟨q, y, h3, h4, h5⟩ := s.load hE ht (hf.rel p) hr
              exact ⟨y, by simp only [h3, asAddr, Sem.run_bind, Sem.run_pure, Result.andThen_ok, h4], h5⟩
        obtain ⟨x, h3, h4⟩ := hone
        refine ⟨x :: xs, ?_, .cons h4 h2⟩
        simp only [List.mapM_cons, Sem.run_bind, h3, Result.andThen_ok, h1, Sem.run_pure]

def packV : List Value → Value
  | [x] => x
  | l => .tuple l.toArray

theorem run_results {P : Program} {fn : Func} {a : Act} {w : World} {xs : List Value}
    (h : (fn.results.toList.mapM fun r => (match r with | .tmp t => pure (a.tmps.getD t undef) | .cell p t => do loadVar t (← asAddr (a.tmps.getD p undef)) : Sem Value)).run P w = .ok xs w) :
    (results fn a.tmps).run P w = .ok (packV xs) w := by
  unfold results
  rw [Array.mapM_eq_mapM_toList]
  simp only [Sem.run_bind, Sem.run_map]
  refine Eq.trans (congrArg (fun r : Result (List Value) => (r.andThen fun a w' => Result.ok a.toArray w').andThen fun a w' => Sem.run P (pure (if h : a.size = 1 then a[0] else Value.tuple a)) w') h) ?_
  simp only [Result.andThen_ok, Sem.run_pure]
  congr 1
  split
  · rename_i hs
    match xs, hs with
    | [x], _ => rfl
  · rename_i hs
    match xs, hs with
    | [], _ => rfl
    | [x], hs => exact absurd rfl hs
    | x :: y :: l, _ => rfl

theorem LRel.pack {c : Ctx} {vs : List AV} {xs : List Value} (h : LRel c vs xs) : VRel c (packA vs) (packV xs) := by
  match vs, xs, h with
  | [], [], h => exact VRel.tup' h
  | [v], [x], h => obtain ⟨y, r, e, h1, h2⟩ := h.head; cases e; exact h1
  | v :: v2 :: vs, x :: x2 :: xs, h => exact VRel.tup' h
  | [], _ :: _, h => exact absurd h.1 (by simp)
  | [_], [], h => exact absurd h.1 (by simp)
  | [_], _ :: _ :: _, h => exact absurd h.1 (by simp)
  | _ :: _ :: _, [], h => exact absurd h.1 (by simp)
  | _ :: _ :: _, [_], h => exact absurd h.1 (by simp)
end Go.Proofs.YtoncolpkpgbfiaaDoor

/- The interpreter is sound: what a function hands out; whole calls. -/
set_option linter.unusedSimpArgs false
set_option linter.unusedVariables false
namespace Go.Proofs.YtoncolpkpgbfiaaDoor

/-- All names in the heap are below its length. -/
theorem Sim.closed {c : Ctx} {H : Heap} {w : World} (s : Sim c H w) : HClosed H.length H := by
  intro id b hl _ x hx
  obtain ⟨bk, hm, hb⟩ := s.blk id b hl
  match bk, hb with
  | none, hb => rw [show b.cells = [] from hb] at hx; cases hx
  | some (k, sz), ⟨cs, T, _, _, _, hr⟩ =>
    obtain ⟨i, hi, e⟩ := mem_getD hx .undef
    have := hr.2 i hi
    rw [e] at this
    exact this.names s.dom

/-- A block of the machine's that stands behind one of the call's own. -/
def OwnedFrom (c : Ctx) (H : Heap) (base k : Nat) : Prop := ∃ id v s, base ≤ id ∧ (∃ x, liveAt H id x) ∧ c.m id = some (v, some (k, s))
def rowOf (w : World) (k : Nat) : Option (List Value) :=
  match w.heap[k]? with
  | some (.cells cs _ _) => some cs.toList
  | _ => none
/-- Behind a call: its own blocks are lists that nobody writes any more. -/
noncomputable def Ctx.fin (c : Ctx) (base : Nat) (H : Heap) (w : World) : Ctx :=
  { z := fun b => @ite _ (OwnedFrom c H base b) (Classical.propDecidable _) (rowOf w b) (c.z b), m := fun id => if id < base then c.m id else none }
theorem Ctx.fin_pos {c : Ctx} {base : Nat} {H : Heap} {w : World} {k : Nat} (h : OwnedFrom c H base k) : (c.fin base H w).z k = rowOf w k := if_pos h
theorem Ctx.fin_neg {c : Ctx} {base : Nat} {H : Heap} {w : World} {k : Nat} (h : ¬ OwnedFrom c H base k) : (c.fin base H w).z k = c.z k := if_neg h

theorem Ctx.ext_fin {c : Ctx} {base : Nat} {H : Heap} {w : World} (s : Sim c H w) : Ext (c.res base) (c.fin base H w) := by
  refine ⟨fun b cs hz => ?_, fun id v bk hm => ⟨v, bk, hm, .inl ⟨rfl, rfl⟩⟩⟩
  have hz' : c.z b = some cs := hz
  rw [Ctx.fin_neg]
  · exact hz'
  · rintro ⟨id, v, sz, _, _, hm⟩
    rw [s.disj _ _ _ _ hm] at hz'
    cases hz'

theorem VRel.fin {c : Ctx} {base : Nat} {H : Heap} {w : World} (s : Sim c H w) {v : AV} {x : Value} (h : VRel c v x) (hb : Nmd base v) : VRel (c.fin base H w) v x := (h.res hb).mono (Ctx.ext_fin s)

theorem Ctx.fin_z {c : Ctx} {base : Nat} {H : Heap} {w : World} {id v b sz : Nat} (hb : base ≤ id) {x : Blk} (hl : liveAt H id x) (hm : c.m id = some (v, some (b, sz))) {cs : Array Value} {T : TypeId} {fz : Nat × Nat}
    (hk : w.heap[b]? = some (.cells cs T fz)) : (c.fin base H w).z b = some cs.toList := by
  rw [Ctx.fin_pos ⟨id, v, sz, hb, ⟨x, hl⟩, hm⟩]
  simp [rowOf, hk]

mutual
theorem Fin1.rel {c : Ctx} {base : Nat} {H : Heap} {w : World} (s : Sim c H w) {v v' : AV} {x : Value} : Fin1 base H v v' → VRel c v x → VRel (c.fin base H w) v' x
  | .same v hb, h => h.fin s hb
  | .sl id ver off len cap esz b hbase hblk hpl hlen, h => by
    obtain ⟨hlive, hver⟩ := blkAt_some hblk
    rcases s.sl h hblk with ⟨k, sz, cs, T, cap', rfl, h1, h2, h3, hm, hk, rfl, hle, hr⟩ | ⟨rfl, rfl, rfl, rfl, hcells, hm⟩
    · have hz := Ctx.fin_z (w := w) hbase hlive hm hk
      have hl : ((b.cells.drop off).take (len * esz)).length = len * esz := by simp; omega
      refine .lst _ _ _ _ _ _ (by omega) hz (by rw [hl]; simp; omega) fun i hi => ?_
      rw [hl] at hi
      have h4 := hr.2 (off + i) (by omega)
      have e1 : ((b.cells.drop off).take (len * esz)).getD i .undef = b.cells.getD (off + i) .undef := by
        rw [List.getD_eq_getElem?_getD, List.getElem?_take, if_pos hi, List.getElem?_drop, ← List.getD_eq_getElem?_getD]
      have e2 : (cs.toList.take b.cells.length).getD (off + i) undef = cs.toList.getD (off + i) undef := by
        rw [List.getD_eq_getElem?_getD, List.getElem?_take, if_pos (by omega), ← List.getD_eq_getElem?_getD]
      rw [e1, ← e2]
      have h5 := h4.res (hpl _ (getD_mem (by omega)))
      exact h5.mono (Ext.res0 (c := c) (c' := c.fin base H w) (Ctx.ext_fin (base := base) s).z)
    · rw [hcells]
      simpa using VRel.lst0 none 0
  | .agg l l' hl, h => by
    obtain ⟨cs, rfl, hr⟩ := h.inv_agg
    exact VRel.agg' (FinL.rel s hl hr)
  | .rows id ver off len cap esz b cells hbase hblk hf hpl hlen, h => by
    obtain ⟨hlive, hver⟩ := blkAt_some hblk
    rcases s.sl h hblk with ⟨k, sz, cs, T, cap', rfl, h1, h2, h3, hm, hk, rfl, hle, hr⟩ | ⟨rfl, rfl, rfl, rfl, hcells, hm⟩
    · have hz := Ctx.fin_z (w := w) hbase hlive hm hk
      have hl : ((b.cells.drop off).take (len * esz)).length = len * esz := by simp; omega
      have hfr := FinL.rel s hf (xs := (cs.toList.drop off).take (len * esz)) ⟨by simp; omega, fun i hi => by
        rw [hl] at hi
        have h4 := hr.2 (off + i) (by omega)
        have e1 : ((b.cells.drop off).take (len * esz)).getD i .undef = b.cells.getD (off + i) .undef := by
          rw [List.getD_eq_getElem?_getD, List.getElem?_take, if_pos hi, List.getElem?_drop, ← List.getD_eq_getElem?_getD]
        have e2 : (cs.toList.take b.cells.length).getD (off + i) undef = ((cs.toList.drop off).take (len * esz)).getD i undef := by
          rw [List.getD_eq_getElem?_getD, List.getElem?_take, if_pos (by omega), List.getD_eq_getElem?_getD, List.getElem?_take, if_pos hi, List.getElem?_drop]
        rw [e1, ← e2]
        exact h4⟩
      have hcl : cells.length = len * esz := by rw [hfr.1]; simp; omega
      refine .lst _ _ _ _ _ _ (by omega) hz (by rw [hcl]; simp; omega) fun i hi => ?_
      have h5 := (hfr.2 i hi).res (hpl _ (getD_mem hi))
      rw [hcl] at hi
      have e3 : ((cs.toList.drop off).take (len * esz)).getD i undef = cs.toList.getD (off + i) undef := by
        rw [List.getD_eq_getElem?_getD, List.getElem?_take, if_pos hi, List.getElem?_drop, ← List.getD_eq_getElem?_getD]
      rw [← e3]
      exact h5
    · rw [hcells] at hf
      have : cells = [] := by
        have hfr := FinL.rel s hf (xs := []) ⟨by simp, fun i hi => by simp at hi⟩
        exact List.length_eq_zero_iff.1 (by rw [hfr.1]; rfl)
      rw [this]
      simpa using VRel.lst0 none 0
theorem FinL.rel {c : Ctx} {base : Nat} {H : Heap} {w : World} (s : Sim c H w) {l l' : List AV} {xs : List Value} : FinL base H l l' → LRel c l xs → LRel (c.fin base H w) l' xs
  | .nil, h => ⟨h.1, fun i hi => by simp at hi⟩
  | .cons v v' l l' h1 h2, h => by
    obtain ⟨x, r, rfl, hx, hr⟩ := h.head
    exact .cons (Fin1.rel s h1 hx) (FinL.rel s h2 hr)
end

theorem liveAt_take {H : Heap} {n id : Nat} {b : Blk} (h : liveAt (H.take n) id b) : liveAt H id b ∧ id < n := by
  unfold liveAt at h ⊢
  rw [List.getElem?_take] at h
  split at h
  · exact ⟨h, by assumption⟩
  · cases h

theorem Trans.fin {c c1 : Ctx} {H H1 : Heap} {w w1 : World} (h : Trans H.length c H w c1 H1 w1) (s : Sim c H w) : Trans H.length c H w (c1.fin H.length H1 w1) (H1.take H.length) w1 := by
  have s1 := h.sim
  have hcl := h.closed H.length (Nat.le_refl _) s.closed
  have hx := Ctx.ext_fin (base := H.length) s1
  have hmm : ∀ id p, (c1.fin H.length H1 w1).m id = some p → id < H.length ∧ c1.m id = some p := by
    intro id p hm
    have : (if id < H.length then c1.m id else none) = some p := hm
    split at this
    · exact ⟨by assumption, this⟩
    · cases this
  refine ⟨⟨fun b cs hz => ?_, fun id v bk hm => ?_⟩, ⟨?_, ?_, ?_, ?_, ?_, ?_, fun b cs h => hx.z _ _ (s1.glob b cs h)⟩, h.grow, h.unch, ?_, ?_, ?_, ?_, h.alike⟩
  · exact hx.z _ _ (h.ext.z _ _ hz)
  · obtain ⟨v', bk', h1, h2⟩ := h.ext.m _ _ _ hm
    refine ⟨v', bk', ?_, h2⟩
    show (if _ then _ else _) = _
    rw [if_pos (s.dom _ _ hm)]
    exact h1
  · intro id p hm
    have := (hmm id p hm).1
    have := h.len
    simp; omega
  · intro id b hl
    obtain ⟨hl1, hid⟩ := liveAt_take hl
    obtain ⟨bk, h1, h2⟩ := s1.blk id b hl1
    refine ⟨bk, ?_, ?_⟩
    · show (if _ then _ else _) = _
      rw [if_pos hid]; exact h1
    · match bk, h2 with
      | none, h2 => exact h2
      | some (k, sz), ⟨cs, T, h3, h4, h5, h6⟩ =>
        refine ⟨cs, T, h3, h4, h5, h6.1, fun i hi => ?_⟩
        exact (h6.2 i hi).fin s1 (hcl id b hl1 hid _ (getD_mem hi))
  · intro i j v v' k sz sz' hi hj
    exact s1.inj _ _ _ _ _ _ _ (hmm _ _ hi).2 (hmm _ _ hj).2
  · intro id v k sz hm
    obtain ⟨hid, hm1⟩ := hmm _ _ hm
    rw [Ctx.fin_neg]
    · exact s1.disj _ _ _ _ hm1
    · rintro ⟨id', v', sz', hb', _, hm'⟩
      have := s1.inj _ _ _ _ _ _ _ hm1 hm'
      omega
  · intro id v k sz hm
    exact s1.bnd _ _ _ _ (hmm _ _ hm).2
  · intro b cs hz
    by_cases ho : OwnedFrom c1 H1 H.length b
    · rw [Ctx.fin_pos ho] at hz
      unfold rowOf at hz
      split at hz
      · rename_i l T fz hl
        cases hz
        exact ⟨T, fz, by simpa using hl⟩
      · cases hz
    · rw [Ctx.fin_neg ho] at hz
      exact s1.froz _ _ hz
  · intro b ⟨id, v, sz, h2⟩
    exact h.back b ⟨id, v, sz, (hmm _ _ h2).2⟩
  · intro b cs hz
    by_cases ho : OwnedFrom c1 H1 H.length b
    · obtain ⟨id, v, sz, _, _, hm⟩ := ho
      exact .inr (h.back b ⟨id, v, sz, hm⟩)
    · rw [Ctx.fin_neg ho] at hz
      exact h.zback b cs hz
  · have := h.len; simp; omega
  · intro n hn hc i b hl hin x hx'
    exact h.closed n hn hc i b (liveAt_take hl).1 hin x hx'

theorem step_sound {E : Env} (hE : EnvOk E) (hD : DrawOk E) {f : FuncId} {args : List AV} {H : Heap} {v : AV} {H' : Heap} (h : Step E (CallOk E) f args H v H') : CallOk E f args H v H' := by
  obtain ⟨fn, code, h1, h2, h3, h4, h5⟩ := h
  simp only [fnOk, Bool.and_eq_true, Bool.not_eq_true'] at h3
  refine ⟨⟨fn, h1, by simp [h2], h3.2⟩, fun c w cargs s ha => ?_⟩
  refine calls_of_wp h1 h2 (wpA_sound hE hD (fun _ _ _ _ _ h => h) code h3.1 h5 (initFr_rel ha h4) s (Nat.le_refl _) fun e fr1 H1 c1 a1 w1 hk hf ht => ?_)
  have key : a1.defers = [] ∧ ∃ x, (results fn a1.tmps).run E.P w1 = .ok x w1 ∧ (∃ c' y, Ending.returned x = .returned y ∧ VRel c' v y ∧ Trans H.length c H w c' H' w1) := by
    obtain ⟨_, vs, hr, hfin⟩ := hk
    obtain ⟨xs, h6, h7⟩ := results_sound hE ht.sim hf _ hr
    refine ⟨hf.defers, _, run_results h6, ?_⟩
    split at hfin
    · obtain ⟨rfl, rfl⟩ := hfin
      exact ⟨c1, _, rfl, h7.pack, ht⟩
    · obtain ⟨vs', h8, rfl, rfl⟩ := hfin
      exact ⟨_, _, rfl, (FinL.rel (w := w1) ht.sim h8 h7).pack, ht.fin s⟩
  cases e with
  | normal => exact key
  | ret => exact key
  | exit id => exact hk.1.elim

/-- **A call of the interpreter's is one of the machine's.** -/
theorem Call.ok {E : Env} (hE : EnvOk E) (hD : DrawOk E) (hG : ∀ f args v, E.given f args v → ∀ H, CallOk E f args H v H) {f : FuncId} {args : List AV} {H : Heap} {v : AV} {H' : Heap} (h : Call E f args H v H') : CallOk E f args H v H' :=
  h (CallOk E) (fun _ _ _ _ _ hs => step_sound hE hD hs) fun f args H v hg => hG f args v hg H
end Go.Proofs.YtoncolpkpgbfiaaDoor

/- The interpreter is sound: regions that draw their order. -/
set_option linter.unusedSimpArgs false
set_option linter.unusedVariables false
namespace Go.Proofs.YtoncolpkpgbfiaaDoor

/-! ### frames that hold the same -/
def FE (fr fr' : Fr) : Prop := ∀ t, fr.get t = fr'.get t
theorem FE.ev {fr fr' : Fr} (h : FE fr fr') : fr.ev = fr'.ev := by
  funext o; cases o with
  | tmp t => exact h t
  | _ => rfl
theorem FE.put {fr fr' : Fr} (h : FE fr fr') (d : Option Nat) (v : AV) : FE (fr.put d v) (fr'.put d v) := by
  cases d with
  | none => exact h
  | some d => intro t; simp only [Fr.put, Fr.get]; split
              · rfl
              · exact h t
theorem FE.comm {fr : Fr} {d d' : Option Nat} {v v' : AV} (h : ∀ x, d = some x → d' ≠ some x) : FE ((fr.put d v).put d' v') ((fr.put d' v').put d v) := by
  cases d with
  | none => intro t; rfl
  | some d =>
    cases d' with
    | none => intro t; rfl
    | some d' =>
      have hne : d ≠ d' := fun e => h d rfl (by rw [e])
      intro t
      simp only [Fr.put, Fr.get]
      by_cases h1 : t = d'
      · subst h1
        rw [if_pos rfl, if_neg (fun e => hne e.symm), if_pos rfl]
      · rw [if_neg h1, if_neg h1]
theorem FRel.fe {c : Ctx} {n : Nat} {fr fr' : Fr} {a : Act} (h : FRel c n fr a) (he : FE fr fr') : FRel c n fr' a := ⟨h.size, fun t => he t ▸ h.rel t, h.defers⟩
theorem get_put_ne {fr : Fr} {d : Option Nat} {v : AV} {t : Nat} (h : d ≠ some t) : (fr.put d v).get t = fr.get t := by
  cases d with
  | none => rfl
  | some d => simp only [Fr.put, Fr.get]; rw [if_neg (fun e => h (by rw [e]))]

/-- An operation looks at its operands alone. -/
theorem ev_map_congr {fr fr' : Fr} {l : List Operand} (h : ∀ x ∈ l, fr.ev x = fr'.ev x) : l.map fr.ev = l.map fr'.ev := List.map_congr_left h
theorem parts_congr {fr fr' : Fr} {l : List (Nat × Operand)} (h : ∀ x ∈ l.map (·.2), fr.ev x = fr'.ev x) : (l.map fun p => (p.1, fr.ev p.2)) = (l.map fun p => (p.1, fr'.ev p.2)) :=
  List.map_congr_left fun p hp => by rw [h p.2 (List.mem_map.2 ⟨p, hp, rfl⟩)]
theorem boundA_congr {fr fr' : Fr} {d : Int} {o : Option Operand} (h : ∀ x, o = some x → fr.ev x = fr'.ev x) : boundA fr d o = boundA fr' d o := by
  cases o with
  | none => rfl
  | some x => simp only [boundA, h x rfl]
theorem sliceA_congr {H : Heap} {fr fr' : Fr} {k : TK} {x : AV} {lo hi : Option Operand} (h1 : ∀ y, lo = some y → fr.ev y = fr'.ev y) (h2 : ∀ y, hi = some y → fr.ev y = fr'.ev y) : sliceA H fr k x lo hi = sliceA H fr' k x lo hi := by
  unfold sliceA
  split <;> simp only [boundA_congr h1, boundA_congr h2]
theorem opA_congr {E : Env} {f : Nat} {dst : Option Nat} {ty : TypeId} {fr fr' : Fr} {H : Heap} {op : Op} (h : ∀ x ∈ op.operands, fr.ev x = fr'.ev x) : opA E f dst ty fr H op = opA E f dst ty fr' H op := by
  cases op <;> simp only [Op.operands] at h <;> simp only [opA]
  case move x => rw [h x (by simp)]
  case assign x => rw [h x (by simp)]
  case pick a b c => rw [h a (by simp), h b (by simp), h c (by simp)]
  case box t x => rw [h x (by simp)]
  case build t ps => rw [parts_congr fun x hx => h x (by simpa using hx)]
  case buildSlice t n ps => rw [parts_congr fun x hx => h x (by simpa using hx)]
  case load t x => rw [h x (by simp)]
  case nilCheck x => rw [h x (by simp)]
  case binOp op t x y u => rw [h x (by simp), h y (by simp)]
  case unOp op t x => rw [h x (by simp)]
  case convert t u x => rw [h x (by simp)]
  case makeInterface t x => rw [h x (by simp)]
  case makeFunc fn first caps =>
    cases fn <;> simp only
    rw [ev_map_congr fun x hx => h x (by simp at hx ⊢; exact .inr hx)]
  case sliceToArrayPointer t x => rw [h x (by simp)]
  case makeSlice t l m => rw [h l (by simp), h m (by simp)]
  case slice t x lo hi mx =>
    cases mx with
    | some m => rfl
    | none =>
      simp only
      rw [h x (by simp)]
      congr 1
      funext k
      rw [sliceA_congr (fun y e => h y (by subst e; simp)) (fun y e => h y (by subst e; simp))]
  case fieldAddr t x i => rw [h x (by simp)]
  case field t x i => rw [h x (by simp)]
  case indexAddr t x i => rw [h x (by simp), h i (by simp)]
  case index t x i => rw [h x (by simp), h i (by simp)]
  case extract x i => rw [h x (by simp)]

theorem call_operands_args {c : Go.Call} {x : Operand} (h : x ∈ c.args.toList) : x ∈ (Op.call c).operands := by
  simp only [Op.operands, Call.operands, Array.mem_append]
  exact .inr (Array.mem_toList_iff.1 h)
theorem call_operands_value {c : Go.Call} {g : Operand} (h : c.callee = .value g) : g ∈ (Op.call c).operands := by
  simp only [Op.operands, Call.operands, h, Array.mem_append]
  exact .inl (by simp)

theorem stepO_congr {E : Env} {f : Nat} {o : Oper} {fr fr' : Fr} {H : Heap} (h : ∀ x ∈ o.op.operands, fr.ev x = fr'.ev x) : stepO E f o fr H = stepO E f o fr' H := by
  unfold stepO
  split
  · rename_i c hc
    rw [hc] at h
    split
    · rename_i g hg
      rw [h g (call_operands_value hg), ev_map_congr fun x hx => h x (call_operands_args hx)]
    · rw [ev_map_congr fun x hx => h x (call_operands_args hx)]
    · rfl
  · exact opA_congr h
theorem stepA_congr {E : Env} {C : CallRel} {f base : Nat} {o : Oper} {fr fr' : Fr} {H : Heap} {K : AV → Heap → Prop} (h : ∀ x ∈ o.op.operands, fr.ev x = fr'.ev x) : stepA E C f base o fr H K = stepA E C f base o fr' H K := by
  unfold stepA
  split
  · rename_i c hc
    rw [hc] at h
    split
    · rename_i g hg
      rw [h g (call_operands_value hg), ev_map_congr fun x hx => h x (call_operands_args hx)]
    · rw [ev_map_congr fun x hx => h x (call_operands_args hx)]
    · rfl
  · rename_i t a x hc
    rw [hc] at h
    simp only [Op.operands] at h
    rw [h a (by simp), h x (by simp)]
  · rw [opA_congr h]
theorem freshA_congr {E : Env} {fr fr' : Fr} {n : Nat} {op : Op} (h : ∀ x ∈ op.operands, fr.ev x = fr'.ev x) : freshA E fr n op = freshA E fr' n op := by
  cases op
  case call c =>
    simp only [freshA]
    split
    · rw [ev_map_congr fun x hx => h x (call_operands_args hx)]
    · rfl
  all_goals (simp only [Op.operands] at h; simp only [freshA])
  case box t x => rw [h x (by simp)]
  case makeSlice t l c => rw [h l (by simp), h c (by simp)]
theorem growO_congr {fr fr' : Fr} {op : Op} (h : ∀ x ∈ op.operands, fr.ev x = fr'.ev x) : growO op fr = growO op fr' := by
  unfold growO
  split
  · split
    · rw [ev_map_congr fun x hx => h x (call_operands_args hx)]
    · rfl
  · rfl
theorem lookAt_mem {op : Op} {a : Operand} (h : lookAt op = some a) : a ∈ op.operands := by
  cases op <;> simp only [lookAt, Option.some.injEq, reduceCtorEq] at h <;> subst h <;> simp [Op.operands]
theorem lookO_congr {c : Bool} {fr fr' : Fr} {H : Heap} {op : Op} (h : ∀ x ∈ op.operands, fr.ev x = fr'.ev x) : lookO c op fr H = lookO c op fr' H := by
  unfold lookO
  split
  · rename_i a ha; rw [h a (lookAt_mem ha)]
  · rfl
theorem tagThen_congr {E : Env} {C : CallRel} {f base : Nat} {o : Oper} {tag : Tag} {fr fr' : Fr} {H : Heap} {K : AV → Heap → Prop} (h : ∀ x ∈ o.op.operands, fr.ev x = fr'.ev x) : tagThen E C f base o tag fr H K = tagThen E C f base o tag fr' H K := by
  unfold tagThen
  split
  · exact stepA_congr h
  · unfold pureA; rw [stepO_congr h]
  · rw [stepA_congr h]
  · rw [freshA_congr h]
  · rw [stepA_congr h, growO_congr h]
  · rw [stepA_congr h, lookO_congr h]
  · rw [stepA_congr h]
  · rw [stepA_congr h, lookO_congr h]
  · rw [stepA_congr h]
  · rfl
  · rw [stepA_congr h, growO_congr h, freshA_congr h]
theorem guardA_congr {all : Array Oper} {fr fr' : Fr} {g : Option (Nat × Bool)} (h : ∀ p d, g = some p → (all[p.1]?).bind (·.dst) = some d → fr.get d = fr'.get d) : guardA all fr g = guardA all fr' g := by
  unfold guardA
  split
  · rfl
  · rename_i j want
    split
    · rename_i d hd; rw [h (j, want) d rfl hd]
    · rfl

/-! ### one operation, as a relation -/
def Run1 (E : Env) (C : CallRel) (f base : Nat) (all : Array Oper) (o : Oper) (tag : Tag) (fr : Fr) (H : Heap) (x : AV) (H' : Heap) : Prop :=
  (guardA all fr o.guard = some true ∧ tagThen E C f base o tag fr H fun v H1 => v = x ∧ H1 = H') ∨ (guardA all fr o.guard = some false ∧ x = .tup [] ∧ H' = H)

theorem stepA_ex {E : Env} {C : CallRel} {f base : Nat} {o : Oper} {fr : Fr} {H : Heap} {K : AV → Heap → Prop} (h : stepA E C f base o fr H K) : ∃ v H', stepA E C f base o fr H (fun v1 H1 => v1 = v ∧ H1 = H') ∧ K v H' := by
  unfold stepA at h
  split at h
  · rename_i c hc
    split at h
    · rename_i g hg
      unfold fnThen at h
      split at h
      · rename_i hh caps he
        split at h
        · rename_i v hv
          refine ⟨v, H, ?_, h⟩
          unfold stepA; simp only [hc, hg]; unfold fnThen; simp only [he, hv]; exact ⟨trivial, trivial⟩
        · rename_i hv
          obtain ⟨v, H', h1, h2⟩ := h
          refine ⟨v, H', ?_, h2⟩
          unfold stepA; simp only [hc, hg]; unfold fnThen; simp only [he, hv]; exact ⟨v, H', h1, rfl, rfl⟩
      · exact h.elim
    · rename_i b hg
      obtain ⟨hm, h⟩ := h
      unfold someThen at h
      split at h
      · rename_i v H' hv
        refine ⟨v, H', ?_, h⟩
        unfold stepA; simp only [hc, hg]; refine ⟨hm, ?_⟩; unfold someThen; simp only [hv]; exact ⟨trivial, trivial⟩
      · exact h.elim
    · exact h.elim
  · rename_i t a x hc
    split at h
    · rename_i ti ht
      unfold storeThen at h
      split at h
      · rename_i id vs H' hst
        refine ⟨.tup [], H', ?_, h.2⟩
        unfold stepA; simp only [hc, ht]; unfold storeThen; simp only [hst]; exact ⟨h.1, trivial, trivial⟩
      · exact h.elim
    · exact h.elim
  · rename_i h1 h2
    unfold someThen at h
    split at h
    · rename_i v H' hv
      refine ⟨v, H', ?_, h⟩
      unfold stepA
      split
      · rename_i c hc; exact absurd hc (h1 c)
      · rename_i t a x hc; exact absurd hc (h2 t a x)
      · unfold someThen; simp only [hv]; exact ⟨trivial, trivial⟩
    · exact h.elim
theorem tagThen_ex {E : Env} {C : CallRel} {f base : Nat} {o : Oper} {tag : Tag} {fr : Fr} {H : Heap} {K : AV → Heap → Prop} (h : tagThen E C f base o tag fr H K) : ∃ v H', tagThen E C f base o tag fr H (fun v1 H1 => v1 = v ∧ H1 = H') ∧ K v H' := by
  unfold tagThen at h
  split at h
  · obtain ⟨v, H', h1, h2⟩ := stepA_ex h
    exact ⟨v, H', h1, h2⟩
  · split at h
    · rename_i v hv
      exact ⟨v, H, by unfold tagThen; simp only [hv]; exact ⟨trivial, trivial⟩, h⟩
    · exact h.elim
  · obtain ⟨v, H', h1, h2, h3⟩ := stepA_ex h.2
    refine ⟨v, H', ⟨h.1, stepA_mono (fun _ _ _ _ _ h => h) (fun v1 H1 h4 => ?_) h1⟩, h3⟩
    obtain ⟨rfl, rfl⟩ := h4
    exact ⟨h2, rfl, rfl⟩
  · split at h
    · rename_i v b hv
      exact ⟨v, H ++ [some b], by unfold tagThen; simp only [hv]; exact ⟨trivial, trivial⟩, h⟩
    · exact h.elim
  · obtain ⟨v, H', h1, h2⟩ := stepA_ex h.2
    exact ⟨v, H', ⟨h.1, h1⟩, h2⟩
  · obtain ⟨v, H', h1, h2, h3⟩ := stepA_ex h.2
    refine ⟨v, H', ⟨h.1, stepA_mono (fun _ _ _ _ _ h => h) (fun v1 H1 h4 => ?_) h1⟩, h3⟩
    obtain ⟨rfl, rfl⟩ := h4
    exact ⟨h2, rfl, rfl⟩
  · obtain ⟨v, H', h1, h2, h3⟩ := stepA_ex h.2
    refine ⟨v, H', ⟨h.1, stepA_mono (fun _ _ _ _ _ h => h) (fun v1 H1 h4 => ?_) h1⟩, h3⟩
    obtain ⟨rfl, rfl⟩ := h4
    exact ⟨h2, rfl, rfl⟩
  · obtain ⟨v, H', h1, h2, h3⟩ := stepA_ex h.2
    refine ⟨v, H', ⟨h.1, stepA_mono (fun _ _ _ _ _ h => h) (fun v1 H1 h4 => ?_) h1⟩, h3⟩
    obtain ⟨rfl, rfl⟩ := h4
    exact ⟨h2, rfl, rfl⟩
  · obtain ⟨v, H', h1, h2, h3⟩ := stepA_ex h
    refine ⟨v, H', stepA_mono (fun _ _ _ _ _ h => h) (fun v1 H1 h4 => ?_) h1, h3⟩
    obtain ⟨rfl, rfl⟩ := h4
    exact ⟨h2, rfl, rfl⟩
  · exact h.elim
  · split at h
    · rename_i hg
      obtain ⟨v, H', h1, h2⟩ := stepA_ex h
      exact ⟨v, H', by unfold tagThen; simp only [if_pos hg]; exact h1, h2⟩
    · rename_i hg
      split at h
      · rename_i v b hv
        exact ⟨v, H ++ [some b], by unfold tagThen; simp only [if_neg hg, hv]; exact ⟨trivial, trivial⟩, h⟩
      · exact h.elim
theorem wpOpsA_iff {E : Env} {C : CallRel} {f base : Nat} {all : Array Oper} {o : Oper} {tag : Tag} {l : List (Oper × Tag)} {fr : Fr} {H : Heap} {K : Fr → Heap → Prop} :
    wpOpsA E C f base all ((o, tag) :: l) fr H K ↔ ∃ x H', Run1 E C f base all o tag fr H x H' ∧ wpOpsA E C f base all l (fr.put o.dst x) H' K := by
  constructor
  · intro h
    simp only [wpOpsA] at h
    split at h
    · rename_i hg
      obtain ⟨v, H', h1, h2⟩ := tagThen_ex h
      exact ⟨v, H', .inl ⟨hg, h1⟩, h2⟩
    · rename_i hg
      exact ⟨_, H, .inr ⟨hg, rfl, rfl⟩, h⟩
    · exact h.elim
  · rintro ⟨x, H', ⟨hg, h1⟩ | ⟨hg, rfl, rfl⟩, h2⟩
    · simp only [wpOpsA, hg]
      refine tagThen_mono (fun _ _ _ _ _ h => h) (fun v1 H1 h3 => ?_) h1
      obtain ⟨rfl, rfl⟩ := h3
      exact h2
    · simp only [wpOpsA, hg]
      exact h2

/-- The temporaries that an operation looks at. -/
theorem looks_ops {all : Array Oper} {o : Oper} {t : Nat} (h : Operand.tmp t ∈ o.op.operands) : t ∈ o.looksAt all := by
  unfold Oper.looksAt
  refine List.mem_append.2 (.inl (List.mem_filterMap.2 ⟨.tmp t, Array.mem_toList_iff.2 h, rfl⟩))
theorem looks_guard {all : Array Oper} {o : Oper} {p : Nat × Bool} {d : Nat} (hg : o.guard = some p) (hd : (all[p.1]?).bind (·.dst) = some d) : d ∈ o.looksAt all := by
  unfold Oper.looksAt
  refine List.mem_append.2 (.inr ?_)
  rw [hg]
  simp only [hd]
  simp

theorem Run1.congr {E : Env} {C : CallRel} {f base : Nat} {all : Array Oper} {o : Oper} {tag : Tag} {fr fr' : Fr} {H : Heap} {x : AV} {H' : Heap} (he : ∀ t ∈ o.looksAt all, fr.get t = fr'.get t) (h : Run1 E C f base all o tag fr H x H') :
    Run1 E C f base all o tag fr' H x H' := by
  have h1 : ∀ y ∈ o.op.operands, fr.ev y = fr'.ev y := by
    intro y hy
    cases y with
    | tmp t => exact he t (looks_ops hy)
    | _ => rfl
  have h2 : guardA all fr o.guard = guardA all fr' o.guard := guardA_congr fun p d hg hd => he d (looks_guard hg hd)
  rcases h with ⟨hg, ht⟩ | ⟨hg, hx⟩
  · exact .inl ⟨h2 ▸ hg, tagThen_congr h1 ▸ ht⟩
  · exact .inr ⟨h2 ▸ hg, hx⟩

/-- Up to frames that hold the same. -/
def upto (K : Fr → Heap → Prop) (fr : Fr) (H : Heap) : Prop := ∃ fr2, FE fr2 fr ∧ K fr2 H
theorem wpOpsA_fe {E : Env} {C : CallRel} {f base : Nat} {all : Array Oper} : ∀ (l : List (Oper × Tag)) {fr fr' : Fr} {H : Heap} {K : Fr → Heap → Prop}, FE fr fr' → wpOpsA E C f base all l fr H (upto K) → wpOpsA E C f base all l fr' H (upto K)
  | [], fr, fr', H, K, he, ⟨fr2, h1, h2⟩ => ⟨fr2, fun t => (h1 t).trans (he t), h2⟩
  | (o, tag) :: l, fr, fr', H, K, he, h => by
    obtain ⟨x, H', h1, h2⟩ := wpOpsA_iff.1 h
    exact wpOpsA_iff.2 ⟨x, H', h1.congr fun t _ => he t, wpOpsA_fe l (he.put _ _) h2⟩

/-! ### what a pure operation does, it does with any heap; a quiet one with a block more -/
theorem blkAt_nil (id ver : Nat) : blkAt [] id ver = none := by simp [blkAt]
theorem opA_pure {E : Env} {f : Nat} {dst : Option Nat} {ty : TypeId} {fr : Fr} {op : Op} {v : AV} (h : opA E f dst ty fr [] op = some (v, [])) (H : Heap) : opA E f dst ty fr H op = some (v, H) := by
  cases op <;> simp only [opA, reduceCtorEq] at h ⊢
  case move x =>
    unfold moveA at h ⊢
    split at h
    · split at h
      · split at h <;> simp at h
      · simp only [Option.some.injEq, Prod.mk.injEq] at h; rename_i hno; simp only [hno]; simp [h.1]
    · rename_i hne
      simp only [Option.some.injEq, Prod.mk.injEq] at h
      simp [h.1]
  case assign x =>
    unfold moveA at h ⊢
    split at h
    · split at h
      · split at h <;> simp at h
      · simp only [Option.some.injEq, Prod.mk.injEq] at h; rename_i hno; simp only [hno]; simp [h.1]
    · rename_i hne
      simp only [Option.some.injEq, Prod.mk.injEq] at h
      simp [h.1]
  case pick a b c =>
    obtain ⟨t, e1, _, e2⟩ := pickA_spec h
    unfold pickA at h ⊢
    rw [e1] at h ⊢
    split at h <;> simp_all
  case alloc t => cases hT : E.T t <;> simp [hT] at h
  case box t x => cases hx : (fr.ev x).cells? <;> simp [hx] at h
  case build t ps =>
    cases hT : E.T t with
    | none => simp [hT] at h
    | some ti =>
      simp only [hT, Option.bind_some] at h ⊢
      cases hb : buildA ti (ps.toList.map fun p => (p.1, fr.ev p.2)) <;> simp_all
  case buildSlice t n ps =>
    cases hk : E.kd t with
    | none => simp [hk] at h
    | some k =>
      simp only [hk, Option.bind_some] at h ⊢
      unfold buildSliceA at h ⊢
      split at h
      · rename_i e esz eb ez
        cases hf : (if n * esz ≤ 16777216 then fillA esz (zeros ez n) (ps.toList.map fun p => (p.1, fr.ev p.2)) else none) with
        | none => rw [hf] at h; simp at h
        | some cs =>
          rw [hf] at h
          simp only [hf, Option.bind_some] at h ⊢
          split at h
          · simp at h
          · rename_i hno
            rw [if_neg hno]
            split at h
            · rename_i hp; rw [if_pos hp]; simp at h; simp [h]
            · simp at h
      · simp at h
  case load t x =>
    cases hT : E.T t with
    | none => simp [hT] at h
    | some ti =>
      simp only [hT, Option.bind_some] at h ⊢
      cases hx : fr.ev x <;> simp only [hx, loadA, blkAt_nil, Option.bind_none, Option.map_none, reduceCtorEq] at h ⊢
      rename_i cs off
      cases hr : readAt ti cs off <;> simp_all
  case nilCheck x => cases hx : nilCheckA (fr.ev x) <;> simp_all
  case binOp op t x y u => cases hx : binB E t (isConst x || isConst y) op (fr.ev x) (fr.ev y) <;> simp_all
  case unOp op t x => cases hx : unA op (fr.ev x) <;> simp_all
  case convert t u x =>
    cases hk : E.kd t with
    | none => simp [hk] at h
    | some k =>
      cases hk' : E.kd u with
      | none => simp [hk, hk'] at h
      | some k' =>
        simp only [hk, hk', Option.bind_some] at h ⊢
        cases hx : convertA k k' (fr.ev x) <;> simp_all
  case makeInterface t x =>
    cases hk : E.kd t with
    | none => simp [hk] at h
    | some k =>
      simp only [hk, Option.bind_some] at h ⊢
      cases hx : makeInterfaceA k t (fr.ev x) <;> simp_all
  case makeFunc fn first caps =>
    cases fn <;> simp only [reduceCtorEq] at h ⊢
    split at h
    · rename_i hs; rw [if_pos hs]; simp at h; simp [h]
    · simp at h
  case sliceToArrayPointer t x =>
    cases hk : E.kd t with
    | none => simp [hk] at h
    | some k =>
      simp only [hk, Option.bind_some] at h ⊢
      cases hx : arrayAtA k (fr.ev x) <;> simp_all
  case makeSlice t l m =>
    cases hk : E.kd t with
    | none => simp [hk] at h
    | some k =>
      simp only [hk, Option.bind_some] at h
      unfold makeSliceA at h
      split at h
      · split at h <;> simp at h
      · simp at h
  case slice t x lo hi mx =>
    cases mx with
    | some m => simp at h
    | none =>
      simp only at h ⊢
      cases hk : E.kd t with
      | none => simp [hk] at h
      | some k =>
        simp only [hk, Option.bind_some] at h ⊢
        have : ∀ u, sliceA [] fr k (fr.ev x) lo hi = some u → sliceA H fr k (fr.ev x) lo hi = some u := by
          intro u hu
          unfold sliceA at hu ⊢
          split at hu
          · simp only [blkAt_nil, Option.bind_none] at hu
            cases boundA fr 0 lo <;> simp at hu
          · exact hu
          · exact hu
          · exact hu
          · cases hu
        cases hx : sliceA [] fr k (fr.ev x) lo hi with
        | none => simp [hx] at h
        | some u => rw [this u hx]; simp [hx] at h; simp [h]
  case fieldAddr t x i =>
    cases hk : E.kd t with
    | none => simp [hk] at h
    | some k =>
      simp only [hk, Option.bind_some] at h ⊢
      cases hx : fieldAddrA k (fr.ev x) i <;> simp_all
  case field t x i =>
    cases hk : E.kd t with
    | none => simp [hk] at h
    | some k =>
      simp only [hk, Option.bind_some] at h ⊢
      cases hx : fieldA k (fr.ev x) i <;> simp_all
  case indexAddr t x i =>
    cases hk : E.kd t with
    | none => simp [hk] at h
    | some k =>
      simp only [hk, Option.bind_some] at h ⊢
      cases hx : indexAddrA k (fr.ev x) (fr.ev i) <;> simp_all
  case index t x i =>
    cases hk : E.kd t with
    | none => simp [hk] at h
    | some k =>
      simp only [hk, Option.bind_some] at h ⊢
      cases hx : indexA k (fr.ev x) (fr.ev i) <;> simp_all
  case extract x i => cases hx : extractA (fr.ev x) i <;> simp_all

theorem builtinA_pure {E : Env} {b : Builtin} {ts : List TypeId} {args : List AV} {v : AV} (h : builtinA E b ts args [] = some (v, [])) (base : Nat) (H : Heap) : mayAppend base b args H ∧ builtinA E b ts args H = some (v, H) := by
  unfold builtinA at h
  split at h
  · rename_i x
    refine ⟨by simp [mayAppend], ?_⟩
    unfold builtinA
    simp only
    cases h0 : ts[0]? with
    | none => simp [h0] at h
    | some t =>
      simp only [h0, Option.bind_some] at h ⊢
      cases hk : E.kd t with
      | none => simp [hk] at h
      | some k =>
        simp only [hk, Option.bind_some] at h ⊢
        cases hl : lenOfA k x <;> simp_all
  · refine ⟨by simp [mayAppend], ?_⟩
    unfold builtinA
    split at h <;> simp_all
  · refine ⟨by simp [mayAppend], ?_⟩
    unfold builtinA
    split at h <;> simp_all
  · refine ⟨by simp [mayAppend], ?_⟩
    unfold builtinA
    split at h
    · rename_i hc; simp only [if_pos hc]; simp at h; simp [h]
    · simp at h
  · refine ⟨by simp [mayAppend], ?_⟩
    unfold builtinA
    split at h
    · rename_i hc; simp only [if_pos hc]; simp at h; simp [h]
    · simp at h
  · exfalso
    rename_i s x
    cases h0 : ts[0]? with
    | none => simp [h0] at h
    | some t =>
      simp only [h0, Option.bind_some] at h
      cases hk : E.kd t with
      | none => simp [hk] at h
      | some k =>
        simp only [hk, Option.bind_some] at h
        unfold copyA at h
        split at h
        · cases hn : lenA x with
          | none => simp [hn] at h
          | some n =>
            simp only [hn, Option.bind_some] at h
            rename_i e esz bytes ez id ver off len cap es
            cases hc : sliceCells [] n esz x with
            | none => simp [hc] at h
            | some cs =>
              simp [hc, blkAt_nil] at h
        · simp at h
  · exfalso
    rename_i s x
    cases h0 : ts[0]? with
    | none => simp [h0] at h
    | some t =>
      simp only [h0, Option.bind_some] at h
      cases hk : E.kd t with
      | none => simp [hk] at h
      | some k =>
        simp only [hk, Option.bind_some] at h
        cases h1 : ts[1]? with
        | none => simp [h1] at h
        | some u =>
          simp only [h1, Option.bind_some] at h
          cases hk2 : E.kd u with
          | none => simp [hk2] at h
          | some k2 =>
            simp only [hk2, Option.bind_some] at h
            split at h
            · unfold appendA at h
              split at h
              · cases hn : lenA x with
                | none => simp [hn] at h
                | some n =>
                  simp only [hn, Option.bind_some] at h
                  rename_i e esz bytes ez
                  cases hc : sliceCells [] n esz x with
                  | none => simp [hc] at h
                  | some cs =>
                    simp only [hc, Option.bind_some] at h
                    split at h
                    · split at h <;> simp at h
                    · simp [blkAt_nil] at h
                    · simp at h
              · simp at h
            · simp at h
  · simp at h

/-- A pure operation, carried out with any heap. -/
theorem pure_step {E : Env} {C : CallRel} {f base : Nat} {o : Oper} {fr : Fr} {v : AV} (h : pureA E f o fr = some v) (H : Heap) : stepA E C f base o fr H (fun v1 H1 => v1 = v ∧ H1 = H) := by
  unfold pureA at h
  split at h
  · rename_i v' hs
    cases h
    unfold stepO at hs
    unfold stepA
    split at hs
    · rename_i c hc
      try simp only [hc]
      split at hs
      · rename_i g hg
        try simp only [hg]
        unfold fnThen
        split at hs
        · rename_i hh caps he
          simp only [he]
          cases hx : E.ext hh (c.args.toList.map fr.ev ++ caps) with
          | none => simp [hx] at hs
          | some u => simp only [hx, Option.map_some, Option.some.injEq, Prod.mk.injEq] at hs; exact ⟨hs.1, trivial⟩
        · cases hs
      · rename_i b hg
        try simp only [hg]
        obtain ⟨h1, h2⟩ := builtinA_pure hs base H
        refine ⟨h1, ?_⟩
        rw [h2]
        exact ⟨rfl, rfl⟩
      · cases hs
    · rename_i hno
      split
      · rename_i c hc; exact absurd hc (hno c)
      · rename_i t a x hc; rw [hc] at hs; simp [opA] at hs
      · rw [opA_pure hs H]; exact ⟨rfl, rfl⟩
  · cases h

theorem append_nils {E : Env} {ts : List TypeId} {x r : AV} {H1 : Heap} (hx : x = .nils ∨ ∃ l m, x = .lst l m) (h : builtinA E .append ts [.nils, x] [] = some (r, H1)) :
    ∃ ver len cap esz b, r = .sl 0 ver 0 len cap esz ∧ H1 = [some b] ∧ ∀ H, builtinA E .append ts [.nils, x] H = some (.sl H.length ver 0 len cap esz, H ++ [some b]) := by
  unfold builtinA at h ⊢
  cases t0 : ts[0]? with
  | none => simp [t0] at h
  | some t =>
    cases k0 : E.kd t with
    | none => simp [t0, k0] at h
    | some k =>
      cases t1 : ts[1]? with
      | none => simp [t0, k0, t1] at h
      | some t' =>
        cases k1 : E.kd t' with
        | none => simp [t0, k0, t1, k1] at h
        | some k2 =>
          simp only [t0, k0, t1, k1, Option.bind_some] at h ⊢
          split at h
          · rename_i hk2
            unfold appendA at h
            split at h
            · rename_i e es bytes ez
              cases hn : lenA x with
              | none => simp [hn] at h
              | some n =>
                simp only [hn, Option.bind_some] at h
                cases hsc : sliceCells [] n es x with
                | none => simp [hsc] at h
                | some cs =>
                  simp only [hsc, Option.bind_some] at h
                  split at h
                  · rename_i hcond
                    simp only [Option.some.injEq, Prod.mk.injEq] at h
                    obtain ⟨rfl, rfl⟩ := h
                    refine ⟨n, n, n, es, ⟨cs, n⟩, rfl, rfl, fun H => ?_⟩
                    have hsc' : sliceCells H n es x = some cs := by
                      rcases hx with rfl | ⟨l, m, rfl⟩ <;> exact hsc
                    rw [if_pos hk2]
                    unfold appendA
                    simp only [hn, Option.bind_some, hsc']
                    rw [if_pos hcond]
                  · cases h
            · cases h
          · cases h

theorem fresh_app {E : Env} {n : Nat} {ts : List TypeId} {l : List AV} {v : AV} {b : Blk} (h : freshApp E n ts l = some (v, b)) :
    ∃ x, l = [.nils, x] ∧ ∀ H : Heap, H.length = n → builtinA E .append ts l H = some (v, H ++ [some b]) := by
  unfold freshApp at h
  split at h
  · rename_i l m
    split at h
    · rename_i h1
      simp only [Option.some.injEq, Prod.mk.injEq] at h
      obtain ⟨rfl, rfl⟩ := h
      obtain ⟨ver, len, cap, esz, b', e1, e2, h3⟩ := append_nils (.inr ⟨l, m, rfl⟩) h1
      cases e1; cases e2
      exact ⟨_, rfl, fun H hH => by rw [h3 H, hH]⟩
    · cases h
  · split at h
    · rename_i h1
      simp only [Option.some.injEq, Prod.mk.injEq] at h
      obtain ⟨rfl, rfl⟩ := h
      obtain ⟨ver, len, cap, esz, b', e1, e2, h3⟩ := append_nils (.inl rfl) h1
      cases e1; cases e2
      exact ⟨_, rfl, fun H hH => by rw [h3 H, hH]⟩
    · cases h
  · cases h

theorem makeSlice_fresh (H : Heap) (k : TK) (l c : AV) : makeSliceA H k l c = (freshMk H.length k l c).map fun p => (p.1, H ++ [some p.2]) := by
  unfold makeSliceA freshMk
  split
  · split <;> rfl
  · rfl
theorem fresh_step {E : Env} {C : CallRel} {f base : Nat} {o : Oper} {fr : Fr} {H : Heap} {v : AV} {b : Blk} (h : freshA E fr H.length o.op = some (v, b)) : stepA E C f base o fr H (fun v1 H1 => v1 = v ∧ H1 = H ++ [some b]) := by
  unfold stepA
  cases hop : o.op <;> simp only [hop, freshA, reduceCtorEq] at h
  case call c =>
    split at h
    · rename_i hc
      obtain ⟨x, hl, hb⟩ := fresh_app h
      simp only [hc]
      rw [hb H rfl]
      refine ⟨?_, rfl, rfl⟩
      rw [hl]
      trivial
    · cases h
  case alloc t =>
    simp only [opA]
    cases hT : E.T t with
    | none => simp [hT] at h
    | some ti =>
      simp only [hT, Option.map_some, Option.some.injEq, Prod.mk.injEq] at h ⊢
      exact ⟨h.1, by rw [← h.2]⟩
  case box t x =>
    simp only [opA]
    cases hc : (fr.ev x).cells? with
    | none => simp [hc] at h
    | some cs =>
      simp only [hc, Option.map_some, Option.some.injEq, Prod.mk.injEq] at h ⊢
      exact ⟨h.1, by rw [← h.2]⟩
  case makeSlice t l c =>
    simp only [opA]
    cases hk : E.kd t with
    | none => simp [hk] at h
    | some k =>
      simp only [hk, Option.bind_some] at h ⊢
      rw [makeSlice_fresh, h]
      exact ⟨rfl, rfl⟩

/-- However it is tagged, it is carried out. -/
theorem tag_step {E : Env} {C : CallRel} {f base : Nat} {o : Oper} {tag : Tag} {fr : Fr} {H : Heap} {x : AV} {H' : Heap} (h : tagThen E C f base o tag fr H (fun v1 H1 => v1 = x ∧ H1 = H')) : stepA E C f base o fr H (fun v1 H1 => v1 = x ∧ H1 = H') := by
  unfold tagThen at h
  split at h
  · exact h
  · split at h
    · rename_i v hv
      obtain ⟨rfl, rfl⟩ := h
      exact pure_step hv _
    · exact h.elim
  · exact stepA_mono (fun _ _ _ _ _ h => h) (fun v1 H1 h => h.2) h.2
  · split at h
    · rename_i v b hv
      obtain ⟨rfl, rfl⟩ := h
      exact fresh_step hv
    · exact h.elim
  · exact h.2
  · exact stepA_mono (fun _ _ _ _ _ h => h) (fun v1 H1 h => h.2) h.2
  · exact stepA_mono (fun _ _ _ _ _ h => h) (fun v1 H1 h => h.2) h.2
  · exact stepA_mono (fun _ _ _ _ _ h => h) (fun v1 H1 h => h.2) h.2
  · exact stepA_mono (fun _ _ _ _ _ h => h) (fun v1 H1 h => h.2) h
  · exact h.elim
  · split at h
    · exact h
    · split at h
      · rename_i v b hv
        obtain ⟨rfl, rfl⟩ := h
        exact fresh_step hv
      · exact h.elim

/-- What a frame and a heap stand for somewhere. -/
def Real (base n : Nat) (fr : Fr) (H : Heap) : Prop := base ≤ H.length ∧ ∃ c a w, FRel c n fr a ∧ Sim c H w
theorem Real.names {base n : Nat} {fr : Fr} {H : Heap} (h : Real base n fr H) : HClosed H.length H ∧ ∀ t, Nmd H.length (fr.get t) := by
  obtain ⟨_, c, a, w, hf, s⟩ := h
  exact ⟨s.closed, fun t => (hf.rel t).names s.dom⟩

theorem wp_ex {P : Program} {o : Oper} {a : Act} {w : World} {next : Act → World → Prop} (h : o.wp P a w next (fun _ _ _ => False)) : ∃ a' w', next a' w' := by
  unfold Oper.wp at h
  generalize (execOp a.eval o).run P w = r at h
  cases r with
  | ok n w' =>
    cases n <;> simp only [Oper.upon] at h
    case value v => exact ⟨_, _, h⟩
    case skip => exact ⟨_, _, h⟩
    case defer d => exact ⟨_, _, h⟩
    case enter f args =>
      obtain ⟨e, w2, fr, hR, _⟩ := h []
      cases e with
      | returned v => exact ⟨_, _, hR⟩
      | panicked c => exact hR.elim
      | outgrown => obtain ⟨a, w, hf⟩ := hR; exact hf.elim
    case row r args =>
      obtain ⟨v, w2, hR, _⟩ := h default []
      exact ⟨_, _, hR⟩
  | halt x w' => cases x <;> simp only [Oper.upon] at h

theorem Real.step {E : Env} (hE : EnvOk E) {C : CallRel} (hC : ∀ f args H v H', C f args H v H' → CallOk E f args H v H') {f base n : Nat} {all : Array Oper} {o : Oper} {tag : Tag} {fr : Fr} {H : Heap} {x : AV} {H' : Heap} (hr : Real base n fr H) (hd : ∀ d, o.dst = some d → d < n)
    (h : Run1 E C f base all o tag fr H x H') : Real base n (fr.put o.dst x) H' := by
  obtain ⟨hb, c, a, w, hf, s⟩ := hr
  rcases h with ⟨_, ht⟩ | ⟨_, rfl, rfl⟩
  · obtain ⟨a', w', hb', c', hf', s'⟩ := wp_ex (stepA_sound hE hC s hb hf (tag_step ht) (next := fun a' w' => base ≤ H'.length ∧ ∃ c', FRel c' n (fr.put o.dst x) a' ∧ Sim c' H' w') (Q := fun _ _ _ => False) fun v H1 c' y w' hk hv htr => by
      obtain ⟨rfl, rfl⟩ := hk
      exact ⟨Nat.le_trans hb htr.len, c', (hf.mono htr.ext).put hd hv, htr.sim⟩)
    exact ⟨hb', c', a', w', hf', s'⟩
  · exact ⟨hb, c, _, w, hf.put (x := undef) hd (VRel.tup' (l := []) (l' := []) .nil), s⟩

theorem blkAt_old {H : Heap} {b : Option Blk} {id ver : Nat} {x : Blk} (h : blkAt H id ver = some x) : blkAt (H ++ [b]) id ver = some x := by
  obtain ⟨h1, h2⟩ := blkAt_some h
  have := blkAt_of (liveAt_old (b := b) h1)
  rw [h2] at this; exact this

theorem CallOk.extend {E : Env} {f : FuncId} {args : List AV} {H H' : Heap} {v : AV} (h : CallOk E f args H v H') (hlen : H'.length = H.length) (hcl : HClosed H.length H) (ha : ∀ x ∈ args, Nmd H.length x) (b : Blk) : CallOk E f args (H ++ [some b]) v (H' ++ [some b]) := by
  refine ⟨h.1, fun c w cargs s hl => ?_⟩
  have s1 : Sim (c.res H.length) H w := by
    refine ⟨fun id p hm => ?_, fun id x hx => ?_, fun id id' v v' k s1 s2 h1 h2 => ?_, fun id v k sz hm => ?_, fun id v k sz hm => ?_, s.froz, s.glob⟩
    · have : (if id < H.length then c.m id else none) = some p := hm
      split at this
      · assumption
      · cases this
    · obtain ⟨bk, h1, h2⟩ := s.blk id x (liveAt_old hx)
      have hid := liveAt_lt hx
      refine ⟨bk, by simpa [Ctx.res, hid] using h1, ?_⟩
      match bk, h2 with
      | none, h2 => exact h2
      | some (k, sz), ⟨cs, T, h3, h4, h5, h6⟩ => exact ⟨cs, T, h3, h4, h5, h6.1, fun i hi => (h6.2 i hi).res (hcl id x hx hid _ (getD_mem hi))⟩
    · simp only [Ctx.res] at h1 h2
      split at h1 <;> split at h2 <;> first | exact s.inj _ _ _ _ _ _ _ h1 h2 | (rename_i e1 e2; first | cases h1 | cases h2)
    · simp only [Ctx.res] at hm
      split at hm
      · exact s.disj _ _ _ _ hm
      · cases hm
    · simp only [Ctx.res] at hm
      split at hm
      · exact s.bnd _ _ _ _ hm
      · cases hm
  have hl1 : LRel (c.res H.length) args cargs := ⟨hl.1, fun i hi => (hl.2 i hi).res (ha _ (getD_mem hi))⟩
  refine (h.2 _ w cargs s1 hl1).mono fun e w' he => ?_
  obtain ⟨c', x, rfl, hv, ht⟩ := he
  let c2 : Ctx := { z := c'.z, m := fun id => if id < H.length then c'.m id else c.m id }
  have hm1 : ∀ id, id < H.length → c2.m id = c'.m id := fun id hid => if_pos hid
  have hm2 : ∀ id, ¬ id < H.length → c2.m id = c.m id := fun id hid => if_neg hid
  have hx2 : Ext c' c2 := ⟨fun _ _ h => h, fun id v bk hm => ⟨v, bk, by rw [hm1 id (hlen ▸ ht.sim.dom _ _ hm)]; exact hm, .inl ⟨rfl, rfl⟩⟩⟩
  have hxc : Ext c c2 := by
    refine ⟨fun k cs hz => ht.ext.z _ _ hz, fun id v bk hm => ?_⟩
    by_cases hid : id < H.length
    · obtain ⟨v', bk', h1, h2⟩ := ht.ext.m id v bk (by simpa [Ctx.res, hid] using hm)
      exact ⟨v', bk', by rw [hm1 id hid]; exact h1, h2⟩
    · exact ⟨v, bk, by rw [hm2 id hid]; exact hm, .inl ⟨rfl, rfl⟩⟩
  have hold : ∀ k, Owned c' k → Owned c k ∨ w.heap.size ≤ k := by
    intro k hk
    rcases ht.back k hk with ⟨id, v, sz, hm⟩ | h1
    · simp only [Ctx.res] at hm
      split at hm
      · exact .inl ⟨id, v, sz, hm⟩
      · cases hm
    · exact .inr h1
  -- what stands behind the further blocks is not what the call went over
  have hout : ∀ id v k sz, ¬ id < H.length → c.m id = some (v, some (k, sz)) → ¬ Owned (c.res H.length) k := by
    rintro id v k sz hid hm ⟨id', v', sz', hm'⟩
    simp only [Ctx.res] at hm'
    split at hm'
    · rename_i hlt
      have := s.inj _ _ _ _ _ _ _ hm hm'
      omega
    · cases hm'
  refine ⟨c2, x, rfl, hv.mono hx2, ⟨hxc, ⟨?_, ?_, ?_, ?_, ?_, ?_, ht.sim.glob⟩, ht.grow, ?_, ?_, ?_, by simp [hlen], ?_, ht.alike⟩⟩
  · intro id p hm
    by_cases hid : id < H.length
    · simp; omega
    · rw [hm2 id hid] at hm; have := s.dom _ _ hm; simp at this ⊢; omega
  · intro id y hy
    rcases liveAt_append hy with h1 | ⟨rfl, h1⟩
    · have hid : id < H.length := hlen ▸ liveAt_lt h1
      obtain ⟨bk, h2, h3⟩ := ht.sim.blk id y h1
      exact ⟨bk, by rw [hm1 id hid]; exact h2, h3.mono hx2 fun k sz e => rfl⟩
    · rw [hlen] at hy ⊢
      obtain ⟨bk, h2, h3⟩ := s.blk H.length y (by unfold liveAt; rw [List.getElem?_append_right (Nat.le_refl _), Nat.sub_self, h1]; rfl)
      refine ⟨bk, by rw [hm2 _ (by omega)]; exact h2, h3.mono hxc fun k sz e => ?_⟩
      subst e
      exact ht.unch k (s.bnd _ _ _ _ h2) (hout _ _ _ _ (by omega) h2)
  · intro id id' v v' k sz sz' h1 h2
    by_cases hid : id < H.length <;> by_cases hid' : id' < H.length
    · rw [hm1 id hid] at h1; rw [hm1 id' hid'] at h2; exact ht.sim.inj _ _ _ _ _ _ _ h1 h2
    · exfalso
      rw [hm1 id hid] at h1; rw [hm2 id' hid'] at h2
      rcases ht.back k ⟨id, v, sz, h1⟩ with h3 | h3
      · exact hout _ _ _ _ hid' h2 h3
      · have := s.bnd _ _ _ _ h2; omega
    · exfalso
      rw [hm2 id hid] at h1; rw [hm1 id' hid'] at h2
      rcases ht.back k ⟨id', v', sz', h2⟩ with h3 | h3
      · exact hout _ _ _ _ hid h1 h3
      · have := s.bnd _ _ _ _ h1; omega
    · rw [hm2 id hid] at h1; rw [hm2 id' hid'] at h2; exact s.inj _ _ _ _ _ _ _ h1 h2
  · intro id v k sz hm
    by_cases hid : id < H.length
    · rw [hm1 id hid] at hm; exact ht.sim.disj _ _ _ _ hm
    · rw [hm2 id hid] at hm
      show c'.z k = none
      cases hz : c'.z k with
      | none => rfl
      | some l =>
        exfalso
        rcases ht.zback k l hz with h3 | h3 | h3
        · have := s.disj _ _ _ _ hm; rw [show c.z k = some l from h3] at this; cases this
        · exact hout _ _ _ _ hid hm h3
        · have := s.bnd _ _ _ _ hm; omega
  · intro id v k sz hm
    by_cases hid : id < H.length
    · rw [hm1 id hid] at hm; exact ht.sim.bnd _ _ _ _ hm
    · rw [hm2 id hid] at hm; have := s.bnd _ _ _ _ hm; have := ht.grow; omega
  · exact ht.sim.froz
  · intro k hk hn
    exact ht.unch k hk fun ⟨id, v, sz, hm⟩ => by
      simp only [Ctx.res] at hm
      split at hm
      · exact hn ⟨id, v, sz, hm⟩
      · cases hm
  · rintro k ⟨id, v, sz, hm⟩
    by_cases hid : id < H.length
    · rw [hm1 id hid] at hm; exact hold k ⟨id, v, sz, hm⟩
    · rw [hm2 id hid] at hm; exact .inl ⟨id, v, sz, hm⟩
  · intro k cs hz
    rcases ht.zback k cs hz with h3 | ⟨id, v, sz, hm⟩ | h3
    · exact .inl h3
    · simp only [Ctx.res] at hm
      split at hm
      · exact .inr (.inl ⟨id, v, sz, hm⟩)
      · cases hm
    · exact .inr (.inr h3)
  · intro n hn hc id y hy hid
    rcases liveAt_append hy with h1 | ⟨rfl, h1⟩
    · have hid1 : id < H.length := hlen ▸ liveAt_lt h1
      by_cases hn1 : n ≤ H.length
      · exact ht.closed n hn1 (fun id y hl hi => hc id y (liveAt_old hl) hi) id y h1 hid
      · exact fun x hx => (ht.closed H.length (Nat.le_refl _) hcl id y h1 hid1 x hx).mono (by omega)
    · rw [hlen] at hid
      exact hc H.length y (by unfold liveAt; rw [List.getElem?_append_right (Nat.le_refl _), Nat.sub_self, h1]; rfl) hid

theorem loadA_old {ti : TI} {H : Heap} {b : Option Blk} {x v : AV} (h : loadA ti H x = some v) : loadA ti (H ++ [b]) x = some v := by
  unfold loadA at h ⊢
  split at h
  · rename_i id ver off
    cases hb : blkAt H id ver with
    | none => simp [hb] at h
    | some y => simp only [hb, Option.bind_some] at h; simp only [blkAt_old hb, Option.bind_some]; exact h
  · exact h
  · cases h
theorem sliceA_old {H : Heap} {b : Option Blk} {fr : Fr} {k : TK} {x v : AV} {lo hi : Option Operand} (h : sliceA H fr k x lo hi = some v) : sliceA (H ++ [b]) fr k x lo hi = some v := by
  unfold sliceA at h ⊢
  split at h
  · rename_i n esz ag id ver off
    cases h1 : boundA fr 0 lo with
    | none => simp [h1] at h
    | some l =>
      cases h2 : boundA fr (n : Int) hi with
      | none => simp [h1, h2] at h
      | some r =>
        simp only [h1, h2, Option.bind_some] at h ⊢
        cases hb : blkAt H id ver with
        | none => simp [hb] at h
        | some y => simp only [hb, Option.bind_some] at h; simp only [blkAt_old hb, Option.bind_some]; exact h
  · exact h
  · exact h
  · exact h
  · cases h

theorem quiet_extend {E : Env} {f base n : Nat} {o : Oper} {fr : Fr} {H H' : Heap} {x : AV} (hq : quietOp o.op = true) (hr : Real base n fr H) (h : stepA E (CallOk E) f base o fr H (fun v1 H1 => v1 = x ∧ H1 = H')) (hlen : H'.length = H.length) (b : Blk) :
    stepA E (CallOk E) f base o fr (H ++ [some b]) (fun v1 H1 => v1 = x ∧ H1 = H' ++ [some b]) := by
  obtain ⟨hcl, hnm⟩ := hr.names
  have hev : ∀ y, Nmd H.length (fr.ev y) := by
    intro y
    obtain ⟨_, c, a, w, hf, s⟩ := hr
    exact (hf.ev y).names s.dom
  unfold stepA at h ⊢
  cases hop : o.op <;> simp only [hop, quietOp, Bool.false_eq_true] at hq
  case load t a =>
    simp only [hop, opA] at h ⊢
    cases hT : E.T t with
    | none => simp [hT, someThen] at h
    | some ti =>
      simp only [hT, Option.bind_some] at h ⊢
      cases hl : loadA ti H (fr.ev a) with
      | none => simp [hl, someThen] at h
      | some v =>
        simp only [hl, Option.map_some, someThen] at h
        simp only [loadA_old hl, Option.map_some, someThen]
        exact ⟨h.1, by rw [h.2]⟩
  case slice t y lo hi mx =>
    simp only [hop] at h ⊢
    cases mx with
    | some m => simp [opA, someThen] at h
    | none =>
      simp only [opA] at h ⊢
      cases hk : E.kd t with
      | none => simp [hk, someThen] at h
      | some k =>
        simp only [hk, Option.bind_some] at h ⊢
        cases hl : sliceA H fr k (fr.ev y) lo hi with
        | none => simp [hl, someThen] at h
        | some v =>
          simp only [hl, Option.map_some, someThen] at h
          simp only [sliceA_old hl, Option.map_some, someThen]
          exact ⟨h.1, by rw [h.2]⟩
  case call c =>
    simp only [hop] at h ⊢
    cases hc : c.callee with
    | invoke r m => simp [hc] at hq
    | builtin b => simp [hc] at hq
    | value g =>
      simp only [hc] at h ⊢
      unfold fnThen at h ⊢
      split at h
      · rename_i hh caps he
        split at h
        · rename_i v hv; exact ⟨h.1, by rw [h.2]⟩
        · rename_i hv
          obtain ⟨v, H2, h1, h2, h3⟩ := h
          subst h2 h3
          refine ⟨v, _, CallOk.extend h1 hlen hcl (fun y hy => ?_) b, rfl, rfl⟩
          rcases List.mem_append.1 hy with h4 | h4
          · obtain ⟨z, _, rfl⟩ := List.mem_map.1 h4
            exact hev z
          · have := hev g
            rw [he] at this
            cases this with
            | fn _ _ hx => exact hx y h4
      · exact h.elim

/-- What an append to a slice of one's own does, it does with any heap that has its block. -/
theorem grow_spec {E : Env} {C : CallRel} {f base : Nat} {o : Oper} {fr : Fr} {H : Heap} {x : AV} {H' : Heap} (h : tagThen E C f base o .grow fr H (fun v1 H1 => v1 = x ∧ H1 = H')) :
    ∃ id ver off len cap esz y b cs n g, 0 < n ∧ g ∈ o.op.operands ∧ fr.ev g = .sl id ver off len cap esz ∧ blkAt H id ver = some b ∧ H' = H.set id (some ⟨b.cells ++ cs, ver + n⟩) ∧ x = y ∧
      ∀ G, blkAt G id ver = some b → tagThen E C f base o .grow fr G (fun v1 H1 => v1 = x ∧ H1 = G.set id (some ⟨b.cells ++ cs, ver + n⟩)) := by
  obtain ⟨hg, hs⟩ := h
  have hg0 := hg
  unfold growO at hg
  split at hg
  · rename_i c hop
    split at hg
    · rename_i hc
      have hex : ∃ g1 g2, c.args.toList = [g1, g2] := by
        match c.args.toList, hg with
        | [], hg => simp [growV] at hg
        | [_], hg => simp [growV] at hg
        | [g1, g2], _ => exact ⟨g1, g2, rfl⟩
        | _ :: _ :: _ :: _, hg => simp [growV] at hg
      obtain ⟨g1, g2, ha⟩ := hex
      · simp only [ha, List.map_cons, List.map_nil] at hg
        match h1 : fr.ev g1, h2 : fr.ev g2, hg with
        | .sl id ver off len cap esz, .lst cells n, hg =>
          simp only [h1, h2, growV, decide_eq_true_eq] at hg
          have hmem : g1 ∈ o.op.operands := by
            rw [hop]
            exact call_operands_args (by rw [ha]; simp)
          unfold stepA at hs
          simp only [hop, hc, ha, List.map_cons, List.map_nil, h1, h2] at hs
          obtain ⟨hm, hs⟩ := hs
          unfold someThen at hs
          split at hs
          · rename_i v H1 hb
            obtain ⟨rfl, rfl⟩ := hs
            have hb0 := hb
            unfold builtinA at hb
            cases t0 : c.argTypes.toList[0]? with
            | none => simp [t0] at hb
            | some t =>
              cases k0 : E.kd t with
              | none => simp [t0, k0] at hb
              | some k =>
                cases t1 : c.argTypes.toList[1]? with
                | none => simp [t0, k0, t1] at hb
                | some t' =>
                  cases k1 : E.kd t' with
                  | none => simp [t0, k0, t1, k1] at hb
                  | some k2 =>
                    simp only [t0, k0, t1, k1, Option.bind_some] at hb
                    split at hb
                    · rename_i hk2
                      unfold appendA at hb
                      split at hb
                      · rename_i e es bytes ez
                        simp only [lenA, Option.bind_some] at hb
                        cases hsc : sliceCells H n es (.lst cells n) with
                        | none => simp [hsc] at hb
                        | some cs =>
                          simp only [hsc, Option.bind_some] at hb
                          cases hblk : blkAt H id ver with
                          | none => simp [hblk] at hb
                          | some b =>
                            simp only [hblk, Option.bind_some] at hb
                            split at hb
                            · rename_i hcond
                              simp only [Option.some.injEq, Prod.mk.injEq] at hb
                              obtain ⟨rfl, rfl⟩ := hb
                              refine ⟨id, ver, off, len, cap, esz, _, b, cs, n, g1, hg, hmem, h1, hblk, rfl, rfl, fun G hG => ⟨hg0, ?_⟩⟩
                              unfold stepA
                              simp only [hop, hc, ha, List.map_cons, List.map_nil, h1, h2]
                              refine ⟨?_, ?_⟩
                              · rcases hm with hm | hm
                                · exact .inl hm
                                · exact .inr fun n' e' cs' hcs => hm n' e' cs' hcs
                              · unfold builtinA
                                simp only [t0, k0, t1, k1, Option.bind_some, hk2, if_true]
                                unfold appendA
                                have hsc' : sliceCells G n es (.lst cells n) = some cs := hsc
                                simp only [lenA, Option.bind_some, hsc', hG]
                                rw [if_pos hcond]
                                exact ⟨rfl, rfl⟩
                            · cases hb
                      · cases hb
                    · cases hb
          · exact hs.elim
    · cases hg
  · cases hg

/-! ### what looks at no tally, and what changes nothing but tallies -/
theorem tallyAt_blk {H : Heap} {id ver : Nat} {b : Blk} (h : blkAt H id ver = some b) : tallyAt H id = tallyC b.cells := by
  unfold blkAt at h
  unfold tallyAt
  split at h
  · rename_i b' hb
    split at h
    · cases h; first | rfl | rw [hb]
    · cases h
  · cases h
theorem sameBut_blk {H G : Heap} (hs : sameBut H G) {id ver : Nat} {b : Blk} (h : blkAt H id ver = some b) (ht : tallyC b.cells = false) : blkAt G id ver = some b := by
  have h1 := tallyAt_blk h
  rcases hs.2 id with e | ⟨e, _⟩
  · unfold blkAt at h ⊢; rw [e]; exact h
  · rw [h1, ht] at e; cases e
theorem sameBut_blk' {H G : Heap} (hs : sameBut H G) {id ver : Nat} {b : Blk} (h : blkAt G id ver = some b) (ht : tallyC b.cells = false) : blkAt H id ver = some b := by
  have h1 := tallyAt_blk h
  rcases hs.2 id with e | ⟨_, e⟩
  · unfold blkAt at h ⊢; rw [← e]; exact h
  · rw [h1, ht] at e; cases e
theorem onlyIn_blk {H G : Heap} (hs : onlyIn H G) {id ver : Nat} {b : Blk} (h : blkAt H id ver = some b) (ht : blankC b.cells = false) : blkAt G id ver = some b := by
  have h1 : blankAt H id = blankC b.cells := by
    unfold blkAt at h
    unfold blankAt
    split at h
    · rename_i b' hb
      split at h
      · cases h; first | rfl | rw [hb]
      · cases h
    · cases h
  rcases hs.2 id with e | e
  · unfold blkAt at h ⊢; rw [e]; exact h
  · rw [h1, ht] at e; cases e
theorem loadA_other {ti : TI} {H G : Heap} {x v : AV} (hb : ∀ id ver off, x = .ptr id ver off → ∀ b, blkAt H id ver = some b → blkAt G id ver = some b) (h : loadA ti H x = some v) : loadA ti G x = some v := by
  unfold loadA at h ⊢
  split at h
  · rename_i id ver off
    cases hc : blkAt H id ver with
    | none => simp [hc] at h
    | some y => simp only [hc, Option.bind_some] at h; simp only [hb id ver off rfl _ hc, Option.bind_some]; exact h
  · exact h
  · cases h
theorem sliceA_other {H G : Heap} {fr : Fr} {k : TK} {x v : AV} {lo hi : Option Operand} (hb : ∀ id ver off, x = .ptr id ver off → ∀ b, blkAt H id ver = some b → blkAt G id ver = some b) (h : sliceA H fr k x lo hi = some v) : sliceA G fr k x lo hi = some v := by
  unfold sliceA at h ⊢
  split at h
  · rename_i n esz ag id ver off
    cases h1 : boundA fr 0 lo with
    | none => simp [h1] at h
    | some l =>
      cases h2 : boundA fr (n : Int) hi with
      | none => simp [h1, h2] at h
      | some r =>
        simp only [h1, h2, Option.bind_some] at h ⊢
        cases hc : blkAt H id ver with
        | none => simp [hc] at h
        | some y => simp only [hc, Option.bind_some] at h; simp only [hb id ver off rfl _ hc, Option.bind_some]; exact h
  · exact h
  · exact h
  · exact h
  · cases h
theorem lookO_other {c : Bool} {op : Op} {fr : Fr} {H G : Heap} (hb : ∀ a id ver off, lookAt op = some a → fr.ev a = .ptr id ver off → ∀ b, blkAt H id ver = some b → clsC c b.cells = false → blkAt G id ver = some b) (h : lookO c op fr H) : lookO c op fr G := by
  unfold lookO at h ⊢
  split at h
  · rename_i a ha
    unfold lookV at h ⊢
    split at h
    · rename_i id ver off hv
      unfold lookB at h
      split at h
      · rename_i b hc
        rw [hb a id ver off ha hv b hc h]; exact h
      · exact h.elim
    · trivial
  · exact h.elim
theorem lookO_blk {c : Bool} {op : Op} {fr : Fr} {H : Heap} (h : lookO c op fr H) {a : Operand} (ha : lookAt op = some a) {id ver off : Nat} (hv : fr.ev a = .ptr id ver off) {b : Blk} (hb : blkAt H id ver = some b) : clsC c b.cells = false := by
  unfold lookO at h
  rw [ha] at h
  simp only [hv, lookV, hb, lookB] at h
  exact h
/-- What is looked at is the same in any heap that has its block. -/
theorem look_other {E : Env} {C : CallRel} {c : Bool} {f base : Nat} {o : Oper} {fr : Fr} {H G : Heap} {x : AV} (hb : ∀ a id ver off, lookAt o.op = some a → fr.ev a = .ptr id ver off → ∀ b, blkAt H id ver = some b → clsC c b.cells = false → blkAt G id ver = some b)
    (h : lookO c o.op fr H ∧ stepA E C f base o fr H fun v H' => H' = H ∧ v = x ∧ H' = H) : lookO c o.op fr G ∧ stepA E C f base o fr G fun v H' => H' = G ∧ v = x ∧ H' = G := by
  obtain ⟨hl, hs⟩ := h
  refine ⟨lookO_other hb hl, ?_⟩
  unfold stepA at hs ⊢
  cases hop : o.op with
  | load t a =>
    have hb' : ∀ id ver off, fr.ev a = .ptr id ver off → ∀ b, blkAt H id ver = some b → blkAt G id ver = some b := fun id ver off e b hc =>
      hb a id ver off (by rw [hop]; rfl) e b hc (lookO_blk hl (by rw [hop]; rfl) e hc)
    simp only [hop, opA] at hs ⊢
    cases hT : E.T t with
    | none => simp [hT, someThen] at hs
    | some ti =>
      simp only [hT, Option.bind_some] at hs ⊢
      cases hld : loadA ti H (fr.ev a) with
      | none => simp [hld, someThen] at hs
      | some v =>
        simp only [hld, Option.map_some, someThen] at hs
        simp only [loadA_other hb' hld, Option.map_some, someThen]
        exact ⟨by first | trivial | rfl, hs.2.1, by first | trivial | rfl⟩
  | slice t y lo hi mx =>
    have hb' : ∀ id ver off, fr.ev y = .ptr id ver off → ∀ b, blkAt H id ver = some b → blkAt G id ver = some b := fun id ver off e b hc =>
      hb y id ver off (by rw [hop]; rfl) e b hc (lookO_blk hl (by rw [hop]; rfl) e hc)
    simp only [hop] at hs ⊢
    cases mx with
    | some m => simp [opA, someThen] at hs
    | none =>
      simp only [opA] at hs ⊢
      cases hk : E.kd t with
      | none => simp [hk, someThen] at hs
      | some k =>
        simp only [hk, Option.bind_some] at hs ⊢
        cases hld : sliceA H fr k (fr.ev y) lo hi with
        | none => simp [hld, someThen] at hs
        | some v =>
          simp only [hld, Option.map_some, someThen] at hs
          simp only [sliceA_other hb' hld, Option.map_some, someThen]
          exact ⟨by first | trivial | rfl, hs.2.1, by first | trivial | rfl⟩
  | _ => rw [hop] at hl; exact hl.elim

theorem sameBut_snoc {H H' : Heap} (h : sameBut H H') (b : Option Blk) : sameBut (H ++ [b]) (H' ++ [b]) := by
  refine ⟨by simp [h.1], fun i => ?_⟩
  rcases Nat.lt_or_ge i H.length with hi | hi
  · have e1 : (H ++ [b])[i]? = H[i]? := List.getElem?_append_left hi
    have e2 : (H' ++ [b])[i]? = H'[i]? := List.getElem?_append_left (by rw [h.1]; exact hi)
    unfold tallyAt
    rw [e1, e2]
    exact h.2 i
  · left
    rw [List.getElem?_append_right hi, List.getElem?_append_right (by rw [h.1]; exact hi), h.1]
theorem swap_ops0 {E : Env} (hE : EnvOk E) {f base n : Nat} {all : Array Oper} {p q : Oper} {tp tq : Tag} (h1 : p.apart all q = true) (ht : tagsApart tp tq = true) (hdp : ∀ d, p.dst = some d → d < n) (hna : tp ≠ .app)
    {l : List (Oper × Tag)} {fr : Fr} {H : Heap} {K : Fr → Heap → Prop} (hr : Real base n fr H) (h : wpOpsA E (CallOk E) f base all ((p, tp) :: (q, tq) :: l) fr H (upto K)) : wpOpsA E (CallOk E) f base all ((q, tq) :: (p, tp) :: l) fr H (upto K) := by
  obtain ⟨x, H1, hp, h⟩ := wpOpsA_iff.1 h
  obtain ⟨y, H2, hq, h⟩ := wpOpsA_iff.1 h
  obtain ⟨ap1, ap2, ap3⟩ := Oper.apart_spec h1
  -- the second, before the first has left its value
  have hq0 : Run1 E (CallOk E) f base all q tq fr H1 y H2 := hq.congr fun t ht => get_put_ne fun e => ap1 t e ht
  have hfin : ∀ H3, H3 = H2 → wpOpsA E (CallOk E) f base all l ((fr.put q.dst y).put p.dst x) H3 (upto K) := by
    intro H3 e
    subst e
    exact wpOpsA_fe l (FE.comm ap2) h
  have hpy : ∀ G G', Run1 E (CallOk E) f base all p tp fr G x G' → Run1 E (CallOk E) f base all p tp (fr.put q.dst y) G x G' := fun G G' hg => hg.congr fun t ht => (get_put_ne fun e => ap3 t e ht).symm
  -- what a pure operation (or one that is left out) does with any heap
  have anyheap : ∀ {o : Oper} {g : Fr} {u : AV} {G G' : Heap} {tag : Tag}, tag = .pure → Run1 E (CallOk E) f base all o tag g G u G' → G' = G ∧ ∀ G2, Run1 E (CallOk E) f base all o tag g G2 u G2 := by
    intro o g u G G' tag e hrun
    subst e
    rcases hrun with ⟨hg, hx⟩ | ⟨hg, rfl, rfl⟩
    · unfold tagThen at hx
      simp only at hx
      split at hx
      · rename_i v hv
        obtain ⟨rfl, rfl⟩ := hx
        refine ⟨rfl, fun G2 => .inl ⟨hg, ?_⟩⟩
        unfold tagThen
        simp only [hv]
        exact ⟨trivial, trivial⟩
      · exact hx.elim
    · exact ⟨rfl, fun G2 => .inr ⟨hg, rfl, rfl⟩⟩
  have isquiet : ∀ {o : Oper} {g : Fr} {u : AV} {G G' : Heap}, Run1 E (CallOk E) f base all o .quiet g G u G' → G' = G := by
    intro o g u G G' hrun
    rcases hrun with ⟨hg, hx⟩ | ⟨hg, rfl, rfl⟩
    · obtain ⟨_, hx⟩ := hx
      obtain ⟨v, H', _, h5, _, h6⟩ := stepA_ex hx
      rw [← h6, h5]
    · rfl
  have islook : ∀ {o : Oper} {g : Fr} {u : AV} {G G' : Heap}, Run1 E (CallOk E) f base all o .look g G u G' → G' = G := by
    intro o g u G G' hrun
    rcases hrun with ⟨hg, hx⟩ | ⟨hg, rfl, rfl⟩
    · obtain ⟨_, hx⟩ := hx
      obtain ⟨v, H', _, h5, _, h6⟩ := stepA_ex hx
      rw [← h6, h5]
    · rfl
  have ispeek : ∀ {o : Oper} {g : Fr} {u : AV} {G G' : Heap}, Run1 E (CallOk E) f base all o .peek g G u G' → G' = G := by
    intro o g u G G' hrun
    rcases hrun with ⟨hg, hx⟩ | ⟨hg, rfl, rfl⟩
    · obtain ⟨_, hx⟩ := hx
      obtain ⟨v, H', _, h5, _, h6⟩ := stepA_ex hx
      rw [← h6, h5]
    · rfl
  have peekmove : ∀ {o : Oper} {g : Fr} {u : AV} {G G2 : Heap}, (∀ a id ver off, lookAt o.op = some a → g.ev a = .ptr id ver off → ∀ b, blkAt G id ver = some b → blankC b.cells = false → blkAt G2 id ver = some b) → Run1 E (CallOk E) f base all o .peek g G u G → Run1 E (CallOk E) f base all o .peek g G2 u G2 := by
    intro o g u G G2 hb hrun
    rcases hrun with ⟨hg, hx⟩ | ⟨hg, rfl, _⟩
    · exact .inl ⟨hg, look_other (c := true) hb hx⟩
    · exact .inr ⟨hg, rfl, rfl⟩
  have islay : ∀ {o : Oper} {g : Fr} {u : AV} {G G' : Heap}, Run1 E (CallOk E) f base all o .lay g G u G' → onlyIn G G' := by
    intro o g u G G' hrun
    rcases hrun with ⟨hg, hx⟩ | ⟨hg, rfl, rfl⟩
    · obtain ⟨v, H', _, h5, _, h6⟩ := stepA_ex hx
      rw [← h6]; exact h5
    · exact ⟨rfl, fun _ => .inl rfl⟩
  have lookmove : ∀ {o : Oper} {g : Fr} {u : AV} {G G2 : Heap}, (∀ a id ver off, lookAt o.op = some a → g.ev a = .ptr id ver off → ∀ b, blkAt G id ver = some b → tallyC b.cells = false → blkAt G2 id ver = some b) → Run1 E (CallOk E) f base all o .look g G u G → Run1 E (CallOk E) f base all o .look g G2 u G2 := by
    intro o g u G G2 hb hrun
    rcases hrun with ⟨hg, hx⟩ | ⟨hg, rfl, _⟩
    · exact .inl ⟨hg, look_other (c := false) hb hx⟩
    · exact .inr ⟨hg, rfl, rfl⟩
  have ismark : ∀ {o : Oper} {g : Fr} {u : AV} {G G' : Heap}, Run1 E (CallOk E) f base all o .mark g G u G' → sameBut G G' := by
    intro o g u G G' hrun
    rcases hrun with ⟨hg, hx⟩ | ⟨hg, rfl, rfl⟩
    · obtain ⟨v, H', _, h5, _, h6⟩ := stepA_ex hx.2
      rw [← h6]; exact h5
    · exact ⟨rfl, fun _ => .inl rfl⟩
  by_cases hpp : tp = .pure
  · obtain ⟨e, hall⟩ := anyheap hpp hp
    subst e
    exact wpOpsA_iff.2 ⟨y, H2, hq0, wpOpsA_iff.2 ⟨x, H2, hpy _ _ (hall H2), hfin H2 rfl⟩⟩
  · by_cases hqp : tq = .pure
    · obtain ⟨e, hall⟩ := anyheap hqp hq0
      subst e
      exact wpOpsA_iff.2 ⟨y, H, hall H, wpOpsA_iff.2 ⟨x, H2, hpy _ _ hp, hfin H2 rfl⟩⟩
    · cases tp <;> cases tq <;> simp only [tagsApart, Bool.false_eq_true, ne_eq, not_true_eq_false, reduceCtorEq] at ht hpp hqp
      · -- both read
        have e1 := isquiet hp
        have e2 := isquiet hq0
        subst e1 e2
        exact wpOpsA_iff.2 ⟨y, _, hq0, wpOpsA_iff.2 ⟨x, _, hpy _ _ hp, hfin _ rfl⟩⟩
      · -- the first reads, the second makes a block
        have e1 := isquiet hp
        subst e1
        rcases hq0 with ⟨hg, hx⟩ | ⟨hg, rfl, rfl⟩
        · have hx' := hx
          unfold tagThen at hx
          simp only at hx
          split at hx
          · rename_i v b hv
            obtain ⟨rfl, rfl⟩ := hx
            refine wpOpsA_iff.2 ⟨_, _, .inl ⟨hg, hx'⟩, wpOpsA_iff.2 ⟨x, _, hpy _ _ ?_, hfin _ rfl⟩⟩
            rcases hp with ⟨hg', hq', hp'⟩ | ⟨hg', e3, _⟩
            · refine .inl ⟨hg', hq', ?_⟩
              have := quiet_extend (n := n) hq' hr (stepA_mono (fun _ _ _ _ _ h => h) (fun v1 H1 h => h.2) hp') rfl b
              exact stepA_mono (fun _ _ _ _ _ h => h) (fun v1 H1 h => ⟨h.2, h.1, h.2⟩) this
            · exact .inr ⟨hg', e3, rfl⟩
          · exact hx.elim
        · exact wpOpsA_iff.2 ⟨_, _, .inr ⟨hg, rfl, rfl⟩, wpOpsA_iff.2 ⟨x, _, hpy _ _ hp, hfin _ rfl⟩⟩
      · -- both read, the second no tally
        have e1 := isquiet hp
        have e2 := islook hq0
        subst e1 e2
        exact wpOpsA_iff.2 ⟨y, _, hq0, wpOpsA_iff.2 ⟨x, _, hpy _ _ hp, hfin _ rfl⟩⟩
      · -- both read, the second nothing blank
        have e1 := isquiet hp
        have e2 := ispeek hq0
        subst e1 e2
        exact wpOpsA_iff.2 ⟨y, _, hq0, wpOpsA_iff.2 ⟨x, _, hpy _ _ hp, hfin _ rfl⟩⟩
      · -- the first makes a block, the second looks
        have e2 := islook hq0
        subst e2
        rcases hp with ⟨hg, hx⟩ | ⟨hg, rfl, rfl⟩
        · have hx' := hx
          unfold tagThen at hx
          simp only at hx
          split at hx
          · rename_i v b hv
            obtain ⟨rfl, rfl⟩ := hx
            refine wpOpsA_iff.2 ⟨y, H, lookmove (fun a id ver off ha hv1 b1 hb _ => ?_) hq0, wpOpsA_iff.2 ⟨_, _, hpy _ _ (.inl ⟨hg, hx'⟩), hfin _ rfl⟩⟩
            have hlt : id < H.length := by
              obtain ⟨_, c, w0, w, hf, s⟩ := hr
              have hnm := (hf.ev a).names s.dom
              rw [hv1] at hnm
              cases hnm
              assumption
            unfold blkAt at hb ⊢
            rwa [List.getElem?_append_left hlt] at hb
          · exact hx.elim
        · exact wpOpsA_iff.2 ⟨_, _, hq0, wpOpsA_iff.2 ⟨_, _, hpy _ _ (.inr ⟨hg, rfl, rfl⟩), hfin _ rfl⟩⟩
      · -- both grow
        rcases hp with ⟨hg, hx⟩ | ⟨hg, rfl, rfl⟩
        · rcases hq0 with ⟨hg', hx'⟩ | ⟨hg', rfl, rfl⟩
          · obtain ⟨i1, v1, o1, l1, c1, e1, y1, b1, cs1, n1, g1, hn1, hm1, he1, hb1, rfl, rfl, hG1⟩ := grow_spec hx
            obtain ⟨i2, v2, o2, l2, c2, e2, y2, b2, cs2, n2, g2, hn2, hm2, he2, hb2, rfl, rfl, hG2⟩ := grow_spec hx'
            have hne : i1 ≠ i2 := by
              intro e
              subst e
              obtain ⟨_, c, a, w, hf, s⟩ := hr
              obtain ⟨hl1, hv1⟩ := blkAt_some hb1
              obtain ⟨bk, hcm, _⟩ := s.blk i1 b1 hl1
              have hlt := liveAt_lt hl1
              have hv2 : v2 = v1 + n1 := by
                unfold blkAt at hb2
                rw [List.getElem?_set_self hlt] at hb2
                simp only at hb2
                split at hb2
                · rename_i e; exact e.symm
                · cases hb2
              have hrel := hf.ev g2
              rw [he2] at hrel
              rw [hv1] at hcm
              generalize a.eval g2 = z at hrel
              cases hrel with
              | sl _ _ _ _ _ _ _ _ _ h1 _ _ _ => rw [hcm] at h1; simp only [Option.some.injEq, Prod.mk.injEq] at h1; omega
              | slNone _ _ _ h1 => rw [hcm] at h1; simp only [Option.some.injEq, Prod.mk.injEq] at h1; omega
              | slOld _ _ _ _ _ _ _ _ _ _ h1 h2 _ _ => rw [hcm] at h1; simp only [Option.some.injEq, Prod.mk.injEq] at h1; omega
              | slOldNone _ _ _ _ _ h1 h2 => rw [hcm] at h1; simp only [Option.some.injEq, Prod.mk.injEq] at h1; omega
            have hb2' : blkAt H i2 v2 = some b2 := by
              unfold blkAt at hb2 ⊢
              rwa [List.getElem?_set_ne hne] at hb2
            have hb1' : blkAt (H.set i2 (some ⟨b2.cells ++ cs2, v2 + n2⟩)) i1 v1 = some b1 := by
              unfold blkAt at hb1 ⊢
              rwa [List.getElem?_set_ne (Ne.symm hne)]
            refine wpOpsA_iff.2 ⟨_, _, .inl ⟨hg', hG2 H hb2'⟩, wpOpsA_iff.2 ⟨_, _, hpy _ _ (.inl ⟨hg, hG1 _ hb1'⟩), hfin _ (List.set_comm _ _ (Ne.symm hne))⟩⟩
          · exact wpOpsA_iff.2 ⟨_, _, .inr ⟨hg', rfl, rfl⟩, wpOpsA_iff.2 ⟨_, _, hpy _ _ (.inl ⟨hg, hx⟩), hfin _ rfl⟩⟩
        · exact wpOpsA_iff.2 ⟨_, _, hq0, wpOpsA_iff.2 ⟨_, _, hpy _ _ (.inr ⟨hg, rfl, rfl⟩), hfin _ rfl⟩⟩
      · -- the first grows, the second looks
        have e2 := islook hq0
        subst e2
        rcases hp with ⟨hg, hx⟩ | ⟨hg, rfl, rfl⟩
        · obtain ⟨i1, v1, o1, l1, c1, e1, y1, b1, cs1, n1, g1, hn1, hm1, he1, hb1, rfl, rfl, hG1⟩ := grow_spec hx
          refine wpOpsA_iff.2 ⟨y, H, lookmove (fun a id ver off ha hv b hb _ => ?_) hq0, wpOpsA_iff.2 ⟨_, _, hpy _ _ (.inl ⟨hg, hx⟩), hfin _ rfl⟩⟩
          by_cases hid : i1 = id
          · subst hid
            exfalso
            obtain ⟨_, c, w0, w, hf, s⟩ := hr
            obtain ⟨hl1, hv1⟩ := blkAt_some hb1
            obtain ⟨bk, hcm, _⟩ := s.blk i1 b1 hl1
            have hlt := liveAt_lt hl1
            have hv2 : ver = v1 + n1 := by
              unfold blkAt at hb
              rw [List.getElem?_set_self hlt] at hb
              simp only at hb
              split at hb
              · rename_i e; exact e.symm
              · cases hb
            have hrel := hf.ev a
            rw [hv] at hrel
            rw [hv1] at hcm
            generalize w0.eval a = z at hrel
            cases hrel with
            | ptr _ _ _ _ _ h1 => rw [hcm] at h1; simp only [Option.some.injEq, Prod.mk.injEq] at h1; omega
            | ptrOld _ _ _ _ _ _ h1 h2 => rw [hcm] at h1; simp only [Option.some.injEq, Prod.mk.injEq] at h1; omega
          · unfold blkAt at hb ⊢
            rwa [List.getElem?_set_ne hid] at hb
        · exact wpOpsA_iff.2 ⟨_, _, hq0, wpOpsA_iff.2 ⟨_, _, hpy _ _ (.inr ⟨hg, rfl, rfl⟩), hfin _ rfl⟩⟩
      · -- both read, the first no tally
        have e1 := islook hp
        have e2 := isquiet hq0
        subst e1 e2
        exact wpOpsA_iff.2 ⟨y, _, hq0, wpOpsA_iff.2 ⟨x, _, hpy _ _ hp, hfin _ rfl⟩⟩
      · -- the first looks, the second makes a block
        have e1 := islook hp
        subst e1
        rcases hq0 with ⟨hg, hx⟩ | ⟨hg, rfl, rfl⟩
        · have hx' := hx
          unfold tagThen at hx
          simp only at hx
          split at hx
          · rename_i v b hv
            obtain ⟨rfl, rfl⟩ := hx
            exact wpOpsA_iff.2 ⟨_, _, .inl ⟨hg, hx'⟩, wpOpsA_iff.2 ⟨x, _, hpy _ _ (lookmove (fun _ _ _ _ _ _ _ hb _ => blkAt_old hb) hp), hfin _ rfl⟩⟩
          · exact hx.elim
        · exact wpOpsA_iff.2 ⟨_, _, .inr ⟨hg, rfl, rfl⟩, wpOpsA_iff.2 ⟨x, _, hpy _ _ hp, hfin _ rfl⟩⟩
      · -- both look
        have e1 := islook hp
        have e2 := islook hq0
        subst e1 e2
        exact wpOpsA_iff.2 ⟨y, _, hq0, wpOpsA_iff.2 ⟨x, _, hpy _ _ hp, hfin _ rfl⟩⟩
      · -- the first looks, the second changes tallies
        have e1 := islook hp
        subst e1
        have hs := ismark hq0
        exact wpOpsA_iff.2 ⟨y, _, hq0, wpOpsA_iff.2 ⟨x, _, hpy _ _ (lookmove (fun _ _ _ _ _ _ _ hb ht => sameBut_blk hs hb ht) hp), hfin _ rfl⟩⟩
      · -- the first changes tallies, the second makes a block
        have hs := ismark hp
        rcases hq0 with ⟨hg, hx⟩ | ⟨hg, rfl, rfl⟩
        · unfold tagThen at hx
          simp only at hx
          split at hx
          · rename_i v b hv
            obtain ⟨rfl, rfl⟩ := hx
            rw [hs.1] at hv
            refine wpOpsA_iff.2 ⟨_, H ++ [some b], .inl ⟨hg, by unfold tagThen; simp only [hv]; exact ⟨trivial, trivial⟩⟩, wpOpsA_iff.2 ⟨x, _, hpy _ _ ?_, hfin _ rfl⟩⟩
            rcases hp with ⟨hg', hq', hp'⟩ | ⟨hg', e3, e4⟩
            · refine .inl ⟨hg', hq', ?_⟩
              have := quiet_extend (n := n) hq' hr (stepA_mono (fun _ _ _ _ _ h => h) (fun v1 H1 h => h.2) hp') hs.1 b
              refine stepA_mono (fun _ _ _ _ _ h => h) (fun v1 H1 h => ⟨?_, h⟩) this
              rw [h.2]
              exact sameBut_snoc hs _
            · exact .inr ⟨hg', e3, by rw [e4]⟩
          · exact hx.elim
        · exact wpOpsA_iff.2 ⟨_, _, .inr ⟨hg, rfl, rfl⟩, wpOpsA_iff.2 ⟨x, _, hpy _ _ hp, hfin _ rfl⟩⟩
      · -- the first changes tallies, the second looks
        have e2 := islook hq0
        subst e2
        have hs := ismark hp
        exact wpOpsA_iff.2 ⟨y, _, lookmove (fun _ _ _ _ _ _ _ hb ht => sameBut_blk' hs hb ht) hq0, wpOpsA_iff.2 ⟨x, _, hpy _ _ hp, hfin _ rfl⟩⟩
      · -- both read, the first nothing blank
        have e1 := ispeek hp
        have e2 := isquiet hq0
        subst e1 e2
        exact wpOpsA_iff.2 ⟨y, _, hq0, wpOpsA_iff.2 ⟨x, _, hpy _ _ hp, hfin _ rfl⟩⟩
      · -- both read nothing blank
        have e1 := ispeek hp
        have e2 := ispeek hq0
        subst e1 e2
        exact wpOpsA_iff.2 ⟨y, _, hq0, wpOpsA_iff.2 ⟨x, _, hpy _ _ hp, hfin _ rfl⟩⟩
      · -- the first reads nothing blank, the second changes blank blocks
        have e1 := ispeek hp
        subst e1
        have hs := islay hq0
        exact wpOpsA_iff.2 ⟨y, _, hq0, wpOpsA_iff.2 ⟨x, _, hpy _ _ (peekmove (fun _ _ _ _ _ _ _ hb ht => onlyIn_blk hs hb ht) hp), hfin _ rfl⟩⟩
      · exact absurd rfl hna

theorem fresh_not_grow {E : Env} {fr : Fr} {n : Nat} {op : Op} {r : AV × Blk} (h : freshA E fr n op = some r) : ¬ growO op fr = true := by
  intro hg
  unfold growO at hg
  split at hg
  · rename_i c
    split at hg
    · rename_i hc
      simp only [freshA, hc] at h
      generalize c.args.toList.map fr.ev = l at h hg
      unfold growV at hg
      split at hg
      · simp [freshApp] at h
      · cases hg
    · cases hg
  · cases hg
theorem app_of_grow {E : Env} {C : CallRel} {f base : Nat} {o : Oper} {fr : Fr} {H : Heap} {K : AV → Heap → Prop} (h : tagThen E C f base o .grow fr H K) : tagThen E C f base o .app fr H K := by
  unfold tagThen at h ⊢
  simp only at h ⊢
  rw [if_pos h.1]
  exact h.2
theorem app_of_fresh {E : Env} {C : CallRel} {f base : Nat} {o : Oper} {fr : Fr} {H : Heap} {K : AV → Heap → Prop} (h : tagThen E C f base o .fresh fr H K) : tagThen E C f base o .app fr H K := by
  unfold tagThen at h ⊢
  simp only at h ⊢
  split at h
  · rename_i v b hv
    rw [if_neg (fresh_not_grow hv)]
    exact h
  · exact h.elim
theorem app_or {E : Env} {C : CallRel} {f base : Nat} {o : Oper} {fr : Fr} {H : Heap} {K : AV → Heap → Prop} (h : tagThen E C f base o .app fr H K) : tagThen E C f base o .grow fr H K ∨ tagThen E C f base o .fresh fr H K := by
  unfold tagThen at h ⊢
  simp only at h ⊢
  split at h
  · rename_i hg; exact .inl ⟨hg, h⟩
  · exact .inr h
theorem wp_app_or {E : Env} {C : CallRel} {f base : Nat} {all : Array Oper} {o : Oper} {l : List (Oper × Tag)} {fr : Fr} {H : Heap} {K : Fr → Heap → Prop} (h : wpOpsA E C f base all ((o, .app) :: l) fr H K) : wpOpsA E C f base all ((o, .grow) :: l) fr H K ∨ wpOpsA E C f base all ((o, .fresh) :: l) fr H K := by
  simp only [wpOpsA] at h ⊢
  cases hg : guardA all fr o.guard with
  | none => simp only [hg] at h
  | some b =>
    cases b
    · simp only [hg] at h ⊢; exact .inl h
    · simp only [hg] at h ⊢; exact app_or h
theorem wp_app_of {E : Env} {C : CallRel} {f base : Nat} {all : Array Oper} {o : Oper} {l : List (Oper × Tag)} {t : Tag} (ht : t = .grow ∨ t = .fresh) {fr : Fr} {H : Heap} {K : Fr → Heap → Prop} (h : wpOpsA E C f base all ((o, t) :: l) fr H K) : wpOpsA E C f base all ((o, .app) :: l) fr H K := by
  simp only [wpOpsA] at h ⊢
  cases hg : guardA all fr o.guard with
  | none => simp only [hg] at h
  | some b =>
    cases b
    · simp only [hg] at h ⊢; exact h
    · simp only [hg] at h ⊢
      rcases ht with rfl | rfl
      · exact app_of_grow h
      · exact app_of_fresh h
theorem wp_app_2 {E : Env} {C : CallRel} {f base : Nat} {all : Array Oper} {q o : Oper} {tq : Tag} {l : List (Oper × Tag)} {t : Tag} (ht : t = .grow ∨ t = .fresh) {fr : Fr} {H : Heap} {K : Fr → Heap → Prop} (h : wpOpsA E C f base all ((q, tq) :: (o, t) :: l) fr H K) : wpOpsA E C f base all ((q, tq) :: (o, .app) :: l) fr H K := by
  obtain ⟨x, H', h1, h2⟩ := wpOpsA_iff.1 h
  exact wpOpsA_iff.2 ⟨x, H', h1, wp_app_of ht h2⟩
/-- Two operations that stand apart: the second first. -/
theorem swap_ops {E : Env} (hE : EnvOk E) {f base n : Nat} {all : Array Oper} {p q : Oper} {tp tq : Tag} (h1 : p.apart all q = true) (ht : tagsApart tp tq = true) (hdp : ∀ d, p.dst = some d → d < n)
    {l : List (Oper × Tag)} {fr : Fr} {H : Heap} {K : Fr → Heap → Prop} (hr : Real base n fr H) (h : wpOpsA E (CallOk E) f base all ((p, tp) :: (q, tq) :: l) fr H (upto K)) : wpOpsA E (CallOk E) f base all ((q, tq) :: (p, tp) :: l) fr H (upto K) := by
  by_cases e : tp = .app
  · subst e
    have t1 : tagsApart .grow tq = true := by cases tq <;> first | rfl | (simp [tagsApart] at ht)
    have t2 : tagsApart .fresh tq = true := by cases tq <;> first | rfl | (simp [tagsApart] at ht)
    rcases wp_app_or h with h | h
    · exact wp_app_2 (.inl rfl) (swap_ops0 hE h1 t1 hdp (by simp) hr h)
    · exact wp_app_2 (.inr rfl) (swap_ops0 hE h1 t2 hdp (by simp) hr h)
  · exact swap_ops0 hE h1 ht hdp e hr h

/-- An operation that stands apart from all before it: first. -/
theorem bubble {E : Env} (hE : EnvOk E) {f base n : Nat} {all : Array Oper} {q : Oper} {tq : Tag} {l2 : List (Oper × Tag)} {K : Fr → Heap → Prop} : ∀ (l1 : List (Oper × Tag)), (∀ p ∈ l1, p.1.apart all q = true ∧ tagsApart p.2 tq = true ∧ ∀ d, p.1.dst = some d → d < n) →
    ∀ {fr : Fr} {H : Heap}, Real base n fr H → wpOpsA E (CallOk E) f base all (l1 ++ (q, tq) :: l2) fr H (upto K) → wpOpsA E (CallOk E) f base all ((q, tq) :: (l1 ++ l2)) fr H (upto K)
  | [], _, fr, H, _, h => h
  | (p, tp) :: l1, hl, fr, H, hr, h => by
    obtain ⟨x, H1, hp, h⟩ := wpOpsA_iff.1 h
    obtain ⟨ha, ht, hd⟩ := hl (p, tp) (by simp)
    have h' := bubble hE l1 (fun p hp => hl p (by simp [hp])) (hr.step hE (fun _ _ _ _ _ h => h) hd hp) h
    exact swap_ops hE ha ht hd hr (wpOpsA_iff.2 ⟨x, H1, hp, h'⟩)

theorem apart_symm_of {all : Array Oper} {x y : Oper} (h : x.apart all y = true) : y.apart all x = true := by
  obtain ⟨h1, h2, h3⟩ := Oper.apart_spec h
  unfold Oper.apart
  simp only [Bool.and_eq_true]
  constructor
  · cases hd : y.dst with
    | none => rfl
    | some d =>
      simp only [Bool.and_eq_true, Bool.not_eq_true', bne_iff_ne, ne_eq]
      refine ⟨by simpa using h3 d hd, fun e => h2 d e hd⟩
  · cases hd : x.dst with
    | none => rfl
    | some d => simpa using h1 d hd

theorem waits_listed {ops : Array Oper} {D : Cert} (hw : waitsOk ops D = true) (hsz : ∀ (i : Nat) (oi : Oper), ops[i]? = some oi → ∀ k ∈ directs oi, k < ops.size) {listed : Array Bool} (hcl : ∀ j oj, ops[j]? = some oj → listed.getD j false = true → ∀ k ∈ directs oj, listed.getD k false = true) :
    ∀ (i : Nat) (oi : Oper), ops[i]? = some oi → (∀ k ∈ directs oi, listed.getD k false = true) → ∀ j, waitsFor D i j = true → listed.getD j false = true := by
  intro i
  induction i using Nat.strongRecOn with
  | _ i ih =>
    intro oi hi hd j hj
    unfold waitsOk at hw
    have hlt : i < ops.size := (Array.getElem?_eq_some_iff.1 hi).1
    have h1 := List.all_eq_true.1 hw i (List.mem_range.2 hlt)
    simp only [hi] at h1
    have hj' : j ∈ (D.waits[i]?).getD [] := by simpa [waitsFor] using hj
    have h2 := List.all_eq_true.1 h1 j hj'
    simp only [Bool.or_eq_true, List.any_eq_true, Bool.and_eq_true, decide_eq_true_eq] at h2
    rcases h2 with h2 | ⟨k, hk, hki, hkj⟩
    · exact hd j (by simpa using h2)
    · cases hok : ops[k]? with
      | none =>
        have h5 := hsz i oi hi k hk
        rw [Array.getElem?_eq_getElem h5] at hok
        cases hok
      | some ok => exact ih k hki ok hok (hcl k ok hok (hd k hk)) j hkj

theorem Sim.drew {c : Ctx} {H : Heap} {w : World} (s : Sim c H w) : Sim c H { w with drawn := w.drawn + 1 } := by
  refine ⟨s.dom, fun id b hl => ?_, s.inj, s.disj, s.bnd, s.froz, s.glob⟩
  obtain ⟨bk, h1, h2⟩ := s.blk id b hl
  exact ⟨bk, h1, h2.mono (.refl c) fun k sz e => rfl⟩
theorem Trans.drew {base : Nat} {c : Ctx} {H : Heap} {w : World} (s : Sim c H w) : Trans base c H w c H { w with drawn := w.drawn + 1 } :=
  ⟨.refl c, s.drew, Nat.le_refl _, fun _ _ _ => rfl, fun _ h => .inl h, fun _ _ h => .inl h, Nat.le_refl _, fun _ _ h => h, ⟨rfl, rfl, rfl⟩⟩

def opsOf (ops : Array Oper) (L : List (Nat × Tag)) : List (Oper × Tag) := L.filterMap fun p => (ops[p.1]?).map fun o => (o, p.2)

structure DrawInv (ops : Array Oper) (D : Cert) (L : List (Nat × Tag)) (listed : Array Bool) : Prop where
  size : listed.size = ops.size
  left : ∀ i, i < ops.size → (listed.getD i true = false ↔ i ∈ L.map (·.1))
  inside : ∀ p ∈ L, p.1 < ops.size
  pairs : L.Pairwise fun p q => pairOk ops D p q = true
  closed : ∀ j oj, ops[j]? = some oj → listed.getD j false = true → ∀ k ∈ directs oj, listed.getD k false = true

theorem mem_directs {o : Oper} {k : Nat} : k ∈ directs o ↔ ∃ e ∈ o.after, Region.binds .any e = true ∧ e.on = k := by
  unfold directs
  simp only [List.mem_map, List.mem_filter, Array.mem_toList_iff]
  constructor
  · rintro ⟨e, ⟨h1, h2⟩, h3⟩; exact ⟨e, h1, h2, h3⟩
  · rintro ⟨e, h1, h2, h3⟩; exact ⟨e, ⟨h1, h2⟩, h3⟩

theorem getD_bool {l : Array Bool} {i : Nat} (hi : i < l.size) : l.getD i true = l.getD i false := by
  simp [Array.getD_eq_getD_getElem?, hi]

/-- What stands in a list of those that are left. -/
structure DrawB (ops : Array Oper) (L : List (Nat × Tag)) (listed : Array Bool) : Prop where
  size : listed.size = ops.size
  left : ∀ i, i < ops.size → (listed.getD i true = false ↔ i ∈ L.map (·.1))
  inside : ∀ p ∈ L, p.1 < ops.size
  closed : ∀ j oj, ops[j]? = some oj → listed.getD j false = true → ∀ k ∈ directs oj, listed.getD k false = true
theorem DrawInv.base {ops : Array Oper} {D : Cert} {L : List (Nat × Tag)} {listed : Array Bool} (h : DrawInv ops D L listed) : DrawB ops L listed := ⟨h.size, h.left, h.inside, h.closed⟩
theorem DrawB.perm {ops : Array Oper} {L L' : List (Nat × Tag)} {listed : Array Bool} (h : DrawB ops L listed) (hp : L.Perm L') : DrawB ops L' listed :=
  ⟨h.size, fun i hi => (h.left i hi).trans (by rw [(hp.map (·.1)).mem_iff]), fun p hp' => h.inside p (hp.mem_iff.2 hp'), h.closed⟩
theorem alldone {ops : Array Oper} {listed : Array Bool} (inv : DrawB ops [] listed) : Region.ready .any ops listed = [] := by
  refine List.eq_nil_iff_forall_not_mem.2 fun i hi => ?_
  obtain ⟨hun, oi, hoi, _⟩ := mem_ready.1 hi
  have hlt := (Array.getElem?_eq_some_iff.1 hoi).1
  have := (inv.left i hlt).1 hun
  simp at this
theorem someready {ops : Array Oper} (hsz : ∀ (i : Nat) (oi : Oper), ops[i]? = some oi → ∀ k ∈ directs oi, k < ops.size ∧ k ≠ i) {p : Nat × Tag} {L : List (Nat × Tag)} {listed : Array Bool} (inv : DrawB ops (p :: L) listed)
    (hp : ∀ x, ops[p.1]? = some x → ∀ q ∈ L, (directs x).contains q.1 = false) : Region.ready .any ops listed ≠ [] := by
  intro hr
  have hlt := inv.inside p (by simp)
  have hun := (inv.left p.1 hlt).2 (by simp)
  have hm : p.1 ∈ Region.ready .any ops listed := by
    refine mem_ready.2 ⟨hun, ops[p.1], Array.getElem?_eq_getElem hlt, fun e he hb => ?_⟩
    have hk : e.on ∈ directs ops[p.1] := mem_directs.2 ⟨e, he, hb, rfl⟩
    obtain ⟨hks, hkne⟩ := hsz p.1 _ (Array.getElem?_eq_getElem hlt) e.on hk
    cases hl : listed.getD e.on false with
    | true => rfl
    | false =>
      exfalso
      have hl' : listed.getD e.on true = false := by rw [getD_bool (by rw [inv.size]; exact hks)]; exact hl
      have hmem := (inv.left e.on hks).1 hl'
      simp only [List.map_cons, List.mem_cons] at hmem
      rcases hmem with h1 | h1
      · exact hkne h1
      · obtain ⟨q, hq, hq1⟩ := List.mem_map.1 h1
        have := hp _ (Array.getElem?_eq_getElem hlt) q hq
        rw [hq1] at this
        simp [hk] at this
  rw [hr] at hm
  cases hm
theorem pairOk_free {ops : Array Oper} {D : Cert} {p q : Nat × Tag} (h : pairOk ops D p q = true) {x : Oper} (hx : ops[p.1]? = some x) : (directs x).contains q.1 = false ∧ p.1 ≠ q.1 := by
  unfold pairOk at h
  rw [hx] at h
  split at h
  · rename_i x' y h1 h2
    cases h1
    simp only [Bool.and_eq_true, Bool.not_eq_true', bne_iff_ne, ne_eq] at h
    exact ⟨h.1.1, h.1.2⟩
  · cases h
theorem pairOk_ne {ops : Array Oper} {D : Cert} {p q : Nat × Tag} (h : pairOk ops D p q = true) : p.1 ≠ q.1 := by
  unfold pairOk at h
  split at h
  · simp only [Bool.and_eq_true, Bool.not_eq_true', bne_iff_ne, ne_eq] at h
    exact h.1.2
  · cases h
/-- One operation is drawn, of those ahead of R. -/
theorem draw_stepP {E : Env} (hE : EnvOk E) {f base n : Nat} {ops : Array Oper} {D : Cert} (hw : waitsOk ops D = true) (hsz : ∀ (i : Nat) (oi : Oper), ops[i]? = some oi → ∀ k ∈ directs oi, k < ops.size ∧ k ≠ i) (hd : ∀ (i : Nat) (o : Oper), ops[i]? = some o → ∀ d, o.dst = some d → d < n)
    {K : Fr → Heap → Prop} {Q : Exit → Act → World → Prop} {Kc : Act → World → Prop} {c0 : Ctx} {H0 : Heap} {w0 : World} {L1 L2 R : List (Nat × Tag)} {i' : Nat} {tag : Tag} {listed : Array Bool} {fr : Fr} {H : Heap} {a : Act} {w : World} {c : Ctx}
    (inv : DrawB ops (L1 ++ (i', tag) :: (L2 ++ R)) listed) (hp1 : ∀ p ∈ L1, pairOk ops D p (i', tag) = true) (hne : ∀ q ∈ L1 ++ (L2 ++ R), q.1 ≠ i') (hi : i' ∈ Region.ready .any ops listed)
    (h : wpOpsA E (CallOk E) f base ops (opsOf ops (L1 ++ (i', tag) :: L2)) fr H (upto K)) (hf : FRel c n fr a) (ht : Trans base c0 H0 w0 c H w) (hb : base ≤ H.length)
    (ih : ∀ fr' H' c' a' w', DrawB ops (L1 ++ (L2 ++ R)) (listed.setIfInBounds i' true) → wpOpsA E (CallOk E) f base ops (opsOf ops (L1 ++ L2)) fr' H' (upto K) → FRel c' n fr' a' → Trans base c0 H0 w0 c' H' w' → base ≤ H'.length → Kc a' w') :
    wpOp E.P ops Q i' Kc a w := by
  obtain ⟨hun, oi, hoi, hall⟩ := mem_ready.1 hi
  have hlt := (Array.getElem?_eq_some_iff.1 hoi).1
  have hdl : ∀ k ∈ directs oi, listed.getD k false = true := by
    intro k hk
    obtain ⟨e, he, hbn, rfl⟩ := mem_directs.1 hk
    exact hall e he hbn
  have hops : opsOf ops (L1 ++ (i', tag) :: L2) = opsOf ops L1 ++ (oi, tag) :: opsOf ops L2 := by
    unfold opsOf
    rw [List.filterMap_append, List.filterMap_cons]
    simp [hoi]
  rw [hops] at h
  have hreal : Real base n fr H := ⟨hb, c, a, w, hf, ht.sim⟩
  have hap : ∀ x ∈ opsOf ops L1, x.1.apart ops oi = true ∧ tagsApart x.2 tag = true ∧ ∀ d, x.1.dst = some d → d < n := by
    intro x hx
    unfold opsOf at hx
    obtain ⟨p, hpm, hpx⟩ := List.mem_filterMap.1 hx
    have hpl := inv.inside p (by simp [hpm])
    rw [Array.getElem?_eq_getElem hpl] at hpx
    simp only [Option.map_some, Option.some.injEq] at hpx
    subst hpx
    have hpk := hp1 p hpm
    unfold pairOk at hpk
    rw [Array.getElem?_eq_getElem hpl, hoi] at hpk
    simp only [Bool.and_eq_true, Bool.or_eq_true] at hpk
    rcases hpk.2 with h1 | h1
    · exfalso
      have h2 := waits_listed hw (fun i oi hi k hk => (hsz i oi hi k hk).1) inv.closed i' oi hoi hdl p.1 h1
      have h3 := (inv.left p.1 hpl).2 (by simp only [List.map_append, List.mem_append]; exact .inl (List.mem_map.2 ⟨p, hpm, rfl⟩))
      rw [getD_bool (by rw [inv.size]; exact hpl), h2] at h3
      cases h3
    · exact ⟨h1.1.1, h1.2, fun d hdd => hd p.1 _ (Array.getElem?_eq_getElem hpl) d hdd⟩
  have hb1 := bubble hE (opsOf ops L1) hap hreal h
  have hops2 : opsOf ops L1 ++ opsOf ops L2 = opsOf ops (L1 ++ L2) := by unfold opsOf; rw [List.filterMap_append]
  rw [hops2] at hb1
  obtain ⟨x, H1, hrun, hrest⟩ := wpOpsA_iff.1 hb1
  have inv' : DrawB ops (L1 ++ (L2 ++ R)) (listed.setIfInBounds i' true) := by
    refine ⟨by simp [inv.size], fun j hj => ?_, fun q hq => inv.inside q ?_, fun j oj hj hl k hk => ?_⟩
    · by_cases e : i' = j
      · subst e
        constructor
        · intro h1
          have : i' < listed.size := by rw [inv.size]; exact hj
          simp [Array.getD_eq_getD_getElem?, this] at h1
        · intro h1
          obtain ⟨q, hq, hq1⟩ := List.mem_map.1 h1
          exact absurd hq1 (hne q hq)
      · have e1 : (listed.setIfInBounds i' true).getD j true = listed.getD j true := by simp [Array.getD_eq_getD_getElem?, Array.getElem?_setIfInBounds_ne e]
        rw [e1, inv.left j hj]
        simp only [List.map_append, List.mem_append, List.map_cons, List.mem_cons]
        constructor
        · rintro (h1 | h1 | h1)
          · exact .inl h1
          · exact absurd h1.symm e
          · exact .inr h1
        · rintro (h1 | h1)
          · exact .inl h1
          · exact .inr (.inr h1)
    · rcases List.mem_append.1 hq with h1 | h1
      · simp [h1]
      · rcases List.mem_append.1 h1 with h1 | h1 <;> simp [h1]
    · have keep : ∀ k, listed.getD k false = true → (listed.setIfInBounds i' true).getD k false = true := by
        intro k h1
        by_cases e : i' = k
        · subst e
          have : i' < listed.size := by rw [inv.size]; exact hlt
          simp [Array.getD_eq_getD_getElem?, this]
        · simpa [Array.getD_eq_getD_getElem?, Array.getElem?_setIfInBounds_ne e] using h1
      by_cases e : i' = j
      · subst e
        rw [hoi] at hj
        cases hj
        exact keep k (hdl k hk)
      · have h1 : listed.getD j false = true := by simpa [Array.getD_eq_getD_getElem?, Array.getElem?_setIfInBounds_ne e] using hl
        exact keep k (inv.closed j oj hj h1 k hk)
  unfold wpOp
  simp only [hoi]
  rcases hrun with ⟨hg, hx⟩ | ⟨hg, rfl, rfl⟩
  · rw [guard_sound hf hg, if_pos rfl]
    refine .inl (stepA_sound hE (fun _ _ _ _ _ h => h) ht.sim hb hf (tag_step hx) fun v H' c' y w' hk hv htr => ?_)
    obtain ⟨rfl, rfl⟩ := hk
    exact ih _ _ c' _ _ inv' hrest ((hf.mono htr.ext).put (hd i' oi hoi) hv) (ht.trans htr) (Nat.le_trans hb htr.len)
  · rw [guard_sound hf hg, if_neg (by simp)]
    exact ih _ _ c _ _ inv' hrest (hf.put (hd i' oi hoi) (VRel.tup' (l := []) (l' := []) .nil)) ht hb
/-- One operation is drawn. -/
theorem draw_step {E : Env} (hE : EnvOk E) {f base n : Nat} {ops : Array Oper} {D : Cert} (hw : waitsOk ops D = true) (hsz : ∀ (i : Nat) (oi : Oper), ops[i]? = some oi → ∀ k ∈ directs oi, k < ops.size ∧ k ≠ i) (hd : ∀ (i : Nat) (o : Oper), ops[i]? = some o → ∀ d, o.dst = some d → d < n)
    {K : Fr → Heap → Prop} {Q : Exit → Act → World → Prop} {Kc : Act → World → Prop} {c0 : Ctx} {H0 : Heap} {w0 : World} {L1 L2 : List (Nat × Tag)} {i' : Nat} {tag : Tag} {listed : Array Bool} {fr : Fr} {H : Heap} {a : Act} {w : World} {c : Ctx}
    (inv : DrawB ops (L1 ++ (i', tag) :: L2) listed) (hp1 : ∀ p ∈ L1, pairOk ops D p (i', tag) = true) (hne : ∀ q ∈ L1 ++ L2, q.1 ≠ i') (hi : i' ∈ Region.ready .any ops listed)
    (h : wpOpsA E (CallOk E) f base ops (opsOf ops (L1 ++ (i', tag) :: L2)) fr H (upto K)) (hf : FRel c n fr a) (ht : Trans base c0 H0 w0 c H w) (hb : base ≤ H.length)
    (ih : ∀ fr' H' c' a' w', DrawB ops (L1 ++ L2) (listed.setIfInBounds i' true) → wpOpsA E (CallOk E) f base ops (opsOf ops (L1 ++ L2)) fr' H' (upto K) → FRel c' n fr' a' → Trans base c0 H0 w0 c' H' w' → base ≤ H'.length → Kc a' w') :
    wpOp E.P ops Q i' Kc a w :=
  draw_stepP (R := []) hE hw hsz hd (by rw [List.append_nil]; exact inv) hp1 (by rw [List.append_nil]; exact hne) hi h hf ht hb fun fr' H' c' a' w' inv' => ih fr' H' c' a' w' (by rw [List.append_nil] at inv'; exact inv')

theorem draw_main {E : Env} (hE : EnvOk E) {f base n : Nat} {ops : Array Oper} {D : Cert} (hw : waitsOk ops D = true) (hsz : ∀ (i : Nat) (oi : Oper), ops[i]? = some oi → ∀ k ∈ directs oi, k < ops.size ∧ k ≠ i) (hd : ∀ (i : Nat) (o : Oper), ops[i]? = some o → ∀ d, o.dst = some d → d < n)
    {K : Fr → Heap → Prop} {Q : Exit → Act → World → Prop} {c0 : Ctx} {H0 : Heap} {w0 : World} (hQ : ∀ fr' H' c' a' w', K fr' H' → FRel c' n fr' a' → Trans base c0 H0 w0 c' H' w' → Q .normal a' w') :
    ∀ (fuel : Nat) (L : List (Nat × Tag)) (listed : Array Bool) (fr : Fr) (H : Heap) (a : Act) (w : World) (c : Ctx), L.length ≤ fuel → DrawInv ops D L listed → wpOpsA E (CallOk E) f base ops (opsOf ops L) fr H (upto K) → FRel c n fr a →
      Trans base c0 H0 w0 c H w → base ≤ H.length → wpAny E.P .any ops Q fuel listed a w := by
  have done : ∀ (listed : Array Bool) (fr : Fr) (H : Heap) (a : Act) (w : World) (c : Ctx), wpOpsA E (CallOk E) f base ops (opsOf ops []) fr H (upto K) → FRel c n fr a → Trans base c0 H0 w0 c H w → Q .normal a w := by
    intro listed fr H a w c h hf ht
    obtain ⟨fr2, h1, h2⟩ := h
    exact hQ fr2 H c a w h2 (hf.fe fun t => (h1 t).symm) ht
  intro fuel
  induction fuel with
  | zero =>
    intro L listed fr H a w c hlen inv h hf ht hb
    have : L = [] := List.eq_nil_of_length_eq_zero (by omega)
    subst this
    exact ⟨alldone inv.base, done listed fr H a w c h hf ht⟩
  | succ fuel ih =>
    intro L listed fr H a w c hlen inv h hf ht hb
    refine ⟨fun hr => ?_, fun i hi => ?_⟩
    · cases L with
      | nil => exact done listed fr H a w c h hf ht
      | cons p L =>
        exact absurd hr (someready hsz inv.base fun x hx q hq => (pairOk_free (List.pairwise_cons.1 inv.pairs |>.1 q hq) hx).1)
    · obtain ⟨hun, oi, hoi, hall⟩ := mem_ready.1 hi
      have hlt := (Array.getElem?_eq_some_iff.1 hoi).1
      obtain ⟨p, hp, hp1⟩ := List.mem_map.1 ((inv.left i hlt).1 hun)
      obtain ⟨L1, L2, rfl⟩ := List.append_of_mem hp
      obtain ⟨i', tag⟩ := p
      simp only at hp1
      subst hp1
      have hpw := List.pairwise_append.1 inv.pairs
      refine draw_step hE hw hsz hd inv.base (fun p hpm => hpw.2.2 p hpm (i', tag) (by simp)) (fun q hq => ?_) hi h hf ht hb fun fr' H' c' a' w' inv' h' hf' ht' hb' => ?_
      · rcases List.mem_append.1 hq with h1 | h1
        · exact pairOk_ne (hpw.2.2 q h1 (i', tag) (by simp))
        · exact fun e => pairOk_ne ((List.pairwise_cons.1 hpw.2.1).1 q h1) e.symm
      · exact ih (L1 ++ L2) _ _ _ _ _ c' (by simp at hlen ⊢; omega) ⟨inv'.size, inv'.left, inv'.inside, List.pairwise_append.2 ⟨hpw.1, (List.pairwise_cons.1 hpw.2.1).2, fun p hp q hq => hpw.2.2 p hp q (by simp [hq])⟩, inv'.closed⟩ h' hf' ht' hb'

theorem wpOpsA_append {E : Env} {C : CallRel} {f base : Nat} {all : Array Oper} {l2 : List (Oper × Tag)} {K : Fr → Heap → Prop} : ∀ (l1 : List (Oper × Tag)) {fr : Fr} {H : Heap}, wpOpsA E C f base all l1 fr H (fun fr H => wpOpsA E C f base all l2 fr H K) → wpOpsA E C f base all (l1 ++ l2) fr H K
  | [], _, _, h => h
  | (o, t) :: l1, fr, H, h => by
    obtain ⟨x, H1, h1, h2⟩ := wpOpsA_iff.1 h
    exact wpOpsA_iff.2 ⟨x, H1, h1, wpOpsA_append l1 h2⟩
theorem opsOf_app (ops : Array Oper) (L1 L2 : List (Nat × Tag)) : opsOf ops (L1 ++ L2) = opsOf ops L1 ++ opsOf ops L2 := by unfold opsOf; rw [List.filterMap_append]
/-- Two that make a block each, in either order. -/
theorem draw_twin {E : Env} (hE : EnvOk E) {f base n : Nat} {ops : Array Oper} {D : Cert} (hw : waitsOk ops D = true) (hsz : ∀ (i : Nat) (oi : Oper), ops[i]? = some oi → ∀ k ∈ directs oi, k < ops.size ∧ k ≠ i) (hd : ∀ (i : Nat) (o : Oper), ops[i]? = some o → ∀ d, o.dst = some d → d < n)
    {K : Fr → Heap → Prop} {Q : Exit → Act → World → Prop} {c0 : Ctx} {H0 : Heap} {w0 : World} (hQ : ∀ fr' H' c' a' w', K fr' H' → FRel c' n fr' a' → Trans base c0 H0 w0 c' H' w' → Q .normal a' w') {i j : Nat × Tag} {post : List (Nat × Tag)}
    (hfree : freeOk ops i.1 j.1 = true) (hpost : ∀ q ∈ post, waitsFor D q.1 i.1 = true ∨ waitsFor D q.1 j.1 = true) :
    ∀ (fuel : Nat) (L : List (Nat × Tag)) (listed : Array Bool) (fr : Fr) (H : Heap) (a : Act) (w : World) (c : Ctx), (L ++ i :: j :: post).length ≤ fuel → DrawB ops (L ++ i :: j :: post) listed →
      (L ++ i :: post).Pairwise (fun p q => pairOk ops D p q = true) → (L ++ j :: post).Pairwise (fun p q => pairOk ops D p q = true) →
      wpOpsA E (CallOk E) f base ops (opsOf ops L) fr H (upto fun fr H => wpOpsA E (CallOk E) f base ops (opsOf ops (i :: j :: post)) fr H (upto K) ∧ wpOpsA E (CallOk E) f base ops (opsOf ops (j :: i :: post)) fr H (upto K)) → FRel c n fr a →
      Trans base c0 H0 w0 c H w → base ≤ H.length → wpAny E.P .any ops Q fuel listed a w := by
  have hij : (∀ x, ops[i.1]? = some x → (directs x).contains j.1 = false) ∧ (∀ y, ops[j.1]? = some y → (directs y).contains i.1 = false) ∧ i.1 ≠ j.1 := by
    unfold freeOk at hfree
    split at hfree
    · rename_i x y h1 h2
      simp only [Bool.and_eq_true, Bool.not_eq_true', bne_iff_ne, ne_eq] at hfree
      exact ⟨fun x' e => by rw [h1] at e; cases e; exact hfree.1.1, fun y' e => by rw [h2] at e; cases e; exact hfree.1.2, hfree.2⟩
    · cases hfree
  intro fuel
  induction fuel with
  | zero => intro L listed fr H a w c hlen; simp at hlen
  | succ fuel ih =>
    intro L listed fr H a w c hlen inv pi pj h hf ht hb
    have hpi := List.pairwise_append.1 pi
    have hpj := List.pairwise_append.1 pj
    refine ⟨fun hr => ?_, fun k hk => ?_⟩
    · cases L with
      | nil =>
        refine absurd hr (someready hsz inv fun x hx q hq => ?_)
        rcases List.mem_cons.1 hq with rfl | hq
        · exact hij.1 x hx
        · exact (pairOk_free ((List.pairwise_cons.1 hpi.2.1).1 q hq) hx).1
      | cons p L =>
        refine absurd hr (someready hsz inv fun x hx q hq => ?_)
        have e1 := (List.pairwise_cons.1 pi).1
        have e2 := (List.pairwise_cons.1 pj).1
        rcases List.mem_append.1 hq with hq | hq
        · exact (pairOk_free (e1 q (by simp [hq])) hx).1
        · rcases List.mem_cons.1 hq with rfl | hq
          · exact (pairOk_free (e1 _ (by simp)) hx).1
          · rcases List.mem_cons.1 hq with rfl | hq
            · exact (pairOk_free (e2 _ (by simp)) hx).1
            · exact (pairOk_free (e1 q (by simp [hq])) hx).1
    · obtain ⟨hun, ok, hok, hall⟩ := mem_ready.1 hk
      have hlt := (Array.getElem?_eq_some_iff.1 hok).1
      obtain ⟨p, hp, hp1⟩ := List.mem_map.1 ((inv.left k hlt).1 hun)
      subst hp1
      have hdl : ∀ k ∈ directs ok, listed.getD k false = true := by
        intro k hk
        obtain ⟨e, he, hbn, rfl⟩ := mem_directs.1 hk
        exact hall e he hbn
      have whole1 : wpOpsA E (CallOk E) f base ops (opsOf ops (L ++ i :: j :: post)) fr H (upto K) := by
        rw [opsOf_app]
        refine wpOpsA_append _ (wpOpsA_mono (fun _ _ _ _ _ h => h) _ (fun fr H h => ?_) h)
        obtain ⟨fr2, e, h1, _⟩ := h
        exact wpOpsA_fe _ e h1
      have whole2 : wpOpsA E (CallOk E) f base ops (opsOf ops (L ++ j :: i :: post)) fr H (upto K) := by
        rw [opsOf_app]
        refine wpOpsA_append _ (wpOpsA_mono (fun _ _ _ _ _ h => h) _ (fun fr H h => ?_) h)
        obtain ⟨fr2, e, _, h1⟩ := h
        exact wpOpsA_fe _ e h1
      have lenE : (L ++ j :: post).length ≤ fuel ∧ (L ++ i :: post).length ≤ fuel := by simp at hlen ⊢; omega
      rcases List.mem_append.1 hp with hpL | hpR
      · -- one ahead of both
        obtain ⟨L1, L2, rfl⟩ := List.append_of_mem hpL
        obtain ⟨k', tag⟩ := p
        have e : (L1 ++ (k', tag) :: L2) ++ i :: j :: post = L1 ++ (k', tag) :: (L2 ++ i :: j :: post) := by simp
        have hpl := List.pairwise_append.1 hpi.1
        refine draw_stepP hE hw hsz hd (L1 := L1) (L2 := L2) (R := i :: j :: post) (by rw [← e]; exact inv) (fun p hpm => hpl.2.2 p hpm (k', tag) (by simp)) (fun q hq => ?_) hk h hf ht hb fun fr' H' c' a' w' inv' h' hf' ht' hb' => ?_
        · rcases List.mem_append.1 hq with h1 | h1
          · exact pairOk_ne (hpl.2.2 q h1 (k', tag) (by simp))
          · rcases List.mem_append.1 h1 with h1 | h1
            · exact fun e => pairOk_ne ((List.pairwise_cons.1 hpl.2.1).1 q h1) e.symm
            · rcases List.mem_cons.1 h1 with rfl | h1
              · exact fun e => pairOk_ne (hpi.2.2 (k', tag) (by simp) q (by simp)) e.symm
              · rcases List.mem_cons.1 h1 with rfl | h1
                · exact fun e => pairOk_ne (hpj.2.2 (k', tag) (by simp) q (by simp)) e.symm
                · exact fun e => pairOk_ne (hpi.2.2 (k', tag) (by simp) q (by simp [h1])) e.symm
        · refine ih (L1 ++ L2) _ _ _ _ _ c' (by simp at hlen ⊢; omega) (by simpa using inv') ?_ ?_ h' hf' ht' hb'
          · exact pi.sublist (by simp)
          · exact pj.sublist (by simp)
      · rcases List.mem_cons.1 hpR with rfl | hpR
        · obtain ⟨k', tag⟩ := p
          refine draw_step hE hw hsz hd inv (fun p hpm => hpi.2.2 p hpm (k', tag) (by simp)) (fun q hq => ?_) hk whole1 hf ht hb fun fr' H' c' a' w' inv' h' hf' ht' hb' => draw_main hE hw hsz hd hQ fuel _ _ _ _ _ _ c' lenE.1 ⟨inv'.size, inv'.left, inv'.inside, pj, inv'.closed⟩ h' hf' ht' hb'
          rcases List.mem_append.1 hq with h1 | h1
          · exact pairOk_ne (hpi.2.2 q h1 (k', tag) (by simp))
          · rcases List.mem_cons.1 h1 with rfl | h1
            · exact fun e => hij.2.2 e.symm
            · exact fun e => pairOk_ne ((List.pairwise_cons.1 hpi.2.1).1 q h1) e.symm
        · rcases List.mem_cons.1 hpR with rfl | hpR
          · obtain ⟨k', tag⟩ := p
            have inv2 := inv.perm (L' := L ++ (k', tag) :: i :: post) (List.Perm.append_left _ (List.Perm.swap _ _ _))
            refine draw_step hE hw hsz hd inv2 (fun p hpm => hpj.2.2 p hpm (k', tag) (by simp)) (fun q hq => ?_) hk whole2 hf ht hb fun fr' H' c' a' w' inv' h' hf' ht' hb' => draw_main hE hw hsz hd hQ fuel _ _ _ _ _ _ c' lenE.2 ⟨inv'.size, inv'.left, inv'.inside, pi, inv'.closed⟩ h' hf' ht' hb'
            rcases List.mem_append.1 hq with h1 | h1
            · exact pairOk_ne (hpj.2.2 q h1 (k', tag) (by simp))
            · rcases List.mem_cons.1 h1 with rfl | h1
              · exact hij.2.2
              · exact fun e => pairOk_ne ((List.pairwise_cons.1 hpj.2.1).1 q h1) e.symm
          · -- what waits for one of them is not ready
            exfalso
            have no : ∀ y : Nat × Tag, y ∈ L ++ i :: j :: post → waitsFor D p.1 y.1 = true → False := fun y hy hwy => by
              have h2 := waits_listed hw (fun i oi hi k hk => (hsz i oi hi k hk).1) inv.closed p.1 ok hok hdl y.1 hwy
              have hil := inv.inside y hy
              have h3 := (inv.left y.1 hil).2 (List.mem_map.2 ⟨y, hy, rfl⟩)
              rw [getD_bool (by rw [inv.size]; exact hil), h2] at h3
              cases h3
            rcases hpost p hpR with h1 | h1
            · exact no i (by simp) h1
            · exact no j (by simp) h1

theorem pairsOk_pairwise {ops : Array Oper} {D : Cert} : ∀ (l : List (Nat × Tag)), pairsOk ops D l = true → l.Pairwise fun p q => pairOk ops D p q = true
  | [], _ => .nil
  | p :: l, h => by
    simp only [pairsOk, Bool.and_eq_true, List.all_eq_true] at h
    exact List.pairwise_cons.2 ⟨h.1, pairsOk_pairwise l h.2⟩

theorem filterMap_untw (ops : Array Oper) (l : List (Nat × Tag)) : (l.filterMap fun p => (ops[p.1]?).map fun o => (o, untwin p.2)) = opsOf ops (untw l) := by
  unfold opsOf untw
  rw [List.filterMap_map]
  rfl
theorem opsOf_len {ops : Array Oper} : ∀ {l : List (Nat × Tag)}, (∀ p ∈ l, p.1 < ops.size) → (opsOf ops l).length = l.length
  | [], _ => rfl
  | p :: l, h => by
    have hp := h p (by simp)
    have := opsOf_len (l := l) fun q hq => h q (by simp [hq])
    unfold opsOf at this ⊢
    rw [List.filterMap_cons, Array.getElem?_eq_getElem hp]
    simp [this]
theorem draw_sound {E : Env} (hE : EnvOk E) : DrawOk E := by
  intro C hC f base n id ops D hD hdst fr H K a w c h hf s hb Q hQ
  simp only [drawOk, Bool.and_eq_true] at hD
  obtain ⟨⟨⟨⟨⟨h1, h2⟩, h3⟩, h4⟩, h5⟩, h6⟩ := hD
  have hmap : (untw D.ord).map (·.1) = D.ord.map (·.1) := by unfold untw; rw [List.map_map]; rfl
  have hin : ∀ p ∈ untw D.ord, p.1 < ops.size := by
    intro p hp
    obtain ⟨q, hq, rfl⟩ := List.mem_map.1 hp
    simpa using List.all_eq_true.1 h5 q hq
  have hsz : ∀ (i : Nat) (oi : Oper), ops[i]? = some oi → ∀ k ∈ directs oi, k < ops.size ∧ k ≠ i := by
    intro i oi hi k hk
    have hlt := (Array.getElem?_eq_some_iff.1 hi).1
    have h7 := List.all_eq_true.1 h6 i (List.mem_range.2 hlt)
    simp only [hi] at h7
    have h8 := List.all_eq_true.1 h7 k hk
    simpa using h8
  have hlen : (untw D.ord).length = ops.size := by
    have : (D.ord.map (·.1)).length = ops.size := by simpa using h3
    unfold untw
    simp at this ⊢; omega
  have inv : DrawB ops (untw D.ord) (Array.replicate ops.size false) := by
    refine ⟨by simp, ?_, hin, ?_⟩
    · intro i hi
      have h7 := List.all_eq_true.1 h4 i (List.mem_range.2 hi)
      rw [hmap]
      constructor
      · intro _; simpa using h7
      · intro _; simp [Array.getD_eq_getD_getElem?, hi]
    · intro j oj hj hl
      have hlt := (Array.getElem?_eq_some_iff.1 hj).1
      simp [Array.getD_eq_getD_getElem?, hlt] at hl
  have hdd : ∀ (i : Nat) (o : Oper), ops[i]? = some o → ∀ d, o.dst = some d → d < n := fun i o hi d hd => dsts_region hdst hi hd
  rw [filterMap_untw] at h
  unfold ordOk at h2
  cases hk : twinPos (D.ord.map (·.2)) with
  | none =>
    rw [hk] at h h2
    simp only at h2
    exact wp_region_any hE.mixed (draw_main (f := f) hE (D := D) h1 hsz hdd (K := K) hQ ops.size (untw D.ord) (Array.replicate ops.size false) fr H a _ c (by omega) ⟨inv.size, inv.left, inv.inside, pairsOk_pairwise _ h2, inv.closed⟩
      (wpOpsA_mono hC _ (fun fr H hk => ⟨fr, fun _ => rfl, hk⟩) h) hf (.drew s) hb)
  | some k =>
    rw [hk] at h h2
    simp only at h2
    split at h2
    · rename_i i j post hdrop
      simp only [twinOk, Bool.and_eq_true] at h2
      obtain ⟨⟨⟨p1, p2⟩, p3⟩, p4⟩ := h2
      have hsplit : untw D.ord = (untw D.ord).take k ++ i :: j :: post := by rw [← hdrop, List.take_append_drop]
      have hkl : k ≤ (untw D.ord).length := by
        rcases Nat.le_total k (untw D.ord).length with h7 | h7
        · exact h7
        · rw [List.drop_eq_nil_of_le h7] at hdrop; cases hdrop
      generalize hpre : (untw D.ord).take k = pre at *
      have hprel : (opsOf ops pre).length = k := by
        rw [opsOf_len fun p hp => hin p (by rw [hsplit]; simp [hp]), ← hpre, List.length_take]; omega
      have hij : opsOf ops (untw D.ord) = opsOf ops pre ++ opsOf ops (i :: j :: post) := by rw [hsplit, opsOf_app]
      have e1 : (opsOf ops (untw D.ord)).take k = opsOf ops pre := by rw [hij, List.take_left' hprel]
      have e2 : (opsOf ops (untw D.ord)).drop k = opsOf ops (i :: j :: post) := by rw [hij, List.drop_left' hprel]
      have hil := hin i (by rw [hsplit]; simp)
      have hjl := hin j (by rw [hsplit]; simp)
      have e3 : swap1 (opsOf ops (i :: j :: post)) = opsOf ops (j :: i :: post) := by
        unfold opsOf
        simp only [List.filterMap_cons, Array.getElem?_eq_getElem hil, Array.getElem?_eq_getElem hjl, Option.map_some]
        rfl
      simp only [drawW, e1, e2, e3] at h
      refine wp_region_any hE.mixed (draw_twin (f := f) hE (D := D) h1 hsz hdd (K := K) hQ p3 (fun q hq => by simpa using List.all_eq_true.1 p4 q hq) ops.size pre (Array.replicate ops.size false) fr H a _ c (by rw [← hsplit]; omega) (by rw [← hsplit]; exact inv) (pairsOk_pairwise _ p1) (pairsOk_pairwise _ p2)
        (wpOpsA_mono hC _ (fun fr H hk => ⟨fr, fun _ => rfl, wpOpsA_mono hC _ (fun fr H hk => ⟨fr, fun _ => rfl, hk⟩) hk.1, wpOpsA_mono hC _ (fun fr H hk => ⟨fr, fun _ => rfl, hk⟩) hk.2⟩) h) hf (.drew s) hb)
    · cases h2
end Go.Proofs.YtoncolpkpgbfiaaDoor

/- From the interpreter to a statement: what it says of a function, the machine does, and writes nothing that was there. -/
set_option linter.unusedSimpArgs false
set_option linter.unusedVariables false
namespace Go.Proofs.YtoncolpkpgbfiaaDoor

/-- The lists that came in, by the blocks in which they lie. -/
def startCtx (z : Nat → Option (List Value)) : Ctx := { z := z, m := fun _ => none }
theorem startSim {z : Nat → Option (List Value)} {w : World} (hgl : ∀ b cs, GLOB b = some cs → z b = some cs) (h : ∀ b cs, z b = some cs → ∃ T fz, w.heap[b]? = some (.cells cs.toArray T fz)) : Sim (startCtx z) [] w :=
  ⟨fun id p h => by simp [startCtx] at h, fun id b h => by simp [liveAt] at h, fun id id' v v' b s s' h => by simp [startCtx] at h, fun id v b s h => by simp [startCtx] at h, fun id v b s h => by simp [startCtx] at h, h, hgl⟩

theorem Call.runs {E : Env} (hE : EnvOk E) (hG : ∀ f args v, E.given f args v → ∀ H, CallOk E f args H v H) {f : FuncId} {args : List AV} {v : AV} (h : Call E f args [] v []) {z : Nat → Option (List Value)} {w : World} (hgl : ∀ b cs, GLOB b = some cs → z b = some cs) (hz : ∀ b cs, z b = some cs → ∃ T fz, w.heap[b]? = some (.cells cs.toArray T fz)) {cargs : List Value}
    (ha : LRel (startCtx z) args cargs) : Calls E.P f cargs.toArray w fun e w' => (∃ c x, e = .returned x ∧ VRel c v x) ∧ Go.RowKit.Below w.heap.size w w' := by
  refine ((Call.ok hE (draw_sound hE) hG h).2 _ w cargs (startSim hgl hz) ha).mono fun e w' he => ?_
  obtain ⟨c', x, rfl, hv, ht⟩ := he
  refine ⟨⟨c', x, rfl, hv⟩, ht.alike.1, ht.alike.2.1, ht.alike.2.2, ht.grow, fun k hk => ht.unch k hk ?_⟩
  rintro ⟨id, v, s, hm⟩
  simp [startCtx] at hm

/-- Of a law: it answers true. -/
theorem Call.law {E : Env} (hE : EnvOk E) (hG : ∀ f args v, E.given f args v → ∀ H, CallOk E f args H v H) {f : FuncId} {args : List AV} (h : Call E f args [] (.bool true) []) {z : Nat → Option (List Value)} {w : World} (hgl : ∀ b cs, GLOB b = some cs → z b = some cs) (hz : ∀ b cs, z b = some cs → ∃ T fz, w.heap[b]? = some (.cells cs.toArray T fz)) {cargs : List Value}
    (ha : LRel (startCtx z) args cargs) : Calls E.P f cargs.toArray w fun e w' => e = .returned (.bool true) ∧ Go.RowKit.Below w.heap.size w w' := by
  refine (h.runs hE hG hgl hz ha).mono fun e w' ⟨⟨c, x, he, hv⟩, hb⟩ => ⟨?_, hb⟩
  rw [he, hv.inv_bool]
end Go.Proofs.YtoncolpkpgbfiaaDoor
