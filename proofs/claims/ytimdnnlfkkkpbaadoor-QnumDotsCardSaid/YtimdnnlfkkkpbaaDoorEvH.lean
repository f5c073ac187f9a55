/- What each operation does on the machine, by what the interpreter says of it: numbers; all operations without a call together. -/
import Derived.Test.YtimdnnlfkkkpbaaDoorEvG
import Derived.ChangeKeysEq
set_option linter.unusedVariables false
set_option linter.unusedSimpArgs false
namespace Go.Proofs.YtimdnnlfkkkpbaaDoor

theorem cmpI_sound {P : Program} {w : World} {op : BinOp} {a b : Int} {v : AV} (h : cmpI op a b = some v) : ∃ y, (Op.intCmp op a b).run P w = .ok y w ∧ ∀ c, VRel c v y := by
  cases op <;> simp only [cmpI, Option.some.injEq, reduceCtorEq] at h <;> subst h <;> exact ⟨_, rfl, fun c => .bool _⟩
theorem bitsI_sound {P : Program} {w : World} {op : BinOp} {k : IntKind} {a b : Int} {v : AV} (h : bitsI op k a b = some v) : ∃ y, (Op.intBits op k a b).run P w = .ok y w ∧ ∀ c, VRel c v y := by
  cases op <;> simp only [bitsI, Option.some.injEq, reduceCtorEq] at h <;> subst h <;> exact ⟨_, rfl, fun c => .int _ _⟩
theorem shiftI_sound {P : Program} {w : World} {op : BinOp} {k k' : IntKind} {a b : Int} {v : AV} (h : shiftI op k a b = some v) : ∃ y, (Op.shift op k a k' b).run P w = .ok y w ∧ ∀ c, VRel c v y := by
  unfold shiftI at h
  split at h
  · cases h
  · rename_i hb
    cases op <;> simp only [Option.some.injEq, reduceCtorEq] at h <;> subst h <;> exact ⟨_, by simp only [Op.shift, hb, if_false]; rfl, fun c => .int _ _⟩

theorem intI_sound {P : Program} {w : World} {t : TypeId} {op : BinOp} {k : IntKind} {a b : Int} {v : AV} (h : intI op k a b = some v) : ∃ y, (binOp op t (.int k a) (.int k b)).run P w = .ok y w ∧ ∀ c, VRel c v y := by
  cases op <;> simp only [intI, reduceCtorEq] at h
  case add => cases h; exact ⟨_, by simp [binOp, Op.intArith], fun c => .int _ _⟩
  case sub => cases h; exact ⟨_, by simp [binOp, Op.intArith], fun c => .int _ _⟩
  case mul => cases h; exact ⟨_, by simp [binOp, Op.intArith], fun c => .int _ _⟩
  case quo =>
    split at h
    · cases h
    · rename_i hb; cases h; exact ⟨_, by simp [binOp, Op.intDiv, hb], fun c => .int _ _⟩
  case rem =>
    split at h
    · cases h
    · rename_i hb; cases h; exact ⟨_, by simp [binOp, Op.intDiv, hb], fun c => .int _ _⟩
  case and => obtain ⟨y, h1, h2⟩ := bitsI_sound (P := P) (w := w) h; exact ⟨y, by simpa [binOp] using h1, h2⟩
  case or => obtain ⟨y, h1, h2⟩ := bitsI_sound (P := P) (w := w) h; exact ⟨y, by simpa [binOp] using h1, h2⟩
  case xor => obtain ⟨y, h1, h2⟩ := bitsI_sound (P := P) (w := w) h; exact ⟨y, by simpa [binOp] using h1, h2⟩
  case andNot => obtain ⟨y, h1, h2⟩ := bitsI_sound (P := P) (w := w) h; exact ⟨y, by simpa [binOp] using h1, h2⟩
  all_goals (obtain ⟨y, h1, h2⟩ := cmpI_sound (P := P) (w := w) h; exact ⟨y, by simpa [binOp] using h1, h2⟩)

theorem kd_iface {E : Env} (hE : EnvOk E) {t : TypeId} (h : E.kd t = some .iface) : ∃ ms, E.P.underlying t = some (.interface ms) := by
  obtain ⟨i, d, hi, hd, hk⟩ := kd_spec hE h
  cases d <;> simp only [kindOk, Bool.false_eq_true] at hk
  exact ⟨_, hd⟩
theorem kd_ptr {E : Env} (hE : EnvOk E) {t : TypeId} (h : E.kd t = some .ptr) : ∃ e, E.P.underlying t = some (.pointer e) := by
  obtain ⟨i, d, hi, hd, hk⟩ := kd_spec hE h
  cases d <;> simp only [kindOk, Bool.false_eq_true] at hk
  exact ⟨_, hd⟩
theorem kd_fn {E : Env} (hE : EnvOk E) {t : TypeId} (h : E.kd t = some .fn) : ∃ a b v, E.P.underlying t = some (.func a b v) := by
  obtain ⟨i, d, hi, hd, hk⟩ := kd_spec hE h
  cases d <;> simp only [kindOk, Bool.false_eq_true] at hk
  exact ⟨_, _, _, hd⟩
theorem kd_bool {E : Env} (hE : EnvOk E) {t : TypeId} (h : E.kd t = some .bool) : E.P.underlying t = some .bool := by
  obtain ⟨i, d, hi, hd, hk⟩ := kd_spec hE h
  cases d <;> simp only [kindOk, Bool.false_eq_true] at hk
  exact hd

theorem run_equal_of {P : Program} {w : World} {t : TypeId} {x y : Value} {b : Bool} (h : ∀ d, (Op.equalIn (d + 1) t x y).run P w = .ok b w) : (Op.equal t x y).run P w = .ok b w := h 9999
/-- '==' itself, as the machine does it. -/
theorem equal_sound {E : Env} (hE : EnvOk E) {c : Ctx} {w : World} {t : TypeId} {cst : Bool} {x y : AV} {x' y' : Value} (hx : VRel c x x') (hy : VRel c y y') {b : Bool} (h : eqA (E.kd t) cst x y = some b) :
    (Op.equal t x' y').run E.P w = .ok b w ∧ (∀ l l', x' ≠ .agg l ∨ y' ≠ .agg l') ∧ (x' = .nilIface → y' = .nilIface → cst = true) ∧ (∀ k n, x' ≠ .int k n) ∧ (∀ k n, x' ≠ .float k n) ∧ (∀ k n m, x' ≠ .complex k n m) ∧ (∀ s, x' ≠ .string s) := by
  unfold eqA at h
  split at h
  case h_12 => cases h
  all_goals (split at h <;> (try cases h))
  · rename_i hk
    obtain rfl := hx.inv_bool; obtain rfl := hy.inv_bool
    exact ⟨run_equal_bool w t _ _ (kd_bool hE hk), by simp, by simp, by simp, by simp, by simp, by simp⟩
  · rename_i hk
    split at h
    · rename_i hc
      cases h
      cases hx; cases hy
      obtain ⟨ms, hu⟩ := kd_iface hE hk
      exact ⟨run_equal_of fun d => by simp [Op.equalIn, run_underlying hu], by simp, fun _ _ => hc, by simp, by simp, by simp, by simp⟩
    · cases h
  · rename_i hk
    cases hx; cases hy
    obtain ⟨ms, hu⟩ := kd_iface hE hk
    exact ⟨run_equal_of fun d => by simp [Op.equalIn, run_underlying hu], by simp, by simp, by simp, by simp, by simp, by simp⟩
  · rename_i hk
    cases hx; cases hy
    obtain ⟨ms, hu⟩ := kd_iface hE hk
    exact ⟨run_equal_of fun d => by simp [Op.equalIn, run_underlying hu], by simp, by simp, by simp, by simp, by simp, by simp⟩
  · rename_i hk
    cases hx; cases hy
    obtain ⟨e, hu⟩ := kd_ptr hE hk
    exact ⟨run_equal_of fun d => by simp [Op.equalIn, run_underlying hu], by simp, by simp, by simp, by simp, by simp, by simp⟩
  · rename_i hk
    obtain ⟨e, hu⟩ := kd_ptr hE hk
    cases hx; cases hy <;> exact ⟨run_equal_of fun d => by simp [Op.equalIn, run_underlying hu], by simp, by simp, by simp, by simp, by simp, by simp⟩
  · rename_i hk
    obtain ⟨e, hu⟩ := kd_ptr hE hk
    cases hy; cases hx <;> exact ⟨run_equal_of fun d => by simp [Op.equalIn, run_underlying hu], by simp, by simp, by simp, by simp, by simp, by simp⟩
  · rename_i hk
    obtain ⟨a, b, v, hu⟩ := kd_fn hE hk
    cases hx; cases hy
    exact ⟨run_equal_of fun d => by simp [Op.equalIn, run_underlying hu], by simp, by simp, by simp, by simp, by simp, by simp⟩
  · rename_i hk
    obtain ⟨a, b, v, hu⟩ := kd_fn hE hk
    cases hx; cases hy
    exact ⟨run_equal_of fun d => by simp [Op.equalIn, run_underlying hu], by simp, by simp, by simp, by simp, by simp, by simp⟩
  · rename_i hk
    obtain ⟨a, b, v, hu⟩ := kd_fn hE hk
    cases hx; cases hy
    exact ⟨run_equal_of fun d => by simp [Op.equalIn, run_underlying hu], by simp, by simp, by simp, by simp, by simp, by simp⟩
  · rename_i e esz eb ez hk
    obtain ⟨hu, _⟩ := kd_slice hE hk
    cases hx; cases hy
    exact ⟨run_equal_of fun d => by simp [Op.equalIn, run_underlying hu], by simp, by simp, by simp, by simp, by simp, by simp⟩

theorem binOp_sound {E : Env} (hE : EnvOk E) {c : Ctx} {w : World} {t : TypeId} {op : BinOp} {ox oy : Operand} {x y v : AV} {x' y' : Value} (hx : VRel c x x') (hy : VRel c y y')
    (h : binA (E.kd t) (isConst ox || isConst oy) op x y = some v) :
    ∃ z, (do eqGuard op t ox oy x' y'; binOp op t x' y' : Sem Value).run E.P w = .ok z w ∧ VRel c v z := by
  have hint : ∀ k a b, x' = .int k a → y' = .int k b → intI op k a b = some v → ∃ z, (do eqGuard op t ox oy x' y'; binOp op t x' y' : Sem Value).run E.P w = .ok z w ∧ VRel c v z := by
    intro k a b e1 e2 hi
    subst e1 e2
    obtain ⟨z, h1, h2⟩ := intI_sound (P := E.P) (w := w) (t := t) hi
    refine ⟨z, ?_, h2 c⟩
    have hg : (eqGuard op t ox oy (.int k a) (.int k b)).run E.P w = .ok () w := by cases op <;> simp [eqGuard]
    rw [Sem.run_bind, hg, Result.andThen_ok, h1]
  have heq : ∀ b, eqA (E.kd t) (isConst ox || isConst oy) x y = some b → ∀ op', (op' = .eql ∨ op' = .neq) → (do eqGuard op' t ox oy x' y'; binOp op' t x' y' : Sem Value).run E.P w = .ok (.bool (if op' = .eql then b else !b)) w := by
    intro b hb op' ho
    obtain ⟨h1, h2, h3, h4, h5, h6, h7⟩ := equal_sound hE (w := w) hx hy hb
    have hg : (eqGuard op' t ox oy x' y').run E.P w = .ok () w := by
      rcases ho with rfl | rfl
      all_goals
        unfold eqGuard
        simp only [Bool.not_true, Bool.false_eq_true, if_false]
        split
        · have hc := h3 rfl rfl
          cases ox <;> cases oy <;> first
            | rfl
            | (exfalso; simp [isConst] at hc; done)
        · rename_i l l'
          rcases h2 l l' with hh | hh <;> exact absurd rfl hh
        · rfl
    rw [Sem.run_bind, hg, Result.andThen_ok]
    rcases ho with rfl | rfl
    · have : (binOp .eql t x' y').run E.P w = .ok (.bool b) w := by
        unfold binOp
        split <;> first
          | (exfalso; exact h4 _ _ rfl)
          | (exfalso; exact h5 _ _ rfl)
          | (exfalso; exact h6 _ _ _ rfl)
          | (exfalso; exact h7 _ rfl)
          | (rename_i hh; cases hh; done)
          | (simp [h1]; done)
          | skip
        all_goals simp_all
      simpa using this
    · have : (binOp .neq t x' y').run E.P w = .ok (.bool (!b)) w := by
        unfold binOp
        split <;> first
          | (exfalso; exact h4 _ _ rfl)
          | (exfalso; exact h5 _ _ rfl)
          | (exfalso; exact h6 _ _ _ rfl)
          | (exfalso; exact h7 _ rfl)
          | (rename_i hh; cases hh; done)
          | (simp [h1]; done)
          | skip
        all_goals simp_all
      simpa using this
  unfold binA at h
  split at h
  · rename_i k a k' b
    obtain rfl := hx.inv_int; obtain rfl := hy.inv_int
    obtain ⟨z, h1, h2⟩ := shiftI_sound (P := E.P) (w := w) (k' := k') h
    exact ⟨z, by simpa [eqGuard, binOp] using h1, h2 c⟩
  · rename_i k a k' b
    obtain rfl := hx.inv_int; obtain rfl := hy.inv_int
    obtain ⟨z, h1, h2⟩ := shiftI_sound (P := E.P) (w := w) (k' := k') h
    exact ⟨z, by simpa [eqGuard, binOp] using h1, h2 c⟩
  · rename_i k a k' b _ _
    split at h
    · rename_i hk
      subst hk
      exact hint k a b hx.inv_int hy.inv_int h
    · cases h
  · cases hb : eqA (E.kd t) (isConst ox || isConst oy) x y with
    | none => simp [hb] at h
    | some b =>
      simp only [hb, Option.map_some, Option.some.injEq] at h
      subst h
      exact ⟨_, heq b hb .eql (.inl rfl), .bool _⟩
  · cases hb : eqA (E.kd t) (isConst ox || isConst oy) x y with
    | none => simp [hb] at h
    | some b =>
      simp only [hb, Option.map_some, Option.some.injEq] at h
      subst h
      exact ⟨_, heq b hb .neq (.inr rfl), .bool _⟩
  · cases h

/-! ### '==' of structs and arrays of integers -/
def PI : List Value → List Value → Prop
  | [], [] => True
  | .int k _ :: r, .int k' _ :: r' => k = k' ∧ PI r r'
  | _, _ => False
def eqV : List Value → List Value → Bool
  | .int _ a :: r, .int _ b :: r' => (a == b) && eqV r r'
  | _, _ => true
theorem PI.len : ∀ {X Y : List Value}, PI X Y → X.length = Y.length
  | [], [], _ => rfl
  | .int _ _ :: r, .int _ _ :: r', h => by simp [PI.len h.2]
theorem PI.take : ∀ {X Y : List Value} (n : Nat), PI X Y → PI (X.take n) (Y.take n)
  | [], [], n, _ => by simp [PI]
  | .int _ _ :: r, .int _ _ :: r', 0, h => by simp [PI]
  | .int _ _ :: r, .int _ _ :: r', n + 1, h => by simp only [List.take_succ_cons, PI]; exact ⟨h.1, PI.take n h.2⟩
theorem PI.drop : ∀ {X Y : List Value} (n : Nat), PI X Y → PI (X.drop n) (Y.drop n)
  | [], [], n, _ => by simp [PI]
  | .int _ _ :: r, .int _ _ :: r', 0, h => h
  | .int _ _ :: r, .int _ _ :: r', n + 1, h => by simp only [List.drop_succ_cons]; exact PI.drop n h.2
theorem eqV_split : ∀ {X Y : List Value} (n : Nat), PI X Y → eqV X Y = (eqV (X.take n) (Y.take n) && eqV (X.drop n) (Y.drop n))
  | [], [], n, _ => by simp [eqV]
  | .int _ _ :: r, .int _ _ :: r', 0, h => by simp [eqV]
  | .int _ _ :: r, .int _ _ :: r', n + 1, h => by simp only [List.take_succ_cons, List.drop_succ_cons, eqV]; rw [eqV_split n h.2, Bool.and_assoc]
def valOf (ag : Bool) (X : List Value) : Value := if ag then .agg X.toArray else X.headD undef
theorem run_part_of {P : Program} {t : TypeId} {i : TypeInfo} {d : TypeDesc} (hi : P.info? t = some i) (hu : P.underlying t = some d) (X : List Value) (o : Nat) (h : o + i.size ≤ X.length) (h1 : isAggD d = false → i.size = 1) (w : World) :
    (part t X.toArray o).run P w = .ok (valOf (isAggD d) ((X.drop o).take i.size)) w := by
  unfold part
  simp only [Sem.run_bind, run_isAgg hu, Result.andThen_ok]
  cases hd : isAggD d with
  | true =>
    simp only [if_true, Sem.run_bind, run_sizeOf hi, Result.andThen_ok, Sem.run_pure, valOf]
    congr 2
    apply Array.ext'
    rw [Array.toList_extract]
    simp [List.extract]
  | false =>
    have e := h1 hd
    have ho : o < X.length := by omega
    simp only [Bool.false_eq_true, if_false, List.getElem?_toArray, List.getElem?_eq_getElem ho, Sem.run_pure, valOf, e]
    rw [List.drop_eq_getElem_cons ho]
    rfl
def FlatRun (P : Program) (D : Nat) (t : TypeId) (n : Nat) : Prop :=
  ∃ d i, P.underlying t = some d ∧ P.info? t = some i ∧ i.size = n ∧ (isAggD d = false → i.size = 1) ∧ ∀ (w : World) (X Y : List Value), PI X Y → X.length = n → (Op.equalIn D t (valOf (isAggD d) X) (valOf (isAggD d) Y)).run P w = .ok (eqV X Y) w
theorem flatFs_run {P : Program} {D : Nat} {ok : TypeId → Nat → Bool} (hok : ∀ t n, ok t n = true → FlatRun P D t n) (w : World) {X Y : List Value} (hp : PI X Y) : ∀ (fs : List Field) (o : Nat), flatFs P ok fs o X.length = true →
    o ≤ X.length → (Op.eqFields D X.toArray Y.toArray fs).run P w = .ok (eqV (X.drop o) (Y.drop o)) w
  | [], o, h, _ => by
    simp only [flatFs, beq_iff_eq] at h
    have hY := hp.len
    simp [Op.eqFields, h, List.drop_eq_nil_of_le (show Y.length ≤ X.length by omega), eqV]
  | f :: fs, o, h, ho => by
    simp only [flatFs, Bool.and_eq_true, bne_iff_ne, ne_eq, beq_iff_eq] at h
    obtain ⟨⟨hn, hoff⟩, h⟩ := h
    split at h
    · rename_i i hi
      simp only [Bool.and_eq_true] at h
      obtain ⟨d, i', hu, hi', hsz, h1, hrun⟩ := hok _ _ h.1
      rw [hi] at hi'
      cases hi'
      have hle : ∀ (fs : List Field) (o : Nat), flatFs P ok fs o X.length = true → o ≤ X.length := by
        intro fs
        induction fs with
        | nil => intro o h; simp only [flatFs, beq_iff_eq] at h; omega
        | cons g gs ih =>
          intro o h
          simp only [flatFs, Bool.and_eq_true] at h
          obtain ⟨_, h⟩ := h
          split at h
          · simp only [Bool.and_eq_true] at h; have := ih _ h.2; omega
          · cases h
      have hle2 := hle _ _ h.2
      have ih := flatFs_run hok w hp fs (o + i.size) h.2 hle2
      have hY := hp.len
      simp only [Op.eqFields, hn, not_false_eq_true, ne_eq, if_true, Sem.run_bind, hoff, run_part_of hi hu X o hle2 h1, run_part_of hi hu Y o (by omega) h1, Result.andThen_ok]
      rw [hrun w _ _ ((hp.drop o).take i.size) (by simp; omega), eqV_split i.size (hp.drop o)]
      simp only [Result.andThen_ok, List.drop_drop]
      cases eqV ((X.drop o).take i.size) ((Y.drop o).take i.size)
      · simp
      · simpa using ih
    · cases h
theorem flatItems_run {P : Program} {D : Nat} {e : TypeId} {i : TypeInfo} (hi : P.info? e = some i) (hr : FlatRun P D e i.size) (w : World) {X Y : List Value} (hp : PI X Y) : ∀ (k j : Nat), (j + k) * i.size = X.length →
    (Op.eqItems D e i.size X.toArray Y.toArray (List.range' j k)).run P w = .ok (eqV (X.drop (j * i.size)) (Y.drop (j * i.size))) w
  | 0, j, h => by
    have hY := hp.len
    rw [Nat.add_zero] at h
    rw [h]
    simp [Op.eqItems, List.drop_eq_nil_of_le (show Y.length ≤ X.length by omega), eqV]
  | k + 1, j, h => by
    obtain ⟨d, i', hu, hi', hsz, h1, hrun⟩ := hr
    rw [hi] at hi'
    cases hi'
    have e1 : (j + 1 + k) * i.size = X.length := by rw [← h]; congr 1; omega
    have ih := flatItems_run hi ⟨d, i, hu, hi, rfl, h1, hrun⟩ w hp k (j + 1) e1
    have e2 : (j + 1) * i.size = j * i.size + i.size := by rw [Nat.add_mul, Nat.one_mul]
    have hle : j * i.size + i.size ≤ X.length := by rw [← e1, ← e2]; exact Nat.mul_le_mul_right _ (by omega)
    have hY := hp.len
    rw [List.range'_succ]
    simp only [Op.eqItems, Sem.run_bind, run_part_of hi hu X (j * i.size) hle h1, run_part_of hi hu Y (j * i.size) (by omega) h1, Result.andThen_ok]
    rw [hrun w _ _ ((hp.drop _).take i.size) (by simp; omega), eqV_split i.size (hp.drop (j * i.size))]
    simp only [Result.andThen_ok, List.drop_drop]
    rw [e2] at ih
    cases eqV ((X.drop (j * i.size)).take i.size) ((Y.drop (j * i.size)).take i.size)
    · simp
    · simpa using ih
theorem flat_run {P : Program} : ∀ (d : Nat) (t : TypeId) (n : Nat), flatOk P d t n = true → ∀ D, FlatRun P (D + d) t n
  | 0, _, _, h => by simp [flatOk] at h
  | d + 1, t, n, h => by
    intro D
    rw [show D + (d + 1) = (D + d) + 1 from rfl]
    unfold flatOk at h
    split at h
    · rename_i k i hu hi
      simp only [Bool.and_eq_true, beq_iff_eq] at h
      obtain ⟨rfl, h2⟩ := h
      refine ⟨_, i, hu, hi, h2, fun _ => h2, fun w X Y hp hl => ?_⟩
      match X, Y, hp, hl with
      | [.int k1 a], [.int k2 b], hp, _ =>
        obtain ⟨rfl, _⟩ := hp
        have : (Op.equalIn ((D + d) + 1) t (.int k1 a) (.int k1 b)).run P w = .ok (a == b) w := run_equalIn_int w _ t k1 k a b hu
        simpa [valOf, isAggD, eqV] using this
      | .int _ _ :: _ :: _, .int _ _ :: _, hp, hl => simp at hl
    · rename_i fs i hu hi
      simp only [Bool.and_eq_true, Bool.not_eq_true', beq_iff_eq] at h
      obtain ⟨⟨hs, hsz⟩, hf⟩ := h
      refine ⟨_, i, hu, hi, hsz, fun h => by simp [isAggD] at h, fun w X Y hp hl => ?_⟩
      subst hl
      have hfs : P.fieldsOf t = fs := by simp [Program.fieldsOf, hu]
      have := flatFs_run (D := D + d) (fun t n h => flat_run d t n h D) w hp fs.toList 0 hf (Nat.zero_le _)
      have h2 := run_equalIn_struct w (D + d) t X.toArray Y.toArray (by rw [hfs]; exact hu) hs
      rw [hfs, this] at h2
      simpa [valOf, isAggD] using h2
    · rename_i len e i hu hi
      simp only [Bool.and_eq_true, beq_iff_eq] at h
      obtain ⟨hsz, h⟩ := h
      refine ⟨_, i, hu, hi, hsz, fun h => by simp [isAggD] at h, fun w X Y hp hl => ?_⟩
      subst hl
      split at h
      · rename_i j hj
        simp only [Bool.and_eq_true, beq_iff_eq] at h
        have := flatItems_run hj (flat_run d e j.size h.1.1 D) w hp len 0 (by simpa using h.2)
        have h2 := run_equalIn_array w (D + d) X.toArray Y.toArray hu hj
        rw [← h.1.2, List.range_eq_range', this] at h2
        simpa [valOf, isAggD] using h2
      · cases h
    · cases h

theorem allInts_rel {c : Ctx} : ∀ {a b : List AV} {X Y : List Value} {r : Bool}, allInts a b = some r → LRel c a X → LRel c b Y → PI X Y ∧ eqV X Y = r
  | [], [], X, Y, r, h, hx, hy => by
    have e1 : X = [] := List.eq_nil_of_length_eq_zero (by simpa using hx.1.symm)
    have e2 : Y = [] := List.eq_nil_of_length_eq_zero (by simpa using hy.1.symm)
    subst e1 e2
    simp only [allInts, Option.some.injEq] at h
    exact ⟨trivial, by simp [eqV, h]⟩
  | .int k a :: l, .int k' b :: l', X, Y, r, h, hx, hy => by
    obtain ⟨x, X', rfl, h1, h2⟩ := hx.head
    obtain ⟨y, Y', rfl, h3, h4⟩ := hy.head
    obtain rfl := h1.inv_int; obtain rfl := h3.inv_int
    simp only [allInts] at h
    split at h
    · rename_i hk
      cases hr : allInts l l' with
      | none => simp [hr] at h
      | some q =>
        simp only [hr, Option.map_some, Option.some.injEq] at h
        obtain ⟨h5, h6⟩ := allInts_rel hr h2 h4
        exact ⟨⟨hk, h5⟩, by simp [eqV, h6, h]⟩
    · cases h
theorem binB_sound {E : Env} (hE : EnvOk E) {c : Ctx} {w : World} {t : TypeId} {op : BinOp} {ox oy : Operand} {x y v : AV} {x' y' : Value} (hx : VRel c x x') (hy : VRel c y y')
    (h : binB E t (isConst ox || isConst oy) op x y = some v) :
    ∃ z, (do eqGuard op t ox oy x' y'; binOp op t x' y' : Sem Value).run E.P w = .ok z w ∧ VRel c v z := by
  have key : ∀ a b r, x = .agg a → y = .agg b → E.flat t = some a.length → allInts a b = some r → ∃ X Y, x' = .agg X ∧ y' = .agg Y ∧ (∀ op', (eqGuard op' t ox oy (.agg X) (.agg Y)).run E.P w = .ok () w) ∧ (Op.equalIn 10000 t (.agg X) (.agg Y)).run E.P w = .ok r w := by
    intro a b r e1 e2 hf hr
    subst e1 e2
    obtain ⟨X, rfl, hX⟩ := hx.inv_agg
    obtain ⟨Y, rfl, hY⟩ := hy.inv_agg
    have hfl := hE.flat t _ hf
    unfold flatAt at hfl
    split at hfl
    · rename_i i hi
      simp only [Bool.and_eq_true, Bool.not_eq_true', beq_iff_eq] at hfl
      obtain ⟨⟨⟨h0, h1⟩, h2⟩, h3⟩ := hfl
      obtain ⟨d, i', hu, hi', hsz, _, hrun⟩ := flat_run 20 t i.size h1 9980
      obtain ⟨hp, he⟩ := allInts_rel hr hX hY
      refine ⟨_, _, rfl, rfl, fun op' => run_eqGuard_agg w op' t ox oy _ _ h2, ?_⟩
      have hd : isAggD d = true := by
        rw [hu] at h3
        split at h3
        · rename_i e; cases e; rfl
        · rename_i e; cases e; rfl
        · cases h3
      have := hrun w X Y hp (by rw [h0]; exact hX.1.symm)
      rw [he] at this
      simpa [valOf, hd] using this
    · cases hfl
  unfold binB at h
  split at h
  · rename_i a b
    split at h
    · rename_i hf
      cases hr : allInts a b with
      | none => simp [hr] at h
      | some r =>
        simp only [hr, Option.map_some, Option.some.injEq] at h
        subst h
        obtain ⟨X, Y, rfl, rfl, h1, h2⟩ := key a b r rfl rfl hf hr
        exact ⟨.bool r, by rw [Sem.run_bind, h1, Result.andThen_ok, run_eql_struct, h2]; rfl, .bool _⟩
    · cases h
  · rename_i a b
    split at h
    · rename_i hf
      cases hr : allInts a b with
      | none => simp [hr] at h
      | some r =>
        simp only [hr, Option.map_some, Option.some.injEq] at h
        subst h
        obtain ⟨X, Y, rfl, rfl, h1, h2⟩ := key a b r rfl rfl hf hr
        exact ⟨.bool (!r), by rw [Sem.run_bind, h1, Result.andThen_ok, run_neq_struct, h2]; rfl, .bool _⟩
    · cases h
  · exact binOp_sound hE hx hy h

theorem unA_sound {P : Program} {c : Ctx} {w : World} {op : UnOp} {x v : AV} {x' : Value} (hx : VRel c x x') (h : unA op x = some v) : ∃ z, (Op.unary op x').run P w = .ok z w ∧ VRel c v z := by
  unfold unA at h
  split at h
  · obtain rfl := hx.inv_int
    cases h
    exact ⟨_, by simp [Op.unary, Op.intArith], .int _ _⟩
  · rename_i k n
    obtain rfl := hx.inv_int
    obtain ⟨z, h1, h2⟩ := bitsI_sound (P := P) (w := w) h
    exact ⟨z, by simpa [Op.unary] using h1, h2 c⟩
  · obtain rfl := hx.inv_bool
    cases h
    exact ⟨_, rfl, .bool _⟩
  · cases h

theorem convert_sound {E : Env} (hE : EnvOk E) {c : Ctx} {w : World} {s d : TypeId} {ks kd : TK} (hs : E.kd s = some ks) (hd : E.kd d = some kd) {x v : AV} {x' : Value} (hx : VRel c x x') (h : convertA ks kd x = some v) :
    ∃ z, (convert s d x').run E.P w = .ok z w ∧ VRel c v z := by
  unfold convertA at h
  split at h
  · rename_i k1 k2 k n
    obtain rfl := hx.inv_int
    cases h
    obtain ⟨i1, d1, _, hd1, hk1⟩ := kd_spec hE hs
    obtain ⟨i2, d2, _, hd2, hk2⟩ := kd_spec hE hd
    cases d1 <;> simp only [kindOk, Bool.false_eq_true] at hk1
    cases d2 <;> simp only [kindOk, Bool.false_eq_true] at hk2
    simp only [beq_iff_eq] at hk1 hk2
    subst hk1 hk2
    exact ⟨_, by simp [convert, run_underlying hd1, run_underlying hd2, Conv.intToInt], .int _ _⟩
  · cases h

theorem makeInterface_sound {E : Env} (hE : EnvOk E) {c : Ctx} {w : World} {t : TypeId} {k : TK} (hk : E.kd t = some k) {x v : AV} {x' : Value} (hx : VRel c x x') (h : makeInterfaceA k t x = some v) :
    ∃ z, (Instr.makeInterface t x').run E.P w = .ok z w ∧ VRel c v z := by
  obtain ⟨i, d, hi, hd, hkd⟩ := kd_spec hE hk
  unfold makeInterfaceA at h
  split at h
  · cases h
  · cases h
  · cases h
  · rename_i h1 h2 h3
    cases h
    refine ⟨.iface t x', ?_, .ifc _ _ _ hx⟩
    have hni : ∀ ms, d ≠ .interface ms := by
      intro ms e
      subst e
      cases k <;> simp only [kindOk, Bool.false_eq_true] at hkd
      exact h1 rfl
    unfold Instr.makeInterface
    rw [Sem.run_bind, run_underlying hd, Result.andThen_ok]
    cases d <;> first | rfl | (exact absurd rfl (hni _))

theorem arrayAt_sound {E : Env} (hE : EnvOk E) {c : Ctx} {w : World} {t : TypeId} {k : TK} (hk : E.kd t = some k) {x v : AV} {x' : Value} (hx : VRel c x x') (h : arrayAtA k x = some v) :
    ∃ z, (Instr.arrayAt t x').run E.P w = .ok z w ∧ VRel c v z := by
  unfold arrayAtA at h
  split at h
  · rename_i n esz ag cells len
    obtain ⟨e, i, d, hu, _⟩ := kd_array hE hk
    split at h
    · rename_i hc
      cases h
      cases hx with
      | lst _ _ b o cap cs h1 h2 h3 h4 =>
        refine ⟨.pointer (some ⟨b, o, none⟩), ?_, by simpa using VRel.lel cells 0 b o cs h2 h3 h4⟩
        have : ¬ len < n := by omega
        simp [Instr.arrayAt, run_underlying hu, this]
      | lst0 a cap => omega
    · cases h
  · rename_i n esz ag id ver off len cap e'
    obtain ⟨e, i, d, hu, _⟩ := kd_array hE hk
    split at h
    · rename_i hc
      cases h
      have hl : ¬ len < n := by omega
      cases hx with
      | sl _ _ _ _ _ _ b sz cap' h1 h2 h3 h4 => exact ⟨.pointer (some ⟨b, off, none⟩), by simp [Instr.arrayAt, run_underlying hu, hl], .ptr _ _ _ _ _ h1⟩
      | slNone _ _ _ h1 => omega
      | slOld _ _ _ _ _ _ ver' bk b cap' h1 h2 h3 h4 => exact ⟨.pointer (some ⟨b, off, none⟩), by simp [Instr.arrayAt, run_underlying hu, hl], .ptrOld _ _ _ _ _ _ h1 h2⟩
      | slOldNone _ _ _ ver' bk h1 h2 => omega
    · cases h
  · cases h

theorem nilCheck_sound {P : Program} {c : Ctx} {w : World} {x v : AV} {x' : Value} (hx : VRel c x x') (h : nilCheckA x = some v) (a : Act) (o : Operand) (he : a.eval o = x') {dst : Option Nat} {ty : TypeId} {pos : String} {aft : Array Edge} {g : Option (Nat × Bool)} :
    ∃ z, (execOp a.eval ⟨dst, .nilCheck o, ty, pos, aft, g⟩).run P w = .ok (.value z) w ∧ VRel c v z := by
  unfold nilCheckA at h
  split at h
  · cases h
    cases hx with
    | ptr _ _ _ b sz hm => exact ⟨_, by simp [execOp, he], .ptr _ _ _ _ _ hm⟩
    | ptrOld _ _ _ ver' bk b hm hl => exact ⟨.pointer (some ⟨b, _, none⟩), by simp [execOp, he], .ptrOld _ _ _ _ _ _ hm hl⟩
  · cases h
    cases hx with
    | lel _ _ b o' cs hz hl hr => exact ⟨_, by simp [execOp, he], .lel _ _ _ _ _ hz hl hr⟩
  · cases h
    obtain ⟨l, rfl, hr⟩ := hx.inv_fn
    exact ⟨_, by simp [execOp, he], VRel.fn' hr⟩
  · cases h

theorem PRel.of_map {c : Ctx} {n : Nat} {fr : Fr} {a : Act} (hf : FRel c n fr a) : ∀ (l : List (Nat × Operand)), PRel c (l.map fun p => (p.1, fr.ev p.2)) (l.map fun p => (p.1, a.eval p.2))
  | [] => .nil
  | (i, o) :: l => .cons i _ _ _ _ (hf.ev o) (PRel.of_map hf l)

theorem move_sound {base : Nat} {c : Ctx} {H : Heap} {w : World} (s : Sim c H w) (hb : base ≤ H.length) {x v : AV} {x' : Value} (hx : VRel c x x') {own : Bool} {k : Option TK} {H' : Heap} (h : moveA own k H x = some (v, H')) :
    ∃ c', VRel c' v x' ∧ Trans base c H w c' H' w := by
  unfold moveA at h
  split at h
  · cases hx
    split at h
    · split at h
      · simp only [Option.some.injEq, Prod.mk.injEq] at h
        obtain ⟨rfl, rfl⟩ := h
        exact ⟨_, .slNone _ _ _ (Ctx.add_same _ _ _ _), s.allocNone hb 0⟩
      · cases h
    · simp only [Option.some.injEq, Prod.mk.injEq] at h
      obtain ⟨rfl, rfl⟩ := h
      exact ⟨c, .nils, .refl s⟩
  · simp only [Option.some.injEq, Prod.mk.injEq] at h
    obtain ⟨rfl, rfl⟩ := h
    exact ⟨c, hx, .refl s⟩

theorem pickA_spec {x a b v : AV} {H H' : Heap} (h : pickA x a b H = some (v, H')) : ∃ t, x = .bool t ∧ H' = H ∧ v = if t then a else b := by
  unfold pickA at h
  split at h
  · rename_i t p q
    simp only [Option.some.injEq, Prod.mk.injEq] at h
    obtain ⟨rfl, rfl⟩ := h
    exact ⟨t, rfl, rfl, by cases t <;> rfl⟩
  · simp only [Option.some.injEq, Prod.mk.injEq] at h
    obtain ⟨rfl, rfl⟩ := h
    exact ⟨_, rfl, rfl, rfl⟩
  · cases h

set_option maxHeartbeats 2000000 in
/-- An operation without a call. -/
theorem opA_sound {E : Env} (hE : EnvOk E) {f base : Nat} {c : Ctx} {H : Heap} {w : World} (s : Sim c H w) (hb : base ≤ H.length) {n : Nat} {fr : Fr} {a : Act} (hf : FRel c n fr a) {o : Oper} {v : AV} {H' : Heap}
    (h : opA E f o.dst o.type fr H o.op = some (v, H')) : ∃ c' x w', (execOp a.eval o).run E.P w = .ok (.value x) w' ∧ VRel c' v x ∧ Trans base c H w c' H' w' := by
  obtain ⟨dst, op, ty, pos, aft, g⟩ := o
  have did : ∀ {s : Sem Value}, Did E base c H w s v H' → ∃ c' x w', (do pure (Next.value (← s)) : Sem Next).run E.P w = .ok (.value x) w' ∧ VRel c' v x ∧ Trans base c H w c' H' w' := by
    intro s ⟨c', x, w', h1, h2, h3⟩
    exact ⟨c', x, w', by simp [h1], h2, h3⟩
  have still : ∀ {q : Sem Value}, (∃ x, q.run E.P w = .ok x w ∧ VRel c v x) → H' = H → ∃ c' x w', (do pure (Next.value (← q)) : Sem Next).run E.P w = .ok (.value x) w' ∧ VRel c' v x ∧ Trans base c H w c' H' w' := by
    intro q ⟨x, h1, h2⟩ e
    subst e
    exact ⟨c, x, w, by simp [h1], h2, .refl s⟩
  cases op <;> simp only [opA, reduceCtorEq] at h
  case move x =>
    obtain ⟨c', h1, h2⟩ := move_sound (base := base) s hb (hf.ev x) h
    exact ⟨c', _, w, rfl, h1, h2⟩
  case assign x =>
    obtain ⟨c', h1, h2⟩ := move_sound (base := base) s hb (hf.ev x) h
    exact ⟨c', _, w, rfl, h1, h2⟩
  case pick oc oa ob =>
    obtain ⟨t, e1, rfl, rfl⟩ := pickA_spec h
    have hc := hf.ev oc
    rw [e1] at hc
    refine ⟨c, if t then a.eval oa else a.eval ob, w, by simp [execOp, asBool, hc.inv_bool], ?_, .refl s⟩
    cases t
    · exact hf.ev ob
    · exact hf.ev oa
  case alloc t =>
    cases ht : E.T t with
    | none => simp [ht] at h
    | some ti =>
      simp only [ht, Option.map_some, Option.some.injEq, Prod.mk.injEq] at h
      obtain ⟨rfl, rfl⟩ := h
      exact did (alloc_sound hE s hb ht _)
  case box t x =>
    cases hc : (fr.ev x).cells? with
    | none => simp [hc] at h
    | some cs =>
      simp only [hc, Option.map_some, Option.some.injEq, Prod.mk.injEq] at h
      obtain ⟨rfl, rfl⟩ := h
      exact did (box_sound s hb (hf.ev x) hc)
  case build t parts =>
    cases ht : E.T t with
    | none => simp [ht] at h
    | some ti =>
      simp only [ht, Option.bind_some] at h
      cases hv : buildA ti (parts.toList.map fun p => (p.1, fr.ev p.2)) with
      | none => simp [hv] at h
      | some u =>
        simp only [hv, Option.map_some, Option.some.injEq, Prod.mk.injEq] at h
        obtain ⟨rfl, rfl⟩ := h
        simp only [execOp]
        exact still (build_sound hE ht (parts' := parts.map fun p => (p.1, a.eval p.2)) (by rw [Array.toList_map]; exact PRel.of_map hf _) hv) rfl
  case buildSlice t len parts =>
    cases hk : E.kd t with
    | none => simp [hk] at h
    | some k =>
      simp only [hk, Option.bind_some] at h
      simp only [execOp]
      exact did (buildSlice_sound hE s hb hk (parts' := parts.map fun p => (p.1, a.eval p.2)) (by rw [Array.toList_map]; exact PRel.of_map hf _) h)
  case load t x =>
    cases ht : E.T t with
    | none => simp [ht] at h
    | some ti =>
      simp only [ht, Option.bind_some] at h
      cases hv : loadA ti H (fr.ev x) with
      | none => simp [hv] at h
      | some u =>
        simp only [hv, Option.map_some, Option.some.injEq, Prod.mk.injEq] at h
        obtain ⟨rfl, rfl⟩ := h
        obtain ⟨p, y, h1, h2, h3⟩ := s.load hE ht (hf.ev x) hv
        simp only [execOp, Instr.loadAt, h1, Instr.sureAddr]
        exact still ⟨y, by simpa using h2, h3⟩ rfl
  case nilCheck x =>
    cases hv : nilCheckA (fr.ev x) with
    | none => simp [hv] at h
    | some u =>
      simp only [hv, Option.map_some, Option.some.injEq, Prod.mk.injEq] at h
      obtain ⟨rfl, rfl⟩ := h
      obtain ⟨z, h1, h2⟩ := nilCheck_sound (P := E.P) (w := w) (hf.ev x) hv a x rfl (dst := dst) (ty := ty) (pos := pos) (aft := aft) (g := g)
      exact ⟨c, z, w, h1, h2, .refl s⟩
  case binOp op t x y u =>
    cases hv : binB E t (isConst x || isConst y) op (fr.ev x) (fr.ev y) with
    | none => simp [hv] at h
    | some u' =>
      simp only [hv, Option.map_some, Option.some.injEq, Prod.mk.injEq] at h
      obtain ⟨rfl, rfl⟩ := h
      simp only [execOp]
      exact still (binB_sound hE (hf.ev x) (hf.ev y) hv) rfl
  case unOp op t x =>
    cases hv : unA op (fr.ev x) with
    | none => simp [hv] at h
    | some u =>
      simp only [hv, Option.map_some, Option.some.injEq, Prod.mk.injEq] at h
      obtain ⟨rfl, rfl⟩ := h
      simp only [execOp]
      exact still (unA_sound (hf.ev x) hv) rfl
  case convert t u x =>
    cases hk : E.kd t with
    | none => simp [hk] at h
    | some k =>
      cases hk' : E.kd u with
      | none => simp [hk, hk'] at h
      | some k' =>
        simp only [hk, hk', Option.bind_some] at h
        cases hv : convertA k k' (fr.ev x) with
        | none => simp [hv] at h
        | some u =>
          simp only [hv, Option.map_some, Option.some.injEq, Prod.mk.injEq] at h
          obtain ⟨rfl, rfl⟩ := h
          simp only [execOp]
          exact still (convert_sound hE hk hk' (hf.ev x) hv) rfl
  case makeInterface t x =>
    cases hk : E.kd t with
    | none => simp [hk] at h
    | some k =>
      simp only [hk, Option.bind_some] at h
      cases hv : makeInterfaceA k t (fr.ev x) with
      | none => simp [hv] at h
      | some u =>
        simp only [hv, Option.map_some, Option.some.injEq, Prod.mk.injEq] at h
        obtain ⟨rfl, rfl⟩ := h
        simp only [execOp]
        exact still (makeInterface_sound hE hk (hf.ev x) hv) rfl
  case makeFunc fn first caps =>
    cases fn <;> simp only [reduceCtorEq] at h
    split at h
    · rename_i g' hs
      simp only [Option.some.injEq, Prod.mk.injEq] at h
      obtain ⟨rfl, rfl⟩ := h
      have hfirst : first = #[] := Array.eq_empty_of_size_eq_zero hs
      refine ⟨c, .func (.func g') #[] (caps.map a.eval), w, by simp [execOp, Instr.makeFunc, hfirst], ?_, .refl s⟩
      have := VRel.fn' (f := g') (LRel.map (c := c) caps.toList (g := fr.ev) (g' := a.eval) fun x _ => hf.ev x)
      have e2 : (List.map a.eval caps.toList).toArray = caps.map a.eval := by rw [← Array.toList_map, Array.toArray_toList]
      rw [e2] at this
      exact this
    · cases h
  case sliceToArrayPointer t x =>
    cases hk : E.kd t with
    | none => simp [hk] at h
    | some k =>
      simp only [hk, Option.bind_some] at h
      cases hv : arrayAtA k (fr.ev x) with
      | none => simp [hv] at h
      | some u =>
        simp only [hv, Option.map_some, Option.some.injEq, Prod.mk.injEq] at h
        obtain ⟨rfl, rfl⟩ := h
        simp only [execOp]
        exact still (arrayAt_sound hE hk (hf.ev x) hv) rfl
  case makeSlice t l m =>
    cases hk : E.kd t with
    | none => simp [hk] at h
    | some k =>
      simp only [hk, Option.bind_some] at h
      simp only [execOp]
      exact did (makeSlice_sound hE s hb hk (hf.ev l) (hf.ev m) h)
  case slice t x lo hi mx =>
    cases mx with
    | some m => simp at h
    | none =>
      simp only at h
      cases hk : E.kd t with
      | none => simp [hk] at h
      | some k =>
        simp only [hk, Option.bind_some] at h
        cases hv : sliceA H fr k (fr.ev x) lo hi with
        | none => simp [hv] at h
        | some u =>
          simp only [hv, Option.map_some, Option.some.injEq, Prod.mk.injEq] at h
          obtain ⟨rfl, rfl⟩ := h
          simp only [execOp, Option.map_none]
          exact still (slice_sound hE s hf hk (hf.ev x) hv) rfl
  case fieldAddr t x i =>
    cases hk : E.kd t with
    | none => simp [hk] at h
    | some k =>
      simp only [hk, Option.bind_some] at h
      cases hv : fieldAddrA k (fr.ev x) i with
      | none => simp [hv] at h
      | some u =>
        simp only [hv, Option.map_some, Option.some.injEq, Prod.mk.injEq] at h
        obtain ⟨rfl, rfl⟩ := h
        simp only [execOp]
        exact still (fieldAddr_sound hE hk (hf.ev x) hv) rfl
  case field t x i =>
    cases hk : E.kd t with
    | none => simp [hk] at h
    | some k =>
      simp only [hk, Option.bind_some] at h
      cases hv : fieldA k (fr.ev x) i with
      | none => simp [hv] at h
      | some u =>
        simp only [hv, Option.map_some, Option.some.injEq, Prod.mk.injEq] at h
        obtain ⟨rfl, rfl⟩ := h
        simp only [execOp]
        exact still (field_sound hE hk (hf.ev x) hv) rfl
  case indexAddr t x i =>
    cases hk : E.kd t with
    | none => simp [hk] at h
    | some k =>
      simp only [hk, Option.bind_some] at h
      cases hv : indexAddrA k (fr.ev x) (fr.ev i) with
      | none => simp [hv] at h
      | some u =>
        simp only [hv, Option.map_some, Option.some.injEq, Prod.mk.injEq] at h
        obtain ⟨rfl, rfl⟩ := h
        simp only [execOp]
        exact still (indexAddr_sound hE hk (hf.ev x) (hf.ev i) hv) rfl
  case index t x i =>
    cases hk : E.kd t with
    | none => simp [hk] at h
    | some k =>
      simp only [hk, Option.bind_some] at h
      cases hv : indexA k (fr.ev x) (fr.ev i) with
      | none => simp [hv] at h
      | some u =>
        simp only [hv, Option.map_some, Option.some.injEq, Prod.mk.injEq] at h
        obtain ⟨rfl, rfl⟩ := h
        simp only [execOp]
        exact still (index_sound hE hk (hf.ev x) (hf.ev i) hv) rfl
  case extract x i =>
    cases hv : extractA (fr.ev x) i with
    | none => simp [hv] at h
    | some u =>
      simp only [hv, Option.map_some, Option.some.injEq, Prod.mk.injEq] at h
      obtain ⟨rfl, rfl⟩ := h
      unfold extractA at hv
      split at hv
      · rename_i vs e1
        have hx := hf.ev x
        rw [e1] at hx
        obtain ⟨l', e2, hl⟩ := hx.inv_tup
        obtain ⟨y, h1, h2⟩ := hl.get hv
        simp only [execOp]
        refine still ⟨y, ?_, h2⟩ rfl
        rw [e2]
        simp [Instr.extract, h1]
      · cases hv
end Go.Proofs.YtimdnnlfkkkpbaaDoor
