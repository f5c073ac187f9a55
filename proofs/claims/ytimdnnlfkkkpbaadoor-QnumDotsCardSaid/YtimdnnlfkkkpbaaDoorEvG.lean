/- What each operation does on the machine, by what the interpreter says of it: places, slices, numbers. -/
import Derived.Test.YtimdnnlfkkkpbaaDoorEvF
set_option linter.unusedVariables false
set_option linter.unusedSimpArgs false
namespace Go.Proofs.YtimdnnlfkkkpbaaDoor

theorem run_indexAt_arr {P : Program} {w : World} {t e n : Nat} {i : TypeInfo} (hu : P.underlying t = some (.array n e)) (hi : P.info? e = some i) {k : IntKind} {x : Int} (h0 : 0 ≤ x) (h1 : x < n) (b off : Nat) :
    (Instr.indexAt t (.pointer (some ⟨b, off, none⟩)) (.int k x)).run P w = .ok (.pointer (some ⟨b, off + x.toNat * i.size, none⟩)) w := by
  unfold Instr.indexAt
  simp [asIntOf, Sem.run_bind, run_underlying hu, Instr.sureAddr, h0, h1, run_sizeOf hi, Addr.add_lit]
theorem run_indexAt_sl {P : Program} {w : World} {t e : Nat} {i : TypeInfo} (hu : P.underlying t = some (.slice e)) (hi : P.info? e = some i) {k : IntKind} {x : Int} {len cap : Nat} (h0 : 0 ≤ x) (h1 : x < len) (b off : Nat) :
    (Instr.indexAt t (.slice (some ⟨b, off, none⟩) len cap) (.int k x)).run P w = .ok (.pointer (some ⟨b, off + x.toNat * i.size, none⟩)) w := by
  unfold Instr.indexAt
  simp [asIntOf, Sem.run_bind, run_underlying hu, h0, h1, run_sizeOf hi, Addr.add_lit]

theorem indexAddr_sound {E : Env} (hE : EnvOk E) {c : Ctx} {w : World} {t : TypeId} {k : TK} (hk : E.kd t = some k) {x i v : AV} {x' i' : Value} (hx : VRel c x x') (hi : VRel c i i') (h : indexAddrA k x i = some v) :
    ∃ y, (Instr.indexAt t x' i').run E.P w = .ok y w ∧ VRel c v y := by
  unfold indexAddrA at h
  split at h
  · rename_i n esz ag id ver off ki j
    obtain rfl := hi.inv_int
    obtain ⟨e, ie, d, hu, hie, hes, _⟩ := kd_array hE hk
    split at h
    · rename_i hc
      cases h
      cases hx with
      | ptr _ _ _ b sz hm =>
        refine ⟨_, run_indexAt_arr hu hie hc.1 hc.2 b off, ?_⟩
        rw [hes]; exact .ptr _ _ _ _ _ hm
      | ptrOld _ _ _ ver' bk b hm hlt =>
        refine ⟨_, run_indexAt_arr hu hie hc.1 hc.2 b off, ?_⟩
        rw [hes]; exact .ptrOld _ _ _ _ _ _ hm hlt
    · cases h
  · rename_i n esz ag cs off ki j
    obtain rfl := hi.inv_int
    obtain ⟨e, ie, d, hu, hie, hes, _⟩ := kd_array hE hk
    split at h
    · rename_i hc
      cases h
      cases hx with
      | lel _ _ b o l hz hl hr =>
        refine ⟨_, run_indexAt_arr hu hie hc.1 hc.2 b (o + off), ?_⟩
        rw [hes, Nat.add_assoc]; exact .lel _ _ _ _ _ hz hl hr
    · cases h
  · rename_i e esz eb ez id ver off len cap esz' ki j
    obtain rfl := hi.inv_int
    obtain ⟨hu, ie, z, hie, hes, _⟩ := kd_slice hE hk
    split at h
    · rename_i hc
      cases h
      cases hx with
      | sl _ _ _ _ _ _ b sz cap' hm _ _ _ =>
        refine ⟨_, run_indexAt_sl hu hie hc.1 hc.2.1 b off, ?_⟩
        rw [hes]; exact .ptr _ _ _ _ _ hm
      | slNone _ _ _ hm => exfalso; have := hc.1; have := hc.2.1; omega
      | slOld _ _ _ _ _ _ ver' bk b cap' hm hlt _ _ =>
        refine ⟨_, run_indexAt_sl hu hie hc.1 hc.2.1 b off, ?_⟩
        rw [hes]; exact .ptrOld _ _ _ _ _ _ hm hlt
      | slOldNone _ _ _ _ _ hm hlt => exfalso; have := hc.1; have := hc.2.1; omega
    · cases h
  · rename_i e esz eb ez cs len ki j
    obtain rfl := hi.inv_int
    obtain ⟨hu, ie, z, hie, hes, _⟩ := kd_slice hE hk
    split at h
    · rename_i hc
      cases h
      cases hx with
      | lst _ _ b o cap l hcap hz hl hr =>
        refine ⟨_, run_indexAt_sl hu hie hc.1 hc.2 b o, ?_⟩
        rw [hes]; exact .lel _ _ _ _ _ hz hl hr
      | lst0 a cap => exfalso; have := hc.1; have := hc.2; omega
    · cases h
  · cases h

theorem index_sound {E : Env} (hE : EnvOk E) {c : Ctx} {w : World} {t : TypeId} {k : TK} (hk : E.kd t = some k) {x i v : AV} {x' i' : Value} (hx : VRel c x x') (hi : VRel c i i') (h : indexA k x i = some v) :
    ∃ y, (Instr.index t x' i').run E.P w = .ok y w ∧ VRel c v y := by
  unfold indexA at h
  split at h
  · rename_i n esz ag cs ki j
    obtain rfl := hi.inv_int
    obtain ⟨e, ie, d, hu, hie, hes, hd, hag, _⟩ := kd_array hE hk
    obtain ⟨cs', rfl, hr⟩ := hx.inv_agg
    split at h
    · rename_i hc
      obtain ⟨y, h1, h2⟩ := run_part (w := w) hie hd hr (off := j.toNat * esz) (v := v) (by rw [hes, hag]; exact h)
      refine ⟨y, ?_, h2⟩
      unfold Instr.index
      simp only [asIntOf, Sem.run_bind, Sem.run_pure, Result.andThen_ok, run_underlying hu, hc, and_self, if_true, run_sizeOf hie, hes, h1]
    · cases h
  · rename_i s ki j
    obtain rfl := hi.inv_int
    obtain rfl := hx.inv_str
    obtain ⟨i, d, _, hd, hkd⟩ := kd_spec hE hk
    cases d <;> simp only [kindOk, Bool.false_eq_true] at hkd
    split at h
    · rename_i hc
      cases hs : s[j.toNat]? with
      | none => simp [hs] at h
      | some b =>
        simp only [hs, Option.map_some, Option.some.injEq] at h
        subst h
        refine ⟨_, ?_, .int _ _⟩
        unfold Instr.index
        simp only [asIntOf, Sem.run_bind, Sem.run_pure, Result.andThen_ok, run_underlying hd, hc, if_true, hs]
    · cases h
  · cases h

theorem bound_rel {c : Ctx} {n : Nat} {fr : Fr} {a : Act} (hf : FRel c n fr a) {d l : Int} {o : Option Operand} (h : boundA fr d o = some l) : (o = none ∧ l = d) ∨ ∃ k, o.map a.eval = some (.int k l) := by
  cases o with
  | none => simp only [boundA, Option.some.injEq] at h; exact .inl ⟨rfl, h.symm⟩
  | some o =>
    simp only [boundA] at h
    split at h
    · rename_i k m he
      cases h
      have := hf.ev o
      rw [he] at this
      exact .inr ⟨k, by simp [this.inv_int]⟩
    · cases h

theorem run_bounds {P : Program} {w : World} {sl : Bool} {len cap : Nat} {lo hi : Option Value} {l h : Int} (hl : (lo = none ∧ l = 0) ∨ ∃ k, lo = some (.int k l)) (hh : (hi = none ∧ h = len) ∨ ∃ k, hi = some (.int k h))
    (h0 : 0 ≤ l) (h1 : l ≤ h) (h2 : h ≤ cap) : (Instr.sliceBounds sl len cap lo hi none).run P w = .ok (l.toNat, h.toNat, cap) w := by
  have eh : (h.toNat : Int) = h := Int.toNat_of_nonneg (by omega)
  rcases hl with ⟨rfl, rfl⟩ | ⟨kl, rfl⟩ <;> rcases hh with ⟨rfl, rfl⟩ | ⟨kh, rfl⟩
  · simp [Instr.sliceBounds]
  · simp [Instr.sliceBounds, run_sliceBound _ _ _ _ _ (show 0 ≤ h by omega) h2]
  · simp [Instr.sliceBounds, run_sliceBound _ _ _ _ _ h0 (show l ≤ ((len : Nat) : Int) by omega)]
  · simp [Instr.sliceBounds, run_sliceBound _ _ _ _ _ (show 0 ≤ h by omega) h2, run_sliceBound _ _ _ _ _ h0 (show l ≤ ((h.toNat : Nat) : Int) by omega)]

theorem slice_sound {E : Env} (hE : EnvOk E) {c : Ctx} {H : Heap} {w : World} (sm : Sim c H w) {n : Nat} {fr : Fr} {a : Act} (hf : FRel c n fr a) {t : TypeId} {k : TK} (hk : E.kd t = some k) {x v : AV} {x' : Value} (hx : VRel c x x') {lo hi : Option Operand} (h : sliceA H fr k x lo hi = some v) :
    ∃ y, (Instr.sliceAt t x' (lo.map a.eval) (hi.map a.eval) none).run E.P w = .ok y w ∧ VRel c v y := by
  unfold sliceA at h
  split at h
  · rename_i m esz ag id ver off
    cases hl : boundA fr 0 lo with
    | none => simp [hl] at h
    | some l =>
      cases hh : boundA fr m hi with
      | none => simp [hl, hh] at h
      | some r =>
        simp only [hl, hh, Option.bind_some] at h
        cases hblk : blkAt H id ver with
        | none => simp [hblk] at h
        | some blk =>
        simp only [hblk, Option.bind_some] at h
        split at h
        · rename_i hc
          obtain ⟨h0, h1, h2, h9⟩ := hc
          obtain ⟨e, ie, d, hu, hie, hes, _⟩ := kd_array hE hk
          obtain ⟨bb, sz, cs, T, rfl, hm, hbk, rfl, hle, hr⟩ := sm.ptr hx hblk
          have hlo : (lo.map a.eval = none ∧ l = 0) ∨ ∃ k, lo.map a.eval = some (.int k l) := by
            rcases bound_rel hf hl with ⟨e1, e2⟩ | e1
            · exact .inl ⟨by rw [e1]; rfl, e2⟩
            · exact .inr e1
          have hhi : (hi.map a.eval = none ∧ r = (m : Int)) ∨ ∃ k, hi.map a.eval = some (.int k r) := by
            rcases bound_rel hf hh with ⟨e1, e2⟩ | e1
            · exact .inl ⟨by rw [e1]; rfl, e2⟩
            · exact .inr e1
          have hb := run_bounds (P := E.P) (w := w) (sl := false) (cap := m) hlo hhi h0 h1 h2
          have hrun : ∀ b, (Instr.sliceAt t (.pointer (some ⟨b, off, none⟩)) (lo.map a.eval) (hi.map a.eval) none).run E.P w =
              .ok (.slice (some (if m = l.toNat then ⟨b, off, none⟩ else (⟨b, off, none⟩ : Addr).add (l.toNat * ie.size))) (r.toNat - l.toNat) (m - l.toNat)) w := by
            intro b
            unfold Instr.sliceAt
            simp only [Sem.run_bind, run_underlying hu, Result.andThen_ok, Instr.sureAddr, Sem.run_pure, hb, run_sizeOf hie]
          by_cases hlr : l = r
          · rw [if_pos hlr] at h
            cases h
            subst hlr
            exact ⟨_, hrun bb, by rw [Nat.sub_self]; exact .lst0 _ _⟩
          · rw [if_neg hlr] at h
            cases h
            have hne : m ≠ l.toNat := by omega
            refine ⟨_, hrun bb, ?_⟩
            rw [if_neg hne, Addr.add_lit, hes]
            refine .sl _ _ _ _ _ _ _ _ _ hm (Nat.le_refl _) (by omega) ?_
            have e1 : (m - l.toNat) * esz = m * esz - l.toNat * esz := Nat.sub_mul _ _ _
            have e2 : l.toNat * esz ≤ m * esz := Nat.mul_le_mul_right _ (by omega)
            omega
        · cases h
  · rename_i e esz eb ez id ver off len cap esz'
    cases hl : boundA fr 0 lo with
    | none => simp [hl] at h
    | some l =>
      cases hh : boundA fr len hi with
      | none => simp [hl, hh] at h
      | some r =>
        simp only [hl, hh, Option.bind_some] at h
        split at h
        · rename_i hc
          obtain ⟨h0, h1, h2, rfl⟩ := hc
          obtain ⟨hu, ie, z, hie, hes, _⟩ := kd_slice hE hk
          have hlo : (lo.map a.eval = none ∧ l = 0) ∨ ∃ k, lo.map a.eval = some (.int k l) := by
            rcases bound_rel hf hl with ⟨e1, e2⟩ | e1
            · exact .inl ⟨by rw [e1]; rfl, e2⟩
            · exact .inr e1
          have hhi : (hi.map a.eval = none ∧ r = (len : Int)) ∨ ∃ k, hi.map a.eval = some (.int k r) := by
            rcases bound_rel hf hh with ⟨e1, e2⟩ | e1
            · exact .inl ⟨by rw [e1]; rfl, e2⟩
            · exact .inr e1
          have hrun : ∀ (q : Option Addr) (cap' : Nat), len ≤ cap' → (Instr.sliceAt t (.slice q len cap') (lo.map a.eval) (hi.map a.eval) none).run E.P w =
              .ok (.slice (if cap' = l.toNat then q else q.map (·.add (l.toNat * ie.size))) (r.toNat - l.toNat) (cap' - l.toNat)) w := by
            intro q cap' hle
            have hb := run_bounds (P := E.P) (w := w) (sl := true) (cap := cap') hlo hhi h0 h1 (by omega)
            unfold Instr.sliceAt
            simp only [Sem.run_bind, run_underlying hu, Result.andThen_ok]
            unfold Instr.slice
            simp only [Sem.run_bind, run_underlying hu, Result.andThen_ok, hb, run_sizeOf hie, Sem.run_pure]
          by_cases hlr : l = r
          · rw [if_pos hlr] at h
            cases h
            subst hlr
            cases hx with
            | sl _ _ _ _ _ _ b sz cap' hm g1 g2 g3 => exact ⟨_, hrun _ cap' (by omega), by rw [Nat.sub_self]; exact .lst0 _ _⟩
            | slNone _ _ _ hm => exact ⟨_, hrun _ 0 (by omega), by rw [Nat.sub_self]; exact .lst0 _ _⟩
            | slOld _ _ _ _ _ _ ver' bk b cap' hm hlt g1 g2 => exact ⟨_, hrun _ cap' (by omega), by rw [Nat.sub_self]; exact .lst0 _ _⟩
            | slOldNone _ _ _ ver' bk hm hlt => exact ⟨_, hrun _ 0 (by omega), by rw [Nat.sub_self]; exact .lst0 _ _⟩
          · rw [if_neg hlr] at h
            cases h
            cases hx with
            | sl _ _ _ _ _ _ b sz cap' hm g1 g2 g3 =>
              refine ⟨_, hrun _ cap' (by omega), ?_⟩
              rw [if_neg (by omega)]
              simp only [Option.map_some, Addr.add_lit, hes]
              refine .sl _ _ _ _ _ _ _ _ _ hm (by omega) (by omega) ?_
              have e1 : (cap' - l.toNat) * esz' = cap' * esz' - l.toNat * esz' := Nat.sub_mul _ _ _
              have e2 : l.toNat * esz' ≤ cap' * esz' := Nat.mul_le_mul_right _ (by omega)
              omega
            | slNone _ _ _ hm => exfalso; omega
            | slOld _ _ _ _ _ _ ver' bk b cap' hm hlt g1 g2 =>
              refine ⟨_, hrun _ cap' (by omega), ?_⟩
              rw [if_neg (by omega)]
              simp only [Option.map_some, Addr.add_lit, hes]
              exact .slOld _ _ _ _ _ _ _ _ _ _ hm hlt (by omega) (by omega)
            | slOldNone _ _ _ ver' bk hm hlt => exfalso; omega
        · cases h
  · rename_i e esz eb ez cells len
    cases hl : boundA fr 0 lo with
    | none => simp [hl] at h
    | some l =>
      cases hh : boundA fr len hi with
      | none => simp [hl, hh] at h
      | some r =>
        simp only [hl, hh, Option.bind_some] at h
        split at h
        · rename_i hc
          obtain ⟨h0, h1, h2, h3⟩ := hc
          obtain ⟨hu, ie, z, hie, hes, _⟩ := kd_slice hE hk
          have hlo : (lo.map a.eval = none ∧ l = 0) ∨ ∃ k, lo.map a.eval = some (.int k l) := by
            rcases bound_rel hf hl with ⟨e1, e2⟩ | e1
            · exact .inl ⟨by rw [e1]; rfl, e2⟩
            · exact .inr e1
          have hhi : (hi.map a.eval = none ∧ r = (len : Int)) ∨ ∃ k, hi.map a.eval = some (.int k r) := by
            rcases bound_rel hf hh with ⟨e1, e2⟩ | e1
            · exact .inl ⟨by rw [e1]; rfl, e2⟩
            · exact .inr e1
          have hrun : ∀ (q : Option Addr) (cap' : Nat), len ≤ cap' → (Instr.sliceAt t (.slice q len cap') (lo.map a.eval) (hi.map a.eval) none).run E.P w =
              .ok (.slice (if cap' = l.toNat then q else q.map (·.add (l.toNat * ie.size))) (r.toNat - l.toNat) (cap' - l.toNat)) w := by
            intro q cap' hle
            have hb := run_bounds (P := E.P) (w := w) (sl := true) (cap := cap') hlo hhi h0 h1 (by omega)
            unfold Instr.sliceAt
            simp only [Sem.run_bind, run_underlying hu, Result.andThen_ok]
            unfold Instr.slice
            simp only [Sem.run_bind, run_underlying hu, Result.andThen_ok, hb, run_sizeOf hie, Sem.run_pure]
          by_cases hlr : l = r
          · rw [if_pos hlr] at h
            cases h
            subst hlr
            cases hx with
            | lst _ _ b o cap' cs hcap hz hll hr => exact ⟨_, hrun _ cap' hcap, by rw [Nat.sub_self]; exact .lst0 _ _⟩
            | lst0 q cap' => exact ⟨_, hrun q cap' (by omega), by rw [Nat.sub_self]; exact .lst0 _ _⟩
          · rw [if_neg hlr] at h
            cases h
            cases hx with
            | lst _ _ b o cap' cs hcap hz hll hr =>
              refine ⟨_, hrun _ cap' hcap, ?_⟩
              rw [if_neg (by omega)]
              simp only [Option.map_some, Addr.add_lit, hes]
              have e1 : (r.toNat - l.toNat) * esz = r.toNat * esz - l.toNat * esz := Nat.sub_mul _ _ _
              have e2 : l.toNat * esz ≤ r.toNat * esz := Nat.mul_le_mul_right _ (by omega)
              have hlen : ((cells.drop (l.toNat * esz)).take ((r.toNat - l.toNat) * esz)).length = (r.toNat - l.toNat) * esz := by simp; omega
              refine .lst _ _ _ _ _ cs (by omega) hz (by rw [hlen]; omega) fun i hi => ?_
              rw [hlen] at hi
              have h9 := hr (l.toNat * esz + i) (by omega)
              rw [List.getD_eq_getElem?_getD, List.getElem?_take, if_pos hi, List.getElem?_drop, Nat.add_assoc, ← List.getD_eq_getElem?_getD]
              exact h9
            | lst0 q cap' => exfalso; omega
        · cases h
  · cases hl : boundA fr 0 lo with
    | none => simp [hl] at h
    | some l =>
      cases hh : boundA fr 0 hi with
      | none => simp [hl, hh] at h
      | some r =>
        simp only [hl, hh, Option.bind_some] at h
        split at h
        · rename_i e esz eb ez hc
          obtain ⟨rfl, rfl⟩ := hc
          cases h
          obtain ⟨hu, ie, z, hie, hes, _⟩ := kd_slice hE hk
          cases hx
          have hlo : (lo.map a.eval = none ∧ (0 : Int) = 0) ∨ ∃ k, lo.map a.eval = some (.int k 0) := by
            rcases bound_rel hf hl with ⟨e1, e2⟩ | e1
            · exact .inl ⟨by rw [e1]; rfl, e2⟩
            · exact .inr e1
          have hhi : (hi.map a.eval = none ∧ (0 : Int) = ((0 : Nat) : Int)) ∨ ∃ k, hi.map a.eval = some (.int k 0) := by
            rcases bound_rel hf hh with ⟨e1, e2⟩ | e1
            · exact .inl ⟨by rw [e1]; rfl, rfl⟩
            · exact .inr e1
          have hb := run_bounds (P := E.P) (w := w) (sl := true) (cap := 0) hlo hhi (by omega) (by omega) (by omega)
          refine ⟨.slice none 0 0, ?_, .nils⟩
          unfold Instr.sliceAt
          simp only [Sem.run_bind, run_underlying hu, Result.andThen_ok]
          unfold Instr.slice
          simp only [Sem.run_bind, run_underlying hu, Result.andThen_ok, hb, run_sizeOf hie, Sem.run_pure]
          simp
        · cases h
  · cases h
end Go.Proofs.YtimdnnlfkkkpbaaDoor
