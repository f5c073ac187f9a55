/- What comes in, as the interpreter's values. -/
import Derived.Test.YtoncolpkpgbfiaaDoorEvN
import Derived.WalkKit
import Derived.ProofKit
import Derived.OpenShut
import Derived.Deep.Slices
set_option linter.unusedSimpArgs false
set_option linter.unusedVariables false
namespace Go.Proofs.YtoncolpkpgbfiaaDoor
open Go.ChangeShapes Go.WideShapes Go.ChangeAt Go.RowKit
theorem rowAt_froz (w : World) : ∀ b cs, rowAt w b = some cs → ∃ T fz, w.heap[b]? = some (.cells cs.toArray T fz) := by
  intro b cs h
  unfold rowAt at h
  split at h
  · rename_i l T fz hl
    cases h
    exact ⟨T, fz, by simpa using hl⟩
  · cases h
theorem wf_i64 {a : Int} (h : (Lit.int .i64 a).wf = true) : -9223372036854775808 ≤ a ∧ a < 9223372036854775808 := by
  have := bounds_i64 h
  omega
theorem wf_u32 {a : Int} (h : (Lit.int .u32 a).wf = true) : 0 ≤ a ∧ a < 4294967296 := by
  simp [Lit.wf, IntKind.min, IntKind.max, IntKind.signed, IntKind.bits] at h
  omega

/-- A list whose cells are known. -/
theorem lst_rel {w : World} {b off len cap : Nat} {cs : List AV} (hcap : len ≤ cap) (hl : cs.length = len)
    (h : ∀ i, i < len → ∃ x, w.cell? ⟨b, off + i, none⟩ = some x ∧ VRel ((startCtx (rowAt w)).res 0) (cs.getD i .undef) x) : VRel (startCtx (rowAt w)) (.lst cs len) (.slice (some ⟨b, off, none⟩) len cap) := by
  rcases Nat.eq_zero_or_pos len with h0 | hp
  · subst h0
    obtain rfl : cs = [] := List.eq_nil_of_length_eq_zero hl
    exact .lst0 _ _
  · have hcell : ∀ i, i < len → ∃ l T fz x, w.heap[b]? = some (.cells l T fz) ∧ l[off + i]? = some x ∧ VRel ((startCtx (rowAt w)).res 0) (cs.getD i .undef) x := by
      intro i hi
      obtain ⟨x, h1, h2⟩ := h i hi
      unfold World.cell? at h1
      cases hb : w.heap[b]? with
      | none => simp [hb] at h1
      | some blk =>
        cases blk with
        | cells l T fz =>
          simp only [hb] at h1
          exact ⟨l, T, fz, x, rfl, by simpa using h1, h2⟩
        | _ => simp [hb] at h1
    obtain ⟨l, T, fz, x, hb, _, _⟩ := hcell 0 hp
    have hz : (startCtx (rowAt w)).z b = some l.toList := by simp [startCtx, rowAt, hb]
    have hget : ∀ i, i < len → ∃ x, l.toList[off + i]? = some x ∧ VRel ((startCtx (rowAt w)).res 0) (cs.getD i .undef) x := by
      intro i hi
      obtain ⟨l', T', fz', x, hb', hx, hv⟩ := hcell i hi
      rw [hb] at hb'
      cases hb'
      exact ⟨x, by simpa using hx, hv⟩
    refine .lst cs len b off cap l.toList hcap hz ?_ ?_
    · obtain ⟨x, hx, _⟩ := hget (len - 1) (by omega)
      have := (List.getElem?_eq_some_iff.1 hx).1
      omega
    · intro i hi
      obtain ⟨x, hx, hv⟩ := hget i (by omega)
      rw [List.getD_eq_getElem?_getD (l := l.toList), hx]
      exact hv

structure RowI (w : World) (v : Value) (l : List Int) : Prop where
  rel : VRel (startCtx (rowAt w)) (.lst (l.map fun x => .int .i64 x) l.length) v
  inI : ∀ x ∈ l, -9223372036854775808 ≤ x ∧ x < 9223372036854775808
  small : l.length ≤ maxLen
theorem addr_of_cell {w : World} {a : Addr} {x : Value} (h : w.cell? (a.add 0) = some x) : ∃ b off, a = ⟨b, off, none⟩ := by
  obtain ⟨b, off, spot⟩ := a
  have hs : spot = none := by simpa [Addr.add] using World.cell?_spot h
  exact ⟨b, off, by rw [hs]⟩
theorem add_plain {b off i : Nat} : (⟨b, off, none⟩ : Addr).add i = ⟨b, off + i, none⟩ := by
  unfold Addr.add; split <;> simp_all
theorem rowI_cells {H : Type} {enc : TypeId × Value → H} {P : Program} {W : World} {t e : TypeId} (hu : P.underlying t = some (.slice e)) (he : P.underlying e = some (.int .i64)) (hc : P.cellsOf e = 1)
    {cs : List Value} {fuel : Nat} {x : DataW H × List MemPlace} (hf : DataW.trod enc P W 0 (fun _ => true) true fuel t cs = some x) : ∃ v l, cs = [v] ∧ RowI W v l := by
  rcases open_ints hu he hc hf with ⟨rfl, _⟩ | ⟨a, len, cap, zs, rfl, _, hl, hm, hz, _, hcell, hwz⟩
  · exact ⟨_, [], rfl, .lst0 _ _, by simp, by simp⟩
  · simp only [if_true] at hz
    refine ⟨_, zs.take len, rfl, ?_, fun y hy => wf_i64 (hwz y (List.mem_of_mem_take hy)), by simp; omega⟩
    rcases Nat.eq_zero_or_pos len with h0 | hp
    · subst h0; exact .lst0 _ _
    · obtain ⟨b, off, rfl, hc'⟩ := ints_at hcell (by omega)
      have hlen : (zs.take len).length = len := by simp; omega
      rw [hlen]
      refine lst_rel hl (by simp; omega) fun i hi => ⟨_, hc' i (by omega), ?_⟩
      rw [List.getD_eq_getElem?_getD, List.getElem?_map, List.getElem?_take, if_pos hi, List.getD_eq_getElem?_getD, List.getElem?_eq_getElem (by omega)]
      exact .int _ _
theorem rowI_of {H : Type} {enc : TypeId × Value → H} {P : Program} {W : World} {t e : TypeId} {base : Nat} {v : Value} {d : DataW H} {p : List MemPlace} (hu : P.underlying t = some (.slice e)) (he : P.underlying e = some (.int .i64)) (hc : P.cellsOf e = 1)
    (hok : Value.okWide P W .any base t v) (h : DataW.Trod enc P W 0 (fun _ => true) true t v d p) : ∃ l, RowI W v l := by
  obtain ⟨a, len, cap, rfl⟩ := okWide_slice hu hok
  obtain ⟨fuel, hf⟩ := h
  obtain ⟨v, l, hv, hr⟩ := rowI_cells hu he hc hf
  simp only [Value.cells] at hv
  cases hv
  exact ⟨l, hr⟩

structure RowL (w : World) (v : Value) (l : List (List Int)) : Prop where
  rel : VRel (startCtx (rowAt w)) (.lst (l.map fun r => .lst (r.map fun x => .int .i64 x) r.length) l.length) v
  inI : ∀ r ∈ l, ∀ x ∈ r, -9223372036854775808 ≤ x ∧ x < 9223372036854775808
  small : l.length ≤ maxLen ∧ ∀ r ∈ l, r.length ≤ maxLen
theorem rowL_of {H : Type} {enc : TypeId × Value → H} {P : Program} {W : World} {t e f : TypeId} {base : Nat} {v : Value} {d : DataW H} {p : List MemPlace} (hu : P.underlying t = some (.slice e)) (he : P.underlying e = some (.slice f)) (hf : P.underlying f = some (.int .i64)) (hc : P.cellsOf e = 1) (hcf : P.cellsOf f = 1)
    (hok : Value.okWide P W .any base t v) (h : DataW.Trod enc P W 0 (fun _ => true) true t v d p) : ∃ l, RowL W v l := by
  obtain ⟨a, len, cap, rfl⟩ := okWide_slice hu hok
  obtain ⟨fuel, hfu⟩ := h
  rcases Go.Deep.open_slice1 hu hc hfu with ⟨hcs, _⟩ | ⟨a', len', cap', m, n, V, D, Pl, hcs, _, hl, hm, hmm, _, hx⟩
  · simp only [Value.cells] at hcs
    cases hcs
    exact ⟨[], .lst0 _ _, by simp, by simp, by simp⟩
  · simp only [Value.cells] at hcs
    cases hcs
    simp only [if_true] at hmm
    subst hmm
    have hrow : ∀ i, i < len → ∃ r, RowI W (V i) r := by
      intro i hi
      obtain ⟨_, h2⟩ := hx i (by omega)
      obtain ⟨v, r, e1, e2⟩ := rowI_cells he hf hcf h2
      cases e1
      exact ⟨r, e2⟩
    obtain ⟨R, hR⟩ : ∃ R : Nat → List Int, ∀ i, i < len → RowI W (V i) (R i) := ⟨fun i => if h : i < len then (hrow i h).choose else [], fun i hi => by simp only [hi, dif_pos]; exact (hrow i hi).choose_spec⟩
    refine ⟨(List.range len).map R, ?_, ?_, by simp; omega, ?_⟩
    · rcases Nat.eq_zero_or_pos len with h0 | hp
      · subst h0; exact .lst0 _ _
      · obtain ⟨b, off, rfl⟩ := addr_of_cell (hx 0 (by omega)).1
        rw [show ((List.range len).map R).length = len by simp]
        refine lst_rel hl (by simp) fun i hi => ⟨V i, ?_, ?_⟩
        · have := (hx i (by omega)).1
          rwa [add_plain] at this
        · rw [List.getD_eq_getElem?_getD, List.getElem?_map, List.getElem?_map, List.getElem?_range hi]
          exact (hR i hi).rel.res (.lst _ _)
    · intro r hr
      obtain ⟨i, hi, rfl⟩ := List.mem_map.1 hr
      exact (hR i (List.mem_range.1 hi)).inI
    · intro r hr
      obtain ⟨i, hi, rfl⟩ := List.mem_map.1 hr
      exact (hR i (List.mem_range.1 hi)).small
end Go.Proofs.YtoncolpkpgbfiaaDoor
