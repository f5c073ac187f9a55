/- What comes in, of whatever plain kind (numbers, bools, texts; structs, arrays and slices of these): as the interpreter's values. -/
import Derived.Test.YtoncolpkpgbfiaaDoorEvX
import Derived.Deep.Slices
set_option linter.unusedSimpArgs false
set_option linter.unusedVariables false
namespace Go.Proofs.YtoncolpkpgbfiaaDoor
open Go.ChangeShapes Go.WideShapes Go.ChangeAt Go.RowKit
/-- The shape of a cell. -/
inductive CS where
  | int (k : IntKind) | bool | str | slice (es : List CS)
mutual
inductive DatC : CS → AV → Prop
  | int (k : IntKind) (n : Int) : (Lit.int k n).wf = true → DatC (.int k) (.int k n)
  | bool (b : Bool) : DatC .bool (.bool b)
  | str (s : ByteArray) : s.size ≤ maxLen → DatC .str (.str s)
  | slice (es : List CS) (rows : List (List AV)) : rows.length ≤ maxLen → DatR es rows → DatC (.slice es) (.lst rows.flatten rows.length)
inductive DatL : List CS → List AV → Prop
  | nil : DatL [] []
  | cons (s : CS) (v : AV) (ss : List CS) (vs : List AV) : DatC s v → DatL ss vs → DatL (s :: ss) (v :: vs)
inductive DatR : List CS → List (List AV) → Prop
  | nil (es : List CS) : DatR es []
  | cons (es : List CS) (r : List AV) (rows : List (List AV)) : DatL es r → DatR es rows → DatR es (r :: rows)
end
theorem DatC.plain {s : CS} {v : AV} (h : DatC s v) (n : Nat) : Nmd n v := by
  cases h
  · exact .int _ _
  · exact .bool _
  · exact .str _
  · exact .lst _ _
theorem DatL.len {ss : List CS} {vs : List AV} (h : DatL ss vs) : vs.length = ss.length := by
  induction ss generalizing vs with
  | nil => cases h; rfl
  | cons s ss ih => cases h with | cons _ v _ vs h1 h2 => simp [ih h2]
theorem DatL.app {s1 s2 : List CS} {v1 v2 : List AV} (h1 : DatL s1 v1) (h2 : DatL s2 v2) : DatL (s1 ++ s2) (v1 ++ v2) := by
  induction s1 generalizing v1 with
  | nil => cases h1; exact h2
  | cons s ss ih => cases h1 with | cons _ v _ vs ha hb => exact .cons _ _ _ _ ha (ih hb)
theorem DatL.get {ss : List CS} {vs : List AV} (h : DatL ss vs) (i : Nat) (hi : i < vs.length) : ∃ s, DatC s (vs.getD i .undef) := by
  induction ss generalizing vs i with
  | nil => cases h; simp at hi
  | cons s ss ih =>
    cases h with
    | cons _ v _ vs h1 h2 =>
      cases i with
      | zero => exact ⟨s, by simpa using h1⟩
      | succ i => simpa using ih h2 i (by simpa using hi)
theorem DatR.mk {es : List CS} {rows : List (List AV)} (h : ∀ r ∈ rows, DatL es r) : DatR es rows := by
  induction rows with
  | nil => exact .nil _
  | cons r rows ih => exact .cons _ _ _ (h r (by simp)) (ih fun x hx => h x (by simp [hx]))
theorem DatR.all {es : List CS} {rows : List (List AV)} (h : DatR es rows) : ∀ r ∈ rows, DatL es r := by
  induction rows with
  | nil => intro r hr; simp at hr
  | cons a rows ih =>
    cases h with
    | cons _ _ _ h1 h2 =>
      intro r hr
      rcases List.mem_cons.1 hr with rfl | hr
      · exact h1
      · exact ih h2 r hr
def csFs (P : Program) (g : TypeId → Option (List CS)) : List Field → Nat → Option (List CS)
  | [], _ => some []
  | f :: r, o => if f.offset = o then (g f.type).bind fun s => if s.length = P.cellsOf f.type then (csFs P g r (o + s.length)).map fun l => s ++ l else none else none
/-- The shapes of a type's cells. -/
def csOf (P : Program) : Nat → TypeId → Option (List CS)
  | 0, _ => none
  | n + 1, t => match P.underlying t with
    | some .bool => some [.bool]
    | some (.int k) => some [.int k]
    | some .string => some [.str]
    | some (.slice e) => (csOf P n e).bind fun es => if es.length = P.cellsOf e ∧ 0 < es.length then some [.slice es] else none
    | some (.struct fs) => (csFs P (csOf P n) fs.toList 0).bind fun ss => if ss.length = P.cellsOf t then some ss else none
    | some (.array k e) => (csOf P n e).bind fun es => if es.length = P.cellsOf e ∧ k * es.length = P.cellsOf t then some (List.replicate k es).flatten else none
    | _ => none
theorem mapM_all {α β : Type} {f : α → Option β} : ∀ {l : List α} {xs : List β}, l.mapM f = some xs → ∀ a ∈ l, ∃ y, f a = some y := by
  intro l
  induction l with
  | nil => intro xs _ a ha; simp at ha
  | cons b l ih =>
    intro xs h a ha
    rw [List.mapM_cons] at h
    obtain ⟨y, hy, h⟩ := Option.bind_eq_some_iff.1 h
    obtain ⟨ys, hys, h⟩ := Option.bind_eq_some_iff.1 h
    rcases List.mem_cons.1 ha with rfl | ha
    · exact ⟨y, hy⟩
    · exact ih hys a ha
theorem LRel.app {c : Ctx} {l1 l2 : List AV} {x1 x2 : List Value} (h1 : LRel c l1 x1) (h2 : LRel c l2 x2) : LRel c (l1 ++ l2) (x1 ++ x2) := by
  refine ⟨by simp [h1.1, h2.1], fun i hi => ?_⟩
  have hl := h1.1
  rw [List.getD_eq_getElem?_getD, List.getD_eq_getElem?_getD, List.getElem?_append, List.getElem?_append]
  by_cases h : i < l1.length
  · rw [if_pos h, if_pos (by omega)]
    have := h1.2 i h
    simpa [List.getD_eq_getElem?_getD] using this
  · rw [if_neg h, if_neg (by omega), ← hl]
    have := h2.2 (i - l1.length) (by simp at hi; omega)
    simpa [List.getD_eq_getElem?_getD] using this
theorem flat_get {α : Type} {sz : Nat} : ∀ {rows : List (List α)}, (∀ r ∈ rows, r.length = sz) → ∀ i j, j < sz → rows.flatten[i * sz + j]? = (rows[i]?).bind (·[j]?) := by
  intro rows
  induction rows with
  | nil => intro _ i j _; simp
  | cons r rows ih =>
    intro h i j hj
    have hr := h r (by simp)
    rw [List.flatten_cons, List.getElem?_append]
    cases i with
    | zero => rw [Nat.zero_mul, Nat.zero_add, if_pos (by omega)]; simp
    | succ i =>
      have e : (i + 1) * sz + j = i * sz + j + sz := by rw [Nat.add_mul, Nat.one_mul]; omega
      rw [e, if_neg (by omega), hr, Nat.add_sub_cancel, ih (fun x hx => h x (by simp [hx])) i j hj]
      simp
theorem flat_len {α : Type} {sz : Nat} {rows : List (List α)} (h : ∀ r ∈ rows, r.length = sz) : rows.flatten.length = rows.length * sz := by
  induction rows with
  | nil => simp
  | cons r rows ih => rw [List.flatten_cons, List.length_append, h r (by simp), ih fun x hx => h x (by simp [hx]), List.length_cons, Nat.add_mul]; omega
/-- A list whose cells are known, of as many cells an element as there may be. -/
theorem lst_relN {w : World} {b off len cap : Nat} {cells : List AV} (hcap : len ≤ cap) (hne : 0 < cells.length)
    (h : ∀ q, q < cells.length → ∃ x, w.cell? ⟨b, off + q, none⟩ = some x ∧ VRel ((startCtx (rowAt w)).res 0) (cells.getD q .undef) x) : VRel (startCtx (rowAt w)) (.lst cells len) (.slice (some ⟨b, off, none⟩) len cap) := by
  have hcell : ∀ i, i < cells.length → ∃ l T fz x, w.heap[b]? = some (.cells l T fz) ∧ l[off + i]? = some x ∧ VRel ((startCtx (rowAt w)).res 0) (cells.getD i .undef) x := by
    intro i hi
    obtain ⟨x, h1, h2⟩ := h i hi
    unfold World.cell? at h1
    cases hb : w.heap[b]? with
    | none => simp [hb] at h1
    | some blk =>
      cases blk with
      | cells l T fz =>
        simp only [hb] at h1
        exact ⟨l, T, fz, x, rfl, by simpa using h1, h2⟩
      | _ => simp [hb] at h1
  obtain ⟨l, T, fz, x, hb, _, _⟩ := hcell 0 hne
  have hz : (startCtx (rowAt w)).z b = some l.toList := by simp [startCtx, rowAt, hb]
  have hget : ∀ i, i < cells.length → ∃ x, l.toList[off + i]? = some x ∧ VRel ((startCtx (rowAt w)).res 0) (cells.getD i .undef) x := by
    intro i hi
    obtain ⟨l', T', fz', x, hb', hx, hv⟩ := hcell i hi
    rw [hb] at hb'
    cases hb'
    exact ⟨x, by simpa using hx, hv⟩
  refine .lst cells len b off cap l.toList hcap hz ?_ ?_
  · obtain ⟨x, hx, _⟩ := hget (cells.length - 1) (by omega)
    have := (List.getElem?_eq_some_iff.1 hx).1
    omega
  · intro i hi
    obtain ⟨x, hx, hv⟩ := hget i hi
    rw [List.getD_eq_getElem?_getD (l := l.toList), hx]
    exact hv
section
variable {H : Type} {enc : TypeId × Value → H} {P : Program} {W : World}
theorem fieldsOpen {n fuel : Nat} (ih : ∀ t ss, csOf P n t = some ss → ∀ cs x, DataW.trod enc P W 0 (fun _ => true) true fuel t cs = some x → ∃ avs, LRel (startCtx (rowAt W)) avs cs ∧ DatL ss avs) :
    ∀ (fs : List Field) (o : Nat) (ss : List CS), csFs P (csOf P n) fs o = some ss → ∀ (cs : List Value), (∀ f ∈ fs, ∃ y, DataW.trod enc P W 0 (fun _ => true) true fuel f.type ((cs.drop f.offset).take (P.cellsOf f.type)) = some y) → o + ss.length ≤ cs.length →
    ∃ avs, LRel (startCtx (rowAt W)) avs ((cs.drop o).take ss.length) ∧ DatL ss avs := by
  intro fs
  induction fs with
  | nil =>
    intro o ss h cs _ _
    simp only [csFs] at h
    cases h
    exact ⟨[], by simpa using LRel.nil, .nil⟩
  | cons f r ihf =>
    intro o ss h cs hx hl
    simp only [csFs] at h
    split at h
    · rename_i ho
      obtain ⟨s, hs, h⟩ := Option.bind_eq_some_iff.1 h
      split at h
      · rename_i hsl
        obtain ⟨l, hl2, rfl⟩ := Option.map_eq_some_iff.1 h
        obtain ⟨y, hy⟩ := hx f (by simp)
        obtain ⟨a1, b1, c1⟩ := ih _ _ hs _ _ hy
        obtain ⟨a2, b2, c2⟩ := ihf (o + s.length) l hl2 cs (fun g hg => hx g (by simp [hg])) (by simp at hl; omega)
        refine ⟨a1 ++ a2, ?_, c1.app c2⟩
        rw [ho, ← hsl] at b1
        have e : (cs.drop o).take (s ++ l).length = (cs.drop o).take s.length ++ (cs.drop (o + s.length)).take l.length := by
          rw [List.length_append, List.take_add, List.drop_drop]
        rw [e]
        exact b1.app b2
      · cases h
    · cases h
theorem datOpen : ∀ (n : Nat) (t : TypeId) (ss : List CS), csOf P n t = some ss → ∀ (fuel : Nat) (cs : List Value) (x : DataW H × List MemPlace), DataW.trod enc P W 0 (fun _ => true) true fuel t cs = some x → ∃ avs, LRel (startCtx (rowAt W)) avs cs ∧ DatL ss avs := by
  intro n
  induction n with
  | zero => intro t ss h; simp [csOf] at h
  | succ n ih =>
    intro t ss h fuel cs x hx
    cases fuel with
    | zero => simp [DataW.trod] at hx
    | succ fuel =>
      simp only [csOf] at h
      split at h
      · rename_i hu
        cases h
        unfold DataW.trod at hx
        rw [hu] at hx
        match cs, hx with
        | [.bool b], _ => exact ⟨[.bool b], .cons (.bool _) .nil, .cons _ _ _ _ (.bool _) .nil⟩
      · rename_i k hu
        cases h
        unfold DataW.trod at hx
        rw [hu] at hx
        match cs, hx with
        | [.int k' m], hx =>
          simp only at hx
          split at hx
          · rename_i hk
            obtain ⟨rfl, hw⟩ := hk
            exact ⟨[.int k' m], .cons (.int _ _) .nil, .cons _ _ _ _ (.int _ _ hw) .nil⟩
          · cases hx
      · rename_i hu
        cases h
        unfold DataW.trod at hx
        rw [hu] at hx
        match cs, hx with
        | [.string s], hx =>
          simp only at hx
          split at hx
          · rename_i hs
            exact ⟨[.str s], .cons (.str _) .nil, .cons _ _ _ _ (.str _ hs) .nil⟩
          · cases hx
      · rename_i e hu
        obtain ⟨es, hes, h⟩ := Option.bind_eq_some_iff.1 h
        split at h
        · rename_i hsz
          cases h
          rcases Go.Deep.open_slice hu hx with ⟨rfl, _⟩ | ⟨a, len, cap, m, n', V, Pl, rfl, _, hl, hm, hmm, _, hel⟩
          · exact ⟨[.lst [] 0], .cons (.lst0 _ _) .nil, .cons _ _ _ _ (.slice es [] (by simp) (.nil _)) .nil⟩
          · simp only [if_true] at hmm
            subst hmm
            have hrow : ∀ i, i < len → ∃ A : List AV, DatL es A ∧ ∃ cs', W.cells? 0 (a.add (i * P.cellsOf e)) (P.cellsOf e) = some cs' ∧ LRel (startCtx (rowAt W)) A cs' := by
              intro i hi
              obtain ⟨cs', h1, h2⟩ := hel i (by omega)
              obtain ⟨A, r1, r2⟩ := ih e es hes _ _ _ h2
              exact ⟨A, r2, cs', h1, r1⟩
            obtain ⟨A, hA⟩ := Go.Deep.choose_lt (α := List AV) hrow
            have hlen : ∀ r ∈ (List.range len).map A, r.length = es.length := by
              intro r hr
              obtain ⟨i, hi, rfl⟩ := List.mem_map.1 hr
              exact (hA i (List.mem_range.1 hi)).1.len
            have hdat : DatC (.slice es) (.lst ((List.range len).map A).flatten ((List.range len).map A).length) := .slice es _ (by simp; omega) (DatR.mk fun r hr => by
              obtain ⟨i, hi, rfl⟩ := List.mem_map.1 hr
              exact (hA i (List.mem_range.1 hi)).1)
            refine ⟨[.lst ((List.range len).map A).flatten ((List.range len).map A).length], .cons ?_ .nil, .cons _ _ _ _ hdat .nil⟩
            rw [List.length_map, List.length_range]
            rcases Nat.eq_zero_or_pos len with h0 | hp
            · subst h0; exact .lst0 _ _
            · have hfl := flat_len hlen
              rw [List.length_map, List.length_range] at hfl
              have hpos : 0 < len * es.length := Nat.mul_pos hp hsz.2
              have hcell : ∀ i j, i < len → j < es.length → ∃ x, W.cell? (a.add (i * es.length + j)) = some x ∧ VRel (startCtx (rowAt W)) ((A i).getD j .undef) x := by
                intro i j hi hj
                obtain ⟨h1, cs', h2, h3⟩ := hA i hi
                obtain ⟨_, h4, h5⟩ := World.cells?_some h2
                have hl1 := h1.len
                have h6 := h5 j (by rw [← hsz.1]; exact hj)
                rw [Go.Deep.add_add, ← hsz.1] at h6
                have h7 := h3.2 j (by omega)
                rw [List.getElem?_eq_getElem (by rw [← h3.1]; omega)] at h6
                refine ⟨_, h6, ?_⟩
                rw [List.getD_eq_getElem?_getD (l := cs'), List.getElem?_eq_getElem (by rw [← h3.1]; omega)] at h7
                exact h7
              obtain ⟨x0, hx0, _⟩ := hcell 0 0 hp hsz.2
              rw [Nat.zero_mul, Nat.zero_add] at hx0
              obtain ⟨b, off, rfl⟩ := addr_of_cell hx0
              refine lst_relN hl (by omega) fun q hq => ?_
              rw [hfl] at hq
              have hdiv : q / es.length < len := (Nat.div_lt_iff_lt_mul hsz.2).2 hq
              have hmod : q % es.length < es.length := Nat.mod_lt _ hsz.2
              have hqq : q / es.length * es.length + q % es.length = q := by rw [Nat.mul_comm]; exact Nat.div_add_mod q es.length
              obtain ⟨x, h1, h2⟩ := hcell _ _ hdiv hmod
              rw [hqq, add_plain] at h1
              refine ⟨x, h1, ?_⟩
              have hg := flat_get hlen (q / es.length) (q % es.length) hmod
              rw [hqq, List.getElem?_map, List.getElem?_range hdiv, Option.map_some, Option.bind_some] at hg
              rw [List.getD_eq_getElem?_getD, hg, ← List.getD_eq_getElem?_getD]
              obtain ⟨s', hs'⟩ := (hA _ hdiv).1.get (q % es.length) (by rw [(hA _ hdiv).1.len]; exact hmod)
              exact h2.res (hs'.plain 0)
        · cases h
      · rename_i fs hu
        obtain ⟨s, hs, h⟩ := Option.bind_eq_some_iff.1 h
        split at h
        · rename_i hsz
          cases h
          unfold DataW.trod at hx
          rw [hu] at hx
          simp only at hx
          split at hx
          · rename_i hcl
            obtain ⟨xs, hxs, _⟩ := Option.map_eq_some_iff.1 hx
            obtain ⟨avs, r1, r2⟩ := fieldsOpen (n := n) (fuel := fuel) (enc := enc) (fun t ss h cs x hx => ih t ss h fuel cs x hx) fs.toList 0 _ hs cs (fun f hf => mapM_all hxs f hf) (by omega)
            rw [List.drop_zero, List.take_of_length_le (by omega)] at r1
            exact ⟨avs, r1, r2⟩
          · cases hx
        · cases h
      · rename_i k e hu
        obtain ⟨es, hes, h⟩ := Option.bind_eq_some_iff.1 h
        split at h
        · rename_i hsz
          cases h
          unfold DataW.trod at hx
          rw [hu] at hx
          simp only at hx
          split at hx
          · rename_i hcl
            obtain ⟨xs, hxs, _⟩ := Option.map_eq_some_iff.1 hx
            have hall := mapM_all hxs
            have step : ∀ i, i ≤ k → ∃ avs, LRel (startCtx (rowAt W)) avs (cs.take (i * es.length)) ∧ DatL (List.replicate i es).flatten avs := by
              intro i
              induction i with
              | zero => intro _; exact ⟨[], by simpa using LRel.nil, by simpa using DatL.nil⟩
              | succ i ihi =>
                intro hi
                obtain ⟨a1, r1, r2⟩ := ihi (by omega)
                obtain ⟨y, hy⟩ := hall i (List.mem_range.2 (by omega))
                obtain ⟨a2, r3, r4⟩ := ih e es hes _ _ _ hy
                rw [← hsz.1] at r3
                refine ⟨a1 ++ a2, ?_, ?_⟩
                · rw [Nat.add_mul, Nat.one_mul, List.take_add]
                  exact r1.app r3
                · rw [List.replicate_succ', List.flatten_append]
                  simpa using r2.app r4
            obtain ⟨avs, r1, r2⟩ := step k (Nat.le_refl _)
            rw [List.take_of_length_le (by omega)] at r1
            exact ⟨avs, r1, r2⟩
          · cases hx
        · cases h
      · cases h
end
/-! a parameter -/
section
variable {H : Type} {enc : TypeId × Value → H} {P : Program} {W : World} {t : TypeId} {base : Nat} {v : Value} {d : DataW H} {p : List MemPlace}
theorem okWide_array {k : Nat} {e : TypeId} (ht : P.underlying t = some (.array k e)) (h : Value.okWide P W .any base t v) : ∃ cs, v = .agg cs := by
  simp only [Value.okWide, ht] at h
  obtain ⟨cs, h1, _⟩ := h
  exact ⟨cs, h1⟩
theorem argAgg {n : Nat} {ss : List CS} (hcs : csOf P n t = some ss) (hv : ∃ cs, v = .agg cs) (h : DataW.Trod enc P W 0 (fun _ => true) true t v d p) : ∃ avs, VRel (startCtx (rowAt W)) (.agg avs) v ∧ DatL ss avs := by
  obtain ⟨fuel, hf⟩ := h
  obtain ⟨avs, h1, h2⟩ := datOpen n t ss hcs fuel _ _ hf
  obtain ⟨cs, rfl⟩ := hv
  refine ⟨avs, ?_, h2⟩
  have := VRel.agg (c := startCtx (rowAt W)) avs cs.toList (by simpa [Value.cells] using h1.1) (fun i hi => by simpa [Value.cells] using h1.2 i hi)
  simpa using this
theorem argSlice {n : Nat} {e : TypeId} {es : List CS} (hu : P.underlying t = some (.slice e)) (hcs : csOf P n t = some [.slice es]) (hok : Value.okWide P W .any base t v) (h : DataW.Trod enc P W 0 (fun _ => true) true t v d p) : ∃ a, VRel (startCtx (rowAt W)) a v ∧ DatC (.slice es) a := by
  obtain ⟨x, len, cap, rfl⟩ := okWide_slice hu hok
  obtain ⟨fuel, hf⟩ := h
  obtain ⟨avs, h1, h2⟩ := datOpen n t _ hcs fuel _ _ hf
  cases h2 with
  | cons _ a _ vs ha hb =>
    cases hb
    exact ⟨a, by simpa [Value.cells] using h1.2 0 (by simp), ha⟩
end
/-! what is known of it -/
theorem DatL.inv {s : CS} {ss : List CS} {vs : List AV} (h : DatL (s :: ss) vs) : ∃ v vs', vs = v :: vs' ∧ DatC s v ∧ DatL ss vs' := by
  cases h with | cons _ v _ vs' h1 h2 => exact ⟨v, vs', rfl, h1, h2⟩
theorem DatL.inv0 {vs : List AV} (h : DatL [] vs) : vs = [] := by cases h; rfl
theorem DatC.i64 {v : AV} (h : DatC (.int .i64) v) : ∃ n : Int, v = .int .i64 n ∧ -9223372036854775808 ≤ n ∧ n < 9223372036854775808 := by
  cases h with | int _ n hw => exact ⟨n, rfl, wf_i64 hw⟩
theorem DatC.intW {k : IntKind} {v : AV} (h : DatC (.int k) v) : ∃ n : Int, v = .int k n ∧ (Lit.int k n).wf = true := by
  cases h with | int _ n hw => exact ⟨n, rfl, hw⟩
theorem DatC.boolW {v : AV} (h : DatC .bool v) : ∃ b, v = .bool b := by
  cases h with | bool b => exact ⟨b, rfl⟩
theorem DatC.strW {v : AV} (h : DatC .str v) : ∃ s, v = .str s ∧ s.size ≤ maxLen := by
  cases h with | str s hs => exact ⟨s, rfl, hs⟩
theorem DatC.rows {es : List CS} {v : AV} (h : DatC (.slice es) v) : ∃ rows : List (List AV), v = .lst rows.flatten rows.length ∧ rows.length ≤ maxLen ∧ ∀ r ∈ rows, DatL es r := by
  cases h with | slice _ rows h1 h2 => exact ⟨rows, rfl, h1, h2.all⟩
/-- One thing for each. -/
theorem rows_map {α : Type} {p : α → List AV → Prop} : ∀ {rows : List (List AV)}, (∀ r ∈ rows, ∃ a, p a r) → ∃ l : List α, l.length = rows.length ∧ ∀ f : α → List AV, (∀ a r, p a r → r = f a) → rows = l.map f := by
  intro rows
  induction rows with
  | nil => intro _; exact ⟨[], rfl, fun _ _ => rfl⟩
  | cons r rows ih =>
    intro h
    obtain ⟨a, ha⟩ := h r (by simp)
    obtain ⟨l, hl, hf⟩ := ih fun x hx => h x (by simp [hx])
    exact ⟨a :: l, by simp [hl], fun f hp => by rw [List.map_cons, ← hp a r ha, ← hf f hp]⟩
theorem rows_all {α : Type} {f : α → List AV} {q : α → Prop} : ∀ {rows : List (List AV)}, (∀ r ∈ rows, ∃ a, q a ∧ r = f a) → ∃ l : List α, rows = l.map f ∧ ∀ a ∈ l, q a := by
  intro rows
  induction rows with
  | nil => intro _; exact ⟨[], rfl, by simp⟩
  | cons r rows ih =>
    intro h
    obtain ⟨a, ha, rfl⟩ := h r (by simp)
    obtain ⟨l, rfl, hq⟩ := ih fun x hx => h x (by simp [hx])
    refine ⟨a :: l, rfl, fun b hb => ?_⟩
    rcases List.mem_cons.1 hb with rfl | hb
    · exact ha
    · exact hq b hb
theorem flat_one {α : Type} (g : α → AV) : ∀ l : List α, (l.map fun a => [g a]).flatten = l.map g
  | [] => rfl
  | a :: l => by rw [List.map_cons, List.flatten_cons, flat_one g l]; rfl
theorem DatC.ints {v : AV} (h : DatC (.slice [.int .i64]) v) : ∃ l : List Int, v = .lst (l.map fun x => .int .i64 x) l.length ∧ (∀ x ∈ l, -9223372036854775808 ≤ x ∧ x < 9223372036854775808) ∧ l.length ≤ maxLen := by
  obtain ⟨rows, rfl, h1, h2⟩ := h.rows
  obtain ⟨l, rfl, hl⟩ := rows_all (f := fun x : Int => [AV.int .i64 x]) (q := fun x => -9223372036854775808 ≤ x ∧ x < 9223372036854775808) fun r hr => by
    obtain ⟨v, vs, rfl, h3, h4⟩ := (h2 r hr).inv
    obtain rfl := h4.inv0
    obtain ⟨n, rfl, hn⟩ := h3.i64
    exact ⟨n, hn, rfl⟩
  refine ⟨l, by rw [flat_one, List.length_map], hl, by simpa using h1⟩
theorem DatC.intRows {v : AV} (h : DatC (.slice [.slice [.int .i64]]) v) : ∃ l : List (List Int), v = .lst (l.map fun r => .lst (r.map fun x => .int .i64 x) r.length) l.length ∧ (∀ r ∈ l, ∀ x ∈ r, -9223372036854775808 ≤ x ∧ x < 9223372036854775808) ∧ l.length ≤ maxLen ∧ ∀ r ∈ l, r.length ≤ maxLen := by
  obtain ⟨rows, rfl, h1, h2⟩ := h.rows
  obtain ⟨l, rfl, hl⟩ := rows_all (f := fun r : List Int => [AV.lst (r.map fun x => .int .i64 x) r.length]) (q := fun r => (∀ x ∈ r, -9223372036854775808 ≤ x ∧ x < 9223372036854775808) ∧ r.length ≤ maxLen) fun r hr => by
    obtain ⟨v, vs, rfl, h3, h4⟩ := (h2 r hr).inv
    obtain rfl := h4.inv0
    obtain ⟨l, rfl, h5, h6⟩ := h3.ints
    exact ⟨l, ⟨h5, h6⟩, rfl⟩
  refine ⟨l, by rw [flat_one, List.length_map], fun r hr => (hl r hr).1, by simpa using h1, fun r hr => (hl r hr).2⟩
end Go.Proofs.YtoncolpkpgbfiaaDoor
