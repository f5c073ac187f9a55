/- What each operation does on the machine, by what the interpreter says of it: append, len, min, max. -/
import Derived.Test.YtimdnnlfkkkpbaaDoorEvI
set_option linter.unusedVariables false
set_option linter.unusedSimpArgs false
namespace Go.Proofs.YtimdnnlfkkkpbaaDoor

theorem run_firstCells_at {P : Program} (w : World) (size n k off len cap : Nat) {cs : Array Value} {T : TypeId} {fz : Nat × Nat} (hk : w.heap[k]? = some (.cells cs T fz)) (h : off + n * size ≤ cs.size) :
    (Builtin.firstCells size n (.slice (some ⟨k, off, none⟩) len cap)).run P w = .ok ((cs.toList.drop off).take (n * size)).toArray w := by
  refine run_firstCells_some w size n ⟨k, off, none⟩ len cap _ (by simp; omega) fun j v hv => ?_
  have hj : j < n * size := by have := (List.getElem?_eq_some_iff.1 hv).1; simp at this; omega
  rw [List.getElem?_take, if_pos hj, List.getElem?_drop] at hv
  rw [Addr.add_lit, cell_of_row w k _ cs T fz hk]
  simpa using hv

/-- The cells that are appended. -/
theorem appended_sound {P : Program} {c : Ctx} {H : Heap} {w : World} (s : Sim c H w) {x : AV} {x' : Value} (hx : VRel c x x') {n esz : Nat} (hn : lenA x = some n) {cs : List AV} (h : sliceCells H n esz x = some cs) :
    ∃ news : List Value, (∀ w2, (Builtin.lenOf x').run P w2 = .ok n w2) ∧ LRel c cs news ∧ cs.length = n * esz ∧ ∀ w2 : World, w2.heap = w.heap → (Builtin.firstCells esz n x').run P w2 = .ok news.toArray w2 := by
  unfold sliceCells at h
  split at h
  · simp only [lenA, Option.some.injEq] at hn
    subst hn
    simp only [if_true, Option.some.injEq] at h
    subst h
    cases hx
    exact ⟨[], fun w2 => rfl, .nil, by simp, fun w2 _ => rfl⟩
  · rename_i cells len
    simp only [lenA, Option.some.injEq] at hn
    subst hn
    split at h
    · rename_i hc
      cases h
      cases hx with
      | lst _ _ b o cap l hcap hz hl hr =>
        obtain ⟨T, fz, hk⟩ := s.froz _ _ hz
        have hr' : LRel (c.res 0) cells ((l.drop o).take cells.length) := LRel.of_window hl hr
        have hext : Ext (c.res 0) c := ⟨fun _ _ h => h, fun id ver bk hm => by simp [Ctx.res] at hm⟩
        refine ⟨(l.drop o).take (len * esz), fun w2 => rfl, ?_, by simp; omega, fun w2 hw => ?_⟩
        · have h1 := (hr'.mono hext).take (len * esz)
          rw [List.take_take, show min (len * esz) cells.length = len * esz by omega] at h1
          exact h1
        · have := run_firstCells_at (P := P) w2 esz len b o len cap (cs := l.toArray) (T := T) (fz := fz) (by rw [hw]; exact hk) (by simp; omega)
          simpa using this
      | lst0 a cap =>
        refine ⟨[], fun w2 => rfl, by simpa using LRel.nil, by simp, fun w2 _ => ?_⟩
        cases a with
        | none => rfl
        | some a => simp [Builtin.firstCells, loadCells, loadCellsFrom]
    · cases h
  · rename_i id ver off len cap e
    simp only [lenA, Option.some.injEq] at hn
    subst hn
    cases hb : blkAt H id ver with
    | none => simp [hb] at h
    | some b =>
      simp only [hb, Option.bind_some] at h
      split at h
      · rename_i hc
        obtain ⟨_, rfl, h3⟩ := hc
        cases h
        rcases s.sl hx hb with ⟨k, sz, cs, T, cap', rfl, _, _, _, hm, hk, rfl, hle, hr⟩ | ⟨rfl, rfl, rfl, rfl, hcells, hm⟩
        · refine ⟨(cs.toList.drop off).take (len * e), fun w2 => rfl, ?_, by simp; omega, fun w2 hw => ?_⟩
          · have h1 := (hr.drop off).take (len * e)
            rw [List.drop_take, List.take_take, show min (len * e) (b.cells.length - off) = len * e by omega] at h1
            exact h1
          · exact run_firstCells_at w2 e len k off len cap' (by rw [hw]; exact hk) (by omega)
        · exact ⟨[], fun w2 => rfl, by simpa using LRel.nil, by simp, fun w2 _ => by simp [Builtin.firstCells]⟩
      · cases h
  · cases h

theorem run_append_stay {P : Program} {w w' : World} {ts : Array TypeId} {sT xT e e' ty : TypeId} {i : TypeInfo} (h0 : ts[0]? = some sT) (h1 : ts[1]? = some xT) (hu : P.underlying sT = some (.slice e)) (hx : P.underlying xT = some (.slice e'))
    (hi : P.info? e = some i) {base : Option Addr} {sLen sCap n : Nat} {x : Value} {news : List Value} (hlen : ∀ w2, (Builtin.lenOf x).run P w2 = .ok n w2)
    (hf : (Builtin.firstCells i.size n x).run P w = .ok news.toArray w) (hroom : sLen + n ≤ sCap)
    (hst : ∀ a, base = some a → (storeCells (a.add (sLen * i.size)) news).run P w = .ok () w') (hno : base = none → w' = w) :
    (Builtin.append_ ts ty #[.slice base sLen sCap, x]).run P w = .ok (.slice base (sLen + n) sCap) w' := by
  unfold Builtin.append_
  simp only [h0, h1, List.getElem?_toArray, List.getElem?_cons_zero, List.getElem?_cons_succ, Sem.run_bind, run_underlying hu, Result.andThen_ok, run_sizeOf hi]
  cases base with
  | none =>
    obtain rfl := hno rfl
    simp [run_underlying hx, hlen, hroom, hf]
  | some a =>
    have := hst a rfl
    simp [run_underlying hx, hlen, hroom, hf, this]

theorem run_append_grow' {P : Program} {w : World} {ts : Array TypeId} {sT xT e e' ty : TypeId} {i : TypeInfo} {z : Value} (h0 : ts[0]? = some sT) (h1 : ts[1]? = some xT) (hu : P.underlying sT = some (.slice e)) (hx : P.underlying xT = some (.slice e'))
    (hi : P.info? e = some i) (hz : i.zero = some z) {base : Option Addr} {sLen sCap n : Nat} {x : Value} {olds news : List Value} (hlen : ∀ w2, (Builtin.lenOf x).run P w2 = .ok n w2)
    (hf : (Builtin.firstCells i.size n x).run P w.drew = .ok news.toArray w.drew) (ho : (Builtin.firstCells i.size sLen (.slice base sLen sCap)).run P w.drew = .ok olds.toArray w.drew) (hroom : sCap < sLen + n)
    (h63 : sLen + n ≤ 9223372036854775807) (hb : (sLen + n) * i.bytes ≤ 140737488355328) :
    (Builtin.append_ ts ty #[.slice base sLen sCap, x]).run P w = .ok (.slice (some ⟨w.heap.size, 0, none⟩) (sLen + n) (grownCap w (sLen + n) sCap e))
      (w.drew.alloc (.cells (olds ++ news ++ (Builtin.zeroCells z.cells (grownCap w (sLen + n) sCap e - (sLen + n))).toList).toArray e)) := by
  have hn : ¬ (sLen + n ≤ sCap) := by omega
  have h63' : ¬ (9223372036854775807 < ((sLen : Int) + (n : Int))) := by omega
  have h48' : ¬ (281474976710656 < Builtin.nextslicecap (sLen + n) sCap * i.bytes) := by have := growslice_fits (old := sCap) hroom hb; omega
  unfold Builtin.append_
  simp only [h0, h1, List.getElem?_toArray, List.getElem?_cons_zero, List.getElem?_cons_succ, Sem.run_bind, run_underlying hu, Result.andThen_ok, run_sizeOf hi]
  simp [run_underlying hx, hlen, hn, h63', h48', typeInfo, hi, Question.forced, hf, ho, newRow, grownCap, zeroValue, hz]
  congr 2
  apply Array.ext'
  simp

theorem size_zeroCells' (z : Array Value) (n : Nat) : (Builtin.zeroCells z n).size = n * z.size := size_zeroCells z n

theorem append_sound {E : Env} (hE : EnvOk E) {base : Nat} {c : Ctx} {H : Heap} {w : World} (sm : Sim c H w) (hb : base ≤ H.length) {ts : Array TypeId} {sT xT ty : TypeId} {k k2 : TK} (h0 : ts[0]? = some sT) (h1 : ts[1]? = some xT)
    (hk : E.kd sT = some k) (hk2 : E.kd xT = some k2) (hs2 : isSliceK k2 = true) {s x v : AV} {s' x' : Value} (hs : VRel c s s') (hx : VRel c x x') {H' : Heap} (h : appendA H k s x = some (v, H'))
    (hcl : ∀ id ver off len cap esz, s = .sl id ver off len cap esz → ∀ cs n esz', sliceCells H n esz' x = some cs → mayStore base id cs) :
    Did E base c H w (Builtin.append_ ts ty #[s', x']) v H' := by
  unfold appendA at h
  split at h
  · rename_i e esz bytes ez
    obtain ⟨hu, ie, z, hie, hes, heb, hz, hzo, hzs⟩ := kd_slice hE hk
    obtain ⟨e', hu2⟩ : ∃ e', E.P.underlying xT = some (.slice e') := by
      cases k2 <;> simp only [isSliceK, Bool.false_eq_true] at hs2
      obtain ⟨h3, _⟩ := kd_slice hE hk2
      exact ⟨_, h3⟩
    cases hn : lenA x with
    | none => simp [hn] at h
    | some n =>
      simp only [hn, Option.bind_some] at h
      cases hc : sliceCells H n esz x with
      | none => simp [hc] at h
      | some cs =>
        simp only [hc, Option.bind_some] at h
        obtain ⟨news, hlen, hnews, hcl2, hf⟩ := appended_sound (P := E.P) sm hx hn hc
        have hnl : news.length = n * esz := by rw [← hcl2]; exact hnews.1.symm
        split at h
        · -- onto nothing
          split at h
          · rename_i hbd
            simp only [Option.some.injEq, Prod.mk.injEq] at h
            obtain ⟨rfl, rfl⟩ := h
            cases hs
            rcases Nat.eq_zero_or_pos n with rfl | hpos
            · have e1 : cs = [] := List.eq_nil_of_length_eq_zero (by simpa using hcl2)
              subst e1
              refine ⟨_, .slice none 0 0, w, ?_, .slNone _ _ _ (Ctx.add_same _ _ _ _), sm.allocNone hb 0⟩
              exact run_append_stay h0 h1 hu hu2 hie hlen (by rw [hes]; exact hf w rfl) (Nat.le_refl _) (fun a e => by cases e) (fun _ => rfl)
            · have hrun := run_append_grow' (ty := ty) (w := w) (base := none) (sLen := 0) (sCap := 0) (olds := []) h0 h1 hu hu2 hie hz hlen (by rw [hes]; exact hf w.drew rfl) rfl (by omega) (by simpa using hbd.2) (by rw [heb]; simpa [maxBytes] using hbd.1)
              refine ⟨_, _, _, hrun, ?_, sm.alloc (cs := (([] : List Value) ++ news ++ (Builtin.zeroCells z.cells (grownCap w (0 + n) 0 e - (0 + n))).toList).toArray) (T := e) hb (by exact ⟨rfl, rfl, rfl⟩) (by simp) ?_ ?_ n ?_ ?_⟩
              · have hge := grownCap_ge w (0 + n) 0 e
                rw [Nat.zero_add] at *
                refine .sl _ _ _ _ _ _ _ _ _ (Ctx.add_same _ _ _ _) hge (Nat.le_refl _) ?_
                simp only [List.nil_append, List.size_toArray, List.length_append, Array.length_toList, size_zeroCells, hzs, hnl, ← Nat.add_mul]
                rw [Nat.zero_add]
                exact Nat.mul_le_mul_right _ (by omega)
              · exact heap_alloc_new w.drew _
              · intro k hk; exact heap_alloc_old w.drew _ k hk
              · simp [hcl2, hnl]
              · simp only [List.nil_append]
                rw [show cs.length = news.length from hnews.1]
                simpa using hnews
          · cases h
        · -- onto what stands in a block of ours
          rename_i id ver off len cap es
          cases hblk : blkAt H id ver with
          | none => simp [hblk] at h
          | some b =>
            simp only [hblk, Option.bind_some] at h
            split at h
            · rename_i hcond
              obtain ⟨rfl, rfl, hwhole, hbd1, hbd2, hone⟩ := hcond
              simp only [Option.some.injEq, Prod.mk.injEq] at h
              obtain ⟨rfl, rfl⟩ := h
              obtain ⟨hlive, hver⟩ := blkAt_some hblk
              have hclose : base ≤ id ∨ ∀ m, id < m → m ≤ base → HClosed m H → ∀ y ∈ b.cells ++ cs, Nmd m y := by
                rcases hcl _ _ _ _ _ _ rfl cs n es hc with h4 | h4
                · exact .inl h4
                · refine .inr fun m hm _ hcm y hy => ?_
                  rcases List.mem_append.1 hy with h5 | h5
                  · exact hcm id b hlive hm y h5
                  · exact (h4 y h5).mono (by omega)
              have hv2 : ∀ bk bk' : Option (Nat × Nat), (n = 0 → bk' = bk) → ((ver + n = b.ver ∧ bk' = bk) ∨ b.ver < ver + n) := by
                intro bk bk' hbk
                rcases Nat.eq_zero_or_pos n with e0 | hp
                · exact .inl ⟨by omega, hbk e0⟩
                · exact .inr (by omega)
              rcases sm.sl hs hblk with ⟨kk, sz, cur, T, cap', rfl, hc1, hc2, hc3, hm, hkk, rfl, hle, hr⟩ | ⟨rfl, _, rfl, rfl, hcells, hm⟩
              · -- backed
                by_cases hroom : len + n ≤ cap'
                · -- there is room
                  have hfit : (len + n) * es ≤ cap' * es := Nat.mul_le_mul_right _ hroom
                  rw [Nat.add_mul] at hfit
                  have hst := run_storeCells_at E.P kk (len * es) T news 0 cur w hkk (by rw [hnl]; omega) (hnews.ones hone)
                  rw [Nat.add_zero] at hst
                  have hrun := run_append_stay (ty := ty) (w' := w.setRow kk (cur.toList.take (len * es) ++ news ++ cur.toList.drop (len * es + news.length)).toArray) h0 h1 hu hu2 hie hlen (by rw [hes]; exact hf w rfl) hroom
                    (base := some ⟨kk, 0, none⟩) (fun a e => by cases e; rw [hes, Addr.add_lit, Nat.zero_add]; exact hst) (fun e => by cases e)
                  have hx' : Ext c (c.add id (ver + n) (some (kk, cur.size))) := by
                    refine ⟨fun _ _ h => h, fun i v bk hmi => ?_⟩
                    by_cases ee : i = id
                    · subst ee
                      rw [hm] at hmi
                      simp only [Option.some.injEq, Prod.mk.injEq] at hmi
                      obtain ⟨rfl, rfl⟩ := hmi
                      refine ⟨_, _, Ctx.add_same _ _ _ _, ?_⟩
                      rcases Nat.eq_zero_or_pos n with e0 | hp
                      · exact .inl ⟨by omega, rfl⟩
                      · exact .inr (by omega)
                    · exact ⟨v, bk, by simpa [Ctx.add, ee] using hmi, .inl ⟨rfl, rfl⟩⟩
                  refine ⟨_, _, _, hrun, ?_, sm.replace (bk' := some (kk, cur.size)) hlive (by rw [hver]; exact hm) (hv2 _ _ fun _ => rfl) (by exact ⟨rfl, rfl, rfl⟩) (by simp) ?_ ?_ ?_ hclose⟩
                  · refine .sl _ _ _ _ _ _ _ _ _ (Ctx.add_same _ _ _ _) hroom (Nat.le_refl _) (by omega)
                  · intro j hj hne; exact setRow_other w kk j _ fun e => hne cur.size (by rw [e])
                  · intro j sz h; exact .inl ⟨sz, h⟩
                  · refine ⟨_, T, setRow_heap w kk cur _ T _ hkk, ?_, ?_, ?_⟩
                    · simp [hnl]; omega
                    · simp only [List.length_append, hcl2]; omega
                    · simp only [List.length_append, hcl2]
                      rw [List.append_assoc, ← List.append_assoc]
                      have e5 : (cur.toList.take (len * es) ++ news ++ cur.toList.drop (len * es + news.length)).take (b.cells.length + n * es) = cur.toList.take b.cells.length ++ news := by
                        rw [List.take_append_of_le_length (by simp [hnl]; omega), List.take_of_length_le (by simp [hnl]; omega), hwhole]
                      rw [e5]
                      exact (hr.append hnews).mono hx'
                · -- it moves
                  have hrun := run_append_grow' (ty := ty) (w := w) (base := some ⟨kk, 0, none⟩) (sLen := len) (sCap := cap') (olds := (cur.toList.drop 0).take (len * es)) h0 h1 hu hu2 hie hz hlen (by rw [hes]; exact hf w.drew rfl)
                    (by rw [hes]; exact run_firstCells_at w.drew es len kk 0 len cap' hkk (by omega)) (by omega) hbd2 (by rw [heb]; simpa [maxBytes] using hbd1)
                  have hnp : 0 < n := by omega
                  have hx' : ∀ q, Ext c (c.add id (ver + n) q) := by
                    intro q
                    refine ⟨fun _ _ h => h, fun i v bk hmi => ?_⟩
                    by_cases ee : i = id
                    · subst ee
                      rw [hm] at hmi
                      simp only [Option.some.injEq, Prod.mk.injEq] at hmi
                      obtain ⟨rfl, rfl⟩ := hmi
                      exact ⟨_, _, Ctx.add_same _ _ _ _, .inr (by omega)⟩
                    · exact ⟨v, bk, by simpa [Ctx.add, ee] using hmi, .inl ⟨rfl, rfl⟩⟩
                  have hge := grownCap_ge w (len + n) cap' e
                  have hol : ((cur.toList.drop 0).take (len * es)).length = len * es := by simp; omega
                  have hsz : ((cur.toList.drop 0).take (len * es) ++ news ++ (Builtin.zeroCells z.cells (grownCap w (len + n) cap' e - (len + n))).toList).toArray.size = grownCap w (len + n) cap' e * es := by
                    simp only [List.size_toArray, List.length_append, hol, Array.length_toList, size_zeroCells, hzs, hnl, ← Nat.add_mul]
                    congr 1; omega
                  refine ⟨_, _, _, hrun, ?_, sm.replace (bk' := some (w.heap.size, grownCap w (len + n) cap' e * es)) hlive (by rw [hver]; exact hm) (.inr (by omega)) (by exact ⟨rfl, rfl, rfl⟩) (by simp) ?_ ?_ ?_ hclose⟩
                  · exact .sl _ _ _ _ _ _ _ _ _ (Ctx.add_same _ _ _ _) hge (Nat.le_refl _) (by omega)
                  · intro j hj _; exact heap_alloc_old w.drew _ j hj
                  · intro j sz h
                    simp only [Option.some.injEq, Prod.mk.injEq] at h
                    exact .inr ⟨by omega, by simp; omega⟩
                  · refine ⟨_, e, heap_alloc_new w.drew _, hsz, ?_, ?_⟩
                    · simp only [List.length_append, hcl2]
                      have : (len + n) * es ≤ grownCap w (len + n) cap' e * es := Nat.mul_le_mul_right _ hge
                      rw [Nat.add_mul] at this; omega
                    · simp only [List.length_append, hcl2]
                      rw [List.take_append_of_le_length (by simp [hnl]; omega), List.take_of_length_le (by simp [hnl]; omega), List.drop_zero, hwhole]
                      exact (hr.append hnews).mono (hx' _)
              · -- nothing yet
                rcases Nat.eq_zero_or_pos n with rfl | hpos
                · have e1 : cs = [] := List.eq_nil_of_length_eq_zero (by simpa using hcl2)
                  subst e1
                  refine ⟨_, .slice none 0 0, w, ?_, .slNone _ _ _ (Ctx.add_same _ _ _ _), sm.replace (bk' := none) hlive (by rw [hver]; exact hm) (.inl ⟨by omega, rfl⟩) (.refl w) (Nat.le_refl _) (fun _ _ _ => rfl) (fun _ _ h => by cases h) ?_ hclose⟩
                  · exact run_append_stay h0 h1 hu hu2 hie hlen (by rw [hes]; exact hf w rfl) (Nat.le_refl _) (fun a e => by cases e) (fun _ => rfl)
                  · show _ ++ _ = _
                    simp [hcells]
                · have hrun := run_append_grow' (ty := ty) (w := w) (base := none) (sLen := 0) (sCap := 0) (olds := []) h0 h1 hu hu2 hie hz hlen (by rw [hes]; exact hf w.drew rfl) rfl (by omega) (by simpa using hbd2) (by rw [heb]; simpa [maxBytes] using hbd1)
                  have hx' : ∀ q, Ext c (c.add id (ver + n) q) := by
                    intro q
                    refine ⟨fun _ _ h => h, fun i v bk hmi => ?_⟩
                    by_cases ee : i = id
                    · subst ee
                      rw [hm] at hmi
                      simp only [Option.some.injEq, Prod.mk.injEq] at hmi
                      obtain ⟨rfl, rfl⟩ := hmi
                      exact ⟨_, _, Ctx.add_same _ _ _ _, .inr (by omega)⟩
                    · exact ⟨v, bk, by simpa [Ctx.add, ee] using hmi, .inl ⟨rfl, rfl⟩⟩
                  have hge := grownCap_ge w (0 + n) 0 e
                  have hsz : (([] : List Value) ++ news ++ (Builtin.zeroCells z.cells (grownCap w (0 + n) 0 e - (0 + n))).toList).toArray.size = grownCap w (0 + n) 0 e * es := by
                    simp only [List.nil_append, List.size_toArray, List.length_append, Array.length_toList, size_zeroCells, hzs, hnl, ← Nat.add_mul]
                    congr 1; omega
                  refine ⟨_, _, _, hrun, ?_, sm.replace (bk' := some (w.heap.size, grownCap w (0 + n) 0 e * es)) hlive (by rw [hver]; exact hm) (.inr (by omega)) (by exact ⟨rfl, rfl, rfl⟩) (by simp) ?_ ?_ ?_ hclose⟩
                  · exact .sl _ _ _ _ _ _ _ _ _ (Ctx.add_same _ _ _ _) hge (Nat.le_refl _) (by omega)
                  · intro j hj _; exact heap_alloc_old w.drew _ j hj
                  · intro j sz h
                    simp only [Option.some.injEq, Prod.mk.injEq] at h
                    exact .inr ⟨by omega, by simp; omega⟩
                  · refine ⟨_, e, heap_alloc_new w.drew _, hsz, ?_, ?_⟩
                    · simp only [hcells, List.nil_append, hcl2]
                      exact Nat.mul_le_mul_right _ (by omega)
                    · simp only [hcells, List.nil_append]
                      rw [show cs.length = news.length from hnews.1]
                      simpa using hnews.mono (hx' _)
            · cases h
        · cases h
  · cases h
theorem copy_sound {E : Env} (hE : EnvOk E) {base : Nat} {c : Ctx} {H : Heap} {w : World} (sm : Sim c H w) (hb : base ≤ H.length) {ts : Array TypeId} {sT ty : TypeId} {k : TK} (h0 : ts[0]? = some sT)
    (hk : E.kd sT = some k) {d x v : AV} {d' x' : Value} (hd : VRel c d d') (hx : VRel c x x') {H' : Heap} (h : copyA H k d x = some (v, H'))
    (hcl : ∀ id ver off len cap esz, d = .sl id ver off len cap esz → ∀ cs n esz', sliceCells H n esz' x = some cs → mayStore base id cs) :
    Did E base c H w (Builtin.copy_ ts ty #[d', x']) v H' := by
  unfold copyA at h
  split at h
  · rename_i e esz bytes ez id ver off len cap es
    obtain ⟨hu, ie, z, hie, hes, heb, hz, hzo, hzs⟩ := kd_slice hE hk
    cases hn : lenA x with
    | none => simp [hn] at h
    | some n =>
      simp only [hn, Option.bind_some] at h
      cases hc : sliceCells H n esz x with
      | none => simp [hc] at h
      | some cs =>
        simp only [hc, Option.bind_some] at h
        obtain ⟨news, hlen, hnews, hcl2, hf⟩ := appended_sound (P := E.P) sm hx hn hc
        have hnl : news.length = n * esz := by rw [← hcl2]; exact hnews.1.symm
        cases hblk : blkAt H id ver with
        | none => simp [hblk] at h
        | some b =>
          simp only [hblk, Option.bind_some] at h
          split at h
          · rename_i hcond
            obtain ⟨hnl2, rfl, hfit, hone⟩ := hcond
            simp only [Option.some.injEq, Prod.mk.injEq] at h
            obtain ⟨rfl, rfl⟩ := h
            obtain ⟨hlive, hver⟩ := blkAt_some hblk
            have hmin : ∀ m, len ≤ m → Nat.min n m = n := fun m hm => Nat.min_eq_left (by omega)
            have hclose : base ≤ id ∨ ∀ m, id < m → m ≤ base → HClosed m H → ∀ y ∈ b.cells.take off ++ cs ++ b.cells.drop (off + cs.length), Nmd m y := by
              rcases hcl _ _ _ _ _ _ rfl cs n es hc with h4 | h4
              · exact .inl h4
              · refine .inr fun m hm _ hcm y hy => ?_
                rcases List.mem_append.1 hy with h5 | h5
                · rcases List.mem_append.1 h5 with h6 | h6
                  · exact hcm id b hlive hm y (List.mem_of_mem_take h6)
                  · exact (h4 y h6).mono (by omega)
                · exact hcm id b hlive hm y (List.mem_of_mem_drop h5)
            rcases sm.sl hd hblk with ⟨kk, sz, cur, T, cap', rfl, hc1, hc2, hc3, hm, hkk, rfl, hle, hr⟩ | ⟨rfl, rfl, rfl, rfl, hcells, hm⟩
            · have hst := run_storeCells_at E.P kk off T news 0 cur w hkk (by rw [hnl]; omega) (hnews.ones hone)
              rw [Nat.add_zero] at hst
              have hx' : Ext c (c.add id b.ver (some (kk, cur.size))) := by
                refine ⟨fun _ _ h => h, fun i v bk hmi => ⟨v, bk, ?_, .inl ⟨rfl, rfl⟩⟩⟩
                by_cases e : i = id
                · subst e; rw [Ctx.add_same, hver, ← hm, hmi]
                · simpa [Ctx.add, e] using hmi
              refine ⟨_, .int .i64 n, w.setRow kk (cur.toList.take off ++ news ++ cur.toList.drop (off + news.length)).toArray, ?_, .int _ _, sm.replace (bk' := some (kk, cur.size)) hlive (by rw [hver]; exact hm) (.inl ⟨rfl, rfl⟩) (by exact ⟨rfl, rfl, rfl⟩) (by simp) ?_ ?_ ?_ hclose⟩
              · unfold Builtin.copy_
                simp only [h0, List.getElem?_toArray, List.getElem?_cons_zero, List.getElem?_cons_succ, Sem.run_bind, run_underlying hu, Result.andThen_ok, hlen, run_sizeOf hie, hes, hmin len (Nat.le_refl _), hf w rfl]
                simp only [hst, Sem.run_bind, Result.andThen_ok, Sem.run_pure]
                rfl
              · intro j hj hne; exact setRow_other w kk j _ fun e => hne cur.size (by rw [e])
              · intro j sz h; exact .inl ⟨sz, h⟩
              · refine ⟨_, T, setRow_heap w kk cur _ T _ hkk, ?_, ?_, ?_⟩
                · simp [hnl]; omega
                · simp only [List.length_append, List.length_take, List.length_drop, hcl2]; omega
                · have hL : (b.cells.take off ++ cs ++ b.cells.drop (off + cs.length)).length = b.cells.length := by
                    simp only [List.length_append, List.length_take, List.length_drop, hcl2]; omega
                  rw [hL]
                  have e5 : (cur.toList.take off ++ news ++ cur.toList.drop (off + news.length)).take b.cells.length = (cur.toList.take b.cells.length).take off ++ news ++ (cur.toList.take b.cells.length).drop (off + cs.length) := by
                    apply List.ext_getElem?
                    intro j
                    simp only [List.getElem?_take, List.getElem?_append, List.length_append, List.length_take, List.getElem?_drop, hcl2, hnl, Array.length_toList]
                    have hmn : min off cur.size = off := by omega
                    have hmn2 : min off (min b.cells.length cur.size) = off := by omega
                    simp only [hmn, hmn2]
                    split
                    · split
                      · split
                        · rfl
                        · rfl
                      · rename_i h1 h2
                        rw [if_pos (by omega)]
                    · rename_i h1
                      have q1 : ¬ j < off + n * es := by omega
                      simp only [q1, if_false]
                      rw [if_neg (by omega)]
                  have e6 : (List.take b.cells.length (cur.toList.take off ++ news ++ cur.toList.drop (off + news.length)).toArray.toList) = (cur.toList.take b.cells.length).take off ++ news ++ (cur.toList.take b.cells.length).drop (off + cs.length) := e5
                  rw [e6]
                  exact (((hr.take off).append hnews).append (hr.drop _)).mono hx'
            · obtain rfl : n = 0 := by omega
              have e1 : cs = [] := List.eq_nil_of_length_eq_zero (by simpa using hcl2)
              have e2 : news = [] := List.eq_nil_of_length_eq_zero (by simpa using hnl)
              subst e1 e2
              refine ⟨_, .int .i64 0, w, ?_, .int _ _, sm.replace (bk' := none) hlive (by rw [hver]; exact hm) (.inl ⟨rfl, rfl⟩) (.refl w) (Nat.le_refl _) (fun _ _ _ => rfl) (fun _ _ h => by cases h) ?_ hclose⟩
              · unfold Builtin.copy_
                simp only [h0, List.getElem?_toArray, List.getElem?_cons_zero, List.getElem?_cons_succ, Sem.run_bind, run_underlying hu, Result.andThen_ok, hlen, run_sizeOf hie, hes, hmin 0 (Nat.le_refl _), hf w rfl]
                simp only [Sem.run_bind, Result.andThen_ok, Sem.run_pure]
                rfl
              · show _ = []
                simp [hcells]
          · cases h
  · cases h
end Go.Proofs.YtimdnnlfkkkpbaaDoor
