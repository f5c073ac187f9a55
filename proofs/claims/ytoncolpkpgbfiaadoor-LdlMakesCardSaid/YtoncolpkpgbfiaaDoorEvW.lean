/- Small laws for walking with the interpreter. -/
import Derived.Test.YtoncolpkpgbfiaaDoorEvN
set_option linter.unusedSimpArgs false
set_option linter.unusedVariables false
namespace Go.Proofs.YtoncolpkpgbfiaaDoor
section
variable {E : Env} {C : CallRel} {f base : Nat}
def condA (E : Env) (C : CallRel) (f base : Nat) (v : AV) (x y : Code) (fr : Fr) (H : Heap) (K : Ex → Fr → Heap → Prop) : Prop :=
  match v with
  | .bool b => (b = true → wpA E C f base x fr H K) ∧ (b = false → wpA E C f base y fr H K)
  | _ => False
theorem wpA_cond {o : Operand} {x y : Code} {fr : Fr} {H : Heap} {K : Ex → Fr → Heap → Prop} : wpA E C f base (.cond o x y) fr H K = condA E C f base (fr.ev o) x y fr H K := (rfl)
theorem condA_true {x y : Code} {fr : Fr} {H : Heap} {K : Ex → Fr → Heap → Prop} : condA E C f base (.bool true) x y fr H K = wpA E C f base x fr H K := by simp [condA]
theorem condA_false {x y : Code} {fr : Fr} {H : Heap} {K : Ex → Fr → Heap → Prop} : condA E C f base (.bool false) x y fr H K = wpA E C f base y fr H K := by simp [condA]
theorem condA_split {b : Bool} {x y : Code} {fr : Fr} {H : Heap} {K : Ex → Fr → Heap → Prop} (h1 : b = true → wpA E C f base x fr H K) (h2 : b = false → wpA E C f base y fr H K) : condA E C f base (.bool b) x y fr H K := ⟨h1, h2⟩
theorem seqK_normal {b : Code} {K : Ex → Fr → Heap → Prop} {fr : Fr} {H : Heap} : seqK E C f base b K .normal fr H = wpA E C f base b fr H K := (rfl)
theorem seqK_exit {b : Code} {K : Ex → Fr → Heap → Prop} {fr : Fr} {H : Heap} {i : Nat} : seqK E C f base b K (.exit i) fr H = K (.exit i) fr H := (rfl)
theorem seqK_ret {b : Code} {K : Ex → Fr → Heap → Prop} {fr : Fr} {H : Heap} : seqK E C f base b K .ret fr H = K .ret fr H := (rfl)
theorem blockK_normal {i : Nat} {K : Ex → Fr → Heap → Prop} {fr : Fr} {H : Heap} : blockK i K .normal fr H = K .normal fr H := (rfl)
theorem blockK_exit {i j : Nat} {K : Ex → Fr → Heap → Prop} {fr : Fr} {H : Heap} : blockK i K (.exit j) fr H = if j = i then K .normal fr H else K (.exit j) fr H := (rfl)
theorem blockK_ret {i : Nat} {K : Ex → Fr → Heap → Prop} {fr : Fr} {H : Heap} : blockK i K .ret fr H = K .ret fr H := (rfl)
theorem loopK_normal {b : Code} {K : Ex → Fr → Heap → Prop} {fr : Fr} {H : Heap} : loopK E C f base b K .normal fr H = loopA E C f base b K fr H := (rfl)
theorem loopK_exit {b : Code} {K : Ex → Fr → Heap → Prop} {fr : Fr} {H : Heap} {i : Nat} : loopK E C f base b K (.exit i) fr H = K (.exit i) fr H := (rfl)
theorem loopK_ret {b : Code} {K : Ex → Fr → Heap → Prop} {fr : Fr} {H : Heap} : loopK E C f base b K .ret fr H = K .ret fr H := (rfl)
theorem regK_def {id : Nat} {K : Ex → Fr → Heap → Prop} {fr : Fr} {H : Heap} : regK E f id K fr H = K .normal (keepA E f id fr) H := (rfl)
theorem opsK_def {all : Array Oper} {rest : List (Oper × Tag)} {dst : Option Nat} {fr : Fr} {K : Fr → Heap → Prop} {v : AV} {H : Heap} : opsK E C f base all rest dst fr K v H = wpOpsA E C f base all rest (fr.put dst v) H K := (rfl)
theorem keepA_none {id : Nat} {fr : Fr} (h : E.keep f id = none) : keepA E f id fr = fr := by simp [keepA, h]

theorem pkB {t x y : Bool} {H : Heap} : pickA (.bool t) (.bool x) (.bool y) H = some (.bool (bif t then x else y), H) := (rfl)
theorem pkT {a b : AV} {H : Heap} : pickA (.bool true) a b H = some (a, H) := by cases a <;> cases b <;> rfl
theorem pkF {a b : AV} {H : Heap} : pickA (.bool false) a b H = some (b, H) := by cases a <;> cases b <;> rfl
theorem retA_done {rs : List ResultVar} {v' : AV} {H' : Heap} {fr : Fr} {H1 : Heap} {vs vs' : List AV} (hesc : E.escapes f = false) (hr : resultsA E fr H1 rs = some vs) (hf : FinL base H1 vs vs') (hv : v' = packA vs') (hH : H' = H1.take base) :
    retA E f base rs v' H' .ret fr H1 := ⟨trivial, vs, hr, by rw [hesc]; exact ⟨vs', hf, hv, hH⟩⟩
theorem retA_end {rs : List ResultVar} {v' : AV} {H' : Heap} {fr : Fr} {H1 : Heap} {vs vs' : List AV} (hesc : E.escapes f = false) (hr : resultsA E fr H1 rs = some vs) (hf : FinL base H1 vs vs') (hv : v' = packA vs') (hH : H' = H1.take base) :
    retA E f base rs v' H' .normal fr H1 := ⟨trivial, vs, hr, by rw [hesc]; exact ⟨vs', hf, hv, hH⟩⟩
theorem callThen_of {h : FuncId} {args : List AV} {H : Heap} {K : AV → Heap → Prop} {v : AV} {H' : Heap} (hc : C h args H v H') (hk : K v H') : callThen C h args H K := ⟨v, H', hc, hk⟩
theorem fnThen_fn {h : FuncId} {caps args : List AV} {H : Heap} {K : AV → Heap → Prop} (hx : E.ext h (args ++ caps) = none) : fnThen E C (.fn h caps) args H K = callThen C h (args ++ caps) H K := by simp [fnThen, hx]
theorem fnThen_ext {h : FuncId} {caps args : List AV} {H : Heap} {K : AV → Heap → Prop} {v : AV} (hx : E.ext h (args ++ caps) = some v) : fnThen E C (.fn h caps) args H K = K v H := by simp [fnThen, hx]
end

/-! ### the heap: what there was, and blocks of one's own -/
theorem set_app {S L : Heap} {j : Nat} {b : Option Blk} : (S ++ L).set (S.length + j) b = S ++ L.set j b := by
  rw [List.set_append_right _ _ (by omega)]; simp
theorem set_app0 {S L : Heap} {b : Option Blk} : (S ++ L).set S.length b = S ++ L.set 0 b := by
  have h := set_app (S := S) (L := L) (j := 0) (b := b); rwa [Nat.add_zero] at h
theorem blkAt_app {S L : Heap} {j v : Nat} : blkAt (S ++ L) (S.length + j) v = blkAt L j v := by
  unfold blkAt; rw [List.getElem?_append_right (by omega)]; simp
theorem blkAt_app0 {S L : Heap} {v : Nat} : blkAt (S ++ L) S.length v = blkAt L 0 v := by
  have h := blkAt_app (S := S) (L := L) (j := 0) (v := v); rwa [Nat.add_zero] at h
theorem blkAt_zero {cs : List AV} {v : Nat} {L : Heap} : blkAt (some ⟨cs, v⟩ :: L) 0 v = some ⟨cs, v⟩ := by simp [blkAt]
theorem blkAt_succ {b : Option Blk} {L : Heap} {j v : Nat} : blkAt (b :: L) (j + 1) v = blkAt L j v := by simp [blkAt]
theorem take_app0 {S L : Heap} : (S ++ L).take S.length = S := by simp
theorem take_self {S : Heap} : S.take S.length = S := by simp
theorem mayStore_own {base j : Nat} {vs : List AV} : mayStore base (base + j) vs = True := by simp [mayStore]
theorem mayStore_own0 {base : Nat} {vs : List AV} : mayStore base base vs = True := by simp [mayStore]
theorem mayAppend_own {base j v o l c e : Nat} {x : AV} {H : Heap} : mayAppend base .append [.sl (base + j) v o l c e, x] H = True := by simp [mayAppend]
theorem mayAppend_own0 {base v o l c e : Nat} {x : AV} {H : Heap} : mayAppend base .append [.sl base v o l c e, x] H = True := by simp [mayAppend]
theorem mayAppend_nils {base : Nat} {x : AV} {H : Heap} : mayAppend base .append [.nils, x] H = True := by simp [mayAppend]
theorem mayAppend_len {base : Nat} {x : List AV} {H : Heap} : mayAppend base .len x H = True := by simp [mayAppend]
theorem mayAppend_max {base : Nat} {x : List AV} {H : Heap} : mayAppend base .max x H = True := by simp [mayAppend]
theorem mayAppend_min {base : Nat} {x : List AV} {H : Heap} : mayAppend base .min x H = True := by simp [mayAppend]

/-! ### plain values -/
theorem nmd_int {n : Nat} {k : IntKind} {x : Int} : Nmd n (.int k x) = True := eq_true (.int _ _)
theorem nmd_bool {n : Nat} {b : Bool} : Nmd n (.bool b) = True := eq_true (.bool _)
theorem nmd_lst {n : Nat} {l : List AV} {k : Nat} : Nmd n (.lst l k) = True := eq_true (.lst _ _)
theorem nmd_nils {n : Nat} : Nmd n .nils = True := eq_true .nils
theorem nmd_nili {n : Nat} : Nmd n .nili = True := eq_true .nili
theorem nmd_ifc {n : Nat} {t : TypeId} {v : AV} : Nmd n (.ifc t v) = Nmd n v := propext ⟨fun h => by cases h; assumption, fun h => .ifc _ _ h⟩
theorem nmd_agg {n : Nat} {l : List AV} : Nmd n (.agg l) = ∀ x ∈ l, Nmd n x := propext ⟨fun h => by cases h; assumption, fun h => .agg _ h⟩
theorem nmd_tup {n : Nat} {l : List AV} : Nmd n (.tup l) = ∀ x ∈ l, Nmd n x := propext ⟨fun h => by cases h; assumption, fun h => .tup _ h⟩
theorem finL_one {base : Nat} {H : Heap} {v : AV} (h : Nmd base v) : FinL base H [v] [v] := .cons _ _ _ _ (.same _ h) .nil
theorem finL_two {base : Nat} {H : Heap} {v w : AV} (h : Nmd base v) (h' : Nmd base w) : FinL base H [v, w] [v, w] := .cons _ _ _ _ (.same _ h) (.cons _ _ _ _ (.same _ h') .nil)
theorem finL_three {base : Nat} {H : Heap} {v w u : AV} (h : Nmd base v) (h' : Nmd base w) (h'' : Nmd base u) : FinL base H [v, w, u] [v, w, u] := .cons _ _ _ _ (.same _ h) (.cons _ _ _ _ (.same _ h') (.cons _ _ _ _ (.same _ h'') .nil))
end Go.Proofs.YtoncolpkpgbfiaaDoor

/- The wp form with the orders of drawn regions told ahead, one list of tags a region: all equations, for walking. -/
set_option linter.unusedSimpArgs false
set_option linter.unusedVariables false
namespace Go.Proofs.YtoncolpkpgbfiaaDoor
/-- What each operation waits for, through others too. -/
def closure (ops : Array Oper) : List (List Nat) :=
  ops.toList.foldl (fun acc o => acc ++ [(directs o).foldl (fun s j => (((acc[j]?).getD []).filter fun k => !s.contains k) ++ s) (directs o)]) []
/-- Two that make a block each, brought together: what hangs on nothing between them goes ahead. -/
def isPureT : Tag → Bool
  | .pure => true
  | _ => false
def holdT {α : Type} (a : α × Tag) : List (α × Tag) → List (α × Tag)
  | (b, .pure) :: l => (b, .pure) :: holdT a l
  | l => a :: l
def reord {α : Type} : List (α × Tag) → List (α × Tag)
  | [] => []
  | (a, .twin) :: l => holdT (a, .twin) l
  | x :: l => x :: reord l
def mkCert (ops : Array Oper) (tags : List Tag) : Cert := ⟨reord ((List.range ops.size).zip tags), closure ops⟩
def tagsOk (ops : Array Oper) (tags : List Tag) : Bool := tags.length == ops.size && drawOk ops (mkCert ops tags)
def drawsOk (D : Nat → List Tag) : Code → Bool
  | .region id ops true => tagsOk ops (D id)
  | .seq a b => drawsOk D a && drawsOk D b
  | .cond _ a b => drawsOk D a && drawsOk D b
  | .block _ b => drawsOk D b
  | .loop b => drawsOk D b
  | _ => true

theorem range_zip_get (ops : Array Oper) (tags : List Tag) (h : tags.length = ops.size) :
    ((List.range ops.size).zip tags).filterMap (fun p => (ops[p.1]?).map fun o => (o, p.2)) = ops.toList.zip tags := by
  have key : ∀ (l : List (Nat × Tag)), (∀ p ∈ l, p.1 < ops.size) → l.filterMap (fun p => (ops[p.1]?).map fun o => (o, p.2)) = l.map (fun p => ((ops[p.1]?).getD default, p.2)) := by
    intro l
    induction l with
    | nil => intro _; rfl
    | cons p l ih =>
      intro hl
      have h2 := hl p (by simp)
      simp only [List.filterMap_cons, List.map_cons, Array.getElem?_eq_getElem h2, Option.map_some, Option.getD_some]
      rw [ih fun q hq => hl q (by simp [hq])]
  rw [key _ fun p hp => List.mem_range.1 (List.of_mem_zip hp).1]
  apply List.ext_getElem
  · simp [h]
  · intro i h1 h2
    simp at h1 h2
    have h3 : i < ops.size := by omega
    simp [Array.getElem?_eq_getElem h3]

/-- A region with two that make a block each: the first is held back till the second comes; then both orders. -/
def drawR (E : Env) (C : CallRel) (f base : Nat) (all : Array Oper) : Option Oper → List (Oper × Tag) → Fr → Heap → (Fr → Heap → Prop) → Prop
  | none, [], fr, H, K => K fr H
  | none, (o, .twin) :: rest, fr, H, K => drawR E C f base all (some o) rest fr H K
  | none, (o, tag) :: rest, fr, H, K => match guardA all fr o.guard with
    | some true => tagThen E C f base o tag fr H fun v H' => drawR E C f base all none rest (fr.put o.dst v) H' K
    | some false => drawR E C f base all none rest (fr.put o.dst (.tup [])) H K
    | none => False
  | some a, (o, .pure) :: rest, fr, H, K => match guardA all fr o.guard with
    | some true => tagThen E C f base o .pure fr H fun v H' => drawR E C f base all (some a) rest (fr.put o.dst v) H' K
    | some false => drawR E C f base all (some a) rest (fr.put o.dst (.tup [])) H K
    | none => False
  | some a, (b, .twin) :: rest, fr, H, K => wpOpsA E C f base all ((a, .fresh) :: (b, .fresh) :: rest.map fun p => (p.1, untwin p.2)) fr H K ∧ wpOpsA E C f base all ((b, .fresh) :: (a, .fresh) :: rest.map fun p => (p.1, untwin p.2)) fr H K
  | some _, _, _, _, _ => False
def drawQ (E : Env) (C : CallRel) (f base : Nat) (k : Option Nat) (all : Array Oper) (l : List Oper) (ts : List Tag) (fr : Fr) (H : Heap) (K : Fr → Heap → Prop) : Prop :=
  match k with
  | none => wpOpsA E C f base all (l.zip (ts.map untwin)) fr H K
  | some _ => drawR E C f base all none (l.zip ts) fr H K
def utw (l : List (Oper × Tag)) : List (Oper × Tag) := l.map fun p => (p.1, untwin p.2)
theorem drawR_mono {E : Env} {C : CallRel} {f base : Nat} {all : Array Oper} : ∀ (l : List (Oper × Tag)) {a : Option Oper} {fr : Fr} {H : Heap} {K K' : Fr → Heap → Prop}, (∀ fr H, K fr H → K' fr H) → drawR E C f base all a l fr H K → drawR E C f base all a l fr H K' := by
  intro l
  induction l with
  | nil => intro a fr H K K' hK h; cases a with
    | none => exact hK _ _ h
    | some a => exact h
  | cons p rest ih =>
    intro a fr H K K' hK h
    obtain ⟨o, tag⟩ := p
    cases a with
    | none =>
      cases tag
      case twin => exact ih hK h
      all_goals
        simp only [drawR] at h ⊢
        split at h
        · exact tagThen_mono (fun _ _ _ _ _ h => h) (fun v H' h => ih hK h) h
        · exact ih hK h
        · exact h
    | some a =>
      cases tag
      case twin => exact ⟨wpOpsA_mono (fun _ _ _ _ _ h => h) _ hK h.1, wpOpsA_mono (fun _ _ _ _ _ h => h) _ hK h.2⟩
      case pure =>
        simp only [drawR] at h ⊢
        split at h
        · exact tagThen_mono (fun _ _ _ _ _ h => h) (fun v H' h => ih hK h) h
        · exact ih hK h
        · exact h
      all_goals exact h
theorem wp_cons {E : Env} {C : CallRel} {f base : Nat} {all : Array Oper} {o : Oper} {tag : Tag} {l : List (Oper × Tag)} {fr : Fr} {H : Heap} {K : Fr → Heap → Prop} : wpOpsA E C f base all ((o, tag) :: l) fr H K =
    match guardA all fr o.guard with
    | some true => tagThen E C f base o tag fr H fun v H' => wpOpsA E C f base all l (fr.put o.dst v) H' K
    | some false => wpOpsA E C f base all l (fr.put o.dst (.tup [])) H K
    | none => False := (rfl)
theorem drawR_hold {E : Env} {C : CallRel} {f base : Nat} {all : Array Oper} {a : Oper} : ∀ (l : List (Oper × Tag)) {fr : Fr} {H : Heap} {K : Fr → Heap → Prop}, drawR E C f base all (some a) l fr H K →
    drawW E C f base all (twinPos ((holdT (a, .twin) l).map (·.2))) (utw (holdT (a, .twin) l)) fr H K := by
  intro l
  induction l with
  | nil => intro fr H K h; exact h.elim
  | cons p rest ih =>
    intro fr H K h
    obtain ⟨o, tag⟩ := p
    cases tag
    case twin => exact h
    case pure =>
      have key : ∀ {fr : Fr} {H : Heap}, drawR E C f base all (some a) rest fr H K → ∃ k, twinPos ((holdT (a, .twin) rest).map (·.2)) = some k := by
        clear h ih
        induction rest with
        | nil => intro fr H h; exact h.elim
        | cons q rest ih2 =>
          intro fr H h
          obtain ⟨o2, tag2⟩ := q
          cases tag2
          case pure =>
            simp only [drawR] at h
            split at h
            · obtain ⟨v, H', _, h2⟩ := tagThen_ex h
              obtain ⟨k, hk⟩ := ih2 h2
              exact ⟨k + 1, by simp only [holdT, List.map_cons, twinPos, hk, Option.map_some]⟩
            · obtain ⟨k, hk⟩ := ih2 h
              exact ⟨k + 1, by simp only [holdT, List.map_cons, twinPos, hk, Option.map_some]⟩
            · exact h.elim
          case twin => exact ⟨0, rfl⟩
          all_goals exact h.elim
      have fin : ∀ {k : Nat}, twinPos ((holdT (a, .twin) rest).map (·.2)) = some k → drawW E C f base all (twinPos ((holdT (a, .twin) ((o, .pure) :: rest)).map (·.2))) (utw (holdT (a, .twin) ((o, .pure) :: rest))) fr H K =
          wpOpsA E C f base all ((o, .pure) :: (utw (holdT (a, .twin) rest)).take k) fr H fun fr H => wpOpsA E C f base all ((utw (holdT (a, .twin) rest)).drop k) fr H K ∧ wpOpsA E C f base all (swap1 ((utw (holdT (a, .twin) rest)).drop k)) fr H K := by
        intro k hk
        simp only [holdT, List.map_cons, twinPos, hk, Option.map_some, drawW, utw, untwin, List.take_succ_cons, List.drop_succ_cons]
      simp only [drawR] at h
      split at h
      · rename_i hg
        obtain ⟨v, H', _, h2⟩ := tagThen_ex h
        obtain ⟨k, hk⟩ := key h2
        rw [fin hk, wp_cons, hg]
        refine tagThen_mono (fun _ _ _ _ _ h => h) (fun v H' h => ?_) h
        have := ih h
        rw [hk] at this
        exact this
      · rename_i hg
        obtain ⟨k, hk⟩ := key h
        rw [fin hk, wp_cons, hg]
        have := ih h
        rw [hk] at this
        exact this
      · exact h.elim
    all_goals exact h.elim
theorem twin_map (k : Option Nat) : k = none ∨ ∃ j, k = some j := by cases k <;> simp
theorem drawR_sound {E : Env} {C : CallRel} {f base : Nat} {all : Array Oper} : ∀ (l : List (Oper × Tag)) {fr : Fr} {H : Heap} {K : Fr → Heap → Prop}, drawR E C f base all none l fr H K →
    drawW E C f base all (twinPos ((reord l).map (·.2))) (utw (reord l)) fr H K := by
  intro l
  induction l with
  | nil => intro fr H K h; exact h
  | cons p rest ih =>
    intro fr H K h
    obtain ⟨o, tag⟩ := p
    have step : tag ≠ .twin → twinPos (tag :: (reord rest).map (·.2)) = (twinPos ((reord rest).map (·.2))).map (· + 1) → untwin tag = tag → (match guardA all fr o.guard with
        | some true => tagThen E C f base o tag fr H fun v H' => drawR E C f base all none rest (fr.put o.dst v) H' K
        | some false => drawR E C f base all none rest (fr.put o.dst (.tup [])) H K
        | none => False) → drawW E C f base all (twinPos (tag :: (reord rest).map (·.2))) ((o, tag) :: utw (reord rest)) fr H K := by
      intro _ htp hut h
      rw [htp]
      rcases twin_map (twinPos ((reord rest).map (·.2))) with hk | ⟨k, hk⟩
      · rw [hk]
        show wpOpsA E C f base all _ fr H K
        rw [wp_cons]
        split at h
        · rename_i hg
          try rw [hg]
          exact tagThen_mono (fun _ _ _ _ _ h => h) (fun v H' h => by have := ih h; rw [hk] at this; exact this) h
        · rename_i hg
          try rw [hg]
          have := ih h
          rw [hk] at this
          exact this
        · exact h.elim
      · rw [hk]
        show wpOpsA E C f base all ((o, tag) :: (utw (reord rest)).take k) fr H _
        rw [wp_cons]
        split at h
        · rename_i hg
          try rw [hg]
          exact tagThen_mono (fun _ _ _ _ _ h => h) (fun v H' h => by have := ih h; rw [hk] at this; exact this) h
        · rename_i hg
          try rw [hg]
          have := ih h
          rw [hk] at this
          exact this
        · exact h.elim
    cases tag
    case twin => exact drawR_hold rest h
    all_goals exact step (by simp) rfl rfl h

theorem holdT_snd {α : Type} (a : α × Tag) : ∀ l : List (α × Tag), (holdT a l).map (·.2) = (holdT ((), a.2) (l.map fun p => ((), p.2))).map (·.2)
  | [] => rfl
  | (b, t) :: l => by
    cases t
    case pure => simp only [holdT, List.map_cons]; rw [holdT_snd a l]
    all_goals simp only [holdT, List.map_cons, List.map_map]; rfl
def reordT (l : List Tag) : List Tag := (reord (l.map fun t => ((), t))).map (·.2)
theorem reord_snd {α : Type} : ∀ l : List (α × Tag), (reord l).map (·.2) = reordT (l.map (·.2))
  | [] => rfl
  | (b, t) :: l => by
    cases t
    case twin =>
      unfold reordT
      simp only [reord, List.map_cons, List.map_map]
      rw [holdT_snd]
      rfl
    all_goals
      have := reord_snd l
      unfold reordT at this ⊢
      simp only [reord, List.map_cons, this]
theorem holdT_filter (ops : Array Oper) (a : Nat × Tag) (o : Oper) (ha : ops[a.1]? = some o) : ∀ l : List (Nat × Tag), (∀ p ∈ l, p.1 < ops.size) → (holdT a l).filterMap (fun p => (ops[p.1]?).map fun o => (o, p.2)) = holdT (o, a.2) (l.filterMap fun p => (ops[p.1]?).map fun o => (o, p.2))
  | [], _ => by simp [holdT, ha]
  | (b, t) :: l, h => by
    have hb := h (b, t) (by simp)
    have hb' : ops[b]? = some ops[b] := Array.getElem?_eq_getElem hb
    cases t
    case pure =>
      have := holdT_filter ops a o ha l fun p hp => h p (by simp [hp])
      simp only [holdT, List.filterMap_cons, hb', Option.map_some, this]
    all_goals simp only [holdT, List.filterMap_cons, ha, hb', Option.map_some]
theorem reord_filter (ops : Array Oper) : ∀ l : List (Nat × Tag), (∀ p ∈ l, p.1 < ops.size) → (reord l).filterMap (fun p => (ops[p.1]?).map fun o => (o, p.2)) = reord (l.filterMap fun p => (ops[p.1]?).map fun o => (o, p.2))
  | [], _ => rfl
  | (b, t) :: l, h => by
    have hb := h (b, t) (by simp)
    have hb' : ops[b]? = some ops[b] := Array.getElem?_eq_getElem hb
    have ih := reord_filter ops l fun p hp => h p (by simp [hp])
    cases t
    case twin =>
      simp only [reord, List.filterMap_cons, hb', Option.map_some]
      exact holdT_filter ops (b, .twin) ops[b] hb' l fun p hp => h p (by simp [hp])
    all_goals simp only [reord, List.filterMap_cons, hb', Option.map_some, ih]
theorem reord_id {α : Type} : ∀ {l : List (α × Tag)}, twinPos (l.map (·.2)) = none → reord l = l
  | [], _ => rfl
  | (b, t) :: l, h => by
    cases t
    case twin => simp [twinPos] at h
    all_goals
      have : twinPos (l.map (·.2)) = none := by
        simp only [List.map_cons, twinPos, Option.map_eq_none_iff] at h
        exact h
      simp only [reord]
      rw [reord_id this]
def wpC (E : Env) (C : CallRel) (f base : Nat) (D : Nat → List Tag) : Code → Fr → Heap → (Ex → Fr → Heap → Prop) → Prop
  | .skip, fr, H, K => K .normal fr H
  | .region id ops false, fr, H, K => frzThen base (E.frz f id) fr H fun fr H => wpOpsA E C f base ops (ops.toList.map fun o => (o, Tag.seq)) fr H (regK E f id K)
  | .region id ops true, fr, H, K => frzThen base (E.frz f id) fr H fun fr H => drawQ E C f base (twinPos (D id)) ops ops.toList (D id) fr H (regK E f id K)
  | .seq a b, fr, H, K => wpC E C f base D a fr H fun e fr' H' => match e with
    | .normal => wpC E C f base D b fr' H' K
    | e => K e fr' H'
  | .cond c x y, fr, H, K => match fr.ev c with
    | .bool b => (b = true → wpC E C f base D x fr H K) ∧ (b = false → wpC E C f base D y fr H K)
    | _ => False
  | .block id b, fr, H, K => wpC E C f base D b fr H (blockK id K)
  | .loop b, fr, H, K => ∀ X : Fr → Heap → Prop, (∀ fr H, wpC E C f base D b fr H (fun e fr' H' => match e with
    | .normal => X fr' H'
    | e => K e fr' H') → X fr H) → X fr H
  | .exit id, fr, H, K => K (.exit id) fr H
  | .ret, fr, H, K => K .ret fr H
  | _, _, _, _ => False

section
variable {E : Env} {C : CallRel} {f base : Nat} {D : Nat → List Tag}
theorem wpC_mono : ∀ (c : Code) {fr : Fr} {H : Heap} {K K' : Ex → Fr → Heap → Prop}, (∀ e fr H, K e fr H → K' e fr H) → wpC E C f base D c fr H K → wpC E C f base D c fr H K' := by
  intro c
  induction c with
  | skip => intro fr H K K' hK h; exact hK _ _ _ h
  | region id ops draw =>
    intro fr H K K' hK h
    cases draw with
    | false => exact frzThen_mono _ (fun _ _ h => wpOpsA_mono (fun _ _ _ _ _ h => h) _ (fun _ _ h => hK _ _ _ h) h) h
    | true => exact frzThen_mono _ (fun fr H h => by
        show drawQ E C f base (twinPos (D id)) ops ops.toList (D id) fr H (regK E f id K')
        have h' : drawQ E C f base (twinPos (D id)) ops ops.toList (D id) fr H (regK E f id K) := h
        unfold drawQ at h' ⊢
        split at h'
        · exact wpOpsA_mono (fun _ _ _ _ _ h => h) _ (fun _ _ h => hK _ _ _ h) h'
        · exact drawR_mono _ (fun _ _ h => hK _ _ _ h) h') h
  | seq a b iha ihb =>
    intro fr H K K' hK h
    refine iha (fun e fr H h => ?_) h
    cases e with
    | normal => exact ihb hK h
    | _ => exact hK _ _ _ h
  | cond c x y ihx ihy =>
    intro fr H K K' hK h
    simp only [wpC] at h ⊢
    split at h
    · exact ⟨fun hb => ihx hK (h.1 hb), fun hb => ihy hK (h.2 hb)⟩
    · exact h
  | block id b ih =>
    intro fr H K K' hK h
    refine ih (fun e fr H h => ?_) h
    cases e with
    | exit id' =>
      by_cases hid : id' = id
      · simp only [blockK, hid, if_true] at h ⊢; exact hK _ _ _ h
      · simp only [blockK, hid, if_false] at h ⊢; exact hK _ _ _ h
    | _ => exact hK _ _ _ h
  | loop b ih =>
    intro fr H K K' hK h
    intro X hX
    refine h X fun fr H h => hX fr H (ih (fun e fr H h => ?_) h)
    cases e with
    | normal => exact h
    | _ => exact hK _ _ _ h
  | exit id => intro fr H K K' hK h; exact hK _ _ _ h
  | ret => intro fr H K K' hK h; exact hK _ _ _ h
  | _ => intro fr H K K' hK h; exact h

theorem wpC_sound : ∀ (c : Code), drawsOk D c = true → ∀ {fr : Fr} {H : Heap} {K : Ex → Fr → Heap → Prop}, wpC E C f base D c fr H K → wpA E C f base c fr H K := by
  intro c
  induction c with
  | skip => intro _ fr H K h; exact h
  | region id ops draw =>
    intro hd fr H K h
    cases draw with
    | false => exact h
    | true =>
      simp only [drawsOk, tagsOk, Bool.and_eq_true, beq_iff_eq] at hd
      refine frzThen_mono _ (fun fr H h => ?_) h
      refine ⟨mkCert ops (D id), hd.2, ?_⟩
      have h' : drawQ E C f base (twinPos (D id)) ops ops.toList (D id) fr H (regK E f id K) := h
      have e1 : ((mkCert ops (D id)).ord.map (·.2)) = (reord (ops.toList.zip (D id))).map (·.2) := by
        show (reord ((List.range ops.size).zip (D id))).map (·.2) = _
        rw [reord_snd, reord_snd, List.map_snd_zip (by rw [List.length_range, hd.1]; exact Nat.le_refl _), List.map_snd_zip (by rw [hd.1]; simp)]
      have e2 : ((mkCert ops (D id)).ord.filterMap fun p => (ops[p.1]?).map fun o => (o, untwin p.2)) = utw (reord (ops.toList.zip (D id))) := by
        show (reord ((List.range ops.size).zip (D id))).filterMap _ = _
        have e3 := range_zip_get ops (D id) hd.1
        rw [← e3, ← reord_filter ops _ fun p hp => List.mem_range.1 (List.of_mem_zip hp).1]
        unfold utw
        rw [List.map_filterMap]
        congr 1
        funext p
        cases ops[p.1]? <;> rfl
      rw [e1, e2]
      unfold drawQ at h'
      split at h'
      · rename_i hn
        have e4 : reord (ops.toList.zip (D id)) = ops.toList.zip (D id) := reord_id (by rw [List.map_snd_zip (by rw [hd.1]; simp)]; exact hn)
        rw [e4, List.map_snd_zip (by rw [hd.1]; simp), hn]
        show wpOpsA E C f base ops _ fr H _
        rw [List.zip_map_right] at h'
        exact h'
      · exact drawR_sound _ h'
  | seq a b iha ihb =>
    intro hd fr H K h
    simp only [drawsOk, Bool.and_eq_true] at hd
    refine iha hd.1 (wpC_mono a (fun e fr H h => ?_) h)
    cases e with
    | normal => exact ihb hd.2 h
    | _ => exact h
  | cond c x y ihx ihy =>
    intro hd fr H K h
    simp only [drawsOk, Bool.and_eq_true] at hd
    simp only [wpC, wpA] at h ⊢
    cases hv : fr.ev c <;> simp only [hv] at h ⊢
    exact ⟨fun hb => ihx hd.1 (h.1 hb), fun hb => ihy hd.2 (h.2 hb)⟩
  | block id b ih =>
    intro hd fr H K h
    exact ih hd h
  | loop b ih =>
    intro hd fr H K h X hX
    exact h X fun fr H h => hX fr H (ih hd h)
  | exit id => intro _ fr H K h; exact h
  | ret => intro _ fr H K h; exact h
  | _ => intro _ fr H K h; exact h.elim

/-! ### the rules -/
def seqC (E : Env) (C : CallRel) (f base : Nat) (D : Nat → List Tag) (b : Code) (K : Ex → Fr → Heap → Prop) (e : Ex) (fr : Fr) (H : Heap) : Prop :=
  match e with
  | .normal => wpC E C f base D b fr H K
  | e => K e fr H
def condC (E : Env) (C : CallRel) (f base : Nat) (D : Nat → List Tag) (v : AV) (x y : Code) (fr : Fr) (H : Heap) (K : Ex → Fr → Heap → Prop) : Prop :=
  match v with
  | .bool b => (b = true → wpC E C f base D x fr H K) ∧ (b = false → wpC E C f base D y fr H K)
  | _ => False
def loopC (E : Env) (C : CallRel) (f base : Nat) (D : Nat → List Tag) (b : Code) (K : Ex → Fr → Heap → Prop) (fr : Fr) (H : Heap) : Prop := wpC E C f base D (.loop b) fr H K
def loopD (E : Env) (C : CallRel) (f base : Nat) (D : Nat → List Tag) (b : Code) (K : Ex → Fr → Heap → Prop) (e : Ex) (fr : Fr) (H : Heap) : Prop :=
  match e with
  | .normal => loopC E C f base D b K fr H
  | e => K e fr H
variable {fr : Fr} {H : Heap} {K : Ex → Fr → Heap → Prop} {a b x y : Code} {i j id : Nat} {ops : Array Oper} {o : Operand}
theorem c_seq : wpC E C f base D (.seq a b) fr H K = wpC E C f base D a fr H (seqC E C f base D b K) := (rfl)
theorem c_block : wpC E C f base D (.block id b) fr H K = wpC E C f base D b fr H (blockK id K) := (rfl)
theorem c_skip : wpC E C f base D .skip fr H K = K .normal fr H := (rfl)
theorem c_exit : wpC E C f base D (.exit id) fr H K = K (.exit id) fr H := (rfl)
theorem c_ret : wpC E C f base D .ret fr H K = K .ret fr H := (rfl)
theorem c_loop : wpC E C f base D (.loop b) fr H K = loopC E C f base D b K fr H := (rfl)
theorem c_cond : wpC E C f base D (.cond o x y) fr H K = condC E C f base D (fr.ev o) x y fr H K := (rfl)
theorem condC_true : condC E C f base D (.bool true) x y fr H K = wpC E C f base D x fr H K := by simp [condC]
theorem condC_false : condC E C f base D (.bool false) x y fr H K = wpC E C f base D y fr H K := by simp [condC]
theorem condC_split {t : Bool} (h1 : t = true → wpC E C f base D x fr H K) (h2 : t = false → wpC E C f base D y fr H K) : condC E C f base D (.bool t) x y fr H K := ⟨h1, h2⟩
theorem seqC_normal : seqC E C f base D b K .normal fr H = wpC E C f base D b fr H K := (rfl)
theorem seqC_exit : seqC E C f base D b K (.exit i) fr H = K (.exit i) fr H := (rfl)
theorem seqC_ret : seqC E C f base D b K .ret fr H = K .ret fr H := (rfl)
theorem loopD_normal : loopD E C f base D b K .normal fr H = loopC E C f base D b K fr H := (rfl)
theorem loopD_exit : loopD E C f base D b K (.exit i) fr H = K (.exit i) fr H := (rfl)
theorem loopD_ret : loopD E C f base D b K .ret fr H = K .ret fr H := (rfl)
theorem loopC_of (h : wpC E C f base D b fr H (loopD E C f base D b K)) : loopC E C f base D b K fr H := by
  intro X hX
  refine hX fr H (wpC_mono b (fun e fr H h => ?_) h)
  cases e with
  | normal => exact h X hX
  | _ => exact h
end
theorem Call.ofC {E : Env} {f : FuncId} {args : List AV} {H : Heap} {v : AV} {H' : Heap} {fn : Func} {c : Code} {D : Nat → List Tag} (h1 : E.P.funcs[f]? = some fn) (h2 : fn.body = some c) (h3 : fnOk fn c = true) (h4 : drawsOk D c = true)
    (h5 : args.length ≤ fn.ntmps) (h6 : wpC E (Call E) f H.length D c (initFr args) H (retA E f H.length fn.results.toList v H')) : Call E f args H v H' :=
  Call.of h1 h2 h3 h5 (wpC_sound c h4 h6)

/-! ### what hangs on no heap -/
def pureThen (r : Option (AV × Heap)) (H : Heap) (K : AV → Heap → Prop) : Prop :=
  match r with
  | some (v, []) => K v H
  | _ => False
def extThen (r : Option AV) (H : Heap) (K : AV → Heap → Prop) (p : Prop) : Prop :=
  match r with
  | some v => K v H
  | none => p
def retB (r : Option (List AV)) (base : Nat) (v' : AV) (H' H1 : Heap) : Prop :=
  match r with
  | some vs => ∃ vs', FinL base H1 vs vs' ∧ v' = packA vs' ∧ H' = H1.take base
  | none => False
def guardThen (g : Option Bool) (p q : Prop) : Prop :=
  match g with
  | some true => p
  | some false => q
  | none => False
section
variable {E : Env} {C : CallRel} {f base : Nat}
theorem pureThen_some {v : AV} {H : Heap} {K : AV → Heap → Prop} : pureThen (some (v, [])) H K = K v H := (rfl)
theorem extThen_some {v : AV} {H : Heap} {K : AV → Heap → Prop} {p : Prop} : extThen (some v) H K p = K v H := (rfl)
theorem extThen_none {H : Heap} {K : AV → Heap → Prop} {p : Prop} : extThen none H K p = p := (rfl)
theorem fnThen_def {h : FuncId} {caps args : List AV} {H : Heap} {K : AV → Heap → Prop} : fnThen E C (.fn h caps) args H K = extThen (E.ext h (args ++ caps)) H K (callThen C h (args ++ caps) H K) := by
  show (match E.ext h (args ++ caps) with | some v => K v H | none => callThen C h (args ++ caps) H K) = _
  unfold extThen; cases E.ext h (args ++ caps) <;> rfl
theorem t_pureO {o : Oper} {fr : Fr} {H : Heap} {K : AV → Heap → Prop} : tagThen E C f base o .pure fr H K = pureThen (stepO E f o fr []) H K := by
  rw [t_pure]; unfold pureA pureThen
  match stepO E f o fr [] with
  | none => rfl
  | some (v, []) => rfl
  | some (v, _ :: _) => rfl
theorem guardThen_true {p q : Prop} : guardThen (some true) p q = p := (rfl)
theorem guardThen_false {p q : Prop} : guardThen (some false) p q = q := (rfl)
theorem guardThen_of {b : Bool} {p q : Prop} (h1 : b = true → p) (h2 : b = false → q) : guardThen (some b) p q := by
  cases b
  · exact h2 rfl
  · exact h1 rfl
section
variable {all : Array Oper} {rest : List (Oper × Tag)} {dst : Option Nat} {ty : TypeId} {pos : String} {aft : Array Edge} {tag : Tag} {fr : Fr} {H : Heap} {K : Fr → Heap → Prop}
theorem w_guarded {o : Op} {g : Nat × Bool} : wpOpsA E C f base all ((⟨dst, o, ty, pos, aft, some g⟩, tag) :: rest) fr H K =
    guardThen (guardA all fr (some g)) (tagThen E C f base ⟨dst, o, ty, pos, aft, some g⟩ tag fr H (opsK E C f base all rest dst fr K)) (wpOpsA E C f base all rest (fr.put dst (.tup [])) H K) := by
  rw [w_guard]; unfold guardThen; rfl
end
/-- A guard's word. -/
def wordA (v : AV) (want : Bool) : Option Bool :=
  match v with
  | .bool b => some (b == want)
  | .tup [] => some false
  | _ => none
def guardAt (d : Option Nat) (fr : Fr) (want : Bool) : Option Bool :=
  match d with
  | some d => wordA (fr.get d) want
  | none => none
theorem guardA_some {all : Array Oper} {fr : Fr} {j : Nat} {want : Bool} : guardA all fr (some (j, want)) = guardAt ((all[j]?).bind (·.dst)) fr want := by
  unfold guardA guardAt; rfl
theorem guardAt_some {d : Nat} {fr : Fr} {want : Bool} : guardAt (some d) fr want = wordA (fr.get d) want := (rfl)
theorem wordA_bool {b want : Bool} : wordA (.bool b) want = some (b == want) := (rfl)
theorem wordA_tup {want : Bool} : wordA (.tup []) want = some false := (rfl)

theorem retA_ret {rs : List ResultVar} {v' : AV} {H' H1 : Heap} {fr : Fr} (hesc : E.escapes f = false) : retA E f base rs v' H' .ret fr H1 = retB (resultsA E fr H1 rs) base v' H' H1 := by
  unfold retA retB
  simp only [hesc]
  cases resultsA E fr H1 rs <;> simp
theorem retA_normal {rs : List ResultVar} {v' : AV} {H' H1 : Heap} {fr : Fr} (hesc : E.escapes f = false) : retA E f base rs v' H' .normal fr H1 = retB (resultsA E fr H1 rs) base v' H' H1 := by
  unfold retA retB
  simp only [hesc]
  cases resultsA E fr H1 rs <;> simp
theorem retB_plain {vs : List AV} {v' : AV} {H' H1 : Heap} (hn : ∀ x ∈ vs, Nmd base x) (hv : v' = packA vs) (hH : H' = H1.take base) : retB (some vs) base v' H' H1 := by
  refine ⟨vs, ?_, hv, hH⟩
  induction vs with
  | nil => exact .nil
  | cons v vs ih => exact .cons _ _ _ _ (.same _ (hn v (by simp))) (by
      clear hv
      induction vs with
      | nil => exact .nil
      | cons w ws ih' => exact .cons _ _ _ _ (.same _ (hn w (by simp))) (by
          have : ∀ l : List AV, (∀ x ∈ l, Nmd base x) → FinL base H1 l l := by
            intro l
            induction l with
            | nil => intro _; exact .nil
            | cons a l ih => intro h; exact .cons _ _ _ _ (.same _ (h a (by simp))) (ih fun x hx => h x (by simp [hx]))
          exact this ws fun x hx => hn x (by simp [hx])))
theorem res_nil {fr : Fr} {H : Heap} : resultsA E fr H [] = some [] := (rfl)
theorem res_cons {fr : Fr} {H : Heap} {r : ResultVar} {rs : List ResultVar} : resultsA E fr H (r :: rs) = (resA E fr H r).bind fun v => (resultsA E fr H rs).map fun l => v :: l := by
  unfold resultsA
  rw [List.mapM_cons]
  cases resA E fr H r <;> simp [Option.map_eq_bind]
  rfl
theorem resA_tmp {fr : Fr} {H : Heap} {t : Nat} : resA E fr H (.tmp t) = some (fr.get t) := (rfl)
theorem resA_cell {fr : Fr} {H : Heap} {a t : Nat} : resA E fr H (.cell a t) = (E.T t).bind fun ti => loadA ti H (fr.get a) := (rfl)
section
variable {dst : Option Nat} {ty : TypeId} {pos : String} {aft : Array Edge} {g : Option (Nat × Bool)} {fr : Fr} {H : Heap}
theorem p_move {x : Operand} : stepO E f ⟨dst, .move x, ty, pos, aft, g⟩ fr H = moveA (ownDst E f dst) (E.kd ty) H (fr.ev x) := (rfl)
theorem p_assign {x : Operand} : stepO E f ⟨dst, .assign x, ty, pos, aft, g⟩ fr H = moveA (ownDst E f dst) (E.kd ty) H (fr.ev x) := (rfl)
theorem p_pick {c a b : Operand} : stepO E f ⟨dst, .pick c a b, ty, pos, aft, g⟩ fr H = pickA (fr.ev c) (fr.ev a) (fr.ev b) H := (rfl)
theorem p_build {t : TypeId} {parts : Array (Nat × Operand)} : stepO E f ⟨dst, .build t parts, ty, pos, aft, g⟩ fr H = ((E.T t).bind fun ti => (buildA ti (parts.toList.map fun p => (p.1, fr.ev p.2))).map fun v => (v, H)) := (rfl)
theorem p_buildSlice {t : TypeId} {n : Nat} {parts : Array (Nat × Operand)} : stepO E f ⟨dst, .buildSlice t n parts, ty, pos, aft, g⟩ fr H = ((E.kd t).bind fun k => buildSliceA (ownDst E f dst) H k n (parts.toList.map fun p => (p.1, fr.ev p.2))) := (rfl)
theorem p_load {t : TypeId} {a : Operand} : stepO E f ⟨dst, .load t a, ty, pos, aft, g⟩ fr H = ((E.T t).bind fun ti => (loadA ti H (fr.ev a)).map fun v => (v, H)) := (rfl)
theorem p_nilCheck {x : Operand} : stepO E f ⟨dst, .nilCheck x, ty, pos, aft, g⟩ fr H = ((nilCheckA (fr.ev x)).map fun v => (v, H)) := (rfl)
theorem p_binOp {op : BinOp} {t u : TypeId} {x y : Operand} : stepO E f ⟨dst, .binOp op t x y u, ty, pos, aft, g⟩ fr H = ((binB E t (isConst x || isConst y) op (fr.ev x) (fr.ev y)).map fun v => (v, H)) := (rfl)
theorem p_unOp {op : UnOp} {t : TypeId} {x : Operand} : stepO E f ⟨dst, .unOp op t x, ty, pos, aft, g⟩ fr H = ((unA op (fr.ev x)).map fun v => (v, H)) := (rfl)
theorem p_convert {t u : TypeId} {x : Operand} : stepO E f ⟨dst, .convert t u x, ty, pos, aft, g⟩ fr H = ((E.kd t).bind fun s => (E.kd u).bind fun d => (convertA s d (fr.ev x)).map fun v => (v, H)) := (rfl)
theorem p_makeInterface {t : TypeId} {x : Operand} : stepO E f ⟨dst, .makeInterface t x, ty, pos, aft, g⟩ fr H = ((E.kd t).bind fun k => (makeInterfaceA k t (fr.ev x)).map fun v => (v, H)) := (rfl)
theorem p_makeFunc {h : FuncId} {a b : Array Operand} : stepO E f ⟨dst, .makeFunc (.func h) a b, ty, pos, aft, g⟩ fr H = (if a.size = 0 then some (.fn h (b.toList.map fr.ev), H) else none) := (rfl)
theorem p_slice {t : TypeId} {x : Operand} {lo hi : Option Operand} : stepO E f ⟨dst, .slice t x lo hi none, ty, pos, aft, g⟩ fr H = ((E.kd t).bind fun k => (sliceA H fr k (fr.ev x) lo hi).map fun v => (v, H)) := (rfl)
theorem p_fieldAddr {t : TypeId} {x : Operand} {i : Nat} : stepO E f ⟨dst, .fieldAddr t x i, ty, pos, aft, g⟩ fr H = ((E.kd t).bind fun k => (fieldAddrA k (fr.ev x) i).map fun v => (v, H)) := (rfl)
theorem p_field {t : TypeId} {x : Operand} {i : Nat} : stepO E f ⟨dst, .field t x i, ty, pos, aft, g⟩ fr H = ((E.kd t).bind fun k => (fieldA k (fr.ev x) i).map fun v => (v, H)) := (rfl)
theorem p_indexAddr {t : TypeId} {x i : Operand} : stepO E f ⟨dst, .indexAddr t x i, ty, pos, aft, g⟩ fr H = ((E.kd t).bind fun k => (indexAddrA k (fr.ev x) (fr.ev i)).map fun v => (v, H)) := (rfl)
theorem p_index {t : TypeId} {x i : Operand} : stepO E f ⟨dst, .index t x i, ty, pos, aft, g⟩ fr H = ((E.kd t).bind fun k => (indexA k (fr.ev x) (fr.ev i)).map fun v => (v, H)) := (rfl)
theorem p_arrayAt {t : TypeId} {x : Operand} : stepO E f ⟨dst, .sliceToArrayPointer t x, ty, pos, aft, g⟩ fr H = ((E.kd t).bind fun k => (arrayAtA k (fr.ev x)).map fun v => (v, H)) := (rfl)
theorem p_extract {x : Operand} {i : Nat} : stepO E f ⟨dst, .extract x i, ty, pos, aft, g⟩ fr H = ((extractA (fr.ev x) i).map fun v => (v, H)) := (rfl)
theorem p_builtin {b : Builtin} {as : Array Operand} {ts : Array TypeId} : stepO E f ⟨dst, .call ⟨.builtin b, as, ts⟩, ty, pos, aft, g⟩ fr H = builtinA E b ts.toList (as.toList.map fr.ev) H := (rfl)
def extO (E : Env) (g : AV) (args : List AV) (H : Heap) : Option (AV × Heap) :=
  match g with
  | .fn h caps => (E.ext h (args ++ caps)).map fun v => (v, H)
  | _ => none
theorem p_call {h : Operand} {as : Array Operand} {ts : Array TypeId} : stepO E f ⟨dst, .call ⟨.value h, as, ts⟩, ty, pos, aft, g⟩ fr H = extO E (fr.ev h) (as.toList.map fr.ev) H := by
  unfold extO stepO; rfl
theorem extO_fn {h : FuncId} {caps args : List AV} : extO E (.fn h caps) args H = (E.ext h (args ++ caps)).map fun v => (v, H) := (rfl)
end
theorem sameK_def {H H' : Heap} {K : AV → Heap → Prop} {v : AV} : sameK H K v H' = (H' = H ∧ K v H') := (rfl)
theorem quiet_load {t : TypeId} {a : Operand} : quietOp (.load t a) = true := (rfl)
theorem quiet_slice {t : TypeId} {a : Operand} {x y z : Option Operand} : quietOp (.slice t a x y z) = true := (rfl)
theorem quiet_call {g : Operand} {as : Array Operand} {ts : Array TypeId} : quietOp (.call ⟨.value g, as, ts⟩) = true := (rfl)
end

theorem bB_int {E : Env} {t : TypeId} {cst : Bool} {op : BinOp} {k : IntKind} {a : Int} {y : AV} : binB E t cst op (.int k a) y = binA ((E.T t).map TI.kind) cst op (.int k a) y := by cases op <;> rfl
theorem bB_bool {E : Env} {t : TypeId} {cst : Bool} {op : BinOp} {a : Bool} {y : AV} : binB E t cst op (.bool a) y = binA ((E.T t).map TI.kind) cst op (.bool a) y := by cases op <;> rfl
theorem bB_nili {E : Env} {t : TypeId} {cst : Bool} {op : BinOp} {y : AV} : binB E t cst op .nili y = binA ((E.T t).map TI.kind) cst op .nili y := by cases op <;> rfl
theorem bB_ifc {E : Env} {t u : TypeId} {cst : Bool} {op : BinOp} {x y : AV} : binB E t cst op (.ifc u x) y = binA ((E.T t).map TI.kind) cst op (.ifc u x) y := by cases op <;> rfl
theorem bB_nilp {E : Env} {t : TypeId} {cst : Bool} {op : BinOp} {y : AV} : binB E t cst op .nilp y = binA ((E.T t).map TI.kind) cst op .nilp y := by cases op <;> rfl
theorem bB_ptr {E : Env} {t : TypeId} {cst : Bool} {op : BinOp} {i j k : Nat} {y : AV} : binB E t cst op (.ptr i j k) y = binA ((E.T t).map TI.kind) cst op (.ptr i j k) y := by cases op <;> rfl
theorem bB_eql {E : Env} {t : TypeId} {cst : Bool} {a b : List AV} : binB E t cst .eql (.agg a) (.agg b) = if E.flat t = some a.length then (allInts a b).map .bool else none := (rfl)
theorem bB_neq {E : Env} {t : TypeId} {cst : Bool} {a b : List AV} : binB E t cst .neq (.agg a) (.agg b) = if E.flat t = some a.length then (allInts a b).map fun r => .bool (!r) else none := (rfl)

/-! ### walking without looking at the code that is still to come -/
def wpSeq (E : Env) (C : CallRel) (f base : Nat) (all : Array Oper) (l : List Oper) (fr : Fr) (H : Heap) (K : Fr → Heap → Prop) : Prop := wpOpsA E C f base all (l.map fun o => (o, Tag.seq)) fr H K
def wpZip (E : Env) (C : CallRel) (f base : Nat) (all : Array Oper) (l : List Oper) (ts : List Tag) (fr : Fr) (H : Heap) (K : Fr → Heap → Prop) : Prop := wpOpsA E C f base all (l.zip ts) fr H K
def seqO (E : Env) (C : CallRel) (f base : Nat) (all : Array Oper) (l : List Oper) (dst : Option Nat) (fr : Fr) (K : Fr → Heap → Prop) (v : AV) (H : Heap) : Prop := wpSeq E C f base all l (fr.put dst v) H K
def zipO (E : Env) (C : CallRel) (f base : Nat) (all : Array Oper) (l : List Oper) (ts : List Tag) (dst : Option Nat) (fr : Fr) (K : Fr → Heap → Prop) (v : AV) (H : Heap) : Prop := wpZip E C f base all l ts (fr.put dst v) H K
def zipR (E : Env) (C : CallRel) (f base : Nat) (a : Option Oper) (all : Array Oper) (l : List Oper) (ts : List Tag) (fr : Fr) (H : Heap) (K : Fr → Heap → Prop) : Prop := drawR E C f base all a (l.zip ts) fr H K
def zipRO (E : Env) (C : CallRel) (f base : Nat) (a : Option Oper) (all : Array Oper) (l : List Oper) (ts : List Tag) (dst : Option Nat) (fr : Fr) (K : Fr → Heap → Prop) (v : AV) (H : Heap) : Prop := zipR E C f base a all l ts (fr.put dst v) H K
theorem tp_nil : twinPos [] = none := (rfl)
theorem tp_twin {l : List Tag} : twinPos (.twin :: l) = some 0 := (rfl)
theorem tp_seq {l : List Tag} : twinPos (.seq :: l) = (twinPos l).map (· + 1) := (rfl)
theorem tp_pure {l : List Tag} : twinPos (.pure :: l) = (twinPos l).map (· + 1) := (rfl)
theorem tp_quiet {l : List Tag} : twinPos (.quiet :: l) = (twinPos l).map (· + 1) := (rfl)
theorem tp_fresh {l : List Tag} : twinPos (.fresh :: l) = (twinPos l).map (· + 1) := (rfl)
theorem tp_app {l : List Tag} : twinPos (.app :: l) = (twinPos l).map (· + 1) := (rfl)
theorem tp_grow {l : List Tag} : twinPos (.grow :: l) = (twinPos l).map (· + 1) := (rfl)
theorem tp_look {l : List Tag} : twinPos (.look :: l) = (twinPos l).map (· + 1) := (rfl)
theorem tp_mark {l : List Tag} : twinPos (.mark :: l) = (twinPos l).map (· + 1) := (rfl)
theorem tp_peek {l : List Tag} : twinPos (.peek :: l) = (twinPos l).map (· + 1) := (rfl)
theorem tp_lay {l : List Tag} : twinPos (.lay :: l) = (twinPos l).map (· + 1) := (rfl)
theorem ut_twin : untwin .twin = .fresh := (rfl)
theorem ut_seq : untwin .seq = .seq := (rfl)
theorem ut_pure : untwin .pure = .pure := (rfl)
theorem ut_quiet : untwin .quiet = .quiet := (rfl)
theorem ut_fresh : untwin .fresh = .fresh := (rfl)
theorem ut_app : untwin .app = .app := (rfl)
theorem ut_grow : untwin .grow = .grow := (rfl)
theorem ut_look : untwin .look = .look := (rfl)
theorem ut_mark : untwin .mark = .mark := (rfl)
theorem ut_peek : untwin .peek = .peek := (rfl)
theorem ut_lay : untwin .lay = .lay := (rfl)
def guardD (l : List Oper) (j : Nat) : Option Nat := (l[j]?).bind (·.dst)
theorem guardD_zero {dst : Option Nat} {o : Op} {ty : TypeId} {pos : String} {aft : Array Edge} {g : Option (Nat × Bool)} {l : List Oper} : guardD (⟨dst, o, ty, pos, aft, g⟩ :: l) 0 = dst := by simp [guardD]
theorem guardD_succ {o : Oper} {l : List Oper} {j : Nat} : guardD (o :: l) (j + 1) = guardD l j := by simp [guardD]
section
variable {E E' : Env} {C : CallRel} {f base : Nat} {D : Nat → List Tag} {all : Array Oper} {l l' rest : List Oper} {ts ts' : List Tag} {fr fr' : Fr} {H H' H1 H1' : Heap} {K : Fr → Heap → Prop} {KE : Ex → Fr → Heap → Prop} {KV : AV → Heap → Prop} {o : Oper} {op : Op} {dst : Option Nat} {ty : TypeId} {pos : String} {aft : Array Edge} {tag : Tag} {v v' : AV} {id i : Nat} {e e' : Ex} {b x y : Code} {p q : Prop} {j j' : Nat} {want : Bool}
theorem c_regionS : wpC E C f base D (.region id (List.toArray l) false) fr H KE = frzThen base (E.frz f id) fr H fun fr H => wpSeq E C f base (List.toArray l) l fr H (regK E f id KE) := (rfl)
theorem c_drawZ : wpC E C f base D (.region id (List.toArray l) true) fr H KE = frzThen base (E.frz f id) fr H fun fr H => drawQ E C f base (twinPos (D id)) (List.toArray l) l (D id) fr H (regK E f id KE) := (rfl)
theorem drawZ_none : drawQ E C f base none all l ts fr H K = wpZip E C f base all l (ts.map untwin) fr H K := (rfl)
theorem drawZ_some {k : Nat} : drawQ E C f base (some k) all l ts fr H K = zipR E C f base none all l ts fr H K := (rfl)
theorem zipR_twin {o : Oper} : zipR E C f base none all (o :: l) (.twin :: ts) fr H K = zipR E C f base (some o) all l ts fr H K := (rfl)
theorem zipR_pure : zipR E C f base none all (⟨dst, op, ty, pos, aft, none⟩ :: rest) (.pure :: ts) fr H K = tagThen E C f base ⟨dst, op, ty, pos, aft, none⟩ .pure fr H (zipRO E C f base none all rest ts dst fr K) := (rfl)
theorem zipR_quiet : zipR E C f base none all (⟨dst, op, ty, pos, aft, none⟩ :: rest) (.quiet :: ts) fr H K = tagThen E C f base ⟨dst, op, ty, pos, aft, none⟩ .quiet fr H (zipRO E C f base none all rest ts dst fr K) := (rfl)
theorem zipR_seq : zipR E C f base none all (⟨dst, op, ty, pos, aft, none⟩ :: rest) (.seq :: ts) fr H K = tagThen E C f base ⟨dst, op, ty, pos, aft, none⟩ .seq fr H (zipRO E C f base none all rest ts dst fr K) := (rfl)
theorem zipR_hold {a : Oper} : zipR E C f base (some a) all (⟨dst, op, ty, pos, aft, none⟩ :: rest) (.pure :: ts) fr H K = tagThen E C f base ⟨dst, op, ty, pos, aft, none⟩ .pure fr H (zipRO E C f base (some a) all rest ts dst fr K) := (rfl)
theorem zipR_fork {a b : Oper} : zipR E C f base (some a) all (b :: rest) (.twin :: ts) fr H K = (wpZip E C f base all (a :: b :: rest) (.fresh :: .fresh :: ts.map untwin) fr H K ∧ wpZip E C f base all (b :: a :: rest) (.fresh :: .fresh :: ts.map untwin) fr H K) := by
  have e : (rest.zip ts).map (fun p => (p.1, untwin p.2)) = rest.zip (ts.map untwin) := by rw [List.zip_map_right]; rfl
  show (wpOpsA E C f base all ((a, .fresh) :: (b, .fresh) :: (rest.zip ts).map fun p => (p.1, untwin p.2)) fr H K ∧ wpOpsA E C f base all ((b, .fresh) :: (a, .fresh) :: (rest.zip ts).map fun p => (p.1, untwin p.2)) fr H K) = _
  rw [e]
  rfl
theorem zipRO_def {a : Option Oper} {v : AV} : zipRO E C f base a all l ts dst fr K v H = zipR E C f base a all l ts (fr.put dst v) H K := (rfl)
@[congr] theorem drawQ_look {k k' : Option Nat} (h0 : k = k') (h1 : fr = fr') (h2 : H = H') (h3 : ts = ts') : drawQ E C f base k all l ts fr H K = drawQ E C f base k' all l ts' fr' H' K := by rw [h0, h1, h2, h3]
@[congr] theorem zipR_look {a : Option Oper} (h1 : fr = fr') (h2 : H = H') (h3 : ts = ts') : zipR E C f base a all l ts fr H K = zipR E C f base a all l ts' fr' H' K := by rw [h1, h2, h3]
@[congr] theorem zipRO_look {a : Option Oper} {v v' : AV} (h1 : v = v') (h2 : H = H') : zipRO E C f base a all l ts dst fr K v H = zipRO E C f base a all l ts dst fr K v' H' := by rw [h1, h2]
theorem frz_nil : frzThen base [] fr H K = K fr H := (rfl)
def frzAt (base t : Nat) (ts : List Nat) (v : AV) (fr : Fr) (H : Heap) (K : Fr → Heap → Prop) : Prop :=
  match v with
  | .sl id ver off len _ esz => match blkAt H id ver with
    | some b => base ≤ id ∧ off + len * esz ≤ b.cells.length ∧ (∀ x ∈ b.cells, Nmd 0 x) ∧ frzThen base ts (fr.put (some t) (.lst ((b.cells.drop off).take (len * esz)) len)) (H.set id none) K
    | none => False
  | .lst _ _ => frzThen base ts fr H K
  | .nils => frzThen base ts fr H K
  | _ => False
def frzB (base t : Nat) (ts : List Nat) (id off len esz : Nat) (r : Option Blk) (fr : Fr) (H : Heap) (K : Fr → Heap → Prop) : Prop :=
  match r with
  | some b => base ≤ id ∧ off + len * esz ≤ b.cells.length ∧ (∀ x ∈ b.cells, Nmd 0 x) ∧ frzThen base ts (fr.put (some t) (.lst ((b.cells.drop off).take (len * esz)) len)) (H.set id none) K
  | none => False
theorem frz_cons {t : Nat} {ts : List Nat} : frzThen base (t :: ts) fr H K = frzAt base t ts (fr.get t) fr H K := (rfl)
theorem frz_lst {t n : Nat} {ts : List Nat} {l : List AV} : frzAt base t ts (.lst l n) fr H K = frzThen base ts fr H K := (rfl)
theorem frz_nils {t : Nat} {ts : List Nat} : frzAt base t ts .nils fr H K = frzThen base ts fr H K := (rfl)
theorem frz_sl {t id ver off len cap esz : Nat} {ts : List Nat} : frzAt base t ts (.sl id ver off len cap esz) fr H K = frzB base t ts id off len esz (blkAt H id ver) fr H K := (rfl)
theorem frzB_some {t id off len esz : Nat} {b : Blk} {ts : List Nat} : frzB base t ts id off len esz (some b) fr H K = (base ≤ id ∧ off + len * esz ≤ b.cells.length ∧ (∀ x ∈ b.cells, Nmd 0 x) ∧ frzThen base ts (fr.put (some t) (.lst ((b.cells.drop off).take (len * esz)) len)) (H.set id none) K) := (rfl)
theorem wpSeq_nil : wpSeq E C f base all [] fr H K = K fr H := (rfl)
theorem wpZip_nil : wpZip E C f base all [] ts fr H K = K fr H := by simp [wpZip, wpOpsA]
theorem wpSeq_cons : wpSeq E C f base all (⟨dst, op, ty, pos, aft, none⟩ :: rest) fr H K = stepA E C f base ⟨dst, op, ty, pos, aft, none⟩ fr H (seqO E C f base all rest dst fr K) := (rfl)
theorem wpZip_cons : wpZip E C f base all (⟨dst, op, ty, pos, aft, none⟩ :: rest) (tag :: ts) fr H K = tagThen E C f base ⟨dst, op, ty, pos, aft, none⟩ tag fr H (zipO E C f base all rest ts dst fr K) := (rfl)
theorem wpSeq_guard {g : Nat × Bool} : wpSeq E C f base (List.toArray l) (⟨dst, op, ty, pos, aft, some g⟩ :: rest) fr H K =
    guardThen (guardAt (guardD l g.1) fr g.2) (stepA E C f base ⟨dst, op, ty, pos, aft, some g⟩ fr H (seqO E C f base (List.toArray l) rest dst fr K)) (wpSeq E C f base (List.toArray l) rest (fr.put dst (.tup [])) H K) := by
  have h : guardAt (guardD l g.1) fr g.2 = guardA (List.toArray l) fr (some g) := by
    obtain ⟨j, want⟩ := g
    rw [guardA_some]; simp [guardD]
  rw [h]
  show wpOpsA E C f base _ _ fr H K = _
  rw [List.map_cons, w_guarded]; rfl
theorem wpZip_guard {g : Nat × Bool} : wpZip E C f base (List.toArray l) (⟨dst, op, ty, pos, aft, some g⟩ :: rest) (tag :: ts) fr H K =
    guardThen (guardAt (guardD l g.1) fr g.2) (tagThen E C f base ⟨dst, op, ty, pos, aft, some g⟩ tag fr H (zipO E C f base (List.toArray l) rest ts dst fr K)) (wpZip E C f base (List.toArray l) rest ts (fr.put dst (.tup [])) H K) := by
  have h : guardAt (guardD l g.1) fr g.2 = guardA (List.toArray l) fr (some g) := by
    obtain ⟨j, want⟩ := g
    rw [guardA_some]; simp [guardD]
  rw [h]
  show wpOpsA E C f base _ _ fr H K = _
  rw [List.zip_cons_cons, w_guarded]; rfl
theorem seqO_def : seqO E C f base all rest dst fr K v H = wpSeq E C f base all rest (fr.put dst v) H K := (rfl)
theorem zipO_def : zipO E C f base all rest ts dst fr K v H = wpZip E C f base all rest ts (fr.put dst v) H K := (rfl)

/-! what simp may look into -/
@[congr] theorem frzThen_look {l l' : List Nat} (h0 : l = l') (h1 : fr = fr') (h2 : H = H') : frzThen base l fr H K = frzThen base l' fr' H' K := by rw [h0, h1, h2]
@[congr] theorem frzAt_look {t : Nat} {l : List Nat} (h0 : v = v') (h1 : fr = fr') (h2 : H = H') : frzAt base t l v fr H K = frzAt base t l v' fr' H' K := by rw [h0, h1, h2]
@[congr] theorem frzB_look {t : Nat} {l : List Nat} {id off len esz : Nat} {r r' : Option Blk} (h0 : r = r') (h1 : fr = fr') (h2 : H = H') : frzB base t l id off len esz r fr H K = frzB base t l id off len esz r' fr' H' K := by rw [h0, h1, h2]
@[congr] theorem wpC_look (h1 : fr = fr') (h2 : H = H') : wpC E C f base D x fr H KE = wpC E C f base D x fr' H' KE := by rw [h1, h2]
@[congr] theorem wpSeq_look (h1 : fr = fr') (h2 : H = H') : wpSeq E C f base all l fr H K = wpSeq E C f base all l fr' H' K := by rw [h1, h2]
@[congr] theorem wpZip_look (h1 : fr = fr') (h2 : H = H') (h3 : ts = ts') : wpZip E C f base all l ts fr H K = wpZip E C f base all l ts' fr' H' K := by rw [h1, h2, h3]
@[congr] theorem seqO_look (h1 : v = v') (h2 : H = H') : seqO E C f base all l dst fr K v H = seqO E C f base all l dst fr K v' H' := by rw [h1, h2]
@[congr] theorem zipO_look (h1 : v = v') (h2 : H = H') : zipO E C f base all l ts dst fr K v H = zipO E C f base all l ts dst fr K v' H' := by rw [h1, h2]
@[congr] theorem tagThen_look (h2 : H = H') : tagThen E C f base o tag fr H KV = tagThen E C f base o tag fr H' KV := by rw [h2]
@[congr] theorem stepA_look (h2 : H = H') : stepA E C f base o fr H KV = stepA E C f base o fr H' KV := by rw [h2]
@[congr] theorem seqC_look (h0 : e = e') (h1 : fr = fr') (h2 : H = H') : seqC E C f base D b KE e fr H = seqC E C f base D b KE e' fr' H' := by rw [h0, h1, h2]
@[congr] theorem blockK_look (h0 : e = e') (h1 : fr = fr') (h2 : H = H') : blockK id KE e fr H = blockK id KE e' fr' H' := by rw [h0, h1, h2]
@[congr] theorem loopD_look (h0 : e = e') (h1 : fr = fr') (h2 : H = H') : loopD E C f base D b KE e fr H = loopD E C f base D b KE e' fr' H' := by rw [h0, h1, h2]
@[congr] theorem loopC_look (h1 : fr = fr') (h2 : H = H') : loopC E C f base D b KE fr H = loopC E C f base D b KE fr' H' := by rw [h1, h2]
@[congr] theorem condC_look (h0 : v = v') (h1 : fr = fr') (h2 : H = H') : condC E C f base D v x y fr H KE = condC E C f base D v' x y fr' H' KE := by rw [h0, h1, h2]
@[congr] theorem regK_look (h1 : fr = fr') (h2 : H = H') : regK E f id KE fr H = regK E f id KE fr' H' := by rw [h1, h2]
@[congr] theorem guardThen_look {g g' : Option Bool} (h : g = g') : guardThen g p q = guardThen g' p q := by rw [h]
@[congr] theorem guardD_look (h : j = j') : guardD l j = guardD l j' := by rw [h]
@[congr] theorem someThen_look {r r' : Option (AV × Heap)} (h : r = r') : someThen r KV = someThen r' KV := by rw [h]
@[congr] theorem pureThen_look {r r' : Option (AV × Heap)} (h : r = r') (h2 : H = H') : pureThen r H KV = pureThen r' H' KV := by rw [h, h2]
@[congr] theorem blkThen_look {r r' : Option (AV × Blk)} (h : r = r') (h2 : H = H') : blkThen r H KV = blkThen r' H' KV := by rw [h, h2]
@[congr] theorem extThen_look {r r' : Option AV} (h : r = r') (h2 : H = H') (h3 : p = q) : extThen r H KV p = extThen r' H' KV q := by rw [h, h2, h3]
@[congr] theorem storeThen_look {r r' : Option (Nat × List AV × Heap)} (h : r = r') : storeThen base r KV = storeThen base r' KV := by rw [h]
@[congr] theorem fnThen_look {as as' : List AV} (h : v = v') (h1 : as = as') (h2 : H = H') : fnThen E C v as H KV = fnThen E C v' as' H' KV := by rw [h, h1, h2]
@[congr] theorem callThen_look {as as' : List AV} (h1 : as = as') (h2 : H = H') : callThen C f as H KV = callThen C f as' H' KV := by rw [h1, h2]
@[congr] theorem retA_look {rs : List ResultVar} (h1 : fr = fr') (h2 : H1 = H1') : retA E f base rs v H e fr H1 = retA E f base rs v H e fr' H1' := by rw [h1, h2]
@[congr] theorem retB_look {r r' : Option (List AV)} (h1 : r = r') (h2 : H1 = H1') : retB r base v H H1 = retB r' base v H H1' := by rw [h1, h2]
@[congr] theorem sameK_look (h1 : v = v') (h2 : H = H') : sameK H1 KV v H = sameK H1 KV v' H' := by rw [h1, h2]
@[congr] theorem stepO_look (h2 : H = H') : stepO E f o fr H = stepO E f o fr H' := by rw [h2]
end
section
variable {E : Env} {C : CallRel} {f base : Nat} {dst : Option Nat} {ty : TypeId} {pos : String} {aft : Array Edge} {g : Option (Nat × Bool)} {fr : Fr} {H : Heap} {K : AV → Heap → Prop}
theorem t_grow {as : Array Operand} {ts : Array TypeId} : tagThen E C f base ⟨dst, .call ⟨.builtin .append, as, ts⟩, ty, pos, aft, g⟩ .grow fr H K = (growV (as.toList.map fr.ev) = true ∧ stepA E C f base ⟨dst, .call ⟨.builtin .append, as, ts⟩, ty, pos, aft, g⟩ fr H K) := (rfl)
theorem t_app {as : Array Operand} {ts : Array TypeId} : tagThen E C f base ⟨dst, .call ⟨.builtin .append, as, ts⟩, ty, pos, aft, g⟩ .app fr H K = if growV (as.toList.map fr.ev) = true then stepA E C f base ⟨dst, .call ⟨.builtin .append, as, ts⟩, ty, pos, aft, g⟩ fr H K else blkThen (freshA E fr H.length (.call ⟨.builtin .append, as, ts⟩)) H K := t_appO
theorem growV_nils {l : List AV} : growV (.nils :: l) = false := (rfl)
theorem growV_sl {a b c d e f n : Nat} {l : List AV} : growV [.sl a b c d e f, .lst l n] = decide (0 < n) := (rfl)
end
theorem castLit {n : Nat} : ((no_index (OfNat.ofNat n) : Nat) : Int) = OfNat.ofNat n := rfl
theorem wrapU64 (n : Int) : IntKind.u64.wrap n = n % 18446744073709551616 := by simp [IntKind.wrap, IntKind.bits, IntKind.signed]
theorem wrapI64 (n : Int) : IntKind.i64.wrap n = (n + 9223372036854775808) % 18446744073709551616 - 9223372036854775808 := by
  simp [IntKind.wrap, IntKind.bits, IntKind.signed]
  omega
theorem shr0 {a b : Int} (h : 0 ≤ b) : a.fdiv b = a / b := Int.fdiv_eq_ediv_of_nonneg a h
section
variable {E : Env} {C : CallRel} {f base : Nat} {dst : Option Nat} {ty : TypeId} {pos : String} {aft : Array Edge} {g : Option (Nat × Bool)} {fr : Fr} {H : Heap} {K : AV → Heap → Prop}
theorem q_load {t : TypeId} {a : Operand} : tagThen E C f base ⟨dst, .load t a, ty, pos, aft, g⟩ .quiet fr H K = stepA E C f base ⟨dst, .load t a, ty, pos, aft, g⟩ fr H (sameK H K) := by
  rw [t_quiet]; simp [quiet_load]
theorem q_slice {t : TypeId} {a : Operand} {x y z : Option Operand} : tagThen E C f base ⟨dst, .slice t a x y z, ty, pos, aft, g⟩ .quiet fr H K = stepA E C f base ⟨dst, .slice t a x y z, ty, pos, aft, g⟩ fr H (sameK H K) := by
  rw [t_quiet]; simp [quiet_slice]
theorem q_call {h : Operand} {as : Array Operand} {ts : Array TypeId} : tagThen E C f base ⟨dst, .call ⟨.value h, as, ts⟩, ty, pos, aft, g⟩ .quiet fr H K = stepA E C f base ⟨dst, .call ⟨.value h, as, ts⟩, ty, pos, aft, g⟩ fr H (sameK H K) := by
  rw [t_quiet]; simp [quiet_call]
theorem k_call {h : Operand} {as : Array Operand} {ts : Array TypeId} : tagThen E C f base ⟨dst, .call ⟨.value h, as, ts⟩, ty, pos, aft, g⟩ .mark fr H K = stepA E C f base ⟨dst, .call ⟨.value h, as, ts⟩, ty, pos, aft, g⟩ fr H (butK H K) := by
  rw [t_mark]; simp [quiet_call]
end
theorem wrapLitI {n : Int} (h : (decide (n < 9223372036854775808) && decide (0 ≤ n)) = true) : IntKind.i64.wrap n = n := by
  simp at h; rw [wrapI64]; omega
theorem wrapLitU {n : Int} (h : (decide (n < 18446744073709551616) && decide (0 ≤ n)) = true) : IntKind.u64.wrap n = n := by
  simp at h; rw [wrapU64]; omega
theorem wrapI {n : Int} (h : -9223372036854775808 ≤ n ∧ n < 9223372036854775808) : IntKind.i64.wrap n = n := by
  rw [wrapI64]; omega
theorem wrapU {n : Int} (h : 0 ≤ n ∧ n < 18446744073709551616) : IntKind.u64.wrap n = n := by
  rw [wrapU64]; omega
theorem notU {x : Int} (h : 0 ≤ x ∧ x < 18446744073709551616) : bitsI .xor .u64 (if IntKind.u64.signed = true then -1 else IntKind.u64.max) x = some (.int .u64 (18446744073709551615 - x)) := by
  have e : BitVec.ofInt IntKind.u64.bits (if IntKind.u64.signed = true then -1 else IntKind.u64.max) = BitVec.allOnes 64 := by
    show BitVec.ofInt 64 18446744073709551615 = _
    decide
  unfold bitsI
  simp only [e]
  show some (AV.int .u64 (IntKind.u64.wrap ((BitVec.allOnes 64 ^^^ BitVec.ofInt 64 x).toNat : Int))) = _
  rw [BitVec.allOnes_xor, BitVec.toNat_not]
  have hx : (BitVec.ofInt 64 x).toNat = x.toNat := by
    rw [BitVec.toNat_ofInt]
    congr 1
    omega
  rw [hx, wrapU64]
  congr 2
  omega
section
variable {E : Env} {C : CallRel} {f base : Nat} {dst : Option Nat} {ty : TypeId} {pos : String} {aft : Array Edge} {g : Option (Nat × Bool)} {fr : Fr} {H : Heap} {K : AV → Heap → Prop}
theorem l_load {t : TypeId} {a : Operand} : tagThen E C f base ⟨dst, .load t a, ty, pos, aft, g⟩ .look fr H K = (lookV false H (fr.ev a) ∧ stepA E C f base ⟨dst, .load t a, ty, pos, aft, g⟩ fr H (sameK H K)) := (rfl)
theorem l_slice {t : TypeId} {a : Operand} {x y z : Option Operand} : tagThen E C f base ⟨dst, .slice t a x y z, ty, pos, aft, g⟩ .look fr H K = (lookV false H (fr.ev a) ∧ stepA E C f base ⟨dst, .slice t a x y z, ty, pos, aft, g⟩ fr H (sameK H K)) := (rfl)
theorem pk_load {t : TypeId} {a : Operand} : tagThen E C f base ⟨dst, .load t a, ty, pos, aft, g⟩ .peek fr H K = (lookV true H (fr.ev a) ∧ stepA E C f base ⟨dst, .load t a, ty, pos, aft, g⟩ fr H (sameK H K)) := (rfl)
theorem pk_slice {t : TypeId} {a : Operand} {x y z : Option Operand} : tagThen E C f base ⟨dst, .slice t a x y z, ty, pos, aft, g⟩ .peek fr H K = (lookV true H (fr.ev a) ∧ stepA E C f base ⟨dst, .slice t a x y z, ty, pos, aft, g⟩ fr H (sameK H K)) := (rfl)
end
theorem butK_def {H0 H : Heap} {K : AV → Heap → Prop} {v : AV} : butK H0 K v H = (sameBut H0 H ∧ K v H) := (rfl)
theorem inK_def {H0 H : Heap} {K : AV → Heap → Prop} {v : AV} : inK H0 K v H = (onlyIn H0 H ∧ K v H) := (rfl)
@[congr] theorem butK_look {H0 H H' : Heap} {K : AV → Heap → Prop} {v v' : AV} (h1 : v = v') (h2 : H = H') : butK H0 K v H = butK H0 K v' H' := by rw [h1, h2]
@[congr] theorem inK_look {H0 H H' : Heap} {K : AV → Heap → Prop} {v v' : AV} (h1 : v = v') (h2 : H = H') : inK H0 K v H = inK H0 K v' H' := by rw [h1, h2]
theorem lv_ptr {c : Bool} {H : Heap} {id ver off : Nat} : lookV c H (.ptr id ver off) = lookB c (blkAt H id ver) := (rfl)
theorem lv_lel {c : Bool} {H : Heap} {l : List AV} {off : Nat} : lookV c H (.lel l off) = True := (rfl)
theorem lv_sl {c : Bool} {H : Heap} {a b c' d e f : Nat} : lookV c H (.sl a b c' d e f) = True := (rfl)
theorem lv_lst {c : Bool} {H : Heap} {l : List AV} {n : Nat} : lookV c H (.lst l n) = True := (rfl)
theorem lv_nils {c : Bool} {H : Heap} : lookV c H .nils = True := (rfl)
theorem lb_look {b : Blk} : lookB false (some b) = (tallyC b.cells = false) := (rfl)
theorem lb_peek {b : Blk} : lookB true (some b) = (blankC b.cells = false) := (rfl)
theorem tc_int {k : IntKind} {n : Int} {l : List AV} : tallyC (.int k n :: l) = false := (rfl)
theorem tc_bool {b : Bool} {l : List AV} : tallyC (.bool b :: l) = true := (rfl)
theorem tc_nil : tallyC [] = false := (rfl)
theorem bc_one {b : Bool} : blankC [.bool b] = false := by cases b <;> rfl
theorem bc_nili {b : Bool} : blankC [.bool b, .nili] = false := by cases b <;> rfl
theorem bc_ifc {b : Bool} {t : TypeId} {v : AV} : blankC [.bool b, .ifc t v] = false := by cases b <;> rfl
theorem bc_lst {b : Bool} {l : List AV} {n : Nat} : blankC [.bool b, .lst l n] = false := by cases b <;> rfl
theorem onlyIn_set {H : Heap} {q v : Nat} {b : Blk} {x : Option Blk} (h : blkAt H q v = some b) (h1 : blankC b.cells = true) : onlyIn H (H.set q x) := by
  refine ⟨by simp, fun i => ?_⟩
  by_cases hi : i = q
  · subst hi
    refine .inr ?_
    unfold blkAt at h
    unfold blankAt
    split at h
    · rename_i b' hb
      split at h
      · cases h
        first | exact h1 | (rw [hb]; exact h1)
      · cases h
    · cases h
  · exact .inl (List.getElem?_set_ne (Ne.symm hi))
theorem sameBut_refl (H : Heap) : sameBut H H := ⟨rfl, fun _ => .inl rfl⟩
theorem sameBut_trans {H G F : Heap} (h1 : sameBut H G) (h2 : sameBut G F) : sameBut H F := by
  refine ⟨h2.1.trans h1.1, fun i => ?_⟩
  rcases h1.2 i with a | ⟨a, b⟩ <;> rcases h2.2 i with c | ⟨c, d⟩
  · exact .inl (c.trans a)
  · refine .inr ⟨?_, d⟩
    unfold tallyAt at c ⊢
    rw [← a]; exact c
  · refine .inr ⟨a, ?_⟩
    unfold tallyAt at b ⊢
    rw [c]; exact b
  · exact .inr ⟨a, d⟩
theorem sameBut_set {H : Heap} {q v v' : Nat} {b : Blk} {cs : List AV} (h : blkAt H q v = some b) (h1 : tallyC b.cells = true) (h2 : tallyC cs = true) : sameBut H (H.set q (some ⟨cs, v'⟩)) := by
  have hq : q < H.length := by
    rcases Nat.lt_or_ge q H.length with h3 | h3
    · exact h3
    · unfold blkAt at h; rw [List.getElem?_eq_none h3] at h; cases h
  refine ⟨by simp, fun i => ?_⟩
  by_cases hi : i = q
  · subst hi
    refine .inr ⟨?_, ?_⟩
    · unfold blkAt at h
      unfold tallyAt
      split at h
      · rename_i b' hb
        split at h
        · cases h
          first | exact h1 | (rw [hb]; exact h1)
        · cases h
      · cases h
    · unfold tallyAt
      rw [List.getElem?_set_self hq]; exact h2
  · exact .inl (List.getElem?_set_ne (Ne.symm hi))
theorem sameBut_app {H G : Heap} (L : Heap) (h : sameBut H G) : sameBut (H ++ L) (G ++ L) := by
  refine ⟨by simp [h.1], fun i => ?_⟩
  rcases Nat.lt_or_ge i H.length with hi | hi
  · have e1 : (H ++ L)[i]? = H[i]? := List.getElem?_append_left hi
    have e2 : (G ++ L)[i]? = G[i]? := List.getElem?_append_left (by rw [h.1]; exact hi)
    unfold tallyAt
    rw [e1, e2]
    exact h.2 i
  · have e1 : (H ++ L)[i]? = L[i - H.length]? := List.getElem?_append_right hi
    have e2 : (G ++ L)[i]? = L[i - G.length]? := List.getElem?_append_right (by rw [h.1]; exact hi)
    exact .inl (by rw [e1, e2, h.1])
theorem f_alloc {E : Env} {fr : Fr} {n : Nat} {t : TypeId} : freshA E fr n (.alloc t) = (E.T t).map fun ti => (.ptr n 0 0, ⟨ti.zero, 0⟩) := (rfl)
theorem f_app {E : Env} {fr : Fr} {n : Nat} {as : Array Operand} {ts : Array TypeId} : freshA E fr n (.call ⟨.builtin .append, as, ts⟩) = freshApp E n ts.toList (as.toList.map fr.ev) := (rfl)
theorem f_make {E : Env} {fr : Fr} {n : Nat} {t : TypeId} {l c : Operand} : freshA E fr n (.makeSlice t l c) = (E.kd t).bind fun k => freshMk n k (fr.ev l) (fr.ev c) := (rfl)
theorem f_box {E : Env} {fr : Fr} {n : Nat} {t : TypeId} {x : Operand} : freshA E fr n (.box t x) = (fr.ev x).cells?.map fun cs => (.ptr n 0 0, ⟨cs, 0⟩) := (rfl)
theorem ofInt_nat {x : Int} (h : 0 ≤ x ∧ x < 18446744073709551616) : (BitVec.ofInt 64 x).toNat = x.toNat := by
  rw [BitVec.toNat_ofInt]
  congr 1
  omega
theorem bitsU_and {x y : Int} (hx : 0 ≤ x ∧ x < 18446744073709551616) (hy : 0 ≤ y ∧ y < 18446744073709551616) : bitsI .and .u64 x y = some (.int .u64 ((x.toNat &&& y.toNat : Nat) : Int)) := by
  show some (AV.int .u64 (IntKind.u64.wrap ((BitVec.ofInt 64 x &&& BitVec.ofInt 64 y).toNat : Int))) = _
  rw [BitVec.toNat_and, ofInt_nat hx, ofInt_nat hy]
  have h : x.toNat &&& y.toNat ≤ x.toNat := Nat.and_le_left
  rw [wrapU (by omega)]
theorem bitsU_or {x y : Int} (hx : 0 ≤ x ∧ x < 18446744073709551616) (hy : 0 ≤ y ∧ y < 18446744073709551616) : bitsI .or .u64 x y = some (.int .u64 ((x.toNat ||| y.toNat : Nat) : Int)) := by
  show some (AV.int .u64 (IntKind.u64.wrap ((BitVec.ofInt 64 x ||| BitVec.ofInt 64 y).toNat : Int))) = _
  rw [BitVec.toNat_or, ofInt_nat hx, ofInt_nat hy]
  have h : x.toNat ||| y.toNat < 2 ^ 64 := Nat.or_lt_two_pow (by omega) (by omega)
  rw [wrapU (by omega)]
/-- The low bits. -/
theorem andU {x : Int} (n : Nat) (hn : n ≤ 64) (hx : 0 ≤ x ∧ x < 18446744073709551616) : bitsI .and .u64 x ((2 : Int) ^ n - 1) = some (.int .u64 (x % 2 ^ n)) := by
  have hp : (1 : Int) ≤ 2 ^ n := Int.pow_pos (by decide)
  have hp' : (2 : Int) ^ n ≤ 2 ^ 64 := by
    have h1 := Nat.pow_le_pow_right (n := 2) (by decide) hn
    have h2 : ((2 ^ n : Nat) : Int) ≤ ((2 ^ 64 : Nat) : Int) := Int.ofNat_le.2 h1
    simpa using h2
  rw [bitsU_and hx (by omega)]
  congr 2
  have e : ((2 : Int) ^ n - 1).toNat = 2 ^ n - 1 := by
    have h3 : ((2 : Int) ^ n) = ((2 ^ n : Nat) : Int) := by simp
    rw [h3]
    have h4 : 0 < 2 ^ n := Nat.two_pow_pos n
    omega
  rw [e, Nat.and_two_pow_sub_one_eq_mod, Int.natCast_emod]
  rw [Int.toNat_of_nonneg hx.1]
  simp
/-- Parts that do not meet. -/
theorem orU {x y : Int} (n : Nat) (hx : 0 ≤ x ∧ x < 2 ^ n) (hy : 0 ≤ y) (hs : x + y * 2 ^ n < 18446744073709551616) : bitsI .or .u64 x (y * 2 ^ n) = some (.int .u64 (x + y * 2 ^ n)) := by
  have hyn : 0 ≤ y * 2 ^ n := Int.mul_nonneg hy (Int.le_of_lt (Int.pow_pos (by decide)))
  rw [bitsU_or (by omega) (by omega)]
  congr 2
  have e : (y * 2 ^ n).toNat = y.toNat <<< n := by
    rw [Nat.shiftLeft_eq, Int.toNat_mul hy (Int.le_of_lt (Int.pow_pos (by decide)))]
    congr 1
  have hxn : x.toNat < 2 ^ n := by
    have h3 : ((2 : Int) ^ n) = ((2 ^ n : Nat) : Int) := by simp
    rw [h3] at hx
    omega
  rw [e, Nat.or_comm, ← Nat.shiftLeft_add_eq_or_of_lt hxn, ← e]
  omega
theorem beqI {a b : Int} : (a == b) = decide (a = b) := by
  by_cases h : a = b <;> simp [h]
theorem beqT {b : Bool} : (b == true) = b := by cases b <;> rfl
theorem beqF {b : Bool} : (b == false) = !b := by cases b <;> rfl

/-! ### one rule a shape of value, so that a slice of any shape may stand in a walk -/
section
variable {own : Bool} {k : Option TK} {H : Heap} {ti : TI}
theorem mv_nils_own {e esz eb : Nat} {ez : List AV} : moveA true (some (.slice e esz eb ez)) H .nils = some (.sl H.length 0 0 0 0 esz, H ++ [some ⟨[], 0⟩]) := (rfl)
theorem mv_nils : moveA false k H .nils = some (.nils, H) := (rfl)
theorem mv_undef : moveA own k H .undef = some (.undef, H) := (rfl)
theorem mv_int {x : IntKind} {n : Int} : moveA own k H (.int x n) = some (.int x n, H) := (rfl)
theorem mv_bool {b : Bool} : moveA own k H (.bool b) = some (.bool b, H) := (rfl)
theorem mv_str {b : ByteArray} : moveA own k H (.str b) = some (.str b, H) := (rfl)
theorem mv_nilp : moveA own k H .nilp = some (.nilp, H) := (rfl)
theorem mv_ptr {a b c : Nat} : moveA own k H (.ptr a b c) = some (.ptr a b c, H) := (rfl)
theorem mv_lel {l : List AV} {c : Nat} : moveA own k H (.lel l c) = some (.lel l c, H) := (rfl)
theorem mv_sl {a b c d e f : Nat} : moveA own k H (.sl a b c d e f) = some (.sl a b c d e f, H) := (rfl)
theorem mv_lst {l : List AV} {n : Nat} : moveA own k H (.lst l n) = some (.lst l n, H) := (rfl)
theorem mv_nilf : moveA own k H .nilf = some (.nilf, H) := (rfl)
theorem mv_fn {f : FuncId} {l : List AV} : moveA own k H (.fn f l) = some (.fn f l, H) := (rfl)
theorem mv_nili : moveA own k H .nili = some (.nili, H) := (rfl)
theorem mv_ifc {t : TypeId} {v : AV} : moveA own k H (.ifc t v) = some (.ifc t v, H) := (rfl)
theorem mv_agg {l : List AV} : moveA own k H (.agg l) = some (.agg l, H) := (rfl)
theorem mv_tup {l : List AV} : moveA own k H (.tup l) = some (.tup l, H) := (rfl)
theorem ld_ptr {a b c : Nat} : loadA ti H (.ptr a b c) = (blkAt H a b).bind fun x => readAt ti x.cells c := (rfl)
theorem ld_lel {l : List AV} {c : Nat} : loadA ti H (.lel l c) = readAt ti l c := (rfl)
theorem ln_array {n e : Nat} {a : Bool} {x : AV} : lenOfA (.array n e a) x = some n := (rfl)
theorem ln_nils {a b c : Nat} {z : List AV} : lenOfA (.slice a b c z) .nils = some 0 := (rfl)
theorem ln_lst {a b c n : Nat} {z l : List AV} : lenOfA (.slice a b c z) (.lst l n) = some n := (rfl)
theorem ln_sl {a b c i v o n p e : Nat} {z : List AV} : lenOfA (.slice a b c z) (.sl i v o n p e) = some n := (rfl)
theorem ln_str {s : ByteArray} : lenOfA .string (.str s) = some s.size := (rfl)
theorem ia_arr_ptr {n esz id ver off : Nat} {a : Bool} {x : IntKind} {i : Int} : indexAddrA (.array n esz a) (.ptr id ver off) (.int x i) = if 0 ≤ i ∧ i < n then some (.ptr id ver (off + i.toNat * esz)) else none := (rfl)
theorem ia_arr_lel {n esz off : Nat} {cs : List AV} {a : Bool} {x : IntKind} {i : Int} : indexAddrA (.array n esz a) (.lel cs off) (.int x i) = if 0 ≤ i ∧ i < n then some (.lel cs (off + i.toNat * esz)) else none := (rfl)
theorem ia_sl {a b c id ver off len cap e : Nat} {z : List AV} {x : IntKind} {i : Int} : indexAddrA (.slice a b c z) (.sl id ver off len cap e) (.int x i) = if 0 ≤ i ∧ i < len ∧ e = b then some (.ptr id ver (off + i.toNat * b)) else none := (rfl)
theorem ia_lst {a b c len : Nat} {z cs : List AV} {x : IntKind} {i : Int} : indexAddrA (.slice a b c z) (.lst cs len) (.int x i) = if 0 ≤ i ∧ i < len then some (.lel cs (i.toNat * b)) else none := (rfl)
end
/-- Where a slice's i-th number lies. -/
def adrI (v : AV) (i : Nat) : AV :=
  match v with
  | .lst cs _ => .lel cs i
  | .sl id ver off _ _ _ => .ptr id ver (off + i)
  | _ => .undef
/-- The value v is a slice that holds these numbers, while the blocks of S stand. -/
structure SlI (S : Heap) (v : AV) (l : List Int) : Prop where
  mv : ∀ k H, moveA false k H v = some (v, H)
  ln : ∀ a b c z, lenOfA (.slice a b c z) v = some l.length
  ia : ∀ a c z x (i : Int), 0 ≤ i → i < l.length → indexAddrA (.slice a 1 c z) v (.int x i) = some (adrI v i.toNat)
  mp : ∀ k H (i : Nat), i < l.length → moveA false k H (adrI v i) = some (adrI v i, H)
  ld : ∀ (i : Nat) (h : i < l.length) a s z k L, loadA ⟨a, s, z, k⟩ (S ++ L) (adrI v i) = if a then loadA ⟨a, s, z, k⟩ (S ++ L) (adrI v i) else some (.int .i64 (l[i]))
theorem SlI.lst {S : Heap} (l : List Int) : SlI S (.lst (l.map fun x => .int .i64 x) l.length) l where
  mv _ _ := rfl
  ln _ _ _ _ := rfl
  ia a c z x i h0 h1 := by rw [ia_lst, if_pos ⟨h0, h1⟩]; simp [adrI]
  mp _ _ _ _ := rfl
  ld i h a s z k L := by
    cases a
    · simp [adrI, loadA, readAt, h]
    · rfl
theorem SlI.nils {S : Heap} : SlI S .nils [] where
  mv _ _ := rfl
  ln _ _ _ _ := rfl
  ia a c z x i h0 h1 := by simp at h1; omega
  mp _ _ _ h := by simp at h
  ld i h := by simp at h
theorem SlI.sl {S : Heap} {id ver off cap : Nat} {b : Blk} {l : List Int} (hb : blkAt S id ver = some b) (hl : (b.cells.drop off).take l.length = l.map fun x => .int .i64 x) : SlI S (.sl id ver off l.length cap 1) l where
  mv _ _ := rfl
  ln _ _ _ _ := rfl
  ia a c z x i h0 h1 := by rw [ia_sl, if_pos ⟨h0, h1, rfl⟩]; simp [adrI]
  mp _ _ _ _ := rfl
  ld i h a s z k L := by
    cases a
    · have hb' : blkAt (S ++ L) id ver = some b := by
        unfold blkAt at hb ⊢
        have hid : id < S.length := by
          rcases Nat.lt_or_ge id S.length with h | h
          · exact h
          · rw [List.getElem?_eq_none h] at hb; cases hb
        rw [List.getElem?_append_left hid]; exact hb
      have hc : b.cells[off + i]? = some (.int .i64 (l[i])) := by
        have := congrArg (fun x : List AV => x[i]?) hl
        simp only [List.getElem?_take, h, if_true, List.getElem?_drop, List.getElem?_map, List.getElem?_eq_getElem, Option.map_some] at this
        exact this
      simp [adrI, loadA, hb', readAt, hc]
    · rfl

/-- A loop, by a measure that falls. -/
theorem loopC_ind {E : Env} {C : CallRel} {f base : Nat} {D : Nat → List Tag} {b : Code} {K : Ex → Fr → Heap → Prop} (P : Nat → Fr → Heap → Prop)
    (step : ∀ m fr H, P m fr H → (∀ m' fr' H', m' < m → P m' fr' H' → loopC E C f base D b K fr' H') → wpC E C f base D b fr H (loopD E C f base D b K)) {n : Nat} {fr : Fr} {H : Heap} (h0 : P n fr H) : loopC E C f base D b K fr H := by
  induction n using Nat.strongRecOn generalizing fr H with
  | _ n ih => exact loopC_of (step n fr H h0 fun m' fr' H' hlt hP => ih m' hlt hP)
theorem bneI {a b : Int} : (a != b) = !decide (a = b) := by
  by_cases h : a = b <;> simp [h]

/-- A loop that is left by one exit, in a state of which Q is known: what follows is looked at once. -/
theorem loopC_split {E : Env} {C : CallRel} {f base : Nat} {D : Nat → List Tag} {b : Code} {K : Ex → Fr → Heap → Prop} {fr : Fr} {H : Heap} (i : Nat) (Q : Fr → Heap → Prop)
    (h1 : ∀ K' : Ex → Fr → Heap → Prop, (∀ fr H, Q fr H → K' (.exit i) fr H) → loopC E C f base D b K' fr H) (h2 : ∀ fr H, Q fr H → K (.exit i) fr H) : loopC E C f base D b K fr H := h1 K h2
end Go.Proofs.YtoncolpkpgbfiaaDoor
