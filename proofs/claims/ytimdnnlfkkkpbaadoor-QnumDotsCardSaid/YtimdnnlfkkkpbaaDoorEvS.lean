/- Small laws for walking with the interpreter. -/
import Derived.Test.YtimdnnlfkkkpbaaDoorEvN
set_option linter.unusedSimpArgs false
set_option linter.unusedVariables false
namespace Go.Proofs.YtimdnnlfkkkpbaaDoor
section
variable {E : Env} {C : CallRel} {f base : Nat}
def condA (E : Env) (C : CallRel) (f base : Nat) (v : AV) (x y : Code) (fr : Fr) (H : Heap) (K : Ex → Fr → Heap → Prop) : Prop :=
  match v with
  | .bool b => (b = true → wpA E C f base x fr H K) ∧ (b = false → wpA E C f base y fr H K)
  | _ => False
theorem wpA_cond {o : Operand} {x y : Code} {fr : Fr} {H : Heap} {K : Ex → Fr → Heap → Prop} : wpA E C f base (.cond o x y) fr H K = condA E C f base (fr.ev o) x y fr H K := (rfl)
theorem condA_true {x y : Code} {fr : Fr} {H : Heap} {K : Ex → Fr → Heap → Prop} : condA E C f base (.bool true) x y fr H K = wpA E C f base x fr H K := by simp [condA]
theorem condA_false {x y : Code} {fr : Fr} {H : Heap} {K : Ex → Fr → Heap → Prop} : condA E C f base (.bool false) x y fr H K = wpA E C f base y fr H K := by simp [condA]
theorem condA_split {b : Bool} {x y : Code} {fr : Fr} {H : Heap} {K : Ex → Fr → Heap → Prop} (h1 : b = true → wpA E C f base x fr H K) (h2 : b = false → wpA E C f base y fr H K) : condA E C f base (.bool b) x y fr H K := ⟨h1, h2⟩
theorem seqK_normal {b : Code} {K : Ex → Fr → Heap → Prop} {fr : Fr} {H : Heap} : seqK E C f base b K .normal fr H = wpA E C f base b fr H K := (rfl)
theorem seqK_exit {b : Code} {K : Ex → Fr → Heap → Prop} {fr : Fr} {H : Heap} {i : Nat} : seqK E C f base b K (.exit i) fr H = K (.exit i) fr H := (rfl)
theorem seqK_ret {b : Code} {K : Ex → Fr → Heap → Prop} {fr : Fr} {H : Heap} : seqK E C f base b K .ret fr H = K .ret fr H := (rfl)
theorem blockK_normal {i : Nat} {K : Ex → Fr → Heap → Prop} {fr : Fr} {H : Heap} : blockK i K .normal fr H = K .normal fr H := (rfl)
theorem blockK_exit {i j : Nat} {K : Ex → Fr → Heap → Prop} {fr : Fr} {H : Heap} : blockK i K (.exit j) fr H = if j = i then K .normal fr H else K (.exit j) fr H := (rfl)
theorem blockK_ret {i : Nat} {K : Ex → Fr → Heap → Prop} {fr : Fr} {H : Heap} : blockK i K .ret fr H = K .ret fr H := (rfl)
theorem loopK_normal {b : Code} {K : Ex → Fr → Heap → Prop} {fr : Fr} {H : Heap} : loopK E C f base b K .normal fr H = loopA E C f base b K fr H := (rfl)
theorem loopK_exit {b : Code} {K : Ex → Fr → Heap → Prop} {fr : Fr} {H : Heap} {i : Nat} : loopK E C f base b K (.exit i) fr H = K (.exit i) fr H := (rfl)
theorem loopK_ret {b : Code} {K : Ex → Fr → Heap → Prop} {fr : Fr} {H : Heap} : loopK E C f base b K .ret fr H = K .ret fr H := (rfl)
theorem regK_def {id : Nat} {K : Ex → Fr → Heap → Prop} {fr : Fr} {H : Heap} : regK E f id K fr H = K .normal (keepA E f id fr) H := (rfl)
theorem opsK_def {all : Array Oper} {rest : List (Oper × Tag)} {dst : Option Nat} {fr : Fr} {K : Fr → Heap → Prop} {v : AV} {H : Heap} : opsK E C f base all rest dst fr K v H = wpOpsA E C f base all rest (fr.put dst v) H K := (rfl)
theorem keepA_none {id : Nat} {fr : Fr} (h : E.keep f id = none) : keepA E f id fr = fr := by simp [keepA, h]

theorem pkB {t x y : Bool} {H : Heap} : pickA (.bool t) (.bool x) (.bool y) H = some (.bool (bif t then x else y), H) := (rfl)
theorem pkT {a b : AV} {H : Heap} : pickA (.bool true) a b H = some (a, H) := by cases a <;> cases b <;> rfl
theorem pkF {a b : AV} {H : Heap} : pickA (.bool false) a b H = some (b, H) := by cases a <;> cases b <;> rfl
theorem retA_done {rs : List ResultVar} {v' : AV} {H' : Heap} {fr : Fr} {H1 : Heap} {vs vs' : List AV} (hesc : E.escapes f = false) (hr : resultsA E fr H1 rs = some vs) (hf : FinL base H1 vs vs') (hv : v' = packA vs') (hH : H' = H1.take base) :
    retA E f base rs v' H' .ret fr H1 := ⟨trivial, vs, hr, by rw [hesc]; exact ⟨vs', hf, hv, hH⟩⟩
theorem retA_end {rs : List ResultVar} {v' : AV} {H' : Heap} {fr : Fr} {H1 : Heap} {vs vs' : List AV} (hesc : E.escapes f = false) (hr : resultsA E fr H1 rs = some vs) (hf : FinL base H1 vs vs') (hv : v' = packA vs') (hH : H' = H1.take base) :
    retA E f base rs v' H' .normal fr H1 := ⟨trivial, vs, hr, by rw [hesc]; exact ⟨vs', hf, hv, hH⟩⟩
theorem callThen_of {h : FuncId} {args : List AV} {H : Heap} {K : AV → Heap → Prop} {v : AV} {H' : Heap} (hc : C h args H v H') (hk : K v H') : callThen C h args H K := ⟨v, H', hc, hk⟩
theorem fnThen_fn {h : FuncId} {caps args : List AV} {H : Heap} {K : AV → Heap → Prop} (hx : E.ext h (args ++ caps) = none) : fnThen E C (.fn h caps) args H K = callThen C h (args ++ caps) H K := by simp [fnThen, hx]
theorem fnThen_ext {h : FuncId} {caps args : List AV} {H : Heap} {K : AV → Heap → Prop} {v : AV} (hx : E.ext h (args ++ caps) = some v) : fnThen E C (.fn h caps) args H K = K v H := by simp [fnThen, hx]
end

/-! ### the heap: what there was, and blocks of one's own -/
theorem set_app {S L : Heap} {j : Nat} {b : Option Blk} : (S ++ L).set (S.length + j) b = S ++ L.set j b := by
  rw [List.set_append_right _ _ (by omega)]; simp
theorem set_app0 {S L : Heap} {b : Option Blk} : (S ++ L).set S.length b = S ++ L.set 0 b := by
  have h := set_app (S := S) (L := L) (j := 0) (b := b); rwa [Nat.add_zero] at h
theorem blkAt_app {S L : Heap} {j v : Nat} : blkAt (S ++ L) (S.length + j) v = blkAt L j v := by
  unfold blkAt; rw [List.getElem?_append_right (by omega)]; simp
theorem blkAt_app0 {S L : Heap} {v : Nat} : blkAt (S ++ L) S.length v = blkAt L 0 v := by
  have h := blkAt_app (S := S) (L := L) (j := 0) (v := v); rwa [Nat.add_zero] at h
theorem blkAt_zero {cs : List AV} {v : Nat} {L : Heap} : blkAt (some ⟨cs, v⟩ :: L) 0 v = some ⟨cs, v⟩ := by simp [blkAt]
theorem blkAt_succ {b : Option Blk} {L : Heap} {j v : Nat} : blkAt (b :: L) (j + 1) v = blkAt L j v := by simp [blkAt]
theorem take_app0 {S L : Heap} : (S ++ L).take S.length = S := by simp
theorem take_self {S : Heap} : S.take S.length = S := by simp
theorem mayStore_own {base j : Nat} {vs : List AV} : mayStore base (base + j) vs = True := by simp [mayStore]
theorem mayStore_own0 {base : Nat} {vs : List AV} : mayStore base base vs = True := by simp [mayStore]
theorem mayAppend_own {base j v o l c e : Nat} {x : AV} {H : Heap} : mayAppend base .append [.sl (base + j) v o l c e, x] H = True := by simp [mayAppend]
theorem mayAppend_own0 {base v o l c e : Nat} {x : AV} {H : Heap} : mayAppend base .append [.sl base v o l c e, x] H = True := by simp [mayAppend]
theorem mayAppend_nils {base : Nat} {x : AV} {H : Heap} : mayAppend base .append [.nils, x] H = True := by simp [mayAppend]
theorem mayAppend_len {base : Nat} {x : List AV} {H : Heap} : mayAppend base .len x H = True := by simp [mayAppend]
theorem mayAppend_max {base : Nat} {x : List AV} {H : Heap} : mayAppend base .max x H = True := by simp [mayAppend]
theorem mayAppend_min {base : Nat} {x : List AV} {H : Heap} : mayAppend base .min x H = True := by simp [mayAppend]

/-! ### plain values -/
theorem nmd_int {n : Nat} {k : IntKind} {x : Int} : Nmd n (.int k x) = True := eq_true (.int _ _)
theorem nmd_bool {n : Nat} {b : Bool} : Nmd n (.bool b) = True := eq_true (.bool _)
theorem nmd_lst {n : Nat} {l : List AV} {k : Nat} : Nmd n (.lst l k) = True := eq_true (.lst _ _)
theorem nmd_nils {n : Nat} : Nmd n .nils = True := eq_true .nils
theorem nmd_nili {n : Nat} : Nmd n .nili = True := eq_true .nili
theorem nmd_ifc {n : Nat} {t : TypeId} {v : AV} : Nmd n (.ifc t v) = Nmd n v := propext ⟨fun h => by cases h; assumption, fun h => .ifc _ _ h⟩
theorem nmd_agg {n : Nat} {l : List AV} : Nmd n (.agg l) = ∀ x ∈ l, Nmd n x := propext ⟨fun h => by cases h; assumption, fun h => .agg _ h⟩
theorem nmd_tup {n : Nat} {l : List AV} : Nmd n (.tup l) = ∀ x ∈ l, Nmd n x := propext ⟨fun h => by cases h; assumption, fun h => .tup _ h⟩
theorem finL_one {base : Nat} {H : Heap} {v : AV} (h : Nmd base v) : FinL base H [v] [v] := .cons _ _ _ _ (.same _ h) .nil
theorem finL_two {base : Nat} {H : Heap} {v w : AV} (h : Nmd base v) (h' : Nmd base w) : FinL base H [v, w] [v, w] := .cons _ _ _ _ (.same _ h) (.cons _ _ _ _ (.same _ h') .nil)
theorem finL_three {base : Nat} {H : Heap} {v w u : AV} (h : Nmd base v) (h' : Nmd base w) (h'' : Nmd base u) : FinL base H [v, w, u] [v, w, u] := .cons _ _ _ _ (.same _ h) (.cons _ _ _ _ (.same _ h') (.cons _ _ _ _ (.same _ h'') .nil))
end Go.Proofs.YtimdnnlfkkkpbaaDoor
