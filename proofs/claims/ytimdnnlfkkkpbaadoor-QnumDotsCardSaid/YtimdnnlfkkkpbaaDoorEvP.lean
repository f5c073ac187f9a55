/- The seat's program, as the interpreter is told of it. -/
import Derived.Test.YtimdnnlfkkkpbaaDoorEvN
import Derived.Test.YtimdnnlfkkkpbaaDoorEvT
import Derived.Test.YtimdnnlfkkkpbaaDoorProg
import Derived.Laws.Externs
import Derived.KernelRfl
import Derived.Test.YtimdnnlfkkkpbaaDoorEvY
import Derived.Test.YtimdnnlfkkkpbaaDoorAs
set_option linter.unusedSimpArgs false
set_option linter.unusedVariables false
namespace Go.Proofs.YtimdnnlfkkkpbaaDoor

theorem tyL_ok : (tyL.zipIdx.all fun p => match p.1 with | some ti => tyOk Tryd.prog p.2 ti | none => true) = true := by kernel_rfl
theorem tyT_ok (t : TypeId) (ti : TI) (h : tyT t = some ti) : tyOk Tryd.prog t ti = true := by
  unfold tyT at h
  cases hl : tyL[t]? with
  | none => simp [hl] at h
  | some o =>
    simp only [hl, Option.join_some] at h
    subst h
    have hm : (some ti, t) ∈ tyL.zipIdx := List.mem_zipIdx_iff_getElem?.2 hl
    have := List.all_eq_true.1 tyL_ok _ hm
    simpa using this

def add64A : List AV → Option AV
  | [.int .u64 x, .int .u64 y, .int .u64 c] => if 0 ≤ x ∧ 0 ≤ y ∧ 0 ≤ c ∧ c ≤ 1 then some (.tup [.int .u64 ((x + y + c) % 18446744073709551616), .int .u64 ((x + y + c) / 18446744073709551616)]) else none
  | _ => none
theorem add64A_ok {x y c : Int} (hx : 0 ≤ x) (hy : 0 ≤ y) (hc : 0 ≤ c) (hc1 : c ≤ 1) : add64A [.int .u64 x, .int .u64 y, .int .u64 c] = some (.tup [.int .u64 ((x + y + c) % 18446744073709551616), .int .u64 ((x + y + c) / 18446744073709551616)]) := by
  simp [add64A, hx, hy, hc, hc1]
def extT (f : FuncId) (args : List AV) : Option AV := if f = 104 then add64A args else none

theorem ext_ok (f : FuncId) (args : List AV) (v : AV) (h : extT f args = some v) (c : Ctx) (cargs : List Value) (w : World) (ha : LRel c args cargs) : ∃ x, (callFunc f cargs.toArray).run Tryd.prog w = .ok (.value x) w ∧ VRel c v x := by
  unfold extT at h
  split at h
  · rename_i hf
    subst hf
    unfold add64A at h
    split at h
    · rename_i x y k
      split at h
      · rename_i hc
        cases h
        obtain ⟨x', r, rfl, hx, hr⟩ := ha.head
        obtain ⟨y', r', rfl, hy, hr'⟩ := hr.head
        obtain ⟨k', r'', rfl, hk, hr''⟩ := hr'.head
        have hr0 : r'' = [] := List.eq_nil_of_length_eq_zero (by simpa using hr''.1.symm)
        subst hr0
        obtain rfl := hx.inv_int; obtain rfl := hy.inv_int; obtain rfl := hk.inv_int
        refine ⟨_, ?_, VRel.tup' (l' := [.int .u64 ((x + y + k) % 18446744073709551616), .int .u64 ((x + y + k) / 18446744073709551616)]) (.cons (.int _ _) (.cons (.int _ _) .nil))⟩
        rw [run_callFunc_extern Tryd.func104 (by kernel_rfl) (by kernel_rfl) (by kernel_rfl) (e := add64Entry) (by kernel_rfl)]
        rw [run_add64 x y k hc.1 hc.2.1 hc.2.2.1 hc.2.2.2]
        rfl
      · cases h
    · cases h
  · cases h

/-- Whose empty slices grow; which temporaries live behind a region; whose results stay where they are. -/
def ownT (f d : Nat) : Bool :=
  if f = 19 ∧ d = 4 then true else
  if f = 100 ∧ d = 5 then true else
  if f = 102 ∧ d = 5 then true else
  if f = 21 ∧ d = 6 then true else
  if f = 22 ∧ d = 8 then true else
  if f = 13 ∧ d = 6 then true else
  if f = 13 ∧ d = 9 then true else
  false
def frzT (f id : Nat) : List Nat :=
  []
def flatT (t : Nat) : Option Nat :=
  if t = 47 then some 36 else
  if t = 48 then some 38 else
  if t = 49 then some 38 else
  if t = 103 then some 3 else
  if t = 104 then some 3 else
  if t = 110 then some 8 else
  none
def flatL : List (Nat × Nat) := [(47, 36), (48, 38), (49, 38), (103, 3), (104, 3), (110, 8)]
theorem flatL_ok : (flatL.all fun p => flatAt Tryd.prog p.1 p.2) = true := by kernel_rfl
theorem flatT_mem (t n : Nat) (h : flatT t = some n) : (t, n) ∈ flatL := by
  unfold flatT at h
  by_cases e47 : t = 47
  · rw [if_pos e47] at h; cases h; rw [e47]; simp [flatL]
  rw [if_neg e47] at h
  by_cases e48 : t = 48
  · rw [if_pos e48] at h; cases h; rw [e48]; simp [flatL]
  rw [if_neg e48] at h
  by_cases e49 : t = 49
  · rw [if_pos e49] at h; cases h; rw [e49]; simp [flatL]
  rw [if_neg e49] at h
  by_cases e103 : t = 103
  · rw [if_pos e103] at h; cases h; rw [e103]; simp [flatL]
  rw [if_neg e103] at h
  by_cases e104 : t = 104
  · rw [if_pos e104] at h; cases h; rw [e104]; simp [flatL]
  rw [if_neg e104] at h
  by_cases e110 : t = 110
  · rw [if_pos e110] at h; cases h; rw [e110]; simp [flatL]
  rw [if_neg e110] at h
  cases h
theorem flatT_ok (t n : Nat) (h : flatT t = some n) : flatAt Tryd.prog t n = true := by
  have := List.all_eq_true.1 flatL_ok _ (flatT_mem t n h)
  simpa using this
def escT (f : Nat) : Bool :=
  false

def givenT (f : FuncId) (args : List AV) (v : AV) : Prop := (f = 11 ∨ f = 25 ∨ f = 52) ∧ ∃ n : Int, args = [.ifc 85 (.int .i64 n)] ∧ v = .int .i64 n
noncomputable def theE : Env := { P := Tryd.prog, T := tyT, own := ownT, keep := fun _ _ => none, escapes := escT, ext := extT, given := givenT, frz := frzT, flat := flatT }
theorem E_T (t : Nat) : theE.T t = tyT t := (rfl)
theorem E_P : theE.P = Tryd.prog := (rfl)
theorem E_own (f d : Nat) : theE.own f d = ownT f d := (rfl)
theorem E_keep (f d : Nat) : theE.keep f d = none := (rfl)
theorem E_frz (f d : Nat) : theE.frz f d = frzT f d := (rfl)
theorem E_flat (t : Nat) : theE.flat t = flatT t := (rfl)
theorem E_esc (f : Nat) : theE.escapes f = escT f := (rfl)
theorem E_ext (f : Nat) (l : List AV) : theE.ext f l = extT f l := (rfl)
theorem theE_ok : EnvOk theE := ⟨tyT_ok, ext_ok, by kernel_rfl, flatT_ok⟩
theorem theE_given : ∀ f args v, theE.given f args v → ∀ H, CallOk theE f args H v H := by
  rintro f args v ⟨hf, n, rfl, rfl⟩ H
  rcases hf with rfl | rfl | rfl
  · exact CallOk.num (E := theE) Tryd.func11 (by kernel_rfl) (by kernel_rfl) rfl AsC.num11_hit n H
  · exact CallOk.num (E := theE) Tryd.func25 (by kernel_rfl) (by kernel_rfl) rfl AsC.num25_hit n H
  · exact CallOk.num (E := theE) Tryd.func52 (by kernel_rfl) (by kernel_rfl) rfl AsC.num52_hit n H
theorem num11_given (n : Int) (S : Heap) : Call theE 11 [.ifc 85 (.int .i64 n)] S (.int .i64 n) S := Call.ofGiven (E := theE) (show givenT 11 _ _ from ⟨by simp, n, rfl, rfl⟩) S
theorem num25_given (n : Int) (S : Heap) : Call theE 25 [.ifc 85 (.int .i64 n)] S (.int .i64 n) S := Call.ofGiven (E := theE) (show givenT 25 _ _ from ⟨by simp, n, rfl, rfl⟩) S
theorem num52_given (n : Int) (S : Heap) : Call theE 52 [.ifc 85 (.int .i64 n)] S (.int .i64 n) S := Call.ofGiven (E := theE) (show givenT 52 _ _ from ⟨by simp, n, rfl, rfl⟩) S
end Go.Proofs.YtimdnnlfkkkpbaaDoor
