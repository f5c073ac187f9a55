/- The seat's program, as the interpreter is told of it. -/
import Derived.Test.YtimdnnlfkkkpbaaEvN
import Derived.Test.YtimdnnlfkkkpbaaEvT
import Derived.Test.YtimdnnlfkkkpbaaProg
import Derived.Laws.Externs
import Derived.KernelRfl
set_option linter.unusedSimpArgs false
set_option linter.unusedVariables false
namespace Go.Proofs.Ytimdnnlfkkkpbaa

theorem tyL_ok : (tyL.zipIdx.all fun p => match p.1 with | some ti => tyOk Try.prog p.2 ti | none => true) = true := by kernel_rfl
theorem tyT_ok (t : TypeId) (ti : TI) (h : tyT t = some ti) : tyOk Try.prog t ti = true := by
  unfold tyT at h
  cases hl : tyL[t]? with
  | none => simp [hl] at h
  | some o =>
    simp only [hl, Option.join_some] at h
    subst h
    have hm : (some ti, t) ∈ tyL.zipIdx := List.mem_zipIdx_iff_getElem?.2 hl
    have := List.all_eq_true.1 tyL_ok _ hm
    simpa using this

def add64A : List AV → Option AV
  | [.int .u64 x, .int .u64 y, .int .u64 c] => if 0 ≤ x ∧ 0 ≤ y ∧ 0 ≤ c ∧ c ≤ 1 then some (.tup [.int .u64 ((x + y + c) % 18446744073709551616), .int .u64 ((x + y + c) / 18446744073709551616)]) else none
  | _ => none
theorem add64A_ok {x y c : Int} (hx : 0 ≤ x) (hy : 0 ≤ y) (hc : 0 ≤ c) (hc1 : c ≤ 1) : add64A [.int .u64 x, .int .u64 y, .int .u64 c] = some (.tup [.int .u64 ((x + y + c) % 18446744073709551616), .int .u64 ((x + y + c) / 18446744073709551616)]) := by
  simp [add64A, hx, hy, hc, hc1]
def extT (f : FuncId) (args : List AV) : Option AV := if f = 108 then add64A args else none

theorem ext_ok (f : FuncId) (args : List AV) (v : AV) (h : extT f args = some v) (c : Ctx) (cargs : List Value) (w : World) (ha : LRel c args cargs) : ∃ x, (callFunc f cargs.toArray).run Try.prog w = .ok (.value x) w ∧ VRel c v x := by
  unfold extT at h
  split at h
  · rename_i hf
    subst hf
    unfold add64A at h
    split at h
    · rename_i x y k
      split at h
      · rename_i hc
        cases h
        obtain ⟨x', r, rfl, hx, hr⟩ := ha.head
        obtain ⟨y', r', rfl, hy, hr'⟩ := hr.head
        obtain ⟨k', r'', rfl, hk, hr''⟩ := hr'.head
        have hr0 : r'' = [] := List.eq_nil_of_length_eq_zero (by simpa using hr''.1.symm)
        subst hr0
        obtain rfl := hx.inv_int; obtain rfl := hy.inv_int; obtain rfl := hk.inv_int
        refine ⟨_, ?_, VRel.tup' (l' := [.int .u64 ((x + y + k) % 18446744073709551616), .int .u64 ((x + y + k) / 18446744073709551616)]) (.cons (.int _ _) (.cons (.int _ _) .nil))⟩
        rw [run_callFunc_extern Try.func108 (by kernel_rfl) (by kernel_rfl) (by kernel_rfl) (e := add64Entry) (by kernel_rfl)]
        rw [run_add64 x y k hc.1 hc.2.1 hc.2.2.1 hc.2.2.2]
        rfl
      · cases h
    · cases h
  · cases h

/-- Whose empty slices grow; which temporaries live behind a region; whose results stay where they are. -/
def ownT (f d : Nat) : Bool :=
  if f = 3 ∧ d = 8 then true else
  if f = 3 ∧ d = 9 then true else
  if f = 28 ∧ d = 4 then true else
  if f = 79 ∧ d = 5 then true else
  if f = 81 ∧ d = 5 then true else
  if f = 119 ∧ d = 28 then true else
  false
def frzT (f id : Nat) : List Nat :=
  if f = 3 ∧ id = 7 then [8, 9] else
  []
def flatT (t : Nat) : Option Nat :=
  if t = 34 then some 36 else
  if t = 35 then some 38 else
  if t = 36 then some 38 else
  if t = 73 then some 3 else
  if t = 74 then some 3 else
  if t = 75 then some 3 else
  if t = 82 then some 6 else
  if t = 83 then some 44 else
  if t = 84 then some 44 else
  if t = 114 then some 3 else
  if t = 115 then some 3 else
  if t = 157 then some 2 else
  if t = 158 then some 2 else
  if t = 159 then some 40 else
  none
def flatL : List (Nat × Nat) := [(34, 36), (35, 38), (36, 38), (73, 3), (74, 3), (75, 3), (82, 6), (83, 44), (84, 44), (114, 3), (115, 3), (157, 2), (158, 2), (159, 40)]
theorem flatL_ok : (flatL.all fun p => flatAt Try.prog p.1 p.2) = true := by kernel_rfl
theorem flatT_mem (t n : Nat) (h : flatT t = some n) : (t, n) ∈ flatL := by
  unfold flatT at h
  by_cases e34 : t = 34
  · rw [if_pos e34] at h; cases h; rw [e34]; simp [flatL]
  rw [if_neg e34] at h
  by_cases e35 : t = 35
  · rw [if_pos e35] at h; cases h; rw [e35]; simp [flatL]
  rw [if_neg e35] at h
  by_cases e36 : t = 36
  · rw [if_pos e36] at h; cases h; rw [e36]; simp [flatL]
  rw [if_neg e36] at h
  by_cases e73 : t = 73
  · rw [if_pos e73] at h; cases h; rw [e73]; simp [flatL]
  rw [if_neg e73] at h
  by_cases e74 : t = 74
  · rw [if_pos e74] at h; cases h; rw [e74]; simp [flatL]
  rw [if_neg e74] at h
  by_cases e75 : t = 75
  · rw [if_pos e75] at h; cases h; rw [e75]; simp [flatL]
  rw [if_neg e75] at h
  by_cases e82 : t = 82
  · rw [if_pos e82] at h; cases h; rw [e82]; simp [flatL]
  rw [if_neg e82] at h
  by_cases e83 : t = 83
  · rw [if_pos e83] at h; cases h; rw [e83]; simp [flatL]
  rw [if_neg e83] at h
  by_cases e84 : t = 84
  · rw [if_pos e84] at h; cases h; rw [e84]; simp [flatL]
  rw [if_neg e84] at h
  by_cases e114 : t = 114
  · rw [if_pos e114] at h; cases h; rw [e114]; simp [flatL]
  rw [if_neg e114] at h
  by_cases e115 : t = 115
  · rw [if_pos e115] at h; cases h; rw [e115]; simp [flatL]
  rw [if_neg e115] at h
  by_cases e157 : t = 157
  · rw [if_pos e157] at h; cases h; rw [e157]; simp [flatL]
  rw [if_neg e157] at h
  by_cases e158 : t = 158
  · rw [if_pos e158] at h; cases h; rw [e158]; simp [flatL]
  rw [if_neg e158] at h
  by_cases e159 : t = 159
  · rw [if_pos e159] at h; cases h; rw [e159]; simp [flatL]
  rw [if_neg e159] at h
  cases h
theorem flatT_ok (t n : Nat) (h : flatT t = some n) : flatAt Try.prog t n = true := by
  have := List.all_eq_true.1 flatL_ok _ (flatT_mem t n h)
  simpa using this
def escT (f : Nat) : Bool :=
  false

def givenT (f : FuncId) (args : List AV) (v : AV) : Prop := False
noncomputable def theE : Env := { P := Try.prog, T := tyT, own := ownT, keep := fun _ _ => none, escapes := escT, ext := extT, given := givenT, frz := frzT, flat := flatT }
theorem E_T (t : Nat) : theE.T t = tyT t := (rfl)
theorem E_P : theE.P = Try.prog := (rfl)
theorem E_own (f d : Nat) : theE.own f d = ownT f d := (rfl)
theorem E_keep (f d : Nat) : theE.keep f d = none := (rfl)
theorem E_frz (f d : Nat) : theE.frz f d = frzT f d := (rfl)
theorem E_flat (t : Nat) : theE.flat t = flatT t := (rfl)
theorem E_esc (f : Nat) : theE.escapes f = escT f := (rfl)
theorem E_ext (f : Nat) (l : List AV) : theE.ext f l = extT f l := (rfl)
theorem theE_ok : EnvOk theE := ⟨tyT_ok, ext_ok, by kernel_rfl, flatT_ok⟩
theorem theE_given : ∀ f args v, theE.given f args v → ∀ H, CallOk theE f args H v H := fun _ _ _ h => h.elim
end Go.Proofs.Ytimdnnlfkkkpbaa
