/- The seat's program, as the interpreter is told of it. -/
import Derived.Test.YtjdnmejohadlbaaDoorEvN
import Derived.Test.YtjdnmejohadlbaaDoorEvT
import Derived.Test.YtjdnmejohadlbaaDoorProg
import Derived.Laws.Externs
import Derived.KernelRfl
import Derived.Test.YtjdnmejohadlbaaDoorEvY
import Derived.Test.YtjdnmejohadlbaaDoorAs
import Derived.Test.YtjdnmejohadlbaaDoorEvW
set_option linter.unusedSimpArgs false
set_option linter.unusedVariables false
namespace Go.Proofs.YtjdnmejohadlbaaDoor

theorem tyL_ok : (tyL.zipIdx.all fun p => match p.1 with | some ti => tyOk Tryd.prog p.2 ti | none => true) = true := by kernel_rfl
theorem tyT_ok (t : TypeId) (ti : TI) (h : tyT t = some ti) : tyOk Tryd.prog t ti = true := by
  unfold tyT at h
  cases hl : tyL[t]? with
  | none => simp [hl] at h
  | some o =>
    simp only [hl, Option.join_some] at h
    subst h
    have hm : (some ti, t) ∈ tyL.zipIdx := List.mem_zipIdx_iff_getElem?.2 hl
    have := List.all_eq_true.1 tyL_ok _ hm
    simpa using this

def add64A : List AV → Option AV
  | [.int .u64 x, .int .u64 y, .int .u64 c] => if 0 ≤ x ∧ 0 ≤ y ∧ 0 ≤ c ∧ c ≤ 1 then some (.tup [.int .u64 ((x + y + c) % 18446744073709551616), .int .u64 ((x + y + c) / 18446744073709551616)]) else none
  | _ => none
theorem add64A_ok {x y c : Int} (hx : 0 ≤ x) (hy : 0 ≤ y) (hc : 0 ≤ c) (hc1 : c ≤ 1) : add64A [.int .u64 x, .int .u64 y, .int .u64 c] = some (.tup [.int .u64 ((x + y + c) % 18446744073709551616), .int .u64 ((x + y + c) / 18446744073709551616)]) := by
  simp [add64A, hx, hy, hc, hc1]
def extT (f : FuncId) (args : List AV) : Option AV := if f = 155 then add64A args else none

theorem ext_ok (f : FuncId) (args : List AV) (v : AV) (h : extT f args = some v) (c : Ctx) (cargs : List Value) (w : World) (ha : LRel c args cargs) : ∃ x, (callFunc f cargs.toArray).run Tryd.prog w = .ok (.value x) w ∧ VRel c v x := by
  unfold extT at h
  split at h
  · rename_i hf
    subst hf
    unfold add64A at h
    split at h
    · rename_i x y k
      split at h
      · rename_i hc
        cases h
        obtain ⟨x', r, rfl, hx, hr⟩ := ha.head
        obtain ⟨y', r', rfl, hy, hr'⟩ := hr.head
        obtain ⟨k', r'', rfl, hk, hr''⟩ := hr'.head
        have hr0 : r'' = [] := List.eq_nil_of_length_eq_zero (by simpa using hr''.1.symm)
        subst hr0
        obtain rfl := hx.inv_int; obtain rfl := hy.inv_int; obtain rfl := hk.inv_int
        refine ⟨_, ?_, VRel.tup' (l' := [.int .u64 ((x + y + k) % 18446744073709551616), .int .u64 ((x + y + k) / 18446744073709551616)]) (.cons (.int _ _) (.cons (.int _ _) .nil))⟩
        rw [run_callFunc_extern Tryd.func155 (by kernel_rfl) (by kernel_rfl) (by kernel_rfl) (e := add64Entry) (by kernel_rfl)]
        rw [run_add64 x y k hc.1 hc.2.1 hc.2.2.1 hc.2.2.2]
        rfl
      · cases h
    · cases h
  · cases h

/-- Whose empty slices grow; which temporaries live behind a region; whose results stay where they are. -/
def ownT (f d : Nat) : Bool :=
  if f = 90 ∧ d = 4 then true else
  if f = 157 ∧ d = 5 then true else
  if f = 159 ∧ d = 5 then true else
  if f = 118 ∧ d = 28 then true else
  if f = 36 ∧ d = 3 then true else
  if f = 118 ∧ d = 6 then true else
  if f = 39 ∧ d = 9 then true else
  if f = 6 ∧ d = 17 then true else
  if f = 109 ∧ d = 3 then true else
  if f = 70 ∧ d = 11 then true else
  if f = 70 ∧ d = 12 then true else
  false
def frzT (f id : Nat) : List Nat :=
  if f = 118 ∧ id = 7 then [6] else
  if f = 6 ∧ id = 14 then [17] else
  if f = 7 ∧ id = 15 then [11] else
  if f = 118 ∧ id = 3 then [6] else
  if f = 118 ∧ id = 10 then [7] else
  []
def flatT (t : Nat) : Option Nat :=
  if t = 22 then some 2 else
  if t = 23 then some 2 else
  if t = 25 then some 3 else
  if t = 26 then some 3 else
  if t = 27 then some 5 else
  if t = 28 then some 5 else
  if t = 33 then some 2 else
  if t = 34 then some 3 else
  if t = 42 then some 5 else
  if t = 71 then some 3 else
  if t = 72 then some 3 else
  if t = 77 then some 3 else
  if t = 86 then some 7 else
  if t = 87 then some 6 else
  if t = 88 then some 36 else
  if t = 89 then some 38 else
  if t = 90 then some 38 else
  if t = 91 then some 44 else
  if t = 92 then some 44 else
  if t = 111 then some 5 else
  if t = 112 then some 5 else
  if t = 114 then some 5 else
  if t = 115 then some 2 else
  if t = 116 then some 2 else
  if t = 124 then some 43 else
  if t = 125 then some 43 else
  if t = 176 then some 8 else
  if t = 193 then some 2 else
  if t = 218 then some 2 else
  if t = 219 then some 2 else
  if t = 220 then some 40 else
  if t = 235 then some 3 else
  if t = 236 then some 3 else
  none
def flatL : List (Nat × Nat) := [(22, 2), (23, 2), (25, 3), (26, 3), (27, 5), (28, 5), (33, 2), (34, 3), (42, 5), (71, 3), (72, 3), (77, 3), (86, 7), (87, 6), (88, 36), (89, 38), (90, 38), (91, 44), (92, 44), (111, 5), (112, 5), (114, 5), (115, 2), (116, 2), (124, 43), (125, 43), (176, 8), (193, 2), (218, 2), (219, 2), (220, 40), (235, 3), (236, 3)]
theorem flatL_ok : (flatL.all fun p => flatAt Tryd.prog p.1 p.2) = true := by kernel_rfl
theorem flatT_mem (t n : Nat) (h : flatT t = some n) : (t, n) ∈ flatL := by
  unfold flatT at h
  by_cases e22 : t = 22
  · rw [if_pos e22] at h; cases h; rw [e22]; simp [flatL]
  rw [if_neg e22] at h
  by_cases e23 : t = 23
  · rw [if_pos e23] at h; cases h; rw [e23]; simp [flatL]
  rw [if_neg e23] at h
  by_cases e25 : t = 25
  · rw [if_pos e25] at h; cases h; rw [e25]; simp [flatL]
  rw [if_neg e25] at h
  by_cases e26 : t = 26
  · rw [if_pos e26] at h; cases h; rw [e26]; simp [flatL]
  rw [if_neg e26] at h
  by_cases e27 : t = 27
  · rw [if_pos e27] at h; cases h; rw [e27]; simp [flatL]
  rw [if_neg e27] at h
  by_cases e28 : t = 28
  · rw [if_pos e28] at h; cases h; rw [e28]; simp [flatL]
  rw [if_neg e28] at h
  by_cases e33 : t = 33
  · rw [if_pos e33] at h; cases h; rw [e33]; simp [flatL]
  rw [if_neg e33] at h
  by_cases e34 : t = 34
  · rw [if_pos e34] at h; cases h; rw [e34]; simp [flatL]
  rw [if_neg e34] at h
  by_cases e42 : t = 42
  · rw [if_pos e42] at h; cases h; rw [e42]; simp [flatL]
  rw [if_neg e42] at h
  by_cases e71 : t = 71
  · rw [if_pos e71] at h; cases h; rw [e71]; simp [flatL]
  rw [if_neg e71] at h
  by_cases e72 : t = 72
  · rw [if_pos e72] at h; cases h; rw [e72]; simp [flatL]
  rw [if_neg e72] at h
  by_cases e77 : t = 77
  · rw [if_pos e77] at h; cases h; rw [e77]; simp [flatL]
  rw [if_neg e77] at h
  by_cases e86 : t = 86
  · rw [if_pos e86] at h; cases h; rw [e86]; simp [flatL]
  rw [if_neg e86] at h
  by_cases e87 : t = 87
  · rw [if_pos e87] at h; cases h; rw [e87]; simp [flatL]
  rw [if_neg e87] at h
  by_cases e88 : t = 88
  · rw [if_pos e88] at h; cases h; rw [e88]; simp [flatL]
  rw [if_neg e88] at h
  by_cases e89 : t = 89
  · rw [if_pos e89] at h; cases h; rw [e89]; simp [flatL]
  rw [if_neg e89] at h
  by_cases e90 : t = 90
  · rw [if_pos e90] at h; cases h; rw [e90]; simp [flatL]
  rw [if_neg e90] at h
  by_cases e91 : t = 91
  · rw [if_pos e91] at h; cases h; rw [e91]; simp [flatL]
  rw [if_neg e91] at h
  by_cases e92 : t = 92
  · rw [if_pos e92] at h; cases h; rw [e92]; simp [flatL]
  rw [if_neg e92] at h
  by_cases e111 : t = 111
  · rw [if_pos e111] at h; cases h; rw [e111]; simp [flatL]
  rw [if_neg e111] at h
  by_cases e112 : t = 112
  · rw [if_pos e112] at h; cases h; rw [e112]; simp [flatL]
  rw [if_neg e112] at h
  by_cases e114 : t = 114
  · rw [if_pos e114] at h; cases h; rw [e114]; simp [flatL]
  rw [if_neg e114] at h
  by_cases e115 : t = 115
  · rw [if_pos e115] at h; cases h; rw [e115]; simp [flatL]
  rw [if_neg e115] at h
  by_cases e116 : t = 116
  · rw [if_pos e116] at h; cases h; rw [e116]; simp [flatL]
  rw [if_neg e116] at h
  by_cases e124 : t = 124
  · rw [if_pos e124] at h; cases h; rw [e124]; simp [flatL]
  rw [if_neg e124] at h
  by_cases e125 : t = 125
  · rw [if_pos e125] at h; cases h; rw [e125]; simp [flatL]
  rw [if_neg e125] at h
  by_cases e176 : t = 176
  · rw [if_pos e176] at h; cases h; rw [e176]; simp [flatL]
  rw [if_neg e176] at h
  by_cases e193 : t = 193
  · rw [if_pos e193] at h; cases h; rw [e193]; simp [flatL]
  rw [if_neg e193] at h
  by_cases e218 : t = 218
  · rw [if_pos e218] at h; cases h; rw [e218]; simp [flatL]
  rw [if_neg e218] at h
  by_cases e219 : t = 219
  · rw [if_pos e219] at h; cases h; rw [e219]; simp [flatL]
  rw [if_neg e219] at h
  by_cases e220 : t = 220
  · rw [if_pos e220] at h; cases h; rw [e220]; simp [flatL]
  rw [if_neg e220] at h
  by_cases e235 : t = 235
  · rw [if_pos e235] at h; cases h; rw [e235]; simp [flatL]
  rw [if_neg e235] at h
  by_cases e236 : t = 236
  · rw [if_pos e236] at h; cases h; rw [e236]; simp [flatL]
  rw [if_neg e236] at h
  cases h
theorem flatT_ok (t n : Nat) (h : flatT t = some n) : flatAt Tryd.prog t n = true := by
  have := List.all_eq_true.1 flatL_ok _ (flatT_mem t n h)
  simpa using this
def keep6 : Nat → Option (List Nat)
  | 0 => some [0, 1]
  | 1 => some [0, 1, 5]
  | 2 => some [0, 1, 5, 9]
  | 3 => some [0, 1, 5, 9, 12]
  | 4 => some [0, 1, 5, 9, 12, 13, 14]
  | 5 => some [0, 1, 87]
  | 6 => some [4]
  | 7 => some [0, 1, 15, 16]
  | 8 => some [0, 1, 15, 16, 98]
  | 9 => some [4]
  | 10 => some [0, 1, 15, 114]
  | 11 => some [4]
  | 12 => some [0, 1, 15, 17]
  | 13 => some [0, 1, 15, 17, 18]
  | 14 => some [0, 1, 15, 17, 18, 122]
  | 15 => some [0, 1, 15, 17, 18]
  | 16 => some [0, 1, 15, 17, 18, 19]
  | 17 => some [0, 1, 15, 18, 19, 20, 21]
  | 18 => some [0, 1, 15, 17, 18, 19, 21]
  | 19 => some [0, 1, 15, 17, 18, 19, 21, 22]
  | 20 => some [0, 1, 15, 17, 18, 22, 154]
  | 21 => some [4]
  | 22 => some [0, 1, 15, 17, 18, 22, 23]
  | 23 => some [0, 1, 15, 17, 18, 22, 23, 158]
  | 24 => some [0, 1, 15, 17, 18, 22, 23]
  | 25 => some [0, 1, 15, 17, 18, 22, 23, 169]
  | 26 => some [4]
  | 27 => some [0, 1, 15, 17, 18, 24, 25]
  | 28 => some [0, 1, 15, 17, 18, 24, 25, 26, 27]
  | 29 => some [0, 1, 15, 17, 18, 24, 25, 26, 27, 28, 29, 30, 31]
  | 30 => some [0, 1, 15, 17, 18, 24, 25, 26, 27, 28, 29, 30, 31, 32, 33, 34, 35]
  | 31 => some [0, 1, 15, 17, 18, 24, 25, 26, 27, 28, 29, 30, 31, 32, 33, 34, 35, 36, 37, 38]
  | 32 => some [0, 1, 15, 17, 18, 24, 25, 26, 27, 28, 29, 30, 31, 32, 33, 34, 35, 36, 37, 38, 39, 40, 41]
  | 33 => some [0, 1, 15, 17, 18, 250]
  | 34 => some [4]
  | 35 => some [4]
  | _ => none
def keep4 : Nat → Option (List Nat)
  | 0 => some [0, 1]
  | 1 => some [0, 1, 5, 6]
  | 2 => some [0, 1, 5, 6, 7, 8]
  | 3 => some [0, 1, 5, 6, 7, 8, 9, 10, 11]
  | 4 => some [0, 1, 9, 10, 11, 39]
  | 5 => some [4]
  | 6 => some [0, 1, 9, 10, 11, 46]
  | 7 => some [4]
  | 8 => some [9, 10, 11, 12, 13]
  | 9 => some [4]
  | _ => none
def keep5 : Nat → Option (List Nat)
  | 0 => some [0, 1]
  | 1 => some [0, 1, 5, 6]
  | 2 => some [0, 1, 5, 6, 7, 8]
  | 3 => some [0, 1, 5, 6, 7, 8, 28]
  | 4 => some [4]
  | 5 => some [0, 1, 5, 6, 7, 56]
  | 6 => some [4]
  | 7 => some [0, 1, 5, 6, 7, 62]
  | 8 => some [4]
  | 9 => some [4]
  | _ => none
def keep3 : Nat → Option (List Nat)
  | 0 => some [2, 3]
  | 1 => some [2, 3, 5, 6, 7]
  | 2 => some [2, 3, 5, 6, 7, 8, 9, 10]
  | 3 => some [2, 3, 5, 6, 7, 8, 9, 10, 11]
  | 4 => some [2, 3, 5, 6, 7, 8, 9, 10, 11, 12]
  | 5 => some [2, 3, 5, 6, 7, 8, 9, 10, 11, 49]
  | 6 => some [4]
  | 7 => some [2, 3, 5, 6, 7, 8, 9, 10, 57]
  | 8 => some [4]
  | 9 => some [2, 3, 5, 6, 7, 8, 9, 10, 13, 14]
  | 10 => some [5, 6, 7, 8, 9, 10, 13, 14, 15, 16]
  | 11 => some [4]
  | _ => none
def keep7 : Nat → Option (List Nat)
  | 0 => some [1, 2]
  | 1 => some [1, 2, 5, 6]
  | 2 => some [1, 2, 5, 6, 7]
  | 3 => some [1, 2, 5, 6, 7, 8]
  | 4 => some [1, 2, 5, 6, 7, 8, 33]
  | 5 => some [1, 2, 5, 6, 7, 8]
  | 6 => some [1, 2, 5, 6, 7, 8]
  | 7 => some [1, 2, 5, 6, 54]
  | 8 => some [4]
  | 9 => some [1, 2, 5, 6, 9]
  | 10 => some [1, 2, 5, 6, 9, 10]
  | 11 => some [1, 2, 5, 6, 9, 10, 77]
  | 12 => some [1, 2, 5, 6, 9, 10]
  | 13 => some [1, 2, 5, 6, 9, 10, 11]
  | 14 => some [1, 2, 5, 6, 9, 10, 11]
  | 15 => some [1, 2, 5, 6, 9, 10]
  | 16 => some [1, 5, 6, 9, 12]
  | 17 => some [5, 6, 9, 12, 13]
  | 18 => some [5, 6, 9, 12]
  | 19 => some [4]
  | _ => none
def keep8 : Nat → Option (List Nat)
  | 0 => some [0, 1, 2]
  | 1 => some [0, 1, 2, 7, 8]
  | 2 => some [0, 1, 2, 7, 8, 9, 10]
  | 3 => some [0, 1, 2, 7, 8, 9, 10, 11, 12]
  | 4 => some [0, 1, 2, 7, 8, 9, 10, 11, 12, 34]
  | 5 => some [1, 2, 9, 10, 50]
  | 6 => some [6]
  | 7 => some [1, 2, 7, 8, 9, 10, 11, 12, 13]
  | 8 => some [1, 2, 9, 10, 11, 12, 13, 59]
  | 9 => some [6]
  | 10 => some [1, 2, 9, 10, 11, 12, 13, 65]
  | 11 => some [1, 2, 9, 10, 72]
  | 12 => some [6]
  | 13 => some [1, 2, 9, 10, 11, 12, 14]
  | 14 => some [1, 2, 9, 10, 87]
  | 15 => some [6]
  | 16 => some [1, 2, 9, 10, 98]
  | 17 => some [6]
  | 18 => some [6]
  | _ => none
def keep9 : Nat → Option (List Nat)
  | 0 => some [2, 3, 4]
  | 1 => some [2, 3, 4, 7, 8, 9, 10]
  | 2 => some [2, 3, 4, 7, 8, 9, 10, 11, 12, 13]
  | 3 => some [2, 3, 4, 7, 8, 9, 10, 11, 12, 13, 14]
  | 4 => some [2, 3, 4, 7, 8, 9, 10, 11, 12, 13, 14, 45]
  | 5 => some [2, 3, 4, 11, 12, 13, 14, 59]
  | 6 => some [6]
  | 7 => some [2, 3, 4, 7, 8, 9, 10, 11, 12, 13, 14, 15, 16, 17]
  | 8 => some [2, 3, 4, 11, 12, 13, 14, 83]
  | 9 => some [6]
  | 10 => some [2, 3, 4, 11, 12, 13, 90]
  | 11 => some [6]
  | 12 => some [11, 12, 13, 18, 19, 20, 21]
  | 13 => some [6]
  | _ => none
def keep10 : Nat → Option (List Nat)
  | 0 => some [0, 1, 2]
  | 1 => some [0, 1, 2, 7]
  | 2 => some [0, 1, 2, 7, 8]
  | 3 => some [0, 1, 2, 7, 8, 35]
  | 4 => some [0, 1, 2, 7, 8]
  | 5 => some [0, 1, 2, 7, 8]
  | 6 => some [0, 2, 7, 9]
  | 7 => some [0, 2, 7, 9, 52]
  | 8 => some [0, 2, 7, 9]
  | 9 => some [0, 2, 7, 9]
  | 10 => some [0, 7, 10]
  | 11 => some [0, 7, 10, 11]
  | 12 => some [0, 7, 10, 11, 72]
  | 13 => some [0, 7, 10, 11]
  | 14 => some [0, 7, 11, 12]
  | 15 => some [0, 7, 11, 12, 13, 14]
  | 16 => some [0, 7, 10, 11]
  | 17 => some [0, 7, 11, 12, 13, 14, 91]
  | 18 => some [0, 7, 10, 11]
  | 19 => some [0, 7, 11, 12, 104]
  | 20 => some [0, 7, 10, 11]
  | 21 => some [0, 7, 10, 15]
  | 22 => some [0, 7, 10, 15, 114]
  | 23 => some [0, 7, 10, 15]
  | 24 => some [0, 7, 10, 15]
  | 25 => some [0, 7, 10, 16]
  | 26 => some [0, 7, 10, 160]
  | 27 => some [6]
  | 28 => some [7, 10, 17]
  | 29 => some [7, 10, 17, 20]
  | 30 => some [7, 10, 20, 23]
  | 31 => some [10, 20, 23, 25]
  | 32 => some [20, 23, 25, 184]
  | 33 => some [6]
  | 34 => some [6]
  | _ => none
def keepT (f id : Nat) : Option (List Nat) :=
  if f = 6 then keep6 id else
  if f = 4 then keep4 id else
  if f = 5 then keep5 id else
  if f = 3 then keep3 id else
  if f = 7 then keep7 id else
  if f = 8 then keep8 id else
  if f = 9 then keep9 id else
  if f = 10 then keep10 id else
  none
def escT (f : Nat) : Bool :=
  if f = 37 then true else
  if f = 133 then true else
  false

def givenT (f : FuncId) (args : List AV) (v : AV) : Prop := (f = 15 ∨ f = 24 ∨ f = 34 ∨ f = 45 ∨ f = 53 ∨ f = 63 ∨ f = 69) ∧ ∃ n : Int, args = [.ifc 133 (.int .i64 n)] ∧ v = .int .i64 n
noncomputable def theE : Env := { P := Tryd.prog, T := tyT, own := ownT, keep := keepT, escapes := escT, ext := extT, given := givenT, frz := frzT, flat := flatT }
theorem E_T (t : Nat) : theE.T t = tyT t := (rfl)
theorem E_P : theE.P = Tryd.prog := (rfl)
theorem E_own (f d : Nat) : theE.own f d = ownT f d := (rfl)
theorem E_keep (f d : Nat) : theE.keep f d = keepT f d := (rfl)
theorem E_frz (f d : Nat) : theE.frz f d = frzT f d := (rfl)
theorem E_flat (t : Nat) : theE.flat t = flatT t := (rfl)
theorem E_esc (f : Nat) : theE.escapes f = escT f := (rfl)
theorem E_ext (f : Nat) (l : List AV) : theE.ext f l = extT f l := (rfl)
theorem theE_ok : EnvOk theE := ⟨tyT_ok, ext_ok, by kernel_rfl, flatT_ok⟩
theorem theE_given : ∀ f args v, theE.given f args v → ∀ H, CallOk theE f args H v H := by
  rintro f args v ⟨hf, n, rfl, rfl⟩ H
  rcases hf with rfl | rfl | rfl | rfl | rfl | rfl | rfl
  · exact CallOk.num (E := theE) Tryd.func15 (by kernel_rfl) (by kernel_rfl) rfl AsC.num15_hit n H
  · exact CallOk.num (E := theE) Tryd.func24 (by kernel_rfl) (by kernel_rfl) rfl AsC.num24_hit n H
  · exact CallOk.num (E := theE) Tryd.func34 (by kernel_rfl) (by kernel_rfl) rfl AsC.num34_hit n H
  · exact CallOk.num (E := theE) Tryd.func45 (by kernel_rfl) (by kernel_rfl) rfl AsC.num45_hit n H
  · exact CallOk.num (E := theE) Tryd.func53 (by kernel_rfl) (by kernel_rfl) rfl AsC.num53_hit n H
  · exact CallOk.num (E := theE) Tryd.func63 (by kernel_rfl) (by kernel_rfl) rfl AsC.num63_hit n H
  · exact CallOk.num (E := theE) Tryd.func69 (by kernel_rfl) (by kernel_rfl) rfl AsC.num69_hit n H
theorem num15_given (n : Int) (S : Heap) : Call theE 15 [.ifc 133 (.int .i64 n)] S (.int .i64 n) S := Call.ofGiven (E := theE) (show givenT 15 _ _ from ⟨by simp, n, rfl, rfl⟩) S
theorem num24_given (n : Int) (S : Heap) : Call theE 24 [.ifc 133 (.int .i64 n)] S (.int .i64 n) S := Call.ofGiven (E := theE) (show givenT 24 _ _ from ⟨by simp, n, rfl, rfl⟩) S
theorem num34_given (n : Int) (S : Heap) : Call theE 34 [.ifc 133 (.int .i64 n)] S (.int .i64 n) S := Call.ofGiven (E := theE) (show givenT 34 _ _ from ⟨by simp, n, rfl, rfl⟩) S
theorem num45_given (n : Int) (S : Heap) : Call theE 45 [.ifc 133 (.int .i64 n)] S (.int .i64 n) S := Call.ofGiven (E := theE) (show givenT 45 _ _ from ⟨by simp, n, rfl, rfl⟩) S
theorem num53_given (n : Int) (S : Heap) : Call theE 53 [.ifc 133 (.int .i64 n)] S (.int .i64 n) S := Call.ofGiven (E := theE) (show givenT 53 _ _ from ⟨by simp, n, rfl, rfl⟩) S
theorem num63_given (n : Int) (S : Heap) : Call theE 63 [.ifc 133 (.int .i64 n)] S (.int .i64 n) S := Call.ofGiven (E := theE) (show givenT 63 _ _ from ⟨by simp, n, rfl, rfl⟩) S
theorem num69_given (n : Int) (S : Heap) : Call theE 69 [.ifc 133 (.int .i64 n)] S (.int .i64 n) S := Call.ofGiven (E := theE) (show givenT 69 _ _ from ⟨by simp, n, rfl, rfl⟩) S
end Go.Proofs.YtjdnmejohadlbaaDoor

/- The walking rules, in bundles. -/
set_option linter.unusedVariables false
set_option linter.defProp false
namespace Go.Proofs.YtjdnmejohadlbaaDoor
def wk0 := (And.intro (And.intro (And.intro (And.intro (And.intro (And.intro @c_seq @c_regionS) (And.intro @c_drawZ @c_ret)) (And.intro (And.intro @c_skip @c_exit) (And.intro @c_block @c_loop))) (And.intro (And.intro (And.intro @c_cond @condC_true) (And.intro @condC_false @seqC_normal)) (And.intro (And.intro @seqC_exit @seqC_ret) (And.intro @blockK_normal @blockK_exit)))) (And.intro (And.intro (And.intro (And.intro @blockK_ret @loopD_normal) (And.intro @loopD_exit @loopD_ret)) (And.intro (And.intro @regK_def @E_frz) (And.intro @frz_nil @frz_cons))) (And.intro (And.intro (And.intro @frz_lst @frz_nils) (And.intro @frz_sl @frzB_some)) (And.intro (And.intro @bB_int @bB_bool) (And.intro @bB_nili @bB_ifc))))) (And.intro (And.intro (And.intro (And.intro (And.intro @bB_nilp @bB_ptr) (And.intro @bB_eql @bB_neq)) (And.intro (And.intro @E_flat @t_seq) (And.intro @q_load @q_slice))) (And.intro (And.intro (And.intro @q_call @t_pureO) (And.intro @t_fresh @t_grow)) (And.intro (And.intro @growV_sl @Nat.lt_add_one) (And.intro @Nat.zero_lt_succ @Nat.zero_lt_one)))) (And.intro (And.intro (And.intro (And.intro @optThen_some @blkThen_some) (And.intro @s_move @s_assign)) (And.intro (And.intro @s_pick @s_alloc) (And.intro @s_box @s_build))) (And.intro (And.intro (And.intro @s_buildSlice @s_load) (And.intro @s_nilCheck @s_binOp)) (And.intro (And.intro @s_unOp @s_convert) (And.intro @s_makeInterface @s_makeFunc))))))
def wk1 := (And.intro (And.intro (And.intro (And.intro (And.intro (And.intro @s_makeSlice @s_slice) (And.intro @s_fieldAddr @s_field)) (And.intro (And.intro @s_indexAddr @s_index) (And.intro @s_extract @s_arrayAt))) (And.intro (And.intro (And.intro @p_arrayAt @s_store) (And.intro @s_builtin @s_call)) (And.intro (And.intro @someThen_some @storeThen_some) (And.intro @E_T @E_own)))) (And.intro (And.intro (And.intro (And.intro @E_keep @E_esc) (And.intro @E_ext @List.flatten_cons.{0})) (And.intro (And.intro @List.flatten_nil.{0} @List.replicate_succ.{0}) (And.intro @List.replicate_zero.{0} @mv_nils_own))) (And.intro (And.intro (And.intro @mv_nils @mv_undef) (And.intro @mv_int @mv_bool)) (And.intro (And.intro @mv_str @mv_nilp) (And.intro @mv_ptr @mv_lel))))) (And.intro (And.intro (And.intro (And.intro (And.intro @mv_sl @mv_lst) (And.intro @mv_nilf @mv_fn)) (And.intro (And.intro @mv_nili @mv_ifc) (And.intro @mv_agg @mv_tup))) (And.intro (And.intro (And.intro @ld_ptr @ld_lel) (And.intro @ia_arr_ptr @ia_arr_lel)) (And.intro (And.intro @ia_sl @ia_lst) (And.intro @ln_array @ln_nils)))) (And.intro (And.intro (And.intro (And.intro @ln_lst @ln_sl) (And.intro @ln_str @List.all_cons.{0})) (And.intro (And.intro @List.all_nil.{0} @Bool.and_true) (And.intro @Bool.true_and @Bool.and_self))) (And.intro (And.intro (And.intro @set_app @set_app0) (And.intro @blkAt_app @blkAt_app0)) (And.intro (And.intro @blkAt_zero @blkAt_succ) (And.intro @mayStore_own @mayStore_own0))))))
def wk2 := (And.intro (And.intro (And.intro (And.intro (And.intro (And.intro @mayAppend_own @mayAppend_own0) (And.intro @mayAppend_nils @mayAppend_len)) (And.intro (And.intro @mayAppend_max @mayAppend_min) (And.intro @List.map_cons.{0,0} @List.map_nil.{0,0}))) (And.intro (And.intro (And.intro @Option.map_some.{0,0} @Option.bind_some.{0,0}) (And.intro @Option.map_none.{0,0} @Option.bind_none.{0,0})) (And.intro (And.intro @Bool.false_eq_true @List.length_cons.{0}) (And.intro @List.length_nil.{0} @List.length_append.{0})))) (And.intro (And.intro (And.intro (And.intro @Nat.zero_add @Nat.add_zero) (And.intro @List.range_succ @List.range_zero)) (And.intro (And.intro @List.nil_append.{0} @List.cons_append.{0}) (And.intro @List.append_nil.{0} @List.append_assoc.{0}))) (And.intro (And.intro (And.intro @List.zip_cons_cons.{0,0} @List.zip_nil_right.{0,0}) (And.intro @List.set_cons_zero.{0} @List.set_cons_succ.{0})) (And.intro (And.intro @true_and @and_true) (And.intro @and_self @List.getElem?_cons_zero.{0}))))) (And.intro (And.intro (And.intro (And.intro (And.intro @List.getElem?_cons_succ.{0} @List.drop_zero.{0}) (And.intro @List.drop_succ_cons.{0} @List.take_succ_cons.{0})) (And.intro (And.intro @List.take_zero.{0} @List.take_nil.{0}) (And.intro @List.drop_nil.{0} @Bool.not_true))) (And.intro (And.intro (And.intro @Bool.not_false @Bool.or_true) (And.intro @Bool.true_or @Bool.or_false)) (And.intro (And.intro @Bool.false_or @decide_true) (And.intro @decide_false @not_true_eq_false)))) (And.intro (And.intro (And.intro (And.intro @not_false_eq_true @Option.getD_some.{0}) (And.intro @pureThen_some @extThen_some)) (And.intro (And.intro @extThen_none @fnThen_def) (And.intro @guardThen_true @guardThen_false))) (And.intro (And.intro (And.intro @wpSeq_nil @wpZip_nil) (And.intro @wpSeq_cons @wpZip_cons)) (And.intro (And.intro @wpSeq_guard @wpZip_guard) (And.intro @seqO_def @zipO_def))))))
def wk3 := (And.intro (And.intro (And.intro (And.intro (And.intro @guardD_zero (And.intro @guardD_succ @guardAt_some)) (And.intro @wordA_bool (And.intro @wordA_tup @retA_ret))) (And.intro (And.intro @retA_normal (And.intro @res_nil @res_cons)) (And.intro @resA_tmp (And.intro @resA_cell @p_move)))) (And.intro (And.intro (And.intro @p_assign (And.intro @p_pick @p_build)) (And.intro @p_buildSlice (And.intro @p_load @p_nilCheck))) (And.intro (And.intro @p_binOp (And.intro @p_unOp @p_convert)) (And.intro @p_makeInterface (And.intro @p_makeFunc @p_slice))))) (And.intro (And.intro (And.intro (And.intro @p_fieldAddr (And.intro @p_field @p_indexAddr)) (And.intro @p_index (And.intro @p_extract @p_builtin))) (And.intro (And.intro @p_call (And.intro @extO_fn @sameK_def)) (And.intro @List.getElem?_toArray.{0} (And.intro @castLit @Nat.min_def)))) (And.intro (And.intro (And.intro @wrapLitI (And.intro @wrapLitU @f_alloc)) (And.intro @f_box (And.intro @Bool.true_beq @Bool.false_beq))) (And.intro (And.intro @beqI (And.intro @List.size_toArray.{0} @beqT)) (And.intro (And.intro @beqF @Option.bind_eq_bind.{0}) (And.intro @Option.pure_def.{0} @bneI))))))
def wk4 := (And.intro (And.intro (And.intro (And.intro (And.intro @l_load @l_slice) (And.intro @pk_load (And.intro @pk_slice @t_mark))) (And.intro (And.intro @t_lay (And.intro @butK_def @inK_def)) (And.intro @lv_ptr (And.intro @lv_lel @lv_sl)))) (And.intro (And.intro (And.intro @lv_lst (And.intro @lv_nils @lb_look)) (And.intro @lb_peek (And.intro @tc_int @tc_nil))) (And.intro (And.intro @bc_one (And.intro @bc_nili @bc_ifc)) (And.intro @bc_lst (And.intro @drawZ_none @drawZ_some))))) (And.intro (And.intro (And.intro (And.intro @zipT_zero (And.intro @zipT_succ @zipTO_def)) (And.intro @tp_nil (And.intro @tp_twin @tp_seq))) (And.intro (And.intro @tp_pure (And.intro @tp_quiet @tp_fresh)) (And.intro @tp_grow (And.intro @tp_look @tp_mark)))) (And.intro (And.intro (And.intro @tp_peek (And.intro @tp_lay @ut_twin)) (And.intro @ut_seq (And.intro @ut_pure @ut_quiet))) (And.intro (And.intro @ut_fresh (And.intro @ut_grow @ut_look)) (And.intro @ut_mark (And.intro @ut_peek @ut_lay))))))
end Go.Proofs.YtjdnmejohadlbaaDoor

/- Unknown bools that only guard a move: what follows is looked at once. -/
set_option linter.unusedVariables false
set_option linter.unusedSimpArgs false
set_option linter.defProp false
namespace Go.Proofs.YtjdnmejohadlbaaDoor
def guardV (t c : Bool) : AV := if t then .bool c else .tup []
def moveG (t : Bool) (v : AV) (p q : Prop) (k : AV → Prop) : Prop :=
  match v with
  | .bool c => k (guardV t c)
  | _ => guardThen (some t) p q
section
variable {E : Env} {C : CallRel} {f base : Nat} {all : Array Oper} {rest : List Oper} {ts : List Tag} {fr : Fr} {H : Heap} {K : Fr → Heap → Prop} {dst : Option Nat} {ty : TypeId} {pos : String} {aft : Array Edge} {g : Option (Nat × Bool)} {x : Operand} {b w : Bool}
theorem moveG_bool {t c : Bool} {p q : Prop} {k : AV → Prop} : moveG t (.bool c) p q k = k (guardV t c) := (rfl)
@[congr] theorem moveG_look {t : Bool} {v v' : AV} {p q : Prop} {k : AV → Prop} (h : v = v') : moveG t v p q k = moveG t v' p q k := by rw [h]
theorem guard_stuck : guardThen (some (!b)) (stepA E C f base ⟨dst, .move x, ty, pos, aft, g⟩ fr H (seqO E C f base all rest dst fr K)) (wpSeq E C f base all rest (fr.put dst (.tup [])) H K) =
    moveG (!b) (fr.ev x) (stepA E C f base ⟨dst, .move x, ty, pos, aft, g⟩ fr H (seqO E C f base all rest dst fr K)) (wpSeq E C f base all rest (fr.put dst (.tup [])) H K) fun v => wpSeq E C f base all rest (fr.put dst v) H K := by
  unfold moveG
  split
  · rename_i c hc
    have h : stepA E C f base ⟨dst, .move x, ty, pos, aft, g⟩ fr H (seqO E C f base all rest dst fr K) = wpSeq E C f base all rest (fr.put dst (.bool c)) H K := by
      show someThen (moveA (ownDst E f dst) (E.kd ty) H (fr.ev x)) _ = _
      rw [hc]
      rfl
    rw [h]
    cases b
    · rfl
    · rfl
  · rfl
theorem guard_stuckP : guardThen (some b) (stepA E C f base ⟨dst, .move x, ty, pos, aft, g⟩ fr H (seqO E C f base all rest dst fr K)) (wpSeq E C f base all rest (fr.put dst (.tup [])) H K) =
    moveG b (fr.ev x) (stepA E C f base ⟨dst, .move x, ty, pos, aft, g⟩ fr H (seqO E C f base all rest dst fr K)) (wpSeq E C f base all rest (fr.put dst (.tup [])) H K) fun v => wpSeq E C f base all rest (fr.put dst v) H K := by
  unfold moveG
  split
  · rename_i c hc
    have h : stepA E C f base ⟨dst, .move x, ty, pos, aft, g⟩ fr H (seqO E C f base all rest dst fr K) = wpSeq E C f base all rest (fr.put dst (.bool c)) H K := by
      show someThen (moveA (ownDst E f dst) (E.kd ty) H (fr.ev x)) _ = _
      rw [hc]
      rfl
    rw [h]
    cases b
    · rfl
    · rfl
  · rfl
theorem pick_or {a c : Bool} : pickA (.bool a) (.bool true) (guardV (!a) c) H = some (.bool (a || c), H) := by cases a <;> rfl
theorem pick_and {a c : Bool} : pickA (.bool a) (guardV a c) (.bool false) H = some (.bool (a && c), H) := by cases a <;> rfl
theorem mv_guardV {t c own : Bool} {k : Option TK} : moveA own k H (guardV t c) = some (guardV t c, H) := by cases t <;> rfl
end
def binG (t : Bool) (v : Option AV) (p q : Prop) (k : AV → Prop) : Prop :=
  match v with
  | some (.bool c) => k (guardV t c)
  | _ => guardThen (some t) p q
theorem binG_bool {t c : Bool} {p q : Prop} {k : AV → Prop} : binG t (some (.bool c)) p q k = k (guardV t c) := (rfl)
@[congr] theorem binG_look {t : Bool} {v v' : Option AV} {p q : Prop} {k : AV → Prop} (h : v = v') : binG t v p q k = binG t v' p q k := by rw [h]
section
variable {E : Env} {C : CallRel} {f base : Nat} {all : Array Oper} {rest : List Oper} {fr : Fr} {H : Heap} {K : Fr → Heap → Prop} {dst : Option Nat} {ty t u : TypeId} {pos : String} {aft : Array Edge} {g : Option (Nat × Bool)} {x y : Operand} {b : Bool} {op : BinOp}
theorem guard_bin : guardThen (some (!b)) (stepA E C f base ⟨dst, .binOp op t x y u, ty, pos, aft, g⟩ fr H (seqO E C f base all rest dst fr K)) (wpSeq E C f base all rest (fr.put dst (.tup [])) H K) =
    binG (!b) (binB E t (isConst x || isConst y) op (fr.ev x) (fr.ev y)) (stepA E C f base ⟨dst, .binOp op t x y u, ty, pos, aft, g⟩ fr H (seqO E C f base all rest dst fr K)) (wpSeq E C f base all rest (fr.put dst (.tup [])) H K) fun v => wpSeq E C f base all rest (fr.put dst v) H K := by
  unfold binG
  split
  · rename_i c hc
    have h : stepA E C f base ⟨dst, .binOp op t x y u, ty, pos, aft, g⟩ fr H (seqO E C f base all rest dst fr K) = wpSeq E C f base all rest (fr.put dst (.bool c)) H K := by
      show someThen ((binB E t (isConst x || isConst y) op (fr.ev x) (fr.ev y)).map fun v => (v, H)) _ = _
      rw [hc]
      rfl
    rw [h]
    cases b
    · rfl
    · rfl
  · rfl
/-- Both ways end in a state of which Q is known: what follows is looked at once. -/
theorem condC_join {D : Nat → List Tag} {v : AV} {cx cy : Code} {KE : Ex → Fr → Heap → Prop} (Q : Fr → Heap → Prop) (h1 : ∀ K' : Ex → Fr → Heap → Prop, (∀ fr H, Q fr H → K' .normal fr H) → condC E C f base D v cx cy fr H K') (h2 : ∀ fr H, Q fr H → KE .normal fr H) : condC E C f base D v cx cy fr H KE := h1 KE h2
end
def gor := And.intro @guard_stuck (And.intro @moveG_bool (And.intro @pick_or (And.intro @pick_and (And.intro @mv_guardV (And.intro @guard_bin @binG_bool)))))
end Go.Proofs.YtjdnmejohadlbaaDoor
