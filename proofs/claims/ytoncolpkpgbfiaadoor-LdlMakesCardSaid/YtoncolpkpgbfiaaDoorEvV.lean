/- The seat's program, as the interpreter is told of it. -/
import Derived.Test.YtoncolpkpgbfiaaDoorEvN
import Derived.Test.YtoncolpkpgbfiaaDoorEvT
import Derived.Test.YtoncolpkpgbfiaaDoorProg
import Derived.Laws.Externs
import Derived.KernelRfl
import Derived.Test.YtoncolpkpgbfiaaDoorEvY
import Derived.Test.YtoncolpkpgbfiaaDoorAs
import Derived.Test.YtoncolpkpgbfiaaDoorEvW
set_option linter.unusedSimpArgs false
set_option linter.unusedVariables false
namespace Go.Proofs.YtoncolpkpgbfiaaDoor

theorem tyL_ok : (tyL.zipIdx.all fun p => match p.1 with | some ti => tyOk Tryd.prog p.2 ti | none => true) = true := by kernel_rfl
theorem tyT_ok (t : TypeId) (ti : TI) (h : tyT t = some ti) : tyOk Tryd.prog t ti = true := by
  unfold tyT at h
  cases hl : tyL[t]? with
  | none => simp [hl] at h
  | some o =>
    simp only [hl, Option.join_some] at h
    subst h
    have hm : (some ti, t) ∈ tyL.zipIdx := List.mem_zipIdx_iff_getElem?.2 hl
    have := List.all_eq_true.1 tyL_ok _ hm
    simpa using this

def add64A : List AV → Option AV
  | [.int .u64 x, .int .u64 y, .int .u64 c] => if 0 ≤ x ∧ 0 ≤ y ∧ 0 ≤ c ∧ c ≤ 1 then some (.tup [.int .u64 ((x + y + c) % 18446744073709551616), .int .u64 ((x + y + c) / 18446744073709551616)]) else none
  | _ => none
theorem add64A_ok {x y c : Int} (hx : 0 ≤ x) (hy : 0 ≤ y) (hc : 0 ≤ c) (hc1 : c ≤ 1) : add64A [.int .u64 x, .int .u64 y, .int .u64 c] = some (.tup [.int .u64 ((x + y + c) % 18446744073709551616), .int .u64 ((x + y + c) / 18446744073709551616)]) := by
  simp [add64A, hx, hy, hc, hc1]
def extT (f : FuncId) (args : List AV) : Option AV := if f = 115 then add64A args else none

theorem ext_ok (f : FuncId) (args : List AV) (v : AV) (h : extT f args = some v) (c : Ctx) (cargs : List Value) (w : World) (ha : LRel c args cargs) : ∃ x, (callFunc f cargs.toArray).run Tryd.prog w = .ok (.value x) w ∧ VRel c v x := by
  unfold extT at h
  split at h
  · rename_i hf
    subst hf
    unfold add64A at h
    split at h
    · rename_i x y k
      split at h
      · rename_i hc
        cases h
        obtain ⟨x', r, rfl, hx, hr⟩ := ha.head
        obtain ⟨y', r', rfl, hy, hr'⟩ := hr.head
        obtain ⟨k', r'', rfl, hk, hr''⟩ := hr'.head
        have hr0 : r'' = [] := List.eq_nil_of_length_eq_zero (by simpa using hr''.1.symm)
        subst hr0
        obtain rfl := hx.inv_int; obtain rfl := hy.inv_int; obtain rfl := hk.inv_int
        refine ⟨_, ?_, VRel.tup' (l' := [.int .u64 ((x + y + k) % 18446744073709551616), .int .u64 ((x + y + k) / 18446744073709551616)]) (.cons (.int _ _) (.cons (.int _ _) .nil))⟩
        rw [run_callFunc_extern Tryd.func115 (by kernel_rfl) (by kernel_rfl) (by kernel_rfl) (e := add64Entry) (by kernel_rfl)]
        rw [run_add64 x y k hc.1 hc.2.1 hc.2.2.1 hc.2.2.2]
        rfl
      · cases h
    · cases h
  · cases h

/-- Whose empty slices grow; which temporaries live behind a region; whose results stay where they are. -/
def ownT (f d : Nat) : Bool :=
  if f = 44 ∧ d = 4 then true else
  if f = 83 ∧ d = 5 then true else
  if f = 84 ∧ d = 5 then true else
  if f = 19 ∧ d = 11 then true else
  if f = 19 ∧ d = 12 then true else
  if f = 11 ∧ d = 5 then true else
  if f = 11 ∧ d = 7 then true else
  if f = 17 ∧ d = 5 then true else
  false
def frzT (f id : Nat) : List Nat :=
  if f = 11 ∧ id = 19 then [7] else
  if f = 17 ∧ id = 12 then [5] else
  []
def flatT (t : Nat) : Option Nat :=
  if t = 22 then some 2 else
  if t = 23 then some 2 else
  if t = 25 then some 3 else
  if t = 26 then some 3 else
  if t = 27 then some 5 else
  if t = 28 then some 5 else
  if t = 33 then some 2 else
  if t = 34 then some 3 else
  if t = 44 then some 36 else
  if t = 45 then some 6 else
  if t = 46 then some 43 else
  if t = 47 then some 43 else
  if t = 50 then some 38 else
  if t = 51 then some 38 else
  if t = 63 then some 3 else
  if t = 64 then some 3 else
  if t = 67 then some 3 else
  if t = 116 then some 3 else
  if t = 117 then some 2 else
  if t = 159 then some 2 else
  if t = 160 then some 2 else
  if t = 161 then some 2 else
  if t = 162 then some 40 else
  if t = 165 then some 3 else
  if t = 166 then some 3 else
  none
def flatL : List (Nat × Nat) := [(22, 2), (23, 2), (25, 3), (26, 3), (27, 5), (28, 5), (33, 2), (34, 3), (44, 36), (45, 6), (46, 43), (47, 43), (50, 38), (51, 38), (63, 3), (64, 3), (67, 3), (116, 3), (117, 2), (159, 2), (160, 2), (161, 2), (162, 40), (165, 3), (166, 3)]
theorem flatL_ok : (flatL.all fun p => flatAt Tryd.prog p.1 p.2) = true := by kernel_rfl
theorem flatT_mem (t n : Nat) (h : flatT t = some n) : (t, n) ∈ flatL := by
  unfold flatT at h
  by_cases e22 : t = 22
  · rw [if_pos e22] at h; cases h; rw [e22]; simp [flatL]
  rw [if_neg e22] at h
  by_cases e23 : t = 23
  · rw [if_pos e23] at h; cases h; rw [e23]; simp [flatL]
  rw [if_neg e23] at h
  by_cases e25 : t = 25
  · rw [if_pos e25] at h; cases h; rw [e25]; simp [flatL]
  rw [if_neg e25] at h
  by_cases e26 : t = 26
  · rw [if_pos e26] at h; cases h; rw [e26]; simp [flatL]
  rw [if_neg e26] at h
  by_cases e27 : t = 27
  · rw [if_pos e27] at h; cases h; rw [e27]; simp [flatL]
  rw [if_neg e27] at h
  by_cases e28 : t = 28
  · rw [if_pos e28] at h; cases h; rw [e28]; simp [flatL]
  rw [if_neg e28] at h
  by_cases e33 : t = 33
  · rw [if_pos e33] at h; cases h; rw [e33]; simp [flatL]
  rw [if_neg e33] at h
  by_cases e34 : t = 34
  · rw [if_pos e34] at h; cases h; rw [e34]; simp [flatL]
  rw [if_neg e34] at h
  by_cases e44 : t = 44
  · rw [if_pos e44] at h; cases h; rw [e44]; simp [flatL]
  rw [if_neg e44] at h
  by_cases e45 : t = 45
  · rw [if_pos e45] at h; cases h; rw [e45]; simp [flatL]
  rw [if_neg e45] at h
  by_cases e46 : t = 46
  · rw [if_pos e46] at h; cases h; rw [e46]; simp [flatL]
  rw [if_neg e46] at h
  by_cases e47 : t = 47
  · rw [if_pos e47] at h; cases h; rw [e47]; simp [flatL]
  rw [if_neg e47] at h
  by_cases e50 : t = 50
  · rw [if_pos e50] at h; cases h; rw [e50]; simp [flatL]
  rw [if_neg e50] at h
  by_cases e51 : t = 51
  · rw [if_pos e51] at h; cases h; rw [e51]; simp [flatL]
  rw [if_neg e51] at h
  by_cases e63 : t = 63
  · rw [if_pos e63] at h; cases h; rw [e63]; simp [flatL]
  rw [if_neg e63] at h
  by_cases e64 : t = 64
  · rw [if_pos e64] at h; cases h; rw [e64]; simp [flatL]
  rw [if_neg e64] at h
  by_cases e67 : t = 67
  · rw [if_pos e67] at h; cases h; rw [e67]; simp [flatL]
  rw [if_neg e67] at h
  by_cases e116 : t = 116
  · rw [if_pos e116] at h; cases h; rw [e116]; simp [flatL]
  rw [if_neg e116] at h
  by_cases e117 : t = 117
  · rw [if_pos e117] at h; cases h; rw [e117]; simp [flatL]
  rw [if_neg e117] at h
  by_cases e159 : t = 159
  · rw [if_pos e159] at h; cases h; rw [e159]; simp [flatL]
  rw [if_neg e159] at h
  by_cases e160 : t = 160
  · rw [if_pos e160] at h; cases h; rw [e160]; simp [flatL]
  rw [if_neg e160] at h
  by_cases e161 : t = 161
  · rw [if_pos e161] at h; cases h; rw [e161]; simp [flatL]
  rw [if_neg e161] at h
  by_cases e162 : t = 162
  · rw [if_pos e162] at h; cases h; rw [e162]; simp [flatL]
  rw [if_neg e162] at h
  by_cases e165 : t = 165
  · rw [if_pos e165] at h; cases h; rw [e165]; simp [flatL]
  rw [if_neg e165] at h
  by_cases e166 : t = 166
  · rw [if_pos e166] at h; cases h; rw [e166]; simp [flatL]
  rw [if_neg e166] at h
  cases h
theorem flatT_ok (t n : Nat) (h : flatT t = some n) : flatAt Tryd.prog t n = true := by
  have := List.all_eq_true.1 flatL_ok _ (flatT_mem t n h)
  simpa using this
def keep4 : Nat → Option (List Nat)
  | 0 => some [2, 3]
  | 1 => some [2, 3, 5, 6, 7]
  | 2 => some [2, 3, 5, 6, 7, 8]
  | 3 => some [2, 3, 5, 6, 7, 8]
  | 4 => some [3, 5, 6, 7, 9, 10, 11]
  | 5 => some [3, 5, 6, 7, 9, 10, 11, 37]
  | 6 => some [4]
  | 7 => some [3, 5, 9, 52]
  | 8 => some [4]
  | 9 => some [5, 9, 12]
  | 10 => some [4]
  | _ => none
def keep3 : Nat → Option (List Nat)
  | 0 => some [2, 3, 4]
  | 1 => some [2, 3, 4, 7, 8, 9]
  | 2 => some [2, 3, 4, 7, 9, 30]
  | 3 => some [6]
  | 4 => some [2, 3, 4, 7, 10, 11, 12]
  | 5 => some [2, 3, 4, 7, 10, 11, 68]
  | 6 => some [6]
  | 7 => some [2, 3, 4, 7, 10, 11, 13]
  | 8 => some [2, 3, 4, 10, 11, 13, 14]
  | 9 => some [2, 3, 4, 11, 13, 14, 89]
  | 10 => some [6]
  | 11 => some [2, 3, 11, 13, 14, 15]
  | 12 => some [2, 3, 11, 13, 14, 15, 100]
  | 13 => some [3, 11, 13, 14, 15]
  | 14 => some [11, 13, 14, 17, 18]
  | 15 => some [6]
  | _ => none
def keep5 : Nat → Option (List Nat)
  | 0 => some [0, 1, 2]
  | 1 => some [2, 7]
  | 2 => some [2, 7, 8, 9]
  | 3 => some [2, 7, 8, 9, 36]
  | 4 => some [6]
  | 5 => some [2, 7, 8, 59]
  | 6 => some [6]
  | 7 => some [2, 7, 8, 10, 11]
  | 8 => some [2, 7, 8, 10, 11, 12]
  | 9 => some [2, 7, 8, 10, 11, 12, 13]
  | 10 => some [2, 7, 8, 10, 11, 12, 13, 78]
  | 11 => some [2, 7, 8, 10, 11, 12, 13]
  | 12 => some [2, 7, 8, 10, 11, 12, 13]
  | 13 => some [2, 7, 8, 10, 11, 12, 13]
  | 14 => some [8, 10, 11, 14, 16]
  | 15 => some [8, 10, 14, 16, 17, 19]
  | 16 => some [8, 10, 14, 16, 17, 19, 20, 21, 22]
  | 17 => some [10, 14, 16, 17, 19, 20, 21, 22, 23, 24, 25]
  | 18 => some [6]
  | _ => none
def keep6 : Nat → Option (List Nat)
  | 0 => some [1, 2, 3]
  | 1 => some [1, 2, 3, 7, 8, 9]
  | 2 => some [1, 2, 3, 7, 8, 9, 46]
  | 3 => some [6]
  | 4 => some [1, 2, 3, 7, 8, 10, 11]
  | 5 => some [1, 2, 3, 7, 8, 10, 11, 12]
  | 6 => some [1, 2, 3, 7, 8, 10, 11, 12, 66]
  | 7 => some [1, 3, 7, 8, 10, 11, 12]
  | 8 => some [1, 3, 7, 8, 10, 11, 13, 15]
  | 9 => some [1, 3, 7, 8, 10, 11, 13, 15, 16, 18]
  | 10 => some [1, 3, 7, 8, 13, 16, 100]
  | 11 => some [6]
  | 12 => some [1, 3, 7, 8, 13, 16, 19]
  | 13 => some [1, 3, 7, 8, 13, 16, 19, 102]
  | 14 => some [1, 3, 7, 8, 13, 16, 19]
  | 15 => some [1, 3, 7, 8, 13, 16, 19, 127]
  | 16 => some [6]
  | 17 => some [1, 3, 20, 22]
  | 18 => some [1, 3, 142]
  | 19 => some [6]
  | 20 => some [1, 3, 145]
  | 21 => some [6]
  | 22 => some [1, 23, 24]
  | 23 => some [1, 23, 24]
  | 24 => some [1, 24, 25, 27]
  | 25 => some [25, 27, 28, 30]
  | 26 => some [27, 30, 31, 32, 33]
  | 27 => some [31, 32, 183]
  | 28 => some [6]
  | 29 => some [31, 32, 34]
  | 30 => some [31, 32, 34, 189]
  | 31 => some [31, 32, 34]
  | 32 => some [31, 32, 34, 35]
  | 33 => some [31, 32, 34, 35, 193]
  | 34 => some [31, 32, 34, 35]
  | 35 => some [31, 32, 34, 35, 36]
  | 36 => some [31, 32, 34, 35, 36, 209]
  | 37 => some [31, 32, 34, 35, 36]
  | 38 => some [31, 32, 34, 35, 217]
  | 39 => some [6]
  | 40 => some [6]
  | _ => none
def keepT (f id : Nat) : Option (List Nat) :=
  if f = 4 then keep4 id else
  if f = 3 then keep3 id else
  if f = 5 then keep5 id else
  if f = 6 then keep6 id else
  none
def escT (f : Nat) : Bool :=
  if f = 50 then true else
  false

def givenT (f : FuncId) (args : List AV) (v : AV) : Prop := (f = 8 ∨ f = 14 ∨ f = 23) ∧ ∃ n : Int, args = [.ifc 75 (.int .i64 n)] ∧ v = .int .i64 n
noncomputable def theE : Env := { P := Tryd.prog, T := tyT, own := ownT, keep := keepT, escapes := escT, ext := extT, given := givenT, frz := frzT, flat := flatT }
theorem E_T (t : Nat) : theE.T t = tyT t := (rfl)
theorem E_P : theE.P = Tryd.prog := (rfl)
theorem E_own (f d : Nat) : theE.own f d = ownT f d := (rfl)
theorem E_keep (f d : Nat) : theE.keep f d = keepT f d := (rfl)
theorem E_frz (f d : Nat) : theE.frz f d = frzT f d := (rfl)
theorem E_flat (t : Nat) : theE.flat t = flatT t := (rfl)
theorem E_esc (f : Nat) : theE.escapes f = escT f := (rfl)
theorem E_ext (f : Nat) (l : List AV) : theE.ext f l = extT f l := (rfl)
theorem theE_ok : EnvOk theE := ⟨tyT_ok, ext_ok, by kernel_rfl, flatT_ok⟩
theorem theE_given : ∀ f args v, theE.given f args v → ∀ H, CallOk theE f args H v H := by
  rintro f args v ⟨hf, n, rfl, rfl⟩ H
  rcases hf with rfl | rfl | rfl
  · exact CallOk.num (E := theE) Tryd.func8 (by kernel_rfl) (by kernel_rfl) rfl AsC.num8_hit n H
  · exact CallOk.num (E := theE) Tryd.func14 (by kernel_rfl) (by kernel_rfl) rfl AsC.num14_hit n H
  · exact CallOk.num (E := theE) Tryd.func23 (by kernel_rfl) (by kernel_rfl) rfl AsC.num23_hit n H
theorem num8_given (n : Int) (S : Heap) : Call theE 8 [.ifc 75 (.int .i64 n)] S (.int .i64 n) S := Call.ofGiven (E := theE) (show givenT 8 _ _ from ⟨by simp, n, rfl, rfl⟩) S
theorem num14_given (n : Int) (S : Heap) : Call theE 14 [.ifc 75 (.int .i64 n)] S (.int .i64 n) S := Call.ofGiven (E := theE) (show givenT 14 _ _ from ⟨by simp, n, rfl, rfl⟩) S
theorem num23_given (n : Int) (S : Heap) : Call theE 23 [.ifc 75 (.int .i64 n)] S (.int .i64 n) S := Call.ofGiven (E := theE) (show givenT 23 _ _ from ⟨by simp, n, rfl, rfl⟩) S
end Go.Proofs.YtoncolpkpgbfiaaDoor

/- The walking rules, in bundles. -/
set_option linter.unusedVariables false
set_option linter.defProp false
namespace Go.Proofs.YtoncolpkpgbfiaaDoor
def wk0 := (And.intro (And.intro (And.intro (And.intro (And.intro (And.intro @c_seq @c_regionS) (And.intro @c_drawZ @c_ret)) (And.intro (And.intro @c_skip @c_exit) (And.intro @c_block @c_loop))) (And.intro (And.intro (And.intro @c_cond @condC_true) (And.intro @condC_false @seqC_normal)) (And.intro (And.intro @seqC_exit @seqC_ret) (And.intro @blockK_normal @blockK_exit)))) (And.intro (And.intro (And.intro (And.intro @blockK_ret @loopD_normal) (And.intro @loopD_exit @loopD_ret)) (And.intro (And.intro @regK_def @E_frz) (And.intro @frz_nil @frz_cons))) (And.intro (And.intro (And.intro @frz_lst @frz_nils) (And.intro @frz_sl @frzB_some)) (And.intro (And.intro @bB_int @bB_bool) (And.intro @bB_nili @bB_ifc))))) (And.intro (And.intro (And.intro (And.intro (And.intro @bB_nilp @bB_ptr) (And.intro @bB_eql @bB_neq)) (And.intro (And.intro @E_flat @t_seq) (And.intro @q_load @q_slice))) (And.intro (And.intro (And.intro @q_call @t_pureO) (And.intro @t_fresh @t_grow)) (And.intro (And.intro @growV_sl @Nat.lt_add_one) (And.intro @Nat.zero_lt_succ @Nat.zero_lt_one)))) (And.intro (And.intro (And.intro (And.intro @optThen_some @blkThen_some) (And.intro @s_move @s_assign)) (And.intro (And.intro @s_pick @s_alloc) (And.intro @s_box @s_build))) (And.intro (And.intro (And.intro @s_buildSlice @s_load) (And.intro @s_nilCheck @s_binOp)) (And.intro (And.intro @s_unOp @s_convert) (And.intro @s_makeInterface @s_makeFunc))))))
def wk1 := (And.intro (And.intro (And.intro (And.intro (And.intro (And.intro @s_makeSlice @s_slice) (And.intro @s_fieldAddr @s_field)) (And.intro (And.intro @s_indexAddr @s_index) (And.intro @s_extract @s_arrayAt))) (And.intro (And.intro (And.intro @p_arrayAt @s_store) (And.intro @s_builtin @s_call)) (And.intro (And.intro @someThen_some @storeThen_some) (And.intro @E_T @E_own)))) (And.intro (And.intro (And.intro (And.intro @E_keep @E_esc) (And.intro @E_ext @List.flatten_cons.{0})) (And.intro (And.intro @List.flatten_nil.{0} @List.replicate_succ.{0}) (And.intro @List.replicate_zero.{0} @mv_nils_own))) (And.intro (And.intro (And.intro @mv_nils @mv_undef) (And.intro @mv_int @mv_bool)) (And.intro (And.intro @mv_str @mv_nilp) (And.intro @mv_ptr @mv_lel))))) (And.intro (And.intro (And.intro (And.intro (And.intro @mv_sl @mv_lst) (And.intro @mv_nilf @mv_fn)) (And.intro (And.intro @mv_nili @mv_ifc) (And.intro @mv_agg @mv_tup))) (And.intro (And.intro (And.intro @ld_ptr @ld_lel) (And.intro @ia_arr_ptr @ia_arr_lel)) (And.intro (And.intro @ia_sl @ia_lst) (And.intro @ln_array @ln_nils)))) (And.intro (And.intro (And.intro (And.intro @ln_lst @ln_sl) (And.intro @ln_str @List.all_cons.{0})) (And.intro (And.intro @List.all_nil.{0} @Bool.and_true) (And.intro @Bool.true_and @Bool.and_self))) (And.intro (And.intro (And.intro @set_app @set_app0) (And.intro @blkAt_app @blkAt_app0)) (And.intro (And.intro @blkAt_zero @blkAt_succ) (And.intro @mayStore_own @mayStore_own0))))))
def wk2 := (And.intro (And.intro (And.intro (And.intro (And.intro (And.intro @mayAppend_own @mayAppend_own0) (And.intro @mayAppend_nils @mayAppend_len)) (And.intro (And.intro @mayAppend_max @mayAppend_min) (And.intro @List.map_cons.{0,0} @List.map_nil.{0,0}))) (And.intro (And.intro (And.intro @Option.map_some.{0,0} @Option.bind_some.{0,0}) (And.intro @Option.map_none.{0,0} @Option.bind_none.{0,0})) (And.intro (And.intro @Bool.false_eq_true @List.length_cons.{0}) (And.intro @List.length_nil.{0} @List.length_append.{0})))) (And.intro (And.intro (And.intro (And.intro @Nat.zero_add @Nat.add_zero) (And.intro @List.range_succ @List.range_zero)) (And.intro (And.intro @List.nil_append.{0} @List.cons_append.{0}) (And.intro @List.append_nil.{0} @List.append_assoc.{0}))) (And.intro (And.intro (And.intro @List.zip_cons_cons.{0,0} @List.zip_nil_right.{0,0}) (And.intro @List.set_cons_zero.{0} @List.set_cons_succ.{0})) (And.intro (And.intro @true_and @and_true) (And.intro @and_self @List.getElem?_cons_zero.{0}))))) (And.intro (And.intro (And.intro (And.intro (And.intro @List.getElem?_cons_succ.{0} @List.drop_zero.{0}) (And.intro @List.drop_succ_cons.{0} @List.take_succ_cons.{0})) (And.intro (And.intro @List.take_zero.{0} @List.take_nil.{0}) (And.intro @List.drop_nil.{0} @Bool.not_true))) (And.intro (And.intro (And.intro @Bool.not_false @Bool.or_true) (And.intro @Bool.true_or @Bool.or_false)) (And.intro (And.intro @Bool.false_or @decide_true) (And.intro @decide_false @not_true_eq_false)))) (And.intro (And.intro (And.intro (And.intro @not_false_eq_true @Option.getD_some.{0}) (And.intro @pureThen_some @extThen_some)) (And.intro (And.intro @extThen_none @fnThen_def) (And.intro @guardThen_true @guardThen_false))) (And.intro (And.intro (And.intro @wpSeq_nil @wpZip_nil) (And.intro @wpSeq_cons @wpZip_cons)) (And.intro (And.intro @wpSeq_guard @wpZip_guard) (And.intro @seqO_def @zipO_def))))))
def wk3 := (And.intro (And.intro (And.intro (And.intro (And.intro @guardD_zero (And.intro @guardD_succ @guardAt_some)) (And.intro @wordA_bool (And.intro @wordA_tup @retA_ret))) (And.intro (And.intro @retA_normal (And.intro @res_nil @res_cons)) (And.intro @resA_tmp (And.intro @resA_cell @p_move)))) (And.intro (And.intro (And.intro @p_assign (And.intro @p_pick @p_build)) (And.intro @p_buildSlice (And.intro @p_load @p_nilCheck))) (And.intro (And.intro @p_binOp (And.intro @p_unOp @p_convert)) (And.intro @p_makeInterface (And.intro @p_makeFunc @p_slice))))) (And.intro (And.intro (And.intro (And.intro @p_fieldAddr (And.intro @p_field @p_indexAddr)) (And.intro @p_index (And.intro @p_extract @p_builtin))) (And.intro (And.intro @p_call (And.intro @extO_fn @sameK_def)) (And.intro @List.getElem?_toArray.{0} (And.intro @castLit @Nat.min_def)))) (And.intro (And.intro (And.intro @wrapLitI (And.intro @wrapLitU @f_alloc)) (And.intro (And.intro @f_box @f_app) (And.intro @Bool.true_beq @Bool.false_beq))) (And.intro (And.intro @beqI (And.intro @List.size_toArray.{0} @beqT)) (And.intro (And.intro @beqF @Option.bind_eq_bind.{0}) (And.intro @Option.pure_def.{0} @bneI))))))
def wk4 := And.intro ((And.intro (And.intro (And.intro (And.intro (And.intro @l_load @l_slice) (And.intro @pk_load (And.intro @pk_slice @k_call))) (And.intro (And.intro @t_lay (And.intro @butK_def @inK_def)) (And.intro @lv_ptr (And.intro @lv_lel @lv_sl)))) (And.intro (And.intro (And.intro @lv_lst (And.intro @lv_nils @lb_look)) (And.intro @lb_peek (And.intro @tc_int @tc_nil))) (And.intro (And.intro @bc_one (And.intro @bc_nili @bc_ifc)) (And.intro @bc_lst (And.intro @drawZ_none @drawZ_some))))) (And.intro (And.intro (And.intro (And.intro @zipR_twin (And.intro @zipR_pure @zipRO_def)) (And.intro @tp_nil (And.intro @tp_twin @tp_seq))) (And.intro (And.intro @tp_pure (And.intro @tp_quiet @tp_fresh)) (And.intro @tp_grow (And.intro @tp_look @tp_mark)))) (And.intro (And.intro (And.intro @tp_peek (And.intro @tp_lay @ut_twin)) (And.intro @ut_seq (And.intro @ut_pure @ut_quiet))) (And.intro (And.intro @ut_fresh (And.intro @ut_grow @ut_look)) (And.intro @ut_mark (And.intro @ut_peek @ut_lay))))))) (And.intro @t_app (And.intro @growV_nils (And.intro @tp_app @ut_app)))
def wk5 := (And.intro (And.intro (And.intro (And.intro (And.intro (And.intro (And.intro @keepA.eq_1 @keepT.eq_1) (And.intro @Fr.keep.eq_1 @frzT.eq_1)) (And.intro (And.intro @flatT.eq_1 @arrayAtA.eq_1) (And.intro @arrayAtA.eq_2 (And.intro @arrayAtA.eq_3 @ownT.eq_1)))) (And.intro (And.intro (And.intro @extT.eq_1 @initFr.eq_1) (And.intro @buildSliceA.eq_1 (And.intro @buildSliceA.eq_2 @zeros.eq_1))) (And.intro (And.intro @ownDst.eq_1 @ownDst.eq_2) (And.intro @Env.kd.eq_1 (And.intro @ofConst.eq_1 @ofConst.eq_2))))) (And.intro (And.intro (And.intro (And.intro @ofConst.eq_3 @ofConst.eq_4) (And.intro @ofConst.eq_5 @ofConst.eq_6)) (And.intro (And.intro @ofConst.eq_7 @ofConst.eq_8) (And.intro @ofConst.eq_9 (And.intro @isConst.eq_1 @isConst.eq_2)))) (And.intro (And.intro (And.intro @binA.eq_1 @binA.eq_2) (And.intro @binA.eq_3 (And.intro @binA.eq_4 @binA.eq_5))) (And.intro (And.intro @binA.eq_6 @intI.eq_1) (And.intro @intI.eq_2 (And.intro @intI.eq_3 @intI.eq_4)))))) (And.intro (And.intro (And.intro (And.intro (And.intro @intI.eq_5 @intI.eq_6) (And.intro @intI.eq_7 @intI.eq_8)) (And.intro (And.intro @intI.eq_9 @intI.eq_10) (And.intro @intI.eq_11 (And.intro @intI.eq_12 @cmpI.eq_1)))) (And.intro (And.intro (And.intro @cmpI.eq_2 @cmpI.eq_3) (And.intro @cmpI.eq_4 (And.intro @cmpI.eq_5 @cmpI.eq_6))) (And.intro (And.intro @cmpI.eq_7 @shiftI.eq_1) (And.intro @shiftI.eq_2 (And.intro @shiftI.eq_3 @convertA.eq_1))))) (And.intro (And.intro (And.intro (And.intro @convertA.eq_2 @buildA.eq_1) (And.intro @fillA.eq_1 @fillA.eq_2)) (And.intro (And.intro @fillS.eq_1 @fillS.eq_2) (And.intro @splice.eq_1 (And.intro @splice.eq_2 @AV.cells?.eq_1)))) (And.intro (And.intro (And.intro @AV.cells?.eq_2 @AV.cells?.eq_3) (And.intro @AV.cells?.eq_4 (And.intro @readAt.eq_1 @fieldAddrA.eq_1))) (And.intro (And.intro @fieldAddrA.eq_2 @fieldAddrA.eq_3) (And.intro @fieldA.eq_1 (And.intro @fieldA.eq_2 @indexA.eq_1))))))) (And.intro (And.intro (And.intro (And.intro (And.intro (And.intro @indexA.eq_2 @indexA.eq_3) (And.intro @extractA.eq_1 @extractA.eq_2)) (And.intro (And.intro @unA.eq_1 @unA.eq_2) (And.intro @unA.eq_3 (And.intro @unA.eq_4 @builtinA.eq_1)))) (And.intro (And.intro (And.intro @builtinA.eq_2 @builtinA.eq_3) (And.intro @builtinA.eq_4 (And.intro @builtinA.eq_5 @builtinA.eq_6))) (And.intro (And.intro @builtinA.eq_7 @builtinA.eq_8) (And.intro @appendA.eq_1 (And.intro @appendA.eq_2 @lenA.eq_1))))) (And.intro (And.intro (And.intro (And.intro @lenA.eq_2 @lenA.eq_3) (And.intro @lenA.eq_4 @lenA.eq_5)) (And.intro (And.intro @sliceCells.eq_1 @sliceCells.eq_2) (And.intro @sliceCells.eq_3 (And.intro @sliceCells.eq_4 @isSliceK.eq_1)))) (And.intro (And.intro (And.intro @isSliceK.eq_2 @makeInterfaceA.eq_1) (And.intro @makeInterfaceA.eq_2 (And.intro @makeInterfaceA.eq_3 @makeInterfaceA.eq_4))) (And.intro (And.intro @nilCheckA.eq_1 @nilCheckA.eq_2) (And.intro @nilCheckA.eq_3 (And.intro @nilCheckA.eq_4 @eqA.eq_1)))))) (And.intro (And.intro (And.intro (And.intro (And.intro @eqA.eq_2 @eqA.eq_3) (And.intro @eqA.eq_4 @eqA.eq_5)) (And.intro (And.intro @eqA.eq_6 @eqA.eq_7) (And.intro @eqA.eq_8 (And.intro @eqA.eq_9 @eqA.eq_10)))) (And.intro (And.intro (And.intro @eqA.eq_11 @eqA.eq_12) (And.intro @eqA.eq_13 (And.intro @eqA.eq_14 @eqA.eq_15))) (And.intro (And.intro @eqA.eq_16 @eqA.eq_17) (And.intro @eqA.eq_18 (And.intro @eqA.eq_19 @eqA.eq_20))))) (And.intro (And.intro (And.intro (And.intro @eqA.eq_21 @eqA.eq_22) (And.intro @eqA.eq_23 (And.intro @AV.one.eq_1 @AV.one.eq_2))) (And.intro (And.intro @AV.one.eq_3 @AV.one.eq_4) (And.intro @AV.plain.eq_1 (And.intro @AV.plain.eq_2 @AV.plain.eq_3)))) (And.intro (And.intro (And.intro @AV.plain.eq_4 @AV.plain.eq_5) (And.intro @AV.plain.eq_6 (And.intro @AV.plain.eq_7 @AV.plain.eq_8))) (And.intro (And.intro @AV.plain.eq_9 @AV.plain.eq_10) (And.intro @AV.plain.eq_11 (And.intro @AV.plain.eq_12 @escT.eq_1))))))))
def wk6 := (And.intro (And.intro (And.intro @if_false.{1} (And.intro @if_true.{1} @ne_eq.{1})) (And.intro @BEq.rfl.{0} (And.intro @beq_self_eq_true.{0} @cond_true.{1}))) (And.intro (And.intro @cond_false.{1} (And.intro @gt_iff_lt.{0} @ge_iff_le.{0})) (And.intro @pkB (And.intro @pkT (And.intro (And.intro (And.intro @zipR_quiet @zipR_seq) (And.intro @zipR_hold @zipR_fork)) (And.intro @f_make @pkF))))))
end Go.Proofs.YtoncolpkpgbfiaaDoor

/- Unknown bools that only guard a move: what follows is looked at once. -/
set_option linter.unusedVariables false
set_option linter.unusedSimpArgs false
set_option linter.defProp false
namespace Go.Proofs.YtoncolpkpgbfiaaDoor
def guardV (t c : Bool) : AV := if t then .bool c else .tup []
def moveG (t : Bool) (v : AV) (p q : Prop) (k : AV → Prop) : Prop :=
  match v with
  | .bool c => k (guardV t c)
  | _ => guardThen (some t) p q
section
variable {E : Env} {C : CallRel} {f base : Nat} {all : Array Oper} {rest : List Oper} {ts : List Tag} {fr : Fr} {H : Heap} {K : Fr → Heap → Prop} {dst : Option Nat} {ty : TypeId} {pos : String} {aft : Array Edge} {g : Option (Nat × Bool)} {x : Operand} {b w : Bool}
theorem moveG_bool {t c : Bool} {p q : Prop} {k : AV → Prop} : moveG t (.bool c) p q k = k (guardV t c) := (rfl)
@[congr] theorem moveG_look {t : Bool} {v v' : AV} {p q : Prop} {k : AV → Prop} (h : v = v') : moveG t v p q k = moveG t v' p q k := by rw [h]
theorem guard_stuck : guardThen (some (!b)) (stepA E C f base ⟨dst, .move x, ty, pos, aft, g⟩ fr H (seqO E C f base all rest dst fr K)) (wpSeq E C f base all rest (fr.put dst (.tup [])) H K) =
    moveG (!b) (fr.ev x) (stepA E C f base ⟨dst, .move x, ty, pos, aft, g⟩ fr H (seqO E C f base all rest dst fr K)) (wpSeq E C f base all rest (fr.put dst (.tup [])) H K) fun v => wpSeq E C f base all rest (fr.put dst v) H K := by
  unfold moveG
  split
  · rename_i c hc
    have h : stepA E C f base ⟨dst, .move x, ty, pos, aft, g⟩ fr H (seqO E C f base all rest dst fr K) = wpSeq E C f base all rest (fr.put dst (.bool c)) H K := by
      show someThen (moveA (ownDst E f dst) (E.kd ty) H (fr.ev x)) _ = _
      rw [hc]
      rfl
    rw [h]
    cases b
    · rfl
    · rfl
  · rfl
theorem guard_stuckP : guardThen (some b) (stepA E C f base ⟨dst, .move x, ty, pos, aft, g⟩ fr H (seqO E C f base all rest dst fr K)) (wpSeq E C f base all rest (fr.put dst (.tup [])) H K) =
    moveG b (fr.ev x) (stepA E C f base ⟨dst, .move x, ty, pos, aft, g⟩ fr H (seqO E C f base all rest dst fr K)) (wpSeq E C f base all rest (fr.put dst (.tup [])) H K) fun v => wpSeq E C f base all rest (fr.put dst v) H K := by
  unfold moveG
  split
  · rename_i c hc
    have h : stepA E C f base ⟨dst, .move x, ty, pos, aft, g⟩ fr H (seqO E C f base all rest dst fr K) = wpSeq E C f base all rest (fr.put dst (.bool c)) H K := by
      show someThen (moveA (ownDst E f dst) (E.kd ty) H (fr.ev x)) _ = _
      rw [hc]
      rfl
    rw [h]
    cases b
    · rfl
    · rfl
  · rfl
theorem pick_or {a c : Bool} : pickA (.bool a) (.bool true) (guardV (!a) c) H = some (.bool (a || c), H) := by cases a <;> rfl
theorem pick_and {a c : Bool} : pickA (.bool a) (guardV a c) (.bool false) H = some (.bool (a && c), H) := by cases a <;> rfl
theorem mv_guardV {t c own : Bool} {k : Option TK} : moveA own k H (guardV t c) = some (guardV t c, H) := by cases t <;> rfl
end
def binG (t : Bool) (v : Option AV) (p q : Prop) (k : AV → Prop) : Prop :=
  match v with
  | some (.bool c) => k (guardV t c)
  | _ => guardThen (some t) p q
theorem binG_bool {t c : Bool} {p q : Prop} {k : AV → Prop} : binG t (some (.bool c)) p q k = k (guardV t c) := (rfl)
@[congr] theorem binG_look {t : Bool} {v v' : Option AV} {p q : Prop} {k : AV → Prop} (h : v = v') : binG t v p q k = binG t v' p q k := by rw [h]
section
variable {E : Env} {C : CallRel} {f base : Nat} {all : Array Oper} {rest : List Oper} {fr : Fr} {H : Heap} {K : Fr → Heap → Prop} {dst : Option Nat} {ty t u : TypeId} {pos : String} {aft : Array Edge} {g : Option (Nat × Bool)} {x y : Operand} {b : Bool} {op : BinOp}
theorem guard_bin : guardThen (some (!b)) (stepA E C f base ⟨dst, .binOp op t x y u, ty, pos, aft, g⟩ fr H (seqO E C f base all rest dst fr K)) (wpSeq E C f base all rest (fr.put dst (.tup [])) H K) =
    binG (!b) (binB E t (isConst x || isConst y) op (fr.ev x) (fr.ev y)) (stepA E C f base ⟨dst, .binOp op t x y u, ty, pos, aft, g⟩ fr H (seqO E C f base all rest dst fr K)) (wpSeq E C f base all rest (fr.put dst (.tup [])) H K) fun v => wpSeq E C f base all rest (fr.put dst v) H K := by
  unfold binG
  split
  · rename_i c hc
    have h : stepA E C f base ⟨dst, .binOp op t x y u, ty, pos, aft, g⟩ fr H (seqO E C f base all rest dst fr K) = wpSeq E C f base all rest (fr.put dst (.bool c)) H K := by
      show someThen ((binB E t (isConst x || isConst y) op (fr.ev x) (fr.ev y)).map fun v => (v, H)) _ = _
      rw [hc]
      rfl
    rw [h]
    cases b
    · rfl
    · rfl
  · rfl
/-- Both ways end in a state of which Q is known: what follows is looked at once. -/
theorem condC_join {D : Nat → List Tag} {v : AV} {cx cy : Code} {KE : Ex → Fr → Heap → Prop} (Q : Fr → Heap → Prop) (h1 : ∀ K' : Ex → Fr → Heap → Prop, (∀ fr H, Q fr H → K' .normal fr H) → condC E C f base D v cx cy fr H K') (h2 : ∀ fr H, Q fr H → KE .normal fr H) : condC E C f base D v cx cy fr H KE := h1 KE h2
end
def gor := And.intro @guard_stuck (And.intro @moveG_bool (And.intro @pick_or (And.intro @pick_and (And.intro @mv_guardV (And.intro @guard_bin @binG_bool)))))
end Go.Proofs.YtoncolpkpgbfiaaDoor
