/- The seat's program, as the interpreter is told of it. -/
import Derived.Test.YtimdnnlfkkkpbaaEvN
import Derived.Test.YtimdnnlfkkkpbaaEvT
import Derived.Test.YtimdnnlfkkkpbaaProg
import Derived.Laws.Externs
import Derived.KernelRfl
import Derived.Test.YtimdnnlfkkkpbaaEvW
set_option linter.unusedSimpArgs false
set_option linter.unusedVariables false
namespace Go.Proofs.Ytimdnnlfkkkpbaa

theorem tyL_ok : (tyL.zipIdx.all fun p => match p.1 with | some ti => tyOk Try.prog p.2 ti | none => true) = true := by kernel_rfl
theorem tyT_ok (t : TypeId) (ti : TI) (h : tyT t = some ti) : tyOk Try.prog t ti = true := by
  unfold tyT at h
  cases hl : tyL[t]? with
  | none => simp [hl] at h
  | some o =>
    simp only [hl, Option.join_some] at h
    subst h
    have hm : (some ti, t) ∈ tyL.zipIdx := List.mem_zipIdx_iff_getElem?.2 hl
    have := List.all_eq_true.1 tyL_ok _ hm
    simpa using this

def add64A : List AV → Option AV
  | [.int .u64 x, .int .u64 y, .int .u64 c] => if 0 ≤ x ∧ 0 ≤ y ∧ 0 ≤ c ∧ c ≤ 1 then some (.tup [.int .u64 ((x + y + c) % 18446744073709551616), .int .u64 ((x + y + c) / 18446744073709551616)]) else none
  | _ => none
theorem add64A_ok {x y c : Int} (hx : 0 ≤ x) (hy : 0 ≤ y) (hc : 0 ≤ c) (hc1 : c ≤ 1) : add64A [.int .u64 x, .int .u64 y, .int .u64 c] = some (.tup [.int .u64 ((x + y + c) % 18446744073709551616), .int .u64 ((x + y + c) / 18446744073709551616)]) := by
  simp [add64A, hx, hy, hc, hc1]
def extT (f : FuncId) (args : List AV) : Option AV := if f = 108 then add64A args else none

theorem ext_ok (f : FuncId) (args : List AV) (v : AV) (h : extT f args = some v) (c : Ctx) (cargs : List Value) (w : World) (ha : LRel c args cargs) : ∃ x, (callFunc f cargs.toArray).run Try.prog w = .ok (.value x) w ∧ VRel c v x := by
  unfold extT at h
  split at h
  · rename_i hf
    subst hf
    unfold add64A at h
    split at h
    · rename_i x y k
      split at h
      · rename_i hc
        cases h
        obtain ⟨x', r, rfl, hx, hr⟩ := ha.head
        obtain ⟨y', r', rfl, hy, hr'⟩ := hr.head
        obtain ⟨k', r'', rfl, hk, hr''⟩ := hr'.head
        have hr0 : r'' = [] := List.eq_nil_of_length_eq_zero (by simpa using hr''.1.symm)
        subst hr0
        obtain rfl := hx.inv_int; obtain rfl := hy.inv_int; obtain rfl := hk.inv_int
        refine ⟨_, ?_, VRel.tup' (l' := [.int .u64 ((x + y + k) % 18446744073709551616), .int .u64 ((x + y + k) / 18446744073709551616)]) (.cons (.int _ _) (.cons (.int _ _) .nil))⟩
        rw [run_callFunc_extern Try.func108 (by kernel_rfl) (by kernel_rfl) (by kernel_rfl) (e := add64Entry) (by kernel_rfl)]
        rw [run_add64 x y k hc.1 hc.2.1 hc.2.2.1 hc.2.2.2]
        rfl
      · cases h
    · cases h
  · cases h

/-- Whose empty slices grow; which temporaries live behind a region; whose results stay where they are. -/
def ownT (f d : Nat) : Bool :=
  if f = 3 ∧ d = 8 then true else
  if f = 3 ∧ d = 9 then true else
  if f = 28 ∧ d = 4 then true else
  if f = 79 ∧ d = 5 then true else
  if f = 81 ∧ d = 5 then true else
  if f = 119 ∧ d = 28 then true else
  if f = 45 ∧ d = 10 then true else
  if f = 40 ∧ d = 3 then true else
  false
def frzT (f id : Nat) : List Nat :=
  if f = 3 ∧ id = 7 then [8, 9] else
  if f = 45 ∧ id = 22 then [10] else
  []
def flatT (t : Nat) : Option Nat :=
  if t = 34 then some 36 else
  if t = 35 then some 38 else
  if t = 36 then some 38 else
  if t = 73 then some 3 else
  if t = 74 then some 3 else
  if t = 75 then some 3 else
  if t = 82 then some 6 else
  if t = 83 then some 44 else
  if t = 84 then some 44 else
  if t = 114 then some 3 else
  if t = 115 then some 3 else
  if t = 157 then some 2 else
  if t = 158 then some 2 else
  if t = 159 then some 40 else
  none
def flatL : List (Nat × Nat) := [(34, 36), (35, 38), (36, 38), (73, 3), (74, 3), (75, 3), (82, 6), (83, 44), (84, 44), (114, 3), (115, 3), (157, 2), (158, 2), (159, 40)]
theorem flatL_ok : (flatL.all fun p => flatAt Try.prog p.1 p.2) = true := by kernel_rfl
theorem flatT_mem (t n : Nat) (h : flatT t = some n) : (t, n) ∈ flatL := by
  unfold flatT at h
  by_cases e34 : t = 34
  · rw [if_pos e34] at h; cases h; rw [e34]; simp [flatL]
  rw [if_neg e34] at h
  by_cases e35 : t = 35
  · rw [if_pos e35] at h; cases h; rw [e35]; simp [flatL]
  rw [if_neg e35] at h
  by_cases e36 : t = 36
  · rw [if_pos e36] at h; cases h; rw [e36]; simp [flatL]
  rw [if_neg e36] at h
  by_cases e73 : t = 73
  · rw [if_pos e73] at h; cases h; rw [e73]; simp [flatL]
  rw [if_neg e73] at h
  by_cases e74 : t = 74
  · rw [if_pos e74] at h; cases h; rw [e74]; simp [flatL]
  rw [if_neg e74] at h
  by_cases e75 : t = 75
  · rw [if_pos e75] at h; cases h; rw [e75]; simp [flatL]
  rw [if_neg e75] at h
  by_cases e82 : t = 82
  · rw [if_pos e82] at h; cases h; rw [e82]; simp [flatL]
  rw [if_neg e82] at h
  by_cases e83 : t = 83
  · rw [if_pos e83] at h; cases h; rw [e83]; simp [flatL]
  rw [if_neg e83] at h
  by_cases e84 : t = 84
  · rw [if_pos e84] at h; cases h; rw [e84]; simp [flatL]
  rw [if_neg e84] at h
  by_cases e114 : t = 114
  · rw [if_pos e114] at h; cases h; rw [e114]; simp [flatL]
  rw [if_neg e114] at h
  by_cases e115 : t = 115
  · rw [if_pos e115] at h; cases h; rw [e115]; simp [flatL]
  rw [if_neg e115] at h
  by_cases e157 : t = 157
  · rw [if_pos e157] at h; cases h; rw [e157]; simp [flatL]
  rw [if_neg e157] at h
  by_cases e158 : t = 158
  · rw [if_pos e158] at h; cases h; rw [e158]; simp [flatL]
  rw [if_neg e158] at h
  by_cases e159 : t = 159
  · rw [if_pos e159] at h; cases h; rw [e159]; simp [flatL]
  rw [if_neg e159] at h
  cases h
theorem flatT_ok (t n : Nat) (h : flatT t = some n) : flatAt Try.prog t n = true := by
  have := List.all_eq_true.1 flatL_ok _ (flatT_mem t n h)
  simpa using this
def keep9 : Nat → Option (List Nat)
  | 0 => some [0, 1, 2]
  | 1 => some [0, 1, 2, 7]
  | 2 => some [0, 1, 2, 7, 8]
  | 3 => some [0, 1, 2, 7, 8, 29]
  | 4 => some [1, 2, 7, 8]
  | 5 => some [1, 2, 9]
  | 6 => some [1, 2, 9, 10, 11]
  | 7 => some [1, 2, 9, 10, 11, 12]
  | 8 => some [1, 2, 9, 11, 12, 13, 14, 15]
  | 9 => some [1, 2, 9, 12, 66]
  | 10 => some [6]
  | 11 => some [1, 9, 12, 16]
  | 12 => some [1, 9, 12, 16, 70]
  | 13 => some [1, 9, 12, 16]
  | 14 => some [1, 9, 12, 16, 17]
  | 15 => some [1, 9, 12, 16, 17, 18]
  | 16 => some [1, 9, 12, 16, 17, 18, 75]
  | 17 => some [1, 9, 12, 16, 17, 18]
  | 18 => some [1, 9, 12, 16, 17, 18]
  | 19 => some [1, 9, 12, 17, 85]
  | 20 => some [6]
  | 21 => some [1, 9, 17, 19, 20, 21]
  | 22 => some [19, 20, 21, 22, 23, 24]
  | 23 => some [19, 20, 22, 23, 127]
  | 24 => some [6]
  | 25 => some [19, 20, 22, 23, 25]
  | 26 => some [19, 20, 22, 23, 25, 137]
  | 27 => some [19, 20, 22, 23, 25]
  | 28 => some [19, 20, 22, 23, 25, 152]
  | 29 => some [6]
  | 30 => some [6]
  | _ => none
def keep8 : Nat → Option (List Nat)
  | 0 => some [0, 1]
  | 1 => some [1, 5]
  | 2 => some [1, 5, 6, 7]
  | 3 => some [1, 5, 6, 37]
  | 4 => some [4]
  | 5 => some [1, 5, 6, 8]
  | 6 => some [1, 5, 6, 8, 45]
  | 7 => some [1, 5, 6, 8]
  | 8 => some [1, 5, 6, 8, 9]
  | 9 => some [1, 5, 6, 8, 9, 10]
  | 10 => some [1, 5, 6, 8, 10, 81]
  | 11 => some [4]
  | 12 => some [1, 5, 6, 8, 10, 84]
  | 13 => some [1, 5, 6, 8, 10, 11, 12]
  | 14 => some [1, 5, 6, 8, 10, 11, 12, 13, 14, 15]
  | 15 => some [1, 5, 6, 8, 10, 11, 12, 13, 14, 15, 16, 17, 18, 19]
  | 16 => some [1, 5, 6, 8, 10, 11, 12, 13, 14, 15, 16, 17, 18, 19, 20]
  | 17 => some [1, 5, 6, 8, 10, 11, 12, 13, 14, 15, 16, 17, 18, 19, 20, 115]
  | 18 => some [1, 5, 6, 8, 10, 11, 12, 13, 14, 15, 16, 17, 18, 19, 20]
  | 19 => some [1, 5, 6, 8, 10, 11, 12, 13, 14, 15, 16, 17, 18, 19, 20, 133]
  | 20 => some [4]
  | 21 => some [1, 5, 6, 8, 10, 11, 12, 13, 14, 15, 16, 17, 18, 19, 20]
  | 22 => some [1, 5, 6, 8, 10, 11, 12, 13, 14, 15, 16, 17, 18, 19, 21]
  | 23 => some [1, 5, 6, 8, 10, 11, 12, 13, 14, 15, 16, 17, 18, 19, 21, 175]
  | 24 => some [1, 5, 6, 8, 10, 11, 12, 13, 14, 15, 16, 17, 18, 19, 21]
  | 25 => some [1, 5, 6, 8, 211]
  | 26 => some [4]
  | 27 => some [4]
  | _ => none
def keepT (f id : Nat) : Option (List Nat) :=
  if f = 9 then keep9 id else
  if f = 8 then keep8 id else
  none
def escT (f : Nat) : Bool :=
  if f = 38 then true else
  false

def givenT (f : FuncId) (args : List AV) (v : AV) : Prop := False
noncomputable def theE : Env := { P := Try.prog, T := tyT, own := ownT, keep := keepT, escapes := escT, ext := extT, given := givenT, frz := frzT, flat := flatT }
theorem E_T (t : Nat) : theE.T t = tyT t := (rfl)
theorem E_P : theE.P = Try.prog := (rfl)
theorem E_own (f d : Nat) : theE.own f d = ownT f d := (rfl)
theorem E_keep (f d : Nat) : theE.keep f d = keepT f d := (rfl)
theorem E_frz (f d : Nat) : theE.frz f d = frzT f d := (rfl)
theorem E_flat (t : Nat) : theE.flat t = flatT t := (rfl)
theorem E_esc (f : Nat) : theE.escapes f = escT f := (rfl)
theorem E_ext (f : Nat) (l : List AV) : theE.ext f l = extT f l := (rfl)
theorem theE_ok : EnvOk theE := ⟨tyT_ok, ext_ok, by kernel_rfl, flatT_ok⟩
theorem theE_given : ∀ f args v, theE.given f args v → ∀ H, CallOk theE f args H v H := fun _ _ _ h => h.elim
end Go.Proofs.Ytimdnnlfkkkpbaa

/- The walking rules, in bundles. -/
set_option linter.unusedVariables false
set_option linter.defProp false
namespace Go.Proofs.Ytimdnnlfkkkpbaa
def wk0 := (And.intro (And.intro (And.intro (And.intro (And.intro (And.intro @c_seq @c_regionS) (And.intro @c_drawZ @c_ret)) (And.intro (And.intro @c_skip @c_exit) (And.intro @c_block @c_loop))) (And.intro (And.intro (And.intro @c_cond @condC_true) (And.intro @condC_false @seqC_normal)) (And.intro (And.intro @seqC_exit @seqC_ret) (And.intro @blockK_normal @blockK_exit)))) (And.intro (And.intro (And.intro (And.intro @blockK_ret @loopD_normal) (And.intro @loopD_exit @loopD_ret)) (And.intro (And.intro @regK_def @E_frz) (And.intro @frz_nil @frz_cons))) (And.intro (And.intro (And.intro @frz_lst @frz_nils) (And.intro @frz_sl @frzB_some)) (And.intro (And.intro @bB_int @bB_bool) (And.intro @bB_nili @bB_ifc))))) (And.intro (And.intro (And.intro (And.intro (And.intro @bB_nilp @bB_ptr) (And.intro @bB_eql @bB_neq)) (And.intro (And.intro @E_flat @t_seq) (And.intro @q_load @q_slice))) (And.intro (And.intro (And.intro @q_call @t_pureO) (And.intro @t_fresh @t_grow)) (And.intro (And.intro @growV_sl @Nat.lt_add_one) (And.intro @Nat.zero_lt_succ @Nat.zero_lt_one)))) (And.intro (And.intro (And.intro (And.intro @optThen_some @blkThen_some) (And.intro @s_move @s_assign)) (And.intro (And.intro @s_pick @s_alloc) (And.intro @s_box @s_build))) (And.intro (And.intro (And.intro @s_buildSlice @s_load) (And.intro @s_nilCheck @s_binOp)) (And.intro (And.intro @s_unOp @s_convert) (And.intro @s_makeInterface @s_makeFunc))))))
def wk1 := (And.intro (And.intro (And.intro (And.intro (And.intro (And.intro @s_makeSlice @s_slice) (And.intro @s_fieldAddr @s_field)) (And.intro (And.intro @s_indexAddr @s_index) (And.intro @s_extract @s_arrayAt))) (And.intro (And.intro (And.intro @p_arrayAt @s_store) (And.intro @s_builtin @s_call)) (And.intro (And.intro @someThen_some @storeThen_some) (And.intro @E_T @E_own)))) (And.intro (And.intro (And.intro (And.intro @E_keep @E_esc) (And.intro @E_ext @List.flatten_cons.{0})) (And.intro (And.intro @List.flatten_nil.{0} @List.replicate_succ.{0}) (And.intro @List.replicate_zero.{0} @mv_nils_own))) (And.intro (And.intro (And.intro @mv_nils @mv_undef) (And.intro @mv_int @mv_bool)) (And.intro (And.intro @mv_str @mv_nilp) (And.intro @mv_ptr @mv_lel))))) (And.intro (And.intro (And.intro (And.intro (And.intro @mv_sl @mv_lst) (And.intro @mv_nilf @mv_fn)) (And.intro (And.intro @mv_nili @mv_ifc) (And.intro @mv_agg @mv_tup))) (And.intro (And.intro (And.intro @ld_ptr @ld_lel) (And.intro @ia_arr_ptr @ia_arr_lel)) (And.intro (And.intro @ia_sl @ia_lst) (And.intro @ln_array @ln_nils)))) (And.intro (And.intro (And.intro (And.intro @ln_lst @ln_sl) (And.intro @ln_str @List.all_cons.{0})) (And.intro (And.intro @List.all_nil.{0} @Bool.and_true) (And.intro @Bool.true_and @Bool.and_self))) (And.intro (And.intro (And.intro @set_app @set_app0) (And.intro @blkAt_app @blkAt_app0)) (And.intro (And.intro @blkAt_zero @blkAt_succ) (And.intro @mayStore_own @mayStore_own0))))))
def wk2 := (And.intro (And.intro (And.intro (And.intro (And.intro (And.intro @mayAppend_own @mayAppend_own0) (And.intro @mayAppend_nils @mayAppend_len)) (And.intro (And.intro @mayAppend_max @mayAppend_min) (And.intro @List.map_cons.{0,0} @List.map_nil.{0,0}))) (And.intro (And.intro (And.intro @Option.map_some.{0,0} @Option.bind_some.{0,0}) (And.intro @Option.map_none.{0,0} @Option.bind_none.{0,0})) (And.intro (And.intro @Bool.false_eq_true @List.length_cons.{0}) (And.intro @List.length_nil.{0} @List.length_append.{0})))) (And.intro (And.intro (And.intro (And.intro @Nat.zero_add @Nat.add_zero) (And.intro @List.range_succ @List.range_zero)) (And.intro (And.intro @List.nil_append.{0} @List.cons_append.{0}) (And.intro @List.append_nil.{0} @List.append_assoc.{0}))) (And.intro (And.intro (And.intro @List.zip_cons_cons.{0,0} @List.zip_nil_right.{0,0}) (And.intro @List.set_cons_zero.{0} @List.set_cons_succ.{0})) (And.intro (And.intro @true_and @and_true) (And.intro @and_self @List.getElem?_cons_zero.{0}))))) (And.intro (And.intro (And.intro (And.intro (And.intro @List.getElem?_cons_succ.{0} @List.drop_zero.{0}) (And.intro @List.drop_succ_cons.{0} @List.take_succ_cons.{0})) (And.intro (And.intro @List.take_zero.{0} @List.take_nil.{0}) (And.intro @List.drop_nil.{0} @Bool.not_true))) (And.intro (And.intro (And.intro @Bool.not_false @Bool.or_true) (And.intro @Bool.true_or @Bool.or_false)) (And.intro (And.intro @Bool.false_or @decide_true) (And.intro @decide_false @not_true_eq_false)))) (And.intro (And.intro (And.intro (And.intro @not_false_eq_true @Option.getD_some.{0}) (And.intro @pureThen_some @extThen_some)) (And.intro (And.intro @extThen_none @fnThen_def) (And.intro @guardThen_true @guardThen_false))) (And.intro (And.intro (And.intro @wpSeq_nil @wpZip_nil) (And.intro @wpSeq_cons @wpZip_cons)) (And.intro (And.intro @wpSeq_guard @wpZip_guard) (And.intro @seqO_def @zipO_def))))))
def wk3 := (And.intro (And.intro (And.intro (And.intro (And.intro @guardD_zero (And.intro @guardD_succ @guardAt_some)) (And.intro @wordA_bool (And.intro @wordA_tup @retA_ret))) (And.intro (And.intro @retA_normal (And.intro @res_nil @res_cons)) (And.intro @resA_tmp (And.intro @resA_cell @p_move)))) (And.intro (And.intro (And.intro @p_assign (And.intro @p_pick @p_build)) (And.intro @p_buildSlice (And.intro @p_load @p_nilCheck))) (And.intro (And.intro @p_binOp (And.intro @p_unOp @p_convert)) (And.intro @p_makeInterface (And.intro @p_makeFunc @p_slice))))) (And.intro (And.intro (And.intro (And.intro @p_fieldAddr (And.intro @p_field @p_indexAddr)) (And.intro @p_index (And.intro @p_extract @p_builtin))) (And.intro (And.intro @p_call (And.intro @extO_fn @sameK_def)) (And.intro @List.getElem?_toArray.{0} (And.intro @castLit @Nat.min_def)))) (And.intro (And.intro (And.intro @wrapLitI (And.intro @wrapLitU @f_alloc)) (And.intro @f_box (And.intro @Bool.true_beq @Bool.false_beq))) (And.intro (And.intro @beqI (And.intro @List.size_toArray.{0} @beqT)) (And.intro (And.intro @beqF @Option.bind_eq_bind.{0}) (And.intro @Option.pure_def.{0} @bneI))))))
end Go.Proofs.Ytimdnnlfkkkpbaa

/- Unknown bools that only guard a move: what follows is looked at once. -/
set_option linter.unusedVariables false
set_option linter.unusedSimpArgs false
set_option linter.defProp false
namespace Go.Proofs.Ytimdnnlfkkkpbaa
def guardV (t c : Bool) : AV := if t then .bool c else .tup []
def moveG (t : Bool) (v : AV) (p q : Prop) (k : AV → Prop) : Prop :=
  match v with
  | .bool c => k (guardV t c)
  | _ => guardThen (some t) p q
section
variable {E : Env} {C : CallRel} {f base : Nat} {all : Array Oper} {rest : List Oper} {ts : List Tag} {fr : Fr} {H : Heap} {K : Fr → Heap → Prop} {dst : Option Nat} {ty : TypeId} {pos : String} {aft : Array Edge} {g : Option (Nat × Bool)} {x : Operand} {b w : Bool}
theorem moveG_bool {t c : Bool} {p q : Prop} {k : AV → Prop} : moveG t (.bool c) p q k = k (guardV t c) := (rfl)
@[congr] theorem moveG_look {t : Bool} {v v' : AV} {p q : Prop} {k : AV → Prop} (h : v = v') : moveG t v p q k = moveG t v' p q k := by rw [h]
theorem guard_stuck : guardThen (some (!b)) (stepA E C f base ⟨dst, .move x, ty, pos, aft, g⟩ fr H (seqO E C f base all rest dst fr K)) (wpSeq E C f base all rest (fr.put dst (.tup [])) H K) =
    moveG (!b) (fr.ev x) (stepA E C f base ⟨dst, .move x, ty, pos, aft, g⟩ fr H (seqO E C f base all rest dst fr K)) (wpSeq E C f base all rest (fr.put dst (.tup [])) H K) fun v => wpSeq E C f base all rest (fr.put dst v) H K := by
  unfold moveG
  split
  · rename_i c hc
    have h : stepA E C f base ⟨dst, .move x, ty, pos, aft, g⟩ fr H (seqO E C f base all rest dst fr K) = wpSeq E C f base all rest (fr.put dst (.bool c)) H K := by
      show someThen (moveA (ownDst E f dst) (E.kd ty) H (fr.ev x)) _ = _
      rw [hc]
      rfl
    rw [h]
    cases b
    · rfl
    · rfl
  · rfl
theorem guard_stuckP : guardThen (some b) (stepA E C f base ⟨dst, .move x, ty, pos, aft, g⟩ fr H (seqO E C f base all rest dst fr K)) (wpSeq E C f base all rest (fr.put dst (.tup [])) H K) =
    moveG b (fr.ev x) (stepA E C f base ⟨dst, .move x, ty, pos, aft, g⟩ fr H (seqO E C f base all rest dst fr K)) (wpSeq E C f base all rest (fr.put dst (.tup [])) H K) fun v => wpSeq E C f base all rest (fr.put dst v) H K := by
  unfold moveG
  split
  · rename_i c hc
    have h : stepA E C f base ⟨dst, .move x, ty, pos, aft, g⟩ fr H (seqO E C f base all rest dst fr K) = wpSeq E C f base all rest (fr.put dst (.bool c)) H K := by
      show someThen (moveA (ownDst E f dst) (E.kd ty) H (fr.ev x)) _ = _
      rw [hc]
      rfl
    rw [h]
    cases b
    · rfl
    · rfl
  · rfl
theorem pick_or {a c : Bool} : pickA (.bool a) (.bool true) (guardV (!a) c) H = some (.bool (a || c), H) := by cases a <;> rfl
theorem pick_and {a c : Bool} : pickA (.bool a) (guardV a c) (.bool false) H = some (.bool (a && c), H) := by cases a <;> rfl
theorem mv_guardV {t c own : Bool} {k : Option TK} : moveA own k H (guardV t c) = some (guardV t c, H) := by cases t <;> rfl
end
def binG (t : Bool) (v : Option AV) (p q : Prop) (k : AV → Prop) : Prop :=
  match v with
  | some (.bool c) => k (guardV t c)
  | _ => guardThen (some t) p q
theorem binG_bool {t c : Bool} {p q : Prop} {k : AV → Prop} : binG t (some (.bool c)) p q k = k (guardV t c) := (rfl)
@[congr] theorem binG_look {t : Bool} {v v' : Option AV} {p q : Prop} {k : AV → Prop} (h : v = v') : binG t v p q k = binG t v' p q k := by rw [h]
section
variable {E : Env} {C : CallRel} {f base : Nat} {all : Array Oper} {rest : List Oper} {fr : Fr} {H : Heap} {K : Fr → Heap → Prop} {dst : Option Nat} {ty t u : TypeId} {pos : String} {aft : Array Edge} {g : Option (Nat × Bool)} {x y : Operand} {b : Bool} {op : BinOp}
theorem guard_bin : guardThen (some (!b)) (stepA E C f base ⟨dst, .binOp op t x y u, ty, pos, aft, g⟩ fr H (seqO E C f base all rest dst fr K)) (wpSeq E C f base all rest (fr.put dst (.tup [])) H K) =
    binG (!b) (binB E t (isConst x || isConst y) op (fr.ev x) (fr.ev y)) (stepA E C f base ⟨dst, .binOp op t x y u, ty, pos, aft, g⟩ fr H (seqO E C f base all rest dst fr K)) (wpSeq E C f base all rest (fr.put dst (.tup [])) H K) fun v => wpSeq E C f base all rest (fr.put dst v) H K := by
  unfold binG
  split
  · rename_i c hc
    have h : stepA E C f base ⟨dst, .binOp op t x y u, ty, pos, aft, g⟩ fr H (seqO E C f base all rest dst fr K) = wpSeq E C f base all rest (fr.put dst (.bool c)) H K := by
      show someThen ((binB E t (isConst x || isConst y) op (fr.ev x) (fr.ev y)).map fun v => (v, H)) _ = _
      rw [hc]
      rfl
    rw [h]
    cases b
    · rfl
    · rfl
  · rfl
/-- Both ways end in a state of which Q is known: what follows is looked at once. -/
theorem condC_join {D : Nat → List Tag} {v : AV} {cx cy : Code} {KE : Ex → Fr → Heap → Prop} (Q : Fr → Heap → Prop) (h1 : ∀ K' : Ex → Fr → Heap → Prop, (∀ fr H, Q fr H → K' .normal fr H) → condC E C f base D v cx cy fr H K') (h2 : ∀ fr H, Q fr H → KE .normal fr H) : condC E C f base D v cx cy fr H KE := h1 KE h2
end
def gor := And.intro @guard_stuck (And.intro @moveG_bool (And.intro @pick_or (And.intro @pick_and (And.intro @mv_guardV (And.intro @guard_bin @binG_bool)))))
end Go.Proofs.Ytimdnnlfkkkpbaa
