/- The document's answer (chapter 12): a state after a step. -/
import Derived.Test.YtdknnaalfoongaaGreatDoorN6
import Derived.Test.YtdknnaalfoongaaGreatDoorS1
set_option linter.unusedSimpArgs false
set_option linter.unusedVariables false
set_option maxRecDepth 100000
set_option maxHeartbeats 8000000
namespace Go.Proofs.YtdknnaalfoongaaGreatDoor
theorem evT_congr {b : Nat} {F F' : Nat → Nat → Int} : ∀ {n : Nat}, (∀ m, m < n → ∀ j, j < 6 → F m j = F' m j) → evT b F n = evT b F' n
  | 0, _ => rfl
  | n + 1, h => by
    simp only [evT, evB]
    rw [evT_congr fun m hm => h m (by omega), preL_congr fun j hj => h n (by omega) j hj]
theorem evT_set {b k : Nat} {F F' : Nat → Nat → Int} : ∀ {n : Nat}, k < n → (∀ m, m < n → m ≠ k → ∀ j, j < 6 → F m j = F' m j) →
    (evT b F n).set (2 * k) (some ⟨(preL (F' k) 6).map fun x => .int .i64 x, 6⟩) = evT b F' n
  | 0, h, _ => absurd h (by omega)
  | n + 1, hk, h => by
    simp only [evT]
    by_cases e : k = n
    · subst e
      rw [List.set_append_right _ _ (by rw [evT_len]; omega), evT_len, Nat.sub_self, evT_congr fun m hm => h m (by omega) (by omega)]
      rfl
    · rw [List.set_append_left _ _ (by rw [evT_len]; omega), evT_set (by omega) fun m hm => h m (by omega)]
      simp only [evB]
      rw [preL_congr fun j hj => h n (by omega) (fun e' => e e'.symm) j hj]
theorem evT_get {b k : Nat} {F : Nat → Nat → Int} : ∀ {n : Nat}, k < n → (evT b F n)[2 * k]? = some (some ⟨(preL (F k) 6).map fun x => .int .i64 x, 6⟩)
  | 0, h => absurd h (by omega)
  | n + 1, hk => by
    simp only [evT]
    by_cases e : k = n
    · subst e
      rw [List.getElem?_append_right (by rw [evT_len]; omega), evT_len, Nat.sub_self]
      rfl
    · rw [List.getElem?_append_left (by rw [evT_len]; omega), evT_get (by omega)]
/-- The heap of rows that stand behind two blocks. -/
def evH (S : Heap) (x y : Option Blk) (F : Nat → Nat → Int) : Heap := S ++ x :: y :: some ⟨evO (S.length + 2) 6, 6⟩ :: evT (S.length + 2) F 6
section
variable {S : Heap} {x y : Option Blk} {F : Nat → Nat → Int}
theorem evH_len : (evH S x y F).length = S.length + 15 := by simp [evH, evT_len]
theorem evH_out : blkAt (evH S x y F) (S.length + 2) 6 = some ⟨evO (S.length + 2) 6, 6⟩ := by
  unfold evH; rw [blkAt_app]; rfl
theorem evH_row {k : Nat} (hk : k < 6) : blkAt (evH S x y F) (S.length + 2 + 1 + 2 * k) 6 = some ⟨(preL (F k) 6).map fun x => .int .i64 x, 6⟩ := by
  unfold evH
  rw [show S.length + 2 + 1 + 2 * k = S.length + (2 * k + 3) by omega, blkAt_app]
  have := evT_get (b := S.length + 2) (F := F) hk
  simp only [blkAt, List.getElem?_cons_succ, this, if_pos]
theorem evH_set {F' : Nat → Nat → Int} {k : Nat} (hk : k < 6) (h : ∀ m, m < 6 → m ≠ k → ∀ j, j < 6 → F m j = F' m j) :
    (evH S x y F).set (S.length + 2 + 1 + 2 * k) (some ⟨(preL (F' k) 6).map fun x => .int .i64 x, 6⟩) = evH S x y F' := by
  unfold evH
  rw [show S.length + 2 + 1 + 2 * k = S.length + (2 * k + 3) by omega, set_app, List.set_cons_succ, List.set_cons_succ, List.set_cons_succ, evT_set hk h]
theorem evO_get {b k : Nat} (hk : k < 6) : (evO b 6)[k]? = some (.sl (b + 1 + 2 * k) 6 0 6 6 1) := by simp [evO, hk, evP]
theorem fin_ev {H : Heap} {base b : Nat} (hb : base ≤ b) (h : ∀ k, k < 6 → blkAt H (b + 1 + 2 * k) 6 = some ⟨(preL (F k) 6).map fun x => .int .i64 x, 6⟩) : ∀ n, n ≤ 6 → FinL base H (evO b n) (rowsA n 6 F)
  | 0, _ => .nil
  | n + 1, hn => by
    have ih := fin_ev hb h n (by omega)
    have e1 : evO b (n + 1) = evO b n ++ [.sl (b + 1 + 2 * n) 6 0 6 6 1] := by unfold evO; rw [List.range_succ, List.map_append]; rfl
    have e2 : rowsA (n + 1) 6 F = rowsA n 6 F ++ [.lst ((preL (F n) 6).map fun x => .int .i64 x) 6] := by
      unfold rowsA; rw [List.range_succ, List.map_append]
      simp only [List.map_cons, List.map_nil, lstI, rowF_pre, preL_len]
    have app : ∀ (l l' : List AV) (u u' : AV), FinL base H l l' → Fin1 base H u u' → FinL base H (l ++ [u]) (l' ++ [u']) := by
      intro l
      induction l with
      | nil => intro l' u u' h1 h2; cases h1; exact .cons _ _ _ _ h2 .nil
      | cons a l ihl => intro l' u u' h1 h2; cases h1 with | cons _ _ _ _ h3 h4 => exact .cons _ _ _ _ h3 (ihl _ _ _ h4 h2)
    rw [e1, e2]
    refine app _ _ _ _ ih ?_
    have e := fin_sl (base := base) (id := b + 1 + 2 * n) (ver := 6) (cap := 6) (u := 6) (L := preL (F n) 6) (H := H) (by omega) (h n (by omega))
    rw [preL_len] at e
    exact e
end
theorem dg_zero (D : Nat → Nat → Int) : dgF D 0 = D := by funext i j; unfold dgF; rw [if_neg (by omega)]
theorem dg_same {D : Nat → Nat → Int} {k : Nat} (h : ¬ D k k < 0) : dgF D (k + 1) = dgF D k := by
  funext i j
  unfold dgF
  by_cases e : i = j ∧ i < k
  · rw [if_pos e, if_pos (by omega)]
  · rw [if_neg e]
    by_cases e2 : i = j ∧ i < k + 1
    · obtain rfl : i = k := by omega
      obtain rfl := e2.1
      rw [if_pos e2]; omega
    · rw [if_neg e2]
theorem dg_at (D : Nat → Nat → Int) (k : Nat) : dgF D k k k = D k k := by unfold dgF; rw [if_neg (by omega)]
noncomputable def c15 : Code := Tryz.f15.body.getD .skip
theorem b15 : Tryz.f15.body = some c15 := rfl
theorem d15 : fnOk Tryz.f15 c15 = true := by kernel_rfl
def D15 : Nat → List Tag := fun _ => []
theorem e15 : drawsOk D15 c15 = true := by kernel_rfl
theorem refNext12_ok (x : Nat → Int) (f st no : Nat → Nat → Int) (S : Heap) (h : OkS x f) (hs : ∀ i j, i < 6 → j < 6 → inI (st i j)) (hn : ∀ i j, i < 6 → j < 6 → inI (no i j)) :
    Call theE 15 [.agg [lstI (xL x), mtx 6 6 f], mtx 6 6 st, mtx 6 6 no] S (.tup [.agg [lstI (appL st 6 (xL x) 6), mtx 6 6 (sprF f st no)], .bool (nxO x f st no)]) S := by
  have hf : ∀ i j, i < 6 → j < 6 → inI (f i j) := fun i j hi hj => by have := h.top i j hi hj; unfold topI at this; unfold inI; omega
  have hx : ∀ y ∈ xL x, inI y := by
    intro y hy
    rw [xL_map] at hy
    obtain ⟨i, hi, rfl⟩ := List.mem_map.1 hy
    have := h.x i (List.mem_range.1 hi)
    unfold topI at this; unfold inI; omega
  have q1 := fun S => refApply8_ok 6 6 st (xL x) S (by omega) (by omega) rfl hs hx
  have q2 := fun S => refMul8_ok 6 6 6 st f S (by omega) (by omega) (by omega) hs hf
  have q3 := fun S => refTurn8_ok 6 6 st S (by omega) (by omega)
  have q4 := fun S => refMul8_ok 6 6 6 (sprA f st) (fun i j => st j i) S (by omega) (by omega) (by omega) (fun i j _ _ => bnd_inI _) (fun i j hi hj => hs j i hj hi)
  have q5 := fun S => refAdd8_ok 6 6 (sprB f st) no false S (by omega) (by omega) (fun i j _ _ => bnd_inI _) hn
  have q6 := fun S => refEvenE_ok (sprC f st no) S (fun i j _ _ => bnd_inI _)
  change ∀ S, Call _ _ _ _ (.tup [mtx 6 6 (sprA f st), _]) _ at q2
  change ∀ S, Call _ _ _ _ (.tup [mtx 6 6 (sprB f st), _]) _ at q4
  change ∀ S, Call _ _ _ _ (.tup [mtx 6 6 (sprC f st no), .bool (anyP 6 (fun i j => ovrB (sprB f st i j + no i j)) 36)]) _ at q5
  change ∀ S, Call _ _ _ _ _ (S ++ some ⟨evO S.length 6, 6⟩ :: evT S.length (sprD f st no) 6) at q6
  unfold nxO sprO sprF
  simp only [mtx, lstI, Nat.reduceMul] at q1 q2 q3 q4 q5 q6 ⊢
  have lx : (appL st 6 (xL x) 6).length = 6 := by simp [appL]
  generalize appL st 6 (xL x) 6 = X1 at *
  generalize appO st 6 (xL x) 6 = o0 at *
  generalize sprA f st = A at *
  generalize sprB f st = B at *
  generalize sprC f st no = Cc at *
  generalize sprD f st no = Dd at *
  generalize anyP 6 (fun i j => ovrB (mulF st f 6 i j)) 36 = o1 at *
  generalize anyP 6 (fun i j => ovrB (mulF A (fun i j => st j i) 6 i j)) 36 = o2 at *
  generalize anyP 6 (fun i j => ovrB (B i j + no i j)) 36 = o3 at *
  generalize anyP 6 (fun i j => ovrB (evenF Cc i j)) 36 = o4 at *
  refine Call.ofC Tryz.func15 YtdknnaalfoongaaGreatDoor.b15 YtdknnaalfoongaaGreatDoor.d15 YtdknnaalfoongaaGreatDoor.e15 (by simp [Tryz.f15]) ?_
  dsimp only [YtdknnaalfoongaaGreatDoor.c15, Tryz.f15, Option.getD_some]
  simp (maxSteps := 2000000) only [wk0, wk1, wk2, wk3, wk4, wk5, wk6, Fr.ev, Fr.put, Fr.get, storeA, List.replicate, IntKind.bits, sevalprocAttr, lx, List.length_map, YtdknnaalfoongaaGreatDoor.D15, ty1, ty2, ty3, ty4, ty22, ty23, ty25]
  refine callThen_of (q1 _) ?_
  simp (maxSteps := 2000000) only [wk0, wk1, wk2, wk3, wk4, wk5, wk6, Fr.ev, Fr.put, Fr.get, storeA, List.replicate, IntKind.bits, sevalprocAttr, lx, List.length_map, YtdknnaalfoongaaGreatDoor.D15, ty1, ty2, ty3, ty4, ty22, ty23, ty25]
  refine callThen_of (q2 _) ?_
  simp (maxSteps := 2000000) only [wk0, wk1, wk2, wk3, wk4, wk5, wk6, Fr.ev, Fr.put, Fr.get, storeA, List.replicate, IntKind.bits, sevalprocAttr, lx, List.length_map, YtdknnaalfoongaaGreatDoor.D15, ty1, ty2, ty3, ty4, ty22, ty23, ty25]
  refine callThen_of (q3 _) ?_
  simp (maxSteps := 2000000) only [wk0, wk1, wk2, wk3, wk4, wk5, wk6, Fr.ev, Fr.put, Fr.get, storeA, List.replicate, IntKind.bits, sevalprocAttr, lx, List.length_map, YtdknnaalfoongaaGreatDoor.D15, ty1, ty2, ty3, ty4, ty22, ty23, ty25]
  refine callThen_of (q4 _) ?_
  simp (maxSteps := 2000000) only [wk0, wk1, wk2, wk3, wk4, wk5, wk6, Fr.ev, Fr.put, Fr.get, storeA, List.replicate, IntKind.bits, sevalprocAttr, lx, List.length_map, YtdknnaalfoongaaGreatDoor.D15, ty1, ty2, ty3, ty4, ty22, ty23, ty25]
  refine callThen_of (q5 _) ?_
  simp (maxSteps := 2000000) only [wk0, wk1, wk2, wk3, wk4, wk5, wk6, Fr.ev, Fr.put, Fr.get, storeA, List.replicate, IntKind.bits, sevalprocAttr, lx, List.length_map, YtdknnaalfoongaaGreatDoor.D15, ty1, ty2, ty3, ty4, ty22, ty23, ty25]
  refine callThen_of (q6 _) ?_
  simp (maxSteps := 2000000) only [wk0, wk1, wk2, wk3, wk4, wk5, wk6, Fr.ev, Fr.put, Fr.get, storeA, List.replicate, IntKind.bits, sevalprocAttr, lx, List.length_map, YtdknnaalfoongaaGreatDoor.D15, ty1, ty2, ty3, ty4, ty22, ty23, ty25]
  refine loopC_ind (fun m fr H => ∃ i : Nat, i + m = 6 ∧ fr.get 18 = .int .i64 (i : Int) ∧ fr.get 16 = .sl (S.length + 2) 6 0 6 6 1 ∧ fr.get 8 = .lst (X1.map fun x => .int .i64 x) 6 ∧ fr.get 9 = .bool o0 ∧ fr.get 11 = .bool o1 ∧ fr.get 13 = .bool o2 ∧ fr.get 15 = .bool o3 ∧ fr.get 17 = .bool o4 ∧ fr.get 6 = .ptr (S.length + 1) 0 0 ∧
    ∃ b, H = evH S b (some ⟨[.nils, .nils], 0⟩) (dgF Dd i)) ?_ (n := 6) ⟨0, by omega, rfl, rfl, rfl, rfl, rfl, rfl, rfl, rfl, rfl, _, by rw [dg_zero]; rfl⟩
  rintro m fr H ⟨i, him, g18, g16, g8, g9, g11, g13, g15, g17, g6, b, rfl⟩ ih
  by_cases hi : (i : Int) < 6
  · have hin : i < 6 := by omega
    have i0 : (0 : Int) ≤ i := by omega
    have wi : IntKind.i64.wrap ((i : Int) + 1) = ((i + 1 : Nat) : Int) := wrapI (by omega)
    have bo := evH_out (S := S) (x := b) (y := some ⟨[.nils, .nils], 0⟩) (F := dgF Dd i)
    have br := evH_row (S := S) (x := b) (y := some ⟨[.nils, .nils], 0⟩) (F := dgF Dd i) hin
    have og := evO_get (b := S.length + 2) hin
    have rg : ((preL (dgF Dd i i) 6).map fun x => AV.int .i64 x)[i]? = some (.int .i64 (Dd i i)) := by
      rw [List.getElem?_map, preL, List.getElem?_map, List.getElem?_range hin]; simp [dg_at]
    have hs : ∀ v, v = dgF Dd (i + 1) i i → (evH S b (some ⟨[.nils, .nils], 0⟩) (dgF Dd i)).set (S.length + 2 + 1 + 2 * i) (some ⟨((preL (dgF Dd i i) 6).map fun x => AV.int .i64 x).set i (.int .i64 v), 6⟩) = evH S b (some ⟨[.nils, .nils], 0⟩) (dgF Dd (i + 1)) := by
      intro v hv
      have e : ((preL (dgF Dd i i) 6).map fun x => AV.int .i64 x).set i (.int .i64 v) = (preL (dgF Dd (i + 1) i) 6).map fun x => .int .i64 x := by
        apply List.ext_getElem
        · simp [preL]
        · intro q h1 h2
          simp only [preL, List.getElem_set, List.getElem_map, List.getElem_range]
          by_cases e : i = q
          · subst e; rw [if_pos rfl, hv]
          · rw [if_neg e]; unfold dgF; rw [if_neg (by omega), if_neg (by omega)]
      rw [e]
      exact evH_set hin fun m hm hne j hj => by
        unfold dgF
        by_cases e : m = j ∧ m < i
        · rw [if_pos e, if_pos (by omega)]
        · rw [if_neg e, if_neg (by omega)]
    have ml : (preL (dgF Dd i i) 6).length = 6 := preL_len _ _
    have ms : ∀ vs, mayStore S.length (S.length + 2 + 1 + 2 * i) vs = True := fun vs => by simp only [mayStore, eq_iff_iff, iff_true]; left; omega
    have i1 : i + 1 ≤ 6 := by omega
    generalize hq : S.length + 2 + 1 + 2 * i = q at *
    generalize hP : evH S b (some ⟨[.nils, .nils], 0⟩) (dgF Dd i) = P at *
    by_cases hd : Dd i i < 0
    · have hs' := hs 0 (by unfold dgF; rw [if_pos (by omega)]; omega)
      simp (maxSteps := 2000000) only [wk0, wk1, wk2, wk3, wk4, wk5, wk6, Fr.ev, Fr.put, Fr.get, storeA, List.replicate, IntKind.bits, sevalprocAttr, g18, g16, g8, g9, g11, g13, g15, g17, g6, hi, i0, wi, bo, br, og, rg, hs', ml, ms, i1, hd, Int.toNat_natCast, Nat.mul_one, Nat.zero_add, List.length_map, YtdknnaalfoongaaGreatDoor.D15, ty1, ty2, ty3, ty4, ty22, ty23, ty25]
      exact ih (m - 1) _ _ (by omega) ⟨i + 1, by omega, by simp [Fr.get], by simp [Fr.get, g16], by simp [Fr.get, g8], by simp [Fr.get, g9], by simp [Fr.get, g11], by simp [Fr.get, g13], by simp [Fr.get, g15], by simp [Fr.get, g17], by simp [Fr.get, g6], _, rfl⟩
    · simp (maxSteps := 2000000) only [wk0, wk1, wk2, wk3, wk4, wk5, wk6, Fr.ev, Fr.put, Fr.get, storeA, List.replicate, IntKind.bits, sevalprocAttr, g18, g16, g8, g9, g11, g13, g15, g17, g6, hi, i0, wi, bo, br, og, rg, ml, ms, i1, hd, Int.toNat_natCast, Nat.mul_one, Nat.zero_add, List.length_map, YtdknnaalfoongaaGreatDoor.D15, ty1, ty2, ty3, ty4, ty22, ty23, ty25]
      exact ih (m - 1) _ _ (by omega) ⟨i + 1, by omega, by simp [Fr.get], by simp [Fr.get, g16], by simp [Fr.get, g8], by simp [Fr.get, g9], by simp [Fr.get, g11], by simp [Fr.get, g13], by simp [Fr.get, g15], by simp [Fr.get, g17], by simp [Fr.get, g6], _, by rw [dg_same hd]; exact hP.symm⟩
  · obtain rfl : i = 6 := by omega
    have bo := evH_out (S := S) (x := b) (y := some ⟨[.lst (X1.map fun x => .int .i64 x) 6, .sl (S.length + 2) 6 0 6 6 1], 0⟩) (F := dgF Dd 6)
    have br := fun k hk => evH_row (S := S) (x := b) (y := some ⟨[.lst (X1.map fun x => .int .i64 x) 6, .sl (S.length + 2) 6 0 6 6 1], 0⟩) (F := dgF Dd 6) (k := k) hk
    unfold evH at *
    simp (maxSteps := 2000000) only [wk0, wk1, wk2, wk3, wk4, wk5, wk6, Fr.ev, Fr.put, Fr.get, storeA, List.replicate, IntKind.bits, sevalprocAttr, gor, g18, g16, g8, g9, g11, g13, g15, g17, g6, hi, YtdknnaalfoongaaGreatDoor.D15, ty1, ty2, ty3, ty4, ty22, ty23, ty25]
    refine ⟨_, .cons _ _ _ _ (.agg _ _ (.cons _ _ _ _ (.same _ (.lst _ _)) (.cons _ _ _ _ (.rows (S.length + 2) 6 0 6 6 1 _ (rowsA 6 6 (dgF Dd 6)) (by omega) bo ?_ (rowsA_nmd 0 6 6 _) (by simp [evO_len])) .nil))) (.cons _ _ _ _ (.same _ (.bool _)) .nil), by simp [packA, Bool.or_assoc], by simp⟩
    rw [List.drop_zero, List.take_of_length_le (by simp [evO_len])]
    exact fin_ev (by omega) br 6 (by omega)
end Go.Proofs.YtdknnaalfoongaaGreatDoor
