/- The document's answer (chapter 7): sums and differences. -/
import Derived.Test.YtdknnaalfoongaaGreatDoorV4
import Derived.Test.YtdknnaalfoongaaGreatDoorEvV
set_option linter.unusedSimpArgs false
set_option linter.unusedVariables false
set_option maxRecDepth 100000
set_option maxHeartbeats 4000000
namespace Go.Proofs.YtdknnaalfoongaaGreatDoor
/-! an own slice, and blocks behind it -/
section
variable {S T P : Heap} {a b c : Option Blk} {v : Nat} {x : Blk}
theorem tail_set (h : S ++ a :: T = P) (L : Heap) (b : Option Blk) : (P ++ L).set S.length b = P.set S.length b ++ L := by
  rw [List.set_append_left]; rw [← h]; simp
theorem tail_blk (h : S ++ some x :: T = P) (L : Heap) (hv : x.ver = v) : blkAt (P ++ L) S.length v = some x := by
  subst hv
  rw [← h, List.append_assoc, blkAt_app0]; simp [blkAt]
theorem tail_blk0 (h : S ++ some x :: T = P) (hv : x.ver = v) : blkAt P S.length v = some x := by
  subst hv
  rw [← h, blkAt_app0]; simp [blkAt]
theorem tail_may (h : S ++ a :: T = P) (vs : List AV) : mayStore S.length P.length vs = True := by
  simp only [mayStore, eq_iff_iff, iff_true]; left; rw [← h]; simp
theorem tail_may2 (h : S ++ a :: T = P) (j : Nat) (vs : List AV) : mayStore S.length (P.length + j) vs = True := by
  simp only [mayStore, eq_iff_iff, iff_true]; left; rw [← h]; simp; omega
theorem tail_step (h : S ++ a :: T = P) : S ++ b :: (T ++ [c]) = P.set S.length b ++ [c] := by
  rw [← h, set_app0]; simp
theorem tail_take (h : S ++ a :: T = P) : P.take S.length = S := by rw [← h]; simp
end
theorem inI_len {x : Int} (h : inI x) : lenD x.natAbs ≤ 20 := (lenD_le _ _).2 (by unfold inI at h; omega)
theorem inI_getD {l : List Int} (h : ∀ x ∈ l, inI x) (i : Nat) : inI (l.getD i 0) := by
  rcases Nat.lt_or_ge i l.length with h1 | h1
  · rw [List.getD_eq_getElem?_getD, List.getElem?_eq_getElem h1]; exact h _ (List.getElem_mem h1)
  · rw [List.getD_eq_getElem?_getD, List.getElem?_eq_none h1]; simp [inI]
theorem getA_lst {l : List Int} {i : Nat} (h : i < l.length) : (l.map fun x => AV.int .i64 x)[i]? = some (.int .i64 (l.getD i 0)) := by simp [List.getD_eq_getElem?_getD, List.getElem?_eq_getElem h]
def sgn (less : Bool) (y : Int) : Int := bif less then -y else y
noncomputable def c84 : Code := Tryz.f84.body.getD .skip
theorem b84 : Tryz.f84.body = some c84 := rfl
theorem d84 : fnOk Tryz.f84 c84 = true := by kernel_rfl
def D84 : Nat → List Tag
  | 6 => [.pure, .pure, .pure, .quiet, .quiet, .pure, .pure, .pure, .quiet, .quiet, .quiet, .fresh, .seq]
  | 8 => [.pure, .pure, .pure, .quiet, .quiet, .pure, .pure, .pure, .quiet, .seq, .seq, .seq]
  | _ => []
theorem e84 : drawsOk D84 c84 = true := by kernel_rfl
theorem refAdd_ok (l r : List Int) (less : Bool) (S : Heap) (hl : l.length ≤ 100) (hlr : r.length = l.length) (h1 : ∀ x ∈ l, inI x) (h2 : ∀ x ∈ r, inI x) :
    Call theE 84 [lstI l, lstI r, .bool less] S (.tup [lstI (preL (fun i => bndI (l.getD i 0 + sgn less (r.getD i 0))) l.length), .bool (preO (fun i => ovrB (l.getD i 0 + sgn less (r.getD i 0))) l.length)]) S := by
  have hd2 : ∀ i S, Call theE 67 [decA (l.getD i 0 + sgn less (r.getD i 0))] S (.tup [.int .i64 ((fun i => bndI (l.getD i 0 + sgn less (r.getD i 0))) i), .bool ((fun i => ovrB (l.getD i 0 + sgn less (r.getD i 0))) i)]) S := fun i S => by
    have la := inI_len (inI_getD h1 i)
    have lb := inI_len (inI_getD h2 i)
    refine decBound_ok _ S (Nat.le_trans (lenD_mono (show (l.getD i 0 + sgn less (r.getD i 0)).natAbs ≤ (l.getD i 0).natAbs + (r.getD i 0).natAbs by unfold sgn; cases less <;> simp only [cond_true, cond_false] <;> omega) (lenD_add la lb)) (by omega))
  generalize (fun i => bndI (l.getD i 0 + sgn less (r.getD i 0))) = F at *
  generalize (fun i => ovrB (l.getD i 0 + sgn less (r.getD i 0))) = G at *
  simp only [decA, lstI] at hd2
  refine Call.ofC Tryz.func84 YtdknnaalfoongaaGreatDoor.b84 YtdknnaalfoongaaGreatDoor.d84 YtdknnaalfoongaaGreatDoor.e84 (by simp [Tryz.f84]) ?_
  dsimp only [YtdknnaalfoongaaGreatDoor.c84, Tryz.f84, Option.getD_some]
  simp (maxSteps := 2000000) only [wk0, wk1, wk2, wk3, wk4, wk5, wk6, Fr.ev, Fr.put, Fr.get, storeA, List.replicate, IntKind.bits, sevalprocAttr, lstI, YtdknnaalfoongaaGreatDoor.D84, ty1, ty2, ty3, ty4, ty22, ty115]
  refine loopC_ind (fun m fr H => ∃ (i cap : Nat) (T : Heap), i + m = l.length ∧ fr.get 0 = .lst (l.map fun x => .int .i64 x) l.length ∧ fr.get 1 = .lst (r.map fun x => .int .i64 x) r.length ∧ fr.get 2 = .bool less ∧ fr.get 8 = .sl S.length i 0 i cap 1 ∧ fr.get 9 = .bool (preO G i) ∧ fr.get 10 = .int .i64 (i : Int) ∧
    S ++ some ⟨(preL F i).map fun x => .int .i64 x, i⟩ :: T = H) ?_ (n := l.length) ⟨0, 0, [], by omega, rfl, rfl, rfl, rfl, rfl, rfl, rfl⟩
  rintro m fr P ⟨i, cap, T, him, g0, g1, g2, g8, g9, g10, hP⟩ ih
  have cl := preL_len F i
  have tb := fun L => tail_blk hP L rfl
  have tb0 := tail_blk0 hP rfl
  have ts := fun L b => tail_set hP L b
  have tm := fun vs => tail_may hP vs
  by_cases hi : (i : Int) < l.length
  · have hin : i < l.length := by omega
    have hir : (i : Int) < r.length := by omega
    have p1 : (0 : Int) ≤ i := by omega
    have cs := preL_app F i
    have a1 : (i + 1) * 8 ≤ maxBytes := by unfold maxBytes; omega
    have a2 : i + 1 ≤ 9223372036854775807 := by omega
    have wi : IntKind.i64.wrap ((i : Int) + 1) = ((i + 1 : Nat) : Int) := wrapI (by omega)
    have ga := getA_lst hin
    have gb := getA_lst (show i < r.length by omega)
    have hdi := fun S => hd2 i S
    have an := preO_succ G i
    have ia := inI_getD h1 i
    have ib := inI_getD h2 i
    generalize l.getD i 0 = x at *
    generalize r.getD i 0 = y at *
    have lx := inI_len ia
    have ly := inI_len ib
    have o1 := fun S => decOf_ok x S ia
    have o2 := fun S => decOf_ok y S ib
    have s1 := fun S => decAdd_ok x y S (by omega) (by omega)
    have s2 := fun S => decSub_ok x y S (by omega) (by omega)
    simp only [decA, lstI] at o1 o2 s1 s2
    cases less
    · simp only [sgn, cond_false] at hdi
      simp (maxSteps := 2000000) only [wk0, wk1, wk2, wk3, wk4, wk5, wk6, Fr.ev, Fr.put, Fr.get, storeA, List.replicate, IntKind.bits, sevalprocAttr, gor, g0, g1, g2, g8, g9, g10, hi, hir, p1, ga, gb, Int.toNat_natCast, Nat.mul_one, tb, tb0, ts, tm, cl, cs, a1, a2, wi, List.length_map, YtdknnaalfoongaaGreatDoor.D84, ty1, ty2, ty3, ty4, ty22, ty115]
      refine callThen_of (o1 _) ?_
      simp (maxSteps := 2000000) only [wk0, wk1, wk2, wk3, wk4, wk5, wk6, Fr.ev, Fr.put, Fr.get, storeA, List.replicate, IntKind.bits, sevalprocAttr, gor, g0, g1, g2, g8, g9, g10, hi, hir, p1, ga, gb, Int.toNat_natCast, Nat.mul_one, tb, tb0, ts, tm, cl, cs, a1, a2, wi, List.length_map, YtdknnaalfoongaaGreatDoor.D84, ty1, ty2, ty3, ty4, ty22, ty115]
      refine callThen_of (o2 _) ?_
      simp (maxSteps := 2000000) only [wk0, wk1, wk2, wk3, wk4, wk5, wk6, Fr.ev, Fr.put, Fr.get, storeA, List.replicate, IntKind.bits, sevalprocAttr, gor, g0, g1, g2, g8, g9, g10, hi, hir, p1, ga, gb, Int.toNat_natCast, Nat.mul_one, tb, tb0, ts, tm, cl, cs, a1, a2, wi, List.length_map, YtdknnaalfoongaaGreatDoor.D84, ty1, ty2, ty3, ty4, ty22, ty115]
      refine callThen_of (s1 _) ?_
      simp (maxSteps := 2000000) only [wk0, wk1, wk2, wk3, wk4, wk5, wk6, Fr.ev, Fr.put, Fr.get, storeA, List.replicate, IntKind.bits, sevalprocAttr, gor, g0, g1, g2, g8, g9, g10, hi, hir, p1, ga, gb, Int.toNat_natCast, Nat.mul_one, tb, tb0, ts, tm, cl, cs, a1, a2, wi, List.length_map, YtdknnaalfoongaaGreatDoor.D84, ty1, ty2, ty3, ty4, ty22, ty115]
      refine callThen_of (hdi _) ?_
      simp (maxSteps := 2000000) only [wk0, wk1, wk2, wk3, wk4, wk5, wk6, Fr.ev, Fr.put, Fr.get, storeA, List.replicate, IntKind.bits, sevalprocAttr, gor, g0, g1, g2, g8, g9, g10, hi, hir, p1, ga, gb, Int.toNat_natCast, Nat.mul_one, tb, tb0, ts, tm, cl, cs, a1, a2, wi, List.length_map, YtdknnaalfoongaaGreatDoor.D84, ty1, ty2, ty3, ty4, ty22, ty115]
      refine ih (m - 1) _ _ (by omega) ⟨i + 1, i + 1, _, by omega, ?_, ?_, ?_, ?_, ?_, ?_, tail_step hP⟩
      · simp [Fr.get, g0]
      · simp [Fr.get, g1]
      · simp [Fr.get, g2]
      · simp [Fr.get]
      · simp [Fr.get, an]
      · simp [Fr.get]
    · simp only [sgn, cond_true, ← Int.sub_eq_add_neg] at hdi
      simp (maxSteps := 2000000) only [wk0, wk1, wk2, wk3, wk4, wk5, wk6, Fr.ev, Fr.put, Fr.get, storeA, List.replicate, IntKind.bits, sevalprocAttr, gor, g0, g1, g2, g8, g9, g10, hi, hir, p1, ga, gb, Int.toNat_natCast, Nat.mul_one, tb, tb0, ts, tm, cl, cs, a1, a2, wi, List.length_map, YtdknnaalfoongaaGreatDoor.D84, ty1, ty2, ty3, ty4, ty22, ty115]
      refine callThen_of (o1 _) ?_
      simp (maxSteps := 2000000) only [wk0, wk1, wk2, wk3, wk4, wk5, wk6, Fr.ev, Fr.put, Fr.get, storeA, List.replicate, IntKind.bits, sevalprocAttr, gor, g0, g1, g2, g8, g9, g10, hi, hir, p1, ga, gb, Int.toNat_natCast, Nat.mul_one, tb, tb0, ts, tm, cl, cs, a1, a2, wi, List.length_map, YtdknnaalfoongaaGreatDoor.D84, ty1, ty2, ty3, ty4, ty22, ty115]
      refine callThen_of (o2 _) ?_
      simp (maxSteps := 2000000) only [wk0, wk1, wk2, wk3, wk4, wk5, wk6, Fr.ev, Fr.put, Fr.get, storeA, List.replicate, IntKind.bits, sevalprocAttr, gor, g0, g1, g2, g8, g9, g10, hi, hir, p1, ga, gb, Int.toNat_natCast, Nat.mul_one, tb, tb0, ts, tm, cl, cs, a1, a2, wi, List.length_map, YtdknnaalfoongaaGreatDoor.D84, ty1, ty2, ty3, ty4, ty22, ty115]
      refine callThen_of (s1 _) ?_
      simp (maxSteps := 2000000) only [wk0, wk1, wk2, wk3, wk4, wk5, wk6, Fr.ev, Fr.put, Fr.get, storeA, List.replicate, IntKind.bits, sevalprocAttr, gor, g0, g1, g2, g8, g9, g10, hi, hir, p1, ga, gb, Int.toNat_natCast, Nat.mul_one, tb, tb0, ts, tm, cl, cs, a1, a2, wi, List.length_map, YtdknnaalfoongaaGreatDoor.D84, ty1, ty2, ty3, ty4, ty22, ty115]
      refine callThen_of (o1 _) ?_
      simp (maxSteps := 2000000) only [wk0, wk1, wk2, wk3, wk4, wk5, wk6, Fr.ev, Fr.put, Fr.get, storeA, List.replicate, IntKind.bits, sevalprocAttr, gor, g0, g1, g2, g8, g9, g10, hi, hir, p1, ga, gb, Int.toNat_natCast, Nat.mul_one, tb, tb0, ts, tm, cl, cs, a1, a2, wi, List.length_map, YtdknnaalfoongaaGreatDoor.D84, ty1, ty2, ty3, ty4, ty22, ty115]
      refine callThen_of (o2 _) ?_
      simp (maxSteps := 2000000) only [wk0, wk1, wk2, wk3, wk4, wk5, wk6, Fr.ev, Fr.put, Fr.get, storeA, List.replicate, IntKind.bits, sevalprocAttr, gor, g0, g1, g2, g8, g9, g10, hi, hir, p1, ga, gb, Int.toNat_natCast, Nat.mul_one, tb, tb0, ts, tm, cl, cs, a1, a2, wi, List.length_map, YtdknnaalfoongaaGreatDoor.D84, ty1, ty2, ty3, ty4, ty22, ty115]
      refine callThen_of (s2 _) ?_
      simp (maxSteps := 2000000) only [wk0, wk1, wk2, wk3, wk4, wk5, wk6, Fr.ev, Fr.put, Fr.get, storeA, List.replicate, IntKind.bits, sevalprocAttr, gor, g0, g1, g2, g8, g9, g10, hi, hir, p1, ga, gb, Int.toNat_natCast, Nat.mul_one, tb, tb0, ts, tm, cl, cs, a1, a2, wi, List.length_map, YtdknnaalfoongaaGreatDoor.D84, ty1, ty2, ty3, ty4, ty22, ty115]
      refine callThen_of (hdi _) ?_
      simp (maxSteps := 2000000) only [wk0, wk1, wk2, wk3, wk4, wk5, wk6, Fr.ev, Fr.put, Fr.get, storeA, List.replicate, IntKind.bits, sevalprocAttr, gor, g0, g1, g2, g8, g9, g10, hi, hir, p1, ga, gb, Int.toNat_natCast, Nat.mul_one, tb, tb0, ts, tm, cl, cs, a1, a2, wi, List.length_map, YtdknnaalfoongaaGreatDoor.D84, ty1, ty2, ty3, ty4, ty22, ty115]
      refine ih (m - 1) _ _ (by omega) ⟨i + 1, i + 1, _, by omega, ?_, ?_, ?_, ?_, ?_, ?_, tail_step hP⟩
      · simp [Fr.get, g0]
      · simp [Fr.get, g1]
      · simp [Fr.get, g2]
      · simp [Fr.get]
      · simp [Fr.get, an]
      · simp [Fr.get]
  · obtain rfl : i = l.length := by omega
    simp (maxSteps := 2000000) only [wk0, wk1, wk2, wk3, wk4, wk5, wk6, Fr.ev, Fr.put, Fr.get, storeA, List.replicate, IntKind.bits, sevalprocAttr, g0, g1, g8, g9, g10, hi, YtdknnaalfoongaaGreatDoor.D84, ty1, ty2, ty3, ty4, ty22, ty115]
    refine retB_two ?_ (.same _ (.bool _)) (tail_take hP).symm
    have h := fin_sl (base := S.length) (id := S.length) (ver := l.length) (cap := cap) (u := l.length) (L := preL F l.length) (H := P) (Nat.le_refl _) tb0
    rw [cl] at h
    exact h
end Go.Proofs.YtdknnaalfoongaaGreatDoor
