/- polar: a tally, and what is kept in it; how exact a place is. -/
import Derived.Test.YtoncolpkpgbfiaaDoorU2
set_option linter.unusedSimpArgs false
set_option linter.unusedVariables false
set_option maxRecDepth 100000
set_option maxHeartbeats 4000000
namespace Go.Proofs.YtoncolpkpgbfiaaDoor
def tlA (o : Bool) : Option Blk := some ⟨[.bool o, .nili], 0⟩
theorem tl_same {H : Heap} {q : Nat} {o p : Bool} (h : blkAt H q 0 = tlA o) : sameBut H (H.set q (tlA p)) := sameBut_set h rfl rfl
theorem tl_set {S : Heap} {q : Nat} {x : Option Blk} (h : q < S.length) (L : Heap) : (S ++ L).set q x = S.set q x ++ L := List.set_append_left _ _ h
theorem tl_blk {S : Heap} {q : Nat} {o : Bool} (h : q < S.length) (L : Heap) : blkAt (S.set q (tlA o) ++ L) q 0 = tlA o := blk_app (blkD_self h)
noncomputable def c35 : Code := Tryd.f35.body.getD .skip
theorem b35 : Tryd.f35.body = some c35 := rfl
theorem d35 : fnOk Tryd.f35 c35 = true := by kernel_rfl
def D35 : Nat → List Tag := fun _ => []
theorem e35 : drawsOk D35 c35 = true := by kernel_rfl
noncomputable def c71 : Code := Tryd.f71.body.getD .skip
theorem b71 : Tryd.f71.body = some c71 := rfl
theorem d71 : fnOk Tryd.f71 c71 = true := by kernel_rfl
def D71 : Nat → List Tag := fun _ => []
theorem e71 : drawsOk D71 c71 = true := by kernel_rfl
noncomputable def c33 : Code := Tryd.f33.body.getD .skip
theorem b33 : Tryd.f33.body = some c33 := rfl
theorem d33 : fnOk Tryd.f33 c33 = true := by kernel_rfl
def D33 : Nat → List Tag
  | 1 => [.pure, .pure, .quiet, .mark, .pure, .pure, .pure, .pure, .pure, .look, .pure, .seq, .seq, .pure, .pure]
  | _ => []
theorem e33 : drawsOk D33 c33 = true := by kernel_rfl
noncomputable def c30 : Code := Tryd.f30.body.getD .skip
theorem b30 : Tryd.f30.body = some c30 := rfl
theorem d30 : fnOk Tryd.f30 c30 = true := by kernel_rfl
def D30 : Nat → List Tag := fun _ => []
theorem e30 : drawsOk D30 c30 = true := by kernel_rfl
noncomputable def c10 : Code := Tryd.f10.body.getD .skip
theorem b10 : Tryd.f10.body = some c10 := rfl
theorem d10 : fnOk Tryd.f10 c10 = true := by kernel_rfl
def D10 : Nat → List Tag
  | 5 => [.pure, .pure, .pure, .pure, .pure, .seq, .pure, .pure, .pure]
  | _ => []
theorem e10 : drawsOk D10 c10 = true := by kernel_rfl
noncomputable def c31 : Code := Tryd.f31.body.getD .skip
theorem b31 : Tryd.f31.body = some c31 := rfl
theorem d31 : fnOk Tryd.f31 c31 = true := by kernel_rfl
def D31 : Nat → List Tag := fun _ => []
theorem e31 : drawsOk D31 c31 = true := by kernel_rfl
noncomputable def c7 : Code := Tryd.f7.body.getD .skip
theorem b7 : Tryd.f7.body = some c7 := rfl
theorem d7 : fnOk Tryd.f7 c7 = true := by kernel_rfl
def D7 : Nat → List Tag
  | 14 => [.quiet, .pure, .pure, .pure, .peek, .pure, .pure, .pure, .peek, .lay, .pure, .pure]
  | _ => []
theorem e7 : drawsOk D7 c7 = true := by kernel_rfl
theorem polarDot_ok (v u : AV) (l r : List Int) (n : Nat) (q : Nat) (o : Bool) (S : Heap) (hv : SlI S v l) (hu : SlI S u r) (hn : n ≤ 62) (hlr : l.length = r.length) (hl : l.length ≤ 64) (hl' : ∀ x ∈ l, inI x) (hr' : ∀ x ∈ r, inI x) (hq : blkAt S q 0 = tlA o) :
    Call theE 35 [.ptr q 0 0, v, u, .int .i64 n] S (.int .i64 (bndI (rnd (dotZ l r) (2 ^ n)))) (S.set q (tlA (o || ovrB (rnd (dotZ l r) (2 ^ n))))) := by
  have c1 := hv.mv
  have c2 := hu.mv
  have d := dot_ok v u l r n S hv hu hn hlr hl hl' hr'
  have lq := blk_lt hq
  generalize bndI (rnd (dotZ l r) (2 ^ n)) = x at *
  generalize ovrB (rnd (dotZ l r) (2 ^ n)) = p at *
  unfold tlA at *
  have ms : ∀ b : Bool, mayStore S.length q [.bool b] = True := fun b => by simp [mayStore, nmd_bool]
  refine Call.ofC Tryd.func35 YtoncolpkpgbfiaaDoor.b35 YtoncolpkpgbfiaaDoor.d35 YtoncolpkpgbfiaaDoor.e35 (by simp [Tryd.f35]) ?_
  dsimp only [YtoncolpkpgbfiaaDoor.c35, Tryd.f35, Option.getD_some]
  simp (maxSteps := 2000000) only [wk0, wk1, wk2, wk3, wk4, wk5, wk6, Fr.ev, Fr.put, Fr.get, storeA, List.replicate, IntKind.bits, sevalprocAttr, c1, c2, hq, ms, gor, List.set_cons_zero, YtoncolpkpgbfiaaDoor.D35, ty1, ty2, ty3, ty4, ty30, ty42, ty80, ty82]
  refine callThen_of (d) ?_
  simp (maxSteps := 2000000) only [wk0, wk1, wk2, wk3, wk4, wk5, wk6, Fr.ev, Fr.put, Fr.get, storeA, List.replicate, IntKind.bits, sevalprocAttr, c1, c2, hq, ms, gor, List.set_cons_zero, YtoncolpkpgbfiaaDoor.D35, ty1, ty2, ty3, ty4, ty30, ty42, ty80, ty82]
  exact retB_plain (by simp [nmd_int]) rfl (by rw [List.take_of_length_le (by simp)])
theorem polarSquare_ok (n : Int) (q : Nat) (o : Bool) (S : Heap) (hn : inI n) (hq : blkAt S q 0 = tlA o) :
    Call theE 71 [.ptr q 0 0, .int .i64 n] S (.int .i64 (bndI (rnd (n * n) (2 ^ 20)))) (S.set q (tlA (o || ovrB (rnd (n * n) (2 ^ 20))))) := by
  have d := polarDot_ok _ _ [n] [n] 20 q o S (SlI.lst _) (SlI.lst _) (by omega) rfl (by simp) (by simpa using hn) (by simpa using hn) hq
  rw [show dotZ [n] [n] = n * n by simp [dotZ]] at d
  simp only [List.map_cons, List.map_nil, List.length_cons, List.length_nil, Nat.zero_add] at d
  generalize bndI (rnd (n * n) (2 ^ 20)) = x at *
  generalize ovrB (rnd (n * n) (2 ^ 20)) = p at *
  refine Call.ofC Tryd.func71 YtoncolpkpgbfiaaDoor.b71 YtoncolpkpgbfiaaDoor.d71 YtoncolpkpgbfiaaDoor.e71 (by simp [Tryd.f71]) ?_
  dsimp only [YtoncolpkpgbfiaaDoor.c71, Tryd.f71, Option.getD_some]
  simp (maxSteps := 2000000) only [wk0, wk1, wk2, wk3, wk4, wk5, wk6, Fr.ev, Fr.put, Fr.get, storeA, List.replicate, IntKind.bits, sevalprocAttr, YtoncolpkpgbfiaaDoor.D71, ty1, ty2, ty3, ty42, ty80]
  refine callThen_of (d) ?_
  simp (maxSteps := 2000000) only [wk0, wk1, wk2, wk3, wk4, wk5, wk6, Fr.ev, Fr.put, Fr.get, storeA, List.replicate, IntKind.bits, sevalprocAttr, YtoncolpkpgbfiaaDoor.D71, ty1, ty2, ty3, ty42, ty80]
  exact retB_plain (by simp [nmd_int]) rfl (by rw [List.take_of_length_le (by simp)])
def poA (R : Int) : Int := bndI (rnd (R * R) (2 ^ 20))
def poD (far T : Int) : Int := bndI (rnd (far * T) (2 ^ 30))
def poB (far T : Int) : Int := bndI (rnd (poD far T * poD far T) (2 ^ 20))
def poO (R far T : Int) : Bool := (ovrB (rnd (R * R) (2 ^ 20)) || ovrB (rnd (far * T) (2 ^ 30))) || ovrB (rnd (poD far T * poD far T) (2 ^ 20))
theorem bndI_in (n : Int) : -4611686018427387903 ≤ bndI n ∧ bndI n ≤ 4611686018427387903 := by unfold bndI; omega
theorem polarSpread1_ok (R T far : Int) (q : Nat) (S : Heap) (hR : inI R) (hT : inI T) (hf : inI far) (hq : blkAt S q 0 = tlA false) :
    Call theE 33 [.ptr q 0 0, .agg [.int .i64 R, .int .i64 T], .int .i64 far] S (.tup [.int .i64 (poA R), .int .i64 (poB far T)]) (S.set q (tlA (poO R far T))) := by
  have lq := blk_lt hq
  have hD : inI (poD far T) := by have := bndI_in (rnd (far * T) (2 ^ 30)); unfold poD inI; omega
  have c1 := fun L => polarSquare_ok R q false (S ++ L) hR (blk_app hq)
  have c2 := fun (o : Bool) L => polarDot_ok _ _ [far] [T] 30 q o (S.set q (tlA o) ++ L) (SlI.lst _) (SlI.lst _) (by omega) rfl (by simp) (by simpa using hf) (by simpa using hT) (tl_blk lq L)
  have c3 := fun (o : Bool) L => polarSquare_ok (poD far T) q o (S.set q (tlA o) ++ L) hD (tl_blk lq L)
  rw [show dotZ [far] [T] = far * T by simp [dotZ]] at c2
  have lq2 : ∀ x : Option Blk, q < (S.set q x).length := fun x => by simpa using lq
  simp only [tl_set lq, tl_set (lq2 _), List.set_set, Bool.false_or, List.map_cons, List.map_nil, List.length_cons, List.length_nil, Nat.zero_add] at c1 c2 c3
  change ∀ L, Call theE _ _ _ (.int .i64 (poA R)) _ at c1
  change ∀ (o : Bool) L, Call theE _ [_, _, _, .int .i64 30] _ (.int .i64 (poD far T)) _ at c2
  change ∀ (o : Bool) L, Call theE _ _ _ (.int .i64 (poB far T)) _ at c3
  have sb1 := fun (o : Bool) (L : Heap) => show sameBut (S ++ L) (S.set q (tlA o) ++ L) = True from eq_true (sameBut_app L (tl_same hq))
  have sb2 := fun (o p : Bool) (L : Heap) => show sameBut (S.set q (tlA o) ++ L) (S.set q (tlA p) ++ L) = True from eq_true (by
    have := tl_same (p := p) (tl_blk (o := o) lq L)
    rw [tl_set (lq2 _), List.set_set] at this
    exact this)
  have fin := fun (x : Option Blk) (L : Heap) => show S.set q x = (S.set q x ++ L).take S.length by
    rw [List.take_left' (by simp)]
  have bx := fun (x : Option Blk) (L : Heap) => show blkAt (S.set q x ++ L) S.length 0 = blkAt L 0 0 by
    have := blkAt_app0 (S := S.set q x) (L := L) (v := 0)
    rwa [List.length_set] at this
  unfold poO
  generalize poA R = a at *
  generalize poB far T = b at *
  generalize poD far T = d at *
  generalize ovrB (rnd (R * R) (2 ^ 20)) = o1 at *
  generalize ovrB (rnd (far * T) (2 ^ 30)) = o2 at *
  generalize ovrB (rnd (d * d) (2 ^ 20)) = o3 at *
  refine Call.ofC Tryd.func33 YtoncolpkpgbfiaaDoor.b33 YtoncolpkpgbfiaaDoor.d33 YtoncolpkpgbfiaaDoor.e33 (by simp [Tryd.f33]) ?_
  dsimp only [YtoncolpkpgbfiaaDoor.c33, Tryd.f33, Option.getD_some]
  simp (maxSteps := 2000000) only [wk0, wk1, wk2, wk3, wk4, wk5, wk6, Fr.ev, Fr.put, Fr.get, storeA, List.replicate, IntKind.bits, sevalprocAttr, sb1, sb2, bx, YtoncolpkpgbfiaaDoor.D33, ty1, ty2, ty3, ty33, ty42, ty80]
  refine callThen_of (c1 _) ?_
  simp (maxSteps := 2000000) only [wk0, wk1, wk2, wk3, wk4, wk5, wk6, Fr.ev, Fr.put, Fr.get, storeA, List.replicate, IntKind.bits, sevalprocAttr, sb1, sb2, bx, YtoncolpkpgbfiaaDoor.D33, ty1, ty2, ty3, ty33, ty42, ty80]
  refine callThen_of (c2 _ _) ?_
  simp (maxSteps := 2000000) only [wk0, wk1, wk2, wk3, wk4, wk5, wk6, Fr.ev, Fr.put, Fr.get, storeA, List.replicate, IntKind.bits, sevalprocAttr, sb1, sb2, bx, YtoncolpkpgbfiaaDoor.D33, ty1, ty2, ty3, ty33, ty42, ty80]
  refine callThen_of (c3 _ _) ?_
  simp (maxSteps := 2000000) only [wk0, wk1, wk2, wk3, wk4, wk5, wk6, Fr.ev, Fr.put, Fr.get, storeA, List.replicate, IntKind.bits, sevalprocAttr, sb1, sb2, bx, YtoncolpkpgbfiaaDoor.D33, ty1, ty2, ty3, ty33, ty42, ty80]
  exact retB_plain (by simp [nmd_int]) rfl (fin _ _)
def mayS (R T : Int) : Prop := (1 ≤ R ∧ R ≤ 17179869184) ∧ 1 ≤ T ∧ T ≤ 268435456
instance (R T : Int) : Decidable (mayS R T) := by unfold mayS; exact inferInstance
theorem polarCheck_ok (R T : Int) (S : Heap) (h : mayS R T) : Call theE 30 [.agg [.int .i64 R, .int .i64 T]] S .nili S := by
  obtain ⟨⟨h1, h2⟩, h3, h4⟩ := h
  have k1 : ¬ R < 1 := by omega
  have k2 : ¬ 17179869184 < R := by omega
  have k3 : ¬ T < 1 := by omega
  have k4 : ¬ 268435456 < T := by omega
  refine Call.ofC Tryd.func30 YtoncolpkpgbfiaaDoor.b30 YtoncolpkpgbfiaaDoor.d30 YtoncolpkpgbfiaaDoor.e30 (by simp [Tryd.f30]) ?_
  dsimp only [YtoncolpkpgbfiaaDoor.c30, Tryd.f30, Option.getD_some]
  simp (maxSteps := 2000000) only [wk0, wk1, wk2, wk3, wk4, wk5, wk6, Fr.ev, Fr.put, Fr.get, storeA, List.replicate, IntKind.bits, sevalprocAttr, k1, k2, k3, k4, decide_false, YtoncolpkpgbfiaaDoor.D30, ty1, ty2, ty4, ty30, ty33, ty75]
  exact retB_plain (by simp [nmd_nili]) rfl (by simp)
theorem polarCheck_bad (R T : Int) (S : Heap) (h : ¬ mayS R T) : Call theE 30 [.agg [.int .i64 R, .int .i64 T]] S (errA 1) S := by
  unfold mayS at h
  refine Call.ofC Tryd.func30 YtoncolpkpgbfiaaDoor.b30 YtoncolpkpgbfiaaDoor.d30 YtoncolpkpgbfiaaDoor.e30 (by simp [Tryd.f30]) ?_
  dsimp only [YtoncolpkpgbfiaaDoor.c30, Tryd.f30, Option.getD_some]
  by_cases k1 : R < 1
  · simp (maxSteps := 2000000) only [wk0, wk1, wk2, wk3, wk4, wk5, wk6, Fr.ev, Fr.put, Fr.get, storeA, List.replicate, IntKind.bits, sevalprocAttr, k1, decide_true, YtoncolpkpgbfiaaDoor.D30, ty1, ty2, ty4, ty30, ty33, ty75]
    exact retB_plain (by simp [nmd_ifc, nmd_int]) rfl (by simp)
  · by_cases k2 : 17179869184 < R
    · simp (maxSteps := 2000000) only [wk0, wk1, wk2, wk3, wk4, wk5, wk6, Fr.ev, Fr.put, Fr.get, storeA, List.replicate, IntKind.bits, sevalprocAttr, k1, k2, decide_true, decide_false, YtoncolpkpgbfiaaDoor.D30, ty1, ty2, ty4, ty30, ty33, ty75]
      exact retB_plain (by simp [nmd_ifc, nmd_int]) rfl (by simp)
    · by_cases k3 : T < 1
      · simp (maxSteps := 2000000) only [wk0, wk1, wk2, wk3, wk4, wk5, wk6, Fr.ev, Fr.put, Fr.get, storeA, List.replicate, IntKind.bits, sevalprocAttr, k1, k2, k3, decide_true, decide_false, YtoncolpkpgbfiaaDoor.D30, ty1, ty2, ty4, ty30, ty33, ty75]
        exact retB_plain (by simp [nmd_ifc, nmd_int]) rfl (by simp)
      · have k4 : 268435456 < T := by omega
        simp (maxSteps := 2000000) only [wk0, wk1, wk2, wk3, wk4, wk5, wk6, Fr.ev, Fr.put, Fr.get, storeA, List.replicate, IntKind.bits, sevalprocAttr, k1, k2, k3, k4, decide_true, decide_false, YtoncolpkpgbfiaaDoor.D30, ty1, ty2, ty4, ty30, ty33, ty75]
        exact retB_plain (by simp [nmd_ifc, nmd_int]) rfl (by simp)
theorem polarSpread_ok (R T far : Int) (S : Heap) (h : mayS R T) (hf : 0 ≤ far ∧ far ≤ 1099511627776) : Call theE 10 [.agg [.int .i64 R, .int .i64 T], .int .i64 far] S (.tup [.int .i64 (poA R), .int .i64 (poB far T), .nili]) S := by
  have c := fun S => polarCheck_ok R T S h
  unfold mayS at h
  have p1 : ¬ far < 0 := by omega
  have p2 : ¬ 1099511627776 < far := by omega
  have s := fun (x : Option Blk) => polarSpread1_ok R T far (S.length + 1) (S ++ [x, tlA false]) (by unfold inI; omega) (by unfold inI; omega) (by unfold inI; omega) (by rw [blkAt_app]; rfl)
  have e : ∀ (x y z : Option Blk), (S ++ [x, y]).set (S.length + 1) z = S ++ [x, z] := fun x y z => by rw [set_app]; rfl
  simp only [e] at s
  unfold tlA at s
  refine Call.ofC Tryd.func10 YtoncolpkpgbfiaaDoor.b10 YtoncolpkpgbfiaaDoor.d10 YtoncolpkpgbfiaaDoor.e10 (by simp [Tryd.f10]) ?_
  dsimp only [YtoncolpkpgbfiaaDoor.c10, Tryd.f10, Option.getD_some]
  simp (maxSteps := 2000000) only [wk0, wk1, wk2, wk3, wk4, wk5, wk6, Fr.ev, Fr.put, Fr.get, storeA, List.replicate, IntKind.bits, sevalprocAttr, p1, p2, YtoncolpkpgbfiaaDoor.D10, ty1, ty2, ty4, ty30, ty33, ty75, ty80, ty82]
  refine callThen_of (c _) ?_
  simp (maxSteps := 2000000) only [wk0, wk1, wk2, wk3, wk4, wk5, wk6, Fr.ev, Fr.put, Fr.get, storeA, List.replicate, IntKind.bits, sevalprocAttr, p1, p2, YtoncolpkpgbfiaaDoor.D10, ty1, ty2, ty4, ty30, ty33, ty75, ty80, ty82]
  refine callThen_of (s _) ?_
  simp (maxSteps := 2000000) only [wk0, wk1, wk2, wk3, wk4, wk5, wk6, Fr.ev, Fr.put, Fr.get, storeA, List.replicate, IntKind.bits, sevalprocAttr, p1, p2, YtoncolpkpgbfiaaDoor.D10, ty1, ty2, ty4, ty30, ty33, ty75, ty80, ty82]
  exact retB_plain (by simp [nmd_int, nmd_nili]) rfl (by simp)
theorem polarSpread_bad (R T far : Int) (S : Heap) (h : ¬ (mayS R T ∧ 0 ≤ far ∧ far ≤ 1099511627776)) : Call theE 10 [.agg [.int .i64 R, .int .i64 T], .int .i64 far] S (.tup [.int .i64 0, .int .i64 0, errA 1]) S := by
  refine Call.ofC Tryd.func10 YtoncolpkpgbfiaaDoor.b10 YtoncolpkpgbfiaaDoor.d10 YtoncolpkpgbfiaaDoor.e10 (by simp [Tryd.f10]) ?_
  dsimp only [YtoncolpkpgbfiaaDoor.c10, Tryd.f10, Option.getD_some]
  by_cases hm : mayS R T
  · have c := fun S => polarCheck_ok R T S hm
    by_cases p1 : far < 0
    · simp (maxSteps := 2000000) only [wk0, wk1, wk2, wk3, wk4, wk5, wk6, Fr.ev, Fr.put, Fr.get, storeA, List.replicate, IntKind.bits, sevalprocAttr, p1, YtoncolpkpgbfiaaDoor.D10, ty1, ty2, ty4, ty30, ty33, ty75, ty80, ty82]
      refine callThen_of (c _) ?_
      simp (maxSteps := 2000000) only [wk0, wk1, wk2, wk3, wk4, wk5, wk6, Fr.ev, Fr.put, Fr.get, storeA, List.replicate, IntKind.bits, sevalprocAttr, p1, YtoncolpkpgbfiaaDoor.D10, ty1, ty2, ty4, ty30, ty33, ty75, ty80, ty82]
      exact retB_plain (by simp [nmd_int, nmd_ifc]) rfl (by simp)
    · have p2 : 1099511627776 < far := by
        rcases Int.lt_or_le 1099511627776 far with h1 | h1
        · exact h1
        · exact absurd ⟨hm, by omega, h1⟩ h
      simp (maxSteps := 2000000) only [wk0, wk1, wk2, wk3, wk4, wk5, wk6, Fr.ev, Fr.put, Fr.get, storeA, List.replicate, IntKind.bits, sevalprocAttr, p1, p2, YtoncolpkpgbfiaaDoor.D10, ty1, ty2, ty4, ty30, ty33, ty75, ty80, ty82]
      refine callThen_of (c _) ?_
      simp (maxSteps := 2000000) only [wk0, wk1, wk2, wk3, wk4, wk5, wk6, Fr.ev, Fr.put, Fr.get, storeA, List.replicate, IntKind.bits, sevalprocAttr, p1, p2, YtoncolpkpgbfiaaDoor.D10, ty1, ty2, ty4, ty30, ty33, ty75, ty80, ty82]
      exact retB_plain (by simp [nmd_int, nmd_ifc]) rfl (by simp)
  · have c := fun S => polarCheck_bad R T S hm
    simp only [errA] at c
    simp (maxSteps := 2000000) only [wk0, wk1, wk2, wk3, wk4, wk5, wk6, Fr.ev, Fr.put, Fr.get, storeA, List.replicate, IntKind.bits, sevalprocAttr, YtoncolpkpgbfiaaDoor.D10, ty1, ty2, ty4, ty30, ty33, ty75, ty80, ty82]
    refine callThen_of (c _) ?_
    simp (maxSteps := 2000000) only [wk0, wk1, wk2, wk3, wk4, wk5, wk6, Fr.ev, Fr.put, Fr.get, storeA, List.replicate, IntKind.bits, sevalprocAttr, YtoncolpkpgbfiaaDoor.D10, ty1, ty2, ty4, ty30, ty33, ty75, ty80, ty82]
    exact retB_plain (by simp [nmd_int, nmd_ifc]) rfl (by simp)
theorem turnOf_ok (z : Int) (S : Heap) (h : 0 ≤ z ∧ z < 65536) : Call theE 31 [.int .u16 z] S (.int .u32 (65536 * z)) S := by
  have w1 : IntKind.u32.wrap z = z := by simp [IntKind.wrap, IntKind.bits, IntKind.signed] <;> omega
  have w2 : IntKind.u32.wrap (z * 65536) = 65536 * z := by simp [IntKind.wrap, IntKind.bits, IntKind.signed] <;> omega
  have m1 : min 16 32 = 16 := rfl
  refine Call.ofC Tryd.func31 YtoncolpkpgbfiaaDoor.b31 YtoncolpkpgbfiaaDoor.d31 YtoncolpkpgbfiaaDoor.e31 (by simp [Tryd.f31]) ?_
  dsimp only [YtoncolpkpgbfiaaDoor.c31, Tryd.f31, Option.getD_some]
  simp (maxSteps := 2000000) only [wk0, wk1, wk2, wk3, wk4, wk5, wk6, Fr.ev, Fr.put, Fr.get, storeA, List.replicate, IntKind.bits, sevalprocAttr, w1, w2, m1, YtoncolpkpgbfiaaDoor.D31, ty24, ty77, ty131]
  exact retB_plain (by simp [nmd_int]) rfl (by simp)
/-! the steps' pair stays small -/
def bndK : Nat → Int
  | 0 => 495056041134655927
  | k + 1 => bndK k + bndK k / 2 ^ k + 1
theorem bndK_pos (k : Nat) : 0 ≤ bndK k := by
  induction k with
  | zero => decide
  | succ k ih =>
    have : 0 ≤ bndK k / 2 ^ k := Int.ediv_nonneg ih (Int.le_of_lt (Int.pow_pos (by decide)))
    unfold bndK; omega
theorem bndK_le {k n : Nat} (h : k ≤ n) : bndK k ≤ bndK n := by
  induction n with
  | zero => obtain rfl : k = 0 := by omega
            exact Int.le_refl _
  | succ n ih =>
    rcases Nat.lt_or_ge n k with h1 | h1
    · obtain rfl : k = n + 1 := by omega
      exact Int.le_refl _
    · have h2 := ih h1
      have : 0 ≤ bndK n / 2 ^ n := Int.ediv_nonneg (bndK_pos n) (Int.le_of_lt (Int.pow_pos (by decide)))
      have e : bndK (n + 1) = bndK n + bndK n / 2 ^ n + 1 := rfl
      omega
theorem bndK_top {k : Nat} (h : k ≤ 40) : bndK k ≤ 4611686018427387904 := Int.le_trans (bndK_le h) (by decide +kernel)
theorem div_small {y B : Int} (k : Nat) (h : -B ≤ y ∧ y ≤ B) (hB : 0 ≤ B) : -(B / 2 ^ k + 1) ≤ y / 2 ^ k ∧ y / 2 ^ k ≤ B / 2 ^ k := by
  have hp : (0 : Int) < 2 ^ k := Int.pow_pos (by decide)
  have h1 := Int.ediv_le_ediv hp h.2
  have h2 := Int.ediv_le_ediv hp h.1
  have h3 : -(B / 2 ^ k) - 1 ≤ -B / 2 ^ k := by
    rw [Int.le_ediv_iff_mul_le hp]
    have e := Int.mul_ediv_add_emod B (2 ^ k)
    have e2 := Int.emod_lt_of_pos B hp
    rw [Int.sub_mul, Int.neg_mul, Int.one_mul, Int.mul_comm (B / 2 ^ k)]
    omega
  omega
theorem step_small (l : Bool) (k : Nat) (p : P3) (hk : k < 40) (hx : -bndK k ≤ p.x ∧ p.x ≤ bndK k) (hy : -bndK k ≤ p.y ∧ p.y ≤ bndK k) :
    (-bndK (k + 1) ≤ (stepP l k p).x ∧ (stepP l k p).x ≤ bndK (k + 1)) ∧ -bndK (k + 1) ≤ (stepP l k p).y ∧ (stepP l k p).y ≤ bndK (k + 1) := by
  have hB := bndK_pos k
  have hT := bndK_top (k := k + 1) (by omega)
  have d1 := div_small k hx hB
  have d2 := div_small k hy hB
  have e : bndK (k + 1) = bndK k + bndK k / 2 ^ k + 1 := rfl
  rw [e] at hT ⊢
  generalize bndK k / 2 ^ k = b at *
  generalize bndK k = B at *
  cases l
  · rw [stepP_right]
    simp only
    rw [wrapI (by omega), wrapI (by omega)]
    omega
  · rw [stepP_left]
    simp only
    rw [wrapI (by omega), wrapI (by omega)]
    omega
theorem run_small (z : Int) : (-4611686018427387904 ≤ (bothP z).x ∧ (bothP z).x ≤ 4611686018427387904) ∧ -4611686018427387904 ≤ (bothP z).y ∧ (bothP z).y ≤ 4611686018427387904 := by
  have key : ∀ k, k ≤ 40 → (-bndK k ≤ (runP (fun p => decide (0 ≤ p.z)) ⟨495056041134655927, 495056041134655927, z⟩ k).x ∧ (runP (fun p => decide (0 ≤ p.z)) ⟨495056041134655927, 495056041134655927, z⟩ k).x ≤ bndK k) ∧
      -bndK k ≤ (runP (fun p => decide (0 ≤ p.z)) ⟨495056041134655927, 495056041134655927, z⟩ k).y ∧ (runP (fun p => decide (0 ≤ p.z)) ⟨495056041134655927, 495056041134655927, z⟩ k).y ≤ bndK k := by
    intro k
    induction k with
    | zero =>
      intro _
      show (-495056041134655927 ≤ (495056041134655927 : Int) ∧ (495056041134655927 : Int) ≤ 495056041134655927) ∧ -495056041134655927 ≤ (495056041134655927 : Int) ∧ (495056041134655927 : Int) ≤ 495056041134655927
      omega
    | succ k ih =>
      intro hk
      obtain ⟨h1, h2⟩ := ih (by omega)
      exact step_small _ k _ (by omega) h1 h2
  have h := key 40 (by omega)
  have hT := bndK_top (k := 40) (by omega)
  unfold bothP
  omega
/-- What is rounded is no greater than what it was less than. -/
theorem rnd_le {z p C : Int} (hp : 0 < p) (h : -(C * p) ≤ z ∧ z ≤ C * p) : -C ≤ rnd z p ∧ rnd z p ≤ C := by
  have e1 := Int.mul_ediv_add_emod z p
  have e2 := Int.emod_nonneg z (show p ≠ 0 by omega)
  have e3 := Int.emod_lt_of_pos z hp
  have h1 : z / p ≤ C := Int.ediv_le_of_le_mul hp h.2
  have h2 : -C ≤ z / p := by rw [Int.le_ediv_iff_mul_le hp, Int.neg_mul]; exact h.1
  unfold rnd
  refine ⟨by split <;> omega, ?_⟩
  rcases Int.lt_or_eq_of_le h1 with h3 | h3
  · split <;> omega
  · have h4 : z % p = 0 := by
      rw [h3, Int.mul_comm] at e1
      omega
    rw [if_neg (by omega)]; omega
theorem r30_small {n : Int} (h : -4611686018427387904 ≤ n ∧ n ≤ 4611686018427387904) : -4294967296 ≤ r30 n ∧ r30 n ≤ 4294967296 := by
  have := rnd_le (z := n) (p := 2 ^ 30) (C := 4294967296) (by decide) (by omega)
  unfold r30 bndI
  omega
theorem sin_small (t : Int) : -4294967296 ≤ sinT t ∧ sinT t ≤ 4294967296 := by
  have h := run_small (bothZ t)
  have h1 : -4294967296 ≤ cosQ t ∧ cosQ t ≤ 4294967296 := r30_small h.1
  have h2 : -4294967296 ≤ sinQ t ∧ sinQ t ≤ 4294967296 := r30_small h.2
  unfold sinT
  split
  · omega
  · split
    · omega
    · split <;> omega
theorem cos_small (t : Int) : -4294967296 ≤ cosT t ∧ cosT t ≤ 4294967296 := by
  have h := run_small (bothZ t)
  have h1 : -4294967296 ≤ cosQ t ∧ cosQ t ≤ 4294967296 := r30_small h.1
  have h2 : -4294967296 ≤ sinQ t ∧ sinQ t ≤ 4294967296 := r30_small h.2
  unfold cosT
  split
  · omega
  · split
    · omega
    · split <;> omega
theorem prod_small {x y : Int} (hx : -4294967296 ≤ x ∧ x ≤ 4294967296) (hy : -4294967296 ≤ y ∧ y ≤ 4294967296) : -18446744073709551616 ≤ x * y ∧ x * y ≤ 18446744073709551616 := by
  have h := Int.natAbs_mul x y
  have h1 : x.natAbs * y.natAbs ≤ 4294967296 * 4294967296 := Nat.mul_le_mul (by omega) (by omega)
  omega
theorem ovr_prod {x y : Int} (hx : -4294967296 ≤ x ∧ x ≤ 4294967296) (hy : -4294967296 ≤ y ∧ y ≤ 4294967296) : ovrB (rnd (x * y) (2 ^ 30)) = false := by
  have h := prod_small hx hy
  have := rnd_le (z := x * y) (p := 2 ^ 30) (C := 17179869184) (by decide) (by omega)
  exact decide_eq_false (by omega)
end Go.Proofs.YtoncolpkpgbfiaaDoor
