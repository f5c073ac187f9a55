/- ldl: how far a vector is from nought; the logarithm. -/
import Derived.Test.YtoncolpkpgbfiaaDoorL3
import Derived.Test.YtoncolpkpgbfiaaDoorKG
import Derived.Test.YtoncolpkpgbfiaaDoorKM
set_option linter.unusedSimpArgs false
set_option linter.unusedVariables false
set_option maxRecDepth 100000
set_option maxHeartbeats 8000000
namespace Go.Proofs.YtoncolpkpgbfiaaDoor
/-- A slice of numbers that lies in S or nowhere: it stands whatever tally above S changes. -/
def VecS (S : Heap) (v : AV) (l : List Int) : Prop := ∀ L q, S.length ≤ q → VecQ (S ++ L) q v l
theorem VecS.lst (S : Heap) (l : List Int) : VecS S (.lst (l.map fun x => .int .i64 x) l.length) l := fun _ _ _ => VecQ.lst _ _ l
theorem VecS.own {S : Heap} {id cap ver : Nat} {l : List Int} (hb : blkAt S id ver = some ⟨l.map fun x => .int .i64 x, ver⟩) : VecS S (.sl id ver 0 l.length cap 1) l := fun L q hq => VecQ.own (blk_app hb) (by have := blk_lt hb; omega)
theorem VecS.more {S : Heap} {v : AV} {l : List Int} (h : VecS S v l) (L : Heap) : VecS (S ++ L) v l := fun L' q hq => by
  rw [List.append_assoc]
  exact h _ q (by simp at hq; omega)
theorem ldB_tl (n : Int) (G : List Int) : tallyC (ldB n G) = false := rfl
theorem set1 (S : Heap) (x y w : Option Blk) (L : Heap) : (S ++ x :: y :: L).set (S.length + 1) w = S ++ x :: w :: L := by rw [set_app]; rfl
theorem blk1 (S : Heap) (x y : Option Blk) (L : Heap) (v : Nat) : blkAt (S ++ x :: y :: L) (S.length + 1) v = blkAt [y] 0 v := by rw [blkAt_app]; rfl
theorem blk2 (S : Heap) (x y z : Option Blk) (L : Heap) (v : Nat) : blkAt (S ++ x :: y :: z :: L) (S.length + 2) v = blkAt [z] 0 v := by rw [blkAt_app]; rfl
theorem sb1 (S : Heap) (x : Option Blk) (L : Heap) (o p : Bool) : sameBut (S ++ x :: ttA o :: L) (S ++ x :: ttA p :: L) := by
  have h : blkAt (S ++ x :: ttA o :: L) (S.length + 1) 0 = ttA o := by rw [blk1]; rfl
  have := tt_same (p := p) h
  rwa [set1] at this
def faP (G Y : List Int) (i : Nat) : Int := divZ (bndI (rnd (Y.getD i 0 * Y.getD i 0) (2 ^ 20))) (G.getD (36 + i) 0) 20
def faS (G Y : List Int) : Nat → Int
  | 0 => 0
  | i + 1 => bndI (faS G Y i + - -bndI (faP G Y i))
def faT (G Y : List Int) (o : Bool) : Nat → Bool
  | 0 => o
  | i + 1 => ((faT G Y o i || ovrB (rnd (Y.getD i 0 * Y.getD i 0) (2 ^ 20))) || ovrB (faP G Y i)) || ovrB (faS G Y i + - -bndI (faP G Y i))
theorem faS_in (G Y : List Int) (i : Nat) : inI (faS G Y i) := by
  cases i
  · unfold faS inI; omega
  · exact bnd_in _
theorem okD_pos {n : Nat} {G : List Int} (h : FineF n G) {k : Nat} (hk : k < n) (hn : n ≤ 6) : 1 ≤ G.getD (36 + k) 0 ∧ G.getD (36 + k) 0 ≤ 4611686018427387903 := by
  have := h.2 k (by omega)
  unfold okD at this
  rwa [if_neg (by omega)] at this
noncomputable def c18 : Code := Tryd.f18.body.getD .skip
theorem b18 : Tryd.f18.body = some c18 := rfl
theorem d18 : fnOk Tryd.f18 c18 = true := by kernel_rfl
def D18 : Nat → List Tag
  | 8 => [.pure, .pure, .pure, .pure, .pure, .pure, .mark, .pure, .pure, .pure, .look, .seq, .pure]
  | 11 => [.pure, .pure, .pure, .pure, .seq, .pure, .pure, .pure]
  | _ => []
theorem e18 : drawsOk D18 c18 = true := by kernel_rfl
noncomputable def c42 : Code := Tryd.f42.body.getD .skip
theorem b42 : Tryd.f42.body = some c42 := rfl
theorem d42 : fnOk Tryd.f42 c42 = true := by kernel_rfl
def D42 : Nat → List Tag := fun _ => []
theorem e42 : drawsOk D42 c42 = true := by kernel_rfl
theorem down_new (n : Nat) (G : List Int) (v : AV) (l : List Int) (S : Heap) (hn : 1 ≤ n ∧ n ≤ 6) (hG : G.length = 42) (hin : ∀ x ∈ G, inI x) (hl : l.length = n) (hlin : ∀ x ∈ l, inI x) (hv : VecS S v l) :
    Call theE 50 [.ptr (S.length + 1) 0 0, .ptr S.length 0 0, v] (S ++ [some ⟨ldB n G, 0⟩, some ⟨[.bool false], 0⟩]) (.sl (S.length + 2) n 0 n n 1) (S ++ [some ⟨ldB n G, 0⟩, some ⟨[.bool (dnT n G l false n)], 0⟩, some ⟨(dnY n G l n).map fun x => .int .i64 x, n⟩]) := by
  have := ldlDown_ok n S.length (S.length + 1) G v l false (S ++ [some ⟨ldB n G, 0⟩, ttA false]) hn hG hin hl hlin (by omega) (by rw [blkAt_app0, blkAt_zero]) (by rw [blk1]; rfl) (hv _ _ (by omega))
  rw [set1] at this
  simpa [ttA] using this
theorem ldlFar_ok (n : Nat) (G : List Int) (v : AV) (l : List Int) (S : Heap) (hn : 1 ≤ n ∧ n ≤ 6) (hG : G.length = 42) (hin : ∀ x ∈ G, inI x) (hf : FineF n G) (hl : l.length = n) (hlin : ∀ x ∈ l, inI x) (hv : VecS S v l) :
    Call theE 18 [.agg (ldB n G), v] S (.tup [.int .i64 (faS G (dnY n G l n) n), .bool (faT G (dnY n G l n) (dnT n G l false n) n), .nili]) S := by
  have ck := fun S => ldlCheck_ok n G S hG hn .nili (.inl ⟨hf, rfl⟩)
  have gl : (ldB n G).length = 43 := by rw [ldB_len, hG]
  have g0 : (ldB n G)[0]? = some (.int .i64 n) := rfl
  have tl : List.take 43 (ldB n G) = ldB n G := List.take_of_length_le (by omega)
  have vm := ((hv [] S.length (Nat.le_refl _)).sl false).mv
  have vl := ((hv [] S.length (Nat.le_refl _)).sl false).ln
  have hl' : (l.length : Int) = n := by omega
  have dn := down_new n G v l S hn hG hin hl hlin hv
  have yl := dnY_len n G l n
  have yin := dnY_in n G l n
  generalize dnY n G l n = Y at *
  generalize dnT n G l false n = T at *
  refine Call.ofC Tryd.func18 YtoncolpkpgbfiaaDoor.b18 YtoncolpkpgbfiaaDoor.d18 YtoncolpkpgbfiaaDoor.e18 (by simp [Tryd.f18]) ?_
  dsimp only [YtoncolpkpgbfiaaDoor.c18, Tryd.f18, Option.getD_some]
  iterate 3
    simp (maxSteps := 2000000) only [wk0, wk1, wk2, wk3, wk4, wk5, wk6, Fr.ev, Fr.put, Fr.get, storeA, List.replicate, IntKind.bits, sevalprocAttr, gl, g0, tl, vm, vl, hl', decide_true, decide_false, YtoncolpkpgbfiaaDoor.D18, ty1, ty2, ty3, ty4, ty30, ty42, ty45, ty47, ty75, ty91, ty92, ty94]
    try first
      | refine callThen_of (ck _) ?_
      | refine callThen_of (dn) ?_
  refine loopC_ind (fun m fr H => ∃ i : Nat, i + m = n ∧ fr.get 2 = .ptr S.length 0 0 ∧ fr.get 7 = .ptr (S.length + 1) 0 0 ∧ fr.get 8 = .int .i64 (faS G Y i) ∧ fr.get 27 = .sl (S.length + 2) n 0 n n 1 ∧ fr.get 28 = .int .i64 n ∧ fr.get 29 = .int .i64 i ∧
    H = S ++ [some ⟨ldB n G, 0⟩, some ⟨[.bool (faT G Y T i)], 0⟩, some ⟨Y.map fun x => .int .i64 x, n⟩]) ?_ (n := n) ⟨0, by omega, rfl, rfl, rfl, rfl, rfl, rfl, rfl⟩
  rintro m fr H ⟨i, him, g2, g7, g8, g27, g28, g29, rfl⟩ ih
  by_cases hi : (i : Int) < n
  · have hin' : i < n := by omega
    have k1 : (0 : Int) ≤ i := by omega
    have k2 : (i : Int) < 6 := by omega
    have wi : IntKind.i64.wrap ((i : Int) + 1) = ((i + 1 : Nat) : Int) := wrapI (by omega)
    have gy := gm_at Y i (by omega)
    have ga : (ldB n G)[37 + i]? = some (.int .i64 (G.getD (36 + i) 0)) := by rw [← ldB_at n G (36 + i) (by omega), show 1 + (36 + i) = 37 + i by omega]
    have dp := okD_pos hf hin' hn.2
    have c1 := fun o L => ldlDot_ok _ _ [Y.getD i 0] [Y.getD i 0] 20 (S.length + 1) o (S ++ some ⟨ldB n G, 0⟩ :: ttA o :: L) (SlI.lst _) (SlI.lst _) (by omega) rfl (by simp) (by simpa using getD_in yin i) (by simpa using getD_in yin i) (by rw [blk1]; rfl)
    have c2 := fun o L => ldlBy_ok (bndI (rnd (Y.getD i 0 * Y.getD i 0) (2 ^ 20))) (G.getD (36 + i) 0) 20 (S.length + 1) o (S ++ some ⟨ldB n G, 0⟩ :: ttA o :: L) (bnd_in _) (getD_in hin _) (by omega) (by omega) (by rw [blk1]; rfl)
    have c3 := fun o L => ldlLess_ok (faS G Y i) (-bndI (faP G Y i)) (S.length + 1) o (S ++ some ⟨ldB n G, 0⟩ :: ttA o :: L) (faS_in G Y i) (by unfold inI bndI; omega) (by rw [blk1]; rfl)
    have wn : IntKind.i64.wrap (0 - bndI (faP G Y i)) = -bndI (faP G Y i) := by rw [wrapI (by unfold bndI; omega)]; omega
    have sb := fun x (o p : Bool) (L : Heap) => eq_true (sb1 S x L o p)
    have fT : (((faT G Y T i || ovrB (rnd (Y.getD i 0 * Y.getD i 0) (2 ^ 20))) || ovrB (faP G Y i)) || ovrB (faS G Y i + - -bndI (faP G Y i))) = faT G Y T (i + 1) := rfl
    have fS : bndI (faS G Y i + - -bndI (faP G Y i)) = faS G Y (i + 1) := rfl
    simp only [show ∀ a b : Int, dotZ [a] [b] = a * b from fun a b => by simp [dotZ], set1, List.map_cons, List.map_nil, List.length_cons, List.length_nil, Nat.zero_add] at c1 c2 c3
    change ∀ o L, Call theE _ _ _ (.int .i64 (bndI (faP G Y i))) (S ++ some ⟨ldB n G, 0⟩ :: ttA (o || ovrB (faP G Y i)) :: L) at c2
    change ∀ o L, Call theE _ [_, _, _, .int .i64 20] _ _ _ at c1
    simp only [ttA] at c1 c2 c3 sb
    generalize bndI (rnd (Y.getD i 0 * Y.getD i 0) (2 ^ 20)) = R at *
    iterate 4
      simp (maxSteps := 2000000) only [wk0, wk1, wk2, wk3, wk4, wk5, wk6, Fr.ev, Fr.put, Fr.get, storeA, List.replicate, IntKind.bits, sevalprocAttr, g2, g7, g8, g27, g28, g29, hi, k1, k2, wi, gy, ga, gl, wn, sb, fT, fS, yl, ldB_tl, List.length_map, Int.toNat_natCast, Nat.mul_one, YtoncolpkpgbfiaaDoor.D18, ty1, ty2, ty3, ty4, ty30, ty42, ty45, ty47, ty75, ty91, ty92, ty94]
      try first
        | refine callThen_of (c1 _ _) ?_
        | refine callThen_of (c2 _ _) ?_
        | refine callThen_of (c3 _ _) ?_
    exact ih (m - 1) _ _ (by omega) ⟨i + 1, by omega, by simp [Fr.get, g2], by simp [Fr.get, g7], by simp [Fr.get], by simp [Fr.get, g27], by simp [Fr.get, g28], by simp [Fr.get], rfl⟩
  · obtain rfl : i = n := by omega
    simp (maxSteps := 2000000) only [wk0, wk1, wk2, wk3, wk4, wk5, wk6, Fr.ev, Fr.put, Fr.get, storeA, List.replicate, IntKind.bits, sevalprocAttr, g2, g7, g8, g27, g28, g29, hi, YtoncolpkpgbfiaaDoor.D18, ty1, ty2, ty3, ty4, ty30, ty42, ty45, ty47, ty75, ty91, ty92, ty94]
    exact retB_plain (by simp [nmd_int, nmd_bool, nmd_nili]) rfl (by simp)
theorem ldlFar_bad (n : Int) (G : List Int) (v : AV) (l : List Int) (S : Heap) (hG : G.length = 42) (ck : ∀ S, Call theE 49 [.agg (ldB n G)] S (errA 1) S) (vm : ∀ k H, moveA false k H v = some (v, H)) :
    Call theE 18 [.agg (ldB n G), v] S (.tup [.int .i64 0, .bool false, errA 1]) S := by
  have gl : (ldB n G).length = 43 := by rw [ldB_len, hG]
  have g0 : (ldB n G)[0]? = some (.int .i64 n) := rfl
  have tl : List.take 43 (ldB n G) = ldB n G := List.take_of_length_le (by omega)
  simp only [errA] at ck
  refine Call.ofC Tryd.func18 YtoncolpkpgbfiaaDoor.b18 YtoncolpkpgbfiaaDoor.d18 YtoncolpkpgbfiaaDoor.e18 (by simp [Tryd.f18]) ?_
  dsimp only [YtoncolpkpgbfiaaDoor.c18, Tryd.f18, Option.getD_some]
  iterate 2
    simp (maxSteps := 2000000) only [wk0, wk1, wk2, wk3, wk4, wk5, wk6, Fr.ev, Fr.put, Fr.get, storeA, List.replicate, IntKind.bits, sevalprocAttr, gl, g0, tl, vm, decide_true, decide_false, YtoncolpkpgbfiaaDoor.D18, ty1, ty2, ty3, ty4, ty30, ty42, ty45, ty47, ty75, ty91, ty92, ty94]
    try first
      | refine callThen_of (ck _) ?_
  exact retB_plain (by simp [nmd_int, nmd_bool, nmd_ifc]) rfl (by simp)
def lgS (G : List Int) : Nat → Int
  | 0 => 0
  | i + 1 => IntKind.i64.wrap (lgS G i + logV (G.getD (36 + i) 0) 20)
theorem ldlLog_ok (n : Nat) (G : List Int) (S : Heap) (hn : 1 ≤ n ∧ n ≤ 6) (hG : G.length = 42) (hf : FineF n G) :
    Call theE 42 [.agg (ldB n G)] S (.tup [.int .i64 (lgS G n), .nili]) S := by
  have ck := fun S => ldlCheck_ok n G S hG hn .nili (.inl ⟨hf, rfl⟩)
  have gl : (ldB n G).length = 43 := by rw [ldB_len, hG]
  have g0 : (ldB n G)[0]? = some (.int .i64 n) := rfl
  have tl : List.take 43 (ldB n G) = ldB n G := List.take_of_length_le (by omega)
  have k3 : (n : Int) ≤ 6 := by omega
  have k4 : ¬ (0 : Int) = n := by omega
  have k5 : (0 : Int) ≤ n := by omega
  refine Call.ofC Tryd.func42 YtoncolpkpgbfiaaDoor.b42 YtoncolpkpgbfiaaDoor.d42 YtoncolpkpgbfiaaDoor.e42 (by simp [Tryd.f42]) ?_
  dsimp only [YtoncolpkpgbfiaaDoor.c42, Tryd.f42, Option.getD_some]
  iterate 2
    simp (maxSteps := 2000000) only [wk0, wk1, wk2, wk3, wk4, wk5, wk6, Fr.ev, Fr.put, Fr.get, storeA, List.replicate, IntKind.bits, sevalprocAttr, gl, g0, tl, k3, k4, k5, sa_arr, bd_none, bd_some, bv_int, Int.le_refl, Int.toNat_natCast, Nat.mul_one, Nat.sub_zero, YtoncolpkpgbfiaaDoor.D42, ty2, ty3, ty4, ty30, ty42, ty45, ty47, ty75]
    try first
      | refine callThen_of (ck _) ?_
  refine loopC_ind (fun m fr H => ∃ i : Nat, i + m = n ∧ fr.get 4 = .int .i64 (lgS G i) ∧ fr.get 16 = .sl S.length 0 37 n 6 1 ∧ fr.get 17 = .int .i64 n ∧ fr.get 18 = .int .i64 i ∧ H = S ++ [some ⟨ldB n G, 0⟩]) ?_ (n := n) ⟨0, by omega, rfl, rfl, rfl, rfl, rfl⟩
  rintro m fr H ⟨i, him, g4, g16, g17, g18, rfl⟩ ih
  by_cases hi : (i : Int) < n
  · have hin' : i < n := by omega
    have k1 : (0 : Int) ≤ i := by omega
    have wi : IntKind.i64.wrap ((i : Int) + 1) = ((i + 1 : Nat) : Int) := wrapI (by omega)
    have ga : (ldB n G)[37 + i]? = some (.int .i64 (G.getD (36 + i) 0)) := by rw [← ldB_at n G (36 + i) (by omega), show 1 + (36 + i) = 37 + i by omega]
    have dp := okD_pos hf hin' hn.2
    have c1 := fun S => log_ok (G.getD (36 + i) 0) 20 S dp (by decide)
    have p3 : 37 + i + 1 ≤ 43 := by omega
    have lS : IntKind.i64.wrap (lgS G i + logV (G.getD (36 + i) 0) 20) = lgS G (i + 1) := rfl
    iterate 2
      simp (maxSteps := 2000000) only [wk0, wk1, wk2, wk3, wk4, wk5, wk6, Fr.ev, Fr.put, Fr.get, storeA, List.replicate, IntKind.bits, sevalprocAttr, g4, g16, g17, g18, hi, k1, wi, ga, gl, p3, lS, Int.toNat_natCast, Nat.mul_one, YtoncolpkpgbfiaaDoor.D42, ty2, ty3, ty4, ty30, ty42, ty45, ty47, ty75]
      try first
        | refine callThen_of (c1 _) ?_
    exact ih (m - 1) _ _ (by omega) ⟨i + 1, by omega, by simp [Fr.get], by simp [Fr.get, g16], by simp [Fr.get, g17], by simp [Fr.get], rfl⟩
  · obtain rfl : i = n := by omega
    simp (maxSteps := 2000000) only [wk0, wk1, wk2, wk3, wk4, wk5, wk6, Fr.ev, Fr.put, Fr.get, storeA, List.replicate, IntKind.bits, sevalprocAttr, g4, g16, g17, g18, hi, YtoncolpkpgbfiaaDoor.D42, ty2, ty3, ty4, ty30, ty42, ty45, ty47, ty75]
    exact retB_plain (by simp [nmd_int, nmd_nili]) rfl (by simp)
theorem ldlLog_bad (n : Int) (G : List Int) (S : Heap) (hG : G.length = 42) (ck : ∀ S, Call theE 49 [.agg (ldB n G)] S (errA 1) S) :
    Call theE 42 [.agg (ldB n G)] S (.tup [.int .i64 0, errA 1]) S := by
  have gl : (ldB n G).length = 43 := by rw [ldB_len, hG]
  have g0 : (ldB n G)[0]? = some (.int .i64 n) := rfl
  have tl : List.take 43 (ldB n G) = ldB n G := List.take_of_length_le (by omega)
  simp only [errA] at ck
  refine Call.ofC Tryd.func42 YtoncolpkpgbfiaaDoor.b42 YtoncolpkpgbfiaaDoor.d42 YtoncolpkpgbfiaaDoor.e42 (by simp [Tryd.f42]) ?_
  dsimp only [YtoncolpkpgbfiaaDoor.c42, Tryd.f42, Option.getD_some]
  iterate 2
    simp (maxSteps := 2000000) only [wk0, wk1, wk2, wk3, wk4, wk5, wk6, Fr.ev, Fr.put, Fr.get, storeA, List.replicate, IntKind.bits, sevalprocAttr, gl, g0, tl, YtoncolpkpgbfiaaDoor.D42, ty2, ty3, ty4, ty30, ty42, ty45, ty47, ty75]
    try first
      | refine callThen_of (ck _) ?_
  exact retB_plain (by simp [nmd_int, nmd_ifc]) rfl (by simp)
end Go.Proofs.YtoncolpkpgbfiaaDoor

/- ldl: what the matrix times it is a vector. -/
set_option linter.unusedSimpArgs false
set_option linter.unusedVariables false
set_option maxRecDepth 100000
set_option maxHeartbeats 8000000
namespace Go.Proofs.YtoncolpkpgbfiaaDoor
def svP (G X : List Int) (k : Nat) : Int := divZ (X.getD k 0) (G.getD (36 + k) 0) 20
def svX (G Y : List Int) : Nat → List Int
  | 0 => Y
  | k + 1 => (svX G Y k).set k (bndI (svP G (svX G Y k) k))
def svT (G Y : List Int) (o : Bool) : Nat → Bool
  | 0 => o
  | k + 1 => svT G Y o k || ovrB (svP G (svX G Y k) k)
def bkL (n : Nat) (G : List Int) (i m : Nat) : List Int := (List.range m).map fun t => G.getD ((i + 1 + t) * n + i) 0
def bkR (X : List Int) (i m : Nat) : List Int := (List.range m).map fun t => X.getD (i + 1 + t) 0
def bkS (n : Nat) (G X : List Int) (i : Nat) : Int := rnd (dotZ (bkL n G i (n - 1 - i)) (bkR X i (n - 1 - i))) (2 ^ 30)
def bkV (n : Nat) (G X : List Int) (i : Nat) : Int := X.getD i 0 + -bndI (bkS n G X i)
def bkX (n : Nat) (G X : List Int) : Nat → List Int
  | 0 => X
  | k + 1 => (bkX n G X k).set (n - 1 - k) (bndI (bkV n G (bkX n G X k) (n - 1 - k)))
def bkT (n : Nat) (G X : List Int) (o : Bool) : Nat → Bool
  | 0 => o
  | k + 1 => (bkT n G X o k || ovrB (bkS n G (bkX n G X k) (n - 1 - k))) || ovrB (bkV n G (bkX n G X k) (n - 1 - k))
theorem set_in {X : List Int} (h : ∀ x ∈ X, inI x) (k : Nat) (v : Int) : ∀ x ∈ X.set k (bndI v), inI x := by
  intro x hx
  rcases List.mem_or_eq_of_mem_set hx with h1 | h1
  · exact h x h1
  · rw [h1]; exact bnd_in _
theorem svX_ok (G Y : List Int) (h : ∀ x ∈ Y, inI x) (k : Nat) : (svX G Y k).length = Y.length ∧ ∀ x ∈ svX G Y k, inI x := by
  induction k with
  | zero => exact ⟨rfl, h⟩
  | succ k ih => exact ⟨by simp [svX, ih.1], set_in ih.2 _ _⟩
theorem bkX_ok (n : Nat) (G Y : List Int) (h : ∀ x ∈ Y, inI x) (k : Nat) : (bkX n G Y k).length = Y.length ∧ ∀ x ∈ bkX n G Y k, inI x := by
  induction k with
  | zero => exact ⟨rfl, h⟩
  | succ k ih => exact ⟨by simp [bkX, ih.1], set_in ih.2 _ _⟩
theorem bkL_app (n : Nat) (G : List Int) (i m : Nat) : (bkL n G i m).map (fun x => AV.int .i64 x) ++ [.int .i64 (G.getD ((i + 1 + m) * n + i) 0)] = (bkL n G i (m + 1)).map fun x => .int .i64 x := by unfold bkL; rw [List.range_succ, List.map_append, List.map_append]; rfl
theorem bkR_app (X : List Int) (i m : Nat) : (bkR X i m).map (fun x => AV.int .i64 x) ++ [.int .i64 (X.getD (i + 1 + m) 0)] = (bkR X i (m + 1)).map fun x => .int .i64 x := by unfold bkR; rw [List.range_succ, List.map_append, List.map_append]; rfl
theorem bkL_in {n : Nat} {G : List Int} (h : ∀ x ∈ G, inI x) (i m : Nat) : ∀ x ∈ bkL n G i m, inI x := by
  intro x hx
  obtain ⟨k, _, rfl⟩ := List.mem_map.1 hx
  exact getD_in h _
theorem bkR_in {X : List Int} (h : ∀ x ∈ X, inI x) (i m : Nat) : ∀ x ∈ bkR X i m, inI x := by
  intro x hx
  obtain ⟨k, _, rfl⟩ := List.mem_map.1 hx
  exact getD_in h _
theorem tally_ints (X : List Int) : tallyC (X.map fun x => AV.int .i64 x) = false := by cases X <;> rfl
noncomputable def c19 : Code := Tryd.f19.body.getD .skip
theorem b19 : Tryd.f19.body = some c19 := rfl
theorem d19 : fnOk Tryd.f19 c19 = true := by kernel_rfl
def D19 : Nat → List Tag
  | 8 => [.pure, .pure, .pure, .pure, .pure, .pure, .quiet, .pure, .pure, .pure, .quiet, .seq, .pure, .seq]
  | 17 => [.pure, .pure, .pure, .quiet, .pure, .grow, .pure, .pure, .pure, .pure, .look, .pure, .seq, .pure, .pure]
  | 18 => [.pure, .pure, .pure, .pure, .pure, .pure, .look, .pure, .pure, .pure, .mark, .seq, .pure, .seq]
  | 19 => [.pure, .pure, .pure, .pure, .seq, .pure, .pure, .pure]
  | _ => []
theorem e19 : drawsOk D19 c19 = true := by kernel_rfl
theorem ldlSolve_ok (n : Nat) (G : List Int) (v : AV) (l : List Int) (S : Heap) (hn : 1 ≤ n ∧ n ≤ 6) (hG : G.length = 42) (hin : ∀ x ∈ G, inI x) (hf : FineF n G) (hl : l.length = n) (hlin : ∀ x ∈ l, inI x) (hv : VecS S v l) (Y : List Int) (T : Bool) (hY : dnY n G l n = Y) (hT : dnT n G l false n = T) :
    Call theE 19 [.agg (ldB n G), v] S (.tup [lstI (bkX n G (svX G Y n) n), .bool (bkT n G (svX G Y n) (svT G Y T n) n), .nili]) S := by
  have ck := fun S => ldlCheck_ok n G S hG hn .nili (.inl ⟨hf, rfl⟩)
  have gl : (ldB n G).length = 43 := by rw [ldB_len, hG]
  have g0 : (ldB n G)[0]? = some (.int .i64 n) := rfl
  have tl : List.take 43 (ldB n G) = ldB n G := List.take_of_length_le (by omega)
  have vm := ((hv [] S.length (Nat.le_refl _)).sl false).mv
  have vl := ((hv [] S.length (Nat.le_refl _)).sl false).ln
  have hl' : (l.length : Int) = n := by omega
  have dn := down_new n G v l S hn hG hin hl hlin hv
  have yl := dnY_len n G l n
  have yin := dnY_in n G l n
  rw [hY] at dn yl yin
  rw [hT] at dn
  clear hY hT
  have sbb := fun x (o p : Bool) (L : Heap) => eq_true (sb1 S x L o p)
  refine Call.ofC Tryd.func19 YtoncolpkpgbfiaaDoor.b19 YtoncolpkpgbfiaaDoor.d19 YtoncolpkpgbfiaaDoor.e19 (by simp [Tryd.f19]) ?_
  dsimp only [YtoncolpkpgbfiaaDoor.c19, Tryd.f19, Option.getD_some]
  iterate 3
    simp (maxSteps := 2000000) only [wk0, wk1, wk2, wk3, wk4, wk5, wk6, Fr.ev, Fr.put, Fr.get, storeA, List.replicate, IntKind.bits, sevalprocAttr, gl, g0, tl, vm, vl, hl', decide_true, decide_false, YtoncolpkpgbfiaaDoor.D19, ty1, ty2, ty3, ty4, ty30, ty42, ty45, ty47, ty75, ty91, ty92, ty94]
    try first
      | refine callThen_of (ck _) ?_
      | refine callThen_of (dn) ?_
  refine loopC_ind (fun m fr H => ∃ k : Nat, k + m = n ∧ fr.get 2 = .ptr S.length 0 0 ∧ fr.get 7 = .ptr (S.length + 1) 0 0 ∧ fr.get 8 = .sl (S.length + 2) n 0 n n 1 ∧ fr.get 31 = .int .i64 n ∧ fr.get 32 = .int .i64 k ∧
    H = S ++ [some ⟨ldB n G, 0⟩, some ⟨[.bool (svT G Y T k)], 0⟩, some ⟨(svX G Y k).map fun x => .int .i64 x, n⟩]) ?_ (n := n) ⟨0, by omega, rfl, rfl, rfl, rfl, rfl, rfl⟩
  rintro m fr H ⟨k, him, g2, g7, g8, g31, g32, rfl⟩ ih
  obtain ⟨xl, xin⟩ := svX_ok G Y yin k
  by_cases hk : (k : Int) < n
  · have hkn : k < n := by omega
    have k1 : (0 : Int) ≤ k := by omega
    have k2 : (k : Int) < 6 := by omega
    have wi : IntKind.i64.wrap ((k : Int) + 1) = ((k + 1 : Nat) : Int) := wrapI (by omega)
    have gy := gm_at (svX G Y k) k (by omega)
    have ga : (ldB n G)[37 + k]? = some (.int .i64 (G.getD (36 + k) 0)) := by rw [← ldB_at n G (36 + k) (by omega), show 1 + (36 + k) = 37 + k by omega]
    have dp := okD_pos hf hkn hn.2
    have c1 := fun o L => ldlBy_ok ((svX G Y k).getD k 0) (G.getD (36 + k) 0) 20 (S.length + 1) o (S ++ some ⟨ldB n G, 0⟩ :: ttA o :: L) (getD_in xin _) (getD_in hin _) (by omega) (by omega) (by rw [blk1]; rfl)
    simp only [set1, ttA] at c1
    change ∀ o L, Call theE _ [_, _, _, .int .i64 20] _ (.int .i64 (bndI (svP G (svX G Y k) k))) (S ++ some ⟨ldB n G, 0⟩ :: some ⟨[.bool (o || ovrB (svP G (svX G Y k) k))], 0⟩ :: L) at c1
    have fT : (svT G Y T k || ovrB (svP G (svX G Y k) k)) = svT G Y T (k + 1) := rfl
    have fX : ((svX G Y k).map fun x => AV.int .i64 x).set k (.int .i64 (bndI (svP G (svX G Y k) k))) = (svX G Y (k + 1)).map fun x => .int .i64 x := by simp [svX, List.map_set]
    have kl : k < Y.length := by omega
    have kl2 : k + 1 ≤ Y.length := by omega
    iterate 2
      simp (maxSteps := 2000000) only [wk0, wk1, wk2, wk3, wk4, wk5, wk6, Fr.ev, Fr.put, Fr.get, storeA, List.replicate, IntKind.bits, sevalprocAttr, g2, g7, g8, g31, g32, hk, k1, k2, wi, gy, ga, gl, fT, fX, xl, kl, kl2, List.length_map, Int.toNat_natCast, Nat.mul_one, YtoncolpkpgbfiaaDoor.D19, ty1, ty2, ty3, ty4, ty30, ty42, ty45, ty47, ty75, ty91, ty92, ty94]
      try first
        | refine callThen_of (c1 _ _) ?_
    exact ih (m - 1) _ _ (by omega) ⟨k + 1, by omega, by simp [Fr.get, g2], by simp [Fr.get, g7], by simp [Fr.get, g8], by simp [Fr.get, g31], by simp [Fr.get], rfl⟩
  · obtain rfl : k = n := by omega
    clear ih
    generalize svX G Y k = X0 at *
    generalize svT G Y T k = T0 at *
    have w1 : IntKind.i64.wrap ((k : Int) - 1) = (k : Int) - 1 := wrapI (by omega)
    simp (maxSteps := 2000000) only [wk0, wk1, wk2, wk3, wk4, wk5, wk6, Fr.ev, Fr.put, Fr.get, storeA, List.replicate, IntKind.bits, sevalprocAttr, g2, g7, g8, g31, g32, hk, g0, gl, w1, YtoncolpkpgbfiaaDoor.D19, ty1, ty2, ty3, ty4, ty30, ty42, ty45, ty47, ty75, ty91, ty92, ty94]
    refine loopC_ind (fun m fr H => ∃ (j : Nat) (R : Heap), j + m = k ∧ fr.get 2 = .ptr S.length 0 0 ∧ fr.get 7 = .ptr (S.length + 1) 0 0 ∧ fr.get 8 = .sl (S.length + 2) k 0 k k 1 ∧ fr.get 10 = .int .i64 ((k : Int) - 1 - j) ∧
      H = S ++ some ⟨ldB k G, 0⟩ :: ttA (bkT k G X0 T0 j) :: some ⟨(bkX k G X0 j).map fun x => .int .i64 x, k⟩ :: R) ?_ (n := k) ⟨0, [], by omega, by simp [Fr.get, g2], by simp [Fr.get, g7], by simp [Fr.get, g8], by simp [Fr.get], rfl⟩
    clear g2 g7 g8 g31 g32 gl
    have gl : (ldB k G).length = 43 := by rw [ldB_len, hG]
    rintro m fr H ⟨j, R, hjm, g2, g7, g8, g10, hH⟩ ih
    obtain ⟨xl2, xin2⟩ := bkX_ok k G X0 xin j
    by_cases hj : j < k
    · obtain ⟨i, hi⟩ : ∃ i, k - 1 - j = i := ⟨_, rfl⟩
      have hik : i < k := by omega
      have hi2 : (k : Int) - 1 - j = (i : Int) := by omega
      rw [hi2] at g10
      have i0 : (0 : Int) ≤ i := by omega
      have w2 : IntKind.i64.wrap ((i : Int) + 1) = ((i + 1 : Nat) : Int) := wrapI (by omega)
      have w3 : IntKind.i64.wrap ((i : Int) - 1) = (k : Int) - 1 - ((j + 1 : Nat) : Int) := by rw [wrapI (by omega)]; omega
      have bf : ∀ L, blkAt (H ++ L) S.length 0 = some ⟨ldB k G, 0⟩ := fun L => by rw [hH, List.append_assoc]; exact (by rw [blkAt_app0]; rfl)
      have bt : blkAt H (S.length + 1) 0 = ttA (bkT k G X0 T0 j) := by rw [hH, blk1]; rfl
      have bx : ∀ L, blkAt (H ++ L) (S.length + 2) k = some ⟨(bkX k G X0 j).map fun x => .int .i64 x, k⟩ := fun L => by rw [hH, List.append_assoc]; exact (by rw [show (some ⟨ldB k G, 0⟩ :: ttA (bkT k G X0 T0 j) :: some ⟨(bkX k G X0 j).map fun x => .int .i64 x, k⟩ :: R) ++ L = some ⟨ldB k G, 0⟩ :: ttA (bkT k G X0 T0 j) :: some ⟨(bkX k G X0 j).map fun x => .int .i64 x, k⟩ :: (R ++ L) from rfl, blk2]; simp [blkAt])
      have hs : ∀ (o : Option Blk) (x : Option Blk), (H.set (S.length + 1) o).set (S.length + 2) x = S ++ some ⟨ldB k G, 0⟩ :: o :: x :: R := fun o x => by rw [hH, set1, set_app]; rfl
      have bl : S.length + 3 ≤ H.length := by rw [hH]; simp
      have ma1 := fun a b c d e x H' => show mayAppend S.length .append [.sl H.length a b c d e, x] H' = True from eq_true (.inl (by omega))
      have ma2 := fun a b c d e x H' => show mayAppend S.length .append [.sl (H.length + 1) a b c d e, x] H' = True from eq_true (.inl (by omega))
      obtain ⟨X, hX⟩ : ∃ X, bkX k G X0 j = X := ⟨_, rfl⟩
      obtain ⟨o, ho⟩ : ∃ o, bkT k G X0 T0 j = o := ⟨_, rfl⟩
      have nX : bkX k G X0 (j + 1) = X.set i (bndI (bkV k G X i)) := by rw [← hX, ← hi]; rfl
      have nT : bkT k G X0 T0 (j + 1) = ((o || ovrB (bkS k G X i)) || ovrB (bkV k G X i)) := by rw [← hX, ← ho, ← hi]; rfl
      rw [hX] at xl2 xin2 bx
      rw [ho] at bt
      clear hX ho
      have nb : ∀ L, blkAt (H ++ L) S.length 0 = some ⟨ldB k G, 0⟩ := bf
      simp (maxSteps := 2000000) only [wk0, wk1, wk2, wk3, wk4, wk5, wk6, Fr.ev, Fr.put, Fr.get, storeA, List.replicate, IntKind.bits, sevalprocAttr, g2, g7, g8, g10, i0, w2, YtoncolpkpgbfiaaDoor.D19, ty1, ty2, ty3, ty4, ty30, ty42, ty45, ty47, ty75, ty91, ty92, ty94]
      have xk : X.length = k := by omega
      refine loopC_ind (fun m' fr H' => ∃ t cl cr : Nat, t + m' = k - 1 - i ∧ fr.get 2 = .ptr S.length 0 0 ∧ fr.get 7 = .ptr (S.length + 1) 0 0 ∧ fr.get 8 = .sl (S.length + 2) k 0 k k 1 ∧ fr.get 10 = .int .i64 (i : Int) ∧ fr.get 11 = .sl H.length t 0 t cl 1 ∧ fr.get 12 = .sl (H.length + 1) t 0 t cr 1 ∧ fr.get 13 = .int .i64 ((i + 1 + t : Nat) : Int) ∧
        H' = H ++ [some ⟨(bkL k G i t).map fun x => .int .i64 x, t⟩, some ⟨(bkR X i t).map fun x => .int .i64 x, t⟩]) ?_ (n := k - 1 - i) ⟨0, 0, 0, by omega, by simp [Fr.get, g2], by simp [Fr.get, g7], by simp [Fr.get, g8], by simp [Fr.get, g10], rfl, rfl, rfl, rfl⟩
      clear g2 g7 g8 g10
      rintro m' fr H' ⟨t, cl, cr, htm, g2, g7, g8, g10, g11, g12, g13, rfl⟩ ih2
      have ll := bkL_app k G i t
      have lr := bkR_app X i t
      have l1 : (bkL k G i t).length = t := by simp [bkL]
      have l2 : (bkR X i t).length = t := by simp [bkR]
      by_cases ht : ((i + 1 + t : Nat) : Int) < k
      · have htk : i + 1 + t < k := by omega
        have hq : (i + 1 + t) * k + i < 36 := by
          have := Nat.mul_le_mul (show i + 1 + t + 1 ≤ 6 by omega) hn.2
          rw [Nat.add_mul, Nat.one_mul] at this; omega
        have c1 := fun L => ldlAt_ok k (i + 1 + t) i S.length G (H ++ L) hn.2 hG hq (by omega) (by omega) (bf L)
        have gx := gm_at X (i + 1 + t) (by omega)
        have t0 : (0 : Int) ≤ ((i + 1 + t : Nat) : Int) := by omega
        have wi : IntKind.i64.wrap (((i + 1 + t : Nat) : Int) + 1) = ((i + 1 + (t + 1) : Nat) : Int) := by rw [wrapI (by omega)]; omega
        have a1 : (t + 1) * 8 ≤ maxBytes := by unfold maxBytes; omega
        have a2 : t + 1 ≤ 9223372036854775807 := by omega
        have q1 : i + 1 + t + 1 ≤ k := by omega
        generalize hjj : i + 1 + t = jj at *
        iterate 2
          simp (maxSteps := 2000000) only [wk0, wk1, wk2, wk3, wk4, wk5, wk6, Fr.ev, Fr.put, Fr.get, storeA, List.replicate, IntKind.bits, sevalprocAttr, g2, g7, g8, g10, g11, g12, g13, ht, bf, bx, gx, t0, wi, a1, a2, q1, xk, ll, lr, l1, l2, gl, g0, tally_ints, ma1, ma2, List.length_map, Int.toNat_natCast, Nat.mul_one, Nat.zero_add, YtoncolpkpgbfiaaDoor.D19, ty1, ty2, ty3, ty4, ty30, ty42, ty45, ty47, ty75, ty91, ty92, ty94]
          try first
            | refine callThen_of (c1 _) ?_
        exact ih2 (m' - 1) _ _ (by omega) ⟨t + 1, t + 1, t + 1, by omega, by simp [Fr.get, g2], by simp [Fr.get, g7], by simp [Fr.get, g8], by simp [Fr.get, g10], by simp [Fr.get], by simp [Fr.get], by simp [Fr.get], rfl⟩
      · have htk : t = k - 1 - i := by omega
        subst htk
        clear ih2
        have gx := gm_at X i (by omega)
        have ik : (i : Int) < k := by omega
        have q1 : i + 1 ≤ k := by omega
        have lq := blk_lt bt
        have lq2 : ∀ x : Option Blk, S.length + 1 < (H.set (S.length + 1) x).length := fun x => by simpa using lq
        have hid := tt_id bt
        have sbH := fun (p : Bool) (L : Heap) => show sameBut (H ++ L) (H.set (S.length + 1) (ttA p) ++ L) = True from eq_true (sameBut_app L (tt_same bt))
        have sw1 := fun (L : Heap) => SlI.sl (S := H ++ some ⟨(bkL k G i (k - 1 - i)).map fun x => .int .i64 x, k - 1 - i⟩ :: L) (id := H.length) (ver := k - 1 - i) (off := 0) (cap := cl) (l := bkL k G i (k - 1 - i)) (b := ⟨(bkL k G i (k - 1 - i)).map fun x => .int .i64 x, k - 1 - i⟩) (by rw [blkAt_app0, blkAt_zero]) (by rw [List.drop_zero, List.take_of_length_le (by simp)])
        have sw2 := fun (x : Option Blk) (L : Heap) => SlI.sl (S := H ++ x :: some ⟨(bkR X i (k - 1 - i)).map fun x => .int .i64 x, k - 1 - i⟩ :: L) (id := H.length + 1) (ver := k - 1 - i) (off := 0) (cap := cr) (l := bkR X i (k - 1 - i)) (b := ⟨(bkR X i (k - 1 - i)).map fun x => .int .i64 x, k - 1 - i⟩) (by rw [blk1]; simp [blkAt]) (by rw [List.drop_zero, List.take_of_length_le (by simp)])
        rw [l1] at sw1
        rw [l2] at sw2
        have c2 := fun L => ldlDot_ok _ _ _ _ 30 (S.length + 1) o (H ++ some ⟨(bkL k G i (k - 1 - i)).map fun x => .int .i64 x, k - 1 - i⟩ :: some ⟨(bkR X i (k - 1 - i)).map fun x => .int .i64 x, k - 1 - i⟩ :: L) (sw1 _) (sw2 _ L) (by omega) (by rw [l1, l2]) (by rw [l1]; omega) (bkL_in hin _ _) (bkR_in xin2 _ _) (blk_app bt)
        have c3 := fun o L => ldlLess_ok (X.getD i 0) (bndI (bkS k G X i)) (S.length + 1) o (H.set (S.length + 1) (ttA o) ++ L) (getD_in xin2 i) (bnd_in _) (tt_blk lq L)
        simp only [tt_set lq, tt_set (lq2 _), List.set_set] at c2 c3
        change ∀ L, Call theE _ [_, _, _, .int .i64 30] _ (.int .i64 (bndI (bkS k G X i))) (H.set (S.length + 1) (ttA (o || ovrB (bkS k G X i))) ++ _) at c2
        change ∀ o L, Call theE _ _ _ (.int .i64 (bndI (bkV k G X i))) (H.set (S.length + 1) (ttA (o || ovrB (bkV k G X i))) ++ _) at c3
        have bx2 : ∀ o L, blkAt (H.set (S.length + 1) (ttA o) ++ L) (S.length + 2) k = some ⟨X.map fun x => .int .i64 x, k⟩ := fun o L => by
          have h := bx []
          rw [List.append_nil] at h
          apply blk_app
          unfold blkAt at h ⊢
          rw [List.getElem?_set_ne (by omega)]
          exact h
        have st2 : ∀ o x L, (H.set (S.length + 1) o ++ L).set (S.length + 2) x = S ++ some ⟨ldB k G, 0⟩ :: o :: x :: (R ++ L) := fun o x L => by
          rw [List.set_append_left _ _ (by simp; omega), hs, List.append_assoc]; rfl
        have fX : (X.map fun x => AV.int .i64 x).set i (.int .i64 (bndI (bkV k G X i))) = (X.set i (bndI (bkV k G X i))).map fun x => .int .i64 x := by simp [List.map_set]
        iterate 3
          simp (maxSteps := 2000000) only [wk0, wk1, wk2, wk3, wk4, wk5, wk6, Fr.ev, Fr.put, Fr.get, storeA, List.replicate, IntKind.bits, sevalprocAttr, g2, g7, g8, g10, g11, g12, g13, ht, i0, ik, q1, w3, bf, bx, bx2, sbH, st2, fX, gx, xk, gl, g0, tally_ints, List.length_map, Int.toNat_natCast, Nat.mul_one, Nat.zero_add, YtoncolpkpgbfiaaDoor.D19, ty1, ty2, ty3, ty4, ty30, ty42, ty45, ty47, ty75, ty91, ty92, ty94]
          try first
            | refine callThen_of (c2 _) ?_
            | refine callThen_of (c3 _ _) ?_
        exact ih (m - 1) _ _ (by omega) ⟨j + 1, _, by omega, by simp [Fr.get, g2], by simp [Fr.get, g7], by simp [Fr.get, g8], by simp [Fr.get], by rw [nX, nT]⟩
    · obtain rfl : j = k := by omega
      have i0 : ¬ (0 : Int) ≤ (j : Int) - 1 - j := by omega
      subst hH
      simp (maxSteps := 2000000) only [wk0, wk1, wk2, wk3, wk4, wk5, wk6, Fr.ev, Fr.put, Fr.get, storeA, List.replicate, IntKind.bits, sevalprocAttr, ttA, g2, g7, g8, g10, i0, YtoncolpkpgbfiaaDoor.D19, ty1, ty2, ty3, ty4, ty30, ty42, ty45, ty47, ty75, ty91, ty92, ty94]
      refine ⟨[lstI (bkX j G X0 j), .bool (bkT j G X0 T0 j), .nili], ?_, rfl, by simp⟩
      refine .cons _ _ _ _ ?_ (.cons _ _ _ _ (.same _ (.bool _)) (.cons _ _ _ _ (.same _ .nili) .nil))
      have := fin_sl (base := S.length) (id := S.length + 2) (ver := j) (cap := j) (u := j) (L := bkX j G X0 j) (H := S ++ some ⟨ldB j G, 0⟩ :: some ⟨[.bool (bkT j G X0 T0 j)], 0⟩ :: some ⟨(bkX j G X0 j).map fun x => .int .i64 x, j⟩ :: R) (by omega) (by rw [blk2]; simp [blkAt])
      rwa [show (bkX j G X0 j).length = j by omega] at this
end Go.Proofs.YtoncolpkpgbfiaaDoor

/- ldl: the factors of a matrix. -/
set_option linter.unusedSimpArgs false
set_option linter.unusedVariables false
set_option maxRecDepth 100000
set_option maxHeartbeats 8000000
namespace Go.Proofs.YtoncolpkpgbfiaaDoor
theorem ldlInts_dec : ∀ (a b : List Int), a.length = b.length → allInts (a.map fun x => .int .i64 x) (b.map fun x => .int .i64 x) = some (decide (a = b))
  | [], [], _ => by simp [allInts]
  | x :: a, y :: b, h => by
    have ih := ldlInts_dec a b (by simpa using h)
    have k : allInts ((x :: a).map fun x => AV.int .i64 x) ((y :: b).map fun x => AV.int .i64 x) = (allInts (a.map fun x => AV.int .i64 x) (b.map fun x => AV.int .i64 x)).map fun t => (x == y) && t := by simp [allInts]
    rw [k, ih]
    by_cases e : x = y
    · by_cases e2 : a = b
      · simp [e, e2]
      · simp [e, e2]
    · simp [e]
def EvenM (r c : Nat) (f : Nat → Nat → Int) : Prop := r = c ∧ ∀ i j, i < r → j < r → f i j = f j i
theorem evenM_eq {r c : Nat} {f : Nat → Nat → Int} (hr : 1 ≤ r ∧ r ≤ 6) (hc : 1 ≤ c ∧ c ≤ 6) : ((c : Int) :: (r : Int) :: gridP r (fun i j => f j i) (c * r) = (r : Int) :: (c : Int) :: gridP c f (r * c)) ↔ EvenM r c f := by
  constructor
  · intro h
    simp only [List.cons.injEq] at h
    obtain ⟨h1, -, h3⟩ := h
    obtain rfl : c = r := by omega
    refine ⟨rfl, fun i j hi hj => ?_⟩
    have h36 : c * c ≤ 36 := Nat.mul_le_mul hc.2 hc.2
    have g1 := grid_get c c (fun i j => f j i) i j hi hj h36
    have g2 := grid_get c c f i j hi hj h36
    rw [h3, g2] at g1
    simpa using g1
  · rintro ⟨rfl, h⟩
    have h36 : r * r ≤ 36 := Nat.mul_le_mul hr.2 hr.2
    have : gridP r (fun i j => f j i) (r * r) = gridP r f (r * r) := by
      apply List.map_congr_left
      intro q hq
      by_cases hl : q < r * r
      · rw [if_pos hl, if_pos hl]
        exact (h (q / r) (q % r) ((Nat.div_lt_iff_lt_mul (by omega)).2 hl) (Nat.mod_lt _ (by omega))).symm
      · rw [if_neg hl, if_neg hl]
    rw [this]
theorem even_all {r c : Nat} {f : Nat → Nat → Int} (hr : 1 ≤ r ∧ r ≤ 6) (hc : 1 ≤ c ∧ c ≤ 6) (b : Bool) (hb : b = true ↔ EvenM r c f) : allInts (.int .i64 c :: .int .i64 r :: (gridP r (fun i j => f j i) (c * r)).map fun x => .int .i64 x) (.int .i64 r :: .int .i64 c :: (gridP c f (r * c)).map fun x => .int .i64 x) = some b := by
  have := ldlInts_dec ((c : Int) :: (r : Int) :: gridP r (fun i j => f j i) (c * r)) ((r : Int) :: (c : Int) :: gridP c f (r * c)) (by simp [gridP])
  simp only [List.map_cons] at this
  rw [this]
  congr 1
  rw [Bool.eq_iff_iff, decide_eq_true_eq, evenM_eq hr hc]
  exact hb.symm
noncomputable def c38 : Code := Tryd.f38.body.getD .skip
theorem b38 : Tryd.f38.body = some c38 := rfl
theorem d38 : fnOk Tryd.f38 c38 = true := by kernel_rfl
def D38 : Nat → List Tag := fun _ => []
theorem e38 : drawsOk D38 c38 = true := by kernel_rfl
noncomputable def c12 : Code := Tryd.f12.body.getD .skip
theorem b12 : Tryd.f12.body = some c12 := rfl
theorem d12 : fnOk Tryd.f12 c12 = true := by kernel_rfl
def D12 : Nat → List Tag
  | 11 => [.pure, .pure, .pure, .pure, .pure, .look, .pure, .pure, .pure, .pure, .pure, .pure, .pure, .pure, .pure, .pure, .quiet, .pure, .pure, .pure, .pure, .pure, .quiet, .pure, .pure, .mark, .pure, .pure, .pure, .pure, .pure, .look, .mark, .pure, .pure, .pure, .seq]
  | 13 => [.pure, .pure, .pure, .pure, .pure, .seq, .pure, .pure, .pure, .pure, .pure, .pure, .seq]
  | 14 => [.pure, .pure, .pure, .pure, .pure, .pure, .pure, .pure, .seq, .pure, .pure, .pure, .pure, .pure, .seq, .pure, .pure, .seq, .pure, .pure, .pure, .seq]
  | _ => []
theorem e12 : drawsOk D12 c12 = true := by kernel_rfl
theorem ldlEven_ok (r c : Nat) (f : Nat → Nat → Int) (S : Heap) (hr : 1 ≤ r ∧ r ≤ 6) (hc : 1 ≤ c ∧ c ≤ 6) (b : Bool) (hb : b = true ↔ EvenM r c f) : Call theE 38 [mk r c f] S (.bool b) S := by
  have tu := fun S => turn_ok r c f S hr hc
  have ea := even_all (f := f) hr hc b hb
  have tk := take36g r (fun i j => f j i) (c * r)
  have al := all36g (gridP r (fun i j => f j i) (c * r))
  have tk2 := take36g c f (r * c)
  have al2 := all36g (gridP c f (r * c))
  simp only [mk, matA] at tu ⊢
  refine Call.ofC Tryd.func38 YtoncolpkpgbfiaaDoor.b38 YtoncolpkpgbfiaaDoor.d38 YtoncolpkpgbfiaaDoor.e38 (by simp [Tryd.f38]) ?_
  dsimp only [YtoncolpkpgbfiaaDoor.c38, Tryd.f38, Option.getD_some]
  iterate 2
    simp (maxSteps := 2000000) only [wk0, wk1, wk2, wk3, wk4, wk5, wk6, Fr.ev, Fr.put, Fr.get, storeA, List.replicate, IntKind.bits, sevalprocAttr, List.length_cons, List.length_map, gridP_len, List.take_succ_cons, List.drop_succ_cons, List.drop_zero, List.take_zero, tk, al, tk2, al2, ea, YtoncolpkpgbfiaaDoor.D38, ty4, ty30, ty51]
    try first
      | refine callThen_of (tu _) ?_
  exact retB_plain (by simp [nmd_bool]) rfl (by simp)
/-! the rows, one after the other -/
def ofQ (n : Nat) (M : Nat → Nat → Int) (i : Nat) (G : List Int) (j : Nat) : Int := divZ (lrV n G (M i j) i j) (G.getD (36 + j) 0) 30
def ofG (n : Nat) (M : Nat → Nat → Int) (i : Nat) (G : List Int) : Nat → List Int
  | 0 => G
  | j + 1 => (ofG n M i G j).set (i * n + j) (bndI (ofQ n M i (ofG n M i G j) j))
def ofB (n : Nat) (M : Nat → Nat → Int) (i : Nat) (G : List Int) : Nat → Bool
  | 0 => false
  | j + 1 => lrT n (ofG n M i G j) (M i j) i j (ofB n M i G j) || ovrB (ofQ n M i (ofG n M i G j) j)
def ofI (n : Nat) (M : Nat → Nat → Int) (i : Nat) (G : List Int) : List Int := (ofG n M i G i).set (i * n + i) 1073741824
def ofD (n : Nat) (M : Nat → Nat → Int) (i : Nat) (G : List Int) : Int := lrV n (ofI n M i G) (M i i) i i
def ofO (n : Nat) (M : Nat → Nat → Int) (i : Nat) (G : List Int) : Bool := lrT n (ofI n M i G) (M i i) i i (ofB n M i G i)
def ofAll (n : Nat) (M : Nat → Nat → Int) : Nat → Option (List Int)
  | 0 => some (List.replicate 42 0)
  | i + 1 => (ofAll n M i).bind fun G => if ofD n M i G ≤ 0 ∨ ofO n M i G = true then none else some ((ofI n M i G).set (36 + i) (ofD n M i G))
theorem ofAll_none {n : Nat} {M : Nat → Nat → Int} {i : Nat} (h : ofAll n M i = none) (k : Nat) : ofAll n M (i + k) = none := by
  induction k with
  | zero => exact h
  | succ k ih => rw [← Nat.add_assoc]; simp [ofAll, ih]
theorem inI_set {X : List Int} (h : ∀ x ∈ X, inI x) (k : Nat) {v : Int} (hv : inI v) : ∀ x ∈ X.set k v, inI x := by
  intro x hx
  rcases List.mem_or_eq_of_mem_set hx with h1 | h1
  · exact h x h1
  · rw [h1]; exact hv
theorem getD_set_ne {X : List Int} {k j : Nat} {v : Int} (h : k ≠ j) : (X.set k v).getD j 0 = X.getD j 0 := by
  rw [List.getD_eq_getElem?_getD, List.getD_eq_getElem?_getD, List.getElem?_set_ne h]
theorem getD_set_self {X : List Int} {k : Nat} {v : Int} (h : k < X.length) : (X.set k v).getD k 0 = v := by
  rw [List.getD_eq_getElem?_getD, List.getElem?_set_self h]; rfl
/-- What has been told of the factors ahead of row i. -/
structure OfS (i : Nat) (G : List Int) : Prop where
  len : G.length = 42
  ins : ∀ x ∈ G, inI x
  pos : ∀ k, k < i → 1 ≤ G.getD (36 + k) 0
theorem OfS.zero : OfS 0 (List.replicate 42 0) := ⟨rfl, fun x hx => by rw [List.eq_of_mem_replicate hx]; unfold inI; omega, fun k hk => by omega⟩
theorem OfS.low {i : Nat} {G : List Int} (h : OfS i G) (k : Nat) (hk : k < 36) {v : Int} (hv : inI v) : OfS i (G.set k v) := ⟨by rw [List.length_set]; exact h.len, inI_set h.ins k hv, fun m hm => by rw [getD_set_ne (by omega)]; exact h.pos m hm⟩
theorem OfS.next {i : Nat} {G : List Int} (h : OfS i G) (hi : i < 6) {v : Int} (hv : inI v) (h1 : 1 ≤ v) : OfS (i + 1) (G.set (36 + i) v) := ⟨by rw [List.length_set]; exact h.len, inI_set h.ins _ hv, fun m hm => by
  by_cases e : m = i
  · subst e; rw [getD_set_self (by rw [h.len]; omega)]; exact h1
  · rw [getD_set_ne (by omega)]; exact h.pos m (by omega)⟩
theorem OfS.row {n i : Nat} {M : Nat → Nat → Int} {G : List Int} (h : OfS i G) (hi : i * n + n ≤ 36) (j : Nat) (hj : j ≤ n) : OfS i (ofG n M i G j) := by
  induction j with
  | zero => exact h
  | succ j ih => exact (ih (by omega)).low _ (by omega) (bnd_in _)
theorem ldB_set (n : Int) (G : List Int) (k : Nat) (v : Int) : (ldB n G).set (1 + k) (.int .i64 v) = ldB n (G.set k v) := by
  rw [Nat.add_comm 1 k]
  simp [ldB, List.map_set]
theorem sp43 (C : List AV) (h : C.length = 43) : splice (List.replicate 43 (.int .i64 0)) 0 C = C := by
  unfold splice
  split
  · simp at h
  · simp [h]
theorem sb3 (S : Heap) (x y z : Option Blk) (L : Heap) (o p : Bool) : sameBut (S ++ x :: y :: z :: ttA o :: L) (S ++ x :: y :: z :: ttA p :: L) := by
  have h : blkAt (S ++ x :: y :: z :: ttA o :: L) (S.length + 3) 0 = ttA o := by rw [blkAt_app]; rfl
  have := tt_same (p := p) h
  rwa [show (S ++ x :: y :: z :: ttA o :: L).set (S.length + 3) (ttA p) = S ++ x :: y :: z :: ttA p :: L by rw [set_app]; rfl] at this
theorem set3 (S : Heap) (x y z w v : Option Blk) (L : Heap) : (S ++ x :: y :: z :: w :: L).set (S.length + 3) v = S ++ x :: y :: z :: v :: L := by rw [set_app]; rfl
theorem set2 (S : Heap) (x y z v : Option Blk) (L : Heap) : (S ++ x :: y :: z :: L).set (S.length + 2) v = S ++ x :: y :: v :: L := by rw [set_app]; rfl
theorem blk3 (S : Heap) (x y z w : Option Blk) (L : Heap) (v : Nat) : blkAt (S ++ x :: y :: z :: w :: L) (S.length + 3) v = blkAt [w] 0 v := by rw [blkAt_app]; rfl
theorem blk2f (S : Heap) (x y z : Option Blk) (L : Heap) (v : Nat) : blkAt (S ++ x :: y :: z :: L) (S.length + 2) v = blkAt [z] 0 v := by rw [blkAt_app]; rfl
theorem ldB_all (n : Int) (G : List Int) : (ldB n G).all AV.one = true := by simp [ldB, AV.one]
theorem ldB_tly (n : Int) (G : List Int) : tallyC (ldB n G) = false := rfl
theorem lr_in (n : Nat) (G : List Int) (z : Int) (i j : Nat) : inI (lrV n G z i j) := bnd_in _
theorem ldlOf_ok (n : Nat) (M : Nat → Nat → Int) (S : Heap) (hn : 1 ≤ n ∧ n ≤ 6) (hM : ∀ i j, i < n → j < n → inI (M i j)) (he : EvenM n n M) (v : AV) (hv : (∃ G, ofAll n M n = some G ∧ v = .tup [.agg (ldB n G), .nili]) ∨ ofAll n M n = none ∧ v = .tup [.agg (List.replicate 43 (.int .i64 0)), errA 8]) :
    Call theE 12 [mk n n M] S v S := by
  have ev := fun S => ldlEven_ok n n M S hn hn true (by simp [he])
  have hnn : n * n ≤ 36 := Nat.mul_le_mul hn.2 hn.2
  have tk := take36g n M (n * n)
  have al := all36g (gridP n M (n * n))
  simp only [mk, matA] at ev ⊢
  refine Call.ofC Tryd.func12 YtoncolpkpgbfiaaDoor.b12 YtoncolpkpgbfiaaDoor.d12 YtoncolpkpgbfiaaDoor.e12 (by simp [Tryd.f12]) ?_
  dsimp only [YtoncolpkpgbfiaaDoor.c12, Tryd.f12, Option.getD_some]
  iterate 2
    simp (maxSteps := 2000000) only [wk0, wk1, wk2, wk3, wk4, wk5, wk6, Fr.ev, Fr.put, Fr.get, storeA, List.replicate, IntKind.bits, sevalprocAttr, List.length_cons, List.length_map, gridP_len, List.take_succ_cons, List.drop_succ_cons, List.drop_zero, List.take_zero, tk, al, YtoncolpkpgbfiaaDoor.D12, ty1, ty2, ty3, ty4, ty30, ty44, ty45, ty47, ty51, ty75, ty91, ty92, ty94]
    try first
      | refine callThen_of (ev _) ?_
  obtain ⟨mc, hmc⟩ : ∃ mc, (AV.int .i64 n :: AV.int .i64 n :: (gridP n M (n * n)).map fun x => AV.int .i64 x) = mc := ⟨_, rfl⟩
  have ml : mc.length = 38 := by rw [← hmc]; simp [gridP_len]
  have mt : tallyC mc = false := by rw [← hmc]; rfl
  have m0 : mc[0]? = some (.int .i64 n) := by rw [← hmc]; rfl
  have spz := sp43 (List.replicate 43 (.int .i64 0)) rfl
  simp only [List.replicate] at spz
  have gM : ∀ i j, i < n → j < n → mc[2 + (i * n + j)]? = some (.int .i64 (M i j)) := fun i j hi hj => by rw [← hmc]; exact get38 (grid_get n n M i j hi hj hnn)
  rw [hmc]
  refine loopC_ind (fun m fr H => ∃ (i : Nat) (G : List Int), i + m = n ∧ ofAll n M i = some G ∧ OfS i G ∧ fr.get 1 = .ptr S.length 0 0 ∧ fr.get 2 = .ptr (S.length + 1) 0 0 ∧ fr.get 3 = .nili ∧ fr.get 4 = .ptr (S.length + 2) 0 0 ∧ fr.get 5 = .ptr (S.length + 3) 0 0 ∧ fr.get 22 = .int .i64 n ∧ fr.get 23 = .int .i64 i ∧
    H = S ++ [some ⟨mc, 0⟩, some ⟨List.replicate 43 (.int .i64 0), 0⟩, some ⟨ldB n G, 0⟩, some ⟨[.bool false], 0⟩]) ?_ (n := n) ⟨0, _, by omega, rfl, OfS.zero, rfl, rfl, rfl, rfl, rfl, rfl, rfl, rfl⟩
  rintro m fr H ⟨i, G, him, hA, hS, g1, g2, g3, g4, g5, g22, g23, rfl⟩ ih
  by_cases hi : (i : Int) < n
  · have hin : i < n := by omega
    have hin1 : i * n + n ≤ 36 := by
      have := Nat.mul_le_mul (show i + 1 ≤ 6 by omega) hn.2
      rw [Nat.add_mul, Nat.one_mul] at this; exact this
    have wi : IntKind.i64.wrap ((i : Int) + 1) = ((i + 1 : Nat) : Int) := wrapI (by omega)
    have w1 : IntKind.i64.wrap ((i : Int) * n) = ((i * n : Nat) : Int) := by rw [wrapI (by rw [← Int.natCast_mul]; omega)]; simp
    have sb := fun x y z (o p : Bool) (L : Heap) => eq_true (sb3 S x y z L o p)
    simp only [ttA] at sb
    simp (maxSteps := 2000000) only [wk0, wk1, wk2, wk3, wk4, wk5, wk6, Fr.ev, Fr.put, Fr.get, storeA, List.replicate, IntKind.bits, sevalprocAttr, g1, g2, g3, g4, g5, g22, g23, hi, YtoncolpkpgbfiaaDoor.D12, ty1, ty2, ty3, ty4, ty30, ty44, ty45, ty47, ty51, ty75, ty91, ty92, ty94]
    refine loopC_ind (fun m' fr H => ∃ j : Nat, j + m' = i ∧ fr.get 1 = .ptr S.length 0 0 ∧ fr.get 2 = .ptr (S.length + 1) 0 0 ∧ fr.get 3 = .nili ∧ fr.get 4 = .ptr (S.length + 2) 0 0 ∧ fr.get 5 = .ptr (S.length + 3) 0 0 ∧ fr.get 22 = .int .i64 n ∧ fr.get 23 = .int .i64 i ∧ fr.get 6 = .int .i64 i ∧ fr.get 26 = .int .i64 i ∧ fr.get 27 = .int .i64 j ∧
      H = S ++ [some ⟨mc, 0⟩, some ⟨List.replicate 43 (.int .i64 0), 0⟩, some ⟨ldB n (ofG n M i G j), 0⟩, some ⟨[.bool (ofB n M i G j)], 0⟩]) ?_ (n := i) ⟨0, by omega, by simp [Fr.get, g1], by simp [Fr.get, g2], by simp [Fr.get, g3], by simp [Fr.get, g4], by simp [Fr.get, g5], by simp [Fr.get, g22], by simp [Fr.get, g23], by simp [Fr.get], by simp [Fr.get], by simp [Fr.get], rfl⟩
    clear g1 g2 g3 g4 g5 g22 g23
    rintro m' fr H ⟨j, hjm, g1, g2, g3, g4, g5, g22, g23, g6, g26, g27, rfl⟩ ih2
    have hR := hS.row (n := n) (M := M) hin1 j (by omega)
    by_cases hj : (j : Int) < i
    · have hji : j < i := by omega
      have wj : IntKind.i64.wrap ((j : Int) + 1) = ((j + 1 : Nat) : Int) := wrapI (by omega)
      have w2 : IntKind.i64.wrap (((i * n : Nat) : Int) + j) = ((i * n + j : Nat) : Int) := by rw [wrapI (by omega)]; simp
      have p1 : (0 : Int) ≤ ((i * n + j : Nat) : Int) := by omega
      have p2 : ((i * n + j : Nat) : Int) < 36 := by omega
      have p3 : (0 : Int) ≤ j := by omega
      have p4 : (j : Int) < 6 := by omega
      have gm := gM i j hin (by omega)
      have gl : (ldB n (ofG n M i G j)).length = 43 := by rw [ldB_len, hR.len]
      have g0 : (ldB n (ofG n M i G j))[0]? = some (.int .i64 n) := rfl
      have ga : (ldB n (ofG n M i G j))[37 + j]? = some (.int .i64 ((ofG n M i G j).getD (36 + j) 0)) := by rw [← ldB_at n _ (36 + j) (by rw [hR.len]; omega), show 1 + (36 + j) = 37 + j by omega]
      have dp := hR.pos j hji
      have c1 := fun x y o L => ldlRest_ok n i j (S.length + 2) (S.length + 3) (ofG n M i G j) (M i j) o (S ++ x :: y :: some ⟨ldB n (ofG n M i G j), 0⟩ :: ttA o :: L) hn.2 hin (by omega) hR.len hR.ins (hM i j hin (by omega)) (by omega) (by rw [blk2f]; rfl) (by rw [blk3]; rfl)
      have c2 := fun x y z o L => ldlBy_ok (lrV n (ofG n M i G j) (M i j) i j) ((ofG n M i G j).getD (36 + j) 0) 30 (S.length + 3) o (S ++ x :: y :: z :: ttA o :: L) (lr_in _ _ _ _ _) (getD_in hR.ins _) (by omega) (by omega) (by rw [blk3]; rfl)
      simp only [set3, ttA] at c1 c2
      change ∀ x y z o L, Call theE _ [_, _, _, .int .i64 30] _ (.int .i64 (bndI (ofQ n M i (ofG n M i G j) j))) (S ++ x :: y :: z :: some ⟨[.bool (o || ovrB (ofQ n M i (ofG n M i G j) j))], 0⟩ :: L) at c2
      have fG : (ldB n (ofG n M i G j)).set (1 + (i * n + j)) (.int .i64 (bndI (ofQ n M i (ofG n M i G j) j))) = ldB n (ofG n M i G (j + 1)) := by rw [ldB_set]; rfl
      have fB : (lrT n (ofG n M i G j) (M i j) i j (ofB n M i G j) || ovrB (ofQ n M i (ofG n M i G j) j)) = ofB n M i G (j + 1) := rfl
      have p5 : 1 + (i * n + j) + 1 ≤ 43 := by omega
      have p6 : 1 + (i * n + j) < 43 := by omega
      iterate 3
        simp (maxSteps := 2000000) only [wk0, wk1, wk2, wk3, wk4, wk5, wk6, Fr.ev, Fr.put, Fr.get, storeA, List.replicate, IntKind.bits, sevalprocAttr, g1, g2, g3, g4, g5, g6, g22, g23, g26, g27, hj, wj, w1, w2, p1, p2, p3, p4, p5, p6, gm, gl, g0, ga, ml, mt, sb, fG, fB, ldB_tly, List.length_map, Int.toNat_natCast, Nat.mul_one, YtoncolpkpgbfiaaDoor.D12, ty1, ty2, ty3, ty4, ty30, ty44, ty45, ty47, ty51, ty75, ty91, ty92, ty94]
        try first
          | refine callThen_of (c1 _ _ _ _) ?_
          | refine callThen_of (c2 _ _ _ _ _) ?_
      exact ih2 (m' - 1) _ _ (by omega) ⟨j + 1, by omega, by simp [Fr.get, g1], by simp [Fr.get, g2], by simp [Fr.get, g3], by simp [Fr.get, g4], by simp [Fr.get, g5], by simp [Fr.get, g22], by simp [Fr.get, g23], by simp [Fr.get, g6], by simp [Fr.get, g26], by simp [Fr.get], rfl⟩
    · obtain rfl : j = i := by omega
      clear ih2
      have hI : OfS j (ofI n M j G) := hR.low _ (by omega) (by unfold inI; omega)
      have w2 : IntKind.i64.wrap (((j * n : Nat) : Int) + j) = ((j * n + j : Nat) : Int) := by rw [wrapI (by omega)]; simp
      have p1 : (0 : Int) ≤ ((j * n + j : Nat) : Int) := by omega
      have p2 : ((j * n + j : Nat) : Int) < 36 := by omega
      have p3 : (0 : Int) ≤ j := by omega
      have p4 : (j : Int) < 6 := by omega
      have gm := gM j j hin hin
      have gl : (ldB n (ofG n M j G j)).length = 43 := by rw [ldB_len, hR.len]
      have g0 : (ldB n (ofG n M j G j))[0]? = some (.int .i64 n) := rfl
      have gl2 : (ldB n (ofI n M j G)).length = 43 := by rw [ldB_len, hI.len]
      have g02 : (ldB n (ofI n M j G))[0]? = some (.int .i64 n) := rfl
      have gl3 : (ldB n ((ofI n M j G).set (36 + j) (ofD n M j G))).length = 43 := by rw [ldB_len, List.length_set, hI.len]
      have ga : (ldB n ((ofI n M j G).set (36 + j) (ofD n M j G)))[37 + j]? = some (.int .i64 (ofD n M j G)) := by
        rw [show 37 + j = 1 + (36 + j) by omega, ldB_at n _ (36 + j) (by rw [List.length_set, hI.len]; omega), getD_set_self (by rw [hI.len]; omega)]
      have c1 := fun x y o L => ldlRest_ok n j j (S.length + 2) (S.length + 3) (ofI n M j G) (M j j) o (S ++ x :: y :: some ⟨ldB n (ofI n M j G), 0⟩ :: ttA o :: L) hn.2 hin (Nat.le_refl _) hI.len hI.ins (hM j j hin hin) (by omega) (by rw [blk2f]; rfl) (by rw [blk3]; rfl)
      simp only [set3, ttA] at c1
      change ∀ x y o L, Call theE _ _ _ (.int .i64 (ofD n M j G)) _ at c1
      have fI : (ldB n (ofG n M j G j)).set (1 + (j * n + j)) (.int .i64 1073741824) = ldB n (ofI n M j G) := by rw [ldB_set]; rfl
      have fD : (ldB n (ofI n M j G)).set (37 + j) (.int .i64 (ofD n M j G)) = ldB n ((ofI n M j G).set (36 + j) (ofD n M j G)) := by rw [show 37 + j = 1 + (36 + j) by omega, ldB_set]
      have fO : lrT n (ofI n M j G) (M j j) j j (ofB n M j G j) = ofO n M j G := rfl
      have p5 : 1 + (j * n + j) + 1 ≤ 43 := by omega
      have p6 : 1 + (j * n + j) < 43 := by omega
      have p7 : 37 + j ≤ 42 := by omega
      iterate 2
        simp (maxSteps := 2000000) only [wk0, wk1, wk2, wk3, wk4, wk5, wk6, Fr.ev, Fr.put, Fr.get, storeA, List.replicate, IntKind.bits, sevalprocAttr, g1, g2, g3, g4, g5, g6, g22, g23, g26, g27, hj, w1, w2, p1, p2, p3, p4, p5, p6, p7, gm, gl, g0, gl2, g02, gl3, ga, ml, mt, sb, fI, fD, fO, ldB_tly, List.length_map, Int.toNat_natCast, Nat.mul_one, YtoncolpkpgbfiaaDoor.D12, ty1, ty2, ty3, ty4, ty30, ty44, ty45, ty47, ty51, ty75, ty91, ty92, ty94]
        try first
          | refine callThen_of (c1 _ _ _ _) ?_
      by_cases hd : ofD n M j G ≤ 0
      · have hno : ofAll n M n = none := by
          have h1 : ofAll n M (j + 1) = none := by simp [ofAll, hA, hd]
          have := ofAll_none h1 (n - (j + 1))
          rwa [show j + 1 + (n - (j + 1)) = n by omega] at this
        rcases hv with ⟨G', hG', -⟩ | ⟨-, rfl⟩
        · rw [hno] at hG'; cases hG'
        simp (maxSteps := 2000000) only [wk0, wk1, wk2, wk3, wk4, wk5, wk6, Fr.ev, Fr.put, Fr.get, storeA, List.replicate, IntKind.bits, sevalprocAttr, g1, g2, g3, g4, g5, g22, g23, fO, hd, gl3, ga, spz, YtoncolpkpgbfiaaDoor.D12, ty1, ty2, ty3, ty4, ty30, ty44, ty45, ty47, ty51, ty75, ty91, ty92, ty94]
        exact retB_plain (by simp [nmd_agg, nmd_int, nmd_ifc]) rfl (by simp)
      · cases hO : ofO n M j G
        · have hn1 : ofAll n M (j + 1) = some ((ofI n M j G).set (36 + j) (ofD n M j G)) := by simp [ofAll, hA, hd, hO]
          have hS1 := hI.next (by omega) (show inI (ofD n M j G) from lr_in _ _ _ _ _) (by omega)
          simp (maxSteps := 2000000) only [wk0, wk1, wk2, wk3, wk4, wk5, wk6, Fr.ev, Fr.put, Fr.get, storeA, List.replicate, IntKind.bits, sevalprocAttr, g1, g2, g3, g4, g5, g22, g23, fO, hO, hd, wi, gl3, ga, YtoncolpkpgbfiaaDoor.D12, ty1, ty2, ty3, ty4, ty30, ty44, ty45, ty47, ty51, ty75, ty91, ty92, ty94]
          exact ih (m - 1) _ _ (by omega) ⟨j + 1, _, by omega, hn1, hS1, by simp [Fr.get, g1], by simp [Fr.get, g2], by simp [Fr.get, g3], by simp [Fr.get, g4], by simp [Fr.get, g5], by simp [Fr.get, g22], by simp [Fr.get], rfl⟩
        · have hno : ofAll n M n = none := by
            have h1 : ofAll n M (j + 1) = none := by simp [ofAll, hA, hO]
            have := ofAll_none h1 (n - (j + 1))
            rwa [show j + 1 + (n - (j + 1)) = n by omega] at this
          rcases hv with ⟨G', hG', -⟩ | ⟨-, rfl⟩
          · rw [hno] at hG'; cases hG'
          simp (maxSteps := 2000000) only [wk0, wk1, wk2, wk3, wk4, wk5, wk6, Fr.ev, Fr.put, Fr.get, storeA, List.replicate, IntKind.bits, sevalprocAttr, g1, g2, g3, g4, g5, g22, g23, fO, hO, hd, gl3, ga, spz, YtoncolpkpgbfiaaDoor.D12, ty1, ty2, ty3, ty4, ty30, ty44, ty45, ty47, ty51, ty75, ty91, ty92, ty94]
          exact retB_plain (by simp [nmd_agg, nmd_int, nmd_ifc]) rfl (by simp)
  · obtain rfl : i = n := by omega
    clear ih
    rcases hv with ⟨G', hG', rfl⟩ | ⟨hno, -⟩
    · rw [hA] at hG'
      obtain rfl : G = G' := by simpa using hG'
      have gl : (ldB i G).length = 43 := by rw [ldB_len, hS.len]
      have tl : List.take 43 (ldB i G) = ldB i G := List.take_of_length_le (by omega)
      have ga := ldB_all i G
      have sp := sp43 (ldB i G) gl
      have na : ∀ n, Nmd n (.agg (ldB i G)) := fun n => .agg _ fun x hx => by
        unfold ldB at hx
        rcases List.mem_cons.1 hx with rfl | hx
        · exact .int _ _
        · obtain ⟨y, _, rfl⟩ := List.mem_map.1 hx
          exact .int _ _
      simp only [List.replicate] at sp ⊢
      simp (maxSteps := 2000000) only [wk0, wk1, wk2, wk3, wk4, wk5, wk6, Fr.ev, Fr.put, Fr.get, storeA, List.replicate, IntKind.bits, sevalprocAttr, g1, g2, g3, g4, g5, g22, g23, hi, gl, tl, ga, sp, YtoncolpkpgbfiaaDoor.D12, ty1, ty2, ty3, ty4, ty30, ty44, ty45, ty47, ty51, ty75, ty91, ty92, ty94]
      exact retB_plain (by simp [nmd_nili]; exact na _) rfl (by simp)
    · rw [hA] at hno; cases hno
end Go.Proofs.YtoncolpkpgbfiaaDoor

/- Layer 9's helpers; what layer 9's statements are sure of. -/
set_option linter.unusedSimpArgs false
set_option linter.unusedVariables false
set_option maxRecDepth 100000
set_option maxHeartbeats 8000000
namespace Go.Proofs.YtoncolpkpgbfiaaDoor
instance (n : Nat) (G : List Int) : Decidable (FineF n G) := by unfold FineF; exact inferInstance
theorem ldlSolve_bad (n : Int) (G : List Int) (v : AV) (S : Heap) (hG : G.length = 42) (ck : ∀ S, Call theE 49 [.agg (ldB n G)] S (errA 1) S) (vm : ∀ k H, moveA false k H v = some (v, H)) :
    Call theE 19 [.agg (ldB n G), v] S (.tup [.nils, .bool false, errA 1]) S := by
  have gl : (ldB n G).length = 43 := by rw [ldB_len, hG]
  have g0 : (ldB n G)[0]? = some (.int .i64 n) := rfl
  have tl : List.take 43 (ldB n G) = ldB n G := List.take_of_length_le (by omega)
  simp only [errA] at ck
  refine Call.ofC Tryd.func19 YtoncolpkpgbfiaaDoor.b19 YtoncolpkpgbfiaaDoor.d19 YtoncolpkpgbfiaaDoor.e19 (by simp [Tryd.f19]) ?_
  dsimp only [YtoncolpkpgbfiaaDoor.c19, Tryd.f19, Option.getD_some]
  iterate 2
    simp (maxSteps := 2000000) only [wk0, wk1, wk2, wk3, wk4, wk5, wk6, Fr.ev, Fr.put, Fr.get, storeA, List.replicate, IntKind.bits, sevalprocAttr, gl, g0, tl, vm, decide_true, decide_false, YtoncolpkpgbfiaaDoor.D19, ty1, ty2, ty3, ty4, ty30, ty42, ty45, ty47, ty75, ty91, ty92, ty94]
    try first
      | refine callThen_of (ck _) ?_
  exact retB_plain (by simp [nmd_bool, nmd_ifc, nmd_int, nmd_nils]) rfl (by simp)
noncomputable def c13 : Code := Tryd.f13.body.getD .skip
theorem b13 : Tryd.f13.body = some c13 := rfl
theorem d13 : fnOk Tryd.f13 c13 = true := by kernel_rfl
def D13 : Nat → List Tag := fun _ => []
theorem e13 : drawsOk D13 c13 = true := by kernel_rfl
noncomputable def c20 : Code := Tryd.f20.body.getD .skip
theorem b20 : Tryd.f20.body = some c20 := rfl
theorem d20 : fnOk Tryd.f20 c20 = true := by kernel_rfl
def D20 : Nat → List Tag
  | 6 => [.pure, .pure, .pure, .quiet, .pure, .pure, .pure, .quiet, .pure]
  | _ => []
theorem e20 : drawsOk D20 c20 = true := by kernel_rfl
noncomputable def c15 : Code := Tryd.f15.body.getD .skip
theorem b15 : Tryd.f15.body = some c15 := rfl
theorem d15 : fnOk Tryd.f15 c15 = true := by kernel_rfl
def D15 : Nat → List Tag := fun _ => []
theorem e15 : drawsOk D15 c15 = true := by kernel_rfl
theorem matOf9_ok (u : AV) (r c : Nat) (f : Nat → Nat → Int) (S : Heap) (hu : ∀ o k H, moveA o k H u = some (u, H)) (q : ∀ S, Call theE 41 [u] S (.tup [mk r c f, .nili]) S) : Call theE 13 [u] S (mk r c f) S := by
  have tk := take36g c f (r * c)
  have al := all36g (gridP c f (r * c))
  simp only [mk, matA] at q ⊢
  refine Call.ofC Tryd.func13 YtoncolpkpgbfiaaDoor.b13 YtoncolpkpgbfiaaDoor.d13 YtoncolpkpgbfiaaDoor.e13 (by simp [Tryd.f13]) ?_
  dsimp only [YtoncolpkpgbfiaaDoor.c13, Tryd.f13, Option.getD_some]
  iterate 2
    simp (maxSteps := 2000000) only [wk0, wk1, wk2, wk3, wk4, wk5, wk6, Fr.ev, Fr.put, Fr.get, storeA, List.replicate, IntKind.bits, sevalprocAttr, hu, List.length_map, gridP_len, tk, al, YtoncolpkpgbfiaaDoor.D13, ty4, ty30, ty41, ty51]
    try first
      | refine callThen_of (q _) ?_
  exact retB_plain (by simp [nmd_agg, nmd_int]) rfl (by simp)
theorem nums09_ok (l r : List Int) (S : Heap) (hl : l.length ≤ maxLen) : Call theE 20 [lstI l, lstI r] S (.bool (decide (l = r))) S := by
  have hml : maxLen ≤ 9223372036854775807 := by decide
  refine Call.ofC Tryd.func20 YtoncolpkpgbfiaaDoor.b20 YtoncolpkpgbfiaaDoor.d20 YtoncolpkpgbfiaaDoor.e20 (by simp [Tryd.f20]) ?_
  dsimp only [YtoncolpkpgbfiaaDoor.c20, Tryd.f20, Option.getD_some]
  by_cases h6 : (l.length : Int) = r.length
  · simp (maxSteps := 2000000) only [wk0, wk1, wk2, wk3, wk4, wk5, wk6, Fr.ev, Fr.put, Fr.get, storeA, List.replicate, IntKind.bits, sevalprocAttr, lstI, h6, YtoncolpkpgbfiaaDoor.D20, ty2, ty3, ty4, ty42]
    refine loopC_ind (fun m fr H => ∃ i : Nat, i + m = l.length ∧ l.take i = r.take i ∧ fr.get 5 = .int .i64 i ∧ fr.get 0 = lstI l ∧ fr.get 1 = lstI r ∧ H = S) ?_ (n := l.length) ⟨0, by omega, by simp, rfl, rfl, rfl, rfl⟩
    rintro m fr H ⟨i, him, hall, g5, g0, g1, rfl⟩ ih
    by_cases hi : (i : Int) < l.length
    · have hin : i < l.length := by omega
      have hir : i < r.length := by omega
      have hi' : (i : Int) < r.length := by omega
      have k1 : (0 : Int) ≤ i := by omega
      have wi : IntKind.i64.wrap ((i : Int) + 1) = ((i + 1 : Nat) : Int) := wrapI (by omega)
      have gl := get_lstI hin
      have gr := get_lstI hir
      by_cases hr : l[i] = r[i]
      · simp (maxSteps := 2000000) only [wk0, wk1, wk2, wk3, wk4, wk5, wk6, Fr.ev, Fr.put, Fr.get, storeA, List.replicate, IntKind.bits, sevalprocAttr, lstI, g5, g0, g1, hi, hi', k1, Int.toNat_natCast, Nat.mul_one, gl, gr, hr, wi, YtoncolpkpgbfiaaDoor.D20, ty2, ty3, ty4, ty42]
        refine ih (m - 1) _ _ (by omega) ⟨i + 1, by omega, ?_, by simp [Fr.get], by simp [Fr.get, g0, lstI], by simp [Fr.get, g1, lstI], rfl⟩
        rw [List.take_succ_eq_append_getElem hin, List.take_succ_eq_append_getElem hir, hall, hr]
      · rw [decide_eq_false (fun h => hr (by simp [h]))]
        simp (maxSteps := 2000000) only [wk0, wk1, wk2, wk3, wk4, wk5, wk6, Fr.ev, Fr.put, Fr.get, storeA, List.replicate, IntKind.bits, sevalprocAttr, lstI, g5, g0, g1, hi, hi', k1, Int.toNat_natCast, Nat.mul_one, gl, gr, hr, wi, YtoncolpkpgbfiaaDoor.D20, ty2, ty3, ty4, ty42]
        exact retB_plain (by simp [nmd_bool]) rfl (by simp)
    · obtain rfl : i = l.length := by omega
      rw [List.take_length, List.take_of_length_le (by omega)] at hall
      rw [decide_eq_true hall]
      simp (maxSteps := 2000000) only [wk0, wk1, wk2, wk3, wk4, wk5, wk6, Fr.ev, Fr.put, Fr.get, storeA, List.replicate, IntKind.bits, sevalprocAttr, lstI, g5, g0, g1, hi, YtoncolpkpgbfiaaDoor.D20, ty2, ty3, ty4, ty42]
      exact retB_plain (by simp [nmd_bool]) rfl (by simp)
  · rw [decide_eq_false (fun h => h6 (by rw [h]))]
    simp (maxSteps := 2000000) only [wk0, wk1, wk2, wk3, wk4, wk5, wk6, Fr.ev, Fr.put, Fr.get, storeA, List.replicate, IntKind.bits, sevalprocAttr, lstI, h6, YtoncolpkpgbfiaaDoor.D20, ty2, ty3, ty4, ty42]
    exact retB_plain (by simp [nmd_bool]) rfl (by simp)
def su9 (i j : Nat) : Int := if i = 0 then (if j = 0 then 4194304 else 2097152) else if j = 0 then 2097152 else 3145728
def suG : List Int := [1073741824, 0, 536870912, 1073741824, 0, 0, 0, 0, 0, 0, 0, 0, 0, 0, 0, 0, 0, 0, 0, 0, 0, 0, 0, 0, 0, 0, 0, 0, 0, 0, 0, 0, 0, 0, 0, 0, 4194304, 2097152, 0, 0, 0, 0]
theorem suG_ok : ofAll 2 su9 2 = some suG := by decide +kernel
theorem suG_fine : FineF 2 suG := by decide +kernel
theorem suG_in : ∀ x ∈ suG, inI x := by unfold suG inI; decide
theorem sure09_ok (S : Heap) : Call theE 15 [] S (.bool true) S := by
  have q1 : ∀ S, Call theE 13 [.lst [.lst [.int .i64 4194304, .int .i64 2097152] 2, .lst [.int .i64 2097152, .int .i64 3145728] 2] 2] S (mk 2 2 su9) S := fun S => matOf9_ok _ 2 2 su9 S (fun _ _ _ => rfl) fun S => by
    have := of_mat_ok [[4194304, 2097152], [2097152, 3145728]] 2 S (by decide) (by decide) (by simp)
    exact this
  have q2 := fun S => ldlOf_ok 2 su9 S (by decide) (fun i j _ _ => by unfold su9 inI; split <;> split <;> omega) ⟨rfl, fun i j _ _ => by unfold su9; by_cases h1 : i = 0 <;> by_cases h2 : j = 0 <;> simp [h1, h2]⟩ _ (.inl ⟨suG, suG_ok, rfl⟩)
  have q3 := fun S => ldlSolve_ok 2 suG _ [4194304, 2097152] S (by decide) rfl suG_in suG_fine rfl (by unfold inI; decide) (VecS.lst S [4194304, 2097152]) _ _ rfl rfl
  have q4 := fun S => ldlFar_ok 2 suG _ [2097152, 1048576] S (by decide) rfl suG_in suG_fine rfl (by unfold inI; decide) (VecS.lst S [2097152, 1048576])
  have q5 := fun S => ldlLog_ok 2 suG S (by decide) rfl suG_fine
  have e3 : bkX 2 suG (svX suG (dnY 2 suG [4194304, 2097152] 2) 2) 2 = [1048576, 0] := by decide +kernel
  have o3 : bkT 2 suG (svX suG (dnY 2 suG [4194304, 2097152] 2) 2) (svT suG (dnY 2 suG [4194304, 2097152] 2) (dnT 2 suG [4194304, 2097152] false 2) 2) 2 = false := by decide +kernel
  have e4 : faS suG (dnY 2 suG [2097152, 1048576] 2) 2 = 1048576 := by decide +kernel
  have o4 : faT suG (dnY 2 suG [2097152, 1048576] 2) (dnT 2 suG [2097152, 1048576] false 2) 2 = false := by decide +kernel
  rw [e3, o3] at q3
  rw [e4, o4] at q4
  have nu := fun S => nums09_ok [1048576, 0] [1048576, 0] S (by unfold maxLen; simp)
  rw [decide_eq_true rfl] at nu
  generalize lgS suG 2 = lg at *
  have tk := take36g 2 su9 4
  have al := all36g (gridP 2 su9 4)
  have eb : ldB 2 suG = [.int .i64 2, .int .i64 1073741824, .int .i64 0, .int .i64 536870912, .int .i64 1073741824, .int .i64 0, .int .i64 0, .int .i64 0, .int .i64 0, .int .i64 0, .int .i64 0, .int .i64 0, .int .i64 0, .int .i64 0, .int .i64 0, .int .i64 0, .int .i64 0, .int .i64 0, .int .i64 0, .int .i64 0, .int .i64 0, .int .i64 0, .int .i64 0, .int .i64 0, .int .i64 0, .int .i64 0, .int .i64 0, .int .i64 0, .int .i64 0, .int .i64 0, .int .i64 0, .int .i64 0, .int .i64 0, .int .i64 0, .int .i64 0, .int .i64 0, .int .i64 0, .int .i64 4194304, .int .i64 2097152, .int .i64 0, .int .i64 0, .int .i64 0, .int .i64 0] := rfl
  simp only [lstI, List.map_cons, List.map_nil, List.length_cons, List.length_nil, Nat.reduceAdd, mk, matA, Nat.reduceMul, castLit] at q1 q2 q3 q4 q5 nu
  change ∀ S, Call theE _ _ S (.tup [.agg (ldB 2 suG), .nili]) S at q2
  change ∀ S, Call theE _ [.agg (ldB 2 suG), _] S _ S at q3
  change ∀ S, Call theE _ [.agg (ldB 2 suG), _] S _ S at q4
  change ∀ S, Call theE _ [.agg (ldB 2 suG)] S _ S at q5
  rw [eb] at q2 q3 q4 q5
  refine Call.ofC Tryd.func15 YtoncolpkpgbfiaaDoor.b15 YtoncolpkpgbfiaaDoor.d15 YtoncolpkpgbfiaaDoor.e15 (by simp [Tryd.f15]) ?_
  dsimp only [YtoncolpkpgbfiaaDoor.c15, Tryd.f15, Option.getD_some]
  iterate 7
    simp (maxSteps := 2000000) only [wk0, wk1, wk2, wk3, wk4, wk5, wk6, Fr.ev, Fr.put, Fr.get, storeA, List.replicate, IntKind.bits, sevalprocAttr, List.length_map, gridP_len, tk, al, take36g, all36g, YtoncolpkpgbfiaaDoor.D15, ty1, ty2, ty4, ty30, ty41, ty42, ty44, ty45, ty47, ty51]
    try first
      | refine callThen_of (q1 _) ?_
      | refine callThen_of (q2 _) ?_
      | refine callThen_of (q3 _) ?_
      | refine callThen_of (q4 _) ?_
      | refine callThen_of (q5 _) ?_
      | refine callThen_of (nu _) ?_
  exact retB_plain (by simp [nmd_bool]) rfl (by simp)
end Go.Proofs.YtoncolpkpgbfiaaDoor
