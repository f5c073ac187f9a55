/- The document's logarithm (chapter 6). -/
import Derived.Test.YtdknnaalfoongaaGreatDoorKG
import Derived.Test.YtdknnaalfoongaaGreatDoorD9
import Derived.Test.YtdknnaalfoongaaGreatDoorP7
set_option linter.unusedSimpArgs false
set_option linter.unusedVariables false
set_option maxRecDepth 100000
set_option maxHeartbeats 8000000
namespace Go.Proofs.YtdknnaalfoongaaGreatDoor
noncomputable def c94 : Code := Tryz.f94.body.getD .skip
theorem b94 : Tryz.f94.body = some c94 := rfl
theorem d94 : fnOk Tryz.f94 c94 = true := by kernel_rfl
def D94 : Nat → List Tag := fun _ => []
theorem e94 : drawsOk D94 c94 = true := by kernel_rfl
noncomputable def c63 : Code := Tryz.f63.body.getD .skip
theorem b63 : Tryz.f63.body = some c63 := rfl
theorem d63 : fnOk Tryz.f63 c63 = true := by kernel_rfl
def D63 : Nat → List Tag
  | 14 => [.quiet, .pure, .pure, .pure, .pure, .pure, .quiet, .seq, .seq]
  | 17 => [.quiet, .quiet, .seq, .seq, .pure]
  | _ => []
theorem e63 : drawsOk D63 c63 = true := by kernel_rfl
def dcB (z : Int) : Option Blk := some ⟨[.bool (decide (z < 0)), .lst ((digs z.natAbs).map fun x => .int .i64 x) (lenD z.natAbs)], 0⟩
theorem refTimes_ok (a b : Int) (S : Heap) (ha : inI a) (hb : inI b) : Call theE 94 [.int .i64 a, .int .i64 b] S (.int .i64 (tmG a b)) S := by
  have m := fun S => refDot_ok _ _ [a] [b] 50 S (SlI.lst _) (SlI.lst _) (by omega) rfl (by simp) (by simpa using ha) (by simpa using hb)
  rw [show dotZ [a] [b] = a * b by simp [dotZ]] at m
  simp only [List.map_cons, List.map_nil, List.length_cons, List.length_nil, Nat.zero_add] at m
  change ∀ S, Call theE _ [_, _, .int .i64 50] _ (.tup [.int .i64 (tmG a b), _]) _ at m
  generalize ovrB (rnd (a * b) (2 ^ 50)) = o at m
  refine Call.ofC Tryz.func94 YtdknnaalfoongaaGreatDoor.b94 YtdknnaalfoongaaGreatDoor.d94 YtdknnaalfoongaaGreatDoor.e94 (by simp [Tryz.f94]) ?_
  dsimp only [YtdknnaalfoongaaGreatDoor.c94, Tryz.f94, Option.getD_some]
  simp (maxSteps := 2000000) only [wk0, wk1, wk2, wk3, wk4, wk5, wk6, Fr.ev, Fr.put, Fr.get, storeA, List.replicate, IntKind.bits, sevalprocAttr, YtdknnaalfoongaaGreatDoor.D94, ty1, ty2, ty3, ty4, ty22]
  refine callThen_of (m _) ?_
  simp (maxSteps := 2000000) only [wk0, wk1, wk2, wk3, wk4, wk5, wk6, Fr.ev, Fr.put, Fr.get, storeA, List.replicate, IntKind.bits, sevalprocAttr, YtdknnaalfoongaaGreatDoor.D94, ty1, ty2, ty3, ty4, ty22]
  exact retB_plain (by simp [nmd_int]) rfl (by simp)
theorem refLog_ok (x b : Int) (S : Heap) (hx : 1 ≤ x ∧ x ≤ 4611686018427387903) (hb : 0 ≤ b ∧ b ≤ 62) : Call theE 63 [.int .i64 x, .int .i64 b] S (.int .i64 (logV x b)) S := by
  obtain ⟨X, hX⟩ : ∃ X : Nat, x = (X : Int) := ⟨x.toNat, by omega⟩
  subst hX
  have h0 : X ≠ 0 := by omega
  have hm := logM_in h0
  have hB := lenG_in h0 (by omega)
  have hmI : 1125899906842624 ≤ ((logM X : Nat) : Int) ∧ ((logM X : Nat) : Int) < 2251799813685248 := by omega
  have hM : logM X = X / 2 ^ (lenU X - 51) * 2 ^ (51 - lenU X) := rfl
  have hdn := fun i => log_dn (i := i) h0
  have hup := fun j => log_up (j := j) h0
  have hr := riseV_in hmI
  unfold logV
  rw [Int.toNat_natCast]
  generalize hBB : lenU X = B at *
  obtain ⟨m0, hm0⟩ : ∃ m0 : Int, m0 = ((logM X : Nat) : Int) := ⟨_, rfl⟩
  rw [← hm0] at hmI hr ⊢
  have w50 : IntKind.i64.wrap (50 - b) = 50 - b := wrapI (by omega)
  refine Call.ofC Tryz.func63 YtdknnaalfoongaaGreatDoor.b63 YtdknnaalfoongaaGreatDoor.d63 YtdknnaalfoongaaGreatDoor.e63 (by simp [Tryz.f63]) ?_
  dsimp only [YtdknnaalfoongaaGreatDoor.c63, Tryz.f63, Option.getD_some]
  simp (maxSteps := 2000000) only [wk0, wk1, wk2, wk3, wk4, wk5, wk6, Fr.ev, Fr.put, Fr.get, storeA, List.replicate, IntKind.bits, sevalprocAttr, w50, YtdknnaalfoongaaGreatDoor.D63, ty2, ty3, ty4, ty115]
  refine loopC_ind (fun m fr H => ∃ i : Nat, i + m = B - 51 ∧ fr.get 5 = .int .i64 ((X / 2 ^ i : Nat) : Int) ∧ fr.get 6 = .int .i64 (50 - b + (i : Int)) ∧ H = S) ?_ (n := B - 51) ⟨0, by omega, by simp [Fr.get], by simp [Fr.get], rfl⟩
  rintro m fr H ⟨i, him, g5, g6, rfl⟩ ih
  have hXi : X / 2 ^ i ≤ X := Nat.div_le_self _ _
  by_cases hc : (2251799813685248 : Int) ≤ ((X / 2 ^ i : Nat) : Int)
  · have hi : i < B - 51 := (hdn i).1 (by omega)
    have e1 : Int.tdiv ((X / 2 ^ i : Nat) : Int) 2 = ((X / 2 ^ (i + 1) : Nat) : Int) := by
      rw [Int.tdiv_eq_ediv_of_nonneg (by omega), Nat.pow_succ, ← Nat.div_div_eq_div_mul]; omega
    have hXi1 : X / 2 ^ (i + 1) ≤ X := Nat.div_le_self _ _
    have w1 : IntKind.i64.wrap ((X / 2 ^ (i + 1) : Nat) : Int) = ((X / 2 ^ (i + 1) : Nat) : Int) := wrapI (by clear e1; generalize X / 2 ^ (i + 1) = q at *; omega)
    have w2 : IntKind.i64.wrap (50 - b + (i : Int) + 1) = 50 - b + ((i + 1 : Nat) : Int) := by rw [wrapI (by omega)]; omega
    simp (maxSteps := 2000000) only [wk0, wk1, wk2, wk3, wk4, wk5, wk6, Fr.ev, Fr.put, Fr.get, storeA, List.replicate, IntKind.bits, sevalprocAttr, g5, g6, hc, e1, w1, w2, YtdknnaalfoongaaGreatDoor.D63, ty2, ty3, ty4, ty115]
    exact ih (m - 1) _ _ (by omega) ⟨i + 1, by omega, by simp [Fr.get], by simp [Fr.get], rfl⟩
  · have hi : i = B - 51 := by
      have : ¬ i < B - 51 := fun h => by have := (hdn i).2 h; omega
      omega
    subst hi
    simp (maxSteps := 2000000) only [wk0, wk1, wk2, wk3, wk4, wk5, wk6, Fr.ev, Fr.put, Fr.get, storeA, List.replicate, IntKind.bits, sevalprocAttr, g5, g6, hc, YtdknnaalfoongaaGreatDoor.D63, ty2, ty3, ty4, ty115]
    refine loopC_ind (fun m fr H' => ∃ j : Nat, j + m = 51 - B ∧ fr.get 5 = .int .i64 ((X / 2 ^ (B - 51) * 2 ^ j : Nat) : Int) ∧ fr.get 6 = .int .i64 (50 - b + ((B - 51 : Nat) : Int) - (j : Int)) ∧ H' = H) ?_ (n := 51 - B) ⟨0, by omega, by simp [Fr.get, g5], by simp [Fr.get, g6], rfl⟩
    rintro m' fr H' ⟨j, hjm, g5, g6, rfl⟩ ih2
    by_cases hc2 : ((X / 2 ^ (B - 51) * 2 ^ j : Nat) : Int) < 1125899906842624
    · have hj : j < 51 - B := (hup j (by omega)).1 (by omega)
      have e1 : 2 * ((X / 2 ^ (B - 51) * 2 ^ j : Nat) : Int) = ((X / 2 ^ (B - 51) * 2 ^ (j + 1) : Nat) : Int) := by
        rw [Nat.pow_succ, ← Nat.mul_assoc]; omega
      have w1 : IntKind.i64.wrap ((X / 2 ^ (B - 51) * 2 ^ (j + 1) : Nat) : Int) = ((X / 2 ^ (B - 51) * 2 ^ (j + 1) : Nat) : Int) := wrapI (by omega)
      have w2 : IntKind.i64.wrap (50 - b + ((B - 51 : Nat) : Int) - (j : Int) - 1) = 50 - b + ((B - 51 : Nat) : Int) - ((j + 1 : Nat) : Int) := by rw [wrapI (by omega)]; omega
      simp (maxSteps := 2000000) only [wk0, wk1, wk2, wk3, wk4, wk5, wk6, Fr.ev, Fr.put, Fr.get, storeA, List.replicate, IntKind.bits, sevalprocAttr, g5, g6, hc2, e1, w1, w2, YtdknnaalfoongaaGreatDoor.D63, ty2, ty3, ty4, ty115]
      exact ih2 (m' - 1) _ _ (by omega) ⟨j + 1, by omega, by simp [Fr.get], by simp [Fr.get], rfl⟩
    · have hj : j = 51 - B := by
        have : ¬ j < 51 - B := fun h => by have := (hup j (by omega)).2 h; omega
        omega
      subst hj
      rw [← hM, ← hm0] at g5
      have ee : 50 - b + ((B - 51 : Nat) : Int) - ((51 - B : Nat) : Int) = (B : Int) - 1 - b := by omega
      rw [ee] at g6
      clear ih ih2 hc hc2 ee hXi hup hdn
      obtain ⟨ev, hev⟩ : ∃ ev, (B : Int) - 1 - b = ev := ⟨_, rfl⟩
      have hev1 : -62 ≤ ev ∧ ev ≤ 62 := by omega
      rw [hev] at g6 ⊢
      have w1 : IntKind.i64.wrap (m0 - 1125899906842624) = m0 - 1125899906842624 := wrapI (by omega)
      have w2 : IntKind.i64.wrap (m0 + 1125899906842624) = m0 + 1125899906842624 := wrapI (by omega)
      have d := fun S => refDiv_ok (m0 - 1125899906842624) (m0 + 1125899906842624) 50 S (by unfold inI; omega) (by unfold inI; omega) (by omega) (by omega) (rnd ((m0 - 1125899906842624) * 2 ^ 50) (m0 + 1125899906842624)) (quo_pos (by omega) (by omega) 50).symm
      change ∀ S, Call theE _ [_, _, .int .i64 50] S (.tup [.int .i64 (logS0 m0), _]) S at d
      generalize ovrB (rnd ((m0 - 1125899906842624) * 2 ^ 50) (m0 + 1125899906842624)) = ov at d
      have hs := logS0_in hmI
      have hq := tmG_in hs hs
      have t0 := fun S => refTimes_ok (logS0 m0) (logS0 m0) S (by unfold inI; omega) (by unfold inI; omega)
      unfold riseV at hr ⊢
      generalize logS0 m0 = s at *
      generalize tmG s s = q at *
      have hq' : 0 ≤ q ∧ q ≤ 1125899906842624 := by omega
      have big : ∀ z : Int, -9223372036854775808 ≤ z → z ≤ 9223372036854775808 → lenD z.natAbs ≤ 20 := fun z h1 h2 => (lenD_le _ _).2 (by omega)
      have of' := fun (z : Int) (hz : -9223372036854775808 ≤ z ∧ z ≤ 9223372036854775807) S => decOf_ok z S (by unfold inI; omega)
      have ad := fun (a b : Int) (ha : -9223372036854775808 ≤ a ∧ a ≤ 9223372036854775808) (hb : -9223372036854775808 ≤ b ∧ b ≤ 9223372036854775808) S => decAdd_ok a b S (Nat.le_trans (big _ ha.1 ha.2) (by omega)) (Nat.le_trans (big _ hb.1 hb.2) (by omega))
      have h20 := rsU_in hs hq' 20
      have mu := fun S => decMul_ok ev 780414346020670 S (Nat.le_trans (big _ (by omega) (by omega)) (by omega)) (Nat.le_trans (big _ (by omega) (by omega)) (by omega))
      have tw := fun S => decTwo_ok 30 S (by omega)
      have lp : lenD ((2 : Int) ^ 30).natAbs ≤ 20000 := Nat.le_trans (lenD_pow 30) (by omega)
      have e2u : rsU s q 20 + rsU s q 20 = 2 * rsU s q 20 := by omega
      have ro := fun S => decRound_ok (2 * rsU s q 20 + ev * 780414346020670) (2 ^ 30) S (Nat.le_trans (big _ (by omega) (by omega)) (by omega)) lp (by decide)
      have hrs := rnd_size (2 * rsU s q 20 + ev * 780414346020670) (2 ^ 30) (by decide)
      have hbd : bndI (rnd (2 * rsU s q 20 + ev * 780414346020670) (2 ^ 30)) = rnd (2 * rsU s q 20 + ev * 780414346020670) (2 ^ 30) := by unfold bndI; omega
      have sf := fun S => decSmall_ok (rnd (2 * rsU s q 20 + ev * 780414346020670) (2 ^ 30)) S (by unfold inI; omega)
      have e30 : (2 : Int) ^ 30 = 1073741824 := by decide
      have hbd2 : bndI (rnd (2 * rsU s q 20 + ev * 780414346020670) 1073741824) = rnd (2 * rsU s q 20 + ev * 780414346020670) (2 ^ 30) := by rw [← e30]; exact hbd
      rw [hbd2]
      clear hbd hbd2 e30
      generalize rnd (2 * rsU s q 20 + ev * 780414346020670) (2 ^ 30) = res at *
      have ofe := of' ev (by omega)
      have ofL := of' 780414346020670 (by omega)
      have ad1 := ad (rsU s q 20) (rsU s q 20) (by omega) (by omega)
      rw [e2u] at ad1
      have ad2 := ad (2 * rsU s q 20) (ev * 780414346020670) (by omega) (by omega)
      generalize hpw : (2 : Int) ^ 30 = pw at tw ro
      simp only [decA, lstI, digs_len] at of' ad mu tw ro sf ofe ofL ad1 ad2
      have hm1 : ¬ m0 < 1125899906842624 := by omega
      simp (maxSteps := 2000000) only [wk0, wk1, wk2, wk3, wk4, wk5, wk6, Fr.ev, Fr.put, Fr.get, storeA, List.replicate, IntKind.bits, sevalprocAttr, g5, g6, hm1, w1, w2, YtdknnaalfoongaaGreatDoor.D63, ty2, ty3, ty4, ty115]
      refine callThen_of (d _) ?_
      simp (maxSteps := 2000000) only [wk0, wk1, wk2, wk3, wk4, wk5, wk6, Fr.ev, Fr.put, Fr.get, storeA, List.replicate, IntKind.bits, sevalprocAttr, g5, g6, hm1, w1, w2, YtdknnaalfoongaaGreatDoor.D63, ty2, ty3, ty4, ty115]
      refine callThen_of (t0 _) ?_
      simp (maxSteps := 2000000) only [wk0, wk1, wk2, wk3, wk4, wk5, wk6, Fr.ev, Fr.put, Fr.get, storeA, List.replicate, IntKind.bits, sevalprocAttr, g5, g6, hm1, w1, w2, YtdknnaalfoongaaGreatDoor.D63, ty2, ty3, ty4, ty115]
      have td1 : s.tdiv 1 = s := Int.tdiv_one s
      have ws0 : IntKind.i64.wrap s = s := wrapI (by omega)
      have of0 := of' s (by omega)
      have ad0 := fun S => decAddN_ok s S hs.1 (Nat.le_trans (big _ (by omega) (by omega)) (by omega))
      simp only [decA, lstI, digs_len] at ad0
      have tm0 := fun S => refTimes_ok s q S (by unfold inI; omega) (by unfold inI; omega)
      have eu1 : rsU s q 1 = s := by
        have e : rsU s q 1 = 0 + s.tdiv 1 := rfl
        rw [e, td1]; omega
      have g6' := g6
      refine loopC_of ?_
      simp (maxSteps := 2000000) only [wk0, wk1, wk2, wk3, wk4, wk5, wk6, Fr.ev, Fr.put, Fr.get, storeA, List.replicate, IntKind.bits, sevalprocAttr, g6, td1, ws0, YtdknnaalfoongaaGreatDoor.D63, ty2, ty3, ty4, ty115]
      refine callThen_of (of0 _) ?_
      simp (maxSteps := 2000000) only [wk0, wk1, wk2, wk3, wk4, wk5, wk6, Fr.ev, Fr.put, Fr.get, storeA, List.replicate, IntKind.bits, sevalprocAttr, g6, td1, ws0, YtdknnaalfoongaaGreatDoor.D63, ty2, ty3, ty4, ty115]
      refine callThen_of (ad0 _) ?_
      simp (maxSteps := 2000000) only [wk0, wk1, wk2, wk3, wk4, wk5, wk6, Fr.ev, Fr.put, Fr.get, storeA, List.replicate, IntKind.bits, sevalprocAttr, g6, td1, ws0, YtdknnaalfoongaaGreatDoor.D63, ty2, ty3, ty4, ty115]
      refine callThen_of (tm0 _) ?_
      simp (maxSteps := 2000000) only [wk0, wk1, wk2, wk3, wk4, wk5, wk6, Fr.ev, Fr.put, Fr.get, storeA, List.replicate, IntKind.bits, sevalprocAttr, g6, td1, ws0, YtdknnaalfoongaaGreatDoor.D63, ty2, ty3, ty4, ty115]
      refine loopC_ind (fun m fr H => ∃ n : Nat, n + m = 20 ∧ fr.get 6 = .int .i64 ev ∧ fr.get 7 = .int .i64 (rsS s q n) ∧ fr.get 9 = .int .i64 q ∧ fr.get 10 = .ptr H'.length 0 0 ∧ fr.get 11 = .int .i64 (n : Int) ∧ H = H' ++ [dcB (rsU s q n)]) ?_ (n := 19) ⟨1, by omega, by simp [Fr.get, g6], by simp [Fr.get, rsS], by simp [Fr.get], by simp [Fr.get], by simp [Fr.get], by rw [eu1]; rfl⟩
      rintro m fr H ⟨n, hnm, g6, g7, g9, g10, g11, rfl⟩ ih
      have h1 := rsS_in hs hq' n
      have h3 := rsU_in hs hq' n
      unfold dcB
      by_cases hn : (n : Int) < 20
      · have h4 := rsU_in hs hq' (n + 1)
        have h5 := tdiv_in (d := ((2 * n + 1 : Nat) : Int)) h1 (by omega)
        have tm := fun S => refTimes_ok (rsS s q n) q S (by unfold inI; omega) (by unfold inI; omega)
        have wi : IntKind.i64.wrap ((n : Int) + 1) = ((n + 1 : Nat) : Int) := wrapI (by omega)
        have wa : IntKind.i64.wrap (2 * (n : Int)) = 2 * (n : Int) := wrapI (by omega)
        have wb : IntKind.i64.wrap (2 * (n : Int) + 1) = ((2 * n + 1 : Nat) : Int) := by rw [wrapI (by omega)]; omega
        have n0 : ¬ ((2 * n + 1 : Nat) : Int) = 0 := by omega
        have wc : IntKind.i64.wrap ((rsS s q n).tdiv ((2 * n + 1 : Nat) : Int)) = (rsS s q n).tdiv ((2 * n + 1 : Nat) : Int) := wrapI (by omega)
        have ofn := of' ((rsS s q n).tdiv ((2 * n + 1 : Nat) : Int)) (by omega)
        have adn := ad (rsU s q n) ((rsS s q n).tdiv ((2 * n + 1 : Nat) : Int)) (by omega) (by omega)
        have eu : rsU s q n + (rsS s q n).tdiv ((2 * n + 1 : Nat) : Int) = rsU s q (n + 1) := rfl
        rw [eu] at adn
        simp (maxSteps := 2000000) only [wk0, wk1, wk2, wk3, wk4, wk5, wk6, Fr.ev, Fr.put, Fr.get, storeA, List.replicate, IntKind.bits, sevalprocAttr, g6, g7, g9, g10, g11, hn, wi, wa, wb, n0, wc, YtdknnaalfoongaaGreatDoor.D63, ty2, ty3, ty4, ty115]
        refine callThen_of (ofn _) ?_
        simp (maxSteps := 2000000) only [wk0, wk1, wk2, wk3, wk4, wk5, wk6, Fr.ev, Fr.put, Fr.get, storeA, List.replicate, IntKind.bits, sevalprocAttr, g6, g7, g9, g10, g11, hn, wi, wa, wb, n0, wc, YtdknnaalfoongaaGreatDoor.D63, ty2, ty3, ty4, ty115]
        refine callThen_of (adn _) ?_
        simp (maxSteps := 2000000) only [wk0, wk1, wk2, wk3, wk4, wk5, wk6, Fr.ev, Fr.put, Fr.get, storeA, List.replicate, IntKind.bits, sevalprocAttr, g6, g7, g9, g10, g11, hn, wi, wa, wb, n0, wc, YtdknnaalfoongaaGreatDoor.D63, ty2, ty3, ty4, ty115]
        refine callThen_of (tm _) ?_
        simp (maxSteps := 2000000) only [wk0, wk1, wk2, wk3, wk4, wk5, wk6, Fr.ev, Fr.put, Fr.get, storeA, List.replicate, IntKind.bits, sevalprocAttr, g6, g7, g9, g10, g11, hn, wi, wa, wb, n0, wc, YtdknnaalfoongaaGreatDoor.D63, ty2, ty3, ty4, ty115]
        exact ih (m - 1) _ _ (by omega) ⟨n + 1, by omega, by simp [Fr.get, g6], by simp [Fr.get, rsS], by simp [Fr.get, g9], by simp [Fr.get, g10], by simp [Fr.get], rfl⟩
      · obtain rfl : n = 20 := by omega
        simp (maxSteps := 2000000) only [wk0, wk1, wk2, wk3, wk4, wk5, wk6, Fr.ev, Fr.put, Fr.get, storeA, List.replicate, IntKind.bits, sevalprocAttr, g6, g7, g9, g10, g11, hn, YtdknnaalfoongaaGreatDoor.D63, ty2, ty3, ty4, ty115]
        repeat
          first
          | refine callThen_of (ad1 _) ?_
          | refine callThen_of (ofe _) ?_
          | refine callThen_of (ofL _) ?_
          | refine callThen_of (mu _) ?_
          | refine callThen_of (ad2 _) ?_
          | refine callThen_of (tw _) ?_
          | refine callThen_of (ro _) ?_
          | refine callThen_of (sf _) ?_
          simp (maxSteps := 2000000) only [wk0, wk1, wk2, wk3, wk4, wk5, wk6, Fr.ev, Fr.put, Fr.get, storeA, List.replicate, IntKind.bits, sevalprocAttr, g6, g7, g9, g10, g11, hn, YtdknnaalfoongaaGreatDoor.D63, ty2, ty3, ty4, ty115]
        exact retB_plain (by simp [nmd_int]) rfl (by simp)
end Go.Proofs.YtdknnaalfoongaaGreatDoor
