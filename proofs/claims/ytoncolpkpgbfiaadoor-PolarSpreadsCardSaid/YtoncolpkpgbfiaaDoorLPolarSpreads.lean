/- The statement: whatever the input, 'PolarSpreads' answers true. -/
import Derived.Test.YtoncolpkpgbfiaaDoorRows
import Derived.WalkKit
import Derived.ProofKit
import Derived.OpenShut
import Derived.ChangeOld
import Derived.Below
import Derived.Test.YtoncolpkpgbfiaaDoorCards
import Derived.Test.YtoncolpkpgbfiaaDoorTie
import Derived.Test.YtoncolpkpgbfiaaDoorLd
import Derived.SevenTiedAt
import Derived.Test.YtoncolpkpgbfiaaDoorEvX
import Derived.Test.YtoncolpkpgbfiaaDoorEvO
import Derived.Test.YtoncolpkpgbfiaaDoorW4
namespace Go.Proofs.YtoncolpkpgbfiaaDoor.polarSpreads
open Go.ChangeShapes Go.WideShapes Go.ChangeAt Go.RowKit
open Go.Proofs.YtoncolpkpgbfiaaDoor
set_option linter.unusedVariables false
theorem own : ownKnob Tryd.prog.godebug = none := by kernel_rfl
theorem laidOut : laidOutB Tryd.prog = true := by kernel_rfl
theorem walk (w : World) (v0 : Value) (x0 : List AV) (rel0 : VRel (startCtx (rowAt w)) (.agg x0) v0) (dat0 : DatL [.int .i64, .int .i64] x0) (v1 : Value) (x1 : List AV) (rel1 : VRel (startCtx (rowAt w)) (.agg x1) v1) (dat1 : DatL [.int .i64, .int .u16, .int .i64] x1) (a2 : Int) (w2 : (Lit.int .i64 a2).wf = true) (hL : laidMetH Tryd.prog laidL w) : Calls Tryd.prog 3 #[v0, v1, .int .i64 a2] w fun e w' => e = .returned (.bool true) ∧ Below w.heap.size w w' :=
  Call.law theE_ok theE_given (polarSpreadsLaw_ok x0 x1 a2 [] dat0 dat1 (wf_i64 w2)) (laid_glob hL) (rowAt_froz w) (.cons rel0 (.cons rel1 (.cons (.int _ _) (.nil))))
set_option maxRecDepth 100000 in
theorem lifted (os : Os) (started : os.Started) (H : Type) (enc : TypeId × Value → H) :
    ReturnsInHanded {} Tryd.checked os 3 .any (fun w args => (Rows.polarSpreadsSpec.pre enc Tryd.prog Tryd.f3 [] false w args ∧ laidMetH Tryd.prog laidL w) ∧ sizedMet enc Tryd.prog Tryd.f3 (OpenSpec.ofChange Rows.polarSpreadsSpec) false w args) (Rows.polarSpreadsSpec.post enc Tryd.prog Tryd.f3 false true false false) := by
  refine returnsInHanded_of_change_and (C := Tryd.checked) (X := fun w _ => laidMetH Tryd.prog laidL w) (fun _ _ _ hh h => h.of_heap hh) own started (by kernel_rfl) Tryd.func3
    (ChangeSpec.witness_at (enc := enc) (C := Tryd.checked) (os := os) (X := fun w _ => laidMetH Tryd.prog laidL w) false (laidWorld os) #[.agg #[.int .i64 0, .int .i64 0], .agg #[.int .i64 0, .int .u16 0, .int .i64 0], .int .i64 0] 8 rfl (by kernel_rfl) (by kernel_rfl) (by kernel_rfl) (by kernel_rfl) (by kernel_rfl) (laidWorld_met os _)) ?_
  intro W base args ds gs before hval0 hW _ _ hL _
  have hval : ∀ (j : Nat) t v, Tryd.f3.params[j]? = some t → args[j]? = some v → Value.okWide Tryd.prog W .any base t v := hval0
  have hW' := hW
  obtain ⟨p, q, hA0, hV, rfl, hfz, hnd⟩ := hW
  have hA : DataW.TrodAll enc Tryd.prog W 0 (fun _ => true) true Tryd.f3.params.toList args.toList ds p := hA0
  rw [Tryd.params3] at hA hval
  obtain ⟨v0, vs0, d0, ds0, p0, q0, hargs, rfl, rfl, h0, r0⟩ := trodAll_cons hA
  obtain ⟨v1, vs1, d1, ds1, p1, q1, rfl, rfl, rfl, h1, r1⟩ := trodAll_cons r0
  obtain ⟨v2, vs2, d2, ds2, p2, q2, rfl, rfl, rfl, h2, r2⟩ := trodAll_cons r1
  obtain ⟨rfl, rfl, rfl⟩ := trodAll_nil r2
  obtain rfl : args = #[v0, v1, v2] := by cases args; simp_all
  obtain ⟨rfl, rfl⟩ := trodVars_none hV
  have k0 := h0
  have lt0 : ∀ x ∈ p0, x.block < W.heap.size := by obtain ⟨m, hm⟩ := k0; exact DataW.trod_lt m _ _ _ hm
  obtain ⟨x0, rel0, dat0⟩ := argAgg (n := 9) (ss := [.int .i64, .int .i64]) (by kernel_rfl) (by obtain ⟨c, hc, _⟩ := okWide_struct Tryd.underlying23 (hval 0 23 v0 rfl rfl); exact ⟨c, hc⟩) h0
  have k1 := h1
  have lt1 : ∀ x ∈ p1, x.block < W.heap.size := by obtain ⟨m, hm⟩ := k1; exact DataW.trod_lt m _ _ _ hm
  obtain ⟨x1, rel1, dat1⟩ := argAgg (n := 9) (ss := [.int .i64, .int .u16, .int .i64]) (by kernel_rfl) (by obtain ⟨c, hc, _⟩ := okWide_struct Tryd.underlying26 (hval 1 26 v1 rfl rfl); exact ⟨c, hc⟩) h1
  obtain ⟨a2, rfl, rfl, rfl, w2⟩ := open_int Tryd.underlying2 (hval 2 2 v2 rfl rfl) h2
  clear hA0 hval0
  refine (walk W v0 x0 rel0 dat0 v1 x1 rel1 dat1 a2 w2 hL).mono fun e W' ⟨he, bel⟩ => ?_
  subst he
  exact ⟨_, rfl, _, _, _, [], _, [], hW', trodAll_mk1 (shut_bool Tryd.underlying4 _), (trodAll_cons_mk (Below.trod laidOut (by kernel_rfl) (of_decide_eq_true (by kernel_rfl)) k0 bel lt0) (trodAll_cons_mk (Below.trod laidOut (by kernel_rfl) (of_decide_eq_true (by kernel_rfl)) k1 bel lt1) (trodAll_cons_mk (shut_int Tryd.underlying2 w2) trodAll_mk0))), rfl, bel.frame _, fun h => by cases h⟩
theorem over : Rows.polarSpreadsRow.holds Tryd.pinned (OpenSpec.ofChange Rows.polarSpreadsSpec) :=
  OpenClaim.holds_of_wide 3 Tryd.f3 rfl rfl rfl rfl rfl rfl rfl ⟨rfl, rfl, rfl, rfl, rfl⟩ rfl rfl rfl rfl rfl (by kernel_rfl) Tryd.func3 (by kernel_rfl)
    (of_decide_eq_true (by kernel_rfl)) (by unfold Func.isWrapper; first | (rw [if_pos (by decide +kernel)]; kernel_rfl) | (rw [if_neg (by decide +kernel)]; exact ⟨rfl, rfl⟩))
    (fun os started H enc _ => lifted os started H enc)

/-- THE STATEMENT. -/
theorem proved : Rows.PolarSpreadsCardSaid :=
  Claim7.holds_tied_plain_at .later [] [.handle] true (true, "14fe687df71f179162275e3fb50cdc91bd7f7f5178d584129a1141940098b432") true
    over (fun _ h => by cases h) (by kernel_rfl) (fun _ h => by cases h) polarSpreads_row_tie rfl ⟨rfl, rfl⟩ (by kernel_rfl) rfl
    (fun f fn hf hfn => by
      obtain rfl : f = 3 := Option.some.inj ((show Tryd.prog.funcNamed "radome/radomelaw10.PolarSpreads" = some 3 by kernel_rfl).symm.trans hf) |>.symm
      obtain rfl : fn = Tryd.f3 := (Option.some.inj (Tryd.func3.symm.trans hfn)).symm
      exact ⟨by kernel_rfl, fun j t ht => by
        rw [Tryd.params3] at ht
        have ht2 : t ∈ [23, 26, 2] := List.mem_of_getElem? (i := j) (by simpa using ht)
        have hall : ([23, 26, 2].all fun t => Tryd.prog.wantsStandIn t == false) = true := by kernel_rfl
        exact beq_iff_eq.1 (List.all_eq_true.1 hall t ht2)⟩)
    (by kernel_rfl)
end Go.Proofs.YtoncolpkpgbfiaaDoor.polarSpreads
