/- BoundSteps of the given program returns true for every input that its row lets in, and leaves its arguments as they were. Conditions: none. -/
import Derived.Test.YtaglpampidlbmaaBdLBoundSteps
import Derived.Test.YtaglpampidlbmaaRowN
namespace Go.Proofs.Ytaglpampidlbmaa
open Go Go.Eng Go.RowKit Go.ChangeShapes Go.WideShapes Go.ChangeAt 
set_option linter.unusedVariables false
namespace RowBoundSteps

theorem own : ownKnob Try.prog.godebug = none := by kernel_rfl
set_option maxRecDepth 100000 in
theorem lifted (os : Os) (started : os.Started) (H : Type) (enc : TypeId × Value → H) :
    ReturnsInHanded {} Try.checked os 8 .any (Rows.boundStepsSpec.pre6 enc Try.prog Try.f8 Rows.boundStepsRow.domain false) (Rows.boundStepsSpec.post enc Try.prog Try.f8 false true false false) := by
  refine returnsInHanded_of_change (C := Try.checked) own started (by kernel_rfl) Try.func8
    (ChangeSpec.witness6 (enc := enc) (C := Try.checked) false ⟨#[], #[.agg #[.slice none 0 0, .slice none 0 0], .int .i64 0, .agg #[.int .i64 0, .int .i64 0]], []⟩ 8 (by kernel_rfl) (by kernel_rfl) (by kernel_rfl) (by kernel_rfl)) ?_
  intro W base args ds gs before hval0 hW hcnd _
  have hval : ∀ (j : Nat) t v, Try.f8.params[j]? = some t → args[j]? = some v → Value.okWide Try.prog W .any base t v := hval0
  have hW0 := hW
  obtain ⟨p, q, hA0, hV, rfl, hfz, hnd⟩ := hW
  have hA : DataW.TrodAll enc Try.prog W 0 (fun _ => true) true Try.f8.params.toList args.toList ds p := hA0
  have hP : Try.f8.params = #[25, 3, 43] := rfl
  rw [hP] at hA hval
  obtain ⟨v0, vs0, d0, ds0, p0, q0, hargs, rfl, rfl, h0, r0⟩ := trodAll_cons hA
  obtain ⟨v1, vs1, d1, ds1, p1, q1, rfl, rfl, rfl, h1, r1⟩ := trodAll_cons r0
  obtain ⟨v2, vs2, d2, ds2, p2, q2, rfl, rfl, rfl, h2, r2⟩ := trodAll_cons r1
  obtain ⟨rfl, rfl, rfl⟩ := trodAll_nil r2
  obtain rfl : args = #[v0, v1, v2] := by cases args; simp_all
  obtain ⟨rfl, rfl⟩ := trodVars_none hV
  obtain ⟨A_d, n_d, c_d, A_l, n_l, c_l, dl, sl, rfl, h_d, h_l, -, -⟩ := open_two (f := Ck.Dom.c) (Wf := fun _ => True) (f' := Ck.Snap.c) (Wf' := fun _ => True) (sz := 2) (sz' := 5) Try.underlying25 rfl rfl rfl rfl (by kernel_rfl) (by kernel_rfl) (by kernel_rfl) Try.underlying22 Try.underlying23 (by kernel_rfl) (by kernel_rfl) (by decide) (by decide) (opens_flat (ks := [.int .i64, .int .i64]) (m := 6) (by kernel_rfl) Ck.Dom.of) (opens_flat (ks := [.int .i64, .int .i64, .int .i64, .int .i64, .int .i64]) (m := 6) (by kernel_rfl) Ck.Snap.of) (fun _ => rfl) (fun _ => rfl) (hval 0 25 v0 rfl rfl) h0
  have hv1 := hval 1 3 v1 rfl rfl
  obtain ⟨a1, rfl, -, -, w1⟩ := open_int Try.underlying3 hv1 h1
  obtain ⟨vs2, rfl, hk2⟩ := open_flatS (ks := [.int .i64, .int .i64]) (n := 6) Try.underlying43 rfl (by kernel_rfl) (hval 2 43 v2 rfl rfl) h2
  obtain ⟨c2_0, c2_1, rfl, k2_0, k2_1⟩ := okAll_2 hk2
  obtain ⟨a2_0, rfl, w2_0⟩ := k2_0
  obtain ⟨a2_1, rfl, w2_1⟩ := k2_1
  refine (BdW.LBoundSteps.BoundSteps_any A_d n_d c_d dl A_l n_l c_l sl a1 a2_0 a2_1 W h_d h_l).mono fun e W' ⟨he, hx⟩ => ?_
  subst he
  exact ⟨_, rfl, law_post (tb := 4) rfl (by kernel_rfl) (by kernel_rfl) rfl Try.underlying4 hW0 rfl hx⟩
theorem over : Rows.boundStepsRow.holds Try.pinned (OpenSpec.ofChange Rows.boundStepsSpec) :=
  OpenClaim.holds_of_wide 8 Try.f8 rfl rfl rfl rfl rfl rfl rfl ⟨rfl, rfl, rfl, rfl, rfl⟩ rfl rfl rfl rfl rfl (by kernel_rfl) Try.func8 (by kernel_rfl)
    (of_decide_eq_true (by kernel_rfl)) (by unfold Func.isWrapper; rw [if_neg (of_decide_eq_false (by kernel_rfl))]; exact ⟨rfl, rfl⟩)
    (fun os started H enc _ => lifted os started H enc)
end RowBoundSteps
/-- The statement. -/
theorem boundSteps_holds : Rows.BoundStepsSaid := RowBoundSteps.over
end Go.Proofs.Ytaglpampidlbmaa
