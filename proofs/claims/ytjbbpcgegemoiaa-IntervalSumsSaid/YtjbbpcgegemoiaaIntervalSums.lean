/- IntervalSums of the given program returns true for every input that its row lets in, and leaves its arguments as they were. Conditions: none. -/
import Derived.Test.YtjbbpcgegemoiaaLawB
import Derived.Test.YtjbbpcgegemoiaaRow
namespace Go.Proofs.Ytjbbpcgegemoiaa
open Go Go.Eng Go.RowKit Go.ChangeShapes Go.WideShapes Go.ChangeAt 
set_option linter.unusedVariables false
namespace RowIntervalSums

theorem own : ownKnob Try.prog.godebug = none := by kernel_rfl
set_option maxRecDepth 100000 in
theorem lifted (os : Os) (started : os.Started) (H : Type) (enc : TypeId × Value → H) :
    ReturnsInHanded {} Try.checked os 6 .any (Rows.intervalSumsSpec.pre6 enc Try.prog Try.f6 Rows.intervalSumsRow.domain false) (Rows.intervalSumsSpec.post enc Try.prog Try.f6 false true false false) := by
  refine returnsInHanded_of_change (C := Try.checked) own started (by kernel_rfl) Try.func6
    (ChangeSpec.witness6 (enc := enc) (C := Try.checked) false ⟨#[], #[.agg #[.int .i64 0, .int .i64 0], .agg #[.int .i64 0, .int .i64 0], .agg #[.int .i64 0, .int .i64 0]], []⟩ 8 (by kernel_rfl) (by kernel_rfl) (by kernel_rfl) (by kernel_rfl)) ?_
  intro W base args ds gs before hval0 hW hcnd _
  have hval : ∀ (j : Nat) t v, Try.f6.params[j]? = some t → args[j]? = some v → Value.okWide Try.prog W .any base t v := hval0
  have hW0 := hW
  obtain ⟨p, q, hA0, hV, rfl, hfz, hnd⟩ := hW
  have hA : DataW.TrodAll enc Try.prog W 0 (fun _ => true) true Try.f6.params.toList args.toList ds p := hA0
  have hP : Try.f6.params = #[23, 23, 34] := rfl
  rw [hP] at hA hval
  obtain ⟨v0, vs0, d0, ds0, p0, q0, hargs, rfl, rfl, h0, r0⟩ := trodAll_cons hA
  obtain ⟨v1, vs1, d1, ds1, p1, q1, rfl, rfl, rfl, h1, r1⟩ := trodAll_cons r0
  obtain ⟨v2, vs2, d2, ds2, p2, q2, rfl, rfl, rfl, h2, r2⟩ := trodAll_cons r1
  obtain ⟨rfl, rfl, rfl⟩ := trodAll_nil r2
  obtain rfl : args = #[v0, v1, v2] := by cases args; simp_all
  obtain ⟨rfl, rfl⟩ := trodVars_none hV
  obtain ⟨vs0, rfl, hk0⟩ := open_flatS (ks := [.int .i64, .int .i64]) (n := 6) Try.underlying23 rfl (by kernel_rfl) (hval 0 23 v0 rfl rfl) h0
  obtain ⟨c0_0, c0_1, rfl, k0_0, k0_1⟩ := okAll_2 hk0
  obtain ⟨a0_0, rfl, w0_0⟩ := k0_0
  obtain ⟨a0_1, rfl, w0_1⟩ := k0_1
  obtain ⟨vs1, rfl, hk1⟩ := open_flatS (ks := [.int .i64, .int .i64]) (n := 6) Try.underlying23 rfl (by kernel_rfl) (hval 1 23 v1 rfl rfl) h1
  obtain ⟨c1_0, c1_1, rfl, k1_0, k1_1⟩ := okAll_2 hk1
  obtain ⟨a1_0, rfl, w1_0⟩ := k1_0
  obtain ⟨a1_1, rfl, w1_1⟩ := k1_1
  obtain ⟨vs2, rfl, hk2⟩ := open_flatS (ks := [.int .i64, .int .i64]) (n := 6) Try.underlying34 rfl (by kernel_rfl) (hval 2 34 v2 rfl rfl) h2
  obtain ⟨c2_0, c2_1, rfl, k2_0, k2_1⟩ := okAll_2 hk2
  obtain ⟨a2_0, rfl, w2_0⟩ := k2_0
  obtain ⟨a2_1, rfl, w2_1⟩ := k2_1
  refine (LawA.B.IntervalSums_any a0_0 a0_1 a1_0 a1_1 a2_0 a2_1 W).mono fun e W' ⟨he, hx⟩ => ?_
  subst he
  exact ⟨_, rfl, law_post (tb := 4) rfl (by kernel_rfl) (by kernel_rfl) rfl Try.underlying4 hW0 rfl hx⟩
theorem over : Rows.intervalSumsRow.holds Try.pinned (OpenSpec.ofChange Rows.intervalSumsSpec) :=
  OpenClaim.holds_of_wide 6 Try.f6 rfl rfl rfl rfl rfl rfl rfl ⟨rfl, rfl, rfl, rfl, rfl⟩ rfl rfl rfl rfl rfl (by kernel_rfl) Try.func6 (by kernel_rfl)
    (of_decide_eq_true (by kernel_rfl)) (by unfold Func.isWrapper; rw [if_neg (of_decide_eq_false (by kernel_rfl))]; exact ⟨rfl, rfl⟩)
    (fun os started H enc _ => lifted os started H enc)
end RowIntervalSums
/-- The statement. -/
theorem intervalSums_holds : Rows.IntervalSumsSaid := RowIntervalSums.over
end Go.Proofs.Ytjbbpcgegemoiaa
