/- ClockGrows of the given program returns true for every input that its row lets in, and leaves its arguments as they were. Conditions: none. -/
import Derived.Test.YtnmmnkmmmfhdbaaCkClockGrows
import Derived.Test.YtnmmnkmmmfhdbaaRowL
namespace Go.Proofs.Ytnmmnkmmmfhdbaa
open Go Go.Eng Go.RowKit Go.ChangeShapes Go.WideShapes Go.ChangeAt 
set_option linter.unusedVariables false
namespace RowClockGrows

theorem own : ownKnob Try.prog.godebug = none := by kernel_rfl
set_option maxRecDepth 100000 in
theorem lifted (os : Os) (started : os.Started) (H : Type) (enc : TypeId × Value → H) :
    ReturnsInHanded {} Try.checked os 7 .any (Rows.clockGrowsSpec.pre6 enc Try.prog Try.f7 Rows.clockGrowsRow.domain false) (Rows.clockGrowsSpec.post enc Try.prog Try.f7 false true false false) := by
  refine returnsInHanded_of_change (C := Try.checked) own started (by kernel_rfl) Try.func7
    (ChangeSpec.witness6 (enc := enc) (C := Try.checked) false ⟨#[], #[.slice none 0 0, .slice none 0 0, .agg #[.int .i64 0, .int .i64 0, .int .i64 0, .int .i64 0, .int .i64 0]], []⟩ 8 (by kernel_rfl) (by kernel_rfl) (by kernel_rfl) (by kernel_rfl)) ?_
  intro W base args ds gs before hval0 hW hcnd _
  have hval : ∀ (j : Nat) t v, Try.f7.params[j]? = some t → args[j]? = some v → Value.okWide Try.prog W .any base t v := hval0
  have hW0 := hW
  obtain ⟨p, q, hA0, hV, rfl, hfz, hnd⟩ := hW
  have hA : DataW.TrodAll enc Try.prog W 0 (fun _ => true) true Try.f7.params.toList args.toList ds p := hA0
  have hP : Try.f7.params = #[22, 23, 37] := rfl
  rw [hP] at hA hval
  obtain ⟨v0, vs0, d0, ds0, p0, q0, hargs, rfl, rfl, h0, r0⟩ := trodAll_cons hA
  obtain ⟨v1, vs1, d1, ds1, p1, q1, rfl, rfl, rfl, h1, r1⟩ := trodAll_cons r0
  obtain ⟨v2, vs2, d2, ds2, p2, q2, rfl, rfl, rfl, h2, r2⟩ := trodAll_cons r1
  obtain ⟨rfl, rfl, rfl⟩ := trodAll_nil r2
  obtain rfl : args = #[v0, v1, v2] := by cases args; simp_all
  obtain ⟨rfl, rfl⟩ := trodVars_none hV
  obtain ⟨A_d, n_d, c_d, d, rfl, h_d, -⟩ := open_list (f := Ck.Dom.c) (Wf := fun _ => True) (sz := 2) (ks := [.int .i64, .int .i64]) (m := 6) Try.underlying22 (by kernel_rfl) (by kernel_rfl) (by decide) Ck.Dom.of (fun _ => rfl) (hval 0 22 v0 rfl rfl) h0
  obtain ⟨A_l, n_l, c_l, l, rfl, h_l, -⟩ := open_list (f := Ck.Snap.c) (Wf := fun _ => True) (sz := 5) (ks := [.int .i64, .int .i64, .int .i64, .int .i64, .int .i64]) (m := 6) Try.underlying23 (by kernel_rfl) (by kernel_rfl) (by decide) Ck.Snap.of (fun _ => rfl) (hval 1 23 v1 rfl rfl) h1
  obtain ⟨vs2, rfl, hk2⟩ := open_flatS (ks := [.int .i64, .int .i64, .int .i64, .int .i64, .int .i64]) (n := 6) Try.underlying37 rfl (by kernel_rfl) (hval 2 37 v2 rfl rfl) h2
  obtain ⟨c2_0, c2_1, c2_2, c2_3, c2_4, rfl, k2_0, k2_1, k2_2, k2_3, k2_4⟩ := okAll_5 hk2
  obtain ⟨a2_0, rfl, w2_0⟩ := k2_0
  obtain ⟨a2_1, rfl, w2_1⟩ := k2_1
  obtain ⟨a2_2, rfl, w2_2⟩ := k2_2
  obtain ⟨a2_3, rfl, w2_3⟩ := k2_3
  obtain ⟨a2_4, rfl, w2_4⟩ := k2_4
  refine (CkW.LClockGrows.ClockGrows_any A_d n_d c_d d A_l n_l c_l l ⟨a2_0, a2_1, a2_2, a2_3, a2_4⟩ W h_d h_l).mono fun e W' ⟨he, hx⟩ => ?_
  subst he
  exact ⟨_, rfl, law_post (tb := 4) rfl (by kernel_rfl) (by kernel_rfl) rfl Try.underlying4 hW0 rfl hx⟩
theorem over : Rows.clockGrowsRow.holds Try.pinned (OpenSpec.ofChange Rows.clockGrowsSpec) :=
  OpenClaim.holds_of_wide 7 Try.f7 rfl rfl rfl rfl rfl rfl rfl ⟨rfl, rfl, rfl, rfl, rfl⟩ rfl rfl rfl rfl rfl (by kernel_rfl) Try.func7 (by kernel_rfl)
    (of_decide_eq_true (by kernel_rfl)) (by unfold Func.isWrapper; rw [if_neg (of_decide_eq_false (by kernel_rfl))]; exact ⟨rfl, rfl⟩)
    (fun os started H enc _ => lifted os started H enc)
end RowClockGrows
/-- The statement. -/
theorem clockGrows_holds : Rows.ClockGrowsSaid := RowClockGrows.over
end Go.Proofs.Ytnmmnkmmmfhdbaa
