/- SpansParts of the given program returns true for every input that its row lets in, and leaves its arguments as they were. Conditions: none. -/
import Derived.Test.YtoldedanhmkolaaSpLSpansParts
import Derived.Test.YtoldedanhmkolaaRowL
namespace Go.Proofs.Ytoldedanhmkolaa
open Go Go.Eng Go.RowKit Go.ChangeShapes Go.WideShapes Go.ChangeAt 
set_option linter.unusedVariables false
namespace RowSpansParts

theorem own : ownKnob Try.prog.godebug = none := by kernel_rfl
set_option maxRecDepth 100000 in
theorem lifted (os : Os) (started : os.Started) (H : Type) (enc : TypeId × Value → H) :
    ReturnsInHanded {} Try.checked os 8 .any (Rows.spansPartsSpec.pre6 enc Try.prog Try.f8 Rows.spansPartsRow.domain false) (Rows.spansPartsSpec.post enc Try.prog Try.f8 false true false false) := by
  refine returnsInHanded_of_change (C := Try.checked) own started (by kernel_rfl) Try.func8
    (ChangeSpec.witness6 (enc := enc) (C := Try.checked) false ⟨#[], #[.slice none 0 0, .slice none 0 0], []⟩ 8 (by kernel_rfl) (by kernel_rfl) (by kernel_rfl) (by kernel_rfl)) ?_
  intro W base args ds gs before hval0 hW hcnd _
  have hval : ∀ (j : Nat) t v, Try.f8.params[j]? = some t → args[j]? = some v → Value.okWide Try.prog W .any base t v := hval0
  have hW0 := hW
  obtain ⟨p, q, hA0, hV, rfl, hfz, hnd⟩ := hW
  have hA : DataW.TrodAll enc Try.prog W 0 (fun _ => true) true Try.f8.params.toList args.toList ds p := hA0
  have hP : Try.f8.params = #[22, 22] := rfl
  rw [hP] at hA hval
  obtain ⟨v0, vs0, d0, ds0, p0, q0, hargs, rfl, rfl, h0, r0⟩ := trodAll_cons hA
  obtain ⟨v1, vs1, d1, ds1, p1, q1, rfl, rfl, rfl, h1, r1⟩ := trodAll_cons r0
  obtain ⟨rfl, rfl, rfl⟩ := trodAll_nil r1
  obtain rfl : args = #[v0, v1] := by cases args; simp_all
  obtain ⟨rfl, rfl⟩ := trodVars_none hV
  obtain ⟨A_a, n_a, c_a, a, rfl, h_a, -⟩ := open_list (f := Sp.S.c) (Wf := fun _ => True) (sz := 2) (ks := [.int .i64, .int .i64]) (m := 6) Try.underlying22 (by kernel_rfl) (by kernel_rfl) (by decide) Sp.S.of (fun _ => rfl) (hval 0 22 v0 rfl rfl) h0
  obtain ⟨A_b, n_b, c_b, b, rfl, h_b, -⟩ := open_list (f := Sp.S.c) (Wf := fun _ => True) (sz := 2) (ks := [.int .i64, .int .i64]) (m := 6) Try.underlying22 (by kernel_rfl) (by kernel_rfl) (by decide) Sp.S.of (fun _ => rfl) (hval 1 22 v1 rfl rfl) h1
  refine (SpW.LSpansParts.SpansParts_any A_a n_a c_a a A_b n_b c_b b W h_a h_b).mono fun e W' ⟨he, hx⟩ => ?_
  subst he
  exact ⟨_, rfl, law_post (tb := 4) rfl (by kernel_rfl) (by kernel_rfl) rfl Try.underlying4 hW0 rfl hx⟩
theorem over : Rows.spansPartsRow.holds Try.pinned (OpenSpec.ofChange Rows.spansPartsSpec) :=
  OpenClaim.holds_of_wide 8 Try.f8 rfl rfl rfl rfl rfl rfl rfl ⟨rfl, rfl, rfl, rfl, rfl⟩ rfl rfl rfl rfl rfl (by kernel_rfl) Try.func8 (by kernel_rfl)
    (of_decide_eq_true (by kernel_rfl)) (by unfold Func.isWrapper; rw [if_neg (of_decide_eq_false (by kernel_rfl))]; exact ⟨rfl, rfl⟩)
    (fun os started H enc _ => lifted os started H enc)
end RowSpansParts
/-- The statement. -/
theorem spansParts_holds : Rows.SpansPartsSaid := RowSpansParts.over
end Go.Proofs.Ytoldedanhmkolaa
