/- SyntaxNests of the given program returns true for every input that its row lets in, and leaves its arguments as they were. Conditions: none. -/
import Derived.Test.YtklccakoblibmaaSxLSyntaxNests
import Derived.Test.YtklccakoblibmaaSxRow
import Derived.Test.YtklccakoblibmaaRowL
import Derived.Test.YtklccakoblibmaaRowN
namespace Go.Proofs.Ytklccakoblibmaa
open Go Go.Eng Go.RowKit Go.ChangeShapes Go.WideShapes Go.ChangeAt 
set_option linter.unusedVariables false
namespace RowSyntaxNests

theorem own : ownKnob Try.prog.godebug = none := by kernel_rfl
set_option maxRecDepth 100000 in
theorem lifted (os : Os) (started : os.Started) (H : Type) (enc : TypeId × Value → H) :
    ReturnsInHanded {} Try.checked os 8 .any (Rows.syntaxNestsSpec.pre6 enc Try.prog Try.f8 Rows.syntaxNestsRow.domain false) (Rows.syntaxNestsSpec.post enc Try.prog Try.f8 false true false false) := by
  refine returnsInHanded_of_change (C := Try.checked) own started (by kernel_rfl) Try.func8
    (ChangeSpec.witness6 (enc := enc) (C := Try.checked) false ⟨#[], #[.int .u8 0], []⟩ 8 (by kernel_rfl) (by kernel_rfl) (by kernel_rfl) (by kernel_rfl)) ?_
  intro W base args ds gs before hval0 hW hcnd _
  have hval : ∀ (j : Nat) t v, Try.f8.params[j]? = some t → args[j]? = some v → Value.okWide Try.prog W .any base t v := hval0
  have hW0 := hW
  obtain ⟨p, q, hA0, hV, rfl, hfz, hnd⟩ := hW
  have hA : DataW.TrodAll enc Try.prog W 0 (fun _ => true) true Try.f8.params.toList args.toList ds p := hA0
  have hP : Try.f8.params = #[5] := rfl
  rw [hP] at hA hval
  obtain ⟨v0, vs0, d0, ds0, p0, q0, hargs, rfl, rfl, h0, r0⟩ := trodAll_cons hA
  obtain ⟨rfl, rfl, rfl⟩ := trodAll_nil r0
  obtain rfl : args = #[v0] := by cases args; simp_all
  obtain ⟨rfl, rfl⟩ := trodVars_none hV
  have hv0 := hval 0 5 v0 rfl rfl
  obtain ⟨a0, rfl, -, -, w0⟩ := open_int Try.underlying5 hv0 h0
  refine (SxW.SyntaxNests.SyntaxNests_any a0 W (wf_u8 w0)).mono fun e W' ⟨he, hx⟩ => ?_
  subst he
  exact ⟨_, rfl, law_post (tb := 4) rfl (by kernel_rfl) (by kernel_rfl) rfl Try.underlying4 hW0 rfl hx⟩
theorem over : Rows.syntaxNestsRow.holds Try.pinned (OpenSpec.ofChange Rows.syntaxNestsSpec) :=
  OpenClaim.holds_of_wide 8 Try.f8 rfl rfl rfl rfl rfl rfl rfl ⟨rfl, rfl, rfl, rfl, rfl⟩ rfl rfl rfl rfl rfl (by kernel_rfl) Try.func8 (by kernel_rfl)
    (of_decide_eq_true (by kernel_rfl)) (by unfold Func.isWrapper; rw [if_neg (of_decide_eq_false (by kernel_rfl))]; exact ⟨rfl, rfl⟩)
    (fun os started H enc _ => lifted os started H enc)
end RowSyntaxNests
/-- The statement. -/
theorem syntaxNests_holds : Rows.SyntaxNestsSaid := RowSyntaxNests.over
end Go.Proofs.Ytklccakoblibmaa
