/- ItreeSorts of the given program returns true for every input that its row lets in, and leaves its arguments as they were. Conditions: none. -/
import Derived.Test.YtbdfhiihaemjhaaItLItreeSorts
import Derived.Test.YtbdfhiihaemjhaaRowL
import Derived.Test.YtbdfhiihaemjhaaRowN
namespace Go.Proofs.Ytbdfhiihaemjhaa
open Go Go.Eng Go.RowKit Go.ChangeShapes Go.WideShapes Go.ChangeAt 
set_option linter.unusedVariables false
namespace RowItreeSorts
theorem S_of : ∀ cs, okAll [.int .i64, .int .i64] cs → ∃ x, cs = Sp.S.c x ∧ It.low ≤ x.t := fun cs h => by
  obtain ⟨v0, v1, rfl, ⟨a, rfl, _⟩, ⟨b, rfl, hb⟩⟩ := okAll_2 h
  exact ⟨⟨a, b⟩, rfl, (wf_i64 hb).1⟩
theorem ic_of : ∀ cs, okAll [.int .i64] cs → ∃ x, cs = Sp.ic x ∧ True := fun cs h => by
  obtain ⟨v0, rfl, ⟨a, rfl, _⟩⟩ := okAll_1 h
  exact ⟨a, rfl, trivial⟩
theorem own : ownKnob Try.prog.godebug = none := by kernel_rfl
set_option maxRecDepth 100000 in
theorem lifted (os : Os) (started : os.Started) (H : Type) (enc : TypeId × Value → H) :
    ReturnsInHanded {} Try.checked os 5 .any (Rows.itreeSortsSpec.pre6 enc Try.prog Try.f5 Rows.itreeSortsRow.domain false) (Rows.itreeSortsSpec.post enc Try.prog Try.f5 false true false false) := by
  refine returnsInHanded_of_change (C := Try.checked) own started (by kernel_rfl) Try.func5
    (ChangeSpec.witness6 (enc := enc) (C := Try.checked) false ⟨#[], #[.slice none 0 0], []⟩ 8 (by kernel_rfl) (by kernel_rfl) (by kernel_rfl) (by kernel_rfl)) ?_
  intro W base args ds gs before hval0 hW hcnd _
  have hval : ∀ (j : Nat) t v, Try.f5.params[j]? = some t → args[j]? = some v → Value.okWide Try.prog W .any base t v := hval0
  have hW0 := hW
  obtain ⟨p, q, hA0, hV, rfl, hfz, hnd⟩ := hW
  have hA : DataW.TrodAll enc Try.prog W 0 (fun _ => true) true Try.f5.params.toList args.toList ds p := hA0
  have hP : Try.f5.params = #[22] := rfl
  rw [hP] at hA hval
  obtain ⟨v0, vs0, d0, ds0, p0, q0, hargs, rfl, rfl, h0, r0⟩ := trodAll_cons hA
  obtain ⟨rfl, rfl, rfl⟩ := trodAll_nil r0
  obtain rfl : args = #[v0] := by cases args; simp_all
  obtain ⟨rfl, rfl⟩ := trodVars_none hV
  obtain ⟨A_l, n_l, c_l, l, rfl, h_l, hv⟩ := open_list (f := Sp.S.c) (Wf := fun x => It.low ≤ x.t) (sz := 2) (ks := [.int .i64, .int .i64]) (m := 6) Try.underlying22 (by kernel_rfl) (by kernel_rfl) (by decide) S_of (fun _ => rfl) (hval 0 22 v0 rfl rfl) h0
  refine (ItW.LItreeSorts.ItreeSorts_any A_l n_l c_l l W h_l hv).mono fun e W' ⟨he, hx⟩ => ?_
  subst he
  exact ⟨_, rfl, law_post (tb := 4) rfl (by kernel_rfl) (by kernel_rfl) rfl Try.underlying4 hW0 rfl hx⟩
theorem over : Rows.itreeSortsRow.holds Try.pinned (OpenSpec.ofChange Rows.itreeSortsSpec) :=
  OpenClaim.holds_of_wide 5 Try.f5 rfl rfl rfl rfl rfl rfl rfl ⟨rfl, rfl, rfl, rfl, rfl⟩ rfl rfl rfl rfl rfl (by kernel_rfl) Try.func5 (by kernel_rfl)
    (of_decide_eq_true (by kernel_rfl)) (by unfold Func.isWrapper; rw [if_neg (of_decide_eq_false (by kernel_rfl))]; exact ⟨rfl, rfl⟩)
    (fun os started H enc _ => lifted os started H enc)
end RowItreeSorts
/-- The statement. -/
theorem itreeSorts_holds : Rows.ItreeSortsSaid := RowItreeSorts.over
end Go.Proofs.Ytbdfhiihaemjhaa
