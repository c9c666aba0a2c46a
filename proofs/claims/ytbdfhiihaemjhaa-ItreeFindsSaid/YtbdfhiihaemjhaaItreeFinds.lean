/- ItreeFinds of the given program returns true for every input that its row lets in, and leaves its arguments as they were. Conditions: none. -/
import Derived.Test.YtbdfhiihaemjhaaItLItreeFinds
import Derived.Test.YtbdfhiihaemjhaaRowL
import Derived.Test.YtbdfhiihaemjhaaRowN
namespace Go.Proofs.Ytbdfhiihaemjhaa
open Go Go.Eng Go.RowKit Go.ChangeShapes Go.WideShapes Go.ChangeAt 
set_option linter.unusedVariables false
namespace RowItreeFinds
theorem S_of : ∀ cs, okAll [.int .i64, .int .i64] cs → ∃ x, cs = Sp.S.c x ∧ It.low ≤ x.t := fun cs h => by
  obtain ⟨v0, v1, rfl, ⟨a, rfl, _⟩, ⟨b, rfl, hb⟩⟩ := okAll_2 h
  exact ⟨⟨a, b⟩, rfl, (wf_i64 hb).1⟩
theorem ic_of : ∀ cs, okAll [.int .i64] cs → ∃ x, cs = Sp.ic x ∧ True := fun cs h => by
  obtain ⟨v0, rfl, ⟨a, rfl, _⟩⟩ := okAll_1 h
  exact ⟨a, rfl, trivial⟩
theorem own : ownKnob Try.prog.godebug = none := by kernel_rfl
set_option maxRecDepth 100000 in
theorem lifted (os : Os) (started : os.Started) (H : Type) (enc : TypeId × Value → H) :
    ReturnsInHanded {} Try.checked os 7 .any (Rows.itreeFindsSpec.pre6 enc Try.prog Try.f7 Rows.itreeFindsRow.domain false) (Rows.itreeFindsSpec.post enc Try.prog Try.f7 false true false false) := by
  refine returnsInHanded_of_change (C := Try.checked) own started (by kernel_rfl) Try.func7
    (ChangeSpec.witness6 (enc := enc) (C := Try.checked) false ⟨#[], #[.slice none 0 0, .agg #[.int .i64 0, .int .i64 0], .int .i64 0], []⟩ 8 (by kernel_rfl) (by kernel_rfl) (by kernel_rfl) (by kernel_rfl)) ?_
  intro W base args ds gs before hval0 hW hcnd _
  have hval : ∀ (j : Nat) t v, Try.f7.params[j]? = some t → args[j]? = some v → Value.okWide Try.prog W .any base t v := hval0
  have hW0 := hW
  obtain ⟨p, q, hA0, hV, rfl, hfz, hnd⟩ := hW
  have hA : DataW.TrodAll enc Try.prog W 0 (fun _ => true) true Try.f7.params.toList args.toList ds p := hA0
  have hP : Try.f7.params = #[22, 32, 3] := rfl
  rw [hP] at hA hval
  obtain ⟨v0, vs0, d0, ds0, p0, q0, hargs, rfl, rfl, h0, r0⟩ := trodAll_cons hA
  obtain ⟨v1, vs1, d1, ds1, p1, q1, rfl, rfl, rfl, h1, r1⟩ := trodAll_cons r0
  obtain ⟨v2, vs2, d2, ds2, p2, q2, rfl, rfl, rfl, h2, r2⟩ := trodAll_cons r1
  obtain ⟨rfl, rfl, rfl⟩ := trodAll_nil r2
  obtain rfl : args = #[v0, v1, v2] := by cases args; simp_all
  obtain ⟨rfl, rfl⟩ := trodVars_none hV
  obtain ⟨A_l, n_l, c_l, l, rfl, h_l, hv⟩ := open_list (f := Sp.S.c) (Wf := fun x => It.low ≤ x.t) (sz := 2) (ks := [.int .i64, .int .i64]) (m := 6) Try.underlying22 (by kernel_rfl) (by kernel_rfl) (by decide) S_of (fun _ => rfl) (hval 0 22 v0 rfl rfl) h0
  obtain ⟨vs1, rfl, hk1⟩ := open_flatS (ks := [.int .i64, .int .i64]) (n := 6) Try.underlying32 rfl (by kernel_rfl) (hval 1 32 v1 rfl rfl) h1
  obtain ⟨c1_0, c1_1, rfl, k1_0, k1_1⟩ := okAll_2 hk1
  obtain ⟨a1_0, rfl, w1_0⟩ := k1_0
  obtain ⟨a1_1, rfl, w1_1⟩ := k1_1
  have hv2 := hval 2 3 v2 rfl rfl
  obtain ⟨a2, rfl, -, -, w2⟩ := open_int Try.underlying3 hv2 h2
  refine (ItW.LItreeFinds.ItreeFinds_any A_l n_l c_l l ⟨a1_0, a1_1⟩ a2 W h_l hv).mono fun e W' ⟨he, hx⟩ => ?_
  subst he
  exact ⟨_, rfl, law_post (tb := 4) rfl (by kernel_rfl) (by kernel_rfl) rfl Try.underlying4 hW0 rfl hx⟩
theorem over : Rows.itreeFindsRow.holds Try.pinned (OpenSpec.ofChange Rows.itreeFindsSpec) :=
  OpenClaim.holds_of_wide 7 Try.f7 rfl rfl rfl rfl rfl rfl rfl ⟨rfl, rfl, rfl, rfl, rfl⟩ rfl rfl rfl rfl rfl (by kernel_rfl) Try.func7 (by kernel_rfl)
    (of_decide_eq_true (by kernel_rfl)) (by unfold Func.isWrapper; rw [if_neg (of_decide_eq_false (by kernel_rfl))]; exact ⟨rfl, rfl⟩)
    (fun os started H enc _ => lifted os started H enc)
end RowItreeFinds
/-- The statement. -/
theorem itreeFinds_holds : Rows.ItreeFindsSaid := RowItreeFinds.over
end Go.Proofs.Ytbdfhiihaemjhaa
