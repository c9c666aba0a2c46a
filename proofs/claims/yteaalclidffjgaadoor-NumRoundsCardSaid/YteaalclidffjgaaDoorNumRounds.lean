/- NumRounds of the given program returns true for every input that its row lets in, and leaves its arguments as they were; the variables that the row lists are tied to the program's text. Conditions: none. -/
import Derived.Test.YteaalclidffjgaaDoorNqLNumRounds
import Derived.Test.YteaalclidffjgaaDoorRowL
import Derived.Test.YteaalclidffjgaaDoorNqLaid
import Derived.Test.YteaalclidffjgaaDoorCards
import Derived.Test.YteaalclidffjgaaDoorTie
namespace Go.Proofs.YteaalclidffjgaaDoor
open Go Go.Eng Go.RowKit Go.ChangeShapes Go.WideShapes Go.ChangeAt 
set_option linter.unusedVariables false
namespace RowNumRounds
theorem ic_of : ∀ cs, okAll [.int .i64] cs → ∃ x, cs = Sp.ic x ∧ True := fun cs h => by
  obtain ⟨v0, rfl, ⟨a, rfl, _⟩⟩ := okAll_1 h
  exact ⟨a, rfl, trivial⟩
theorem own : ownKnob Tryd.prog.godebug = none := by kernel_rfl
set_option maxRecDepth 100000 in
theorem lifted (os : Os) (started : os.Started) (H : Type) (enc : TypeId × Value → H) :
    ReturnsInHanded {} Tryd.checked os 6 .any (fun w args => (Rows.numRoundsSpec.pre enc Tryd.prog Tryd.f6 [] false w args ∧ laidMetH Tryd.prog Laid.laidL w) ∧ sizedMet enc Tryd.prog Tryd.f6 (OpenSpec.ofChange Rows.numRoundsSpec) false w args)
      (Rows.numRoundsSpec.post enc Tryd.prog Tryd.f6 false true false false) := by
  refine returnsInHanded_of_change_and (C := Tryd.checked) (X := (fun w _ => laidMetH Tryd.prog Laid.laidL w)) (fun _ _ _ hh h => h.of_heap hh) own started (by kernel_rfl) Tryd.func6
    (ChangeSpec.witness_shaped (enc := enc) (C := Tryd.checked) (os := os) (X := (fun w _ => laidMetH Tryd.prog Laid.laidL w)) false (World.doorLaid Tryd.prog 400 os) #[.int .i32 0, .int .i32 0, .int .i32 0] 8 rfl (World.shaped_of_RefB (by kernel_rfl) (by kernel_rfl)) (by kernel_rfl) (by kernel_rfl) (by kernel_rfl) (Laid.door_met os _)) ?_
  intro W base args ds gs before hval0 hW _ _ hL _
  have hT := Laid.tabs hL
  have hval : ∀ (j : Nat) t v, Tryd.f6.params[j]? = some t → args[j]? = some v → Value.okWide Tryd.prog W .any base t v := hval0
  have hW0 := hW
  obtain ⟨p, q, hA0, hV, rfl, hfz, hnd⟩ := hW
  have hA : DataW.TrodAll enc Tryd.prog W 0 (fun _ => true) true Tryd.f6.params.toList args.toList ds p := hA0
  have hP : Tryd.f6.params = #[21, 21, 21] := rfl
  rw [hP] at hA hval
  obtain ⟨v0, vs0, d0, ds0, p0, q0, hargs, rfl, rfl, h0, r0⟩ := trodAll_cons hA
  obtain ⟨v1, vs1, d1, ds1, p1, q1, rfl, rfl, rfl, h1, r1⟩ := trodAll_cons r0
  obtain ⟨v2, vs2, d2, ds2, p2, q2, rfl, rfl, rfl, h2, r2⟩ := trodAll_cons r1
  obtain ⟨rfl, rfl, rfl⟩ := trodAll_nil r2
  obtain rfl : args = #[v0, v1, v2] := by cases args; simp_all
  obtain ⟨rfl, rfl⟩ := trodVars_none hV
  have hv0 := hval 0 21 v0 rfl rfl
  obtain ⟨a0, rfl, -, -, w0⟩ := open_int Tryd.underlying21 hv0 h0
  have hv1 := hval 1 21 v1 rfl rfl
  obtain ⟨a1, rfl, -, -, w1⟩ := open_int Tryd.underlying21 hv1 h1
  have hv2 := hval 2 21 v2 rfl rfl
  obtain ⟨a2, rfl, -, -, w2⟩ := open_int Tryd.underlying21 hv2 h2
  refine (NqW.LNumRounds.NumRounds_any a0 a1 a2 W  hT (wf_i32 w0) (wf_i32 w1) (wf_i32 w2)).mono fun e W' ⟨he, hx⟩ => ?_
  subst he
  exact ⟨_, rfl, law_post (tb := 4) rfl (by kernel_rfl) (by kernel_rfl) rfl Tryd.underlying4 hW0 rfl hx⟩
theorem over : Rows.numRoundsRow.holds Tryd.pinned (OpenSpec.ofChange Rows.numRoundsSpec) :=
  OpenClaim.holds_of_wide 6 Tryd.f6 rfl rfl rfl rfl rfl rfl rfl ⟨rfl, rfl, rfl, rfl, rfl⟩ rfl rfl rfl rfl rfl (by kernel_rfl) Tryd.func6 (by kernel_rfl)
    (of_decide_eq_true (by kernel_rfl)) (by unfold Func.isWrapper; rw [if_neg (of_decide_eq_false (by kernel_rfl))]; exact ⟨rfl, rfl⟩)
    (fun os started H enc _ => lifted os started H enc)
end RowNumRounds
namespace CardNumRounds
theorem law_holds : Rows.NumRoundsSaid := RowNumRounds.over
theorem card_holds : Rows.NumRoundsCardSaid :=
  Claim7.holds_tied_plain_at .later [] [.data, .data, .data, .sentinel, .sentinel] true (true, "8182907167d93a299bc0a6f0749ddb5f6a3c70ee7bc944ce95c2c960be02a479") true
    law_holds (fun _ h => by cases h) (by kernel_rfl) (fun _ h => by cases h) numRounds_row_tie rfl ⟨rfl, rfl⟩ (by kernel_rfl) rfl
    (fun f fn hf hfn => by
      obtain rfl : f = 6 := Option.some.inj ((show Tryd.prog.funcNamed "tracebook/tracebooklaw01.NumRounds" = some 6 by kernel_rfl).symm.trans hf) |>.symm
      obtain rfl : fn = Tryd.f6 := (Option.some.inj (Tryd.func6.symm.trans hfn)).symm
      exact ⟨by kernel_rfl, fun j t ht => by
        have hm : t ∈ [21, 21, 21] := by simpa using Array.mem_of_getElem? (show (#[21, 21, 21] : Array Nat)[j]? = some t from ht)
        have hall : ([21, 21, 21].all fun u => !Tryd.prog.wantsStandIn u) = true := by kernel_rfl
        exact (show Tryd.prog.wantsStandIn t = false by simpa using List.all_eq_true.1 hall t hm)⟩)
    (by kernel_rfl)
end CardNumRounds
/-- The statement, as a card. -/
theorem numRounds_holds : Rows.NumRoundsCardSaid := CardNumRounds.card_holds
end Go.Proofs.YteaalclidffjgaaDoor
