/- NumRanks of the given program returns true for every input that its row lets in, and leaves its arguments as they were; the variables that the row lists are tied to the program's text. Conditions: none. -/
import Derived.Test.YteaalclidffjgaaDoorNqLNumRanks
import Derived.Test.YteaalclidffjgaaDoorRowL
import Derived.Test.YteaalclidffjgaaDoorNqLaid
import Derived.Test.YteaalclidffjgaaDoorCards
import Derived.Test.YteaalclidffjgaaDoorTie
namespace Go.Proofs.YteaalclidffjgaaDoor
open Go Go.Eng Go.RowKit Go.ChangeShapes Go.WideShapes Go.ChangeAt 
set_option linter.unusedVariables false
namespace RowNumRanks
theorem ic_of : ∀ cs, okAll [.int .i64] cs → ∃ x, cs = Sp.ic x ∧ True := fun cs h => by
  obtain ⟨v0, rfl, ⟨a, rfl, _⟩⟩ := okAll_1 h
  exact ⟨a, rfl, trivial⟩
theorem own : ownKnob Tryd.prog.godebug = none := by kernel_rfl
set_option maxRecDepth 100000 in
theorem lifted (os : Os) (started : os.Started) (H : Type) (enc : TypeId × Value → H) :
    ReturnsInHanded {} Tryd.checked os 8 .any (fun w args => (Rows.numRanksSpec.pre enc Tryd.prog Tryd.f8 [] false w args ∧ laidMetH Tryd.prog Laid.laidL w) ∧ sizedMet enc Tryd.prog Tryd.f8 (OpenSpec.ofChange Rows.numRanksSpec) false w args)
      (Rows.numRanksSpec.post enc Tryd.prog Tryd.f8 false true false false) := by
  refine returnsInHanded_of_change_and (C := Tryd.checked) (X := (fun w _ => laidMetH Tryd.prog Laid.laidL w)) (fun _ _ _ hh h => h.of_heap hh) own started (by kernel_rfl) Tryd.func8
    (ChangeSpec.witness_shaped (enc := enc) (C := Tryd.checked) (os := os) (X := (fun w _ => laidMetH Tryd.prog Laid.laidL w)) false (World.doorLaid Tryd.prog 400 os) #[.slice none 0 0, .int .i64 0, .int .i64 0] 8 rfl (World.shaped_of_RefB (by kernel_rfl) (by kernel_rfl)) (by kernel_rfl) (by kernel_rfl) (by kernel_rfl) (Laid.door_met os _)) ?_
  intro W base args ds gs before hval0 hW _ _ hL _
  have hT := Laid.tabs hL
  have hval : ∀ (j : Nat) t v, Tryd.f8.params[j]? = some t → args[j]? = some v → Value.okWide Tryd.prog W .any base t v := hval0
  have hW0 := hW
  obtain ⟨p, q, hA0, hV, rfl, hfz, hnd⟩ := hW
  have hA : DataW.TrodAll enc Tryd.prog W 0 (fun _ => true) true Tryd.f8.params.toList args.toList ds p := hA0
  have hP : Tryd.f8.params = #[30, 3, 3] := rfl
  rw [hP] at hA hval
  obtain ⟨v0, vs0, d0, ds0, p0, q0, hargs, rfl, rfl, h0, r0⟩ := trodAll_cons hA
  obtain ⟨v1, vs1, d1, ds1, p1, q1, rfl, rfl, rfl, h1, r1⟩ := trodAll_cons r0
  obtain ⟨v2, vs2, d2, ds2, p2, q2, rfl, rfl, rfl, h2, r2⟩ := trodAll_cons r1
  obtain ⟨rfl, rfl, rfl⟩ := trodAll_nil r2
  obtain rfl : args = #[v0, v1, v2] := by cases args; simp_all
  obtain ⟨rfl, rfl⟩ := trodVars_none hV
  obtain ⟨A_l, n_l, c_l, l, rfl, h_l, -⟩ := open_list (f := Sp.ic) (Wf := fun _ => True) (sz := 1) (ks := [.int .i64]) (m := 6) Tryd.underlying30 (by kernel_rfl) (by kernel_rfl) (by decide) ic_of (fun _ => rfl) (hval 0 30 v0 rfl rfl) h0
  have hv1 := hval 1 3 v1 rfl rfl
  obtain ⟨a1, rfl, -, -, w1⟩ := open_int Tryd.underlying3 hv1 h1
  have hv2 := hval 2 3 v2 rfl rfl
  obtain ⟨a2, rfl, -, -, w2⟩ := open_int Tryd.underlying3 hv2 h2
  refine (NqW.LNumRanks.NumRanks_any A_l n_l c_l l a1 a2 W h_l hT ).mono fun e W' ⟨he, hx⟩ => ?_
  subst he
  exact ⟨_, rfl, law_post (tb := 4) rfl (by kernel_rfl) (by kernel_rfl) rfl Tryd.underlying4 hW0 rfl hx⟩
theorem over : Rows.numRanksRow.holds Tryd.pinned (OpenSpec.ofChange Rows.numRanksSpec) :=
  OpenClaim.holds_of_wide 8 Tryd.f8 rfl rfl rfl rfl rfl rfl rfl ⟨rfl, rfl, rfl, rfl, rfl⟩ rfl rfl rfl rfl rfl (by kernel_rfl) Tryd.func8 (by kernel_rfl)
    (of_decide_eq_true (by kernel_rfl)) (by unfold Func.isWrapper; rw [if_neg (of_decide_eq_false (by kernel_rfl))]; exact ⟨rfl, rfl⟩)
    (fun os started H enc _ => lifted os started H enc)
end RowNumRanks
namespace CardNumRanks
theorem law_holds : Rows.NumRanksSaid := RowNumRanks.over
theorem card_holds : Rows.NumRanksCardSaid :=
  Claim7.holds_tied_plain_at .later [] [.data, .data, .data, .sentinel, .sentinel] true (true, "8182907167d93a299bc0a6f0749ddb5f6a3c70ee7bc944ce95c2c960be02a479") true
    law_holds (fun _ h => by cases h) (by kernel_rfl) (fun _ h => by cases h) numRanks_row_tie rfl ⟨rfl, rfl⟩ (by kernel_rfl) rfl
    (fun f fn hf hfn => by
      obtain rfl : f = 8 := Option.some.inj ((show Tryd.prog.funcNamed "tracebook/tracebooklaw01.NumRanks" = some 8 by kernel_rfl).symm.trans hf) |>.symm
      obtain rfl : fn = Tryd.f8 := (Option.some.inj (Tryd.func8.symm.trans hfn)).symm
      exact ⟨by kernel_rfl, fun j t ht => by
        have hm : t ∈ [30, 3, 3] := by simpa using Array.mem_of_getElem? (show (#[30, 3, 3] : Array Nat)[j]? = some t from ht)
        have hall : ([30, 3, 3].all fun u => !Tryd.prog.wantsStandIn u) = true := by kernel_rfl
        exact (show Tryd.prog.wantsStandIn t = false by simpa using List.all_eq_true.1 hall t hm)⟩)
    (by kernel_rfl)
end CardNumRanks
/-- The statement, as a card. -/
theorem numRanks_holds : Rows.NumRanksCardSaid := CardNumRanks.card_holds
end Go.Proofs.YteaalclidffjgaaDoor
