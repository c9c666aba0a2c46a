/- SymbolKeeps of the given program returns true for every input that its row lets in, and leaves its arguments as they were; the variables that the row lists are tied to the program's text. Conditions: none. -/
import Derived.Test.YtghfncgciaiofaaDoorSyLSymbolKeeps
import Derived.Test.YtghfncgciaiofaaDoorSyRowP
import Derived.Test.YtghfncgciaiofaaDoorCards
import Derived.Test.YtghfncgciaiofaaDoorTie
namespace Go.Proofs.YtghfncgciaiofaaDoor
open Go Go.Eng Go.RowKit Go.ChangeShapes Go.WideShapes Go.ChangeAt 
set_option linter.unusedVariables false
namespace RowSymbolKeeps

theorem own : ownKnob Tryd.prog.godebug = none := by kernel_rfl
set_option maxRecDepth 100000 in
theorem lifted (os : Os) (started : os.Started) (H : Type) (enc : TypeId × Value → H) :
    ReturnsInHanded {} Tryd.checked os 7 .any (fun w args => (Rows.symbolKeepsSpec.pre enc Tryd.prog Tryd.f7 [] false w args ∧ laidMetH Tryd.prog Laid.laidL w) ∧ sizedMet enc Tryd.prog Tryd.f7 (OpenSpec.ofChange Rows.symbolKeepsSpec) false w args)
      (Rows.symbolKeepsSpec.post enc Tryd.prog Tryd.f7 false true false false) := by
  refine returnsInHanded_of_change_and (C := Tryd.checked) (X := (fun w _ => laidMetH Tryd.prog Laid.laidL w)) (fun _ _ _ hh h => h.of_heap hh) own started (by kernel_rfl) Tryd.func7
    (ChangeSpec.witness_shaped (enc := enc) (C := Tryd.checked) (os := os) (X := (fun w _ => laidMetH Tryd.prog Laid.laidL w)) false (World.doorLaid Tryd.prog 400 os) #[.slice none 0 0, .slice none 0 0] 8 rfl (World.shaped_of_RefB (by kernel_rfl) (by kernel_rfl)) (by kernel_rfl) (by kernel_rfl) (by kernel_rfl) (Laid.door_met os _)) ?_
  intro W base args ds gs before hval0 hW _ _ hL _
  have hT := Laid.tabs hL
  have hval : ∀ (j : Nat) t v, Tryd.f7.params[j]? = some t → args[j]? = some v → Value.okWide Tryd.prog W .any base t v := hval0
  have hW0 := hW
  obtain ⟨p, q, hA0, hV, rfl, hfz, hnd⟩ := hW
  have hA : DataW.TrodAll enc Tryd.prog W 0 (fun _ => true) true Tryd.f7.params.toList args.toList ds p := hA0
  have hP : Tryd.f7.params = #[22, 38] := rfl
  rw [hP] at hA hval
  obtain ⟨v0, vs0, d0, ds0, p0, q0, hargs, rfl, rfl, h0, r0⟩ := trodAll_cons hA
  obtain ⟨v1, vs1, d1, ds1, p1, q1, rfl, rfl, rfl, h1, r1⟩ := trodAll_cons r0
  obtain ⟨rfl, rfl, rfl⟩ := trodAll_nil r1
  obtain rfl : args = #[v0, v1] := by cases args; simp_all
  obtain ⟨rfl, rfl⟩ := trodVars_none hV
  obtain ⟨A_l, n_l, c_l, l, rfl, h_l, g_l⟩ := open_listO (f := Sy.M.v) (sz := 4) Tryd.underlying22 (by kernel_rfl) (by decide) M_opens (fun _ => rfl) (hval 0 22 v0 rfl rfl) h0
  obtain ⟨A_s, n_s, c_s, s, rfl, h_s, g_s⟩ := open_listO (f := Sy.P.v) (sz := 4) Tryd.underlying38 (by kernel_rfl) (by decide) P_opens (fun _ => rfl) (hval 1 38 v1 rfl rfl) h1
  refine (SyW.LSymbolKeeps.SymbolKeeps_any A_l n_l c_l l A_s n_s c_s s W h_l h_s g_l g_s ).mono fun e W' ⟨he, hx⟩ => ?_
  subst he
  exact ⟨_, rfl, law_post (tb := 4) rfl (by kernel_rfl) (by kernel_rfl) rfl Tryd.underlying4 hW0 rfl hx⟩
theorem over : Rows.symbolKeepsRow.holds Tryd.pinned (OpenSpec.ofChange Rows.symbolKeepsSpec) :=
  OpenClaim.holds_of_wide 7 Tryd.f7 rfl rfl rfl rfl rfl rfl rfl ⟨rfl, rfl, rfl, rfl, rfl⟩ rfl rfl rfl rfl rfl (by kernel_rfl) Tryd.func7 (by kernel_rfl)
    (of_decide_eq_true (by kernel_rfl)) (by unfold Func.isWrapper; rw [if_neg (of_decide_eq_false (by kernel_rfl))]; exact ⟨rfl, rfl⟩)
    (fun os started H enc _ => lifted os started H enc)
end RowSymbolKeeps
namespace CardSymbolKeeps
theorem law_holds : Rows.SymbolKeepsSaid := RowSymbolKeeps.over
theorem card_holds : Rows.SymbolKeepsCardSaid :=
  Claim7.holds_tied_plain_at .later [] [.data, .data, .data, .sentinel, .sentinel] true (true, "521e7b657756ffa03936eb739647a91b3fd11bb570b8d56f551517bbdc5049ec") true
    law_holds (fun _ h => by cases h) (by kernel_rfl) (fun _ h => by cases h) symbolKeeps_row_tie rfl ⟨rfl, rfl⟩ (by kernel_rfl) rfl
    (fun f fn hf hfn => by
      obtain rfl : f = 7 := Option.some.inj ((show Tryd.prog.funcNamed "tracebook/tracebooklaw55.SymbolKeeps" = some 7 by kernel_rfl).symm.trans hf) |>.symm
      obtain rfl : fn = Tryd.f7 := (Option.some.inj (Tryd.func7.symm.trans hfn)).symm
      exact ⟨by kernel_rfl, fun j t ht => by
        have hm : t ∈ [22, 38] := by simpa using Array.mem_of_getElem? (show (#[22, 38] : Array Nat)[j]? = some t from ht)
        have hall : ([22, 38].all fun u => !Tryd.prog.wantsStandIn u) = true := by kernel_rfl
        exact (show Tryd.prog.wantsStandIn t = false by simpa using List.all_eq_true.1 hall t hm)⟩)
    (by kernel_rfl)
end CardSymbolKeeps
/-- The statement, as a card. -/
theorem symbolKeeps_holds : Rows.SymbolKeepsCardSaid := CardSymbolKeeps.card_holds
end Go.Proofs.YtghfncgciaiofaaDoor
