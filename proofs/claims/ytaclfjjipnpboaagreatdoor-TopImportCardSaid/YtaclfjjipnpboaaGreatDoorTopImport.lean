/- TopAccounts of the given program returns true for every input that its row lets in, and leaves its arguments as they were. Conditions: none. -/
import Derived.Test.YtaclfjjipnpboaaGreatDoorP04
import Derived.Test.YtaclfjjipnpboaaGreatDoorP01
import Derived.Test.YtaclfjjipnpboaaGreatDoorP20
import Derived.Test.YtaclfjjipnpboaaGreatDoorP21
import Derived.Test.YtaclfjjipnpboaaGreatDoorP08
import Derived.Test.YtaclfjjipnpboaaGreatDoorCards
import Derived.Test.YtaclfjjipnpboaaGreatDoorTie
set_option linter.all false
set_option maxHeartbeats 4000000
set_option maxRecDepth 4000
namespace Go.Proofs.YtaclfjjipnpboaaGreatDoor
open Go Go.Eng Go.RowKit Go.ChangeShapes Go.WideShapes Go.ChangeAt
namespace RowTopImport
theorem own:ownKnob Tryz.prog.godebug=none:=by kernel_rfl
set_option maxRecDepth 100000 in
theorem lifted(os:Os)(started:os.Started)(H:Type)(enc:TypeId×Value→H):
  ReturnsInHanded {} Tryz.checked os 3 .any (fun w args=>(Rows.topImportSpec.pre enc Tryz.prog Tryz.f3 [] false w args∧laidMetH Tryz.prog Laid.laidL w)∧sizedMet enc Tryz.prog Tryz.f3 (OpenSpec.ofChange Rows.topImportSpec) false w args)
   (Rows.topImportSpec.post enc Tryz.prog Tryz.f3 false true false false):=by
 refine returnsInHanded_of_change_and (C:=Tryz.checked) (X:=(fun w _=>laidMetH Tryz.prog Laid.laidL w)) (fun _ _ _ hh h=>h.of_heap hh) own started (by kernel_rfl) Tryz.func3
  (ChangeSpec.witness_shaped (enc:=enc) (C:=Tryz.checked) (os:=os) (X:=(fun w _=>laidMetH Tryz.prog Laid.laidL w)) false (World.doorLaid Tryz.prog 400 os) #[.agg #[.slice none 0 0,.slice none 0 0,.slice none 0 0,.slice none 0 0]] 8 rfl (World.shaped_of_RefB (by kernel_rfl) (by kernel_rfl)) (by kernel_rfl) (by kernel_rfl) (by kernel_rfl) (Laid.door_met os _)) ?_
 intro W base args ds gs before hval0 hW _ _ hL _;have hT:=Laid.tabs hL;have hval:∀(j:Nat) t v,Tryz.f3.params[j]? =some t→args[j]? =some v→Value.okWide Tryz.prog W .any base t v:=hval0;have hW0:=hW;obtain⟨p,q,hA0,hV,rfl,hfz,hnd⟩:=hW;have hA:DataW.TrodAll enc Tryz.prog W 0 (fun _=>true) true Tryz.f3.params.toList args.toList ds p:=hA0;have hP:Tryz.f3.params= #[29]:=rfl;rw[hP]at hA hval;obtain⟨v0,vs0,d0,ds0,p0,q0,hargs,rfl,rfl,h0,r0⟩:=trodAll_cons hA;obtain⟨rfl,rfl,rfl⟩:=trodAll_nil r0;obtain rfl:args= #[v0]:=by cases args;simp_all
 obtain⟨rfl,rfl⟩:=trodVars_none hV;obtain⟨A1,n1,c1,ta,A2,n2,c2,da,A3,n3,c3,na,A4,n4,c4,pa,rfl,L1,L2,L3,L4,gp⟩:=TW.open_log (hval 0 29 v0 rfl rfl) h0;refine(TW.top_any A1 n1 c1 ta A2 n2 c2 da A3 n3 c3 na A4 n4 c4 pa _ L1 L2 L3 L4 gp hT).mono fun e W' ⟨he,hx⟩=> ?_;subst he;exact⟨_,rfl,law_post (tb:=4) rfl (by kernel_rfl) (by kernel_rfl) rfl Tryz.underlying4 hW0 rfl hx⟩
theorem facts:joinedFacts Tryz.prog 3 Tryz.f3 Rows.topImportSpec Rows.topImportRow=true:=by
 unfold joinedFacts;simp only[Bool.and_eq_true]
 repeat' apply And.intro
 all_goals as_aux_lemma=>kernel_rfl
theorem over:Rows.topImportRow.holds Tryz.pinned (OpenSpec.ofChange Rows.topImportSpec):=
 OpenClaim.holds_of_wide 3 Tryz.f3 rfl rfl rfl rfl rfl rfl rfl ⟨rfl,rfl,rfl,rfl,rfl⟩ rfl rfl rfl rfl rfl (by kernel_rfl) Tryz.func3 facts
  (of_decide_eq_true (by kernel_rfl)) (by unfold Func.isWrapper;rw[if_neg (of_decide_eq_false (by kernel_rfl))];exact⟨rfl,rfl⟩)
  (fun os started H enc _=>lifted os started H enc)
end RowTopImport
namespace CardTopImport
theorem law_holds:Rows.TopImportSaid:=RowTopImport.over
theorem card_holds:Rows.TopImportCardSaid:=
 Claim7.holds_tied_plain_at .later [] [.data,.data,.data,.sentinel,.sentinel] true (true,"7346072e79954aa05ea78a8ace2a1bf8fa51cbfca1210a4caa158462c89fb2e5") true
  law_holds (fun _ h=>by cases h) (by kernel_rfl) (fun _ h=>by cases h) topImport_row_tie rfl ⟨rfl,rfl⟩ (by kernel_rfl) rfl
  (fun f fn hf hfn=>by
   obtain rfl:f=3:=Option.some.inj ((show Tryz.prog.funcNamed "tracebook/tracebooktop.TopImport"=some 3 by kernel_rfl).symm.trans hf) |>.symm
   obtain rfl:fn=Tryz.f3:=(Option.some.inj (Tryz.func3.symm.trans hfn)).symm;exact⟨by kernel_rfl,fun j t ht=>by
    have hm:t∈[29]:=by simpa using Array.mem_of_getElem? (show(#[29]:Array Nat)[j]? =some t from ht)
    have hall:([29].all fun u=> !Tryz.prog.wantsStandIn u)=true:=by kernel_rfl
    exact(show Tryz.prog.wantsStandIn t=false by simpa using List.all_eq_true.1 hall t hm)⟩)
  (by kernel_rfl)
end CardTopImport
theorem topImport_holds:Rows.TopImportCardSaid:=CardTopImport.card_holds
end Go.Proofs.YtaclfjjipnpboaaGreatDoor
