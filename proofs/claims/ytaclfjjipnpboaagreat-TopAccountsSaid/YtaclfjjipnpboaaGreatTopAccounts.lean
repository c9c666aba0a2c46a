/- TopAccounts of the given program returns true for every input that its row lets in, and leaves its arguments as they were. Conditions: none. -/
import Derived.Test.YtaclfjjipnpboaaGreatP04
import Derived.Test.YtaclfjjipnpboaaGreatP01
import Derived.Test.YtaclfjjipnpboaaGreatP22
import Derived.Test.YtaclfjjipnpboaaGreatP07
set_option linter.all false
set_option maxHeartbeats 4000000
set_option maxRecDepth 4000
namespace Go.Proofs.YtaclfjjipnpboaaGreat
open Go Go.Eng Go.RowKit Go.ChangeShapes Go.WideShapes Go.ChangeAt
namespace RowTopAccounts
theorem own:ownKnob Tryz.prog.godebug=none:=by rfl
set_option maxRecDepth 100000 in
theorem lifted(os:Os)(started:os.Started)(H:Type)(enc:TypeId×Value→H):
  ReturnsInHanded {} Tryz.checked os 3 .any (Rows.topAccountsSpec.pre6 enc Tryz.prog Tryz.f3 Rows.topAccountsRow.domain false) (Rows.topAccountsSpec.post enc Tryz.prog Tryz.f3 false true false false):=by
 refine returnsInHanded_of_change (C:=Tryz.checked) own started (by kernel_rfl) Tryz.func3
  (ChangeSpec.witness6 (enc:=enc) (C:=Tryz.checked) false ⟨#[],#[.agg #[.slice none 0 0,.slice none 0 0,.slice none 0 0,.slice none 0 0],.int .i64 0],[]⟩ 8 (by kernel_rfl) (by rfl) (by kernel_rfl) (by rfl)) ?_
 intro W base args ds gs before hval0 hW hcnd _;have hval:∀(j:Nat) t v,Tryz.f3.params[j]? =some t→args[j]? =some v→Value.okWide Tryz.prog W .any base t v:=hval0;have hW0:=hW;obtain⟨p,q,hA0,hV,rfl,hfz,hnd⟩:=hW;have hA:DataW.TrodAll enc Tryz.prog W 0 (fun _=>true) true Tryz.f3.params.toList args.toList ds p:=hA0;have hP:Tryz.f3.params= #[29,3]:=rfl;rw[hP]at hA hval;obtain⟨v0,vs0,d0,ds0,p0,q0,hargs,rfl,rfl,h0,r0⟩:=trodAll_cons hA;obtain⟨v1,vs1,d1,ds1,p1,q1,rfl,rfl,rfl,h1,r1⟩:=trodAll_cons r0;obtain⟨rfl,rfl,rfl⟩:=trodAll_nil r1;obtain rfl:args= #[v0,v1]:=by grind
 obtain⟨rfl,rfl⟩:=trodVars_none hV;obtain⟨A1,n1,c1,ta,A2,n2,c2,da,A3,n3,c3,na,A4,n4,c4,pa,rfl,L1,L2,L3,L4,gp⟩:=TW.open_log (hval 0 29 v0 rfl rfl) h0;have hv1:=hval 1 3 v1 rfl rfl;obtain⟨a1,rfl,-,-,w1⟩:=open_int Tryz.underlying3 hv1 h1;refine(TW.top_any A1 n1 c1 ta A2 n2 c2 da A3 n3 c3 na A4 n4 c4 pa a1 _ L1 L2 L3 L4 gp).mono fun e W' ⟨he,hx⟩=> ?_;subst he;exact⟨_,rfl,law_post (tb:=4) rfl (by kernel_rfl) (by rfl) rfl Tryz.underlying4 hW0 rfl hx⟩
theorem facts:joinedFacts Tryz.prog 3 Tryz.f3 Rows.topAccountsSpec Rows.topAccountsRow=true:=by
 unfold joinedFacts;simp only[Bool.and_eq_true]
 repeat' apply And.intro
 all_goals as_aux_lemma=>kernel_rfl
theorem over:Rows.topAccountsRow.holds Tryz.pinned (OpenSpec.ofChange Rows.topAccountsSpec):=
 OpenClaim.holds_of_wide 3 Tryz.f3 rfl rfl rfl rfl rfl rfl rfl ⟨rfl,rfl,rfl,rfl,rfl⟩ rfl rfl rfl rfl rfl (by kernel_rfl) Tryz.func3 facts
  (of_decide_eq_true (by rfl)) Dc
  (fun os started H enc _=>lifted os started H enc)
end RowTopAccounts
theorem topAccounts_holds:Rows.TopAccountsSaid:=RowTopAccounts.over
end Go.Proofs.YtaclfjjipnpboaaGreat
