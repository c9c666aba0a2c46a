/- The walk of the law. Conditions: what each theorem states. -/
import Derived.Test.YteaalclidffjgaaDoorNqAwake
import Derived.Test.YteaalclidffjgaaDoorNqLaw
namespace Go.Proofs.YteaalclidffjgaaDoor
open Go Go.Eng Go.RowKit
set_option linter.unusedVariables false
namespace NqW
open D Q R T S G H A
namespace LNumQuotients
theorem has16 : Has Tryd.prog 16 := ⟨_, Tryd.func16, rfl, by kernel_rfl⟩
theorem has17 : Has Tryd.prog 17 := ⟨_, Tryd.func17, rfl, by kernel_rfl⟩
theorem has18 : Has Tryd.prog 18 := ⟨_, Tryd.func18, rfl, by kernel_rfl⟩
theorem has19 : Has Tryd.prog 19 := ⟨_, Tryd.func19, rfl, by kernel_rfl⟩
theorem has20 : Has Tryd.prog 20 := ⟨_, Tryd.func20, rfl, by kernel_rfl⟩
theorem NumQuotients_any (a : Int) (b : Int) (c : Int) (w : World) (hT : Nq.Tabs w) :
    Calls Tryd.prog 5 #[.int .i64 a, .int .i64 b, .int .i64 c] w fun e w' => e = .returned (.bool true) ∧ Ext w w' := by
  have xW := Ext.refl w
  refine calls_of_WC (args := [.int .i64 a, .int .i64 b, .int .i64 c]) Tryd.func5 rfl rfl (ble rfl) ?_
  refine WC.seq (fun K1 k1 => ?_)
  refine WC.region rfl ?_
  refine WL.yld rfl (blt rfl) rfl (Y.assign rfl rfl) ?_
  refine WL.nil ?_
  refine WK.then_normal (k1 _ _ ?_)
  refine WC.sub [(0, _), (1, _), (2, _)] ⟨rfl, rfl, rfl, trivial⟩ ?_
  refine WC.seq (fun K2 k2 => ?_)
  refine WC.region rfl ?_
  refine WL.yld rfl (blt rfl) rfl (Y.move rfl rfl) ?_
  refine WL.yld rfl (blt rfl) rfl (Y.move rfl rfl) ?_
  refine WL.yld rfl (blt rfl) rfl (Y.move rfl rfl) ?_
  refine WL.call rfl (blt rfl) rfl rfl rfl has17 rfl (floor_any _ _ _ _ ) ?_
  rintro _ w3 ⟨rfl, x4⟩
  refine ⟨_, rfl, ?_⟩
  have xW := Ext.trans xW x4
  refine WL.yld rfl (blt rfl) rfl (Y.move rfl rfl) ?_
  refine WL.yld rfl (blt rfl) rfl (Y.extract rfl rfl rfl) ?_
  refine WL.yld rfl (blt rfl) rfl (Y.extract rfl rfl rfl) ?_
  refine WL.yld rfl (blt rfl) rfl (Y.assign rfl rfl) ?_
  refine WL.yld rfl (blt rfl) rfl (Y.assign rfl rfl) ?_
  refine WL.nil ?_
  refine WK.then_normal (k2 _ _ ?_)
  refine WC.sub [(0, _), (1, _), (2, _), (7, _), (8, _)] ⟨rfl, rfl, rfl, rfl, rfl, trivial⟩ ?_
  refine WC.seq (fun K5 k5 => ?_)
  refine WC.region rfl ?_
  refine WL.yld rfl (blt rfl) rfl (Y.move rfl rfl) ?_
  refine WL.yld rfl (blt rfl) rfl (Y.move rfl rfl) ?_
  refine WL.yld rfl (blt rfl) rfl (Y.move rfl rfl) ?_
  refine WL.call rfl (blt rfl) rfl rfl rfl has18 rfl (ceil_any _ _ _ _ ) ?_
  rintro _ w6 ⟨rfl, x7⟩
  refine ⟨_, rfl, ?_⟩
  have xW := Ext.trans xW x7
  refine WL.yld rfl (blt rfl) rfl (Y.move rfl rfl) ?_
  refine WL.yld rfl (blt rfl) rfl (Y.extract rfl rfl rfl) ?_
  refine WL.yld rfl (blt rfl) rfl (Y.extract rfl rfl rfl) ?_
  refine WL.yld rfl (blt rfl) rfl (Y.assign rfl rfl) ?_
  refine WL.yld rfl (blt rfl) rfl (Y.assign rfl rfl) ?_
  refine WL.nil ?_
  refine WK.then_normal (k5 _ _ ?_)
  refine WC.sub [(0, _), (1, _), (2, _), (7, _), (8, _), (9, _), (10, _)] ⟨rfl, rfl, rfl, rfl, rfl, rfl, rfl, trivial⟩ ?_
  refine WC.seq (fun K8 k8 => ?_)
  refine WC.region rfl ?_
  refine WL.yld rfl (blt rfl) rfl (Y.move rfl rfl) ?_
  refine WL.yld rfl (blt rfl) rfl (Y.move rfl rfl) ?_
  refine WL.yld rfl (blt rfl) rfl (Y.move rfl rfl) ?_
  refine WL.call rfl (blt rfl) rfl rfl rfl has19 rfl (rfloor_any _ _ _ _ ) ?_
  rintro _ w9 ⟨rfl, x10⟩
  refine ⟨_, rfl, ?_⟩
  have xW := Ext.trans xW x10
  refine WL.yld rfl (blt rfl) rfl (Y.move rfl rfl) ?_
  refine WL.yld rfl (blt rfl) rfl (Y.extract rfl rfl rfl) ?_
  refine WL.yld rfl (blt rfl) rfl (Y.extract rfl rfl rfl) ?_
  refine WL.yld rfl (blt rfl) rfl (Y.assign rfl rfl) ?_
  refine WL.yld rfl (blt rfl) rfl (Y.assign rfl rfl) ?_
  refine WL.nil ?_
  refine WK.then_normal (k8 _ _ ?_)
  refine WC.sub [(0, _), (1, _), (2, _), (7, _), (8, _), (9, _), (10, _), (11, _), (12, _)] ⟨rfl, rfl, rfl, rfl, rfl, rfl, rfl, rfl, rfl, trivial⟩ ?_
  refine WC.seq (fun K11 k11 => ?_)
  refine WC.region rfl ?_
  refine WL.yld rfl (blt rfl) rfl (Y.move rfl rfl) ?_
  refine WL.yld rfl (blt rfl) rfl (Y.move rfl rfl) ?_
  refine WL.yld rfl (blt rfl) rfl (Y.move rfl rfl) ?_
  refine WL.call rfl (blt rfl) rfl rfl rfl has20 rfl (rceil_any _ _ _ _ ) ?_
  rintro _ w12 ⟨rfl, x13⟩
  refine ⟨_, rfl, ?_⟩
  have xW := Ext.trans xW x13
  refine WL.yld rfl (blt rfl) rfl (Y.move rfl rfl) ?_
  refine WL.yld rfl (blt rfl) rfl (Y.extract rfl rfl rfl) ?_
  refine WL.yld rfl (blt rfl) rfl (Y.extract rfl rfl rfl) ?_
  refine WL.yld rfl (blt rfl) rfl (Y.assign rfl rfl) ?_
  refine WL.yld rfl (blt rfl) rfl (Y.assign rfl rfl) ?_
  refine WL.nil ?_
  refine WK.then_normal (k11 _ _ ?_)
  refine WC.sub [(7, _), (8, _), (9, _), (10, _), (11, _), (12, _), (13, _), (14, _)] ⟨rfl, rfl, rfl, rfl, rfl, rfl, rfl, rfl, trivial⟩ ?_
  refine WC.seq (fun K14 k14 => ?_)
  refine WC.region rfl ?_
  refine WL.yld rfl (blt rfl) rfl (Y.move rfl rfl) ?_
  refine WL.yld rfl (blt rfl) rfl (Y.move rfl rfl) ?_
  refine WL.yld rfl (blt rfl) rfl (Y.eql rfl rfl rfl) ?_
  refine WL.yld rfl (blt rfl) rfl (Y.move rfl rfl) ?_
  refine WL.yldG rfl (blt rfl) rfl rfl rfl (fun hb => Y.move rfl rfl) ?_
  refine WL.yldG rfl (blt rfl) rfl rfl rfl (fun hb => Y.move rfl rfl) ?_
  refine WL.yldG rfl (blt rfl) rfl rfl rfl (fun hb => Y.eqlB rfl Tryd.underlying4 (evg rfl hb) (evg rfl hb)) ?_
  refine WL.yld rfl (blt rfl) rfl (Y.and rfl rfl rfl rfl) ?_
  refine WL.yld rfl (blt rfl) rfl (Y.move rfl rfl) ?_
  refine WL.yldG rfl (blt rfl) rfl rfl rfl (fun hb => Y.move rfl rfl) ?_
  refine WL.yldG rfl (blt rfl) rfl rfl rfl (fun hb => Y.move rfl rfl) ?_
  refine WL.yldG rfl (blt rfl) rfl rfl rfl (fun hb => Y.eql rfl (evg rfl hb) (evg rfl hb)) ?_
  refine WL.yld rfl (blt rfl) rfl (Y.and rfl rfl rfl rfl) ?_
  refine WL.yld rfl (blt rfl) rfl (Y.move rfl rfl) ?_
  refine WL.yldG rfl (blt rfl) rfl rfl rfl (fun hb => Y.move rfl rfl) ?_
  refine WL.yldG rfl (blt rfl) rfl rfl rfl (fun hb => Y.move rfl rfl) ?_
  refine WL.yldG rfl (blt rfl) rfl rfl rfl (fun hb => Y.eqlB rfl Tryd.underlying4 (evg rfl hb) (evg rfl hb)) ?_
  refine WL.yld rfl (blt rfl) rfl (Y.and rfl rfl rfl rfl) ?_
  refine WL.yld rfl (blt rfl) rfl (Y.move rfl rfl) ?_
  refine WL.callG rfl (blt rfl) rfl rfl rfl rfl rfl has16 (fun hb => rfl) (fun hb => awake_any _ (hT.ext xW)) (fun w15 x16 => ?_)
  have xW := Ext.trans xW x16
  refine WL.yld rfl (blt rfl) rfl (Y.and rfl rfl rfl rfl) ?_
  refine WL.yld rfl (blt rfl) rfl (Y.assign rfl rfl) ?_
  refine WL.nil ?_
  refine WK.then_normal (k14 _ _ ?_)
  refine WC.sub [(6, _)] ⟨rfl, trivial⟩ ?_
  refine WC.ret ?_
  clear k1 k2 k5 k8 k11 k14
  refine WK.ret [_] rfl ⟨rfl, trivial⟩ ?_
  refine ⟨ret1 (vb ?_), xW⟩
  simp
end LNumQuotients
end NqW

end Go.Proofs.YteaalclidffjgaaDoor
