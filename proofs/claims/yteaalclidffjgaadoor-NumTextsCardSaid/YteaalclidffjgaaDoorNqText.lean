/- Contracts: texts. Conditions: what each theorem states. -/
import Derived.Test.YteaalclidffjgaaDoorNqRef
import Derived.Test.YteaalclidffjgaaDoorNqTab
namespace Go.Proofs.YteaalclidffjgaaDoor
open Go Go.Eng Go.RowKit
set_option linter.unusedVariables false
namespace NqW
open D Q R
namespace T
theorem has34 : Has Tryd.prog 34 := ⟨_, Tryd.func34, rfl, by kernel_rfl⟩
theorem text_any (n : Int) (w : World) (hT : Nq.Tabs w) (hn : -9223372036854775808 ≤ n ∧ n ≤ 9223372036854775807) :
    Calls Tryd.prog 23 #[.int .i64 n] w fun e w' => e = .returned (.string (Nq.txt n)) ∧ Ext w w' := by
  have xW := Ext.refl w
  refine calls_of_WC (args := [.int .i64 n]) Tryd.func23 rfl rfl (ble rfl) ?_
  refine WC.seq (fun K1 k1 => ?_)
  refine WC.region rfl ?_
  refine WL.yld rfl (blt rfl) rfl (Y.assign rfl rfl) ?_
  refine WL.nil ?_
  refine WK.then_normal (k1 _ _ ?_)
  refine WC.sub [(0, _)] ⟨rfl, trivial⟩ ?_
  refine WC.seq (fun K2 k2 => ?_)
  refine WC.region rfl ?_
  refine WL.yld rfl (blt rfl) rfl (Y.move rfl rfl) ?_
  refine WL.call rfl (blt rfl) rfl rfl rfl has34 rfl (itoa_any _ _ (hT.ext xW) (by omega)) ?_
  rintro _ w3 ⟨rfl, x4⟩
  refine ⟨_, rfl, ?_⟩
  have xW := Ext.trans xW x4
  refine WL.yld rfl (blt rfl) rfl (Y.assign rfl rfl) ?_
  refine WL.nil ?_
  refine WK.then_normal (k2 _ _ ?_)
  refine WC.sub [(2, _)] ⟨rfl, trivial⟩ ?_
  refine WC.ret ?_
  clear k1 k2
  refine WK.ret [_] rfl ⟨rfl, trivial⟩ ?_
  exact ⟨rfl, xW⟩
end T
end NqW

end Go.Proofs.YteaalclidffjgaaDoor
