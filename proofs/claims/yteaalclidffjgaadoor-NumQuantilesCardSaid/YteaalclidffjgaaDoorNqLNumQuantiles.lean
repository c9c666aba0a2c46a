/- The walk of the law. Conditions: what each theorem states. -/
import Derived.Test.YteaalclidffjgaaDoorNqAwake
import Derived.Test.YteaalclidffjgaaDoorNqLaw
namespace Go.Proofs.YteaalclidffjgaaDoor
open Go Go.Eng Go.RowKit
set_option linter.unusedVariables false
namespace NqW
open D Q R T S G H A
namespace LNumQuantiles
theorem has16 : Has Tryd.prog 16 := ⟨_, Tryd.func16, rfl, by kernel_rfl⟩
theorem has21 : Has Tryd.prog 21 := ⟨_, Tryd.func21, rfl, by kernel_rfl⟩
theorem has22 : Has Tryd.prog 22 := ⟨_, Tryd.func22, rfl, by kernel_rfl⟩
theorem NumQuantiles_any (A_l : Option Addr) (n_l c_l : Nat) (l : List Int) (k : Int) (n : Int) (w : World) (h_l : Ls w A_l n_l c_l Sp.ic 1 l) (hT : Nq.Tabs w) :
    Calls Tryd.prog 7 #[.slice A_l n_l c_l, .int .i64 k, .int .i64 n] w fun e w' => e = .returned (.bool true) ∧ Ext w w' := by
  have xW := Ext.refl w
  have e_l := h_l.len
  have z_l := h_l.nle
  refine calls_of_WC (args := [.slice A_l n_l c_l, .int .i64 k, .int .i64 n]) Tryd.func7 rfl rfl (ble rfl) ?_
  refine WC.seq (fun K1 k1 => ?_)
  refine WC.region rfl ?_
  refine WL.yld rfl (blt rfl) rfl (Y.assign rfl rfl) ?_
  refine WL.nil ?_
  refine WK.then_normal (k1 _ _ ?_)
  refine WC.sub [(0, _), (1, _), (2, _)] ⟨rfl, rfl, rfl, trivial⟩ ?_
  refine WC.seq (fun K2 k2 => ?_)
  refine WC.seq (fun K3 k3 => ?_)
  refine WC.region rfl ?_
  refine WL.yld rfl (blt rfl) rfl (Y.move rfl rfl) ?_
  refine WL.yld rfl (blt rfl) rfl (Y.lenSl rfl rfl rfl Tryd.underlying30 rfl) ?_
  refine WL.yld rfl (blt rfl) rfl (Y.gtr rfl rfl rfl) ?_
  refine WL.nil ?_
  refine WK.then_normal (k3 _ _ ?_)
  refine WC.sub [(0, _), (1, _), (2, _), (13, _)] ⟨rfl, rfl, rfl, rfl, trivial⟩ ?_
  refine WC.cond rfl (fun h4 => ?_) (fun h4 => ?_)
  ·
    have p4 := (dec_t h4)
    refine WC.seq (fun K5 k5 => ?_)
    refine WC.region rfl ?_
    refine WL.call rfl (blt rfl) rfl rfl rfl has16 rfl (awake_any _ (hT.ext xW)) ?_
    rintro _ w6 ⟨rfl, x7⟩
    refine ⟨_, rfl, ?_⟩
    have xW := Ext.trans xW x7
    refine WL.yld rfl (blt rfl) rfl (Y.assign rfl rfl) ?_
    refine WL.nil ?_
    refine WK.then_normal (k5 _ _ ?_)
    refine WC.sub [(6, _)] ⟨rfl, trivial⟩ ?_
    refine WC.ret ?_
    refine WK.then_ret ?_
    clear k1 k2 k3 k5
    refine WK.ret [_] rfl ⟨rfl, trivial⟩ ?_
    exact ⟨rfl, xW⟩
  ·
    have p4 := (dec_f h4)
    refine WC.skip ?_
    refine WK.then_normal (k2 _ _ ?_)
    refine WC.sub [(0, _), (1, _), (2, _)] ⟨rfl, rfl, rfl, trivial⟩ ?_
    refine WC.seq (fun K8 k8 => ?_)
    refine WC.region rfl ?_
    refine WL.yld rfl (blt rfl) rfl (Y.move rfl rfl) ?_
    refine WL.yld rfl (blt rfl) rfl (Y.move rfl rfl) ?_
    refine WL.yld rfl (blt rfl) rfl (Y.move rfl rfl) ?_
    refine WL.call rfl (blt rfl) rfl rfl rfl has21 rfl (qt_any _ _ _ _ _ _ _ (h_l.ext xW) (by first | omega | (simp only [List.length_reverse, List.length_drop]; omega))) ?_
    rintro _ w9 ⟨rfl, x10⟩
    refine ⟨_, rfl, ?_⟩
    have xW := Ext.trans xW x10
    refine WL.yld rfl (blt rfl) rfl (Y.move rfl rfl) ?_
    refine WL.yld rfl (blt rfl) rfl (Y.extract rfl rfl rfl) ?_
    refine WL.yld rfl (blt rfl) rfl (Y.extract rfl rfl rfl) ?_
    refine WL.yld rfl (blt rfl) rfl (Y.assign rfl rfl) ?_
    refine WL.yld rfl (blt rfl) rfl (Y.assign rfl rfl) ?_
    refine WL.nil ?_
    refine WK.then_normal (k8 _ _ ?_)
    refine WC.sub [(0, _), (1, _), (2, _), (7, _), (8, _)] ⟨rfl, rfl, rfl, rfl, rfl, trivial⟩ ?_
    refine WC.seq (fun K11 k11 => ?_)
    refine WC.region rfl ?_
    refine WL.yld rfl (blt rfl) rfl (Y.move rfl rfl) ?_
    refine WL.yld rfl (blt rfl) rfl (Y.move rfl rfl) ?_
    refine WL.yld rfl (blt rfl) rfl (Y.move rfl rfl) ?_
    refine WL.call rfl (blt rfl) rfl rfl rfl has22 rfl (rqt_any _ _ _ _ _ _ _ (h_l.ext xW) (by omega)) ?_
    rintro _ w12 ⟨rfl, x13⟩
    refine ⟨_, rfl, ?_⟩
    have xW := Ext.trans xW x13
    refine WL.yld rfl (blt rfl) rfl (Y.move rfl rfl) ?_
    refine WL.yld rfl (blt rfl) rfl (Y.extract rfl rfl rfl) ?_
    refine WL.yld rfl (blt rfl) rfl (Y.extract rfl rfl rfl) ?_
    refine WL.yld rfl (blt rfl) rfl (Y.assign rfl rfl) ?_
    refine WL.yld rfl (blt rfl) rfl (Y.assign rfl rfl) ?_
    refine WL.nil ?_
    refine WK.then_normal (k11 _ _ ?_)
    refine WC.sub [(7, _), (8, _), (9, _), (10, _)] ⟨rfl, rfl, rfl, rfl, trivial⟩ ?_
    refine WC.seq (fun K14 k14 => ?_)
    refine WC.region rfl ?_
    refine WL.yld rfl (blt rfl) rfl (Y.move rfl rfl) ?_
    refine WL.yld rfl (blt rfl) rfl (Y.move rfl rfl) ?_
    refine WL.yld rfl (blt rfl) rfl (Y.eql rfl rfl rfl) ?_
    refine WL.yld rfl (blt rfl) rfl (Y.move rfl rfl) ?_
    refine WL.yldG rfl (blt rfl) rfl rfl rfl (fun hb => Y.move rfl rfl) ?_
    refine WL.yldG rfl (blt rfl) rfl rfl rfl (fun hb => Y.move rfl rfl) ?_
    refine WL.yldG rfl (blt rfl) rfl rfl rfl (fun hb => Y.eqlB rfl Tryd.underlying4 (evg rfl hb) (evg rfl hb)) ?_
    refine WL.yld rfl (blt rfl) rfl (Y.and rfl rfl rfl rfl) ?_
    refine WL.yld rfl (blt rfl) rfl (Y.move rfl rfl) ?_
    refine WL.callG rfl (blt rfl) rfl rfl rfl rfl rfl has16 (fun hb => rfl) (fun hb => awake_any _ (hT.ext xW)) (fun w15 x16 => ?_)
    have xW := Ext.trans xW x16
    refine WL.yld rfl (blt rfl) rfl (Y.and rfl rfl rfl rfl) ?_
    refine WL.yld rfl (blt rfl) rfl (Y.assign rfl rfl) ?_
    refine WL.nil ?_
    refine WK.then_normal (k14 _ _ ?_)
    refine WC.sub [(6, _)] ⟨rfl, trivial⟩ ?_
    refine WC.ret ?_
    clear k1 k2 k3 k8 k11 k14
    refine WK.ret [_] rfl ⟨rfl, trivial⟩ ?_
    refine ⟨ret1 (vb ?_), xW⟩
    simp
end LNumQuantiles
end NqW

end Go.Proofs.YteaalclidffjgaaDoor
