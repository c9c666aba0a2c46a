/- Contracts: sorted values. Conditions: what each theorem states. -/
import Derived.Test.YteaalclidffjgaaDoorNqText
import Derived.Test.YteaalclidffjgaaDoorNqRow
namespace Go.Proofs.YteaalclidffjgaaDoor
open Go Go.Eng Go.RowKit
set_option linter.unusedVariables false
namespace NqW
open D Q R T
namespace S
theorem has39 : Has Tryd.prog 39 := ⟨_, Tryd.func39, rfl, by kernel_rfl⟩
theorem has40 : Has Tryd.prog 40 := ⟨_, Tryd.func40, rfl, by kernel_rfl⟩
theorem has47 : Has Tryd.prog 47 := ⟨_, Tryd.func47, rfl, by kernel_rfl⟩
theorem collect_any (g0 : Nat) (A_l : Option Addr) (n_l c_l : Nat) (l : List Int) (w : World) (m0 : Blk w g0 30 [.slice A_l n_l c_l]) (h_l : Ls w A_l n_l c_l Sp.ic 1 l) (hn : l.length ≤ 100000) :
    Calls Tryd.prog 39 #[.func (.func 41) #[] #[.pointer (some ⟨g0, 0, none⟩)]] w fun e w' => ∃ v, e = .returned v ∧ OwnL w' w.heap.size 3 Sp.ic 1 v (l) ∧ Ext w w' := by
  have xW := Ext.refl w
  have e_l := h_l.len
  have z_l := h_l.nle
  refine calls_of_WC (args := [.func (.func 41) #[] #[.pointer (some ⟨g0, 0, none⟩)]]) Tryd.func39 rfl rfl (ble rfl) ?_
  refine WC.seq (fun K1 k1 => ?_)
  refine WC.region rfl ?_
  refine WL.yld rfl (blt rfl) rfl (Y.assign rfl rfl) ?_
  refine WL.nil ?_
  refine WK.then_normal (k1 _ _ ?_)
  refine WC.sub [(0, _)] ⟨rfl, trivial⟩ ?_
  refine WC.seq (fun K2 k2 => ?_)
  refine WC.region rfl ?_
  refine WL.yld rfl (blt rfl) rfl (Y.move rfl rfl) ?_
  refine WL.call rfl (blt rfl) rfl rfl rfl has47 rfl (appendSeq_any _ _ _ _ l _ m0 (h_l.ext xW) hn) ?_
  rintro _ w3 ⟨v5, rfl, ow6, x4⟩
  refine ⟨_, rfl, ?_⟩
  have r_v5_g0 := ne_res ow6 m0
  have ow6 := OwnL.base_le ow6 xW.size
  have m0 := m0.ext x4
  have xW := Ext.trans xW x4
  refine WL.yld rfl (blt rfl) rfl (Y.assign rfl rfl) ?_
  refine WL.nil ?_
  refine WK.then_normal (k2 _ _ ?_)
  refine WC.sub [(2, _)] ⟨rfl, trivial⟩ ?_
  refine WC.ret ?_
  clear k1 k2
  refine WK.ret [_] rfl ⟨rfl, trivial⟩ ?_
  exact ⟨_, rfl, ow6, xW⟩
theorem sorted_any (g0 : Nat) (A_l : Option Addr) (n_l c_l : Nat) (l : List Int) (w : World) (m0 : Blk w g0 30 [.slice A_l n_l c_l]) (h_l : Ls w A_l n_l c_l Sp.ic 1 l) (hn : l.length ≤ 100000) :
    Calls Tryd.prog 30 #[.func (.func 41) #[] #[.pointer (some ⟨g0, 0, none⟩)]] w fun e w' => ∃ v, e = .returned v ∧ OwnL w' w.heap.size 3 Sp.ic 1 v (Inc.srt l) ∧ Ext w w' := by
  have xW := Ext.refl w
  have e_l := h_l.len
  have z_l := h_l.nle
  refine calls_of_WC (args := [.func (.func 41) #[] #[.pointer (some ⟨g0, 0, none⟩)]]) Tryd.func30 rfl rfl (ble rfl) ?_
  refine WC.seq (fun K1 k1 => ?_)
  refine WC.region rfl ?_
  refine WL.yld rfl (blt rfl) rfl (Y.assign rfl rfl) ?_
  refine WL.nil ?_
  refine WK.then_normal (k1 _ _ ?_)
  refine WC.sub [(0, _)] ⟨rfl, trivial⟩ ?_
  refine WC.seq (fun K2 k2 => ?_)
  refine WC.region rfl ?_
  refine WL.yld rfl (blt rfl) rfl (Y.move rfl rfl) ?_
  refine WL.call rfl (blt rfl) rfl rfl rfl has39 rfl (collect_any _ _ _ _ l _ m0 (h_l.ext xW) hn) ?_
  rintro _ w3 ⟨v5, rfl, ow6, x4⟩
  refine ⟨_, rfl, ?_⟩
  have r_v5_g0 := ne_res ow6 m0
  have ow6 := OwnL.base_le ow6 xW.size
  have m0 := m0.ext x4
  have xW := Ext.trans xW x4
  refine WL.yld rfl (blt rfl) rfl (Y.assign rfl rfl) ?_
  refine WL.nil ?_
  refine WK.then_normal (k2 _ _ ?_)
  refine WC.sub [(3, _)] ⟨rfl, trivial⟩ ?_
  refine WC.seq (fun K7 k7 => ?_)
  refine WC.region rfl ?_
  refine WL.yld rfl (blt rfl) rfl (Y.move rfl rfl) ?_
  refine WL.call rfl (blt rfl) rfl rfl rfl has40 rfl (sort_row _ _ _ _ ow6 (by omega)) ?_
  rintro _ w8 ⟨rfl, ow10, gr11⟩
  refine ⟨_, rfl, ?_⟩
  have xW := Ext.grown xW gr11 (fun b hb => (OwnL.lt ow6 hb).1)
  refine WL.nil ?_
  refine WK.then_normal (k7 _ _ ?_)
  refine WC.sub [(3, _)] ⟨rfl, trivial⟩ ?_
  refine WC.seq (fun K12 k12 => ?_)
  refine WC.region rfl ?_
  refine WL.yld rfl (blt rfl) rfl (Y.move rfl rfl) ?_
  refine WL.yld rfl (blt rfl) rfl (Y.assign rfl rfl) ?_
  refine WL.nil ?_
  refine WK.then_normal (k12 _ _ ?_)
  refine WC.sub [(2, _)] ⟨rfl, trivial⟩ ?_
  refine WC.ret ?_
  clear k1 k2 k7 k12
  refine WK.ret [_] rfl ⟨rfl, trivial⟩ ?_
  exact ⟨_, rfl, ow10, xW⟩
end S
end NqW

end Go.Proofs.YteaalclidffjgaaDoor
