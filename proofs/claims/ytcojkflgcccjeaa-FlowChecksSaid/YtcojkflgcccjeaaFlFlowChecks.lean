/- The walk of the law. Conditions: what each theorem states. -/
import Derived.Test.YtcojkflgcccjeaaFlAwake
namespace Go.Proofs.Ytcojkflgcccjeaa
open Go Go.Eng Go.RowKit
set_option linter.unusedVariables false
namespace FlW
open R O V
namespace LFlowChecks
theorem has9 : Has Try.prog 9 := ⟨_, Try.func9, rfl, by kernel_rfl⟩
theorem has10 : Has Try.prog 10 := ⟨_, Try.func10, rfl, by kernel_rfl⟩
theorem has16 : Has Try.prog 16 := ⟨_, Try.func16, rfl, by kernel_rfl⟩
theorem has17 : Has Try.prog 17 := ⟨_, Try.func17, rfl, by kernel_rfl⟩
theorem has18 : Has Try.prog 18 := ⟨_, Try.func18, rfl, by kernel_rfl⟩
theorem has19 : Has Try.prog 19 := ⟨_, Try.func19, rfl, by kernel_rfl⟩
theorem FlowChecks_any (A_l : Option Addr) (n_l c_l : Nat) (l : List Fl.Flow) (a : Int) (b : Int) (w : World) (h_l : Ls w A_l n_l c_l Fl.Flow.c 7 l) :
    Calls Try.prog 4 #[.slice A_l n_l c_l, .int .i64 a, .int .i64 b] w fun e w' => e = .returned (.bool true) ∧ Ext w w' := by
  have xW := Ext.refl w
  have e_l := h_l.len
  have z_l := h_l.nle
  refine calls_of_WC (args := [.slice A_l n_l c_l, .int .i64 a, .int .i64 b]) Try.func4 rfl rfl (ble rfl) ?_
  refine WC.seq (fun K1 k1 => ?_)
  refine WC.region rfl ?_
  refine WL.yld rfl (blt rfl) rfl (Y.assign rfl rfl) ?_
  refine WL.nil ?_
  refine WK.then_normal (k1 _ _ ?_)
  refine WC.sub [(0, _), (1, _), (2, _)] ⟨rfl, rfl, rfl, trivial⟩ ?_
  refine WC.seq (fun K2 k2 => ?_)
  refine WC.seq (fun K3 k3 => ?_)
  refine WC.region rfl ?_
  refine WL.yld rfl (blt rfl) rfl (Y.move rfl rfl) ?_
  refine WL.yld rfl (blt rfl) rfl (Y.lenSl rfl rfl rfl Try.underlying25 rfl) ?_
  refine WL.yld rfl (blt rfl) rfl (Y.gtr rfl rfl rfl) ?_
  refine WL.nil ?_
  refine WK.then_normal (k3 _ _ ?_)
  refine WC.sub [(0, _), (1, _), (2, _), (9, _)] ⟨rfl, rfl, rfl, rfl, trivial⟩ ?_
  refine WC.cond rfl (fun h4 => ?_) (fun h4 => ?_)
  ·
    have p4 := (dec_t h4)
    refine WC.seq (fun K5 k5 => ?_)
    refine WC.region rfl ?_
    refine WL.call rfl (blt rfl) rfl rfl rfl has9 rfl (awake_any _ ) ?_
    rintro _ w6 ⟨rfl, x7⟩
    refine ⟨_, rfl, ?_⟩
    have xW := Ext.trans xW x7
    refine WL.yld rfl (blt rfl) rfl (Y.assign rfl rfl) ?_
    refine WL.nil ?_
    refine WK.then_normal (k5 _ _ ?_)
    refine WC.sub [(6, _)] ⟨rfl, trivial⟩ ?_
    refine WC.ret ?_
    refine WK.then_ret ?_
    clear k1 k2 k3 k5
    refine WK.ret [_] rfl ⟨rfl, trivial⟩ ?_
    exact ⟨ret1 (vb rfl), xW⟩
  ·
    have p4 := (dec_f h4)
    refine WC.skip ?_
    refine WK.then_normal (k2 _ _ ?_)
    refine WC.sub [(0, _), (1, _), (2, _)] ⟨rfl, rfl, rfl, trivial⟩ ?_
    refine WC.seq (fun K8 k8 => ?_)
    refine WC.region rfl ?_
    refine WL.yld rfl (blt rfl) rfl (Y.move rfl rfl) ?_
    refine WL.call rfl (blt rfl) rfl rfl rfl has16 rfl (check_any _ _ _ _ _ (h_l.ext xW)) ?_
    rintro _ w9 ⟨rfl, x10⟩
    refine ⟨_, rfl, ?_⟩
    have xW := Ext.trans xW x10
    refine WL.yld rfl (blt rfl) rfl (Y.move rfl rfl) ?_
    refine WL.call rfl (blt rfl) rfl rfl rfl has17 rfl (rcheck_any _ _ _ _ _ (h_l.ext xW)) ?_
    rintro _ w11 ⟨rfl, x12⟩
    refine ⟨_, rfl, ?_⟩
    have xW := Ext.trans xW x12
    refine WL.yld rfl (blt rfl) rfl (Yld.cast (Y.eql rfl rfl rfl) (vb (b := true) (beq_self_eq_true _))) ?_
    refine WL.yld rfl (blt rfl) rfl (Y.move rfl rfl) ?_
    refine WL.yldW rfl (blt rfl) rfl rfl rfl (Y.move rfl rfl) ?_
    refine WL.yldW rfl (blt rfl) rfl rfl rfl (Y.move rfl rfl) ?_
    refine WL.yldW rfl (blt rfl) rfl rfl rfl (Y.move rfl rfl) ?_
    refine WL.callW rfl (blt rfl) rfl rfl rfl rfl rfl has18 rfl (between_any _ _ _ _ _ _ _ (h_l.ext xW) (by omega)) ?_
    rintro _ w13 ⟨v15, rfl, ow16, x14⟩
    refine ⟨_, rfl, ?_⟩
    have ow16 := OwnL.base_le ow16 xW.size
    have xW := Ext.trans xW x14
    refine WL.yldW rfl (blt rfl) rfl rfl rfl (Y.move rfl rfl) ?_
    refine WL.yldW rfl (blt rfl) rfl rfl rfl (Y.move rfl rfl) ?_
    refine WL.yldW rfl (blt rfl) rfl rfl rfl (Y.move rfl rfl) ?_
    refine WL.callW rfl (blt rfl) rfl rfl rfl rfl rfl has19 rfl (rbetween_any _ _ _ _ _ _ _ (h_l.ext xW) (by omega)) ?_
    rintro _ w17 ⟨v19, rfl, ow20, x18⟩
    refine ⟨_, rfl, ?_⟩
    have d_v15_v19 := (Apart.res ow20 ow16).symm
    have ow20 := OwnL.base_le ow20 xW.size
    have ow16 := ow16.ext x18
    have xW := Ext.trans xW x18
    obtain ⟨A21, n22, c23, rfl, hl24⟩ := OwnL.opened ow16 (fun _ => rfl) (by decide)
    have e_n22 := hl24.len
    try simp only [List.length_append, List.length_cons, List.length_nil, List.length_reverse, List.length_drop, List.length_take] at e_n22
    have z_n22 := hl24.nle
    obtain ⟨A25, n26, c27, rfl, hl28⟩ := OwnL.opened ow20 (fun _ => rfl) (by decide)
    have e_n26 := hl28.len
    try simp only [List.length_append, List.length_cons, List.length_nil, List.length_reverse, List.length_drop, List.length_take] at e_n26
    have z_n26 := hl28.nle
    refine WL.callW rfl (blt rfl) rfl rfl rfl rfl rfl has10 rfl (same_any _ _ _ _ _ _ _ _ _ hl24 hl28) ?_
    rintro _ w29 ⟨rfl, x30⟩
    refine ⟨_, rfl, ?_⟩
    have ow16 := ow16.ext x30
    have hl24 := hl24.ext x30
    have ow20 := ow20.ext x30
    have hl28 := hl28.ext x30
    have xW := Ext.trans xW x30
    refine WL.yld rfl (blt rfl) rfl (Yld.cast (Y.pickT rfl rfl rfl) (vb (b := true) (decide_eq_true rfl))) ?_
    refine WL.yld rfl (blt rfl) rfl (Y.move rfl rfl) ?_
    refine WL.callW rfl (blt rfl) rfl rfl rfl rfl rfl has9 rfl (awake_any _ ) ?_
    rintro _ w31 ⟨rfl, x32⟩
    refine ⟨_, rfl, ?_⟩
    have ow16 := ow16.ext x32
    have hl24 := hl24.ext x32
    have ow20 := ow20.ext x32
    have hl28 := hl28.ext x32
    have xW := Ext.trans xW x32
    refine WL.yld rfl (blt rfl) rfl (Y.pickT rfl rfl rfl) ?_
    refine WL.yld rfl (blt rfl) rfl (Y.assign rfl rfl) ?_
    refine WL.nil ?_
    refine WK.then_normal (k8 _ _ ?_)
    refine WC.sub [(6, _)] ⟨rfl, trivial⟩ ?_
    refine WC.ret ?_
    clear k1 k2 k3 k8
    refine WK.ret [_] rfl ⟨rfl, trivial⟩ ?_
    exact ⟨ret1 (vb rfl), xW⟩
end LFlowChecks
end FlW

end Go.Proofs.Ytcojkflgcccjeaa
