/- The walk of the law. Conditions: what each theorem states. -/
import Derived.Test.YtcojkflgcccjeaaFlAwake
namespace Go.Proofs.Ytcojkflgcccjeaa
open Go Go.Eng Go.RowKit
set_option linter.unusedVariables false
namespace FlW
open R O V
namespace LFlowOf
theorem has9 : Has Try.prog 9 := ⟨_, Try.func9, rfl, by kernel_rfl⟩
theorem has10 : Has Try.prog 10 := ⟨_, Try.func10, rfl, by kernel_rfl⟩
theorem has11 : Has Try.prog 11 := ⟨_, Try.func11, rfl, by kernel_rfl⟩
theorem has12 : Has Try.prog 12 := ⟨_, Try.func12, rfl, by kernel_rfl⟩
theorem has13 : Has Try.prog 13 := ⟨_, Try.func13, rfl, by kernel_rfl⟩
theorem has14 : Has Try.prog 14 := ⟨_, Try.func14, rfl, by kernel_rfl⟩
theorem has15 : Has Try.prog 15 := ⟨_, Try.func15, rfl, by kernel_rfl⟩
theorem FlowOf_any (A_o : Option Addr) (n_o c_o : Nat) (o : List Fl.Ev) (w : World) (h_o : Ls w A_o n_o c_o Fl.Ev.c 10 o) (wf_o : ∀ x ∈ o, (Lit.int .i64 x.n).wf = true) :
    Calls Try.prog 3 #[.slice A_o n_o c_o] w fun e w' => e = .returned (.bool true) ∧ Ext w w' := by
  have xW := Ext.refl w
  have e_o := h_o.len
  have z_o := h_o.nle
  refine calls_of_WC (args := [.slice A_o n_o c_o]) Try.func3 rfl rfl (ble rfl) ?_
  refine WC.seq (fun K1 k1 => ?_)
  refine WC.region rfl ?_
  refine WL.yld rfl (blt rfl) rfl (Y.assign rfl rfl) ?_
  refine WL.nil ?_
  refine WK.then_normal (k1 _ _ ?_)
  refine WC.sub [(0, _)] ⟨rfl, trivial⟩ ?_
  refine WC.seq (fun K2 k2 => ?_)
  refine WC.seq (fun K3 k3 => ?_)
  refine WC.region rfl ?_
  refine WL.yld rfl (blt rfl) rfl (Y.move rfl rfl) ?_
  refine WL.yld rfl (blt rfl) rfl (Y.lenSl rfl rfl rfl Try.underlying22 rfl) ?_
  refine WL.yld rfl (blt rfl) rfl (Y.gtr rfl rfl rfl) ?_
  refine WL.nil ?_
  refine WK.then_normal (k3 _ _ ?_)
  refine WC.sub [(0, _), (5, _)] ⟨rfl, rfl, trivial⟩ ?_
  refine WC.cond rfl (fun h4 => ?_) (fun h4 => ?_)
  ·
    have p4 := (dec_t h4)
    refine WC.seq (fun K5 k5 => ?_)
    refine WC.region rfl ?_
    refine WL.call rfl (blt rfl) rfl rfl rfl has9 rfl (awake_any _ ) ?_
    rintro _ w6 ⟨rfl, x7⟩
    refine ⟨_, rfl, ?_⟩
    have xW := Ext.trans xW x7
    refine WL.yld rfl (blt rfl) rfl (Y.assign rfl rfl) ?_
    refine WL.nil ?_
    refine WK.then_normal (k5 _ _ ?_)
    refine WC.sub [(2, _)] ⟨rfl, trivial⟩ ?_
    refine WC.ret ?_
    refine WK.then_ret ?_
    clear k1 k2 k3 k5
    refine WK.ret [_] rfl ⟨rfl, trivial⟩ ?_
    exact ⟨ret1 (vb rfl), xW⟩
  ·
    have p4 := (dec_f h4)
    refine WC.skip ?_
    refine WK.then_normal (k2 _ _ ?_)
    refine WC.sub [(0, _)] ⟨rfl, trivial⟩ ?_
    refine WC.seq (fun K8 k8 => ?_)
    refine WC.region rfl ?_
    refine WL.yld rfl (blt rfl) rfl (Y.move rfl rfl) ?_
    refine WL.call rfl (blt rfl) rfl rfl rfl has11 rfl (of_any _ _ _ _ _ (h_o.ext xW) (by omega)) ?_
    rintro _ w9 ⟨v11, rfl, ow12, x10⟩
    refine ⟨_, rfl, ?_⟩
    have ow12 := OwnL.base_le ow12 xW.size
    have xW := Ext.trans xW x10
    refine WL.yld rfl (blt rfl) rfl (Y.move rfl rfl) ?_
    refine WL.call rfl (blt rfl) rfl rfl rfl has12 rfl (rof_any _ _ _ _ _ (h_o.ext xW) (by omega)) ?_
    rintro _ w13 ⟨v15, rfl, ow16, x14⟩
    refine ⟨_, rfl, ?_⟩
    have d_v11_v15 := (Apart.res ow16 ow12).symm
    have ow16 := OwnL.base_le ow16 xW.size
    have ow12 := ow12.ext x14
    have xW := Ext.trans xW x14
    obtain ⟨A17, n18, c19, rfl, hl20⟩ := OwnL.opened ow12 (fun _ => rfl) (by decide)
    have e_n18 := hl20.len
    try simp only [List.length_append, List.length_cons, List.length_nil, List.length_reverse, List.length_drop, List.length_take] at e_n18
    have z_n18 := hl20.nle
    obtain ⟨A21, n22, c23, rfl, hl24⟩ := OwnL.opened ow16 (fun _ => rfl) (by decide)
    have e_n22 := hl24.len
    try simp only [List.length_append, List.length_cons, List.length_nil, List.length_reverse, List.length_drop, List.length_take] at e_n22
    have z_n22 := hl24.nle
    refine WL.call rfl (blt rfl) rfl rfl rfl has10 rfl (same_any _ _ _ _ _ _ _ _ _ hl20 hl24) ?_
    rintro _ w25 ⟨rfl, x26⟩
    refine ⟨_, rfl, ?_⟩
    have ow12 := ow12.ext x26
    have hl20 := hl20.ext x26
    have ow16 := ow16.ext x26
    have hl24 := hl24.ext x26
    have xW := Ext.trans xW x26
    refine WL.yld rfl (blt rfl) rfl (Yld.cast (Y.move rfl rfl) (vb (b := true) (decide_eq_true rfl))) ?_
    refine WL.yldW rfl (blt rfl) rfl rfl rfl (Y.move rfl rfl) ?_
    refine WL.callW rfl (blt rfl) rfl rfl rfl rfl rfl has14 rfl (open_any _ _ _ _ _ (h_o.ext xW) (by omega) wf_o) ?_
    rintro _ w27 ⟨v29, rfl, ow30, x28⟩
    refine ⟨_, rfl, ?_⟩
    have d_v11_v29 := (Apart.res ow30 ow12).symm
    have d_v15_v29 := (Apart.res ow30 ow16).symm
    have ow30 := OwnL.base_le ow30 xW.size
    have ow12 := ow12.ext x28
    have hl20 := hl20.ext x28
    have ow16 := ow16.ext x28
    have hl24 := hl24.ext x28
    have xW := Ext.trans xW x28
    refine WL.yldW rfl (blt rfl) rfl rfl rfl (Y.move rfl rfl) ?_
    refine WL.callW rfl (blt rfl) rfl rfl rfl rfl rfl has15 rfl (ropen_any _ _ _ _ _ (h_o.ext xW) (by omega)) ?_
    rintro _ w31 ⟨v33, rfl, ow34, x32⟩
    refine ⟨_, rfl, ?_⟩
    have d_v11_v33 := (Apart.res ow34 ow12).symm
    have d_v15_v33 := (Apart.res ow34 ow16).symm
    have d_v29_v33 := (Apart.res ow34 ow30).symm
    have ow34 := OwnL.base_le ow34 xW.size
    have ow12 := ow12.ext x32
    have hl20 := hl20.ext x32
    have ow16 := ow16.ext x32
    have hl24 := hl24.ext x32
    have ow30 := ow30.ext x32
    have xW := Ext.trans xW x32
    obtain ⟨A35, n36, c37, rfl, hl38⟩ := OwnL.opened ow30 (fun _ => rfl) (by decide)
    have e_n36 := hl38.len
    try simp only [List.length_append, List.length_cons, List.length_nil, List.length_reverse, List.length_drop, List.length_take] at e_n36
    have z_n36 := hl38.nle
    obtain ⟨A39, n40, c41, rfl, hl42⟩ := OwnL.opened ow34 (fun _ => rfl) (by decide)
    have e_n40 := hl42.len
    try simp only [List.length_append, List.length_cons, List.length_nil, List.length_reverse, List.length_drop, List.length_take] at e_n40
    have z_n40 := hl42.nle
    refine WL.callW rfl (blt rfl) rfl rfl rfl rfl rfl has13 rfl (sameInts_any _ _ _ _ _ _ _ _ _ hl38 hl42) ?_
    rintro _ w43 ⟨rfl, x44⟩
    refine ⟨_, rfl, ?_⟩
    have ow12 := ow12.ext x44
    have hl20 := hl20.ext x44
    have ow16 := ow16.ext x44
    have hl24 := hl24.ext x44
    have ow30 := ow30.ext x44
    have hl38 := hl38.ext x44
    have ow34 := ow34.ext x44
    have hl42 := hl42.ext x44
    have xW := Ext.trans xW x44
    refine WL.yld rfl (blt rfl) rfl (Yld.cast (Y.pickT rfl rfl rfl) (vb (b := true) (decide_eq_true rfl))) ?_
    refine WL.yld rfl (blt rfl) rfl (Y.move rfl rfl) ?_
    refine WL.callW rfl (blt rfl) rfl rfl rfl rfl rfl has9 rfl (awake_any _ ) ?_
    rintro _ w45 ⟨rfl, x46⟩
    refine ⟨_, rfl, ?_⟩
    have ow12 := ow12.ext x46
    have hl20 := hl20.ext x46
    have ow16 := ow16.ext x46
    have hl24 := hl24.ext x46
    have ow30 := ow30.ext x46
    have hl38 := hl38.ext x46
    have ow34 := ow34.ext x46
    have hl42 := hl42.ext x46
    have xW := Ext.trans xW x46
    refine WL.yld rfl (blt rfl) rfl (Y.pickT rfl rfl rfl) ?_
    refine WL.yld rfl (blt rfl) rfl (Y.assign rfl rfl) ?_
    refine WL.nil ?_
    refine WK.then_normal (k8 _ _ ?_)
    refine WC.sub [(2, _)] ⟨rfl, trivial⟩ ?_
    refine WC.ret ?_
    clear k1 k2 k3 k8
    refine WK.ret [_] rfl ⟨rfl, trivial⟩ ?_
    exact ⟨ret1 (vb rfl), xW⟩
end LFlowOf
end FlW

end Go.Proofs.Ytcojkflgcccjeaa
