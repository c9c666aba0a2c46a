/- The walk of the law. Conditions: what each theorem states. -/
import Derived.Test.YtoldedanhmkolaaSpAwake
namespace Go.Proofs.Ytoldedanhmkolaa
open Go Go.Eng Go.RowKit
set_option linter.unusedVariables false
namespace SpW
open Q C D E A
namespace LSpansCombines
theorem has9 : Has Try.prog 9 := ⟨_, Try.func9, rfl, by kernel_rfl⟩
theorem has10 : Has Try.prog 10 := ⟨_, Try.func10, rfl, by kernel_rfl⟩
theorem has13 : Has Try.prog 13 := ⟨_, Try.func13, rfl, by kernel_rfl⟩
theorem has20 : Has Try.prog 20 := ⟨_, Try.func20, rfl, by kernel_rfl⟩
theorem has21 : Has Try.prog 21 := ⟨_, Try.func21, rfl, by kernel_rfl⟩
theorem has22 : Has Try.prog 22 := ⟨_, Try.func22, rfl, by kernel_rfl⟩
theorem has23 : Has Try.prog 23 := ⟨_, Try.func23, rfl, by kernel_rfl⟩
theorem has24 : Has Try.prog 24 := ⟨_, Try.func24, rfl, by kernel_rfl⟩
theorem has25 : Has Try.prog 25 := ⟨_, Try.func25, rfl, by kernel_rfl⟩
theorem SpansCombines_any (A_a : Option Addr) (n_a c_a : Nat) (a : List Sp.S) (A_b : Option Addr) (n_b c_b : Nat) (b : List Sp.S) (w : World) (h_a : Ls w A_a n_a c_a Sp.S.c 2 a) (h_b : Ls w A_b n_b c_b Sp.S.c 2 b) :
    Calls Try.prog 5 #[.slice A_a n_a c_a, .slice A_b n_b c_b] w fun e w' => e = .returned (.bool true) ∧ Ext w w' := by
  have xW := Ext.refl w
  have e_a := h_a.len
  have z_a := h_a.nle
  have e_b := h_b.len
  have z_b := h_b.nle
  refine calls_of_WC (args := [.slice A_a n_a c_a, .slice A_b n_b c_b]) Try.func5 rfl rfl (ble rfl) ?_
  refine WC.seq (fun K1 k1 => ?_)
  refine WC.region rfl ?_
  refine WL.yld rfl (blt rfl) rfl (Y.assign rfl rfl) ?_
  refine WL.nil ?_
  refine WK.then_normal (k1 _ _ ?_)
  refine WC.sub [(0, _), (1, _)] ⟨rfl, rfl, trivial⟩ ?_
  refine WC.seq (fun K2 k2 => ?_)
  refine WC.seq (fun K3 k3 => ?_)
  refine WC.region rfl ?_
  refine WL.yld rfl (blt rfl) rfl (Y.move rfl rfl) ?_
  refine WL.yld rfl (blt rfl) rfl (Y.move rfl rfl) ?_
  refine WL.call rfl (blt rfl) rfl rfl rfl has9 rfl (few_any _ _ _ _ _ _ _ _ _ (h_a.ext xW) (h_b.ext xW)) ?_
  rintro _ w4 ⟨rfl, x5⟩
  refine ⟨_, rfl, ?_⟩
  have xW := Ext.trans xW x5
  refine WL.yld rfl (blt rfl) rfl (Y.not rfl rfl) ?_
  refine WL.nil ?_
  refine WK.then_normal (k3 _ _ ?_)
  refine WC.sub [(0, _), (1, _), (8, _)] ⟨rfl, rfl, rfl, trivial⟩ ?_
  refine WC.cond rfl (fun h6 => ?_) (fun h6 => ?_)
  ·
    have p6 := ((and_f (not_t h6)).imp (fun h => (dec_f h)) (fun h => (dec_f h)))
    refine WC.seq (fun K7 k7 => ?_)
    refine WC.region rfl ?_
    refine WL.call rfl (blt rfl) rfl rfl rfl has10 rfl (awake_any _ ) ?_
    rintro _ w8 ⟨rfl, x9⟩
    refine ⟨_, rfl, ?_⟩
    have xW := Ext.trans xW x9
    refine WL.yld rfl (blt rfl) rfl (Y.assign rfl rfl) ?_
    refine WL.nil ?_
    refine WK.then_normal (k7 _ _ ?_)
    refine WC.sub [(4, _)] ⟨rfl, trivial⟩ ?_
    refine WC.ret ?_
    refine WK.then_ret ?_
    clear k1 k2 k3 k7
    refine WK.ret [_] rfl ⟨rfl, trivial⟩ ?_
    exact ⟨ret1 (vb rfl), xW⟩
  ·
    have p6 := (And.intro (dec_t (and_t (not_f h6)).1) (dec_t (and_t (not_f h6)).2))
    refine WC.skip ?_
    refine WK.then_normal (k2 _ _ ?_)
    refine WC.sub [(0, _), (1, _)] ⟨rfl, rfl, trivial⟩ ?_
    refine WC.seq (fun K10 k10 => ?_)
    refine WC.region rfl ?_
    refine WL.yld rfl (blt rfl) rfl (Y.move rfl rfl) ?_
    refine WL.yld rfl (blt rfl) rfl (Y.move rfl rfl) ?_
    refine WL.call rfl (blt rfl) rfl rfl rfl has20 rfl (union_any _ _ _ _ _ _ _ _ _ (h_a.ext xW) (h_b.ext xW) (by omega) (by omega)) ?_
    rintro _ w11 ⟨v13, rfl, ow14, x12⟩
    refine ⟨_, rfl, ?_⟩
    have ow14 := OwnL.base_le ow14 xW.size
    have xW := Ext.trans xW x12
    refine WL.yld rfl (blt rfl) rfl (Y.move rfl rfl) ?_
    refine WL.yld rfl (blt rfl) rfl (Y.move rfl rfl) ?_
    refine WL.call rfl (blt rfl) rfl rfl rfl has21 rfl (runion_any _ _ _ _ _ _ _ _ _ (h_a.ext xW) (h_b.ext xW) (by omega) (by omega)) ?_
    rintro _ w15 ⟨v17, rfl, ow18, x16⟩
    refine ⟨_, rfl, ?_⟩
    have d_v13_v17 := (Apart.res ow18 ow14).symm
    have ow18 := OwnL.base_le ow18 xW.size
    have ow14 := ow14.ext x16
    have xW := Ext.trans xW x16
    obtain ⟨A19, n20, c21, rfl, hl22⟩ := OwnL.opened ow14 (fun _ => rfl) (by decide)
    have e_n20 := hl22.len
    try simp only [List.length_append, List.length_cons, List.length_nil, List.length_reverse, List.length_drop, List.length_take] at e_n20
    have z_n20 := hl22.nle
    obtain ⟨A23, n24, c25, rfl, hl26⟩ := OwnL.opened ow18 (fun _ => rfl) (by decide)
    have e_n24 := hl26.len
    try simp only [List.length_append, List.length_cons, List.length_nil, List.length_reverse, List.length_drop, List.length_take] at e_n24
    have z_n24 := hl26.nle
    refine WL.call rfl (blt rfl) rfl rfl rfl has13 rfl (same_any _ _ _ _ _ _ _ _ _ hl22 hl26) ?_
    rintro _ w27 ⟨rfl, x28⟩
    refine ⟨_, rfl, ?_⟩
    have ow14 := ow14.ext x28
    have hl22 := hl22.ext x28
    have ow18 := ow18.ext x28
    have hl26 := hl26.ext x28
    have xW := Ext.trans xW x28
    refine WL.yld rfl (blt rfl) rfl (Yld.cast (Y.move rfl rfl) (vb (b := true) (decide_eq_true rfl))) ?_
    refine WL.yldW rfl (blt rfl) rfl rfl rfl (Y.move rfl rfl) ?_
    refine WL.yldW rfl (blt rfl) rfl rfl rfl (Y.move rfl rfl) ?_
    refine WL.callW rfl (blt rfl) rfl rfl rfl rfl rfl has22 rfl (meet_any _ _ _ _ _ _ _ _ _ (h_a.ext xW) (h_b.ext xW) (by omega) (by omega)) ?_
    rintro _ w29 ⟨v31, rfl, ow32, x30⟩
    refine ⟨_, rfl, ?_⟩
    have d_v13_v31 := (Apart.res ow32 ow14).symm
    have d_v17_v31 := (Apart.res ow32 ow18).symm
    have ow32 := OwnL.base_le ow32 xW.size
    have ow14 := ow14.ext x30
    have hl22 := hl22.ext x30
    have ow18 := ow18.ext x30
    have hl26 := hl26.ext x30
    have xW := Ext.trans xW x30
    refine WL.yldW rfl (blt rfl) rfl rfl rfl (Y.move rfl rfl) ?_
    refine WL.yldW rfl (blt rfl) rfl rfl rfl (Y.move rfl rfl) ?_
    refine WL.callW rfl (blt rfl) rfl rfl rfl rfl rfl has23 rfl (rmeet_any _ _ _ _ _ _ _ _ _ (h_a.ext xW) (h_b.ext xW) (by omega) (by omega)) ?_
    rintro _ w33 ⟨v35, rfl, ow36, x34⟩
    refine ⟨_, rfl, ?_⟩
    have d_v13_v35 := (Apart.res ow36 ow14).symm
    have d_v17_v35 := (Apart.res ow36 ow18).symm
    have d_v31_v35 := (Apart.res ow36 ow32).symm
    have ow36 := OwnL.base_le ow36 xW.size
    have ow14 := ow14.ext x34
    have hl22 := hl22.ext x34
    have ow18 := ow18.ext x34
    have hl26 := hl26.ext x34
    have ow32 := ow32.ext x34
    have xW := Ext.trans xW x34
    obtain ⟨A37, n38, c39, rfl, hl40⟩ := OwnL.opened ow32 (fun _ => rfl) (by decide)
    have e_n38 := hl40.len
    try simp only [List.length_append, List.length_cons, List.length_nil, List.length_reverse, List.length_drop, List.length_take] at e_n38
    have z_n38 := hl40.nle
    obtain ⟨A41, n42, c43, rfl, hl44⟩ := OwnL.opened ow36 (fun _ => rfl) (by decide)
    have e_n42 := hl44.len
    try simp only [List.length_append, List.length_cons, List.length_nil, List.length_reverse, List.length_drop, List.length_take] at e_n42
    have z_n42 := hl44.nle
    refine WL.callW rfl (blt rfl) rfl rfl rfl rfl rfl has13 rfl (same_any _ _ _ _ _ _ _ _ _ hl40 hl44) ?_
    rintro _ w45 ⟨rfl, x46⟩
    refine ⟨_, rfl, ?_⟩
    have ow14 := ow14.ext x46
    have hl22 := hl22.ext x46
    have ow18 := ow18.ext x46
    have hl26 := hl26.ext x46
    have ow32 := ow32.ext x46
    have hl40 := hl40.ext x46
    have ow36 := ow36.ext x46
    have hl44 := hl44.ext x46
    have xW := Ext.trans xW x46
    refine WL.yld rfl (blt rfl) rfl (Yld.cast (Y.pickT rfl rfl rfl) (vb (b := true) (decide_eq_true rfl))) ?_
    refine WL.yld rfl (blt rfl) rfl (Y.move rfl rfl) ?_
    refine WL.yldW rfl (blt rfl) rfl rfl rfl (Y.move rfl rfl) ?_
    refine WL.yldW rfl (blt rfl) rfl rfl rfl (Y.move rfl rfl) ?_
    refine WL.callW rfl (blt rfl) rfl rfl rfl rfl rfl has24 rfl (minus_any _ _ _ _ _ _ _ _ _ (h_a.ext xW) (h_b.ext xW) (by omega) (by omega)) ?_
    rintro _ w47 ⟨v49, rfl, ow50, x48⟩
    refine ⟨_, rfl, ?_⟩
    have d_v13_v49 := (Apart.res ow50 ow14).symm
    have d_v17_v49 := (Apart.res ow50 ow18).symm
    have d_v31_v49 := (Apart.res ow50 ow32).symm
    have d_v35_v49 := (Apart.res ow50 ow36).symm
    have ow50 := OwnL.base_le ow50 xW.size
    have ow14 := ow14.ext x48
    have hl22 := hl22.ext x48
    have ow18 := ow18.ext x48
    have hl26 := hl26.ext x48
    have ow32 := ow32.ext x48
    have hl40 := hl40.ext x48
    have ow36 := ow36.ext x48
    have hl44 := hl44.ext x48
    have xW := Ext.trans xW x48
    refine WL.yldW rfl (blt rfl) rfl rfl rfl (Y.move rfl rfl) ?_
    refine WL.yldW rfl (blt rfl) rfl rfl rfl (Y.move rfl rfl) ?_
    refine WL.callW rfl (blt rfl) rfl rfl rfl rfl rfl has25 rfl (rminus_any _ _ _ _ _ _ _ _ _ (h_a.ext xW) (h_b.ext xW) (by omega) (by omega)) ?_
    rintro _ w51 ⟨v53, rfl, ow54, x52⟩
    refine ⟨_, rfl, ?_⟩
    have d_v13_v53 := (Apart.res ow54 ow14).symm
    have d_v17_v53 := (Apart.res ow54 ow18).symm
    have d_v31_v53 := (Apart.res ow54 ow32).symm
    have d_v35_v53 := (Apart.res ow54 ow36).symm
    have d_v49_v53 := (Apart.res ow54 ow50).symm
    have ow54 := OwnL.base_le ow54 xW.size
    have ow14 := ow14.ext x52
    have hl22 := hl22.ext x52
    have ow18 := ow18.ext x52
    have hl26 := hl26.ext x52
    have ow32 := ow32.ext x52
    have hl40 := hl40.ext x52
    have ow36 := ow36.ext x52
    have hl44 := hl44.ext x52
    have ow50 := ow50.ext x52
    have xW := Ext.trans xW x52
    obtain ⟨A55, n56, c57, rfl, hl58⟩ := OwnL.opened ow50 (fun _ => rfl) (by decide)
    have e_n56 := hl58.len
    try simp only [List.length_append, List.length_cons, List.length_nil, List.length_reverse, List.length_drop, List.length_take] at e_n56
    have z_n56 := hl58.nle
    obtain ⟨A59, n60, c61, rfl, hl62⟩ := OwnL.opened ow54 (fun _ => rfl) (by decide)
    have e_n60 := hl62.len
    try simp only [List.length_append, List.length_cons, List.length_nil, List.length_reverse, List.length_drop, List.length_take] at e_n60
    have z_n60 := hl62.nle
    refine WL.callW rfl (blt rfl) rfl rfl rfl rfl rfl has13 rfl (same_any _ _ _ _ _ _ _ _ _ hl58 hl62) ?_
    rintro _ w63 ⟨rfl, x64⟩
    refine ⟨_, rfl, ?_⟩
    have ow14 := ow14.ext x64
    have hl22 := hl22.ext x64
    have ow18 := ow18.ext x64
    have hl26 := hl26.ext x64
    have ow32 := ow32.ext x64
    have hl40 := hl40.ext x64
    have ow36 := ow36.ext x64
    have hl44 := hl44.ext x64
    have ow50 := ow50.ext x64
    have hl58 := hl58.ext x64
    have ow54 := ow54.ext x64
    have hl62 := hl62.ext x64
    have xW := Ext.trans xW x64
    refine WL.yld rfl (blt rfl) rfl (Yld.cast (Y.pickT rfl rfl rfl) (vb (b := true) (decide_eq_true rfl))) ?_
    refine WL.yld rfl (blt rfl) rfl (Y.move rfl rfl) ?_
    refine WL.callW rfl (blt rfl) rfl rfl rfl rfl rfl has10 rfl (awake_any _ ) ?_
    rintro _ w65 ⟨rfl, x66⟩
    refine ⟨_, rfl, ?_⟩
    have ow14 := ow14.ext x66
    have hl22 := hl22.ext x66
    have ow18 := ow18.ext x66
    have hl26 := hl26.ext x66
    have ow32 := ow32.ext x66
    have hl40 := hl40.ext x66
    have ow36 := ow36.ext x66
    have hl44 := hl44.ext x66
    have ow50 := ow50.ext x66
    have hl58 := hl58.ext x66
    have ow54 := ow54.ext x66
    have hl62 := hl62.ext x66
    have xW := Ext.trans xW x66
    refine WL.yld rfl (blt rfl) rfl (Y.pickT rfl rfl rfl) ?_
    refine WL.yld rfl (blt rfl) rfl (Y.assign rfl rfl) ?_
    refine WL.nil ?_
    refine WK.then_normal (k10 _ _ ?_)
    refine WC.sub [(4, _)] ⟨rfl, trivial⟩ ?_
    refine WC.ret ?_
    clear k1 k2 k3 k10
    refine WK.ret [_] rfl ⟨rfl, trivial⟩ ?_
    exact ⟨ret1 (vb rfl), xW⟩
end LSpansCombines
end SpW

end Go.Proofs.Ytoldedanhmkolaa
