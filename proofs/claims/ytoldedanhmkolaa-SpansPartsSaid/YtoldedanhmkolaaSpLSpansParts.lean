/- The walk of the law. Conditions: what each theorem states. -/
import Derived.Test.YtoldedanhmkolaaSpAwake
namespace Go.Proofs.Ytoldedanhmkolaa
open Go Go.Eng Go.RowKit
set_option linter.unusedVariables false
namespace SpW
open Q C D E A
namespace LSpansParts
theorem has9 : Has Try.prog 9 := ⟨_, Try.func9, rfl, by kernel_rfl⟩
theorem has10 : Has Try.prog 10 := ⟨_, Try.func10, rfl, by kernel_rfl⟩
theorem has13 : Has Try.prog 13 := ⟨_, Try.func13, rfl, by kernel_rfl⟩
theorem has14 : Has Try.prog 14 := ⟨_, Try.func14, rfl, by kernel_rfl⟩
theorem has20 : Has Try.prog 20 := ⟨_, Try.func20, rfl, by kernel_rfl⟩
theorem has22 : Has Try.prog 22 := ⟨_, Try.func22, rfl, by kernel_rfl⟩
theorem has24 : Has Try.prog 24 := ⟨_, Try.func24, rfl, by kernel_rfl⟩
theorem SpansParts_any (A_a : Option Addr) (n_a c_a : Nat) (a : List Sp.S) (A_b : Option Addr) (n_b c_b : Nat) (b : List Sp.S) (w : World) (h_a : Ls w A_a n_a c_a Sp.S.c 2 a) (h_b : Ls w A_b n_b c_b Sp.S.c 2 b) :
    Calls Try.prog 8 #[.slice A_a n_a c_a, .slice A_b n_b c_b] w fun e w' => e = .returned (.bool true) ∧ Ext w w' := by
  have xW := Ext.refl w
  have e_a := h_a.len
  have z_a := h_a.nle
  have e_b := h_b.len
  have z_b := h_b.nle
  have c1 := Sp.comb_len Sp.both a b
  have c2 := Sp.comb_len Sp.first a b
  have nu := Sp.norm_len (a ++ b)
  rw [List.length_append] at nu
  refine calls_of_WC (args := [.slice A_a n_a c_a, .slice A_b n_b c_b]) Try.func8 rfl rfl (ble rfl) ?_
  refine WC.seq (fun K1 k1 => ?_)
  refine WC.region rfl ?_
  refine WL.yld rfl (blt rfl) rfl (Y.assign rfl rfl) ?_
  refine WL.nil ?_
  refine WK.then_normal (k1 _ _ ?_)
  refine WC.sub [(0, _), (1, _)] ⟨rfl, rfl, trivial⟩ ?_
  refine WC.seq (fun K2 k2 => ?_)
  refine WC.seq (fun K3 k3 => ?_)
  refine WC.region rfl ?_
  refine WL.call rfl (blt rfl) rfl rfl rfl has10 rfl (awake_any _ ) ?_
  rintro _ w4 ⟨rfl, x5⟩
  refine ⟨_, rfl, ?_⟩
  have xW := Ext.trans xW x5
  refine WL.yld rfl (blt rfl) rfl (Y.not rfl rfl) ?_
  refine WL.yld rfl (blt rfl) rfl (Y.move rfl rfl) ?_
  refine WL.yldW rfl (blt rfl) rfl rfl rfl (Y.move rfl rfl) ?_
  refine WL.yldW rfl (blt rfl) rfl rfl rfl (Y.move rfl rfl) ?_
  refine WL.callW rfl (blt rfl) rfl rfl rfl rfl rfl has9 rfl (few_any _ _ _ _ _ _ _ _ _ (h_a.ext xW) (h_b.ext xW)) ?_
  rintro _ w6 ⟨rfl, x7⟩
  refine ⟨_, rfl, ?_⟩
  have xW := Ext.trans xW x7
  refine WL.yldW rfl (blt rfl) rfl rfl rfl (Y.not rfl rfl) ?_
  refine WL.yld rfl (blt rfl) rfl (Y.pickF rfl rfl rfl) ?_
  refine WL.nil ?_
  refine WK.then_normal (k3 _ _ ?_)
  refine WC.sub [(0, _), (1, _), (14, _)] ⟨rfl, rfl, rfl, trivial⟩ ?_
  refine WC.cond rfl (fun h8 => ?_) (fun h8 => ?_)
  ·
    have p8 := ((and_f (not_t h8)).imp (fun h => (dec_f h)) (fun h => (dec_f h)))
    refine WC.seq (fun K9 k9 => ?_)
    refine WC.region rfl ?_
    refine WL.call rfl (blt rfl) rfl rfl rfl has10 rfl (awake_any _ ) ?_
    rintro _ w10 ⟨rfl, x11⟩
    refine ⟨_, rfl, ?_⟩
    have xW := Ext.trans xW x11
    refine WL.yld rfl (blt rfl) rfl (Y.assign rfl rfl) ?_
    refine WL.nil ?_
    refine WK.then_normal (k9 _ _ ?_)
    refine WC.sub [(4, _)] ⟨rfl, trivial⟩ ?_
    refine WC.ret ?_
    refine WK.then_ret ?_
    clear k1 k2 k3 k9
    refine WK.ret [_] rfl ⟨rfl, trivial⟩ ?_
    exact ⟨ret1 (vb rfl), xW⟩
  ·
    have p8 := (And.intro (dec_t (and_t (not_f h8)).1) (dec_t (and_t (not_f h8)).2))
    refine WC.skip ?_
    refine WK.then_normal (k2 _ _ ?_)
    refine WC.sub [(0, _), (1, _)] ⟨rfl, rfl, trivial⟩ ?_
    refine WC.seq (fun K12 k12 => ?_)
    refine WC.region rfl ?_
    refine WL.yld rfl (blt rfl) rfl (Y.move rfl rfl) ?_
    refine WL.yld rfl (blt rfl) rfl (Y.move rfl rfl) ?_
    refine WL.call rfl (blt rfl) rfl rfl rfl has22 rfl (meet_any _ _ _ _ _ _ _ _ _ (h_a.ext xW) (h_b.ext xW) (by omega) (by omega)) ?_
    rintro _ w13 ⟨v15, rfl, ow16, x14⟩
    refine ⟨_, rfl, ?_⟩
    have ow16 := OwnL.base_le ow16 xW.size
    have xW := Ext.trans xW x14
    refine WL.yld rfl (blt rfl) rfl (Y.move rfl rfl) ?_
    refine WL.yld rfl (blt rfl) rfl (Y.move rfl rfl) ?_
    refine WL.call rfl (blt rfl) rfl rfl rfl has24 rfl (minus_any _ _ _ _ _ _ _ _ _ (h_a.ext xW) (h_b.ext xW) (by omega) (by omega)) ?_
    rintro _ w17 ⟨v19, rfl, ow20, x18⟩
    refine ⟨_, rfl, ?_⟩
    have d_v15_v19 := (Apart.res ow20 ow16).symm
    have ow20 := OwnL.base_le ow20 xW.size
    have ow16 := ow16.ext x18
    have xW := Ext.trans xW x18
    refine WL.yld rfl (blt rfl) rfl (Y.assign rfl rfl) ?_
    refine WL.yld rfl (blt rfl) rfl (Y.assign rfl rfl) ?_
    refine WL.nil ?_
    refine WK.then_normal (k12 _ _ ?_)
    refine WC.sub [(0, _), (1, _), (5, _), (6, _)] ⟨rfl, rfl, rfl, rfl, trivial⟩ ?_
    refine WC.seq (fun K21 k21 => ?_)
    refine WC.region rfl ?_
    refine WL.yld rfl (blt rfl) rfl (Y.move rfl rfl) ?_
    refine WL.yld rfl (blt rfl) rfl (Y.move rfl rfl) ?_
    obtain ⟨A22, n23, c24, rfl, hl25⟩ := OwnL.opened ow16 (fun _ => rfl) (by decide)
    have e_n23 := hl25.len
    try simp only [List.length_append, List.length_cons, List.length_nil, List.length_reverse, List.length_drop, List.length_take] at e_n23
    have z_n23 := hl25.nle
    obtain ⟨A26, n27, c28, rfl, hl29⟩ := OwnL.opened ow20 (fun _ => rfl) (by decide)
    have e_n27 := hl29.len
    try simp only [List.length_append, List.length_cons, List.length_nil, List.length_reverse, List.length_drop, List.length_take] at e_n27
    have z_n27 := hl29.nle
    refine WL.call rfl (blt rfl) rfl rfl rfl has22 rfl (meet_any _ _ _ _ _ _ _ _ _ hl25 hl29 (by omega) (by omega)) ?_
    rintro _ w30 ⟨v32, rfl, ow33, x31⟩
    refine ⟨_, rfl, ?_⟩
    have d_v15_v32 := (Apart.res ow33 ow16).symm
    have d_v19_v32 := (Apart.res ow33 ow20).symm
    have ow33 := OwnL.base_le ow33 xW.size
    have ow16 := ow16.ext x31
    have hl25 := hl25.ext x31
    have ow20 := ow20.ext x31
    have hl29 := hl29.ext x31
    have xW := Ext.trans xW x31
    rw [Sp.parts_apart] at ow33
    obtain ⟨A34, n35, c36, rfl, hl37⟩ := OwnL.opened ow33 (fun _ => rfl) (by decide)
    have e_n35 := hl37.len
    try simp only [List.length_append, List.length_cons, List.length_nil, List.length_reverse, List.length_drop, List.length_take] at e_n35
    have z_n35 := hl37.nle
    refine WL.yld rfl (blt rfl) rfl (Y.lenSl rfl rfl rfl Try.underlying22 rfl) ?_
    refine WL.yld rfl (blt rfl) rfl (Yld.cast (Y.eql rfl rfl rfl) (vb (b := true) (beq_iff_eq.2 (by omega)))) ?_
    refine WL.yld rfl (blt rfl) rfl (Y.move rfl rfl) ?_
    refine WL.yldW rfl (blt rfl) rfl rfl rfl (Y.move rfl rfl) ?_
    refine WL.yldW rfl (blt rfl) rfl rfl rfl (Y.move rfl rfl) ?_
    refine WL.callW rfl (blt rfl) rfl rfl rfl rfl rfl has20 rfl (union_any _ _ _ _ _ _ _ _ _ hl25 hl29 (by omega) (by omega)) ?_
    rintro _ w38 ⟨v40, rfl, ow41, x39⟩
    refine ⟨_, rfl, ?_⟩
    have d_v15_v40 := (Apart.res ow41 ow16).symm
    have d_v19_v40 := (Apart.res ow41 ow20).symm
    have d_v32_v40 := (Apart.res ow41 ow33).symm
    have ow41 := OwnL.base_le ow41 xW.size
    have ow16 := ow16.ext x39
    have hl25 := hl25.ext x39
    have ow20 := ow20.ext x39
    have hl29 := hl29.ext x39
    have ow33 := ow33.ext x39
    have hl37 := hl37.ext x39
    have xW := Ext.trans xW x39
    refine WL.yldW rfl (blt rfl) rfl rfl rfl (Y.move rfl rfl) ?_
    refine WL.callW rfl (blt rfl) rfl rfl rfl rfl rfl has14 rfl (normal_any _ _ _ _ _ (h_a.ext xW) (by omega)) ?_
    rintro _ w42 ⟨v44, rfl, ow45, x43⟩
    refine ⟨_, rfl, ?_⟩
    have d_v15_v44 := (Apart.res ow45 ow16).symm
    have d_v19_v44 := (Apart.res ow45 ow20).symm
    have d_v32_v44 := (Apart.res ow45 ow33).symm
    have d_v40_v44 := (Apart.res ow45 ow41).symm
    have ow45 := OwnL.base_le ow45 xW.size
    have ow16 := ow16.ext x43
    have hl25 := hl25.ext x43
    have ow20 := ow20.ext x43
    have hl29 := hl29.ext x43
    have ow33 := ow33.ext x43
    have hl37 := hl37.ext x43
    have ow41 := ow41.ext x43
    have xW := Ext.trans xW x43
    obtain ⟨A46, n47, c48, rfl, hl49⟩ := OwnL.opened ow41 (fun _ => rfl) (by decide)
    have e_n47 := hl49.len
    try simp only [List.length_append, List.length_cons, List.length_nil, List.length_reverse, List.length_drop, List.length_take] at e_n47
    have z_n47 := hl49.nle
    obtain ⟨A50, n51, c52, rfl, hl53⟩ := OwnL.opened ow45 (fun _ => rfl) (by decide)
    have e_n51 := hl53.len
    try simp only [List.length_append, List.length_cons, List.length_nil, List.length_reverse, List.length_drop, List.length_take] at e_n51
    have z_n51 := hl53.nle
    refine WL.callW rfl (blt rfl) rfl rfl rfl rfl rfl has13 rfl (same_any _ _ _ _ _ _ _ _ _ hl49 hl53) ?_
    rintro _ w54 ⟨rfl, x55⟩
    refine ⟨_, rfl, ?_⟩
    have ow16 := ow16.ext x55
    have hl25 := hl25.ext x55
    have ow20 := ow20.ext x55
    have hl29 := hl29.ext x55
    have ow33 := ow33.ext x55
    have hl37 := hl37.ext x55
    have ow41 := ow41.ext x55
    have hl49 := hl49.ext x55
    have ow45 := ow45.ext x55
    have hl53 := hl53.ext x55
    have xW := Ext.trans xW x55
    refine WL.yld rfl (blt rfl) rfl (Yld.cast (Y.pickT rfl rfl rfl) (vb (b := true) (decide_eq_true (Sp.parts_whole a b)))) ?_
    refine WL.yld rfl (blt rfl) rfl (Y.move rfl rfl) ?_
    refine WL.yldW rfl (blt rfl) rfl rfl rfl (Y.move rfl rfl) ?_
    refine WL.yldW rfl (blt rfl) rfl rfl rfl (Y.move rfl rfl) ?_
    refine WL.callW rfl (blt rfl) rfl rfl rfl rfl rfl has22 rfl (meet_any _ _ _ _ _ _ _ _ _ (h_b.ext xW) (h_a.ext xW) (by omega) (by omega)) ?_
    rintro _ w56 ⟨v58, rfl, ow59, x57⟩
    refine ⟨_, rfl, ?_⟩
    have d_v15_v58 := (Apart.res ow59 ow16).symm
    have d_v19_v58 := (Apart.res ow59 ow20).symm
    have d_v32_v58 := (Apart.res ow59 ow33).symm
    have d_v40_v58 := (Apart.res ow59 ow41).symm
    have d_v44_v58 := (Apart.res ow59 ow45).symm
    have ow59 := OwnL.base_le ow59 xW.size
    have ow16 := ow16.ext x57
    have hl25 := hl25.ext x57
    have ow20 := ow20.ext x57
    have hl29 := hl29.ext x57
    have ow33 := ow33.ext x57
    have hl37 := hl37.ext x57
    have ow41 := ow41.ext x57
    have hl49 := hl49.ext x57
    have ow45 := ow45.ext x57
    have hl53 := hl53.ext x57
    have xW := Ext.trans xW x57
    refine WL.yldW rfl (blt rfl) rfl rfl rfl (Y.move rfl rfl) ?_
    obtain ⟨A60, n61, c62, rfl, hl63⟩ := OwnL.opened ow59 (fun _ => rfl) (by decide)
    have e_n61 := hl63.len
    try simp only [List.length_append, List.length_cons, List.length_nil, List.length_reverse, List.length_drop, List.length_take] at e_n61
    have z_n61 := hl63.nle
    refine WL.callW rfl (blt rfl) rfl rfl rfl rfl rfl has13 rfl (same_any _ _ _ _ _ _ _ _ _ hl63 hl25) ?_
    rintro _ w64 ⟨rfl, x65⟩
    refine ⟨_, rfl, ?_⟩
    have ow16 := ow16.ext x65
    have hl25 := hl25.ext x65
    have ow20 := ow20.ext x65
    have hl29 := hl29.ext x65
    have ow33 := ow33.ext x65
    have hl37 := hl37.ext x65
    have ow41 := ow41.ext x65
    have hl49 := hl49.ext x65
    have ow45 := ow45.ext x65
    have hl53 := hl53.ext x65
    have ow59 := ow59.ext x65
    have hl63 := hl63.ext x65
    have xW := Ext.trans xW x65
    refine WL.yld rfl (blt rfl) rfl (Yld.cast (Y.pickT rfl rfl rfl) (vb (b := true) (decide_eq_true (Sp.meet_comm a b)))) ?_
    refine WL.yld rfl (blt rfl) rfl (Y.assign rfl rfl) ?_
    refine WL.nil ?_
    refine WK.then_normal (k21 _ _ ?_)
    refine WC.sub [(4, _)] ⟨rfl, trivial⟩ ?_
    refine WC.ret ?_
    clear k1 k2 k3 k12 k21
    refine WK.ret [_] rfl ⟨rfl, trivial⟩ ?_
    exact ⟨ret1 (vb rfl), xW⟩
end LSpansParts
end SpW

end Go.Proofs.Ytoldedanhmkolaa
