/- The walk of the law. Conditions: what each theorem states. -/
import Derived.Test.YtoldedanhmkolaaSpAwake
namespace Go.Proofs.Ytoldedanhmkolaa
open Go Go.Eng Go.RowKit
set_option linter.unusedVariables false
namespace SpW
open Q C D E A
namespace LSpansLengths
theorem has9 : Has Try.prog 9 := ⟨_, Try.func9, rfl, by kernel_rfl⟩
theorem has10 : Has Try.prog 10 := ⟨_, Try.func10, rfl, by kernel_rfl⟩
theorem has16 : Has Try.prog 16 := ⟨_, Try.func16, rfl, by kernel_rfl⟩
theorem has18 : Has Try.prog 18 := ⟨_, Try.func18, rfl, by kernel_rfl⟩
theorem has20 : Has Try.prog 20 := ⟨_, Try.func20, rfl, by kernel_rfl⟩
theorem has22 : Has Try.prog 22 := ⟨_, Try.func22, rfl, by kernel_rfl⟩
theorem has24 : Has Try.prog 24 := ⟨_, Try.func24, rfl, by kernel_rfl⟩
theorem SpansLengths_any (A_a : Option Addr) (n_a c_a : Nat) (a : List Sp.S) (A_b : Option Addr) (n_b c_b : Nat) (b : List Sp.S) (w : World) (h_a : Ls w A_a n_a c_a Sp.S.c 2 a) (h_b : Ls w A_b n_b c_b Sp.S.c 2 b) :
    Calls Try.prog 7 #[.slice A_a n_a c_a, .slice A_b n_b c_b] w fun e w' => e = .returned (.bool true) ∧ Ext w w' := by
  have xW := Ext.refl w
  have e_a := h_a.len
  have z_a := h_a.nle
  have e_b := h_b.len
  have z_b := h_b.nle
  have c1 := Sp.comb_len Sp.both a b
  have c2 := Sp.comb_len Sp.first a b
  have nu := Sp.norm_len (a ++ b)
  rw [List.length_append] at nu
  have r0 := Sp.lenF_rng (Sp.norm (a ++ b))
  have r1 := Sp.lenF_rng (Sp.comb Sp.both a b)
  have r2 := Sp.lenF_rng (Sp.comb Sp.first a b)
  have r3 := Sp.lenF_rng (a)
  have r4 := Sp.lenF_rng (b)
  refine calls_of_WC (args := [.slice A_a n_a c_a, .slice A_b n_b c_b]) Try.func7 rfl rfl (ble rfl) ?_
  refine WC.seq (fun K1 k1 => ?_)
  refine WC.region rfl ?_
  refine WL.yld rfl (blt rfl) rfl (Y.assign rfl rfl) ?_
  refine WL.nil ?_
  refine WK.then_normal (k1 _ _ ?_)
  refine WC.sub [(0, _), (1, _)] ⟨rfl, rfl, trivial⟩ ?_
  refine WC.seq (fun K2 k2 => ?_)
  refine WC.seq (fun K3 k3 => ?_)
  refine WC.region rfl ?_
  refine WL.call rfl (blt rfl) rfl rfl rfl has10 rfl (awake_any _ ) ?_
  rintro _ w4 ⟨rfl, x5⟩
  refine ⟨_, rfl, ?_⟩
  have xW := Ext.trans xW x5
  refine WL.yld rfl (blt rfl) rfl (Y.not rfl rfl) ?_
  refine WL.yld rfl (blt rfl) rfl (Y.move rfl rfl) ?_
  refine WL.yldW rfl (blt rfl) rfl rfl rfl (Y.move rfl rfl) ?_
  refine WL.yldW rfl (blt rfl) rfl rfl rfl (Y.move rfl rfl) ?_
  refine WL.callW rfl (blt rfl) rfl rfl rfl rfl rfl has9 rfl (few_any _ _ _ _ _ _ _ _ _ (h_a.ext xW) (h_b.ext xW)) ?_
  rintro _ w6 ⟨rfl, x7⟩
  refine ⟨_, rfl, ?_⟩
  have xW := Ext.trans xW x7
  refine WL.yldW rfl (blt rfl) rfl rfl rfl (Y.not rfl rfl) ?_
  refine WL.yld rfl (blt rfl) rfl (Y.pickF rfl rfl rfl) ?_
  refine WL.nil ?_
  refine WK.then_normal (k3 _ _ ?_)
  refine WC.sub [(0, _), (1, _), (15, _)] ⟨rfl, rfl, rfl, trivial⟩ ?_
  refine WC.cond rfl (fun h8 => ?_) (fun h8 => ?_)
  ·
    have p8 := ((and_f (not_t h8)).imp (fun h => (dec_f h)) (fun h => (dec_f h)))
    refine WC.seq (fun K9 k9 => ?_)
    refine WC.region rfl ?_
    refine WL.call rfl (blt rfl) rfl rfl rfl has10 rfl (awake_any _ ) ?_
    rintro _ w10 ⟨rfl, x11⟩
    refine ⟨_, rfl, ?_⟩
    have xW := Ext.trans xW x11
    refine WL.yld rfl (blt rfl) rfl (Y.assign rfl rfl) ?_
    refine WL.nil ?_
    refine WK.then_normal (k9 _ _ ?_)
    refine WC.sub [(4, _)] ⟨rfl, trivial⟩ ?_
    refine WC.ret ?_
    refine WK.then_ret ?_
    clear k1 k2 k3 k9
    refine WK.ret [_] rfl ⟨rfl, trivial⟩ ?_
    exact ⟨ret1 (vb rfl), xW⟩
  ·
    have p8 := (And.intro (dec_t (and_t (not_f h8)).1) (dec_t (and_t (not_f h8)).2))
    refine WC.skip ?_
    refine WK.then_normal (k2 _ _ ?_)
    refine WC.sub [(0, _), (1, _)] ⟨rfl, rfl, trivial⟩ ?_
    refine WC.seq (fun K12 k12 => ?_)
    refine WC.region rfl ?_
    refine WL.yld rfl (blt rfl) rfl (Y.move rfl rfl) ?_
    refine WL.yld rfl (blt rfl) rfl (Y.move rfl rfl) ?_
    refine WL.call rfl (blt rfl) rfl rfl rfl has20 rfl (union_any _ _ _ _ _ _ _ _ _ (h_a.ext xW) (h_b.ext xW) (by omega) (by omega)) ?_
    rintro _ w13 ⟨v15, rfl, ow16, x14⟩
    refine ⟨_, rfl, ?_⟩
    have ow16 := OwnL.base_le ow16 xW.size
    have xW := Ext.trans xW x14
    refine WL.yld rfl (blt rfl) rfl (Y.move rfl rfl) ?_
    refine WL.yld rfl (blt rfl) rfl (Y.move rfl rfl) ?_
    refine WL.call rfl (blt rfl) rfl rfl rfl has22 rfl (meet_any _ _ _ _ _ _ _ _ _ (h_a.ext xW) (h_b.ext xW) (by omega) (by omega)) ?_
    rintro _ w17 ⟨v19, rfl, ow20, x18⟩
    refine ⟨_, rfl, ?_⟩
    have d_v15_v19 := (Apart.res ow20 ow16).symm
    have ow20 := OwnL.base_le ow20 xW.size
    have ow16 := ow16.ext x18
    have xW := Ext.trans xW x18
    refine WL.yld rfl (blt rfl) rfl (Y.move rfl rfl) ?_
    refine WL.yld rfl (blt rfl) rfl (Y.move rfl rfl) ?_
    refine WL.call rfl (blt rfl) rfl rfl rfl has24 rfl (minus_any _ _ _ _ _ _ _ _ _ (h_a.ext xW) (h_b.ext xW) (by omega) (by omega)) ?_
    rintro _ w21 ⟨v23, rfl, ow24, x22⟩
    refine ⟨_, rfl, ?_⟩
    have d_v15_v23 := (Apart.res ow24 ow16).symm
    have d_v19_v23 := (Apart.res ow24 ow20).symm
    have ow24 := OwnL.base_le ow24 xW.size
    have ow16 := ow16.ext x22
    have ow20 := ow20.ext x22
    have xW := Ext.trans xW x22
    refine WL.yld rfl (blt rfl) rfl (Y.assign rfl rfl) ?_
    refine WL.yld rfl (blt rfl) rfl (Y.assign rfl rfl) ?_
    refine WL.yld rfl (blt rfl) rfl (Y.assign rfl rfl) ?_
    refine WL.nil ?_
    refine WK.then_normal (k12 _ _ ?_)
    refine WC.sub [(0, _), (1, _), (5, _), (6, _), (7, _)] ⟨rfl, rfl, rfl, rfl, rfl, trivial⟩ ?_
    refine WC.seq (fun K25 k25 => ?_)
    refine WC.seq (fun K26 k26 => ?_)
    refine WC.region rfl ?_
    refine WL.yld rfl (blt rfl) rfl (Y.move rfl rfl) ?_
    obtain ⟨A27, n28, c29, rfl, hl30⟩ := OwnL.opened ow16 (fun _ => rfl) (by decide)
    have e_n28 := hl30.len
    try simp only [List.length_append, List.length_cons, List.length_nil, List.length_reverse, List.length_drop, List.length_take] at e_n28
    have z_n28 := hl30.nle
    refine WL.call rfl (blt rfl) rfl rfl rfl has16 rfl (isnormal_any _ _ _ _ _ hl30) ?_
    rintro _ w31 ⟨rfl, x32⟩
    refine ⟨_, rfl, ?_⟩
    have ow16 := ow16.ext x32
    have hl30 := hl30.ext x32
    have ow20 := ow20.ext x32
    have ow24 := ow24.ext x32
    have xW := Ext.trans xW x32
    refine WL.yld rfl (blt rfl) rfl (Yld.cast (Y.not rfl rfl) (vb (b := false) (by rw [Sp.isNorm_yes (Sp.norm_norm _)]; rfl))) ?_
    refine WL.yld rfl (blt rfl) rfl (Y.move rfl rfl) ?_
    refine WL.yldW rfl (blt rfl) rfl rfl rfl (Y.move rfl rfl) ?_
    obtain ⟨A33, n34, c35, rfl, hl36⟩ := OwnL.opened ow20 (fun _ => rfl) (by decide)
    have e_n34 := hl36.len
    try simp only [List.length_append, List.length_cons, List.length_nil, List.length_reverse, List.length_drop, List.length_take] at e_n34
    have z_n34 := hl36.nle
    refine WL.callW rfl (blt rfl) rfl rfl rfl rfl rfl has16 rfl (isnormal_any _ _ _ _ _ hl36) ?_
    rintro _ w37 ⟨rfl, x38⟩
    refine ⟨_, rfl, ?_⟩
    have ow16 := ow16.ext x38
    have hl30 := hl30.ext x38
    have ow20 := ow20.ext x38
    have hl36 := hl36.ext x38
    have ow24 := ow24.ext x38
    have xW := Ext.trans xW x38
    refine WL.yldW rfl (blt rfl) rfl rfl rfl (Yld.cast (Y.not rfl rfl) (vb (b := false) (by rw [Sp.isNorm_yes (Sp.comb_norm _ _ _)]; rfl))) ?_
    refine WL.yld rfl (blt rfl) rfl (Y.pickF rfl rfl rfl) ?_
    refine WL.yld rfl (blt rfl) rfl (Y.move rfl rfl) ?_
    refine WL.yldW rfl (blt rfl) rfl rfl rfl (Y.move rfl rfl) ?_
    obtain ⟨A39, n40, c41, rfl, hl42⟩ := OwnL.opened ow24 (fun _ => rfl) (by decide)
    have e_n40 := hl42.len
    try simp only [List.length_append, List.length_cons, List.length_nil, List.length_reverse, List.length_drop, List.length_take] at e_n40
    have z_n40 := hl42.nle
    refine WL.callW rfl (blt rfl) rfl rfl rfl rfl rfl has16 rfl (isnormal_any _ _ _ _ _ hl42) ?_
    rintro _ w43 ⟨rfl, x44⟩
    refine ⟨_, rfl, ?_⟩
    have ow16 := ow16.ext x44
    have hl30 := hl30.ext x44
    have ow20 := ow20.ext x44
    have hl36 := hl36.ext x44
    have ow24 := ow24.ext x44
    have hl42 := hl42.ext x44
    have xW := Ext.trans xW x44
    refine WL.yldW rfl (blt rfl) rfl rfl rfl (Yld.cast (Y.not rfl rfl) (vb (b := false) (by rw [Sp.isNorm_yes (Sp.comb_norm _ _ _)]; rfl))) ?_
    refine WL.yld rfl (blt rfl) rfl (Y.pickF rfl rfl rfl) ?_
    refine WL.nil ?_
    refine WK.then_normal (k26 _ _ ?_)
    refine WC.sub [(0, _), (1, _), (5, _), (6, _), (7, _), (38, _)] ⟨rfl, rfl, rfl, rfl, rfl, rfl, trivial⟩ ?_
    refine WC.condF rfl ?_
    refine WC.skip ?_
    refine WK.then_normal (k25 _ _ ?_)
    refine WC.sub [(0, _), (1, _), (5, _), (6, _), (7, _)] ⟨rfl, rfl, rfl, rfl, rfl, trivial⟩ ?_
    refine WC.seq (fun K45 k45 => ?_)
    refine WC.region rfl ?_
    refine WL.yld rfl (blt rfl) rfl (Y.move rfl rfl) ?_
    refine WL.call rfl (blt rfl) rfl rfl rfl has18 rfl (length_any _ _ _ _ _ hl30 (by omega)) ?_
    rintro _ w46 ⟨rfl, x47⟩
    refine ⟨_, rfl, ?_⟩
    have ow16 := ow16.ext x47
    have hl30 := hl30.ext x47
    have ow20 := ow20.ext x47
    have hl36 := hl36.ext x47
    have ow24 := ow24.ext x47
    have hl42 := hl42.ext x47
    have xW := Ext.trans xW x47
    refine WL.yld rfl (blt rfl) rfl (Y.move rfl rfl) ?_
    refine WL.call rfl (blt rfl) rfl rfl rfl has18 rfl (length_any _ _ _ _ _ hl36 (by omega)) ?_
    rintro _ w48 ⟨rfl, x49⟩
    refine ⟨_, rfl, ?_⟩
    have ow16 := ow16.ext x49
    have hl30 := hl30.ext x49
    have ow20 := ow20.ext x49
    have hl36 := hl36.ext x49
    have ow24 := ow24.ext x49
    have hl42 := hl42.ext x49
    have xW := Ext.trans xW x49
    refine WL.yld rfl (blt rfl) rfl (Y.add rfl rfl rfl (wrap_i64 (by first | omega | (dsimp only; omega)))) ?_
    refine WL.yld rfl (blt rfl) rfl (Y.move rfl rfl) ?_
    refine WL.call rfl (blt rfl) rfl rfl rfl has18 rfl (length_any _ _ _ _ _ (h_a.ext xW) (by omega)) ?_
    rintro _ w50 ⟨rfl, x51⟩
    refine ⟨_, rfl, ?_⟩
    have ow16 := ow16.ext x51
    have hl30 := hl30.ext x51
    have ow20 := ow20.ext x51
    have hl36 := hl36.ext x51
    have ow24 := ow24.ext x51
    have hl42 := hl42.ext x51
    have xW := Ext.trans xW x51
    refine WL.yld rfl (blt rfl) rfl (Y.move rfl rfl) ?_
    refine WL.call rfl (blt rfl) rfl rfl rfl has18 rfl (length_any _ _ _ _ _ (h_b.ext xW) (by omega)) ?_
    rintro _ w52 ⟨rfl, x53⟩
    refine ⟨_, rfl, ?_⟩
    have ow16 := ow16.ext x53
    have hl30 := hl30.ext x53
    have ow20 := ow20.ext x53
    have hl36 := hl36.ext x53
    have ow24 := ow24.ext x53
    have hl42 := hl42.ext x53
    have xW := Ext.trans xW x53
    refine WL.yld rfl (blt rfl) rfl (Y.add rfl rfl rfl (wrap_i64 (by first | omega | (dsimp only; omega)))) ?_
    refine WL.yld rfl (blt rfl) rfl (Yld.cast (Y.eql rfl rfl rfl) (vb (b := true) (by rw [Sp.len_union]; exact beq_self_eq_true _))) ?_
    refine WL.yld rfl (blt rfl) rfl (Y.move rfl rfl) ?_
    refine WL.yldW rfl (blt rfl) rfl rfl rfl (Y.move rfl rfl) ?_
    refine WL.callW rfl (blt rfl) rfl rfl rfl rfl rfl has18 rfl (length_any _ _ _ _ _ hl42 (by omega)) ?_
    rintro _ w54 ⟨rfl, x55⟩
    refine ⟨_, rfl, ?_⟩
    have ow16 := ow16.ext x55
    have hl30 := hl30.ext x55
    have ow20 := ow20.ext x55
    have hl36 := hl36.ext x55
    have ow24 := ow24.ext x55
    have hl42 := hl42.ext x55
    have xW := Ext.trans xW x55
    refine WL.yldW rfl (blt rfl) rfl rfl rfl (Y.move rfl rfl) ?_
    refine WL.callW rfl (blt rfl) rfl rfl rfl rfl rfl has18 rfl (length_any _ _ _ _ _ hl36 (by omega)) ?_
    rintro _ w56 ⟨rfl, x57⟩
    refine ⟨_, rfl, ?_⟩
    have ow16 := ow16.ext x57
    have hl30 := hl30.ext x57
    have ow20 := ow20.ext x57
    have hl36 := hl36.ext x57
    have ow24 := ow24.ext x57
    have hl42 := hl42.ext x57
    have xW := Ext.trans xW x57
    refine WL.yldW rfl (blt rfl) rfl rfl rfl (Y.add rfl rfl rfl (wrap_i64 (by first | omega | (dsimp only; omega)))) ?_
    refine WL.yldW rfl (blt rfl) rfl rfl rfl (Y.move rfl rfl) ?_
    refine WL.callW rfl (blt rfl) rfl rfl rfl rfl rfl has18 rfl (length_any _ _ _ _ _ (h_a.ext xW) (by omega)) ?_
    rintro _ w58 ⟨rfl, x59⟩
    refine ⟨_, rfl, ?_⟩
    have ow16 := ow16.ext x59
    have hl30 := hl30.ext x59
    have ow20 := ow20.ext x59
    have hl36 := hl36.ext x59
    have ow24 := ow24.ext x59
    have hl42 := hl42.ext x59
    have xW := Ext.trans xW x59
    refine WL.yldW rfl (blt rfl) rfl rfl rfl (Yld.cast (Y.eql rfl rfl rfl) (vb (b := true) (by rw [Sp.len_minus]; exact beq_self_eq_true _))) ?_
    refine WL.yld rfl (blt rfl) rfl (Y.pickT rfl rfl rfl) ?_
    refine WL.yld rfl (blt rfl) rfl (Y.assign rfl rfl) ?_
    refine WL.nil ?_
    refine WK.then_normal (k45 _ _ ?_)
    refine WC.sub [(4, _)] ⟨rfl, trivial⟩ ?_
    refine WC.ret ?_
    clear k1 k2 k3 k12 k25 k26 k45
    refine WK.ret [_] rfl ⟨rfl, trivial⟩ ?_
    exact ⟨ret1 (vb rfl), xW⟩
end LSpansLengths
end SpW

end Go.Proofs.Ytoldedanhmkolaa
