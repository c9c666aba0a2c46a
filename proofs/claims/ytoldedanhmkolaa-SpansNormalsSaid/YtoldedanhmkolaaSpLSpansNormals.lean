/- The walk of the law. Conditions: what each theorem states. -/
import Derived.Test.YtoldedanhmkolaaSpAwake
namespace Go.Proofs.Ytoldedanhmkolaa
open Go Go.Eng Go.RowKit
set_option linter.unusedVariables false
namespace SpW
open Q C D E A
namespace LSpansNormals
theorem ti27 : TI Try.prog 27 (.agg #[.int .i64 0, .int .i64 0]) 2 16 := TI.mk (by kernel_rfl)
theorem has9 : Has Try.prog 9 := ⟨_, Try.func9, rfl, by kernel_rfl⟩
theorem has10 : Has Try.prog 10 := ⟨_, Try.func10, rfl, by kernel_rfl⟩
theorem has11 : Has Try.prog 11 := ⟨_, Try.func11, rfl, by kernel_rfl⟩
theorem has12 : Has Try.prog 12 := ⟨_, Try.func12, rfl, by kernel_rfl⟩
theorem has13 : Has Try.prog 13 := ⟨_, Try.func13, rfl, by kernel_rfl⟩
theorem has14 : Has Try.prog 14 := ⟨_, Try.func14, rfl, by kernel_rfl⟩
theorem has15 : Has Try.prog 15 := ⟨_, Try.func15, rfl, by kernel_rfl⟩
theorem has16 : Has Try.prog 16 := ⟨_, Try.func16, rfl, by kernel_rfl⟩
theorem has17 : Has Try.prog 17 := ⟨_, Try.func17, rfl, by kernel_rfl⟩
theorem has18 : Has Try.prog 18 := ⟨_, Try.func18, rfl, by kernel_rfl⟩
theorem has19 : Has Try.prog 19 := ⟨_, Try.func19, rfl, by kernel_rfl⟩
theorem SpansNormals_any (A_l : Option Addr) (n_l c_l : Nat) (l : List Sp.S) (w : World) (h_l : Ls w A_l n_l c_l Sp.S.c 2 l) :
    Calls Try.prog 3 #[.slice A_l n_l c_l] w fun e w' => e = .returned (.bool true) ∧ Ext w w' := by
  have xW := Ext.refl w
  have e_l := h_l.len
  have z_l := h_l.nle
  refine calls_of_WC (args := [.slice A_l n_l c_l]) Try.func3 rfl rfl (ble rfl) ?_
  refine WC.seq (fun K1 k1 => ?_)
  refine WC.region rfl ?_
  refine WL.yld rfl (blt rfl) rfl (Y.assign rfl rfl) ?_
  refine WL.nil ?_
  refine WK.then_normal (k1 _ _ ?_)
  refine WC.sub [(0, _)] ⟨rfl, trivial⟩ ?_
  refine WC.seq (fun K2 k2 => ?_)
  refine WC.seq (fun K3 k3 => ?_)
  refine WC.region rfl ?_
  refine WL.yld rfl (blt rfl) rfl (Y.move rfl rfl) ?_
  refine WL.call rfl (blt rfl) rfl rfl rfl has9 rfl (few_any _ _ _ _ _ _ _ _ _ (h_l.ext xW) (Ls.nil (by decide))) ?_
  rintro _ w4 ⟨rfl, x5⟩
  refine ⟨_, rfl, ?_⟩
  have xW := Ext.trans xW x5
  refine WL.yld rfl (blt rfl) rfl (Y.not rfl rfl) ?_
  refine WL.nil ?_
  refine WK.then_normal (k3 _ _ ?_)
  refine WC.sub [(0, _), (6, _)] ⟨rfl, rfl, trivial⟩ ?_
  refine WC.cond rfl (fun h6 => ?_) (fun h6 => ?_)
  ·
    have p6 := ((and_f (not_t h6)).imp (fun h => (dec_f h)) (fun h => (dec_f h)))
    refine WC.seq (fun K7 k7 => ?_)
    refine WC.region rfl ?_
    refine WL.call rfl (blt rfl) rfl rfl rfl has10 rfl (awake_any _ ) ?_
    rintro _ w8 ⟨rfl, x9⟩
    refine ⟨_, rfl, ?_⟩
    have xW := Ext.trans xW x9
    refine WL.yld rfl (blt rfl) rfl (Y.assign rfl rfl) ?_
    refine WL.nil ?_
    refine WK.then_normal (k7 _ _ ?_)
    refine WC.sub [(2, _)] ⟨rfl, trivial⟩ ?_
    refine WC.ret ?_
    refine WK.then_ret ?_
    clear k1 k2 k3 k7
    refine WK.ret [_] rfl ⟨rfl, trivial⟩ ?_
    exact ⟨ret1 (vb rfl), xW⟩
  ·
    have p6 := (And.intro (dec_t (and_t (not_f h6)).1) (dec_t (and_t (not_f h6)).2))
    refine WC.skip ?_
    refine WK.then_normal (k2 _ _ ?_)
    refine WC.sub [(0, _)] ⟨rfl, trivial⟩ ?_
    refine WC.seq (fun K10 k10 => ?_)
    refine WC.seq (fun K11 k11 => ?_)
    refine WC.region rfl ?_
    refine WL.yld rfl (blt rfl) rfl (Y.assign rfl rfl) ?_
    refine WL.nil ?_
    refine WK.then_normal (k11 _ _ ?_)
    refine WC.block ?_
    refine WC.sub [(3, _), (0, _)] ⟨rfl, rfl, trivial⟩ ?_
    refine WC.loopS 1 (fun mz Ed W' => ∃ i : Nat, mz = n_l - i ∧ Ed = [(3, .int .i64 ((i : Nat) : Int))] ∧ Ext w W' ∧ (i ≤ n_l) ∧ (True)) _ ⟨0, rfl, rfl, xW, (Nat.zero_le _), trivial⟩ ?_
    rintro _ _ w12 ⟨i, rfl, rfl, xW, le_i, inv_i⟩
    refine WC.sub [(3, _), (0, _)] ⟨rfl, rfl, trivial⟩ ?_
    refine WC.seq (fun K13 k13 => ?_)
    refine WC.seq (fun K14 k14 => ?_)
    refine WC.region rfl ?_
    refine WL.yld rfl (blt rfl) rfl (Y.move rfl rfl) ?_
    refine WL.yld rfl (blt rfl) rfl (Y.move rfl rfl) ?_
    refine WL.yld rfl (blt rfl) rfl (Y.lenSl rfl rfl rfl Try.underlying22 rfl) ?_
    refine WL.yld rfl (blt rfl) rfl (Y.lss rfl rfl rfl) ?_
    refine WL.nil ?_
    refine WK.then_normal (k14 _ _ ?_)
    refine WC.sub [(0, _), (3, _), (11, _)] ⟨rfl, rfl, rfl, trivial⟩ ?_
    refine WC.cond rfl (fun h15 => ?_) (fun h15 => ?_)
    ·
      have p15 := (dec_t h15)
      refine WC.skip ?_
      refine WK.then_normal (k13 _ _ ?_)
      refine WC.sub [(0, _), (3, _)] ⟨rfl, rfl, trivial⟩ ?_
      refine WC.seq (fun K16 k16 => ?_)
      refine WC.block ?_
      refine WC.seq (fun K17 k17 => ?_)
      refine WC.regionDq (by kernel_rfl) (by kernel_rfl) rfl ?_
      refine WQ.yld rfl (blt rfl) rfl (Y.move rfl rfl) ?_
      refine WQ.yld rfl (blt rfl) rfl (Y.move rfl rfl) ?_
      have b18 : i < n_l := by omega
      refine WQ.yld rfl (blt rfl) rfl (Y.indexLs i (h_l.ext xW) rfl Try.underlying22 ti27 rfl rfl rfl b18) ?_
      refine WQ.yld rfl (blt rfl) rfl (Y.loadS (cs := [_, _]) rfl Try.underlying27 rfl ti27 rfl (Ls.part_ext (h_l.ext xW) b18 rfl)) ?_
      refine WQ.call rfl (blt rfl) rfl rfl rfl has11 rfl (fun w hw => calls_ext hw (valid_any _ _ )) ?_
      refine WQ.yld rfl (blt rfl) rfl (Y.move rfl rfl) ?_
      refine WQ.yld rfl (blt rfl) rfl (Y.move rfl rfl) ?_
      have b19 : i < n_l := by omega
      refine WQ.yld rfl (blt rfl) rfl (Y.indexLs i (h_l.ext xW) rfl Try.underlying22 ti27 rfl rfl rfl b19) ?_
      refine WQ.yld rfl (blt rfl) rfl (Y.loadS (cs := [_, _]) rfl Try.underlying27 rfl ti27 rfl (Ls.part_ext (h_l.ext xW) b19 rfl)) ?_
      refine WQ.call rfl (blt rfl) rfl rfl rfl has12 rfl (fun w hw => calls_ext hw (rvalid_any _ _ )) ?_
      refine WQ.yld rfl (blt rfl) rfl (Y.neqB rfl Try.underlying4 rfl rfl) ?_
      refine WQ.done (fun w20 x21 => ?_)
      have xW := Ext.trans xW x21
      refine WK.then_normal (k17 _ _ ?_)
      refine WC.sub [(0, _), (3, _), (24, _)] ⟨rfl, rfl, rfl, trivial⟩ ?_
      refine WC.cond rfl (fun h22 => ?_) (fun h22 => ?_)
      ·
        clear k1 k2 k3 k10 k11 k13 k14 k16 k17
        simp at h22
      ·
        refine WC.skip ?_
        refine WK.in_normal ?_
        refine WK.then_normal (k16 _ _ ?_)
        refine WC.sub [(0, _), (3, _)] ⟨rfl, rfl, trivial⟩ ?_
        refine WC.region rfl ?_
        refine WL.yld rfl (blt rfl) rfl (Y.move rfl rfl) ?_
        refine WL.yld rfl (blt rfl) rfl (Y.add rfl rfl rfl (wrap_i64 (by first | omega | (dsimp only; omega)))) ?_
        refine WL.yld rfl (blt rfl) rfl (Y.assign rfl rfl) ?_
        refine WL.nil ?_
        refine WK.roundS _ [(3, .int .i64 (((i + 1) : Nat) : Int))] ⟨rfl, rfl, trivial⟩ ?_ ⟨(i + 1), rfl, rfl, xW, (by omega), trivial⟩
        show _ - (i + 1) < _ - i; omega
    ·
      have p15 := (dec_f h15)
      refine WC.exit ?_
      refine WK.then_exit ?_
      refine WK.then_exit ?_
      refine WK.in_exit ?_
      refine WK.then_normal (k10 _ _ ?_)
      refine WC.sub [(0, _)] ⟨rfl, trivial⟩ ?_
      refine WC.seq (fun K23 k23 => ?_)
      refine WC.region rfl ?_
      refine WL.yld rfl (blt rfl) rfl (Y.move rfl rfl) ?_
      refine WL.call rfl (blt rfl) rfl rfl rfl has14 rfl (normal_any _ _ _ _ _ (h_l.ext xW) (by omega)) ?_
      rintro _ w24 ⟨v26, rfl, ow27, x25⟩
      refine ⟨_, rfl, ?_⟩
      have ow27 := OwnL.base_le ow27 xW.size
      have xW := Ext.trans xW x25
      refine WL.yld rfl (blt rfl) rfl (Y.move rfl rfl) ?_
      refine WL.call rfl (blt rfl) rfl rfl rfl has15 rfl (rnormal_any _ _ _ _ _ (h_l.ext xW) (by omega)) ?_
      rintro _ w28 ⟨v30, rfl, ow31, x29⟩
      refine ⟨_, rfl, ?_⟩
      have d_v26_v30 := (Apart.res ow31 ow27).symm
      have ow31 := OwnL.base_le ow31 xW.size
      have ow27 := ow27.ext x29
      have xW := Ext.trans xW x29
      obtain ⟨A32, n33, c34, rfl, hl35⟩ := OwnL.opened ow27 (fun _ => rfl) (by decide)
      have e_n33 := hl35.len
      try simp only [List.length_append, List.length_cons, List.length_nil, List.length_reverse, List.length_drop, List.length_take] at e_n33
      have z_n33 := hl35.nle
      obtain ⟨A36, n37, c38, rfl, hl39⟩ := OwnL.opened ow31 (fun _ => rfl) (by decide)
      have e_n37 := hl39.len
      try simp only [List.length_append, List.length_cons, List.length_nil, List.length_reverse, List.length_drop, List.length_take] at e_n37
      have z_n37 := hl39.nle
      refine WL.call rfl (blt rfl) rfl rfl rfl has13 rfl (same_any _ _ _ _ _ _ _ _ _ hl35 hl39) ?_
      rintro _ w40 ⟨rfl, x41⟩
      refine ⟨_, rfl, ?_⟩
      have ow27 := ow27.ext x41
      have hl35 := hl35.ext x41
      have ow31 := ow31.ext x41
      have hl39 := hl39.ext x41
      have xW := Ext.trans xW x41
      refine WL.yld rfl (blt rfl) rfl (Yld.cast (Y.move rfl rfl) (vb (b := true) (decide_eq_true rfl))) ?_
      refine WL.yldW rfl (blt rfl) rfl rfl rfl (Y.move rfl rfl) ?_
      refine WL.callW rfl (blt rfl) rfl rfl rfl rfl rfl has16 rfl (isnormal_any _ _ _ _ _ (h_l.ext xW)) ?_
      rintro _ w42 ⟨rfl, x43⟩
      refine ⟨_, rfl, ?_⟩
      have ow27 := ow27.ext x43
      have hl35 := hl35.ext x43
      have ow31 := ow31.ext x43
      have hl39 := hl39.ext x43
      have xW := Ext.trans xW x43
      refine WL.yldW rfl (blt rfl) rfl rfl rfl (Y.move rfl rfl) ?_
      refine WL.callW rfl (blt rfl) rfl rfl rfl rfl rfl has17 rfl (risnormal_any _ _ _ _ _ (h_l.ext xW)) ?_
      rintro _ w44 ⟨rfl, x45⟩
      refine ⟨_, rfl, ?_⟩
      have ow27 := ow27.ext x45
      have hl35 := hl35.ext x45
      have ow31 := ow31.ext x45
      have hl39 := hl39.ext x45
      have xW := Ext.trans xW x45
      refine WL.yldW rfl (blt rfl) rfl rfl rfl (Yld.cast (Y.eqlB rfl Try.underlying4 rfl rfl) (vb (b := true) (beq_self_eq_true _))) ?_
      refine WL.yld rfl (blt rfl) rfl (Y.pickT rfl rfl rfl) ?_
      refine WL.yld rfl (blt rfl) rfl (Y.move rfl rfl) ?_
      refine WL.yldW rfl (blt rfl) rfl rfl rfl (Y.move rfl rfl) ?_
      refine WL.callW rfl (blt rfl) rfl rfl rfl rfl rfl has18 rfl (length_any _ _ _ _ _ (h_l.ext xW) (by omega)) ?_
      rintro _ w46 ⟨rfl, x47⟩
      refine ⟨_, rfl, ?_⟩
      have ow27 := ow27.ext x47
      have hl35 := hl35.ext x47
      have ow31 := ow31.ext x47
      have hl39 := hl39.ext x47
      have xW := Ext.trans xW x47
      refine WL.yldW rfl (blt rfl) rfl rfl rfl (Y.move rfl rfl) ?_
      refine WL.callW rfl (blt rfl) rfl rfl rfl rfl rfl has19 rfl (rlength_any _ _ _ _ _ (h_l.ext xW) (by omega)) ?_
      rintro _ w48 ⟨rfl, x49⟩
      refine ⟨_, rfl, ?_⟩
      have ow27 := ow27.ext x49
      have hl35 := hl35.ext x49
      have ow31 := ow31.ext x49
      have hl39 := hl39.ext x49
      have xW := Ext.trans xW x49
      refine WL.yldW rfl (blt rfl) rfl rfl rfl (Yld.cast (Y.eql rfl rfl rfl) (vb (b := true) (beq_self_eq_true _))) ?_
      refine WL.yld rfl (blt rfl) rfl (Y.pickT rfl rfl rfl) ?_
      refine WL.yld rfl (blt rfl) rfl (Y.move rfl rfl) ?_
      refine WL.callW rfl (blt rfl) rfl rfl rfl rfl rfl has10 rfl (awake_any _ ) ?_
      rintro _ w50 ⟨rfl, x51⟩
      refine ⟨_, rfl, ?_⟩
      have ow27 := ow27.ext x51
      have hl35 := hl35.ext x51
      have ow31 := ow31.ext x51
      have hl39 := hl39.ext x51
      have xW := Ext.trans xW x51
      refine WL.yld rfl (blt rfl) rfl (Y.pickT rfl rfl rfl) ?_
      refine WL.yld rfl (blt rfl) rfl (Y.assign rfl rfl) ?_
      refine WL.nil ?_
      refine WK.then_normal (k23 _ _ ?_)
      refine WC.sub [(2, _)] ⟨rfl, trivial⟩ ?_
      refine WC.ret ?_
      clear k1 k2 k3 k10 k11 k13 k14 k23
      refine WK.ret [_] rfl ⟨rfl, trivial⟩ ?_
      exact ⟨ret1 (vb rfl), xW⟩
end LSpansNormals
end SpW

end Go.Proofs.Ytoldedanhmkolaa
