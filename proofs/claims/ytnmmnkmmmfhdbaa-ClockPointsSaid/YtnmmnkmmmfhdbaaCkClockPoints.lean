/- The walk of the law. Conditions: what each theorem states. -/
import Derived.Test.YtnmmnkmmmfhdbaaCkRPts
namespace Go.Proofs.Ytnmmnkmmmfhdbaa
open Go Go.Eng Go.RowKit
set_option linter.unusedVariables false
namespace CkW
open R P K V RP
namespace LClockPoints
theorem ti3 : TI Try.prog 3 (.int .i64 0) 1 8 := TI.mk (by kernel_rfl)
theorem has10 : Has Try.prog 10 := ⟨_, Try.func10, rfl, by kernel_rfl⟩
theorem has11 : Has Try.prog 11 := ⟨_, Try.func11, rfl, by kernel_rfl⟩
theorem has18 : Has Try.prog 18 := ⟨_, Try.func18, rfl, by kernel_rfl⟩
theorem has19 : Has Try.prog 19 := ⟨_, Try.func19, rfl, by kernel_rfl⟩
theorem has20 : Has Try.prog 20 := ⟨_, Try.func20, rfl, by kernel_rfl⟩
theorem ClockPoints_any (A_l : Option Addr) (n_l c_l : Nat) (l : List Ck.Snap) (id : Int) (w : World) (h_l : Ls w A_l n_l c_l Ck.Snap.c 5 l) :
    Calls Try.prog 8 #[.slice A_l n_l c_l, .int .i64 id] w fun e w' => e = .returned (.bool true) ∧ Ext w w' := by
  have xW := Ext.refl w
  have e_l := h_l.len
  have z_l := h_l.nle
  refine calls_of_WC (args := [.slice A_l n_l c_l, .int .i64 id]) Try.func8 rfl rfl (ble rfl) ?_
  refine WC.seq (fun K1 k1 => ?_)
  refine WC.region rfl ?_
  refine WL.yld rfl (blt rfl) rfl (Y.assign rfl rfl) ?_
  refine WL.nil ?_
  refine WK.then_normal (k1 _ _ ?_)
  refine WC.sub [(0, _), (1, _)] ⟨rfl, rfl, trivial⟩ ?_
  refine WC.seq (fun K2 k2 => ?_)
  refine WC.seq (fun K3 k3 => ?_)
  refine WC.region rfl ?_
  refine WL.yld rfl (blt rfl) rfl (Y.move rfl rfl) ?_
  refine WL.call rfl (blt rfl) rfl rfl rfl has10 rfl (few_any _ _ _ _ _ _ _ _ _ (Ls.nil (by decide)) (h_l.ext xW)) ?_
  rintro _ w4 ⟨rfl, x5⟩
  refine ⟨_, rfl, ?_⟩
  have xW := Ext.trans xW x5
  refine WL.yld rfl (blt rfl) rfl (Y.not rfl rfl) ?_
  refine WL.nil ?_
  refine WK.then_normal (k3 _ _ ?_)
  refine WC.sub [(0, _), (1, _), (9, _)] ⟨rfl, rfl, rfl, trivial⟩ ?_
  refine WC.cond rfl (fun h6 => ?_) (fun h6 => ?_)
  ·
    have p6 := ((and_f (not_t h6)).imp (fun h => (dec_f h)) (fun h => (dec_f h)))
    refine WC.seq (fun K7 k7 => ?_)
    refine WC.region rfl ?_
    refine WL.call rfl (blt rfl) rfl rfl rfl has11 rfl (lives_any _ ) ?_
    rintro _ w8 ⟨rfl, x9⟩
    refine ⟨_, rfl, ?_⟩
    have xW := Ext.trans xW x9
    refine WL.yld rfl (blt rfl) rfl (Y.assign rfl rfl) ?_
    refine WL.nil ?_
    refine WK.then_normal (k7 _ _ ?_)
    refine WC.sub [(4, _)] ⟨rfl, trivial⟩ ?_
    refine WC.ret ?_
    refine WK.then_ret ?_
    clear k1 k2 k3 k7
    refine WK.ret [_] rfl ⟨rfl, trivial⟩ ?_
    exact ⟨ret1 (vb rfl), xW⟩
  ·
    have p6 := (And.intro (dec_t (and_t (not_f h6)).1) (dec_t (and_t (not_f h6)).2))
    refine WC.skip ?_
    refine WK.then_normal (k2 _ _ ?_)
    refine WC.sub [(0, _), (1, _)] ⟨rfl, rfl, trivial⟩ ?_
    refine WC.seq (fun K10 k10 => ?_)
    refine WC.region rfl ?_
    refine WL.yld rfl (blt rfl) rfl (Y.move rfl rfl) ?_
    refine WL.yld rfl (blt rfl) rfl (Y.move rfl rfl) ?_
    refine WL.call rfl (blt rfl) rfl rfl rfl has18 rfl (points_any _ _ _ _ _ _ (h_l.ext xW) (by omega)) ?_
    rintro _ w11 ⟨v13, rfl, ow14, x12⟩
    refine ⟨_, rfl, ?_⟩
    have ow14 := OwnL.base_le ow14 xW.size
    have xW := Ext.trans xW x12
    refine WL.yld rfl (blt rfl) rfl (Y.assign rfl rfl) ?_
    refine WL.nil ?_
    refine WK.then_normal (k10 _ _ ?_)
    refine WC.sub [(0, _), (1, _), (5, _)] ⟨rfl, rfl, rfl, trivial⟩ ?_
    refine WC.seq (fun K15 k15 => ?_)
    refine WC.seq (fun K16 k16 => ?_)
    refine WC.region rfl ?_
    refine WL.yld rfl (blt rfl) rfl (Y.assign rfl rfl) ?_
    refine WL.nil ?_
    refine WK.then_normal (k16 _ _ ?_)
    refine WC.block ?_
    refine WC.sub [(6, _), (0, _), (1, _), (5, _)] ⟨rfl, rfl, rfl, rfl, trivial⟩ ?_
    refine WC.loopS 1 (fun mz Ed W' => ∃ i : Nat, mz = (Ck.pts l id).length + 1 - i ∧ Ed = [(6, .int .i64 ((i : Nat) : Int))] ∧ Ext w W' ∧ OwnL W' w.heap.size 3 Ck.ic 1 v13 _ ∧ (1 ≤ i ∧ i ≤ (Ck.pts l id).length + 1)) _ ⟨1, rfl, rfl, xW, ow14, (by omega)⟩ ?_
    rintro _ _ w17 ⟨i, rfl, rfl, xW, ow14, le_i⟩
    refine WC.sub [(6, _), (0, _), (1, _), (5, _)] ⟨rfl, rfl, rfl, rfl, trivial⟩ ?_
    refine WC.seq (fun K18 k18 => ?_)
    refine WC.seq (fun K19 k19 => ?_)
    refine WC.region rfl ?_
    refine WL.yld rfl (blt rfl) rfl (Y.move rfl rfl) ?_
    refine WL.yld rfl (blt rfl) rfl (Y.move rfl rfl) ?_
    obtain ⟨A20, n21, c22, rfl, hl23⟩ := OwnL.opened ow14 (fun _ => rfl) (by decide)
    have e_n21 := hl23.len
    have z_n21 := hl23.nle
    refine WL.yld rfl (blt rfl) rfl (Y.lenSl rfl rfl rfl Try.underlying39 rfl) ?_
    refine WL.yld rfl (blt rfl) rfl (Y.lss rfl rfl rfl) ?_
    refine WL.nil ?_
    refine WK.then_normal (k19 _ _ ?_)
    refine WC.sub [(0, _), (1, _), (5, _), (6, _), (17, _)] ⟨rfl, rfl, rfl, rfl, rfl, trivial⟩ ?_
    refine WC.cond rfl (fun h24 => ?_) (fun h24 => ?_)
    ·
      have p24 := (dec_t h24)
      refine WC.skip ?_
      refine WK.then_normal (k18 _ _ ?_)
      refine WC.sub [(0, _), (1, _), (5, _), (6, _)] ⟨rfl, rfl, rfl, rfl, trivial⟩ ?_
      refine WC.seq (fun K25 k25 => ?_)
      refine WC.block ?_
      refine WC.seq (fun K26 k26 => ?_)
      refine WC.regionDq (by kernel_rfl) (by kernel_rfl) rfl ?_
      refine WQ.yld rfl (blt rfl) rfl (Y.move rfl rfl) ?_
      refine WQ.yld rfl (blt rfl) rfl (Y.move rfl rfl) ?_
      refine WQ.yld rfl (blt rfl) rfl (Y.sub rfl rfl rfl (wrap_i64 (by first | omega | (dsimp only; omega)))) ?_
      have b27 : (i - 1) < n21 := by omega
      refine WQ.yld rfl (blt rfl) rfl (Y.indexLs (i - 1) hl23 rfl Try.underlying39 ti3 rfl rfl (by omega) b27) ?_
      refine WQ.yld rfl (blt rfl) rfl (Y.load1 rfl Try.underlying3 rfl rfl (Ls.at_ext hl23 b27 rfl)) ?_
      refine WQ.yld rfl (blt rfl) rfl (Y.move rfl rfl) ?_
      refine WQ.yld rfl (blt rfl) rfl (Y.move rfl rfl) ?_
      have b28 : i < n21 := by omega
      refine WQ.yld rfl (blt rfl) rfl (Y.indexLs i hl23 rfl Try.underlying39 ti3 rfl rfl rfl b28) ?_
      refine WQ.yld rfl (blt rfl) rfl (Y.load1 rfl Try.underlying3 rfl rfl (Ls.at_ext hl23 b28 rfl)) ?_
      refine WQ.yld rfl (blt rfl) rfl (Y.geq rfl rfl rfl) ?_
      refine WQ.done (fun w29 x30 => ?_)
      have ow14 := ow14.ext x30
      have hl23 := hl23.ext x30
      have xW := Ext.trans xW x30
      refine WK.then_normal (k26 _ _ ?_)
      refine WC.sub [(0, _), (1, _), (5, _), (6, _), (29, _)] ⟨rfl, rfl, rfl, rfl, rfl, trivial⟩ ?_
      refine WC.cond rfl (fun h31 => ?_) (fun h31 => ?_)
      ·
        clear k1 k2 k3 k10 k15 k16 k18 k19 k25 k26
        have q := Ck.inc_pts l id (show i - 1 < i by omega) (by omega)
        have q2 := dec_t h31
        omega
      ·
        have p31 := (dec_f h31)
        refine WC.skip ?_
        refine WK.in_normal ?_
        refine WK.then_normal (k25 _ _ ?_)
        refine WC.sub [(0, _), (1, _), (5, _), (6, _)] ⟨rfl, rfl, rfl, rfl, trivial⟩ ?_
        refine WC.region rfl ?_
        refine WL.yld rfl (blt rfl) rfl (Y.move rfl rfl) ?_
        refine WL.yld rfl (blt rfl) rfl (Y.add rfl rfl rfl (wrap_i64 (by first | omega | (dsimp only; omega)))) ?_
        refine WL.yld rfl (blt rfl) rfl (Y.assign rfl rfl) ?_
        refine WL.nil ?_
        refine WK.roundS _ [(6, .int .i64 (((i + 1) : Nat) : Int))] ⟨rfl, rfl, rfl, rfl, trivial⟩ ?_ ⟨(i + 1), rfl, rfl, xW, ow14, (by omega)⟩
        show _ - (i + 1) < _ - i; omega
    ·
      have p24 := (dec_f h24)
      refine WC.exit ?_
      refine WK.then_exit ?_
      refine WK.then_exit ?_
      refine WK.in_exit ?_
      refine WK.then_normal (k15 _ _ ?_)
      refine WC.sub [(0, _), (1, _), (5, _)] ⟨rfl, rfl, rfl, trivial⟩ ?_
      refine WC.seq (fun K32 k32 => ?_)
      refine WC.region rfl ?_
      refine WL.yld rfl (blt rfl) rfl (Y.move rfl rfl) ?_
      refine WL.yld rfl (blt rfl) rfl (Y.move rfl rfl) ?_
      refine WL.yld rfl (blt rfl) rfl (Y.move rfl rfl) ?_
      refine WL.call rfl (blt rfl) rfl rfl rfl has20 rfl (rpoints_any _ _ _ _ _ _ (h_l.ext xW) (by omega)) ?_
      rintro _ w33 ⟨v35, rfl, ow36, x34⟩
      refine ⟨_, rfl, ?_⟩
      have d_v13_v35 := (Apart.res ow36 ow14).symm
      have ow36 := OwnL.base_le ow36 xW.size
      have ow14 := ow14.ext x34
      have hl23 := hl23.ext x34
      have xW := Ext.trans xW x34
      obtain ⟨A37, n38, c39, rfl, hl40⟩ := OwnL.opened ow36 (fun _ => rfl) (by decide)
      have e_n38 := hl40.len
      have z_n38 := hl40.nle
      refine WL.call rfl (blt rfl) rfl rfl rfl has19 rfl (equal_any _ _ _ _ _ _ _ _ _ hl23 hl40) ?_
      rintro _ w41 ⟨rfl, x42⟩
      refine ⟨_, rfl, ?_⟩
      have ow14 := ow14.ext x42
      have hl23 := hl23.ext x42
      have ow36 := ow36.ext x42
      have hl40 := hl40.ext x42
      have xW := Ext.trans xW x42
      refine WL.yld rfl (blt rfl) rfl (Yld.cast (Y.move rfl rfl) (vb (b := true) (decide_eq_true rfl))) ?_
      refine WL.callW rfl (blt rfl) rfl rfl rfl rfl rfl has11 rfl (lives_any _ ) ?_
      rintro _ w43 ⟨rfl, x44⟩
      refine ⟨_, rfl, ?_⟩
      have ow14 := ow14.ext x44
      have hl23 := hl23.ext x44
      have ow36 := ow36.ext x44
      have hl40 := hl40.ext x44
      have xW := Ext.trans xW x44
      refine WL.yld rfl (blt rfl) rfl (Y.pickT rfl rfl rfl) ?_
      refine WL.yld rfl (blt rfl) rfl (Y.assign rfl rfl) ?_
      refine WL.nil ?_
      refine WK.then_normal (k32 _ _ ?_)
      refine WC.sub [(4, _)] ⟨rfl, trivial⟩ ?_
      refine WC.ret ?_
      clear k1 k2 k3 k10 k15 k16 k18 k19 k32
      refine WK.ret [_] rfl ⟨rfl, trivial⟩ ?_
      exact ⟨ret1 (vb rfl), xW⟩
end LClockPoints
end CkW

end Go.Proofs.Ytnmmnkmmmfhdbaa
