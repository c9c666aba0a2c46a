/- The walk of the law. Conditions: what each theorem states. -/
import Derived.Test.YtnmmnkmmmfhdbaaCkRPts
namespace Go.Proofs.Ytnmmnkmmmfhdbaa
open Go Go.Eng Go.RowKit
set_option linter.unusedVariables false
namespace CkW
open R P K V RP
namespace LClockPairs
theorem ti3 : TI Try.prog 3 (.int .i64 0) 1 8 := TI.mk (by kernel_rfl)
theorem ti37 : TI Try.prog 37 (.agg #[.int .i64 0, .int .i64 0, .int .i64 0, .int .i64 0, .int .i64 0]) 5 40 := TI.mk (by kernel_rfl)
theorem has10 : Has Try.prog 10 := ⟨_, Try.func10, rfl, by kernel_rfl⟩
theorem has11 : Has Try.prog 11 := ⟨_, Try.func11, rfl, by kernel_rfl⟩
theorem has13 : Has Try.prog 13 := ⟨_, Try.func13, rfl, by kernel_rfl⟩
theorem has16 : Has Try.prog 16 := ⟨_, Try.func16, rfl, by kernel_rfl⟩
theorem ClockPairs_any (A_d : Option Addr) (n_d c_d : Nat) (d : List Ck.Dom) (A_l : Option Addr) (n_l c_l : Nat) (l : List Ck.Snap) (w : World) (h_d : Ls w A_d n_d c_d Ck.Dom.c 2 d) (h_l : Ls w A_l n_l c_l Ck.Snap.c 5 l) :
    Calls Try.prog 6 #[.slice A_d n_d c_d, .slice A_l n_l c_l] w fun e w' => e = .returned (.bool true) ∧ Ext w w' := by
  have xW := Ext.refl w
  have e_d := h_d.len
  have z_d := h_d.nle
  have e_l := h_l.len
  have z_l := h_l.nle
  refine calls_of_WC (args := [.slice A_d n_d c_d, .slice A_l n_l c_l]) Try.func6 rfl rfl (ble rfl) ?_
  refine WC.seq (fun K1 k1 => ?_)
  refine WC.region rfl ?_
  refine WL.yld rfl (blt rfl) rfl (Y.assign rfl rfl) ?_
  refine WL.nil ?_
  refine WK.then_normal (k1 _ _ ?_)
  refine WC.sub [(0, _), (1, _)] ⟨rfl, rfl, trivial⟩ ?_
  refine WC.seq (fun K2 k2 => ?_)
  refine WC.seq (fun K3 k3 => ?_)
  refine WC.region rfl ?_
  refine WL.yld rfl (blt rfl) rfl (Y.move rfl rfl) ?_
  refine WL.yld rfl (blt rfl) rfl (Y.move rfl rfl) ?_
  refine WL.call rfl (blt rfl) rfl rfl rfl has10 rfl (few_any _ _ _ _ _ _ _ _ _ (h_d.ext xW) (h_l.ext xW)) ?_
  rintro _ w4 ⟨rfl, x5⟩
  refine ⟨_, rfl, ?_⟩
  have xW := Ext.trans xW x5
  refine WL.yld rfl (blt rfl) rfl (Y.not rfl rfl) ?_
  refine WL.yld rfl (blt rfl) rfl (Y.move rfl rfl) ?_
  refine WL.yldG rfl (blt rfl) rfl rfl rfl (fun hb => Y.move rfl rfl) ?_
  refine WL.yldG rfl (blt rfl) rfl rfl rfl (fun hb => Y.move rfl rfl) ?_
  refine WL.callG rfl (blt rfl) rfl rfl rfl rfl rfl has13 (fun hb => (evs_cons (evg rfl hb) (evs_cons (evg rfl hb) evs_nil))) (fun hb => rcheck_any _ _ _ _ _ _ _ _ _ (h_d.ext xW) (h_l.ext xW)) (fun w6 x7 => ?_)
  have xW := Ext.trans xW x7
  refine WL.yldG rfl (blt rfl) rfl rfl rfl (fun hb => Y.neq rfl (evg rfl hb) rfl) ?_
  refine WL.yld rfl (blt rfl) rfl (Y.or rfl rfl rfl rfl) ?_
  refine WL.nil ?_
  refine WK.then_normal (k3 _ _ ?_)
  refine WC.sub [(0, _), (1, _), (15, _)] ⟨rfl, rfl, rfl, trivial⟩ ?_
  refine WC.cond rfl (fun h8 => ?_) (fun h8 => ?_)
  ·
    have p8 := ((or_t h8).imp (fun h => ((and_f (not_t h)).imp (fun h => (dec_f h)) (fun h => (dec_f h)))) (fun h => (eq_f (not_t h))))
    refine WC.seq (fun K9 k9 => ?_)
    refine WC.region rfl ?_
    refine WL.call rfl (blt rfl) rfl rfl rfl has11 rfl (lives_any _ ) ?_
    rintro _ w10 ⟨rfl, x11⟩
    refine ⟨_, rfl, ?_⟩
    have xW := Ext.trans xW x11
    refine WL.yld rfl (blt rfl) rfl (Y.assign rfl rfl) ?_
    refine WL.nil ?_
    refine WK.then_normal (k9 _ _ ?_)
    refine WC.sub [(4, _)] ⟨rfl, trivial⟩ ?_
    refine WC.ret ?_
    refine WK.then_ret ?_
    clear k1 k2 k3 k9
    refine WK.ret [_] rfl ⟨rfl, trivial⟩ ?_
    exact ⟨ret1 (vb rfl), xW⟩
  ·
    have p8 := (And.intro (And.intro (dec_t (and_t (not_f (or_f h8).1)).1) (dec_t (and_t (not_f (or_f h8).1)).2)) (eq_t (not_f (or_f h8).2)))
    have ok := Ck.pairs_ok h8
    refine WC.skip ?_
    refine WK.then_normal (k2 _ _ ?_)
    refine WC.sub [(0, _), (1, _)] ⟨rfl, rfl, trivial⟩ ?_
    refine WC.seq (fun K12 k12 => ?_)
    refine WC.seq (fun K13 k13 => ?_)
    refine WC.region rfl ?_
    refine WL.yld rfl (blt rfl) rfl (Y.assign rfl rfl) ?_
    refine WL.nil ?_
    refine WK.then_normal (k13 _ _ ?_)
    refine WC.block ?_
    refine WC.sub [(5, _), (0, _), (1, _)] ⟨rfl, rfl, rfl, trivial⟩ ?_
    refine WC.loopS 1 (fun mz Ed W' => ∃ i : Nat, mz = n_l - i ∧ Ed = [(5, .int .i64 ((i : Nat) : Int))] ∧ Ext w W' ∧ (i ≤ n_l) ∧ (True)) _ ⟨0, rfl, rfl, xW, (Nat.zero_le _), trivial⟩ ?_
    rintro _ _ w14 ⟨i, rfl, rfl, xW, le_i, inv_i⟩
    refine WC.sub [(5, _), (0, _), (1, _)] ⟨rfl, rfl, rfl, trivial⟩ ?_
    refine WC.seq (fun K15 k15 => ?_)
    refine WC.seq (fun K16 k16 => ?_)
    refine WC.region rfl ?_
    refine WL.yld rfl (blt rfl) rfl (Y.move rfl rfl) ?_
    refine WL.yld rfl (blt rfl) rfl (Y.move rfl rfl) ?_
    refine WL.yld rfl (blt rfl) rfl (Y.lenSl rfl rfl rfl Try.underlying23 rfl) ?_
    refine WL.yld rfl (blt rfl) rfl (Y.lss rfl rfl rfl) ?_
    refine WL.nil ?_
    refine WK.then_normal (k16 _ _ ?_)
    refine WC.sub [(0, _), (1, _), (5, _), (20, _)] ⟨rfl, rfl, rfl, rfl, trivial⟩ ?_
    refine WC.cond rfl (fun h17 => ?_) (fun h17 => ?_)
    ·
      have p17 := (dec_t h17)
      refine WC.skip ?_
      refine WK.then_normal (k15 _ _ ?_)
      refine WC.sub [(0, _), (1, _), (5, _)] ⟨rfl, rfl, rfl, trivial⟩ ?_
      refine WC.seq (fun K18 k18 => ?_)
      refine WC.block ?_
      refine WC.seq (fun K19 k19 => ?_)
      refine WC.regionDq (by kernel_rfl) (by kernel_rfl) rfl ?_
      refine WQ.yld rfl (blt rfl) rfl (Y.move rfl rfl) ?_
      refine WQ.yld rfl (blt rfl) rfl (Y.move rfl rfl) ?_
      refine WQ.yld rfl (blt rfl) rfl (Y.move rfl rfl) ?_
      refine WQ.yld rfl (blt rfl) rfl (Y.move rfl rfl) ?_
      have b20 : i < n_l := by omega
      refine WQ.yld rfl (blt rfl) rfl (Y.indexLs i (h_l.ext xW) rfl Try.underlying23 ti37 rfl rfl rfl b20) ?_
      refine WQ.yld rfl (blt rfl) rfl (Y.fieldE rfl Try.underlying37 rfl ti3 (by decide) rfl) ?_
      refine WQ.yld rfl (blt rfl) rfl (Y.load1 rfl Try.underlying3 rfl rfl (Ls.at_ext (h_l.ext xW) b20 rfl)) ?_
      refine WQ.call rfl (blt rfl) rfl rfl rfl has16 rfl (fun w hw => calls_ext hw (linked_any _ _ _ _ _ _ _ _ _ _ (Ls.ext (h_d.ext xW) hw) (Ls.ext (h_l.ext xW) hw) (by omega))) ?_
      refine WQ.yld rfl (blt rfl) rfl (Y.move rfl rfl) ?_
      refine WQ.yld rfl (blt rfl) rfl (Y.move rfl rfl) ?_
      refine WQ.yld rfl (blt rfl) rfl (Y.move rfl rfl) ?_
      refine WQ.yld rfl (blt rfl) rfl (Y.move rfl rfl) ?_
      have b21 : i < n_l := by omega
      refine WQ.yld rfl (blt rfl) rfl (Y.indexLs i (h_l.ext xW) rfl Try.underlying23 ti37 rfl rfl rfl b21) ?_
      refine WQ.yld rfl (blt rfl) rfl (Y.fieldE rfl Try.underlying37 rfl ti3 (by decide) rfl) ?_
      refine WQ.yld rfl (blt rfl) rfl (Y.load1 rfl Try.underlying3 rfl rfl (Ls.at_ext (h_l.ext xW) b21 rfl)) ?_
      refine WQ.call rfl (blt rfl) rfl rfl rfl has16 rfl (fun w hw => calls_ext hw (linked_any _ _ _ _ _ _ _ _ _ _ (Ls.ext (h_d.ext xW) hw) (Ls.ext (h_l.ext xW) hw) (by omega))) ?_
      refine WQ.yld rfl (blt rfl) rfl (Y.neqB rfl Try.underlying4 rfl rfl) ?_
      refine WQ.done (fun w22 x23 => ?_)
      have xW := Ext.trans xW x23
      refine WK.then_normal (k19 _ _ ?_)
      refine WC.sub [(0, _), (1, _), (5, _), (39, _)] ⟨rfl, rfl, rfl, rfl, trivial⟩ ?_
      refine WC.cond rfl (fun h24 => ?_) (fun h24 => ?_)
      ·
        clear k1 k2 k3 k12 k13 k15 k16 k18 k19
        rw [Ck.pairs_eq ok (show i < l.length from by omega)] at h24
        simp at h24
      ·
        refine WC.skip ?_
        refine WK.in_normal ?_
        refine WK.then_normal (k18 _ _ ?_)
        refine WC.sub [(0, _), (1, _), (5, _)] ⟨rfl, rfl, rfl, trivial⟩ ?_
        refine WC.region rfl ?_
        refine WL.yld rfl (blt rfl) rfl (Y.move rfl rfl) ?_
        refine WL.yld rfl (blt rfl) rfl (Y.add rfl rfl rfl (wrap_i64 (by first | omega | (dsimp only; omega)))) ?_
        refine WL.yld rfl (blt rfl) rfl (Y.assign rfl rfl) ?_
        refine WL.nil ?_
        refine WK.roundS _ [(5, .int .i64 (((i + 1) : Nat) : Int))] ⟨rfl, rfl, rfl, trivial⟩ ?_ ⟨(i + 1), rfl, rfl, xW, (by omega), trivial⟩
        show _ - (i + 1) < _ - i; omega
    ·
      have p17 := (dec_f h17)
      refine WC.exit ?_
      refine WK.then_exit ?_
      refine WK.then_exit ?_
      refine WK.in_exit ?_
      refine WK.then_normal (k12 _ _ ?_)
      refine WC.sub [(0, _), (1, _)] ⟨rfl, rfl, trivial⟩ ?_
      refine WC.seq (fun K25 k25 => ?_)
      refine WC.region rfl ?_
      refine WL.yld rfl (blt rfl) rfl (Y.move rfl rfl) ?_
      refine WL.yld rfl (blt rfl) rfl (Y.move rfl rfl) ?_
      refine WL.call rfl (blt rfl) rfl rfl rfl has16 rfl (linked_any _ _ _ _ _ _ _ _ _ _ (h_d.ext xW) (h_l.ext xW) (by omega)) ?_
      rintro _ w26 ⟨rfl, x27⟩
      refine ⟨_, rfl, ?_⟩
      have xW := Ext.trans xW x27
      refine WL.yld rfl (blt rfl) rfl (Yld.cast (Y.move rfl rfl) (vb (b := true) (Ck.linked_zero ok))) ?_
      refine WL.callW rfl (blt rfl) rfl rfl rfl rfl rfl has11 rfl (lives_any _ ) ?_
      rintro _ w28 ⟨rfl, x29⟩
      refine ⟨_, rfl, ?_⟩
      have xW := Ext.trans xW x29
      refine WL.yld rfl (blt rfl) rfl (Y.pickT rfl rfl rfl) ?_
      refine WL.yld rfl (blt rfl) rfl (Y.assign rfl rfl) ?_
      refine WL.nil ?_
      refine WK.then_normal (k25 _ _ ?_)
      refine WC.sub [(4, _)] ⟨rfl, trivial⟩ ?_
      refine WC.ret ?_
      clear k1 k2 k3 k12 k13 k15 k16 k25
      refine WK.ret [_] rfl ⟨rfl, trivial⟩ ?_
      exact ⟨ret1 (vb rfl), xW⟩
end LClockPairs
end CkW

end Go.Proofs.Ytnmmnkmmmfhdbaa
