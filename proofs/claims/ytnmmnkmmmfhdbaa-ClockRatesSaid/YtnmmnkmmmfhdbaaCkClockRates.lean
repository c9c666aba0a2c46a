/- The walk of the law. Conditions: what each theorem states. -/
import Derived.Test.YtnmmnkmmmfhdbaaCkLives
namespace Go.Proofs.Ytnmmnkmmmfhdbaa
open Go Go.Eng Go.RowKit
set_option linter.unusedVariables false
namespace CkW
open R P K V
namespace LClockRates
theorem ti3 : TI Try.prog 3 (.int .i64 0) 1 8 := TI.mk (by kernel_rfl)
theorem ti31 : TI Try.prog 31 (.agg #[.int .i64 0, .int .i64 0]) 2 16 := TI.mk (by kernel_rfl)
theorem has10 : Has Try.prog 10 := ⟨_, Try.func10, rfl, by kernel_rfl⟩
theorem has11 : Has Try.prog 11 := ⟨_, Try.func11, rfl, by kernel_rfl⟩
theorem has12 : Has Try.prog 12 := ⟨_, Try.func12, rfl, by kernel_rfl⟩
theorem has14 : Has Try.prog 14 := ⟨_, Try.func14, rfl, by kernel_rfl⟩
theorem has15 : Has Try.prog 15 := ⟨_, Try.func15, rfl, by kernel_rfl⟩
theorem ClockRates_any (A_d : Option Addr) (n_d c_d : Nat) (d : List Ck.Dom) (id : Int) (w : World) (h_d : Ls w A_d n_d c_d Ck.Dom.c 2 d) :
    Calls Try.prog 4 #[.slice A_d n_d c_d, .int .i64 id] w fun e w' => e = .returned (.bool true) ∧ Ext w w' := by
  have xW := Ext.refl w
  have e_d := h_d.len
  have z_d := h_d.nle
  refine calls_of_WC (args := [.slice A_d n_d c_d, .int .i64 id]) Try.func4 rfl rfl (ble rfl) ?_
  refine WC.seq (fun K1 k1 => ?_)
  refine WC.region rfl ?_
  refine WL.yld rfl (blt rfl) rfl (Y.assign rfl rfl) ?_
  refine WL.nil ?_
  refine WK.then_normal (k1 _ _ ?_)
  refine WC.sub [(0, _), (1, _)] ⟨rfl, rfl, trivial⟩ ?_
  refine WC.seq (fun K2 k2 => ?_)
  refine WC.seq (fun K3 k3 => ?_)
  refine WC.region rfl ?_
  refine WL.yld rfl (blt rfl) rfl (Y.move rfl rfl) ?_
  refine WL.call rfl (blt rfl) rfl rfl rfl has10 rfl (few_any _ _ _ _ _ _ _ _ _ (h_d.ext xW) (Ls.nil (by decide))) ?_
  rintro _ w4 ⟨rfl, x5⟩
  refine ⟨_, rfl, ?_⟩
  have xW := Ext.trans xW x5
  refine WL.yld rfl (blt rfl) rfl (Y.not rfl rfl) ?_
  refine WL.nil ?_
  refine WK.then_normal (k3 _ _ ?_)
  refine WC.sub [(0, _), (1, _), (14, _)] ⟨rfl, rfl, rfl, trivial⟩ ?_
  refine WC.cond rfl (fun h6 => ?_) (fun h6 => ?_)
  ·
    refine WC.seq (fun K7 k7 => ?_)
    refine WC.region rfl ?_
    refine WL.call rfl (blt rfl) rfl rfl rfl has11 rfl (lives_any _ ) ?_
    rintro _ w8 ⟨rfl, x9⟩
    refine ⟨_, rfl, ?_⟩
    have xW := Ext.trans xW x9
    refine WL.yld rfl (blt rfl) rfl (Y.assign rfl rfl) ?_
    refine WL.nil ?_
    refine WK.then_normal (k7 _ _ ?_)
    refine WC.sub [(4, _)] ⟨rfl, trivial⟩ ?_
    refine WC.ret ?_
    refine WK.then_ret ?_
    clear k1 k2 k3 k7
    refine WK.ret [_] rfl ⟨rfl, trivial⟩ ?_
    exact ⟨ret1 (vb rfl), xW⟩
  ·
    refine WC.skip ?_
    refine WK.then_normal (k2 _ _ ?_)
    refine WC.sub [(0, _), (1, _)] ⟨rfl, rfl, trivial⟩ ?_
    refine WC.seq (fun K10 k10 => ?_)
    refine WC.region rfl ?_
    refine WL.yld rfl (blt rfl) rfl (Y.move rfl rfl) ?_
    refine WL.yld rfl (blt rfl) rfl (Y.move rfl rfl) ?_
    refine WL.call rfl (blt rfl) rfl rfl rfl has14 rfl (ppm_any _ _ _ _ _ _ (h_d.ext xW)) ?_
    rintro _ w11 ⟨rfl, x12⟩
    refine ⟨_, rfl, ?_⟩
    have xW := Ext.trans xW x12
    refine WL.yld rfl (blt rfl) rfl (Y.move rfl rfl) ?_
    refine WL.yld rfl (blt rfl) rfl (Y.extract rfl rfl rfl) ?_
    refine WL.yld rfl (blt rfl) rfl (Y.extract rfl rfl rfl) ?_
    refine WL.yld rfl (blt rfl) rfl (Y.assign rfl rfl) ?_
    refine WL.yld rfl (blt rfl) rfl (Y.assign rfl rfl) ?_
    refine WL.nil ?_
    refine WK.then_normal (k10 _ _ ?_)
    refine WC.sub [(0, _), (1, _), (5, _), (6, _)] ⟨rfl, rfl, rfl, rfl, trivial⟩ ?_
    refine WC.seq (fun K13 k13 => ?_)
    refine WC.region rfl ?_
    refine WL.yld rfl (blt rfl) rfl (Y.move rfl rfl) ?_
    refine WL.yld rfl (blt rfl) rfl (Y.move rfl rfl) ?_
    refine WL.call rfl (blt rfl) rfl rfl rfl has15 rfl (rppm_any _ _ _ _ _ _ (h_d.ext xW)) ?_
    rintro _ w14 ⟨rfl, x15⟩
    refine ⟨_, rfl, ?_⟩
    have xW := Ext.trans xW x15
    refine WL.yld rfl (blt rfl) rfl (Y.move rfl rfl) ?_
    refine WL.yld rfl (blt rfl) rfl (Y.extract rfl rfl rfl) ?_
    refine WL.yld rfl (blt rfl) rfl (Y.extract rfl rfl rfl) ?_
    refine WL.yld rfl (blt rfl) rfl (Y.assign rfl rfl) ?_
    refine WL.yld rfl (blt rfl) rfl (Y.assign rfl rfl) ?_
    refine WL.nil ?_
    refine WK.then_normal (k13 _ _ ?_)
    refine WC.sub [(0, _), (5, _), (6, _), (7, _), (8, _)] ⟨rfl, rfl, rfl, rfl, rfl, trivial⟩ ?_
    refine WC.seq (fun K16 k16 => ?_)
    refine WC.seq (fun K17 k17 => ?_)
    refine WC.region rfl ?_
    refine WL.yld rfl (blt rfl) rfl (Y.move rfl rfl) ?_
    refine WL.yld rfl (blt rfl) rfl (Y.move rfl rfl) ?_
    refine WL.yld rfl (blt rfl) rfl (Y.neq rfl rfl rfl) ?_
    refine WL.yld rfl (blt rfl) rfl (Y.move rfl rfl) ?_
    refine WL.yldG rfl (blt rfl) rfl rfl rfl (fun hb => Y.move rfl rfl) ?_
    refine WL.yldG rfl (blt rfl) rfl rfl rfl (fun hb => Y.move rfl rfl) ?_
    refine WL.yldG rfl (blt rfl) rfl rfl rfl (fun hb => Y.neqB rfl Try.underlying4 (evg rfl hb) (evg rfl hb)) ?_
    refine WL.yld rfl (blt rfl) rfl (Y.or rfl rfl rfl rfl) ?_
    refine WL.nil ?_
    refine WK.then_normal (k17 _ _ ?_)
    refine WC.sub [(0, _), (35, _)] ⟨rfl, rfl, trivial⟩ ?_
    refine WC.cond rfl (fun h18 => ?_) (fun h18 => ?_)
    ·
      clear k1 k2 k3 k10 k13 k16 k17
      simp at h18
    ·
      have p18 := (eq_t (not_f (or_f h18).1))
      refine WC.skip ?_
      refine WK.then_normal (k16 _ _ ?_)
      refine WC.sub [(0, _)] ⟨rfl, trivial⟩ ?_
      refine WC.seq (fun K19 k19 => ?_)
      refine WC.seq (fun K20 k20 => ?_)
      refine WC.region rfl ?_
      refine WL.yld rfl (blt rfl) rfl (Y.assign rfl rfl) ?_
      refine WL.nil ?_
      refine WK.then_normal (k20 _ _ ?_)
      refine WC.block ?_
      refine WC.sub [(9, _), (0, _)] ⟨rfl, rfl, trivial⟩ ?_
      refine WC.loopS 1 (fun mz Ed W' => ∃ i : Nat, mz = n_d - i ∧ Ed = [(9, .int .i64 ((i : Nat) : Int))] ∧ Ext w W' ∧ (i ≤ n_d) ∧ (True)) _ ⟨0, rfl, rfl, xW, (Nat.zero_le _), trivial⟩ ?_
      rintro _ _ w21 ⟨i, rfl, rfl, xW, le_i, inv_i⟩
      refine WC.sub [(9, _), (0, _)] ⟨rfl, rfl, trivial⟩ ?_
      refine WC.seq (fun K22 k22 => ?_)
      refine WC.seq (fun K23 k23 => ?_)
      refine WC.region rfl ?_
      refine WL.yld rfl (blt rfl) rfl (Y.move rfl rfl) ?_
      refine WL.yld rfl (blt rfl) rfl (Y.move rfl rfl) ?_
      refine WL.yld rfl (blt rfl) rfl (Y.lenSl rfl rfl rfl Try.underlying22 rfl) ?_
      refine WL.yld rfl (blt rfl) rfl (Y.lss rfl rfl rfl) ?_
      refine WL.yld rfl (blt rfl) rfl (Y.move rfl rfl) ?_
      refine WL.yldG rfl (blt rfl) rfl rfl rfl (fun hb => Y.move rfl rfl) ?_
      refine WL.callG rfl (blt rfl) rfl rfl rfl rfl rfl has12 (fun hb => (evs_cons (evg rfl hb) (evs_cons rfl evs_nil))) (fun hb => check_any _ _ _ _ _ _ _ _ _ (h_d.ext xW) (Ls.nil (by decide))) (fun w24 x25 => ?_)
      have xW := Ext.trans xW x25
      refine WL.yldG rfl (blt rfl) rfl rfl rfl (fun hb => Y.eql rfl (evg rfl hb) rfl) ?_
      refine WL.yld rfl (blt rfl) rfl (Y.and rfl rfl rfl rfl) ?_
      refine WL.nil ?_
      refine WK.then_normal (k23 _ _ ?_)
      refine WC.sub [(0, _), (9, _), (44, _)] ⟨rfl, rfl, rfl, trivial⟩ ?_
      refine WC.cond rfl (fun h26 => ?_) (fun h26 => ?_)
      ·
        have p26 := (And.intro (dec_t (and_t h26).1) (eq_t (and_t h26).2))
        have pp := p26
        refine WC.skip ?_
        refine WK.then_normal (k22 _ _ ?_)
        refine WC.sub [(0, _), (9, _)] ⟨rfl, rfl, trivial⟩ ?_
        refine WC.seq (fun K27 k27 => ?_)
        refine WC.block ?_
        refine WC.seq (fun K28 k28 => ?_)
        refine WC.region rfl ?_
        refine WL.yld rfl (blt rfl) rfl (Y.move rfl rfl) ?_
        refine WL.yld rfl (blt rfl) rfl (Y.move rfl rfl) ?_
        refine WL.yld rfl (blt rfl) rfl (Y.move rfl rfl) ?_
        have b29 : i < n_d := by omega
        refine WL.yld rfl (blt rfl) rfl (Y.indexLs i (h_d.ext xW) rfl Try.underlying22 ti31 rfl rfl rfl b29) ?_
        refine WL.yld rfl (blt rfl) rfl (Y.fieldE rfl Try.underlying31 rfl ti3 (by decide) rfl) ?_
        refine WL.yld rfl (blt rfl) rfl (Y.load1 rfl Try.underlying3 rfl rfl (Ls.at_eq (h_d.ext xW) b29 rfl)) ?_
        refine WL.call rfl (blt rfl) rfl rfl rfl has14 rfl (ppm_any _ _ _ _ _ _ (h_d.ext xW)) ?_
        rintro _ w30 ⟨rfl, x31⟩
        refine ⟨_, rfl, ?_⟩
        have xW := Ext.trans xW x31
        refine WL.yld rfl (blt rfl) rfl (Y.move rfl rfl) ?_
        refine WL.yld rfl (blt rfl) rfl (Y.extract rfl rfl rfl) ?_
        refine WL.yld rfl (blt rfl) rfl (Y.extract rfl rfl rfl) ?_
        refine WL.yld rfl (blt rfl) rfl (Y.assign rfl rfl) ?_
        refine WL.yld rfl (blt rfl) rfl (Y.assign rfl rfl) ?_
        refine WL.nil ?_
        refine WK.then_normal (k28 _ _ ?_)
        refine WC.sub [(0, _), (9, _), (10, _), (11, _)] ⟨rfl, rfl, rfl, rfl, trivial⟩ ?_
        refine WC.seq (fun K32 k32 => ?_)
        refine WC.region rfl ?_
        refine WL.yld rfl (blt rfl) rfl (Y.move rfl rfl) ?_
        refine WL.yld rfl (blt rfl) rfl (Y.move rfl rfl) ?_
        refine WL.yld rfl (blt rfl) rfl (Y.move rfl rfl) ?_
        have b33 : i < n_d := by omega
        refine WL.yld rfl (blt rfl) rfl (Y.indexLs i (h_d.ext xW) rfl Try.underlying22 ti31 rfl rfl rfl b33) ?_
        refine WL.yld rfl (blt rfl) rfl (Y.fieldE rfl Try.underlying31 rfl ti3 (by decide) rfl) ?_
        refine WL.yld rfl (blt rfl) rfl (Y.load1 rfl Try.underlying3 rfl rfl (Ls.at_eq (h_d.ext xW) b33 rfl)) ?_
        refine WL.yld rfl (blt rfl) rfl (Y.neq rfl rfl rfl) ?_
        refine WL.yld rfl (blt rfl) rfl (Y.move rfl rfl) ?_
        refine WL.yldG rfl (blt rfl) rfl rfl rfl (fun hb => Y.move rfl rfl) ?_
        refine WL.yldG rfl (blt rfl) rfl rfl rfl (fun hb => Y.not rfl (evg rfl hb)) ?_
        refine WL.yld rfl (blt rfl) rfl (Y.or rfl rfl rfl rfl) ?_
        refine WL.nil ?_
        refine WK.then_normal (k32 _ _ ?_)
        refine WC.sub [(0, _), (9, _), (67, _)] ⟨rfl, rfl, rfl, trivial⟩ ?_
        refine WC.cond rfl (fun h34 => ?_) (fun h34 => ?_)
        ·
          clear k1 k2 k3 k10 k13 k16 k17 k19 k20 k22 k23 k27 k28 k32
          rw [Ck.ppm_at pp.2 (by omega)] at h34
          simp at h34
        ·
          have p34 := (eq_t (not_f (or_f h34).1))
          refine WC.skip ?_
          refine WK.in_normal ?_
          refine WK.then_normal (k27 _ _ ?_)
          refine WC.sub [(0, _), (9, _)] ⟨rfl, rfl, trivial⟩ ?_
          refine WC.region rfl ?_
          refine WL.yld rfl (blt rfl) rfl (Y.move rfl rfl) ?_
          refine WL.yld rfl (blt rfl) rfl (Y.add rfl rfl rfl (wrap_i64 (by first | omega | (dsimp only; omega)))) ?_
          refine WL.yld rfl (blt rfl) rfl (Y.assign rfl rfl) ?_
          refine WL.nil ?_
          refine WK.roundS _ [(9, .int .i64 (((i + 1) : Nat) : Int))] ⟨rfl, rfl, trivial⟩ ?_ ⟨(i + 1), rfl, rfl, xW, (by omega), trivial⟩
          show _ - (i + 1) < _ - i; omega
      ·
        have p26 := ((and_f h26).imp (fun h => (dec_f h)) (fun h => (eq_f h)))
        refine WC.exit ?_
        refine WK.then_exit ?_
        refine WK.then_exit ?_
        refine WK.in_exit ?_
        refine WK.then_normal (k19 _ _ ?_)
        refine WC.sub [] trivial ?_
        refine WC.seq (fun K35 k35 => ?_)
        refine WC.region rfl ?_
        refine WL.call rfl (blt rfl) rfl rfl rfl has11 rfl (lives_any _ ) ?_
        rintro _ w36 ⟨rfl, x37⟩
        refine ⟨_, rfl, ?_⟩
        have xW := Ext.trans xW x37
        refine WL.yld rfl (blt rfl) rfl (Y.assign rfl rfl) ?_
        refine WL.nil ?_
        refine WK.then_normal (k35 _ _ ?_)
        refine WC.sub [(4, _)] ⟨rfl, trivial⟩ ?_
        refine WC.ret ?_
        clear k1 k2 k3 k10 k13 k16 k17 k19 k20 k22 k23 k35
        refine WK.ret [_] rfl ⟨rfl, trivial⟩ ?_
        exact ⟨ret1 (vb rfl), xW⟩
end LClockRates
end CkW

end Go.Proofs.Ytnmmnkmmmfhdbaa
