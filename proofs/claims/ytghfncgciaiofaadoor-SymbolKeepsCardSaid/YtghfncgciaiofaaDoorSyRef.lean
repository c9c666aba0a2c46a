/- Contracts: the reference checks. Conditions: what each theorem states. -/
import Derived.Test.YtghfncgciaiofaaDoorSyWalk
namespace Go.Proofs.YtghfncgciaiofaaDoor
open Go Go.Eng Go.RowKit
set_option linter.unusedVariables false
namespace SyW
namespace R
theorem ti3 : TI Tryd.prog 3 (.int .i64 0) 1 8 := TI.mk (by kernel_rfl)
theorem ti9 : TI Tryd.prog 9 (.string ⟨#[]⟩) 1 16 := TI.mk (by kernel_rfl)
theorem ti32 : TI Tryd.prog 32 (.slice none 0 0) 1 24 := TI.mk (by kernel_rfl)
theorem ti34 : TI Tryd.prog 34 (.agg #[.string ⟨#[]⟩, .int .i64 0, .int .i64 0, .slice none 0 0]) 4 56 := TI.mk (by kernel_rfl)
theorem ti36 : TI Tryd.prog 36 (.agg #[.int .i64 0, .string ⟨#[]⟩]) 2 24 := TI.mk (by kernel_rfl)
theorem has24 : Has Tryd.prog 24 := ⟨_, Tryd.func24, rfl, by kernel_rfl⟩
theorem has25 : Has Tryd.prog 25 := ⟨_, Tryd.func25, rfl, by kernel_rfl⟩
theorem rcheck_any (A_l : Option Addr) (n_l c_l : Nat) (l : List Sy.M) (w : World) (h_l : Ls w A_l n_l c_l Sy.M.v 4 l) (g_l : Sy.Good w l) (hF : Sy.Few l) :
    Calls Tryd.prog 13 #[.slice A_l n_l c_l] w fun e w' => e = .returned (.int .i64 (Sy.chkE l)) ∧ Ext w w' := by
  have xW := Ext.refl w
  have e_l := h_l.len
  have z_l := h_l.nle
  refine calls_of_WC (args := [.slice A_l n_l c_l]) Tryd.func13 rfl rfl (ble rfl) ?_
  refine WC.seq (fun K1 k1 => ?_)
  refine WC.region rfl ?_
  refine WL.yld rfl (blt rfl) rfl (Y.assign rfl rfl) ?_
  refine WL.nil ?_
  refine WK.then_normal (k1 _ _ ?_)
  refine WC.sub [(0, _)] ⟨rfl, trivial⟩ ?_
  refine WC.seq (fun K2 k2 => ?_)
  refine WC.region rfl ?_
  refine WL.yld rfl (blt rfl) rfl (Y.assign rfl rfl) ?_
  refine WL.nil ?_
  refine WK.then_normal (k2 _ _ ?_)
  refine WC.seq (fun K3 k3 => ?_)
  refine WC.seq (fun K4 k4 => ?_)
  refine WC.region rfl ?_
  refine WL.yld rfl (blt rfl) rfl (Y.assign rfl rfl) ?_
  refine WL.nil ?_
  refine WK.then_normal (k4 _ _ ?_)
  refine WC.block ?_
  refine WC.sub [(4, _), (3, _), (0, _)] ⟨rfl, rfl, rfl, trivial⟩ ?_
  refine WC.loopS 2 (fun mz Ed W' => ∃ i : Nat, ∃ z : Nat, mz = n_l - i ∧ Ed = [(4, .int .i64 ((i : Nat) : Int)), (3, .int .i64 ((z : Nat) : Int))] ∧ Ext w W' ∧ (i ≤ n_l) ∧ (z = Sy.tot l i)) _ ⟨0, 0, rfl, rfl, xW, (Nat.zero_le _), rfl⟩ ?_
  rintro _ _ w5 ⟨i, z, rfl, rfl, xW, le_i, zi⟩
  refine WC.sub [(4, _), (3, _), (0, _)] ⟨rfl, rfl, rfl, trivial⟩ ?_
  refine WC.seq (fun K6 k6 => ?_)
  refine WC.seq (fun K7 k7 => ?_)
  refine WC.region rfl ?_
  refine WL.yld rfl (blt rfl) rfl (Y.move rfl rfl) ?_
  refine WL.yld rfl (blt rfl) rfl (Y.move rfl rfl) ?_
  refine WL.yld rfl (blt rfl) rfl (Y.lenSl rfl rfl rfl Tryd.underlying22 rfl) ?_
  refine WL.yld rfl (blt rfl) rfl (Y.lss rfl rfl rfl) ?_
  refine WL.nil ?_
  refine WK.then_normal (k7 _ _ ?_)
  refine WC.sub [(0, _), (3, _), (4, _), (11, _)] ⟨rfl, rfl, rfl, rfl, trivial⟩ ?_
  refine WC.cond rfl (fun h8 => ?_) (fun h8 => ?_)
  ·
    have p8 := (dec_t h8)
    have mb := hF.m _ (bang_mem (show i < l.length from by omega))
    have tb := Sy.tot_le hF i (by omega)
    have fn := hF.n
    refine WC.skip ?_
    refine WK.then_normal (k6 _ _ ?_)
    refine WC.sub [(0, _), (3, _), (4, _)] ⟨rfl, rfl, rfl, trivial⟩ ?_
    refine WC.seq (fun K9 k9 => ?_)
    refine WC.block ?_
    refine WC.region rfl ?_
    refine WL.yld rfl (blt rfl) rfl (Y.move rfl rfl) ?_
    refine WL.yld rfl (blt rfl) rfl (Y.move rfl rfl) ?_
    refine WL.yld rfl (blt rfl) rfl (Y.move rfl rfl) ?_
    have b10 : i < n_l := by omega
    refine WL.yld rfl (blt rfl) rfl (Y.indexLs i (h_l.ext xW) rfl Tryd.underlying22 ti34 rfl rfl rfl b10) ?_
    refine WL.yld rfl (blt rfl) rfl (Y.fieldE rfl Tryd.underlying34 rfl ti32 (by decide) rfl) ?_
    refine WL.yld rfl (blt rfl) rfl (Y.load1 rfl Tryd.underlying32 rfl rfl (Ls.at_eq (h_l.ext xW) b10 rfl)) ?_
    refine WL.yld rfl (blt rfl) rfl (Y.lenSl rfl rfl rfl Tryd.underlying32 rfl) ?_
    refine WL.yld rfl (blt rfl) rfl (Y.add rfl rfl rfl (wrap_i64 (by first | omega | (dsimp only; omega)))) ?_
    refine WL.yld rfl (blt rfl) rfl (Y.assign rfl rfl) ?_
    refine WL.nil ?_
    refine WK.in_normal ?_
    refine WK.then_normal (k9 _ _ ?_)
    refine WC.sub [(0, _), (3, _), (4, _)] ⟨rfl, rfl, rfl, trivial⟩ ?_
    refine WC.region rfl ?_
    refine WL.yld rfl (blt rfl) rfl (Y.move rfl rfl) ?_
    refine WL.yld rfl (blt rfl) rfl (Y.add rfl rfl rfl (wrap_i64 (by first | omega | (dsimp only; omega)))) ?_
    refine WL.yld rfl (blt rfl) rfl (Y.assign rfl rfl) ?_
    refine WL.nil ?_
    refine WK.roundS _ [(4, .int .i64 (((i + 1) : Nat) : Int)), (3, .int .i64 (((z + l[i]!.n) : Nat) : Int))] ⟨rfl, rfl, rfl, trivial⟩ ?_ ⟨(i + 1), (z + l[i]!.n), rfl, rfl, xW, (by omega), (by rw [zi]; rfl)⟩
    show _ - (i + 1) < _ - i; omega
  ·
    have p8 := (dec_f h8)
    have tb := Sy.tot_le hF i (by omega)
    have fn := hF.n
    refine WC.exit ?_
    refine WK.then_exit ?_
    refine WK.then_exit ?_
    refine WK.in_exit ?_
    refine WK.then_normal (k3 _ _ ?_)
    refine WC.sub [(0, _), (3, _)] ⟨rfl, rfl, trivial⟩ ?_
    refine WC.seq (fun K11 k11 => ?_)
    refine WC.seq (fun K12 k12 => ?_)
    refine WC.region rfl ?_
    refine WL.yld rfl (blt rfl) rfl (Y.move rfl rfl) ?_
    refine WL.yld rfl (blt rfl) rfl (Y.lenSl rfl rfl rfl Tryd.underlying22 rfl) ?_
    refine WL.yld rfl (blt rfl) rfl (Y.gtr rfl rfl rfl) ?_
    refine WL.yld rfl (blt rfl) rfl (Y.move rfl rfl) ?_
    refine WL.yldG rfl (blt rfl) rfl rfl rfl (fun hb => Y.move rfl rfl) ?_
    refine WL.yldG rfl (blt rfl) rfl rfl rfl (fun hb => Y.gtr rfl (evg rfl hb) rfl) ?_
    refine WL.yld rfl (blt rfl) rfl (Y.or rfl rfl rfl rfl) ?_
    refine WL.nil ?_
    refine WK.then_normal (k12 _ _ ?_)
    refine WC.sub [(0, _), (28, _)] ⟨rfl, rfl, trivial⟩ ?_
    refine WC.cond rfl (fun h13 => ?_) (fun h13 => ?_)
    ·
      have p13 := ((or_t h13).imp (fun h => (dec_t h)) (fun h => (dec_t h)))
      have hm : Sy.many l = true := (Sy.many_at e_l (show z = Sy.tot l n_l from by rw [zi, show i = n_l by omega])).symm.trans h13
      refine WC.seq (fun K14 k14 => ?_)
      refine WC.region rfl ?_
      refine WL.yld rfl (blt rfl) rfl (Y.assign rfl rfl) ?_
      refine WL.nil ?_
      refine WK.then_normal (k14 _ _ ?_)
      refine WC.sub [(2, _)] ⟨rfl, trivial⟩ ?_
      refine WC.ret ?_
      refine WK.then_ret ?_
      clear k1 k2 k3 k4 k6 k7 k11 k12 k14
      refine WK.ret [_] rfl ⟨rfl, trivial⟩ ?_
      exact ⟨ret1 (vi (Sy.chk_many hm).symm), xW⟩
    ·
      have p13 := (And.intro (dec_f (or_f h13).1) (dec_f (or_f h13).2))
      have hm : Sy.many l = false := (Sy.many_at e_l (show z = Sy.tot l n_l from by rw [zi, show i = n_l by omega])).symm.trans h13
      refine WC.skip ?_
      refine WK.then_normal (k11 _ _ ?_)
      refine WC.sub [(0, _)] ⟨rfl, trivial⟩ ?_
      refine WC.seq (fun K15 k15 => ?_)
      refine WC.seq (fun K16 k16 => ?_)
      refine WC.region rfl ?_
      refine WL.yld rfl (blt rfl) rfl (Y.assign rfl rfl) ?_
      refine WL.nil ?_
      refine WK.then_normal (k16 _ _ ?_)
      refine WC.block ?_
      refine WC.sub [(5, _), (0, _)] ⟨rfl, rfl, trivial⟩ ?_
      refine WC.loopS 1 (fun mz Ed W' => ∃ i : Nat, mz = n_l - i ∧ Ed = [(5, .int .i64 ((i : Nat) : Int))] ∧ Ext w W' ∧ (i ≤ n_l) ∧ (∀ j, j < i → Sy.chk1 l j = 0)) _ ⟨0, rfl, rfl, xW, (Nat.zero_le _), (fun j hj => absurd hj (Nat.not_lt_zero j))⟩ ?_
      rintro _ _ w17 ⟨i, rfl, rfl, xW, le_i, inv_i⟩
      refine WC.sub [(5, _), (0, _)] ⟨rfl, rfl, trivial⟩ ?_
      refine WC.seq (fun K18 k18 => ?_)
      refine WC.seq (fun K19 k19 => ?_)
      refine WC.region rfl ?_
      refine WL.yld rfl (blt rfl) rfl (Y.move rfl rfl) ?_
      refine WL.yld rfl (blt rfl) rfl (Y.move rfl rfl) ?_
      refine WL.yld rfl (blt rfl) rfl (Y.lenSl rfl rfl rfl Tryd.underlying22 rfl) ?_
      refine WL.yld rfl (blt rfl) rfl (Y.lss rfl rfl rfl) ?_
      refine WL.nil ?_
      refine WK.then_normal (k19 _ _ ?_)
      refine WC.sub [(0, _), (5, _), (32, _)] ⟨rfl, rfl, rfl, trivial⟩ ?_
      refine WC.cond rfl (fun h20 => ?_) (fun h20 => ?_)
      ·
        have p20 := (dec_t h20)
        refine WC.skip ?_
        refine WK.then_normal (k18 _ _ ?_)
        refine WC.sub [(0, _), (5, _)] ⟨rfl, rfl, trivial⟩ ?_
        refine WC.seq (fun K21 k21 => ?_)
        refine WC.block ?_
        refine WC.seq (fun K22 k22 => ?_)
        refine WC.region rfl ?_
        refine WL.yld rfl (blt rfl) rfl (Y.move rfl rfl) ?_
        refine WL.yld rfl (blt rfl) rfl (Y.move rfl rfl) ?_
        have b23 : i < n_l := by omega
        refine WL.yld rfl (blt rfl) rfl (Y.indexLs i (h_l.ext xW) rfl Tryd.underlying22 ti34 rfl rfl rfl b23) ?_
        refine WL.yld rfl (blt rfl) rfl (Y.loadS (cs := [_, _, _, _]) rfl Tryd.underlying34 rfl ti34 rfl (Ls.part_eq (h_l.ext xW) b23 rfl)) ?_
        refine WL.alloc rfl (blt rfl) rfl rfl ti34 rfl ?_
        intro g24 w25 e26 x27 m28
        have o_g24 := own_new xW e26
        have xW := Ext.trans xW x27
        refine WL.store (cs' := [_, _, _, _]) rfl rfl rfl rfl rfl rfl ti34 m28 (ble rfl) rfl rfl (fun w29 on30 m31 => ?_)
        have xW := Ext.only xW on30 o_g24
        refine WL.nil ?_
        refine WK.then_normal (k22 _ _ ?_)
        refine WC.sub [(0, _), (5, _), (6, _)] ⟨rfl, rfl, rfl, trivial⟩ ?_
        refine WC.seq (fun K32 k32 => ?_)
        refine WC.region rfl ?_
        refine WL.yld rfl (blt rfl) rfl (Y.fieldAddr rfl Tryd.underlying34 rfl ti9 (by decide) rfl) ?_
        refine WL.yld rfl (blt rfl) rfl (Y.load1 rfl Tryd.underlying9 rfl rfl (Blk.at_eq m31 rfl)) ?_
        refine WL.call rfl (blt rfl) rfl rfl rfl has24 rfl (rname_any _ _ ) ?_
        rintro _ w33 ⟨rfl, x34⟩
        refine ⟨_, rfl, ?_⟩
        have m31 := m31.ext x34
        have xW := Ext.trans xW x34
        refine WL.yld rfl (blt rfl) rfl (Y.assign rfl rfl) ?_
        refine WL.nil ?_
        refine WK.then_normal (k32 _ _ ?_)
        refine WC.sub [(0, _), (5, _), (6, _), (7, _)] ⟨rfl, rfl, rfl, rfl, trivial⟩ ?_
        refine WC.seq (fun K35 k35 => ?_)
        refine WC.seq (fun K36 k36 => ?_)
        refine WC.region rfl ?_
        refine WL.yld rfl (blt rfl) rfl (Y.move rfl rfl) ?_
        refine WL.yld rfl (blt rfl) rfl (Y.neq rfl rfl rfl) ?_
        refine WL.nil ?_
        refine WK.then_normal (k36 _ _ ?_)
        refine WC.sub [(0, _), (5, _), (6, _), (7, _), (43, _)] ⟨rfl, rfl, rfl, rfl, rfl, trivial⟩ ?_
        refine WC.cond rfl (fun h37 => ?_) (fun h37 => ?_)
        ·
          have p37 := (eq_f (not_t h37))
          refine WC.seq (fun K38 k38 => ?_)
          refine WC.region rfl ?_
          refine WL.yld rfl (blt rfl) rfl (Y.move rfl rfl) ?_
          refine WL.yld rfl (blt rfl) rfl (Y.assign rfl rfl) ?_
          refine WL.nil ?_
          refine WK.then_normal (k38 _ _ ?_)
          refine WC.sub [(2, _)] ⟨rfl, trivial⟩ ?_
          refine WC.ret ?_
          refine WK.then_ret ?_
          refine WK.in_ret ?_
          refine WK.then_ret ?_
          refine WK.then_ret ?_
          refine WK.in_ret ?_
          refine WK.then_ret ?_
          clear k1 k2 k3 k4 k6 k7 k11 k12 k15 k16 k18 k19 k21 k22 k32 k35 k36 k38
          refine WK.ret [_] rfl ⟨rfl, trivial⟩ ?_
          have cc : Sy.chk1 l i = _ := Sy.modE_nm (a := Sy.befo l i) (by have q := h37; simpa using q)
          exact ⟨ret1 (vi (Eq.symm ((Sy.chk_few hm).trans ((Sy.fst_hit (show i < l.length from by omega) inv_i (by rw [cc]; exact (by have q := h37; simpa using q))).trans cc)))), xW⟩
        ·
          have p37 := (eq_t (not_f h37))
          refine WC.skip ?_
          refine WK.then_normal (k35 _ _ ?_)
          refine WC.sub [(0, _), (5, _), (6, _)] ⟨rfl, rfl, rfl, trivial⟩ ?_
          refine WC.seq (fun K39 k39 => ?_)
          refine WC.seq (fun K40 k40 => ?_)
          refine WC.region rfl ?_
          refine WL.yld rfl (blt rfl) rfl (Y.fieldAddr rfl Tryd.underlying34 rfl ti3 (by decide) rfl) ?_
          refine WL.yld rfl (blt rfl) rfl (Y.load1 rfl Tryd.underlying3 rfl rfl (Blk.at_eq m31 rfl)) ?_
          refine WL.yld rfl (blt rfl) rfl (Y.lss rfl rfl rfl) ?_
          refine WL.yld rfl (blt rfl) rfl (Y.move rfl rfl) ?_
          refine WL.yldG rfl (blt rfl) rfl rfl rfl (fun hb => Y.fieldAddr rfl Tryd.underlying34 rfl ti3 (by decide) rfl) ?_
          refine WL.yldG rfl (blt rfl) rfl rfl rfl (fun hb => Y.load1 rfl Tryd.underlying3 rfl (evg rfl hb) (Blk.at_eq m31 rfl)) ?_
          refine WL.yldG rfl (blt rfl) rfl rfl rfl (fun hb => Y.gtr rfl (evg rfl hb) rfl) ?_
          refine WL.yld rfl (blt rfl) rfl (Y.or rfl rfl rfl rfl) ?_
          refine WL.yld rfl (blt rfl) rfl (Y.move rfl rfl) ?_
          refine WL.yldG rfl (blt rfl) rfl rfl rfl (fun hb => Y.fieldAddr rfl Tryd.underlying34 rfl ti3 (by decide) rfl) ?_
          refine WL.yldG rfl (blt rfl) rfl rfl rfl (fun hb => Y.load1 rfl Tryd.underlying3 rfl (evg rfl hb) (Blk.at_eq m31 rfl)) ?_
          refine WL.yldG rfl (blt rfl) rfl rfl rfl (fun hb => Y.lss rfl (evg rfl hb) rfl) ?_
          refine WL.yld rfl (blt rfl) rfl (Y.or rfl rfl rfl rfl) ?_
          refine WL.yld rfl (blt rfl) rfl (Y.move rfl rfl) ?_
          refine WL.yldG rfl (blt rfl) rfl rfl rfl (fun hb => Y.fieldAddr rfl Tryd.underlying34 rfl ti3 (by decide) rfl) ?_
          refine WL.yldG rfl (blt rfl) rfl rfl rfl (fun hb => Y.load1 rfl Tryd.underlying3 rfl (evg rfl hb) (Blk.at_eq m31 rfl)) ?_
          refine WL.yldG rfl (blt rfl) rfl rfl rfl (fun hb => Y.gtr rfl (evg rfl hb) rfl) ?_
          refine WL.yld rfl (blt rfl) rfl (Y.or rfl rfl rfl rfl) ?_
          refine WL.yld rfl (blt rfl) rfl (Y.move rfl rfl) ?_
          refine WL.yldG rfl (blt rfl) rfl rfl rfl (fun hb => Y.fieldAddr rfl Tryd.underlying34 rfl ti3 (by decide) rfl) ?_
          refine WL.yldG rfl (blt rfl) rfl rfl rfl (fun hb => Y.load1 rfl Tryd.underlying3 rfl (evg rfl hb) (Blk.at_eq m31 rfl)) ?_
          refine WL.yldG rfl (blt rfl) rfl rfl rfl (fun hb => Y.fieldAddr rfl Tryd.underlying34 rfl ti3 (by decide) rfl) ?_
          refine WL.yldG rfl (blt rfl) rfl rfl rfl (fun hb => Y.load1 rfl Tryd.underlying3 rfl (evg rfl hb) (Blk.at_eq m31 rfl)) ?_
          refine WL.yldG rfl (blt rfl) rfl rfl rfl (fun hb => Y.add rfl (evg rfl hb) (evg rfl hb) (wrap_i64 (by have q0 := (And.intro (And.intro (And.intro (dec_f (or_f (or_f (or_f hb).1).1).1) (dec_f (or_f (or_f (or_f hb).1).1).2)) (dec_f (or_f (or_f hb).1).2)) (dec_f (or_f hb).2)); first | omega | (dsimp only; omega)))) ?_
          refine WL.yldG rfl (blt rfl) rfl rfl rfl (fun hb => Y.gtr rfl (evg rfl hb) rfl) ?_
          refine WL.yld rfl (blt rfl) rfl (Y.or rfl rfl rfl rfl) ?_
          refine WL.nil ?_
          refine WK.then_normal (k40 _ _ ?_)
          refine WC.sub [(0, _), (5, _), (6, _), (70, _)] ⟨rfl, rfl, rfl, rfl, trivial⟩ ?_
          refine WC.cond rfl (fun h41 => ?_) (fun h41 => ?_)
          ·
            have p41 := ((or_t h41).imp (fun h => ((or_t h).imp (fun h => ((or_t h).imp (fun h => ((or_t h).imp (fun h => (dec_t h)) (fun h => (dec_t h)))) (fun h => (dec_t h)))) (fun h => (dec_t h)))) (fun h => (dec_t h)))
            refine WC.seq (fun K42 k42 => ?_)
            refine WC.region rfl ?_
            refine WL.yld rfl (blt rfl) rfl (Y.assign rfl rfl) ?_
            refine WL.nil ?_
            refine WK.then_normal (k42 _ _ ?_)
            refine WC.sub [(2, _)] ⟨rfl, trivial⟩ ?_
            refine WC.ret ?_
            refine WK.then_ret ?_
            refine WK.in_ret ?_
            refine WK.then_ret ?_
            refine WK.then_ret ?_
            refine WK.in_ret ?_
            refine WK.then_ret ?_
            clear k1 k2 k3 k4 k6 k7 k11 k12 k15 k16 k18 k19 k21 k22 k32 k35 k36 k39 k40 k42
            refine WK.ret [_] rfl ⟨rfl, trivial⟩ ?_
            have cc : Sy.chk1 l i = _ := Sy.modE_rng (a := Sy.befo l i) (by have q := h37; simpa using q) h41
            exact ⟨ret1 (vi (Eq.symm ((Sy.chk_few hm).trans ((Sy.fst_hit (show i < l.length from by omega) inv_i (by rw [cc]; decide)).trans cc)))), xW⟩
          ·
            have p41 := (And.intro (And.intro (And.intro (And.intro (dec_f (or_f (or_f (or_f (or_f h41).1).1).1).1) (dec_f (or_f (or_f (or_f (or_f h41).1).1).1).2)) (dec_f (or_f (or_f (or_f h41).1).1).2)) (dec_f (or_f (or_f h41).1).2)) (dec_f (or_f h41).2))
            have va := Sy.rng_no h41
            have vp : 0 < i → 0 ≤ l[i - 1]!.b ∧ l[i - 1]!.b ≤ 1000000000000000 ∧ 1 ≤ l[i - 1]!.s ∧ l[i - 1]!.s ≤ 1000000000000000 ∧ l[i - 1]!.b + l[i - 1]!.s ≤ 1000000000000000 := fun h0 => (Sy.modE_val (inv_i (i - 1) (by omega))).rng
            refine WC.skip ?_
            refine WK.then_normal (k39 _ _ ?_)
            refine WC.sub [(0, _), (5, _), (6, _)] ⟨rfl, rfl, rfl, trivial⟩ ?_
            refine WC.seq (fun K43 k43 => ?_)
            refine WC.seq (fun K44 k44 => ?_)
            refine WC.regionDq (by kernel_rfl) (by kernel_rfl) rfl ?_
            refine WQ.yld rfl (blt rfl) rfl (Y.move rfl rfl) ?_
            refine WQ.yld rfl (blt rfl) rfl (Y.gtr rfl rfl rfl) ?_
            refine WQ.yld rfl (blt rfl) rfl (Y.move rfl rfl) ?_
            refine WQ.yldG rfl (blt rfl) rfl rfl rfl (fun hb => Y.fieldAddr rfl Tryd.underlying34 rfl ti3 (by decide) rfl) ?_
            refine WQ.yldG rfl (blt rfl) rfl rfl rfl (fun hb => Y.load1 rfl Tryd.underlying3 rfl (evg rfl hb) (Blk.at_ext m31 rfl)) ?_
            refine WQ.yldG rfl (blt rfl) rfl rfl rfl (fun hb => Y.move rfl rfl) ?_
            refine WQ.yldG rfl (blt rfl) rfl rfl rfl (fun hb => Y.move rfl rfl) ?_
            refine WQ.yldG rfl (blt rfl) rfl rfl rfl (fun hb => Y.sub rfl (evg rfl hb) rfl (wrap_i64 (by have q0 := (dec_t hb); first | omega | (dsimp only; omega)))) ?_
            refine WQ.yldG rfl (blt rfl) rfl rfl rfl (fun hb => Y.indexLs (i - 1) (h_l.ext xW) rfl Tryd.underlying22 ti34 (evg rfl hb) (evg rfl hb) (by have q0 := (dec_t hb); omega) (by have q0 := (dec_t hb); omega)) ?_
            refine WQ.yldG rfl (blt rfl) rfl rfl rfl (fun hb => Y.fieldE rfl Tryd.underlying34 rfl ti3 (by decide) (evg rfl hb)) ?_
            refine WQ.yldG rfl (blt rfl) rfl rfl rfl (fun hb => Y.load1 rfl Tryd.underlying3 rfl (evg rfl hb) (Ls.at_ext (h_l.ext xW) (by have q0 := (dec_t hb); omega) rfl)) ?_
            refine WQ.yldG rfl (blt rfl) rfl rfl rfl (fun hb => Y.move rfl rfl) ?_
            refine WQ.yldG rfl (blt rfl) rfl rfl rfl (fun hb => Y.move rfl rfl) ?_
            refine WQ.yldG rfl (blt rfl) rfl rfl rfl (fun hb => Y.sub rfl (evg rfl hb) rfl (wrap_i64 (by have q0 := (dec_t hb); first | omega | (dsimp only; omega)))) ?_
            refine WQ.yldG rfl (blt rfl) rfl rfl rfl (fun hb => Y.indexLs (i - 1) (h_l.ext xW) rfl Tryd.underlying22 ti34 (evg rfl hb) (evg rfl hb) (by have q0 := (dec_t hb); omega) (by have q0 := (dec_t hb); omega)) ?_
            refine WQ.yldG rfl (blt rfl) rfl rfl rfl (fun hb => Y.fieldE rfl Tryd.underlying34 rfl ti3 (by decide) (evg rfl hb)) ?_
            refine WQ.yldG rfl (blt rfl) rfl rfl rfl (fun hb => Y.load1 rfl Tryd.underlying3 rfl (evg rfl hb) (Ls.at_ext (h_l.ext xW) (by have q0 := (dec_t hb); omega) rfl)) ?_
            refine WQ.yldG rfl (blt rfl) rfl rfl rfl (fun hb => Y.add rfl (evg rfl hb) (evg rfl hb) (wrap_i64 (by have q0 := dec_t hb; have q := vp (by omega); omega))) ?_
            refine WQ.yldG rfl (blt rfl) rfl rfl rfl (fun hb => Y.lss rfl (evg rfl hb) (evg rfl hb)) ?_
            refine WQ.yld rfl (blt rfl) rfl (Y.and rfl rfl rfl rfl) ?_
            refine WQ.done (fun w45 x46 => ?_)
            have m31 := m31.ext x46
            have xW := Ext.trans xW x46
            refine WK.then_normal (k44 _ _ ?_)
            refine WC.sub [(0, _), (5, _), (6, _), (90, _)] ⟨rfl, rfl, rfl, rfl, trivial⟩ ?_
            refine WC.cond rfl (fun h47 => ?_) (fun h47 => ?_)
            ·
              have p47 := (And.intro (dec_t (and_t h47).1) (dec_t (and_t h47).2))
              refine WC.seq (fun K48 k48 => ?_)
              refine WC.region rfl ?_
              refine WL.yld rfl (blt rfl) rfl (Y.assign rfl rfl) ?_
              refine WL.nil ?_
              refine WK.then_normal (k48 _ _ ?_)
              refine WC.sub [(2, _)] ⟨rfl, trivial⟩ ?_
              refine WC.ret ?_
              refine WK.then_ret ?_
              refine WK.in_ret ?_
              refine WK.then_ret ?_
              refine WK.then_ret ?_
              refine WK.in_ret ?_
              refine WK.then_ret ?_
              clear k1 k2 k3 k4 k6 k7 k11 k12 k15 k16 k18 k19 k21 k22 k32 k35 k36 k39 k40 k43 k44 k48
              refine WK.ret [_] rfl ⟨rfl, trivial⟩ ?_
              have cc : Sy.chk1 l i = _ := Sy.modE_ord (by have q := h37; simpa using q) h41 (show l[i]!.b < Sy.befo l i by have q := h47; simp only [Bool.and_eq_true, decide_eq_true_eq] at q; rw [Sy.befo_pos (by omega)]; omega)
              exact ⟨ret1 (vi (Eq.symm ((Sy.chk_few hm).trans ((Sy.fst_hit (show i < l.length from by omega) inv_i (by rw [cc]; decide)).trans cc)))), xW⟩
            ·
              have p47 := ((and_f h47).imp (fun h => (dec_f h)) (fun h => (dec_f h)))
              have ck1 := Sy.modE_sym (by have q := h37; simpa using q) h41 (show ¬ l[i]!.b < Sy.befo l i by by_cases hi0 : 0 < i; (rw [Sy.befo_pos hi0]; have q := h47; simp only [Bool.and_eq_false_iff, decide_eq_false_iff_not] at q; omega); (rw [show i = 0 by omega, Sy.befo_zero]; have q := Sy.rng_no h41; rw [show i = 0 by omega] at q; omega))
              refine WC.skip ?_
              refine WK.then_normal (k43 _ _ ?_)
              refine WC.sub [(0, _), (5, _), (6, _)] ⟨rfl, rfl, rfl, trivial⟩ ?_
              refine WC.seq (fun K49 k49 => ?_)
              refine WC.region rfl ?_
              refine WL.yld rfl (blt rfl) rfl (Y.loadS rfl Tryd.underlying34 rfl ti34 rfl (Blk.row_eq m31)) ?_
              refine WL.call rfl (blt rfl) rfl rfl rfl has25 rfl (rsymbols_any _ _ ((g_l _ (bang_mem (show i < l.length from by omega))).ext xW)) ?_
              rintro _ w50 ⟨rfl, x51⟩
              refine ⟨_, rfl, ?_⟩
              have m31 := m31.ext x51
              have xW := Ext.trans xW x51
              refine WL.yld rfl (blt rfl) rfl (Y.assign rfl rfl) ?_
              refine WL.nil ?_
              refine WK.then_normal (k49 _ _ ?_)
              refine WC.sub [(0, _), (5, _), (7, _)] ⟨rfl, rfl, rfl, trivial⟩ ?_
              refine WC.seq (fun K52 k52 => ?_)
              refine WC.region rfl ?_
              refine WL.yld rfl (blt rfl) rfl (Y.move rfl rfl) ?_
              refine WL.yld rfl (blt rfl) rfl (Y.neq rfl rfl rfl) ?_
              refine WL.nil ?_
              refine WK.then_normal (k52 _ _ ?_)
              refine WC.sub [(0, _), (5, _), (7, _), (94, _)] ⟨rfl, rfl, rfl, rfl, trivial⟩ ?_
              refine WC.cond rfl (fun h53 => ?_) (fun h53 => ?_)
              ·
                have p53 := (eq_f (not_t h53))
                refine WC.seq (fun K54 k54 => ?_)
                refine WC.region rfl ?_
                refine WL.yld rfl (blt rfl) rfl (Y.move rfl rfl) ?_
                refine WL.yld rfl (blt rfl) rfl (Y.assign rfl rfl) ?_
                refine WL.nil ?_
                refine WK.then_normal (k54 _ _ ?_)
                refine WC.sub [(2, _)] ⟨rfl, trivial⟩ ?_
                refine WC.ret ?_
                refine WK.in_ret ?_
                refine WK.then_ret ?_
                refine WK.then_ret ?_
                refine WK.in_ret ?_
                refine WK.then_ret ?_
                clear k1 k2 k3 k4 k6 k7 k11 k12 k15 k16 k18 k19 k21 k22 k32 k35 k36 k39 k40 k43 k44 k49 k52 k54
                refine WK.ret [_] rfl ⟨rfl, trivial⟩ ?_
                have cc : Sy.chk1 l i = _ := ck1
                exact ⟨ret1 (vi (Eq.symm ((Sy.chk_few hm).trans ((Sy.fst_hit (show i < l.length from by omega) inv_i (by rw [cc]; exact (by have q := h53; simpa using q))).trans cc)))), xW⟩
              ·
                have p53 := (eq_t (not_f h53))
                refine WC.skip ?_
                refine WK.in_normal ?_
                refine WK.then_normal (k21 _ _ ?_)
                refine WC.sub [(0, _), (5, _)] ⟨rfl, rfl, trivial⟩ ?_
                refine WC.region rfl ?_
                refine WL.yld rfl (blt rfl) rfl (Y.move rfl rfl) ?_
                refine WL.yld rfl (blt rfl) rfl (Y.add rfl rfl rfl (wrap_i64 (by first | omega | (dsimp only; omega)))) ?_
                refine WL.yld rfl (blt rfl) rfl (Y.assign rfl rfl) ?_
                refine WL.nil ?_
                refine WK.roundS _ [(5, .int .i64 (((i + 1) : Nat) : Int))] ⟨rfl, rfl, trivial⟩ ?_ ⟨(i + 1), rfl, rfl, xW, (by omega), (fun j hj => by rcases Nat.lt_succ_iff_lt_or_eq.1 hj with h | h; exact inv_i j h; subst h; exact (ck1.trans (by have q := h53; simpa using q)))⟩
                show _ - (i + 1) < _ - i; omega
      ·
        have p20 := (dec_f h20)
        refine WC.exit ?_
        refine WK.then_exit ?_
        refine WK.then_exit ?_
        refine WK.in_exit ?_
        refine WK.then_normal (k15 _ _ ?_)
        refine WC.sub [] trivial ?_
        refine WC.seq (fun K55 k55 => ?_)
        refine WC.region rfl ?_
        refine WL.yld rfl (blt rfl) rfl (Y.assign rfl rfl) ?_
        refine WL.nil ?_
        refine WK.then_normal (k55 _ _ ?_)
        refine WC.ret ?_
        clear k1 k2 k3 k4 k6 k7 k11 k12 k15 k16 k18 k19 k55
        refine WK.ret [_] rfl ⟨rfl, trivial⟩ ?_
        exact ⟨ret1 (vi (Eq.symm ((Sy.chk_few hm).trans (Sy.fst_none fun j hj => inv_i j (by omega))))), xW⟩
theorem few_any (A_l : Option Addr) (n_l c_l : Nat) (l : List Sy.M) (w : World) (h_l : Ls w A_l n_l c_l Sy.M.v 4 l) (g_l : Sy.Good w l) :
    Calls Tryd.prog 9 #[.slice A_l n_l c_l] w fun e w' => ∃ b : Bool, e = .returned (.bool b) ∧ (b = true → Sy.Few l) ∧ Ext w w' := by
  have xW := Ext.refl w
  have e_l := h_l.len
  have z_l := h_l.nle
  refine calls_of_WC (args := [.slice A_l n_l c_l]) Tryd.func9 rfl rfl (ble rfl) ?_
  refine WC.seq (fun K1 k1 => ?_)
  refine WC.region rfl ?_
  refine WL.yld rfl (blt rfl) rfl (Y.assign rfl rfl) ?_
  refine WL.nil ?_
  refine WK.then_normal (k1 _ _ ?_)
  refine WC.sub [(0, _)] ⟨rfl, trivial⟩ ?_
  refine WC.seq (fun K2 k2 => ?_)
  refine WC.seq (fun K3 k3 => ?_)
  refine WC.region rfl ?_
  refine WL.yld rfl (blt rfl) rfl (Y.move rfl rfl) ?_
  refine WL.yld rfl (blt rfl) rfl (Y.lenSl rfl rfl rfl Tryd.underlying22 rfl) ?_
  refine WL.yld rfl (blt rfl) rfl (Y.gtr rfl rfl rfl) ?_
  refine WL.nil ?_
  refine WK.then_normal (k3 _ _ ?_)
  refine WC.sub [(0, _), (7, _)] ⟨rfl, rfl, trivial⟩ ?_
  refine WC.cond rfl (fun h4 => ?_) (fun h4 => ?_)
  ·
    have p4 := (dec_t h4)
    refine WC.seq (fun K5 k5 => ?_)
    refine WC.region rfl ?_
    refine WL.yld rfl (blt rfl) rfl (Y.assign rfl rfl) ?_
    refine WL.nil ?_
    refine WK.then_normal (k5 _ _ ?_)
    refine WC.sub [(2, _)] ⟨rfl, trivial⟩ ?_
    refine WC.ret ?_
    refine WK.then_ret ?_
    clear k1 k2 k3 k5
    refine WK.ret [_] rfl ⟨rfl, trivial⟩ ?_
    exact ⟨false, ret1 rfl, (by intro z; cases z), xW⟩
  ·
    have p4 := (dec_f h4)
    refine WC.skip ?_
    refine WK.then_normal (k2 _ _ ?_)
    refine WC.sub [(0, _)] ⟨rfl, trivial⟩ ?_
    refine WC.seq (fun K6 k6 => ?_)
    refine WC.seq (fun K7 k7 => ?_)
    refine WC.region rfl ?_
    refine WL.yld rfl (blt rfl) rfl (Y.assign rfl rfl) ?_
    refine WL.nil ?_
    refine WK.then_normal (k7 _ _ ?_)
    refine WC.block ?_
    refine WC.sub [(3, _), (0, _)] ⟨rfl, rfl, trivial⟩ ?_
    refine WC.loopS 1 (fun mz Ed W' => ∃ i : Nat, mz = n_l - i ∧ Ed = [(3, .int .i64 ((i : Nat) : Int))] ∧ Ext w W' ∧ (i ≤ n_l) ∧ (∀ j, j < i → l[j]!.n ≤ 60 ∧ l[j]!.nm.size ≤ 100 ∧ l[j]!.l.length = l[j]!.n ∧ ∀ k, k < l[j]!.n → l[j]!.l[k]!.nm.size ≤ 100)) _ ⟨0, rfl, rfl, xW, (Nat.zero_le _), (fun j hj => absurd hj (Nat.not_lt_zero j))⟩ ?_
    rintro _ _ w8 ⟨i, rfl, rfl, xW, le_i, inv_i⟩
    refine WC.sub [(3, _), (0, _)] ⟨rfl, rfl, trivial⟩ ?_
    refine WC.seq (fun K9 k9 => ?_)
    refine WC.seq (fun K10 k10 => ?_)
    refine WC.region rfl ?_
    refine WL.yld rfl (blt rfl) rfl (Y.move rfl rfl) ?_
    refine WL.yld rfl (blt rfl) rfl (Y.move rfl rfl) ?_
    refine WL.yld rfl (blt rfl) rfl (Y.lenSl rfl rfl rfl Tryd.underlying22 rfl) ?_
    refine WL.yld rfl (blt rfl) rfl (Y.lss rfl rfl rfl) ?_
    refine WL.nil ?_
    refine WK.then_normal (k10 _ _ ?_)
    refine WC.sub [(0, _), (3, _), (11, _)] ⟨rfl, rfl, rfl, trivial⟩ ?_
    refine WC.cond rfl (fun h11 => ?_) (fun h11 => ?_)
    ·
      have p11 := (dec_t h11)
      refine WC.skip ?_
      refine WK.then_normal (k9 _ _ ?_)
      refine WC.sub [(0, _), (3, _)] ⟨rfl, rfl, trivial⟩ ?_
      refine WC.seq (fun K12 k12 => ?_)
      refine WC.block ?_
      refine WC.seq (fun K13 k13 => ?_)
      refine WC.seq (fun K14 k14 => ?_)
      refine WC.region rfl ?_
      refine WL.yld rfl (blt rfl) rfl (Y.move rfl rfl) ?_
      refine WL.yld rfl (blt rfl) rfl (Y.move rfl rfl) ?_
      have b15 : i < n_l := by omega
      refine WL.yld rfl (blt rfl) rfl (Y.indexLs i (h_l.ext xW) rfl Tryd.underlying22 ti34 rfl rfl rfl b15) ?_
      refine WL.yld rfl (blt rfl) rfl (Y.fieldE rfl Tryd.underlying34 rfl ti32 (by decide) rfl) ?_
      refine WL.yld rfl (blt rfl) rfl (Y.load1 rfl Tryd.underlying32 rfl rfl (Ls.at_eq (h_l.ext xW) b15 rfl)) ?_
      refine WL.yld rfl (blt rfl) rfl (Y.lenSl rfl rfl rfl Tryd.underlying32 rfl) ?_
      refine WL.yld rfl (blt rfl) rfl (Y.gtr rfl rfl rfl) ?_
      refine WL.yld rfl (blt rfl) rfl (Y.move rfl rfl) ?_
      refine WL.yldG rfl (blt rfl) rfl rfl rfl (fun hb => Y.move rfl rfl) ?_
      refine WL.yldG rfl (blt rfl) rfl rfl rfl (fun hb => Y.move rfl rfl) ?_
      refine WL.yldG rfl (blt rfl) rfl rfl rfl (fun hb => Y.indexLs i (h_l.ext xW) rfl Tryd.underlying22 ti34 (evg rfl hb) (evg rfl hb) rfl (by have q0 := (dec_f hb); omega)) ?_
      refine WL.yldG rfl (blt rfl) rfl rfl rfl (fun hb => Y.fieldE rfl Tryd.underlying34 rfl ti9 (by decide) (evg rfl hb)) ?_
      refine WL.yldG rfl (blt rfl) rfl rfl rfl (fun hb => Y.load1 rfl Tryd.underlying9 rfl (evg rfl hb) (Ls.at_eq (h_l.ext xW) (by have q0 := (dec_f hb); omega) rfl)) ?_
      refine WL.yldG rfl (blt rfl) rfl rfl rfl (fun hb => Y.lenStr rfl rfl rfl Tryd.underlying9 (evs_cons (evg rfl hb) evs_nil)) ?_
      refine WL.yldG rfl (blt rfl) rfl rfl rfl (fun hb => Y.gtr rfl (evg rfl hb) rfl) ?_
      refine WL.yld rfl (blt rfl) rfl (Y.or rfl rfl rfl rfl) ?_
      refine WL.nil ?_
      refine WK.then_normal (k14 _ _ ?_)
      refine WC.sub [(0, _), (3, _), (29, _)] ⟨rfl, rfl, rfl, trivial⟩ ?_
      refine WC.cond rfl (fun h16 => ?_) (fun h16 => ?_)
      ·
        have p16 := ((or_t h16).imp (fun h => (dec_t h)) (fun h => (dec_t h)))
        refine WC.seq (fun K17 k17 => ?_)
        refine WC.region rfl ?_
        refine WL.yld rfl (blt rfl) rfl (Y.assign rfl rfl) ?_
        refine WL.nil ?_
        refine WK.then_normal (k17 _ _ ?_)
        refine WC.sub [(2, _)] ⟨rfl, trivial⟩ ?_
        refine WC.ret ?_
        refine WK.then_ret ?_
        refine WK.in_ret ?_
        refine WK.then_ret ?_
        refine WK.then_ret ?_
        refine WK.in_ret ?_
        refine WK.then_ret ?_
        clear k1 k2 k3 k6 k7 k9 k10 k12 k13 k14 k17
        refine WK.ret [_] rfl ⟨rfl, trivial⟩ ?_
        exact ⟨false, ret1 rfl, (by intro z; cases z), xW⟩
      ·
        have p16 := (And.intro (dec_f (or_f h16).1) (dec_f (or_f h16).2))
        have gl := g_l _ (bang_mem (show i < l.length from by omega))
        have q29 := h16
        simp only [Bool.or_eq_false_iff, decide_eq_false_iff_not] at q29
        refine WC.skip ?_
        refine WK.then_normal (k13 _ _ ?_)
        refine WC.sub [(0, _), (3, _)] ⟨rfl, rfl, trivial⟩ ?_
        refine WC.seq (fun K18 k18 => ?_)
        refine WC.region rfl ?_
        refine WL.yld rfl (blt rfl) rfl (Y.assign rfl rfl) ?_
        refine WL.nil ?_
        refine WK.then_normal (k18 _ _ ?_)
        refine WC.block ?_
        refine WC.sub [(4, _), (0, _), (3, _)] ⟨rfl, rfl, rfl, trivial⟩ ?_
        refine WC.loopS 1 (fun mz Ed W' => ∃ k : Nat, mz = l[i]!.n - k ∧ Ed = [(4, .int .i64 ((k : Nat) : Int))] ∧ Ext w W' ∧ (k ≤ l[i]!.n) ∧ (∀ j, j < k → l[i]!.l[j]!.nm.size ≤ 100)) _ ⟨0, rfl, rfl, xW, (Nat.zero_le _), (fun j hj => absurd hj (Nat.not_lt_zero j))⟩ ?_
        rintro _ _ w19 ⟨k, rfl, rfl, xW, le_k, inv_k⟩
        refine WC.sub [(4, _), (0, _), (3, _)] ⟨rfl, rfl, rfl, trivial⟩ ?_
        refine WC.seq (fun K20 k20 => ?_)
        refine WC.seq (fun K21 k21 => ?_)
        refine WC.region rfl ?_
        refine WL.yld rfl (blt rfl) rfl (Y.move rfl rfl) ?_
        refine WL.yld rfl (blt rfl) rfl (Y.move rfl rfl) ?_
        refine WL.yld rfl (blt rfl) rfl (Y.move rfl rfl) ?_
        have b22 : i < n_l := by omega
        refine WL.yld rfl (blt rfl) rfl (Y.indexLs i (h_l.ext xW) rfl Tryd.underlying22 ti34 rfl rfl rfl b22) ?_
        refine WL.yld rfl (blt rfl) rfl (Y.fieldE rfl Tryd.underlying34 rfl ti32 (by decide) rfl) ?_
        refine WL.yld rfl (blt rfl) rfl (Y.load1 rfl Tryd.underlying32 rfl rfl (Ls.at_eq (h_l.ext xW) b22 rfl)) ?_
        refine WL.yld rfl (blt rfl) rfl (Y.lenSl rfl rfl rfl Tryd.underlying32 rfl) ?_
        refine WL.yld rfl (blt rfl) rfl (Y.lss rfl rfl rfl) ?_
        refine WL.nil ?_
        refine WK.then_normal (k21 _ _ ?_)
        refine WC.sub [(0, _), (3, _), (4, _), (37, _)] ⟨rfl, rfl, rfl, rfl, trivial⟩ ?_
        refine WC.cond rfl (fun h23 => ?_) (fun h23 => ?_)
        ·
          have p23 := (dec_t h23)
          refine WC.skip ?_
          refine WK.then_normal (k20 _ _ ?_)
          refine WC.sub [(0, _), (3, _), (4, _)] ⟨rfl, rfl, rfl, trivial⟩ ?_
          refine WC.seq (fun K24 k24 => ?_)
          refine WC.block ?_
          refine WC.seq (fun K25 k25 => ?_)
          refine WC.region rfl ?_
          refine WL.yld rfl (blt rfl) rfl (Y.move rfl rfl) ?_
          refine WL.yld rfl (blt rfl) rfl (Y.move rfl rfl) ?_
          have b26 : i < n_l := by omega
          refine WL.yld rfl (blt rfl) rfl (Y.indexLs i (h_l.ext xW) rfl Tryd.underlying22 ti34 rfl rfl rfl b26) ?_
          refine WL.yld rfl (blt rfl) rfl (Y.fieldE rfl Tryd.underlying34 rfl ti32 (by decide) rfl) ?_
          refine WL.yld rfl (blt rfl) rfl (Y.load1 rfl Tryd.underlying32 rfl rfl (Ls.at_eq (h_l.ext xW) b26 rfl)) ?_
          refine WL.yld rfl (blt rfl) rfl (Y.move rfl rfl) ?_
          have b27 : k < l[i]!.n := by omega
          refine WL.yld rfl (blt rfl) rfl (Y.indexLs k ((g_l _ (bang_mem (show i < l.length from by omega))).ext xW) rfl Tryd.underlying32 ti36 rfl rfl rfl b27) ?_
          refine WL.yld rfl (blt rfl) rfl (Y.fieldE rfl Tryd.underlying36 rfl ti9 (by decide) rfl) ?_
          refine WL.yld rfl (blt rfl) rfl (Y.load1 rfl Tryd.underlying9 rfl rfl (Ls.at_eq ((g_l _ (bang_mem (show i < l.length from by omega))).ext xW) b27 rfl)) ?_
          refine WL.yld rfl (blt rfl) rfl (Y.lenStr rfl rfl rfl Tryd.underlying9 rfl) ?_
          refine WL.yld rfl (blt rfl) rfl (Y.gtr rfl rfl rfl) ?_
          refine WL.nil ?_
          refine WK.then_normal (k25 _ _ ?_)
          refine WC.sub [(0, _), (3, _), (4, _), (50, _)] ⟨rfl, rfl, rfl, rfl, trivial⟩ ?_
          refine WC.cond rfl (fun h28 => ?_) (fun h28 => ?_)
          ·
            have p28 := (dec_t h28)
            refine WC.seq (fun K29 k29 => ?_)
            refine WC.region rfl ?_
            refine WL.yld rfl (blt rfl) rfl (Y.assign rfl rfl) ?_
            refine WL.nil ?_
            refine WK.then_normal (k29 _ _ ?_)
            refine WC.sub [(2, _)] ⟨rfl, trivial⟩ ?_
            refine WC.ret ?_
            refine WK.in_ret ?_
            refine WK.then_ret ?_
            refine WK.then_ret ?_
            refine WK.in_ret ?_
            refine WK.in_ret ?_
            refine WK.then_ret ?_
            refine WK.then_ret ?_
            refine WK.in_ret ?_
            refine WK.then_ret ?_
            clear k1 k2 k3 k6 k7 k9 k10 k12 k13 k14 k18 k20 k21 k24 k25 k29
            refine WK.ret [_] rfl ⟨rfl, trivial⟩ ?_
            exact ⟨false, ret1 rfl, (by intro z; cases z), xW⟩
          ·
            have p28 := (dec_f h28)
            refine WC.skip ?_
            refine WK.in_normal ?_
            refine WK.then_normal (k24 _ _ ?_)
            refine WC.sub [(0, _), (3, _), (4, _)] ⟨rfl, rfl, rfl, trivial⟩ ?_
            refine WC.region rfl ?_
            refine WL.yld rfl (blt rfl) rfl (Y.move rfl rfl) ?_
            refine WL.yld rfl (blt rfl) rfl (Y.add rfl rfl rfl (wrap_i64 (by first | omega | (dsimp only; omega)))) ?_
            refine WL.yld rfl (blt rfl) rfl (Y.assign rfl rfl) ?_
            refine WL.nil ?_
            refine WK.roundS _ [(4, .int .i64 (((k + 1) : Nat) : Int))] ⟨rfl, rfl, rfl, trivial⟩ ?_ ⟨(k + 1), rfl, rfl, xW, (by omega), (fun j hj => by rcases Nat.lt_succ_iff_lt_or_eq.1 hj with h | h; exact inv_k j h; subst h; have q := dec_f h28; omega)⟩
            show _ - (k + 1) < _ - k; omega
        ·
          have p23 := (dec_f h23)
          refine WC.exit ?_
          refine WK.then_exit ?_
          refine WK.then_exit ?_
          refine WK.in_exit ?_
          refine WK.in_normal ?_
          refine WK.then_normal (k12 _ _ ?_)
          refine WC.sub [(0, _), (3, _)] ⟨rfl, rfl, trivial⟩ ?_
          refine WC.region rfl ?_
          refine WL.yld rfl (blt rfl) rfl (Y.move rfl rfl) ?_
          refine WL.yld rfl (blt rfl) rfl (Y.add rfl rfl rfl (wrap_i64 (by first | omega | (dsimp only; omega)))) ?_
          refine WL.yld rfl (blt rfl) rfl (Y.assign rfl rfl) ?_
          refine WL.nil ?_
          refine WK.roundS _ [(3, .int .i64 (((i + 1) : Nat) : Int))] ⟨rfl, rfl, trivial⟩ ?_ ⟨(i + 1), rfl, rfl, xW, (by omega), (fun j hj => by rcases Nat.lt_succ_iff_lt_or_eq.1 hj with h | h; exact inv_i j h; subst h; exact ⟨by omega, by omega, gl.len, fun k hk => inv_k k (by omega)⟩)⟩
          show _ - (i + 1) < _ - i; omega
    ·
      have p11 := (dec_f h11)
      refine WC.exit ?_
      refine WK.then_exit ?_
      refine WK.then_exit ?_
      refine WK.in_exit ?_
      refine WK.then_normal (k6 _ _ ?_)
      refine WC.sub [] trivial ?_
      refine WC.seq (fun K30 k30 => ?_)
      refine WC.region rfl ?_
      refine WL.yld rfl (blt rfl) rfl (Y.assign rfl rfl) ?_
      refine WL.nil ?_
      refine WK.then_normal (k30 _ _ ?_)
      refine WC.ret ?_
      clear k1 k2 k3 k6 k7 k9 k10 k30
      refine WK.ret [_] rfl ⟨rfl, trivial⟩ ?_
      exact ⟨true, ret1 rfl, (fun _ => Sy.few_of (by have q := dec_f h4; omega) fun i hi => inv_i i (by omega)), xW⟩
end R
end SyW

end Go.Proofs.YtghfncgciaiofaaDoor
