/- Contracts of the reference's functions. Conditions: what each theorem states. -/
import Derived.Test.YtaglpampidlbmaaBkWalk
namespace Go.Proofs.Ytaglpampidlbmaa
open Go Go.Eng Go.RowKit
set_option linter.unusedVariables false
set_option linter.unusedSimpArgs false
namespace CkW
namespace R
theorem ti3 : TI Try.prog 3 (.int .i64 0) 1 8 := TI.mk (by kernel_rfl)
theorem ti29 : TI Try.prog 29 (.agg #[.int .i64 0, .int .i64 0]) 2 16 := TI.mk (by kernel_rfl)
theorem ti42 : TI Try.prog 42 (.agg #[.int .i64 0, .int .i64 0, .int .i64 0, .int .i64 0, .int .i64 0]) 5 40 := TI.mk (by kernel_rfl)
theorem ti59 : TI Try.prog 59 (.agg #[.int .i64 0, .int .i64 0]) 2 16 := TI.mk (by kernel_rfl)
theorem has29 : Has Try.prog 29 := ⟨_, Try.func29, rfl, by kernel_rfl⟩
theorem has52 : Has Try.prog 52 := ⟨_, Try.func52, rfl, by kernel_rfl⟩
theorem has53 : Has Try.prog 53 := ⟨_, Try.func53, rfl, by kernel_rfl⟩
theorem has69 : Has Try.prog 69 := ⟨_, Try.func69, rfl, by kernel_rfl⟩
theorem find_any (A_d : Option Addr) (n_d c_d : Nat) (d : List Ck.Dom) (id : Int) (w : World) (h_d : Ls w A_d n_d c_d Ck.Dom.c 2 d) :
    Calls Try.prog 52 #[.slice A_d n_d c_d, .int .i64 id] w fun e w' => e = .returned (.int .i64 (Ck.idx d id 0)) ∧ Ext w w' := by
  have xW := Ext.refl w
  have e_d := h_d.len
  have z_d := h_d.nle
  refine calls_of_WC (args := [.slice A_d n_d c_d, .int .i64 id]) Try.func52 rfl rfl (ble rfl) ?_
  refine WC.seq (fun K1 k1 => ?_)
  refine WC.region rfl ?_
  refine WL.yld rfl (blt rfl) rfl (Y.assign rfl rfl) ?_
  refine WL.nil ?_
  refine WK.then_normal (k1 _ _ ?_)
  refine WC.sub [(0, _), (1, _)] ⟨rfl, rfl, trivial⟩ ?_
  refine WC.seq (fun K2 k2 => ?_)
  refine WC.seq (fun K3 k3 => ?_)
  refine WC.region rfl ?_
  refine WL.yld rfl (blt rfl) rfl (Y.assign rfl rfl) ?_
  refine WL.nil ?_
  refine WK.then_normal (k3 _ _ ?_)
  refine WC.block ?_
  refine WC.sub [(5, _), (0, _), (1, _)] ⟨rfl, rfl, rfl, trivial⟩ ?_
  refine WC.loopS 1 (fun mz Ed W' => ∃ i : Nat, mz = n_d - i ∧ Ed = [(5, .int .i64 ((i : Nat) : Int))] ∧ Ext w W' ∧ (i ≤ n_d) ∧ (Ck.idx (d.drop i) id i = Ck.idx d id 0)) _ ⟨0, rfl, rfl, xW, (Nat.zero_le _), rfl⟩ ?_
  rintro _ _ w4 ⟨i, rfl, rfl, xW, le_i, inv_i⟩
  refine WC.sub [(5, _), (0, _), (1, _)] ⟨rfl, rfl, rfl, trivial⟩ ?_
  refine WC.seq (fun K5 k5 => ?_)
  refine WC.seq (fun K6 k6 => ?_)
  refine WC.region rfl ?_
  refine WL.yld rfl (blt rfl) rfl (Y.move rfl rfl) ?_
  refine WL.yld rfl (blt rfl) rfl (Y.move rfl rfl) ?_
  refine WL.yld rfl (blt rfl) rfl (Y.lenSl rfl rfl rfl Try.underlying22 rfl) ?_
  refine WL.yld rfl (blt rfl) rfl (Y.lss rfl rfl rfl) ?_
  refine WL.nil ?_
  refine WK.then_normal (k6 _ _ ?_)
  refine WC.sub [(0, _), (1, _), (5, _), (9, _)] ⟨rfl, rfl, rfl, rfl, trivial⟩ ?_
  refine WC.cond rfl (fun h7 => ?_) (fun h7 => ?_)
  ·
    have p7 := (dec_t h7)
    refine WC.skip ?_
    refine WK.then_normal (k5 _ _ ?_)
    refine WC.sub [(0, _), (1, _), (5, _)] ⟨rfl, rfl, rfl, trivial⟩ ?_
    refine WC.seq (fun K8 k8 => ?_)
    refine WC.block ?_
    refine WC.seq (fun K9 k9 => ?_)
    refine WC.region rfl ?_
    refine WL.yld rfl (blt rfl) rfl (Y.move rfl rfl) ?_
    refine WL.yld rfl (blt rfl) rfl (Y.move rfl rfl) ?_
    have b10 : i < n_d := by omega
    refine WL.yld rfl (blt rfl) rfl (Y.indexLs i (h_d.ext xW) rfl Try.underlying22 ti59 rfl rfl rfl b10) ?_
    refine WL.yld rfl (blt rfl) rfl (Y.fieldE rfl Try.underlying59 rfl ti3 (by decide) rfl) ?_
    refine WL.yld rfl (blt rfl) rfl (Y.load1 rfl Try.underlying3 rfl rfl (Ls.at_eq (h_d.ext xW) b10 rfl)) ?_
    refine WL.yld rfl (blt rfl) rfl (Y.move rfl rfl) ?_
    refine WL.yld rfl (blt rfl) rfl (Y.eql rfl rfl rfl) ?_
    refine WL.nil ?_
    refine WK.then_normal (k9 _ _ ?_)
    refine WC.sub [(0, _), (1, _), (5, _), (18, _)] ⟨rfl, rfl, rfl, rfl, trivial⟩ ?_
    refine WC.cond rfl (fun h11 => ?_) (fun h11 => ?_)
    ·
      have p11 := (eq_t h11)
      refine WC.seq (fun K12 k12 => ?_)
      refine WC.region rfl ?_
      refine WL.yld rfl (blt rfl) rfl (Y.move rfl rfl) ?_
      refine WL.yld rfl (blt rfl) rfl (Y.assign rfl rfl) ?_
      refine WL.nil ?_
      refine WK.then_normal (k12 _ _ ?_)
      refine WC.sub [(4, _)] ⟨rfl, trivial⟩ ?_
      refine WC.ret ?_
      refine WK.in_ret ?_
      refine WK.then_ret ?_
      refine WK.then_ret ?_
      refine WK.in_ret ?_
      refine WK.then_ret ?_
      clear k1 k2 k3 k5 k6 k8 k9 k12
      refine WK.ret [_] rfl ⟨rfl, trivial⟩ ?_
      refine ⟨ret1 (vi ?_), xW⟩
      rw [← inv_i, drop_bang (show i < d.length from by omega)]
      simp only [Ck.idx, h11, if_true]
    ·
      have p11 := (eq_f h11)
      refine WC.skip ?_
      refine WK.in_normal ?_
      refine WK.then_normal (k8 _ _ ?_)
      refine WC.sub [(0, _), (1, _), (5, _)] ⟨rfl, rfl, rfl, trivial⟩ ?_
      refine WC.region rfl ?_
      refine WL.yld rfl (blt rfl) rfl (Y.move rfl rfl) ?_
      refine WL.yld rfl (blt rfl) rfl (Y.add rfl rfl rfl (wrap_i64 (by first | omega | (dsimp only; omega)))) ?_
      refine WL.yld rfl (blt rfl) rfl (Y.assign rfl rfl) ?_
      refine WL.nil ?_
      refine WK.roundS _ [(5, .int .i64 (((i + 1) : Nat) : Int))] ⟨rfl, rfl, rfl, trivial⟩ ?_ ⟨(i + 1), rfl, rfl, xW, (by omega), (by rw [← inv_i, drop_bang (show i < d.length from by omega)]; simp only [Ck.idx, h11, Bool.false_eq_true, if_false])⟩
      show _ - (i + 1) < _ - i; omega
  ·
    have p7 := (dec_f h7)
    refine WC.exit ?_
    refine WK.then_exit ?_
    refine WK.then_exit ?_
    refine WK.in_exit ?_
    refine WK.then_normal (k2 _ _ ?_)
    refine WC.sub [] trivial ?_
    refine WC.seq (fun K13 k13 => ?_)
    refine WC.region rfl ?_
    refine WL.yld rfl (blt rfl) rfl (Y.assign rfl rfl) ?_
    refine WL.nil ?_
    refine WK.then_normal (k13 _ _ ?_)
    refine WC.ret ?_
    clear k1 k2 k3 k5 k6 k13
    refine WK.ret [_] rfl ⟨rfl, trivial⟩ ?_
    refine ⟨ret1 (vi ?_), xW⟩
    rw [← inv_i, List.drop_of_length_le (by omega)]; rfl
theorem rreading_any (n : Int) (w : World) :
    Calls Try.prog 69 #[.int .i64 n] w fun e w' => e = .returned (.bool (Ck.readB n)) ∧ Ext w w' := by
  have xW := Ext.refl w
  refine calls_of_WC (args := [.int .i64 n]) Try.func69 rfl rfl (ble rfl) ?_
  refine WC.seq (fun K1 k1 => ?_)
  refine WC.region rfl ?_
  refine WL.yld rfl (blt rfl) rfl (Y.assign rfl rfl) ?_
  refine WL.nil ?_
  refine WK.then_normal (k1 _ _ ?_)
  refine WC.sub [(0, _)] ⟨rfl, trivial⟩ ?_
  refine WC.seq (fun K2 k2 => ?_)
  refine WC.region rfl ?_
  refine WL.yld rfl (blt rfl) rfl (Y.move rfl rfl) ?_
  refine WL.yld rfl (blt rfl) rfl (Y.geq rfl rfl rfl) ?_
  refine WL.yld rfl (blt rfl) rfl (Y.move rfl rfl) ?_
  refine WL.yldG rfl (blt rfl) rfl rfl rfl (fun hb => Y.move rfl rfl) ?_
  refine WL.yldG rfl (blt rfl) rfl rfl rfl (fun hb => Y.leq rfl (evg rfl hb) rfl) ?_
  refine WL.yld rfl (blt rfl) rfl (Y.and rfl rfl rfl rfl) ?_
  refine WL.yld rfl (blt rfl) rfl (Y.assign rfl rfl) ?_
  refine WL.nil ?_
  refine WK.then_normal (k2 _ _ ?_)
  refine WC.sub [(2, _)] ⟨rfl, trivial⟩ ?_
  refine WC.ret ?_
  clear k1 k2
  refine WK.ret [_] rfl ⟨rfl, trivial⟩ ?_
  exact ⟨rfl, xW⟩
theorem rsnap_any (A_d : Option Addr) (n_d c_d : Nat) (d : List Ck.Dom) (x : Ck.Snap) (w : World) (h_d : Ls w A_d n_d c_d Ck.Dom.c 2 d) :
    Calls Try.prog 53 #[.slice A_d n_d c_d, .agg #[.int .i64 x.a, .int .i64 x.ata, .int .i64 x.b, .int .i64 x.lo, .int .i64 x.hi]] w fun e w' => e = .returned (.int .i64 (Ck.snapF d x)) ∧ Ext w w' := by
  have xW := Ext.refl w
  have e_d := h_d.len
  have z_d := h_d.nle
  refine calls_of_WC (args := [.slice A_d n_d c_d, .agg #[.int .i64 x.a, .int .i64 x.ata, .int .i64 x.b, .int .i64 x.lo, .int .i64 x.hi]]) Try.func53 rfl rfl (ble rfl) ?_
  refine WC.seq (fun K1 k1 => ?_)
  refine WC.region rfl ?_
  refine WL.box rfl (blt rfl) rfl rfl rfl rfl ?_
  intro g2 w3 e4 x5 m6
  have o_g2 := own_new xW e4
  have xW := Ext.trans xW x5
  refine WL.yld rfl (blt rfl) rfl (Y.assign rfl rfl) ?_
  refine WL.nil ?_
  refine WK.then_normal (k1 _ _ ?_)
  refine WC.sub [(0, _), (3, _)] ⟨rfl, rfl, trivial⟩ ?_
  refine WC.seq (fun K7 k7 => ?_)
  refine WC.block ?_
  refine WC.seq (fun K8 k8 => ?_)
  refine WC.region rfl ?_
  refine WL.yld rfl (blt rfl) rfl (Y.move rfl rfl) ?_
  refine WL.yld rfl (blt rfl) rfl (Y.fieldAddr rfl Try.underlying42 rfl ti3 (by decide) rfl) ?_
  refine WL.yld rfl (blt rfl) rfl (Y.load1 rfl Try.underlying3 rfl rfl (Blk.at_eq m6 rfl)) ?_
  refine WL.call rfl (blt rfl) rfl rfl rfl has52 rfl (find_any _ _ _ _ _ _ (h_d.ext xW)) ?_
  rintro _ w9 ⟨rfl, x10⟩
  refine ⟨_, rfl, ?_⟩
  have m6 := m6.ext x10
  have xW := Ext.trans xW x10
  refine WL.yld rfl (blt rfl) rfl (Y.lss rfl rfl rfl) ?_
  refine WL.yld rfl (blt rfl) rfl (Y.move rfl rfl) ?_
  refine WL.yldG rfl (blt rfl) rfl rfl rfl (fun hb => Y.move rfl rfl) ?_
  refine WL.yldG rfl (blt rfl) rfl rfl rfl (fun hb => Y.fieldAddr rfl Try.underlying42 rfl ti3 (by decide) rfl) ?_
  refine WL.yldG rfl (blt rfl) rfl rfl rfl (fun hb => Y.load1 rfl Try.underlying3 rfl (evg rfl hb) (Blk.at_eq m6 rfl)) ?_
  refine WL.callG rfl (blt rfl) rfl rfl rfl rfl rfl has52 (fun hb => (evs_cons (evg rfl hb) (evs_cons (evg rfl hb) evs_nil))) (fun hb => find_any _ _ _ _ _ _ (h_d.ext xW)) (fun w11 x12 => ?_)
  have m6 := m6.ext x12
  have xW := Ext.trans xW x12
  refine WL.yldG rfl (blt rfl) rfl rfl rfl (fun hb => Y.lss rfl (evg rfl hb) rfl) ?_
  refine WL.yld rfl (blt rfl) rfl (Y.or rfl rfl rfl rfl) ?_
  refine WL.yld rfl (blt rfl) rfl (Y.assign rfl rfl) ?_
  refine WL.nil ?_
  refine WK.then_normal (k8 _ _ ?_)
  refine WC.sub [(3, _), (5, _)] ⟨rfl, rfl, trivial⟩ ?_
  refine WC.cond rfl (fun h13 => ?_) (fun h13 => ?_)
  ·
    have p13 := ((or_t h13).imp (fun h => (dec_t h)) (fun h => (dec_t h)))
    refine WC.seq (fun K14 k14 => ?_)
    refine WC.region rfl ?_
    refine WL.yld rfl (blt rfl) rfl (Y.assign rfl rfl) ?_
    refine WL.nil ?_
    refine WK.then_normal (k14 _ _ ?_)
    refine WC.sub [(4, _)] ⟨rfl, trivial⟩ ?_
    refine WC.ret ?_
    refine WK.in_ret ?_
    refine WK.then_ret ?_
    clear k1 k7 k8 k14
    refine WK.ret [_] rfl ⟨rfl, trivial⟩ ?_
    refine ⟨ret1 (vi ?_), xW⟩
    unfold Ck.snapF
    simp only [h13, Bool.or_false, Bool.false_or, Bool.or_true, Bool.true_or, Bool.false_eq_true, if_true, if_false]
  ·
    have p13 := (And.intro (dec_f (or_f h13).1) (dec_f (or_f h13).2))
    refine WC.seq (fun K15 k15 => ?_)
    refine WC.region rfl ?_
    refine WL.yld rfl (blt rfl) rfl (Y.fieldAddr rfl Try.underlying42 rfl ti3 (by decide) rfl) ?_
    refine WL.yld rfl (blt rfl) rfl (Y.load1 rfl Try.underlying3 rfl rfl (Blk.at_eq m6 rfl)) ?_
    refine WL.yld rfl (blt rfl) rfl (Y.fieldAddr rfl Try.underlying42 rfl ti3 (by decide) rfl) ?_
    refine WL.yld rfl (blt rfl) rfl (Y.load1 rfl Try.underlying3 rfl rfl (Blk.at_eq m6 rfl)) ?_
    refine WL.yld rfl (blt rfl) rfl (Y.eql rfl rfl rfl) ?_
    refine WL.yld rfl (blt rfl) rfl (Y.assign rfl rfl) ?_
    refine WL.nil ?_
    refine WK.then_normal (k15 _ _ ?_)
    refine WC.sub [(3, _), (18, _)] ⟨rfl, rfl, trivial⟩ ?_
    refine WC.cond rfl (fun h16 => ?_) (fun h16 => ?_)
    ·
      have p16 := (eq_t h16)
      refine WC.seq (fun K17 k17 => ?_)
      refine WC.region rfl ?_
      refine WL.yld rfl (blt rfl) rfl (Y.assign rfl rfl) ?_
      refine WL.nil ?_
      refine WK.then_normal (k17 _ _ ?_)
      refine WC.sub [(4, _)] ⟨rfl, trivial⟩ ?_
      refine WC.ret ?_
      refine WK.in_ret ?_
      refine WK.then_ret ?_
      clear k1 k7 k8 k15 k17
      refine WK.ret [_] rfl ⟨rfl, trivial⟩ ?_
      refine ⟨ret1 (vi ?_), xW⟩
      unfold Ck.snapF
      simp only [h13, h16, Bool.or_false, Bool.false_or, Bool.or_true, Bool.true_or, Bool.false_eq_true, if_true, if_false]
    ·
      have p16 := (eq_f h16)
      refine WC.seq (fun K18 k18 => ?_)
      refine WC.region rfl ?_
      refine WL.yld rfl (blt rfl) rfl (Y.fieldAddr rfl Try.underlying42 rfl ti3 (by decide) rfl) ?_
      refine WL.yld rfl (blt rfl) rfl (Y.load1 rfl Try.underlying3 rfl rfl (Blk.at_eq m6 rfl)) ?_
      refine WL.call rfl (blt rfl) rfl rfl rfl has69 rfl (rreading_any _ _ ) ?_
      rintro _ w19 ⟨rfl, x20⟩
      refine ⟨_, rfl, ?_⟩
      have m6 := m6.ext x20
      have xW := Ext.trans xW x20
      refine WL.yld rfl (blt rfl) rfl (Y.not rfl rfl) ?_
      refine WL.yld rfl (blt rfl) rfl (Y.move rfl rfl) ?_
      refine WL.yldG rfl (blt rfl) rfl rfl rfl (fun hb => Y.fieldAddr rfl Try.underlying42 rfl ti29 (by decide) rfl) ?_
      refine WL.yldG rfl (blt rfl) rfl rfl rfl (fun hb => Y.fieldAddr rfl Try.underlying29 rfl ti3 (by decide) (evg rfl hb)) ?_
      refine WL.yldG rfl (blt rfl) rfl rfl rfl (fun hb => Y.load1 rfl Try.underlying3 rfl (evg rfl hb) (Blk.at_eq m6 rfl)) ?_
      refine WL.callG rfl (blt rfl) rfl rfl rfl rfl rfl has69 (fun hb => (evs_cons (evg rfl hb) evs_nil)) (fun hb => rreading_any _ _ ) (fun w21 x22 => ?_)
      have m6 := m6.ext x22
      have xW := Ext.trans xW x22
      refine WL.yldG rfl (blt rfl) rfl rfl rfl (fun hb => Y.not rfl (evg rfl hb)) ?_
      refine WL.yld rfl (blt rfl) rfl (Y.or rfl rfl rfl rfl) ?_
      refine WL.yld rfl (blt rfl) rfl (Y.move rfl rfl) ?_
      refine WL.yldG rfl (blt rfl) rfl rfl rfl (fun hb => Y.fieldAddr rfl Try.underlying42 rfl ti29 (by decide) rfl) ?_
      refine WL.yldG rfl (blt rfl) rfl rfl rfl (fun hb => Y.fieldAddr rfl Try.underlying29 rfl ti3 (by decide) (evg rfl hb)) ?_
      refine WL.yldG rfl (blt rfl) rfl rfl rfl (fun hb => Y.load1 rfl Try.underlying3 rfl (evg rfl hb) (Blk.at_eq m6 rfl)) ?_
      refine WL.callG rfl (blt rfl) rfl rfl rfl rfl rfl has69 (fun hb => (evs_cons (evg rfl hb) evs_nil)) (fun hb => rreading_any _ _ ) (fun w23 x24 => ?_)
      have m6 := m6.ext x24
      have xW := Ext.trans xW x24
      refine WL.yldG rfl (blt rfl) rfl rfl rfl (fun hb => Y.not rfl (evg rfl hb)) ?_
      refine WL.yld rfl (blt rfl) rfl (Y.or rfl rfl rfl rfl) ?_
      refine WL.yld rfl (blt rfl) rfl (Y.move rfl rfl) ?_
      refine WL.yldG rfl (blt rfl) rfl rfl rfl (fun hb => Y.fieldAddr rfl Try.underlying42 rfl ti29 (by decide) rfl) ?_
      refine WL.yldG rfl (blt rfl) rfl rfl rfl (fun hb => Y.fieldAddr rfl Try.underlying29 rfl ti3 (by decide) (evg rfl hb)) ?_
      refine WL.yldG rfl (blt rfl) rfl rfl rfl (fun hb => Y.load1 rfl Try.underlying3 rfl (evg rfl hb) (Blk.at_eq m6 rfl)) ?_
      refine WL.yldG rfl (blt rfl) rfl rfl rfl (fun hb => Y.fieldAddr rfl Try.underlying42 rfl ti29 (by decide) rfl) ?_
      refine WL.yldG rfl (blt rfl) rfl rfl rfl (fun hb => Y.fieldAddr rfl Try.underlying29 rfl ti3 (by decide) (evg rfl hb)) ?_
      refine WL.yldG rfl (blt rfl) rfl rfl rfl (fun hb => Y.load1 rfl Try.underlying3 rfl (evg rfl hb) (Blk.at_eq m6 rfl)) ?_
      refine WL.yldG rfl (blt rfl) rfl rfl rfl (fun hb => Y.gtr rfl (evg rfl hb) (evg rfl hb)) ?_
      refine WL.yld rfl (blt rfl) rfl (Y.or rfl rfl rfl rfl) ?_
      refine WL.yld rfl (blt rfl) rfl (Y.assign rfl rfl) ?_
      refine WL.nil ?_
      refine WK.then_normal (k18 _ _ ?_)
      refine WC.sub [(24, _)] ⟨rfl, trivial⟩ ?_
      refine WC.cond rfl (fun h25 => ?_) (fun h25 => ?_)
      ·
        have p25 := ((or_t h25).imp (fun h => h) (fun h => (dec_t h)))
        refine WC.seq (fun K26 k26 => ?_)
        refine WC.region rfl ?_
        refine WL.yld rfl (blt rfl) rfl (Y.assign rfl rfl) ?_
        refine WL.nil ?_
        refine WK.then_normal (k26 _ _ ?_)
        refine WC.sub [(4, _)] ⟨rfl, trivial⟩ ?_
        refine WC.ret ?_
        refine WK.in_ret ?_
        refine WK.then_ret ?_
        clear k1 k7 k8 k15 k18 k26
        refine WK.ret [_] rfl ⟨rfl, trivial⟩ ?_
        refine ⟨ret1 (vi ?_), xW⟩
        unfold Ck.snapF
        simp only [h13, h16, h25, Bool.or_false, Bool.false_or, Bool.or_true, Bool.true_or, Bool.false_eq_true, if_true, if_false]
      ·
        have p25 := (dec_f (or_f h25).2)
        refine WC.skip ?_
        refine WK.in_normal ?_
        refine WK.then_normal (k7 _ _ ?_)
        refine WC.sub [] trivial ?_
        refine WC.seq (fun K27 k27 => ?_)
        refine WC.region rfl ?_
        refine WL.yld rfl (blt rfl) rfl (Y.assign rfl rfl) ?_
        refine WL.nil ?_
        refine WK.then_normal (k27 _ _ ?_)
        refine WC.ret ?_
        clear k1 k7 k8 k15 k18 k27
        refine WK.ret [_] rfl ⟨rfl, trivial⟩ ?_
        refine ⟨ret1 (vi ?_), xW⟩
        unfold Ck.snapF
        simp only [h13, h16, h25, Bool.or_false, Bool.false_or, Bool.or_true, Bool.true_or, Bool.false_eq_true, if_true, if_false]
theorem rcheck_any (A_d : Option Addr) (n_d c_d : Nat) (d : List Ck.Dom) (A_l : Option Addr) (n_l c_l : Nat) (l : List Ck.Snap) (w : World) (h_d : Ls w A_d n_d c_d Ck.Dom.c 2 d) (h_l : Ls w A_l n_l c_l Ck.Snap.c 5 l) :
    Calls Try.prog 29 #[.slice A_d n_d c_d, .slice A_l n_l c_l] w fun e w' => e = .returned (.int .i64 (Ck.checkF d l)) ∧ Ext w w' := by
  have xW := Ext.refl w
  have e_d := h_d.len
  have z_d := h_d.nle
  have e_l := h_l.len
  have z_l := h_l.nle
  refine calls_of_WC (args := [.slice A_d n_d c_d, .slice A_l n_l c_l]) Try.func29 rfl rfl (ble rfl) ?_
  refine WC.seq (fun K1 k1 => ?_)
  refine WC.region rfl ?_
  refine WL.yld rfl (blt rfl) rfl (Y.assign rfl rfl) ?_
  refine WL.nil ?_
  refine WK.then_normal (k1 _ _ ?_)
  refine WC.sub [(0, _), (1, _)] ⟨rfl, rfl, trivial⟩ ?_
  refine WC.seq (fun K2 k2 => ?_)
  refine WC.block ?_
  refine WC.seq (fun K3 k3 => ?_)
  refine WC.region rfl ?_
  refine WL.yld rfl (blt rfl) rfl (Y.move rfl rfl) ?_
  refine WL.yld rfl (blt rfl) rfl (Y.lenSl rfl rfl rfl Try.underlying22 rfl) ?_
  refine WL.yld rfl (blt rfl) rfl (Y.eql rfl rfl rfl) ?_
  refine WL.yld rfl (blt rfl) rfl (Y.assign rfl rfl) ?_
  refine WL.nil ?_
  refine WK.then_normal (k3 _ _ ?_)
  refine WC.sub [(0, _), (1, _), (8, _)] ⟨rfl, rfl, rfl, trivial⟩ ?_
  refine WC.cond rfl (fun h4 => ?_) (fun h4 => ?_)
  ·
    have p4 := (eq_t h4)
    refine WC.seq (fun K5 k5 => ?_)
    refine WC.region rfl ?_
    refine WL.yld rfl (blt rfl) rfl (Y.assign rfl rfl) ?_
    refine WL.nil ?_
    refine WK.then_normal (k5 _ _ ?_)
    refine WC.sub [(4, _)] ⟨rfl, trivial⟩ ?_
    refine WC.ret ?_
    refine WK.in_ret ?_
    refine WK.then_ret ?_
    clear k1 k2 k3 k5
    refine WK.ret [_] rfl ⟨rfl, trivial⟩ ?_
    refine ⟨ret1 (vi ?_), xW⟩
    unfold Ck.checkF
    rw [if_pos (by omega)]
  ·
    have p4 := (eq_f h4)
    refine WC.seq (fun K6 k6 => ?_)
    refine WC.region rfl ?_
    refine WL.yld rfl (blt rfl) rfl (Y.move rfl rfl) ?_
    refine WL.yld rfl (blt rfl) rfl (Y.lenSl rfl rfl rfl Try.underlying22 rfl) ?_
    refine WL.yld rfl (blt rfl) rfl (Y.gtr rfl rfl rfl) ?_
    refine WL.yld rfl (blt rfl) rfl (Y.move rfl rfl) ?_
    refine WL.yldG rfl (blt rfl) rfl rfl rfl (fun hb => Y.move rfl rfl) ?_
    refine WL.yldG rfl (blt rfl) rfl rfl rfl (fun hb => Y.lenSl rfl rfl rfl Try.underlying23 (evs_cons (evg rfl hb) evs_nil)) ?_
    refine WL.yldG rfl (blt rfl) rfl rfl rfl (fun hb => Y.gtr rfl (evg rfl hb) rfl) ?_
    refine WL.yld rfl (blt rfl) rfl (Y.or rfl rfl rfl rfl) ?_
    refine WL.yld rfl (blt rfl) rfl (Y.assign rfl rfl) ?_
    refine WL.nil ?_
    refine WK.then_normal (k6 _ _ ?_)
    refine WC.sub [(0, _), (1, _), (12, _)] ⟨rfl, rfl, rfl, trivial⟩ ?_
    refine WC.cond rfl (fun h7 => ?_) (fun h7 => ?_)
    ·
      have p7 := ((or_t h7).imp (fun h => (dec_t h)) (fun h => (dec_t h)))
      refine WC.seq (fun K8 k8 => ?_)
      refine WC.region rfl ?_
      refine WL.yld rfl (blt rfl) rfl (Y.assign rfl rfl) ?_
      refine WL.nil ?_
      refine WK.then_normal (k8 _ _ ?_)
      refine WC.sub [(4, _)] ⟨rfl, trivial⟩ ?_
      refine WC.ret ?_
      refine WK.in_ret ?_
      refine WK.then_ret ?_
      clear k1 k2 k3 k6 k8
      refine WK.ret [_] rfl ⟨rfl, trivial⟩ ?_
      refine ⟨ret1 (vi ?_), xW⟩
      unfold Ck.checkF
      rw [if_neg (by omega)]
      rw [if_pos (by omega)]
    ·
      have p7 := (And.intro (dec_f (or_f h7).1) (dec_f (or_f h7).2))
      refine WC.seq (fun K9 k9 => ?_)
      refine WC.region rfl ?_
      refine WL.yld rfl (blt rfl) rfl (Y.move rfl rfl) ?_
      have b10 : 0 < n_d := by omega
      refine WL.yld rfl (blt rfl) rfl (Y.indexLs 0 (h_d.ext xW) rfl Try.underlying22 ti59 rfl rfl rfl b10) ?_
      refine WL.yld rfl (blt rfl) rfl (Y.fieldE rfl Try.underlying59 rfl ti3 (by decide) rfl) ?_
      refine WL.yld rfl (blt rfl) rfl (Y.load1 rfl Try.underlying3 rfl rfl (Ls.at_eq (h_d.ext xW) b10 rfl)) ?_
      refine WL.yld rfl (blt rfl) rfl (Y.neq rfl rfl rfl) ?_
      refine WL.yld rfl (blt rfl) rfl (Y.move rfl rfl) ?_
      refine WL.yldG rfl (blt rfl) rfl rfl rfl (fun hb => Y.move rfl rfl) ?_
      refine WL.yldG rfl (blt rfl) rfl rfl rfl (fun hb => Y.indexLs 0 (h_d.ext xW) rfl Try.underlying22 ti59 (evg rfl hb) rfl rfl (by have q0 := (eq_t (not_f hb)); omega)) ?_
      refine WL.yldG rfl (blt rfl) rfl rfl rfl (fun hb => Y.fieldE rfl Try.underlying59 rfl ti3 (by decide) (evg rfl hb)) ?_
      refine WL.yldG rfl (blt rfl) rfl rfl rfl (fun hb => Y.load1 rfl Try.underlying3 rfl (evg rfl hb) (Ls.at_eq (h_d.ext xW) (by have q0 := (eq_t (not_f hb)); omega) rfl)) ?_
      refine WL.yldG rfl (blt rfl) rfl rfl rfl (fun hb => Y.neq rfl (evg rfl hb) rfl) ?_
      refine WL.yld rfl (blt rfl) rfl (Y.or rfl rfl rfl rfl) ?_
      refine WL.yld rfl (blt rfl) rfl (Y.assign rfl rfl) ?_
      refine WL.nil ?_
      refine WK.then_normal (k9 _ _ ?_)
      refine WC.sub [(0, _), (1, _), (21, _)] ⟨rfl, rfl, rfl, trivial⟩ ?_
      refine WC.cond rfl (fun h11 => ?_) (fun h11 => ?_)
      ·
        have p11 := ((or_t h11).imp (fun h => (eq_f (not_t h))) (fun h => (eq_f (not_t h))))
        refine WC.seq (fun K12 k12 => ?_)
        refine WC.region rfl ?_
        refine WL.yld rfl (blt rfl) rfl (Y.assign rfl rfl) ?_
        refine WL.nil ?_
        refine WK.then_normal (k12 _ _ ?_)
        refine WC.sub [(4, _)] ⟨rfl, trivial⟩ ?_
        refine WC.ret ?_
        refine WK.in_ret ?_
        refine WK.then_ret ?_
        clear k1 k2 k3 k6 k9 k12
        refine WK.ret [_] rfl ⟨rfl, trivial⟩ ?_
        refine ⟨ret1 (vi ?_), xW⟩
        unfold Ck.checkF
        rw [if_neg (by omega)]
        rw [if_neg (by omega)]
        rw [if_neg (by rw [zz_t h11]; exact Bool.false_ne_true)]
      ·
        have p11 := (And.intro (eq_t (not_f (or_f h11).1)) (eq_t (not_f (or_f h11).2)))
        refine WC.skip ?_
        refine WK.in_normal ?_
        refine WK.then_normal (k2 _ _ ?_)
        refine WC.sub [(0, _), (1, _)] ⟨rfl, rfl, trivial⟩ ?_
        refine WC.seq (fun K13 k13 => ?_)
        refine WC.seq (fun K14 k14 => ?_)
        refine WC.region rfl ?_
        refine WL.yld rfl (blt rfl) rfl (Y.assign rfl rfl) ?_
        refine WL.nil ?_
        refine WK.then_normal (k14 _ _ ?_)
        refine WC.block ?_
        refine WC.sub [(5, _), (0, _), (1, _)] ⟨rfl, rfl, rfl, trivial⟩ ?_
        refine WC.loopS 1 (fun mz Ed W' => ∃ i : Nat, mz = n_d - i ∧ Ed = [(5, .int .i64 ((i : Nat) : Int))] ∧ Ext w W' ∧ (i ≤ n_d) ∧ (Ck.doms d (d.drop i) i = Ck.doms d d 0)) _ ⟨0, rfl, rfl, xW, (Nat.zero_le _), rfl⟩ ?_
        rintro _ _ w15 ⟨i, rfl, rfl, xW, le_i, inv_i⟩
        refine WC.sub [(5, _), (0, _), (1, _)] ⟨rfl, rfl, rfl, trivial⟩ ?_
        refine WC.seq (fun K16 k16 => ?_)
        refine WC.seq (fun K17 k17 => ?_)
        refine WC.region rfl ?_
        refine WL.yld rfl (blt rfl) rfl (Y.move rfl rfl) ?_
        refine WL.yld rfl (blt rfl) rfl (Y.move rfl rfl) ?_
        refine WL.yld rfl (blt rfl) rfl (Y.lenSl rfl rfl rfl Try.underlying22 rfl) ?_
        refine WL.yld rfl (blt rfl) rfl (Y.lss rfl rfl rfl) ?_
        refine WL.nil ?_
        refine WK.then_normal (k17 _ _ ?_)
        refine WC.sub [(0, _), (1, _), (5, _), (37, _)] ⟨rfl, rfl, rfl, rfl, trivial⟩ ?_
        refine WC.cond rfl (fun h18 => ?_) (fun h18 => ?_)
        ·
          have p18 := (dec_t h18)
          refine WC.skip ?_
          refine WK.then_normal (k16 _ _ ?_)
          refine WC.sub [(0, _), (1, _), (5, _)] ⟨rfl, rfl, rfl, trivial⟩ ?_
          refine WC.seq (fun K19 k19 => ?_)
          refine WC.block ?_
          refine WC.seq (fun K20 k20 => ?_)
          refine WC.seq (fun K21 k21 => ?_)
          refine WC.region rfl ?_
          refine WL.yld rfl (blt rfl) rfl (Y.move rfl rfl) ?_
          refine WL.yld rfl (blt rfl) rfl (Y.move rfl rfl) ?_
          have b22 : i < n_d := by omega
          refine WL.yld rfl (blt rfl) rfl (Y.indexLs i (h_d.ext xW) rfl Try.underlying22 ti59 rfl rfl rfl b22) ?_
          refine WL.yld rfl (blt rfl) rfl (Y.fieldE rfl Try.underlying59 rfl ti3 (by decide) rfl) ?_
          refine WL.yld rfl (blt rfl) rfl (Y.load1 rfl Try.underlying3 rfl rfl (Ls.at_eq (h_d.ext xW) b22 rfl)) ?_
          refine WL.yld rfl (blt rfl) rfl (Y.lss rfl rfl rfl) ?_
          refine WL.yld rfl (blt rfl) rfl (Y.move rfl rfl) ?_
          refine WL.yldG rfl (blt rfl) rfl rfl rfl (fun hb => Y.move rfl rfl) ?_
          refine WL.yldG rfl (blt rfl) rfl rfl rfl (fun hb => Y.move rfl rfl) ?_
          refine WL.yldG rfl (blt rfl) rfl rfl rfl (fun hb => Y.indexLs i (h_d.ext xW) rfl Try.underlying22 ti59 (evg rfl hb) (evg rfl hb) rfl (by have q0 := (dec_f hb); omega)) ?_
          refine WL.yldG rfl (blt rfl) rfl rfl rfl (fun hb => Y.fieldE rfl Try.underlying59 rfl ti3 (by decide) (evg rfl hb)) ?_
          refine WL.yldG rfl (blt rfl) rfl rfl rfl (fun hb => Y.load1 rfl Try.underlying3 rfl (evg rfl hb) (Ls.at_eq (h_d.ext xW) (by have q0 := (dec_f hb); omega) rfl)) ?_
          refine WL.yldG rfl (blt rfl) rfl rfl rfl (fun hb => Y.geq rfl (evg rfl hb) rfl) ?_
          refine WL.yld rfl (blt rfl) rfl (Y.or rfl rfl rfl rfl) ?_
          refine WL.yld rfl (blt rfl) rfl (Y.move rfl rfl) ?_
          refine WL.yldG rfl (blt rfl) rfl rfl rfl (fun hb => Y.move rfl rfl) ?_
          refine WL.yldG rfl (blt rfl) rfl rfl rfl (fun hb => Y.move rfl rfl) ?_
          refine WL.yldG rfl (blt rfl) rfl rfl rfl (fun hb => Y.indexLs i (h_d.ext xW) rfl Try.underlying22 ti59 (evg rfl hb) (evg rfl hb) rfl (by have q0 := (And.intro (dec_f (or_f hb).1) (dec_f (or_f hb).2)); omega)) ?_
          refine WL.yldG rfl (blt rfl) rfl rfl rfl (fun hb => Y.fieldE rfl Try.underlying59 rfl ti3 (by decide) (evg rfl hb)) ?_
          refine WL.yldG rfl (blt rfl) rfl rfl rfl (fun hb => Y.load1 rfl Try.underlying3 rfl (evg rfl hb) (Ls.at_eq (h_d.ext xW) (by have q0 := (And.intro (dec_f (or_f hb).1) (dec_f (or_f hb).2)); omega) rfl)) ?_
          refine WL.yldG rfl (blt rfl) rfl rfl rfl (fun hb => Y.lss rfl (evg rfl hb) rfl) ?_
          refine WL.yld rfl (blt rfl) rfl (Y.or rfl rfl rfl rfl) ?_
          refine WL.yld rfl (blt rfl) rfl (Y.move rfl rfl) ?_
          refine WL.yldG rfl (blt rfl) rfl rfl rfl (fun hb => Y.move rfl rfl) ?_
          refine WL.yldG rfl (blt rfl) rfl rfl rfl (fun hb => Y.move rfl rfl) ?_
          refine WL.yldG rfl (blt rfl) rfl rfl rfl (fun hb => Y.indexLs i (h_d.ext xW) rfl Try.underlying22 ti59 (evg rfl hb) (evg rfl hb) rfl (by have q0 := (And.intro (And.intro (dec_f (or_f (or_f hb).1).1) (dec_f (or_f (or_f hb).1).2)) (dec_f (or_f hb).2)); omega)) ?_
          refine WL.yldG rfl (blt rfl) rfl rfl rfl (fun hb => Y.fieldE rfl Try.underlying59 rfl ti3 (by decide) (evg rfl hb)) ?_
          refine WL.yldG rfl (blt rfl) rfl rfl rfl (fun hb => Y.load1 rfl Try.underlying3 rfl (evg rfl hb) (Ls.at_eq (h_d.ext xW) (by have q0 := (And.intro (And.intro (dec_f (or_f (or_f hb).1).1) (dec_f (or_f (or_f hb).1).2)) (dec_f (or_f hb).2)); omega) rfl)) ?_
          refine WL.yldG rfl (blt rfl) rfl rfl rfl (fun hb => Y.gtr rfl (evg rfl hb) rfl) ?_
          refine WL.yld rfl (blt rfl) rfl (Y.or rfl rfl rfl rfl) ?_
          refine WL.nil ?_
          refine WK.then_normal (k21 _ _ ?_)
          refine WC.sub [(0, _), (1, _), (5, _), (69, _)] ⟨rfl, rfl, rfl, rfl, trivial⟩ ?_
          refine WC.cond rfl (fun h23 => ?_) (fun h23 => ?_)
          ·
            have p23 := ((or_t h23).imp (fun h => ((or_t h).imp (fun h => ((or_t h).imp (fun h => (dec_t h)) (fun h => (dec_t h)))) (fun h => (dec_t h)))) (fun h => (dec_t h)))
            refine WC.seq (fun K24 k24 => ?_)
            refine WC.region rfl ?_
            refine WL.yld rfl (blt rfl) rfl (Y.assign rfl rfl) ?_
            refine WL.nil ?_
            refine WK.then_normal (k24 _ _ ?_)
            refine WC.sub [(4, _)] ⟨rfl, trivial⟩ ?_
            refine WC.ret ?_
            refine WK.then_ret ?_
            refine WK.in_ret ?_
            refine WK.then_ret ?_
            refine WK.then_ret ?_
            refine WK.in_ret ?_
            refine WK.then_ret ?_
            clear k1 k2 k3 k6 k9 k13 k14 k16 k17 k19 k20 k21 k24
            refine WK.ret [_] rfl ⟨rfl, trivial⟩ ?_
            refine ⟨ret1 (vi ?_), xW⟩
            unfold Ck.checkF
            rw [if_neg (by omega)]
            rw [if_neg (by omega)]
            rw [if_pos (zz_f h11)]
            have e : Ck.doms d d 0 = 2 := by
              rw [← inv_i, drop_bang (show i < d.length from by omega)]
              rw [Ck.doms, if_pos (by unfold Ck.badDom; exact h23)]
            rw [e]; rfl
          ·
            have p23 := (And.intro (And.intro (And.intro (dec_f (or_f (or_f (or_f h23).1).1).1) (dec_f (or_f (or_f (or_f h23).1).1).2)) (dec_f (or_f (or_f h23).1).2)) (dec_f (or_f h23).2))
            refine WC.skip ?_
            refine WK.then_normal (k20 _ _ ?_)
            refine WC.sub [(0, _), (1, _), (5, _)] ⟨rfl, rfl, rfl, trivial⟩ ?_
            refine WC.seq (fun K25 k25 => ?_)
            refine WC.region rfl ?_
            refine WL.yld rfl (blt rfl) rfl (Y.move rfl rfl) ?_
            refine WL.yld rfl (blt rfl) rfl (Y.move rfl rfl) ?_
            refine WL.yld rfl (blt rfl) rfl (Y.move rfl rfl) ?_
            have b26 : i < n_d := by omega
            refine WL.yld rfl (blt rfl) rfl (Y.indexLs i (h_d.ext xW) rfl Try.underlying22 ti59 rfl rfl rfl b26) ?_
            refine WL.yld rfl (blt rfl) rfl (Y.fieldE rfl Try.underlying59 rfl ti3 (by decide) rfl) ?_
            refine WL.yld rfl (blt rfl) rfl (Y.load1 rfl Try.underlying3 rfl rfl (Ls.at_eq (h_d.ext xW) b26 rfl)) ?_
            refine WL.call rfl (blt rfl) rfl rfl rfl has52 rfl (find_any _ _ _ _ _ _ (h_d.ext xW)) ?_
            rintro _ w27 ⟨rfl, x28⟩
            refine ⟨_, rfl, ?_⟩
            have xW := Ext.trans xW x28
            refine WL.yld rfl (blt rfl) rfl (Y.move rfl rfl) ?_
            refine WL.yld rfl (blt rfl) rfl (Y.lss rfl rfl rfl) ?_
            refine WL.nil ?_
            refine WK.then_normal (k25 _ _ ?_)
            refine WC.sub [(0, _), (1, _), (5, _), (78, _)] ⟨rfl, rfl, rfl, rfl, trivial⟩ ?_
            refine WC.cond rfl (fun h29 => ?_) (fun h29 => ?_)
            ·
              have p29 := (dec_t h29)
              refine WC.seq (fun K30 k30 => ?_)
              refine WC.region rfl ?_
              refine WL.yld rfl (blt rfl) rfl (Y.assign rfl rfl) ?_
              refine WL.nil ?_
              refine WK.then_normal (k30 _ _ ?_)
              refine WC.sub [(4, _)] ⟨rfl, trivial⟩ ?_
              refine WC.ret ?_
              refine WK.in_ret ?_
              refine WK.then_ret ?_
              refine WK.then_ret ?_
              refine WK.in_ret ?_
              refine WK.then_ret ?_
              clear k1 k2 k3 k6 k9 k13 k14 k16 k17 k19 k20 k21 k25 k30
              refine WK.ret [_] rfl ⟨rfl, trivial⟩ ?_
              refine ⟨ret1 (vi ?_), xW⟩
              unfold Ck.checkF
              rw [if_neg (by omega)]
              rw [if_neg (by omega)]
              rw [if_pos (zz_f h11)]
              have e : Ck.doms d d 0 = 4 := by
                rw [← inv_i, drop_bang (show i < d.length from by omega)]
                rw [Ck.doms, if_neg (by unfold Ck.badDom; rw [h23]; exact Bool.false_ne_true), if_pos ((Ck.idx_ahead d i (by omega)).1 p29)]
              rw [e]; rfl
            ·
              have p29 := (dec_f h29)
              refine WC.skip ?_
              refine WK.in_normal ?_
              refine WK.then_normal (k19 _ _ ?_)
              refine WC.sub [(0, _), (1, _), (5, _)] ⟨rfl, rfl, rfl, trivial⟩ ?_
              refine WC.region rfl ?_
              refine WL.yld rfl (blt rfl) rfl (Y.move rfl rfl) ?_
              refine WL.yld rfl (blt rfl) rfl (Y.add rfl rfl rfl (wrap_i64 (by first | omega | (dsimp only; omega)))) ?_
              refine WL.yld rfl (blt rfl) rfl (Y.assign rfl rfl) ?_
              refine WL.nil ?_
              refine WK.roundS _ [(5, .int .i64 (((i + 1) : Nat) : Int))] ⟨rfl, rfl, rfl, trivial⟩ ?_ ⟨(i + 1), rfl, rfl, xW, (by omega), (by rw [← inv_i, drop_bang (show i < d.length from by omega)]; rw [Ck.doms, if_neg (by unfold Ck.badDom; rw [h23]; exact Bool.false_ne_true), if_neg (fun q => p29 ((Ck.idx_ahead d i (by omega)).2 q))])⟩
              show _ - (i + 1) < _ - i; omega
        ·
          have p18 := (dec_f h18)
          refine WC.exit ?_
          refine WK.then_exit ?_
          refine WK.then_exit ?_
          refine WK.in_exit ?_
          refine WK.then_normal (k13 _ _ ?_)
          refine WC.sub [(0, _), (1, _)] ⟨rfl, rfl, trivial⟩ ?_
          refine WC.seq (fun K31 k31 => ?_)
          refine WC.seq (fun K32 k32 => ?_)
          refine WC.region rfl ?_
          refine WL.yld rfl (blt rfl) rfl (Y.assign rfl rfl) ?_
          refine WL.nil ?_
          refine WK.then_normal (k32 _ _ ?_)
          refine WC.block ?_
          refine WC.sub [(6, _), (0, _), (1, _)] ⟨rfl, rfl, rfl, trivial⟩ ?_
          refine WC.loopS 1 (fun mz Ed W' => ∃ k : Nat, mz = n_l - k ∧ Ed = [(6, .int .i64 ((k : Nat) : Int))] ∧ Ext w W' ∧ (k ≤ n_l) ∧ (Ck.snaps d (l.drop k) = Ck.snaps d l)) _ ⟨0, rfl, rfl, xW, (Nat.zero_le _), rfl⟩ ?_
          rintro _ _ w33 ⟨k, rfl, rfl, xW, le_k, inv_k⟩
          refine WC.sub [(6, _), (0, _), (1, _)] ⟨rfl, rfl, rfl, trivial⟩ ?_
          refine WC.seq (fun K34 k34 => ?_)
          refine WC.seq (fun K35 k35 => ?_)
          refine WC.region rfl ?_
          refine WL.yld rfl (blt rfl) rfl (Y.move rfl rfl) ?_
          refine WL.yld rfl (blt rfl) rfl (Y.move rfl rfl) ?_
          refine WL.yld rfl (blt rfl) rfl (Y.lenSl rfl rfl rfl Try.underlying23 rfl) ?_
          refine WL.yld rfl (blt rfl) rfl (Y.lss rfl rfl rfl) ?_
          refine WL.nil ?_
          refine WK.then_normal (k35 _ _ ?_)
          refine WC.sub [(0, _), (1, _), (6, _), (82, _)] ⟨rfl, rfl, rfl, rfl, trivial⟩ ?_
          refine WC.cond rfl (fun h36 => ?_) (fun h36 => ?_)
          ·
            have p36 := (dec_t h36)
            refine WC.skip ?_
            refine WK.then_normal (k34 _ _ ?_)
            refine WC.sub [(0, _), (1, _), (6, _)] ⟨rfl, rfl, rfl, trivial⟩ ?_
            refine WC.seq (fun K37 k37 => ?_)
            refine WC.block ?_
            refine WC.seq (fun K38 k38 => ?_)
            refine WC.region rfl ?_
            refine WL.yld rfl (blt rfl) rfl (Y.move rfl rfl) ?_
            refine WL.yld rfl (blt rfl) rfl (Y.move rfl rfl) ?_
            refine WL.yld rfl (blt rfl) rfl (Y.move rfl rfl) ?_
            have b39 : k < n_l := by omega
            refine WL.yld rfl (blt rfl) rfl (Y.indexLs k (h_l.ext xW) rfl Try.underlying23 ti42 rfl rfl rfl b39) ?_
            refine WL.yld rfl (blt rfl) rfl (Y.loadS (cs := [_, _, _, _, _]) rfl Try.underlying42 rfl ti42 rfl (Ls.part_eq (h_l.ext xW) b39 rfl)) ?_
            refine WL.call rfl (blt rfl) rfl rfl rfl has53 rfl (rsnap_any _ _ _ _ _ _ (h_d.ext xW)) ?_
            rintro _ w40 ⟨rfl, x41⟩
            refine ⟨_, rfl, ?_⟩
            have xW := Ext.trans xW x41
            refine WL.yld rfl (blt rfl) rfl (Y.assign rfl rfl) ?_
            refine WL.nil ?_
            refine WK.then_normal (k38 _ _ ?_)
            refine WC.sub [(0, _), (1, _), (6, _), (7, _)] ⟨rfl, rfl, rfl, rfl, trivial⟩ ?_
            refine WC.seq (fun K42 k42 => ?_)
            refine WC.region rfl ?_
            refine WL.yld rfl (blt rfl) rfl (Y.move rfl rfl) ?_
            refine WL.yld rfl (blt rfl) rfl (Y.neq rfl rfl rfl) ?_
            refine WL.nil ?_
            refine WK.then_normal (k42 _ _ ?_)
            refine WC.sub [(0, _), (1, _), (6, _), (7, _), (92, _)] ⟨rfl, rfl, rfl, rfl, rfl, trivial⟩ ?_
            refine WC.cond rfl (fun h43 => ?_) (fun h43 => ?_)
            ·
              have p43 := (eq_f (not_t h43))
              refine WC.seq (fun K44 k44 => ?_)
              refine WC.region rfl ?_
              refine WL.yld rfl (blt rfl) rfl (Y.move rfl rfl) ?_
              refine WL.yld rfl (blt rfl) rfl (Y.assign rfl rfl) ?_
              refine WL.nil ?_
              refine WK.then_normal (k44 _ _ ?_)
              refine WC.sub [(4, _)] ⟨rfl, trivial⟩ ?_
              refine WC.ret ?_
              refine WK.in_ret ?_
              refine WK.then_ret ?_
              refine WK.then_ret ?_
              refine WK.in_ret ?_
              refine WK.then_ret ?_
              clear k1 k2 k3 k6 k9 k13 k14 k16 k17 k31 k32 k34 k35 k37 k38 k42 k44
              refine WK.ret [_] rfl ⟨rfl, trivial⟩ ?_
              refine ⟨ret1 (vi ?_), xW⟩
              unfold Ck.checkF
              rw [if_neg (by omega)]
              rw [if_neg (by omega)]
              rw [if_pos (zz_f h11)]
              have e : Ck.doms d d 0 = 0 := by rw [← inv_i, List.drop_of_length_le (by omega)]; rfl
              rw [e, if_pos (show ((0 : Int) == 0) = true from rfl)]
              rw [← inv_k, drop_bang (show k < l.length from by omega)]
              rw [Ck.snaps, if_neg (by rw [ne_f_of h43]; exact Bool.false_ne_true)]
            ·
              have p43 := (eq_t (not_f h43))
              refine WC.skip ?_
              refine WK.in_normal ?_
              refine WK.then_normal (k37 _ _ ?_)
              refine WC.sub [(0, _), (1, _), (6, _)] ⟨rfl, rfl, rfl, trivial⟩ ?_
              refine WC.region rfl ?_
              refine WL.yld rfl (blt rfl) rfl (Y.move rfl rfl) ?_
              refine WL.yld rfl (blt rfl) rfl (Y.add rfl rfl rfl (wrap_i64 (by first | omega | (dsimp only; omega)))) ?_
              refine WL.yld rfl (blt rfl) rfl (Y.assign rfl rfl) ?_
              refine WL.nil ?_
              refine WK.roundS _ [(6, .int .i64 (((k + 1) : Nat) : Int))] ⟨rfl, rfl, rfl, trivial⟩ ?_ ⟨(k + 1), rfl, rfl, xW, (by omega), (by rw [← inv_k, drop_bang (show k < l.length from by omega)]; simp only [Ck.snaps, not_f_ne h43, if_true])⟩
              show _ - (k + 1) < _ - k; omega
          ·
            have p36 := (dec_f h36)
            refine WC.exit ?_
            refine WK.then_exit ?_
            refine WK.then_exit ?_
            refine WK.in_exit ?_
            refine WK.then_normal (k31 _ _ ?_)
            refine WC.sub [] trivial ?_
            refine WC.seq (fun K45 k45 => ?_)
            refine WC.region rfl ?_
            refine WL.yld rfl (blt rfl) rfl (Y.assign rfl rfl) ?_
            refine WL.nil ?_
            refine WK.then_normal (k45 _ _ ?_)
            refine WC.ret ?_
            clear k1 k2 k3 k6 k9 k13 k14 k16 k17 k31 k32 k34 k35 k45
            refine WK.ret [_] rfl ⟨rfl, trivial⟩ ?_
            refine ⟨ret1 (vi ?_), xW⟩
            unfold Ck.checkF
            rw [if_neg (by omega)]
            rw [if_neg (by omega)]
            rw [if_pos (zz_f h11)]
            have e : Ck.doms d d 0 = 0 := by rw [← inv_i, List.drop_of_length_le (by omega)]; rfl
            rw [e, if_pos (show ((0 : Int) == 0) = true from rfl)]
            rw [← inv_k, List.drop_of_length_le (by omega)]; rfl
theorem rppm_any (A_d : Option Addr) (n_d c_d : Nat) (d : List Ck.Dom) (id : Int) (w : World) (h_d : Ls w A_d n_d c_d Ck.Dom.c 2 d) :
    Calls Try.prog 30 #[.slice A_d n_d c_d, .int .i64 id] w fun e w' => e = .returned (.tuple #[.int .i64 (Ck.ppmF d id).1, .bool (Ck.ppmF d id).2]) ∧ Ext w w' := by
  have xW := Ext.refl w
  have e_d := h_d.len
  have z_d := h_d.nle
  have hi := Ck.idx_lt d id 0
  refine calls_of_WC (args := [.slice A_d n_d c_d, .int .i64 id]) Try.func30 rfl rfl (ble rfl) ?_
  refine WC.seq (fun K1 k1 => ?_)
  refine WC.region rfl ?_
  refine WL.yld rfl (blt rfl) rfl (Y.assign rfl rfl) ?_
  refine WL.yld rfl (blt rfl) rfl (Y.assign rfl rfl) ?_
  refine WL.nil ?_
  refine WK.then_normal (k1 _ _ ?_)
  refine WC.sub [(0, _), (1, _)] ⟨rfl, rfl, trivial⟩ ?_
  refine WC.seq (fun K2 k2 => ?_)
  refine WC.region rfl ?_
  refine WL.yld rfl (blt rfl) rfl (Y.move rfl rfl) ?_
  refine WL.yld rfl (blt rfl) rfl (Y.move rfl rfl) ?_
  refine WL.call rfl (blt rfl) rfl rfl rfl has52 rfl (find_any _ _ _ _ _ _ (h_d.ext xW)) ?_
  rintro _ w3 ⟨rfl, x4⟩
  refine ⟨_, rfl, ?_⟩
  have xW := Ext.trans xW x4
  refine WL.yld rfl (blt rfl) rfl (Y.assign rfl rfl) ?_
  refine WL.nil ?_
  refine WK.then_normal (k2 _ _ ?_)
  refine WC.sub [(0, _), (6, _)] ⟨rfl, rfl, trivial⟩ ?_
  refine WC.seq (fun K5 k5 => ?_)
  refine WC.seq (fun K6 k6 => ?_)
  refine WC.region rfl ?_
  refine WL.yld rfl (blt rfl) rfl (Y.move rfl rfl) ?_
  refine WL.call rfl (blt rfl) rfl rfl rfl has29 rfl (rcheck_any _ _ _ _ _ _ _ _ _ (h_d.ext xW) (Ls.nil (by decide))) ?_
  rintro _ w7 ⟨rfl, x8⟩
  refine ⟨_, rfl, ?_⟩
  have xW := Ext.trans xW x8
  refine WL.yld rfl (blt rfl) rfl (Y.neq rfl rfl rfl) ?_
  refine WL.yld rfl (blt rfl) rfl (Y.move rfl rfl) ?_
  refine WL.yldG rfl (blt rfl) rfl rfl rfl (fun hb => Y.move rfl rfl) ?_
  refine WL.yldG rfl (blt rfl) rfl rfl rfl (fun hb => Y.lss rfl (evg rfl hb) rfl) ?_
  refine WL.yld rfl (blt rfl) rfl (Y.or rfl rfl rfl rfl) ?_
  refine WL.nil ?_
  refine WK.then_normal (k6 _ _ ?_)
  refine WC.sub [(0, _), (6, _), (16, _)] ⟨rfl, rfl, rfl, trivial⟩ ?_
  refine WC.cond rfl (fun h9 => ?_) (fun h9 => ?_)
  ·
    have p9 := ((or_t h9).imp (fun h => (eq_f (not_t h))) (fun h => (dec_t h)))
    refine WC.seq (fun K10 k10 => ?_)
    refine WC.region rfl ?_
    refine WL.yld rfl (blt rfl) rfl (Y.assign rfl rfl) ?_
    refine WL.yld rfl (blt rfl) rfl (Y.assign rfl rfl) ?_
    refine WL.nil ?_
    refine WK.then_normal (k10 _ _ ?_)
    refine WC.sub [(4, _), (5, _)] ⟨rfl, rfl, trivial⟩ ?_
    refine WC.ret ?_
    refine WK.then_ret ?_
    clear k1 k2 k5 k6 k10
    refine WK.ret [_, _] rfl ⟨rfl, rfl, trivial⟩ ?_
    refine ⟨ret2 (vi ?_) (vb ?_), xW⟩
    · unfold Ck.ppmF
      first
        | (rw [Ck.ppm_no h9])
        | (rw [Ck.ppm_yes h9])
    · unfold Ck.ppmF
      first
        | (rw [Ck.ppm_no h9])
        | (rw [Ck.ppm_yes h9])
  ·
    have p9 := (And.intro (eq_t (not_f (or_f h9).1)) (dec_f (or_f h9).2))
    refine WC.skip ?_
    refine WK.then_normal (k5 _ _ ?_)
    refine WC.sub [(0, _), (6, _)] ⟨rfl, rfl, trivial⟩ ?_
    refine WC.seq (fun K11 k11 => ?_)
    refine WC.region rfl ?_
    refine WL.yld rfl (blt rfl) rfl (Y.move rfl rfl) ?_
    refine WL.yld rfl (blt rfl) rfl (Y.move rfl rfl) ?_
    have b12 : (Ck.idx d id 0).toNat < n_d := by omega
    refine WL.yld rfl (blt rfl) rfl (Y.indexLs (Ck.idx d id 0).toNat (h_d.ext xW) rfl Try.underlying22 ti59 rfl rfl (by omega) b12) ?_
    refine WL.yld rfl (blt rfl) rfl (Y.fieldE rfl Try.underlying59 rfl ti3 (by decide) rfl) ?_
    refine WL.yld rfl (blt rfl) rfl (Y.load1 rfl Try.underlying3 rfl rfl (Ls.at_eq (h_d.ext xW) b12 rfl)) ?_
    refine WL.yld rfl (blt rfl) rfl (Y.assign rfl rfl) ?_
    refine WL.yld rfl (blt rfl) rfl (Y.assign rfl rfl) ?_
    refine WL.nil ?_
    refine WK.then_normal (k11 _ _ ?_)
    refine WC.sub [(4, _), (5, _)] ⟨rfl, rfl, trivial⟩ ?_
    refine WC.ret ?_
    clear k1 k2 k5 k6 k11
    refine WK.ret [_, _] rfl ⟨rfl, rfl, trivial⟩ ?_
    refine ⟨ret2 (vi ?_) (vb ?_), xW⟩
    · unfold Ck.ppmF
      first
        | (rw [Ck.ppm_no h9])
        | (rw [Ck.ppm_yes h9])
    · unfold Ck.ppmF
      first
        | (rw [Ck.ppm_no h9])
        | (rw [Ck.ppm_yes h9])
end R
end CkW

end Go.Proofs.Ytaglpampidlbmaa
