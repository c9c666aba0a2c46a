/- The walk of the law. Conditions: what each theorem states. -/
import Derived.Test.YtaglpampidlbmaaBdAw
import Derived.Test.YtaglpampidlbmaaBdM2
namespace Go.Proofs.Ytaglpampidlbmaa
open Go Go.Eng Go.RowKit
set_option linter.unusedVariables false
set_option linter.unusedSimpArgs false
namespace BdW
open N RL NumF LB GR CkW CkW.P CkW.K CkW.R CkW.RP B OF MY RP_ RE RI RL_ RO RS_ AW_
namespace LBoundSteps
theorem ti3 : TI Try.prog 3 (.int .i64 0) 1 8 := TI.mk (by kernel_rfl)
theorem ti22 : TI Try.prog 22 (.slice none 0 0) 1 24 := TI.mk (by kernel_rfl)
theorem ti23 : TI Try.prog 23 (.slice none 0 0) 1 24 := TI.mk (by kernel_rfl)
theorem ti25 : TI Try.prog 25 (.agg #[.slice none 0 0, .slice none 0 0]) 2 48 := TI.mk (by kernel_rfl)
theorem ti29 : TI Try.prog 29 (.agg #[.int .i64 0, .int .i64 0]) 2 16 := TI.mk (by kernel_rfl)
theorem has9 : Has Try.prog 9 := ⟨_, Try.func9, rfl, by kernel_rfl⟩
theorem has10 : Has Try.prog 10 := ⟨_, Try.func10, rfl, by kernel_rfl⟩
theorem has11 : Has Try.prog 11 := ⟨_, Try.func11, rfl, by kernel_rfl⟩
theorem has21 : Has Try.prog 21 := ⟨_, Try.func21, rfl, by kernel_rfl⟩
theorem has22 : Has Try.prog 22 := ⟨_, Try.func22, rfl, by kernel_rfl⟩
theorem BoundSteps_any (A_d : Option Addr) (n_d c_d : Nat) (d : List Ck.Dom) (A_l : Option Addr) (n_l c_l : Nat) (l : List Ck.Snap) (id : Int) (a0 a1 : Int) (w : World) (h_d : Ls w A_d n_d c_d Ck.Dom.c 2 d) (h_l : Ls w A_l n_l c_l Ck.Snap.c 5 l) :
    Calls Try.prog 8 #[.agg #[.slice A_d n_d c_d, .slice A_l n_l c_l], .int .i64 id, .agg #[.int .i64 a0, .int .i64 a1]] w fun e w' => e = .returned (.bool true) ∧ Ext w w' := by
  have xW := Ext.refl w
  have e_d := h_d.len
  have z_d := h_d.nle
  have e_l := h_l.len
  have z_l := h_l.nle
  refine calls_of_WC (args := [.agg #[.slice A_d n_d c_d, .slice A_l n_l c_l], .int .i64 id, .agg #[.int .i64 a0, .int .i64 a1]]) Try.func8 rfl rfl (ble rfl) ?_
  refine WC.seq (fun K1 k1 => ?_)
  refine WC.region rfl ?_
  refine WL.box rfl (blt rfl) rfl rfl rfl rfl ?_
  intro g2 w3 e4 x5 m6
  have o_g2 := own_new xW e4
  have xW := Ext.trans xW x5
  refine WL.box rfl (blt rfl) rfl rfl rfl rfl ?_
  intro g7 w8 e9 x10 m11
  have n_g2_g7 := ne_new m6 e9
  have o_g7 := own_new xW e9
  have m6 := m6.ext x10
  have xW := Ext.trans xW x10
  refine WL.yld rfl (blt rfl) rfl (Y.assign rfl rfl) ?_
  refine WL.nil ?_
  refine WK.then_normal (k1 _ _ ?_)
  refine WC.sub [(1, _), (3, _), (5, _)] ⟨rfl, rfl, rfl, trivial⟩ ?_
  refine WC.seq (fun K12 k12 => ?_)
  refine WC.seq (fun K13 k13 => ?_)
  refine WC.region rfl ?_
  refine WL.yld rfl (blt rfl) rfl (Y.loadS rfl Try.underlying25 rfl ti25 rfl (Blk.row_eq m6)) ?_
  refine WL.call rfl (blt rfl) rfl rfl rfl has9 rfl (small_any _ _ _ d _ _ _ l _) ?_
  rintro _ w14 ⟨rfl, x15⟩
  refine ⟨_, rfl, ?_⟩
  have m6 := m6.ext x15
  have m11 := m11.ext x15
  have xW := Ext.trans xW x15
  refine WL.yld rfl (blt rfl) rfl (Y.not rfl rfl) ?_
  refine WL.yld rfl (blt rfl) rfl (Y.move rfl rfl) ?_
  refine WL.yldG rfl (blt rfl) rfl rfl rfl (fun hb => Y.indexArr rfl Try.underlying43 ti3 rfl rfl (by decide)) ?_
  refine WL.yldG rfl (blt rfl) rfl rfl rfl (fun hb => Y.load1 rfl Try.underlying3 rfl (evg rfl hb) (Blk.at_eq m11 rfl)) ?_
  refine WL.yldG rfl (blt rfl) rfl rfl rfl (fun hb => Y.indexArr rfl Try.underlying43 ti3 rfl rfl (by decide)) ?_
  refine WL.yldG rfl (blt rfl) rfl rfl rfl (fun hb => Y.load1 rfl Try.underlying3 rfl (evg rfl hb) (Blk.at_eq m11 rfl)) ?_
  refine WL.yldG rfl (blt rfl) rfl rfl rfl (fun hb => Y.gtr rfl (evg rfl hb) (evg rfl hb)) ?_
  refine WL.yld rfl (blt rfl) rfl (Y.or rfl rfl rfl rfl) ?_
  refine WL.nil ?_
  refine WK.then_normal (k13 _ _ ?_)
  refine WC.sub [(1, _), (3, _), (5, _), (24, _)] ⟨rfl, rfl, rfl, rfl, trivial⟩ ?_
  refine WC.cond rfl (fun h16 => ?_) (fun h16 => ?_)
  ·
    have p16 := ((or_t h16).imp (fun h => ((and_f (not_t h)).imp (fun h => (dec_f h)) (fun h => (dec_f h)))) (fun h => (dec_t h)))
    refine WC.seq (fun K17 k17 => ?_)
    refine WC.region rfl ?_
    refine WL.call rfl (blt rfl) rfl rfl rfl has10 rfl (awake_any _ ) ?_
    rintro _ w18 ⟨rfl, x19⟩
    refine ⟨_, rfl, ?_⟩
    have m6 := m6.ext x19
    have m11 := m11.ext x19
    have xW := Ext.trans xW x19
    refine WL.yld rfl (blt rfl) rfl (Y.assign rfl rfl) ?_
    refine WL.nil ?_
    refine WK.then_normal (k17 _ _ ?_)
    refine WC.sub [(6, _)] ⟨rfl, trivial⟩ ?_
    refine WC.ret ?_
    refine WK.then_ret ?_
    clear k1 k12 k13 k17
    refine WK.ret [_] rfl ⟨rfl, trivial⟩ ?_
    exact ⟨ret1 (vb rfl), xW⟩
  ·
    have p16 := (And.intro (And.intro (dec_t (and_t (not_f (or_f h16).1)).1) (dec_t (and_t (not_f (or_f h16).1)).2)) (dec_f (or_f h16).2))
    refine WC.skip ?_
    refine WK.then_normal (k12 _ _ ?_)
    refine WC.sub [(1, _), (3, _), (5, _)] ⟨rfl, rfl, rfl, trivial⟩ ?_
    refine WC.seq (fun K20 k20 => ?_)
    refine WC.region rfl ?_
    refine WL.yld rfl (blt rfl) rfl (Y.fieldAddr rfl Try.underlying25 rfl ti22 (by decide) rfl) ?_
    refine WL.yld rfl (blt rfl) rfl (Y.load1 rfl Try.underlying22 rfl rfl (Blk.at_eq m6 rfl)) ?_
    refine WL.yld rfl (blt rfl) rfl (Y.fieldAddr rfl Try.underlying25 rfl ti23 (by decide) rfl) ?_
    refine WL.yld rfl (blt rfl) rfl (Y.load1 rfl Try.underlying23 rfl rfl (Blk.at_eq m6 rfl)) ?_
    refine WL.yld rfl (blt rfl) rfl (Y.move rfl rfl) ?_
    refine WL.yld rfl (blt rfl) rfl (Y.indexArr rfl Try.underlying43 ti3 rfl rfl (by decide)) ?_
    refine WL.yld rfl (blt rfl) rfl (Y.load1 rfl Try.underlying3 rfl rfl (Blk.at_eq m11 rfl)) ?_
    refine WL.call rfl (blt rfl) rfl rfl rfl has11 rfl (of_any _ _ _ _ _ _ _ _ _ _ _ (h_d.ext xW) (h_l.ext xW) (by omega)) ?_
    rintro _ w21 ⟨rfl, x22⟩
    refine ⟨_, rfl, ?_⟩
    have m6 := m6.ext x22
    have m11 := m11.ext x22
    have xW := Ext.trans xW x22
    refine WL.yld rfl (blt rfl) rfl (Y.move rfl rfl) ?_
    refine WL.yld rfl (blt rfl) rfl (Y.extract rfl rfl rfl) ?_
    refine WL.yld rfl (blt rfl) rfl (Y.extract rfl rfl rfl) ?_
    refine WL.alloc rfl (blt rfl) rfl rfl ti29 rfl ?_
    intro g23 w24 e25 x26 m27
    have n_g2_g23 := ne_new m6 e25
    have n_g7_g23 := ne_new m11 e25
    have o_g23 := own_new xW e25
    have m6 := m6.ext x26
    have m11 := m11.ext x26
    have xW := Ext.trans xW x26
    refine WL.store (cs' := [_, _]) rfl rfl rfl rfl rfl rfl ti29 m27 (ble rfl) rfl rfl (fun w28 on29 m30 => ?_)
    have m6 := m6.only n_g2_g23 on29
    have m11 := m11.only n_g7_g23 on29
    have xW := Ext.only xW on29 o_g23
    refine WL.yld rfl (blt rfl) rfl (Y.assign rfl rfl) ?_
    refine WL.nil ?_
    refine WK.then_normal (k20 _ _ ?_)
    refine WC.sub [(1, _), (3, _), (5, _), (7, _), (8, _)] ⟨rfl, rfl, rfl, rfl, rfl, trivial⟩ ?_
    refine WC.seq (fun K31 k31 => ?_)
    refine WC.region rfl ?_
    refine WL.yld rfl (blt rfl) rfl (Y.fieldAddr rfl Try.underlying25 rfl ti22 (by decide) rfl) ?_
    refine WL.yld rfl (blt rfl) rfl (Y.load1 rfl Try.underlying22 rfl rfl (Blk.at_eq m6 rfl)) ?_
    refine WL.yld rfl (blt rfl) rfl (Y.fieldAddr rfl Try.underlying25 rfl ti23 (by decide) rfl) ?_
    refine WL.yld rfl (blt rfl) rfl (Y.load1 rfl Try.underlying23 rfl rfl (Blk.at_eq m6 rfl)) ?_
    refine WL.yld rfl (blt rfl) rfl (Y.move rfl rfl) ?_
    refine WL.yld rfl (blt rfl) rfl (Y.indexArr rfl Try.underlying43 ti3 rfl rfl (by decide)) ?_
    refine WL.yld rfl (blt rfl) rfl (Y.load1 rfl Try.underlying3 rfl rfl (Blk.at_eq m11 rfl)) ?_
    refine WL.call rfl (blt rfl) rfl rfl rfl has11 rfl (of_any _ _ _ _ _ _ _ _ _ _ _ (h_d.ext xW) (h_l.ext xW) (by omega)) ?_
    rintro _ w32 ⟨rfl, x33⟩
    refine ⟨_, rfl, ?_⟩
    have m6 := m6.ext x33
    have m11 := m11.ext x33
    have m30 := m30.ext x33
    have xW := Ext.trans xW x33
    refine WL.yld rfl (blt rfl) rfl (Y.move rfl rfl) ?_
    refine WL.yld rfl (blt rfl) rfl (Y.extract rfl rfl rfl) ?_
    refine WL.yld rfl (blt rfl) rfl (Y.extract rfl rfl rfl) ?_
    refine WL.alloc rfl (blt rfl) rfl rfl ti29 rfl ?_
    intro g34 w35 e36 x37 m38
    have n_g2_g34 := ne_new m6 e36
    have n_g7_g34 := ne_new m11 e36
    have n_g23_g34 := ne_new m30 e36
    have o_g34 := own_new xW e36
    have m6 := m6.ext x37
    have m11 := m11.ext x37
    have m30 := m30.ext x37
    have xW := Ext.trans xW x37
    refine WL.store (cs' := [_, _]) rfl rfl rfl rfl rfl rfl ti29 m38 (ble rfl) rfl rfl (fun w39 on40 m41 => ?_)
    have m6 := m6.only n_g2_g34 on40
    have m11 := m11.only n_g7_g34 on40
    have m30 := m30.only n_g23_g34 on40
    have xW := Ext.only xW on40 o_g34
    refine WL.yld rfl (blt rfl) rfl (Y.assign rfl rfl) ?_
    refine WL.nil ?_
    refine WK.then_normal (k31 _ _ ?_)
    refine WC.sub [(1, _), (3, _), (5, _), (7, _), (8, _), (9, _), (10, _)] ⟨rfl, rfl, rfl, rfl, rfl, rfl, rfl, trivial⟩ ?_
    refine WC.seq (fun K42 k42 => ?_)
    refine WC.seq (fun K43 k43 => ?_)
    refine WC.region rfl ?_
    refine WL.yld rfl (blt rfl) rfl (Y.move rfl rfl) ?_
    refine WL.yld rfl (blt rfl) rfl (Y.neq rfl rfl rfl) ?_
    refine WL.yld rfl (blt rfl) rfl (Y.move rfl rfl) ?_
    refine WL.yldG rfl (blt rfl) rfl rfl rfl (fun hb => Y.move rfl rfl) ?_
    refine WL.yldG rfl (blt rfl) rfl rfl rfl (fun hb => Y.neq rfl (evg rfl hb) rfl) ?_
    refine WL.yld rfl (blt rfl) rfl (Y.or rfl rfl rfl rfl) ?_
    refine WL.nil ?_
    refine WK.then_normal (k43 _ _ ?_)
    refine WC.sub [(1, _), (3, _), (5, _), (7, _), (9, _), (53, _)] ⟨rfl, rfl, rfl, rfl, rfl, rfl, trivial⟩ ?_
    refine WC.cond rfl (fun h44 => ?_) (fun h44 => ?_)
    ·
      have p44 := ((or_t h44).imp (fun h => (eq_f (not_t h))) (fun h => (eq_f (not_t h))))
      refine WC.seq (fun K45 k45 => ?_)
      refine WC.region rfl ?_
      refine WL.call rfl (blt rfl) rfl rfl rfl has10 rfl (awake_any _ ) ?_
      rintro _ w46 ⟨rfl, x47⟩
      refine ⟨_, rfl, ?_⟩
      have m6 := m6.ext x47
      have m11 := m11.ext x47
      have m30 := m30.ext x47
      have m41 := m41.ext x47
      have xW := Ext.trans xW x47
      refine WL.yld rfl (blt rfl) rfl (Y.assign rfl rfl) ?_
      refine WL.nil ?_
      refine WK.then_normal (k45 _ _ ?_)
      refine WC.sub [(6, _)] ⟨rfl, trivial⟩ ?_
      refine WC.ret ?_
      refine WK.then_ret ?_
      clear k1 k12 k13 k20 k31 k42 k43 k45
      refine WK.ret [_] rfl ⟨rfl, trivial⟩ ?_
      exact ⟨ret1 (vb rfl), xW⟩
    ·
      have p44 := (And.intro (eq_t (not_f (or_f h44).1)) (eq_t (not_f (or_f h44).2)))
      have hx0 : (Bd.ofF d l id a0).2 = 0 := by simpa using (Bool.or_eq_false_iff.1 h44).1
      have hx1 : (Bd.ofF d l id a1).2 = 0 := by simpa using (Bool.or_eq_false_iff.1 h44).2
      have ale : a0 ≤ a1 := by have q := (Bool.or_eq_false_iff.1 h16).2; have q2 := of_decide_eq_false q; omega
      have sst := Bd.steps (by omega) ale hx0 hx1
      have ra := (Bd.of_ok (by omega) hx0).ha
      have rz := (Bd.of_ok (by omega) hx1).ha
      have sb := Iv.str_bound (a1 - a0) (Ck.ppmF d id).1
      refine WC.skip ?_
      refine WK.then_normal (k42 _ _ ?_)
      refine WC.sub [(1, _), (3, _), (5, _), (7, _), (9, _)] ⟨rfl, rfl, rfl, rfl, rfl, trivial⟩ ?_
      refine WC.seq (fun K48 k48 => ?_)
      refine WC.region rfl ?_
      refine WL.yld rfl (blt rfl) rfl (Y.fieldAddr rfl Try.underlying25 rfl ti22 (by decide) rfl) ?_
      refine WL.yld rfl (blt rfl) rfl (Y.load1 rfl Try.underlying22 rfl rfl (Blk.at_eq m6 rfl)) ?_
      refine WL.yld rfl (blt rfl) rfl (Y.move rfl rfl) ?_
      refine WL.call rfl (blt rfl) rfl rfl rfl has21 rfl (ppm_any _ _ _ _ _ _ (h_d.ext xW)) ?_
      rintro _ w49 ⟨rfl, x50⟩
      refine ⟨_, rfl, ?_⟩
      have m6 := m6.ext x50
      have m11 := m11.ext x50
      have m30 := m30.ext x50
      have m41 := m41.ext x50
      have xW := Ext.trans xW x50
      refine WL.yld rfl (blt rfl) rfl (Y.move rfl rfl) ?_
      refine WL.yld rfl (blt rfl) rfl (Y.extract rfl rfl rfl) ?_
      refine WL.yld rfl (blt rfl) rfl (Y.extract rfl rfl rfl) ?_
      refine WL.yld rfl (blt rfl) rfl (Y.assign rfl rfl) ?_
      refine WL.yld rfl (blt rfl) rfl (Y.assign rfl rfl) ?_
      refine WL.nil ?_
      refine WK.then_normal (k48 _ _ ?_)
      refine WC.sub [(5, _), (7, _), (9, _), (11, _), (12, _)] ⟨rfl, rfl, rfl, rfl, rfl, trivial⟩ ?_
      refine WC.seq (fun K51 k51 => ?_)
      refine WC.region rfl ?_
      refine WL.yld rfl (blt rfl) rfl (Y.indexArr rfl Try.underlying43 ti3 rfl rfl (by decide)) ?_
      refine WL.yld rfl (blt rfl) rfl (Y.load1 rfl Try.underlying3 rfl rfl (Blk.at_eq m11 rfl)) ?_
      refine WL.yld rfl (blt rfl) rfl (Y.indexArr rfl Try.underlying43 ti3 rfl rfl (by decide)) ?_
      refine WL.yld rfl (blt rfl) rfl (Y.load1 rfl Try.underlying3 rfl rfl (Blk.at_eq m11 rfl)) ?_
      refine WL.yld rfl (blt rfl) rfl (Y.sub rfl rfl rfl (wrap_i64 (by first | omega | (dsimp only; omega)))) ?_
      refine WL.yld rfl (blt rfl) rfl (Y.move rfl rfl) ?_
      refine WL.call rfl (blt rfl) rfl rfl rfl has22 rfl (stretch_any _ _ _) ?_
      rintro _ w52 ⟨rfl, x53⟩
      refine ⟨_, rfl, ?_⟩
      have m11 := m11.ext x53
      have m30 := m30.ext x53
      have m41 := m41.ext x53
      have xW := Ext.trans xW x53
      refine WL.yld rfl (blt rfl) rfl (Y.move rfl rfl) ?_
      refine WL.yld rfl (blt rfl) rfl (Y.extract rfl rfl rfl) ?_
      refine WL.yld rfl (blt rfl) rfl (Y.extract rfl rfl rfl) ?_
      refine WL.alloc rfl (blt rfl) rfl rfl ti29 rfl ?_
      intro g54 w55 e56 x57 m58
      have n_g7_g54 := ne_new m11 e56
      have n_g23_g54 := ne_new m30 e56
      have n_g34_g54 := ne_new m41 e56
      have o_g54 := own_new xW e56
      have m11 := m11.ext x57
      have m30 := m30.ext x57
      have m41 := m41.ext x57
      have xW := Ext.trans xW x57
      refine WL.store (cs' := [_, _]) rfl rfl rfl rfl rfl rfl ti29 m58 (ble rfl) rfl rfl (fun w59 on60 m61 => ?_)
      have m11 := m11.only n_g7_g54 on60
      have m30 := m30.only n_g23_g54 on60
      have m41 := m41.only n_g34_g54 on60
      have xW := Ext.only xW on60 o_g54
      refine WL.yld rfl (blt rfl) rfl (Y.assign rfl rfl) ?_
      refine WL.nil ?_
      refine WK.then_normal (k51 _ _ ?_)
      refine WC.sub [(7, _), (9, _), (12, _), (13, _), (14, _)] ⟨rfl, rfl, rfl, rfl, rfl, trivial⟩ ?_
      refine WC.seq (fun K62 k62 => ?_)
      refine WC.region rfl ?_
      refine WL.yld rfl (blt rfl) rfl (Y.move rfl rfl) ?_
      refine WL.yld rfl (blt rfl) rfl (Yld.cast (Y.move rfl rfl) (vb (b := true) sst.2.2.2.2.1)) ?_
      refine WL.yldW rfl (blt rfl) rfl rfl rfl (Yld.cast (Y.move rfl rfl) (vb (b := true) sst.2.2.2.2.2)) ?_
      refine WL.yld rfl (blt rfl) rfl (Y.pickT rfl rfl rfl) ?_
      refine WL.yld rfl (blt rfl) rfl (Y.move rfl rfl) ?_
      refine WL.yldW rfl (blt rfl) rfl rfl rfl (Y.fieldAddr rfl Try.underlying29 rfl ti3 (by decide) rfl) ?_
      refine WL.yldW rfl (blt rfl) rfl rfl rfl (Y.load1 rfl Try.underlying3 rfl rfl (Blk.at_eq m30 rfl)) ?_
      refine WL.yldW rfl (blt rfl) rfl rfl rfl (Y.fieldAddr rfl Try.underlying29 rfl ti3 (by decide) rfl) ?_
      refine WL.yldW rfl (blt rfl) rfl rfl rfl (Y.load1 rfl Try.underlying3 rfl rfl (Blk.at_eq m41 rfl)) ?_
      refine WL.yldW rfl (blt rfl) rfl rfl rfl (Yld.cast (Y.leq rfl rfl rfl) (bt sst.1)) ?_
      refine WL.yld rfl (blt rfl) rfl (Y.pickT rfl rfl rfl) ?_
      refine WL.yld rfl (blt rfl) rfl (Y.move rfl rfl) ?_
      refine WL.yldW rfl (blt rfl) rfl rfl rfl (Y.fieldAddr rfl Try.underlying29 rfl ti3 (by decide) rfl) ?_
      refine WL.yldW rfl (blt rfl) rfl rfl rfl (Y.load1 rfl Try.underlying3 rfl rfl (Blk.at_eq m30 rfl)) ?_
      refine WL.yldW rfl (blt rfl) rfl rfl rfl (Y.fieldAddr rfl Try.underlying29 rfl ti3 (by decide) rfl) ?_
      refine WL.yldW rfl (blt rfl) rfl rfl rfl (Y.load1 rfl Try.underlying3 rfl rfl (Blk.at_eq m41 rfl)) ?_
      refine WL.yldW rfl (blt rfl) rfl rfl rfl (Yld.cast (Y.leq rfl rfl rfl) (bt sst.2.1)) ?_
      refine WL.yld rfl (blt rfl) rfl (Y.pickT rfl rfl rfl) ?_
      refine WL.yld rfl (blt rfl) rfl (Y.move rfl rfl) ?_
      refine WL.yldW rfl (blt rfl) rfl rfl rfl (Y.fieldAddr rfl Try.underlying29 rfl ti3 (by decide) rfl) ?_
      refine WL.yldW rfl (blt rfl) rfl rfl rfl (Y.load1 rfl Try.underlying3 rfl rfl (Blk.at_eq m41 rfl)) ?_
      refine WL.yldW rfl (blt rfl) rfl rfl rfl (Y.fieldAddr rfl Try.underlying29 rfl ti3 (by decide) rfl) ?_
      refine WL.yldW rfl (blt rfl) rfl rfl rfl (Y.load1 rfl Try.underlying3 rfl rfl (Blk.at_eq m30 rfl)) ?_
      refine WL.yldW rfl (blt rfl) rfl rfl rfl (Y.sub rfl rfl rfl (wrap_i64 (by first | omega | (dsimp only; omega)))) ?_
      refine WL.yldW rfl (blt rfl) rfl rfl rfl (Y.fieldAddr rfl Try.underlying29 rfl ti3 (by decide) rfl) ?_
      refine WL.yldW rfl (blt rfl) rfl rfl rfl (Y.load1 rfl Try.underlying3 rfl rfl (Blk.at_eq m61 rfl)) ?_
      refine WL.yldW rfl (blt rfl) rfl rfl rfl (Yld.cast (Y.leq rfl rfl rfl) (bt sst.2.2.1)) ?_
      refine WL.yld rfl (blt rfl) rfl (Y.pickT rfl rfl rfl) ?_
      refine WL.yld rfl (blt rfl) rfl (Y.move rfl rfl) ?_
      refine WL.yldW rfl (blt rfl) rfl rfl rfl (Y.fieldAddr rfl Try.underlying29 rfl ti3 (by decide) rfl) ?_
      refine WL.yldW rfl (blt rfl) rfl rfl rfl (Y.load1 rfl Try.underlying3 rfl rfl (Blk.at_eq m41 rfl)) ?_
      refine WL.yldW rfl (blt rfl) rfl rfl rfl (Y.fieldAddr rfl Try.underlying29 rfl ti3 (by decide) rfl) ?_
      refine WL.yldW rfl (blt rfl) rfl rfl rfl (Y.load1 rfl Try.underlying3 rfl rfl (Blk.at_eq m30 rfl)) ?_
      refine WL.yldW rfl (blt rfl) rfl rfl rfl (Y.sub rfl rfl rfl (wrap_i64 (by first | omega | (dsimp only; omega)))) ?_
      refine WL.yldW rfl (blt rfl) rfl rfl rfl (Y.fieldAddr rfl Try.underlying29 rfl ti3 (by decide) rfl) ?_
      refine WL.yldW rfl (blt rfl) rfl rfl rfl (Y.load1 rfl Try.underlying3 rfl rfl (Blk.at_eq m61 rfl)) ?_
      refine WL.yldW rfl (blt rfl) rfl rfl rfl (Yld.cast (Y.leq rfl rfl rfl) (bt sst.2.2.2.1)) ?_
      refine WL.yld rfl (blt rfl) rfl (Y.pickT rfl rfl rfl) ?_
      refine WL.yld rfl (blt rfl) rfl (Y.move rfl rfl) ?_
      refine WL.callW rfl (blt rfl) rfl rfl rfl rfl rfl has10 rfl (awake_any _ ) ?_
      rintro _ w63 ⟨rfl, x64⟩
      refine ⟨_, rfl, ?_⟩
      have m30 := m30.ext x64
      have m41 := m41.ext x64
      have m61 := m61.ext x64
      have xW := Ext.trans xW x64
      refine WL.yld rfl (blt rfl) rfl (Y.pickT rfl rfl rfl) ?_
      refine WL.yld rfl (blt rfl) rfl (Y.assign rfl rfl) ?_
      refine WL.nil ?_
      refine WK.then_normal (k62 _ _ ?_)
      refine WC.sub [(6, _)] ⟨rfl, trivial⟩ ?_
      refine WC.ret ?_
      clear k1 k12 k13 k20 k31 k42 k43 k48 k51 k62
      refine WK.ret [_] rfl ⟨rfl, trivial⟩ ?_
      exact ⟨ret1 (vb rfl), xW⟩
end LBoundSteps
end BdW

end Go.Proofs.Ytaglpampidlbmaa
