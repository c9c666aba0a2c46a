/- The walk of the law. Conditions: what each theorem states. -/
import Derived.Test.YteaalclidffjgaaDoorNqAwake
import Derived.Test.YteaalclidffjgaaDoorNqLaw
namespace Go.Proofs.YteaalclidffjgaaDoor
open Go Go.Eng Go.RowKit
set_option linter.unusedVariables false
namespace NqW
open D Q R T S G H A
namespace LNumRanks
theorem ti3 : TI Tryd.prog 3 (.int .i64 0) 1 8 := TI.mk (by kernel_rfl)
theorem has16 : Has Tryd.prog 16 := ⟨_, Tryd.func16, rfl, by kernel_rfl⟩
theorem has21 : Has Tryd.prog 21 := ⟨_, Tryd.func21, rfl, by kernel_rfl⟩
theorem NumRanks_any (A_l : Option Addr) (n_l c_l : Nat) (l : List Int) (k : Int) (n : Int) (w : World) (h_l : Ls w A_l n_l c_l Sp.ic 1 l) (hT : Nq.Tabs w) :
    Calls Tryd.prog 8 #[.slice A_l n_l c_l, .int .i64 k, .int .i64 n] w fun e w' => e = .returned (.bool true) ∧ Ext w w' := by
  have xW := Ext.refl w
  have e_l := h_l.len
  have z_l := h_l.nle
  refine calls_of_WC (args := [.slice A_l n_l c_l, .int .i64 k, .int .i64 n]) Tryd.func8 rfl rfl (ble rfl) ?_
  refine WC.seq (fun K1 k1 => ?_)
  refine WC.region rfl ?_
  refine WL.yld rfl (blt rfl) rfl (Y.assign rfl rfl) ?_
  refine WL.nil ?_
  refine WK.then_normal (k1 _ _ ?_)
  refine WC.sub [(0, _), (1, _), (2, _)] ⟨rfl, rfl, rfl, trivial⟩ ?_
  refine WC.seq (fun K2 k2 => ?_)
  refine WC.seq (fun K3 k3 => ?_)
  refine WC.region rfl ?_
  refine WL.call rfl (blt rfl) rfl rfl rfl has16 rfl (awake_any _ (hT.ext xW)) ?_
  rintro _ w4 ⟨rfl, x5⟩
  refine ⟨_, rfl, ?_⟩
  have xW := Ext.trans xW x5
  refine WL.yld rfl (blt rfl) rfl (Y.not rfl rfl) ?_
  refine WL.yld rfl (blt rfl) rfl (Y.move rfl rfl) ?_
  refine WL.yldW rfl (blt rfl) rfl rfl rfl (Y.move rfl rfl) ?_
  refine WL.yldW rfl (blt rfl) rfl rfl rfl (Y.lenSl rfl rfl rfl Tryd.underlying30 rfl) ?_
  refine WL.yldW rfl (blt rfl) rfl rfl rfl (Y.gtr rfl rfl rfl) ?_
  refine WL.yld rfl (blt rfl) rfl (Y.pickF rfl rfl rfl) ?_
  refine WL.nil ?_
  refine WK.then_normal (k3 _ _ ?_)
  refine WC.sub [(0, _), (1, _), (2, _), (27, _)] ⟨rfl, rfl, rfl, rfl, trivial⟩ ?_
  refine WC.cond rfl (fun h6 => ?_) (fun h6 => ?_)
  ·
    have p6 := (dec_t h6)
    refine WC.seq (fun K7 k7 => ?_)
    refine WC.region rfl ?_
    refine WL.call rfl (blt rfl) rfl rfl rfl has16 rfl (awake_any _ (hT.ext xW)) ?_
    rintro _ w8 ⟨rfl, x9⟩
    refine ⟨_, rfl, ?_⟩
    have xW := Ext.trans xW x9
    refine WL.yld rfl (blt rfl) rfl (Y.assign rfl rfl) ?_
    refine WL.nil ?_
    refine WK.then_normal (k7 _ _ ?_)
    refine WC.sub [(6, _)] ⟨rfl, trivial⟩ ?_
    refine WC.ret ?_
    refine WK.then_ret ?_
    clear k1 k2 k3 k7
    refine WK.ret [_] rfl ⟨rfl, trivial⟩ ?_
    exact ⟨rfl, xW⟩
  ·
    have p6 := (dec_f h6)
    refine WC.skip ?_
    refine WK.then_normal (k2 _ _ ?_)
    refine WC.sub [(0, _), (1, _), (2, _)] ⟨rfl, rfl, rfl, trivial⟩ ?_
    refine WC.seq (fun K10 k10 => ?_)
    refine WC.region rfl ?_
    refine WL.yld rfl (blt rfl) rfl (Y.move rfl rfl) ?_
    refine WL.yld rfl (blt rfl) rfl (Y.move rfl rfl) ?_
    refine WL.yld rfl (blt rfl) rfl (Y.move rfl rfl) ?_
    refine WL.call rfl (blt rfl) rfl rfl rfl has21 rfl (qt_any _ _ _ _ _ _ _ (h_l.ext xW) (by first | omega | (simp only [List.length_reverse, List.length_drop]; omega))) ?_
    rintro _ w11 ⟨rfl, x12⟩
    refine ⟨_, rfl, ?_⟩
    have xW := Ext.trans xW x12
    refine WL.yld rfl (blt rfl) rfl (Y.move rfl rfl) ?_
    refine WL.yld rfl (blt rfl) rfl (Y.extract rfl rfl rfl) ?_
    refine WL.yld rfl (blt rfl) rfl (Y.extract rfl rfl rfl) ?_
    refine WL.yld rfl (blt rfl) rfl (Y.assign rfl rfl) ?_
    refine WL.yld rfl (blt rfl) rfl (Y.assign rfl rfl) ?_
    refine WL.nil ?_
    refine WK.then_normal (k10 _ _ ?_)
    refine WC.sub [(0, _), (1, _), (2, _), (7, _), (8, _)] ⟨rfl, rfl, rfl, rfl, rfl, trivial⟩ ?_
    refine WC.seq (fun K13 k13 => ?_)
    refine WC.seq (fun K14 k14 => ?_)
    refine WC.region rfl ?_
    refine WL.yld rfl (blt rfl) rfl (Y.move rfl rfl) ?_
    refine WL.yld rfl (blt rfl) rfl (Y.not rfl rfl) ?_
    refine WL.nil ?_
    refine WK.then_normal (k14 _ _ ?_)
    refine WC.sub [(0, _), (1, _), (2, _), (7, _), (37, _)] ⟨rfl, rfl, rfl, rfl, rfl, trivial⟩ ?_
    refine WC.cond rfl (fun h15 => ?_) (fun h15 => ?_)
    ·
      refine WC.seq (fun K16 k16 => ?_)
      refine WC.region rfl ?_
      refine WL.yld rfl (blt rfl) rfl (Y.move rfl rfl) ?_
      refine WL.yld rfl (blt rfl) rfl (Y.eql rfl rfl rfl) ?_
      refine WL.yld rfl (blt rfl) rfl (Y.move rfl rfl) ?_
      refine WL.yldG rfl (blt rfl) rfl rfl rfl (fun hb => Y.move rfl rfl) ?_
      refine WL.yldG rfl (blt rfl) rfl rfl rfl (fun hb => Y.lenSl rfl rfl rfl Tryd.underlying30 (evs_cons (evg rfl hb) evs_nil)) ?_
      refine WL.yldG rfl (blt rfl) rfl rfl rfl (fun hb => Y.eql rfl (evg rfl hb) rfl) ?_
      refine WL.yldG rfl (blt rfl) rfl rfl rfl (fun hb => Y.move rfl (evg rfl hb)) ?_
      refine WL.yldGs [(_, _)] rfl (blt rfl) rfl rfl rfl (fun hb => Y.move rfl rfl) ?_
      refine WL.yldGs [(_, _)] rfl (blt rfl) rfl rfl rfl (fun hb => Y.lss rfl (evg (evg rfl hb.1) hb.2.1) rfl) ?_
      refine WL.yldG rfl (blt rfl) rfl rfl rfl (fun hb => Y.or rfl (evg rfl hb) rfl (evg rfl hb)) ?_
      refine WL.yldG rfl (blt rfl) rfl rfl rfl (fun hb => Y.move rfl (evg rfl hb)) ?_
      refine WL.yldGs [(_, _)] rfl (blt rfl) rfl rfl rfl (fun hb => Y.move rfl rfl) ?_
      refine WL.yldGs [(_, _)] rfl (blt rfl) rfl rfl rfl (fun hb => Y.gtr rfl (evg (evg rfl hb.1) hb.2.1) rfl) ?_
      refine WL.yldG rfl (blt rfl) rfl rfl rfl (fun hb => Y.or rfl (evg rfl hb) rfl (evg rfl hb)) ?_
      refine WL.yldG rfl (blt rfl) rfl rfl rfl (fun hb => Y.move rfl (evg rfl hb)) ?_
      refine WL.yldGs [(_, _)] rfl (blt rfl) rfl rfl rfl (fun hb => Y.move rfl rfl) ?_
      refine WL.yldGs [(_, _)] rfl (blt rfl) rfl rfl rfl (fun hb => Y.lss rfl (evg (evg rfl hb.1) hb.2.1) rfl) ?_
      refine WL.yldG rfl (blt rfl) rfl rfl rfl (fun hb => Y.or rfl (evg rfl hb) rfl (evg rfl hb)) ?_
      refine WL.yldG rfl (blt rfl) rfl rfl rfl (fun hb => Y.move rfl (evg rfl hb)) ?_
      refine WL.yldGs [(_, _)] rfl (blt rfl) rfl rfl rfl (fun hb => Y.move rfl rfl) ?_
      refine WL.yldGs [(_, _)] rfl (blt rfl) rfl rfl rfl (fun hb => Y.move rfl rfl) ?_
      refine WL.yldGs [(_, _)] rfl (blt rfl) rfl rfl rfl (fun hb => Y.gtr rfl (evg (evg rfl hb.1) hb.2.1) (evg (evg rfl hb.1) hb.2.1)) ?_
      refine WL.yldG rfl (blt rfl) rfl rfl rfl (fun hb => Y.or rfl (evg rfl hb) rfl (evg rfl hb)) ?_
      refine WL.yld rfl (blt rfl) rfl (Y.and rfl rfl rfl rfl) ?_
      refine WL.yld rfl (blt rfl) rfl (Y.assign rfl rfl) ?_
      refine WL.nil ?_
      refine WK.then_normal (k16 _ _ ?_)
      refine WC.sub [(6, _)] ⟨rfl, trivial⟩ ?_
      refine WC.ret ?_
      refine WK.then_ret ?_
      clear k1 k2 k3 k10 k13 k14 k16
      refine WK.ret [_] rfl ⟨rfl, trivial⟩ ?_
      refine ⟨ret1 (vb ?_), xW⟩
      have hd := Nq.qt_false (by simpa using h15)
      have e0 := congrArg Prod.fst (Nq.qt_bad hd)
      unfold Nq.qd at hd
      rw [e_l] at hd
      rw [e0, hd]; rfl
    ·
      have hg := Nq.qt_true (by simpa using h15)
      have hq := Nq.qd_no hg
      refine WC.skip ?_
      refine WK.then_normal (k13 _ _ ?_)
      refine WC.sub [(0, _), (1, _), (2, _), (7, _)] ⟨rfl, rfl, rfl, rfl, trivial⟩ ?_
      refine WC.seq (fun K17 k17 => ?_)
      refine WC.region rfl ?_
      refine WL.yld rfl (blt rfl) rfl (Y.assign rfl rfl) ?_
      refine WL.nil ?_
      refine WK.then_normal (k17 _ _ ?_)
      refine WC.seq (fun K18 k18 => ?_)
      refine WC.seq (fun K19 k19 => ?_)
      refine WC.region rfl ?_
      refine WL.yld rfl (blt rfl) rfl (Y.move rfl rfl) ?_
      refine WL.yld rfl (blt rfl) rfl (Y.lenSl rfl rfl rfl Tryd.underlying30 rfl) ?_
      refine WL.yld rfl (blt rfl) rfl (Y.sub rfl rfl rfl (wrap_i64 (by first | omega | (dsimp only; omega)))) ?_
      refine WL.yld rfl (blt rfl) rfl (Y.assign rfl rfl) ?_
      refine WL.nil ?_
      refine WK.then_normal (k19 _ _ ?_)
      refine WC.sub [(0, _), (1, _), (2, _), (7, _), (9, _), (10, _)] ⟨rfl, rfl, rfl, rfl, rfl, rfl, trivial⟩ ?_
      refine WC.block ?_
      refine WC.sub [(10, _), (9, _), (0, _), (1, _), (2, _), (7, _)] ⟨rfl, rfl, rfl, rfl, rfl, rfl, trivial⟩ ?_
      refine WC.loopS 2 (fun mz Ed W' => ∃ j : Nat, ∃ v : Value, mz = 2 * j ∧ Ed = [(10, .int .i64 (((j : Nat) : Int) - 1)), (9, v)] ∧ Ext w W' ∧ OwnL W' w.heap.size 3 Sp.ic 1 v ((l.drop j).reverse) ∧ (j ≤ n_l)) _ ⟨n_l, _, rfl, rfl, xW, (by rw [List.drop_of_length_le (by omega)]; exact OwnL.nil_), (Nat.le_refl _)⟩ ?_
      rintro _ _ w20 ⟨j, v, rfl, rfl, xW, ow_v, le_j⟩
      refine WC.sub [(10, _), (9, _), (0, _), (1, _), (2, _), (7, _)] ⟨rfl, rfl, rfl, rfl, rfl, rfl, trivial⟩ ?_
      refine WC.seq (fun K21 k21 => ?_)
      refine WC.seq (fun K22 k22 => ?_)
      refine WC.region rfl ?_
      refine WL.yld rfl (blt rfl) rfl (Y.move rfl rfl) ?_
      refine WL.yld rfl (blt rfl) rfl (Y.geq rfl rfl rfl) ?_
      refine WL.nil ?_
      refine WK.then_normal (k22 _ _ ?_)
      refine WC.sub [(0, _), (1, _), (2, _), (7, _), (9, _), (10, _), (66, _)] ⟨rfl, rfl, rfl, rfl, rfl, rfl, rfl, trivial⟩ ?_
      refine WC.cond rfl (fun h23 => ?_) (fun h23 => ?_)
      ·
        have p23 := (dec_t h23)
        have hj0 : 0 < j := by have q := dec_t h23; omega
        refine WC.skip ?_
        refine WK.then_normal (k21 _ _ ?_)
        refine WC.sub [(0, _), (1, _), (2, _), (7, _), (9, _), (10, _)] ⟨rfl, rfl, rfl, rfl, rfl, rfl, trivial⟩ ?_
        refine WC.seq (fun K24 k24 => ?_)
        refine WC.block ?_
        refine WC.region rfl ?_
        refine WL.yld rfl (blt rfl) rfl (Y.move rfl rfl) ?_
        refine WL.yld rfl (blt rfl) rfl (Y.move rfl rfl) ?_
        refine WL.yld rfl (blt rfl) rfl (Yld.cast (Y.move rfl rfl) (vi (b := ((j - 1 : Nat) : Int)) (by omega))) ?_
        have b25 : (j - 1) < n_l := by omega
        refine WL.yld rfl (blt rfl) rfl (Y.indexLs (j - 1) (h_l.ext xW) rfl Tryd.underlying30 ti3 rfl rfl (by omega) b25) ?_
        refine WL.yld rfl (blt rfl) rfl (Y.load1 rfl Tryd.underlying3 rfl rfl (Ls.at_eq (h_l.ext xW) b25 rfl)) ?_
        refine WL.bslice (zs := [.int .i64 0]) (cs := [_]) rfl (blt rfl) rfl rfl Tryd.underlying30 ti3 rfl (ble rfl) (by kernel_rfl) rfl rfl ?_
        intro g26 w27 e28 x29 m30
        have r_v_g26 := ne_newO ow_v e28
        have o_g26 := own_new xW e28
        have ow_v := ow_v.ext x29
        have xW := Ext.trans xW x29
        refine WL.appendB (f := Sp.ic) (news := [l[j - 1]!]) rfl (blt rfl) rfl rfl rfl rfl Tryd.underlying30 ti3 rfl (by decide) rfl ow_v (fun _ => rfl) Sp.ic_one m30 rfl xW.size (by have q0 := h_l.len; first | omega | (simp only [List.length_append, List.length_cons, List.length_nil, List.length_take, List.length_drop, List.length_reverse]; omega)) (Nat.le_trans (show _ ≤ 140737488355328 from by have q0 := h_l.len; first | omega | (simp only [List.length_append, List.length_cons, List.length_nil, List.length_take, List.length_drop, List.length_reverse]; omega)) (by decide)) (fun v31 w32 ow33 gr34 nb35 => ?_)
        have r_v31_g26 := ne_app nb35 r_v_g26 m30
        have m30 := m30.grown gr34 r_v_g26
        have xW := Ext.grown xW gr34 (fun b hb => (OwnL.lt ow_v hb).1)
        refine WL.yld rfl (blt rfl) rfl (Y.assign rfl rfl) ?_
        refine WL.nil ?_
        refine WK.in_normal ?_
        refine WK.then_normal (k24 _ _ ?_)
        refine WC.sub [(0, _), (1, _), (2, _), (7, _), (9, _), (10, _)] ⟨rfl, rfl, rfl, rfl, rfl, rfl, trivial⟩ ?_
        refine WC.region rfl ?_
        refine WL.yld rfl (blt rfl) rfl (Y.move rfl rfl) ?_
        refine WL.yld rfl (blt rfl) rfl (Yld.cast (Y.sub rfl rfl rfl (wrap_i64 (by omega))) (vi (b := (((j - 1 : Nat) : Int) - 1)) (by omega))) ?_
        refine WL.yld rfl (blt rfl) rfl (Y.assign rfl rfl) ?_
        refine WL.nil ?_
        refine WK.roundS _ [(10, .int .i64 (((j - 1 : Nat) : Int) - 1)), (9, v31)] ⟨rfl, rfl, rfl, rfl, rfl, rfl, trivial⟩ ?_ ⟨(j - 1), v31, rfl, rfl, xW, (by rw [Nq.rev_step (show j - 1 < l.length by omega) (show 0 < j by omega)]; exact ow33), (by omega)⟩
        show 2 * (j - 1) < 2 * j; omega
      ·
        have p23 := (dec_f h23)
        have j0 : j = 0 := by have q := dec_f h23; omega
        subst j0
        rw [List.drop_zero] at ow_v
        refine WC.exit ?_
        refine WK.then_exit ?_
        refine WK.then_exit ?_
        refine WK.in_exit ?_
        refine WK.then_normal (k18 _ _ ?_)
        refine WC.sub [(0, _), (1, _), (2, _), (7, _), (9, _)] ⟨rfl, rfl, rfl, rfl, rfl, trivial⟩ ?_
        refine WC.seq (fun K36 k36 => ?_)
        refine WC.region rfl ?_
        refine WL.yld rfl (blt rfl) rfl (Y.move rfl rfl) ?_
        refine WL.yld rfl (blt rfl) rfl (Y.move rfl rfl) ?_
        refine WL.yld rfl (blt rfl) rfl (Y.move rfl rfl) ?_
        obtain ⟨A37, n38, c39, rfl, hl40⟩ := OwnL.opened ow_v (fun _ => rfl) (by decide)
        have e_n38 := hl40.len
        try simp only [List.length_append, List.length_cons, List.length_nil, List.length_reverse, List.length_drop, List.length_take, List.length_map, List.length_replicate] at e_n38
        have z_n38 := hl40.nle
        refine WL.call rfl (blt rfl) rfl rfl rfl has21 rfl (qt_any _ _ _ _ _ _ _ hl40 (by first | omega | (simp only [List.length_reverse, List.length_drop]; omega))) ?_
        rintro _ w41 ⟨rfl, x42⟩
        refine ⟨_, rfl, ?_⟩
        have ow_v := ow_v.ext x42
        have hl40 := hl40.ext x42
        have xW := Ext.trans xW x42
        refine WL.yld rfl (blt rfl) rfl (Y.move rfl rfl) ?_
        refine WL.yld rfl (blt rfl) rfl (Y.extract rfl rfl rfl) ?_
        refine WL.yld rfl (blt rfl) rfl (Y.extract rfl rfl rfl) ?_
        refine WL.yld rfl (blt rfl) rfl (Y.assign rfl rfl) ?_
        refine WL.yld rfl (blt rfl) rfl (Y.assign rfl rfl) ?_
        refine WL.nil ?_
        refine WK.then_normal (k36 _ _ ?_)
        refine WC.sub [(0, _), (1, _), (2, _), (7, _), (11, _), (12, _)] ⟨rfl, rfl, rfl, rfl, rfl, rfl, trivial⟩ ?_
        refine WC.seq (fun K43 k43 => ?_)
        refine WC.region rfl ?_
        refine WL.yld rfl (blt rfl) rfl (Y.move rfl rfl) ?_
        refine WL.yld rfl (blt rfl) rfl (Y.move rfl rfl) ?_
        refine WL.call rfl (blt rfl) rfl rfl rfl has21 rfl (qt_any _ _ _ _ _ _ _ (h_l.ext xW) (by first | omega | (simp only [List.length_reverse, List.length_drop]; omega))) ?_
        rintro _ w44 ⟨rfl, x45⟩
        refine ⟨_, rfl, ?_⟩
        have xW := Ext.trans xW x45
        refine WL.yld rfl (blt rfl) rfl (Y.move rfl rfl) ?_
        refine WL.yld rfl (blt rfl) rfl (Y.extract rfl rfl rfl) ?_
        refine WL.yld rfl (blt rfl) rfl (Y.extract rfl rfl rfl) ?_
        refine WL.yld rfl (blt rfl) rfl (Y.assign rfl rfl) ?_
        refine WL.yld rfl (blt rfl) rfl (Y.assign rfl rfl) ?_
        refine WL.nil ?_
        refine WK.then_normal (k43 _ _ ?_)
        refine WC.sub [(0, _), (1, _), (2, _), (7, _), (11, _), (12, _), (13, _), (14, _)] ⟨rfl, rfl, rfl, rfl, rfl, rfl, rfl, rfl, trivial⟩ ?_
        refine WC.seq (fun K46 k46 => ?_)
        refine WC.region rfl ?_
        refine WL.yld rfl (blt rfl) rfl (Y.move rfl rfl) ?_
        refine WL.yld rfl (blt rfl) rfl (Y.move rfl rfl) ?_
        refine WL.yld rfl (blt rfl) rfl (Y.move rfl rfl) ?_
        refine WL.call rfl (blt rfl) rfl rfl rfl has21 rfl (qt_any _ _ _ _ _ _ _ (h_l.ext xW) (by first | omega | (simp only [List.length_reverse, List.length_drop]; omega))) ?_
        rintro _ w47 ⟨rfl, x48⟩
        refine ⟨_, rfl, ?_⟩
        have xW := Ext.trans xW x48
        refine WL.yld rfl (blt rfl) rfl (Y.move rfl rfl) ?_
        refine WL.yld rfl (blt rfl) rfl (Y.extract rfl rfl rfl) ?_
        refine WL.yld rfl (blt rfl) rfl (Y.extract rfl rfl rfl) ?_
        refine WL.yld rfl (blt rfl) rfl (Y.assign rfl rfl) ?_
        refine WL.yld rfl (blt rfl) rfl (Y.assign rfl rfl) ?_
        refine WL.nil ?_
        refine WK.then_normal (k46 _ _ ?_)
        refine WC.sub [(0, _), (1, _), (2, _), (7, _), (11, _), (12, _), (13, _), (14, _), (15, _), (16, _)] ⟨rfl, rfl, rfl, rfl, rfl, rfl, rfl, rfl, rfl, rfl, trivial⟩ ?_
        refine WC.seq (fun K49 k49 => ?_)
        refine WC.region rfl ?_
        refine WL.yld rfl (blt rfl) rfl (Y.move rfl rfl) ?_
        refine WL.yld rfl (blt rfl) rfl (Y.move rfl rfl) ?_
        refine WL.yld rfl (blt rfl) rfl (Y.move rfl rfl) ?_
        refine WL.yld rfl (blt rfl) rfl (Y.add rfl rfl rfl (wrap_i64 (by first | omega | (dsimp only; omega)))) ?_
        refine WL.yld rfl (blt rfl) rfl (Y.minI rfl rfl rfl rfl) ?_
        refine WL.yld rfl (blt rfl) rfl (Y.move rfl rfl) ?_
        refine WL.call rfl (blt rfl) rfl rfl rfl has21 rfl (qt_any _ _ _ _ _ _ _ (h_l.ext xW) (by first | omega | (simp only [List.length_reverse, List.length_drop]; omega))) ?_
        rintro _ w50 ⟨rfl, x51⟩
        refine ⟨_, rfl, ?_⟩
        have xW := Ext.trans xW x51
        refine WL.yld rfl (blt rfl) rfl (Y.move rfl rfl) ?_
        refine WL.yld rfl (blt rfl) rfl (Y.extract rfl rfl rfl) ?_
        refine WL.yld rfl (blt rfl) rfl (Y.extract rfl rfl rfl) ?_
        refine WL.yld rfl (blt rfl) rfl (Y.assign rfl rfl) ?_
        refine WL.yld rfl (blt rfl) rfl (Y.assign rfl rfl) ?_
        refine WL.nil ?_
        refine WK.then_normal (k49 _ _ ?_)
        refine WC.sub [(0, _), (7, _), (11, _), (12, _), (13, _), (14, _), (15, _), (16, _), (17, _), (18, _)] ⟨rfl, rfl, rfl, rfl, rfl, rfl, rfl, rfl, rfl, rfl, trivial⟩ ?_
        refine WC.seq (fun K52 k52 => ?_)
        refine WC.region rfl ?_
        refine WL.yld rfl (blt rfl) rfl (Y.assign rfl rfl) ?_
        refine WL.nil ?_
        refine WK.then_normal (k52 _ _ ?_)
        refine WC.seq (fun K53 k53 => ?_)
        refine WC.seq (fun K54 k54 => ?_)
        refine WC.region rfl ?_
        refine WL.yld rfl (blt rfl) rfl (Y.assign rfl rfl) ?_
        refine WL.nil ?_
        refine WK.then_normal (k54 _ _ ?_)
        refine WC.block ?_
        refine WC.sub [(20, _), (19, _), (0, _), (7, _), (11, _), (12, _), (13, _), (14, _), (15, _), (16, _), (17, _), (18, _)] ⟨rfl, rfl, rfl, rfl, rfl, rfl, rfl, rfl, rfl, rfl, rfl, rfl, trivial⟩ ?_
        refine WC.loopS 2 (fun mz Ed W' => ∃ i : Nat, ∃ b : Bool, mz = n_l - i ∧ Ed = [(20, .int .i64 ((i : Nat) : Int)), (19, .bool b)] ∧ Ext w W' ∧ (i ≤ n_l) ∧ (∀ j, j < i → l[j]! = (Nq.qt l k n).1 → b = true)) _ ⟨0, false, rfl, rfl, xW, (Nat.zero_le _), (fun j hj => absurd hj (Nat.not_lt_zero j))⟩ ?_
        rintro _ _ w55 ⟨i, b, rfl, rfl, xW, le_i, inv⟩
        refine WC.sub [(20, _), (19, _), (0, _), (7, _), (11, _), (12, _), (13, _), (14, _), (15, _), (16, _), (17, _), (18, _)] ⟨rfl, rfl, rfl, rfl, rfl, rfl, rfl, rfl, rfl, rfl, rfl, rfl, trivial⟩ ?_
        refine WC.seq (fun K56 k56 => ?_)
        refine WC.seq (fun K57 k57 => ?_)
        refine WC.region rfl ?_
        refine WL.yld rfl (blt rfl) rfl (Y.move rfl rfl) ?_
        refine WL.yld rfl (blt rfl) rfl (Y.move rfl rfl) ?_
        refine WL.yld rfl (blt rfl) rfl (Y.lenSl rfl rfl rfl Tryd.underlying30 rfl) ?_
        refine WL.yld rfl (blt rfl) rfl (Y.lss rfl rfl rfl) ?_
        refine WL.nil ?_
        refine WK.then_normal (k57 _ _ ?_)
        refine WC.sub [(0, _), (7, _), (11, _), (12, _), (13, _), (14, _), (15, _), (16, _), (17, _), (18, _), (19, _), (20, _), (109, _)] ⟨rfl, rfl, rfl, rfl, rfl, rfl, rfl, rfl, rfl, rfl, rfl, rfl, rfl, trivial⟩ ?_
        refine WC.cond rfl (fun h58 => ?_) (fun h58 => ?_)
        ·
          have p58 := (dec_t h58)
          refine WC.skip ?_
          refine WK.then_normal (k56 _ _ ?_)
          refine WC.sub [(0, _), (7, _), (11, _), (12, _), (13, _), (14, _), (15, _), (16, _), (17, _), (18, _), (19, _), (20, _)] ⟨rfl, rfl, rfl, rfl, rfl, rfl, rfl, rfl, rfl, rfl, rfl, rfl, trivial⟩ ?_
          refine WC.seq (fun K59 k59 => ?_)
          refine WC.block ?_
          refine WC.seq (fun K60 k60 => ?_)
          refine WC.region rfl ?_
          refine WL.yld rfl (blt rfl) rfl (Y.move rfl rfl) ?_
          refine WL.yld rfl (blt rfl) rfl (Y.move rfl rfl) ?_
          refine WL.yldG rfl (blt rfl) rfl rfl rfl (fun hb => Y.move rfl rfl) ?_
          refine WL.yldG rfl (blt rfl) rfl rfl rfl (fun hb => Y.move rfl rfl) ?_
          refine WL.yldG rfl (blt rfl) rfl rfl rfl (fun hb => Y.indexLs i (h_l.ext xW) rfl Tryd.underlying30 ti3 (evg rfl hb) (evg rfl hb) rfl (by omega)) ?_
          refine WL.yldG rfl (blt rfl) rfl rfl rfl (fun hb => Y.load1 rfl Tryd.underlying3 rfl (evg rfl hb) (Ls.at_eq (h_l.ext xW) (by omega) rfl)) ?_
          refine WL.yldG rfl (blt rfl) rfl rfl rfl (fun hb => Y.move rfl rfl) ?_
          refine WL.yldG rfl (blt rfl) rfl rfl rfl (fun hb => Y.eql rfl (evg rfl hb) (evg rfl hb)) ?_
          refine WL.yld rfl (blt rfl) rfl (Y.or rfl rfl rfl rfl) ?_
          refine WL.yld rfl (blt rfl) rfl (Y.assign rfl rfl) ?_
          refine WL.nil ?_
          refine WK.then_normal (k60 _ _ ?_)
          refine WC.sub [(0, _), (7, _), (11, _), (12, _), (13, _), (14, _), (15, _), (16, _), (17, _), (18, _), (19, _), (20, _)] ⟨rfl, rfl, rfl, rfl, rfl, rfl, rfl, rfl, rfl, rfl, rfl, rfl, trivial⟩ ?_
          refine WC.seq (fun K61 k61 => ?_)
          refine WC.region rfl ?_
          refine WL.yld rfl (blt rfl) rfl (Y.move rfl rfl) ?_
          refine WL.yld rfl (blt rfl) rfl (Y.move rfl rfl) ?_
          have b62 : i < n_l := by omega
          refine WL.yld rfl (blt rfl) rfl (Y.indexLs i (h_l.ext xW) rfl Tryd.underlying30 ti3 rfl rfl rfl b62) ?_
          refine WL.yld rfl (blt rfl) rfl (Y.load1 rfl Tryd.underlying3 rfl rfl (Ls.at_eq (h_l.ext xW) b62 rfl)) ?_
          refine WL.yld rfl (blt rfl) rfl (Y.move rfl rfl) ?_
          refine WL.yld rfl (blt rfl) rfl (Y.lss rfl rfl rfl) ?_
          refine WL.yld rfl (blt rfl) rfl (Y.move rfl rfl) ?_
          refine WL.yldG rfl (blt rfl) rfl rfl rfl (fun hb => Y.move rfl rfl) ?_
          refine WL.yldG rfl (blt rfl) rfl rfl rfl (fun hb => Y.move rfl rfl) ?_
          refine WL.yldG rfl (blt rfl) rfl rfl rfl (fun hb => Y.indexLs i (h_l.ext xW) rfl Tryd.underlying30 ti3 (evg rfl hb) (evg rfl hb) rfl (by have q0 := (dec_f hb); omega)) ?_
          refine WL.yldG rfl (blt rfl) rfl rfl rfl (fun hb => Y.load1 rfl Tryd.underlying3 rfl (evg rfl hb) (Ls.at_eq (h_l.ext xW) (by have q0 := (dec_f hb); omega) rfl)) ?_
          refine WL.yldG rfl (blt rfl) rfl rfl rfl (fun hb => Y.move rfl rfl) ?_
          refine WL.yldG rfl (blt rfl) rfl rfl rfl (fun hb => Y.gtr rfl (evg rfl hb) (evg rfl hb)) ?_
          refine WL.yld rfl (blt rfl) rfl (Y.or rfl rfl rfl rfl) ?_
          refine WL.nil ?_
          refine WK.then_normal (k61 _ _ ?_)
          refine WC.sub [(0, _), (7, _), (11, _), (12, _), (13, _), (14, _), (15, _), (16, _), (17, _), (18, _), (19, _), (20, _), (134, _)] ⟨rfl, rfl, rfl, rfl, rfl, rfl, rfl, rfl, rfl, rfl, rfl, rfl, rfl, trivial⟩ ?_
          refine WC.cond rfl (fun h63 => ?_) (fun h63 => ?_)
          ·
            clear k1 k2 k3 k10 k13 k14 k17 k18 k19 k21 k22 k36 k43 k46 k49 k52 k53 k54 k56 k57 k59 k60 k61
            exact False.elim (by have q := h63; have z := Nq.q_range (Nq.qd_at hg (k' := n) (by omega) (by omega)) (show i < l.length by omega); simp only [Bool.or_eq_true, decide_eq_true_eq] at q; omega)
          ·
            have p63 := (And.intro (dec_f (or_f h63).1) (dec_f (or_f h63).2))
            refine WC.skip ?_
            refine WK.in_normal ?_
            refine WK.then_normal (k59 _ _ ?_)
            refine WC.sub [(0, _), (7, _), (11, _), (12, _), (13, _), (14, _), (15, _), (16, _), (17, _), (18, _), (19, _), (20, _)] ⟨rfl, rfl, rfl, rfl, rfl, rfl, rfl, rfl, rfl, rfl, rfl, rfl, trivial⟩ ?_
            refine WC.region rfl ?_
            refine WL.yld rfl (blt rfl) rfl (Y.move rfl rfl) ?_
            refine WL.yld rfl (blt rfl) rfl (Y.add rfl rfl rfl (wrap_i64 (by first | omega | (dsimp only; omega)))) ?_
            refine WL.yld rfl (blt rfl) rfl (Y.assign rfl rfl) ?_
            refine WL.nil ?_
            refine WK.roundS _ [(20, .int .i64 (((i + 1) : Nat) : Int)), (19, .bool _)] ⟨rfl, rfl, rfl, rfl, rfl, rfl, rfl, rfl, rfl, rfl, rfl, rfl, trivial⟩ ?_ ⟨(i + 1), _, rfl, rfl, xW, (by omega), (Nq.in_step inv)⟩
            show _ - (i + 1) < _ - i; omega
        ·
          have p58 := (dec_f h58)
          refine WC.exit ?_
          refine WK.then_exit ?_
          refine WK.then_exit ?_
          refine WK.in_exit ?_
          refine WK.then_normal (k53 _ _ ?_)
          refine WC.sub [(7, _), (11, _), (12, _), (13, _), (14, _), (15, _), (16, _), (17, _), (18, _), (19, _)] ⟨rfl, rfl, rfl, rfl, rfl, rfl, rfl, rfl, rfl, rfl, trivial⟩ ?_
          refine WC.seq (fun K64 k64 => ?_)
          refine WC.region rfl ?_
          refine WL.yld rfl (blt rfl) rfl (Y.move rfl rfl) ?_
          refine WL.yld rfl (blt rfl) rfl (Y.move rfl rfl) ?_
          refine WL.yldG rfl (blt rfl) rfl rfl rfl (fun hb => Y.move rfl rfl) ?_
          refine WL.yldG rfl (blt rfl) rfl rfl rfl (fun hb => Y.move rfl rfl) ?_
          refine WL.yldG rfl (blt rfl) rfl rfl rfl (fun hb => Y.eql rfl (evg rfl hb) (evg rfl hb)) ?_
          refine WL.yld rfl (blt rfl) rfl (Y.and rfl rfl rfl rfl) ?_
          refine WL.yld rfl (blt rfl) rfl (Y.move rfl rfl) ?_
          refine WL.yldG rfl (blt rfl) rfl rfl rfl (fun hb => Y.move rfl rfl) ?_
          refine WL.yld rfl (blt rfl) rfl (Y.and rfl rfl rfl rfl) ?_
          refine WL.yld rfl (blt rfl) rfl (Y.move rfl rfl) ?_
          refine WL.yldG rfl (blt rfl) rfl rfl rfl (fun hb => Y.move rfl rfl) ?_
          refine WL.yld rfl (blt rfl) rfl (Y.and rfl rfl rfl rfl) ?_
          refine WL.yld rfl (blt rfl) rfl (Y.move rfl rfl) ?_
          refine WL.yldG rfl (blt rfl) rfl rfl rfl (fun hb => Y.move rfl rfl) ?_
          refine WL.yld rfl (blt rfl) rfl (Y.and rfl rfl rfl rfl) ?_
          refine WL.yld rfl (blt rfl) rfl (Y.move rfl rfl) ?_
          refine WL.yldG rfl (blt rfl) rfl rfl rfl (fun hb => Y.move rfl rfl) ?_
          refine WL.yld rfl (blt rfl) rfl (Y.and rfl rfl rfl rfl) ?_
          refine WL.yld rfl (blt rfl) rfl (Y.move rfl rfl) ?_
          refine WL.yldG rfl (blt rfl) rfl rfl rfl (fun hb => Y.move rfl rfl) ?_
          refine WL.yldG rfl (blt rfl) rfl rfl rfl (fun hb => Y.move rfl rfl) ?_
          refine WL.yldG rfl (blt rfl) rfl rfl rfl (fun hb => Y.leq rfl (evg rfl hb) (evg rfl hb)) ?_
          refine WL.yld rfl (blt rfl) rfl (Y.and rfl rfl rfl rfl) ?_
          refine WL.yld rfl (blt rfl) rfl (Y.move rfl rfl) ?_
          refine WL.yldG rfl (blt rfl) rfl rfl rfl (fun hb => Y.move rfl rfl) ?_
          refine WL.yldG rfl (blt rfl) rfl rfl rfl (fun hb => Y.move rfl rfl) ?_
          refine WL.yldG rfl (blt rfl) rfl rfl rfl (fun hb => Y.leq rfl (evg rfl hb) (evg rfl hb)) ?_
          refine WL.yld rfl (blt rfl) rfl (Y.and rfl rfl rfl rfl) ?_
          refine WL.yld rfl (blt rfl) rfl (Y.move rfl rfl) ?_
          refine WL.yldG rfl (blt rfl) rfl rfl rfl (fun hb => Y.move rfl rfl) ?_
          refine WL.yldG rfl (blt rfl) rfl rfl rfl (fun hb => Y.move rfl rfl) ?_
          refine WL.yldG rfl (blt rfl) rfl rfl rfl (fun hb => Y.leq rfl (evg rfl hb) (evg rfl hb)) ?_
          refine WL.yld rfl (blt rfl) rfl (Y.and rfl rfl rfl rfl) ?_
          refine WL.yld rfl (blt rfl) rfl (Y.assign rfl rfl) ?_
          refine WL.nil ?_
          refine WK.then_normal (k64 _ _ ?_)
          refine WC.sub [(6, _)] ⟨rfl, trivial⟩ ?_
          refine WC.ret ?_
          clear k1 k2 k3 k10 k13 k14 k17 k18 k19 k21 k22 k36 k43 k46 k49 k52 k53 k54 k56 k57 k64
          refine WK.ret [_] rfl ⟨rfl, trivial⟩ ?_
          refine ⟨ret1 (vb ?_), xW⟩
          exact Nq.rk_fin hg inv (by omega)
end LNumRanks
end NqW

end Go.Proofs.YteaalclidffjgaaDoor
