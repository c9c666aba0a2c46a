/- Contracts: the points. Conditions: what each theorem states. -/
import Derived.Test.YtaglpampidlbmaaBkRef
import Derived.Test.YtaglpampidlbmaaBkSort
namespace Go.Proofs.Ytaglpampidlbmaa
open Go Go.Eng Go.RowKit
set_option linter.unusedVariables false
set_option linter.unusedSimpArgs false
namespace CkW
namespace P
theorem ti3 : TI Try.prog 3 (.int .i64 0) 1 8 := TI.mk (by kernel_rfl)
theorem ti29 : TI Try.prog 29 (.agg #[.int .i64 0, .int .i64 0]) 2 16 := TI.mk (by kernel_rfl)
theorem ti42 : TI Try.prog 42 (.agg #[.int .i64 0, .int .i64 0, .int .i64 0, .int .i64 0, .int .i64 0]) 5 40 := TI.mk (by kernel_rfl)
theorem has48 : Has Try.prog 48 := ⟨_, Try.func48, rfl, by kernel_rfl⟩
theorem has64 : Has Try.prog 64 := ⟨_, Try.func64, rfl, by kernel_rfl⟩
theorem points_any (A_l : Option Addr) (n_l c_l : Nat) (l : List Ck.Snap) (id : Int) (w : World) (h_l : Ls w A_l n_l c_l Ck.Snap.c 5 l) (hn : n_l ≤ 1000) :
    Calls Try.prog 45 #[.slice A_l n_l c_l, .int .i64 id] w fun e w' => ∃ v, e = .returned v ∧ OwnL w' w.heap.size 3 Ck.ic 1 v (Ck.pts l id) ∧ Ext w w' := by
  have xW := Ext.refl w
  have e_l := h_l.len
  have z_l := h_l.nle
  refine calls_of_WC (args := [.slice A_l n_l c_l, .int .i64 id]) Try.func45 rfl rfl (ble rfl) ?_
  refine WC.seq (fun K1 k1 => ?_)
  refine WC.region rfl ?_
  refine WL.yld rfl (blt rfl) rfl (Y.assign rfl rfl) ?_
  refine WL.nil ?_
  refine WK.then_normal (k1 _ _ ?_)
  refine WC.sub [(0, _), (1, _)] ⟨rfl, rfl, trivial⟩ ?_
  refine WC.seq (fun K2 k2 => ?_)
  refine WC.region rfl ?_
  refine WL.yld rfl (blt rfl) rfl (Y.assign rfl rfl) ?_
  refine WL.nil ?_
  refine WK.then_normal (k2 _ _ ?_)
  refine WC.seq (fun K3 k3 => ?_)
  refine WC.seq (fun K4 k4 => ?_)
  refine WC.region rfl ?_
  refine WL.yld rfl (blt rfl) rfl (Y.move rfl rfl) ?_
  refine WL.yld rfl (blt rfl) rfl (Y.lenSl rfl rfl rfl Try.underlying23 rfl) ?_
  refine WL.yld rfl (blt rfl) rfl (Y.move rfl rfl) ?_
  refine WL.nil ?_
  refine WK.then_normal (k4 _ _ ?_)
  refine WC.sub [(1, _), (5, _), (8, _), (9, _), (10, _)] ⟨rfl, rfl, rfl, rfl, rfl, trivial⟩ ?_
  refine WC.block ?_
  refine WC.sub [(10, _), (5, _), (1, _), (8, _), (9, _)] ⟨rfl, rfl, rfl, rfl, rfl, trivial⟩ ?_
  refine WC.loopS 2 (fun mz Ed W' => ∃ i : Nat, ∃ v : Value, mz = n_l - i ∧ Ed = [(10, .int .i64 ((i : Nat) : Int)), (5, v)] ∧ Ext w W' ∧ OwnL W' w.heap.size 3 Ck.ic 1 v (Ck.rawPts (l.take i) id) ∧ (i ≤ n_l)) _ ⟨0, _, rfl, rfl, xW, OwnL.nil_, (Nat.zero_le _)⟩ ?_
  rintro _ _ w5 ⟨i, v, rfl, rfl, xW, ow_v, le_i⟩
  refine WC.sub [(10, _), (5, _), (1, _), (8, _), (9, _)] ⟨rfl, rfl, rfl, rfl, rfl, trivial⟩ ?_
  refine WC.seq (fun K6 k6 => ?_)
  refine WC.region rfl ?_
  refine WL.yld rfl (blt rfl) rfl (Y.lss rfl rfl rfl) ?_
  refine WL.nil ?_
  refine WK.then_normal (k6 _ _ ?_)
  refine WC.seq (fun K7 k7 => ?_)
  refine WC.cond rfl (fun h8 => ?_) (fun h8 => ?_)
  ·
    have p8 := (dec_t h8)
    refine WC.skip ?_
    refine WK.then_normal (k7 _ _ ?_)
    refine WC.sub [(1, _), (5, _), (8, _), (9, _), (10, _)] ⟨rfl, rfl, rfl, rfl, rfl, trivial⟩ ?_
    refine WC.seq (fun K9 k9 => ?_)
    refine WC.block ?_
    refine WC.seq (fun K10 k10 => ?_)
    refine WC.region rfl ?_
    have b11 : i < n_l := by omega
    refine WL.yld rfl (blt rfl) rfl (Y.indexLs i (h_l.ext xW) rfl Try.underlying23 ti42 rfl rfl rfl b11) ?_
    refine WL.yld rfl (blt rfl) rfl (Y.loadS (cs := [_, _, _, _, _]) rfl Try.underlying42 rfl ti42 rfl (Ls.part_eq (h_l.ext xW) b11 rfl)) ?_
    refine WL.alloc rfl (blt rfl) rfl rfl ti42 rfl ?_
    intro g12 w13 e14 x15 m16
    have r_v_g12 := ne_newO ow_v e14
    have o_g12 := own_new xW e14
    have ow_v := ow_v.ext x15
    have xW := Ext.trans xW x15
    refine WL.store (cs' := [_, _, _, _, _]) rfl rfl rfl rfl rfl rfl ti42 m16 (ble rfl) rfl rfl (fun w17 on18 m19 => ?_)
    have ow_v := ow_v.only r_v_g12 on18
    have xW := Ext.only xW on18 o_g12
    refine WL.nil ?_
    refine WK.then_normal (k10 _ _ ?_)
    refine WC.sub [(1, _), (5, _), (7, _), (8, _), (9, _), (10, _)] ⟨rfl, rfl, rfl, rfl, rfl, rfl, trivial⟩ ?_
    refine WC.seq (fun K20 k20 => ?_)
    refine WC.seq (fun K21 k21 => ?_)
    refine WC.region rfl ?_
    refine WL.yld rfl (blt rfl) rfl (Y.fieldAddr rfl Try.underlying42 rfl ti3 (by decide) rfl) ?_
    refine WL.yld rfl (blt rfl) rfl (Y.load1 rfl Try.underlying3 rfl rfl (Blk.at_eq m19 rfl)) ?_
    refine WL.yld rfl (blt rfl) rfl (Y.move rfl rfl) ?_
    refine WL.yld rfl (blt rfl) rfl (Y.eql rfl rfl rfl) ?_
    refine WL.nil ?_
    refine WK.then_normal (k21 _ _ ?_)
    refine WC.sub [(1, _), (5, _), (7, _), (8, _), (9, _), (10, _), (17, _)] ⟨rfl, rfl, rfl, rfl, rfl, rfl, rfl, trivial⟩ ?_
    refine WC.cond rfl (fun h22 => ?_) (fun h22 => ?_)
    ·
      have p22 := (eq_t h22)
      refine WC.region rfl ?_
      refine WL.yld rfl (blt rfl) rfl (Y.move rfl rfl) ?_
      refine WL.yld rfl (blt rfl) rfl (Y.fieldAddr rfl Try.underlying42 rfl ti3 (by decide) rfl) ?_
      refine WL.yld rfl (blt rfl) rfl (Y.load1 rfl Try.underlying3 rfl rfl (Blk.at_eq m19 rfl)) ?_
      refine WL.bslice (zs := [.int .i64 0]) (cs := [_]) rfl (blt rfl) rfl rfl Try.underlying35 ti3 rfl (ble rfl) (by kernel_rfl) rfl rfl ?_
      intro g23 w24 e25 x26 m27
      have r_v_g23 := ne_newO ow_v e25
      have n_g12_g23 := ne_new m19 e25
      have o_g23 := own_new xW e25
      have ow_v := ow_v.ext x26
      have m19 := m19.ext x26
      have xW := Ext.trans xW x26
      refine WL.appendB (f := Ck.ic) (news := [l[i]!.ata]) rfl (blt rfl) rfl rfl rfl rfl Try.underlying35 ti3 rfl (by decide) rfl ow_v (fun _ => rfl) Ck.ic_one m27 rfl xW.size (by have q0 := Ck.rawPts_take_len l id i; first | omega | (simp only [List.length_append, List.length_cons, List.length_nil, List.length_take, List.length_drop, List.length_reverse]; omega)) (Nat.le_trans (show _ ≤ 140737488355328 from by have q0 := Ck.rawPts_take_len l id i; first | omega | (simp only [List.length_append, List.length_cons, List.length_nil, List.length_take, List.length_drop, List.length_reverse]; omega)) (by decide)) (fun v28 w29 ow30 gr31 nb32 => ?_)
      have r_v28_g12 := ne_app nb32 r_v_g12 m19
      have m19 := m19.grown gr31 r_v_g12
      have r_v28_g23 := ne_app nb32 r_v_g23 m27
      have m27 := m27.grown gr31 r_v_g23
      have xW := Ext.grown xW gr31 (fun b hb => (OwnL.lt ow_v hb).1)
      refine WL.yld rfl (blt rfl) rfl (Y.assign rfl rfl) ?_
      refine WL.nil ?_
      refine WK.then_normal (k20 _ _ ?_)
      refine WC.sub [(1, _), (5, _), (7, _), (8, _), (9, _), (10, _)] ⟨rfl, rfl, rfl, rfl, rfl, rfl, trivial⟩ ?_
      refine WC.seq (fun K33 k33 => ?_)
      refine WC.region rfl ?_
      refine WL.yld rfl (blt rfl) rfl (Y.fieldAddr rfl Try.underlying42 rfl ti3 (by decide) rfl) ?_
      refine WL.yld rfl (blt rfl) rfl (Y.load1 rfl Try.underlying3 rfl rfl (Blk.at_eq m19 rfl)) ?_
      refine WL.yld rfl (blt rfl) rfl (Y.move rfl rfl) ?_
      refine WL.yld rfl (blt rfl) rfl (Y.eql rfl rfl rfl) ?_
      refine WL.nil ?_
      refine WK.then_normal (k33 _ _ ?_)
      refine WC.sub [(1, _), (5, _), (7, _), (8, _), (9, _), (10, _), (26, _)] ⟨rfl, rfl, rfl, rfl, rfl, rfl, rfl, trivial⟩ ?_
      refine WC.cond rfl (fun h34 => ?_) (fun h34 => ?_)
      ·
        have p34 := (eq_t h34)
        refine WC.region rfl ?_
        refine WL.yld rfl (blt rfl) rfl (Y.move rfl rfl) ?_
        refine WL.yld rfl (blt rfl) rfl (Y.fieldAddr rfl Try.underlying42 rfl ti29 (by decide) rfl) ?_
        refine WL.yld rfl (blt rfl) rfl (Y.fieldAddr rfl Try.underlying29 rfl ti3 (by decide) rfl) ?_
        refine WL.yld rfl (blt rfl) rfl (Y.load1 rfl Try.underlying3 rfl rfl (Blk.at_eq m19 rfl)) ?_
        refine WL.yld rfl (blt rfl) rfl (Y.fieldAddr rfl Try.underlying42 rfl ti29 (by decide) rfl) ?_
        refine WL.yld rfl (blt rfl) rfl (Y.fieldAddr rfl Try.underlying29 rfl ti3 (by decide) rfl) ?_
        refine WL.yld rfl (blt rfl) rfl (Y.load1 rfl Try.underlying3 rfl rfl (Blk.at_eq m19 rfl)) ?_
        refine WL.bslice (zs := [.int .i64 0, .int .i64 0]) (cs := [_, _]) rfl (blt rfl) rfl rfl Try.underlying35 ti3 rfl (ble rfl) (by kernel_rfl) rfl rfl ?_
        intro g35 w36 e37 x38 m39
        have n_g12_g35 := ne_new m19 e37
        have r_v28_g35 := ne_newO ow30 e37
        have o_g35 := own_new xW e37
        have m19 := m19.ext x38
        have ow30 := ow30.ext x38
        have xW := Ext.trans xW x38
        refine WL.appendB (f := Ck.ic) (news := [l[i]!.lo, l[i]!.hi]) rfl (blt rfl) rfl rfl rfl rfl Try.underlying35 ti3 rfl (by decide) rfl ow30 (fun _ => rfl) Ck.ic_one m39 rfl xW.size (by have q0 := Ck.rawPts_take_len l id i; first | omega | (simp only [List.length_append, List.length_cons, List.length_nil, List.length_take, List.length_drop, List.length_reverse]; omega)) (Nat.le_trans (show _ ≤ 140737488355328 from by have q0 := Ck.rawPts_take_len l id i; first | omega | (simp only [List.length_append, List.length_cons, List.length_nil, List.length_take, List.length_drop, List.length_reverse]; omega)) (by decide)) (fun v40 w41 ow42 gr43 nb44 => ?_)
        have r_v40_g12 := ne_app nb44 r_v28_g12 m19
        have m19 := m19.grown gr43 r_v28_g12
        have r_v40_g35 := ne_app nb44 r_v28_g35 m39
        have m39 := m39.grown gr43 r_v28_g35
        have xW := Ext.grown xW gr43 (fun b hb => (OwnL.lt ow30 hb).1)
        refine WL.yld rfl (blt rfl) rfl (Y.assign rfl rfl) ?_
        refine WL.nil ?_
        refine WK.in_normal ?_
        refine WK.then_normal (k9 _ _ ?_)
        refine WC.sub [(1, _), (5, _), (8, _), (9, _), (10, _)] ⟨rfl, rfl, rfl, rfl, rfl, trivial⟩ ?_
        refine WC.region rfl ?_
        refine WL.yld rfl (blt rfl) rfl (Y.add rfl rfl rfl (wrap_i64 (by first | omega | (dsimp only; omega)))) ?_
        refine WL.yld rfl (blt rfl) rfl (Y.move rfl rfl) ?_
        refine WL.nil ?_
        refine WK.roundS _ [(10, .int .i64 (((i + 1) : Nat) : Int)), (5, v40)] ⟨rfl, rfl, rfl, rfl, rfl, trivial⟩ ?_ ⟨(i + 1), v40, rfl, rfl, xW, (by rw [Ck.rawPts_take l id (show i < l.length from by omega)]; simp only [Ck.ptsOf, h22, h34, Bool.false_eq_true, if_true, if_false, List.append_nil, List.nil_append]; first | exact ow42 | (rw [← List.append_assoc]; exact ow42)), (by omega)⟩
        show _ - (i + 1) < _ - i; omega
      ·
        have p34 := (eq_f h34)
        refine WC.skip ?_
        refine WK.in_normal ?_
        refine WK.then_normal (k9 _ _ ?_)
        refine WC.sub [(1, _), (5, _), (8, _), (9, _), (10, _)] ⟨rfl, rfl, rfl, rfl, rfl, trivial⟩ ?_
        refine WC.region rfl ?_
        refine WL.yld rfl (blt rfl) rfl (Y.add rfl rfl rfl (wrap_i64 (by first | omega | (dsimp only; omega)))) ?_
        refine WL.yld rfl (blt rfl) rfl (Y.move rfl rfl) ?_
        refine WL.nil ?_
        refine WK.roundS _ [(10, .int .i64 (((i + 1) : Nat) : Int)), (5, v28)] ⟨rfl, rfl, rfl, rfl, rfl, trivial⟩ ?_ ⟨(i + 1), v28, rfl, rfl, xW, (by rw [Ck.rawPts_take l id (show i < l.length from by omega)]; simp only [Ck.ptsOf, h22, h34, Bool.false_eq_true, if_true, if_false, List.append_nil, List.nil_append]; first | exact ow30 | (rw [← List.append_assoc]; exact ow30)), (by omega)⟩
        show _ - (i + 1) < _ - i; omega
    ·
      have p22 := (eq_f h22)
      refine WC.skip ?_
      refine WK.then_normal (k20 _ _ ?_)
      refine WC.sub [(1, _), (5, _), (7, _), (8, _), (9, _), (10, _)] ⟨rfl, rfl, rfl, rfl, rfl, rfl, trivial⟩ ?_
      refine WC.seq (fun K45 k45 => ?_)
      refine WC.region rfl ?_
      refine WL.yld rfl (blt rfl) rfl (Y.fieldAddr rfl Try.underlying42 rfl ti3 (by decide) rfl) ?_
      refine WL.yld rfl (blt rfl) rfl (Y.load1 rfl Try.underlying3 rfl rfl (Blk.at_eq m19 rfl)) ?_
      refine WL.yld rfl (blt rfl) rfl (Y.move rfl rfl) ?_
      refine WL.yld rfl (blt rfl) rfl (Y.eql rfl rfl rfl) ?_
      refine WL.nil ?_
      refine WK.then_normal (k45 _ _ ?_)
      refine WC.sub [(1, _), (5, _), (7, _), (8, _), (9, _), (10, _), (26, _)] ⟨rfl, rfl, rfl, rfl, rfl, rfl, rfl, trivial⟩ ?_
      refine WC.cond rfl (fun h46 => ?_) (fun h46 => ?_)
      ·
        have p46 := (eq_t h46)
        refine WC.region rfl ?_
        refine WL.yld rfl (blt rfl) rfl (Y.move rfl rfl) ?_
        refine WL.yld rfl (blt rfl) rfl (Y.fieldAddr rfl Try.underlying42 rfl ti29 (by decide) rfl) ?_
        refine WL.yld rfl (blt rfl) rfl (Y.fieldAddr rfl Try.underlying29 rfl ti3 (by decide) rfl) ?_
        refine WL.yld rfl (blt rfl) rfl (Y.load1 rfl Try.underlying3 rfl rfl (Blk.at_eq m19 rfl)) ?_
        refine WL.yld rfl (blt rfl) rfl (Y.fieldAddr rfl Try.underlying42 rfl ti29 (by decide) rfl) ?_
        refine WL.yld rfl (blt rfl) rfl (Y.fieldAddr rfl Try.underlying29 rfl ti3 (by decide) rfl) ?_
        refine WL.yld rfl (blt rfl) rfl (Y.load1 rfl Try.underlying3 rfl rfl (Blk.at_eq m19 rfl)) ?_
        refine WL.bslice (zs := [.int .i64 0, .int .i64 0]) (cs := [_, _]) rfl (blt rfl) rfl rfl Try.underlying35 ti3 rfl (ble rfl) (by kernel_rfl) rfl rfl ?_
        intro g47 w48 e49 x50 m51
        have r_v_g47 := ne_newO ow_v e49
        have n_g12_g47 := ne_new m19 e49
        have o_g47 := own_new xW e49
        have ow_v := ow_v.ext x50
        have m19 := m19.ext x50
        have xW := Ext.trans xW x50
        refine WL.appendB (f := Ck.ic) (news := [l[i]!.lo, l[i]!.hi]) rfl (blt rfl) rfl rfl rfl rfl Try.underlying35 ti3 rfl (by decide) rfl ow_v (fun _ => rfl) Ck.ic_one m51 rfl xW.size (by have q0 := Ck.rawPts_take_len l id i; first | omega | (simp only [List.length_append, List.length_cons, List.length_nil, List.length_take, List.length_drop, List.length_reverse]; omega)) (Nat.le_trans (show _ ≤ 140737488355328 from by have q0 := Ck.rawPts_take_len l id i; first | omega | (simp only [List.length_append, List.length_cons, List.length_nil, List.length_take, List.length_drop, List.length_reverse]; omega)) (by decide)) (fun v52 w53 ow54 gr55 nb56 => ?_)
        have r_v52_g12 := ne_app nb56 r_v_g12 m19
        have m19 := m19.grown gr55 r_v_g12
        have r_v52_g47 := ne_app nb56 r_v_g47 m51
        have m51 := m51.grown gr55 r_v_g47
        have xW := Ext.grown xW gr55 (fun b hb => (OwnL.lt ow_v hb).1)
        refine WL.yld rfl (blt rfl) rfl (Y.assign rfl rfl) ?_
        refine WL.nil ?_
        refine WK.in_normal ?_
        refine WK.then_normal (k9 _ _ ?_)
        refine WC.sub [(1, _), (5, _), (8, _), (9, _), (10, _)] ⟨rfl, rfl, rfl, rfl, rfl, trivial⟩ ?_
        refine WC.region rfl ?_
        refine WL.yld rfl (blt rfl) rfl (Y.add rfl rfl rfl (wrap_i64 (by first | omega | (dsimp only; omega)))) ?_
        refine WL.yld rfl (blt rfl) rfl (Y.move rfl rfl) ?_
        refine WL.nil ?_
        refine WK.roundS _ [(10, .int .i64 (((i + 1) : Nat) : Int)), (5, v52)] ⟨rfl, rfl, rfl, rfl, rfl, trivial⟩ ?_ ⟨(i + 1), v52, rfl, rfl, xW, (by rw [Ck.rawPts_take l id (show i < l.length from by omega)]; simp only [Ck.ptsOf, h22, h46, Bool.false_eq_true, if_true, if_false, List.append_nil, List.nil_append]; first | exact ow54 | (rw [← List.append_assoc]; exact ow54)), (by omega)⟩
        show _ - (i + 1) < _ - i; omega
      ·
        have p46 := (eq_f h46)
        refine WC.skip ?_
        refine WK.in_normal ?_
        refine WK.then_normal (k9 _ _ ?_)
        refine WC.sub [(1, _), (5, _), (8, _), (9, _), (10, _)] ⟨rfl, rfl, rfl, rfl, rfl, trivial⟩ ?_
        refine WC.region rfl ?_
        refine WL.yld rfl (blt rfl) rfl (Y.add rfl rfl rfl (wrap_i64 (by first | omega | (dsimp only; omega)))) ?_
        refine WL.yld rfl (blt rfl) rfl (Y.move rfl rfl) ?_
        refine WL.nil ?_
        refine WK.roundS _ [(10, .int .i64 (((i + 1) : Nat) : Int)), (5, v)] ⟨rfl, rfl, rfl, rfl, rfl, trivial⟩ ?_ ⟨(i + 1), v, rfl, rfl, xW, (by rw [Ck.rawPts_take l id (show i < l.length from by omega)]; simp only [Ck.ptsOf, h22, h46, Bool.false_eq_true, if_true, if_false, List.append_nil, List.nil_append]; first | exact ow_v | (rw [← List.append_assoc]; exact ow_v)), (by omega)⟩
        show _ - (i + 1) < _ - i; omega
  ·
    have p8 := (dec_f h8)
    refine WC.exit ?_
    refine WK.then_exit ?_
    refine WK.then_exit ?_
    refine WK.in_exit ?_
    refine WK.then_normal (k3 _ _ ?_)
    refine WC.sub [(5, _)] ⟨rfl, trivial⟩ ?_
    refine WC.seq (fun K57 k57 => ?_)
    refine WC.region rfl ?_
    refine WL.yld rfl (blt rfl) rfl (Y.move rfl rfl) ?_
    refine WL.call rfl (blt rfl) rfl rfl rfl has48 rfl (sort_row _ _ _ _ ow_v (by have q := Ck.rawPts_take_len l id i; omega)) ?_
    rintro _ w58 ⟨rfl, ow60, gr61⟩
    refine ⟨_, rfl, ?_⟩
    have xW := Ext.grown xW gr61 (fun b hb => (OwnL.lt ow_v hb).1)
    refine WL.nil ?_
    refine WK.then_normal (k57 _ _ ?_)
    refine WC.sub [(5, _)] ⟨rfl, trivial⟩ ?_
    refine WC.seq (fun K62 k62 => ?_)
    refine WC.region rfl ?_
    refine WL.yld rfl (blt rfl) rfl (Y.move rfl rfl) ?_
    refine WL.call rfl (blt rfl) rfl rfl rfl has64 rfl (compact_row _ _ _ _ ow60 (by rw [Ck.srt_len]; have q := Ck.rawPts_take_len l id i; omega)) ?_
    rintro _ w63 ⟨v67, rfl, ow65, gr66, nb68⟩
    refine ⟨_, rfl, ?_⟩
    have xW := Ext.grown xW gr66 (fun b hb => (OwnL.lt ow60 hb).1)
    refine WL.yld rfl (blt rfl) rfl (Y.assign rfl rfl) ?_
    refine WL.nil ?_
    refine WK.then_normal (k62 _ _ ?_)
    refine WC.sub [(4, _)] ⟨rfl, trivial⟩ ?_
    refine WC.ret ?_
    clear k1 k2 k3 k4 k6 k7 k57 k62
    refine WK.ret [_] rfl ⟨rfl, trivial⟩ ?_
    refine ⟨_, rfl, ?_, xW⟩
    rw [Ck.compact_srt, show l.take i = l from List.take_of_length_le (by omega)] at ow65
    exact ow65
end P
end CkW

end Go.Proofs.Ytaglpampidlbmaa
