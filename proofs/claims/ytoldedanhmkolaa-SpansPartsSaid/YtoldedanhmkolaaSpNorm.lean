/- Contracts: the normal list. Conditions: what each theorem states. -/
import Derived.Test.YtoldedanhmkolaaSpWalk
import Derived.Test.YtoldedanhmkolaaSpSort
namespace Go.Proofs.Ytoldedanhmkolaa
open Go Go.Eng Go.RowKit
set_option linter.unusedVariables false
namespace SpW
namespace Q
theorem ti3 : TI Try.prog 3 (.int .i64 0) 1 8 := TI.mk (by kernel_rfl)
theorem ti27 : TI Try.prog 27 (.agg #[.int .i64 0, .int .i64 0]) 2 16 := TI.mk (by kernel_rfl)
theorem has11 : Has Try.prog 11 := ⟨_, Try.func11, rfl, by kernel_rfl⟩
theorem has28 : Has Try.prog 28 := ⟨_, Try.func28, rfl, by kernel_rfl⟩
theorem normal_any (A_l : Option Addr) (n_l c_l : Nat) (l : List Sp.S) (w : World) (h_l : Ls w A_l n_l c_l Sp.S.c 2 l) (hn : n_l ≤ 100000) :
    Calls Try.prog 14 #[.slice A_l n_l c_l] w fun e w' => ∃ v, e = .returned v ∧ OwnL w' w.heap.size 27 Sp.S.c 2 v (Sp.norm l) ∧ Ext w w' := by
  have xW := Ext.refl w
  have e_l := h_l.len
  have z_l := h_l.nle
  refine calls_of_WC (args := [.slice A_l n_l c_l]) Try.func14 rfl rfl (ble rfl) ?_
  refine WC.seq (fun K1 k1 => ?_)
  refine WC.region rfl ?_
  refine WL.yld rfl (blt rfl) rfl (Y.assign rfl rfl) ?_
  refine WL.nil ?_
  refine WK.then_normal (k1 _ _ ?_)
  refine WC.sub [(0, _)] ⟨rfl, trivial⟩ ?_
  refine WC.seq (fun K2 k2 => ?_)
  refine WC.region rfl ?_
  refine WL.yld rfl (blt rfl) rfl (Y.assign rfl rfl) ?_
  refine WL.yld rfl (blt rfl) rfl (Y.assign rfl rfl) ?_
  refine WL.nil ?_
  refine WK.then_normal (k2 _ _ ?_)
  refine WC.seq (fun K3 k3 => ?_)
  refine WC.seq (fun K4 k4 => ?_)
  refine WC.region rfl ?_
  refine WL.yld rfl (blt rfl) rfl (Y.move rfl rfl) ?_
  refine WL.yld rfl (blt rfl) rfl (Y.lenSl rfl rfl rfl Try.underlying22 rfl) ?_
  refine WL.yld rfl (blt rfl) rfl (Y.move rfl rfl) ?_
  refine WL.nil ?_
  refine WK.then_normal (k4 _ _ ?_)
  refine WC.sub [(3, _), (4, _), (10, _), (11, _), (12, _)] ⟨rfl, rfl, rfl, rfl, rfl, trivial⟩ ?_
  refine WC.block ?_
  refine WC.sub [(12, _), (3, _), (4, _), (10, _), (11, _)] ⟨rfl, rfl, rfl, rfl, rfl, trivial⟩ ?_
  refine WC.loopS 2 (fun mz Ed W' => ∃ i : Nat, ∃ v : Value, mz = n_l - i ∧ Ed = [(12, .int .i64 ((i : Nat) : Int)), (3, v)] ∧ Ext w W' ∧ OwnL W' w.heap.size 27 Sp.S.c 2 v ((l.take i).filter Sp.ok) ∧ (i ≤ n_l)) _ ⟨0, _, rfl, rfl, xW, OwnL.nil_, (Nat.zero_le _)⟩ ?_
  rintro _ _ w5 ⟨i, v, rfl, rfl, xW, ow_v, le_i⟩
  refine WC.sub [(12, _), (3, _), (4, _), (10, _), (11, _)] ⟨rfl, rfl, rfl, rfl, rfl, trivial⟩ ?_
  refine WC.seq (fun K6 k6 => ?_)
  refine WC.region rfl ?_
  refine WL.yld rfl (blt rfl) rfl (Y.lss rfl rfl rfl) ?_
  refine WL.nil ?_
  refine WK.then_normal (k6 _ _ ?_)
  refine WC.seq (fun K7 k7 => ?_)
  refine WC.cond rfl (fun h8 => ?_) (fun h8 => ?_)
  ·
    have p8 := (dec_t h8)
    refine WC.skip ?_
    refine WK.then_normal (k7 _ _ ?_)
    refine WC.sub [(3, _), (4, _), (10, _), (11, _), (12, _)] ⟨rfl, rfl, rfl, rfl, rfl, trivial⟩ ?_
    refine WC.seq (fun K9 k9 => ?_)
    refine WC.block ?_
    refine WC.seq (fun K10 k10 => ?_)
    refine WC.region rfl ?_
    have b11 : i < n_l := by omega
    refine WL.yld rfl (blt rfl) rfl (Y.indexLs i (h_l.ext xW) rfl Try.underlying22 ti27 rfl rfl rfl b11) ?_
    refine WL.yld rfl (blt rfl) rfl (Y.loadS (cs := [_, _]) rfl Try.underlying27 rfl ti27 rfl (Ls.part_eq (h_l.ext xW) b11 rfl)) ?_
    refine WL.alloc rfl (blt rfl) rfl rfl ti27 rfl ?_
    intro g12 w13 e14 x15 m16
    have r_v_g12 := ne_newO ow_v e14
    have o_g12 := own_new xW e14
    have ow_v := ow_v.ext x15
    have xW := Ext.trans xW x15
    refine WL.store (cs' := [_, _]) rfl rfl rfl rfl rfl rfl ti27 m16 (ble rfl) rfl rfl (fun w17 on18 m19 => ?_)
    have ow_v := ow_v.only r_v_g12 on18
    have xW := Ext.only xW on18 o_g12
    refine WL.nil ?_
    refine WK.then_normal (k10 _ _ ?_)
    refine WC.sub [(3, _), (4, _), (6, _), (10, _), (11, _), (12, _)] ⟨rfl, rfl, rfl, rfl, rfl, rfl, trivial⟩ ?_
    refine WC.seq (fun K20 k20 => ?_)
    refine WC.region rfl ?_
    refine WL.yld rfl (blt rfl) rfl (Y.loadS rfl Try.underlying27 rfl ti27 rfl (Blk.row_eq m19)) ?_
    refine WL.call rfl (blt rfl) rfl rfl rfl has11 rfl (valid_any _ _ ) ?_
    rintro _ w21 ⟨rfl, x22⟩
    refine ⟨_, rfl, ?_⟩
    have ow_v := ow_v.ext x22
    have m19 := m19.ext x22
    have xW := Ext.trans xW x22
    refine WL.nil ?_
    refine WK.then_normal (k20 _ _ ?_)
    refine WC.sub [(3, _), (4, _), (6, _), (10, _), (11, _), (12, _), (17, _)] ⟨rfl, rfl, rfl, rfl, rfl, rfl, rfl, trivial⟩ ?_
    refine WC.cond rfl (fun h23 => ?_) (fun h23 => ?_)
    ·
      refine WC.region rfl ?_
      refine WL.yld rfl (blt rfl) rfl (Y.move rfl rfl) ?_
      refine WL.yld rfl (blt rfl) rfl (Y.loadS rfl Try.underlying27 rfl ti27 rfl (Blk.row_eq m19)) ?_
      refine WL.bslice (zs := [.int .i64 0, .int .i64 0]) (cs := [_, _]) rfl (blt rfl) rfl rfl Try.underlying22 ti27 rfl (ble rfl) (by kernel_rfl) rfl rfl ?_
      intro g24 w25 e26 x27 m28
      have r_v_g24 := ne_newO ow_v e26
      have n_g12_g24 := ne_new m19 e26
      have o_g24 := own_new xW e26
      have ow_v := ow_v.ext x27
      have m19 := m19.ext x27
      have xW := Ext.trans xW x27
      refine WL.appendB (f := Sp.S.c) (news := [l[i]!]) rfl (blt rfl) rfl rfl rfl rfl Try.underlying22 ti27 rfl (by decide) rfl ow_v (fun _ => rfl) Sp.S.one m28 rfl xW.size (by have q0 := Sp.filter_len l i; first | omega | (simp only [List.length_append, List.length_cons, List.length_nil, List.length_take, List.length_drop, List.length_reverse]; omega)) (Nat.le_trans (show _ ≤ 140737488355328 from by have q0 := Sp.filter_len l i; first | omega | (simp only [List.length_append, List.length_cons, List.length_nil, List.length_take, List.length_drop, List.length_reverse]; omega)) (by decide)) (fun v29 w30 ow31 gr32 nb33 => ?_)
      have r_v29_g12 := ne_app nb33 r_v_g12 m19
      have m19 := m19.grown gr32 r_v_g12
      have r_v29_g24 := ne_app nb33 r_v_g24 m28
      have m28 := m28.grown gr32 r_v_g24
      have xW := Ext.grown xW gr32 (fun b hb => (OwnL.lt ow_v hb).1)
      refine WL.yld rfl (blt rfl) rfl (Y.assign rfl rfl) ?_
      refine WL.nil ?_
      refine WK.in_normal ?_
      refine WK.then_normal (k9 _ _ ?_)
      refine WC.sub [(3, _), (4, _), (10, _), (11, _), (12, _)] ⟨rfl, rfl, rfl, rfl, rfl, trivial⟩ ?_
      refine WC.region rfl ?_
      refine WL.yld rfl (blt rfl) rfl (Y.add rfl rfl rfl (wrap_i64 (by first | omega | (dsimp only; omega)))) ?_
      refine WL.yld rfl (blt rfl) rfl (Y.move rfl rfl) ?_
      refine WL.nil ?_
      refine WK.roundS _ [(12, .int .i64 (((i + 1) : Nat) : Int)), (3, v29)] ⟨rfl, rfl, rfl, rfl, rfl, trivial⟩ ?_ ⟨(i + 1), v29, rfl, rfl, xW, (by rw [Sp.filter_take l (show i < l.length from by omega), if_pos h23]; exact ow31), (by omega)⟩
      show _ - (i + 1) < _ - i; omega
    ·
      refine WC.skip ?_
      refine WK.in_normal ?_
      refine WK.then_normal (k9 _ _ ?_)
      refine WC.sub [(3, _), (4, _), (10, _), (11, _), (12, _)] ⟨rfl, rfl, rfl, rfl, rfl, trivial⟩ ?_
      refine WC.region rfl ?_
      refine WL.yld rfl (blt rfl) rfl (Y.add rfl rfl rfl (wrap_i64 (by first | omega | (dsimp only; omega)))) ?_
      refine WL.yld rfl (blt rfl) rfl (Y.move rfl rfl) ?_
      refine WL.nil ?_
      refine WK.roundS _ [(12, .int .i64 (((i + 1) : Nat) : Int)), (3, v)] ⟨rfl, rfl, rfl, rfl, rfl, trivial⟩ ?_ ⟨(i + 1), v, rfl, rfl, xW, (by rw [Sp.filter_take l (show i < l.length from by omega), if_neg (by rw [h23]; exact Bool.false_ne_true), List.append_nil]; exact ow_v), (by omega)⟩
      show _ - (i + 1) < _ - i; omega
  ·
    have p8 := (dec_f h8)
    rw [List.take_of_length_le (show l.length ≤ i from by omega)] at ow_v
    have fl := List.length_filter_le Sp.ok l
    have sl := Sp.srtS_len (l.filter Sp.ok)
    refine WC.exit ?_
    refine WK.then_exit ?_
    refine WK.then_exit ?_
    refine WK.in_exit ?_
    refine WK.then_normal (k3 _ _ ?_)
    refine WC.sub [(3, _), (4, _)] ⟨rfl, rfl, trivial⟩ ?_
    refine WC.seq (fun K34 k34 => ?_)
    refine WC.region rfl ?_
    refine WL.yld rfl (blt rfl) rfl (Y.move rfl rfl) ?_
    refine WL.call rfl (blt rfl) rfl rfl rfl has28 rfl (sortS_row _ _ _ _ ow_v (by have q := Sp.filter_len l i; omega)) ?_
    rintro _ w35 ⟨rfl, ow37, gr38⟩
    refine ⟨_, rfl, ?_⟩
    have xW := Ext.grown xW gr38 (fun b hb => (OwnL.lt ow_v hb).1)
    refine WL.nil ?_
    refine WK.then_normal (k34 _ _ ?_)
    refine WC.sub [(3, _), (4, _)] ⟨rfl, rfl, trivial⟩ ?_
    refine WC.seq (fun K39 k39 => ?_)
    refine WC.seq (fun K40 k40 => ?_)
    refine WC.region rfl ?_
    refine WL.yld rfl (blt rfl) rfl (Y.move rfl rfl) ?_
    obtain ⟨A41, n42, c43, rfl, hl44⟩ := OwnL.opened ow37 (fun _ => rfl) (by decide)
    have e_n42 := hl44.len
    try simp only [List.length_append, List.length_cons, List.length_nil, List.length_reverse, List.length_drop, List.length_take] at e_n42
    have z_n42 := hl44.nle
    refine WL.yld rfl (blt rfl) rfl (Y.lenSl rfl rfl rfl Try.underlying22 rfl) ?_
    refine WL.yld rfl (blt rfl) rfl (Y.move rfl rfl) ?_
    refine WL.nil ?_
    refine WK.then_normal (k40 _ _ ?_)
    refine WC.sub [(4, _), (25, _), (26, _), (27, _)] ⟨rfl, rfl, rfl, rfl, trivial⟩ ?_
    refine WC.block ?_
    refine WC.sub [(27, _), (4, _), (25, _), (26, _)] ⟨rfl, rfl, rfl, rfl, trivial⟩ ?_
    refine WC.loopS 2 (fun mz Ed W' => ∃ j : Nat, ∃ u : Value, mz = n42 - j ∧ Ed = [(27, .int .i64 ((j : Nat) : Int)), (4, u)] ∧ Ext w W' ∧ OwnL W' w.heap.size 27 Sp.S.c 2 (.slice A41 n42 c43) _ ∧ OwnL W' w.heap.size 27 Sp.S.c 2 u (((Sp.srtS (l.filter Sp.ok)).take j).foldl Sp.step []) ∧ Apart u (.slice A41 n42 c43) ∧ (j ≤ n42)) _ ⟨0, _, rfl, rfl, xW, ow37, OwnL.nil_, Apart.nil_l, (Nat.zero_le _)⟩ ?_
    rintro _ _ w45 ⟨j, u, rfl, rfl, xW, ow37, ow_u, d_u_v, le_j⟩
    refine WC.sub [(27, _), (4, _), (25, _), (26, _)] ⟨rfl, rfl, rfl, rfl, trivial⟩ ?_
    have hl44 := OwnL.ls ow37 (fun _ => rfl) (by decide)
    refine WC.seq (fun K46 k46 => ?_)
    refine WC.region rfl ?_
    refine WL.yld rfl (blt rfl) rfl (Y.lss rfl rfl rfl) ?_
    refine WL.nil ?_
    refine WK.then_normal (k46 _ _ ?_)
    refine WC.seq (fun K47 k47 => ?_)
    refine WC.cond rfl (fun h48 => ?_) (fun h48 => ?_)
    ·
      have p48 := (dec_t h48)
      refine WC.skip ?_
      refine WK.then_normal (k47 _ _ ?_)
      refine WC.sub [(4, _), (25, _), (26, _), (27, _)] ⟨rfl, rfl, rfl, rfl, trivial⟩ ?_
      refine WC.seq (fun K49 k49 => ?_)
      refine WC.block ?_
      refine WC.seq (fun K50 k50 => ?_)
      refine WC.region rfl ?_
      have b51 : j < n42 := by omega
      refine WL.yld rfl (blt rfl) rfl (Y.indexLs j hl44 rfl Try.underlying22 ti27 rfl rfl rfl b51) ?_
      refine WL.yld rfl (blt rfl) rfl (Y.loadS (cs := [_, _]) rfl Try.underlying27 rfl ti27 rfl (Ls.part_eq hl44 b51 rfl)) ?_
      refine WL.alloc rfl (blt rfl) rfl rfl ti27 rfl ?_
      intro g52 w53 e54 x55 m56
      have r_v_g52 := ne_newO ow37 e54
      have r_u_g52 := ne_newO ow_u e54
      have o_g52 := own_new xW e54
      have ow37 := ow37.ext x55
      have hl44 := hl44.ext x55
      have ow_u := ow_u.ext x55
      have xW := Ext.trans xW x55
      refine WL.store (cs' := [_, _]) rfl rfl rfl rfl rfl rfl ti27 m56 (ble rfl) rfl rfl (fun w57 on58 m59 => ?_)
      have ow37 := ow37.only r_v_g52 on58
      have hl44 := OwnL.ls ow37 (fun _ => rfl) (by decide)
      have ow_u := ow_u.only r_u_g52 on58
      have xW := Ext.only xW on58 o_g52
      refine WL.nil ?_
      refine WK.then_normal (k50 _ _ ?_)
      refine WC.sub [(4, _), (8, _), (25, _), (26, _), (27, _)] ⟨rfl, rfl, rfl, rfl, rfl, trivial⟩ ?_
      refine WC.seq (fun K60 k60 => ?_)
      refine WC.region rfl ?_
      refine WL.yld rfl (blt rfl) rfl (Y.move rfl rfl) ?_
      obtain ⟨A61, n62, c63, rfl, hl64⟩ := OwnL.opened ow_u (fun _ => rfl) (by decide)
      have e_n62 := hl64.len
      try simp only [List.length_append, List.length_cons, List.length_nil, List.length_reverse, List.length_drop, List.length_take] at e_n62
      have z_n62 := hl64.nle
      refine WL.yld rfl (blt rfl) rfl (Y.lenSl rfl rfl rfl Try.underlying22 rfl) ?_
      refine WL.yld rfl (blt rfl) rfl (Y.assign rfl rfl) ?_
      refine WL.nil ?_
      refine WK.then_normal (k60 _ _ ?_)
      refine WC.sub [(4, _), (8, _), (9, _), (25, _), (26, _), (27, _)] ⟨rfl, rfl, rfl, rfl, rfl, rfl, trivial⟩ ?_
      refine WC.seq (fun K65 k65 => ?_)
      refine WC.regionDq (by kernel_rfl) (by kernel_rfl) rfl ?_
      refine WQ.yld rfl (blt rfl) rfl (Y.move rfl rfl) ?_
      refine WQ.yld rfl (blt rfl) rfl (Y.gtr rfl rfl rfl) ?_
      refine WQ.yld rfl (blt rfl) rfl (Y.move rfl rfl) ?_
      refine WQ.yldG rfl (blt rfl) rfl rfl rfl (fun hb => Y.fieldAddr rfl Try.underlying27 rfl ti3 (by decide) rfl) ?_
      refine WQ.yldG rfl (blt rfl) rfl rfl rfl (fun hb => Y.load1 rfl Try.underlying3 rfl (evg rfl hb) (Blk.at_ext m59 rfl)) ?_
      refine WQ.yldG rfl (blt rfl) rfl rfl rfl (fun hb => Y.move rfl rfl) ?_
      refine WQ.yldG rfl (blt rfl) rfl rfl rfl (fun hb => Y.move rfl rfl) ?_
      refine WQ.yldG rfl (blt rfl) rfl rfl rfl (fun hb => Y.sub rfl (evg rfl hb) rfl (wrap_i64 (by have q0 := (dec_t hb); first | omega | (dsimp only; omega)))) ?_
      refine WQ.yldG rfl (blt rfl) rfl rfl rfl (fun hb => Y.indexLs (n62 - 1) hl64 rfl Try.underlying22 ti27 (evg rfl hb) (evg rfl hb) (by have q0 := (dec_t hb); omega) (by have q0 := (dec_t hb); omega)) ?_
      refine WQ.yldG rfl (blt rfl) rfl rfl rfl (fun hb => Y.fieldE rfl Try.underlying27 rfl ti3 (by decide) (evg rfl hb)) ?_
      refine WQ.yldG rfl (blt rfl) rfl rfl rfl (fun hb => Y.load1 rfl Try.underlying3 rfl (evg rfl hb) (Ls.at_ext hl64 (by have q0 := (dec_t hb); omega) rfl)) ?_
      refine WQ.yldG rfl (blt rfl) rfl rfl rfl (fun hb => Y.leq rfl (evg rfl hb) (evg rfl hb)) ?_
      refine WQ.yld rfl (blt rfl) rfl (Y.and rfl rfl rfl rfl) ?_
      refine WQ.done (fun w66 x67 => ?_)
      have ow37 := ow37.ext x67
      have hl44 := hl44.ext x67
      have ow_u := ow_u.ext x67
      have hl64 := hl64.ext x67
      have m59 := m59.ext x67
      have xW := Ext.trans xW x67
      refine WK.then_normal (k65 _ _ ?_)
      refine WC.sub [(4, _), (8, _), (9, _), (25, _), (26, _), (27, _), (45, _)] ⟨rfl, rfl, rfl, rfl, rfl, rfl, rfl, trivial⟩ ?_
      refine WC.cond rfl (fun h68 => ?_) (fun h68 => ?_)
      ·
        have p68 := (And.intro (dec_t (and_t h68).1) (dec_t (and_t h68).2))
        refine WC.regionT 14 (by kernel_rfl) (by kernel_rfl) ?_
        refine WQ.yld rfl (blt rfl) rfl (Y.move rfl rfl) ?_
        refine WQ.yld rfl (blt rfl) rfl (Y.move rfl rfl) ?_
        refine WQ.yld rfl (blt rfl) rfl (Y.sub rfl rfl rfl (wrap_i64 (by first | omega | (dsimp only; omega)))) ?_
        refine WQ.yld rfl (blt rfl) rfl (Y.move rfl rfl) ?_
        refine WQ.yld rfl (blt rfl) rfl (Y.move rfl rfl) ?_
        refine WQ.yld rfl (blt rfl) rfl (Y.sub rfl rfl rfl (wrap_i64 (by first | omega | (dsimp only; omega)))) ?_
        have b69 : (n62 - 1) < n62 := by omega
        refine WQ.yld rfl (blt rfl) rfl (Y.indexLs (n62 - 1) hl64 rfl Try.underlying22 ti27 rfl rfl (by omega) b69) ?_
        refine WQ.yld rfl (blt rfl) rfl (Y.fieldE rfl Try.underlying27 rfl ti3 (by decide) rfl) ?_
        refine WQ.yld rfl (blt rfl) rfl (Y.load1 rfl Try.underlying3 rfl rfl (Ls.at_ext hl64 b69 rfl)) ?_
        refine WQ.yld rfl (blt rfl) rfl (Y.fieldAddr rfl Try.underlying27 rfl ti3 (by decide) rfl) ?_
        refine WQ.yld rfl (blt rfl) rfl (Y.load1 rfl Try.underlying3 rfl rfl (Blk.at_ext m59 rfl)) ?_
        refine WQ.yld rfl (blt rfl) rfl (Y.maxI rfl rfl rfl rfl) ?_
        have b70 : (n62 - 1) < n62 := by omega
        refine WQ.yld rfl (blt rfl) rfl (Y.indexLs (n62 - 1) hl64 rfl Try.underlying22 ti27 rfl rfl (by omega) b70) ?_
        refine WQ.yld rfl (blt rfl) rfl (Y.fieldE rfl Try.underlying27 rfl ti3 (by decide) rfl) ?_
        refine WQ.tail (fun w71 x72 => ?_)
        have ow37 := ow37.ext x72
        have hl44 := hl44.ext x72
        have ow_u := ow_u.ext x72
        have hl64 := hl64.ext x72
        have m59 := m59.ext x72
        have xW := Ext.trans xW x72
        refine WL.storeE (k := (n62 - 1)) (off := 1) (f := Sp.S.c) (⟨(List.foldl Sp.step [] (List.take j (Sp.srtS (l.filter Sp.ok))))[n62 - 1]!.f, max (List.foldl Sp.step [] (List.take j (Sp.srtS (l.filter Sp.ok))))[n62 - 1]!.t (Sp.srtS (l.filter Sp.ok))[j]!.t⟩ : Sp.S) rfl rfl rfl rfl rfl rfl ti3 ow_u (fun _ => rfl) b70 (ble rfl) rfl rfl (fun w73 ow74 gr75 => ?_)
        have ow37 := OwnL.grown ow37 gr75 d_u_v
        have hl44 := OwnL.ls ow37 (fun _ => rfl) (by decide)
        have m59 := m59.grown gr75 r_u_g52
        have xW := Ext.grown xW gr75 (fun b hb => (OwnL.lt ow_u hb).1)
        have hl64 := OwnL.ls ow74 (fun _ => rfl) (by decide)
        refine WL.nil ?_
        refine WK.in_normal ?_
        refine WK.then_normal (k49 _ _ ?_)
        refine WC.sub [(4, _), (25, _), (26, _), (27, _)] ⟨rfl, rfl, rfl, rfl, trivial⟩ ?_
        refine WC.region rfl ?_
        refine WL.yld rfl (blt rfl) rfl (Y.add rfl rfl rfl (wrap_i64 (by first | omega | (dsimp only; omega)))) ?_
        refine WL.yld rfl (blt rfl) rfl (Y.move rfl rfl) ?_
        refine WL.nil ?_
        refine WK.roundS _ [(27, .int .i64 (((j + 1) : Nat) : Int)), (4, (.slice A61 n62 c63))] ⟨rfl, rfl, rfl, rfl, trivial⟩ ?_ ⟨(j + 1), (.slice A61 n62 c63), rfl, rfl, xW, ow37, (by rw [Sp.fold_ext (show j < (Sp.srtS (l.filter Sp.ok)).length from by omega) (by omega) h68]; exact ow74), d_u_v, (by omega)⟩
        show _ - (j + 1) < _ - j; omega
      ·
        have p68 := ((and_f h68).imp (fun h => (dec_f h)) (fun h => (dec_f h)))
        refine WC.region rfl ?_
        refine WL.yld rfl (blt rfl) rfl (Y.move rfl rfl) ?_
        refine WL.yld rfl (blt rfl) rfl (Y.loadS rfl Try.underlying27 rfl ti27 rfl (Blk.row_eq m59)) ?_
        refine WL.bslice (zs := [.int .i64 0, .int .i64 0]) (cs := [_, _]) rfl (blt rfl) rfl rfl Try.underlying22 ti27 rfl (ble rfl) (by kernel_rfl) rfl rfl ?_
        intro g76 w77 e78 x79 m80
        have r_v_g76 := ne_newO ow37 e78
        have r_u_g76 := ne_newO ow_u e78
        have n_g52_g76 := ne_new m59 e78
        have o_g76 := own_new xW e78
        have ow37 := ow37.ext x79
        have hl44 := hl44.ext x79
        have ow_u := ow_u.ext x79
        have hl64 := hl64.ext x79
        have m59 := m59.ext x79
        have xW := Ext.trans xW x79
        refine WL.appendB (f := Sp.S.c) (news := [(Sp.srtS (l.filter Sp.ok))[j]!]) rfl (blt rfl) rfl rfl rfl rfl Try.underlying22 ti27 rfl (by decide) rfl ow_u (fun _ => rfl) Sp.S.one m80 rfl xW.size (by have q0 := Sp.fold_take_len (Sp.srtS (l.filter Sp.ok)) j; first | omega | (simp only [List.length_append, List.length_cons, List.length_nil, List.length_take, List.length_drop, List.length_reverse]; omega)) (Nat.le_trans (show _ ≤ 140737488355328 from by have q0 := Sp.fold_take_len (Sp.srtS (l.filter Sp.ok)) j; first | omega | (simp only [List.length_append, List.length_cons, List.length_nil, List.length_take, List.length_drop, List.length_reverse]; omega)) (by decide)) (fun v81 w82 ow83 gr84 nb85 => ?_)
        have d_v_v81 := (Apart.app d_u_v nb85 ow37).symm
        have ow37 := OwnL.grown ow37 gr84 d_u_v
        have hl44 := OwnL.ls ow37 (fun _ => rfl) (by decide)
        have r_v81_g52 := ne_app nb85 r_u_g52 m59
        have m59 := m59.grown gr84 r_u_g52
        have r_v81_g76 := ne_app nb85 r_u_g76 m80
        have m80 := m80.grown gr84 r_u_g76
        have xW := Ext.grown xW gr84 (fun b hb => (OwnL.lt ow_u hb).1)
        refine WL.yld rfl (blt rfl) rfl (Y.assign rfl rfl) ?_
        refine WL.nil ?_
        refine WK.in_normal ?_
        refine WK.then_normal (k49 _ _ ?_)
        refine WC.sub [(4, _), (25, _), (26, _), (27, _)] ⟨rfl, rfl, rfl, rfl, trivial⟩ ?_
        refine WC.region rfl ?_
        refine WL.yld rfl (blt rfl) rfl (Y.add rfl rfl rfl (wrap_i64 (by first | omega | (dsimp only; omega)))) ?_
        refine WL.yld rfl (blt rfl) rfl (Y.move rfl rfl) ?_
        refine WL.nil ?_
        refine WK.roundS _ [(27, .int .i64 (((j + 1) : Nat) : Int)), (4, v81)] ⟨rfl, rfl, rfl, rfl, trivial⟩ ?_ ⟨(j + 1), v81, rfl, rfl, xW, ow37, (by rw [Sp.fold_new (show j < (Sp.srtS (l.filter Sp.ok)).length from by omega) (by omega) h68]; exact ow83), d_v_v81.symm, (by omega)⟩
        show _ - (j + 1) < _ - j; omega
    ·
      have p48 := (dec_f h48)
      refine WC.exit ?_
      refine WK.then_exit ?_
      refine WK.then_exit ?_
      refine WK.in_exit ?_
      refine WK.then_normal (k39 _ _ ?_)
      refine WC.sub [(4, _)] ⟨rfl, trivial⟩ ?_
      refine WC.seq (fun K86 k86 => ?_)
      refine WC.region rfl ?_
      refine WL.yld rfl (blt rfl) rfl (Y.move rfl rfl) ?_
      refine WL.yld rfl (blt rfl) rfl (Y.assign rfl rfl) ?_
      refine WL.nil ?_
      refine WK.then_normal (k86 _ _ ?_)
      refine WC.sub [(2, _)] ⟨rfl, trivial⟩ ?_
      refine WC.ret ?_
      clear k1 k2 k3 k4 k6 k7 k34 k39 k40 k46 k47 k86
      refine WK.ret [_] rfl ⟨rfl, trivial⟩ ?_
      refine ⟨_, rfl, ?_, xW⟩
      rw [List.take_of_length_le (show (Sp.srtS (l.filter Sp.ok)).length ≤ j from by omega), Sp.join_norm] at ow_u
      exact ow_u
end Q
end SpW

end Go.Proofs.Ytoldedanhmkolaa
