/- Contracts: the index. Conditions: what each theorem states. -/
import Derived.Test.YtbdfhiihaemjhaaItMost
namespace Go.Proofs.Ytbdfhiihaemjhaa
open Go Go.Eng Go.RowKit
set_option linter.unusedVariables false
namespace ItW
open M
namespace O
theorem ti3 : TI Try.prog 3 (.int .i64 0) 1 8 := TI.mk (by kernel_rfl)
theorem ti26 : TI Try.prog 26 (.agg #[.slice none 0 0, .slice none 0 0]) 2 48 := TI.mk (by kernel_rfl)
theorem has23 : Has Try.prog 23 := ⟨_, Try.func23, rfl, by kernel_rfl⟩
theorem has27 : Has Try.prog 27 := ⟨_, Try.func27, rfl, by kernel_rfl⟩
theorem has28 : Has Try.prog 28 := ⟨_, Try.func28, rfl, by kernel_rfl⟩
theorem has29 : Has Try.prog 29 := ⟨_, Try.func29, rfl, by kernel_rfl⟩
theorem has40 : Has Try.prog 40 := ⟨_, Try.func40, rfl, by kernel_rfl⟩
theorem pl26 : PL Try.prog 26 [.slice none 0 0, .slice none 0 0] [(0, 1), (1, 1)] := PL.mk (zero := [.slice none 0 0, .slice none 0 0]) ti26 Try.underlying26 (by kernel_rfl)
theorem of_tree (A_l : Option Addr) (n_l c_l : Nat) (l : List Sp.S) (w : World) (h_l : Ls w A_l n_l c_l Sp.S.c 2 l) (hn : n_l ≤ 10000) :
    Calls Try.prog 9 #[.slice A_l n_l c_l] w fun e w' => ∃ v_o v_m : Value, e = .returned (.agg #[v_o, v_m]) ∧ OwnL w' w.heap.size 3 Sp.ic 1 v_o (It.ord l l.length) ∧ OwnL w' w.heap.size 3 Sp.ic 1 v_m (It.most l) ∧ Apart v_m v_o ∧ Ext w w' := by
  have xW := Ext.refl w
  have e_l := h_l.len
  have z_l := h_l.nle
  refine calls_of_WC (args := [.slice A_l n_l c_l]) Try.func9 rfl rfl (ble rfl) ?_
  refine WC.seq (fun K1 k1 => ?_)
  refine WC.region rfl ?_
  refine WL.box rfl (blt rfl) rfl rfl rfl rfl ?_
  intro g2 w3 e4 x5 m6
  have o_g2 := own_new xW e4
  have xW := Ext.trans xW x5
  refine WL.alloc rfl (blt rfl) rfl rfl ti26 rfl ?_
  intro g7 w8 e9 x10 m11
  have n_g2_g7 := ne_new m6 e9
  have o_g7 := own_new xW e9
  have m6 := m6.ext x10
  have xW := Ext.trans xW x10
  refine WL.nil ?_
  refine WK.then_normal (k1 _ _ ?_)
  refine WC.sub [(1, _), (2, _)] ⟨rfl, rfl, trivial⟩ ?_
  refine WC.seq (fun K12 k12 => ?_)
  refine WC.region rfl ?_
  refine WL.yld rfl (blt rfl) rfl (Y.load1 rfl Try.underlying22 rfl rfl (Blk.at_eq m6 rfl)) ?_
  refine WL.yld rfl (blt rfl) rfl (Y.lenSl rfl rfl rfl Try.underlying22 rfl) ?_
  refine WL.makeS (f := Sp.ic) (m := n_l) (0 : Int) rfl (blt rfl) rfl rfl rfl rfl Try.underlying24 ti3 rfl (fun _ => rfl) (by decide) (by omega) (by omega) (fun v13 w14 ow15 x16 => ?_)
  have r_v13_g2 := ne_res ow15 m6
  have r_v13_g7 := ne_res ow15 m11
  have ow15 := OwnL.base_le ow15 xW.size
  have m6 := m6.ext x16
  have m11 := m11.ext x16
  have xW := Ext.trans xW x16
  refine WL.yld rfl (blt rfl) rfl (Y.assign rfl rfl) ?_
  refine WL.nil ?_
  refine WK.then_normal (k12 _ _ ?_)
  refine WC.sub [(1, _), (2, _), (3, _)] ⟨rfl, rfl, rfl, trivial⟩ ?_
  refine WC.seq (fun K17 k17 => ?_)
  refine WC.seq (fun K18 k18 => ?_)
  refine WC.region rfl ?_
  refine WL.yld rfl (blt rfl) rfl (Y.load1 rfl Try.underlying22 rfl rfl (Blk.at_eq m6 rfl)) ?_
  refine WL.yld rfl (blt rfl) rfl (Y.lenSl rfl rfl rfl Try.underlying22 rfl) ?_
  refine WL.yld rfl (blt rfl) rfl (Y.move rfl rfl) ?_
  refine WL.nil ?_
  refine WK.then_normal (k18 _ _ ?_)
  refine WC.sub [(1, _), (2, _), (3, _), (10, _), (11, _)] ⟨rfl, rfl, rfl, rfl, rfl, trivial⟩ ?_
  refine WC.block ?_
  refine WC.sub [(11, _), (3, _), (1, _), (2, _), (10, _)] ⟨rfl, rfl, rfl, rfl, rfl, trivial⟩ ?_
  refine WC.loopS 2 (fun mz Ed W' => ∃ i : Nat, ∃ v : Value, mz = n_l - i ∧ Ed = [(11, .int .i64 ((i : Nat) : Int)), (3, v)] ∧ Ext w W' ∧ Blk W' g2 22 _ ∧ Blk W' g7 26 _ ∧ OwnL W' w.heap.size 3 Sp.ic 1 v (It.iota n_l i) ∧ v.ownBlock ≠ some g2 ∧ v.ownBlock ≠ some g7 ∧ (i ≤ n_l)) _ ⟨0, _, rfl, rfl, xW, m6, m11, (by rw [It.iota_zero]; exact ow15), r_v13_g2, r_v13_g7, (Nat.zero_le _)⟩ ?_
  rintro _ _ w19 ⟨i, v, rfl, rfl, xW, m6, m11, ow_v, r_v_g2, r_v_g7, le_i⟩
  refine WC.sub [(11, _), (3, _), (1, _), (2, _), (10, _)] ⟨rfl, rfl, rfl, rfl, rfl, trivial⟩ ?_
  have il := It.iota_len (show i ≤ n_l from by omega)
  refine WC.seq (fun K20 k20 => ?_)
  refine WC.region rfl ?_
  refine WL.yld rfl (blt rfl) rfl (Y.lss rfl rfl rfl) ?_
  refine WL.nil ?_
  refine WK.then_normal (k20 _ _ ?_)
  refine WC.seq (fun K21 k21 => ?_)
  refine WC.cond rfl (fun h22 => ?_) (fun h22 => ?_)
  ·
    have p22 := (dec_t h22)
    refine WC.skip ?_
    refine WK.then_normal (k21 _ _ ?_)
    refine WC.sub [(1, _), (2, _), (3, _), (10, _), (11, _)] ⟨rfl, rfl, rfl, rfl, rfl, trivial⟩ ?_
    refine WC.seq (fun K23 k23 => ?_)
    refine WC.block ?_
    refine WC.seq (fun K24 k24 => ?_)
    refine WC.region rfl ?_
    refine WL.yld rfl (blt rfl) rfl (Y.move rfl rfl) ?_
    refine WL.yld rfl (blt rfl) rfl (Y.assign rfl rfl) ?_
    refine WL.nil ?_
    refine WK.then_normal (k24 _ _ ?_)
    refine WC.sub [(1, _), (2, _), (3, _), (4, _), (10, _), (11, _)] ⟨rfl, rfl, rfl, rfl, rfl, rfl, trivial⟩ ?_
    refine WC.region rfl ?_
    refine WL.yld rfl (blt rfl) rfl (Y.move rfl rfl) ?_
    refine WL.yld rfl (blt rfl) rfl (Y.move rfl rfl) ?_
    refine WL.yld rfl (blt rfl) rfl (Y.move rfl rfl) ?_
    obtain ⟨A25, n26, c27, rfl, hl28⟩ := OwnL.opened ow_v (fun _ => rfl) (by decide)
    have e_n26 := hl28.len
    try simp only [List.length_append, List.length_cons, List.length_nil, List.length_reverse, List.length_drop, List.length_take, List.length_map, List.length_replicate] at e_n26
    have z_n26 := hl28.nle
    have b29 : i < n26 := by omega
    refine WL.yld rfl (blt rfl) rfl (Y.indexLs i hl28 rfl Try.underlying24 ti3 rfl rfl rfl b29) ?_
    refine WL.storeE (k := i) (off := 0) (f := Sp.ic) _ rfl rfl rfl rfl rfl rfl ti3 ow_v (fun _ => rfl) b29 (ble rfl) rfl rfl (fun w30 ow31 gr32 => ?_)
    have m6 := m6.grown gr32 r_v_g2
    have m11 := m11.grown gr32 r_v_g7
    have xW := Ext.grown xW gr32 (fun b hb => (OwnL.lt ow_v hb).1)
    have hl28 := OwnL.ls ow31 (fun _ => rfl) (by decide)
    refine WL.nil ?_
    refine WK.in_normal ?_
    refine WK.then_normal (k23 _ _ ?_)
    refine WC.sub [(1, _), (2, _), (3, _), (10, _), (11, _)] ⟨rfl, rfl, rfl, rfl, rfl, trivial⟩ ?_
    refine WC.region rfl ?_
    refine WL.yld rfl (blt rfl) rfl (Y.add rfl rfl rfl (wrap_i64 (by first | omega | (dsimp only; omega)))) ?_
    refine WL.yld rfl (blt rfl) rfl (Y.move rfl rfl) ?_
    refine WL.nil ?_
    refine WK.roundS _ [(11, .int .i64 (((i + 1) : Nat) : Int)), (3, (.slice A25 n26 c27))] ⟨rfl, rfl, rfl, rfl, rfl, trivial⟩ ?_ ⟨(i + 1), (.slice A25 n26 c27), rfl, rfl, xW, m6, m11, (by rw [← It.iota_set (show i < n_l from by omega)]; exact ow31), r_v_g2, r_v_g7, (by omega)⟩
    show _ - (i + 1) < _ - i; omega
  ·
    have p22 := (dec_f h22)
    rw [show i = n_l from by omega, It.iota_all] at ow_v
    refine WC.exit ?_
    refine WK.then_exit ?_
    refine WK.then_exit ?_
    refine WK.in_exit ?_
    refine WK.then_normal (k17 _ _ ?_)
    refine WC.sub [(1, _), (2, _), (3, _)] ⟨rfl, rfl, rfl, trivial⟩ ?_
    refine WC.seq (fun K33 k33 => ?_)
    refine WC.region rfl ?_
    refine WL.yld rfl (blt rfl) rfl (Y.move rfl rfl) ?_
    refine WL.yld rfl (blt rfl) rfl (Y.func rfl rfl rfl) ?_
    refine WL.call rfl (blt rfl) rfl rfl rfl has23 rfl (sortI_row _ _ _ _ _ _ _ _ _ xW h_l m6 rfl (by omega) ow_v r_v_g2) ?_
    rintro _ w34 ⟨rfl, ow36, gr37⟩
    refine ⟨_, rfl, ?_⟩
    have m6 := m6.grown gr37 r_v_g2
    have m11 := m11.grown gr37 r_v_g7
    have xW := Ext.grown xW gr37 (fun b hb => (OwnL.lt ow_v hb).1)
    refine WL.nil ?_
    refine WK.then_normal (k33 _ _ ?_)
    refine WC.sub [(1, _), (2, _), (3, _)] ⟨rfl, rfl, rfl, trivial⟩ ?_
    refine WC.seq (fun K38 k38 => ?_)
    refine WC.region rfl ?_
    refine WL.yld rfl (blt rfl) rfl (Y.move rfl rfl) ?_
    refine WL.yld rfl (blt rfl) rfl (Y.load1 rfl Try.underlying22 rfl rfl (Blk.at_eq m6 rfl)) ?_
    refine WL.yld rfl (blt rfl) rfl (Y.lenSl rfl rfl rfl Try.underlying22 rfl) ?_
    refine WL.makeS (f := Sp.ic) (m := n_l) (0 : Int) rfl (blt rfl) rfl rfl rfl rfl Try.underlying24 ti3 rfl (fun _ => rfl) (by decide) (by omega) (by omega) (fun v39 w40 ow41 x42 => ?_)
    have r_v39_g2 := ne_res ow41 m6
    have r_v39_g7 := ne_res ow41 m11
    have d_v_v39 := (Apart.res ow41 ow36).symm
    have ow41 := OwnL.base_le ow41 xW.size
    have m6 := m6.ext x42
    have m11 := m11.ext x42
    have ow36 := ow36.ext x42
    have xW := Ext.trans xW x42
    obtain ⟨A43, n44, c45, rfl, hl46⟩ := OwnL.opened ow36 (fun _ => rfl) (by decide)
    have e_n44 := hl46.len
    try simp only [List.length_append, List.length_cons, List.length_nil, List.length_reverse, List.length_drop, List.length_take, List.length_map, List.length_replicate] at e_n44
    have z_n44 := hl46.nle
    obtain ⟨A47, n48, c49, rfl, hl50⟩ := OwnL.opened ow41 (fun _ => rfl) (by decide)
    have e_n48 := hl50.len
    try simp only [List.length_append, List.length_cons, List.length_nil, List.length_reverse, List.length_drop, List.length_take, List.length_map, List.length_replicate] at e_n48
    have z_n48 := hl50.nle
    refine WL.yld rfl (blt rfl) rfl (Y.build (cells := [_, _]) rfl pl26 rfl rfl) ?_
    refine WL.alloc rfl (blt rfl) rfl rfl ti26 rfl ?_
    intro g51 w52 e53 x54 m55
    have n_g2_g51 := ne_new m6 e53
    have n_g7_g51 := ne_new m11 e53
    have r_v_g51 := ne_newO ow36 e53
    have r_v39_g51 := ne_newO ow41 e53
    have o_g51 := own_new xW e53
    have m6 := m6.ext x54
    have m11 := m11.ext x54
    have ow36 := ow36.ext x54
    have hl46 := hl46.ext x54
    have ow41 := ow41.ext x54
    have hl50 := hl50.ext x54
    have xW := Ext.trans xW x54
    refine WL.store (cs' := [_, _]) rfl rfl rfl rfl rfl rfl ti26 m55 (ble rfl) rfl rfl (fun w56 on57 m58 => ?_)
    have m6 := m6.only n_g2_g51 on57
    have m11 := m11.only n_g7_g51 on57
    have ow36 := ow36.only r_v_g51 on57
    have hl46 := OwnL.ls ow36 (fun _ => rfl) (by decide)
    have ow41 := ow41.only r_v39_g51 on57
    have hl50 := OwnL.ls ow41 (fun _ => rfl) (by decide)
    have xW := Ext.only xW on57 o_g51
    refine WL.nil ?_
    refine WK.then_normal (k38 _ _ ?_)
    refine WC.sub [(1, _), (2, _), (5, _)] ⟨rfl, rfl, rfl, trivial⟩ ?_
    refine WC.seq (fun K59 k59 => ?_)
    refine WC.region rfl ?_
    refine WL.yld rfl (blt rfl) rfl (Y.load1 rfl Try.underlying22 rfl rfl (Blk.at_eq m6 rfl)) ?_
    refine WL.yld rfl (blt rfl) rfl (Y.loadS rfl Try.underlying26 rfl ti26 rfl (Blk.row_eq m58)) ?_
    refine WL.yld rfl (blt rfl) rfl (Y.load1 rfl Try.underlying22 rfl rfl (Blk.at_eq m6 rfl)) ?_
    refine WL.yld rfl (blt rfl) rfl (Y.lenSl rfl rfl rfl Try.underlying22 rfl) ?_
    refine WL.call rfl (blt rfl) rfl rfl rfl has27 rfl (most_any _ _ _ _ _ h_l _ _ (It.ordN l n_l) _ (fun j hj => It.ordN_lt l hj) (It.ordN_len l _) (by omega) d_v_v39.symm _ 0 n_l _ _ rfl (by omega) (by omega) List.length_replicate xW ow41 ow36) ?_
    rintro _ w60 ⟨rfl, ow62, gr63⟩
    refine ⟨_, rfl, ?_⟩
    have m6 := m6.grown gr63 r_v39_g2
    have m11 := m11.grown gr63 r_v39_g7
    have ow36 := OwnL.grown ow36 gr63 d_v_v39.symm
    have hl46 := OwnL.ls ow36 (fun _ => rfl) (by decide)
    have m58 := m58.grown gr63 r_v39_g51
    have xW := Ext.grown xW gr63 (fun b hb => (OwnL.lt ow41 hb).1)
    have hl50 := OwnL.ls ow62 (fun _ => rfl) (by decide)
    refine WL.nil ?_
    refine WK.then_normal (k59 _ _ ?_)
    refine WC.sub [(2, _), (5, _)] ⟨rfl, rfl, trivial⟩ ?_
    refine WC.seq (fun K64 k64 => ?_)
    refine WC.region rfl ?_
    refine WL.yld rfl (blt rfl) rfl (Y.loadS rfl Try.underlying26 rfl ti26 rfl (Blk.row_eq m58)) ?_
    refine WL.store (cs' := [_, _]) rfl rfl rfl rfl rfl rfl ti26 m11 (ble rfl) rfl rfl (fun w65 on66 m67 => ?_)
    have ow36 := ow36.only r_v_g7 on66
    have hl46 := OwnL.ls ow36 (fun _ => rfl) (by decide)
    have m58 := m58.only n_g7_g51.symm on66
    have ow62 := ow62.only r_v39_g7 on66
    have hl50 := OwnL.ls ow62 (fun _ => rfl) (by decide)
    have xW := Ext.only xW on66 o_g7
    refine WL.nil ?_
    refine WK.then_normal (k64 _ _ ?_)
    refine WC.sub [(2, _)] ⟨rfl, trivial⟩ ?_
    refine WC.ret ?_
    clear k1 k12 k17 k18 k20 k21 k33 k38 k59 k64
    refine WK.ret [_] rfl ⟨⟨_, rfl, run_loadVar_blk Try.underlying26 rfl ti26 m67⟩, trivial⟩ ?_
    refine ⟨_, _, rfl, ?_, ?_, d_v_v39.symm, xW⟩
    · rw [e_l]; exact ow36
    · unfold It.most; rw [e_l]; exact ow62
theorem order_any (A_l : Option Addr) (n_l c_l : Nat) (l : List Sp.S) (w : World) (h_l : Ls w A_l n_l c_l Sp.S.c 2 l) (hn : n_l ≤ 10000) :
    Calls Try.prog 28 #[.slice A_l n_l c_l] w fun e w' => ∃ v, e = .returned v ∧ OwnL w' w.heap.size 3 Sp.ic 1 v (It.ord l n_l) ∧ Ext w w' := by
  have xW := Ext.refl w
  have e_l := h_l.len
  have z_l := h_l.nle
  refine calls_of_WC (args := [.slice A_l n_l c_l]) Try.func28 rfl rfl (ble rfl) ?_
  refine WC.seq (fun K1 k1 => ?_)
  refine WC.region rfl ?_
  refine WL.yld rfl (blt rfl) rfl (Y.assign rfl rfl) ?_
  refine WL.nil ?_
  refine WK.then_normal (k1 _ _ ?_)
  refine WC.sub [(0, _)] ⟨rfl, trivial⟩ ?_
  refine WC.seq (fun K2 k2 => ?_)
  refine WC.region rfl ?_
  refine WL.yld rfl (blt rfl) rfl (Y.assign rfl rfl) ?_
  refine WL.nil ?_
  refine WK.then_normal (k2 _ _ ?_)
  refine WC.seq (fun K3 k3 => ?_)
  refine WC.seq (fun K4 k4 => ?_)
  refine WC.region rfl ?_
  refine WL.yld rfl (blt rfl) rfl (Y.assign rfl rfl) ?_
  refine WL.nil ?_
  refine WK.then_normal (k4 _ _ ?_)
  refine WC.block ?_
  refine WC.sub [(4, _), (3, _), (0, _)] ⟨rfl, rfl, rfl, trivial⟩ ?_
  refine WC.loopS 2 (fun mz Ed W' => ∃ i : Nat, ∃ v : Value, mz = n_l - i ∧ Ed = [(4, .int .i64 ((i : Nat) : Int)), (3, v)] ∧ Ext w W' ∧ OwnL W' w.heap.size 3 Sp.ic 1 v (It.ord l i) ∧ (i ≤ n_l)) _ ⟨0, _, rfl, rfl, xW, (by rw [It.ord_zero]; exact OwnL.nil_), (Nat.zero_le _)⟩ ?_
  rintro _ _ w5 ⟨i, v, rfl, rfl, xW, ow_v, le_i⟩
  refine WC.sub [(4, _), (3, _), (0, _)] ⟨rfl, rfl, rfl, trivial⟩ ?_
  refine WC.seq (fun K6 k6 => ?_)
  refine WC.seq (fun K7 k7 => ?_)
  refine WC.region rfl ?_
  refine WL.yld rfl (blt rfl) rfl (Y.move rfl rfl) ?_
  refine WL.yld rfl (blt rfl) rfl (Y.move rfl rfl) ?_
  refine WL.yld rfl (blt rfl) rfl (Y.lenSl rfl rfl rfl Try.underlying22 rfl) ?_
  refine WL.yld rfl (blt rfl) rfl (Y.lss rfl rfl rfl) ?_
  refine WL.nil ?_
  refine WK.then_normal (k7 _ _ ?_)
  refine WC.sub [(0, _), (3, _), (4, _), (10, _)] ⟨rfl, rfl, rfl, rfl, trivial⟩ ?_
  refine WC.cond rfl (fun h8 => ?_) (fun h8 => ?_)
  ·
    have p8 := (dec_t h8)
    have ol := It.ord_len l i
    refine WC.skip ?_
    refine WK.then_normal (k6 _ _ ?_)
    refine WC.sub [(0, _), (3, _), (4, _)] ⟨rfl, rfl, rfl, trivial⟩ ?_
    refine WC.seq (fun K9 k9 => ?_)
    refine WC.block ?_
    refine WC.seq (fun K10 k10 => ?_)
    refine WC.region rfl ?_
    refine WL.yld rfl (blt rfl) rfl (Y.move rfl rfl) ?_
    obtain ⟨A11, n12, c13, rfl, hl14⟩ := OwnL.opened ow_v (fun _ => rfl) (by decide)
    have e_n12 := hl14.len
    try simp only [List.length_append, List.length_cons, List.length_nil, List.length_reverse, List.length_drop, List.length_take, List.length_map, List.length_replicate] at e_n12
    have z_n12 := hl14.nle
    refine WL.yld rfl (blt rfl) rfl (Y.lenSl rfl rfl rfl Try.underlying24 rfl) ?_
    refine WL.yld rfl (blt rfl) rfl (Y.assign rfl rfl) ?_
    refine WL.nil ?_
    refine WK.then_normal (k10 _ _ ?_)
    refine WC.sub [(0, _), (3, _), (4, _), (5, _)] ⟨rfl, rfl, rfl, rfl, trivial⟩ ?_
    refine WC.seq (fun K15 k15 => ?_)
    refine WC.block ?_
    refine WC.sub [(5, _), (0, _), (3, _), (4, _)] ⟨rfl, rfl, rfl, rfl, trivial⟩ ?_
    refine WC.loopS 1 (fun mz Ed W' => ∃ a : Nat, mz = 2 * a ∧ Ed = [(5, .int .i64 ((a : Nat) : Int))] ∧ Ext w W' ∧ OwnL W' w.heap.size 3 Sp.ic 1 (.slice A11 n12 c13) _ ∧ (a ≤ i) ∧ (∀ j, a ≤ j → j < i → It.bef l i (It.ordN l i)[j]! = true)) _ ⟨_, rfl, rfl, xW, ow_v, (by omega), (fun j h1 h2 => by omega)⟩ ?_
    rintro _ _ w16 ⟨a, rfl, rfl, xW, ow_v, le_a, in_a⟩
    refine WC.sub [(5, _), (0, _), (3, _), (4, _)] ⟨rfl, rfl, rfl, rfl, trivial⟩ ?_
    have hl14 := OwnL.ls ow_v (fun _ => rfl) (by decide)
    refine WC.seq (fun K17 k17 => ?_)
    refine WC.seq (fun K18 k18 => ?_)
    refine WC.region rfl ?_
    refine WL.yld rfl (blt rfl) rfl (Y.move rfl rfl) ?_
    refine WL.yld rfl (blt rfl) rfl (Y.gtr rfl rfl rfl) ?_
    refine WL.yld rfl (blt rfl) rfl (Y.move rfl rfl) ?_
    refine WL.yldG rfl (blt rfl) rfl rfl rfl (fun hb => Y.move rfl rfl) ?_
    refine WL.yldG rfl (blt rfl) rfl rfl rfl (fun hb => Y.move rfl rfl) ?_
    refine WL.yldG rfl (blt rfl) rfl rfl rfl (fun hb => Y.move rfl rfl) ?_
    refine WL.yldG rfl (blt rfl) rfl rfl rfl (fun hb => Y.move rfl rfl) ?_
    refine WL.yldG rfl (blt rfl) rfl rfl rfl (fun hb => Y.sub rfl (evg rfl hb) rfl (wrap_i64 (by have q0 := (dec_t hb); first | omega | (dsimp only; omega)))) ?_
    refine WL.yldG rfl (blt rfl) rfl rfl rfl (fun hb => Y.indexLs (a - 1) hl14 rfl Try.underlying24 ti3 (evg rfl hb) (evg rfl hb) (by have q0 := (dec_t hb); omega) (by have q0 := (dec_t hb); omega)) ?_
    refine WL.yldG rfl (blt rfl) rfl rfl rfl (fun hb => Yld.cast (Y.load1 rfl Try.underlying3 rfl (evg rfl hb) (Ls.at_eq hl14 (by have q0 := (dec_t hb); omega) rfl)) (vi (It.ord_at l (by have q0 := (dec_t hb); omega)))) ?_
    refine WL.callG rfl (blt rfl) rfl rfl rfl rfl rfl has40 (fun hb => (evs_cons (evg rfl hb) (evs_cons (evg rfl hb) (evs_cons (evg rfl hb) evs_nil)))) (fun hb => before_any _ _ _ _ _ _ _ (h_l.ext xW) (by omega) (by have q0 := (dec_t hb); first | omega | (have q := It.ordN_lt l (n := i) (j := a - 1) (by omega); omega))) (fun w19 x20 => ?_)
    have ow_v := ow_v.ext x20
    have hl14 := hl14.ext x20
    have xW := Ext.trans xW x20
    refine WL.yld rfl (blt rfl) rfl (Y.and rfl rfl rfl rfl) ?_
    refine WL.nil ?_
    refine WK.then_normal (k18 _ _ ?_)
    refine WC.sub [(0, _), (3, _), (4, _), (5, _), (26, _)] ⟨rfl, rfl, rfl, rfl, rfl, trivial⟩ ?_
    refine WC.cond rfl (fun h21 => ?_) (fun h21 => ?_)
    ·
      have p21 := (dec_t (and_t h21).1)
      refine WC.skip ?_
      refine WK.then_normal (k17 _ _ ?_)
      refine WC.sub [(0, _), (3, _), (4, _), (5, _)] ⟨rfl, rfl, rfl, rfl, trivial⟩ ?_
      refine WC.block ?_
      refine WC.region rfl ?_
      refine WL.yld rfl (blt rfl) rfl (Y.move rfl rfl) ?_
      refine WL.yld rfl (blt rfl) rfl (Yld.cast (Y.sub rfl rfl rfl (wrap_i64 (by first | omega | (dsimp only; omega)))) (vi (b := ((a - 1 : Nat) : Int)) (by omega))) ?_
      refine WL.yld rfl (blt rfl) rfl (Y.assign rfl rfl) ?_
      refine WL.nil ?_
      refine WK.in_normal ?_
      refine WK.roundS _ [(5, .int .i64 (((a - 1) : Nat) : Int))] ⟨rfl, rfl, rfl, rfl, trivial⟩ ?_ ⟨(a - 1), rfl, rfl, xW, ow_v, (by omega), (It.ins_step in_a h21)⟩
      show 2 * (a - 1) < 2 * a; omega
    ·
      have p21 := ((and_f h21).imp (fun h => (dec_f h)) (fun h => h))
      have ex := It.ins_exit h21
      refine WC.exit ?_
      refine WK.then_exit ?_
      refine WK.then_exit ?_
      refine WK.in_exit ?_
      refine WK.then_normal (k15 _ _ ?_)
      refine WC.sub [(0, _), (3, _), (4, _), (5, _)] ⟨rfl, rfl, rfl, rfl, trivial⟩ ?_
      refine WC.seq (fun K22 k22 => ?_)
      refine WC.region rfl ?_
      refine WL.bslice0 rfl (blt rfl) rfl rfl Try.underlying24 ti3 ?_
      intro g23 w24 e25 x26 m27
      have r_v_g23 := ne_newO ow_v e25
      have o_g23 := own_new xW e25
      have ow_v := ow_v.ext x26
      have hl14 := hl14.ext x26
      have xW := Ext.trans xW x26
      refine WL.yld rfl (blt rfl) rfl (Y.move rfl rfl) ?_
      refine WL.yld rfl (blt rfl) rfl (Y.move rfl rfl) ?_
      have b28 : a ≤ n12 := by omega
      refine WL.yld rfl (blt rfl) rfl (Y.sliceH a rfl Try.underlying24 ti3 rfl rfl rfl (Nat.le_trans b28 hl14.le)) ?_
      have ob29 := Blk.own (sz := 1) (f := Sp.ic) (l := ([] : List Int)) (base := w.heap.size) m27 o_g23 (fun _ => rfl) rfl (by decide) rfl
      refine WL.appendL (f := Sp.ic) rfl (blt rfl) rfl rfl rfl rfl Try.underlying24 ti3 rfl (by decide) rfl ob29 (fun _ => rfl) Sp.ic_one (hl14.take b28) xW.size (by have q0 := It.ord_len l i; have q1 := hn; have q2 := h_l.len; first | omega | (simp only [List.length_append, List.length_cons, List.length_nil, List.length_take, List.length_drop, List.length_reverse]; omega)) (Nat.le_trans (show _ ≤ 140737488355328 from by have q0 := It.ord_len l i; have q1 := hn; have q2 := h_l.len; first | omega | (simp only [List.length_append, List.length_cons, List.length_nil, List.length_take, List.length_drop, List.length_reverse]; omega)) (by decide)) (fun v30 w31 ow32 gr33 nb34 => ?_)
      have d_v_v30 := (Apart.app (Apart.blk r_v_g23) nb34 ow_v).symm
      have ow_v := OwnL.grown ow_v gr33 (Apart.blk r_v_g23)
      have hl14 := OwnL.ls ow_v (fun _ => rfl) (by decide)
      have xW := Ext.grown xW gr33 (fun b hb => (OwnL.lt ob29 hb).1)
      refine WL.yld rfl (blt rfl) rfl (Y.assign rfl rfl) ?_
      refine WL.nil ?_
      refine WK.then_normal (k22 _ _ ?_)
      refine WC.sub [(0, _), (3, _), (4, _), (5, _), (6, _)] ⟨rfl, rfl, rfl, rfl, rfl, trivial⟩ ?_
      refine WC.seq (fun K35 k35 => ?_)
      refine WC.region rfl ?_
      refine WL.yld rfl (blt rfl) rfl (Y.move rfl rfl) ?_
      refine WL.yld rfl (blt rfl) rfl (Y.move rfl rfl) ?_
      refine WL.bslice (zs := [.int .i64 0]) (cs := [_]) rfl (blt rfl) rfl rfl Try.underlying24 ti3 rfl (ble rfl) (by kernel_rfl) rfl rfl ?_
      intro g36 w37 e38 x39 m40
      have r_v_g36 := ne_newO ow_v e38
      have r_v30_g36 := ne_newO ow32 e38
      have o_g36 := own_new xW e38
      have ow_v := ow_v.ext x39
      have hl14 := hl14.ext x39
      have ow32 := ow32.ext x39
      have xW := Ext.trans xW x39
      refine WL.appendB (f := Sp.ic) (news := [((i : Nat) : Int)]) rfl (blt rfl) rfl rfl rfl rfl Try.underlying24 ti3 rfl (by decide) rfl ow32 (fun _ => rfl) Sp.ic_one m40 rfl xW.size (by have q0 := It.ord_len l i; have q1 := hn; have q2 := h_l.len; first | omega | (simp only [List.length_append, List.length_cons, List.length_nil, List.length_take, List.length_drop, List.length_reverse]; omega)) (Nat.le_trans (show _ ≤ 140737488355328 from by have q0 := It.ord_len l i; have q1 := hn; have q2 := h_l.len; first | omega | (simp only [List.length_append, List.length_cons, List.length_nil, List.length_take, List.length_drop, List.length_reverse]; omega)) (by decide)) (fun v41 w42 ow43 gr44 nb45 => ?_)
      have d_v_v41 := (Apart.app d_v_v30.symm nb45 ow_v).symm
      have ow_v := OwnL.grown ow_v gr44 d_v_v30.symm
      have hl14 := OwnL.ls ow_v (fun _ => rfl) (by decide)
      have r_v41_g36 := ne_app nb45 r_v30_g36 m40
      have m40 := m40.grown gr44 r_v30_g36
      have xW := Ext.grown xW gr44 (fun b hb => (OwnL.lt ow32 hb).1)
      refine WL.yld rfl (blt rfl) rfl (Y.assign rfl rfl) ?_
      refine WL.nil ?_
      refine WK.then_normal (k35 _ _ ?_)
      refine WC.sub [(0, _), (3, _), (4, _), (5, _), (6, _)] ⟨rfl, rfl, rfl, rfl, rfl, trivial⟩ ?_
      refine WC.region rfl ?_
      refine WL.yld rfl (blt rfl) rfl (Y.move rfl rfl) ?_
      refine WL.yld rfl (blt rfl) rfl (Y.move rfl rfl) ?_
      refine WL.yld rfl (blt rfl) rfl (Y.move rfl rfl) ?_
      have b46 : a ≤ n12 := by omega
      refine WL.yld rfl (blt rfl) rfl (Y.sliceL a rfl Try.underlying24 ti3 rfl rfl rfl b46) ?_
      refine WL.appendL (f := Sp.ic) rfl (blt rfl) rfl rfl rfl rfl Try.underlying24 ti3 rfl (by decide) rfl ow43 (fun _ => rfl) Sp.ic_one (hl14.drop b46) xW.size (by have q0 := It.ord_len l i; have q1 := hn; have q2 := h_l.len; first | omega | (simp only [List.length_append, List.length_cons, List.length_nil, List.length_take, List.length_drop, List.length_reverse]; omega)) (Nat.le_trans (show _ ≤ 140737488355328 from by have q0 := It.ord_len l i; have q1 := hn; have q2 := h_l.len; first | omega | (simp only [List.length_append, List.length_cons, List.length_nil, List.length_take, List.length_drop, List.length_reverse]; omega)) (by decide)) (fun v47 w48 ow49 gr50 nb51 => ?_)
      have d_v_v47 := (Apart.app d_v_v41.symm nb51 ow_v).symm
      have ow_v := OwnL.grown ow_v gr50 d_v_v41.symm
      have hl14 := OwnL.ls ow_v (fun _ => rfl) (by decide)
      have xW := Ext.grown xW gr50 (fun b hb => (OwnL.lt ow43 hb).1)
      refine WL.yld rfl (blt rfl) rfl (Y.assign rfl rfl) ?_
      refine WL.nil ?_
      refine WK.in_normal ?_
      refine WK.then_normal (k9 _ _ ?_)
      refine WC.sub [(0, _), (3, _), (4, _)] ⟨rfl, rfl, rfl, trivial⟩ ?_
      refine WC.region rfl ?_
      refine WL.yld rfl (blt rfl) rfl (Y.move rfl rfl) ?_
      refine WL.yld rfl (blt rfl) rfl (Y.add rfl rfl rfl (wrap_i64 (by first | omega | (dsimp only; omega)))) ?_
      refine WL.yld rfl (blt rfl) rfl (Y.assign rfl rfl) ?_
      refine WL.nil ?_
      refine WK.roundS _ [(4, .int .i64 (((i + 1) : Nat) : Int)), (3, v47)] ⟨rfl, rfl, rfl, trivial⟩ ?_ ⟨(i + 1), v47, rfl, rfl, xW, (by rw [It.ord_put le_a in_a ex]; exact ow49), (by omega)⟩
      show _ - (i + 1) < _ - i; omega
  ·
    have p8 := (dec_f h8)
    refine WC.exit ?_
    refine WK.then_exit ?_
    refine WK.then_exit ?_
    refine WK.in_exit ?_
    refine WK.then_normal (k3 _ _ ?_)
    refine WC.sub [(3, _)] ⟨rfl, trivial⟩ ?_
    refine WC.seq (fun K52 k52 => ?_)
    refine WC.region rfl ?_
    refine WL.yld rfl (blt rfl) rfl (Y.move rfl rfl) ?_
    refine WL.yld rfl (blt rfl) rfl (Y.assign rfl rfl) ?_
    refine WL.nil ?_
    refine WK.then_normal (k52 _ _ ?_)
    refine WC.sub [(2, _)] ⟨rfl, trivial⟩ ?_
    refine WC.ret ?_
    clear k1 k2 k3 k4 k6 k7 k52
    refine WK.ret [_] rfl ⟨rfl, trivial⟩ ?_
    refine ⟨_, rfl, ?_, xW⟩
    rw [show i = n_l from by omega] at ow_v
    exact ow_v
theorem rof_tree (A_l : Option Addr) (n_l c_l : Nat) (l : List Sp.S) (w : World) (h_l : Ls w A_l n_l c_l Sp.S.c 2 l) (hn : n_l ≤ 10000) :
    Calls Try.prog 10 #[.slice A_l n_l c_l] w fun e w' => ∃ v_o v_m : Value, e = .returned (.agg #[v_o, v_m]) ∧ OwnL w' w.heap.size 3 Sp.ic 1 v_o (It.ord l l.length) ∧ OwnL w' w.heap.size 3 Sp.ic 1 v_m (It.mostR l) ∧ Apart v_m v_o ∧ Ext w w' := by
  have xW := Ext.refl w
  have e_l := h_l.len
  have z_l := h_l.nle
  refine calls_of_WC (args := [.slice A_l n_l c_l]) Try.func10 rfl rfl (ble rfl) ?_
  refine WC.seq (fun K1 k1 => ?_)
  refine WC.region rfl ?_
  refine WL.alloc rfl (blt rfl) rfl rfl ti26 rfl ?_
  intro g2 w3 e4 x5 m6
  have o_g2 := own_new xW e4
  have xW := Ext.trans xW x5
  refine WL.nil ?_
  refine WK.then_normal (k1 _ _ ?_)
  refine WC.seq (fun K7 k7 => ?_)
  refine WC.cut [(0, _), (2, _)] (fun W' => Ext w W' ∧ Blk W' g2 26 _) (fun Eo W' => ∃ g10 : Nat, ∃ v11 v12 : Value, Eo = [(3, .pointer (some ⟨g10, 0, none⟩))] ∧ Blk W' g10 26 [v11, v12] ∧ OwnL W' w.heap.size 3 Sp.ic 1 v11 (It.ord l n_l) ∧ OwnL W' w.heap.size 3 Sp.ic 1 v12 (List.replicate n_l (0 : Int)) ∧ Apart v11 v12 ∧ v11.ownBlock ≠ some g10 ∧ v12.ownBlock ≠ some g10 ∧ w.heap.size ≤ g10 ∧ g2 ≠ g10 ∧ v11.ownBlock ≠ some g2 ∧ v12.ownBlock ≠ some g2) ⟨rfl, rfl, trivial⟩ ⟨xW, m6⟩ ?_ ?_
  rotate_left
  · rintro _ w13 ⟨g10, v11, v12, rfl, m_g10, ow_v11, ow_v12, d_v11_v12, r_v11_g10, r_v12_g10, o_g10, n_g2_g10, r_v11_g2, r_v12_g2⟩ ⟨xW, m6⟩
    refine WK.then_normal (k7 _ _ ?_)
    refine WC.seq (fun K14 k14 => ?_)
    refine WC.region rfl ?_
    refine WL.yld rfl (blt rfl) rfl (Y.move rfl rfl) ?_
    refine WL.yld rfl (blt rfl) rfl (Y.loadS rfl Try.underlying26 rfl ti26 rfl (Blk.row_eq m_g10)) ?_
    refine WL.yld rfl (blt rfl) rfl (Y.move rfl rfl) ?_
    refine WL.yld rfl (blt rfl) rfl (Y.lenSl rfl rfl rfl Try.underlying22 rfl) ?_
    refine WL.call rfl (blt rfl) rfl rfl rfl has29 rfl (greatest_any _ _ _ _ _ h_l _ _ (It.ordN l n_l) _ (fun j hj => It.ordN_lt l hj) (It.ordN_len l _) (by omega) d_v11_v12.symm _ 0 n_l _ _ rfl (by omega) (by omega) List.length_replicate xW ow_v12 ow_v11) ?_
    rintro _ w15 ⟨rfl, ow17, gr18⟩
    refine ⟨_, rfl, ?_⟩
    have m6 := m6.grown gr18 r_v12_g2
    have m_g10 := m_g10.grown gr18 r_v12_g10
    have ow_v11 := OwnL.grown ow_v11 gr18 d_v11_v12.symm
    have xW := Ext.grown xW gr18 (fun b hb => (OwnL.lt ow_v12 hb).1)
    refine WL.nil ?_
    refine WK.then_normal (k14 _ _ ?_)
    refine WC.sub [(2, _), (3, _)] ⟨rfl, rfl, trivial⟩ ?_
    refine WC.seq (fun K19 k19 => ?_)
    refine WC.region rfl ?_
    refine WL.yld rfl (blt rfl) rfl (Y.loadS rfl Try.underlying26 rfl ti26 rfl (Blk.row_eq m_g10)) ?_
    obtain ⟨A20, n21, c22, rfl, hl23⟩ := OwnL.opened ow_v11 (fun _ => rfl) (by decide)
    have e_n21 := hl23.len
    try simp only [List.length_append, List.length_cons, List.length_nil, List.length_reverse, List.length_drop, List.length_take, List.length_map, List.length_replicate] at e_n21
    have z_n21 := hl23.nle
    obtain ⟨A24, n25, c26, rfl, hl27⟩ := OwnL.opened ow17 (fun _ => rfl) (by decide)
    have e_n25 := hl27.len
    try simp only [List.length_append, List.length_cons, List.length_nil, List.length_reverse, List.length_drop, List.length_take, List.length_map, List.length_replicate] at e_n25
    have z_n25 := hl27.nle
    refine WL.store (cs' := [_, _]) rfl rfl rfl rfl rfl rfl ti26 m6 (ble rfl) rfl rfl (fun w28 on29 m30 => ?_)
    have m_g10 := m_g10.only n_g2_g10.symm on29
    have ow_v11 := ow_v11.only r_v11_g2 on29
    have hl23 := OwnL.ls ow_v11 (fun _ => rfl) (by decide)
    have ow17 := ow17.only r_v12_g2 on29
    have hl27 := OwnL.ls ow17 (fun _ => rfl) (by decide)
    have xW := Ext.only xW on29 o_g2
    refine WL.nil ?_
    refine WK.then_normal (k19 _ _ ?_)
    refine WC.sub [(2, _)] ⟨rfl, trivial⟩ ?_
    refine WC.ret ?_
    clear k1 k7 k14 k19
    refine WK.ret [_] rfl ⟨⟨_, rfl, run_loadVar_blk Try.underlying26 rfl ti26 m30⟩, trivial⟩ ?_
    refine ⟨_, _, rfl, ?_, ?_, d_v11_v12.symm, xW⟩
    · rw [e_l]; exact ow_v11
    · unfold It.mostR; rw [e_l]; exact ow17
  refine WC.regionX (fun W' => Ext w W' ∧ Blk W' g2 26 _) (.load 0 (.load 2 (.load 3 (.alt 1 (.alt 4 (.load 5 (.alt 6 (.alt 7 (.fin) (.none)) (.none))) (.alt 6 (.alt 4 (.load 5 (.alt 7 (.fin) (.none))) (.none)) (.none))) (.alt 4 (.alt 1 (.load 5 (.alt 6 (.alt 7 (.fin) (.none)) (.none))) (.alt 6 (.alt 1 (.load 5 (.alt 7 (.fin) (.none))) (.none)) (.none))) (.alt 6 (.alt 1 (.alt 4 (.load 5 (.alt 7 (.fin) (.none))) (.none)) (.alt 4 (.alt 1 (.load 5 (.alt 7 (.fin) (.none))) (.none)) (.none))) (.none))))))) ⟨xW, m6⟩ (by kernel_rfl) (by kernel_rfl) (fun w8 x9 => ?_)
  have m6 := m6.ext x9
  have xW := Ext.trans xW x9
  refine WX.yld rfl rfl (blt rfl) rfl (Y.move rfl rfl) ?_
  refine WX.yld rfl rfl (blt rfl) rfl (Y.move rfl rfl) ?_
  refine WX.yld rfl rfl (blt rfl) rfl (Y.lenSl rfl rfl rfl Try.underlying22 rfl) ?_
  refine WX.alt ?_ ?_
  ·
    refine WX.call rfl rfl (blt rfl) rfl rfl rfl has28 rfl ⟨xW, m6⟩ (order_any _ _ _ _ _ (h_l.ext xW) (by omega)) ?_
    rintro _ w31 ⟨v33, rfl, ow34, x32⟩
    refine ⟨_, rfl, ?_⟩
    have r_v33_g2 := ne_res ow34 m6
    have ow34 := OwnL.base_le ow34 xW.size
    have m6 := m6.ext x32
    have xW := Ext.trans xW x32
    refine WX.alt ?_ ?_
    ·
      refine WX.run rfl rfl (blt rfl) rfl ⟨xW, m6⟩ (Run.makeS (f := Sp.ic) (m := n_l) (0 : Int) rfl rfl rfl Try.underlying24 ti3 rfl (fun _ => rfl) (by decide) (by omega) (by omega)) ?_
      rintro v35 w36 ⟨ow37, x38⟩
      have r_v35_g2 := ne_res ow37 m6
      have d_v33_v35 := (Apart.res ow37 ow34).symm
      have ow37 := OwnL.base_le ow37 xW.size
      have m6 := m6.ext x38
      have ow34 := ow34.ext x38
      have xW := Ext.trans xW x38
      obtain ⟨A39, n40, c41, rfl, hl42⟩ := OwnL.opened ow34 (fun _ => rfl) (by decide)
      have e_n40 := hl42.len
      try simp only [List.length_append, List.length_cons, List.length_nil, List.length_reverse, List.length_drop, List.length_take, List.length_map, List.length_replicate] at e_n40
      have z_n40 := hl42.nle
      obtain ⟨A43, n44, c45, rfl, hl46⟩ := OwnL.opened ow37 (fun _ => rfl) (by decide)
      have e_n44 := hl46.len
      try simp only [List.length_append, List.length_cons, List.length_nil, List.length_reverse, List.length_drop, List.length_take, List.length_map, List.length_replicate] at e_n44
      have z_n44 := hl46.nle
      refine WX.yld rfl rfl (blt rfl) rfl (Y.build (cells := [_, _]) rfl pl26 rfl rfl) ?_
      refine WX.run rfl rfl (blt rfl) rfl ⟨xW, m6⟩ (Run.alloc rfl ti26 rfl) ?_
      rintro _ w48 ⟨g47, rfl, e49, x50, m51⟩
      have n_g2_g47 := ne_new m6 e49
      have r_v33_g47 := ne_newO ow34 e49
      have r_v35_g47 := ne_newO ow37 e49
      have o_g47 := own_new xW e49
      have m6 := m6.ext x50
      have ow34 := ow34.ext x50
      have hl42 := hl42.ext x50
      have ow37 := ow37.ext x50
      have hl46 := hl46.ext x50
      have xW := Ext.trans xW x50
      refine WX.storeB (cs' := [_, _]) rfl ⟨xW, m6⟩ rfl rfl rfl rfl rfl rfl ti26 m51 (ble rfl) rfl rfl (fun w52 on53 m54 => ?_)
      have m6 := m6.only n_g2_g47 on53
      have ow34 := ow34.only r_v33_g47 on53
      have hl42 := OwnL.ls ow34 (fun _ => rfl) (by decide)
      have ow37 := ow37.only r_v35_g47 on53
      have hl46 := OwnL.ls ow37 (fun _ => rfl) (by decide)
      have xW := Ext.only xW on53 o_g47
      refine WX.nil ⟨xW, m6⟩ ?_
      exact WK.cut [(3, _)] ⟨rfl, rfl, rfl, trivial⟩ ⟨_, _, _, rfl, m54, ow34, ow37, d_v33_v35, r_v33_g47, r_v35_g47, o_g47, n_g2_g47, r_v33_g2, r_v35_g2⟩ ⟨xW, m6⟩
    refine WX.run rfl rfl (blt rfl) rfl ⟨xW, m6⟩ (Run.alloc rfl ti26 rfl) ?_
    rintro _ w56 ⟨g55, rfl, e57, x58, m59⟩
    have n_g2_g55 := ne_new m6 e57
    have r_v33_g55 := ne_newO ow34 e57
    have o_g55 := own_new xW e57
    have m6 := m6.ext x58
    have ow34 := ow34.ext x58
    have xW := Ext.trans xW x58
    refine WX.run rfl rfl (blt rfl) rfl ⟨xW, m6⟩ (Run.makeS (f := Sp.ic) (m := n_l) (0 : Int) rfl rfl rfl Try.underlying24 ti3 rfl (fun _ => rfl) (by decide) (by omega) (by omega)) ?_
    rintro v60 w61 ⟨ow62, x63⟩
    have r_v60_g2 := ne_res ow62 m6
    have d_v33_v60 := (Apart.res ow62 ow34).symm
    have r_v60_g55 := ne_res ow62 m59
    have ow62 := OwnL.base_le ow62 xW.size
    have m6 := m6.ext x63
    have ow34 := ow34.ext x63
    have m59 := m59.ext x63
    have xW := Ext.trans xW x63
    obtain ⟨A64, n65, c66, rfl, hl67⟩ := OwnL.opened ow34 (fun _ => rfl) (by decide)
    have e_n65 := hl67.len
    try simp only [List.length_append, List.length_cons, List.length_nil, List.length_reverse, List.length_drop, List.length_take, List.length_map, List.length_replicate] at e_n65
    have z_n65 := hl67.nle
    obtain ⟨A68, n69, c70, rfl, hl71⟩ := OwnL.opened ow62 (fun _ => rfl) (by decide)
    have e_n69 := hl71.len
    try simp only [List.length_append, List.length_cons, List.length_nil, List.length_reverse, List.length_drop, List.length_take, List.length_map, List.length_replicate] at e_n69
    have z_n69 := hl71.nle
    refine WX.yld rfl rfl (blt rfl) rfl (Y.build (cells := [_, _]) rfl pl26 rfl rfl) ?_
    refine WX.storeB (cs' := [_, _]) rfl ⟨xW, m6⟩ rfl rfl rfl rfl rfl rfl ti26 m59 (ble rfl) rfl rfl (fun w72 on73 m74 => ?_)
    have m6 := m6.only n_g2_g55 on73
    have ow34 := ow34.only r_v33_g55 on73
    have hl67 := OwnL.ls ow34 (fun _ => rfl) (by decide)
    have ow62 := ow62.only r_v60_g55 on73
    have hl71 := OwnL.ls ow62 (fun _ => rfl) (by decide)
    have xW := Ext.only xW on73 o_g55
    refine WX.nil ⟨xW, m6⟩ ?_
    exact WK.cut [(3, _)] ⟨rfl, rfl, rfl, trivial⟩ ⟨_, _, _, rfl, m74, ow34, ow62, d_v33_v60, r_v33_g55, r_v60_g55, o_g55, n_g2_g55, r_v33_g2, r_v60_g2⟩ ⟨xW, m6⟩
  refine WX.alt ?_ ?_
  ·
    refine WX.run rfl rfl (blt rfl) rfl ⟨xW, m6⟩ (Run.makeS (f := Sp.ic) (m := n_l) (0 : Int) rfl rfl rfl Try.underlying24 ti3 rfl (fun _ => rfl) (by decide) (by omega) (by omega)) ?_
    rintro v75 w76 ⟨ow77, x78⟩
    have r_v75_g2 := ne_res ow77 m6
    have ow77 := OwnL.base_le ow77 xW.size
    have m6 := m6.ext x78
    have xW := Ext.trans xW x78
    refine WX.alt ?_ ?_
    ·
      refine WX.call rfl rfl (blt rfl) rfl rfl rfl has28 rfl ⟨xW, m6⟩ (order_any _ _ _ _ _ (h_l.ext xW) (by omega)) ?_
      rintro _ w79 ⟨v81, rfl, ow82, x80⟩
      refine ⟨_, rfl, ?_⟩
      have r_v81_g2 := ne_res ow82 m6
      have d_v75_v81 := (Apart.res ow82 ow77).symm
      have ow82 := OwnL.base_le ow82 xW.size
      have m6 := m6.ext x80
      have ow77 := ow77.ext x80
      have xW := Ext.trans xW x80
      obtain ⟨A83, n84, c85, rfl, hl86⟩ := OwnL.opened ow82 (fun _ => rfl) (by decide)
      have e_n84 := hl86.len
      try simp only [List.length_append, List.length_cons, List.length_nil, List.length_reverse, List.length_drop, List.length_take, List.length_map, List.length_replicate] at e_n84
      have z_n84 := hl86.nle
      obtain ⟨A87, n88, c89, rfl, hl90⟩ := OwnL.opened ow77 (fun _ => rfl) (by decide)
      have e_n88 := hl90.len
      try simp only [List.length_append, List.length_cons, List.length_nil, List.length_reverse, List.length_drop, List.length_take, List.length_map, List.length_replicate] at e_n88
      have z_n88 := hl90.nle
      refine WX.yld rfl rfl (blt rfl) rfl (Y.build (cells := [_, _]) rfl pl26 rfl rfl) ?_
      refine WX.run rfl rfl (blt rfl) rfl ⟨xW, m6⟩ (Run.alloc rfl ti26 rfl) ?_
      rintro _ w92 ⟨g91, rfl, e93, x94, m95⟩
      have n_g2_g91 := ne_new m6 e93
      have r_v75_g91 := ne_newO ow77 e93
      have r_v81_g91 := ne_newO ow82 e93
      have o_g91 := own_new xW e93
      have m6 := m6.ext x94
      have ow77 := ow77.ext x94
      have hl90 := hl90.ext x94
      have ow82 := ow82.ext x94
      have hl86 := hl86.ext x94
      have xW := Ext.trans xW x94
      refine WX.storeB (cs' := [_, _]) rfl ⟨xW, m6⟩ rfl rfl rfl rfl rfl rfl ti26 m95 (ble rfl) rfl rfl (fun w96 on97 m98 => ?_)
      have m6 := m6.only n_g2_g91 on97
      have ow77 := ow77.only r_v75_g91 on97
      have hl90 := OwnL.ls ow77 (fun _ => rfl) (by decide)
      have ow82 := ow82.only r_v81_g91 on97
      have hl86 := OwnL.ls ow82 (fun _ => rfl) (by decide)
      have xW := Ext.only xW on97 o_g91
      refine WX.nil ⟨xW, m6⟩ ?_
      exact WK.cut [(3, _)] ⟨rfl, rfl, rfl, trivial⟩ ⟨_, _, _, rfl, m98, ow82, ow77, d_v75_v81.symm, r_v81_g91, r_v75_g91, o_g91, n_g2_g91, r_v81_g2, r_v75_g2⟩ ⟨xW, m6⟩
    refine WX.run rfl rfl (blt rfl) rfl ⟨xW, m6⟩ (Run.alloc rfl ti26 rfl) ?_
    rintro _ w100 ⟨g99, rfl, e101, x102, m103⟩
    have n_g2_g99 := ne_new m6 e101
    have r_v75_g99 := ne_newO ow77 e101
    have o_g99 := own_new xW e101
    have m6 := m6.ext x102
    have ow77 := ow77.ext x102
    have xW := Ext.trans xW x102
    refine WX.call rfl rfl (blt rfl) rfl rfl rfl has28 rfl ⟨xW, m6⟩ (order_any _ _ _ _ _ (h_l.ext xW) (by omega)) ?_
    rintro _ w104 ⟨v106, rfl, ow107, x105⟩
    refine ⟨_, rfl, ?_⟩
    have r_v106_g2 := ne_res ow107 m6
    have d_v106_v75 := Apart.res ow107 ow77
    have r_v106_g99 := ne_res ow107 m103
    have ow107 := OwnL.base_le ow107 xW.size
    have m6 := m6.ext x105
    have ow77 := ow77.ext x105
    have m103 := m103.ext x105
    have xW := Ext.trans xW x105
    obtain ⟨A108, n109, c110, rfl, hl111⟩ := OwnL.opened ow107 (fun _ => rfl) (by decide)
    have e_n109 := hl111.len
    try simp only [List.length_append, List.length_cons, List.length_nil, List.length_reverse, List.length_drop, List.length_take, List.length_map, List.length_replicate] at e_n109
    have z_n109 := hl111.nle
    obtain ⟨A112, n113, c114, rfl, hl115⟩ := OwnL.opened ow77 (fun _ => rfl) (by decide)
    have e_n113 := hl115.len
    try simp only [List.length_append, List.length_cons, List.length_nil, List.length_reverse, List.length_drop, List.length_take, List.length_map, List.length_replicate] at e_n113
    have z_n113 := hl115.nle
    refine WX.yld rfl rfl (blt rfl) rfl (Y.build (cells := [_, _]) rfl pl26 rfl rfl) ?_
    refine WX.storeB (cs' := [_, _]) rfl ⟨xW, m6⟩ rfl rfl rfl rfl rfl rfl ti26 m103 (ble rfl) rfl rfl (fun w116 on117 m118 => ?_)
    have m6 := m6.only n_g2_g99 on117
    have ow77 := ow77.only r_v75_g99 on117
    have hl115 := OwnL.ls ow77 (fun _ => rfl) (by decide)
    have ow107 := ow107.only r_v106_g99 on117
    have hl111 := OwnL.ls ow107 (fun _ => rfl) (by decide)
    have xW := Ext.only xW on117 o_g99
    refine WX.nil ⟨xW, m6⟩ ?_
    exact WK.cut [(3, _)] ⟨rfl, rfl, rfl, trivial⟩ ⟨_, _, _, rfl, m118, ow107, ow77, d_v106_v75, r_v106_g99, r_v75_g99, o_g99, n_g2_g99, r_v106_g2, r_v75_g2⟩ ⟨xW, m6⟩
  refine WX.run rfl rfl (blt rfl) rfl ⟨xW, m6⟩ (Run.alloc rfl ti26 rfl) ?_
  rintro _ w120 ⟨g119, rfl, e121, x122, m123⟩
  have n_g2_g119 := ne_new m6 e121
  have o_g119 := own_new xW e121
  have m6 := m6.ext x122
  have xW := Ext.trans xW x122
  refine WX.alt ?_ ?_
  ·
    refine WX.call rfl rfl (blt rfl) rfl rfl rfl has28 rfl ⟨xW, m6⟩ (order_any _ _ _ _ _ (h_l.ext xW) (by omega)) ?_
    rintro _ w124 ⟨v126, rfl, ow127, x125⟩
    refine ⟨_, rfl, ?_⟩
    have r_v126_g2 := ne_res ow127 m6
    have r_v126_g119 := ne_res ow127 m123
    have ow127 := OwnL.base_le ow127 xW.size
    have m6 := m6.ext x125
    have m123 := m123.ext x125
    have xW := Ext.trans xW x125
    refine WX.run rfl rfl (blt rfl) rfl ⟨xW, m6⟩ (Run.makeS (f := Sp.ic) (m := n_l) (0 : Int) rfl rfl rfl Try.underlying24 ti3 rfl (fun _ => rfl) (by decide) (by omega) (by omega)) ?_
    rintro v128 w129 ⟨ow130, x131⟩
    have r_v128_g2 := ne_res ow130 m6
    have r_v128_g119 := ne_res ow130 m123
    have d_v126_v128 := (Apart.res ow130 ow127).symm
    have ow130 := OwnL.base_le ow130 xW.size
    have m6 := m6.ext x131
    have m123 := m123.ext x131
    have ow127 := ow127.ext x131
    have xW := Ext.trans xW x131
    obtain ⟨A132, n133, c134, rfl, hl135⟩ := OwnL.opened ow127 (fun _ => rfl) (by decide)
    have e_n133 := hl135.len
    try simp only [List.length_append, List.length_cons, List.length_nil, List.length_reverse, List.length_drop, List.length_take, List.length_map, List.length_replicate] at e_n133
    have z_n133 := hl135.nle
    obtain ⟨A136, n137, c138, rfl, hl139⟩ := OwnL.opened ow130 (fun _ => rfl) (by decide)
    have e_n137 := hl139.len
    try simp only [List.length_append, List.length_cons, List.length_nil, List.length_reverse, List.length_drop, List.length_take, List.length_map, List.length_replicate] at e_n137
    have z_n137 := hl139.nle
    refine WX.yld rfl rfl (blt rfl) rfl (Y.build (cells := [_, _]) rfl pl26 rfl rfl) ?_
    refine WX.storeB (cs' := [_, _]) rfl ⟨xW, m6⟩ rfl rfl rfl rfl rfl rfl ti26 m123 (ble rfl) rfl rfl (fun w140 on141 m142 => ?_)
    have m6 := m6.only n_g2_g119 on141
    have ow127 := ow127.only r_v126_g119 on141
    have hl135 := OwnL.ls ow127 (fun _ => rfl) (by decide)
    have ow130 := ow130.only r_v128_g119 on141
    have hl139 := OwnL.ls ow130 (fun _ => rfl) (by decide)
    have xW := Ext.only xW on141 o_g119
    refine WX.nil ⟨xW, m6⟩ ?_
    exact WK.cut [(3, _)] ⟨rfl, rfl, rfl, trivial⟩ ⟨_, _, _, rfl, m142, ow127, ow130, d_v126_v128, r_v126_g119, r_v128_g119, o_g119, n_g2_g119, r_v126_g2, r_v128_g2⟩ ⟨xW, m6⟩
  refine WX.run rfl rfl (blt rfl) rfl ⟨xW, m6⟩ (Run.makeS (f := Sp.ic) (m := n_l) (0 : Int) rfl rfl rfl Try.underlying24 ti3 rfl (fun _ => rfl) (by decide) (by omega) (by omega)) ?_
  rintro v143 w144 ⟨ow145, x146⟩
  have r_v143_g2 := ne_res ow145 m6
  have r_v143_g119 := ne_res ow145 m123
  have ow145 := OwnL.base_le ow145 xW.size
  have m6 := m6.ext x146
  have m123 := m123.ext x146
  have xW := Ext.trans xW x146
  refine WX.call rfl rfl (blt rfl) rfl rfl rfl has28 rfl ⟨xW, m6⟩ (order_any _ _ _ _ _ (h_l.ext xW) (by omega)) ?_
  rintro _ w147 ⟨v149, rfl, ow150, x148⟩
  refine ⟨_, rfl, ?_⟩
  have r_v149_g2 := ne_res ow150 m6
  have r_v149_g119 := ne_res ow150 m123
  have d_v143_v149 := (Apart.res ow150 ow145).symm
  have ow150 := OwnL.base_le ow150 xW.size
  have m6 := m6.ext x148
  have m123 := m123.ext x148
  have ow145 := ow145.ext x148
  have xW := Ext.trans xW x148
  obtain ⟨A151, n152, c153, rfl, hl154⟩ := OwnL.opened ow150 (fun _ => rfl) (by decide)
  have e_n152 := hl154.len
  try simp only [List.length_append, List.length_cons, List.length_nil, List.length_reverse, List.length_drop, List.length_take, List.length_map, List.length_replicate] at e_n152
  have z_n152 := hl154.nle
  obtain ⟨A155, n156, c157, rfl, hl158⟩ := OwnL.opened ow145 (fun _ => rfl) (by decide)
  have e_n156 := hl158.len
  try simp only [List.length_append, List.length_cons, List.length_nil, List.length_reverse, List.length_drop, List.length_take, List.length_map, List.length_replicate] at e_n156
  have z_n156 := hl158.nle
  refine WX.yld rfl rfl (blt rfl) rfl (Y.build (cells := [_, _]) rfl pl26 rfl rfl) ?_
  refine WX.storeB (cs' := [_, _]) rfl ⟨xW, m6⟩ rfl rfl rfl rfl rfl rfl ti26 m123 (ble rfl) rfl rfl (fun w159 on160 m161 => ?_)
  have m6 := m6.only n_g2_g119 on160
  have ow145 := ow145.only r_v143_g119 on160
  have hl158 := OwnL.ls ow145 (fun _ => rfl) (by decide)
  have ow150 := ow150.only r_v149_g119 on160
  have hl154 := OwnL.ls ow150 (fun _ => rfl) (by decide)
  have xW := Ext.only xW on160 o_g119
  refine WX.nil ⟨xW, m6⟩ ?_
  exact WK.cut [(3, _)] ⟨rfl, rfl, rfl, trivial⟩ ⟨_, _, _, rfl, m161, ow150, ow145, d_v143_v149.symm, r_v149_g119, r_v143_g119, o_g119, n_g2_g119, r_v149_g2, r_v143_g2⟩ ⟨xW, m6⟩
end O
end ItW

end Go.Proofs.Ytbdfhiihaemjhaa
