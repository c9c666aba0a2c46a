/- Contracts: linked domains. Conditions: what each theorem states. -/
import Derived.Test.YtaglpampidlbmaaBkRef
import Derived.Test.YtaglpampidlbmaaCkM1
namespace Go.Proofs.Ytaglpampidlbmaa
open Go Go.Eng Go.RowKit
set_option linter.unusedVariables false
set_option linter.unusedSimpArgs false
namespace CkW
namespace K
theorem ti3 : TI Try.prog 3 (.int .i64 0) 1 8 := TI.mk (by kernel_rfl)
theorem ti4 : TI Try.prog 4 (.bool false) 1 1 := TI.mk (by kernel_rfl)
theorem ti42 : TI Try.prog 42 (.agg #[.int .i64 0, .int .i64 0, .int .i64 0, .int .i64 0, .int .i64 0]) 5 40 := TI.mk (by kernel_rfl)
theorem has17 : Has Try.prog 17 := ⟨_, Try.func17, rfl, by kernel_rfl⟩
theorem has39 : Has Try.prog 39 := ⟨_, Try.func39, rfl, by kernel_rfl⟩
theorem has40 : Has Try.prog 40 := ⟨_, Try.func40, rfl, by kernel_rfl⟩
theorem eqg42 : Try.prog.eqGuardType Try.prog.depth 42 = false := by kernel_rfl
theorem eq42 (a0 : Int) (a1 : Int) (a2 : Int) (a3 : Int) (a4 : Int) (b0 : Int) (b1 : Int) (b2 : Int) (b3 : Int) (b4 : Int) (w : World) : (Op.equalIn 10000 42 (.agg #[.int .i64 a0, .int .i64 a1, .int .i64 a2, .int .i64 a3, .int .i64 a4]) (.agg #[.int .i64 b0, .int .i64 b1, .int .i64 b2, .int .i64 b3, .int .i64 b4])).run Try.prog w = .ok ((a0 == b0) && (a1 == b1) && (a2 == b2) && ((a3 == b3) && (a4 == b4))) w := by
  go_simp
  (repeat' split) <;> simp_all
theorem different_any (A_l : Option Addr) (n_l c_l : Nat) (l : List Ck.Snap) (w : World) (h_l : Ls w A_l n_l c_l Ck.Snap.c 5 l) (hn : n_l ≤ 1000) :
    Calls Try.prog 40 #[.slice A_l n_l c_l] w fun e w' => ∃ v, e = .returned v ∧ OwnL w' w.heap.size 42 Ck.Snap.c 5 v (Ck.difN l l.length) ∧ Ext w w' := by
  have xW := Ext.refl w
  have e_l := h_l.len
  have z_l := h_l.nle
  refine calls_of_WC (args := [.slice A_l n_l c_l]) Try.func40 rfl rfl (ble rfl) ?_
  refine WC.seq (fun K1 k1 => ?_)
  refine WC.region rfl ?_
  refine WL.yld rfl (blt rfl) rfl (Y.assign rfl rfl) ?_
  refine WL.nil ?_
  refine WK.then_normal (k1 _ _ ?_)
  refine WC.sub [(0, _)] ⟨rfl, trivial⟩ ?_
  refine WC.seq (fun K2 k2 => ?_)
  refine WC.region rfl ?_
  refine WL.yld rfl (blt rfl) rfl (Y.assign rfl rfl) ?_
  refine WL.nil ?_
  refine WK.then_normal (k2 _ _ ?_)
  refine WC.seq (fun K3 k3 => ?_)
  refine WC.seq (fun K4 k4 => ?_)
  refine WC.region rfl ?_
  refine WL.yld rfl (blt rfl) rfl (Y.move rfl rfl) ?_
  refine WL.yld rfl (blt rfl) rfl (Y.lenSl rfl rfl rfl Try.underlying23 rfl) ?_
  refine WL.yld rfl (blt rfl) rfl (Y.move rfl rfl) ?_
  refine WL.nil ?_
  refine WK.then_normal (k4 _ _ ?_)
  refine WC.block ?_
  refine WC.sub [(11, _), (3, _), (0, _), (9, _), (10, _)] ⟨rfl, rfl, rfl, rfl, rfl, trivial⟩ ?_
  refine WC.loopS 2 (fun mz Ed W' => ∃ i : Nat, ∃ v : Value, mz = n_l - i ∧ Ed = [(11, .int .i64 ((i : Nat) : Int)), (3, v)] ∧ Ext w W' ∧ OwnL W' w.heap.size 42 Ck.Snap.c 5 v (Ck.difN l i) ∧ (i ≤ n_l)) _ ⟨0, _, rfl, rfl, xW, OwnL.nil_, (Nat.zero_le _)⟩ ?_
  rintro _ _ w5 ⟨i, v, rfl, rfl, xW, ow_v, le_i⟩
  refine WC.sub [(11, _), (3, _), (0, _), (9, _), (10, _)] ⟨rfl, rfl, rfl, rfl, rfl, trivial⟩ ?_
  refine WC.seq (fun K6 k6 => ?_)
  refine WC.region rfl ?_
  refine WL.yld rfl (blt rfl) rfl (Y.lss rfl rfl rfl) ?_
  refine WL.nil ?_
  refine WK.then_normal (k6 _ _ ?_)
  refine WC.seq (fun K7 k7 => ?_)
  refine WC.cond rfl (fun h8 => ?_) (fun h8 => ?_)
  ·
    have p8 := (dec_t h8)
    refine WC.skip ?_
    refine WK.then_normal (k7 _ _ ?_)
    refine WC.sub [(0, _), (3, _), (9, _), (10, _), (11, _)] ⟨rfl, rfl, rfl, rfl, rfl, trivial⟩ ?_
    refine WC.seq (fun K9 k9 => ?_)
    refine WC.block ?_
    refine WC.seq (fun K10 k10 => ?_)
    refine WC.region rfl ?_
    refine WL.yld rfl (blt rfl) rfl (Y.move rfl rfl) ?_
    have b11 : i < n_l := by omega
    refine WL.yld rfl (blt rfl) rfl (Y.indexLs i (h_l.ext xW) rfl Try.underlying23 ti42 rfl rfl rfl b11) ?_
    refine WL.yld rfl (blt rfl) rfl (Y.loadS (cs := [_, _, _, _, _]) rfl Try.underlying42 rfl ti42 rfl (Ls.part_eq (h_l.ext xW) b11 rfl)) ?_
    refine WL.alloc rfl (blt rfl) rfl rfl ti42 rfl ?_
    intro g12 w13 e14 x15 m16
    have r_v_g12 := ne_newO ow_v e14
    have o_g12 := own_new xW e14
    have ow_v := ow_v.ext x15
    have xW := Ext.trans xW x15
    refine WL.yld rfl (blt rfl) rfl (Y.assign rfl rfl) ?_
    refine WL.store (cs' := [_, _, _, _, _]) rfl rfl rfl rfl rfl rfl ti42 m16 (ble rfl) rfl rfl (fun w17 on18 m19 => ?_)
    have ow_v := ow_v.only r_v_g12 on18
    have xW := Ext.only xW on18 o_g12
    refine WL.nil ?_
    refine WK.then_normal (k10 _ _ ?_)
    refine WC.sub [(0, _), (3, _), (4, _), (5, _), (9, _), (10, _), (11, _)] ⟨rfl, rfl, rfl, rfl, rfl, rfl, rfl, trivial⟩ ?_
    refine WC.seq (fun K20 k20 => ?_)
    refine WC.region rfl ?_
    refine WL.yld rfl (blt rfl) rfl (Y.assign rfl rfl) ?_
    refine WL.nil ?_
    refine WK.then_normal (k20 _ _ ?_)
    refine WC.seq (fun K21 k21 => ?_)
    refine WC.seq (fun K22 k22 => ?_)
    refine WC.region rfl ?_
    refine WL.yld rfl (blt rfl) rfl (Y.move rfl rfl) ?_
    refine WL.yld rfl (blt rfl) rfl (Y.move rfl rfl) ?_
    have b23 : i ≤ n_l := by omega
    refine WL.yld rfl (blt rfl) rfl (Y.sliceH i rfl Try.underlying23 ti42 rfl rfl rfl (Nat.le_trans b23 (h_l.ext xW).le)) ?_
    refine WL.yld rfl (blt rfl) rfl (Y.lenSl rfl rfl rfl Try.underlying23 rfl) ?_
    refine WL.yld rfl (blt rfl) rfl (Y.move rfl rfl) ?_
    refine WL.nil ?_
    refine WK.then_normal (k22 _ _ ?_)
    refine WC.sub [(0, _), (3, _), (5, _), (6, _), (9, _), (10, _), (11, _), (18, _), (19, _), (20, _)] ⟨rfl, rfl, rfl, rfl, rfl, rfl, rfl, rfl, rfl, rfl, trivial⟩ ?_
    refine WC.block ?_
    refine WC.sub [(20, _), (6, _), (0, _), (3, _), (5, _), (9, _), (10, _), (11, _), (18, _), (19, _)] ⟨rfl, rfl, rfl, rfl, rfl, rfl, rfl, rfl, rfl, rfl, trivial⟩ ?_
    refine WC.loopS 2 (fun mz Ed W' => ∃ j : Nat, ∃ b : Bool, mz = i - j ∧ Ed = [(20, .int .i64 ((j : Nat) : Int)), (6, .bool b)] ∧ Ext w W' ∧ Blk W' g12 42 _ ∧ OwnL W' w.heap.size 42 Ck.Snap.c 5 v _ ∧ (j ≤ i) ∧ (b = ((l.take i).take j).any (Ck.eqS l[i]!))) _ ⟨0, _, rfl, rfl, xW, m19, ow_v, (Nat.zero_le _), rfl⟩ ?_
    rintro _ _ w24 ⟨j, b, rfl, rfl, xW, m19, ow_v, le_j, inv_j⟩
    refine WC.sub [(20, _), (6, _), (0, _), (3, _), (5, _), (9, _), (10, _), (11, _), (18, _), (19, _)] ⟨rfl, rfl, rfl, rfl, rfl, rfl, rfl, rfl, rfl, rfl, trivial⟩ ?_
    refine WC.seq (fun K25 k25 => ?_)
    refine WC.region rfl ?_
    refine WL.yld rfl (blt rfl) rfl (Y.lss rfl rfl rfl) ?_
    refine WL.nil ?_
    refine WK.then_normal (k25 _ _ ?_)
    refine WC.seq (fun K26 k26 => ?_)
    refine WC.cond rfl (fun h27 => ?_) (fun h27 => ?_)
    ·
      have p27 := (dec_t h27)
      refine WC.skip ?_
      refine WK.then_normal (k26 _ _ ?_)
      refine WC.sub [(0, _), (3, _), (5, _), (6, _), (9, _), (10, _), (11, _), (18, _), (19, _), (20, _)] ⟨rfl, rfl, rfl, rfl, rfl, rfl, rfl, rfl, rfl, rfl, trivial⟩ ?_
      refine WC.seq (fun K28 k28 => ?_)
      refine WC.block ?_
      refine WC.seq (fun K29 k29 => ?_)
      refine WC.region rfl ?_
      have b30 : j < i := by omega
      refine WL.yld rfl (blt rfl) rfl (Y.indexLs j ((h_l.ext xW).take b23) rfl Try.underlying23 ti42 rfl rfl rfl b30) ?_
      refine WL.yld rfl (blt rfl) rfl (Y.loadS (cs := [_, _, _, _, _]) rfl Try.underlying42 rfl ti42 rfl (Ls.part_eq ((h_l.ext xW).take b23) b30 rfl)) ?_
      refine WL.alloc rfl (blt rfl) rfl rfl ti42 rfl ?_
      intro g31 w32 e33 x34 m35
      have n_g12_g31 := ne_new m19 e33
      have r_v_g31 := ne_newO ow_v e33
      have o_g31 := own_new xW e33
      have m19 := m19.ext x34
      have ow_v := ow_v.ext x34
      have xW := Ext.trans xW x34
      refine WL.store (cs' := [_, _, _, _, _]) rfl rfl rfl rfl rfl rfl ti42 m35 (ble rfl) rfl rfl (fun w36 on37 m38 => ?_)
      have m19 := m19.only n_g12_g31 on37
      have ow_v := ow_v.only r_v_g31 on37
      have xW := Ext.only xW on37 o_g31
      refine WL.nil ?_
      refine WK.then_normal (k29 _ _ ?_)
      refine WC.sub [(0, _), (3, _), (5, _), (6, _), (8, _), (9, _), (10, _), (11, _), (18, _), (19, _), (20, _)] ⟨rfl, rfl, rfl, rfl, rfl, rfl, rfl, rfl, rfl, rfl, rfl, trivial⟩ ?_
      refine WC.region rfl ?_
      refine WL.yld rfl (blt rfl) rfl (Y.move rfl rfl) ?_
      refine WL.yld rfl (blt rfl) rfl (Y.move rfl rfl) ?_
      refine WL.yldG rfl (blt rfl) rfl rfl rfl (fun hb => Y.loadS rfl Try.underlying42 rfl ti42 rfl (Blk.row_eq m19)) ?_
      refine WL.yldG rfl (blt rfl) rfl rfl rfl (fun hb => Y.loadS rfl Try.underlying42 rfl ti42 rfl (Blk.row_eq m38)) ?_
      refine WL.yldG rfl (blt rfl) rfl rfl rfl (fun hb => Y.eqlS rfl eqg42 (eq42 _ _ _ _ _ _ _ _ _ _) (evg rfl hb) (evg rfl hb)) ?_
      refine WL.yld rfl (blt rfl) rfl (Y.or rfl rfl rfl rfl) ?_
      refine WL.yld rfl (blt rfl) rfl (Y.assign rfl rfl) ?_
      refine WL.nil ?_
      refine WK.in_normal ?_
      refine WK.then_normal (k28 _ _ ?_)
      refine WC.sub [(0, _), (3, _), (5, _), (6, _), (9, _), (10, _), (11, _), (18, _), (19, _), (20, _)] ⟨rfl, rfl, rfl, rfl, rfl, rfl, rfl, rfl, rfl, rfl, trivial⟩ ?_
      refine WC.region rfl ?_
      refine WL.yld rfl (blt rfl) rfl (Y.add rfl rfl rfl (wrap_i64 (by first | omega | (dsimp only; omega)))) ?_
      refine WL.yld rfl (blt rfl) rfl (Y.move rfl rfl) ?_
      refine WL.nil ?_
      refine WK.roundS _ [(20, .int .i64 (((j + 1) : Nat) : Int)), (6, .bool _)] ⟨rfl, rfl, rfl, rfl, rfl, rfl, rfl, rfl, rfl, rfl, trivial⟩ ?_ ⟨(j + 1), _, rfl, rfl, xW, m19, ow_v, (by omega), (by rw [Ck.any_take (by rw [List.length_take]; omega), ← inv_j]; rfl)⟩
      show _ - (j + 1) < _ - j; omega
    ·
      have p27 := (dec_f h27)
      refine WC.exit ?_
      refine WK.then_exit ?_
      refine WK.then_exit ?_
      refine WK.in_exit ?_
      refine WK.then_normal (k21 _ _ ?_)
      refine WC.sub [(0, _), (3, _), (5, _), (6, _), (9, _), (10, _), (11, _)] ⟨rfl, rfl, rfl, rfl, rfl, rfl, rfl, trivial⟩ ?_
      refine WC.seq (fun K39 k39 => ?_)
      refine WC.region rfl ?_
      refine WL.yld rfl (blt rfl) rfl (Y.move rfl rfl) ?_
      refine WL.yld rfl (blt rfl) rfl (Y.not rfl rfl) ?_
      refine WL.nil ?_
      refine WK.then_normal (k39 _ _ ?_)
      refine WC.sub [(0, _), (3, _), (5, _), (9, _), (10, _), (11, _), (32, _)] ⟨rfl, rfl, rfl, rfl, rfl, rfl, rfl, trivial⟩ ?_
      refine WC.cond rfl (fun h40 => ?_) (fun h40 => ?_)
      ·
        refine WC.region rfl ?_
        refine WL.yld rfl (blt rfl) rfl (Y.move rfl rfl) ?_
        refine WL.yld rfl (blt rfl) rfl (Y.loadS rfl Try.underlying42 rfl ti42 rfl (Blk.row_eq m19)) ?_
        refine WL.bslice (zs := [.int .i64 0, .int .i64 0, .int .i64 0, .int .i64 0, .int .i64 0]) (cs := [_, _, _, _, _]) rfl (blt rfl) rfl rfl Try.underlying23 ti42 rfl (ble rfl) (by kernel_rfl) rfl rfl ?_
        intro g41 w42 e43 x44 m45
        have n_g12_g41 := ne_new m19 e43
        have r_v_g41 := ne_newO ow_v e43
        have o_g41 := own_new xW e43
        have m19 := m19.ext x44
        have ow_v := ow_v.ext x44
        have xW := Ext.trans xW x44
        refine WL.appendB (f := Ck.Snap.c) (news := [l[i]!]) rfl (blt rfl) rfl rfl rfl rfl Try.underlying23 ti42 rfl (by decide) rfl ow_v (fun _ => rfl) Ck.Snap.one m45 rfl xW.size (by have q0 := Ck.difN_len l i; first | omega | (simp only [List.length_append, List.length_cons, List.length_nil, List.length_take, List.length_drop, List.length_reverse]; omega)) (Nat.le_trans (show _ ≤ 140737488355328 from by have q0 := Ck.difN_len l i; first | omega | (simp only [List.length_append, List.length_cons, List.length_nil, List.length_take, List.length_drop, List.length_reverse]; omega)) (by decide)) (fun v46 w47 ow48 gr49 nb50 => ?_)
        have r_v46_g12 := ne_app nb50 r_v_g12 m19
        have m19 := m19.grown gr49 r_v_g12
        have r_v46_g41 := ne_app nb50 r_v_g41 m45
        have m45 := m45.grown gr49 r_v_g41
        have xW := Ext.grown xW gr49 (fun b hb => (OwnL.lt ow_v hb).1)
        refine WL.yld rfl (blt rfl) rfl (Y.assign rfl rfl) ?_
        refine WL.nil ?_
        refine WK.in_normal ?_
        refine WK.then_normal (k9 _ _ ?_)
        refine WC.sub [(0, _), (3, _), (9, _), (10, _), (11, _)] ⟨rfl, rfl, rfl, rfl, rfl, trivial⟩ ?_
        refine WC.region rfl ?_
        refine WL.yld rfl (blt rfl) rfl (Y.add rfl rfl rfl (wrap_i64 (by first | omega | (dsimp only; omega)))) ?_
        refine WL.yld rfl (blt rfl) rfl (Y.move rfl rfl) ?_
        refine WL.nil ?_
        refine WK.roundS _ [(11, .int .i64 (((i + 1) : Nat) : Int)), (3, v46)] ⟨rfl, rfl, rfl, rfl, rfl, trivial⟩ ?_ ⟨(i + 1), v46, rfl, rfl, xW, (by rw [Ck.difN_succ, Ck.dif_flag inv_j (by omega) (not_t h40)]; exact ow48), (by omega)⟩
        show _ - (i + 1) < _ - i; omega
      ·
        refine WC.skip ?_
        refine WK.in_normal ?_
        refine WK.then_normal (k9 _ _ ?_)
        refine WC.sub [(0, _), (3, _), (9, _), (10, _), (11, _)] ⟨rfl, rfl, rfl, rfl, rfl, trivial⟩ ?_
        refine WC.region rfl ?_
        refine WL.yld rfl (blt rfl) rfl (Y.add rfl rfl rfl (wrap_i64 (by first | omega | (dsimp only; omega)))) ?_
        refine WL.yld rfl (blt rfl) rfl (Y.move rfl rfl) ?_
        refine WL.nil ?_
        refine WK.roundS _ [(11, .int .i64 (((i + 1) : Nat) : Int)), (3, v)] ⟨rfl, rfl, rfl, rfl, rfl, trivial⟩ ?_ ⟨(i + 1), v, rfl, rfl, xW, (by rw [Ck.difN_succ, Ck.dif_flag inv_j (by omega) (not_f h40)]; simp only [if_true, List.append_nil]; exact ow_v), (by omega)⟩
        show _ - (i + 1) < _ - i; omega
  ·
    have p8 := (dec_f h8)
    refine WC.exit ?_
    refine WK.then_exit ?_
    refine WK.then_exit ?_
    refine WK.in_exit ?_
    refine WK.then_normal (k3 _ _ ?_)
    refine WC.sub [(3, _)] ⟨rfl, trivial⟩ ?_
    refine WC.seq (fun K51 k51 => ?_)
    refine WC.region rfl ?_
    refine WL.yld rfl (blt rfl) rfl (Y.move rfl rfl) ?_
    refine WL.yld rfl (blt rfl) rfl (Y.assign rfl rfl) ?_
    refine WL.nil ?_
    refine WK.then_normal (k51 _ _ ?_)
    refine WC.sub [(2, _)] ⟨rfl, trivial⟩ ?_
    refine WC.ret ?_
    clear k1 k2 k3 k4 k6 k7 k51
    refine WK.ret [_] rfl ⟨rfl, trivial⟩ ?_
    refine ⟨_, rfl, ?_, xW⟩
    rw [show i = l.length from by omega] at ow_v
    exact ow_v
theorem linked_any (A_d : Option Addr) (n_d c_d : Nat) (d : List Ck.Dom) (A_l : Option Addr) (n_l c_l : Nat) (l : List Ck.Snap) (id : Int) (w : World) (h_d : Ls w A_d n_d c_d Ck.Dom.c 2 d) (h_l : Ls w A_l n_l c_l Ck.Snap.c 5 l) (hn : n_l ≤ 1000) :
    Calls Try.prog 19 #[.slice A_d n_d c_d, .slice A_l n_l c_l, .int .i64 id] w fun e w' => e = .returned (.bool (Ck.linkedF d l id)) ∧ Ext w w' := by
  have xW := Ext.refl w
  have e_d := h_d.len
  have z_d := h_d.nle
  have e_l := h_l.len
  have z_l := h_l.nle
  refine calls_of_WC (args := [.slice A_d n_d c_d, .slice A_l n_l c_l, .int .i64 id]) Try.func19 rfl rfl (ble rfl) ?_
  refine WC.seq (fun K1 k1 => ?_)
  refine WC.region rfl ?_
  refine WL.yld rfl (blt rfl) rfl (Y.assign rfl rfl) ?_
  refine WL.nil ?_
  refine WK.then_normal (k1 _ _ ?_)
  refine WC.sub [(0, _), (1, _), (2, _)] ⟨rfl, rfl, rfl, trivial⟩ ?_
  refine WC.seq (fun K2 k2 => ?_)
  refine WC.seq (fun K3 k3 => ?_)
  refine WC.region rfl ?_
  refine WL.yld rfl (blt rfl) rfl (Y.move rfl rfl) ?_
  refine WL.yld rfl (blt rfl) rfl (Y.move rfl rfl) ?_
  refine WL.call rfl (blt rfl) rfl rfl rfl has17 rfl (check_any _ _ _ _ _ _ _ _ _ (h_d.ext xW) (h_l.ext xW)) ?_
  rintro _ w4 ⟨rfl, x5⟩
  refine ⟨_, rfl, ?_⟩
  have xW := Ext.trans xW x5
  refine WL.yld rfl (blt rfl) rfl (Y.neq rfl rfl rfl) ?_
  refine WL.yld rfl (blt rfl) rfl (Y.move rfl rfl) ?_
  refine WL.yldG rfl (blt rfl) rfl rfl rfl (fun hb => Y.move rfl rfl) ?_
  refine WL.yldG rfl (blt rfl) rfl rfl rfl (fun hb => Y.move rfl rfl) ?_
  refine WL.callG rfl (blt rfl) rfl rfl rfl rfl rfl has39 (fun hb => (evs_cons (evg rfl hb) (evs_cons (evg rfl hb) evs_nil))) (fun hb => index_any _ _ _ _ _ _ (h_d.ext xW)) (fun w6 x7 => ?_)
  have xW := Ext.trans xW x7
  refine WL.yldG rfl (blt rfl) rfl rfl rfl (fun hb => Y.lss rfl (evg rfl hb) rfl) ?_
  refine WL.yld rfl (blt rfl) rfl (Y.or rfl rfl rfl rfl) ?_
  refine WL.nil ?_
  refine WK.then_normal (k3 _ _ ?_)
  refine WC.sub [(0, _), (1, _), (2, _), (19, _)] ⟨rfl, rfl, rfl, rfl, trivial⟩ ?_
  refine WC.cond rfl (fun h8 => ?_) (fun h8 => ?_)
  ·
    have p8 := ((or_t h8).imp (fun h => (eq_f (not_t h))) (fun h => (dec_t h)))
    refine WC.seq (fun K9 k9 => ?_)
    refine WC.region rfl ?_
    refine WL.yld rfl (blt rfl) rfl (Y.assign rfl rfl) ?_
    refine WL.nil ?_
    refine WK.then_normal (k9 _ _ ?_)
    refine WC.sub [(6, _)] ⟨rfl, trivial⟩ ?_
    refine WC.ret ?_
    refine WK.then_ret ?_
    clear k1 k2 k3 k9
    refine WK.ret [_] rfl ⟨rfl, trivial⟩ ?_
    refine ⟨ret1 (vb ?_), xW⟩
    rw [Ck.linked_no h8]
  ·
    have p8 := (And.intro (eq_t (not_f (or_f h8).1)) (dec_f (or_f h8).2))
    refine WC.skip ?_
    refine WK.then_normal (k2 _ _ ?_)
    refine WC.sub [(0, _), (1, _), (2, _)] ⟨rfl, rfl, rfl, trivial⟩ ?_
    refine WC.seq (fun K10 k10 => ?_)
    refine WC.region rfl ?_
    refine WL.yld rfl (blt rfl) rfl (Y.move rfl rfl) ?_
    refine WL.call rfl (blt rfl) rfl rfl rfl has40 rfl (different_any _ _ _ _ _ (h_l.ext xW) (by omega)) ?_
    rintro _ w11 ⟨v13, rfl, ow14, x12⟩
    refine ⟨_, rfl, ?_⟩
    have ow14 := OwnL.base_le ow14 xW.size
    have xW := Ext.trans xW x12
    refine WL.yld rfl (blt rfl) rfl (Y.assign rfl rfl) ?_
    refine WL.nil ?_
    refine WK.then_normal (k10 _ _ ?_)
    refine WC.sub [(0, _), (1, _), (2, _)] ⟨rfl, rfl, rfl, trivial⟩ ?_
    refine WC.seq (fun K15 k15 => ?_)
    refine WC.region rfl ?_
    refine WL.makeMap rfl (blt rfl) rfl rfl ?_
    intro g16 w17 e18 x19 m20
    have r_v13_g16 := ne_newO ow14 e18
    have o_g16 := own_new xW e18
    have ow14 := ow14.ext x19
    have xW := Ext.trans xW x19
    refine WL.mapUpdate rfl rfl (.inr rfl) Try.underlying78 Try.underlying3 rfl rfl rfl m20 (fun w21 on22 m23 => ?_)
    have ow14 := ow14.only r_v13_g16 on22
    have xW := Ext.only xW on22 o_g16
    refine WL.yld rfl (blt rfl) rfl (Y.move rfl rfl) ?_
    refine WL.yld rfl (blt rfl) rfl (Y.assign rfl rfl) ?_
    refine WL.nil ?_
    refine WK.then_normal (k15 _ _ ?_)
    refine WC.sub [(0, _), (1, _), (2, _), (7, _)] ⟨rfl, rfl, rfl, rfl, trivial⟩ ?_
    refine WC.seq (fun K24 k24 => ?_)
    refine WC.seq (fun K25 k25 => ?_)
    refine WC.region rfl ?_
    refine WL.yld rfl (blt rfl) rfl (Y.move rfl rfl) ?_
    refine WL.yld rfl (blt rfl) rfl (Y.lenSl rfl rfl rfl Try.underlying22 rfl) ?_
    refine WL.yld rfl (blt rfl) rfl (Y.move rfl rfl) ?_
    refine WL.nil ?_
    refine WK.then_normal (k25 _ _ ?_)
    refine WC.sub [(1, _), (2, _), (7, _), (25, _), (26, _)] ⟨rfl, rfl, rfl, rfl, rfl, trivial⟩ ?_
    refine WC.block ?_
    refine WC.sub [(26, _), (1, _), (2, _), (7, _), (25, _)] ⟨rfl, rfl, rfl, rfl, rfl, trivial⟩ ?_
    refine WC.loopS 1 (fun mz Ed W' => ∃ r : Nat, ∃ m : List (Int × Value), mz = n_d - r ∧ Ed = [(26, .int .i64 ((r : Nat) : Int))] ∧ Ext w W' ∧ Mp W' g16 m ∧ OwnL W' w.heap.size 42 Ck.Snap.c 5 v13 _ ∧ (r ≤ n_d) ∧ (Ck.Holds m (Ck.rounds (Ck.difN l l.length) r))) _ ⟨0, _, rfl, rfl, xW, m23, ow14, (Nat.zero_le _), (Ck.holds0 _)⟩ ?_
    rintro _ _ w26 ⟨r, m, rfl, rfl, xW, m23, ow14, le_r, inv_r⟩
    refine WC.sub [(26, _), (1, _), (2, _), (7, _), (25, _)] ⟨rfl, rfl, rfl, rfl, rfl, trivial⟩ ?_
    refine WC.seq (fun K27 k27 => ?_)
    refine WC.region rfl ?_
    refine WL.yld rfl (blt rfl) rfl (Y.lss rfl rfl rfl) ?_
    refine WL.nil ?_
    refine WK.then_normal (k27 _ _ ?_)
    refine WC.seq (fun K28 k28 => ?_)
    refine WC.cond rfl (fun h29 => ?_) (fun h29 => ?_)
    ·
      have p29 := (dec_t h29)
      refine WC.skip ?_
      refine WK.then_normal (k28 _ _ ?_)
      refine WC.sub [(1, _), (2, _), (7, _), (25, _), (26, _)] ⟨rfl, rfl, rfl, rfl, rfl, trivial⟩ ?_
      refine WC.seq (fun K30 k30 => ?_)
      refine WC.block ?_
      refine WC.seq (fun K31 k31 => ?_)
      refine WC.region rfl ?_
      refine WL.yld rfl (blt rfl) rfl (Y.move rfl rfl) ?_
      obtain ⟨A32, n33, c34, rfl, hl35⟩ := OwnL.opened ow14 (fun _ => rfl) (by decide)
      have e_n33 := hl35.len
      try simp only [List.length_append, List.length_cons, List.length_nil, List.length_reverse, List.length_drop, List.length_take, List.length_map, List.length_replicate, List.length_set] at e_n33
      have z_n33 := hl35.nle
      refine WL.yld rfl (blt rfl) rfl (Y.lenSl rfl rfl rfl Try.underlying23 rfl) ?_
      refine WL.yld rfl (blt rfl) rfl (Y.move rfl rfl) ?_
      refine WL.nil ?_
      refine WK.then_normal (k31 _ _ ?_)
      refine WC.block ?_
      refine WC.sub [(30, _), (1, _), (2, _), (7, _), (25, _), (26, _), (28, _), (29, _)] ⟨rfl, rfl, rfl, rfl, rfl, rfl, rfl, rfl, trivial⟩ ?_
      refine WC.loopS 1 (fun mz Ed W' => ∃ k : Nat, ∃ mm : List (Int × Value), mz = n33 - k ∧ Ed = [(30, .int .i64 ((k : Nat) : Int))] ∧ Ext w W' ∧ Mp W' g16 mm ∧ OwnL W' w.heap.size 42 Ck.Snap.c 5 (.slice A32 n33 c34) _ ∧ (k ≤ n33) ∧ (Ck.Holds mm (((Ck.difN l l.length).take k).foldl Ck.step (Ck.rounds (Ck.difN l l.length) r)))) _ ⟨0, _, rfl, rfl, xW, m23, ow14, (Nat.zero_le _), inv_r⟩ ?_
      rintro _ _ w36 ⟨k, mm, rfl, rfl, xW, m23, ow14, le_k, inv_k⟩
      refine WC.sub [(30, _), (1, _), (2, _), (7, _), (25, _), (26, _), (28, _), (29, _)] ⟨rfl, rfl, rfl, rfl, rfl, rfl, rfl, rfl, trivial⟩ ?_
      have hl35 := OwnL.ls ow14 (fun _ => rfl) (by decide)
      refine WC.seq (fun K37 k37 => ?_)
      refine WC.region rfl ?_
      refine WL.yld rfl (blt rfl) rfl (Y.lss rfl rfl rfl) ?_
      refine WL.nil ?_
      refine WK.then_normal (k37 _ _ ?_)
      refine WC.seq (fun K38 k38 => ?_)
      refine WC.cond rfl (fun h39 => ?_) (fun h39 => ?_)
      ·
        have p39 := (dec_t h39)
        refine WC.skip ?_
        refine WK.then_normal (k38 _ _ ?_)
        refine WC.sub [(1, _), (2, _), (7, _), (25, _), (26, _), (28, _), (29, _), (30, _)] ⟨rfl, rfl, rfl, rfl, rfl, rfl, rfl, rfl, trivial⟩ ?_
        refine WC.seq (fun K40 k40 => ?_)
        refine WC.block ?_
        refine WC.seq (fun K41 k41 => ?_)
        refine WC.region rfl ?_
        have b42 : k < n33 := by omega
        refine WL.yld rfl (blt rfl) rfl (Y.indexLs k hl35 rfl Try.underlying23 ti42 rfl rfl rfl b42) ?_
        refine WL.yld rfl (blt rfl) rfl (Y.loadS (cs := [_, _, _, _, _]) rfl Try.underlying42 rfl ti42 rfl (Ls.part_eq hl35 b42 rfl)) ?_
        refine WL.alloc rfl (blt rfl) rfl rfl ti42 rfl ?_
        intro g43 w44 e45 x46 m47
        have n_g16_g43 := ne_newM m23 e45
        have r_v13_g43 := ne_newO ow14 e45
        have o_g43 := own_new xW e45
        have m23 := m23.ext x46
        have ow14 := ow14.ext x46
        have hl35 := hl35.ext x46
        have xW := Ext.trans xW x46
        refine WL.store (cs' := [_, _, _, _, _]) rfl rfl rfl rfl rfl rfl ti42 m47 (ble rfl) rfl rfl (fun w48 on49 m50 => ?_)
        have m23 := m23.only n_g16_g43 on49
        have ow14 := ow14.only r_v13_g43 on49
        have hl35 := OwnL.ls ow14 (fun _ => rfl) (by decide)
        have xW := Ext.only xW on49 o_g43
        refine WL.nil ?_
        refine WK.then_normal (k41 _ _ ?_)
        refine WC.sub [(1, _), (2, _), (7, _), (9, _), (25, _), (26, _), (28, _), (29, _), (30, _)] ⟨rfl, rfl, rfl, rfl, rfl, rfl, rfl, rfl, rfl, trivial⟩ ?_
        refine WC.seq (fun K51 k51 => ?_)
        refine WC.region rfl ?_
        refine WL.yld rfl (blt rfl) rfl (Y.move rfl rfl) ?_
        refine WL.yld rfl (blt rfl) rfl (Y.fieldAddr rfl Try.underlying42 rfl ti3 (by decide) rfl) ?_
        refine WL.yld rfl (blt rfl) rfl (Y.load1 rfl Try.underlying3 rfl rfl (Blk.at_eq m50 rfl)) ?_
        refine WL.yld rfl (blt rfl) rfl (Yld.cast (Y.lookup rfl Try.underlying78 Try.underlying3 ti4 rfl rfl (fun _ h => h ▸ m23)) (inv_k _)) ?_
        refine WL.yld rfl (blt rfl) rfl (Y.move rfl rfl) ?_
        refine WL.yldG rfl (blt rfl) rfl rfl rfl (fun hb => Y.move rfl rfl) ?_
        refine WL.yldG rfl (blt rfl) rfl rfl rfl (fun hb => Y.fieldAddr rfl Try.underlying42 rfl ti3 (by decide) rfl) ?_
        refine WL.yldG rfl (blt rfl) rfl rfl rfl (fun hb => Y.load1 rfl Try.underlying3 rfl (evg rfl hb) (Blk.at_eq m50 rfl)) ?_
        refine WL.yldG rfl (blt rfl) rfl rfl rfl (fun hb => Yld.cast (Y.lookup rfl Try.underlying78 Try.underlying3 ti4 (evg rfl hb) (evg rfl hb) (fun _ h => h ▸ m23)) (inv_k _)) ?_
        refine WL.yld rfl (blt rfl) rfl (Y.or rfl rfl rfl rfl) ?_
        refine WL.nil ?_
        refine WK.then_normal (k51 _ _ ?_)
        refine WC.sub [(1, _), (2, _), (7, _), (9, _), (25, _), (26, _), (28, _), (29, _), (30, _), (43, _)] ⟨rfl, rfl, rfl, rfl, rfl, rfl, rfl, rfl, rfl, rfl, trivial⟩ ?_
        refine WC.cond rfl (fun h52 => ?_) (fun h52 => ?_)
        ·
          refine WC.regionX (fun W' => Ext w W' ∧ Ls W' A32 n33 c34 Ck.Snap.c 5 _ ∧ Blk W' g43 42 _) (.load 0 (.load 1 (.load 2 (.load 3 (.load 4 (.load 5 (.alt 6 (.alt 7 (.fin) (.none)) (.none)))))))) ⟨xW, hl35, m50⟩ (by kernel_rfl) (by kernel_rfl) (fun w53 x54 => ?_)
          have m23 := m23.ext x54
          have ow14 := ow14.ext x54
          have hl35 := hl35.ext x54
          have m50 := m50.ext x54
          have xW := Ext.trans xW x54
          refine WX.yld rfl rfl (blt rfl) rfl (Y.move rfl rfl) ?_
          refine WX.yld rfl rfl (blt rfl) rfl (Y.fieldAddr rfl Try.underlying42 rfl ti3 (by decide) rfl) ?_
          refine WX.yld rfl rfl (blt rfl) rfl (Y.load1 rfl Try.underlying3 rfl rfl (Blk.at_c (fun _ h => h.2.2) rfl)) ?_
          refine WX.yld rfl rfl (blt rfl) rfl (Y.move rfl rfl) ?_
          refine WX.yld rfl rfl (blt rfl) rfl (Y.fieldAddr rfl Try.underlying42 rfl ti3 (by decide) rfl) ?_
          refine WX.yld rfl rfl (blt rfl) rfl (Y.load1 rfl Try.underlying3 rfl rfl (Blk.at_c (fun _ h => h.2.2) rfl)) ?_
          refine WX.mapUpdate rfl rfl rfl (.inl rfl) Try.underlying78 Try.underlying3 rfl rfl rfl m23 ⟨xW, hl35, m50⟩ (fun w55 on56 m57 => ?_)
          have ow14 := ow14.only r_v13_g16 on56
          have hl35 := OwnL.ls ow14 (fun _ => rfl) (by decide)
          have m50 := m50.only n_g16_g43.symm on56
          have xW := Ext.only xW on56 o_g16
          refine WX.mapUpdate rfl rfl rfl (.inl rfl) Try.underlying78 Try.underlying3 rfl rfl rfl m57 ⟨xW, hl35, m50⟩ (fun w58 on59 m60 => ?_)
          have ow14 := ow14.only r_v13_g16 on59
          have hl35 := OwnL.ls ow14 (fun _ => rfl) (by decide)
          have m50 := m50.only n_g16_g43.symm on59
          have xW := Ext.only xW on59 o_g16
          refine WX.nil ⟨xW, hl35, m50⟩ ?_
          refine WK.in_normal ?_
          refine WK.then_normal (k40 _ _ ?_)
          refine WC.sub [(1, _), (2, _), (7, _), (25, _), (26, _), (28, _), (29, _), (30, _)] ⟨rfl, rfl, rfl, rfl, rfl, rfl, rfl, rfl, trivial⟩ ?_
          refine WC.region rfl ?_
          refine WL.yld rfl (blt rfl) rfl (Y.add rfl rfl rfl (wrap_i64 (by first | omega | (dsimp only; omega)))) ?_
          refine WL.yld rfl (blt rfl) rfl (Y.move rfl rfl) ?_
          refine WL.nil ?_
          refine WK.roundS _ [(30, .int .i64 (((k + 1) : Nat) : Int))] ⟨rfl, rfl, rfl, rfl, rfl, rfl, rfl, rfl, trivial⟩ ?_ ⟨(k + 1), _, rfl, rfl, xW, m60, ow14, (by omega), (Ck.holds_take (by omega) (Ck.holds_step inv_k _ h52))⟩
          show _ - (k + 1) < _ - k; omega
        ·
          refine WC.skip ?_
          refine WK.in_normal ?_
          refine WK.then_normal (k40 _ _ ?_)
          refine WC.sub [(1, _), (2, _), (7, _), (25, _), (26, _), (28, _), (29, _), (30, _)] ⟨rfl, rfl, rfl, rfl, rfl, rfl, rfl, rfl, trivial⟩ ?_
          refine WC.region rfl ?_
          refine WL.yld rfl (blt rfl) rfl (Y.add rfl rfl rfl (wrap_i64 (by first | omega | (dsimp only; omega)))) ?_
          refine WL.yld rfl (blt rfl) rfl (Y.move rfl rfl) ?_
          refine WL.nil ?_
          refine WK.roundS _ [(30, .int .i64 (((k + 1) : Nat) : Int))] ⟨rfl, rfl, rfl, rfl, rfl, rfl, rfl, rfl, trivial⟩ ?_ ⟨(k + 1), _, rfl, rfl, xW, m23, ow14, (by omega), (Ck.holds_take (by omega) (Ck.holds_skip inv_k _ h52))⟩
          show _ - (k + 1) < _ - k; omega
      ·
        have p39 := (dec_f h39)
        refine WC.exit ?_
        refine WK.then_exit ?_
        refine WK.then_exit ?_
        refine WK.in_exit ?_
        refine WK.in_normal ?_
        refine WK.then_normal (k30 _ _ ?_)
        refine WC.sub [(1, _), (2, _), (7, _), (25, _), (26, _)] ⟨rfl, rfl, rfl, rfl, rfl, trivial⟩ ?_
        refine WC.region rfl ?_
        refine WL.yld rfl (blt rfl) rfl (Y.add rfl rfl rfl (wrap_i64 (by first | omega | (dsimp only; omega)))) ?_
        refine WL.yld rfl (blt rfl) rfl (Y.move rfl rfl) ?_
        refine WL.nil ?_
        refine WK.roundS _ [(26, .int .i64 (((r + 1) : Nat) : Int))] ⟨rfl, rfl, rfl, rfl, rfl, trivial⟩ ?_ ⟨(r + 1), _, rfl, rfl, xW, m23, ow14, (by omega), (Ck.holds_all (by omega) inv_k)⟩
        show _ - (r + 1) < _ - r; omega
    ·
      have p29 := (dec_f h29)
      refine WC.exit ?_
      refine WK.then_exit ?_
      refine WK.then_exit ?_
      refine WK.in_exit ?_
      refine WK.then_normal (k24 _ _ ?_)
      refine WC.sub [(2, _), (7, _)] ⟨rfl, rfl, trivial⟩ ?_
      refine WC.seq (fun K61 k61 => ?_)
      refine WC.region rfl ?_
      refine WL.yld rfl (blt rfl) rfl (Y.move rfl rfl) ?_
      refine WL.yld rfl (blt rfl) rfl (Y.move rfl rfl) ?_
      refine WL.yld rfl (blt rfl) rfl (Yld.cast (Y.lookup rfl Try.underlying78 Try.underlying3 ti4 rfl rfl (fun _ h => h ▸ m23)) (inv_r _)) ?_
      refine WL.yld rfl (blt rfl) rfl (Y.assign rfl rfl) ?_
      refine WL.nil ?_
      refine WK.then_normal (k61 _ _ ?_)
      refine WC.sub [(6, _)] ⟨rfl, trivial⟩ ?_
      refine WC.ret ?_
      clear k1 k2 k3 k10 k15 k24 k25 k27 k28 k61
      refine WK.ret [_] rfl ⟨rfl, trivial⟩ ?_
      refine ⟨ret1 (vb ?_), xW⟩
      rw [Ck.linked_yes h8, show r = d.length from by omega]
end K
end CkW

end Go.Proofs.Ytaglpampidlbmaa
