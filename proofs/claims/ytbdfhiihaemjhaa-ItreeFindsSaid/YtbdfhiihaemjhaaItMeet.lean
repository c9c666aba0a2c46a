/- Contracts: times in common. Conditions: what each theorem states. -/
import Derived.Test.YtbdfhiihaemjhaaItRun
import Derived.Test.YtbdfhiihaemjhaaItMSort
namespace Go.Proofs.Ytbdfhiihaemjhaa
open Go Go.Eng Go.RowKit
set_option linter.unusedVariables false
namespace ItW
open M O Vi X R
namespace K
theorem ti3 : TI Try.prog 3 (.int .i64 0) 1 8 := TI.mk (by kernel_rfl)
theorem ti22 : TI Try.prog 22 (.slice none 0 0) 1 24 := TI.mk (by kernel_rfl)
theorem ti32 : TI Try.prog 32 (.agg #[.int .i64 0, .int .i64 0]) 2 16 := TI.mk (by kernel_rfl)
theorem has35 : Has Try.prog 35 := ⟨_, Try.func35, rfl, by kernel_rfl⟩
theorem has36 : Has Try.prog 36 := ⟨_, Try.func36, rfl, by kernel_rfl⟩
theorem has42 : Has Try.prog 42 := ⟨_, Try.func42, rfl, by kernel_rfl⟩
theorem has43 : Has Try.prog 43 := ⟨_, Try.func43, rfl, by kernel_rfl⟩
theorem has44 : Has Try.prog 44 := ⟨_, Try.func44, rfl, by kernel_rfl⟩
theorem has45 : Has Try.prog 45 := ⟨_, Try.func45, rfl, by kernel_rfl⟩
theorem has56 : Has Try.prog 56 := ⟨_, Try.func56, rfl, by kernel_rfl⟩
theorem has58 : Has Try.prog 58 := ⟨_, Try.func58, rfl, by kernel_rfl⟩
theorem has60 : Has Try.prog 60 := ⟨_, Try.func60, rfl, by kernel_rfl⟩
theorem pl32 : PL Try.prog 32 [.int .i64 0, .int .i64 0] [(0, 1), (1, 1)] := PL.mk (zero := [.int .i64 0, .int .i64 0]) ti32 Try.underlying32 (by kernel_rfl)
theorem normal_any (A_l : Option Addr) (n_l c_l : Nat) (l : List Sp.S) (w : World) (h_l : Ls w A_l n_l c_l Sp.S.c 2 l) (hn : n_l ≤ 100000) :
    Calls Try.prog 43 #[.slice A_l n_l c_l] w fun e w' => ∃ v, e = .returned v ∧ OwnL w' w.heap.size 32 Sp.S.c 2 v (Sp.norm l) ∧ Ext w w' := by
  have xW := Ext.refl w
  have e_l := h_l.len
  have z_l := h_l.nle
  refine calls_of_WC (args := [.slice A_l n_l c_l]) Try.func43 rfl rfl (ble rfl) ?_
  refine WC.seq (fun K1 k1 => ?_)
  refine WC.region rfl ?_
  refine WL.yld rfl (blt rfl) rfl (Y.assign rfl rfl) ?_
  refine WL.nil ?_
  refine WK.then_normal (k1 _ _ ?_)
  refine WC.sub [(0, _)] ⟨rfl, trivial⟩ ?_
  refine WC.seq (fun K2 k2 => ?_)
  refine WC.region rfl ?_
  refine WL.yld rfl (blt rfl) rfl (Y.assign rfl rfl) ?_
  refine WL.yld rfl (blt rfl) rfl (Y.assign rfl rfl) ?_
  refine WL.nil ?_
  refine WK.then_normal (k2 _ _ ?_)
  refine WC.seq (fun K3 k3 => ?_)
  refine WC.seq (fun K4 k4 => ?_)
  refine WC.region rfl ?_
  refine WL.yld rfl (blt rfl) rfl (Y.move rfl rfl) ?_
  refine WL.yld rfl (blt rfl) rfl (Y.lenSl rfl rfl rfl Try.underlying22 rfl) ?_
  refine WL.yld rfl (blt rfl) rfl (Y.move rfl rfl) ?_
  refine WL.nil ?_
  refine WK.then_normal (k4 _ _ ?_)
  refine WC.sub [(3, _), (4, _), (10, _), (11, _), (12, _)] ⟨rfl, rfl, rfl, rfl, rfl, trivial⟩ ?_
  refine WC.block ?_
  refine WC.sub [(12, _), (3, _), (4, _), (10, _), (11, _)] ⟨rfl, rfl, rfl, rfl, rfl, trivial⟩ ?_
  refine WC.loopS 2 (fun mz Ed W' => ∃ i : Nat, ∃ v : Value, mz = n_l - i ∧ Ed = [(12, .int .i64 ((i : Nat) : Int)), (3, v)] ∧ Ext w W' ∧ OwnL W' w.heap.size 32 Sp.S.c 2 v ((l.take i).filter Sp.ok) ∧ (i ≤ n_l)) _ ⟨0, _, rfl, rfl, xW, OwnL.nil_, (Nat.zero_le _)⟩ ?_
  rintro _ _ w5 ⟨i, v, rfl, rfl, xW, ow_v, le_i⟩
  refine WC.sub [(12, _), (3, _), (4, _), (10, _), (11, _)] ⟨rfl, rfl, rfl, rfl, rfl, trivial⟩ ?_
  refine WC.seq (fun K6 k6 => ?_)
  refine WC.region rfl ?_
  refine WL.yld rfl (blt rfl) rfl (Y.lss rfl rfl rfl) ?_
  refine WL.nil ?_
  refine WK.then_normal (k6 _ _ ?_)
  refine WC.seq (fun K7 k7 => ?_)
  refine WC.cond rfl (fun h8 => ?_) (fun h8 => ?_)
  ·
    have p8 := (dec_t h8)
    refine WC.skip ?_
    refine WK.then_normal (k7 _ _ ?_)
    refine WC.sub [(3, _), (4, _), (10, _), (11, _), (12, _)] ⟨rfl, rfl, rfl, rfl, rfl, trivial⟩ ?_
    refine WC.seq (fun K9 k9 => ?_)
    refine WC.block ?_
    refine WC.seq (fun K10 k10 => ?_)
    refine WC.region rfl ?_
    have b11 : i < n_l := by omega
    refine WL.yld rfl (blt rfl) rfl (Y.indexLs i (h_l.ext xW) rfl Try.underlying22 ti32 rfl rfl rfl b11) ?_
    refine WL.yld rfl (blt rfl) rfl (Y.loadS (cs := [_, _]) rfl Try.underlying32 rfl ti32 rfl (Ls.part_eq (h_l.ext xW) b11 rfl)) ?_
    refine WL.alloc rfl (blt rfl) rfl rfl ti32 rfl ?_
    intro g12 w13 e14 x15 m16
    have r_v_g12 := ne_newO ow_v e14
    have o_g12 := own_new xW e14
    have ow_v := ow_v.ext x15
    have xW := Ext.trans xW x15
    refine WL.store (cs' := [_, _]) rfl rfl rfl rfl rfl rfl ti32 m16 (ble rfl) rfl rfl (fun w17 on18 m19 => ?_)
    have ow_v := ow_v.only r_v_g12 on18
    have xW := Ext.only xW on18 o_g12
    refine WL.nil ?_
    refine WK.then_normal (k10 _ _ ?_)
    refine WC.sub [(3, _), (4, _), (6, _), (10, _), (11, _), (12, _)] ⟨rfl, rfl, rfl, rfl, rfl, rfl, trivial⟩ ?_
    refine WC.seq (fun K20 k20 => ?_)
    refine WC.region rfl ?_
    refine WL.yld rfl (blt rfl) rfl (Y.loadS rfl Try.underlying32 rfl ti32 rfl (Blk.row_eq m19)) ?_
    refine WL.call rfl (blt rfl) rfl rfl rfl has56 rfl (valid_any _ _ ) ?_
    rintro _ w21 ⟨rfl, x22⟩
    refine ⟨_, rfl, ?_⟩
    have ow_v := ow_v.ext x22
    have m19 := m19.ext x22
    have xW := Ext.trans xW x22
    refine WL.nil ?_
    refine WK.then_normal (k20 _ _ ?_)
    refine WC.sub [(3, _), (4, _), (6, _), (10, _), (11, _), (12, _), (17, _)] ⟨rfl, rfl, rfl, rfl, rfl, rfl, rfl, trivial⟩ ?_
    refine WC.cond rfl (fun h23 => ?_) (fun h23 => ?_)
    ·
      refine WC.region rfl ?_
      refine WL.yld rfl (blt rfl) rfl (Y.move rfl rfl) ?_
      refine WL.yld rfl (blt rfl) rfl (Y.loadS rfl Try.underlying32 rfl ti32 rfl (Blk.row_eq m19)) ?_
      refine WL.bslice (zs := [.int .i64 0, .int .i64 0]) (cs := [_, _]) rfl (blt rfl) rfl rfl Try.underlying22 ti32 rfl (ble rfl) (by kernel_rfl) rfl rfl ?_
      intro g24 w25 e26 x27 m28
      have r_v_g24 := ne_newO ow_v e26
      have n_g12_g24 := ne_new m19 e26
      have o_g24 := own_new xW e26
      have ow_v := ow_v.ext x27
      have m19 := m19.ext x27
      have xW := Ext.trans xW x27
      refine WL.appendB (f := Sp.S.c) (news := [l[i]!]) rfl (blt rfl) rfl rfl rfl rfl Try.underlying22 ti32 rfl (by decide) rfl ow_v (fun _ => rfl) Sp.S.one m28 rfl xW.size (by have q0 := Sp.filter_len l i; first | omega | (simp only [List.length_append, List.length_cons, List.length_nil, List.length_take, List.length_drop, List.length_reverse]; omega)) (Nat.le_trans (show _ ≤ 140737488355328 from by have q0 := Sp.filter_len l i; first | omega | (simp only [List.length_append, List.length_cons, List.length_nil, List.length_take, List.length_drop, List.length_reverse]; omega)) (by decide)) (fun v29 w30 ow31 gr32 nb33 => ?_)
      have r_v29_g12 := ne_app nb33 r_v_g12 m19
      have m19 := m19.grown gr32 r_v_g12
      have r_v29_g24 := ne_app nb33 r_v_g24 m28
      have m28 := m28.grown gr32 r_v_g24
      have xW := Ext.grown xW gr32 (fun b hb => (OwnL.lt ow_v hb).1)
      refine WL.yld rfl (blt rfl) rfl (Y.assign rfl rfl) ?_
      refine WL.nil ?_
      refine WK.in_normal ?_
      refine WK.then_normal (k9 _ _ ?_)
      refine WC.sub [(3, _), (4, _), (10, _), (11, _), (12, _)] ⟨rfl, rfl, rfl, rfl, rfl, trivial⟩ ?_
      refine WC.region rfl ?_
      refine WL.yld rfl (blt rfl) rfl (Y.add rfl rfl rfl (wrap_i64 (by first | omega | (dsimp only; omega)))) ?_
      refine WL.yld rfl (blt rfl) rfl (Y.move rfl rfl) ?_
      refine WL.nil ?_
      refine WK.roundS _ [(12, .int .i64 (((i + 1) : Nat) : Int)), (3, v29)] ⟨rfl, rfl, rfl, rfl, rfl, trivial⟩ ?_ ⟨(i + 1), v29, rfl, rfl, xW, (by rw [Sp.filter_take l (show i < l.length from by omega), if_pos h23]; exact ow31), (by omega)⟩
      show _ - (i + 1) < _ - i; omega
    ·
      refine WC.skip ?_
      refine WK.in_normal ?_
      refine WK.then_normal (k9 _ _ ?_)
      refine WC.sub [(3, _), (4, _), (10, _), (11, _), (12, _)] ⟨rfl, rfl, rfl, rfl, rfl, trivial⟩ ?_
      refine WC.region rfl ?_
      refine WL.yld rfl (blt rfl) rfl (Y.add rfl rfl rfl (wrap_i64 (by first | omega | (dsimp only; omega)))) ?_
      refine WL.yld rfl (blt rfl) rfl (Y.move rfl rfl) ?_
      refine WL.nil ?_
      refine WK.roundS _ [(12, .int .i64 (((i + 1) : Nat) : Int)), (3, v)] ⟨rfl, rfl, rfl, rfl, rfl, trivial⟩ ?_ ⟨(i + 1), v, rfl, rfl, xW, (by rw [Sp.filter_take l (show i < l.length from by omega), if_neg (by rw [h23]; exact Bool.false_ne_true), List.append_nil]; exact ow_v), (by omega)⟩
      show _ - (i + 1) < _ - i; omega
  ·
    have p8 := (dec_f h8)
    rw [List.take_of_length_le (show l.length ≤ i from by omega)] at ow_v
    have fl := List.length_filter_le Sp.ok l
    have sl := Sp.srtS_len (l.filter Sp.ok)
    refine WC.exit ?_
    refine WK.then_exit ?_
    refine WK.then_exit ?_
    refine WK.in_exit ?_
    refine WK.then_normal (k3 _ _ ?_)
    refine WC.sub [(3, _), (4, _)] ⟨rfl, rfl, trivial⟩ ?_
    refine WC.seq (fun K34 k34 => ?_)
    refine WC.region rfl ?_
    refine WL.yld rfl (blt rfl) rfl (Y.move rfl rfl) ?_
    refine WL.call rfl (blt rfl) rfl rfl rfl has58 rfl (sortS_row _ _ _ _ ow_v (by have q := Sp.filter_len l i; omega)) ?_
    rintro _ w35 ⟨rfl, ow37, gr38⟩
    refine ⟨_, rfl, ?_⟩
    have xW := Ext.grown xW gr38 (fun b hb => (OwnL.lt ow_v hb).1)
    refine WL.nil ?_
    refine WK.then_normal (k34 _ _ ?_)
    refine WC.sub [(3, _), (4, _)] ⟨rfl, rfl, trivial⟩ ?_
    refine WC.seq (fun K39 k39 => ?_)
    refine WC.seq (fun K40 k40 => ?_)
    refine WC.region rfl ?_
    refine WL.yld rfl (blt rfl) rfl (Y.move rfl rfl) ?_
    obtain ⟨A41, n42, c43, rfl, hl44⟩ := OwnL.opened ow37 (fun _ => rfl) (by decide)
    have e_n42 := hl44.len
    try simp only [List.length_append, List.length_cons, List.length_nil, List.length_reverse, List.length_drop, List.length_take, List.length_map, List.length_replicate] at e_n42
    have z_n42 := hl44.nle
    refine WL.yld rfl (blt rfl) rfl (Y.lenSl rfl rfl rfl Try.underlying22 rfl) ?_
    refine WL.yld rfl (blt rfl) rfl (Y.move rfl rfl) ?_
    refine WL.nil ?_
    refine WK.then_normal (k40 _ _ ?_)
    refine WC.sub [(4, _), (25, _), (26, _), (27, _)] ⟨rfl, rfl, rfl, rfl, trivial⟩ ?_
    refine WC.block ?_
    refine WC.sub [(27, _), (4, _), (25, _), (26, _)] ⟨rfl, rfl, rfl, rfl, trivial⟩ ?_
    refine WC.loopS 2 (fun mz Ed W' => ∃ j : Nat, ∃ u : Value, mz = n42 - j ∧ Ed = [(27, .int .i64 ((j : Nat) : Int)), (4, u)] ∧ Ext w W' ∧ OwnL W' w.heap.size 32 Sp.S.c 2 (.slice A41 n42 c43) _ ∧ OwnL W' w.heap.size 32 Sp.S.c 2 u (((Sp.srtS (l.filter Sp.ok)).take j).foldl Sp.step []) ∧ Apart u (.slice A41 n42 c43) ∧ (j ≤ n42)) _ ⟨0, _, rfl, rfl, xW, ow37, OwnL.nil_, Apart.nil_l, (Nat.zero_le _)⟩ ?_
    rintro _ _ w45 ⟨j, u, rfl, rfl, xW, ow37, ow_u, d_u_v, le_j⟩
    refine WC.sub [(27, _), (4, _), (25, _), (26, _)] ⟨rfl, rfl, rfl, rfl, trivial⟩ ?_
    have hl44 := OwnL.ls ow37 (fun _ => rfl) (by decide)
    refine WC.seq (fun K46 k46 => ?_)
    refine WC.region rfl ?_
    refine WL.yld rfl (blt rfl) rfl (Y.lss rfl rfl rfl) ?_
    refine WL.nil ?_
    refine WK.then_normal (k46 _ _ ?_)
    refine WC.seq (fun K47 k47 => ?_)
    refine WC.cond rfl (fun h48 => ?_) (fun h48 => ?_)
    ·
      have p48 := (dec_t h48)
      refine WC.skip ?_
      refine WK.then_normal (k47 _ _ ?_)
      refine WC.sub [(4, _), (25, _), (26, _), (27, _)] ⟨rfl, rfl, rfl, rfl, trivial⟩ ?_
      refine WC.seq (fun K49 k49 => ?_)
      refine WC.block ?_
      refine WC.seq (fun K50 k50 => ?_)
      refine WC.region rfl ?_
      have b51 : j < n42 := by omega
      refine WL.yld rfl (blt rfl) rfl (Y.indexLs j hl44 rfl Try.underlying22 ti32 rfl rfl rfl b51) ?_
      refine WL.yld rfl (blt rfl) rfl (Y.loadS (cs := [_, _]) rfl Try.underlying32 rfl ti32 rfl (Ls.part_eq hl44 b51 rfl)) ?_
      refine WL.alloc rfl (blt rfl) rfl rfl ti32 rfl ?_
      intro g52 w53 e54 x55 m56
      have r_v_g52 := ne_newO ow37 e54
      have r_u_g52 := ne_newO ow_u e54
      have o_g52 := own_new xW e54
      have ow37 := ow37.ext x55
      have hl44 := hl44.ext x55
      have ow_u := ow_u.ext x55
      have xW := Ext.trans xW x55
      refine WL.store (cs' := [_, _]) rfl rfl rfl rfl rfl rfl ti32 m56 (ble rfl) rfl rfl (fun w57 on58 m59 => ?_)
      have ow37 := ow37.only r_v_g52 on58
      have hl44 := OwnL.ls ow37 (fun _ => rfl) (by decide)
      have ow_u := ow_u.only r_u_g52 on58
      have xW := Ext.only xW on58 o_g52
      refine WL.nil ?_
      refine WK.then_normal (k50 _ _ ?_)
      refine WC.sub [(4, _), (8, _), (25, _), (26, _), (27, _)] ⟨rfl, rfl, rfl, rfl, rfl, trivial⟩ ?_
      refine WC.seq (fun K60 k60 => ?_)
      refine WC.region rfl ?_
      refine WL.yld rfl (blt rfl) rfl (Y.move rfl rfl) ?_
      obtain ⟨A61, n62, c63, rfl, hl64⟩ := OwnL.opened ow_u (fun _ => rfl) (by decide)
      have e_n62 := hl64.len
      try simp only [List.length_append, List.length_cons, List.length_nil, List.length_reverse, List.length_drop, List.length_take, List.length_map, List.length_replicate] at e_n62
      have z_n62 := hl64.nle
      refine WL.yld rfl (blt rfl) rfl (Y.lenSl rfl rfl rfl Try.underlying22 rfl) ?_
      refine WL.yld rfl (blt rfl) rfl (Y.assign rfl rfl) ?_
      refine WL.nil ?_
      refine WK.then_normal (k60 _ _ ?_)
      refine WC.sub [(4, _), (8, _), (9, _), (25, _), (26, _), (27, _)] ⟨rfl, rfl, rfl, rfl, rfl, rfl, trivial⟩ ?_
      refine WC.seq (fun K65 k65 => ?_)
      refine WC.regionDq (by kernel_rfl) (by kernel_rfl) rfl ?_
      refine WQ.yld rfl (blt rfl) rfl (Y.move rfl rfl) ?_
      refine WQ.yld rfl (blt rfl) rfl (Y.gtr rfl rfl rfl) ?_
      refine WQ.yld rfl (blt rfl) rfl (Y.move rfl rfl) ?_
      refine WQ.yldG rfl (blt rfl) rfl rfl rfl (fun hb => Y.fieldAddr rfl Try.underlying32 rfl ti3 (by decide) rfl) ?_
      refine WQ.yldG rfl (blt rfl) rfl rfl rfl (fun hb => Y.load1 rfl Try.underlying3 rfl (evg rfl hb) (Blk.at_ext m59 rfl)) ?_
      refine WQ.yldG rfl (blt rfl) rfl rfl rfl (fun hb => Y.move rfl rfl) ?_
      refine WQ.yldG rfl (blt rfl) rfl rfl rfl (fun hb => Y.move rfl rfl) ?_
      refine WQ.yldG rfl (blt rfl) rfl rfl rfl (fun hb => Y.sub rfl (evg rfl hb) rfl (wrap_i64 (by have q0 := (dec_t hb); first | omega | (dsimp only; omega)))) ?_
      refine WQ.yldG rfl (blt rfl) rfl rfl rfl (fun hb => Y.indexLs (n62 - 1) hl64 rfl Try.underlying22 ti32 (evg rfl hb) (evg rfl hb) (by have q0 := (dec_t hb); omega) (by have q0 := (dec_t hb); omega)) ?_
      refine WQ.yldG rfl (blt rfl) rfl rfl rfl (fun hb => Y.fieldE rfl Try.underlying32 rfl ti3 (by decide) (evg rfl hb)) ?_
      refine WQ.yldG rfl (blt rfl) rfl rfl rfl (fun hb => Y.load1 rfl Try.underlying3 rfl (evg rfl hb) (Ls.at_ext hl64 (by have q0 := (dec_t hb); omega) rfl)) ?_
      refine WQ.yldG rfl (blt rfl) rfl rfl rfl (fun hb => Y.leq rfl (evg rfl hb) (evg rfl hb)) ?_
      refine WQ.yld rfl (blt rfl) rfl (Y.and rfl rfl rfl rfl) ?_
      refine WQ.done (fun w66 x67 => ?_)
      have ow37 := ow37.ext x67
      have hl44 := hl44.ext x67
      have ow_u := ow_u.ext x67
      have hl64 := hl64.ext x67
      have m59 := m59.ext x67
      have xW := Ext.trans xW x67
      refine WK.then_normal (k65 _ _ ?_)
      refine WC.sub [(4, _), (8, _), (9, _), (25, _), (26, _), (27, _), (45, _)] ⟨rfl, rfl, rfl, rfl, rfl, rfl, rfl, trivial⟩ ?_
      refine WC.cond rfl (fun h68 => ?_) (fun h68 => ?_)
      ·
        have p68 := (And.intro (dec_t (and_t h68).1) (dec_t (and_t h68).2))
        refine WC.regionT 14 (by kernel_rfl) (by kernel_rfl) ?_
        refine WQ.yld rfl (blt rfl) rfl (Y.move rfl rfl) ?_
        refine WQ.yld rfl (blt rfl) rfl (Y.move rfl rfl) ?_
        refine WQ.yld rfl (blt rfl) rfl (Y.sub rfl rfl rfl (wrap_i64 (by first | omega | (dsimp only; omega)))) ?_
        refine WQ.yld rfl (blt rfl) rfl (Y.move rfl rfl) ?_
        refine WQ.yld rfl (blt rfl) rfl (Y.move rfl rfl) ?_
        refine WQ.yld rfl (blt rfl) rfl (Y.sub rfl rfl rfl (wrap_i64 (by first | omega | (dsimp only; omega)))) ?_
        have b69 : (n62 - 1) < n62 := by omega
        refine WQ.yld rfl (blt rfl) rfl (Y.indexLs (n62 - 1) hl64 rfl Try.underlying22 ti32 rfl rfl (by omega) b69) ?_
        refine WQ.yld rfl (blt rfl) rfl (Y.fieldE rfl Try.underlying32 rfl ti3 (by decide) rfl) ?_
        refine WQ.yld rfl (blt rfl) rfl (Y.load1 rfl Try.underlying3 rfl rfl (Ls.at_ext hl64 b69 rfl)) ?_
        refine WQ.yld rfl (blt rfl) rfl (Y.fieldAddr rfl Try.underlying32 rfl ti3 (by decide) rfl) ?_
        refine WQ.yld rfl (blt rfl) rfl (Y.load1 rfl Try.underlying3 rfl rfl (Blk.at_ext m59 rfl)) ?_
        refine WQ.yld rfl (blt rfl) rfl (Y.maxI rfl rfl rfl rfl) ?_
        have b70 : (n62 - 1) < n62 := by omega
        refine WQ.yld rfl (blt rfl) rfl (Y.indexLs (n62 - 1) hl64 rfl Try.underlying22 ti32 rfl rfl (by omega) b70) ?_
        refine WQ.yld rfl (blt rfl) rfl (Y.fieldE rfl Try.underlying32 rfl ti3 (by decide) rfl) ?_
        refine WQ.tail (fun w71 x72 => ?_)
        have ow37 := ow37.ext x72
        have hl44 := hl44.ext x72
        have ow_u := ow_u.ext x72
        have hl64 := hl64.ext x72
        have m59 := m59.ext x72
        have xW := Ext.trans xW x72
        refine WL.storeE (k := (n62 - 1)) (off := 1) (f := Sp.S.c) (⟨(List.foldl Sp.step [] (List.take j (Sp.srtS (l.filter Sp.ok))))[n62 - 1]!.f, max (List.foldl Sp.step [] (List.take j (Sp.srtS (l.filter Sp.ok))))[n62 - 1]!.t (Sp.srtS (l.filter Sp.ok))[j]!.t⟩ : Sp.S) rfl rfl rfl rfl rfl rfl ti3 ow_u (fun _ => rfl) b70 (ble rfl) rfl rfl (fun w73 ow74 gr75 => ?_)
        have ow37 := OwnL.grown ow37 gr75 d_u_v
        have hl44 := OwnL.ls ow37 (fun _ => rfl) (by decide)
        have m59 := m59.grown gr75 r_u_g52
        have xW := Ext.grown xW gr75 (fun b hb => (OwnL.lt ow_u hb).1)
        have hl64 := OwnL.ls ow74 (fun _ => rfl) (by decide)
        refine WL.nil ?_
        refine WK.in_normal ?_
        refine WK.then_normal (k49 _ _ ?_)
        refine WC.sub [(4, _), (25, _), (26, _), (27, _)] ⟨rfl, rfl, rfl, rfl, trivial⟩ ?_
        refine WC.region rfl ?_
        refine WL.yld rfl (blt rfl) rfl (Y.add rfl rfl rfl (wrap_i64 (by first | omega | (dsimp only; omega)))) ?_
        refine WL.yld rfl (blt rfl) rfl (Y.move rfl rfl) ?_
        refine WL.nil ?_
        refine WK.roundS _ [(27, .int .i64 (((j + 1) : Nat) : Int)), (4, (.slice A61 n62 c63))] ⟨rfl, rfl, rfl, rfl, trivial⟩ ?_ ⟨(j + 1), (.slice A61 n62 c63), rfl, rfl, xW, ow37, (by rw [Sp.fold_ext (show j < (Sp.srtS (l.filter Sp.ok)).length from by omega) (by omega) h68]; exact ow74), d_u_v, (by omega)⟩
        show _ - (j + 1) < _ - j; omega
      ·
        have p68 := ((and_f h68).imp (fun h => (dec_f h)) (fun h => (dec_f h)))
        refine WC.region rfl ?_
        refine WL.yld rfl (blt rfl) rfl (Y.move rfl rfl) ?_
        refine WL.yld rfl (blt rfl) rfl (Y.loadS rfl Try.underlying32 rfl ti32 rfl (Blk.row_eq m59)) ?_
        refine WL.bslice (zs := [.int .i64 0, .int .i64 0]) (cs := [_, _]) rfl (blt rfl) rfl rfl Try.underlying22 ti32 rfl (ble rfl) (by kernel_rfl) rfl rfl ?_
        intro g76 w77 e78 x79 m80
        have r_v_g76 := ne_newO ow37 e78
        have r_u_g76 := ne_newO ow_u e78
        have n_g52_g76 := ne_new m59 e78
        have o_g76 := own_new xW e78
        have ow37 := ow37.ext x79
        have hl44 := hl44.ext x79
        have ow_u := ow_u.ext x79
        have hl64 := hl64.ext x79
        have m59 := m59.ext x79
        have xW := Ext.trans xW x79
        refine WL.appendB (f := Sp.S.c) (news := [(Sp.srtS (l.filter Sp.ok))[j]!]) rfl (blt rfl) rfl rfl rfl rfl Try.underlying22 ti32 rfl (by decide) rfl ow_u (fun _ => rfl) Sp.S.one m80 rfl xW.size (by have q0 := Sp.fold_take_len (Sp.srtS (l.filter Sp.ok)) j; first | omega | (simp only [List.length_append, List.length_cons, List.length_nil, List.length_take, List.length_drop, List.length_reverse]; omega)) (Nat.le_trans (show _ ≤ 140737488355328 from by have q0 := Sp.fold_take_len (Sp.srtS (l.filter Sp.ok)) j; first | omega | (simp only [List.length_append, List.length_cons, List.length_nil, List.length_take, List.length_drop, List.length_reverse]; omega)) (by decide)) (fun v81 w82 ow83 gr84 nb85 => ?_)
        have d_v_v81 := (Apart.app d_u_v nb85 ow37).symm
        have ow37 := OwnL.grown ow37 gr84 d_u_v
        have hl44 := OwnL.ls ow37 (fun _ => rfl) (by decide)
        have r_v81_g52 := ne_app nb85 r_u_g52 m59
        have m59 := m59.grown gr84 r_u_g52
        have r_v81_g76 := ne_app nb85 r_u_g76 m80
        have m80 := m80.grown gr84 r_u_g76
        have xW := Ext.grown xW gr84 (fun b hb => (OwnL.lt ow_u hb).1)
        refine WL.yld rfl (blt rfl) rfl (Y.assign rfl rfl) ?_
        refine WL.nil ?_
        refine WK.in_normal ?_
        refine WK.then_normal (k49 _ _ ?_)
        refine WC.sub [(4, _), (25, _), (26, _), (27, _)] ⟨rfl, rfl, rfl, rfl, trivial⟩ ?_
        refine WC.region rfl ?_
        refine WL.yld rfl (blt rfl) rfl (Y.add rfl rfl rfl (wrap_i64 (by first | omega | (dsimp only; omega)))) ?_
        refine WL.yld rfl (blt rfl) rfl (Y.move rfl rfl) ?_
        refine WL.nil ?_
        refine WK.roundS _ [(27, .int .i64 (((j + 1) : Nat) : Int)), (4, v81)] ⟨rfl, rfl, rfl, rfl, trivial⟩ ?_ ⟨(j + 1), v81, rfl, rfl, xW, ow37, (by rw [Sp.fold_new (show j < (Sp.srtS (l.filter Sp.ok)).length from by omega) (by omega) h68]; exact ow83), d_v_v81.symm, (by omega)⟩
        show _ - (j + 1) < _ - j; omega
    ·
      have p48 := (dec_f h48)
      refine WC.exit ?_
      refine WK.then_exit ?_
      refine WK.then_exit ?_
      refine WK.in_exit ?_
      refine WK.then_normal (k39 _ _ ?_)
      refine WC.sub [(4, _)] ⟨rfl, trivial⟩ ?_
      refine WC.seq (fun K86 k86 => ?_)
      refine WC.region rfl ?_
      refine WL.yld rfl (blt rfl) rfl (Y.move rfl rfl) ?_
      refine WL.yld rfl (blt rfl) rfl (Y.assign rfl rfl) ?_
      refine WL.nil ?_
      refine WK.then_normal (k86 _ _ ?_)
      refine WC.sub [(2, _)] ⟨rfl, trivial⟩ ?_
      refine WC.ret ?_
      clear k1 k2 k3 k4 k6 k7 k34 k39 k40 k46 k47 k86
      refine WK.ret [_] rfl ⟨rfl, trivial⟩ ?_
      refine ⟨_, rfl, ?_, xW⟩
      rw [List.take_of_length_le (show (Sp.srtS (l.filter Sp.ok)).length ≤ j from by omega), Sp.join_norm] at ow_u
      exact ow_u
theorem concat_any (A_l : Option Addr) (n_l c_l : Nat) (l : List (Slc Sp.S)) (w : World) (h_l : Ls w A_l n_l c_l Slc.v 1 l) (g_l : ∀ x ∈ l, Ls w x.A x.n x.c Sp.S.c 2 x.l) (ht : total l ≤ 100000) :
    Calls Try.prog 44 #[.slice A_l n_l c_l] w fun e w' => ∃ v, e = .returned v ∧ OwnL w' w.heap.size 32 Sp.S.c 2 v (l.flatMap fun x => x.l) ∧ Ext w w' := by
  have xW := Ext.refl w
  have e_l := h_l.len
  have z_l := h_l.nle
  refine calls_of_WC (args := [.slice A_l n_l c_l]) Try.func44 rfl rfl (ble rfl) ?_
  refine WC.seq (fun K1 k1 => ?_)
  refine WC.region rfl ?_
  refine WL.yld rfl (blt rfl) rfl (Y.assign rfl rfl) ?_
  refine WL.nil ?_
  refine WK.then_normal (k1 _ _ ?_)
  refine WC.sub [(0, _)] ⟨rfl, trivial⟩ ?_
  refine WC.seq (fun K2 k2 => ?_)
  refine WC.region rfl ?_
  refine WL.yld rfl (blt rfl) rfl (Y.assign rfl rfl) ?_
  refine WL.nil ?_
  refine WK.then_normal (k2 _ _ ?_)
  refine WC.seq (fun K3 k3 => ?_)
  refine WC.seq (fun K4 k4 => ?_)
  refine WC.region rfl ?_
  refine WL.yld rfl (blt rfl) rfl (Y.move rfl rfl) ?_
  refine WL.yld rfl (blt rfl) rfl (Y.lenSl rfl rfl rfl Try.underlying82 rfl) ?_
  refine WL.yld rfl (blt rfl) rfl (Y.move rfl rfl) ?_
  refine WL.nil ?_
  refine WK.then_normal (k4 _ _ ?_)
  refine WC.block ?_
  refine WC.sub [(11, _), (3, _), (0, _), (9, _), (10, _)] ⟨rfl, rfl, rfl, rfl, rfl, trivial⟩ ?_
  refine WC.loopS 2 (fun mz Ed W' => ∃ i : Nat, ∃ z : Nat, mz = n_l - i ∧ Ed = [(11, .int .i64 ((i : Nat) : Int)), (3, .int .i64 ((z : Nat) : Int))] ∧ Ext w W' ∧ (i ≤ n_l) ∧ (z = total (l.take i))) _ ⟨0, 0, rfl, rfl, xW, (Nat.zero_le _), rfl⟩ ?_
  rintro _ _ w5 ⟨i, z, rfl, rfl, xW, le_i, zi⟩
  refine WC.sub [(11, _), (3, _), (0, _), (9, _), (10, _)] ⟨rfl, rfl, rfl, rfl, rfl, trivial⟩ ?_
  refine WC.seq (fun K6 k6 => ?_)
  refine WC.region rfl ?_
  refine WL.yld rfl (blt rfl) rfl (Y.lss rfl rfl rfl) ?_
  refine WL.nil ?_
  refine WK.then_normal (k6 _ _ ?_)
  refine WC.seq (fun K7 k7 => ?_)
  refine WC.cond rfl (fun h8 => ?_) (fun h8 => ?_)
  ·
    have p8 := (dec_t h8)
    have tt := total_le l (i + 1)
    have tk := total_take (l := l) (show i < l.length from by omega)
    refine WC.skip ?_
    refine WK.then_normal (k7 _ _ ?_)
    refine WC.sub [(0, _), (3, _), (9, _), (10, _), (11, _)] ⟨rfl, rfl, rfl, rfl, rfl, trivial⟩ ?_
    refine WC.seq (fun K9 k9 => ?_)
    refine WC.block ?_
    refine WC.seq (fun K10 k10 => ?_)
    refine WC.region rfl ?_
    have b11 : i < n_l := by omega
    refine WL.yld rfl (blt rfl) rfl (Y.indexLs i (h_l.ext xW) rfl Try.underlying82 ti22 rfl rfl rfl b11) ?_
    refine WL.yld rfl (blt rfl) rfl (Y.load1 rfl Try.underlying22 rfl rfl (Ls.at_eq (h_l.ext xW) b11 rfl)) ?_
    refine WL.yld rfl (blt rfl) rfl (Y.assign rfl rfl) ?_
    refine WL.nil ?_
    refine WK.then_normal (k10 _ _ ?_)
    refine WC.sub [(0, _), (3, _), (5, _), (9, _), (10, _), (11, _)] ⟨rfl, rfl, rfl, rfl, rfl, rfl, trivial⟩ ?_
    refine WC.seq (fun K12 k12 => ?_)
    refine WC.region rfl ?_
    refine WL.yld rfl (blt rfl) rfl (Y.move rfl rfl) ?_
    refine WL.yld rfl (blt rfl) rfl (Y.move rfl rfl) ?_
    refine WL.yld rfl (blt rfl) rfl (Y.lenSl rfl rfl rfl Try.underlying22 rfl) ?_
    refine WL.yld rfl (blt rfl) rfl (Y.add rfl rfl rfl (wrap_i64 (by first | omega | (dsimp only; omega)))) ?_
    refine WL.yld rfl (blt rfl) rfl (Y.assign rfl rfl) ?_
    refine WL.nil ?_
    refine WK.then_normal (k12 _ _ ?_)
    refine WC.sub [(0, _), (3, _), (9, _), (10, _), (11, _)] ⟨rfl, rfl, rfl, rfl, rfl, trivial⟩ ?_
    refine WC.seq (fun K13 k13 => ?_)
    refine WC.region rfl ?_
    refine WL.yld rfl (blt rfl) rfl (Y.move rfl rfl) ?_
    refine WL.yld rfl (blt rfl) rfl (Yld.cast (Y.lss rfl rfl rfl) (bf (by omega))) ?_
    refine WL.nil ?_
    refine WK.then_normal (k13 _ _ ?_)
    refine WC.sub [(0, _), (3, _), (9, _), (10, _), (11, _), (20, _)] ⟨rfl, rfl, rfl, rfl, rfl, rfl, trivial⟩ ?_
    refine WC.condF rfl ?_
    refine WC.skip ?_
    refine WK.in_normal ?_
    refine WK.then_normal (k9 _ _ ?_)
    refine WC.sub [(0, _), (3, _), (9, _), (10, _), (11, _)] ⟨rfl, rfl, rfl, rfl, rfl, trivial⟩ ?_
    refine WC.region rfl ?_
    refine WL.yld rfl (blt rfl) rfl (Y.add rfl rfl rfl (wrap_i64 (by first | omega | (dsimp only; omega)))) ?_
    refine WL.yld rfl (blt rfl) rfl (Y.move rfl rfl) ?_
    refine WL.nil ?_
    refine WK.roundS _ [(11, .int .i64 (((i + 1) : Nat) : Int)), (3, .int .i64 (((z + l[i]!.n) : Nat) : Int))] ⟨rfl, rfl, rfl, rfl, rfl, trivial⟩ ?_ ⟨(i + 1), (z + l[i]!.n), rfl, rfl, xW, (by omega), (by rw [tk, ← zi])⟩
    show _ - (i + 1) < _ - i; omega
  ·
    have p8 := (dec_f h8)
    have tt := total_le l i
    refine WC.exit ?_
    refine WK.then_exit ?_
    refine WK.then_exit ?_
    refine WK.in_exit ?_
    refine WK.then_normal (k3 _ _ ?_)
    refine WC.sub [(0, _), (3, _)] ⟨rfl, rfl, trivial⟩ ?_
    refine WC.seq (fun K14 k14 => ?_)
    refine WC.region rfl ?_
    refine WL.yld rfl (blt rfl) rfl (Y.move rfl rfl) ?_
    refine WL.call rfl (blt rfl) rfl rfl rfl has60 rfl (grow_row _ _ (by omega)) ?_
    rintro _ w15 ⟨v17, rfl, ow18, x16⟩
    refine ⟨_, rfl, ?_⟩
    have ow18 := OwnL.base_le ow18 xW.size
    have xW := Ext.trans xW x16
    refine WL.yld rfl (blt rfl) rfl (Y.assign rfl rfl) ?_
    refine WL.nil ?_
    refine WK.then_normal (k14 _ _ ?_)
    refine WC.sub [(0, _), (6, _)] ⟨rfl, rfl, trivial⟩ ?_
    refine WC.seq (fun K19 k19 => ?_)
    refine WC.seq (fun K20 k20 => ?_)
    refine WC.region rfl ?_
    refine WL.yld rfl (blt rfl) rfl (Y.move rfl rfl) ?_
    refine WL.yld rfl (blt rfl) rfl (Y.lenSl rfl rfl rfl Try.underlying82 rfl) ?_
    refine WL.yld rfl (blt rfl) rfl (Y.move rfl rfl) ?_
    refine WL.nil ?_
    refine WK.then_normal (k20 _ _ ?_)
    refine WC.sub [(6, _), (25, _), (26, _), (27, _)] ⟨rfl, rfl, rfl, rfl, trivial⟩ ?_
    refine WC.block ?_
    refine WC.sub [(27, _), (6, _), (25, _), (26, _)] ⟨rfl, rfl, rfl, rfl, trivial⟩ ?_
    refine WC.loopS 2 (fun mz Ed W' => ∃ i : Nat, ∃ v : Value, mz = n_l - i ∧ Ed = [(27, .int .i64 ((i : Nat) : Int)), (6, v)] ∧ Ext w W' ∧ OwnL W' w.heap.size 32 Sp.S.c 2 v ((l.take i).flatMap fun x => x.l) ∧ (i ≤ n_l)) _ ⟨0, _, rfl, rfl, xW, ow18, (Nat.zero_le _)⟩ ?_
    rintro _ _ w21 ⟨i, v, rfl, rfl, xW, ow_v, le_i⟩
    refine WC.sub [(27, _), (6, _), (25, _), (26, _)] ⟨rfl, rfl, rfl, rfl, trivial⟩ ?_
    refine WC.seq (fun K22 k22 => ?_)
    refine WC.region rfl ?_
    refine WL.yld rfl (blt rfl) rfl (Y.lss rfl rfl rfl) ?_
    refine WL.nil ?_
    refine WK.then_normal (k22 _ _ ?_)
    refine WC.seq (fun K23 k23 => ?_)
    refine WC.cond rfl (fun h24 => ?_) (fun h24 => ?_)
    ·
      have p24 := (dec_t h24)
      have tt := total_le l (i + 1)
      have tk := total_take (l := l) (show i < l.length from by omega)
      have gl := (g_l _ (bang_mem (show i < l.length from by omega))).len
      refine WC.skip ?_
      refine WK.then_normal (k23 _ _ ?_)
      refine WC.sub [(6, _), (25, _), (26, _), (27, _)] ⟨rfl, rfl, rfl, rfl, trivial⟩ ?_
      refine WC.seq (fun K25 k25 => ?_)
      refine WC.block ?_
      refine WC.seq (fun K26 k26 => ?_)
      refine WC.region rfl ?_
      have b27 : i < n_l := by omega
      refine WL.yld rfl (blt rfl) rfl (Y.indexLs i (h_l.ext xW) rfl Try.underlying82 ti22 rfl rfl rfl b27) ?_
      refine WL.yld rfl (blt rfl) rfl (Y.load1 rfl Try.underlying22 rfl rfl (Ls.at_eq (h_l.ext xW) b27 rfl)) ?_
      refine WL.yld rfl (blt rfl) rfl (Y.assign rfl rfl) ?_
      refine WL.nil ?_
      refine WK.then_normal (k26 _ _ ?_)
      refine WC.sub [(6, _), (8, _), (25, _), (26, _), (27, _)] ⟨rfl, rfl, rfl, rfl, rfl, trivial⟩ ?_
      refine WC.region rfl ?_
      refine WL.yld rfl (blt rfl) rfl (Y.move rfl rfl) ?_
      refine WL.yld rfl (blt rfl) rfl (Y.move rfl rfl) ?_
      refine WL.appendL (f := Sp.S.c) rfl (blt rfl) rfl rfl rfl rfl Try.underlying22 ti32 rfl (by decide) rfl ow_v (fun _ => rfl) Sp.S.one ((g_l _ (bang_mem (show i < l.length from by omega))).ext xW) xW.size (by have q0 := flat_len (l := l.take i) (fun x hx => (g_l x (List.mem_of_mem_take hx)).len); first | omega | (simp only [List.length_append, List.length_cons, List.length_nil, List.length_take, List.length_drop, List.length_reverse]; omega)) (Nat.le_trans (show _ ≤ 140737488355328 from by have q0 := flat_len (l := l.take i) (fun x hx => (g_l x (List.mem_of_mem_take hx)).len); first | omega | (simp only [List.length_append, List.length_cons, List.length_nil, List.length_take, List.length_drop, List.length_reverse]; omega)) (by decide)) (fun v28 w29 ow30 gr31 nb32 => ?_)
      have xW := Ext.grown xW gr31 (fun b hb => (OwnL.lt ow_v hb).1)
      refine WL.yld rfl (blt rfl) rfl (Y.assign rfl rfl) ?_
      refine WL.nil ?_
      refine WK.in_normal ?_
      refine WK.then_normal (k25 _ _ ?_)
      refine WC.sub [(6, _), (25, _), (26, _), (27, _)] ⟨rfl, rfl, rfl, rfl, trivial⟩ ?_
      refine WC.region rfl ?_
      refine WL.yld rfl (blt rfl) rfl (Y.add rfl rfl rfl (wrap_i64 (by first | omega | (dsimp only; omega)))) ?_
      refine WL.yld rfl (blt rfl) rfl (Y.move rfl rfl) ?_
      refine WL.nil ?_
      refine WK.roundS _ [(27, .int .i64 (((i + 1) : Nat) : Int)), (6, v28)] ⟨rfl, rfl, rfl, rfl, trivial⟩ ?_ ⟨(i + 1), v28, rfl, rfl, xW, (by rw [flat_take (show i < l.length from by omega)]; exact ow30), (by omega)⟩
      show _ - (i + 1) < _ - i; omega
    ·
      have p24 := (dec_f h24)
      refine WC.exit ?_
      refine WK.then_exit ?_
      refine WK.then_exit ?_
      refine WK.in_exit ?_
      refine WK.then_normal (k19 _ _ ?_)
      refine WC.sub [(6, _)] ⟨rfl, trivial⟩ ?_
      refine WC.seq (fun K33 k33 => ?_)
      refine WC.region rfl ?_
      refine WL.yld rfl (blt rfl) rfl (Y.move rfl rfl) ?_
      refine WL.yld rfl (blt rfl) rfl (Y.assign rfl rfl) ?_
      refine WL.nil ?_
      refine WK.then_normal (k33 _ _ ?_)
      refine WC.sub [(2, _)] ⟨rfl, trivial⟩ ?_
      refine WC.ret ?_
      clear k1 k2 k3 k4 k6 k7 k14 k19 k20 k22 k23 k33
      refine WK.ret [_] rfl ⟨rfl, trivial⟩ ?_
      refine ⟨_, rfl, ?_, xW⟩
      rw [List.take_of_length_le (show l.length ≤ i from by omega)] at ow_v
      exact ow_v
theorem keepm_any (x : Bool) (y : Bool) (w : World) :
    Calls Try.prog 36 #[.bool x, .bool y] w fun e w' => e = .returned (.bool (Sp.both x y)) ∧ Ext w w' := by
  have xW := Ext.refl w
  refine calls_of_WC (args := [.bool x, .bool y]) Try.func36 rfl rfl (ble rfl) ?_
  refine WC.seq (fun K1 k1 => ?_)
  refine WC.region rfl ?_
  refine WL.yld rfl (blt rfl) rfl (Y.assign rfl rfl) ?_
  refine WL.nil ?_
  refine WK.then_normal (k1 _ _ ?_)
  refine WC.sub [(0, _), (1, _)] ⟨rfl, rfl, trivial⟩ ?_
  refine WC.seq (fun K2 k2 => ?_)
  refine WC.region rfl ?_
  refine WL.yld rfl (blt rfl) rfl (Y.move rfl rfl) ?_
  refine WL.yld rfl (blt rfl) rfl (Y.move rfl rfl) ?_
  refine WL.yldG rfl (blt rfl) rfl rfl rfl (fun hb => Y.move rfl rfl) ?_
  refine WL.yld rfl (blt rfl) rfl (Y.and rfl rfl rfl rfl) ?_
  refine WL.yld rfl (blt rfl) rfl (Y.assign rfl rfl) ?_
  refine WL.nil ?_
  refine WK.then_normal (k2 _ _ ?_)
  refine WC.sub [(4, _)] ⟨rfl, trivial⟩ ?_
  refine WC.ret ?_
  clear k1 k2
  refine WK.ret [_] rfl ⟨rfl, trivial⟩ ?_
  exact ⟨rfl, xW⟩
theorem combm_any (A_a : Option Addr) (n_a c_a : Nat) (a : List Sp.S) (A_b : Option Addr) (n_b c_b : Nat) (b : List Sp.S)  (w : World) (h_a : Ls w A_a n_a c_a Sp.S.c 2 a) (h_b : Ls w A_b n_b c_b Sp.S.c 2 b) (ha : n_a ≤ 10000) (hb : n_b ≤ 10000) :
    Calls Try.prog 35 #[.slice A_a n_a c_a, .slice A_b n_b c_b, .func (.func 36) #[] #[]] w fun e w' => ∃ v, e = .returned v ∧ OwnL w' w.heap.size 32 Sp.S.c 2 v (Sp.comb Sp.both a b) ∧ Ext w w' := by
  have xW := Ext.refl w
  have e_a := h_a.len
  have z_a := h_a.nle
  have e_b := h_b.len
  have z_b := h_b.nle
  have nla := Sp.norm_len a
  have nlb := Sp.norm_len b
  have lnn : (Sp.norm a ++ Sp.norm b).length = (Sp.norm a).length + (Sp.norm b).length := List.length_append
  refine calls_of_WC (args := [.slice A_a n_a c_a, .slice A_b n_b c_b, .func (.func 36) #[] #[]]) Try.func35 rfl rfl (ble rfl) ?_
  refine WC.seq (fun K1 k1 => ?_)
  refine WC.region rfl ?_
  refine WL.yld rfl (blt rfl) rfl (Y.assign rfl rfl) ?_
  refine WL.nil ?_
  refine WK.then_normal (k1 _ _ ?_)
  refine WC.sub [(0, _), (1, _), (2, _)] ⟨rfl, rfl, rfl, trivial⟩ ?_
  refine WC.seq (fun K2 k2 => ?_)
  refine WC.region rfl ?_
  refine WL.yld rfl (blt rfl) rfl (Y.move rfl rfl) ?_
  refine WL.call rfl (blt rfl) rfl rfl rfl has43 rfl (normal_any _ _ _ _ _ (h_a.ext xW) (by omega)) ?_
  rintro _ w3 ⟨v5, rfl, ow6, x4⟩
  refine ⟨_, rfl, ?_⟩
  have ow6 := OwnL.base_le ow6 xW.size
  have xW := Ext.trans xW x4
  refine WL.yld rfl (blt rfl) rfl (Y.move rfl rfl) ?_
  refine WL.call rfl (blt rfl) rfl rfl rfl has43 rfl (normal_any _ _ _ _ _ (h_b.ext xW) (by omega)) ?_
  rintro _ w7 ⟨v9, rfl, ow10, x8⟩
  refine ⟨_, rfl, ?_⟩
  have d_v5_v9 := (Apart.res ow10 ow6).symm
  have ow10 := OwnL.base_le ow10 xW.size
  have ow6 := ow6.ext x8
  have xW := Ext.trans xW x8
  refine WL.yld rfl (blt rfl) rfl (Y.assign rfl rfl) ?_
  refine WL.yld rfl (blt rfl) rfl (Y.assign rfl rfl) ?_
  refine WL.nil ?_
  refine WK.then_normal (k2 _ _ ?_)
  refine WC.sub [(0, _), (1, _), (2, _)] ⟨rfl, rfl, rfl, trivial⟩ ?_
  refine WC.seq (fun K11 k11 => ?_)
  refine WC.region rfl ?_
  refine WL.yld rfl (blt rfl) rfl (Y.assign rfl rfl) ?_
  refine WL.nil ?_
  refine WK.then_normal (k11 _ _ ?_)
  refine WC.seq (fun K12 k12 => ?_)
  refine WC.seq (fun K13 k13 => ?_)
  refine WC.region rfl ?_
  refine WL.yld rfl (blt rfl) rfl (Y.move rfl rfl) ?_
  refine WL.yld rfl (blt rfl) rfl (Y.move rfl rfl) ?_
  obtain ⟨A14, n15, c16, rfl, hl17⟩ := OwnL.opened ow6 (fun _ => rfl) (by decide)
  have e_n15 := hl17.len
  try simp only [List.length_append, List.length_cons, List.length_nil, List.length_reverse, List.length_drop, List.length_take, List.length_map, List.length_replicate] at e_n15
  have z_n15 := hl17.nle
  obtain ⟨A18, n19, c20, rfl, hl21⟩ := OwnL.opened ow10 (fun _ => rfl) (by decide)
  have e_n19 := hl21.len
  try simp only [List.length_append, List.length_cons, List.length_nil, List.length_reverse, List.length_drop, List.length_take, List.length_map, List.length_replicate] at e_n19
  have z_n19 := hl21.nle
  refine WL.bslice (zs := [.slice none 0 0, .slice none 0 0]) (cs := [_, _]) rfl (blt rfl) rfl rfl Try.underlying82 ti22 rfl (ble rfl) (by kernel_rfl) rfl rfl ?_
  intro g22 w23 e24 x25 m26
  have r_v5_g22 := ne_newO ow6 e24
  have r_v9_g22 := ne_newO ow10 e24
  have o_g22 := own_new xW e24
  have ow6 := ow6.ext x25
  have hl17 := hl17.ext x25
  have ow10 := ow10.ext x25
  have hl21 := hl21.ext x25
  have xW := Ext.trans xW x25
  refine WL.call rfl (blt rfl) rfl rfl rfl has44 rfl (concat_any _ _ _ _ _ (Ls.lit (f := Slc.v) (sz := 1) (l := ([⟨A14, n15, c16, Sp.norm a⟩, ⟨A18, n19, c20, Sp.norm b⟩] : List (Slc Sp.S))) m26 (fun _ => rfl) rfl (by decide) rfl) (two_mem hl17 hl21) (by unfold total; simp only [List.map_cons, List.map_nil, List.sum_cons, List.sum_nil]; omega)) ?_
  rintro _ w27 ⟨v29, rfl, ow30, x28⟩
  refine ⟨_, rfl, ?_⟩
  have d_v29_v5 := Apart.res ow30 ow6
  have d_v29_v9 := Apart.res ow30 ow10
  have r_v29_g22 := ne_res ow30 m26
  have ow30 := OwnL.base_le ow30 xW.size
  have ow6 := ow6.ext x28
  have hl17 := hl17.ext x28
  have ow10 := ow10.ext x28
  have hl21 := hl21.ext x28
  have m26 := m26.ext x28
  have xW := Ext.trans xW x28
  rw [cat2] at ow30
  obtain ⟨A31, n32, c33, rfl, hl34⟩ := OwnL.opened ow30 (fun _ => rfl) (by decide)
  have e_n32 := hl34.len
  try simp only [List.length_append, List.length_cons, List.length_nil, List.length_reverse, List.length_drop, List.length_take, List.length_map, List.length_replicate] at e_n32
  have z_n32 := hl34.nle
  refine WL.yld rfl (blt rfl) rfl (Y.lenSl rfl rfl rfl Try.underlying22 rfl) ?_
  refine WL.yld rfl (blt rfl) rfl (Y.move rfl rfl) ?_
  refine WL.nil ?_
  refine WK.then_normal (k13 _ _ ?_)
  refine WC.sub [(0, _), (1, _), (2, _), (7, _), (21, _), (22, _), (23, _)] ⟨rfl, rfl, rfl, rfl, rfl, rfl, rfl, trivial⟩ ?_
  refine WC.block ?_
  refine WC.sub [(23, _), (7, _), (0, _), (1, _), (2, _), (21, _), (22, _)] ⟨rfl, rfl, rfl, rfl, rfl, rfl, rfl, trivial⟩ ?_
  refine WC.loopS 2 (fun mz Ed W' => ∃ i : Nat, ∃ v : Value, mz = n32 - i ∧ Ed = [(23, .int .i64 ((i : Nat) : Int)), (7, v)] ∧ Ext w W' ∧ OwnL W' w.heap.size 32 Sp.S.c 2 (.slice A14 n15 c16) _ ∧ OwnL W' w.heap.size 32 Sp.S.c 2 (.slice A18 n19 c20) _ ∧ OwnL W' w.heap.size 32 Sp.S.c 2 (.slice A31 n32 c33) _ ∧ OwnL W' w.heap.size 3 Sp.ic 1 v (Sp.raw ((Sp.norm a ++ Sp.norm b).take i)) ∧ Apart v (.slice A14 n15 c16) ∧ Apart v (.slice A18 n19 c20) ∧ Apart v (.slice A31 n32 c33) ∧ (i ≤ n32)) _ ⟨0, _, rfl, rfl, xW, ow6, ow10, ow30, OwnL.nil_, Apart.nil_l, Apart.nil_l, Apart.nil_l, (Nat.zero_le _)⟩ ?_
  rintro _ _ w35 ⟨i, v, rfl, rfl, xW, ow6, ow10, ow30, ow_v, d_v_v5, d_v_v9, d_v_v29, le_i⟩
  refine WC.sub [(23, _), (7, _), (0, _), (1, _), (2, _), (21, _), (22, _)] ⟨rfl, rfl, rfl, rfl, rfl, rfl, rfl, trivial⟩ ?_
  have hl17 := OwnL.ls ow6 (fun _ => rfl) (by decide)
  have hl21 := OwnL.ls ow10 (fun _ => rfl) (by decide)
  have hl34 := OwnL.ls ow30 (fun _ => rfl) (by decide)
  refine WC.seq (fun K36 k36 => ?_)
  refine WC.region rfl ?_
  refine WL.yld rfl (blt rfl) rfl (Y.lss rfl rfl rfl) ?_
  refine WL.nil ?_
  refine WK.then_normal (k36 _ _ ?_)
  refine WC.seq (fun K37 k37 => ?_)
  refine WC.cond rfl (fun h38 => ?_) (fun h38 => ?_)
  ·
    have p38 := (dec_t h38)
    refine WC.skip ?_
    refine WK.then_normal (k37 _ _ ?_)
    refine WC.sub [(0, _), (1, _), (2, _), (7, _), (21, _), (22, _), (23, _)] ⟨rfl, rfl, rfl, rfl, rfl, rfl, rfl, trivial⟩ ?_
    refine WC.seq (fun K39 k39 => ?_)
    refine WC.block ?_
    refine WC.seq (fun K40 k40 => ?_)
    refine WC.region rfl ?_
    have b41 : i < n32 := by omega
    refine WL.yld rfl (blt rfl) rfl (Y.indexLs i hl34 rfl Try.underlying22 ti32 rfl rfl rfl b41) ?_
    refine WL.yld rfl (blt rfl) rfl (Y.loadS (cs := [_, _]) rfl Try.underlying32 rfl ti32 rfl (Ls.part_eq hl34 b41 rfl)) ?_
    refine WL.alloc rfl (blt rfl) rfl rfl ti32 rfl ?_
    intro g42 w43 e44 x45 m46
    have r_v5_g42 := ne_newO ow6 e44
    have r_v9_g42 := ne_newO ow10 e44
    have r_v29_g42 := ne_newO ow30 e44
    have r_v_g42 := ne_newO ow_v e44
    have o_g42 := own_new xW e44
    have ow6 := ow6.ext x45
    have hl17 := hl17.ext x45
    have ow10 := ow10.ext x45
    have hl21 := hl21.ext x45
    have ow30 := ow30.ext x45
    have hl34 := hl34.ext x45
    have ow_v := ow_v.ext x45
    have xW := Ext.trans xW x45
    refine WL.store (cs' := [_, _]) rfl rfl rfl rfl rfl rfl ti32 m46 (ble rfl) rfl rfl (fun w47 on48 m49 => ?_)
    have ow6 := ow6.only r_v5_g42 on48
    have hl17 := OwnL.ls ow6 (fun _ => rfl) (by decide)
    have ow10 := ow10.only r_v9_g42 on48
    have hl21 := OwnL.ls ow10 (fun _ => rfl) (by decide)
    have ow30 := ow30.only r_v29_g42 on48
    have hl34 := OwnL.ls ow30 (fun _ => rfl) (by decide)
    have ow_v := ow_v.only r_v_g42 on48
    have xW := Ext.only xW on48 o_g42
    refine WL.nil ?_
    refine WK.then_normal (k40 _ _ ?_)
    refine WC.sub [(0, _), (1, _), (2, _), (7, _), (9, _), (21, _), (22, _), (23, _)] ⟨rfl, rfl, rfl, rfl, rfl, rfl, rfl, rfl, trivial⟩ ?_
    refine WC.region rfl ?_
    refine WL.yld rfl (blt rfl) rfl (Y.move rfl rfl) ?_
    refine WL.yld rfl (blt rfl) rfl (Y.fieldAddr rfl Try.underlying32 rfl ti3 (by decide) rfl) ?_
    refine WL.yld rfl (blt rfl) rfl (Y.load1 rfl Try.underlying3 rfl rfl (Blk.at_eq m49 rfl)) ?_
    refine WL.yld rfl (blt rfl) rfl (Y.fieldAddr rfl Try.underlying32 rfl ti3 (by decide) rfl) ?_
    refine WL.yld rfl (blt rfl) rfl (Y.load1 rfl Try.underlying3 rfl rfl (Blk.at_eq m49 rfl)) ?_
    refine WL.bslice (zs := [.int .i64 0, .int .i64 0]) (cs := [_, _]) rfl (blt rfl) rfl rfl Try.underlying24 ti3 rfl (ble rfl) (by kernel_rfl) rfl rfl ?_
    intro g50 w51 e52 x53 m54
    have r_v5_g50 := ne_newO ow6 e52
    have r_v9_g50 := ne_newO ow10 e52
    have r_v29_g50 := ne_newO ow30 e52
    have r_v_g50 := ne_newO ow_v e52
    have n_g42_g50 := ne_new m49 e52
    have o_g50 := own_new xW e52
    have ow6 := ow6.ext x53
    have hl17 := hl17.ext x53
    have ow10 := ow10.ext x53
    have hl21 := hl21.ext x53
    have ow30 := ow30.ext x53
    have hl34 := hl34.ext x53
    have ow_v := ow_v.ext x53
    have m49 := m49.ext x53
    have xW := Ext.trans xW x53
    refine WL.appendB (f := Sp.ic) (news := [(Sp.norm a ++ Sp.norm b)[i]!.f, (Sp.norm a ++ Sp.norm b)[i]!.t]) rfl (blt rfl) rfl rfl rfl rfl Try.underlying24 ti3 rfl (by decide) rfl ow_v (fun _ => rfl) Sp.ic_one m54 rfl xW.size (by have q0 := Sp.raw_len ((Sp.norm a ++ Sp.norm b).take i); have q1 := (List.length_take_le i (Sp.norm a ++ Sp.norm b)); first | omega | (simp only [List.length_append, List.length_cons, List.length_nil, List.length_take, List.length_drop, List.length_reverse]; omega)) (Nat.le_trans (show _ ≤ 140737488355328 from by have q0 := Sp.raw_len ((Sp.norm a ++ Sp.norm b).take i); have q1 := (List.length_take_le i (Sp.norm a ++ Sp.norm b)); first | omega | (simp only [List.length_append, List.length_cons, List.length_nil, List.length_take, List.length_drop, List.length_reverse]; omega)) (by decide)) (fun v55 w56 ow57 gr58 nb59 => ?_)
    have d_v5_v55 := (Apart.app d_v_v5 nb59 ow6).symm
    have ow6 := OwnL.grown ow6 gr58 d_v_v5
    have hl17 := OwnL.ls ow6 (fun _ => rfl) (by decide)
    have d_v55_v9 := (Apart.app d_v_v9 nb59 ow10)
    have ow10 := OwnL.grown ow10 gr58 d_v_v9
    have hl21 := OwnL.ls ow10 (fun _ => rfl) (by decide)
    have d_v29_v55 := (Apart.app d_v_v29 nb59 ow30).symm
    have ow30 := OwnL.grown ow30 gr58 d_v_v29
    have hl34 := OwnL.ls ow30 (fun _ => rfl) (by decide)
    have r_v55_g42 := ne_app nb59 r_v_g42 m49
    have m49 := m49.grown gr58 r_v_g42
    have r_v55_g50 := ne_app nb59 r_v_g50 m54
    have m54 := m54.grown gr58 r_v_g50
    have xW := Ext.grown xW gr58 (fun b hb => (OwnL.lt ow_v hb).1)
    refine WL.yld rfl (blt rfl) rfl (Y.assign rfl rfl) ?_
    refine WL.nil ?_
    refine WK.in_normal ?_
    refine WK.then_normal (k39 _ _ ?_)
    refine WC.sub [(0, _), (1, _), (2, _), (7, _), (21, _), (22, _), (23, _)] ⟨rfl, rfl, rfl, rfl, rfl, rfl, rfl, trivial⟩ ?_
    refine WC.region rfl ?_
    refine WL.yld rfl (blt rfl) rfl (Y.add rfl rfl rfl (wrap_i64 (by first | omega | (dsimp only; omega)))) ?_
    refine WL.yld rfl (blt rfl) rfl (Y.move rfl rfl) ?_
    refine WL.nil ?_
    refine WK.roundS _ [(23, .int .i64 (((i + 1) : Nat) : Int)), (7, v55)] ⟨rfl, rfl, rfl, rfl, rfl, rfl, rfl, trivial⟩ ?_ ⟨(i + 1), v55, rfl, rfl, xW, ow6, ow10, ow30, (by rw [Sp.raw_take _ (show i < (Sp.norm a ++ Sp.norm b).length from by omega)]; exact ow57), d_v5_v55.symm, d_v55_v9, d_v29_v55.symm, (by omega)⟩
    show _ - (i + 1) < _ - i; omega
  ·
    have p38 := (dec_f h38)
    rw [List.take_of_length_le (show (Sp.norm a ++ Sp.norm b).length ≤ i from by omega)] at ow_v
    refine WC.exit ?_
    refine WK.then_exit ?_
    refine WK.then_exit ?_
    refine WK.in_exit ?_
    refine WK.then_normal (k12 _ _ ?_)
    refine WC.sub [(0, _), (1, _), (2, _), (7, _)] ⟨rfl, rfl, rfl, rfl, trivial⟩ ?_
    refine WC.seq (fun K60 k60 => ?_)
    refine WC.region rfl ?_
    refine WL.yld rfl (blt rfl) rfl (Y.move rfl rfl) ?_
    refine WL.call rfl (blt rfl) rfl rfl rfl has42 rfl (sort_row _ _ _ _ ow_v (by have q := Sp.raw_len (Sp.norm a ++ Sp.norm b); omega)) ?_
    rintro _ w61 ⟨rfl, ow63, gr64⟩
    refine ⟨_, rfl, ?_⟩
    have ow6 := OwnL.grown ow6 gr64 d_v_v5
    have hl17 := OwnL.ls ow6 (fun _ => rfl) (by decide)
    have ow10 := OwnL.grown ow10 gr64 d_v_v9
    have hl21 := OwnL.ls ow10 (fun _ => rfl) (by decide)
    have xW := Ext.grown xW gr64 (fun b hb => (OwnL.lt ow_v hb).1)
    refine WL.nil ?_
    refine WK.then_normal (k60 _ _ ?_)
    refine WC.sub [(0, _), (1, _), (2, _), (7, _)] ⟨rfl, rfl, rfl, rfl, trivial⟩ ?_
    refine WC.seq (fun K65 k65 => ?_)
    refine WC.region rfl ?_
    refine WL.yld rfl (blt rfl) rfl (Y.move rfl rfl) ?_
    refine WL.call rfl (blt rfl) rfl rfl rfl has45 rfl (compact_row _ _ _ _ ow63 (by have q := Sp.raw_len (Sp.norm a ++ Sp.norm b); have q2 := Inc.srt_len (Sp.raw (Sp.norm a ++ Sp.norm b)); omega)) ?_
    rintro _ w66 ⟨v70, rfl, ow68, gr69, nb71⟩
    refine ⟨_, rfl, ?_⟩
    have ow6 := OwnL.grown ow6 gr69 d_v_v5
    have hl17 := OwnL.ls ow6 (fun _ => rfl) (by decide)
    have ow10 := OwnL.grown ow10 gr69 d_v_v9
    have hl21 := OwnL.ls ow10 (fun _ => rfl) (by decide)
    have xW := Ext.grown xW gr69 (fun b hb => (OwnL.lt ow63 hb).1)
    rw [Inc.compact_srt, Sp.raw_marks (Sp.norms_ok a b)] at ow68
    have ml := Sp.marks_len (Sp.norm a ++ Sp.norm b)
    rw [List.length_append] at ml
    refine WL.yld rfl (blt rfl) rfl (Y.assign rfl rfl) ?_
    refine WL.nil ?_
    refine WK.then_normal (k65 _ _ ?_)
    refine WC.sub [(0, _), (1, _), (2, _), (7, _)] ⟨rfl, rfl, rfl, rfl, trivial⟩ ?_
    refine WC.seq (fun K72 k72 => ?_)
    refine WC.region rfl ?_
    refine WL.yld rfl (blt rfl) rfl (Y.assign rfl rfl) ?_
    refine WL.nil ?_
    refine WK.then_normal (k72 _ _ ?_)
    refine WC.seq (fun K73 k73 => ?_)
    refine WC.seq (fun K74 k74 => ?_)
    refine WC.region rfl ?_
    refine WL.yld rfl (blt rfl) rfl (Y.assign rfl rfl) ?_
    refine WL.nil ?_
    refine WK.then_normal (k74 _ _ ?_)
    refine WC.block ?_
    obtain ⟨A75, n76, c77, rfl, hl78⟩ := OwnL.opened ow68 (fun _ => rfl) (by decide)
    have e_n76 := hl78.len
    try simp only [List.length_append, List.length_cons, List.length_nil, List.length_reverse, List.length_drop, List.length_take, List.length_map, List.length_replicate] at e_n76
    have z_n76 := hl78.nle
    refine WC.sub [(11, _), (0, _), (1, _), (10, _), (2, _), (7, _)] ⟨rfl, rfl, rfl, rfl, rfl, rfl, trivial⟩ ?_
    refine WC.loopS 4 (fun mz Ed W' => ∃ i : Nat, ∃ p : Nat, ∃ r : Nat, ∃ v : Value, mz = n76 + 1 - i ∧ Ed = [(11, .int .i64 ((i : Nat) : Int)), (0, .slice (dropA A14 c16 2 p) (n15 - p) (c16 - p)), (1, .slice (dropA A18 c20 2 r) (n19 - r) (c20 - r)), (10, v)] ∧ Ext w W' ∧ OwnL W' w.heap.size 32 Sp.S.c 2 (.slice A14 n15 c16) _ ∧ OwnL W' w.heap.size 32 Sp.S.c 2 (.slice A18 n19 c20) _ ∧ OwnL W' w.heap.size 3 Sp.ic 1 (.slice A75 n76 c77) _ ∧ OwnL W' w.heap.size 32 Sp.S.c 2 v (Sp.pcs Sp.both (Sp.norm a) (Sp.norm b) (Sp.marks (Sp.norm a ++ Sp.norm b)) (i - 1)) ∧ Apart v (.slice A14 n15 c16) ∧ Apart v (.slice A18 n19 c20) ∧ Apart v (.slice A75 n76 c77) ∧ (1 ≤ i ∧ (i ≤ n76 ∨ i = 1)) ∧ (p ≤ n15) ∧ (r ≤ n19) ∧ (∀ j, j < p → (Sp.norm a)[j]!.t ≤ (Sp.marks (Sp.norm a ++ Sp.norm b))[i - 1]!) ∧ (∀ j, j < r → (Sp.norm b)[j]!.t ≤ (Sp.marks (Sp.norm a ++ Sp.norm b))[i - 1]!)) _ ⟨1, 0, 0, _, rfl, rfl, xW, ow6, ow10, ow68, OwnL.nil_, Apart.nil_l, Apart.nil_l, Apart.nil_l, (by omega), (Nat.zero_le _), (Nat.zero_le _), (fun j hj => absurd hj (Nat.not_lt_zero j)), (fun j hj => absurd hj (Nat.not_lt_zero j))⟩ ?_
    rintro _ _ w79 ⟨i, p, r, v, rfl, rfl, xW, ow6, ow10, ow68, ow_v, d_v_v5, d_v_v9, d_v_v70, le_i, le_p, le_r, in_p, in_r⟩
    refine WC.sub [(11, _), (0, _), (1, _), (10, _), (2, _), (7, _)] ⟨rfl, rfl, rfl, rfl, rfl, rfl, trivial⟩ ?_
    have hl17 := OwnL.ls ow6 (fun _ => rfl) (by decide)
    have hl21 := OwnL.ls ow10 (fun _ => rfl) (by decide)
    have hl78 := OwnL.ls ow68 (fun _ => rfl) (by decide)
    refine WC.seq (fun K80 k80 => ?_)
    refine WC.seq (fun K81 k81 => ?_)
    refine WC.region rfl ?_
    refine WL.yld rfl (blt rfl) rfl (Y.move rfl rfl) ?_
    refine WL.yld rfl (blt rfl) rfl (Y.move rfl rfl) ?_
    refine WL.yld rfl (blt rfl) rfl (Y.lenSl rfl rfl rfl Try.underlying24 rfl) ?_
    refine WL.yld rfl (blt rfl) rfl (Y.lss rfl rfl rfl) ?_
    refine WL.nil ?_
    refine WK.then_normal (k81 _ _ ?_)
    refine WC.sub [(0, _), (1, _), (2, _), (7, _), (10, _), (11, _), (42, _)] ⟨rfl, rfl, rfl, rfl, rfl, rfl, rfl, trivial⟩ ?_
    refine WC.cond rfl (fun h82 => ?_) (fun h82 => ?_)
    ·
      have p82 := (dec_t h82)
      have mup : (Sp.marks (Sp.norm a ++ Sp.norm b))[i - 1]! ≤ (Sp.marks (Sp.norm a ++ Sp.norm b))[i]! := Int.le_of_lt (Inc.inc_at (Sp.marks_up _) (show i - 1 < i from by omega) (by omega))
      refine WC.skip ?_
      refine WK.then_normal (k80 _ _ ?_)
      refine WC.sub [(0, _), (1, _), (2, _), (7, _), (10, _), (11, _)] ⟨rfl, rfl, rfl, rfl, rfl, rfl, trivial⟩ ?_
      refine WC.seq (fun K83 k83 => ?_)
      refine WC.block ?_
      refine WC.seq (fun K84 k84 => ?_)
      refine WC.block ?_
      refine WC.sub [(0, _), (1, _), (2, _), (7, _), (10, _), (11, _)] ⟨rfl, rfl, rfl, rfl, rfl, rfl, trivial⟩ ?_
      refine WC.loopS 1 (fun mz Ed W' => ∃ pc : Nat, mz = n15 - pc ∧ Ed = [(0, .slice (dropA A14 c16 2 pc) (n15 - pc) (c16 - pc))] ∧ Ext w W' ∧ OwnL W' w.heap.size 32 Sp.S.c 2 (.slice A14 n15 c16) _ ∧ OwnL W' w.heap.size 32 Sp.S.c 2 (.slice A18 n19 c20) _ ∧ OwnL W' w.heap.size 3 Sp.ic 1 (.slice A75 n76 c77) _ ∧ OwnL W' w.heap.size 32 Sp.S.c 2 v _ ∧ (pc ≤ n15) ∧ (∀ j, j < pc → (Sp.norm a)[j]!.t ≤ (Sp.marks (Sp.norm a ++ Sp.norm b))[i - 1]!)) _ ⟨p, rfl, rfl, xW, ow6, ow10, ow68, ow_v, le_p, in_p⟩ ?_
      rintro _ _ w85 ⟨pc, rfl, rfl, xW, ow6, ow10, ow68, ow_v, le_pc, in_pc⟩
      refine WC.sub [(0, _), (1, _), (2, _), (7, _), (10, _), (11, _)] ⟨rfl, rfl, rfl, rfl, rfl, rfl, trivial⟩ ?_
      have hl17 := OwnL.ls ow6 (fun _ => rfl) (by decide)
      have hl21 := OwnL.ls ow10 (fun _ => rfl) (by decide)
      have hl78 := OwnL.ls ow68 (fun _ => rfl) (by decide)
      refine WC.seq (fun K86 k86 => ?_)
      refine WC.seq (fun K87 k87 => ?_)
      refine WC.regionDq (by kernel_rfl) (by kernel_rfl) rfl ?_
      refine WQ.yld rfl (blt rfl) rfl (Y.move rfl rfl) ?_
      refine WQ.yld rfl (blt rfl) rfl (Y.lenSl rfl rfl rfl Try.underlying22 rfl) ?_
      refine WQ.yld rfl (blt rfl) rfl (Y.gtr rfl rfl rfl) ?_
      refine WQ.yld rfl (blt rfl) rfl (Y.move rfl rfl) ?_
      refine WQ.yldG rfl (blt rfl) rfl rfl rfl (fun hb => Y.move rfl rfl) ?_
      refine WQ.yldG rfl (blt rfl) rfl rfl rfl (fun hb => Y.indexLs 0 (Ls.drops hl17 le_pc) rfl Try.underlying22 ti32 (evg rfl hb) rfl rfl (by have q0 := (dec_t hb); omega)) ?_
      refine WQ.yldG rfl (blt rfl) rfl rfl rfl (fun hb => Y.fieldE rfl Try.underlying32 rfl ti3 (by decide) (evg rfl hb)) ?_
      refine WQ.yldG rfl (blt rfl) rfl rfl rfl (fun hb => Y.load1 rfl Try.underlying3 rfl (evg rfl hb) (Ls.at_ext (Ls.drops hl17 le_pc) (by have q0 := (dec_t hb); omega) rfl)) ?_
      refine WQ.yldG rfl (blt rfl) rfl rfl rfl (fun hb => Y.move rfl rfl) ?_
      refine WQ.yldG rfl (blt rfl) rfl rfl rfl (fun hb => Y.move rfl rfl) ?_
      refine WQ.yldG rfl (blt rfl) rfl rfl rfl (fun hb => Y.sub rfl (evg rfl hb) rfl (wrap_i64 (by have q0 := (dec_t hb); first | omega | (dsimp only; omega)))) ?_
      refine WQ.yldG rfl (blt rfl) rfl rfl rfl (fun hb => Y.indexLs (i - 1) hl78 rfl Try.underlying24 ti3 (evg rfl hb) (evg rfl hb) (by have q0 := (dec_t hb); omega) (by have q0 := (dec_t hb); omega)) ?_
      refine WQ.yldG rfl (blt rfl) rfl rfl rfl (fun hb => Y.load1 rfl Try.underlying3 rfl (evg rfl hb) (Ls.at_ext hl78 (by have q0 := (dec_t hb); omega) rfl)) ?_
      refine WQ.yldG rfl (blt rfl) rfl rfl rfl (fun hb => Y.leq rfl (evg rfl hb) (evg rfl hb)) ?_
      refine WQ.yld rfl (blt rfl) rfl (Y.and rfl rfl rfl rfl) ?_
      refine WQ.done (fun w88 x89 => ?_)
      have ow6 := ow6.ext x89
      have hl17 := hl17.ext x89
      have ow10 := ow10.ext x89
      have hl21 := hl21.ext x89
      have ow68 := ow68.ext x89
      have hl78 := hl78.ext x89
      have ow_v := ow_v.ext x89
      have xW := Ext.trans xW x89
      refine WK.then_normal (k87 _ _ ?_)
      refine WC.sub [(0, _), (1, _), (2, _), (7, _), (10, _), (11, _), (59, _)] ⟨rfl, rfl, rfl, rfl, rfl, rfl, rfl, trivial⟩ ?_
      refine WC.cond rfl (fun h90 => ?_) (fun h90 => ?_)
      ·
        have p90 := (And.intro (dec_t (and_t h90).1) (dec_t (and_t h90).2))
        refine WC.skip ?_
        refine WK.then_normal (k86 _ _ ?_)
        refine WC.sub [(0, _), (1, _), (2, _), (7, _), (10, _), (11, _)] ⟨rfl, rfl, rfl, rfl, rfl, rfl, trivial⟩ ?_
        refine WC.block ?_
        refine WC.region rfl ?_
        refine WL.yld rfl (blt rfl) rfl (Y.move rfl rfl) ?_
        have b91 : 1 ≤ (n15 - pc) := by omega
        refine WL.yld rfl (blt rfl) rfl (Y.sliceL 1 rfl Try.underlying22 ti32 rfl rfl rfl b91) ?_
        refine WL.yld rfl (blt rfl) rfl (Y.assign rfl rfl) ?_
        refine WL.nil ?_
        refine WK.in_normal ?_
        refine WK.roundS _ [(0, .slice (dropA A14 c16 2 (pc + 1)) (n15 - (pc + 1)) (c16 - (pc + 1)))] ⟨rfl, rfl, rfl, rfl, rfl, rfl, trivial⟩ ?_ ⟨(pc + 1), rfl, rfl, xW, ow6, ow10, ow68, ow_v, (by have q := dec_t (and_t h90).1; omega), (Sp.head_step in_pc h90)⟩
        have q := dec_t (and_t h90).1; show _ - (pc + 1) < _ - pc; omega
      ·
        have p90 := ((and_f h90).imp (fun h => (dec_f h)) (fun h => (dec_f h)))
        have hxa := Sp.head_at (Sp.norm_norm a) (by omega) le_pc in_pc h90
        refine WC.exit ?_
        refine WK.then_exit ?_
        refine WK.then_exit ?_
        refine WK.in_exit ?_
        refine WK.then_normal (k84 _ _ ?_)
        refine WC.sub [(0, _), (1, _), (2, _), (7, _), (10, _), (11, _)] ⟨rfl, rfl, rfl, rfl, rfl, rfl, trivial⟩ ?_
        refine WC.seq (fun K92 k92 => ?_)
        refine WC.block ?_
        refine WC.sub [(1, _), (0, _), (2, _), (7, _), (10, _), (11, _)] ⟨rfl, rfl, rfl, rfl, rfl, rfl, trivial⟩ ?_
        refine WC.loopS 1 (fun mz Ed W' => ∃ rc : Nat, mz = n19 - rc ∧ Ed = [(1, .slice (dropA A18 c20 2 rc) (n19 - rc) (c20 - rc))] ∧ Ext w W' ∧ OwnL W' w.heap.size 32 Sp.S.c 2 (.slice A14 n15 c16) _ ∧ OwnL W' w.heap.size 32 Sp.S.c 2 (.slice A18 n19 c20) _ ∧ OwnL W' w.heap.size 3 Sp.ic 1 (.slice A75 n76 c77) _ ∧ OwnL W' w.heap.size 32 Sp.S.c 2 v _ ∧ (rc ≤ n19) ∧ (∀ j, j < rc → (Sp.norm b)[j]!.t ≤ (Sp.marks (Sp.norm a ++ Sp.norm b))[i - 1]!)) _ ⟨r, rfl, rfl, xW, ow6, ow10, ow68, ow_v, le_r, in_r⟩ ?_
        rintro _ _ w93 ⟨rc, rfl, rfl, xW, ow6, ow10, ow68, ow_v, le_rc, in_rc⟩
        refine WC.sub [(1, _), (0, _), (2, _), (7, _), (10, _), (11, _)] ⟨rfl, rfl, rfl, rfl, rfl, rfl, trivial⟩ ?_
        have hl17 := OwnL.ls ow6 (fun _ => rfl) (by decide)
        have hl21 := OwnL.ls ow10 (fun _ => rfl) (by decide)
        have hl78 := OwnL.ls ow68 (fun _ => rfl) (by decide)
        refine WC.seq (fun K94 k94 => ?_)
        refine WC.seq (fun K95 k95 => ?_)
        refine WC.regionDq (by kernel_rfl) (by kernel_rfl) rfl ?_
        refine WQ.yld rfl (blt rfl) rfl (Y.move rfl rfl) ?_
        refine WQ.yld rfl (blt rfl) rfl (Y.lenSl rfl rfl rfl Try.underlying22 rfl) ?_
        refine WQ.yld rfl (blt rfl) rfl (Y.gtr rfl rfl rfl) ?_
        refine WQ.yld rfl (blt rfl) rfl (Y.move rfl rfl) ?_
        refine WQ.yldG rfl (blt rfl) rfl rfl rfl (fun hb => Y.move rfl rfl) ?_
        refine WQ.yldG rfl (blt rfl) rfl rfl rfl (fun hb => Y.indexLs 0 (Ls.drops hl21 le_rc) rfl Try.underlying22 ti32 (evg rfl hb) rfl rfl (by have q0 := (dec_t hb); omega)) ?_
        refine WQ.yldG rfl (blt rfl) rfl rfl rfl (fun hb => Y.fieldE rfl Try.underlying32 rfl ti3 (by decide) (evg rfl hb)) ?_
        refine WQ.yldG rfl (blt rfl) rfl rfl rfl (fun hb => Y.load1 rfl Try.underlying3 rfl (evg rfl hb) (Ls.at_ext (Ls.drops hl21 le_rc) (by have q0 := (dec_t hb); omega) rfl)) ?_
        refine WQ.yldG rfl (blt rfl) rfl rfl rfl (fun hb => Y.move rfl rfl) ?_
        refine WQ.yldG rfl (blt rfl) rfl rfl rfl (fun hb => Y.move rfl rfl) ?_
        refine WQ.yldG rfl (blt rfl) rfl rfl rfl (fun hb => Y.sub rfl (evg rfl hb) rfl (wrap_i64 (by have q0 := (dec_t hb); first | omega | (dsimp only; omega)))) ?_
        refine WQ.yldG rfl (blt rfl) rfl rfl rfl (fun hb => Y.indexLs (i - 1) hl78 rfl Try.underlying24 ti3 (evg rfl hb) (evg rfl hb) (by have q0 := (dec_t hb); omega) (by have q0 := (dec_t hb); omega)) ?_
        refine WQ.yldG rfl (blt rfl) rfl rfl rfl (fun hb => Y.load1 rfl Try.underlying3 rfl (evg rfl hb) (Ls.at_ext hl78 (by have q0 := (dec_t hb); omega) rfl)) ?_
        refine WQ.yldG rfl (blt rfl) rfl rfl rfl (fun hb => Y.leq rfl (evg rfl hb) (evg rfl hb)) ?_
        refine WQ.yld rfl (blt rfl) rfl (Y.and rfl rfl rfl rfl) ?_
        refine WQ.done (fun w96 x97 => ?_)
        have ow6 := ow6.ext x97
        have hl17 := hl17.ext x97
        have ow10 := ow10.ext x97
        have hl21 := hl21.ext x97
        have ow68 := ow68.ext x97
        have hl78 := hl78.ext x97
        have ow_v := ow_v.ext x97
        have xW := Ext.trans xW x97
        refine WK.then_normal (k95 _ _ ?_)
        refine WC.sub [(0, _), (1, _), (2, _), (7, _), (10, _), (11, _), (76, _)] ⟨rfl, rfl, rfl, rfl, rfl, rfl, rfl, trivial⟩ ?_
        refine WC.cond rfl (fun h98 => ?_) (fun h98 => ?_)
        ·
          have p98 := (And.intro (dec_t (and_t h98).1) (dec_t (and_t h98).2))
          refine WC.skip ?_
          refine WK.then_normal (k94 _ _ ?_)
          refine WC.sub [(0, _), (1, _), (2, _), (7, _), (10, _), (11, _)] ⟨rfl, rfl, rfl, rfl, rfl, rfl, trivial⟩ ?_
          refine WC.block ?_
          refine WC.region rfl ?_
          refine WL.yld rfl (blt rfl) rfl (Y.move rfl rfl) ?_
          have b99 : 1 ≤ (n19 - rc) := by omega
          refine WL.yld rfl (blt rfl) rfl (Y.sliceL 1 rfl Try.underlying22 ti32 rfl rfl rfl b99) ?_
          refine WL.yld rfl (blt rfl) rfl (Y.assign rfl rfl) ?_
          refine WL.nil ?_
          refine WK.in_normal ?_
          refine WK.roundS _ [(1, .slice (dropA A18 c20 2 (rc + 1)) (n19 - (rc + 1)) (c20 - (rc + 1)))] ⟨rfl, rfl, rfl, rfl, rfl, rfl, trivial⟩ ?_ ⟨(rc + 1), rfl, rfl, xW, ow6, ow10, ow68, ow_v, (by have q := dec_t (and_t h98).1; omega), (Sp.head_step in_rc h98)⟩
          have q := dec_t (and_t h98).1; show _ - (rc + 1) < _ - rc; omega
        ·
          have p98 := ((and_f h98).imp (fun h => (dec_f h)) (fun h => (dec_f h)))
          have hxb := Sp.head_at (Sp.norm_norm b) (by omega) le_rc in_rc h98
          refine WC.exit ?_
          refine WK.then_exit ?_
          refine WK.then_exit ?_
          refine WK.in_exit ?_
          refine WK.then_normal (k92 _ _ ?_)
          refine WC.sub [(0, _), (1, _), (2, _), (7, _), (10, _), (11, _)] ⟨rfl, rfl, rfl, rfl, rfl, rfl, trivial⟩ ?_
          refine WC.seq (fun K100 k100 => ?_)
          refine WC.regionDq (by kernel_rfl) (by kernel_rfl) rfl ?_
          refine WQ.yld rfl (blt rfl) rfl (Y.move rfl rfl) ?_
          refine WQ.yld rfl (blt rfl) rfl (Y.lenSl rfl rfl rfl Try.underlying22 rfl) ?_
          refine WQ.yld rfl (blt rfl) rfl (Y.gtr rfl rfl rfl) ?_
          refine WQ.yld rfl (blt rfl) rfl (Y.move rfl rfl) ?_
          refine WQ.yldG rfl (blt rfl) rfl rfl rfl (fun hb => Y.move rfl rfl) ?_
          refine WQ.yldG rfl (blt rfl) rfl rfl rfl (fun hb => Y.indexLs 0 (Ls.drops hl17 le_pc) rfl Try.underlying22 ti32 (evg rfl hb) rfl rfl (by have q0 := (dec_t hb); omega)) ?_
          refine WQ.yldG rfl (blt rfl) rfl rfl rfl (fun hb => Y.fieldE rfl Try.underlying32 rfl ti3 (by decide) (evg rfl hb)) ?_
          refine WQ.yldG rfl (blt rfl) rfl rfl rfl (fun hb => Y.load1 rfl Try.underlying3 rfl (evg rfl hb) (Ls.at_ext (Ls.drops hl17 le_pc) (by have q0 := (dec_t hb); omega) rfl)) ?_
          refine WQ.yldG rfl (blt rfl) rfl rfl rfl (fun hb => Y.move rfl rfl) ?_
          refine WQ.yldG rfl (blt rfl) rfl rfl rfl (fun hb => Y.move rfl rfl) ?_
          refine WQ.yldG rfl (blt rfl) rfl rfl rfl (fun hb => Y.sub rfl (evg rfl hb) rfl (wrap_i64 (by have q0 := (dec_t hb); first | omega | (dsimp only; omega)))) ?_
          refine WQ.yldG rfl (blt rfl) rfl rfl rfl (fun hb => Y.indexLs (i - 1) hl78 rfl Try.underlying24 ti3 (evg rfl hb) (evg rfl hb) (by have q0 := (dec_t hb); omega) (by have q0 := (dec_t hb); omega)) ?_
          refine WQ.yldG rfl (blt rfl) rfl rfl rfl (fun hb => Y.load1 rfl Try.underlying3 rfl (evg rfl hb) (Ls.at_ext hl78 (by have q0 := (dec_t hb); omega) rfl)) ?_
          refine WQ.yldG rfl (blt rfl) rfl rfl rfl (fun hb => Y.leq rfl (evg rfl hb) (evg rfl hb)) ?_
          refine WQ.yld rfl (blt rfl) rfl (Yld.cast (Y.and rfl rfl rfl rfl) (vb hxa)) ?_
          refine WQ.yld rfl (blt rfl) rfl (Y.assign rfl rfl) ?_
          refine WQ.done (fun w101 x102 => ?_)
          have ow6 := ow6.ext x102
          have hl17 := hl17.ext x102
          have ow10 := ow10.ext x102
          have hl21 := hl21.ext x102
          have ow68 := ow68.ext x102
          have hl78 := hl78.ext x102
          have ow_v := ow_v.ext x102
          have xW := Ext.trans xW x102
          refine WK.then_normal (k100 _ _ ?_)
          refine WC.sub [(0, _), (1, _), (2, _), (7, _), (10, _), (11, _), (12, _)] ⟨rfl, rfl, rfl, rfl, rfl, rfl, rfl, trivial⟩ ?_
          refine WC.seq (fun K103 k103 => ?_)
          refine WC.regionDq (by kernel_rfl) (by kernel_rfl) rfl ?_
          refine WQ.yld rfl (blt rfl) rfl (Y.move rfl rfl) ?_
          refine WQ.yld rfl (blt rfl) rfl (Y.lenSl rfl rfl rfl Try.underlying22 rfl) ?_
          refine WQ.yld rfl (blt rfl) rfl (Y.gtr rfl rfl rfl) ?_
          refine WQ.yld rfl (blt rfl) rfl (Y.move rfl rfl) ?_
          refine WQ.yldG rfl (blt rfl) rfl rfl rfl (fun hb => Y.move rfl rfl) ?_
          refine WQ.yldG rfl (blt rfl) rfl rfl rfl (fun hb => Y.indexLs 0 (Ls.drops hl21 le_rc) rfl Try.underlying22 ti32 (evg rfl hb) rfl rfl (by have q0 := (dec_t hb); omega)) ?_
          refine WQ.yldG rfl (blt rfl) rfl rfl rfl (fun hb => Y.fieldE rfl Try.underlying32 rfl ti3 (by decide) (evg rfl hb)) ?_
          refine WQ.yldG rfl (blt rfl) rfl rfl rfl (fun hb => Y.load1 rfl Try.underlying3 rfl (evg rfl hb) (Ls.at_ext (Ls.drops hl21 le_rc) (by have q0 := (dec_t hb); omega) rfl)) ?_
          refine WQ.yldG rfl (blt rfl) rfl rfl rfl (fun hb => Y.move rfl rfl) ?_
          refine WQ.yldG rfl (blt rfl) rfl rfl rfl (fun hb => Y.move rfl rfl) ?_
          refine WQ.yldG rfl (blt rfl) rfl rfl rfl (fun hb => Y.sub rfl (evg rfl hb) rfl (wrap_i64 (by have q0 := (dec_t hb); first | omega | (dsimp only; omega)))) ?_
          refine WQ.yldG rfl (blt rfl) rfl rfl rfl (fun hb => Y.indexLs (i - 1) hl78 rfl Try.underlying24 ti3 (evg rfl hb) (evg rfl hb) (by have q0 := (dec_t hb); omega) (by have q0 := (dec_t hb); omega)) ?_
          refine WQ.yldG rfl (blt rfl) rfl rfl rfl (fun hb => Y.load1 rfl Try.underlying3 rfl (evg rfl hb) (Ls.at_ext hl78 (by have q0 := (dec_t hb); omega) rfl)) ?_
          refine WQ.yldG rfl (blt rfl) rfl rfl rfl (fun hb => Y.leq rfl (evg rfl hb) (evg rfl hb)) ?_
          refine WQ.yld rfl (blt rfl) rfl (Yld.cast (Y.and rfl rfl rfl rfl) (vb hxb)) ?_
          refine WQ.yld rfl (blt rfl) rfl (Y.assign rfl rfl) ?_
          refine WQ.done (fun w104 x105 => ?_)
          have ow6 := ow6.ext x105
          have hl17 := hl17.ext x105
          have ow10 := ow10.ext x105
          have hl21 := hl21.ext x105
          have ow68 := ow68.ext x105
          have hl78 := hl78.ext x105
          have ow_v := ow_v.ext x105
          have xW := Ext.trans xW x105
          refine WK.then_normal (k103 _ _ ?_)
          refine WC.sub [(0, _), (1, _), (2, _), (7, _), (10, _), (11, _), (12, _), (13, _)] ⟨rfl, rfl, rfl, rfl, rfl, rfl, rfl, rfl, trivial⟩ ?_
          refine WC.seq (fun K106 k106 => ?_)
          refine WC.region rfl ?_
          refine WL.yld rfl (blt rfl) rfl (Y.move rfl rfl) ?_
          refine WL.yld rfl (blt rfl) rfl (Y.move rfl rfl) ?_
          refine WL.yld rfl (blt rfl) rfl (Y.move rfl rfl) ?_
          refine WL.callF rfl (blt rfl) rfl rfl rfl rfl has36 rfl (keepm_any _ _ _ ) ?_
          rintro _ w107 ⟨rfl, x108⟩
          refine ⟨_, rfl, ?_⟩
          have ow6 := ow6.ext x108
          have hl17 := hl17.ext x108
          have ow10 := ow10.ext x108
          have hl21 := hl21.ext x108
          have ow68 := ow68.ext x108
          have hl78 := hl78.ext x108
          have ow_v := ow_v.ext x108
          have xW := Ext.trans xW x108
          refine WL.nil ?_
          refine WK.then_normal (k106 _ _ ?_)
          refine WC.sub [(0, _), (1, _), (2, _), (7, _), (10, _), (11, _), (112, _)] ⟨rfl, rfl, rfl, rfl, rfl, rfl, rfl, trivial⟩ ?_
          refine WC.cond rfl (fun h109 => ?_) (fun h109 => ?_)
          ·
            refine WC.regionX (fun W' => Ext w W' ∧ Ls W' A14 n15 c16 Sp.S.c 2 _ ∧ Ls W' A18 n19 c20 Sp.S.c 2 _ ∧ Ls W' A75 n76 c77 Sp.ic 1 _) (.load 0 (.load 1 (.load 2 (.load 3 (.load 4 (.load 5 (.load 6 (.load 7 (.load 8 (.load 9 (.load 10 (.alt 11 (.alt 12 (.load 13 (.fin)) (.none)) (.none))))))))))))) ⟨xW, hl17, hl21, hl78⟩ (by kernel_rfl) (by kernel_rfl) (fun w110 x111 => ?_)
            have ow6 := ow6.ext x111
            have hl17 := hl17.ext x111
            have ow10 := ow10.ext x111
            have hl21 := hl21.ext x111
            have ow68 := ow68.ext x111
            have hl78 := hl78.ext x111
            have ow_v := ow_v.ext x111
            have xW := Ext.trans xW x111
            refine WX.yld rfl rfl (blt rfl) rfl (Y.move rfl rfl) ?_
            refine WX.yld rfl rfl (blt rfl) rfl (Y.move rfl rfl) ?_
            refine WX.yld rfl rfl (blt rfl) rfl (Y.move rfl rfl) ?_
            refine WX.yld rfl rfl (blt rfl) rfl (Y.sub rfl rfl rfl (wrap_i64 (by first | omega | (dsimp only; omega)))) ?_
            have b112 : (i - 1) < n76 := by omega
            refine WX.yld rfl rfl (blt rfl) rfl (Y.indexLs (i - 1) hl78 rfl Try.underlying24 ti3 rfl rfl (by omega) b112) ?_
            refine WX.yld rfl rfl (blt rfl) rfl (Y.load1 rfl Try.underlying3 rfl rfl (Ls.at_c (fun _ h => h.2.2.2) b112 rfl)) ?_
            refine WX.yld rfl rfl (blt rfl) rfl (Y.move rfl rfl) ?_
            refine WX.yld rfl rfl (blt rfl) rfl (Y.move rfl rfl) ?_
            have b113 : i < n76 := by omega
            refine WX.yld rfl rfl (blt rfl) rfl (Y.indexLs i hl78 rfl Try.underlying24 ti3 rfl rfl rfl b113) ?_
            refine WX.yld rfl rfl (blt rfl) rfl (Y.load1 rfl Try.underlying3 rfl rfl (Ls.at_c (fun _ h => h.2.2.2) b113 rfl)) ?_
            refine WX.yld rfl rfl (blt rfl) rfl (Y.build (cells := [_, _]) rfl pl32 rfl rfl) ?_
            refine WX.run rfl rfl (blt rfl) rfl ⟨xW, hl17, hl21, hl78⟩ (Run.bslice (zs := [.int .i64 0, .int .i64 0]) (cs := [_, _]) rfl Try.underlying22 ti32 rfl (ble rfl) (by kernel_rfl) rfl rfl) ?_
            rintro _ w115 ⟨g114, rfl, e116, x117, m118⟩
            have r_v5_g114 := ne_newO ow6 e116
            have r_v9_g114 := ne_newO ow10 e116
            have r_v70_g114 := ne_newO ow68 e116
            have r_v_g114 := ne_newO ow_v e116
            have o_g114 := own_new xW e116
            have ow6 := ow6.ext x117
            have hl17 := hl17.ext x117
            have ow10 := ow10.ext x117
            have hl21 := hl21.ext x117
            have ow68 := ow68.ext x117
            have hl78 := hl78.ext x117
            have ow_v := ow_v.ext x117
            have xW := Ext.trans xW x117
            refine WX.run rfl rfl (blt rfl) rfl ⟨xW, hl17, hl21, hl78⟩ (Run.appendB (f := Sp.S.c) (news := [⟨(Sp.marks (Sp.norm a ++ Sp.norm b))[i - 1]!, (Sp.marks (Sp.norm a ++ Sp.norm b))[i]!⟩]) rfl rfl rfl Try.underlying22 ti32 rfl (by decide) rfl ow_v (fun _ => rfl) Sp.S.one m118 rfl xW.size (by have q0 := Sp.pcs_len Sp.both (Sp.norm a) (Sp.norm b) (Sp.marks (Sp.norm a ++ Sp.norm b)) (i - 1); first | omega | (simp only [List.length_append, List.length_cons, List.length_nil, List.length_take, List.length_drop, List.length_reverse]; omega)) (Nat.le_trans (show _ ≤ 140737488355328 from by have q0 := Sp.pcs_len Sp.both (Sp.norm a) (Sp.norm b) (Sp.marks (Sp.norm a ++ Sp.norm b)) (i - 1); first | omega | (simp only [List.length_append, List.length_cons, List.length_nil, List.length_take, List.length_drop, List.length_reverse]; omega)) (by decide)) ) ?_
            rintro v119 w120 ⟨ow121, gr122, nb123⟩
            have d_v119_v5 := (Apart.app d_v_v5 nb123 ow6)
            have ow6 := OwnL.grown ow6 gr122 d_v_v5
            have hl17 := OwnL.ls ow6 (fun _ => rfl) (by decide)
            have d_v119_v9 := (Apart.app d_v_v9 nb123 ow10)
            have ow10 := OwnL.grown ow10 gr122 d_v_v9
            have hl21 := OwnL.ls ow10 (fun _ => rfl) (by decide)
            have d_v119_v70 := (Apart.app d_v_v70 nb123 ow68)
            have ow68 := OwnL.grown ow68 gr122 d_v_v70
            have hl78 := OwnL.ls ow68 (fun _ => rfl) (by decide)
            have r_v119_g114 := ne_app nb123 r_v_g114 m118
            have m118 := m118.grown gr122 r_v_g114
            have xW := Ext.grown xW gr122 (fun b hb => (OwnL.lt ow_v hb).1)
            refine WX.yld rfl rfl (blt rfl) rfl (Y.assign rfl rfl) ?_
            refine WX.nil ⟨xW, hl17, hl21, hl78⟩ ?_
            refine WK.in_normal ?_
            refine WK.then_normal (k83 _ _ ?_)
            refine WC.sub [(0, _), (1, _), (2, _), (7, _), (10, _), (11, _)] ⟨rfl, rfl, rfl, rfl, rfl, rfl, trivial⟩ ?_
            refine WC.region rfl ?_
            refine WL.yld rfl (blt rfl) rfl (Y.move rfl rfl) ?_
            refine WL.yld rfl (blt rfl) rfl (Y.add rfl rfl rfl (wrap_i64 (by first | omega | (dsimp only; omega)))) ?_
            refine WL.yld rfl (blt rfl) rfl (Y.assign rfl rfl) ?_
            refine WL.nil ?_
            refine WK.roundS _ [(11, .int .i64 (((i + 1) : Nat) : Int)), (0, .slice (dropA A14 c16 2 pc) (n15 - pc) (c16 - pc)), (1, .slice (dropA A18 c20 2 rc) (n19 - rc) (c20 - rc)), (10, v119)] ⟨rfl, rfl, rfl, rfl, rfl, rfl, trivial⟩ ?_ ⟨(i + 1), pc, rc, v119, rfl, rfl, xW, ow6, ow10, ow68, (by rw [Sp.pc_yes le_i.1 h109]; exact ow121), d_v119_v5, d_v119_v9, d_v119_v70, (by omega), le_pc, le_rc, (by rw [show i + 1 - 1 = i from by omega]; exact Sp.head_more in_pc mup), (by rw [show i + 1 - 1 = i from by omega]; exact Sp.head_more in_rc mup)⟩
            show _ - (i + 1) < _ - i; omega
          ·
            refine WC.skip ?_
            refine WK.in_normal ?_
            refine WK.then_normal (k83 _ _ ?_)
            refine WC.sub [(0, _), (1, _), (2, _), (7, _), (10, _), (11, _)] ⟨rfl, rfl, rfl, rfl, rfl, rfl, trivial⟩ ?_
            refine WC.region rfl ?_
            refine WL.yld rfl (blt rfl) rfl (Y.move rfl rfl) ?_
            refine WL.yld rfl (blt rfl) rfl (Y.add rfl rfl rfl (wrap_i64 (by first | omega | (dsimp only; omega)))) ?_
            refine WL.yld rfl (blt rfl) rfl (Y.assign rfl rfl) ?_
            refine WL.nil ?_
            refine WK.roundS _ [(11, .int .i64 (((i + 1) : Nat) : Int)), (0, .slice (dropA A14 c16 2 pc) (n15 - pc) (c16 - pc)), (1, .slice (dropA A18 c20 2 rc) (n19 - rc) (c20 - rc)), (10, v)] ⟨rfl, rfl, rfl, rfl, rfl, rfl, trivial⟩ ?_ ⟨(i + 1), pc, rc, v, rfl, rfl, xW, ow6, ow10, ow68, (by rw [Sp.pc_no le_i.1 h109]; exact ow_v), d_v_v5, d_v_v9, d_v_v70, (by omega), le_pc, le_rc, (by rw [show i + 1 - 1 = i from by omega]; exact Sp.head_more in_pc mup), (by rw [show i + 1 - 1 = i from by omega]; exact Sp.head_more in_rc mup)⟩
            show _ - (i + 1) < _ - i; omega
    ·
      have p82 := (dec_f h82)
      refine WC.exit ?_
      refine WK.then_exit ?_
      refine WK.then_exit ?_
      refine WK.in_exit ?_
      refine WK.then_normal (k73 _ _ ?_)
      refine WC.sub [(10, _)] ⟨rfl, trivial⟩ ?_
      refine WC.seq (fun K124 k124 => ?_)
      refine WC.region rfl ?_
      refine WL.yld rfl (blt rfl) rfl (Y.move rfl rfl) ?_
      obtain ⟨A125, n126, c127, rfl, hl128⟩ := OwnL.opened ow_v (fun _ => rfl) (by decide)
      have e_n126 := hl128.len
      try simp only [List.length_append, List.length_cons, List.length_nil, List.length_reverse, List.length_drop, List.length_take, List.length_map, List.length_replicate] at e_n126
      have z_n126 := hl128.nle
      refine WL.call rfl (blt rfl) rfl rfl rfl has43 rfl (normal_any _ _ _ _ _ hl128 (by have q := Sp.pcs_len Sp.both (Sp.norm a) (Sp.norm b) (Sp.marks (Sp.norm a ++ Sp.norm b)) (i - 1); omega)) ?_
      rintro _ w129 ⟨v131, rfl, ow132, x130⟩
      refine ⟨_, rfl, ?_⟩
      have d_v_v131 := (Apart.res ow132 ow_v).symm
      have ow132 := OwnL.base_le ow132 xW.size
      have ow_v := ow_v.ext x130
      have hl128 := hl128.ext x130
      have xW := Ext.trans xW x130
      refine WL.yld rfl (blt rfl) rfl (Y.assign rfl rfl) ?_
      refine WL.nil ?_
      refine WK.then_normal (k124 _ _ ?_)
      refine WC.sub [(6, _)] ⟨rfl, trivial⟩ ?_
      refine WC.ret ?_
      clear k1 k2 k11 k12 k13 k36 k37 k60 k65 k72 k73 k74 k80 k81 k124
      refine WK.ret [_] rfl ⟨rfl, trivial⟩ ?_
      refine ⟨_, rfl, ?_, xW⟩
      rw [show i - 1 = (Sp.marks (Sp.norm a ++ Sp.norm b)).length - 1 from by omega, Sp.comb_code rfl] at ow132
      exact ow132
theorem meet_any (A_a : Option Addr) (n_a c_a : Nat) (a : List Sp.S) (A_b : Option Addr) (n_b c_b : Nat) (b : List Sp.S) (w : World) (h_a : Ls w A_a n_a c_a Sp.S.c 2 a) (h_b : Ls w A_b n_b c_b Sp.S.c 2 b) (ha : n_a ≤ 10000) (hb : n_b ≤ 10000) :
    Calls Try.prog 21 #[.slice A_a n_a c_a, .slice A_b n_b c_b] w fun e w' => ∃ v, e = .returned v ∧ OwnL w' w.heap.size 32 Sp.S.c 2 v (Sp.comb Sp.both a b) ∧ Ext w w' := by
  have xW := Ext.refl w
  have e_a := h_a.len
  have z_a := h_a.nle
  have e_b := h_b.len
  have z_b := h_b.nle
  refine calls_of_WC (args := [.slice A_a n_a c_a, .slice A_b n_b c_b]) Try.func21 rfl rfl (ble rfl) ?_
  refine WC.seq (fun K1 k1 => ?_)
  refine WC.region rfl ?_
  refine WL.yld rfl (blt rfl) rfl (Y.assign rfl rfl) ?_
  refine WL.nil ?_
  refine WK.then_normal (k1 _ _ ?_)
  refine WC.sub [(0, _), (1, _)] ⟨rfl, rfl, trivial⟩ ?_
  refine WC.seq (fun K2 k2 => ?_)
  refine WC.region rfl ?_
  refine WL.yld rfl (blt rfl) rfl (Y.move rfl rfl) ?_
  refine WL.yld rfl (blt rfl) rfl (Y.move rfl rfl) ?_
  refine WL.call rfl (blt rfl) rfl rfl rfl has35 rfl (combm_any _ _ _ _ _ _ _ _ _ (h_a.ext xW) (h_b.ext xW) (by omega) (by omega)) ?_
  rintro _ w3 ⟨v5, rfl, ow6, x4⟩
  refine ⟨_, rfl, ?_⟩
  have ow6 := OwnL.base_le ow6 xW.size
  have xW := Ext.trans xW x4
  refine WL.yld rfl (blt rfl) rfl (Y.assign rfl rfl) ?_
  refine WL.nil ?_
  refine WK.then_normal (k2 _ _ ?_)
  refine WC.sub [(4, _)] ⟨rfl, trivial⟩ ?_
  refine WC.ret ?_
  clear k1 k2
  refine WK.ret [_] rfl ⟨rfl, trivial⟩ ?_
  refine ⟨_, rfl, ?_, xW⟩
  exact ow6
end K
end ItW

end Go.Proofs.Ytbdfhiihaemjhaa
