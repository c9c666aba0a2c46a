/- Contracts: lists one behind another. Conditions: what each theorem states. -/
import Derived.Test.YtoldedanhmkolaaSpNorm
namespace Go.Proofs.Ytoldedanhmkolaa
open Go Go.Eng Go.RowKit
set_option linter.unusedVariables false
namespace SpW
open Q
namespace C
theorem ti22 : TI Try.prog 22 (.slice none 0 0) 1 24 := TI.mk (by kernel_rfl)
theorem ti27 : TI Try.prog 27 (.agg #[.int .i64 0, .int .i64 0]) 2 16 := TI.mk (by kernel_rfl)
theorem has14 : Has Try.prog 14 := ⟨_, Try.func14, rfl, by kernel_rfl⟩
theorem has32 : Has Try.prog 32 := ⟨_, Try.func32, rfl, by kernel_rfl⟩
theorem has43 : Has Try.prog 43 := ⟨_, Try.func43, rfl, by kernel_rfl⟩
theorem concat_any (A_l : Option Addr) (n_l c_l : Nat) (l : List (Slc Sp.S)) (w : World) (h_l : Ls w A_l n_l c_l Slc.v 1 l) (g_l : ∀ x ∈ l, Ls w x.A x.n x.c Sp.S.c 2 x.l) (ht : total l ≤ 100000) :
    Calls Try.prog 32 #[.slice A_l n_l c_l] w fun e w' => ∃ v, e = .returned v ∧ OwnL w' w.heap.size 27 Sp.S.c 2 v (l.flatMap fun x => x.l) ∧ Ext w w' := by
  have xW := Ext.refl w
  have e_l := h_l.len
  have z_l := h_l.nle
  refine calls_of_WC (args := [.slice A_l n_l c_l]) Try.func32 rfl rfl (ble rfl) ?_
  refine WC.seq (fun K1 k1 => ?_)
  refine WC.region rfl ?_
  refine WL.yld rfl (blt rfl) rfl (Y.assign rfl rfl) ?_
  refine WL.nil ?_
  refine WK.then_normal (k1 _ _ ?_)
  refine WC.sub [(0, _)] ⟨rfl, trivial⟩ ?_
  refine WC.seq (fun K2 k2 => ?_)
  refine WC.region rfl ?_
  refine WL.yld rfl (blt rfl) rfl (Y.assign rfl rfl) ?_
  refine WL.nil ?_
  refine WK.then_normal (k2 _ _ ?_)
  refine WC.seq (fun K3 k3 => ?_)
  refine WC.seq (fun K4 k4 => ?_)
  refine WC.region rfl ?_
  refine WL.yld rfl (blt rfl) rfl (Y.move rfl rfl) ?_
  refine WL.yld rfl (blt rfl) rfl (Y.lenSl rfl rfl rfl Try.underlying49 rfl) ?_
  refine WL.yld rfl (blt rfl) rfl (Y.move rfl rfl) ?_
  refine WL.nil ?_
  refine WK.then_normal (k4 _ _ ?_)
  refine WC.block ?_
  refine WC.sub [(11, _), (3, _), (0, _), (9, _), (10, _)] ⟨rfl, rfl, rfl, rfl, rfl, trivial⟩ ?_
  refine WC.loopS 2 (fun mz Ed W' => ∃ i : Nat, ∃ z : Nat, mz = n_l - i ∧ Ed = [(11, .int .i64 ((i : Nat) : Int)), (3, .int .i64 ((z : Nat) : Int))] ∧ Ext w W' ∧ (i ≤ n_l) ∧ (z = total (l.take i))) _ ⟨0, 0, rfl, rfl, xW, (Nat.zero_le _), rfl⟩ ?_
  rintro _ _ w5 ⟨i, z, rfl, rfl, xW, le_i, zi⟩
  refine WC.sub [(11, _), (3, _), (0, _), (9, _), (10, _)] ⟨rfl, rfl, rfl, rfl, rfl, trivial⟩ ?_
  refine WC.seq (fun K6 k6 => ?_)
  refine WC.region rfl ?_
  refine WL.yld rfl (blt rfl) rfl (Y.lss rfl rfl rfl) ?_
  refine WL.nil ?_
  refine WK.then_normal (k6 _ _ ?_)
  refine WC.seq (fun K7 k7 => ?_)
  refine WC.cond rfl (fun h8 => ?_) (fun h8 => ?_)
  ·
    have p8 := (dec_t h8)
    have tt := total_le l (i + 1)
    have tk := total_take (l := l) (show i < l.length from by omega)
    refine WC.skip ?_
    refine WK.then_normal (k7 _ _ ?_)
    refine WC.sub [(0, _), (3, _), (9, _), (10, _), (11, _)] ⟨rfl, rfl, rfl, rfl, rfl, trivial⟩ ?_
    refine WC.seq (fun K9 k9 => ?_)
    refine WC.block ?_
    refine WC.seq (fun K10 k10 => ?_)
    refine WC.region rfl ?_
    have b11 : i < n_l := by omega
    refine WL.yld rfl (blt rfl) rfl (Y.indexLs i (h_l.ext xW) rfl Try.underlying49 ti22 rfl rfl rfl b11) ?_
    refine WL.yld rfl (blt rfl) rfl (Y.load1 rfl Try.underlying22 rfl rfl (Ls.at_eq (h_l.ext xW) b11 rfl)) ?_
    refine WL.yld rfl (blt rfl) rfl (Y.assign rfl rfl) ?_
    refine WL.nil ?_
    refine WK.then_normal (k10 _ _ ?_)
    refine WC.sub [(0, _), (3, _), (5, _), (9, _), (10, _), (11, _)] ⟨rfl, rfl, rfl, rfl, rfl, rfl, trivial⟩ ?_
    refine WC.seq (fun K12 k12 => ?_)
    refine WC.region rfl ?_
    refine WL.yld rfl (blt rfl) rfl (Y.move rfl rfl) ?_
    refine WL.yld rfl (blt rfl) rfl (Y.move rfl rfl) ?_
    refine WL.yld rfl (blt rfl) rfl (Y.lenSl rfl rfl rfl Try.underlying22 rfl) ?_
    refine WL.yld rfl (blt rfl) rfl (Y.add rfl rfl rfl (wrap_i64 (by first | omega | (dsimp only; omega)))) ?_
    refine WL.yld rfl (blt rfl) rfl (Y.assign rfl rfl) ?_
    refine WL.nil ?_
    refine WK.then_normal (k12 _ _ ?_)
    refine WC.sub [(0, _), (3, _), (9, _), (10, _), (11, _)] ⟨rfl, rfl, rfl, rfl, rfl, trivial⟩ ?_
    refine WC.seq (fun K13 k13 => ?_)
    refine WC.region rfl ?_
    refine WL.yld rfl (blt rfl) rfl (Y.move rfl rfl) ?_
    refine WL.yld rfl (blt rfl) rfl (Yld.cast (Y.lss rfl rfl rfl) (bf (by omega))) ?_
    refine WL.nil ?_
    refine WK.then_normal (k13 _ _ ?_)
    refine WC.sub [(0, _), (3, _), (9, _), (10, _), (11, _), (20, _)] ⟨rfl, rfl, rfl, rfl, rfl, rfl, trivial⟩ ?_
    refine WC.condF rfl ?_
    refine WC.skip ?_
    refine WK.in_normal ?_
    refine WK.then_normal (k9 _ _ ?_)
    refine WC.sub [(0, _), (3, _), (9, _), (10, _), (11, _)] ⟨rfl, rfl, rfl, rfl, rfl, trivial⟩ ?_
    refine WC.region rfl ?_
    refine WL.yld rfl (blt rfl) rfl (Y.add rfl rfl rfl (wrap_i64 (by first | omega | (dsimp only; omega)))) ?_
    refine WL.yld rfl (blt rfl) rfl (Y.move rfl rfl) ?_
    refine WL.nil ?_
    refine WK.roundS _ [(11, .int .i64 (((i + 1) : Nat) : Int)), (3, .int .i64 (((z + l[i]!.n) : Nat) : Int))] ⟨rfl, rfl, rfl, rfl, rfl, trivial⟩ ?_ ⟨(i + 1), (z + l[i]!.n), rfl, rfl, xW, (by omega), (by rw [tk, ← zi])⟩
    show _ - (i + 1) < _ - i; omega
  ·
    have p8 := (dec_f h8)
    have tt := total_le l i
    refine WC.exit ?_
    refine WK.then_exit ?_
    refine WK.then_exit ?_
    refine WK.in_exit ?_
    refine WK.then_normal (k3 _ _ ?_)
    refine WC.sub [(0, _), (3, _)] ⟨rfl, rfl, trivial⟩ ?_
    refine WC.seq (fun K14 k14 => ?_)
    refine WC.region rfl ?_
    refine WL.yld rfl (blt rfl) rfl (Y.move rfl rfl) ?_
    refine WL.call rfl (blt rfl) rfl rfl rfl has43 rfl (grow_row _ _ (by omega)) ?_
    rintro _ w15 ⟨v17, rfl, ow18, x16⟩
    refine ⟨_, rfl, ?_⟩
    have ow18 := OwnL.base_le ow18 xW.size
    have xW := Ext.trans xW x16
    refine WL.yld rfl (blt rfl) rfl (Y.assign rfl rfl) ?_
    refine WL.nil ?_
    refine WK.then_normal (k14 _ _ ?_)
    refine WC.sub [(0, _), (6, _)] ⟨rfl, rfl, trivial⟩ ?_
    refine WC.seq (fun K19 k19 => ?_)
    refine WC.seq (fun K20 k20 => ?_)
    refine WC.region rfl ?_
    refine WL.yld rfl (blt rfl) rfl (Y.move rfl rfl) ?_
    refine WL.yld rfl (blt rfl) rfl (Y.lenSl rfl rfl rfl Try.underlying49 rfl) ?_
    refine WL.yld rfl (blt rfl) rfl (Y.move rfl rfl) ?_
    refine WL.nil ?_
    refine WK.then_normal (k20 _ _ ?_)
    refine WC.sub [(6, _), (25, _), (26, _), (27, _)] ⟨rfl, rfl, rfl, rfl, trivial⟩ ?_
    refine WC.block ?_
    refine WC.sub [(27, _), (6, _), (25, _), (26, _)] ⟨rfl, rfl, rfl, rfl, trivial⟩ ?_
    refine WC.loopS 2 (fun mz Ed W' => ∃ i : Nat, ∃ v : Value, mz = n_l - i ∧ Ed = [(27, .int .i64 ((i : Nat) : Int)), (6, v)] ∧ Ext w W' ∧ OwnL W' w.heap.size 27 Sp.S.c 2 v ((l.take i).flatMap fun x => x.l) ∧ (i ≤ n_l)) _ ⟨0, _, rfl, rfl, xW, ow18, (Nat.zero_le _)⟩ ?_
    rintro _ _ w21 ⟨i, v, rfl, rfl, xW, ow_v, le_i⟩
    refine WC.sub [(27, _), (6, _), (25, _), (26, _)] ⟨rfl, rfl, rfl, rfl, trivial⟩ ?_
    refine WC.seq (fun K22 k22 => ?_)
    refine WC.region rfl ?_
    refine WL.yld rfl (blt rfl) rfl (Y.lss rfl rfl rfl) ?_
    refine WL.nil ?_
    refine WK.then_normal (k22 _ _ ?_)
    refine WC.seq (fun K23 k23 => ?_)
    refine WC.cond rfl (fun h24 => ?_) (fun h24 => ?_)
    ·
      have p24 := (dec_t h24)
      have tt := total_le l (i + 1)
      have tk := total_take (l := l) (show i < l.length from by omega)
      have gl := (g_l _ (bang_mem (show i < l.length from by omega))).len
      refine WC.skip ?_
      refine WK.then_normal (k23 _ _ ?_)
      refine WC.sub [(6, _), (25, _), (26, _), (27, _)] ⟨rfl, rfl, rfl, rfl, trivial⟩ ?_
      refine WC.seq (fun K25 k25 => ?_)
      refine WC.block ?_
      refine WC.seq (fun K26 k26 => ?_)
      refine WC.region rfl ?_
      have b27 : i < n_l := by omega
      refine WL.yld rfl (blt rfl) rfl (Y.indexLs i (h_l.ext xW) rfl Try.underlying49 ti22 rfl rfl rfl b27) ?_
      refine WL.yld rfl (blt rfl) rfl (Y.load1 rfl Try.underlying22 rfl rfl (Ls.at_eq (h_l.ext xW) b27 rfl)) ?_
      refine WL.yld rfl (blt rfl) rfl (Y.assign rfl rfl) ?_
      refine WL.nil ?_
      refine WK.then_normal (k26 _ _ ?_)
      refine WC.sub [(6, _), (8, _), (25, _), (26, _), (27, _)] ⟨rfl, rfl, rfl, rfl, rfl, trivial⟩ ?_
      refine WC.region rfl ?_
      refine WL.yld rfl (blt rfl) rfl (Y.move rfl rfl) ?_
      refine WL.yld rfl (blt rfl) rfl (Y.move rfl rfl) ?_
      refine WL.appendL (f := Sp.S.c) rfl (blt rfl) rfl rfl rfl rfl Try.underlying22 ti27 rfl (by decide) rfl ow_v (fun _ => rfl) Sp.S.one ((g_l _ (bang_mem (show i < l.length from by omega))).ext xW) xW.size (by have q0 := flat_len (l := l.take i) (fun x hx => (g_l x (List.mem_of_mem_take hx)).len); first | omega | (simp only [List.length_append, List.length_cons, List.length_nil, List.length_take, List.length_drop, List.length_reverse]; omega)) (Nat.le_trans (show _ ≤ 140737488355328 from by have q0 := flat_len (l := l.take i) (fun x hx => (g_l x (List.mem_of_mem_take hx)).len); first | omega | (simp only [List.length_append, List.length_cons, List.length_nil, List.length_take, List.length_drop, List.length_reverse]; omega)) (by decide)) (fun v28 w29 ow30 gr31 nb32 => ?_)
      have xW := Ext.grown xW gr31 (fun b hb => (OwnL.lt ow_v hb).1)
      refine WL.yld rfl (blt rfl) rfl (Y.assign rfl rfl) ?_
      refine WL.nil ?_
      refine WK.in_normal ?_
      refine WK.then_normal (k25 _ _ ?_)
      refine WC.sub [(6, _), (25, _), (26, _), (27, _)] ⟨rfl, rfl, rfl, rfl, trivial⟩ ?_
      refine WC.region rfl ?_
      refine WL.yld rfl (blt rfl) rfl (Y.add rfl rfl rfl (wrap_i64 (by first | omega | (dsimp only; omega)))) ?_
      refine WL.yld rfl (blt rfl) rfl (Y.move rfl rfl) ?_
      refine WL.nil ?_
      refine WK.roundS _ [(27, .int .i64 (((i + 1) : Nat) : Int)), (6, v28)] ⟨rfl, rfl, rfl, rfl, trivial⟩ ?_ ⟨(i + 1), v28, rfl, rfl, xW, (by rw [flat_take (show i < l.length from by omega)]; exact ow30), (by omega)⟩
      show _ - (i + 1) < _ - i; omega
    ·
      have p24 := (dec_f h24)
      refine WC.exit ?_
      refine WK.then_exit ?_
      refine WK.then_exit ?_
      refine WK.in_exit ?_
      refine WK.then_normal (k19 _ _ ?_)
      refine WC.sub [(6, _)] ⟨rfl, trivial⟩ ?_
      refine WC.seq (fun K33 k33 => ?_)
      refine WC.region rfl ?_
      refine WL.yld rfl (blt rfl) rfl (Y.move rfl rfl) ?_
      refine WL.yld rfl (blt rfl) rfl (Y.assign rfl rfl) ?_
      refine WL.nil ?_
      refine WK.then_normal (k33 _ _ ?_)
      refine WC.sub [(2, _)] ⟨rfl, trivial⟩ ?_
      refine WC.ret ?_
      clear k1 k2 k3 k4 k6 k7 k14 k19 k20 k22 k23 k33
      refine WK.ret [_] rfl ⟨rfl, trivial⟩ ?_
      refine ⟨_, rfl, ?_, xW⟩
      rw [List.take_of_length_le (show l.length ≤ i from by omega)] at ow_v
      exact ow_v
theorem union_any (A_a : Option Addr) (n_a c_a : Nat) (a : List Sp.S) (A_b : Option Addr) (n_b c_b : Nat) (b : List Sp.S) (w : World) (h_a : Ls w A_a n_a c_a Sp.S.c 2 a) (h_b : Ls w A_b n_b c_b Sp.S.c 2 b) (ha : n_a ≤ 10000) (hb : n_b ≤ 10000) :
    Calls Try.prog 20 #[.slice A_a n_a c_a, .slice A_b n_b c_b] w fun e w' => ∃ v, e = .returned v ∧ OwnL w' w.heap.size 27 Sp.S.c 2 v (Sp.norm (a ++ b)) ∧ Ext w w' := by
  have xW := Ext.refl w
  have e_a := h_a.len
  have z_a := h_a.nle
  have e_b := h_b.len
  have z_b := h_b.nle
  refine calls_of_WC (args := [.slice A_a n_a c_a, .slice A_b n_b c_b]) Try.func20 rfl rfl (ble rfl) ?_
  refine WC.seq (fun K1 k1 => ?_)
  refine WC.region rfl ?_
  refine WL.yld rfl (blt rfl) rfl (Y.assign rfl rfl) ?_
  refine WL.nil ?_
  refine WK.then_normal (k1 _ _ ?_)
  refine WC.sub [(0, _), (1, _)] ⟨rfl, rfl, trivial⟩ ?_
  refine WC.seq (fun K2 k2 => ?_)
  refine WC.region rfl ?_
  refine WL.yld rfl (blt rfl) rfl (Y.move rfl rfl) ?_
  refine WL.yld rfl (blt rfl) rfl (Y.move rfl rfl) ?_
  refine WL.bslice (zs := [.slice none 0 0, .slice none 0 0]) (cs := [_, _]) rfl (blt rfl) rfl rfl Try.underlying49 ti22 rfl (ble rfl) (by kernel_rfl) rfl rfl ?_
  intro g3 w4 e5 x6 m7
  have o_g3 := own_new xW e5
  have xW := Ext.trans xW x6
  refine WL.call rfl (blt rfl) rfl rfl rfl has32 rfl (concat_any _ _ _ _ _ (Ls.lit (f := Slc.v) (l := ([⟨A_a, n_a, c_a, a⟩, ⟨A_b, n_b, c_b, b⟩] : List (Slc Sp.S))) m7 (fun _ => rfl) rfl (by decide) rfl) (two_mem (h_a.ext xW) (h_b.ext xW)) (by unfold total; simp only [List.map_cons, List.map_nil, List.sum_cons, List.sum_nil]; omega)) ?_
  rintro _ w8 ⟨v10, rfl, ow11, x9⟩
  refine ⟨_, rfl, ?_⟩
  have r_v10_g3 := ne_res ow11 m7
  have ow11 := OwnL.base_le ow11 xW.size
  have m7 := m7.ext x9
  have xW := Ext.trans xW x9
  rw [cat2] at ow11
  obtain ⟨A12, n13, c14, rfl, hl15⟩ := OwnL.opened ow11 (fun _ => rfl) (by decide)
  have e_n13 := hl15.len
  try simp only [List.length_append, List.length_cons, List.length_nil, List.length_reverse, List.length_drop, List.length_take] at e_n13
  have z_n13 := hl15.nle
  refine WL.call rfl (blt rfl) rfl rfl rfl has14 rfl (normal_any _ _ _ _ _ hl15 (by omega)) ?_
  rintro _ w16 ⟨v18, rfl, ow19, x17⟩
  refine ⟨_, rfl, ?_⟩
  have r_v18_g3 := ne_res ow19 m7
  have d_v10_v18 := (Apart.res ow19 ow11).symm
  have ow19 := OwnL.base_le ow19 xW.size
  have m7 := m7.ext x17
  have ow11 := ow11.ext x17
  have hl15 := hl15.ext x17
  have xW := Ext.trans xW x17
  refine WL.yld rfl (blt rfl) rfl (Y.assign rfl rfl) ?_
  refine WL.nil ?_
  refine WK.then_normal (k2 _ _ ?_)
  refine WC.sub [(4, _)] ⟨rfl, trivial⟩ ?_
  refine WC.ret ?_
  clear k1 k2
  refine WK.ret [_] rfl ⟨rfl, trivial⟩ ?_
  refine ⟨_, rfl, ?_, xW⟩
  exact ow19
theorem keepm_any (x : Bool) (y : Bool) (w : World) :
    Calls Try.prog 34 #[.bool x, .bool y] w fun e w' => e = .returned (.bool (Sp.both x y)) ∧ Ext w w' := by
  have xW := Ext.refl w
  refine calls_of_WC (args := [.bool x, .bool y]) Try.func34 rfl rfl (ble rfl) ?_
  refine WC.seq (fun K1 k1 => ?_)
  refine WC.region rfl ?_
  refine WL.yld rfl (blt rfl) rfl (Y.assign rfl rfl) ?_
  refine WL.nil ?_
  refine WK.then_normal (k1 _ _ ?_)
  refine WC.sub [(0, _), (1, _)] ⟨rfl, rfl, trivial⟩ ?_
  refine WC.seq (fun K2 k2 => ?_)
  refine WC.region rfl ?_
  refine WL.yld rfl (blt rfl) rfl (Y.move rfl rfl) ?_
  refine WL.yld rfl (blt rfl) rfl (Y.move rfl rfl) ?_
  refine WL.yldG rfl (blt rfl) rfl rfl rfl (fun hb => Y.move rfl rfl) ?_
  refine WL.yld rfl (blt rfl) rfl (Y.and rfl rfl rfl rfl) ?_
  refine WL.yld rfl (blt rfl) rfl (Y.assign rfl rfl) ?_
  refine WL.nil ?_
  refine WK.then_normal (k2 _ _ ?_)
  refine WC.sub [(4, _)] ⟨rfl, trivial⟩ ?_
  refine WC.ret ?_
  clear k1 k2
  refine WK.ret [_] rfl ⟨rfl, trivial⟩ ?_
  exact ⟨rfl, xW⟩
theorem keepf_any (x : Bool) (y : Bool) (w : World) :
    Calls Try.prog 35 #[.bool x, .bool y] w fun e w' => e = .returned (.bool (Sp.first x y)) ∧ Ext w w' := by
  have xW := Ext.refl w
  refine calls_of_WC (args := [.bool x, .bool y]) Try.func35 rfl rfl (ble rfl) ?_
  refine WC.seq (fun K1 k1 => ?_)
  refine WC.region rfl ?_
  refine WL.yld rfl (blt rfl) rfl (Y.assign rfl rfl) ?_
  refine WL.nil ?_
  refine WK.then_normal (k1 _ _ ?_)
  refine WC.sub [(0, _), (1, _)] ⟨rfl, rfl, trivial⟩ ?_
  refine WC.seq (fun K2 k2 => ?_)
  refine WC.region rfl ?_
  refine WL.yld rfl (blt rfl) rfl (Y.move rfl rfl) ?_
  refine WL.yld rfl (blt rfl) rfl (Y.move rfl rfl) ?_
  refine WL.yldG rfl (blt rfl) rfl rfl rfl (fun hb => Y.move rfl rfl) ?_
  refine WL.yldG rfl (blt rfl) rfl rfl rfl (fun hb => Y.not rfl (evg rfl hb)) ?_
  refine WL.yld rfl (blt rfl) rfl (Y.and rfl rfl rfl rfl) ?_
  refine WL.yld rfl (blt rfl) rfl (Y.assign rfl rfl) ?_
  refine WL.nil ?_
  refine WK.then_normal (k2 _ _ ?_)
  refine WC.sub [(4, _)] ⟨rfl, trivial⟩ ?_
  refine WC.ret ?_
  clear k1 k2
  refine WK.ret [_] rfl ⟨rfl, trivial⟩ ?_
  exact ⟨rfl, xW⟩
end C
end SpW

end Go.Proofs.Ytoldedanhmkolaa
