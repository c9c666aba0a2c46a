/- Contracts: the examples. Conditions: what each theorem states. -/
import Derived.Test.YtklccakoblibmaaSxRfl
import Derived.Test.YtklccakoblibmaaSxAw
namespace Go.Proofs.Ytklccakoblibmaa
open Go Go.Eng Go.RowKit
set_option linter.unusedVariables false
set_option linter.unusedSimpArgs false
namespace SxW
open B C D E G S T U V W X Y Z Z2
namespace AA
theorem ti25 : TI Try.prog 25 (.agg #[.int .i64 0, .int .i64 0, .string ⟨#[]⟩]) 3 32 := TI.mk (by kernel_rfl)
theorem ti26 : TI Try.prog 26 (.slice none 0 0) 1 24 := TI.mk (by kernel_rfl)
theorem ti28 : TI Try.prog 28 (.agg #[.int .i64 0, .string ⟨#[]⟩, .int .i64 0, .int .i64 0, .string ⟨#[]⟩, .slice none 0 0]) 6 80 := TI.mk (by kernel_rfl)
theorem pl25 : PL Try.prog 25 [.int .i64 0, .int .i64 0, .string ⟨#[]⟩] [(0, 1), (1, 1), (2, 1)] := PL.mk (zero := [.int .i64 0, .int .i64 0, .string ⟨#[]⟩]) ti25 Try.underlying25 (by kernel_rfl)
theorem pl28 : PL Try.prog 28 [.int .i64 0, .string ⟨#[]⟩, .int .i64 0, .int .i64 0, .string ⟨#[]⟩, .slice none 0 0] [(0, 1), (1, 1), (2, 3), (5, 1)] := PL.mk (zero := [.int .i64 0, .string ⟨#[]⟩, .int .i64 0, .int .i64 0, .string ⟨#[]⟩, .slice none 0 0]) ti28 Try.underlying28 (by kernel_rfl)
theorem call_any (s : ByteArray) (m : Nat) (w : World) (hm : m ≤ 1000) :
    Calls Try.prog 25 #[.string s, .int .i64 ((m : Nat) : Int)] w fun e w' => ∃ (A : Option Addr) (n c : Nat), e = .returned (.agg #[.int .i64 16, .string s, .int .i64 0, .int .i64 0, .string ⟨#[]⟩, .slice A n c]) ∧ Sx.Good 2 w' (Sx.cal s A n c m) ∧ Ext w w' := by
  have xW := Ext.refl w
  refine calls_of_WC (args := [.string s, .int .i64 ((m : Nat) : Int)]) Try.func25 rfl rfl (ble rfl) ?_
  refine WC.seq (fun K1 k1 => ?_)
  refine WC.region rfl ?_
  refine WL.alloc rfl (blt rfl) rfl rfl ti28 rfl ?_
  intro g2 w3 e4 x5 m6
  have o_g2 := own_new xW e4
  have xW := Ext.trans xW x5
  refine WL.nil ?_
  refine WK.then_normal (k1 _ _ ?_)
  refine WC.seq (fun K7 k7 => ?_)
  refine WC.region rfl ?_
  refine WL.yld rfl (blt rfl) rfl (Y.move rfl rfl) ?_
  refine WL.yld rfl (blt rfl) rfl (Y.build (cells := [_, _, _, _, _, _]) rfl pl28 rfl rfl) ?_
  refine WL.alloc rfl (blt rfl) rfl rfl ti28 rfl ?_
  intro g8 w9 e10 x11 m12
  have n_g2_g8 := ne_new m6 e10
  have o_g8 := own_new xW e10
  have m6 := m6.ext x11
  have xW := Ext.trans xW x11
  refine WL.store (cs' := [_, _, _, _, _, _]) rfl rfl rfl rfl rfl rfl ti28 m12 (ble rfl) rfl rfl (fun w13 on14 m15 => ?_)
  have m6 := m6.only n_g2_g8 on14
  have xW := Ext.only xW on14 o_g8
  refine WL.nil ?_
  refine WK.then_normal (k7 _ _ ?_)
  refine WC.sub [(1, _), (4, _), (5, _)] ⟨rfl, rfl, rfl, trivial⟩ ?_
  refine WC.seq (fun K16 k16 => ?_)
  refine WC.seq (fun K17 k17 => ?_)
  refine WC.region rfl ?_
  refine WL.yld rfl (blt rfl) rfl (Y.assign rfl rfl) ?_
  refine WL.nil ?_
  refine WK.then_normal (k17 _ _ ?_)
  refine WC.block ?_
  refine WC.sub [(6, _), (1, _), (4, _), (5, _)] ⟨rfl, rfl, rfl, rfl, trivial⟩ ?_
  refine WC.loopS 1 (fun mz Ed W' => ∃ i : Nat, ∃ v : Value, mz = m - i ∧ Ed = [(6, .int .i64 ((i : Nat) : Int))] ∧ Ext w W' ∧ Blk W' g2 28 _ ∧ Blk W' g8 28 [.int .i64 16, .string s, .int .i64 0, .int .i64 0, .string ⟨#[]⟩, v] ∧ OwnL W' w.heap.size 28 Sx.E.v 6 v (Sx.cks i) ∧ v.ownBlock ≠ some g2 ∧ v.ownBlock ≠ some g8 ∧ (i ≤ m)) _ ⟨0, (.slice none 0 0), rfl, rfl, xW, m6, m15, OwnL.nil_, ne_nil, ne_nil, (Nat.zero_le _)⟩ ?_
  rintro _ _ w18 ⟨i, v, rfl, rfl, xW, m6, m15, ow_v, r_v_g2, r_v_g8, le_i⟩
  refine WC.sub [(6, _), (1, _), (4, _), (5, _)] ⟨rfl, rfl, rfl, rfl, trivial⟩ ?_
  have ck := Sx.cks_len i
  refine WC.seq (fun K19 k19 => ?_)
  refine WC.seq (fun K20 k20 => ?_)
  refine WC.region rfl ?_
  refine WL.yld rfl (blt rfl) rfl (Y.move rfl rfl) ?_
  refine WL.yld rfl (blt rfl) rfl (Y.move rfl rfl) ?_
  refine WL.yld rfl (blt rfl) rfl (Y.lss rfl rfl rfl) ?_
  refine WL.nil ?_
  refine WK.then_normal (k20 _ _ ?_)
  refine WC.sub [(1, _), (4, _), (5, _), (6, _), (11, _)] ⟨rfl, rfl, rfl, rfl, rfl, trivial⟩ ?_
  refine WC.cond rfl (fun h21 => ?_) (fun h21 => ?_)
  ·
    have p21 := (dec_t h21)
    refine WC.skip ?_
    refine WK.then_normal (k19 _ _ ?_)
    refine WC.sub [(1, _), (4, _), (5, _), (6, _)] ⟨rfl, rfl, rfl, rfl, trivial⟩ ?_
    refine WC.seq (fun K22 k22 => ?_)
    refine WC.block ?_
    refine WC.region rfl ?_
    refine WL.yld rfl (blt rfl) rfl (Y.fieldAddr rfl Try.underlying28 rfl ti26 (by decide) rfl) ?_
    refine WL.yld rfl (blt rfl) rfl (Y.load1 rfl Try.underlying26 rfl rfl (Blk.at_eq m15 rfl)) ?_
    refine WL.yld rfl (blt rfl) rfl (Y.move rfl rfl) ?_
    refine WL.yld rfl (blt rfl) rfl (Y.build (cells := [_, _, _]) rfl pl25 rfl rfl) ?_
    refine WL.yld rfl (blt rfl) rfl (Y.build (cells := [_, _, _, _, _, _]) rfl pl28 rfl rfl) ?_
    refine WL.bslice (zs := [.int .i64 0, .string ⟨#[]⟩, .int .i64 0, .int .i64 0, .string ⟨#[]⟩, .slice none 0 0]) (cs := [_, _, _, _, _, _]) rfl (blt rfl) rfl rfl Try.underlying26 ti28 rfl (ble rfl) (by kernel_rfl) rfl rfl ?_
    intro g23 w24 e25 x26 m27
    have n_g2_g23 := ne_new m6 e25
    have n_g8_g23 := ne_new m15 e25
    have r_v_g23 := ne_newO ow_v e25
    have o_g23 := own_new xW e25
    have m6 := m6.ext x26
    have m15 := m15.ext x26
    have ow_v := ow_v.ext x26
    have xW := Ext.trans xW x26
    refine WL.appendB (f := Sx.E.v) (news := [Sx.ck i]) rfl (blt rfl) rfl rfl rfl rfl Try.underlying26 ti28 rfl (by decide) rfl ow_v (fun _ => rfl) Sx.E.one m27 rfl xW.size (by have q0 := ck; have q1 := hm; first | omega | (simp only [List.length_append, List.length_cons, List.length_nil, List.length_take, List.length_drop, List.length_reverse]; omega)) (Nat.le_trans (show _ ≤ 140737488355328 from by have q0 := ck; have q1 := hm; first | omega | (simp only [List.length_append, List.length_cons, List.length_nil, List.length_take, List.length_drop, List.length_reverse]; omega)) (by decide)) (fun v28 w29 ow30 gr31 nb32 => ?_)
    have r_v28_g2 := ne_app nb32 r_v_g2 m6
    have m6 := m6.grown gr31 r_v_g2
    have r_v28_g8 := ne_app nb32 r_v_g8 m15
    have m15 := m15.grown gr31 r_v_g8
    have r_v28_g23 := ne_app nb32 r_v_g23 m27
    have m27 := m27.grown gr31 r_v_g23
    have xW := Ext.grown xW gr31 (fun b hb => (OwnL.lt ow_v hb).1)
    refine WL.yld rfl (blt rfl) rfl (Y.fieldAddr rfl Try.underlying28 rfl ti26 (by decide) rfl) ?_
    obtain ⟨A33, n34, c35, rfl, hl36⟩ := OwnL.opened ow30 (fun _ => rfl) (by decide)
    have e_n34 := hl36.len
    try simp only [List.length_append, List.length_cons, List.length_nil, List.length_reverse, List.length_drop, List.length_take, List.length_map, List.length_replicate, List.length_set] at e_n34
    have z_n34 := hl36.nle
    refine WL.store (cs' := [_, _, _, _, _, _]) rfl rfl rfl rfl rfl rfl ti26 m15 (ble rfl) rfl rfl (fun w37 on38 m39 => ?_)
    have m6 := m6.only n_g2_g8 on38
    have m27 := m27.only n_g8_g23.symm on38
    have ow30 := ow30.only r_v28_g8 on38
    have hl36 := OwnL.ls ow30 (fun _ => rfl) (by decide)
    have xW := Ext.only xW on38 o_g8
    refine WL.nil ?_
    refine WK.in_normal ?_
    refine WK.then_normal (k22 _ _ ?_)
    refine WC.sub [(1, _), (4, _), (5, _), (6, _)] ⟨rfl, rfl, rfl, rfl, trivial⟩ ?_
    refine WC.region rfl ?_
    refine WL.yld rfl (blt rfl) rfl (Y.move rfl rfl) ?_
    refine WL.yld rfl (blt rfl) rfl (Y.add rfl rfl rfl (wrap_i64 (by first | omega | (dsimp only; omega)))) ?_
    refine WL.yld rfl (blt rfl) rfl (Y.assign rfl rfl) ?_
    refine WL.nil ?_
    refine WK.roundS _ [(6, .int .i64 (((i + 1) : Nat) : Int))] ⟨rfl, rfl, rfl, rfl, trivial⟩ ?_ ⟨(i + 1), (.slice A33 n34 c35), rfl, rfl, xW, m6, m39, (by rw [Sx.cks_next]; exact ow30), r_v28_g2, r_v28_g8, (by omega)⟩
    show _ - (i + 1) < _ - i; omega
  ·
    have p21 := (dec_f h21)
    refine WC.exit ?_
    refine WK.then_exit ?_
    refine WK.then_exit ?_
    refine WK.in_exit ?_
    refine WK.then_normal (k16 _ _ ?_)
    refine WC.sub [(4, _), (5, _)] ⟨rfl, rfl, trivial⟩ ?_
    refine WC.seq (fun K40 k40 => ?_)
    refine WC.region rfl ?_
    refine WL.yld rfl (blt rfl) rfl (Y.loadS rfl Try.underlying28 rfl ti28 rfl (Blk.row_eq m15)) ?_
    obtain ⟨A41, n42, c43, rfl, hl44⟩ := OwnL.opened ow_v (fun _ => rfl) (by decide)
    have e_n42 := hl44.len
    try simp only [List.length_append, List.length_cons, List.length_nil, List.length_reverse, List.length_drop, List.length_take, List.length_map, List.length_replicate, List.length_set] at e_n42
    have z_n42 := hl44.nle
    refine WL.store (cs' := [_, _, _, _, _, _]) rfl rfl rfl rfl rfl rfl ti28 m6 (ble rfl) rfl rfl (fun w45 on46 m47 => ?_)
    have m15 := m15.only n_g2_g8.symm on46
    have ow_v := ow_v.only r_v_g2 on46
    have hl44 := OwnL.ls ow_v (fun _ => rfl) (by decide)
    have xW := Ext.only xW on46 o_g2
    refine WL.nil ?_
    refine WK.then_normal (k40 _ _ ?_)
    refine WC.sub [(4, _)] ⟨rfl, trivial⟩ ?_
    refine WC.ret ?_
    clear k1 k7 k16 k17 k19 k20 k40
    refine WK.ret [_] rfl ⟨⟨_, rfl, run_loadVar_blk Try.underlying28 rfl ti28 m47⟩, trivial⟩ ?_
    obtain rfl : i = m := by omega
    exact ⟨_, _, _, rfl, Sx.cal_good hl44, xW⟩
end AA
namespace AB
open AA
theorem ti9 : TI Try.prog 9 (.string ⟨#[]⟩) 1 16 := TI.mk (by kernel_rfl)
theorem ti28 : TI Try.prog 28 (.agg #[.int .i64 0, .string ⟨#[]⟩, .int .i64 0, .int .i64 0, .string ⟨#[]⟩, .slice none 0 0]) 6 80 := TI.mk (by kernel_rfl)
theorem ti41 : TI Try.prog 41 (.agg #[.int .i64 0, .int .i64 0, .string ⟨#[]⟩, .int .i64 0, .int .i64 0, .string ⟨#[]⟩, .slice none 0 0, .slice none 0 0, .slice none 0 0, .slice none 0 0, .slice none 0 0, .int .i64 0, .string ⟨#[]⟩]) 13 208 := TI.mk (by kernel_rfl)
theorem ti46 : TI Try.prog 46 (.agg #[.string ⟨#[]⟩, .slice none 0 0]) 2 40 := TI.mk (by kernel_rfl)
theorem ti55 : TI Try.prog 55 (.agg #[.string ⟨#[]⟩, .string ⟨#[]⟩, .string ⟨#[]⟩]) 3 48 := TI.mk (by kernel_rfl)
theorem has11 : Has Try.prog 11 := ⟨_, Try.func11, rfl, by kernel_rfl⟩
theorem has13 : Has Try.prog 13 := ⟨_, Try.func13, rfl, by kernel_rfl⟩
theorem has14 : Has Try.prog 14 := ⟨_, Try.func14, rfl, by kernel_rfl⟩
theorem has17 : Has Try.prog 17 := ⟨_, Try.func17, rfl, by kernel_rfl⟩
theorem has20 : Has Try.prog 20 := ⟨_, Try.func20, rfl, by kernel_rfl⟩
theorem has23 : Has Try.prog 23 := ⟨_, Try.func23, rfl, by kernel_rfl⟩
theorem has25 : Has Try.prog 25 := ⟨_, Try.func25, rfl, by kernel_rfl⟩
theorem pl28 : PL Try.prog 28 [.int .i64 0, .string ⟨#[]⟩, .int .i64 0, .int .i64 0, .string ⟨#[]⟩, .slice none 0 0] [(0, 1), (1, 1), (2, 3), (5, 1)] := PL.mk (zero := [.int .i64 0, .string ⟨#[]⟩, .int .i64 0, .int .i64 0, .string ⟨#[]⟩, .slice none 0 0]) ti28 Try.underlying28 (by kernel_rfl)
theorem pl41 : PL Try.prog 41 [.int .i64 0, .int .i64 0, .string ⟨#[]⟩, .int .i64 0, .int .i64 0, .string ⟨#[]⟩, .slice none 0 0, .slice none 0 0, .slice none 0 0, .slice none 0 0, .slice none 0 0, .int .i64 0, .string ⟨#[]⟩] [(0, 1), (1, 6), (7, 1), (8, 1), (9, 1), (10, 1), (11, 1), (12, 1)] := PL.mk (zero := [.int .i64 0, .int .i64 0, .string ⟨#[]⟩, .int .i64 0, .int .i64 0, .string ⟨#[]⟩, .slice none 0 0, .slice none 0 0, .slice none 0 0, .slice none 0 0, .slice none 0 0, .int .i64 0, .string ⟨#[]⟩]) ti41 Try.underlying41 (by kernel_rfl)
theorem pl46 : PL Try.prog 46 [.string ⟨#[]⟩, .slice none 0 0] [(0, 1), (1, 1)] := PL.mk (zero := [.string ⟨#[]⟩, .slice none 0 0]) ti46 Try.underlying46 (by kernel_rfl)
theorem pl55 : PL Try.prog 55 [.string ⟨#[]⟩, .string ⟨#[]⟩, .string ⟨#[]⟩] [(0, 1), (1, 1), (2, 1)] := PL.mk (zero := [.string ⟨#[]⟩, .string ⟨#[]⟩, .string ⟨#[]⟩]) ti55 Try.underlying55 (by kernel_rfl)
theorem awake_any  (w : World) :
    Calls Try.prog 9 #[] w fun e w' => e = .returned (.bool true) ∧ Ext w w' := by
  have xW := Ext.refl w
  refine calls_of_WC (args := []) Try.func9 rfl rfl (ble rfl) ?_
  refine WC.seq (fun K1 k1 => ?_)
  refine WC.region rfl ?_
  refine WL.yld rfl (blt rfl) rfl (Y.assign rfl rfl) ?_
  refine WL.nil ?_
  refine WK.then_normal (k1 _ _ ?_)
  refine WC.sub [] trivial ?_
  refine WC.seq (fun K2 k2 => ?_)
  refine WC.region rfl ?_
  refine WL.bslice (zs := [.string ⟨#[]⟩]) (cs := [_]) rfl (blt rfl) rfl rfl Try.underlying34 ti9 rfl (ble rfl) (by kernel_rfl) rfl rfl ?_
  intro g3 w4 e5 x6 m7
  have o_g3 := own_new xW e5
  have xW := Ext.trans xW x6
  refine WL.yld rfl (blt rfl) rfl (Y.build (cells := [_, _, _]) rfl pl55 rfl rfl) ?_
  refine WL.bslice (zs := [.string ⟨#[]⟩, .string ⟨#[]⟩, .string ⟨#[]⟩]) (cs := [_, _, _]) rfl (blt rfl) rfl rfl Try.underlying38 ti55 rfl (ble rfl) (by kernel_rfl) rfl rfl ?_
  intro g8 w9 e10 x11 m12
  have n_g3_g8 := ne_new m7 e10
  have o_g8 := own_new xW e10
  have m7 := m7.ext x11
  have xW := Ext.trans xW x11
  refine WL.yld rfl (blt rfl) rfl (Y.build (cells := [_, _, _, _, _, _, _, _, _, _, _, _, _]) rfl pl41 rfl rfl) ?_
  refine WL.alloc rfl (blt rfl) rfl rfl ti41 rfl ?_
  intro g13 w14 e15 x16 m17
  have n_g3_g13 := ne_new m7 e15
  have n_g8_g13 := ne_new m12 e15
  have o_g13 := own_new xW e15
  have m7 := m7.ext x16
  have m12 := m12.ext x16
  have xW := Ext.trans xW x16
  refine WL.store (cs' := [_, _, _, _, _, _, _, _, _, _, _, _, _]) rfl rfl rfl rfl rfl rfl ti41 m17 (ble rfl) rfl rfl (fun w18 on19 m20 => ?_)
  have m7 := m7.only n_g3_g13 on19
  have m12 := m12.only n_g8_g13 on19
  have xW := Ext.only xW on19 o_g13
  refine WL.nil ?_
  refine WK.then_normal (k2 _ _ ?_)
  refine WC.sub [(1, _)] ⟨rfl, trivial⟩ ?_
  refine WC.seq (fun K21 k21 => ?_)
  refine WC.region rfl ?_
  refine WL.yld rfl (blt rfl) rfl (Y.build (cells := [_, _, _, _, _, _]) rfl pl28 rfl rfl) ?_
  refine WL.yld rfl (blt rfl) rfl (Y.build (cells := [_, _, _, _, _, _]) rfl pl28 rfl rfl) ?_
  refine WL.bslice (zs := [.int .i64 0, .string ⟨#[]⟩, .int .i64 0, .int .i64 0, .string ⟨#[]⟩, .slice none 0 0, .int .i64 0, .string ⟨#[]⟩, .int .i64 0, .int .i64 0, .string ⟨#[]⟩, .slice none 0 0]) (cs := [_, _, _, _, _, _, _, _, _, _, _, _]) rfl (blt rfl) rfl rfl Try.underlying26 ti28 rfl (ble rfl) (by kernel_rfl) rfl rfl ?_
  intro g22 w23 e24 x25 m26
  have n_g3_g22 := ne_new m7 e24
  have n_g8_g22 := ne_new m12 e24
  have n_g13_g22 := ne_new m20 e24
  have o_g22 := own_new xW e24
  have m7 := m7.ext x25
  have m12 := m12.ext x25
  have m20 := m20.ext x25
  have xW := Ext.trans xW x25
  refine WL.yld rfl (blt rfl) rfl (Y.build (cells := [_, _, _, _, _, _]) rfl pl28 rfl rfl) ?_
  refine WL.alloc rfl (blt rfl) rfl rfl ti28 rfl ?_
  intro g27 w28 e29 x30 m31
  have n_g3_g27 := ne_new m7 e29
  have n_g8_g27 := ne_new m12 e29
  have n_g13_g27 := ne_new m20 e29
  have n_g22_g27 := ne_new m26 e29
  have o_g27 := own_new xW e29
  have m7 := m7.ext x30
  have m12 := m12.ext x30
  have m20 := m20.ext x30
  have m26 := m26.ext x30
  have xW := Ext.trans xW x30
  refine WL.store (cs' := [_, _, _, _, _, _]) rfl rfl rfl rfl rfl rfl ti28 m31 (ble rfl) rfl rfl (fun w32 on33 m34 => ?_)
  have m7 := m7.only n_g3_g27 on33
  have m12 := m12.only n_g8_g27 on33
  have m20 := m20.only n_g13_g27 on33
  have m26 := m26.only n_g22_g27 on33
  have xW := Ext.only xW on33 o_g27
  refine WL.nil ?_
  refine WK.then_normal (k21 _ _ ?_)
  refine WC.sub [(1, _), (2, _)] ⟨rfl, rfl, trivial⟩ ?_
  refine WC.seq (fun K35 k35 => ?_)
  refine WC.region rfl ?_
  refine WL.call rfl (blt rfl) rfl rfl rfl has25 rfl (call_any Sx.sMin 1 _ (by decide)) ?_
  rintro _ w36 ⟨A38, n39, c40, rfl, gd41, x37⟩
  refine ⟨_, rfl, ?_⟩
  have m7 := m7.ext x37
  have m12 := m12.ext x37
  have m20 := m20.ext x37
  have m26 := m26.ext x37
  have m34 := m34.ext x37
  have xW := Ext.trans xW x37
  refine WL.call rfl (blt rfl) rfl rfl rfl has11 rfl (calls_cast (by rw [Sx.aw_1]) (expr_any _ (Sx.cal Sx.sMin A38 n39 c40 1) _ gd41 (Sx.aw_sh (by decide) (by decide)) (Sx.aw_ct (by decide)))) ?_
  rintro _ w42 ⟨rfl, x43⟩
  refine ⟨_, rfl, ?_⟩
  have m7 := m7.ext x43
  have m12 := m12.ext x43
  have m20 := m20.ext x43
  have m26 := m26.ext x43
  have m34 := m34.ext x43
  have gd41 := gd41.ext x43
  have xW := Ext.trans xW x43
  refine WL.yld rfl (blt rfl) rfl (Yld.cast (Y.eql rfl rfl rfl) (vb rfl)) ?_
  refine WL.yld rfl (blt rfl) rfl (Y.move rfl rfl) ?_
  refine WL.callW rfl (blt rfl) rfl rfl rfl rfl rfl has25 rfl (call_any Sx.sSin 1 _ (by decide)) ?_
  rintro _ w44 ⟨A46, n47, c48, rfl, gd49, x45⟩
  refine ⟨_, rfl, ?_⟩
  have m7 := m7.ext x45
  have m12 := m12.ext x45
  have m20 := m20.ext x45
  have m26 := m26.ext x45
  have m34 := m34.ext x45
  have gd41 := gd41.ext x45
  have xW := Ext.trans xW x45
  refine WL.callW rfl (blt rfl) rfl rfl rfl rfl rfl has11 rfl (calls_cast (by rw [Sx.aw_2]) (expr_any _ (Sx.cal Sx.sSin A46 n47 c48 1) _ gd49 (Sx.aw_sh (by decide) (by decide)) (Sx.aw_ct (by decide)))) ?_
  rintro _ w50 ⟨rfl, x51⟩
  refine ⟨_, rfl, ?_⟩
  have m7 := m7.ext x51
  have m12 := m12.ext x51
  have m20 := m20.ext x51
  have m26 := m26.ext x51
  have m34 := m34.ext x51
  have gd41 := gd41.ext x51
  have gd49 := gd49.ext x51
  have xW := Ext.trans xW x51
  refine WL.yldW rfl (blt rfl) rfl rfl rfl (Yld.cast (Y.eql rfl rfl rfl) (vb rfl)) ?_
  refine WL.yld rfl (blt rfl) rfl (Y.pickT rfl rfl rfl) ?_
  refine WL.yld rfl (blt rfl) rfl (Y.move rfl rfl) ?_
  refine WL.callW rfl (blt rfl) rfl rfl rfl rfl rfl has25 rfl (call_any Sx.sSIn 1 _ (by decide)) ?_
  rintro _ w52 ⟨A54, n55, c56, rfl, gd57, x53⟩
  refine ⟨_, rfl, ?_⟩
  have m7 := m7.ext x53
  have m12 := m12.ext x53
  have m20 := m20.ext x53
  have m26 := m26.ext x53
  have m34 := m34.ext x53
  have gd41 := gd41.ext x53
  have gd49 := gd49.ext x53
  have xW := Ext.trans xW x53
  refine WL.callW rfl (blt rfl) rfl rfl rfl rfl rfl has11 rfl (calls_cast (by rw [Sx.aw_3]) (expr_any _ (Sx.cal Sx.sSIn A54 n55 c56 1) _ gd57 (Sx.aw_sh (by decide) (by decide)) (Sx.aw_ct (by decide)))) ?_
  rintro _ w58 ⟨rfl, x59⟩
  refine ⟨_, rfl, ?_⟩
  have m7 := m7.ext x59
  have m12 := m12.ext x59
  have m20 := m20.ext x59
  have m26 := m26.ext x59
  have m34 := m34.ext x59
  have gd41 := gd41.ext x59
  have gd49 := gd49.ext x59
  have gd57 := gd57.ext x59
  have xW := Ext.trans xW x59
  refine WL.yldW rfl (blt rfl) rfl rfl rfl (Yld.cast (Y.eql rfl rfl rfl) (vb rfl)) ?_
  refine WL.yld rfl (blt rfl) rfl (Y.pickT rfl rfl rfl) ?_
  refine WL.yld rfl (blt rfl) rfl (Y.move rfl rfl) ?_
  refine WL.callW rfl (blt rfl) rfl rfl rfl rfl rfl has25 rfl (call_any Sx.sMin 2 _ (by decide)) ?_
  rintro _ w60 ⟨A62, n63, c64, rfl, gd65, x61⟩
  refine ⟨_, rfl, ?_⟩
  have m7 := m7.ext x61
  have m12 := m12.ext x61
  have m20 := m20.ext x61
  have m26 := m26.ext x61
  have m34 := m34.ext x61
  have gd41 := gd41.ext x61
  have gd49 := gd49.ext x61
  have gd57 := gd57.ext x61
  have xW := Ext.trans xW x61
  refine WL.callW rfl (blt rfl) rfl rfl rfl rfl rfl has11 rfl (calls_cast (by rw [Sx.aw_4]) (expr_any _ (Sx.cal Sx.sMin A62 n63 c64 2) _ gd65 (Sx.aw_sh (by decide) (by decide)) (Sx.aw_ct (by decide)))) ?_
  rintro _ w66 ⟨rfl, x67⟩
  refine ⟨_, rfl, ?_⟩
  have m7 := m7.ext x67
  have m12 := m12.ext x67
  have m20 := m20.ext x67
  have m26 := m26.ext x67
  have m34 := m34.ext x67
  have gd41 := gd41.ext x67
  have gd49 := gd49.ext x67
  have gd57 := gd57.ext x67
  have gd65 := gd65.ext x67
  have xW := Ext.trans xW x67
  refine WL.yldW rfl (blt rfl) rfl rfl rfl (Yld.cast (Y.eql rfl rfl rfl) (vb rfl)) ?_
  refine WL.yld rfl (blt rfl) rfl (Y.pickT rfl rfl rfl) ?_
  refine WL.yld rfl (blt rfl) rfl (Y.move rfl rfl) ?_
  refine WL.yldW rfl (blt rfl) rfl rfl rfl (Y.build (cells := [_, _, _, _, _, _, _, _, _, _, _, _, _]) rfl pl41 rfl rfl) ?_
  refine WL.callW rfl (blt rfl) rfl rfl rfl rfl rfl has17 rfl (calls_cast (by rw [Sx.aw_5]) (step_any _ Sx.st3 _ Sx.st3_good Sx.st3_few)) ?_
  rintro _ w68 ⟨rfl, x69⟩
  refine ⟨_, rfl, ?_⟩
  have m7 := m7.ext x69
  have m12 := m12.ext x69
  have m20 := m20.ext x69
  have m26 := m26.ext x69
  have m34 := m34.ext x69
  have gd41 := gd41.ext x69
  have gd49 := gd49.ext x69
  have gd57 := gd57.ext x69
  have gd65 := gd65.ext x69
  have xW := Ext.trans xW x69
  refine WL.yldW rfl (blt rfl) rfl rfl rfl (Yld.cast (Y.eql rfl rfl rfl) (vb rfl)) ?_
  refine WL.yld rfl (blt rfl) rfl (Y.pickT rfl rfl rfl) ?_
  refine WL.yld rfl (blt rfl) rfl (Y.move rfl rfl) ?_
  refine WL.yldW rfl (blt rfl) rfl rfl rfl (Y.loadS rfl Try.underlying41 rfl ti41 rfl (Blk.row_eq m20)) ?_
  refine WL.callW rfl (blt rfl) rfl rfl rfl rfl rfl has17 rfl (calls_cast (by rw [Sx.aw_6]) (step_any _ (Sx.st4 g3 g8) _ (Sx.st4_good (Ls.lit (f := Sx.sc) (sz := 1) (l := Sx.kL) m7 (fun _ => rfl) rfl (by decide) rfl) (Ls.lit (f := Sx.Ag.v) (sz := 3) (l := Sx.agL) m12 (fun _ => rfl) rfl (by decide) rfl)) Sx.st4_few)) ?_
  rintro _ w70 ⟨rfl, x71⟩
  refine ⟨_, rfl, ?_⟩
  have m7 := m7.ext x71
  have m12 := m12.ext x71
  have m20 := m20.ext x71
  have m26 := m26.ext x71
  have m34 := m34.ext x71
  have gd41 := gd41.ext x71
  have gd49 := gd49.ext x71
  have gd57 := gd57.ext x71
  have gd65 := gd65.ext x71
  have xW := Ext.trans xW x71
  refine WL.yldW rfl (blt rfl) rfl rfl rfl (Yld.cast (Y.eql rfl rfl rfl) (vb rfl)) ?_
  refine WL.yld rfl (blt rfl) rfl (Y.pickT rfl rfl rfl) ?_
  refine WL.yld rfl (blt rfl) rfl (Y.move rfl rfl) ?_
  refine WL.yldW rfl (blt rfl) rfl rfl rfl (Y.loadS rfl Try.underlying28 rfl ti28 rfl (Blk.row_eq m34)) ?_
  refine WL.callW rfl (blt rfl) rfl rfl rfl rfl rfl has14 rfl (columnsE_any _ (Sx.sumE g22) _ (Sx.sum_good (Ls.lit (f := Sx.E.v) (sz := 6) (l := [Sx.fB, Sx.fA]) m26 (fun _ => rfl) rfl (by decide) rfl)) Sx.sum_sh Sx.sum_ct) ?_
  rintro _ w72 ⟨v74, rfl, ow75, x73⟩
  refine ⟨_, rfl, ?_⟩
  have r_v74_g3 := ne_res ow75 m7
  have r_v74_g8 := ne_res ow75 m12
  have r_v74_g13 := ne_res ow75 m20
  have r_v74_g22 := ne_res ow75 m26
  have r_v74_g27 := ne_res ow75 m34
  have ow75 := OwnL.base_le ow75 xW.size
  have m7 := m7.ext x73
  have m12 := m12.ext x73
  have m20 := m20.ext x73
  have m26 := m26.ext x73
  have m34 := m34.ext x73
  have gd41 := gd41.ext x73
  have gd49 := gd49.ext x73
  have gd57 := gd57.ext x73
  have gd65 := gd65.ext x73
  have xW := Ext.trans xW x73
  refine WL.guarded rfl rfl rfl ?_
  refine WL.bslice (zs := [.string ⟨#[]⟩, .string ⟨#[]⟩]) (cs := [_, _]) rfl (blt rfl) rfl rfl Try.underlying34 ti9 rfl (ble rfl) (by kernel_rfl) rfl rfl ?_
  intro g76 w77 e78 x79 m80
  have n_g3_g76 := ne_new m7 e78
  have n_g8_g76 := ne_new m12 e78
  have n_g13_g76 := ne_new m20 e78
  have n_g22_g76 := ne_new m26 e78
  have n_g27_g76 := ne_new m34 e78
  have r_v74_g76 := ne_newO ow75 e78
  have o_g76 := own_new xW e78
  have m7 := m7.ext x79
  have m12 := m12.ext x79
  have m20 := m20.ext x79
  have m26 := m26.ext x79
  have m34 := m34.ext x79
  have gd41 := gd41.ext x79
  have gd49 := gd49.ext x79
  have gd57 := gd57.ext x79
  have gd65 := gd65.ext x79
  have ow75 := ow75.ext x79
  have xW := Ext.trans xW x79
  obtain ⟨A81, n82, c83, rfl, hl84⟩ := OwnL.opened ow75 (fun _ => rfl) (by decide)
  have e_n82 := hl84.len
  try simp only [List.length_append, List.length_cons, List.length_nil, List.length_reverse, List.length_drop, List.length_take, List.length_map, List.length_replicate, List.length_set] at e_n82
  have z_n82 := hl84.nle
  refine WL.callW rfl (blt rfl) rfl rfl rfl rfl rfl has13 rfl (calls_cast (by rw [Sx.aw_7 (g := g22)]) (texts_any _ _ _ _ _ _ _ _ _ hl84 (Ls.lit (f := Sx.sc) (sz := 1) (l := Sx.abL) m80 (fun _ => rfl) rfl (by decide) rfl))) ?_
  rintro _ w85 ⟨rfl, x86⟩
  refine ⟨_, rfl, ?_⟩
  have m7 := m7.ext x86
  have m12 := m12.ext x86
  have m20 := m20.ext x86
  have m26 := m26.ext x86
  have m34 := m34.ext x86
  have gd41 := gd41.ext x86
  have gd49 := gd49.ext x86
  have gd57 := gd57.ext x86
  have gd65 := gd65.ext x86
  have ow75 := ow75.ext x86
  have hl84 := hl84.ext x86
  have m80 := m80.ext x86
  have xW := Ext.trans xW x86
  refine WL.yld rfl (blt rfl) rfl (Y.pickT rfl rfl rfl) ?_
  refine WL.yld rfl (blt rfl) rfl (Y.move rfl rfl) ?_
  refine WL.yldW rfl (blt rfl) rfl rfl rfl (Y.build (cells := [_, _]) rfl pl46 rfl rfl) ?_
  refine WL.callW rfl (blt rfl) rfl rfl rfl rfl rfl has20 rfl (calls_cast (by rw [Sx.aw_8]) (query_any _ (Sx.qOf ⟨#[115, 108, 105, 99, 101, 115]⟩) _ Sx.q_good (Sx.q_few (by decide)))) ?_
  rintro _ w87 ⟨rfl, x88⟩
  refine ⟨_, rfl, ?_⟩
  have m7 := m7.ext x88
  have m12 := m12.ext x88
  have m20 := m20.ext x88
  have m26 := m26.ext x88
  have m34 := m34.ext x88
  have gd41 := gd41.ext x88
  have gd49 := gd49.ext x88
  have gd57 := gd57.ext x88
  have gd65 := gd65.ext x88
  have ow75 := ow75.ext x88
  have hl84 := hl84.ext x88
  have m80 := m80.ext x88
  have xW := Ext.trans xW x88
  refine WL.yldW rfl (blt rfl) rfl rfl rfl (Yld.cast (Y.eql rfl rfl rfl) (vb rfl)) ?_
  refine WL.yld rfl (blt rfl) rfl (Y.pickT rfl rfl rfl) ?_
  refine WL.yld rfl (blt rfl) rfl (Y.move rfl rfl) ?_
  refine WL.yldW rfl (blt rfl) rfl rfl rfl (Y.build (cells := [_, _]) rfl pl46 rfl rfl) ?_
  refine WL.yldW rfl (blt rfl) rfl rfl rfl (Y.build (cells := [_, _]) rfl pl46 rfl rfl) ?_
  refine WL.callW rfl (blt rfl) rfl rfl rfl rfl rfl has23 rfl (calls_cast (by rw [Sx.aw_9]) (same_any _ (Sx.qOf ⟨#[97]⟩) _ (Sx.qOf ⟨#[97]⟩) _ Sx.q_good Sx.q_good)) ?_
  rintro _ w89 ⟨rfl, x90⟩
  refine ⟨_, rfl, ?_⟩
  have m7 := m7.ext x90
  have m12 := m12.ext x90
  have m20 := m20.ext x90
  have m26 := m26.ext x90
  have m34 := m34.ext x90
  have gd41 := gd41.ext x90
  have gd49 := gd49.ext x90
  have gd57 := gd57.ext x90
  have gd65 := gd65.ext x90
  have ow75 := ow75.ext x90
  have hl84 := hl84.ext x90
  have m80 := m80.ext x90
  have xW := Ext.trans xW x90
  refine WL.yld rfl (blt rfl) rfl (Y.pickT rfl rfl rfl) ?_
  refine WL.yld rfl (blt rfl) rfl (Y.move rfl rfl) ?_
  refine WL.yldW rfl (blt rfl) rfl rfl rfl (Y.build (cells := [_, _]) rfl pl46 rfl rfl) ?_
  refine WL.yldW rfl (blt rfl) rfl rfl rfl (Y.build (cells := [_, _]) rfl pl46 rfl rfl) ?_
  refine WL.callW rfl (blt rfl) rfl rfl rfl rfl rfl has23 rfl (calls_cast (by rw [Sx.aw_10]) (same_any _ (Sx.qOf ⟨#[97]⟩) _ (Sx.qOf ⟨#[98]⟩) _ Sx.q_good Sx.q_good)) ?_
  rintro _ w91 ⟨rfl, x92⟩
  refine ⟨_, rfl, ?_⟩
  have m7 := m7.ext x92
  have m12 := m12.ext x92
  have m20 := m20.ext x92
  have m26 := m26.ext x92
  have m34 := m34.ext x92
  have gd41 := gd41.ext x92
  have gd49 := gd49.ext x92
  have gd57 := gd57.ext x92
  have gd65 := gd65.ext x92
  have ow75 := ow75.ext x92
  have hl84 := hl84.ext x92
  have m80 := m80.ext x92
  have xW := Ext.trans xW x92
  refine WL.yldW rfl (blt rfl) rfl rfl rfl (Y.not rfl rfl) ?_
  refine WL.yld rfl (blt rfl) rfl (Y.pickT rfl rfl rfl) ?_
  refine WL.yld rfl (blt rfl) rfl (Y.assign rfl rfl) ?_
  refine WL.nil ?_
  refine WK.then_normal (k35 _ _ ?_)
  refine WC.sub [(0, _)] ⟨rfl, trivial⟩ ?_
  refine WC.ret ?_
  clear k1 k2 k21 k35
  refine WK.ret [_] rfl ⟨rfl, trivial⟩ ?_
  exact ⟨rfl, xW⟩
end AB
end SxW

end Go.Proofs.Ytklccakoblibmaa
