/- The walk of the law. Conditions: what each theorem states. -/
import Derived.Test.YtoldedanhmkolaaSpAwake
namespace Go.Proofs.Ytoldedanhmkolaa
open Go Go.Eng Go.RowKit
set_option linter.unusedVariables false
namespace SpW
open Q C D E A
namespace LSpansMembers
theorem ti3 : TI Try.prog 3 (.int .i64 0) 1 8 := TI.mk (by kernel_rfl)
theorem ti27 : TI Try.prog 27 (.agg #[.int .i64 0, .int .i64 0]) 2 16 := TI.mk (by kernel_rfl)
theorem has9 : Has Try.prog 9 := ⟨_, Try.func9, rfl, by kernel_rfl⟩
theorem has10 : Has Try.prog 10 := ⟨_, Try.func10, rfl, by kernel_rfl⟩
theorem has20 : Has Try.prog 20 := ⟨_, Try.func20, rfl, by kernel_rfl⟩
theorem has22 : Has Try.prog 22 := ⟨_, Try.func22, rfl, by kernel_rfl⟩
theorem has24 : Has Try.prog 24 := ⟨_, Try.func24, rfl, by kernel_rfl⟩
theorem has26 : Has Try.prog 26 := ⟨_, Try.func26, rfl, by kernel_rfl⟩
theorem has27 : Has Try.prog 27 := ⟨_, Try.func27, rfl, by kernel_rfl⟩
theorem SpansMembers_any (A_a : Option Addr) (n_a c_a : Nat) (a : List Sp.S) (A_b : Option Addr) (n_b c_b : Nat) (b : List Sp.S) (q : Int) (w : World) (h_a : Ls w A_a n_a c_a Sp.S.c 2 a) (h_b : Ls w A_b n_b c_b Sp.S.c 2 b) :
    Calls Try.prog 6 #[.slice A_a n_a c_a, .slice A_b n_b c_b, .int .i64 q] w fun e w' => e = .returned (.bool true) ∧ Ext w w' := by
  have xW := Ext.refl w
  have e_a := h_a.len
  have z_a := h_a.nle
  have e_b := h_b.len
  have z_b := h_b.nle
  have c1 := Sp.comb_len Sp.both a b
  have c2 := Sp.comb_len Sp.first a b
  have nu := Sp.norm_len (a ++ b)
  rw [List.length_append] at nu
  refine calls_of_WC (args := [.slice A_a n_a c_a, .slice A_b n_b c_b, .int .i64 q]) Try.func6 rfl rfl (ble rfl) ?_
  refine WC.seq (fun K1 k1 => ?_)
  refine WC.region rfl ?_
  refine WL.yld rfl (blt rfl) rfl (Y.assign rfl rfl) ?_
  refine WL.nil ?_
  refine WK.then_normal (k1 _ _ ?_)
  refine WC.sub [(0, _), (1, _), (2, _)] ⟨rfl, rfl, rfl, trivial⟩ ?_
  refine WC.seq (fun K2 k2 => ?_)
  refine WC.seq (fun K3 k3 => ?_)
  refine WC.region rfl ?_
  refine WL.call rfl (blt rfl) rfl rfl rfl has10 rfl (awake_any _ ) ?_
  rintro _ w4 ⟨rfl, x5⟩
  refine ⟨_, rfl, ?_⟩
  have xW := Ext.trans xW x5
  refine WL.yld rfl (blt rfl) rfl (Y.not rfl rfl) ?_
  refine WL.yld rfl (blt rfl) rfl (Y.move rfl rfl) ?_
  refine WL.yldW rfl (blt rfl) rfl rfl rfl (Y.move rfl rfl) ?_
  refine WL.yldW rfl (blt rfl) rfl rfl rfl (Y.move rfl rfl) ?_
  refine WL.callW rfl (blt rfl) rfl rfl rfl rfl rfl has9 rfl (few_any _ _ _ _ _ _ _ _ _ (h_a.ext xW) (h_b.ext xW)) ?_
  rintro _ w6 ⟨rfl, x7⟩
  refine ⟨_, rfl, ?_⟩
  have xW := Ext.trans xW x7
  refine WL.yldW rfl (blt rfl) rfl rfl rfl (Y.not rfl rfl) ?_
  refine WL.yld rfl (blt rfl) rfl (Y.pickF rfl rfl rfl) ?_
  refine WL.nil ?_
  refine WK.then_normal (k3 _ _ ?_)
  refine WC.sub [(0, _), (1, _), (2, _), (22, _)] ⟨rfl, rfl, rfl, rfl, trivial⟩ ?_
  refine WC.cond rfl (fun h8 => ?_) (fun h8 => ?_)
  ·
    have p8 := ((and_f (not_t h8)).imp (fun h => (dec_f h)) (fun h => (dec_f h)))
    refine WC.seq (fun K9 k9 => ?_)
    refine WC.region rfl ?_
    refine WL.call rfl (blt rfl) rfl rfl rfl has10 rfl (awake_any _ ) ?_
    rintro _ w10 ⟨rfl, x11⟩
    refine ⟨_, rfl, ?_⟩
    have xW := Ext.trans xW x11
    refine WL.yld rfl (blt rfl) rfl (Y.assign rfl rfl) ?_
    refine WL.nil ?_
    refine WK.then_normal (k9 _ _ ?_)
    refine WC.sub [(6, _)] ⟨rfl, trivial⟩ ?_
    refine WC.ret ?_
    refine WK.then_ret ?_
    clear k1 k2 k3 k9
    refine WK.ret [_] rfl ⟨rfl, trivial⟩ ?_
    exact ⟨ret1 (vb rfl), xW⟩
  ·
    have p8 := (And.intro (dec_t (and_t (not_f h8)).1) (dec_t (and_t (not_f h8)).2))
    refine WC.skip ?_
    refine WK.then_normal (k2 _ _ ?_)
    refine WC.sub [(0, _), (1, _), (2, _)] ⟨rfl, rfl, rfl, trivial⟩ ?_
    refine WC.seq (fun K12 k12 => ?_)
    refine WC.region rfl ?_
    refine WL.yld rfl (blt rfl) rfl (Y.move rfl rfl) ?_
    refine WL.bslice (zs := [.int .i64 0]) (cs := [_]) rfl (blt rfl) rfl rfl Try.underlying32 ti3 rfl (ble rfl) (by kernel_rfl) rfl rfl ?_
    intro g13 w14 e15 x16 m17
    have o_g13 := own_new xW e15
    have xW := Ext.trans xW x16
    refine WL.yld rfl (blt rfl) rfl (Y.assign rfl rfl) ?_
    refine WL.nil ?_
    refine WK.then_normal (k12 _ _ ?_)
    refine WC.sub [(0, _), (1, _), (7, _)] ⟨rfl, rfl, rfl, trivial⟩ ?_
    refine WC.seq (fun K18 k18 => ?_)
    refine WC.seq (fun K19 k19 => ?_)
    refine WC.region rfl ?_
    refine WL.yld rfl (blt rfl) rfl (Y.assign rfl rfl) ?_
    refine WL.nil ?_
    refine WK.then_normal (k19 _ _ ?_)
    refine WC.block ?_
    refine WC.sub [(8, _), (7, _), (0, _), (1, _)] ⟨rfl, rfl, rfl, rfl, trivial⟩ ?_
    refine WC.loopS 2 (fun mz Ed W' => ∃ i : Nat, ∃ v : Value, mz = n_a - i ∧ Ed = [(8, .int .i64 ((i : Nat) : Int)), (7, v)] ∧ Ext w W' ∧ OwnL W' w.heap.size 3 Sp.ic 1 v (Sp.times q a i) ∧ (i ≤ n_a)) _ ⟨0, _, rfl, rfl, xW, (Blk.own (f := Sp.ic) (l := (([q] : List Int) : List Int)) m17 o_g13 (fun _ => rfl) rfl (by first | decide | (unfold maxLen; simp)) rfl), (Nat.zero_le _)⟩ ?_
    rintro _ _ w20 ⟨i, v, rfl, rfl, xW, ow_v, le_i⟩
    refine WC.sub [(8, _), (7, _), (0, _), (1, _)] ⟨rfl, rfl, rfl, rfl, trivial⟩ ?_
    refine WC.seq (fun K21 k21 => ?_)
    refine WC.seq (fun K22 k22 => ?_)
    refine WC.region rfl ?_
    refine WL.yld rfl (blt rfl) rfl (Y.move rfl rfl) ?_
    refine WL.yld rfl (blt rfl) rfl (Y.move rfl rfl) ?_
    refine WL.yld rfl (blt rfl) rfl (Y.lenSl rfl rfl rfl Try.underlying22 rfl) ?_
    refine WL.yld rfl (blt rfl) rfl (Y.lss rfl rfl rfl) ?_
    refine WL.nil ?_
    refine WK.then_normal (k22 _ _ ?_)
    refine WC.sub [(0, _), (1, _), (7, _), (8, _), (29, _)] ⟨rfl, rfl, rfl, rfl, rfl, trivial⟩ ?_
    refine WC.cond rfl (fun h23 => ?_) (fun h23 => ?_)
    ·
      have p23 := (dec_t h23)
      refine WC.skip ?_
      refine WK.then_normal (k21 _ _ ?_)
      refine WC.sub [(0, _), (1, _), (7, _), (8, _)] ⟨rfl, rfl, rfl, rfl, trivial⟩ ?_
      refine WC.seq (fun K24 k24 => ?_)
      refine WC.block ?_
      refine WC.regionX (fun W' => Ext w W') (.load 0 (.load 1 (.load 2 (.load 3 (.load 4 (.load 5 (.load 6 (.load 7 (.load 8 (.load 9 (.load 10 (.alt 11 (.alt 12 (.load 13 (.fin)) (.none)) (.none))))))))))))) xW (by kernel_rfl) (by kernel_rfl) (fun w25 x26 => ?_)
      have ow_v := ow_v.ext x26
      have xW := Ext.trans xW x26
      refine WX.yld rfl rfl (blt rfl) rfl (Y.move rfl rfl) ?_
      refine WX.yld rfl rfl (blt rfl) rfl (Y.move rfl rfl) ?_
      refine WX.yld rfl rfl (blt rfl) rfl (Y.move rfl rfl) ?_
      have b27 : i < n_a := by omega
      refine WX.yld rfl rfl (blt rfl) rfl (Y.indexLs i (h_a.ext xW) rfl Try.underlying22 ti27 rfl rfl rfl b27) ?_
      refine WX.yld rfl rfl (blt rfl) rfl (Y.fieldE rfl Try.underlying27 rfl ti3 (by decide) rfl) ?_
      refine WX.yld rfl rfl (blt rfl) rfl (Y.load1 rfl Try.underlying3 rfl rfl (Ls.at_c (fun _ h => (h_a.ext (h))) b27 rfl)) ?_
      refine WX.yld rfl rfl (blt rfl) rfl (Y.move rfl rfl) ?_
      refine WX.yld rfl rfl (blt rfl) rfl (Y.move rfl rfl) ?_
      have b28 : i < n_a := by omega
      refine WX.yld rfl rfl (blt rfl) rfl (Y.indexLs i (h_a.ext xW) rfl Try.underlying22 ti27 rfl rfl rfl b28) ?_
      refine WX.yld rfl rfl (blt rfl) rfl (Y.fieldE rfl Try.underlying27 rfl ti3 (by decide) rfl) ?_
      refine WX.yld rfl rfl (blt rfl) rfl (Y.load1 rfl Try.underlying3 rfl rfl (Ls.at_c (fun _ h => (h_a.ext (h))) b28 rfl)) ?_
      refine WX.run rfl rfl (blt rfl) rfl xW (Run.bslice (zs := [.int .i64 0, .int .i64 0]) (cs := [_, _]) rfl Try.underlying32 ti3 rfl (ble rfl) (by kernel_rfl) rfl rfl) ?_
      rintro _ w30 ⟨g29, rfl, e31, x32, m33⟩
      have r_v_g29 := ne_newO ow_v e31
      have o_g29 := own_new xW e31
      have ow_v := ow_v.ext x32
      have xW := Ext.trans xW x32
      refine WX.run rfl rfl (blt rfl) rfl xW (Run.appendB (f := Sp.ic) (news := [a[i]!.f, a[i]!.t]) rfl rfl rfl Try.underlying32 ti3 rfl (by decide) rfl ow_v (fun _ => rfl) Sp.ic_one m33 rfl xW.size (by have q0 := Sp.times_len q (show i ≤ a.length from by omega); first | omega | (simp only [List.length_append, List.length_cons, List.length_nil, List.length_take, List.length_drop, List.length_reverse]; omega)) (Nat.le_trans (show _ ≤ 140737488355328 from by have q0 := Sp.times_len q (show i ≤ a.length from by omega); first | omega | (simp only [List.length_append, List.length_cons, List.length_nil, List.length_take, List.length_drop, List.length_reverse]; omega)) (by decide)) ) ?_
      rintro v34 w35 ⟨ow36, gr37, nb38⟩
      have r_v34_g29 := ne_app nb38 r_v_g29 m33
      have m33 := m33.grown gr37 r_v_g29
      have xW := Ext.grown xW gr37 (fun b hb => (OwnL.lt ow_v hb).1)
      refine WX.yld rfl rfl (blt rfl) rfl (Y.assign rfl rfl) ?_
      refine WX.nil xW ?_
      refine WK.in_normal ?_
      refine WK.then_normal (k24 _ _ ?_)
      refine WC.sub [(0, _), (1, _), (7, _), (8, _)] ⟨rfl, rfl, rfl, rfl, trivial⟩ ?_
      refine WC.region rfl ?_
      refine WL.yld rfl (blt rfl) rfl (Y.move rfl rfl) ?_
      refine WL.yld rfl (blt rfl) rfl (Y.add rfl rfl rfl (wrap_i64 (by first | omega | (dsimp only; omega)))) ?_
      refine WL.yld rfl (blt rfl) rfl (Y.assign rfl rfl) ?_
      refine WL.nil ?_
      refine WK.roundS _ [(8, .int .i64 (((i + 1) : Nat) : Int)), (7, v34)] ⟨rfl, rfl, rfl, rfl, trivial⟩ ?_ ⟨(i + 1), v34, rfl, rfl, xW, (by rw [Sp.times_succ q (show i < a.length from by omega)]; exact ow36), (by omega)⟩
      show _ - (i + 1) < _ - i; omega
    ·
      have p23 := (dec_f h23)
      refine WC.exit ?_
      refine WK.then_exit ?_
      refine WK.then_exit ?_
      refine WK.in_exit ?_
      refine WK.then_normal (k18 _ _ ?_)
      refine WC.sub [(0, _), (1, _), (7, _)] ⟨rfl, rfl, rfl, trivial⟩ ?_
      refine WC.seq (fun K39 k39 => ?_)
      refine WC.region rfl ?_
      refine WL.yld rfl (blt rfl) rfl (Y.move rfl rfl) ?_
      refine WL.yld rfl (blt rfl) rfl (Y.move rfl rfl) ?_
      refine WL.call rfl (blt rfl) rfl rfl rfl has20 rfl (union_any _ _ _ _ _ _ _ _ _ (h_a.ext xW) (h_b.ext xW) (by omega) (by omega)) ?_
      rintro _ w40 ⟨v42, rfl, ow43, x41⟩
      refine ⟨_, rfl, ?_⟩
      have d_v_v42 := (Apart.res ow43 ow_v).symm
      have ow43 := OwnL.base_le ow43 xW.size
      have ow_v := ow_v.ext x41
      have xW := Ext.trans xW x41
      refine WL.yld rfl (blt rfl) rfl (Y.move rfl rfl) ?_
      refine WL.yld rfl (blt rfl) rfl (Y.move rfl rfl) ?_
      refine WL.call rfl (blt rfl) rfl rfl rfl has22 rfl (meet_any _ _ _ _ _ _ _ _ _ (h_a.ext xW) (h_b.ext xW) (by omega) (by omega)) ?_
      rintro _ w44 ⟨v46, rfl, ow47, x45⟩
      refine ⟨_, rfl, ?_⟩
      have d_v_v46 := (Apart.res ow47 ow_v).symm
      have d_v42_v46 := (Apart.res ow47 ow43).symm
      have ow47 := OwnL.base_le ow47 xW.size
      have ow_v := ow_v.ext x45
      have ow43 := ow43.ext x45
      have xW := Ext.trans xW x45
      refine WL.yld rfl (blt rfl) rfl (Y.move rfl rfl) ?_
      refine WL.yld rfl (blt rfl) rfl (Y.move rfl rfl) ?_
      refine WL.call rfl (blt rfl) rfl rfl rfl has24 rfl (minus_any _ _ _ _ _ _ _ _ _ (h_a.ext xW) (h_b.ext xW) (by omega) (by omega)) ?_
      rintro _ w48 ⟨v50, rfl, ow51, x49⟩
      refine ⟨_, rfl, ?_⟩
      have d_v_v50 := (Apart.res ow51 ow_v).symm
      have d_v42_v50 := (Apart.res ow51 ow43).symm
      have d_v46_v50 := (Apart.res ow51 ow47).symm
      have ow51 := OwnL.base_le ow51 xW.size
      have ow_v := ow_v.ext x49
      have ow43 := ow43.ext x49
      have ow47 := ow47.ext x49
      have xW := Ext.trans xW x49
      refine WL.yld rfl (blt rfl) rfl (Y.assign rfl rfl) ?_
      refine WL.yld rfl (blt rfl) rfl (Y.assign rfl rfl) ?_
      refine WL.yld rfl (blt rfl) rfl (Y.assign rfl rfl) ?_
      refine WL.nil ?_
      refine WK.then_normal (k39 _ _ ?_)
      refine WC.sub [(0, _), (1, _), (7, _), (9, _), (10, _), (11, _)] ⟨rfl, rfl, rfl, rfl, rfl, rfl, trivial⟩ ?_
      refine WC.seq (fun K52 k52 => ?_)
      refine WC.seq (fun K53 k53 => ?_)
      refine WC.region rfl ?_
      refine WL.yld rfl (blt rfl) rfl (Y.assign rfl rfl) ?_
      refine WL.nil ?_
      refine WK.then_normal (k53 _ _ ?_)
      refine WC.block ?_
      obtain ⟨A54, n55, c56, rfl, hl57⟩ := OwnL.opened ow_v (fun _ => rfl) (by decide)
      have e_n55 := hl57.len
      try simp only [List.length_append, List.length_cons, List.length_nil, List.length_reverse, List.length_drop, List.length_take] at e_n55
      have z_n55 := hl57.nle
      refine WC.sub [(12, _), (0, _), (1, _), (7, _), (9, _), (10, _), (11, _)] ⟨rfl, rfl, rfl, rfl, rfl, rfl, rfl, trivial⟩ ?_
      refine WC.loopS 1 (fun mz Ed W' => ∃ j : Nat, mz = n55 - j ∧ Ed = [(12, .int .i64 ((j : Nat) : Int))] ∧ Ext w W' ∧ OwnL W' w.heap.size 3 Sp.ic 1 (.slice A54 n55 c56) _ ∧ OwnL W' w.heap.size 27 Sp.S.c 2 v42 _ ∧ OwnL W' w.heap.size 27 Sp.S.c 2 v46 _ ∧ OwnL W' w.heap.size 27 Sp.S.c 2 v50 _ ∧ (j ≤ n55) ∧ (True)) _ ⟨0, rfl, rfl, xW, ow_v, ow43, ow47, ow51, (Nat.zero_le _), trivial⟩ ?_
      rintro _ _ w58 ⟨j, rfl, rfl, xW, ow_v, ow43, ow47, ow51, le_j, inv_j⟩
      refine WC.sub [(12, _), (0, _), (1, _), (7, _), (9, _), (10, _), (11, _)] ⟨rfl, rfl, rfl, rfl, rfl, rfl, rfl, trivial⟩ ?_
      have hl57 := OwnL.ls ow_v (fun _ => rfl) (by decide)
      refine WC.seq (fun K59 k59 => ?_)
      refine WC.seq (fun K60 k60 => ?_)
      refine WC.region rfl ?_
      refine WL.yld rfl (blt rfl) rfl (Y.move rfl rfl) ?_
      refine WL.yld rfl (blt rfl) rfl (Y.move rfl rfl) ?_
      refine WL.yld rfl (blt rfl) rfl (Y.lenSl rfl rfl rfl Try.underlying32 rfl) ?_
      refine WL.yld rfl (blt rfl) rfl (Y.lss rfl rfl rfl) ?_
      refine WL.nil ?_
      refine WK.then_normal (k60 _ _ ?_)
      refine WC.sub [(0, _), (1, _), (7, _), (9, _), (10, _), (11, _), (12, _), (57, _)] ⟨rfl, rfl, rfl, rfl, rfl, rfl, rfl, rfl, trivial⟩ ?_
      refine WC.cond rfl (fun h61 => ?_) (fun h61 => ?_)
      ·
        have p61 := (dec_t h61)
        refine WC.skip ?_
        refine WK.then_normal (k59 _ _ ?_)
        refine WC.sub [(0, _), (1, _), (7, _), (9, _), (10, _), (11, _), (12, _)] ⟨rfl, rfl, rfl, rfl, rfl, rfl, rfl, trivial⟩ ?_
        refine WC.seq (fun K62 k62 => ?_)
        refine WC.block ?_
        refine WC.seq (fun K63 k63 => ?_)
        refine WC.regionDq (by kernel_rfl) (by kernel_rfl) rfl ?_
        refine WQ.yld rfl (blt rfl) rfl (Y.move rfl rfl) ?_
        refine WQ.yld rfl (blt rfl) rfl (Y.move rfl rfl) ?_
        refine WQ.yld rfl (blt rfl) rfl (Y.move rfl rfl) ?_
        have b64 : j < n55 := by omega
        refine WQ.yld rfl (blt rfl) rfl (Y.indexLs j hl57 rfl Try.underlying32 ti3 rfl rfl rfl b64) ?_
        refine WQ.yld rfl (blt rfl) rfl (Y.load1 rfl Try.underlying3 rfl rfl (Ls.at_ext hl57 b64 rfl)) ?_
        refine WQ.call rfl (blt rfl) rfl rfl rfl has26 rfl (fun w hw => calls_ext hw (covers_any _ _ _ _ _ _ (Ls.ext (h_a.ext xW) hw))) ?_
        refine WQ.yld rfl (blt rfl) rfl (Y.move rfl rfl) ?_
        refine WQ.yld rfl (blt rfl) rfl (Y.move rfl rfl) ?_
        refine WQ.yld rfl (blt rfl) rfl (Y.move rfl rfl) ?_
        have b65 : j < n55 := by omega
        refine WQ.yld rfl (blt rfl) rfl (Y.indexLs j hl57 rfl Try.underlying32 ti3 rfl rfl rfl b65) ?_
        refine WQ.yld rfl (blt rfl) rfl (Y.load1 rfl Try.underlying3 rfl rfl (Ls.at_ext hl57 b65 rfl)) ?_
        refine WQ.call rfl (blt rfl) rfl rfl rfl has26 rfl (fun w hw => calls_ext hw (covers_any _ _ _ _ _ _ (Ls.ext (h_b.ext xW) hw))) ?_
        refine WQ.yld rfl (blt rfl) rfl (Y.assign rfl rfl) ?_
        refine WQ.yld rfl (blt rfl) rfl (Y.assign rfl rfl) ?_
        refine WQ.done (fun w66 x67 => ?_)
        have ow_v := ow_v.ext x67
        have hl57 := hl57.ext x67
        have ow43 := ow43.ext x67
        have ow47 := ow47.ext x67
        have ow51 := ow51.ext x67
        have xW := Ext.trans xW x67
        refine WK.then_normal (k63 _ _ ?_)
        refine WC.sub [(0, _), (1, _), (7, _), (9, _), (10, _), (11, _), (12, _), (13, _), (14, _)] ⟨rfl, rfl, rfl, rfl, rfl, rfl, rfl, rfl, rfl, trivial⟩ ?_
        refine WC.seq (fun K68 k68 => ?_)
        refine WC.region rfl ?_
        refine WL.yld rfl (blt rfl) rfl (Y.move rfl rfl) ?_
        refine WL.yld rfl (blt rfl) rfl (Y.move rfl rfl) ?_
        refine WL.yld rfl (blt rfl) rfl (Y.move rfl rfl) ?_
        refine WL.yld rfl (blt rfl) rfl (Y.move rfl rfl) ?_
        have b69 : j < n55 := by omega
        refine WL.yld rfl (blt rfl) rfl (Y.indexLs j hl57 rfl Try.underlying32 ti3 rfl rfl rfl b69) ?_
        refine WL.yld rfl (blt rfl) rfl (Y.load1 rfl Try.underlying3 rfl rfl (Ls.at_eq hl57 b69 rfl)) ?_
        refine WL.call rfl (blt rfl) rfl rfl rfl has27 rfl (rcovers_any _ _ _ _ _ _ (h_a.ext xW)) ?_
        rintro _ w70 ⟨rfl, x71⟩
        refine ⟨_, rfl, ?_⟩
        have ow_v := ow_v.ext x71
        have hl57 := hl57.ext x71
        have ow43 := ow43.ext x71
        have ow47 := ow47.ext x71
        have ow51 := ow51.ext x71
        have xW := Ext.trans xW x71
        refine WL.yld rfl (blt rfl) rfl (Y.neqB rfl Try.underlying4 rfl rfl) ?_
        refine WL.yld rfl (blt rfl) rfl (Y.move rfl rfl) ?_
        refine WL.yldG rfl (blt rfl) rfl rfl rfl (fun hb => Y.move rfl rfl) ?_
        refine WL.yldG rfl (blt rfl) rfl rfl rfl (fun hb => Y.move rfl rfl) ?_
        refine WL.yldG rfl (blt rfl) rfl rfl rfl (fun hb => Y.move rfl rfl) ?_
        refine WL.yldG rfl (blt rfl) rfl rfl rfl (fun hb => Y.indexLs j hl57 rfl Try.underlying32 ti3 (evg rfl hb) (evg rfl hb) rfl (by omega)) ?_
        refine WL.yldG rfl (blt rfl) rfl rfl rfl (fun hb => Y.load1 rfl Try.underlying3 rfl (evg rfl hb) (Ls.at_eq hl57 (by omega) rfl)) ?_
        obtain ⟨A72, n73, c74, rfl, hl75⟩ := OwnL.opened ow43 (fun _ => rfl) (by decide)
        have e_n73 := hl75.len
        try simp only [List.length_append, List.length_cons, List.length_nil, List.length_reverse, List.length_drop, List.length_take] at e_n73
        have z_n73 := hl75.nle
        refine WL.callG rfl (blt rfl) rfl rfl rfl rfl rfl has26 (fun hb => (evs_cons (evg rfl hb) (evs_cons (evg rfl hb) evs_nil))) (fun hb => covers_any _ _ _ _ _ _ hl75) (fun w76 x77 => ?_)
        have ow_v := ow_v.ext x77
        have hl57 := hl57.ext x77
        have ow43 := ow43.ext x77
        have hl75 := hl75.ext x77
        have ow47 := ow47.ext x77
        have ow51 := ow51.ext x77
        have xW := Ext.trans xW x77
        refine WL.yldG rfl (blt rfl) rfl rfl rfl (fun hb => Y.move rfl rfl) ?_
        refine WL.yldG rfl (blt rfl) rfl rfl rfl (fun hb => Y.move rfl (evg rfl hb)) ?_
        refine WL.yldGs [(_, _)] rfl (blt rfl) rfl rfl rfl (fun hb => Y.move rfl rfl) ?_
        refine WL.yldG rfl (blt rfl) rfl rfl rfl (fun hb => Y.or rfl (evg rfl hb) rfl (evg rfl hb)) ?_
        refine WL.yldG rfl (blt rfl) rfl rfl rfl (fun hb => Y.neqB rfl Try.underlying4 (evg rfl hb) (evg rfl hb)) ?_
        refine WL.yld rfl (blt rfl) rfl (Y.or rfl rfl rfl rfl) ?_
        refine WL.yld rfl (blt rfl) rfl (Y.move rfl rfl) ?_
        refine WL.yldG rfl (blt rfl) rfl rfl rfl (fun hb => Y.move rfl rfl) ?_
        refine WL.yldG rfl (blt rfl) rfl rfl rfl (fun hb => Y.move rfl rfl) ?_
        refine WL.yldG rfl (blt rfl) rfl rfl rfl (fun hb => Y.move rfl rfl) ?_
        refine WL.yldG rfl (blt rfl) rfl rfl rfl (fun hb => Y.indexLs j hl57 rfl Try.underlying32 ti3 (evg rfl hb) (evg rfl hb) rfl (by omega)) ?_
        refine WL.yldG rfl (blt rfl) rfl rfl rfl (fun hb => Y.load1 rfl Try.underlying3 rfl (evg rfl hb) (Ls.at_eq hl57 (by omega) rfl)) ?_
        obtain ⟨A78, n79, c80, rfl, hl81⟩ := OwnL.opened ow47 (fun _ => rfl) (by decide)
        have e_n79 := hl81.len
        try simp only [List.length_append, List.length_cons, List.length_nil, List.length_reverse, List.length_drop, List.length_take] at e_n79
        have z_n79 := hl81.nle
        refine WL.callG rfl (blt rfl) rfl rfl rfl rfl rfl has26 (fun hb => (evs_cons (evg rfl hb) (evs_cons (evg rfl hb) evs_nil))) (fun hb => covers_any _ _ _ _ _ _ hl81) (fun w82 x83 => ?_)
        have ow_v := ow_v.ext x83
        have hl57 := hl57.ext x83
        have ow43 := ow43.ext x83
        have hl75 := hl75.ext x83
        have ow47 := ow47.ext x83
        have hl81 := hl81.ext x83
        have ow51 := ow51.ext x83
        have xW := Ext.trans xW x83
        refine WL.yldG rfl (blt rfl) rfl rfl rfl (fun hb => Y.move rfl rfl) ?_
        refine WL.yldG rfl (blt rfl) rfl rfl rfl (fun hb => Y.move rfl (evg rfl hb)) ?_
        refine WL.yldGs [(_, _)] rfl (blt rfl) rfl rfl rfl (fun hb => Y.move rfl rfl) ?_
        refine WL.yldG rfl (blt rfl) rfl rfl rfl (fun hb => Y.and rfl (evg rfl hb) (evg rfl hb) rfl) ?_
        refine WL.yldG rfl (blt rfl) rfl rfl rfl (fun hb => Y.neqB rfl Try.underlying4 (evg rfl hb) (evg rfl hb)) ?_
        refine WL.yld rfl (blt rfl) rfl (Y.or rfl rfl rfl rfl) ?_
        refine WL.yld rfl (blt rfl) rfl (Y.move rfl rfl) ?_
        refine WL.yldG rfl (blt rfl) rfl rfl rfl (fun hb => Y.move rfl rfl) ?_
        refine WL.yldG rfl (blt rfl) rfl rfl rfl (fun hb => Y.move rfl rfl) ?_
        refine WL.yldG rfl (blt rfl) rfl rfl rfl (fun hb => Y.move rfl rfl) ?_
        refine WL.yldG rfl (blt rfl) rfl rfl rfl (fun hb => Y.indexLs j hl57 rfl Try.underlying32 ti3 (evg rfl hb) (evg rfl hb) rfl (by omega)) ?_
        refine WL.yldG rfl (blt rfl) rfl rfl rfl (fun hb => Y.load1 rfl Try.underlying3 rfl (evg rfl hb) (Ls.at_eq hl57 (by omega) rfl)) ?_
        obtain ⟨A84, n85, c86, rfl, hl87⟩ := OwnL.opened ow51 (fun _ => rfl) (by decide)
        have e_n85 := hl87.len
        try simp only [List.length_append, List.length_cons, List.length_nil, List.length_reverse, List.length_drop, List.length_take] at e_n85
        have z_n85 := hl87.nle
        refine WL.callG rfl (blt rfl) rfl rfl rfl rfl rfl has26 (fun hb => (evs_cons (evg rfl hb) (evs_cons (evg rfl hb) evs_nil))) (fun hb => covers_any _ _ _ _ _ _ hl87) (fun w88 x89 => ?_)
        have ow_v := ow_v.ext x89
        have hl57 := hl57.ext x89
        have ow43 := ow43.ext x89
        have hl75 := hl75.ext x89
        have ow47 := ow47.ext x89
        have hl81 := hl81.ext x89
        have ow51 := ow51.ext x89
        have hl87 := hl87.ext x89
        have xW := Ext.trans xW x89
        refine WL.yldG rfl (blt rfl) rfl rfl rfl (fun hb => Y.move rfl rfl) ?_
        refine WL.yldG rfl (blt rfl) rfl rfl rfl (fun hb => Y.move rfl (evg rfl hb)) ?_
        refine WL.yldGs [(_, _)] rfl (blt rfl) rfl rfl rfl (fun hb => Y.move rfl rfl) ?_
        refine WL.yldGs [(_, _)] rfl (blt rfl) rfl rfl rfl (fun hb => Y.not rfl (evg (evg rfl hb.1) hb.2.1)) ?_
        refine WL.yldG rfl (blt rfl) rfl rfl rfl (fun hb => Y.and rfl (evg rfl hb) (evg rfl hb) rfl) ?_
        refine WL.yldG rfl (blt rfl) rfl rfl rfl (fun hb => Y.neqB rfl Try.underlying4 (evg rfl hb) (evg rfl hb)) ?_
        refine WL.yld rfl (blt rfl) rfl (Y.or rfl rfl rfl rfl) ?_
        refine WL.nil ?_
        refine WK.then_normal (k68 _ _ ?_)
        refine WC.sub [(0, _), (1, _), (7, _), (9, _), (10, _), (11, _), (12, _), (119, _)] ⟨rfl, rfl, rfl, rfl, rfl, rfl, rfl, rfl, trivial⟩ ?_
        refine WC.cond rfl (fun h90 => ?_) (fun h90 => ?_)
        ·
          clear k1 k2 k3 k12 k18 k19 k21 k22 k39 k52 k53 k59 k60 k62 k63 k68
          have hd := h90
          rw [Sp.cov_union, Sp.cov_meet, Sp.cov_minus] at hd
          simp at hd
        ·
          refine WC.skip ?_
          refine WK.in_normal ?_
          refine WK.then_normal (k62 _ _ ?_)
          refine WC.sub [(0, _), (1, _), (7, _), (9, _), (10, _), (11, _), (12, _)] ⟨rfl, rfl, rfl, rfl, rfl, rfl, rfl, trivial⟩ ?_
          refine WC.region rfl ?_
          refine WL.yld rfl (blt rfl) rfl (Y.move rfl rfl) ?_
          refine WL.yld rfl (blt rfl) rfl (Y.add rfl rfl rfl (wrap_i64 (by first | omega | (dsimp only; omega)))) ?_
          refine WL.yld rfl (blt rfl) rfl (Y.assign rfl rfl) ?_
          refine WL.nil ?_
          refine WK.roundS _ [(12, .int .i64 (((j + 1) : Nat) : Int))] ⟨rfl, rfl, rfl, rfl, rfl, rfl, rfl, trivial⟩ ?_ ⟨(j + 1), rfl, rfl, xW, ow_v, ow43, ow47, ow51, (by omega), trivial⟩
          show _ - (j + 1) < _ - j; omega
      ·
        have p61 := (dec_f h61)
        refine WC.exit ?_
        refine WK.then_exit ?_
        refine WK.then_exit ?_
        refine WK.in_exit ?_
        refine WK.then_normal (k52 _ _ ?_)
        refine WC.sub [] trivial ?_
        refine WC.seq (fun K91 k91 => ?_)
        refine WC.region rfl ?_
        refine WL.yld rfl (blt rfl) rfl (Y.assign rfl rfl) ?_
        refine WL.nil ?_
        refine WK.then_normal (k91 _ _ ?_)
        refine WC.ret ?_
        clear k1 k2 k3 k12 k18 k19 k21 k22 k39 k52 k53 k59 k60 k91
        refine WK.ret [_] rfl ⟨rfl, trivial⟩ ?_
        exact ⟨ret1 (vb rfl), xW⟩
end LSpansMembers
end SpW

end Go.Proofs.Ytoldedanhmkolaa
