/- The walk of the law. Conditions: what each theorem states. -/
import Derived.Test.YtoldedanhmkolaaSpAwake
namespace Go.Proofs.Ytoldedanhmkolaa
open Go Go.Eng Go.RowKit
set_option linter.unusedVariables false
namespace SpW
open Q C D E A
namespace LSpansStable
theorem ti27 : TI Try.prog 27 (.agg #[.int .i64 0, .int .i64 0]) 2 16 := TI.mk (by kernel_rfl)
theorem has9 : Has Try.prog 9 := ⟨_, Try.func9, rfl, by kernel_rfl⟩
theorem has10 : Has Try.prog 10 := ⟨_, Try.func10, rfl, by kernel_rfl⟩
theorem has13 : Has Try.prog 13 := ⟨_, Try.func13, rfl, by kernel_rfl⟩
theorem has14 : Has Try.prog 14 := ⟨_, Try.func14, rfl, by kernel_rfl⟩
theorem has16 : Has Try.prog 16 := ⟨_, Try.func16, rfl, by kernel_rfl⟩
theorem SpansStable_any (A_l : Option Addr) (n_l c_l : Nat) (l : List Sp.S) (w : World) (h_l : Ls w A_l n_l c_l Sp.S.c 2 l) :
    Calls Try.prog 4 #[.slice A_l n_l c_l] w fun e w' => e = .returned (.bool true) ∧ Ext w w' := by
  have xW := Ext.refl w
  have e_l := h_l.len
  have z_l := h_l.nle
  have nl := Sp.norm_len l
  refine calls_of_WC (args := [.slice A_l n_l c_l]) Try.func4 rfl rfl (ble rfl) ?_
  refine WC.seq (fun K1 k1 => ?_)
  refine WC.region rfl ?_
  refine WL.yld rfl (blt rfl) rfl (Y.assign rfl rfl) ?_
  refine WL.nil ?_
  refine WK.then_normal (k1 _ _ ?_)
  refine WC.sub [(0, _)] ⟨rfl, trivial⟩ ?_
  refine WC.seq (fun K2 k2 => ?_)
  refine WC.seq (fun K3 k3 => ?_)
  refine WC.region rfl ?_
  refine WL.call rfl (blt rfl) rfl rfl rfl has10 rfl (awake_any _ ) ?_
  rintro _ w4 ⟨rfl, x5⟩
  refine ⟨_, rfl, ?_⟩
  have xW := Ext.trans xW x5
  refine WL.yld rfl (blt rfl) rfl (Y.not rfl rfl) ?_
  refine WL.yld rfl (blt rfl) rfl (Y.move rfl rfl) ?_
  refine WL.yldW rfl (blt rfl) rfl rfl rfl (Y.move rfl rfl) ?_
  refine WL.callW rfl (blt rfl) rfl rfl rfl rfl rfl has9 rfl (few_any _ _ _ _ _ _ _ _ _ (h_l.ext xW) (Ls.nil (by decide))) ?_
  rintro _ w6 ⟨rfl, x7⟩
  refine ⟨_, rfl, ?_⟩
  have xW := Ext.trans xW x7
  refine WL.yldW rfl (blt rfl) rfl rfl rfl (Y.not rfl rfl) ?_
  refine WL.yld rfl (blt rfl) rfl (Y.pickF rfl rfl rfl) ?_
  refine WL.nil ?_
  refine WK.then_normal (k3 _ _ ?_)
  refine WC.sub [(0, _), (12, _)] ⟨rfl, rfl, trivial⟩ ?_
  refine WC.cond rfl (fun h8 => ?_) (fun h8 => ?_)
  ·
    have p8 := ((and_f (not_t h8)).imp (fun h => (dec_f h)) (fun h => (dec_f h)))
    refine WC.seq (fun K9 k9 => ?_)
    refine WC.region rfl ?_
    refine WL.call rfl (blt rfl) rfl rfl rfl has10 rfl (awake_any _ ) ?_
    rintro _ w10 ⟨rfl, x11⟩
    refine ⟨_, rfl, ?_⟩
    have xW := Ext.trans xW x11
    refine WL.yld rfl (blt rfl) rfl (Y.assign rfl rfl) ?_
    refine WL.nil ?_
    refine WK.then_normal (k9 _ _ ?_)
    refine WC.sub [(2, _)] ⟨rfl, trivial⟩ ?_
    refine WC.ret ?_
    refine WK.then_ret ?_
    clear k1 k2 k3 k9
    refine WK.ret [_] rfl ⟨rfl, trivial⟩ ?_
    exact ⟨ret1 (vb rfl), xW⟩
  ·
    have p8 := (And.intro (dec_t (and_t (not_f h8)).1) (dec_t (and_t (not_f h8)).2))
    refine WC.skip ?_
    refine WK.then_normal (k2 _ _ ?_)
    refine WC.sub [(0, _)] ⟨rfl, trivial⟩ ?_
    refine WC.seq (fun K12 k12 => ?_)
    refine WC.region rfl ?_
    refine WL.yld rfl (blt rfl) rfl (Y.move rfl rfl) ?_
    refine WL.call rfl (blt rfl) rfl rfl rfl has14 rfl (normal_any _ _ _ _ _ (h_l.ext xW) (by omega)) ?_
    rintro _ w13 ⟨v15, rfl, ow16, x14⟩
    refine ⟨_, rfl, ?_⟩
    have ow16 := OwnL.base_le ow16 xW.size
    have xW := Ext.trans xW x14
    refine WL.yld rfl (blt rfl) rfl (Y.assign rfl rfl) ?_
    refine WL.nil ?_
    refine WK.then_normal (k12 _ _ ?_)
    refine WC.sub [(0, _), (3, _)] ⟨rfl, rfl, trivial⟩ ?_
    refine WC.seq (fun K17 k17 => ?_)
    refine WC.region rfl ?_
    refine WL.yld rfl (blt rfl) rfl (Y.assign rfl rfl) ?_
    refine WL.nil ?_
    refine WK.then_normal (k17 _ _ ?_)
    refine WC.seq (fun K18 k18 => ?_)
    refine WC.seq (fun K19 k19 => ?_)
    refine WC.region rfl ?_
    refine WL.yld rfl (blt rfl) rfl (Y.move rfl rfl) ?_
    refine WL.yld rfl (blt rfl) rfl (Y.lenSl rfl rfl rfl Try.underlying22 rfl) ?_
    refine WL.yld rfl (blt rfl) rfl (Y.sub rfl rfl rfl (wrap_i64 (by first | omega | (dsimp only; omega)))) ?_
    refine WL.yld rfl (blt rfl) rfl (Y.assign rfl rfl) ?_
    refine WL.nil ?_
    refine WK.then_normal (k19 _ _ ?_)
    refine WC.sub [(0, _), (3, _), (4, _), (5, _)] ⟨rfl, rfl, rfl, rfl, trivial⟩ ?_
    refine WC.block ?_
    refine WC.sub [(5, _), (4, _), (0, _), (3, _)] ⟨rfl, rfl, rfl, rfl, trivial⟩ ?_
    refine WC.loopS 2 (fun mz Ed W' => ∃ z : Int, ∃ v : Value, mz = (z + 1).toNat ∧ Ed = [(5, .int .i64 z), (4, v)] ∧ Ext w W' ∧ OwnL W' w.heap.size 27 Sp.S.c 2 v15 _ ∧ OwnL W' w.heap.size 27 Sp.S.c 2 v (Sp.back l (z + 1).toNat) ∧ Apart v v15 ∧ (-1 ≤ z ∧ z < n_l)) _ ⟨_, _, rfl, rfl, xW, ow16, (by rw [Sp.back_end (by omega)]; exact OwnL.nil_), Apart.nil_l, (by omega)⟩ ?_
    rintro _ _ w20 ⟨z, v, rfl, rfl, xW, ow16, ow_v, d_v_v15, le_z⟩
    refine WC.sub [(5, _), (4, _), (0, _), (3, _)] ⟨rfl, rfl, rfl, rfl, trivial⟩ ?_
    refine WC.seq (fun K21 k21 => ?_)
    refine WC.seq (fun K22 k22 => ?_)
    refine WC.region rfl ?_
    refine WL.yld rfl (blt rfl) rfl (Y.move rfl rfl) ?_
    refine WL.yld rfl (blt rfl) rfl (Y.geq rfl rfl rfl) ?_
    refine WL.nil ?_
    refine WK.then_normal (k22 _ _ ?_)
    refine WC.sub [(0, _), (3, _), (4, _), (5, _), (20, _)] ⟨rfl, rfl, rfl, rfl, rfl, trivial⟩ ?_
    refine WC.cond rfl (fun h23 => ?_) (fun h23 => ?_)
    ·
      have p23 := (dec_t h23)
      refine WC.skip ?_
      refine WK.then_normal (k21 _ _ ?_)
      refine WC.sub [(0, _), (3, _), (4, _), (5, _)] ⟨rfl, rfl, rfl, rfl, trivial⟩ ?_
      refine WC.seq (fun K24 k24 => ?_)
      refine WC.block ?_
      refine WC.regionX (fun W' => Ext w W') (.load 0 (.load 1 (.load 2 (.load 3 (.load 4 (.load 5 (.load 6 (.load 7 (.load 8 (.alt 9 (.alt 10 (.load 11 (.fin)) (.none)) (.none))))))))))) xW (by kernel_rfl) (by kernel_rfl) (fun w25 x26 => ?_)
      have ow16 := ow16.ext x26
      have ow_v := ow_v.ext x26
      have xW := Ext.trans xW x26
      refine WX.yld rfl rfl (blt rfl) rfl (Y.move rfl rfl) ?_
      refine WX.yld rfl rfl (blt rfl) rfl (Y.move rfl rfl) ?_
      refine WX.yld rfl rfl (blt rfl) rfl (Y.move rfl rfl) ?_
      have b27 : z.toNat < n_l := by omega
      refine WX.yld rfl rfl (blt rfl) rfl (Y.indexLs z.toNat (h_l.ext xW) rfl Try.underlying22 ti27 rfl rfl (by omega) b27) ?_
      refine WX.yld rfl rfl (blt rfl) rfl (Y.loadS (cs := [_, _]) rfl Try.underlying27 rfl ti27 rfl (Ls.part_c (fun _ h => (h_l.ext (h))) b27 rfl)) ?_
      refine WX.yld rfl rfl (blt rfl) rfl (Y.move rfl rfl) ?_
      refine WX.yld rfl rfl (blt rfl) rfl (Y.move rfl rfl) ?_
      have b28 : z.toNat < n_l := by omega
      refine WX.yld rfl rfl (blt rfl) rfl (Y.indexLs z.toNat (h_l.ext xW) rfl Try.underlying22 ti27 rfl rfl (by omega) b28) ?_
      refine WX.yld rfl rfl (blt rfl) rfl (Y.loadS (cs := [_, _]) rfl Try.underlying27 rfl ti27 rfl (Ls.part_c (fun _ h => (h_l.ext (h))) b28 rfl)) ?_
      refine WX.run rfl rfl (blt rfl) rfl xW (Run.bslice (zs := [.int .i64 0, .int .i64 0, .int .i64 0, .int .i64 0]) (cs := [_, _, _, _]) rfl Try.underlying22 ti27 rfl (ble rfl) (by kernel_rfl) rfl rfl) ?_
      rintro _ w30 ⟨g29, rfl, e31, x32, m33⟩
      have r_v15_g29 := ne_newO ow16 e31
      have r_v_g29 := ne_newO ow_v e31
      have o_g29 := own_new xW e31
      have ow16 := ow16.ext x32
      have ow_v := ow_v.ext x32
      have xW := Ext.trans xW x32
      refine WX.run rfl rfl (blt rfl) rfl xW (Run.appendB (f := Sp.S.c) (news := [l[z.toNat]!, l[z.toNat]!]) rfl rfl rfl Try.underlying22 ti27 rfl (by decide) rfl ow_v (fun _ => rfl) Sp.S.one m33 rfl xW.size (by have q0 := Sp.back_len (l := l) (i := (z + 1).toNat) (by omega); first | omega | (simp only [List.length_append, List.length_cons, List.length_nil, List.length_take, List.length_drop, List.length_reverse]; omega)) (Nat.le_trans (show _ ≤ 140737488355328 from by have q0 := Sp.back_len (l := l) (i := (z + 1).toNat) (by omega); first | omega | (simp only [List.length_append, List.length_cons, List.length_nil, List.length_take, List.length_drop, List.length_reverse]; omega)) (by decide)) ) ?_
      rintro v34 w35 ⟨ow36, gr37, nb38⟩
      have d_v15_v34 := (Apart.app d_v_v15 nb38 ow16).symm
      have ow16 := OwnL.grown ow16 gr37 d_v_v15
      have r_v34_g29 := ne_app nb38 r_v_g29 m33
      have m33 := m33.grown gr37 r_v_g29
      have xW := Ext.grown xW gr37 (fun b hb => (OwnL.lt ow_v hb).1)
      refine WX.yld rfl rfl (blt rfl) rfl (Y.assign rfl rfl) ?_
      refine WX.nil xW ?_
      refine WK.in_normal ?_
      refine WK.then_normal (k24 _ _ ?_)
      refine WC.sub [(0, _), (3, _), (4, _), (5, _)] ⟨rfl, rfl, rfl, rfl, trivial⟩ ?_
      refine WC.region rfl ?_
      refine WL.yld rfl (blt rfl) rfl (Y.move rfl rfl) ?_
      refine WL.yld rfl (blt rfl) rfl (Y.sub rfl rfl rfl (wrap_i64 (by first | omega | (dsimp only; omega)))) ?_
      refine WL.yld rfl (blt rfl) rfl (Y.assign rfl rfl) ?_
      refine WL.nil ?_
      refine WK.roundS _ [(5, .int .i64 _), (4, v34)] ⟨rfl, rfl, rfl, rfl, trivial⟩ ?_ ⟨_, v34, rfl, rfl, xW, ow16, (by rw [Sp.back_down (by omega) (by omega)]; exact ow36), d_v15_v34.symm, (by omega)⟩
      show (_ - 1 + 1 : Int).toNat < (_ + 1 : Int).toNat; omega
    ·
      have p23 := (dec_f h23)
      rw [show (z + 1).toNat = 0 from by omega] at ow_v
      refine WC.exit ?_
      refine WK.then_exit ?_
      refine WK.then_exit ?_
      refine WK.in_exit ?_
      refine WK.then_normal (k18 _ _ ?_)
      refine WC.sub [(0, _), (3, _), (4, _)] ⟨rfl, rfl, rfl, trivial⟩ ?_
      refine WC.seq (fun K39 k39 => ?_)
      refine WC.region rfl ?_
      refine WL.yld rfl (blt rfl) rfl (Y.move rfl rfl) ?_
      obtain ⟨A40, n41, c42, rfl, hl43⟩ := OwnL.opened ow16 (fun _ => rfl) (by decide)
      have e_n41 := hl43.len
      try simp only [List.length_append, List.length_cons, List.length_nil, List.length_reverse, List.length_drop, List.length_take] at e_n41
      have z_n41 := hl43.nle
      refine WL.call rfl (blt rfl) rfl rfl rfl has16 rfl (isnormal_any _ _ _ _ _ hl43) ?_
      rintro _ w44 ⟨rfl, x45⟩
      refine ⟨_, rfl, ?_⟩
      have ow16 := ow16.ext x45
      have hl43 := hl43.ext x45
      have ow_v := ow_v.ext x45
      have xW := Ext.trans xW x45
      refine WL.yld rfl (blt rfl) rfl (Yld.cast (Y.move rfl rfl) (vb (b := true) (Sp.isNorm_yes (Sp.norm_norm _)))) ?_
      refine WL.yldW rfl (blt rfl) rfl rfl rfl (Y.move rfl rfl) ?_
      refine WL.callW rfl (blt rfl) rfl rfl rfl rfl rfl has14 rfl (normal_any _ _ _ _ _ hl43 (by omega)) ?_
      rintro _ w46 ⟨v48, rfl, ow49, x47⟩
      refine ⟨_, rfl, ?_⟩
      have d_v15_v48 := (Apart.res ow49 ow16).symm
      have d_v_v48 := (Apart.res ow49 ow_v).symm
      have ow49 := OwnL.base_le ow49 xW.size
      have ow16 := ow16.ext x47
      have hl43 := hl43.ext x47
      have ow_v := ow_v.ext x47
      have xW := Ext.trans xW x47
      refine WL.yldW rfl (blt rfl) rfl rfl rfl (Y.move rfl rfl) ?_
      obtain ⟨A50, n51, c52, rfl, hl53⟩ := OwnL.opened ow49 (fun _ => rfl) (by decide)
      have e_n51 := hl53.len
      try simp only [List.length_append, List.length_cons, List.length_nil, List.length_reverse, List.length_drop, List.length_take] at e_n51
      have z_n51 := hl53.nle
      refine WL.callW rfl (blt rfl) rfl rfl rfl rfl rfl has13 rfl (same_any _ _ _ _ _ _ _ _ _ hl53 hl43) ?_
      rintro _ w54 ⟨rfl, x55⟩
      refine ⟨_, rfl, ?_⟩
      have ow16 := ow16.ext x55
      have hl43 := hl43.ext x55
      have ow_v := ow_v.ext x55
      have ow49 := ow49.ext x55
      have hl53 := hl53.ext x55
      have xW := Ext.trans xW x55
      refine WL.yld rfl (blt rfl) rfl (Yld.cast (Y.pickT rfl rfl rfl) (vb (b := true) (decide_eq_true (Sp.norm_idem l)))) ?_
      refine WL.yld rfl (blt rfl) rfl (Y.move rfl rfl) ?_
      refine WL.yldW rfl (blt rfl) rfl rfl rfl (Y.move rfl rfl) ?_
      obtain ⟨A56, n57, c58, rfl, hl59⟩ := OwnL.opened ow_v (fun _ => rfl) (by decide)
      have e_n57 := hl59.len
      try simp only [List.length_append, List.length_cons, List.length_nil, List.length_reverse, List.length_drop, List.length_take] at e_n57
      have z_n57 := hl59.nle
      refine WL.callW rfl (blt rfl) rfl rfl rfl rfl rfl has14 rfl (normal_any _ _ _ _ _ hl59 (by have q := Sp.back_len (l := l) (Nat.zero_le _); omega)) ?_
      rintro _ w60 ⟨v62, rfl, ow63, x61⟩
      refine ⟨_, rfl, ?_⟩
      have d_v15_v62 := (Apart.res ow63 ow16).symm
      have d_v_v62 := (Apart.res ow63 ow_v).symm
      have d_v48_v62 := (Apart.res ow63 ow49).symm
      have ow63 := OwnL.base_le ow63 xW.size
      have ow16 := ow16.ext x61
      have hl43 := hl43.ext x61
      have ow_v := ow_v.ext x61
      have hl59 := hl59.ext x61
      have ow49 := ow49.ext x61
      have hl53 := hl53.ext x61
      have xW := Ext.trans xW x61
      refine WL.yldW rfl (blt rfl) rfl rfl rfl (Y.move rfl rfl) ?_
      obtain ⟨A64, n65, c66, rfl, hl67⟩ := OwnL.opened ow63 (fun _ => rfl) (by decide)
      have e_n65 := hl67.len
      try simp only [List.length_append, List.length_cons, List.length_nil, List.length_reverse, List.length_drop, List.length_take] at e_n65
      have z_n65 := hl67.nle
      refine WL.callW rfl (blt rfl) rfl rfl rfl rfl rfl has13 rfl (same_any _ _ _ _ _ _ _ _ _ hl67 hl43) ?_
      rintro _ w68 ⟨rfl, x69⟩
      refine ⟨_, rfl, ?_⟩
      have ow16 := ow16.ext x69
      have hl43 := hl43.ext x69
      have ow_v := ow_v.ext x69
      have hl59 := hl59.ext x69
      have ow49 := ow49.ext x69
      have hl53 := hl53.ext x69
      have ow63 := ow63.ext x69
      have hl67 := hl67.ext x69
      have xW := Ext.trans xW x69
      refine WL.yld rfl (blt rfl) rfl (Yld.cast (Y.pickT rfl rfl rfl) (vb (b := true) (decide_eq_true (Sp.norm_back l)))) ?_
      refine WL.yld rfl (blt rfl) rfl (Y.move rfl rfl) ?_
      refine WL.yldW rfl (blt rfl) rfl rfl rfl (Y.move rfl rfl) ?_
      refine WL.callW rfl (blt rfl) rfl rfl rfl rfl rfl has16 rfl (isnormal_any _ _ _ _ _ (h_l.ext xW)) ?_
      rintro _ w70 ⟨rfl, x71⟩
      refine ⟨_, rfl, ?_⟩
      have ow16 := ow16.ext x71
      have hl43 := hl43.ext x71
      have ow_v := ow_v.ext x71
      have hl59 := hl59.ext x71
      have ow49 := ow49.ext x71
      have hl53 := hl53.ext x71
      have ow63 := ow63.ext x71
      have hl67 := hl67.ext x71
      have xW := Ext.trans xW x71
      refine WL.yldW rfl (blt rfl) rfl rfl rfl (Y.move rfl rfl) ?_
      refine WL.yldW rfl (blt rfl) rfl rfl rfl (Y.move rfl rfl) ?_
      refine WL.callW rfl (blt rfl) rfl rfl rfl rfl rfl has13 rfl (same_any _ _ _ _ _ _ _ _ _ hl43 (h_l.ext xW)) ?_
      rintro _ w72 ⟨rfl, x73⟩
      refine ⟨_, rfl, ?_⟩
      have ow16 := ow16.ext x73
      have hl43 := hl43.ext x73
      have ow_v := ow_v.ext x73
      have hl59 := hl59.ext x73
      have ow49 := ow49.ext x73
      have hl53 := hl53.ext x73
      have ow63 := ow63.ext x73
      have hl67 := hl67.ext x73
      have xW := Ext.trans xW x73
      refine WL.yldW rfl (blt rfl) rfl rfl rfl (Yld.cast (Y.eqlB rfl Try.underlying4 rfl rfl) (vb (b := true) (by rw [Sp.isNorm_same]; exact beq_self_eq_true _))) ?_
      refine WL.yld rfl (blt rfl) rfl (Y.pickT rfl rfl rfl) ?_
      refine WL.yld rfl (blt rfl) rfl (Y.assign rfl rfl) ?_
      refine WL.nil ?_
      refine WK.then_normal (k39 _ _ ?_)
      refine WC.sub [(2, _)] ⟨rfl, trivial⟩ ?_
      refine WC.ret ?_
      clear k1 k2 k3 k12 k17 k18 k19 k21 k22 k39
      refine WK.ret [_] rfl ⟨rfl, trivial⟩ ?_
      exact ⟨ret1 (vb rfl), xW⟩
end LSpansStable
end SpW

end Go.Proofs.Ytoldedanhmkolaa
