/- Contracts: columns. Conditions: what each theorem states. -/
import Derived.Test.YtklccakoblibmaaSxRs
import Derived.Test.YtklccakoblibmaaSxFld
namespace Go.Proofs.Ytklccakoblibmaa
open Go Go.Eng Go.RowKit
set_option linter.unusedVariables false
set_option linter.unusedSimpArgs false
namespace SxW
open B C D E G S T U V W
namespace X
theorem ti9 : TI Try.prog 9 (.string ⟨#[]⟩) 1 16 := TI.mk (by kernel_rfl)
theorem ti22 : TI Try.prog 22 (.int .i64 0) 1 8 := TI.mk (by kernel_rfl)
theorem ti26 : TI Try.prog 26 (.slice none 0 0) 1 24 := TI.mk (by kernel_rfl)
theorem ti28 : TI Try.prog 28 (.agg #[.int .i64 0, .string ⟨#[]⟩, .int .i64 0, .int .i64 0, .string ⟨#[]⟩, .slice none 0 0]) 6 80 := TI.mk (by kernel_rfl)
theorem has31 : Has Try.prog 31 := ⟨_, Try.func31, rfl, by kernel_rfl⟩
theorem fields_any (wb : World) : ∀ (d_x : Nat) (x : Sx.E) (v : Value) (u : List ByteArray) (w : World), Sx.Good d_x wb x → Sx.cnt x ≤ 300 → Ext wb w → OwnL w wb.heap.size 9 Sx.sc 1 v u → u.length + Sx.cnt x ≤ 1000 →
    Calls Try.prog 31 #[v, .agg #[.int .i64 x.op, .string x.nm, .int .i64 x.vk, .int .i64 x.vn, .string x.vs, .slice x.A x.n x.c]] w fun e w' => ∃ v' : Value, e = .returned v' ∧ OwnL w' wb.heap.size 9 Sx.sc 1 v' (u ++ Sx.flds x) ∧ Ext wb w' := by
  intro d_x
  induction d_x using Nat.strongRecOn
  rename_i d_x ih
  intro x v u w g_x hc_x xW ow_v hu
  have h_x := g_x.ls
  have e_x := h_x.len
  have z_x := h_x.nle
  have cn := Sx.cnt_eq x
  have lx := Sx.lev_eq x
  refine calls_of_WC (args := [v, .agg #[.int .i64 x.op, .string x.nm, .int .i64 x.vk, .int .i64 x.vn, .string x.vs, .slice x.A x.n x.c]]) Try.func31 rfl rfl (ble rfl) ?_
  refine WC.seq (fun K1 k1 => ?_)
  refine WC.region rfl ?_
  refine WL.box rfl (blt rfl) rfl rfl rfl rfl ?_
  intro g2 w3 e4 x5 m6
  have r_v_g2 := ne_newO ow_v e4
  have o_g2 := own_new xW e4
  have ow_v := ow_v.ext x5
  have xW := Ext.trans xW x5
  refine WL.yld rfl (blt rfl) rfl (Y.assign rfl rfl) ?_
  refine WL.nil ?_
  refine WK.then_normal (k1 _ _ ?_)
  refine WC.sub [(0, _), (3, _)] ⟨rfl, rfl, trivial⟩ ?_
  refine WC.seq (fun K7 k7 => ?_)
  refine WC.seq (fun K8 k8 => ?_)
  refine WC.region rfl ?_
  refine WL.yld rfl (blt rfl) rfl (Y.fieldAddr rfl Try.underlying28 rfl ti22 (by decide) rfl) ?_
  refine WL.yld rfl (blt rfl) rfl (Y.load1 rfl Try.underlying22 rfl rfl (Blk.at_eq m6 rfl)) ?_
  refine WL.yld rfl (blt rfl) rfl (Y.eql rfl rfl rfl) ?_
  refine WL.nil ?_
  refine WK.then_normal (k8 _ _ ?_)
  refine WC.sub [(0, _), (3, _), (9, _)] ⟨rfl, rfl, rfl, trivial⟩ ?_
  refine WC.cond rfl (fun h9 => ?_) (fun h9 => ?_)
  ·
    have p9 := (eq_t h9)
    refine WC.region rfl ?_
    refine WL.yld rfl (blt rfl) rfl (Y.move rfl rfl) ?_
    refine WL.yld rfl (blt rfl) rfl (Y.fieldAddr rfl Try.underlying28 rfl ti9 (by decide) rfl) ?_
    refine WL.yld rfl (blt rfl) rfl (Y.load1 rfl Try.underlying9 rfl rfl (Blk.at_eq m6 rfl)) ?_
    refine WL.bslice (zs := [.string ⟨#[]⟩]) (cs := [_]) rfl (blt rfl) rfl rfl Try.underlying34 ti9 rfl (ble rfl) (by kernel_rfl) rfl rfl ?_
    intro g10 w11 e12 x13 m14
    have r_v_g10 := ne_newO ow_v e12
    have n_g2_g10 := ne_new m6 e12
    have o_g10 := own_new xW e12
    have ow_v := ow_v.ext x13
    have m6 := m6.ext x13
    have xW := Ext.trans xW x13
    refine WL.appendB (f := Sx.sc) (news := [x.nm]) rfl (blt rfl) rfl rfl rfl rfl Try.underlying34 ti9 rfl (by decide) rfl ow_v (fun _ => rfl) Sx.sc_one m14 rfl xW.size (by have q0 := hu; first | omega | (simp only [List.length_append, List.length_cons, List.length_nil, List.length_take, List.length_drop, List.length_reverse]; omega)) (Nat.le_trans (show _ ≤ 140737488355328 from by have q0 := hu; first | omega | (simp only [List.length_append, List.length_cons, List.length_nil, List.length_take, List.length_drop, List.length_reverse]; omega)) (by decide)) (fun v15 w16 ow17 gr18 nb19 => ?_)
    have r_v15_g2 := ne_app nb19 r_v_g2 m6
    have m6 := m6.grown gr18 r_v_g2
    have r_v15_g10 := ne_app nb19 r_v_g10 m14
    have m14 := m14.grown gr18 r_v_g10
    have xW := Ext.grown xW gr18 (fun b hb => (OwnL.lt ow_v hb).1)
    refine WL.yld rfl (blt rfl) rfl (Y.assign rfl rfl) ?_
    refine WL.nil ?_
    refine WK.then_normal (k7 _ _ ?_)
    refine WC.sub [(0, _), (3, _)] ⟨rfl, rfl, trivial⟩ ?_
    refine WC.seq (fun K20 k20 => ?_)
    refine WC.seq (fun K21 k21 => ?_)
    refine WC.region rfl ?_
    refine WL.yld rfl (blt rfl) rfl (Y.fieldAddr rfl Try.underlying28 rfl ti26 (by decide) rfl) ?_
    refine WL.yld rfl (blt rfl) rfl (Y.load1 rfl Try.underlying26 rfl rfl (Blk.at_eq m6 rfl)) ?_
    refine WL.yld rfl (blt rfl) rfl (Y.lenSl rfl rfl rfl Try.underlying26 rfl) ?_
    refine WL.yld rfl (blt rfl) rfl (Y.move rfl rfl) ?_
    refine WL.nil ?_
    refine WK.then_normal (k21 _ _ ?_)
    refine WC.sub [(0, _), (16, _), (17, _), (18, _)] ⟨rfl, rfl, rfl, rfl, trivial⟩ ?_
    refine WC.block ?_
    refine WC.sub [(18, _), (0, _), (16, _), (17, _)] ⟨rfl, rfl, rfl, rfl, trivial⟩ ?_
    refine WC.loopS 2 (fun mz Ed W' => ∃ i : Nat, ∃ v1 : Value, mz = x.n - i ∧ Ed = [(18, .int .i64 ((i : Nat) : Int)), (0, v1)] ∧ Ext wb W' ∧ OwnL W' wb.heap.size 9 Sx.sc 1 v1 (Sx.fcur x u i) ∧ (i ≤ x.n)) _ ⟨0, _, rfl, rfl, xW, (by rw [← Sx.fcur_yes (by have q := h9; simp only [Bool.and_eq_true, Bool.or_eq_true, Bool.not_eq_true', Bool.and_eq_false_iff, Bool.or_eq_false_iff, Bool.not_eq_false', decide_eq_true_eq, decide_eq_false_iff_not, beq_iff_eq, beq_eq_false_iff_ne, ne_eq] at q; exact q)]; exact ow17), (Nat.zero_le _)⟩ ?_
    rintro _ _ w22 ⟨i, v1, rfl, rfl, xW, ow_v1, le_i⟩
    refine WC.sub [(18, _), (0, _), (16, _), (17, _)] ⟨rfl, rfl, rfl, rfl, trivial⟩ ?_
    have kl := Sx.cntL_le (l := x.kids) (i := i)
    refine WC.seq (fun K23 k23 => ?_)
    refine WC.region rfl ?_
    refine WL.yld rfl (blt rfl) rfl (Y.lss rfl rfl rfl) ?_
    refine WL.nil ?_
    refine WK.then_normal (k23 _ _ ?_)
    refine WC.seq (fun K24 k24 => ?_)
    refine WC.cond rfl (fun h25 => ?_) (fun h25 => ?_)
    ·
      have p25 := (dec_t h25)
      have ck := Sx.cnt_kid (m := 300) hc_x (bang_mem (show i < x.kids.length from by omega))
      have kc := Sx.cntL_next (l := x.kids) (show i < x.kids.length from by omega)
      have kl := Sx.cntL_le (l := x.kids) (i := i + 1)
      refine WC.skip ?_
      refine WK.then_normal (k24 _ _ ?_)
      refine WC.sub [(0, _), (16, _), (17, _), (18, _)] ⟨rfl, rfl, rfl, rfl, trivial⟩ ?_
      refine WC.seq (fun K26 k26 => ?_)
      refine WC.block ?_
      refine WC.seq (fun K27 k27 => ?_)
      refine WC.region rfl ?_
      have b28 : i < x.n := by omega
      refine WL.yld rfl (blt rfl) rfl (Y.indexLs i (g_x.ls.ext xW) rfl Try.underlying26 ti28 rfl rfl rfl b28) ?_
      refine WL.yld rfl (blt rfl) rfl (Y.loadS (cs := [_, _, _, _, _, _]) rfl Try.underlying28 rfl ti28 rfl (Ls.part_eq (g_x.ls.ext xW) b28 rfl)) ?_
      refine WL.alloc rfl (blt rfl) rfl rfl ti28 rfl ?_
      intro g29 w30 e31 x32 m33
      have r_v1_g29 := ne_newO ow_v1 e31
      have o_g29 := own_new xW e31
      have ow_v1 := ow_v1.ext x32
      have xW := Ext.trans xW x32
      refine WL.store (cs' := [_, _, _, _, _, _]) rfl rfl rfl rfl rfl rfl ti28 m33 (ble rfl) rfl rfl (fun w34 on35 m36 => ?_)
      have ow_v1 := ow_v1.only r_v1_g29 on35
      have xW := Ext.only xW on35 o_g29
      refine WL.nil ?_
      refine WK.then_normal (k27 _ _ ?_)
      refine WC.sub [(0, _), (6, _), (16, _), (17, _), (18, _)] ⟨rfl, rfl, rfl, rfl, rfl, trivial⟩ ?_
      refine WC.region rfl ?_
      refine WL.yld rfl (blt rfl) rfl (Y.move rfl rfl) ?_
      refine WL.yld rfl (blt rfl) rfl (Y.loadS rfl Try.underlying28 rfl ti28 rfl (Blk.row_eq m36)) ?_
      refine WL.call rfl (blt rfl) rfl rfl rfl has31 rfl (ih (d_x - 1) (by have := g_x.pos; omega) _ _ _ _ (g_x.kid (bang_mem (show i < x.kids.length from by omega))) (Sx.cnt_kid hc_x (bang_mem (show i < x.kids.length from by omega))) xW ow_v1 (by have := Sx.fcur_len (x := x) (u := u) (i := i); omega)) ?_
      rintro _ w37 ⟨v39, rfl, ow40, x38⟩
      refine ⟨_, rfl, ?_⟩
      have xW := x38
      refine WL.yld rfl (blt rfl) rfl (Y.assign rfl rfl) ?_
      refine WL.nil ?_
      refine WK.in_normal ?_
      refine WK.then_normal (k26 _ _ ?_)
      refine WC.sub [(0, _), (16, _), (17, _), (18, _)] ⟨rfl, rfl, rfl, rfl, trivial⟩ ?_
      refine WC.region rfl ?_
      refine WL.yld rfl (blt rfl) rfl (Y.add rfl rfl rfl (wrap_i64 (by first | omega | (dsimp only; omega)))) ?_
      refine WL.yld rfl (blt rfl) rfl (Y.move rfl rfl) ?_
      refine WL.nil ?_
      refine WK.roundS _ [(18, .int .i64 (((i + 1) : Nat) : Int)), (0, v39)] ⟨rfl, rfl, rfl, rfl, trivial⟩ ?_ ⟨(i + 1), v39, rfl, rfl, xW, (by rw [← Sx.fcur_next (show i < x.kids.length from by omega)]; exact ow40), (by omega)⟩
      show _ - (i + 1) < _ - i; omega
    ·
      have p25 := (dec_f h25)
      refine WC.exit ?_
      refine WK.then_exit ?_
      refine WK.then_exit ?_
      refine WK.in_exit ?_
      refine WK.then_normal (k20 _ _ ?_)
      refine WC.sub [(0, _)] ⟨rfl, trivial⟩ ?_
      refine WC.seq (fun K41 k41 => ?_)
      refine WC.region rfl ?_
      refine WL.yld rfl (blt rfl) rfl (Y.move rfl rfl) ?_
      refine WL.yld rfl (blt rfl) rfl (Y.assign rfl rfl) ?_
      refine WL.nil ?_
      refine WK.then_normal (k41 _ _ ?_)
      refine WC.sub [(4, _)] ⟨rfl, trivial⟩ ?_
      refine WC.ret ?_
      clear k1 k7 k8 k20 k21 k23 k24 k41
      refine WK.ret [_] rfl ⟨rfl, trivial⟩ ?_
      have q := ow_v1
      rw [Sx.fcur_end (by omega)] at q
      exact ⟨_, rfl, q, xW⟩
  ·
    have p9 := (eq_f h9)
    refine WC.skip ?_
    refine WK.then_normal (k7 _ _ ?_)
    refine WC.sub [(0, _), (3, _)] ⟨rfl, rfl, trivial⟩ ?_
    refine WC.seq (fun K42 k42 => ?_)
    refine WC.seq (fun K43 k43 => ?_)
    refine WC.region rfl ?_
    refine WL.yld rfl (blt rfl) rfl (Y.fieldAddr rfl Try.underlying28 rfl ti26 (by decide) rfl) ?_
    refine WL.yld rfl (blt rfl) rfl (Y.load1 rfl Try.underlying26 rfl rfl (Blk.at_eq m6 rfl)) ?_
    refine WL.yld rfl (blt rfl) rfl (Y.lenSl rfl rfl rfl Try.underlying26 rfl) ?_
    refine WL.yld rfl (blt rfl) rfl (Y.move rfl rfl) ?_
    refine WL.nil ?_
    refine WK.then_normal (k43 _ _ ?_)
    refine WC.sub [(0, _), (16, _), (17, _), (18, _)] ⟨rfl, rfl, rfl, rfl, trivial⟩ ?_
    refine WC.block ?_
    refine WC.sub [(18, _), (0, _), (16, _), (17, _)] ⟨rfl, rfl, rfl, rfl, trivial⟩ ?_
    refine WC.loopS 2 (fun mz Ed W' => ∃ i : Nat, ∃ v1 : Value, mz = x.n - i ∧ Ed = [(18, .int .i64 ((i : Nat) : Int)), (0, v1)] ∧ Ext wb W' ∧ OwnL W' wb.heap.size 9 Sx.sc 1 v1 (Sx.fcur x u i) ∧ (i ≤ x.n)) _ ⟨0, _, rfl, rfl, xW, (by rw [← Sx.fcur_no (by have q := h9; simp only [Bool.and_eq_true, Bool.or_eq_true, Bool.not_eq_true', Bool.and_eq_false_iff, Bool.or_eq_false_iff, Bool.not_eq_false', decide_eq_true_eq, decide_eq_false_iff_not, beq_iff_eq, beq_eq_false_iff_ne, ne_eq] at q; exact q)]; exact ow_v), (Nat.zero_le _)⟩ ?_
    rintro _ _ w44 ⟨i, v1, rfl, rfl, xW, ow_v1, le_i⟩
    refine WC.sub [(18, _), (0, _), (16, _), (17, _)] ⟨rfl, rfl, rfl, rfl, trivial⟩ ?_
    have kl := Sx.cntL_le (l := x.kids) (i := i)
    refine WC.seq (fun K45 k45 => ?_)
    refine WC.region rfl ?_
    refine WL.yld rfl (blt rfl) rfl (Y.lss rfl rfl rfl) ?_
    refine WL.nil ?_
    refine WK.then_normal (k45 _ _ ?_)
    refine WC.seq (fun K46 k46 => ?_)
    refine WC.cond rfl (fun h47 => ?_) (fun h47 => ?_)
    ·
      have p47 := (dec_t h47)
      have ck := Sx.cnt_kid (m := 300) hc_x (bang_mem (show i < x.kids.length from by omega))
      have kc := Sx.cntL_next (l := x.kids) (show i < x.kids.length from by omega)
      have kl := Sx.cntL_le (l := x.kids) (i := i + 1)
      refine WC.skip ?_
      refine WK.then_normal (k46 _ _ ?_)
      refine WC.sub [(0, _), (16, _), (17, _), (18, _)] ⟨rfl, rfl, rfl, rfl, trivial⟩ ?_
      refine WC.seq (fun K48 k48 => ?_)
      refine WC.block ?_
      refine WC.seq (fun K49 k49 => ?_)
      refine WC.region rfl ?_
      have b50 : i < x.n := by omega
      refine WL.yld rfl (blt rfl) rfl (Y.indexLs i (g_x.ls.ext xW) rfl Try.underlying26 ti28 rfl rfl rfl b50) ?_
      refine WL.yld rfl (blt rfl) rfl (Y.loadS (cs := [_, _, _, _, _, _]) rfl Try.underlying28 rfl ti28 rfl (Ls.part_eq (g_x.ls.ext xW) b50 rfl)) ?_
      refine WL.alloc rfl (blt rfl) rfl rfl ti28 rfl ?_
      intro g51 w52 e53 x54 m55
      have r_v1_g51 := ne_newO ow_v1 e53
      have o_g51 := own_new xW e53
      have ow_v1 := ow_v1.ext x54
      have xW := Ext.trans xW x54
      refine WL.store (cs' := [_, _, _, _, _, _]) rfl rfl rfl rfl rfl rfl ti28 m55 (ble rfl) rfl rfl (fun w56 on57 m58 => ?_)
      have ow_v1 := ow_v1.only r_v1_g51 on57
      have xW := Ext.only xW on57 o_g51
      refine WL.nil ?_
      refine WK.then_normal (k49 _ _ ?_)
      refine WC.sub [(0, _), (6, _), (16, _), (17, _), (18, _)] ⟨rfl, rfl, rfl, rfl, rfl, trivial⟩ ?_
      refine WC.region rfl ?_
      refine WL.yld rfl (blt rfl) rfl (Y.move rfl rfl) ?_
      refine WL.yld rfl (blt rfl) rfl (Y.loadS rfl Try.underlying28 rfl ti28 rfl (Blk.row_eq m58)) ?_
      refine WL.call rfl (blt rfl) rfl rfl rfl has31 rfl (ih (d_x - 1) (by have := g_x.pos; omega) _ _ _ _ (g_x.kid (bang_mem (show i < x.kids.length from by omega))) (Sx.cnt_kid hc_x (bang_mem (show i < x.kids.length from by omega))) xW ow_v1 (by have := Sx.fcur_len (x := x) (u := u) (i := i); omega)) ?_
      rintro _ w59 ⟨v61, rfl, ow62, x60⟩
      refine ⟨_, rfl, ?_⟩
      have xW := x60
      refine WL.yld rfl (blt rfl) rfl (Y.assign rfl rfl) ?_
      refine WL.nil ?_
      refine WK.in_normal ?_
      refine WK.then_normal (k48 _ _ ?_)
      refine WC.sub [(0, _), (16, _), (17, _), (18, _)] ⟨rfl, rfl, rfl, rfl, trivial⟩ ?_
      refine WC.region rfl ?_
      refine WL.yld rfl (blt rfl) rfl (Y.add rfl rfl rfl (wrap_i64 (by first | omega | (dsimp only; omega)))) ?_
      refine WL.yld rfl (blt rfl) rfl (Y.move rfl rfl) ?_
      refine WL.nil ?_
      refine WK.roundS _ [(18, .int .i64 (((i + 1) : Nat) : Int)), (0, v61)] ⟨rfl, rfl, rfl, rfl, trivial⟩ ?_ ⟨(i + 1), v61, rfl, rfl, xW, (by rw [← Sx.fcur_next (show i < x.kids.length from by omega)]; exact ow62), (by omega)⟩
      show _ - (i + 1) < _ - i; omega
    ·
      have p47 := (dec_f h47)
      refine WC.exit ?_
      refine WK.then_exit ?_
      refine WK.then_exit ?_
      refine WK.in_exit ?_
      refine WK.then_normal (k42 _ _ ?_)
      refine WC.sub [(0, _)] ⟨rfl, trivial⟩ ?_
      refine WC.seq (fun K63 k63 => ?_)
      refine WC.region rfl ?_
      refine WL.yld rfl (blt rfl) rfl (Y.move rfl rfl) ?_
      refine WL.yld rfl (blt rfl) rfl (Y.assign rfl rfl) ?_
      refine WL.nil ?_
      refine WK.then_normal (k63 _ _ ?_)
      refine WC.sub [(4, _)] ⟨rfl, trivial⟩ ?_
      refine WC.ret ?_
      clear k1 k7 k8 k42 k43 k45 k46 k63
      refine WK.ret [_] rfl ⟨rfl, trivial⟩ ?_
      have q := ow_v1
      rw [Sx.fcur_end (by omega)] at q
      exact ⟨_, rfl, q, xW⟩
end X
end SxW

end Go.Proofs.Ytklccakoblibmaa
