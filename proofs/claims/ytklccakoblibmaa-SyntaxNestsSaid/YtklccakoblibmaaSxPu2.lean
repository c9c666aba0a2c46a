/- Contracts: the reference of columns. Conditions: what each theorem states. -/
import Derived.Test.YtklccakoblibmaaSxCo2
import Derived.Test.YtklccakoblibmaaSxPut
namespace Go.Proofs.Ytklccakoblibmaa
open Go Go.Eng Go.RowKit
set_option linter.unusedVariables false
set_option linter.unusedSimpArgs false
namespace SxW
open B C D E G S T U V W X Y
namespace Z
theorem ti9 : TI Try.prog 9 (.string ⟨#[]⟩) 1 16 := TI.mk (by kernel_rfl)
theorem put_any (A_l : Option Addr) (n_l c_l : Nat) (l : List ByteArray) (s : ByteArray) (w : World) (h_l : Ls w A_l n_l c_l Sx.sc 1 l) (hl : n_l ≤ 1000) :
    Calls Try.prog 55 #[.slice A_l n_l c_l, .string s] w fun e w' => ∃ v, e = .returned v ∧ OwnL w' w.heap.size 9 Sx.sc 1 v (Sx.putL s l) ∧ Ext w w' := by
  have xW := Ext.refl w
  have e_l := h_l.len
  have z_l := h_l.nle
  refine calls_of_WC (args := [.slice A_l n_l c_l, .string s]) Try.func55 rfl rfl (ble rfl) ?_
  refine WC.seq (fun K1 k1 => ?_)
  refine WC.region rfl ?_
  refine WL.yld rfl (blt rfl) rfl (Y.assign rfl rfl) ?_
  refine WL.nil ?_
  refine WK.then_normal (k1 _ _ ?_)
  refine WC.sub [(0, _), (1, _)] ⟨rfl, rfl, trivial⟩ ?_
  refine WC.seq (fun K2 k2 => ?_)
  refine WC.region rfl ?_
  refine WL.yld rfl (blt rfl) rfl (Y.assign rfl rfl) ?_
  refine WL.nil ?_
  refine WK.then_normal (k2 _ _ ?_)
  refine WC.seq (fun K3 k3 => ?_)
  refine WC.region rfl ?_
  refine WL.yld rfl (blt rfl) rfl (Y.assign rfl rfl) ?_
  refine WL.nil ?_
  refine WK.then_normal (k3 _ _ ?_)
  refine WC.seq (fun K4 k4 => ?_)
  refine WC.seq (fun K5 k5 => ?_)
  refine WC.region rfl ?_
  refine WL.yld rfl (blt rfl) rfl (Y.assign rfl rfl) ?_
  refine WL.nil ?_
  refine WK.then_normal (k5 _ _ ?_)
  refine WC.block ?_
  refine WC.sub [(7, _), (5, _), (6, _), (0, _), (1, _)] ⟨rfl, rfl, rfl, rfl, rfl, trivial⟩ ?_
  refine WC.loopS 3 (fun mz Ed W' => ∃ i : Nat, ∃ v : Value, ∃ bb : Bool, ∃ q : List ByteArray, mz = n_l - i ∧ Ed = [(7, .int .i64 ((i : Nat) : Int)), (5, v), (6, .bool bb)] ∧ Ext w W' ∧ OwnL W' w.heap.size 9 Sx.sc 1 v (q) ∧ (i ≤ n_l) ∧ (Sx.putL s l = q ++ Sx.restP s bb (l.drop i)) ∧ (q.length ≤ i + 1) ∧ (bb = false → q.length ≤ i)) _ ⟨0, _, false, [], rfl, rfl, xW, OwnL.nil_, (Nat.zero_le _), (by unfold Sx.restP; rw [List.drop_zero, List.nil_append, if_neg (by simp)]), (by simp), (fun _ => by simp)⟩ ?_
  rintro _ _ w6 ⟨i, v, bb, q, rfl, rfl, xW, ow_v, le_i, pi, ol, ob⟩
  refine WC.sub [(7, _), (5, _), (6, _), (0, _), (1, _)] ⟨rfl, rfl, rfl, rfl, rfl, trivial⟩ ?_
  refine WC.seq (fun K7 k7 => ?_)
  refine WC.seq (fun K8 k8 => ?_)
  refine WC.region rfl ?_
  refine WL.yld rfl (blt rfl) rfl (Y.move rfl rfl) ?_
  refine WL.yld rfl (blt rfl) rfl (Y.move rfl rfl) ?_
  refine WL.yld rfl (blt rfl) rfl (Y.lenSl rfl rfl rfl Try.underlying34 rfl) ?_
  refine WL.yld rfl (blt rfl) rfl (Y.lss rfl rfl rfl) ?_
  refine WL.nil ?_
  refine WK.then_normal (k8 _ _ ?_)
  refine WC.sub [(0, _), (1, _), (5, _), (6, _), (7, _), (11, _)] ⟨rfl, rfl, rfl, rfl, rfl, rfl, trivial⟩ ?_
  refine WC.cond rfl (fun h9 => ?_) (fun h9 => ?_)
  ·
    have p9 := (dec_t h9)
    refine WC.skip ?_
    refine WK.then_normal (k7 _ _ ?_)
    refine WC.sub [(0, _), (1, _), (5, _), (6, _), (7, _)] ⟨rfl, rfl, rfl, rfl, rfl, trivial⟩ ?_
    refine WC.seq (fun K10 k10 => ?_)
    refine WC.block ?_
    refine WC.seq (fun K11 k11 => ?_)
    refine WC.seq (fun K12 k12 => ?_)
    refine WC.region rfl ?_
    refine WL.yld rfl (blt rfl) rfl (Y.move rfl rfl) ?_
    refine WL.yld rfl (blt rfl) rfl (Y.not rfl rfl) ?_
    refine WL.yld rfl (blt rfl) rfl (Y.move rfl rfl) ?_
    refine WL.yldG rfl (blt rfl) rfl rfl rfl (fun hb => Y.move rfl rfl) ?_
    refine WL.yldG rfl (blt rfl) rfl rfl rfl (fun hb => Y.move rfl rfl) ?_
    refine WL.yldG rfl (blt rfl) rfl rfl rfl (fun hb => Y.indexLs i (h_l.ext xW) rfl Try.underlying34 ti9 (evg rfl hb) (evg rfl hb) rfl (by omega)) ?_
    refine WL.yldG rfl (blt rfl) rfl rfl rfl (fun hb => Y.load1 rfl Try.underlying9 rfl (evg rfl hb) (Ls.at_eq (h_l.ext xW) (by omega) rfl)) ?_
    refine WL.yldG rfl (blt rfl) rfl rfl rfl (fun hb => Y.move rfl rfl) ?_
    refine WL.yldG rfl (blt rfl) rfl rfl rfl (fun hb => Y.geqStr rfl (evg rfl hb) (evg rfl hb)) ?_
    refine WL.yld rfl (blt rfl) rfl (Y.and rfl rfl rfl rfl) ?_
    refine WL.nil ?_
    refine WK.then_normal (k12 _ _ ?_)
    refine WC.sub [(0, _), (1, _), (5, _), (6, _), (7, _), (23, _)] ⟨rfl, rfl, rfl, rfl, rfl, rfl, trivial⟩ ?_
    refine WC.cond rfl (fun h13 => ?_) (fun h13 => ?_)
    ·
      refine WC.seq (fun K14 k14 => ?_)
      refine WC.region rfl ?_
      refine WL.yld rfl (blt rfl) rfl (Y.move rfl rfl) ?_
      refine WL.yld rfl (blt rfl) rfl (Y.move rfl rfl) ?_
      refine WL.bslice (zs := [.string ⟨#[]⟩]) (cs := [_]) rfl (blt rfl) rfl rfl Try.underlying34 ti9 rfl (ble rfl) (by kernel_rfl) rfl rfl ?_
      intro g15 w16 e17 x18 m19
      have r_v_g15 := ne_newO ow_v e17
      have o_g15 := own_new xW e17
      have ow_v := ow_v.ext x18
      have xW := Ext.trans xW x18
      refine WL.appendB (f := Sx.sc) (news := [s]) rfl (blt rfl) rfl rfl rfl rfl Try.underlying34 ti9 rfl (by decide) rfl ow_v (fun _ => rfl) Sx.sc_one m19 rfl xW.size (by have q0 := ol; first | omega | (simp only [List.length_append, List.length_cons, List.length_nil, List.length_take, List.length_drop, List.length_reverse]; omega)) (Nat.le_trans (show _ ≤ 140737488355328 from by have q0 := ol; first | omega | (simp only [List.length_append, List.length_cons, List.length_nil, List.length_take, List.length_drop, List.length_reverse]; omega)) (by decide)) (fun v20 w21 ow22 gr23 nb24 => ?_)
      have r_v20_g15 := ne_app nb24 r_v_g15 m19
      have m19 := m19.grown gr23 r_v_g15
      have xW := Ext.grown xW gr23 (fun b hb => (OwnL.lt ow_v hb).1)
      refine WL.yld rfl (blt rfl) rfl (Y.assign rfl rfl) ?_
      refine WL.nil ?_
      refine WK.then_normal (k14 _ _ ?_)
      refine WC.sub [(0, _), (1, _), (5, _), (7, _)] ⟨rfl, rfl, rfl, rfl, trivial⟩ ?_
      refine WC.region rfl ?_
      refine WL.yld rfl (blt rfl) rfl (Y.assign rfl rfl) ?_
      refine WL.nil ?_
      refine WK.then_normal (k11 _ _ ?_)
      refine WC.seq (fun K25 k25 => ?_)
      refine WC.region rfl ?_
      refine WL.yld rfl (blt rfl) rfl (Y.move rfl rfl) ?_
      refine WL.yld rfl (blt rfl) rfl (Y.move rfl rfl) ?_
      have b26 : i < n_l := by omega
      refine WL.yld rfl (blt rfl) rfl (Y.indexLs i (h_l.ext xW) rfl Try.underlying34 ti9 rfl rfl rfl b26) ?_
      refine WL.yld rfl (blt rfl) rfl (Y.load1 rfl Try.underlying9 rfl rfl (Ls.at_eq (h_l.ext xW) b26 rfl)) ?_
      refine WL.yld rfl (blt rfl) rfl (Y.move rfl rfl) ?_
      refine WL.yld rfl (blt rfl) rfl (Y.neqStr rfl rfl rfl) ?_
      refine WL.nil ?_
      refine WK.then_normal (k25 _ _ ?_)
      refine WC.sub [(0, _), (1, _), (5, _), (6, _), (7, _), (33, _)] ⟨rfl, rfl, rfl, rfl, rfl, rfl, trivial⟩ ?_
      refine WC.cond rfl (fun h27 => ?_) (fun h27 => ?_)
      ·
        refine WC.region rfl ?_
        refine WL.yld rfl (blt rfl) rfl (Y.move rfl rfl) ?_
        refine WL.yld rfl (blt rfl) rfl (Y.move rfl rfl) ?_
        refine WL.yld rfl (blt rfl) rfl (Y.move rfl rfl) ?_
        have b28 : i < n_l := by omega
        refine WL.yld rfl (blt rfl) rfl (Y.indexLs i (h_l.ext xW) rfl Try.underlying34 ti9 rfl rfl rfl b28) ?_
        refine WL.yld rfl (blt rfl) rfl (Y.load1 rfl Try.underlying9 rfl rfl (Ls.at_eq (h_l.ext xW) b28 rfl)) ?_
        refine WL.bslice (zs := [.string ⟨#[]⟩]) (cs := [_]) rfl (blt rfl) rfl rfl Try.underlying34 ti9 rfl (ble rfl) (by kernel_rfl) rfl rfl ?_
        intro g29 w30 e31 x32 m33
        have r_v20_g29 := ne_newO ow22 e31
        have o_g29 := own_new xW e31
        have ow22 := ow22.ext x32
        have xW := Ext.trans xW x32
        refine WL.appendB (f := Sx.sc) (news := [l[i]!]) rfl (blt rfl) rfl rfl rfl rfl Try.underlying34 ti9 rfl (by decide) rfl ow22 (fun _ => rfl) Sx.sc_one m33 rfl xW.size (by have q0 := ol; first | omega | (simp only [List.length_append, List.length_cons, List.length_nil, List.length_take, List.length_drop, List.length_reverse]; omega)) (Nat.le_trans (show _ ≤ 140737488355328 from by have q0 := ol; first | omega | (simp only [List.length_append, List.length_cons, List.length_nil, List.length_take, List.length_drop, List.length_reverse]; omega)) (by decide)) (fun v34 w35 ow36 gr37 nb38 => ?_)
        have r_v34_g29 := ne_app nb38 r_v20_g29 m33
        have m33 := m33.grown gr37 r_v20_g29
        have xW := Ext.grown xW gr37 (fun b hb => (OwnL.lt ow22 hb).1)
        refine WL.yld rfl (blt rfl) rfl (Y.assign rfl rfl) ?_
        refine WL.nil ?_
        refine WK.in_normal ?_
        refine WK.then_normal (k10 _ _ ?_)
        refine WC.sub [(0, _), (1, _), (5, _), (6, _), (7, _)] ⟨rfl, rfl, rfl, rfl, rfl, trivial⟩ ?_
        refine WC.region rfl ?_
        refine WL.yld rfl (blt rfl) rfl (Y.move rfl rfl) ?_
        refine WL.yld rfl (blt rfl) rfl (Y.add rfl rfl rfl (wrap_i64 (by first | omega | (dsimp only; omega)))) ?_
        refine WL.yld rfl (blt rfl) rfl (Y.assign rfl rfl) ?_
        refine WL.nil ?_
        refine WK.roundS _ [(7, .int .i64 (((i + 1) : Nat) : Int)), (5, v34), (6, .bool true)] ⟨rfl, rfl, rfl, rfl, rfl, trivial⟩ ?_ ⟨(i + 1), v34, _, (q ++ [s] ++ [l[i]!]), rfl, rfl, xW, ow36, (by omega), (by have z1 : bb = false ∧ Y.lt l[i]! s = false := (by have z := h13; simp only [Bool.and_eq_true, Bool.not_eq_true'] at z; exact z); rw [pi, Sx.drop_next (show i < l.length from by omega), z1.1, Sx.rest_f_ge z1.2, Sx.rest_t_yes (by have z := h27; rw [Bool.not_eq_true'] at z; exact z)]; simp), (by have z1 : bb = false ∧ Y.lt l[i]! s = false := (by have z := h13; simp only [Bool.and_eq_true, Bool.not_eq_true'] at z; exact z); have z2 := ob z1.1; simp; omega), (fun z => by cases z)⟩
        show _ - (i + 1) < _ - i; omega
      ·
        refine WC.skip ?_
        refine WK.in_normal ?_
        refine WK.then_normal (k10 _ _ ?_)
        refine WC.sub [(0, _), (1, _), (5, _), (6, _), (7, _)] ⟨rfl, rfl, rfl, rfl, rfl, trivial⟩ ?_
        refine WC.region rfl ?_
        refine WL.yld rfl (blt rfl) rfl (Y.move rfl rfl) ?_
        refine WL.yld rfl (blt rfl) rfl (Y.add rfl rfl rfl (wrap_i64 (by first | omega | (dsimp only; omega)))) ?_
        refine WL.yld rfl (blt rfl) rfl (Y.assign rfl rfl) ?_
        refine WL.nil ?_
        refine WK.roundS _ [(7, .int .i64 (((i + 1) : Nat) : Int)), (5, v20), (6, .bool true)] ⟨rfl, rfl, rfl, rfl, rfl, trivial⟩ ?_ ⟨(i + 1), v20, _, (q ++ [s]), rfl, rfl, xW, ow22, (by omega), (by have z1 : bb = false ∧ Y.lt l[i]! s = false := (by have z := h13; simp only [Bool.and_eq_true, Bool.not_eq_true'] at z; exact z); rw [pi, Sx.drop_next (show i < l.length from by omega), z1.1, Sx.rest_f_ge z1.2, Sx.rest_t_no (by have z := h27; rw [Bool.not_eq_false'] at z; exact z)]; simp), (by have z1 : bb = false ∧ Y.lt l[i]! s = false := (by have z := h13; simp only [Bool.and_eq_true, Bool.not_eq_true'] at z; exact z); have z2 := ob z1.1; simp; omega), (fun z => by cases z)⟩
        show _ - (i + 1) < _ - i; omega
    ·
      refine WC.skip ?_
      refine WK.then_normal (k11 _ _ ?_)
      refine WC.sub [(0, _), (1, _), (5, _), (6, _), (7, _)] ⟨rfl, rfl, rfl, rfl, rfl, trivial⟩ ?_
      refine WC.seq (fun K39 k39 => ?_)
      refine WC.region rfl ?_
      refine WL.yld rfl (blt rfl) rfl (Y.move rfl rfl) ?_
      refine WL.yld rfl (blt rfl) rfl (Y.move rfl rfl) ?_
      have b40 : i < n_l := by omega
      refine WL.yld rfl (blt rfl) rfl (Y.indexLs i (h_l.ext xW) rfl Try.underlying34 ti9 rfl rfl rfl b40) ?_
      refine WL.yld rfl (blt rfl) rfl (Y.load1 rfl Try.underlying9 rfl rfl (Ls.at_eq (h_l.ext xW) b40 rfl)) ?_
      refine WL.yld rfl (blt rfl) rfl (Y.move rfl rfl) ?_
      refine WL.yld rfl (blt rfl) rfl (Y.neqStr rfl rfl rfl) ?_
      refine WL.nil ?_
      refine WK.then_normal (k39 _ _ ?_)
      refine WC.sub [(0, _), (1, _), (5, _), (6, _), (7, _), (33, _)] ⟨rfl, rfl, rfl, rfl, rfl, rfl, trivial⟩ ?_
      refine WC.cond rfl (fun h41 => ?_) (fun h41 => ?_)
      ·
        refine WC.region rfl ?_
        refine WL.yld rfl (blt rfl) rfl (Y.move rfl rfl) ?_
        refine WL.yld rfl (blt rfl) rfl (Y.move rfl rfl) ?_
        refine WL.yld rfl (blt rfl) rfl (Y.move rfl rfl) ?_
        have b42 : i < n_l := by omega
        refine WL.yld rfl (blt rfl) rfl (Y.indexLs i (h_l.ext xW) rfl Try.underlying34 ti9 rfl rfl rfl b42) ?_
        refine WL.yld rfl (blt rfl) rfl (Y.load1 rfl Try.underlying9 rfl rfl (Ls.at_eq (h_l.ext xW) b42 rfl)) ?_
        refine WL.bslice (zs := [.string ⟨#[]⟩]) (cs := [_]) rfl (blt rfl) rfl rfl Try.underlying34 ti9 rfl (ble rfl) (by kernel_rfl) rfl rfl ?_
        intro g43 w44 e45 x46 m47
        have r_v_g43 := ne_newO ow_v e45
        have o_g43 := own_new xW e45
        have ow_v := ow_v.ext x46
        have xW := Ext.trans xW x46
        refine WL.appendB (f := Sx.sc) (news := [l[i]!]) rfl (blt rfl) rfl rfl rfl rfl Try.underlying34 ti9 rfl (by decide) rfl ow_v (fun _ => rfl) Sx.sc_one m47 rfl xW.size (by have q0 := ol; first | omega | (simp only [List.length_append, List.length_cons, List.length_nil, List.length_take, List.length_drop, List.length_reverse]; omega)) (Nat.le_trans (show _ ≤ 140737488355328 from by have q0 := ol; first | omega | (simp only [List.length_append, List.length_cons, List.length_nil, List.length_take, List.length_drop, List.length_reverse]; omega)) (by decide)) (fun v48 w49 ow50 gr51 nb52 => ?_)
        have r_v48_g43 := ne_app nb52 r_v_g43 m47
        have m47 := m47.grown gr51 r_v_g43
        have xW := Ext.grown xW gr51 (fun b hb => (OwnL.lt ow_v hb).1)
        refine WL.yld rfl (blt rfl) rfl (Y.assign rfl rfl) ?_
        refine WL.nil ?_
        refine WK.in_normal ?_
        refine WK.then_normal (k10 _ _ ?_)
        refine WC.sub [(0, _), (1, _), (5, _), (6, _), (7, _)] ⟨rfl, rfl, rfl, rfl, rfl, trivial⟩ ?_
        refine WC.region rfl ?_
        refine WL.yld rfl (blt rfl) rfl (Y.move rfl rfl) ?_
        refine WL.yld rfl (blt rfl) rfl (Y.add rfl rfl rfl (wrap_i64 (by first | omega | (dsimp only; omega)))) ?_
        refine WL.yld rfl (blt rfl) rfl (Y.assign rfl rfl) ?_
        refine WL.nil ?_
        refine WK.roundS _ [(7, .int .i64 (((i + 1) : Nat) : Int)), (5, v48), (6, .bool bb)] ⟨rfl, rfl, rfl, rfl, rfl, trivial⟩ ?_ ⟨(i + 1), v48, bb, (q ++ [l[i]!]), rfl, rfl, xW, ow50, (by omega), (by have z1 := h13; rw [pi, Sx.drop_next (show i < l.length from by omega)]; cases bb with | true => (rw [Sx.rest_t_yes (by have z := h41; rw [Bool.not_eq_true'] at z; exact z)]; simp) | false => (rw [Sx.rest_f_lt (by simpa using z1)]; simp)), (by simp; omega), (fun z => by have z2 := ob z; simp; omega)⟩
        show _ - (i + 1) < _ - i; omega
      ·
        refine WC.skip ?_
        refine WK.in_normal ?_
        refine WK.then_normal (k10 _ _ ?_)
        refine WC.sub [(0, _), (1, _), (5, _), (6, _), (7, _)] ⟨rfl, rfl, rfl, rfl, rfl, trivial⟩ ?_
        refine WC.region rfl ?_
        refine WL.yld rfl (blt rfl) rfl (Y.move rfl rfl) ?_
        refine WL.yld rfl (blt rfl) rfl (Y.add rfl rfl rfl (wrap_i64 (by first | omega | (dsimp only; omega)))) ?_
        refine WL.yld rfl (blt rfl) rfl (Y.assign rfl rfl) ?_
        refine WL.nil ?_
        refine WK.roundS _ [(7, .int .i64 (((i + 1) : Nat) : Int)), (5, v), (6, .bool bb)] ⟨rfl, rfl, rfl, rfl, rfl, trivial⟩ ?_ ⟨(i + 1), v, bb, q, rfl, rfl, xW, ow_v, (by omega), (by have z1 := h13; rw [pi, Sx.drop_next (show i < l.length from by omega)]; cases bb with | true => rw [Sx.rest_t_no (by have z := h41; rw [Bool.not_eq_false'] at z; exact z)] | false => (exfalso; have z3 := beqB_eq.1 (by have z := h41; rw [Bool.not_eq_false'] at z; exact z); rw [z3, Sx.lt_irr] at z1; cases z1)), (by omega), (fun z => by have z2 := ob z; omega)⟩
        show _ - (i + 1) < _ - i; omega
  ·
    have p9 := (dec_f h9)
    refine WC.exit ?_
    refine WK.then_exit ?_
    refine WK.then_exit ?_
    refine WK.in_exit ?_
    refine WK.then_normal (k4 _ _ ?_)
    refine WC.sub [(1, _), (5, _), (6, _)] ⟨rfl, rfl, rfl, trivial⟩ ?_
    refine WC.seq (fun K53 k53 => ?_)
    refine WC.seq (fun K54 k54 => ?_)
    refine WC.region rfl ?_
    refine WL.yld rfl (blt rfl) rfl (Y.move rfl rfl) ?_
    refine WL.yld rfl (blt rfl) rfl (Y.not rfl rfl) ?_
    refine WL.nil ?_
    refine WK.then_normal (k54 _ _ ?_)
    refine WC.sub [(1, _), (5, _), (42, _)] ⟨rfl, rfl, rfl, trivial⟩ ?_
    refine WC.cond rfl (fun h55 => ?_) (fun h55 => ?_)
    ·
      refine WC.region rfl ?_
      refine WL.yld rfl (blt rfl) rfl (Y.move rfl rfl) ?_
      refine WL.yld rfl (blt rfl) rfl (Y.move rfl rfl) ?_
      refine WL.bslice (zs := [.string ⟨#[]⟩]) (cs := [_]) rfl (blt rfl) rfl rfl Try.underlying34 ti9 rfl (ble rfl) (by kernel_rfl) rfl rfl ?_
      intro g56 w57 e58 x59 m60
      have r_v_g56 := ne_newO ow_v e58
      have o_g56 := own_new xW e58
      have ow_v := ow_v.ext x59
      have xW := Ext.trans xW x59
      refine WL.appendB (f := Sx.sc) (news := [s]) rfl (blt rfl) rfl rfl rfl rfl Try.underlying34 ti9 rfl (by decide) rfl ow_v (fun _ => rfl) Sx.sc_one m60 rfl xW.size (by have q0 := ol; first | omega | (simp only [List.length_append, List.length_cons, List.length_nil, List.length_take, List.length_drop, List.length_reverse]; omega)) (Nat.le_trans (show _ ≤ 140737488355328 from by have q0 := ol; first | omega | (simp only [List.length_append, List.length_cons, List.length_nil, List.length_take, List.length_drop, List.length_reverse]; omega)) (by decide)) (fun v61 w62 ow63 gr64 nb65 => ?_)
      have r_v61_g56 := ne_app nb65 r_v_g56 m60
      have m60 := m60.grown gr64 r_v_g56
      have xW := Ext.grown xW gr64 (fun b hb => (OwnL.lt ow_v hb).1)
      refine WL.yld rfl (blt rfl) rfl (Y.assign rfl rfl) ?_
      refine WL.nil ?_
      refine WK.then_normal (k53 _ _ ?_)
      refine WC.sub [(5, _)] ⟨rfl, trivial⟩ ?_
      refine WC.seq (fun K66 k66 => ?_)
      refine WC.region rfl ?_
      refine WL.yld rfl (blt rfl) rfl (Y.move rfl rfl) ?_
      refine WL.yld rfl (blt rfl) rfl (Y.assign rfl rfl) ?_
      refine WL.nil ?_
      refine WK.then_normal (k66 _ _ ?_)
      refine WC.sub [(4, _)] ⟨rfl, trivial⟩ ?_
      refine WC.ret ?_
      clear k1 k2 k3 k4 k5 k7 k8 k53 k54 k66
      refine WK.ret [_] rfl ⟨rfl, trivial⟩ ?_
      have z := ow63
      rw [List.drop_of_length_le (by omega)] at pi
      have z1 : bb = false := by simpa using h55
      rw [z1, Sx.restP_nil_f] at pi
      exact ⟨_, rfl, (by rw [pi]; exact z), xW⟩
    ·
      refine WC.skip ?_
      refine WK.then_normal (k53 _ _ ?_)
      refine WC.sub [(5, _)] ⟨rfl, trivial⟩ ?_
      refine WC.seq (fun K67 k67 => ?_)
      refine WC.region rfl ?_
      refine WL.yld rfl (blt rfl) rfl (Y.move rfl rfl) ?_
      refine WL.yld rfl (blt rfl) rfl (Y.assign rfl rfl) ?_
      refine WL.nil ?_
      refine WK.then_normal (k67 _ _ ?_)
      refine WC.sub [(4, _)] ⟨rfl, trivial⟩ ?_
      refine WC.ret ?_
      clear k1 k2 k3 k4 k5 k7 k8 k53 k54 k67
      refine WK.ret [_] rfl ⟨rfl, trivial⟩ ?_
      have z := ow_v
      rw [List.drop_of_length_le (by omega)] at pi
      have z1 : bb = true := by simpa using h55
      rw [z1, Sx.restP_nil_t, List.append_nil] at pi
      exact ⟨_, rfl, (by rw [pi]; exact z), xW⟩
end Z
end SxW

end Go.Proofs.Ytklccakoblibmaa
