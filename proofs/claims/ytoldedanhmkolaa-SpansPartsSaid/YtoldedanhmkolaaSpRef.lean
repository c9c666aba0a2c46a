/- Contracts: the reference; lengths. Conditions: what each theorem states. -/
import Derived.Test.YtoldedanhmkolaaSpComb
namespace Go.Proofs.Ytoldedanhmkolaa
open Go Go.Eng Go.RowKit
set_option linter.unusedVariables false
namespace SpW
open Q C D
namespace E
theorem ti3 : TI Try.prog 3 (.int .i64 0) 1 8 := TI.mk (by kernel_rfl)
theorem ti27 : TI Try.prog 27 (.agg #[.int .i64 0, .int .i64 0]) 2 16 := TI.mk (by kernel_rfl)
theorem has12 : Has Try.prog 12 := ⟨_, Try.func12, rfl, by kernel_rfl⟩
theorem has14 : Has Try.prog 14 := ⟨_, Try.func14, rfl, by kernel_rfl⟩
theorem has15 : Has Try.prog 15 := ⟨_, Try.func15, rfl, by kernel_rfl⟩
theorem has27 : Has Try.prog 27 := ⟨_, Try.func27, rfl, by kernel_rfl⟩
theorem has31 : Has Try.prog 31 := ⟨_, Try.func31, rfl, by kernel_rfl⟩
theorem has41 : Has Try.prog 41 := ⟨_, Try.func41, rfl, by kernel_rfl⟩
theorem has42 : Has Try.prog 42 := ⟨_, Try.func42, rfl, by kernel_rfl⟩
theorem has57 : Has Try.prog 57 := ⟨_, Try.func57, rfl, by kernel_rfl⟩
theorem pl27 : PL Try.prog 27 [.int .i64 0, .int .i64 0] [(0, 1), (1, 1)] := PL.mk (zero := [.int .i64 0, .int .i64 0]) ti27 Try.underlying27 (by kernel_rfl)
theorem put_any (A_l : Option Addr) (n_l c_l : Nat) (l : List Int) (n : Int) (w : World) (h_l : Ls w A_l n_l c_l Sp.ic 1 l) (hr : Inc.Rising l) (hn : n_l ≤ 100000) :
    Calls Try.prog 57 #[.slice A_l n_l c_l, .int .i64 n] w fun e w' => ∃ v, e = .returned v ∧ OwnL w' w.heap.size 3 Sp.ic 1 v (Inc.put l n) ∧ Ext w w' := by
  have xW := Ext.refl w
  have e_l := h_l.len
  have z_l := h_l.nle
  refine calls_of_WC (args := [.slice A_l n_l c_l, .int .i64 n]) Try.func57 rfl rfl (ble rfl) ?_
  refine WC.seq (fun K1 k1 => ?_)
  refine WC.region rfl ?_
  refine WL.yld rfl (blt rfl) rfl (Y.assign rfl rfl) ?_
  refine WL.nil ?_
  refine WK.then_normal (k1 _ _ ?_)
  refine WC.sub [(0, _), (1, _)] ⟨rfl, rfl, trivial⟩ ?_
  refine WC.seq (fun K2 k2 => ?_)
  refine WC.region rfl ?_
  refine WL.yld rfl (blt rfl) rfl (Y.assign rfl rfl) ?_
  refine WL.nil ?_
  refine WK.then_normal (k2 _ _ ?_)
  refine WC.seq (fun K3 k3 => ?_)
  refine WC.region rfl ?_
  refine WL.yld rfl (blt rfl) rfl (Y.assign rfl rfl) ?_
  refine WL.nil ?_
  refine WK.then_normal (k3 _ _ ?_)
  refine WC.seq (fun K4 k4 => ?_)
  refine WC.seq (fun K5 k5 => ?_)
  refine WC.region rfl ?_
  refine WL.yld rfl (blt rfl) rfl (Y.assign rfl rfl) ?_
  refine WL.nil ?_
  refine WK.then_normal (k5 _ _ ?_)
  refine WC.block ?_
  refine WC.sub [(7, _), (6, _), (5, _), (0, _), (1, _)] ⟨rfl, rfl, rfl, rfl, rfl, trivial⟩ ?_
  refine WC.loopS 3 (fun mz Ed W' => ∃ i : Nat, ∃ b : Bool, ∃ v : Value, mz = n_l - i ∧ Ed = [(7, .int .i64 ((i : Nat) : Int)), (6, .bool b), (5, v)] ∧ Ext w W' ∧ OwnL W' w.heap.size 3 Sp.ic 1 v (Sp.putUp l n i) ∧ (i ≤ n_l) ∧ (b = Sp.seen l n i)) _ ⟨0, false, _, rfl, rfl, xW, OwnL.nil_, (Nat.zero_le _), rfl⟩ ?_
  rintro _ _ w6 ⟨i, b, v, rfl, rfl, xW, ow_v, le_i, inv_b⟩
  refine WC.sub [(7, _), (6, _), (5, _), (0, _), (1, _)] ⟨rfl, rfl, rfl, rfl, rfl, trivial⟩ ?_
  refine WC.seq (fun K7 k7 => ?_)
  refine WC.seq (fun K8 k8 => ?_)
  refine WC.region rfl ?_
  refine WL.yld rfl (blt rfl) rfl (Y.move rfl rfl) ?_
  refine WL.yld rfl (blt rfl) rfl (Y.move rfl rfl) ?_
  refine WL.yld rfl (blt rfl) rfl (Y.lenSl rfl rfl rfl Try.underlying32 rfl) ?_
  refine WL.yld rfl (blt rfl) rfl (Y.lss rfl rfl rfl) ?_
  refine WL.nil ?_
  refine WK.then_normal (k8 _ _ ?_)
  refine WC.sub [(0, _), (1, _), (5, _), (6, _), (7, _), (11, _)] ⟨rfl, rfl, rfl, rfl, rfl, rfl, trivial⟩ ?_
  refine WC.cond rfl (fun h9 => ?_) (fun h9 => ?_)
  ·
    have p9 := (dec_t h9)
    refine WC.skip ?_
    refine WK.then_normal (k7 _ _ ?_)
    refine WC.sub [(0, _), (1, _), (5, _), (6, _), (7, _)] ⟨rfl, rfl, rfl, rfl, rfl, trivial⟩ ?_
    refine WC.seq (fun K10 k10 => ?_)
    refine WC.block ?_
    refine WC.seq (fun K11 k11 => ?_)
    refine WC.seq (fun K12 k12 => ?_)
    refine WC.region rfl ?_
    refine WL.yld rfl (blt rfl) rfl (Y.move rfl rfl) ?_
    refine WL.yld rfl (blt rfl) rfl (Y.not rfl rfl) ?_
    refine WL.yld rfl (blt rfl) rfl (Y.move rfl rfl) ?_
    refine WL.yldG rfl (blt rfl) rfl rfl rfl (fun hb => Y.move rfl rfl) ?_
    refine WL.yldG rfl (blt rfl) rfl rfl rfl (fun hb => Y.move rfl rfl) ?_
    refine WL.yldG rfl (blt rfl) rfl rfl rfl (fun hb => Y.indexLs i (h_l.ext xW) rfl Try.underlying32 ti3 (evg rfl hb) (evg rfl hb) rfl (by omega)) ?_
    refine WL.yldG rfl (blt rfl) rfl rfl rfl (fun hb => Y.load1 rfl Try.underlying3 rfl (evg rfl hb) (Ls.at_eq (h_l.ext xW) (by omega) rfl)) ?_
    refine WL.yldG rfl (blt rfl) rfl rfl rfl (fun hb => Y.move rfl rfl) ?_
    refine WL.yldG rfl (blt rfl) rfl rfl rfl (fun hb => Y.geq rfl (evg rfl hb) (evg rfl hb)) ?_
    refine WL.yld rfl (blt rfl) rfl (Y.and rfl rfl rfl rfl) ?_
    refine WL.nil ?_
    refine WK.then_normal (k12 _ _ ?_)
    refine WC.sub [(0, _), (1, _), (5, _), (6, _), (7, _), (23, _)] ⟨rfl, rfl, rfl, rfl, rfl, rfl, trivial⟩ ?_
    refine WC.cond rfl (fun h13 => ?_) (fun h13 => ?_)
    ·
      have p13 := (dec_t (and_t h13).2)
      refine WC.seq (fun K14 k14 => ?_)
      refine WC.region rfl ?_
      refine WL.yld rfl (blt rfl) rfl (Y.move rfl rfl) ?_
      refine WL.yld rfl (blt rfl) rfl (Y.move rfl rfl) ?_
      refine WL.bslice (zs := [.int .i64 0]) (cs := [_]) rfl (blt rfl) rfl rfl Try.underlying32 ti3 rfl (ble rfl) (by kernel_rfl) rfl rfl ?_
      intro g15 w16 e17 x18 m19
      have r_v_g15 := ne_newO ow_v e17
      have o_g15 := own_new xW e17
      have ow_v := ow_v.ext x18
      have xW := Ext.trans xW x18
      refine WL.appendB (f := Sp.ic) (news := [n]) rfl (blt rfl) rfl rfl rfl rfl Try.underlying32 ti3 rfl (by decide) rfl ow_v (fun _ => rfl) Sp.ic_one m19 rfl xW.size (by have q0 := Sp.putUp_len l n i; have q1 := h_l.len; have q2 := hn; first | omega | (simp only [List.length_append, List.length_cons, List.length_nil, List.length_take, List.length_drop, List.length_reverse]; omega)) (Nat.le_trans (show _ ≤ 140737488355328 from by have q0 := Sp.putUp_len l n i; have q1 := h_l.len; have q2 := hn; first | omega | (simp only [List.length_append, List.length_cons, List.length_nil, List.length_take, List.length_drop, List.length_reverse]; omega)) (by decide)) (fun v20 w21 ow22 gr23 nb24 => ?_)
      have r_v20_g15 := ne_app nb24 r_v_g15 m19
      have m19 := m19.grown gr23 r_v_g15
      have xW := Ext.grown xW gr23 (fun b hb => (OwnL.lt ow_v hb).1)
      refine WL.yld rfl (blt rfl) rfl (Y.assign rfl rfl) ?_
      refine WL.nil ?_
      refine WK.then_normal (k14 _ _ ?_)
      refine WC.sub [(0, _), (1, _), (5, _), (7, _)] ⟨rfl, rfl, rfl, rfl, trivial⟩ ?_
      refine WC.region rfl ?_
      refine WL.yld rfl (blt rfl) rfl (Y.assign rfl rfl) ?_
      refine WL.nil ?_
      refine WK.then_normal (k11 _ _ ?_)
      refine WC.seq (fun K25 k25 => ?_)
      refine WC.region rfl ?_
      refine WL.yld rfl (blt rfl) rfl (Y.move rfl rfl) ?_
      refine WL.yld rfl (blt rfl) rfl (Y.move rfl rfl) ?_
      have b26 : i < n_l := by omega
      refine WL.yld rfl (blt rfl) rfl (Y.indexLs i (h_l.ext xW) rfl Try.underlying32 ti3 rfl rfl rfl b26) ?_
      refine WL.yld rfl (blt rfl) rfl (Y.load1 rfl Try.underlying3 rfl rfl (Ls.at_eq (h_l.ext xW) b26 rfl)) ?_
      refine WL.yld rfl (blt rfl) rfl (Y.move rfl rfl) ?_
      refine WL.yld rfl (blt rfl) rfl (Y.neq rfl rfl rfl) ?_
      refine WL.nil ?_
      refine WK.then_normal (k25 _ _ ?_)
      refine WC.sub [(0, _), (1, _), (5, _), (6, _), (7, _), (33, _)] ⟨rfl, rfl, rfl, rfl, rfl, rfl, trivial⟩ ?_
      refine WC.cond rfl (fun h27 => ?_) (fun h27 => ?_)
      ·
        have p27 := (eq_f (not_t h27))
        refine WC.region rfl ?_
        refine WL.yld rfl (blt rfl) rfl (Y.move rfl rfl) ?_
        refine WL.yld rfl (blt rfl) rfl (Y.move rfl rfl) ?_
        refine WL.yld rfl (blt rfl) rfl (Y.move rfl rfl) ?_
        have b28 : i < n_l := by omega
        refine WL.yld rfl (blt rfl) rfl (Y.indexLs i (h_l.ext xW) rfl Try.underlying32 ti3 rfl rfl rfl b28) ?_
        refine WL.yld rfl (blt rfl) rfl (Y.load1 rfl Try.underlying3 rfl rfl (Ls.at_eq (h_l.ext xW) b28 rfl)) ?_
        refine WL.bslice (zs := [.int .i64 0]) (cs := [_]) rfl (blt rfl) rfl rfl Try.underlying32 ti3 rfl (ble rfl) (by kernel_rfl) rfl rfl ?_
        intro g29 w30 e31 x32 m33
        have r_v20_g29 := ne_newO ow22 e31
        have o_g29 := own_new xW e31
        have ow22 := ow22.ext x32
        have xW := Ext.trans xW x32
        refine WL.appendB (f := Sp.ic) (news := [l[i]!]) rfl (blt rfl) rfl rfl rfl rfl Try.underlying32 ti3 rfl (by decide) rfl ow22 (fun _ => rfl) Sp.ic_one m33 rfl xW.size (by have q0 := Sp.putUp_len l n i; have q1 := h_l.len; have q2 := hn; first | omega | (simp only [List.length_append, List.length_cons, List.length_nil, List.length_take, List.length_drop, List.length_reverse]; omega)) (Nat.le_trans (show _ ≤ 140737488355328 from by have q0 := Sp.putUp_len l n i; have q1 := h_l.len; have q2 := hn; first | omega | (simp only [List.length_append, List.length_cons, List.length_nil, List.length_take, List.length_drop, List.length_reverse]; omega)) (by decide)) (fun v34 w35 ow36 gr37 nb38 => ?_)
        have r_v34_g29 := ne_app nb38 r_v20_g29 m33
        have m33 := m33.grown gr37 r_v20_g29
        have xW := Ext.grown xW gr37 (fun b hb => (OwnL.lt ow22 hb).1)
        refine WL.yld rfl (blt rfl) rfl (Y.assign rfl rfl) ?_
        refine WL.nil ?_
        refine WK.in_normal ?_
        refine WK.then_normal (k10 _ _ ?_)
        refine WC.sub [(0, _), (1, _), (5, _), (6, _), (7, _)] ⟨rfl, rfl, rfl, rfl, rfl, trivial⟩ ?_
        refine WC.region rfl ?_
        refine WL.yld rfl (blt rfl) rfl (Y.move rfl rfl) ?_
        refine WL.yld rfl (blt rfl) rfl (Y.add rfl rfl rfl (wrap_i64 (by first | omega | (dsimp only; omega)))) ?_
        refine WL.yld rfl (blt rfl) rfl (Y.assign rfl rfl) ?_
        refine WL.nil ?_
        refine WK.roundS _ [(7, .int .i64 (((i + 1) : Nat) : Int)), (6, .bool true), (5, v34)] ⟨rfl, rfl, rfl, rfl, rfl, trivial⟩ ?_ ⟨(i + 1), true, v34, rfl, rfl, xW, (by rw [(Sp.put_TT (show i < l.length from by omega) hr inv_b h13 p27).1]; exact ow36), (by omega), (Sp.put_TT (show i < l.length from by omega) hr inv_b h13 p27).2⟩
        show _ - (i + 1) < _ - i; omega
      ·
        have p27 := (eq_t (not_f h27))
        refine WC.skip ?_
        refine WK.in_normal ?_
        refine WK.then_normal (k10 _ _ ?_)
        refine WC.sub [(0, _), (1, _), (5, _), (6, _), (7, _)] ⟨rfl, rfl, rfl, rfl, rfl, trivial⟩ ?_
        refine WC.region rfl ?_
        refine WL.yld rfl (blt rfl) rfl (Y.move rfl rfl) ?_
        refine WL.yld rfl (blt rfl) rfl (Y.add rfl rfl rfl (wrap_i64 (by first | omega | (dsimp only; omega)))) ?_
        refine WL.yld rfl (blt rfl) rfl (Y.assign rfl rfl) ?_
        refine WL.nil ?_
        refine WK.roundS _ [(7, .int .i64 (((i + 1) : Nat) : Int)), (6, .bool true), (5, v20)] ⟨rfl, rfl, rfl, rfl, rfl, trivial⟩ ?_ ⟨(i + 1), true, v20, rfl, rfl, xW, (by rw [(Sp.put_TF (show i < l.length from by omega) inv_b h13 p27).1]; exact ow22), (by omega), (Sp.put_TF (show i < l.length from by omega) inv_b h13 p27).2⟩
        show _ - (i + 1) < _ - i; omega
    ·
      have p13 := ((and_f h13).imp (fun h => h) (fun h => (dec_f h)))
      refine WC.skip ?_
      refine WK.then_normal (k11 _ _ ?_)
      refine WC.sub [(0, _), (1, _), (5, _), (6, _), (7, _)] ⟨rfl, rfl, rfl, rfl, rfl, trivial⟩ ?_
      refine WC.seq (fun K39 k39 => ?_)
      refine WC.region rfl ?_
      refine WL.yld rfl (blt rfl) rfl (Y.move rfl rfl) ?_
      refine WL.yld rfl (blt rfl) rfl (Y.move rfl rfl) ?_
      have b40 : i < n_l := by omega
      refine WL.yld rfl (blt rfl) rfl (Y.indexLs i (h_l.ext xW) rfl Try.underlying32 ti3 rfl rfl rfl b40) ?_
      refine WL.yld rfl (blt rfl) rfl (Y.load1 rfl Try.underlying3 rfl rfl (Ls.at_eq (h_l.ext xW) b40 rfl)) ?_
      refine WL.yld rfl (blt rfl) rfl (Y.move rfl rfl) ?_
      refine WL.yld rfl (blt rfl) rfl (Y.neq rfl rfl rfl) ?_
      refine WL.nil ?_
      refine WK.then_normal (k39 _ _ ?_)
      refine WC.sub [(0, _), (1, _), (5, _), (6, _), (7, _), (33, _)] ⟨rfl, rfl, rfl, rfl, rfl, rfl, trivial⟩ ?_
      refine WC.cond rfl (fun h41 => ?_) (fun h41 => ?_)
      ·
        have p41 := (eq_f (not_t h41))
        refine WC.region rfl ?_
        refine WL.yld rfl (blt rfl) rfl (Y.move rfl rfl) ?_
        refine WL.yld rfl (blt rfl) rfl (Y.move rfl rfl) ?_
        refine WL.yld rfl (blt rfl) rfl (Y.move rfl rfl) ?_
        have b42 : i < n_l := by omega
        refine WL.yld rfl (blt rfl) rfl (Y.indexLs i (h_l.ext xW) rfl Try.underlying32 ti3 rfl rfl rfl b42) ?_
        refine WL.yld rfl (blt rfl) rfl (Y.load1 rfl Try.underlying3 rfl rfl (Ls.at_eq (h_l.ext xW) b42 rfl)) ?_
        refine WL.bslice (zs := [.int .i64 0]) (cs := [_]) rfl (blt rfl) rfl rfl Try.underlying32 ti3 rfl (ble rfl) (by kernel_rfl) rfl rfl ?_
        intro g43 w44 e45 x46 m47
        have r_v_g43 := ne_newO ow_v e45
        have o_g43 := own_new xW e45
        have ow_v := ow_v.ext x46
        have xW := Ext.trans xW x46
        refine WL.appendB (f := Sp.ic) (news := [l[i]!]) rfl (blt rfl) rfl rfl rfl rfl Try.underlying32 ti3 rfl (by decide) rfl ow_v (fun _ => rfl) Sp.ic_one m47 rfl xW.size (by have q0 := Sp.putUp_len l n i; have q1 := h_l.len; have q2 := hn; first | omega | (simp only [List.length_append, List.length_cons, List.length_nil, List.length_take, List.length_drop, List.length_reverse]; omega)) (Nat.le_trans (show _ ≤ 140737488355328 from by have q0 := Sp.putUp_len l n i; have q1 := h_l.len; have q2 := hn; first | omega | (simp only [List.length_append, List.length_cons, List.length_nil, List.length_take, List.length_drop, List.length_reverse]; omega)) (by decide)) (fun v48 w49 ow50 gr51 nb52 => ?_)
        have r_v48_g43 := ne_app nb52 r_v_g43 m47
        have m47 := m47.grown gr51 r_v_g43
        have xW := Ext.grown xW gr51 (fun b hb => (OwnL.lt ow_v hb).1)
        refine WL.yld rfl (blt rfl) rfl (Y.assign rfl rfl) ?_
        refine WL.nil ?_
        refine WK.in_normal ?_
        refine WK.then_normal (k10 _ _ ?_)
        refine WC.sub [(0, _), (1, _), (5, _), (6, _), (7, _)] ⟨rfl, rfl, rfl, rfl, rfl, trivial⟩ ?_
        refine WC.region rfl ?_
        refine WL.yld rfl (blt rfl) rfl (Y.move rfl rfl) ?_
        refine WL.yld rfl (blt rfl) rfl (Y.add rfl rfl rfl (wrap_i64 (by first | omega | (dsimp only; omega)))) ?_
        refine WL.yld rfl (blt rfl) rfl (Y.assign rfl rfl) ?_
        refine WL.nil ?_
        refine WK.roundS _ [(7, .int .i64 (((i + 1) : Nat) : Int)), (6, .bool b), (5, v48)] ⟨rfl, rfl, rfl, rfl, rfl, trivial⟩ ?_ ⟨(i + 1), b, v48, rfl, rfl, xW, (by rw [(Sp.put_FT (show i < l.length from by omega) hr inv_b h13 p41).1]; exact ow50), (by omega), (Sp.put_FT (show i < l.length from by omega) hr inv_b h13 p41).2⟩
        show _ - (i + 1) < _ - i; omega
      ·
        have p41 := (eq_t (not_f h41))
        refine WC.skip ?_
        refine WK.in_normal ?_
        refine WK.then_normal (k10 _ _ ?_)
        refine WC.sub [(0, _), (1, _), (5, _), (6, _), (7, _)] ⟨rfl, rfl, rfl, rfl, rfl, trivial⟩ ?_
        refine WC.region rfl ?_
        refine WL.yld rfl (blt rfl) rfl (Y.move rfl rfl) ?_
        refine WL.yld rfl (blt rfl) rfl (Y.add rfl rfl rfl (wrap_i64 (by first | omega | (dsimp only; omega)))) ?_
        refine WL.yld rfl (blt rfl) rfl (Y.assign rfl rfl) ?_
        refine WL.nil ?_
        refine WK.roundS _ [(7, .int .i64 (((i + 1) : Nat) : Int)), (6, .bool b), (5, v)] ⟨rfl, rfl, rfl, rfl, rfl, trivial⟩ ?_ ⟨(i + 1), b, v, rfl, rfl, xW, (Sp.put_FF (show i < l.length from by omega) hr inv_b h13 p41).elim, (by omega), (Sp.put_FF (show i < l.length from by omega) hr inv_b h13 p41).elim⟩
        show _ - (i + 1) < _ - i; omega
  ·
    have p9 := (dec_f h9)
    refine WC.exit ?_
    refine WK.then_exit ?_
    refine WK.then_exit ?_
    refine WK.in_exit ?_
    refine WK.then_normal (k4 _ _ ?_)
    refine WC.sub [(1, _), (5, _), (6, _)] ⟨rfl, rfl, rfl, trivial⟩ ?_
    refine WC.seq (fun K53 k53 => ?_)
    refine WC.seq (fun K54 k54 => ?_)
    refine WC.region rfl ?_
    refine WL.yld rfl (blt rfl) rfl (Y.move rfl rfl) ?_
    refine WL.yld rfl (blt rfl) rfl (Y.not rfl rfl) ?_
    refine WL.nil ?_
    refine WK.then_normal (k54 _ _ ?_)
    refine WC.sub [(1, _), (5, _), (42, _)] ⟨rfl, rfl, rfl, trivial⟩ ?_
    refine WC.cond rfl (fun h55 => ?_) (fun h55 => ?_)
    ·
      refine WC.region rfl ?_
      refine WL.yld rfl (blt rfl) rfl (Y.move rfl rfl) ?_
      refine WL.yld rfl (blt rfl) rfl (Y.move rfl rfl) ?_
      refine WL.bslice (zs := [.int .i64 0]) (cs := [_]) rfl (blt rfl) rfl rfl Try.underlying32 ti3 rfl (ble rfl) (by kernel_rfl) rfl rfl ?_
      intro g56 w57 e58 x59 m60
      have r_v_g56 := ne_newO ow_v e58
      have o_g56 := own_new xW e58
      have ow_v := ow_v.ext x59
      have xW := Ext.trans xW x59
      refine WL.appendB (f := Sp.ic) (news := [n]) rfl (blt rfl) rfl rfl rfl rfl Try.underlying32 ti3 rfl (by decide) rfl ow_v (fun _ => rfl) Sp.ic_one m60 rfl xW.size (by have q0 := Sp.putUp_len l n i; have q1 := h_l.len; have q2 := hn; first | omega | (simp only [List.length_append, List.length_cons, List.length_nil, List.length_take, List.length_drop, List.length_reverse]; omega)) (Nat.le_trans (show _ ≤ 140737488355328 from by have q0 := Sp.putUp_len l n i; have q1 := h_l.len; have q2 := hn; first | omega | (simp only [List.length_append, List.length_cons, List.length_nil, List.length_take, List.length_drop, List.length_reverse]; omega)) (by decide)) (fun v61 w62 ow63 gr64 nb65 => ?_)
      have r_v61_g56 := ne_app nb65 r_v_g56 m60
      have m60 := m60.grown gr64 r_v_g56
      have xW := Ext.grown xW gr64 (fun b hb => (OwnL.lt ow_v hb).1)
      refine WL.yld rfl (blt rfl) rfl (Y.assign rfl rfl) ?_
      refine WL.nil ?_
      refine WK.then_normal (k53 _ _ ?_)
      refine WC.sub [(5, _)] ⟨rfl, trivial⟩ ?_
      refine WC.seq (fun K66 k66 => ?_)
      refine WC.region rfl ?_
      refine WL.yld rfl (blt rfl) rfl (Y.move rfl rfl) ?_
      refine WL.yld rfl (blt rfl) rfl (Y.assign rfl rfl) ?_
      refine WL.nil ?_
      refine WK.then_normal (k66 _ _ ?_)
      refine WC.sub [(4, _)] ⟨rfl, trivial⟩ ?_
      refine WC.ret ?_
      clear k1 k2 k3 k4 k5 k7 k8 k53 k54 k66
      refine WK.ret [_] rfl ⟨rfl, trivial⟩ ?_
      refine ⟨_, rfl, ?_, xW⟩
      rw [Sp.put_end (show l.length ≤ i from by omega) b inv_b.symm]
      rw [not_t h55, if_neg Bool.false_ne_true]
      exact ow63
    ·
      refine WC.skip ?_
      refine WK.then_normal (k53 _ _ ?_)
      refine WC.sub [(5, _)] ⟨rfl, trivial⟩ ?_
      refine WC.seq (fun K67 k67 => ?_)
      refine WC.region rfl ?_
      refine WL.yld rfl (blt rfl) rfl (Y.move rfl rfl) ?_
      refine WL.yld rfl (blt rfl) rfl (Y.assign rfl rfl) ?_
      refine WL.nil ?_
      refine WK.then_normal (k67 _ _ ?_)
      refine WC.sub [(4, _)] ⟨rfl, trivial⟩ ?_
      refine WC.ret ?_
      clear k1 k2 k3 k4 k5 k7 k8 k53 k54 k67
      refine WK.ret [_] rfl ⟨rfl, trivial⟩ ?_
      refine ⟨_, rfl, ?_, xW⟩
      rw [Sp.put_end (show l.length ≤ i from by omega) b inv_b.symm]
      rw [not_f h55, if_pos rfl]
      exact ow_v
theorem ends_any (A_a : Option Addr) (n_a c_a : Nat) (a : List Sp.S) (A_b : Option Addr) (n_b c_b : Nat) (b : List Sp.S) (w : World) (h_a : Ls w A_a n_a c_a Sp.S.c 2 a) (h_b : Ls w A_b n_b c_b Sp.S.c 2 b) (ha : n_a ≤ 10000) (hb : n_b ≤ 10000) :
    Calls Try.prog 41 #[.slice A_a n_a c_a, .slice A_b n_b c_b] w fun e w' => ∃ v, e = .returned v ∧ OwnL w' w.heap.size 3 Sp.ic 1 v (Sp.marks (a ++ b)) ∧ Ext w w' := by
  have xW := Ext.refl w
  have e_a := h_a.len
  have z_a := h_a.nle
  have e_b := h_b.len
  have z_b := h_b.nle
  have lnn : (([] ++ a) ++ b).length = a.length + b.length := by simp
  refine calls_of_WC (args := [.slice A_a n_a c_a, .slice A_b n_b c_b]) Try.func41 rfl rfl (ble rfl) ?_
  refine WC.seq (fun K1 k1 => ?_)
  refine WC.region rfl ?_
  refine WL.yld rfl (blt rfl) rfl (Y.assign rfl rfl) ?_
  refine WL.nil ?_
  refine WK.then_normal (k1 _ _ ?_)
  refine WC.sub [(0, _), (1, _)] ⟨rfl, rfl, trivial⟩ ?_
  refine WC.seq (fun K2 k2 => ?_)
  refine WC.region rfl ?_
  refine WL.yld rfl (blt rfl) rfl (Y.assign rfl rfl) ?_
  refine WL.nil ?_
  refine WK.then_normal (k2 _ _ ?_)
  refine WC.seq (fun K3 k3 => ?_)
  refine WC.region rfl ?_
  refine WL.bslice0 rfl (blt rfl) rfl rfl Try.underlying22 ti27 ?_
  intro g4 w5 e6 x7 m8
  have o_g4 := own_new xW e6
  have xW := Ext.trans xW x7
  refine WL.yld rfl (blt rfl) rfl (Y.move rfl rfl) ?_
  have ob9 := Blk.own (sz := 2) (f := Sp.S.c) (l := ([] : List Sp.S)) (base := w.heap.size) m8 o_g4 (fun _ => rfl) rfl (by decide) rfl
  refine WL.appendL (f := Sp.S.c) rfl (blt rfl) rfl rfl rfl rfl Try.underlying22 ti27 rfl (by decide) rfl ob9 (fun _ => rfl) Sp.S.one (h_a.ext xW) xW.size (by have q0 := h_a.len; first | omega | (simp only [List.length_append, List.length_cons, List.length_nil, List.length_take, List.length_drop, List.length_reverse]; omega)) (Nat.le_trans (show _ ≤ 140737488355328 from by have q0 := h_a.len; first | omega | (simp only [List.length_append, List.length_cons, List.length_nil, List.length_take, List.length_drop, List.length_reverse]; omega)) (by decide)) (fun v10 w11 ow12 gr13 nb14 => ?_)
  have xW := Ext.grown xW gr13 (fun b hb => (OwnL.lt ob9 hb).1)
  refine WL.yld rfl (blt rfl) rfl (Y.move rfl rfl) ?_
  refine WL.appendL (f := Sp.S.c) rfl (blt rfl) rfl rfl rfl rfl Try.underlying22 ti27 rfl (by decide) rfl ow12 (fun _ => rfl) Sp.S.one (h_b.ext xW) xW.size (by have q0 := h_a.len; have q1 := h_b.len; first | omega | (simp only [List.length_append, List.length_cons, List.length_nil, List.length_take, List.length_drop, List.length_reverse]; omega)) (Nat.le_trans (show _ ≤ 140737488355328 from by have q0 := h_a.len; have q1 := h_b.len; first | omega | (simp only [List.length_append, List.length_cons, List.length_nil, List.length_take, List.length_drop, List.length_reverse]; omega)) (by decide)) (fun v15 w16 ow17 gr18 nb19 => ?_)
  have xW := Ext.grown xW gr18 (fun b hb => (OwnL.lt ow12 hb).1)
  refine WL.yld rfl (blt rfl) rfl (Y.assign rfl rfl) ?_
  refine WL.nil ?_
  refine WK.then_normal (k3 _ _ ?_)
  refine WC.sub [(5, _), (6, _)] ⟨rfl, rfl, trivial⟩ ?_
  refine WC.seq (fun K20 k20 => ?_)
  refine WC.seq (fun K21 k21 => ?_)
  refine WC.region rfl ?_
  refine WL.yld rfl (blt rfl) rfl (Y.assign rfl rfl) ?_
  refine WL.nil ?_
  refine WK.then_normal (k21 _ _ ?_)
  refine WC.block ?_
  obtain ⟨A22, n23, c24, rfl, hl25⟩ := OwnL.opened ow17 (fun _ => rfl) (by decide)
  have e_n23 := hl25.len
  try simp only [List.length_append, List.length_cons, List.length_nil, List.length_reverse, List.length_drop, List.length_take] at e_n23
  have z_n23 := hl25.nle
  refine WC.sub [(7, _), (5, _), (6, _)] ⟨rfl, rfl, rfl, trivial⟩ ?_
  refine WC.loopS 2 (fun mz Ed W' => ∃ i : Nat, ∃ v : Value, mz = n23 - i ∧ Ed = [(7, .int .i64 ((i : Nat) : Int)), (5, v)] ∧ Ext w W' ∧ OwnL W' w.heap.size 27 Sp.S.c 2 (.slice A22 n23 c24) _ ∧ OwnL W' w.heap.size 3 Sp.ic 1 v (Sp.marks ((([] ++ a) ++ b).take i)) ∧ Apart v (.slice A22 n23 c24) ∧ (i ≤ n23)) _ ⟨0, _, rfl, rfl, xW, ow17, OwnL.nil_, Apart.nil_l, (Nat.zero_le _)⟩ ?_
  rintro _ _ w26 ⟨i, v, rfl, rfl, xW, ow17, ow_v, d_v_v15, le_i⟩
  refine WC.sub [(7, _), (5, _), (6, _)] ⟨rfl, rfl, rfl, trivial⟩ ?_
  have hl25 := OwnL.ls ow17 (fun _ => rfl) (by decide)
  have ml := Sp.marks_len ((([] ++ a) ++ b).take i)
  have tl : ((([] ++ a) ++ b).take i).length ≤ i := List.length_take_le _ _
  refine WC.seq (fun K27 k27 => ?_)
  refine WC.seq (fun K28 k28 => ?_)
  refine WC.region rfl ?_
  refine WL.yld rfl (blt rfl) rfl (Y.move rfl rfl) ?_
  refine WL.yld rfl (blt rfl) rfl (Y.move rfl rfl) ?_
  refine WL.yld rfl (blt rfl) rfl (Y.lenSl rfl rfl rfl Try.underlying22 rfl) ?_
  refine WL.yld rfl (blt rfl) rfl (Y.lss rfl rfl rfl) ?_
  refine WL.nil ?_
  refine WK.then_normal (k28 _ _ ?_)
  refine WC.sub [(5, _), (6, _), (7, _), (16, _)] ⟨rfl, rfl, rfl, rfl, trivial⟩ ?_
  refine WC.cond rfl (fun h29 => ?_) (fun h29 => ?_)
  ·
    have p29 := (dec_t h29)
    refine WC.skip ?_
    refine WK.then_normal (k27 _ _ ?_)
    refine WC.sub [(5, _), (6, _), (7, _)] ⟨rfl, rfl, rfl, trivial⟩ ?_
    refine WC.seq (fun K30 k30 => ?_)
    refine WC.block ?_
    refine WC.seq (fun K31 k31 => ?_)
    refine WC.region rfl ?_
    refine WL.yld rfl (blt rfl) rfl (Y.move rfl rfl) ?_
    refine WL.yld rfl (blt rfl) rfl (Y.move rfl rfl) ?_
    have b32 : i < n23 := by omega
    refine WL.yld rfl (blt rfl) rfl (Y.indexLs i hl25 rfl Try.underlying22 ti27 rfl rfl rfl b32) ?_
    refine WL.yld rfl (blt rfl) rfl (Y.loadS (cs := [_, _]) rfl Try.underlying27 rfl ti27 rfl (Ls.part_eq hl25 b32 rfl)) ?_
    refine WL.call rfl (blt rfl) rfl rfl rfl has12 rfl (rvalid_any _ _ ) ?_
    rintro _ w33 ⟨rfl, x34⟩
    refine ⟨_, rfl, ?_⟩
    have ow17 := ow17.ext x34
    have hl25 := hl25.ext x34
    have ow_v := ow_v.ext x34
    have xW := Ext.trans xW x34
    refine WL.nil ?_
    refine WK.then_normal (k31 _ _ ?_)
    refine WC.sub [(5, _), (6, _), (7, _), (23, _)] ⟨rfl, rfl, rfl, rfl, trivial⟩ ?_
    refine WC.cond rfl (fun h35 => ?_) (fun h35 => ?_)
    ·
      obtain ⟨A36, n37, c38, rfl, hl39⟩ := OwnL.opened ow_v (fun _ => rfl) (by decide)
      have e_n37 := hl39.len
      try simp only [List.length_append, List.length_cons, List.length_nil, List.length_reverse, List.length_drop, List.length_take] at e_n37
      have z_n37 := hl39.nle
      refine WC.regionX (fun W' => Ext w W' ∧ Ls W' A22 n23 c24 Sp.S.c 2 _ ∧ Ls W' A36 n37 c38 Sp.ic 1 _) (.load 0 (.load 1 (.load 2 (.load 3 (.load 4 (.load 5 (.load 7 (.load 8 (.load 9 (.load 10 (.load 11 (.alt 6 (.alt 12 (.load 13 (.fin)) (.none)) (.none))))))))))))) ⟨xW, hl25, hl39⟩ (by kernel_rfl) (by kernel_rfl) (fun w40 x41 => ?_)
      have ow17 := ow17.ext x41
      have hl25 := hl25.ext x41
      have ow_v := ow_v.ext x41
      have hl39 := hl39.ext x41
      have xW := Ext.trans xW x41
      refine WX.yld rfl rfl (blt rfl) rfl (Y.move rfl rfl) ?_
      refine WX.yld rfl rfl (blt rfl) rfl (Y.move rfl rfl) ?_
      refine WX.yld rfl rfl (blt rfl) rfl (Y.move rfl rfl) ?_
      have b42 : i < n23 := by omega
      refine WX.yld rfl rfl (blt rfl) rfl (Y.indexLs i hl25 rfl Try.underlying22 ti27 rfl rfl rfl b42) ?_
      refine WX.yld rfl rfl (blt rfl) rfl (Y.fieldE rfl Try.underlying27 rfl ti3 (by decide) rfl) ?_
      refine WX.yld rfl rfl (blt rfl) rfl (Y.load1 rfl Try.underlying3 rfl rfl (Ls.at_c (fun _ h => h.2.1) b42 rfl)) ?_
      refine WX.yld rfl rfl (blt rfl) rfl (Y.move rfl rfl) ?_
      refine WX.yld rfl rfl (blt rfl) rfl (Y.move rfl rfl) ?_
      have b43 : i < n23 := by omega
      refine WX.yld rfl rfl (blt rfl) rfl (Y.indexLs i hl25 rfl Try.underlying22 ti27 rfl rfl rfl b43) ?_
      refine WX.yld rfl rfl (blt rfl) rfl (Y.fieldE rfl Try.underlying27 rfl ti3 (by decide) rfl) ?_
      refine WX.yld rfl rfl (blt rfl) rfl (Y.load1 rfl Try.underlying3 rfl rfl (Ls.at_c (fun _ h => h.2.1) b43 rfl)) ?_
      refine WX.call rfl rfl (blt rfl) rfl rfl rfl has57 rfl ⟨xW, hl25, hl39⟩ (put_any _ _ _ _ _ _ hl39 (Sp.marks_up _) (by omega)) ?_
      rintro _ w44 ⟨v46, rfl, ow47, x45⟩
      refine ⟨_, rfl, ?_⟩
      have d_v15_v46 := (Apart.res ow47 ow17).symm
      have d_v_v46 := (Apart.res ow47 ow_v).symm
      have ow47 := OwnL.base_le ow47 xW.size
      have ow17 := ow17.ext x45
      have hl25 := hl25.ext x45
      have ow_v := ow_v.ext x45
      have hl39 := hl39.ext x45
      have xW := Ext.trans xW x45
      obtain ⟨A48, n49, c50, rfl, hl51⟩ := OwnL.opened ow47 (fun _ => rfl) (by decide)
      have e_n49 := hl51.len
      try simp only [List.length_append, List.length_cons, List.length_nil, List.length_reverse, List.length_drop, List.length_take] at e_n49
      have z_n49 := hl51.nle
      refine WX.call rfl rfl (blt rfl) rfl rfl rfl has57 rfl ⟨xW, hl25, hl39⟩ (put_any _ _ _ _ _ _ hl51 (Inc.inc_put _ _ (Sp.marks_up _)) (by have q := Inc.put_len (Sp.marks ((([] ++ a) ++ b).take i)) ((([] ++ a) ++ b)[i]!).f; omega)) ?_
      rintro _ w52 ⟨v54, rfl, ow55, x53⟩
      refine ⟨_, rfl, ?_⟩
      have d_v15_v54 := (Apart.res ow55 ow17).symm
      have d_v_v54 := (Apart.res ow55 ow_v).symm
      have d_v46_v54 := (Apart.res ow55 ow47).symm
      have ow55 := OwnL.base_le ow55 xW.size
      have ow17 := ow17.ext x53
      have hl25 := hl25.ext x53
      have ow_v := ow_v.ext x53
      have hl39 := hl39.ext x53
      have ow47 := ow47.ext x53
      have hl51 := hl51.ext x53
      have xW := Ext.trans xW x53
      refine WX.yld rfl rfl (blt rfl) rfl (Y.assign rfl rfl) ?_
      refine WX.nil ⟨xW, hl25, hl39⟩ ?_
      refine WK.in_normal ?_
      refine WK.then_normal (k30 _ _ ?_)
      refine WC.sub [(5, _), (6, _), (7, _)] ⟨rfl, rfl, rfl, trivial⟩ ?_
      refine WC.region rfl ?_
      refine WL.yld rfl (blt rfl) rfl (Y.move rfl rfl) ?_
      refine WL.yld rfl (blt rfl) rfl (Y.add rfl rfl rfl (wrap_i64 (by first | omega | (dsimp only; omega)))) ?_
      refine WL.yld rfl (blt rfl) rfl (Y.assign rfl rfl) ?_
      refine WL.nil ?_
      refine WK.roundS _ [(7, .int .i64 (((i + 1) : Nat) : Int)), (5, v54)] ⟨rfl, rfl, rfl, trivial⟩ ?_ ⟨(i + 1), v54, rfl, rfl, xW, ow17, (by rw [Sp.marks_take (show i < (([] ++ a) ++ b).length from by omega), if_pos h35]; exact ow55), d_v15_v54.symm, (by omega)⟩
      show _ - (i + 1) < _ - i; omega
    ·
      refine WC.skip ?_
      refine WK.in_normal ?_
      refine WK.then_normal (k30 _ _ ?_)
      refine WC.sub [(5, _), (6, _), (7, _)] ⟨rfl, rfl, rfl, trivial⟩ ?_
      refine WC.region rfl ?_
      refine WL.yld rfl (blt rfl) rfl (Y.move rfl rfl) ?_
      refine WL.yld rfl (blt rfl) rfl (Y.add rfl rfl rfl (wrap_i64 (by first | omega | (dsimp only; omega)))) ?_
      refine WL.yld rfl (blt rfl) rfl (Y.assign rfl rfl) ?_
      refine WL.nil ?_
      refine WK.roundS _ [(7, .int .i64 (((i + 1) : Nat) : Int)), (5, v)] ⟨rfl, rfl, rfl, trivial⟩ ?_ ⟨(i + 1), v, rfl, rfl, xW, ow17, (by rw [Sp.marks_take (show i < (([] ++ a) ++ b).length from by omega), if_neg (by rw [h35]; exact Bool.false_ne_true)]; exact ow_v), d_v_v15, (by omega)⟩
      show _ - (i + 1) < _ - i; omega
  ·
    have p29 := (dec_f h29)
    refine WC.exit ?_
    refine WK.then_exit ?_
    refine WK.then_exit ?_
    refine WK.in_exit ?_
    refine WK.then_normal (k20 _ _ ?_)
    refine WC.sub [(5, _)] ⟨rfl, trivial⟩ ?_
    refine WC.seq (fun K56 k56 => ?_)
    refine WC.region rfl ?_
    refine WL.yld rfl (blt rfl) rfl (Y.move rfl rfl) ?_
    refine WL.yld rfl (blt rfl) rfl (Y.assign rfl rfl) ?_
    refine WL.nil ?_
    refine WK.then_normal (k56 _ _ ?_)
    refine WC.sub [(4, _)] ⟨rfl, trivial⟩ ?_
    refine WC.ret ?_
    clear k1 k2 k3 k20 k21 k27 k28 k56
    refine WK.ret [_] rfl ⟨rfl, trivial⟩ ?_
    refine ⟨_, rfl, ?_, xW⟩
    rw [List.take_of_length_le (show (([] ++ a) ++ b).length ≤ i from by omega), List.nil_append] at ow_v
    exact ow_v
theorem holds_any (A_a : Option Addr) (n_a c_a : Nat) (a : List Sp.S) (A_b : Option Addr) (n_b c_b : Nat) (b : List Sp.S) (op : Int) (q : Int) (w : World) (h_a : Ls w A_a n_a c_a Sp.S.c 2 a) (h_b : Ls w A_b n_b c_b Sp.S.c 2 b) :
    Calls Try.prog 42 #[.slice A_a n_a c_a, .slice A_b n_b c_b, .int .i64 op, .int .i64 q] w fun e w' => e = .returned (.bool (Sp.kOf op (Sp.cov a q) (Sp.cov b q))) ∧ Ext w w' := by
  have xW := Ext.refl w
  have e_a := h_a.len
  have z_a := h_a.nle
  have e_b := h_b.len
  have z_b := h_b.nle
  refine calls_of_WC (args := [.slice A_a n_a c_a, .slice A_b n_b c_b, .int .i64 op, .int .i64 q]) Try.func42 rfl rfl (ble rfl) ?_
  refine WC.seq (fun K1 k1 => ?_)
  refine WC.region rfl ?_
  refine WL.yld rfl (blt rfl) rfl (Y.assign rfl rfl) ?_
  refine WL.nil ?_
  refine WK.then_normal (k1 _ _ ?_)
  refine WC.sub [(0, _), (1, _), (2, _), (3, _)] ⟨rfl, rfl, rfl, rfl, trivial⟩ ?_
  refine WC.seq (fun K2 k2 => ?_)
  refine WC.region rfl ?_
  refine WL.yld rfl (blt rfl) rfl (Y.move rfl rfl) ?_
  refine WL.yld rfl (blt rfl) rfl (Y.move rfl rfl) ?_
  refine WL.call rfl (blt rfl) rfl rfl rfl has27 rfl (rcovers_any _ _ _ _ _ _ (h_a.ext xW)) ?_
  rintro _ w3 ⟨rfl, x4⟩
  refine ⟨_, rfl, ?_⟩
  have xW := Ext.trans xW x4
  refine WL.yld rfl (blt rfl) rfl (Y.move rfl rfl) ?_
  refine WL.yld rfl (blt rfl) rfl (Y.move rfl rfl) ?_
  refine WL.call rfl (blt rfl) rfl rfl rfl has27 rfl (rcovers_any _ _ _ _ _ _ (h_b.ext xW)) ?_
  rintro _ w5 ⟨rfl, x6⟩
  refine ⟨_, rfl, ?_⟩
  have xW := Ext.trans xW x6
  refine WL.yld rfl (blt rfl) rfl (Y.assign rfl rfl) ?_
  refine WL.yld rfl (blt rfl) rfl (Y.assign rfl rfl) ?_
  refine WL.nil ?_
  refine WK.then_normal (k2 _ _ ?_)
  refine WC.sub [(2, _), (9, _), (10, _)] ⟨rfl, rfl, rfl, trivial⟩ ?_
  refine WC.seq (fun K7 k7 => ?_)
  refine WC.region rfl ?_
  refine WL.yld rfl (blt rfl) rfl (Y.move rfl rfl) ?_
  refine WL.yld rfl (blt rfl) rfl (Y.eql rfl rfl rfl) ?_
  refine WL.yld rfl (blt rfl) rfl (Y.move rfl rfl) ?_
  refine WL.yldG rfl (blt rfl) rfl rfl rfl (fun hb => Y.move rfl rfl) ?_
  refine WL.yldG rfl (blt rfl) rfl rfl rfl (fun hb => Y.move rfl (evg rfl hb)) ?_
  refine WL.yldGs [(_, _)] rfl (blt rfl) rfl rfl rfl (fun hb => Y.move rfl rfl) ?_
  refine WL.yldG rfl (blt rfl) rfl rfl rfl (fun hb => Y.or rfl (evg rfl hb) rfl (evg rfl hb)) ?_
  refine WL.yld rfl (blt rfl) rfl (Y.and rfl rfl rfl rfl) ?_
  refine WL.yld rfl (blt rfl) rfl (Y.move rfl rfl) ?_
  refine WL.yldG rfl (blt rfl) rfl rfl rfl (fun hb => Y.move rfl rfl) ?_
  refine WL.yldG rfl (blt rfl) rfl rfl rfl (fun hb => Y.eql rfl (evg rfl hb) rfl) ?_
  refine WL.yldG rfl (blt rfl) rfl rfl rfl (fun hb => Y.move rfl (evg rfl hb)) ?_
  refine WL.yldGs [(_, _)] rfl (blt rfl) rfl rfl rfl (fun hb => Y.move rfl rfl) ?_
  refine WL.yldG rfl (blt rfl) rfl rfl rfl (fun hb => Y.and rfl (evg rfl hb) (evg rfl hb) rfl) ?_
  refine WL.yldG rfl (blt rfl) rfl rfl rfl (fun hb => Y.move rfl (evg rfl hb)) ?_
  refine WL.yldGs [(_, _)] rfl (blt rfl) rfl rfl rfl (fun hb => Y.move rfl rfl) ?_
  refine WL.yldG rfl (blt rfl) rfl rfl rfl (fun hb => Y.and rfl (evg rfl hb) (evg rfl hb) rfl) ?_
  refine WL.yld rfl (blt rfl) rfl (Y.or rfl rfl rfl rfl) ?_
  refine WL.yld rfl (blt rfl) rfl (Y.move rfl rfl) ?_
  refine WL.yldG rfl (blt rfl) rfl rfl rfl (fun hb => Y.move rfl rfl) ?_
  refine WL.yldG rfl (blt rfl) rfl rfl rfl (fun hb => Y.eql rfl (evg rfl hb) rfl) ?_
  refine WL.yldG rfl (blt rfl) rfl rfl rfl (fun hb => Y.move rfl (evg rfl hb)) ?_
  refine WL.yldGs [(_, _)] rfl (blt rfl) rfl rfl rfl (fun hb => Y.move rfl rfl) ?_
  refine WL.yldG rfl (blt rfl) rfl rfl rfl (fun hb => Y.and rfl (evg rfl hb) (evg rfl hb) rfl) ?_
  refine WL.yldG rfl (blt rfl) rfl rfl rfl (fun hb => Y.move rfl (evg rfl hb)) ?_
  refine WL.yldGs [(_, _)] rfl (blt rfl) rfl rfl rfl (fun hb => Y.move rfl rfl) ?_
  refine WL.yldGs [(_, _)] rfl (blt rfl) rfl rfl rfl (fun hb => Y.not rfl (evg (evg rfl hb.1) hb.2.1)) ?_
  refine WL.yldG rfl (blt rfl) rfl rfl rfl (fun hb => Y.and rfl (evg rfl hb) (evg rfl hb) rfl) ?_
  refine WL.yld rfl (blt rfl) rfl (Y.or rfl rfl rfl rfl) ?_
  refine WL.yld rfl (blt rfl) rfl (Y.assign rfl rfl) ?_
  refine WL.nil ?_
  refine WK.then_normal (k7 _ _ ?_)
  refine WC.sub [(8, _)] ⟨rfl, trivial⟩ ?_
  refine WC.ret ?_
  clear k1 k2 k7
  refine WK.ret [_] rfl ⟨rfl, trivial⟩ ?_
  exact ⟨rfl, xW⟩
theorem rcomb_any (A_a : Option Addr) (n_a c_a : Nat) (a : List Sp.S) (A_b : Option Addr) (n_b c_b : Nat) (b : List Sp.S) (op : Int) (w : World) (h_a : Ls w A_a n_a c_a Sp.S.c 2 a) (h_b : Ls w A_b n_b c_b Sp.S.c 2 b) (ha : n_a ≤ 10000) (hb : n_b ≤ 10000) :
    Calls Try.prog 31 #[.slice A_a n_a c_a, .slice A_b n_b c_b, .int .i64 op] w fun e w' => ∃ v, e = .returned v ∧ OwnL w' w.heap.size 27 Sp.S.c 2 v (Sp.comb (Sp.kOf op) a b) ∧ Ext w w' := by
  have xW := Ext.refl w
  have e_a := h_a.len
  have z_a := h_a.nle
  have e_b := h_b.len
  have z_b := h_b.nle
  have ml := Sp.marks_len (a ++ b)
  rw [List.length_append] at ml
  refine calls_of_WC (args := [.slice A_a n_a c_a, .slice A_b n_b c_b, .int .i64 op]) Try.func31 rfl rfl (ble rfl) ?_
  refine WC.seq (fun K1 k1 => ?_)
  refine WC.region rfl ?_
  refine WL.yld rfl (blt rfl) rfl (Y.assign rfl rfl) ?_
  refine WL.nil ?_
  refine WK.then_normal (k1 _ _ ?_)
  refine WC.sub [(0, _), (1, _), (2, _)] ⟨rfl, rfl, rfl, trivial⟩ ?_
  refine WC.seq (fun K2 k2 => ?_)
  refine WC.region rfl ?_
  refine WL.yld rfl (blt rfl) rfl (Y.assign rfl rfl) ?_
  refine WL.nil ?_
  refine WK.then_normal (k2 _ _ ?_)
  refine WC.seq (fun K3 k3 => ?_)
  refine WC.region rfl ?_
  refine WL.yld rfl (blt rfl) rfl (Y.move rfl rfl) ?_
  refine WL.yld rfl (blt rfl) rfl (Y.move rfl rfl) ?_
  refine WL.call rfl (blt rfl) rfl rfl rfl has41 rfl (ends_any _ _ _ _ _ _ _ _ _ (h_a.ext xW) (h_b.ext xW) (by omega) (by omega)) ?_
  rintro _ w4 ⟨v6, rfl, ow7, x5⟩
  refine ⟨_, rfl, ?_⟩
  have ow7 := OwnL.base_le ow7 xW.size
  have xW := Ext.trans xW x5
  refine WL.yld rfl (blt rfl) rfl (Y.assign rfl rfl) ?_
  refine WL.nil ?_
  refine WK.then_normal (k3 _ _ ?_)
  refine WC.sub [(0, _), (1, _), (2, _), (7, _), (8, _)] ⟨rfl, rfl, rfl, rfl, rfl, trivial⟩ ?_
  refine WC.seq (fun K8 k8 => ?_)
  refine WC.seq (fun K9 k9 => ?_)
  refine WC.region rfl ?_
  refine WL.yld rfl (blt rfl) rfl (Y.assign rfl rfl) ?_
  refine WL.nil ?_
  refine WK.then_normal (k9 _ _ ?_)
  refine WC.block ?_
  obtain ⟨A10, n11, c12, rfl, hl13⟩ := OwnL.opened ow7 (fun _ => rfl) (by decide)
  have e_n11 := hl13.len
  try simp only [List.length_append, List.length_cons, List.length_nil, List.length_reverse, List.length_drop, List.length_take] at e_n11
  have z_n11 := hl13.nle
  refine WC.sub [(9, _), (7, _), (0, _), (1, _), (2, _), (8, _)] ⟨rfl, rfl, rfl, rfl, rfl, rfl, trivial⟩ ?_
  refine WC.loopS 2 (fun mz Ed W' => ∃ i : Nat, ∃ v : Value, mz = n11 - i ∧ Ed = [(9, .int .i64 ((i : Nat) : Int)), (7, v)] ∧ Ext w W' ∧ OwnL W' w.heap.size 3 Sp.ic 1 (.slice A10 n11 c12) _ ∧ OwnL W' w.heap.size 27 Sp.S.c 2 v (Sp.rjoin (Sp.kOf op) a b (Sp.marks (a ++ b)) i) ∧ Apart v (.slice A10 n11 c12) ∧ (i ≤ n11 - 1)) _ ⟨0, _, rfl, rfl, xW, ow7, OwnL.nil_, Apart.nil_l, (Nat.zero_le _)⟩ ?_
  rintro _ _ w14 ⟨i, v, rfl, rfl, xW, ow7, ow_v, d_v_v6, le_i⟩
  refine WC.sub [(9, _), (7, _), (0, _), (1, _), (2, _), (8, _)] ⟨rfl, rfl, rfl, rfl, rfl, rfl, trivial⟩ ?_
  have hl13 := OwnL.ls ow7 (fun _ => rfl) (by decide)
  refine WC.seq (fun K15 k15 => ?_)
  refine WC.seq (fun K16 k16 => ?_)
  refine WC.region rfl ?_
  refine WL.yld rfl (blt rfl) rfl (Y.move rfl rfl) ?_
  refine WL.yld rfl (blt rfl) rfl (Y.add rfl rfl rfl (wrap_i64 (by first | omega | (dsimp only; omega)))) ?_
  refine WL.yld rfl (blt rfl) rfl (Y.move rfl rfl) ?_
  refine WL.yld rfl (blt rfl) rfl (Y.lenSl rfl rfl rfl Try.underlying32 rfl) ?_
  refine WL.yld rfl (blt rfl) rfl (Y.lss rfl rfl rfl) ?_
  refine WL.nil ?_
  refine WK.then_normal (k16 _ _ ?_)
  refine WC.sub [(0, _), (1, _), (2, _), (7, _), (8, _), (9, _), (18, _)] ⟨rfl, rfl, rfl, rfl, rfl, rfl, rfl, trivial⟩ ?_
  refine WC.cond rfl (fun h17 => ?_) (fun h17 => ?_)
  ·
    have p17 := (dec_t h17)
    refine WC.skip ?_
    refine WK.then_normal (k15 _ _ ?_)
    refine WC.sub [(0, _), (1, _), (2, _), (7, _), (8, _), (9, _)] ⟨rfl, rfl, rfl, rfl, rfl, rfl, trivial⟩ ?_
    refine WC.seq (fun K18 k18 => ?_)
    refine WC.block ?_
    refine WC.seq (fun K19 k19 => ?_)
    refine WC.seq (fun K20 k20 => ?_)
    refine WC.region rfl ?_
    refine WL.yld rfl (blt rfl) rfl (Y.move rfl rfl) ?_
    refine WL.yld rfl (blt rfl) rfl (Y.move rfl rfl) ?_
    refine WL.yld rfl (blt rfl) rfl (Y.move rfl rfl) ?_
    refine WL.yld rfl (blt rfl) rfl (Y.move rfl rfl) ?_
    refine WL.yld rfl (blt rfl) rfl (Y.move rfl rfl) ?_
    have b21 : i < n11 := by omega
    refine WL.yld rfl (blt rfl) rfl (Y.indexLs i hl13 rfl Try.underlying32 ti3 rfl rfl rfl b21) ?_
    refine WL.yld rfl (blt rfl) rfl (Y.load1 rfl Try.underlying3 rfl rfl (Ls.at_eq hl13 b21 rfl)) ?_
    refine WL.call rfl (blt rfl) rfl rfl rfl has42 rfl (holds_any _ _ _ _ _ _ _ _ _ _ _ (h_a.ext xW) (h_b.ext xW)) ?_
    rintro _ w22 ⟨rfl, x23⟩
    refine ⟨_, rfl, ?_⟩
    have ow7 := ow7.ext x23
    have hl13 := hl13.ext x23
    have ow_v := ow_v.ext x23
    have xW := Ext.trans xW x23
    refine WL.yld rfl (blt rfl) rfl (Y.not rfl rfl) ?_
    refine WL.nil ?_
    refine WK.then_normal (k20 _ _ ?_)
    refine WC.sub [(0, _), (1, _), (2, _), (7, _), (8, _), (9, _), (29, _)] ⟨rfl, rfl, rfl, rfl, rfl, rfl, rfl, trivial⟩ ?_
    refine WC.cond rfl (fun h24 => ?_) (fun h24 => ?_)
    ·
      refine WC.exit ?_
      refine WK.then_exit ?_
      refine WK.in_exit ?_
      refine WK.then_normal (k18 _ _ ?_)
      refine WC.sub [(0, _), (1, _), (2, _), (7, _), (8, _), (9, _)] ⟨rfl, rfl, rfl, rfl, rfl, rfl, trivial⟩ ?_
      refine WC.region rfl ?_
      refine WL.yld rfl (blt rfl) rfl (Y.move rfl rfl) ?_
      refine WL.yld rfl (blt rfl) rfl (Y.add rfl rfl rfl (wrap_i64 (by first | omega | (dsimp only; omega)))) ?_
      refine WL.yld rfl (blt rfl) rfl (Y.assign rfl rfl) ?_
      refine WL.nil ?_
      refine WK.roundS _ [(9, .int .i64 (((i + 1) : Nat) : Int)), (7, v)] ⟨rfl, rfl, rfl, rfl, rfl, rfl, trivial⟩ ?_ ⟨(i + 1), v, rfl, rfl, xW, ow7, (by rw [Sp.rj_no h24]; exact ow_v), d_v_v6, (by omega)⟩
      show _ - (i + 1) < _ - i; omega
    ·
      refine WC.skip ?_
      refine WK.then_normal (k19 _ _ ?_)
      refine WC.sub [(0, _), (1, _), (2, _), (7, _), (8, _), (9, _)] ⟨rfl, rfl, rfl, rfl, rfl, rfl, trivial⟩ ?_
      refine WC.seq (fun K25 k25 => ?_)
      refine WC.region rfl ?_
      refine WL.yld rfl (blt rfl) rfl (Y.move rfl rfl) ?_
      obtain ⟨A26, n27, c28, rfl, hl29⟩ := OwnL.opened ow_v (fun _ => rfl) (by decide)
      have e_n27 := hl29.len
      try simp only [List.length_append, List.length_cons, List.length_nil, List.length_reverse, List.length_drop, List.length_take] at e_n27
      have z_n27 := hl29.nle
      refine WL.yld rfl (blt rfl) rfl (Y.lenSl rfl rfl rfl Try.underlying22 rfl) ?_
      refine WL.yld rfl (blt rfl) rfl (Y.sub rfl rfl rfl (wrap_i64 (by first | omega | (dsimp only; omega)))) ?_
      refine WL.yld rfl (blt rfl) rfl (Y.assign rfl rfl) ?_
      refine WL.nil ?_
      refine WK.then_normal (k25 _ _ ?_)
      refine WC.sub [(0, _), (1, _), (2, _), (7, _), (8, _), (9, _), (10, _)] ⟨rfl, rfl, rfl, rfl, rfl, rfl, rfl, trivial⟩ ?_
      refine WC.seq (fun K30 k30 => ?_)
      refine WC.regionDq (by kernel_rfl) (by kernel_rfl) rfl ?_
      refine WQ.yld rfl (blt rfl) rfl (Y.move rfl rfl) ?_
      refine WQ.yld rfl (blt rfl) rfl (Y.geq rfl rfl rfl) ?_
      refine WQ.yld rfl (blt rfl) rfl (Y.move rfl rfl) ?_
      refine WQ.yldG rfl (blt rfl) rfl rfl rfl (fun hb => Y.move rfl rfl) ?_
      refine WQ.yldG rfl (blt rfl) rfl rfl rfl (fun hb => Y.move rfl rfl) ?_
      refine WQ.yldG rfl (blt rfl) rfl rfl rfl (fun hb => Y.indexLs (n27 - 1) hl29 rfl Try.underlying22 ti27 (evg rfl hb) (evg rfl hb) (by have q0 := (dec_t hb); omega) (by have q0 := (dec_t hb); omega)) ?_
      refine WQ.yldG rfl (blt rfl) rfl rfl rfl (fun hb => Y.fieldE rfl Try.underlying27 rfl ti3 (by decide) (evg rfl hb)) ?_
      refine WQ.yldG rfl (blt rfl) rfl rfl rfl (fun hb => Y.load1 rfl Try.underlying3 rfl (evg rfl hb) (Ls.at_ext hl29 (by have q0 := (dec_t hb); omega) rfl)) ?_
      refine WQ.yldG rfl (blt rfl) rfl rfl rfl (fun hb => Y.move rfl rfl) ?_
      refine WQ.yldG rfl (blt rfl) rfl rfl rfl (fun hb => Y.move rfl rfl) ?_
      refine WQ.yldG rfl (blt rfl) rfl rfl rfl (fun hb => Y.indexLs i hl13 rfl Try.underlying32 ti3 (evg rfl hb) (evg rfl hb) rfl (by have q0 := (dec_t hb); omega)) ?_
      refine WQ.yldG rfl (blt rfl) rfl rfl rfl (fun hb => Y.load1 rfl Try.underlying3 rfl (evg rfl hb) (Ls.at_ext hl13 (by have q0 := (dec_t hb); omega) rfl)) ?_
      refine WQ.yldG rfl (blt rfl) rfl rfl rfl (fun hb => Y.eql rfl (evg rfl hb) (evg rfl hb)) ?_
      refine WQ.yld rfl (blt rfl) rfl (Y.and rfl rfl rfl rfl) ?_
      refine WQ.done (fun w31 x32 => ?_)
      have ow7 := ow7.ext x32
      have hl13 := hl13.ext x32
      have ow_v := ow_v.ext x32
      have hl29 := hl29.ext x32
      have xW := Ext.trans xW x32
      refine WK.then_normal (k30 _ _ ?_)
      refine WC.sub [(0, _), (1, _), (2, _), (7, _), (8, _), (9, _), (10, _), (46, _)] ⟨rfl, rfl, rfl, rfl, rfl, rfl, rfl, rfl, trivial⟩ ?_
      refine WC.cond rfl (fun h33 => ?_) (fun h33 => ?_)
      ·
        have p33 := (And.intro (dec_t (and_t h33).1) (eq_t (and_t h33).2))
        refine WC.region rfl ?_
        refine WL.yld rfl (blt rfl) rfl (Y.move rfl rfl) ?_
        refine WL.yld rfl (blt rfl) rfl (Y.move rfl rfl) ?_
        refine WL.yld rfl (blt rfl) rfl (Y.move rfl rfl) ?_
        refine WL.yld rfl (blt rfl) rfl (Y.move rfl rfl) ?_
        refine WL.yld rfl (blt rfl) rfl (Y.add rfl rfl rfl (wrap_i64 (by first | omega | (dsimp only; omega)))) ?_
        have b34 : (i + 1) < n11 := by omega
        refine WL.yld rfl (blt rfl) rfl (Y.indexLs (i + 1) hl13 rfl Try.underlying32 ti3 rfl rfl rfl b34) ?_
        refine WL.yld rfl (blt rfl) rfl (Y.load1 rfl Try.underlying3 rfl rfl (Ls.at_eq hl13 b34 rfl)) ?_
        have b35 : (n27 - 1) < n27 := by omega
        refine WL.yld rfl (blt rfl) rfl (Y.indexLs (n27 - 1) hl29 rfl Try.underlying22 ti27 rfl rfl (by omega) b35) ?_
        refine WL.yld rfl (blt rfl) rfl (Y.fieldE rfl Try.underlying27 rfl ti3 (by decide) rfl) ?_
        refine WL.storeE (k := (n27 - 1)) (off := 1) (f := Sp.S.c) (⟨(Sp.rjoin (Sp.kOf op) a b (Sp.marks (a ++ b)) i)[n27 - 1]!.f, (Sp.marks (a ++ b))[i + 1]!⟩ : Sp.S) rfl rfl rfl rfl rfl rfl ti3 ow_v (fun _ => rfl) b35 (ble rfl) rfl rfl (fun w36 ow37 gr38 => ?_)
        have ow7 := OwnL.grown ow7 gr38 d_v_v6
        have hl13 := OwnL.ls ow7 (fun _ => rfl) (by decide)
        have xW := Ext.grown xW gr38 (fun b hb => (OwnL.lt ow_v hb).1)
        have hl29 := OwnL.ls ow37 (fun _ => rfl) (by decide)
        refine WL.nil ?_
        refine WK.in_normal ?_
        refine WK.then_normal (k18 _ _ ?_)
        refine WC.sub [(0, _), (1, _), (2, _), (7, _), (8, _), (9, _)] ⟨rfl, rfl, rfl, rfl, rfl, rfl, trivial⟩ ?_
        refine WC.region rfl ?_
        refine WL.yld rfl (blt rfl) rfl (Y.move rfl rfl) ?_
        refine WL.yld rfl (blt rfl) rfl (Y.add rfl rfl rfl (wrap_i64 (by first | omega | (dsimp only; omega)))) ?_
        refine WL.yld rfl (blt rfl) rfl (Y.assign rfl rfl) ?_
        refine WL.nil ?_
        refine WK.roundS _ [(9, .int .i64 (((i + 1) : Nat) : Int)), (7, (.slice A26 n27 c28))] ⟨rfl, rfl, rfl, rfl, rfl, rfl, trivial⟩ ?_ ⟨(i + 1), (.slice A26 n27 c28), rfl, rfl, xW, ow7, (by rw [Sp.rj_ext (by omega) h24 h33]; exact ow37), d_v_v6, (by omega)⟩
        show _ - (i + 1) < _ - i; omega
      ·
        have p33 := ((and_f h33).imp (fun h => (dec_f h)) (fun h => (eq_f h)))
        refine WC.regionX (fun W' => Ext w W' ∧ Ls W' A10 n11 c12 Sp.ic 1 _) (.load 0 (.load 1 (.load 2 (.load 3 (.load 4 (.load 5 (.load 6 (.load 7 (.load 8 (.load 9 (.load 10 (.alt 11 (.alt 12 (.load 13 (.fin)) (.none)) (.none))))))))))))) ⟨xW, hl13⟩ (by kernel_rfl) (by kernel_rfl) (fun w39 x40 => ?_)
        have ow7 := ow7.ext x40
        have hl13 := hl13.ext x40
        have ow_v := ow_v.ext x40
        have hl29 := hl29.ext x40
        have xW := Ext.trans xW x40
        refine WX.yld rfl rfl (blt rfl) rfl (Y.move rfl rfl) ?_
        refine WX.yld rfl rfl (blt rfl) rfl (Y.move rfl rfl) ?_
        refine WX.yld rfl rfl (blt rfl) rfl (Y.move rfl rfl) ?_
        have b41 : i < n11 := by omega
        refine WX.yld rfl rfl (blt rfl) rfl (Y.indexLs i hl13 rfl Try.underlying32 ti3 rfl rfl rfl b41) ?_
        refine WX.yld rfl rfl (blt rfl) rfl (Y.load1 rfl Try.underlying3 rfl rfl (Ls.at_c (fun _ h => h.2) b41 rfl)) ?_
        refine WX.yld rfl rfl (blt rfl) rfl (Y.move rfl rfl) ?_
        refine WX.yld rfl rfl (blt rfl) rfl (Y.move rfl rfl) ?_
        refine WX.yld rfl rfl (blt rfl) rfl (Y.add rfl rfl rfl (wrap_i64 (by first | omega | (dsimp only; omega)))) ?_
        have b42 : (i + 1) < n11 := by omega
        refine WX.yld rfl rfl (blt rfl) rfl (Y.indexLs (i + 1) hl13 rfl Try.underlying32 ti3 rfl rfl rfl b42) ?_
        refine WX.yld rfl rfl (blt rfl) rfl (Y.load1 rfl Try.underlying3 rfl rfl (Ls.at_c (fun _ h => h.2) b42 rfl)) ?_
        refine WX.yld rfl rfl (blt rfl) rfl (Y.build (cells := [_, _]) rfl pl27 rfl rfl) ?_
        refine WX.run rfl rfl (blt rfl) rfl ⟨xW, hl13⟩ (Run.bslice (zs := [.int .i64 0, .int .i64 0]) (cs := [_, _]) rfl Try.underlying22 ti27 rfl (ble rfl) (by kernel_rfl) rfl rfl) ?_
        rintro _ w44 ⟨g43, rfl, e45, x46, m47⟩
        have r_v6_g43 := ne_newO ow7 e45
        have r_v_g43 := ne_newO ow_v e45
        have o_g43 := own_new xW e45
        have ow7 := ow7.ext x46
        have hl13 := hl13.ext x46
        have ow_v := ow_v.ext x46
        have hl29 := hl29.ext x46
        have xW := Ext.trans xW x46
        refine WX.run rfl rfl (blt rfl) rfl ⟨xW, hl13⟩ (Run.appendB (f := Sp.S.c) (news := [⟨(Sp.marks (a ++ b))[i]!, (Sp.marks (a ++ b))[i + 1]!⟩]) rfl rfl rfl Try.underlying22 ti27 rfl (by decide) rfl ow_v (fun _ => rfl) Sp.S.one m47 rfl xW.size (by have q0 := Sp.rjoin_len (Sp.kOf op) a b (Sp.marks (a ++ b)) i; first | omega | (simp only [List.length_append, List.length_cons, List.length_nil, List.length_take, List.length_drop, List.length_reverse]; omega)) (Nat.le_trans (show _ ≤ 140737488355328 from by have q0 := Sp.rjoin_len (Sp.kOf op) a b (Sp.marks (a ++ b)) i; first | omega | (simp only [List.length_append, List.length_cons, List.length_nil, List.length_take, List.length_drop, List.length_reverse]; omega)) (by decide)) ) ?_
        rintro v48 w49 ⟨ow50, gr51, nb52⟩
        have d_v48_v6 := (Apart.app d_v_v6 nb52 ow7)
        have ow7 := OwnL.grown ow7 gr51 d_v_v6
        have hl13 := OwnL.ls ow7 (fun _ => rfl) (by decide)
        have r_v48_g43 := ne_app nb52 r_v_g43 m47
        have m47 := m47.grown gr51 r_v_g43
        have xW := Ext.grown xW gr51 (fun b hb => (OwnL.lt ow_v hb).1)
        refine WX.yld rfl rfl (blt rfl) rfl (Y.assign rfl rfl) ?_
        refine WX.nil ⟨xW, hl13⟩ ?_
        refine WK.in_normal ?_
        refine WK.then_normal (k18 _ _ ?_)
        refine WC.sub [(0, _), (1, _), (2, _), (7, _), (8, _), (9, _)] ⟨rfl, rfl, rfl, rfl, rfl, rfl, trivial⟩ ?_
        refine WC.region rfl ?_
        refine WL.yld rfl (blt rfl) rfl (Y.move rfl rfl) ?_
        refine WL.yld rfl (blt rfl) rfl (Y.add rfl rfl rfl (wrap_i64 (by first | omega | (dsimp only; omega)))) ?_
        refine WL.yld rfl (blt rfl) rfl (Y.assign rfl rfl) ?_
        refine WL.nil ?_
        refine WK.roundS _ [(9, .int .i64 (((i + 1) : Nat) : Int)), (7, v48)] ⟨rfl, rfl, rfl, rfl, rfl, rfl, trivial⟩ ?_ ⟨(i + 1), v48, rfl, rfl, xW, ow7, (by rw [Sp.rj_new (by omega) h24 h33]; exact ow50), d_v48_v6, (by omega)⟩
        show _ - (i + 1) < _ - i; omega
  ·
    have p17 := (dec_f h17)
    refine WC.exit ?_
    refine WK.then_exit ?_
    refine WK.then_exit ?_
    refine WK.in_exit ?_
    refine WK.then_normal (k8 _ _ ?_)
    refine WC.sub [(7, _)] ⟨rfl, trivial⟩ ?_
    refine WC.seq (fun K53 k53 => ?_)
    refine WC.region rfl ?_
    refine WL.yld rfl (blt rfl) rfl (Y.move rfl rfl) ?_
    refine WL.yld rfl (blt rfl) rfl (Y.assign rfl rfl) ?_
    refine WL.nil ?_
    refine WK.then_normal (k53 _ _ ?_)
    refine WC.sub [(6, _)] ⟨rfl, trivial⟩ ?_
    refine WC.ret ?_
    clear k1 k2 k3 k8 k9 k15 k16 k53
    refine WK.ret [_] rfl ⟨rfl, trivial⟩ ?_
    refine ⟨_, rfl, ?_, xW⟩
    rw [show i = (Sp.marks (a ++ b)).length - 1 from by omega, Sp.rjoin_all] at ow_v
    exact ow_v
theorem rnormal_any (A_l : Option Addr) (n_l c_l : Nat) (l : List Sp.S) (w : World) (h_l : Ls w A_l n_l c_l Sp.S.c 2 l) (hn : n_l ≤ 10000) :
    Calls Try.prog 15 #[.slice A_l n_l c_l] w fun e w' => ∃ v, e = .returned v ∧ OwnL w' w.heap.size 27 Sp.S.c 2 v (Sp.norm l) ∧ Ext w w' := by
  have xW := Ext.refl w
  have e_l := h_l.len
  have z_l := h_l.nle
  refine calls_of_WC (args := [.slice A_l n_l c_l]) Try.func15 rfl rfl (ble rfl) ?_
  refine WC.seq (fun K1 k1 => ?_)
  refine WC.region rfl ?_
  refine WL.yld rfl (blt rfl) rfl (Y.assign rfl rfl) ?_
  refine WL.nil ?_
  refine WK.then_normal (k1 _ _ ?_)
  refine WC.sub [(0, _)] ⟨rfl, trivial⟩ ?_
  refine WC.seq (fun K2 k2 => ?_)
  refine WC.region rfl ?_
  refine WL.yld rfl (blt rfl) rfl (Y.move rfl rfl) ?_
  refine WL.call rfl (blt rfl) rfl rfl rfl has31 rfl (rcomb_any _ _ _ _ _ _ _ _ _ _ (h_l.ext xW) (Ls.nil (by decide)) (by omega) (by omega)) ?_
  rintro _ w3 ⟨v5, rfl, ow6, x4⟩
  refine ⟨_, rfl, ?_⟩
  have ow6 := OwnL.base_le ow6 xW.size
  have xW := Ext.trans xW x4
  refine WL.yld rfl (blt rfl) rfl (Y.assign rfl rfl) ?_
  refine WL.nil ?_
  refine WK.then_normal (k2 _ _ ?_)
  refine WC.sub [(2, _)] ⟨rfl, trivial⟩ ?_
  refine WC.ret ?_
  clear k1 k2
  refine WK.ret [_] rfl ⟨rfl, trivial⟩ ?_
  refine ⟨_, rfl, ?_, xW⟩
  rw [Sp.kOf1, ← Sp.norm_comb] at ow6
  exact ow6
theorem runion_any (A_a : Option Addr) (n_a c_a : Nat) (a : List Sp.S) (A_b : Option Addr) (n_b c_b : Nat) (b : List Sp.S) (w : World) (h_a : Ls w A_a n_a c_a Sp.S.c 2 a) (h_b : Ls w A_b n_b c_b Sp.S.c 2 b) (ha : n_a ≤ 10000) (hb : n_b ≤ 10000) :
    Calls Try.prog 21 #[.slice A_a n_a c_a, .slice A_b n_b c_b] w fun e w' => ∃ v, e = .returned v ∧ OwnL w' w.heap.size 27 Sp.S.c 2 v (Sp.norm (a ++ b)) ∧ Ext w w' := by
  have xW := Ext.refl w
  have e_a := h_a.len
  have z_a := h_a.nle
  have e_b := h_b.len
  have z_b := h_b.nle
  refine calls_of_WC (args := [.slice A_a n_a c_a, .slice A_b n_b c_b]) Try.func21 rfl rfl (ble rfl) ?_
  refine WC.seq (fun K1 k1 => ?_)
  refine WC.region rfl ?_
  refine WL.yld rfl (blt rfl) rfl (Y.assign rfl rfl) ?_
  refine WL.nil ?_
  refine WK.then_normal (k1 _ _ ?_)
  refine WC.sub [(0, _), (1, _)] ⟨rfl, rfl, trivial⟩ ?_
  refine WC.seq (fun K2 k2 => ?_)
  refine WC.region rfl ?_
  refine WL.yld rfl (blt rfl) rfl (Y.move rfl rfl) ?_
  refine WL.yld rfl (blt rfl) rfl (Y.move rfl rfl) ?_
  refine WL.call rfl (blt rfl) rfl rfl rfl has31 rfl (rcomb_any _ _ _ _ _ _ _ _ _ _ (h_a.ext xW) (h_b.ext xW) (by omega) (by omega)) ?_
  rintro _ w3 ⟨v5, rfl, ow6, x4⟩
  refine ⟨_, rfl, ?_⟩
  have ow6 := OwnL.base_le ow6 xW.size
  have xW := Ext.trans xW x4
  refine WL.yld rfl (blt rfl) rfl (Y.assign rfl rfl) ?_
  refine WL.nil ?_
  refine WK.then_normal (k2 _ _ ?_)
  refine WC.sub [(4, _)] ⟨rfl, trivial⟩ ?_
  refine WC.ret ?_
  clear k1 k2
  refine WK.ret [_] rfl ⟨rfl, trivial⟩ ?_
  refine ⟨_, rfl, ?_, xW⟩
  rw [Sp.kOf1, ← Sp.union_comb] at ow6
  exact ow6
theorem rmeet_any (A_a : Option Addr) (n_a c_a : Nat) (a : List Sp.S) (A_b : Option Addr) (n_b c_b : Nat) (b : List Sp.S) (w : World) (h_a : Ls w A_a n_a c_a Sp.S.c 2 a) (h_b : Ls w A_b n_b c_b Sp.S.c 2 b) (ha : n_a ≤ 10000) (hb : n_b ≤ 10000) :
    Calls Try.prog 23 #[.slice A_a n_a c_a, .slice A_b n_b c_b] w fun e w' => ∃ v, e = .returned v ∧ OwnL w' w.heap.size 27 Sp.S.c 2 v (Sp.comb Sp.both a b) ∧ Ext w w' := by
  have xW := Ext.refl w
  have e_a := h_a.len
  have z_a := h_a.nle
  have e_b := h_b.len
  have z_b := h_b.nle
  refine calls_of_WC (args := [.slice A_a n_a c_a, .slice A_b n_b c_b]) Try.func23 rfl rfl (ble rfl) ?_
  refine WC.seq (fun K1 k1 => ?_)
  refine WC.region rfl ?_
  refine WL.yld rfl (blt rfl) rfl (Y.assign rfl rfl) ?_
  refine WL.nil ?_
  refine WK.then_normal (k1 _ _ ?_)
  refine WC.sub [(0, _), (1, _)] ⟨rfl, rfl, trivial⟩ ?_
  refine WC.seq (fun K2 k2 => ?_)
  refine WC.region rfl ?_
  refine WL.yld rfl (blt rfl) rfl (Y.move rfl rfl) ?_
  refine WL.yld rfl (blt rfl) rfl (Y.move rfl rfl) ?_
  refine WL.call rfl (blt rfl) rfl rfl rfl has31 rfl (rcomb_any _ _ _ _ _ _ _ _ _ _ (h_a.ext xW) (h_b.ext xW) (by omega) (by omega)) ?_
  rintro _ w3 ⟨v5, rfl, ow6, x4⟩
  refine ⟨_, rfl, ?_⟩
  have ow6 := OwnL.base_le ow6 xW.size
  have xW := Ext.trans xW x4
  refine WL.yld rfl (blt rfl) rfl (Y.assign rfl rfl) ?_
  refine WL.nil ?_
  refine WK.then_normal (k2 _ _ ?_)
  refine WC.sub [(4, _)] ⟨rfl, trivial⟩ ?_
  refine WC.ret ?_
  clear k1 k2
  refine WK.ret [_] rfl ⟨rfl, trivial⟩ ?_
  refine ⟨_, rfl, ?_, xW⟩
  rw [Sp.kOf2] at ow6
  exact ow6
theorem rminus_any (A_a : Option Addr) (n_a c_a : Nat) (a : List Sp.S) (A_b : Option Addr) (n_b c_b : Nat) (b : List Sp.S) (w : World) (h_a : Ls w A_a n_a c_a Sp.S.c 2 a) (h_b : Ls w A_b n_b c_b Sp.S.c 2 b) (ha : n_a ≤ 10000) (hb : n_b ≤ 10000) :
    Calls Try.prog 25 #[.slice A_a n_a c_a, .slice A_b n_b c_b] w fun e w' => ∃ v, e = .returned v ∧ OwnL w' w.heap.size 27 Sp.S.c 2 v (Sp.comb Sp.first a b) ∧ Ext w w' := by
  have xW := Ext.refl w
  have e_a := h_a.len
  have z_a := h_a.nle
  have e_b := h_b.len
  have z_b := h_b.nle
  refine calls_of_WC (args := [.slice A_a n_a c_a, .slice A_b n_b c_b]) Try.func25 rfl rfl (ble rfl) ?_
  refine WC.seq (fun K1 k1 => ?_)
  refine WC.region rfl ?_
  refine WL.yld rfl (blt rfl) rfl (Y.assign rfl rfl) ?_
  refine WL.nil ?_
  refine WK.then_normal (k1 _ _ ?_)
  refine WC.sub [(0, _), (1, _)] ⟨rfl, rfl, trivial⟩ ?_
  refine WC.seq (fun K2 k2 => ?_)
  refine WC.region rfl ?_
  refine WL.yld rfl (blt rfl) rfl (Y.move rfl rfl) ?_
  refine WL.yld rfl (blt rfl) rfl (Y.move rfl rfl) ?_
  refine WL.call rfl (blt rfl) rfl rfl rfl has31 rfl (rcomb_any _ _ _ _ _ _ _ _ _ _ (h_a.ext xW) (h_b.ext xW) (by omega) (by omega)) ?_
  rintro _ w3 ⟨v5, rfl, ow6, x4⟩
  refine ⟨_, rfl, ?_⟩
  have ow6 := OwnL.base_le ow6 xW.size
  have xW := Ext.trans xW x4
  refine WL.yld rfl (blt rfl) rfl (Y.assign rfl rfl) ?_
  refine WL.nil ?_
  refine WK.then_normal (k2 _ _ ?_)
  refine WC.sub [(4, _)] ⟨rfl, trivial⟩ ?_
  refine WC.ret ?_
  clear k1 k2
  refine WK.ret [_] rfl ⟨rfl, trivial⟩ ?_
  refine ⟨_, rfl, ?_, xW⟩
  rw [Sp.kOf3] at ow6
  exact ow6
theorem length_any (A_l : Option Addr) (n_l c_l : Nat) (l : List Sp.S) (w : World) (h_l : Ls w A_l n_l c_l Sp.S.c 2 l) (hn : n_l ≤ 10000) :
    Calls Try.prog 18 #[.slice A_l n_l c_l] w fun e w' => e = .returned (.int .i64 (Sp.lenF l)) ∧ Ext w w' := by
  have xW := Ext.refl w
  have e_l := h_l.len
  have z_l := h_l.nle
  have nl := Sp.norm_len l
  refine calls_of_WC (args := [.slice A_l n_l c_l]) Try.func18 rfl rfl (ble rfl) ?_
  refine WC.seq (fun K1 k1 => ?_)
  refine WC.region rfl ?_
  refine WL.yld rfl (blt rfl) rfl (Y.assign rfl rfl) ?_
  refine WL.nil ?_
  refine WK.then_normal (k1 _ _ ?_)
  refine WC.sub [(0, _)] ⟨rfl, trivial⟩ ?_
  refine WC.seq (fun K2 k2 => ?_)
  refine WC.region rfl ?_
  refine WL.yld rfl (blt rfl) rfl (Y.assign rfl rfl) ?_
  refine WL.nil ?_
  refine WK.then_normal (k2 _ _ ?_)
  refine WC.seq (fun K3 k3 => ?_)
  refine WC.seq (fun K4 k4 => ?_)
  refine WC.region rfl ?_
  refine WL.yld rfl (blt rfl) rfl (Y.move rfl rfl) ?_
  refine WL.call rfl (blt rfl) rfl rfl rfl has14 rfl (normal_any _ _ _ _ _ (h_l.ext xW) (by omega)) ?_
  rintro _ w5 ⟨v7, rfl, ow8, x6⟩
  refine ⟨_, rfl, ?_⟩
  have ow8 := OwnL.base_le ow8 xW.size
  have xW := Ext.trans xW x6
  obtain ⟨A9, n10, c11, rfl, hl12⟩ := OwnL.opened ow8 (fun _ => rfl) (by decide)
  have e_n10 := hl12.len
  try simp only [List.length_append, List.length_cons, List.length_nil, List.length_reverse, List.length_drop, List.length_take] at e_n10
  have z_n10 := hl12.nle
  refine WL.yld rfl (blt rfl) rfl (Y.lenSl rfl rfl rfl Try.underlying22 rfl) ?_
  refine WL.yld rfl (blt rfl) rfl (Y.move rfl rfl) ?_
  refine WL.nil ?_
  refine WK.then_normal (k4 _ _ ?_)
  refine WC.sub [(3, _), (7, _), (8, _), (9, _)] ⟨rfl, rfl, rfl, rfl, trivial⟩ ?_
  refine WC.block ?_
  refine WC.sub [(9, _), (3, _), (7, _), (8, _)] ⟨rfl, rfl, rfl, rfl, trivial⟩ ?_
  refine WC.loopS 2 (fun mz Ed W' => ∃ i : Nat, ∃ z : Int, mz = n10 - i ∧ Ed = [(9, .int .i64 ((i : Nat) : Int)), (3, .int .i64 z)] ∧ Ext w W' ∧ OwnL W' w.heap.size 27 Sp.S.c 2 (.slice A9 n10 c11) _ ∧ (i ≤ n10) ∧ (z = Sp.len ((Sp.norm l).take i))) _ ⟨0, _, rfl, rfl, xW, ow8, (Nat.zero_le _), rfl⟩ ?_
  rintro _ _ w13 ⟨i, z, rfl, rfl, xW, ow8, le_i, zi⟩
  refine WC.sub [(9, _), (3, _), (7, _), (8, _)] ⟨rfl, rfl, rfl, rfl, trivial⟩ ?_
  have hl12 := OwnL.ls ow8 (fun _ => rfl) (by decide)
  refine WC.seq (fun K14 k14 => ?_)
  refine WC.region rfl ?_
  refine WL.yld rfl (blt rfl) rfl (Y.lss rfl rfl rfl) ?_
  refine WL.nil ?_
  refine WK.then_normal (k14 _ _ ?_)
  refine WC.seq (fun K15 k15 => ?_)
  refine WC.cond rfl (fun h16 => ?_) (fun h16 => ?_)
  ·
    have p16 := (dec_t h16)
    have zr := Sp.len_take_rng (Sp.norm_norm l).1 i
    rw [← zi] at zr
    have ox := (Sp.ok_iff _).1 ((Sp.norm_norm l).1 _ (bang_mem (show i < (Sp.norm l).length from by omega)))
    refine WC.skip ?_
    refine WK.then_normal (k15 _ _ ?_)
    refine WC.sub [(3, _), (7, _), (8, _), (9, _)] ⟨rfl, rfl, rfl, rfl, trivial⟩ ?_
    refine WC.seq (fun K17 k17 => ?_)
    refine WC.block ?_
    refine WC.seq (fun K18 k18 => ?_)
    refine WC.region rfl ?_
    have b19 : i < n10 := by omega
    refine WL.yld rfl (blt rfl) rfl (Y.indexLs i hl12 rfl Try.underlying22 ti27 rfl rfl rfl b19) ?_
    refine WL.yld rfl (blt rfl) rfl (Y.loadS (cs := [_, _]) rfl Try.underlying27 rfl ti27 rfl (Ls.part_eq hl12 b19 rfl)) ?_
    refine WL.alloc rfl (blt rfl) rfl rfl ti27 rfl ?_
    intro g20 w21 e22 x23 m24
    have r_v7_g20 := ne_newO ow8 e22
    have o_g20 := own_new xW e22
    have ow8 := ow8.ext x23
    have hl12 := hl12.ext x23
    have xW := Ext.trans xW x23
    refine WL.store (cs' := [_, _]) rfl rfl rfl rfl rfl rfl ti27 m24 (ble rfl) rfl rfl (fun w25 on26 m27 => ?_)
    have ow8 := ow8.only r_v7_g20 on26
    have hl12 := OwnL.ls ow8 (fun _ => rfl) (by decide)
    have xW := Ext.only xW on26 o_g20
    refine WL.nil ?_
    refine WK.then_normal (k18 _ _ ?_)
    refine WC.sub [(3, _), (5, _), (7, _), (8, _), (9, _)] ⟨rfl, rfl, rfl, rfl, rfl, trivial⟩ ?_
    refine WC.region rfl ?_
    refine WL.yld rfl (blt rfl) rfl (Y.move rfl rfl) ?_
    refine WL.yld rfl (blt rfl) rfl (Y.fieldAddr rfl Try.underlying27 rfl ti3 (by decide) rfl) ?_
    refine WL.yld rfl (blt rfl) rfl (Y.load1 rfl Try.underlying3 rfl rfl (Blk.at_eq m27 rfl)) ?_
    refine WL.yld rfl (blt rfl) rfl (Y.fieldAddr rfl Try.underlying27 rfl ti3 (by decide) rfl) ?_
    refine WL.yld rfl (blt rfl) rfl (Y.load1 rfl Try.underlying3 rfl rfl (Blk.at_eq m27 rfl)) ?_
    refine WL.yld rfl (blt rfl) rfl (Y.sub rfl rfl rfl (wrap_i64 (by first | omega | (dsimp only; omega)))) ?_
    refine WL.yld rfl (blt rfl) rfl (Y.add rfl rfl rfl (wrap_i64 (by first | omega | (dsimp only; omega)))) ?_
    refine WL.yld rfl (blt rfl) rfl (Y.assign rfl rfl) ?_
    refine WL.nil ?_
    refine WK.in_normal ?_
    refine WK.then_normal (k17 _ _ ?_)
    refine WC.sub [(3, _), (7, _), (8, _), (9, _)] ⟨rfl, rfl, rfl, rfl, trivial⟩ ?_
    refine WC.region rfl ?_
    refine WL.yld rfl (blt rfl) rfl (Y.add rfl rfl rfl (wrap_i64 (by first | omega | (dsimp only; omega)))) ?_
    refine WL.yld rfl (blt rfl) rfl (Y.move rfl rfl) ?_
    refine WL.nil ?_
    refine WK.roundS _ [(9, .int .i64 (((i + 1) : Nat) : Int)), (3, .int .i64 _)] ⟨rfl, rfl, rfl, rfl, trivial⟩ ?_ ⟨(i + 1), _, rfl, rfl, xW, ow8, (by omega), (by rw [Sp.len_take (show i < (Sp.norm l).length from by omega), ← zi] <;> omega)⟩
    show _ - (i + 1) < _ - i; omega
  ·
    have p16 := (dec_f h16)
    refine WC.exit ?_
    refine WK.then_exit ?_
    refine WK.then_exit ?_
    refine WK.in_exit ?_
    refine WK.then_normal (k3 _ _ ?_)
    refine WC.sub [(3, _)] ⟨rfl, trivial⟩ ?_
    refine WC.seq (fun K28 k28 => ?_)
    refine WC.region rfl ?_
    refine WL.yld rfl (blt rfl) rfl (Y.move rfl rfl) ?_
    refine WL.yld rfl (blt rfl) rfl (Y.assign rfl rfl) ?_
    refine WL.nil ?_
    refine WK.then_normal (k28 _ _ ?_)
    refine WC.sub [(2, _)] ⟨rfl, trivial⟩ ?_
    refine WC.ret ?_
    clear k1 k2 k3 k4 k14 k15 k28
    refine WK.ret [_] rfl ⟨rfl, trivial⟩ ?_
    refine ⟨ret1 (vi ?_), xW⟩
    rw [zi, List.take_of_length_le (show (Sp.norm l).length ≤ i from by omega)]; rfl
theorem rlength_any (A_l : Option Addr) (n_l c_l : Nat) (l : List Sp.S) (w : World) (h_l : Ls w A_l n_l c_l Sp.S.c 2 l) (hn : n_l ≤ 10000) :
    Calls Try.prog 19 #[.slice A_l n_l c_l] w fun e w' => e = .returned (.int .i64 (Sp.lenF l)) ∧ Ext w w' := by
  have xW := Ext.refl w
  have e_l := h_l.len
  have z_l := h_l.nle
  have nl := Sp.norm_len l
  refine calls_of_WC (args := [.slice A_l n_l c_l]) Try.func19 rfl rfl (ble rfl) ?_
  refine WC.seq (fun K1 k1 => ?_)
  refine WC.region rfl ?_
  refine WL.yld rfl (blt rfl) rfl (Y.assign rfl rfl) ?_
  refine WL.nil ?_
  refine WK.then_normal (k1 _ _ ?_)
  refine WC.sub [(0, _)] ⟨rfl, trivial⟩ ?_
  refine WC.seq (fun K2 k2 => ?_)
  refine WC.region rfl ?_
  refine WL.yld rfl (blt rfl) rfl (Y.assign rfl rfl) ?_
  refine WL.nil ?_
  refine WK.then_normal (k2 _ _ ?_)
  refine WC.seq (fun K3 k3 => ?_)
  refine WC.region rfl ?_
  refine WL.yld rfl (blt rfl) rfl (Y.move rfl rfl) ?_
  refine WL.call rfl (blt rfl) rfl rfl rfl has15 rfl (rnormal_any _ _ _ _ _ (h_l.ext xW) (by omega)) ?_
  rintro _ w4 ⟨v6, rfl, ow7, x5⟩
  refine ⟨_, rfl, ?_⟩
  have ow7 := OwnL.base_le ow7 xW.size
  have xW := Ext.trans xW x5
  refine WL.yld rfl (blt rfl) rfl (Y.assign rfl rfl) ?_
  refine WL.nil ?_
  refine WK.then_normal (k3 _ _ ?_)
  refine WC.sub [(3, _), (4, _)] ⟨rfl, rfl, trivial⟩ ?_
  refine WC.seq (fun K8 k8 => ?_)
  refine WC.seq (fun K9 k9 => ?_)
  refine WC.region rfl ?_
  refine WL.yld rfl (blt rfl) rfl (Y.assign rfl rfl) ?_
  refine WL.nil ?_
  refine WK.then_normal (k9 _ _ ?_)
  refine WC.block ?_
  obtain ⟨A10, n11, c12, rfl, hl13⟩ := OwnL.opened ow7 (fun _ => rfl) (by decide)
  have e_n11 := hl13.len
  try simp only [List.length_append, List.length_cons, List.length_nil, List.length_reverse, List.length_drop, List.length_take] at e_n11
  have z_n11 := hl13.nle
  refine WC.sub [(5, _), (3, _), (4, _)] ⟨rfl, rfl, rfl, trivial⟩ ?_
  refine WC.loopS 2 (fun mz Ed W' => ∃ i : Nat, ∃ z : Int, mz = n11 - i ∧ Ed = [(5, .int .i64 ((i : Nat) : Int)), (3, .int .i64 z)] ∧ Ext w W' ∧ OwnL W' w.heap.size 27 Sp.S.c 2 (.slice A10 n11 c12) _ ∧ (i ≤ n11) ∧ (z = Sp.len ((Sp.norm l).take i))) _ ⟨0, _, rfl, rfl, xW, ow7, (Nat.zero_le _), rfl⟩ ?_
  rintro _ _ w14 ⟨i, z, rfl, rfl, xW, ow7, le_i, zi⟩
  refine WC.sub [(5, _), (3, _), (4, _)] ⟨rfl, rfl, rfl, trivial⟩ ?_
  have hl13 := OwnL.ls ow7 (fun _ => rfl) (by decide)
  refine WC.seq (fun K15 k15 => ?_)
  refine WC.seq (fun K16 k16 => ?_)
  refine WC.region rfl ?_
  refine WL.yld rfl (blt rfl) rfl (Y.move rfl rfl) ?_
  refine WL.yld rfl (blt rfl) rfl (Y.move rfl rfl) ?_
  refine WL.yld rfl (blt rfl) rfl (Y.lenSl rfl rfl rfl Try.underlying22 rfl) ?_
  refine WL.yld rfl (blt rfl) rfl (Y.lss rfl rfl rfl) ?_
  refine WL.nil ?_
  refine WK.then_normal (k16 _ _ ?_)
  refine WC.sub [(3, _), (4, _), (5, _), (11, _)] ⟨rfl, rfl, rfl, rfl, trivial⟩ ?_
  refine WC.cond rfl (fun h17 => ?_) (fun h17 => ?_)
  ·
    have p17 := (dec_t h17)
    have zr := Sp.len_take_rng (Sp.norm_norm l).1 i
    rw [← zi] at zr
    have ox := (Sp.ok_iff _).1 ((Sp.norm_norm l).1 _ (bang_mem (show i < (Sp.norm l).length from by omega)))
    refine WC.skip ?_
    refine WK.then_normal (k15 _ _ ?_)
    refine WC.sub [(3, _), (4, _), (5, _)] ⟨rfl, rfl, rfl, trivial⟩ ?_
    refine WC.seq (fun K18 k18 => ?_)
    refine WC.block ?_
    refine WC.regionDq (by kernel_rfl) (by kernel_rfl) rfl ?_
    refine WQ.yld rfl (blt rfl) rfl (Y.move rfl rfl) ?_
    refine WQ.yld rfl (blt rfl) rfl (Y.move rfl rfl) ?_
    refine WQ.yld rfl (blt rfl) rfl (Y.move rfl rfl) ?_
    have b19 : i < n11 := by omega
    refine WQ.yld rfl (blt rfl) rfl (Y.indexLs i hl13 rfl Try.underlying22 ti27 rfl rfl rfl b19) ?_
    refine WQ.yld rfl (blt rfl) rfl (Y.fieldE rfl Try.underlying27 rfl ti3 (by decide) rfl) ?_
    refine WQ.yld rfl (blt rfl) rfl (Y.load1 rfl Try.underlying3 rfl rfl (Ls.at_ext hl13 b19 rfl)) ?_
    refine WQ.yld rfl (blt rfl) rfl (Y.add rfl rfl rfl (wrap_i64 (by first | omega | (dsimp only; omega)))) ?_
    refine WQ.yld rfl (blt rfl) rfl (Y.move rfl rfl) ?_
    refine WQ.yld rfl (blt rfl) rfl (Y.move rfl rfl) ?_
    have b20 : i < n11 := by omega
    refine WQ.yld rfl (blt rfl) rfl (Y.indexLs i hl13 rfl Try.underlying22 ti27 rfl rfl rfl b20) ?_
    refine WQ.yld rfl (blt rfl) rfl (Y.fieldE rfl Try.underlying27 rfl ti3 (by decide) rfl) ?_
    refine WQ.yld rfl (blt rfl) rfl (Y.load1 rfl Try.underlying3 rfl rfl (Ls.at_ext hl13 b20 rfl)) ?_
    refine WQ.yld rfl (blt rfl) rfl (Y.sub rfl rfl rfl (wrap_i64 (by first | omega | (dsimp only; omega)))) ?_
    refine WQ.yld rfl (blt rfl) rfl (Y.assign rfl rfl) ?_
    refine WQ.done (fun w21 x22 => ?_)
    have ow7 := ow7.ext x22
    have hl13 := hl13.ext x22
    have xW := Ext.trans xW x22
    refine WK.in_normal ?_
    refine WK.then_normal (k18 _ _ ?_)
    refine WC.sub [(3, _), (4, _), (5, _)] ⟨rfl, rfl, rfl, trivial⟩ ?_
    refine WC.region rfl ?_
    refine WL.yld rfl (blt rfl) rfl (Y.move rfl rfl) ?_
    refine WL.yld rfl (blt rfl) rfl (Y.add rfl rfl rfl (wrap_i64 (by first | omega | (dsimp only; omega)))) ?_
    refine WL.yld rfl (blt rfl) rfl (Y.assign rfl rfl) ?_
    refine WL.nil ?_
    refine WK.roundS _ [(5, .int .i64 (((i + 1) : Nat) : Int)), (3, .int .i64 _)] ⟨rfl, rfl, rfl, trivial⟩ ?_ ⟨(i + 1), _, rfl, rfl, xW, ow7, (by omega), (by rw [Sp.len_take (show i < (Sp.norm l).length from by omega), ← zi] <;> omega)⟩
    show _ - (i + 1) < _ - i; omega
  ·
    have p17 := (dec_f h17)
    refine WC.exit ?_
    refine WK.then_exit ?_
    refine WK.then_exit ?_
    refine WK.in_exit ?_
    refine WK.then_normal (k8 _ _ ?_)
    refine WC.sub [(3, _)] ⟨rfl, trivial⟩ ?_
    refine WC.seq (fun K23 k23 => ?_)
    refine WC.region rfl ?_
    refine WL.yld rfl (blt rfl) rfl (Y.move rfl rfl) ?_
    refine WL.yld rfl (blt rfl) rfl (Y.assign rfl rfl) ?_
    refine WL.nil ?_
    refine WK.then_normal (k23 _ _ ?_)
    refine WC.sub [(2, _)] ⟨rfl, trivial⟩ ?_
    refine WC.ret ?_
    clear k1 k2 k3 k8 k9 k15 k16 k23
    refine WK.ret [_] rfl ⟨rfl, trivial⟩ ?_
    refine ⟨ret1 (vi ?_), xW⟩
    rw [zi, List.take_of_length_le (show (Sp.norm l).length ≤ i from by omega)]; rfl
end E
end SpW

end Go.Proofs.Ytoldedanhmkolaa
