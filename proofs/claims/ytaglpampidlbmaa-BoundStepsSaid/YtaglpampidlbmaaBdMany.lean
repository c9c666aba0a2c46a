/- Contracts: Consistent, Many. Conditions: what each theorem states. -/
import Derived.Test.YtaglpampidlbmaaBdOf
namespace Go.Proofs.Ytaglpampidlbmaa
open Go Go.Eng Go.RowKit
set_option linter.unusedVariables false
set_option linter.unusedSimpArgs false
namespace BdW
open N RL NumF LB GR CkW CkW.P CkW.K B OF
namespace MY
theorem ti3 : TI Try.prog 3 (.int .i64 0) 1 8 := TI.mk (by kernel_rfl)
theorem ti29 : TI Try.prog 29 (.agg #[.int .i64 0, .int .i64 0]) 2 16 := TI.mk (by kernel_rfl)
theorem has11 : Has Try.prog 11 := ⟨_, Try.func11, rfl, by kernel_rfl⟩
theorem has17 : Has Try.prog 17 := ⟨_, Try.func17, rfl, by kernel_rfl⟩
theorem has25 : Has Try.prog 25 := ⟨_, Try.func25, rfl, by kernel_rfl⟩
theorem has26 : Has Try.prog 26 := ⟨_, Try.func26, rfl, by kernel_rfl⟩
theorem consistentP_any (A_d : Option Addr) (n_d c_d : Nat) (d : List Ck.Dom) (A_l : Option Addr) (n_l c_l : Nat) (l : List Ck.Snap) (w : World) (h_d : Ls w A_d n_d c_d Ck.Dom.c 2 d) (h_l : Ls w A_l n_l c_l Ck.Snap.c 5 l) (hl : n_l ≤ 11) :
    Calls Try.prog 13 #[.slice A_d n_d c_d, .slice A_l n_l c_l] w fun e w' => e = .returned (.bool (Bd.consF d l)) ∧ Ext w w' := by
  have xW := Ext.refl w
  have e_d := h_d.len
  have z_d := h_d.nle
  have e_l := h_l.len
  have z_l := h_l.nle
  refine calls_of_WC (args := [.slice A_d n_d c_d, .slice A_l n_l c_l]) Try.func13 rfl rfl (ble rfl) ?_
  refine WC.seq (fun K1 k1 => ?_)
  refine WC.region rfl ?_
  refine WL.yld rfl (blt rfl) rfl (Y.assign rfl rfl) ?_
  refine WL.nil ?_
  refine WK.then_normal (k1 _ _ ?_)
  refine WC.sub [(0, _), (1, _)] ⟨rfl, rfl, trivial⟩ ?_
  refine WC.seq (fun K2 k2 => ?_)
  refine WC.region rfl ?_
  refine WL.yld rfl (blt rfl) rfl (Y.move rfl rfl) ?_
  refine WL.yld rfl (blt rfl) rfl (Y.move rfl rfl) ?_
  refine WL.call rfl (blt rfl) rfl rfl rfl has17 rfl (check_any _ _ _ _ _ _ _ _ _ (h_d.ext xW) (h_l.ext xW)) ?_
  rintro _ w3 ⟨rfl, x4⟩
  refine ⟨_, rfl, ?_⟩
  have xW := Ext.trans xW x4
  refine WL.yld rfl (blt rfl) rfl (Y.eql rfl rfl rfl) ?_
  refine WL.yld rfl (blt rfl) rfl (Y.move rfl rfl) ?_
  refine WL.split (t := 9) rfl (fun h5 => ?_) (fun h5 => ?_)
  ·
    have p5 := (eq_t h5)
    refine WL.yldW rfl (blt rfl) rfl rfl rfl (Y.move rfl rfl) ?_
    refine WL.yldW rfl (blt rfl) rfl rfl rfl (Y.move rfl rfl) ?_
    refine WL.callW rfl (blt rfl) rfl rfl rfl rfl rfl has25 rfl (build_any _ _ _ _ _ _ _ _ _ _ _ (h_d.ext xW) (h_l.ext xW) (Bd.good_of (eq_t h5)) (by omega) (by omega)) ?_
    rintro _ w6 ⟨g9, g8, v10, rfl, m11, m12, ow13, o14, o15, n_g8_g9, r_v10_g9, r_v10_g8, x7⟩
    refine ⟨_, rfl, ?_⟩
    have o_g9 := Nat.le_trans xW.size o14
    have o_g8 := Nat.le_trans xW.size o15
    have ow13 := OwnL.base_le ow13 xW.size
    have xW := Ext.trans xW x7
    obtain ⟨A16, n17, c18, rfl, hl19⟩ := OwnL.opened ow13 (fun _ => rfl) (by decide)
    have e_n17 := hl19.len
    try simp only [List.length_append, List.length_cons, List.length_nil, List.length_reverse, List.length_drop, List.length_take, List.length_map, List.length_replicate, List.length_set] at e_n17
    have z_n17 := hl19.nle
    refine WL.callW rfl (blt rfl) rfl rfl rfl rfl rfl has26 rfl (consistent_any _ _ _ _ _ _ _ Bd.Wm _ _ hl19 m11 m12 (by rw [Bd.numF_len]; rfl) (Bd.ready_prog (id := 0) (at_ := 0) (Bd.good_of (eq_t h5)) (by omega) (by omega)) (by have := Bd.nN_le (d := d) (l := l) (id := 0) (at_ := 0) (by omega) (Bd.good_of (eq_t h5)).few; omega)) ?_
    rintro _ w20 ⟨rfl, x21⟩
    refine ⟨_, rfl, ?_⟩
    have m11 := m11.ext x21
    have m12 := m12.ext x21
    have ow13 := ow13.ext x21
    have hl19 := hl19.ext x21
    have xW := Ext.trans xW x21
    refine WL.yld rfl (blt rfl) rfl (Y.pickT rfl rfl rfl) ?_
    refine WL.yld rfl (blt rfl) rfl (Y.assign rfl rfl) ?_
    refine WL.nil ?_
    refine WK.then_normal (k2 _ _ ?_)
    refine WC.sub [(4, _)] ⟨rfl, trivial⟩ ?_
    refine WC.ret ?_
    clear k1 k2
    refine WK.ret [_] rfl ⟨rfl, trivial⟩ ?_
    refine ⟨ret1 (vb ?_), xW⟩
    unfold Bd.consF
    rw [h5]
    rfl
  ·
    have p5 := (eq_f h5)
    refine WL.skip rfl (blt rfl) rfl rfl rfl rfl ?_
    refine WL.skip rfl (blt rfl) rfl rfl rfl rfl ?_
    refine WL.skip rfl (blt rfl) rfl rfl rfl rfl ?_
    refine WL.skip rfl (blt rfl) rfl rfl rfl rfl ?_
    refine WL.yld rfl (blt rfl) rfl (Y.pickF rfl rfl rfl) ?_
    refine WL.yld rfl (blt rfl) rfl (Y.assign rfl rfl) ?_
    refine WL.nil ?_
    refine WK.then_normal (k2 _ _ ?_)
    refine WC.sub [(4, _)] ⟨rfl, trivial⟩ ?_
    refine WC.ret ?_
    clear k1 k2
    refine WK.ret [_] rfl ⟨rfl, trivial⟩ ?_
    refine ⟨ret1 (vb ?_), xW⟩
    unfold Bd.consF
    rw [h5]
    rfl
theorem many_any (A_d : Option Addr) (n_d c_d : Nat) (d : List Ck.Dom) (A_l : Option Addr) (n_l c_l : Nat) (l : List Ck.Snap) (id : Int) (A_ats : Option Addr) (n_ats c_ats : Nat) (ats : List Int) (w : World) (h_d : Ls w A_d n_d c_d Ck.Dom.c 2 d) (h_l : Ls w A_l n_l c_l Ck.Snap.c 5 l) (h_ats : Ls w A_ats n_ats c_ats Ck.ic 1 ats) (hl : n_l ≤ 11) (hn : n_ats ≤ 1000) :
    Calls Try.prog 15 #[.slice A_d n_d c_d, .slice A_l n_l c_l, .int .i64 id, .slice A_ats n_ats c_ats] w fun e w' => ∃ v, e = .returned (.tuple #[v, .int .i64 (Bd.manyE (Bd.ofF d l id) ats)]) ∧ OwnL w' w.heap.size 29 Bd.kc 2 v (Bd.manyL (Bd.ofF d l id) ats) ∧ Ext w w' := by
  have xW := Ext.refl w
  have e_d := h_d.len
  have z_d := h_d.nle
  have e_l := h_l.len
  have z_l := h_l.nle
  have e_ats := h_ats.len
  have z_ats := h_ats.nle
  refine calls_of_WC (args := [.slice A_d n_d c_d, .slice A_l n_l c_l, .int .i64 id, .slice A_ats n_ats c_ats]) Try.func15 rfl rfl (ble rfl) ?_
  refine WC.seq (fun K1 k1 => ?_)
  refine WC.region rfl ?_
  refine WL.yld rfl (blt rfl) rfl (Y.assign rfl rfl) ?_
  refine WL.yld rfl (blt rfl) rfl (Y.assign rfl rfl) ?_
  refine WL.nil ?_
  refine WK.then_normal (k1 _ _ ?_)
  refine WC.sub [(0, _), (1, _), (2, _), (3, _)] ⟨rfl, rfl, rfl, rfl, trivial⟩ ?_
  refine WC.seq (fun K2 k2 => ?_)
  refine WC.region rfl ?_
  refine WL.yld rfl (blt rfl) rfl (Y.assign rfl rfl) ?_
  refine WL.nil ?_
  refine WK.then_normal (k2 _ _ ?_)
  refine WC.seq (fun K3 k3 => ?_)
  refine WC.seq (fun K4 k4 => ?_)
  refine WC.region rfl ?_
  refine WL.yld rfl (blt rfl) rfl (Y.move rfl rfl) ?_
  refine WL.yld rfl (blt rfl) rfl (Y.lenSl rfl rfl rfl Try.underlying35 rfl) ?_
  refine WL.yld rfl (blt rfl) rfl (Y.move rfl rfl) ?_
  refine WL.nil ?_
  refine WK.then_normal (k4 _ _ ?_)
  refine WC.sub [(0, _), (1, _), (2, _), (10, _), (15, _), (16, _), (17, _)] ⟨rfl, rfl, rfl, rfl, rfl, rfl, rfl, trivial⟩ ?_
  refine WC.block ?_
  refine WC.sub [(17, _), (10, _), (0, _), (1, _), (2, _), (15, _), (16, _)] ⟨rfl, rfl, rfl, rfl, rfl, rfl, rfl, trivial⟩ ?_
  refine WC.loopS 2 (fun mz Ed W' => ∃ i : Nat, ∃ v : Value, mz = n_ats - i ∧ Ed = [(17, .int .i64 ((i : Nat) : Int)), (10, v)] ∧ Ext w W' ∧ OwnL W' w.heap.size 29 Bd.kc 2 v ((ats.take i).map fun x => ((Bd.ofF d l id) x).1) ∧ (i ≤ n_ats) ∧ (∀ j, j < i → ((Bd.ofF d l id) ats[j]!).2 = 0)) _ ⟨0, _, rfl, rfl, xW, OwnL.nil_, (Nat.zero_le _), (fun j hj => absurd hj (Nat.not_lt_zero j))⟩ ?_
  rintro _ _ w5 ⟨i, v, rfl, rfl, xW, ow_v, le_i, inv_i⟩
  refine WC.sub [(17, _), (10, _), (0, _), (1, _), (2, _), (15, _), (16, _)] ⟨rfl, rfl, rfl, rfl, rfl, rfl, rfl, trivial⟩ ?_
  refine WC.seq (fun K6 k6 => ?_)
  refine WC.region rfl ?_
  refine WL.yld rfl (blt rfl) rfl (Y.lss rfl rfl rfl) ?_
  refine WL.nil ?_
  refine WK.then_normal (k6 _ _ ?_)
  refine WC.seq (fun K7 k7 => ?_)
  refine WC.cond rfl (fun h8 => ?_) (fun h8 => ?_)
  ·
    have p8 := (dec_t h8)
    have tkl : (ats.take i).length ≤ 1000 := by rw [List.length_take]; omega
    refine WC.skip ?_
    refine WK.then_normal (k7 _ _ ?_)
    refine WC.sub [(0, _), (1, _), (2, _), (10, _), (15, _), (16, _), (17, _)] ⟨rfl, rfl, rfl, rfl, rfl, rfl, rfl, trivial⟩ ?_
    refine WC.seq (fun K9 k9 => ?_)
    refine WC.block ?_
    refine WC.seq (fun K10 k10 => ?_)
    refine WC.region rfl ?_
    have b11 : i < n_ats := by omega
    refine WL.yld rfl (blt rfl) rfl (Y.indexLs i (h_ats.ext xW) rfl Try.underlying35 ti3 rfl rfl rfl b11) ?_
    refine WL.yld rfl (blt rfl) rfl (Y.load1 rfl Try.underlying3 rfl rfl (Ls.at_eq (h_ats.ext xW) b11 rfl)) ?_
    refine WL.yld rfl (blt rfl) rfl (Y.assign rfl rfl) ?_
    refine WL.nil ?_
    refine WK.then_normal (k10 _ _ ?_)
    refine WC.sub [(0, _), (1, _), (2, _), (10, _), (12, _), (15, _), (16, _), (17, _)] ⟨rfl, rfl, rfl, rfl, rfl, rfl, rfl, rfl, trivial⟩ ?_
    refine WC.seq (fun K12 k12 => ?_)
    refine WC.region rfl ?_
    refine WL.yld rfl (blt rfl) rfl (Y.move rfl rfl) ?_
    refine WL.yld rfl (blt rfl) rfl (Y.move rfl rfl) ?_
    refine WL.yld rfl (blt rfl) rfl (Y.move rfl rfl) ?_
    refine WL.yld rfl (blt rfl) rfl (Y.move rfl rfl) ?_
    refine WL.call rfl (blt rfl) rfl rfl rfl has11 rfl (of_any _ _ _ _ _ _ _ _ _ _ _ (h_d.ext xW) (h_l.ext xW) (by omega)) ?_
    rintro _ w13 ⟨rfl, x14⟩
    refine ⟨_, rfl, ?_⟩
    have ow_v := ow_v.ext x14
    have xW := Ext.trans xW x14
    refine WL.yld rfl (blt rfl) rfl (Y.move rfl rfl) ?_
    refine WL.yld rfl (blt rfl) rfl (Y.extract rfl rfl rfl) ?_
    refine WL.yld rfl (blt rfl) rfl (Y.extract rfl rfl rfl) ?_
    refine WL.alloc rfl (blt rfl) rfl rfl ti29 rfl ?_
    intro g15 w16 e17 x18 m19
    have r_v_g15 := ne_newO ow_v e17
    have o_g15 := own_new xW e17
    have ow_v := ow_v.ext x18
    have xW := Ext.trans xW x18
    refine WL.store (cs' := [_, _]) rfl rfl rfl rfl rfl rfl ti29 m19 (ble rfl) rfl rfl (fun w20 on21 m22 => ?_)
    have ow_v := ow_v.only r_v_g15 on21
    have xW := Ext.only xW on21 o_g15
    refine WL.yld rfl (blt rfl) rfl (Y.assign rfl rfl) ?_
    refine WL.nil ?_
    refine WK.then_normal (k12 _ _ ?_)
    refine WC.sub [(0, _), (1, _), (2, _), (10, _), (13, _), (14, _), (15, _), (16, _), (17, _)] ⟨rfl, rfl, rfl, rfl, rfl, rfl, rfl, rfl, rfl, trivial⟩ ?_
    refine WC.seq (fun K23 k23 => ?_)
    refine WC.seq (fun K24 k24 => ?_)
    refine WC.region rfl ?_
    refine WL.yld rfl (blt rfl) rfl (Y.move rfl rfl) ?_
    refine WL.yld rfl (blt rfl) rfl (Y.neq rfl rfl rfl) ?_
    refine WL.nil ?_
    refine WK.then_normal (k24 _ _ ?_)
    refine WC.sub [(0, _), (1, _), (2, _), (10, _), (13, _), (14, _), (15, _), (16, _), (17, _), (30, _)] ⟨rfl, rfl, rfl, rfl, rfl, rfl, rfl, rfl, rfl, rfl, trivial⟩ ?_
    refine WC.cond rfl (fun h25 => ?_) (fun h25 => ?_)
    ·
      have p25 := (eq_f (not_t h25))
      refine WC.seq (fun K26 k26 => ?_)
      refine WC.region rfl ?_
      refine WL.yld rfl (blt rfl) rfl (Y.move rfl rfl) ?_
      refine WL.yld rfl (blt rfl) rfl (Y.assign rfl rfl) ?_
      refine WL.yld rfl (blt rfl) rfl (Y.assign rfl rfl) ?_
      refine WL.nil ?_
      refine WK.then_normal (k26 _ _ ?_)
      refine WC.sub [(8, _), (9, _)] ⟨rfl, rfl, trivial⟩ ?_
      refine WC.ret ?_
      refine WK.then_ret ?_
      refine WK.in_ret ?_
      refine WK.then_ret ?_
      refine WK.then_ret ?_
      refine WK.in_ret ?_
      refine WK.then_ret ?_
      clear k1 k2 k3 k4 k6 k7 k9 k10 k12 k23 k24 k26
      refine WK.ret [_, _] rfl ⟨rfl, rfl, trivial⟩ ?_
      have hne : ((Bd.ofF d l id) ats[i]!).2 ≠ 0 := by simpa using h25
      have hz : Bd.manyE (Bd.ofF d l id) ats = ((Bd.ofF d l id) ats[i]!).2 := Bd.manyE_hit (by omega) inv_i hne
      refine ⟨_, ret2 rfl (vi hz.symm), ?_, xW⟩
      unfold Bd.manyL
      rw [hz, if_neg (by simpa using hne)]
      exact OwnL.nil_
    ·
      have p25 := (eq_t (not_f h25))
      refine WC.skip ?_
      refine WK.then_normal (k23 _ _ ?_)
      refine WC.sub [(0, _), (1, _), (2, _), (10, _), (13, _), (15, _), (16, _), (17, _)] ⟨rfl, rfl, rfl, rfl, rfl, rfl, rfl, rfl, trivial⟩ ?_
      refine WC.region rfl ?_
      refine WL.yld rfl (blt rfl) rfl (Y.move rfl rfl) ?_
      refine WL.yld rfl (blt rfl) rfl (Y.loadS rfl Try.underlying29 rfl ti29 rfl (Blk.row_eq m22)) ?_
      refine WL.bslice (zs := [.int .i64 0, .int .i64 0]) (cs := [_, _]) rfl (blt rfl) rfl rfl Try.underlying36 ti29 rfl (ble rfl) (by kernel_rfl) rfl rfl ?_
      intro g27 w28 e29 x30 m31
      have r_v_g27 := ne_newO ow_v e29
      have n_g15_g27 := ne_new m22 e29
      have o_g27 := own_new xW e29
      have ow_v := ow_v.ext x30
      have m22 := m22.ext x30
      have xW := Ext.trans xW x30
      refine WL.appendB (f := Bd.kc) (news := [((Bd.ofF d l id) ats[i]!).1]) rfl (blt rfl) rfl rfl rfl rfl Try.underlying36 ti29 rfl (by decide) rfl ow_v (fun _ => rfl) Bd.kc_one m31 rfl xW.size (by have q0 := List.length_take_le i ats; have q1 := (show ((ats.take i).map fun x => ((Bd.ofF d l id) x).1).length = (ats.take i).length from List.length_map _); first | omega | (simp only [List.length_append, List.length_cons, List.length_nil, List.length_take, List.length_drop, List.length_reverse]; omega)) (Nat.le_trans (show _ ≤ 140737488355328 from by have q0 := List.length_take_le i ats; have q1 := (show ((ats.take i).map fun x => ((Bd.ofF d l id) x).1).length = (ats.take i).length from List.length_map _); first | omega | (simp only [List.length_append, List.length_cons, List.length_nil, List.length_take, List.length_drop, List.length_reverse]; omega)) (by decide)) (fun v32 w33 ow34 gr35 nb36 => ?_)
      have r_v32_g15 := ne_app nb36 r_v_g15 m22
      have m22 := m22.grown gr35 r_v_g15
      have r_v32_g27 := ne_app nb36 r_v_g27 m31
      have m31 := m31.grown gr35 r_v_g27
      have xW := Ext.grown xW gr35 (fun b hb => (OwnL.lt ow_v hb).1)
      refine WL.yld rfl (blt rfl) rfl (Y.assign rfl rfl) ?_
      refine WL.nil ?_
      refine WK.in_normal ?_
      refine WK.then_normal (k9 _ _ ?_)
      refine WC.sub [(0, _), (1, _), (2, _), (10, _), (15, _), (16, _), (17, _)] ⟨rfl, rfl, rfl, rfl, rfl, rfl, rfl, trivial⟩ ?_
      refine WC.region rfl ?_
      refine WL.yld rfl (blt rfl) rfl (Y.add rfl rfl rfl (wrap_i64 (by first | omega | (dsimp only; omega)))) ?_
      refine WL.yld rfl (blt rfl) rfl (Y.move rfl rfl) ?_
      refine WL.nil ?_
      refine WK.roundS _ [(17, .int .i64 (((i + 1) : Nat) : Int)), (10, v32)] ⟨rfl, rfl, rfl, rfl, rfl, rfl, rfl, trivial⟩ ?_ ⟨(i + 1), v32, rfl, rfl, xW, (by rw [take_bang (show i < ats.length from by omega), List.map_append]; exact ow34), (by omega), (fun j hj => by rcases Nat.lt_succ_iff_lt_or_eq.1 hj with h | h; exact inv_i j h; rw [h]; exact (by simpa using h25))⟩
      show _ - (i + 1) < _ - i; omega
  ·
    have p8 := (dec_f h8)
    refine WC.exit ?_
    refine WK.then_exit ?_
    refine WK.then_exit ?_
    refine WK.in_exit ?_
    refine WK.then_normal (k3 _ _ ?_)
    refine WC.sub [(10, _)] ⟨rfl, trivial⟩ ?_
    refine WC.seq (fun K37 k37 => ?_)
    refine WC.region rfl ?_
    refine WL.yld rfl (blt rfl) rfl (Y.move rfl rfl) ?_
    refine WL.yld rfl (blt rfl) rfl (Y.assign rfl rfl) ?_
    refine WL.yld rfl (blt rfl) rfl (Y.assign rfl rfl) ?_
    refine WL.nil ?_
    refine WK.then_normal (k37 _ _ ?_)
    refine WC.sub [(8, _), (9, _)] ⟨rfl, rfl, trivial⟩ ?_
    refine WC.ret ?_
    clear k1 k2 k3 k4 k6 k7 k37
    refine WK.ret [_, _] rfl ⟨rfl, rfl, trivial⟩ ?_
    have hz : Bd.manyE (Bd.ofF d l id) ats = 0 := Bd.manyE_ok fun j hj => inv_i j (by omega)
    refine ⟨_, ret2 rfl (vi hz.symm), ?_, xW⟩
    unfold Bd.manyL
    rw [hz, if_pos (by decide)]
    rw [List.take_of_length_le (by omega)] at ow_v
    exact ow_v
end MY
end BdW

end Go.Proofs.Ytaglpampidlbmaa
