/- Contracts of the reference: find, Points. Conditions: what each theorem states. -/
import Derived.Test.YtaglpampidlbmaaBdRS
import Derived.Test.YtaglpampidlbmaaBdMany
namespace Go.Proofs.Ytaglpampidlbmaa
open Go Go.Eng Go.RowKit
set_option linter.unusedVariables false
set_option linter.unusedSimpArgs false
namespace BdW
open N RL NumF LB GR CkW CkW.P CkW.K CkW.R CkW.RP B OF MY
namespace RP_
theorem ti3 : TI Try.prog 3 (.int .i64 0) 1 8 := TI.mk (by kernel_rfl)
theorem ti49 : TI Try.prog 49 (.agg #[.int .i64 0, .int .i64 0]) 2 16 := TI.mk (by kernel_rfl)
theorem ti59 : TI Try.prog 59 (.agg #[.int .i64 0, .int .i64 0]) 2 16 := TI.mk (by kernel_rfl)
theorem has35 : Has Try.prog 35 := ⟨_, Try.func35, rfl, by kernel_rfl⟩
theorem has54 : Has Try.prog 54 := ⟨_, Try.func54, rfl, by kernel_rfl⟩
theorem pl49 : PL Try.prog 49 [.int .i64 0, .int .i64 0] [(0, 1), (1, 1)] := PL.mk (zero := [.int .i64 0, .int .i64 0]) ti49 Try.underlying49 (by kernel_rfl)
theorem eqg49 : Try.prog.eqGuardType Try.prog.depth 49 = false := by kernel_rfl
theorem eq49 (a0 : Int) (a1 : Int) (b0 : Int) (b1 : Int) (w : World) : (Op.equalIn 10000 49 (.agg #[.int .i64 a0, .int .i64 a1]) (.agg #[.int .i64 b0, .int .i64 b1])).run Try.prog w = .ok ((a0 == b0) && (a1 == b1)) w := by
  go_simp
  (repeat' split) <;> simp_all
theorem find_any (A_l : Option Addr) (n_l c_l : Nat) (l : List Bd.Key) (p : Bd.Key) (w : World) (h_l : Ls w A_l n_l c_l Bd.kc 2 l) :
    Calls Try.prog 35 #[.slice A_l n_l c_l, .agg #[.int .i64 p.1, .int .i64 p.2]] w fun e w' => e = .returned (.int .i64 (Bd.fnd l p)) ∧ Ext w w' := by
  have xW := Ext.refl w
  have e_l := h_l.len
  have z_l := h_l.nle
  refine calls_of_WC (args := [.slice A_l n_l c_l, .agg #[.int .i64 p.1, .int .i64 p.2]]) Try.func35 rfl rfl (ble rfl) ?_
  refine WC.seq (fun K1 k1 => ?_)
  refine WC.region rfl ?_
  refine WL.box rfl (blt rfl) rfl rfl rfl rfl ?_
  intro g2 w3 e4 x5 m6
  have o_g2 := own_new xW e4
  have xW := Ext.trans xW x5
  refine WL.yld rfl (blt rfl) rfl (Y.assign rfl rfl) ?_
  refine WL.nil ?_
  refine WK.then_normal (k1 _ _ ?_)
  refine WC.sub [(0, _), (3, _)] ⟨rfl, rfl, trivial⟩ ?_
  refine WC.seq (fun K7 k7 => ?_)
  refine WC.seq (fun K8 k8 => ?_)
  refine WC.region rfl ?_
  refine WL.yld rfl (blt rfl) rfl (Y.assign rfl rfl) ?_
  refine WL.nil ?_
  refine WK.then_normal (k8 _ _ ?_)
  refine WC.block ?_
  refine WC.sub [(5, _), (0, _), (3, _)] ⟨rfl, rfl, rfl, trivial⟩ ?_
  refine WC.loopS 1 (fun mz Ed W' => ∃ i : Nat, mz = n_l - i ∧ Ed = [(5, .int .i64 ((i : Nat) : Int))] ∧ Ext w W' ∧ Blk W' g2 49 _ ∧ (i ≤ n_l) ∧ (∀ j, j < i → l[j]! ≠ p)) _ ⟨0, rfl, rfl, xW, m6, (by omega), (fun j hj => absurd hj (Nat.not_lt_zero j))⟩ ?_
  rintro _ _ w9 ⟨i, rfl, rfl, xW, m6, le_i, inv_i⟩
  refine WC.sub [(5, _), (0, _), (3, _)] ⟨rfl, rfl, rfl, trivial⟩ ?_
  refine WC.seq (fun K10 k10 => ?_)
  refine WC.seq (fun K11 k11 => ?_)
  refine WC.region rfl ?_
  refine WL.yld rfl (blt rfl) rfl (Y.move rfl rfl) ?_
  refine WL.yld rfl (blt rfl) rfl (Y.move rfl rfl) ?_
  refine WL.yld rfl (blt rfl) rfl (Y.lenSl rfl rfl rfl Try.underlying45 rfl) ?_
  refine WL.yld rfl (blt rfl) rfl (Y.lss rfl rfl rfl) ?_
  refine WL.nil ?_
  refine WK.then_normal (k11 _ _ ?_)
  refine WC.sub [(0, _), (3, _), (5, _), (9, _)] ⟨rfl, rfl, rfl, rfl, trivial⟩ ?_
  refine WC.cond rfl (fun h12 => ?_) (fun h12 => ?_)
  ·
    have p12 := (dec_t h12)
    refine WC.skip ?_
    refine WK.then_normal (k10 _ _ ?_)
    refine WC.sub [(0, _), (3, _), (5, _)] ⟨rfl, rfl, rfl, trivial⟩ ?_
    refine WC.seq (fun K13 k13 => ?_)
    refine WC.block ?_
    refine WC.seq (fun K14 k14 => ?_)
    refine WC.regionDq (by kernel_rfl) (by kernel_rfl) rfl ?_
    refine WQ.yld rfl (blt rfl) rfl (Y.move rfl rfl) ?_
    refine WQ.yld rfl (blt rfl) rfl (Y.move rfl rfl) ?_
    have b15 : i < n_l := by omega
    refine WQ.yld rfl (blt rfl) rfl (Y.indexLs i (h_l.ext xW) rfl Try.underlying45 ti49 rfl rfl rfl b15) ?_
    refine WQ.yld rfl (blt rfl) rfl (Y.loadS (cs := [_, _]) rfl Try.underlying49 rfl ti49 rfl (Ls.part_ext (h_l.ext xW) b15 rfl)) ?_
    refine WQ.yld rfl (blt rfl) rfl (Y.loadS rfl Try.underlying49 rfl ti49 rfl (Blk.row_ext m6)) ?_
    refine WQ.yld rfl (blt rfl) rfl (Y.eqlS rfl eqg49 (eq49 _ _ _ _) rfl rfl) ?_
    refine WQ.done (fun w16 x17 => ?_)
    have m6 := m6.ext x17
    have xW := Ext.trans xW x17
    refine WK.then_normal (k14 _ _ ?_)
    refine WC.sub [(0, _), (3, _), (5, _), (17, _)] ⟨rfl, rfl, rfl, rfl, trivial⟩ ?_
    refine WC.cond rfl (fun h18 => ?_) (fun h18 => ?_)
    ·
      refine WC.seq (fun K19 k19 => ?_)
      refine WC.region rfl ?_
      refine WL.yld rfl (blt rfl) rfl (Y.move rfl rfl) ?_
      refine WL.yld rfl (blt rfl) rfl (Y.assign rfl rfl) ?_
      refine WL.nil ?_
      refine WK.then_normal (k19 _ _ ?_)
      refine WC.sub [(4, _)] ⟨rfl, trivial⟩ ?_
      refine WC.ret ?_
      refine WK.in_ret ?_
      refine WK.then_ret ?_
      refine WK.then_ret ?_
      refine WK.in_ret ?_
      refine WK.then_ret ?_
      clear k1 k7 k8 k10 k11 k13 k14 k19
      refine WK.ret [_] rfl ⟨rfl, trivial⟩ ?_
      have hq := h18
      rw [Bd.key_eq] at hq
      exact ⟨ret1 (vi (Bd.fnd_yes inv_i (by omega) (of_decide_eq_true hq)).symm), xW⟩
    ·
      refine WC.skip ?_
      refine WK.in_normal ?_
      refine WK.then_normal (k13 _ _ ?_)
      refine WC.sub [(0, _), (3, _), (5, _)] ⟨rfl, rfl, rfl, trivial⟩ ?_
      refine WC.region rfl ?_
      refine WL.yld rfl (blt rfl) rfl (Y.move rfl rfl) ?_
      refine WL.yld rfl (blt rfl) rfl (Y.add rfl rfl rfl (wrap_i64 (by first | omega | (dsimp only; omega)))) ?_
      refine WL.yld rfl (blt rfl) rfl (Y.assign rfl rfl) ?_
      refine WL.nil ?_
      refine WK.roundS _ [(5, .int .i64 (((i + 1) : Nat) : Int))] ⟨rfl, rfl, rfl, trivial⟩ ?_ ⟨(i + 1), rfl, rfl, xW, m6, (by omega), (fun j hj => by rcases Nat.lt_succ_iff_lt_or_eq.1 hj with h | h; exact inv_i j h; rw [h]; exact fun e => by have := h18; rw [Bd.key_eq, decide_eq_true e] at this; cases this)⟩
      show _ - (i + 1) < _ - i; omega
  ·
    have p12 := (dec_f h12)
    refine WC.exit ?_
    refine WK.then_exit ?_
    refine WK.then_exit ?_
    refine WK.in_exit ?_
    refine WK.then_normal (k7 _ _ ?_)
    refine WC.sub [] trivial ?_
    refine WC.seq (fun K20 k20 => ?_)
    refine WC.region rfl ?_
    refine WL.yld rfl (blt rfl) rfl (Y.assign rfl rfl) ?_
    refine WL.nil ?_
    refine WK.then_normal (k20 _ _ ?_)
    refine WC.ret ?_
    clear k1 k7 k8 k10 k11 k20
    refine WK.ret [_] rfl ⟨rfl, trivial⟩ ?_
    exact ⟨ret1 (vi (Bd.fnd_no fun j hj => inv_i j (by omega)).symm), xW⟩
theorem rpts_any (A_d : Option Addr) (n_d c_d : Nat) (d : List Ck.Dom) (A_l : Option Addr) (n_l c_l : Nat) (l : List Ck.Snap) (A_more : Option Addr) (n_more c_more : Nat) (more : List Bd.Key) (w : World) (h_d : Ls w A_d n_d c_d Ck.Dom.c 2 d) (h_l : Ls w A_l n_l c_l Ck.Snap.c 5 l) (h_more : Ls w A_more n_more c_more Bd.kc 2 more) (hd : n_d ≤ 12) (hl : n_l ≤ 10) (hm : n_more ≤ 100) :
    Calls Try.prog 31 #[.slice A_d n_d c_d, .slice A_l n_l c_l, .slice A_more n_more c_more] w fun e w' => ∃ v, e = .returned v ∧ OwnL w' w.heap.size 49 Bd.kc 2 v (Bd.rpts d l more) ∧ Ext w w' := by
  have xW := Ext.refl w
  have e_d := h_d.len
  have z_d := h_d.nle
  have e_l := h_l.len
  have z_l := h_l.nle
  have e_more := h_more.len
  have z_more := h_more.nle
  refine calls_of_WC (args := [.slice A_d n_d c_d, .slice A_l n_l c_l, .slice A_more n_more c_more]) Try.func31 rfl rfl (ble rfl) ?_
  refine WC.seq (fun K1 k1 => ?_)
  refine WC.region rfl ?_
  refine WL.yld rfl (blt rfl) rfl (Y.assign rfl rfl) ?_
  refine WL.nil ?_
  refine WK.then_normal (k1 _ _ ?_)
  refine WC.sub [(0, _), (1, _), (2, _)] ⟨rfl, rfl, rfl, trivial⟩ ?_
  refine WC.seq (fun K2 k2 => ?_)
  refine WC.region rfl ?_
  refine WL.yld rfl (blt rfl) rfl (Y.build (cells := [_, _]) rfl pl49 rfl rfl) ?_
  refine WL.bslice (zs := [.int .i64 0, .int .i64 0]) (cs := [_, _]) rfl (blt rfl) rfl rfl Try.underlying45 ti49 rfl (ble rfl) (by kernel_rfl) rfl rfl ?_
  intro g3 w4 e5 x6 m7
  have o_g3 := own_new xW e5
  have xW := Ext.trans xW x6
  refine WL.yld rfl (blt rfl) rfl (Y.assign rfl rfl) ?_
  refine WL.nil ?_
  refine WK.then_normal (k2 _ _ ?_)
  refine WC.sub [(0, _), (1, _), (2, _), (7, _)] ⟨rfl, rfl, rfl, rfl, trivial⟩ ?_
  refine WC.seq (fun K8 k8 => ?_)
  refine WC.seq (fun K9 k9 => ?_)
  refine WC.region rfl ?_
  refine WL.yld rfl (blt rfl) rfl (Y.assign rfl rfl) ?_
  refine WL.nil ?_
  refine WK.then_normal (k9 _ _ ?_)
  refine WC.block ?_
  refine WC.sub [(8, _), (7, _), (0, _), (1, _), (2, _)] ⟨rfl, rfl, rfl, rfl, rfl, trivial⟩ ?_
  refine WC.loopS 2 (fun mz Ed W' => ∃ i : Nat, ∃ va : Value, mz = n_d - i ∧ Ed = [(8, .int .i64 ((i : Nat) : Int)), (7, va)] ∧ Ext w W' ∧ OwnL W' w.heap.size 49 Bd.kc 2 va (Bd.rpN d l i) ∧ (i ≤ n_d)) _ ⟨0, _, rfl, rfl, xW, (Blk.own (f := Bd.kc) (l := [((-1 : Int), (0 : Int))]) m7 o_g3 (fun _ => rfl) rfl (by decide) rfl), (by omega)⟩ ?_
  rintro _ _ w10 ⟨i, va, rfl, rfl, xW, ow_va, le_i⟩
  refine WC.sub [(8, _), (7, _), (0, _), (1, _), (2, _)] ⟨rfl, rfl, rfl, rfl, rfl, trivial⟩ ?_
  refine WC.seq (fun K11 k11 => ?_)
  refine WC.seq (fun K12 k12 => ?_)
  refine WC.region rfl ?_
  refine WL.yld rfl (blt rfl) rfl (Y.move rfl rfl) ?_
  refine WL.yld rfl (blt rfl) rfl (Y.move rfl rfl) ?_
  refine WL.yld rfl (blt rfl) rfl (Y.lenSl rfl rfl rfl Try.underlying22 rfl) ?_
  refine WL.yld rfl (blt rfl) rfl (Y.lss rfl rfl rfl) ?_
  refine WL.nil ?_
  refine WK.then_normal (k12 _ _ ?_)
  refine WC.sub [(0, _), (1, _), (2, _), (7, _), (8, _), (17, _)] ⟨rfl, rfl, rfl, rfl, rfl, rfl, trivial⟩ ?_
  refine WC.cond rfl (fun h13 => ?_) (fun h13 => ?_)
  ·
    have p13 := (dec_t h13)
    refine WC.skip ?_
    refine WK.then_normal (k11 _ _ ?_)
    refine WC.sub [(0, _), (1, _), (2, _), (7, _), (8, _)] ⟨rfl, rfl, rfl, rfl, rfl, trivial⟩ ?_
    refine WC.seq (fun K14 k14 => ?_)
    refine WC.block ?_
    refine WC.seq (fun K15 k15 => ?_)
    refine WC.region rfl ?_
    refine WL.yld rfl (blt rfl) rfl (Y.move rfl rfl) ?_
    refine WL.yld rfl (blt rfl) rfl (Y.move rfl rfl) ?_
    refine WL.yld rfl (blt rfl) rfl (Y.move rfl rfl) ?_
    have b16 : i < n_d := by omega
    refine WL.yld rfl (blt rfl) rfl (Y.indexLs i (h_d.ext xW) rfl Try.underlying22 ti59 rfl rfl rfl b16) ?_
    refine WL.yld rfl (blt rfl) rfl (Y.fieldE rfl Try.underlying59 rfl ti3 (by decide) rfl) ?_
    refine WL.yld rfl (blt rfl) rfl (Y.load1 rfl Try.underlying3 rfl rfl (Ls.at_eq (h_d.ext xW) b16 rfl)) ?_
    refine WL.call rfl (blt rfl) rfl rfl rfl has54 rfl (rpoints_any _ _ _ _ _ _ (h_l.ext xW) (by omega)) ?_
    rintro _ w17 ⟨v19, rfl, ow20, x18⟩
    refine ⟨_, rfl, ?_⟩
    have d_v19_va := Apart.res ow20 ow_va
    have ow20 := OwnL.base_le ow20 xW.size
    have ow_va := ow_va.ext x18
    have xW := Ext.trans xW x18
    refine WL.yld rfl (blt rfl) rfl (Y.assign rfl rfl) ?_
    refine WL.nil ?_
    refine WK.then_normal (k15 _ _ ?_)
    refine WC.sub [(0, _), (1, _), (2, _), (7, _), (8, _), (9, _)] ⟨rfl, rfl, rfl, rfl, rfl, rfl, trivial⟩ ?_
    refine WC.seq (fun K21 k21 => ?_)
    refine WC.region rfl ?_
    refine WL.yld rfl (blt rfl) rfl (Y.assign rfl rfl) ?_
    refine WL.nil ?_
    refine WK.then_normal (k21 _ _ ?_)
    refine WC.block ?_
    obtain ⟨A22, n23, c24, rfl, hl25⟩ := OwnL.opened ow20 (fun _ => rfl) (by decide)
    have e_n23 := hl25.len
    try simp only [List.length_append, List.length_cons, List.length_nil, List.length_reverse, List.length_drop, List.length_take, List.length_map, List.length_replicate, List.length_set] at e_n23
    have z_n23 := hl25.nle
    refine WC.sub [(10, _), (7, _), (0, _), (1, _), (2, _), (8, _), (9, _)] ⟨rfl, rfl, rfl, rfl, rfl, rfl, rfl, trivial⟩ ?_
    refine WC.loopS 2 (fun mz Ed W' => ∃ j : Nat, ∃ vb : Value, mz = n23 - j ∧ Ed = [(10, .int .i64 ((j : Nat) : Int)), (7, vb)] ∧ Ext w W' ∧ OwnL W' w.heap.size 3 Ck.ic 1 (.slice A22 n23 c24) _ ∧ OwnL W' w.heap.size 49 Bd.kc 2 vb (Bd.rpN d l i ++ Bd.domP l d[i]! j) ∧ Apart (.slice A22 n23 c24) vb ∧ (j ≤ n23)) _ ⟨0, _, rfl, rfl, xW, ow20, (by rw [show Bd.domP l d[i]! 0 = [] from rfl, List.append_nil]; exact ow_va), (d_v19_va.symm).symm, (by omega)⟩ ?_
    rintro _ _ w26 ⟨j, vb, rfl, rfl, xW, ow20, ow_vb, d_v19_vb, le_j⟩
    refine WC.sub [(10, _), (7, _), (0, _), (1, _), (2, _), (8, _), (9, _)] ⟨rfl, rfl, rfl, rfl, rfl, rfl, rfl, trivial⟩ ?_
    have hl25 := OwnL.ls ow20 (fun _ => rfl) (by decide)
    refine WC.seq (fun K27 k27 => ?_)
    refine WC.seq (fun K28 k28 => ?_)
    refine WC.region rfl ?_
    refine WL.yld rfl (blt rfl) rfl (Y.move rfl rfl) ?_
    refine WL.yld rfl (blt rfl) rfl (Y.move rfl rfl) ?_
    refine WL.yld rfl (blt rfl) rfl (Y.lenSl rfl rfl rfl Try.underlying35 rfl) ?_
    refine WL.yld rfl (blt rfl) rfl (Y.lss rfl rfl rfl) ?_
    refine WL.nil ?_
    refine WK.then_normal (k28 _ _ ?_)
    refine WC.sub [(0, _), (1, _), (2, _), (7, _), (8, _), (9, _), (10, _), (30, _)] ⟨rfl, rfl, rfl, rfl, rfl, rfl, rfl, rfl, trivial⟩ ?_
    refine WC.cond rfl (fun h29 => ?_) (fun h29 => ?_)
    ·
      have p29 := (dec_t h29)
      refine WC.skip ?_
      refine WK.then_normal (k27 _ _ ?_)
      refine WC.sub [(0, _), (1, _), (2, _), (7, _), (8, _), (9, _), (10, _)] ⟨rfl, rfl, rfl, rfl, rfl, rfl, rfl, trivial⟩ ?_
      refine WC.seq (fun K30 k30 => ?_)
      refine WC.block ?_
      obtain ⟨A31, n32, c33, rfl, hl34⟩ := OwnL.opened ow_vb (fun _ => rfl) (by decide)
      have e_n32 := hl34.len
      try simp only [List.length_append, List.length_cons, List.length_nil, List.length_reverse, List.length_drop, List.length_take, List.length_map, List.length_replicate, List.length_set] at e_n32
      have z_n32 := hl34.nle
      refine WC.regionX (fun W' => Ext w W' ∧ Ls W' A22 n23 c24 Ck.ic 1 _) (.load 0 (.load 1 (.load 2 (.load 3 (.load 4 (.load 5 (.load 6 (.load 7 (.load 8 (.load 9 (.load 10 (.alt 11 (.alt 12 (.load 13 (.fin)) (.none)) (.none))))))))))))) ⟨xW, hl25⟩ (by kernel_rfl) (by kernel_rfl) (fun w35 x36 => ?_)
      have ow20 := ow20.ext x36
      have hl25 := hl25.ext x36
      have ow_vb := ow_vb.ext x36
      have hl34 := hl34.ext x36
      have xW := Ext.trans xW x36
      refine WX.yld rfl rfl (blt rfl) rfl (Y.move rfl rfl) ?_
      refine WX.yld rfl rfl (blt rfl) rfl (Y.move rfl rfl) ?_
      refine WX.yld rfl rfl (blt rfl) rfl (Y.move rfl rfl) ?_
      have b37 : i < n_d := by omega
      refine WX.yld rfl rfl (blt rfl) rfl (Y.indexLs i (h_d.ext xW) rfl Try.underlying22 ti59 rfl rfl rfl b37) ?_
      refine WX.yld rfl rfl (blt rfl) rfl (Y.fieldE rfl Try.underlying59 rfl ti3 (by decide) rfl) ?_
      refine WX.yld rfl rfl (blt rfl) rfl (Y.load1 rfl Try.underlying3 rfl rfl (Ls.at_c (fun _ h => (h_d.ext (h.1))) b37 rfl)) ?_
      refine WX.yld rfl rfl (blt rfl) rfl (Y.move rfl rfl) ?_
      refine WX.yld rfl rfl (blt rfl) rfl (Y.move rfl rfl) ?_
      have b38 : j < n23 := by omega
      refine WX.yld rfl rfl (blt rfl) rfl (Y.indexLs j hl25 rfl Try.underlying35 ti3 rfl rfl rfl b38) ?_
      refine WX.yld rfl rfl (blt rfl) rfl (Y.load1 rfl Try.underlying3 rfl rfl (Ls.at_c (fun _ h => h.2) b38 rfl)) ?_
      refine WX.yld rfl rfl (blt rfl) rfl (Y.build (cells := [_, _]) rfl pl49 rfl rfl) ?_
      refine WX.run rfl rfl (blt rfl) rfl ⟨xW, hl25⟩ (Run.bslice (zs := [.int .i64 0, .int .i64 0]) (cs := [_, _]) rfl Try.underlying45 ti49 rfl (ble rfl) (by kernel_rfl) rfl rfl) ?_
      rintro _ w40 ⟨g39, rfl, e41, x42, m43⟩
      have r_v19_g39 := ne_newO ow20 e41
      have r_vb_g39 := ne_newO ow_vb e41
      have o_g39 := own_new xW e41
      have ow20 := ow20.ext x42
      have hl25 := hl25.ext x42
      have ow_vb := ow_vb.ext x42
      have hl34 := hl34.ext x42
      have xW := Ext.trans xW x42
      refine WX.run rfl rfl (blt rfl) rfl ⟨xW, hl25⟩ (Run.appendB (f := Bd.kc) (news := [(d[i]!.id, (Ck.pts l d[i]!.id)[j]!)]) rfl rfl rfl Try.underlying45 ti49 rfl (by decide) rfl ow_vb (fun _ => rfl) Bd.kc_one m43 rfl xW.size (by have q0 := Bd.rpN_len (d := d) (i := i) (show 3 * l.length ≤ 30 from by omega) (by omega); have q1 := Bd.domP_len (l := l) (x := d[i]!) (j := j); first | omega | (simp only [List.length_append, List.length_cons, List.length_nil, List.length_take, List.length_drop, List.length_reverse]; omega)) (Nat.le_trans (show _ ≤ 140737488355328 from by have q0 := Bd.rpN_len (d := d) (i := i) (show 3 * l.length ≤ 30 from by omega) (by omega); have q1 := Bd.domP_len (l := l) (x := d[i]!) (j := j); first | omega | (simp only [List.length_append, List.length_cons, List.length_nil, List.length_take, List.length_drop, List.length_reverse]; omega)) (by decide)) ) ?_
      rintro v44 w45 ⟨ow46, gr47, nb48⟩
      have d_v19_v44 := (Apart.app d_v19_vb.symm nb48 ow20).symm
      have ow20 := OwnL.grown ow20 gr47 d_v19_vb.symm
      have hl25 := OwnL.ls ow20 (fun _ => rfl) (by decide)
      have r_v44_g39 := ne_app nb48 r_vb_g39 m43
      have m43 := m43.grown gr47 r_vb_g39
      have xW := Ext.grown xW gr47 (fun b hb => (OwnL.lt ow_vb hb).1)
      refine WX.yld rfl rfl (blt rfl) rfl (Y.assign rfl rfl) ?_
      refine WX.nil ⟨xW, hl25⟩ ?_
      refine WK.in_normal ?_
      refine WK.then_normal (k30 _ _ ?_)
      refine WC.sub [(0, _), (1, _), (2, _), (7, _), (8, _), (9, _), (10, _)] ⟨rfl, rfl, rfl, rfl, rfl, rfl, rfl, trivial⟩ ?_
      refine WC.region rfl ?_
      refine WL.yld rfl (blt rfl) rfl (Y.move rfl rfl) ?_
      refine WL.yld rfl (blt rfl) rfl (Y.add rfl rfl rfl (wrap_i64 (by first | omega | (dsimp only; omega)))) ?_
      refine WL.yld rfl (blt rfl) rfl (Y.assign rfl rfl) ?_
      refine WL.nil ?_
      refine WK.roundS _ [(10, .int .i64 (((j + 1) : Nat) : Int)), (7, v44)] ⟨rfl, rfl, rfl, rfl, rfl, rfl, rfl, trivial⟩ ?_ ⟨(j + 1), v44, rfl, rfl, xW, ow20, (by rw [Bd.domP_next (show j < (Ck.pts l d[i]!.id).length from by omega), ← List.append_assoc]; exact ow46), (d_v19_v44.symm).symm, (by omega)⟩
      show _ - (j + 1) < _ - j; omega
    ·
      have p29 := (dec_f h29)
      refine WC.exit ?_
      refine WK.then_exit ?_
      refine WK.then_exit ?_
      refine WK.in_exit ?_
      refine WK.in_normal ?_
      refine WK.then_normal (k14 _ _ ?_)
      refine WC.sub [(0, _), (1, _), (2, _), (7, _), (8, _)] ⟨rfl, rfl, rfl, rfl, rfl, trivial⟩ ?_
      refine WC.region rfl ?_
      refine WL.yld rfl (blt rfl) rfl (Y.move rfl rfl) ?_
      refine WL.yld rfl (blt rfl) rfl (Y.add rfl rfl rfl (wrap_i64 (by first | omega | (dsimp only; omega)))) ?_
      refine WL.yld rfl (blt rfl) rfl (Y.assign rfl rfl) ?_
      refine WL.nil ?_
      refine WK.roundS _ [(8, .int .i64 (((i + 1) : Nat) : Int)), (7, vb)] ⟨rfl, rfl, rfl, rfl, rfl, trivial⟩ ?_ ⟨(i + 1), vb, rfl, rfl, xW, (by rw [Bd.rpN_next (show i < d.length from by omega), ← Bd.domP_all (j := j) (by omega)]; exact ow_vb), (by omega)⟩
      show _ - (i + 1) < _ - i; omega
  ·
    have p13 := (dec_f h13)
    refine WC.exit ?_
    refine WK.then_exit ?_
    refine WK.then_exit ?_
    refine WK.in_exit ?_
    refine WK.then_normal (k8 _ _ ?_)
    refine WC.sub [(2, _), (7, _)] ⟨rfl, rfl, trivial⟩ ?_
    refine WC.seq (fun K49 k49 => ?_)
    refine WC.seq (fun K50 k50 => ?_)
    refine WC.region rfl ?_
    refine WL.yld rfl (blt rfl) rfl (Y.assign rfl rfl) ?_
    refine WL.nil ?_
    refine WK.then_normal (k50 _ _ ?_)
    refine WC.block ?_
    refine WC.sub [(11, _), (7, _), (2, _)] ⟨rfl, rfl, rfl, trivial⟩ ?_
    refine WC.loopS 2 (fun mz Ed W' => ∃ k : Nat, ∃ vc : Value, mz = n_more - k ∧ Ed = [(11, .int .i64 ((k : Nat) : Int)), (7, vc)] ∧ Ext w W' ∧ OwnL W' w.heap.size 49 Bd.kc 2 vc (Bd.rpts d l (more.take k)) ∧ (k ≤ n_more)) _ ⟨0, _, rfl, rfl, xW, (by rw [show Bd.rpts d l (more.take 0) = Bd.rpN d l i from by rw [show i = d.length from by omega]; rfl]; exact ow_va), (by omega)⟩ ?_
    rintro _ _ w51 ⟨k, vc, rfl, rfl, xW, ow_vc, le_k⟩
    refine WC.sub [(11, _), (7, _), (2, _)] ⟨rfl, rfl, rfl, trivial⟩ ?_
    refine WC.seq (fun K52 k52 => ?_)
    refine WC.seq (fun K53 k53 => ?_)
    refine WC.region rfl ?_
    refine WL.yld rfl (blt rfl) rfl (Y.move rfl rfl) ?_
    refine WL.yld rfl (blt rfl) rfl (Y.move rfl rfl) ?_
    refine WL.yld rfl (blt rfl) rfl (Y.lenSl rfl rfl rfl Try.underlying45 rfl) ?_
    refine WL.yld rfl (blt rfl) rfl (Y.lss rfl rfl rfl) ?_
    refine WL.nil ?_
    refine WK.then_normal (k53 _ _ ?_)
    refine WC.sub [(2, _), (7, _), (11, _), (49, _)] ⟨rfl, rfl, rfl, rfl, trivial⟩ ?_
    refine WC.cond rfl (fun h54 => ?_) (fun h54 => ?_)
    ·
      have p54 := (dec_t h54)
      refine WC.skip ?_
      refine WK.then_normal (k52 _ _ ?_)
      refine WC.sub [(2, _), (7, _), (11, _)] ⟨rfl, rfl, rfl, trivial⟩ ?_
      refine WC.seq (fun K55 k55 => ?_)
      refine WC.block ?_
      refine WC.seq (fun K56 k56 => ?_)
      refine WC.region rfl ?_
      refine WL.yld rfl (blt rfl) rfl (Y.move rfl rfl) ?_
      refine WL.yld rfl (blt rfl) rfl (Y.move rfl rfl) ?_
      refine WL.yld rfl (blt rfl) rfl (Y.move rfl rfl) ?_
      have b57 : k < n_more := by omega
      refine WL.yld rfl (blt rfl) rfl (Y.indexLs k (h_more.ext xW) rfl Try.underlying45 ti49 rfl rfl rfl b57) ?_
      refine WL.yld rfl (blt rfl) rfl (Y.loadS (cs := [_, _]) rfl Try.underlying49 rfl ti49 rfl (Ls.part_eq (h_more.ext xW) b57 rfl)) ?_
      obtain ⟨A58, n59, c60, rfl, hl61⟩ := OwnL.opened ow_vc (fun _ => rfl) (by decide)
      have e_n59 := hl61.len
      try simp only [List.length_append, List.length_cons, List.length_nil, List.length_reverse, List.length_drop, List.length_take, List.length_map, List.length_replicate, List.length_set] at e_n59
      have z_n59 := hl61.nle
      refine WL.call rfl (blt rfl) rfl rfl rfl has35 rfl (find_any _ _ _ _ _ _ hl61) ?_
      rintro _ w62 ⟨rfl, x63⟩
      refine ⟨_, rfl, ?_⟩
      have ow_vc := ow_vc.ext x63
      have hl61 := hl61.ext x63
      have xW := Ext.trans xW x63
      refine WL.yld rfl (blt rfl) rfl (Y.lss rfl rfl rfl) ?_
      refine WL.nil ?_
      refine WK.then_normal (k56 _ _ ?_)
      refine WC.sub [(2, _), (7, _), (11, _), (58, _)] ⟨rfl, rfl, rfl, rfl, trivial⟩ ?_
      refine WC.cond rfl (fun h64 => ?_) (fun h64 => ?_)
      ·
        have p64 := (dec_t h64)
        refine WC.region rfl ?_
        refine WL.yld rfl (blt rfl) rfl (Y.move rfl rfl) ?_
        refine WL.yld rfl (blt rfl) rfl (Y.move rfl rfl) ?_
        refine WL.yld rfl (blt rfl) rfl (Y.move rfl rfl) ?_
        have b65 : k < n_more := by omega
        refine WL.yld rfl (blt rfl) rfl (Y.indexLs k (h_more.ext xW) rfl Try.underlying45 ti49 rfl rfl rfl b65) ?_
        refine WL.yld rfl (blt rfl) rfl (Y.loadS (cs := [_, _]) rfl Try.underlying49 rfl ti49 rfl (Ls.part_eq (h_more.ext xW) b65 rfl)) ?_
        refine WL.bslice (zs := [.int .i64 0, .int .i64 0]) (cs := [_, _]) rfl (blt rfl) rfl rfl Try.underlying45 ti49 rfl (ble rfl) (by kernel_rfl) rfl rfl ?_
        intro g66 w67 e68 x69 m70
        have r_vc_g66 := ne_newO ow_vc e68
        have o_g66 := own_new xW e68
        have ow_vc := ow_vc.ext x69
        have hl61 := hl61.ext x69
        have xW := Ext.trans xW x69
        refine WL.appendB (f := Bd.kc) (news := [more[k]!]) rfl (blt rfl) rfl rfl rfl rfl Try.underlying45 ti49 rfl (by decide) rfl ow_vc (fun _ => rfl) Bd.kc_one m70 rfl xW.size (by have q0 := Bd.rpts_len (d := d) (m := more.take k) (show 3 * l.length ≤ 30 from by omega) (by omega); have q1 := List.length_take_le k more; first | omega | (simp only [List.length_append, List.length_cons, List.length_nil, List.length_take, List.length_drop, List.length_reverse]; omega)) (Nat.le_trans (show _ ≤ 140737488355328 from by have q0 := Bd.rpts_len (d := d) (m := more.take k) (show 3 * l.length ≤ 30 from by omega) (by omega); have q1 := List.length_take_le k more; first | omega | (simp only [List.length_append, List.length_cons, List.length_nil, List.length_take, List.length_drop, List.length_reverse]; omega)) (by decide)) (fun v71 w72 ow73 gr74 nb75 => ?_)
        have r_v71_g66 := ne_app nb75 r_vc_g66 m70
        have m70 := m70.grown gr74 r_vc_g66
        have xW := Ext.grown xW gr74 (fun b hb => (OwnL.lt ow_vc hb).1)
        refine WL.yld rfl (blt rfl) rfl (Y.assign rfl rfl) ?_
        refine WL.nil ?_
        refine WK.in_normal ?_
        refine WK.then_normal (k55 _ _ ?_)
        refine WC.sub [(2, _), (7, _), (11, _)] ⟨rfl, rfl, rfl, trivial⟩ ?_
        refine WC.region rfl ?_
        refine WL.yld rfl (blt rfl) rfl (Y.move rfl rfl) ?_
        refine WL.yld rfl (blt rfl) rfl (Y.add rfl rfl rfl (wrap_i64 (by first | omega | (dsimp only; omega)))) ?_
        refine WL.yld rfl (blt rfl) rfl (Y.assign rfl rfl) ?_
        refine WL.nil ?_
        refine WK.roundS _ [(11, .int .i64 (((k + 1) : Nat) : Int)), (7, v71)] ⟨rfl, rfl, rfl, trivial⟩ ?_ ⟨(k + 1), v71, rfl, rfl, xW, (by rw [Bd.rpts_next (show k < more.length from by omega)]; unfold Bd.addK; rw [if_pos (by simpa using h64)]; exact ow73), (by omega)⟩
        show _ - (k + 1) < _ - k; omega
      ·
        have p64 := (dec_f h64)
        refine WC.skip ?_
        refine WK.in_normal ?_
        refine WK.then_normal (k55 _ _ ?_)
        refine WC.sub [(2, _), (7, _), (11, _)] ⟨rfl, rfl, rfl, trivial⟩ ?_
        refine WC.region rfl ?_
        refine WL.yld rfl (blt rfl) rfl (Y.move rfl rfl) ?_
        refine WL.yld rfl (blt rfl) rfl (Y.add rfl rfl rfl (wrap_i64 (by first | omega | (dsimp only; omega)))) ?_
        refine WL.yld rfl (blt rfl) rfl (Y.assign rfl rfl) ?_
        refine WL.nil ?_
        refine WK.roundS _ [(11, .int .i64 (((k + 1) : Nat) : Int)), (7, (.slice A58 n59 c60))] ⟨rfl, rfl, rfl, trivial⟩ ?_ ⟨(k + 1), (.slice A58 n59 c60), rfl, rfl, xW, (by rw [Bd.rpts_next (show k < more.length from by omega)]; unfold Bd.addK; rw [if_neg (by simpa using h64)]; exact ow_vc), (by omega)⟩
        show _ - (k + 1) < _ - k; omega
    ·
      have p54 := (dec_f h54)
      refine WC.exit ?_
      refine WK.then_exit ?_
      refine WK.then_exit ?_
      refine WK.in_exit ?_
      refine WK.then_normal (k49 _ _ ?_)
      refine WC.sub [(7, _)] ⟨rfl, trivial⟩ ?_
      refine WC.seq (fun K76 k76 => ?_)
      refine WC.region rfl ?_
      refine WL.yld rfl (blt rfl) rfl (Y.move rfl rfl) ?_
      refine WL.yld rfl (blt rfl) rfl (Y.assign rfl rfl) ?_
      refine WL.nil ?_
      refine WK.then_normal (k76 _ _ ?_)
      refine WC.sub [(6, _)] ⟨rfl, trivial⟩ ?_
      refine WC.ret ?_
      clear k1 k2 k8 k9 k11 k12 k49 k50 k52 k53 k76
      refine WK.ret [_] rfl ⟨rfl, trivial⟩ ?_
      have hq := ow_vc
      rw [List.take_of_length_le (by omega)] at hq
      exact ⟨_, rfl, hq, xW⟩
end RP_
end BdW

end Go.Proofs.Ytaglpampidlbmaa
