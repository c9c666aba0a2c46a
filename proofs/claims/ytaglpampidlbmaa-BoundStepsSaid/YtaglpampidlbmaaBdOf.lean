/- Contracts: Of. Conditions: what each theorem states. -/
import Derived.Test.YtaglpampidlbmaaBdOfS
import Derived.Test.YtaglpampidlbmaaBdBuild
namespace Go.Proofs.Ytaglpampidlbmaa
open Go Go.Eng Go.RowKit
set_option linter.unusedVariables false
set_option linter.unusedSimpArgs false
namespace BdW
open N RL NumF LB GR CkW CkW.P CkW.K B
namespace OF
theorem ti3 : TI Try.prog 3 (.int .i64 0) 1 8 := TI.mk (by kernel_rfl)
theorem ti29 : TI Try.prog 29 (.agg #[.int .i64 0, .int .i64 0]) 2 16 := TI.mk (by kernel_rfl)
theorem ti59 : TI Try.prog 59 (.agg #[.int .i64 0, .int .i64 0]) 2 16 := TI.mk (by kernel_rfl)
theorem has17 : Has Try.prog 17 := ⟨_, Try.func17, rfl, by kernel_rfl⟩
theorem has19 : Has Try.prog 19 := ⟨_, Try.func19, rfl, by kernel_rfl⟩
theorem has23 : Has Try.prog 23 := ⟨_, Try.func23, rfl, by kernel_rfl⟩
theorem has24 : Has Try.prog 24 := ⟨_, Try.func24, rfl, by kernel_rfl⟩
theorem has25 : Has Try.prog 25 := ⟨_, Try.func25, rfl, by kernel_rfl⟩
theorem has26 : Has Try.prog 26 := ⟨_, Try.func26, rfl, by kernel_rfl⟩
theorem has27 : Has Try.prog 27 := ⟨_, Try.func27, rfl, by kernel_rfl⟩
theorem has28 : Has Try.prog 28 := ⟨_, Try.func28, rfl, by kernel_rfl⟩
theorem has44 : Has Try.prog 44 := ⟨_, Try.func44, rfl, by kernel_rfl⟩
theorem pl29 : PL Try.prog 29 [.int .i64 0, .int .i64 0] [(0, 1), (1, 1)] := PL.mk (zero := [.int .i64 0, .int .i64 0]) ti29 Try.underlying29 (by kernel_rfl)
theorem of1_any (x : Ck.Dom) (g : Nat) (i : Int) (w : World) (hg : Blk w g 3 [.int .i64 i]) :
    Calls Try.prog 24 #[.agg #[.int .i64 x.id, .int .i64 x.ppm], .pointer (some ⟨g, 0, none⟩)] w fun e w' => e = .returned (.bool (x.id == i)) ∧ Ext w w' := by
  have xW := Ext.refl w
  refine calls_of_WC (args := [.agg #[.int .i64 x.id, .int .i64 x.ppm], .pointer (some ⟨g, 0, none⟩)]) Try.func24 rfl rfl (ble rfl) ?_
  refine WC.seq (fun K1 k1 => ?_)
  refine WC.region rfl ?_
  refine WL.box rfl (blt rfl) rfl rfl rfl rfl ?_
  intro g2 w3 e4 x5 m6
  have o_g2 := own_new xW e4
  have xW := Ext.trans xW x5
  refine WL.yld rfl (blt rfl) rfl (Y.assign rfl rfl) ?_
  refine WL.nil ?_
  refine WK.then_normal (k1 _ _ ?_)
  refine WC.sub [(1, _), (2, _)] ⟨rfl, rfl, trivial⟩ ?_
  refine WC.seq (fun K7 k7 => ?_)
  refine WC.region rfl ?_
  refine WL.yld rfl (blt rfl) rfl (Y.fieldAddr rfl Try.underlying59 rfl ti3 (by decide) rfl) ?_
  refine WL.yld rfl (blt rfl) rfl (Y.load1 rfl Try.underlying3 rfl rfl (Blk.at_eq m6 rfl)) ?_
  refine WL.yld rfl (blt rfl) rfl (Y.load1 rfl Try.underlying3 rfl rfl (Blk.at_eq (hg.ext xW) rfl)) ?_
  refine WL.yld rfl (blt rfl) rfl (Y.eql rfl rfl rfl) ?_
  refine WL.yld rfl (blt rfl) rfl (Y.assign rfl rfl) ?_
  refine WL.nil ?_
  refine WK.then_normal (k7 _ _ ?_)
  refine WC.sub [(3, _)] ⟨rfl, trivial⟩ ?_
  refine WC.ret ?_
  clear k1 k7
  refine WK.ret [_] rfl ⟨rfl, trivial⟩ ?_
  exact ⟨rfl, xW⟩
theorem indexFunc24 (A_d : Option Addr) (n_d c_d : Nat) (d : List Ck.Dom) (id : Int) (g : Nat) (w : World) (h_d : Ls w A_d n_d c_d Ck.Dom.c 2 d) (hg : Blk w g 3 [.int .i64 id]) :
    Calls Try.prog 44 #[.slice A_d n_d c_d, .func (.func 24) #[] #[.pointer (some ⟨g, 0, none⟩)]] w fun e w' => e = .returned (.int .i64 (Ck.idx d id 0)) ∧ Ext w w' := by
  have xW := Ext.refl w
  have e_d := h_d.len
  have z_d := h_d.nle
  refine calls_of_WC (args := [.slice A_d n_d c_d, .func (.func 24) #[] #[.pointer (some ⟨g, 0, none⟩)]]) Try.func44 rfl rfl (ble rfl) ?_
  refine WC.seq (fun K1 k1 => ?_)
  refine WC.region rfl ?_
  refine WL.yld rfl (blt rfl) rfl (Y.assign rfl rfl) ?_
  refine WL.nil ?_
  refine WK.then_normal (k1 _ _ ?_)
  refine WC.sub [(0, _), (1, _)] ⟨rfl, rfl, trivial⟩ ?_
  refine WC.seq (fun K2 k2 => ?_)
  refine WC.seq (fun K3 k3 => ?_)
  refine WC.region rfl ?_
  refine WL.yld rfl (blt rfl) rfl (Y.move rfl rfl) ?_
  refine WL.yld rfl (blt rfl) rfl (Y.lenSl rfl rfl rfl Try.underlying22 rfl) ?_
  refine WL.yld rfl (blt rfl) rfl (Y.move rfl rfl) ?_
  refine WL.nil ?_
  refine WK.then_normal (k3 _ _ ?_)
  refine WC.sub [(0, _), (1, _), (7, _), (8, _)] ⟨rfl, rfl, rfl, rfl, trivial⟩ ?_
  refine WC.block ?_
  refine WC.sub [(8, _), (0, _), (1, _), (7, _)] ⟨rfl, rfl, rfl, rfl, trivial⟩ ?_
  refine WC.loopS 1 (fun mz Ed W' => ∃ i : Nat, mz = n_d - i ∧ Ed = [(8, .int .i64 ((i : Nat) : Int))] ∧ Ext w W' ∧ (i ≤ n_d) ∧ (Ck.idx (d.drop i) id i = Ck.idx d id 0)) _ ⟨0, rfl, rfl, xW, (Nat.zero_le _), rfl⟩ ?_
  rintro _ _ w4 ⟨i, rfl, rfl, xW, le_i, inv_i⟩
  refine WC.sub [(8, _), (0, _), (1, _), (7, _)] ⟨rfl, rfl, rfl, rfl, trivial⟩ ?_
  refine WC.seq (fun K5 k5 => ?_)
  refine WC.region rfl ?_
  refine WL.yld rfl (blt rfl) rfl (Y.lss rfl rfl rfl) ?_
  refine WL.nil ?_
  refine WK.then_normal (k5 _ _ ?_)
  refine WC.seq (fun K6 k6 => ?_)
  refine WC.cond rfl (fun h7 => ?_) (fun h7 => ?_)
  ·
    have p7 := (dec_t h7)
    refine WC.skip ?_
    refine WK.then_normal (k6 _ _ ?_)
    refine WC.sub [(0, _), (1, _), (7, _), (8, _)] ⟨rfl, rfl, rfl, rfl, trivial⟩ ?_
    refine WC.seq (fun K8 k8 => ?_)
    refine WC.block ?_
    refine WC.seq (fun K9 k9 => ?_)
    refine WC.region rfl ?_
    refine WL.yld rfl (blt rfl) rfl (Y.move rfl rfl) ?_
    refine WL.yld rfl (blt rfl) rfl (Y.assign rfl rfl) ?_
    refine WL.nil ?_
    refine WK.then_normal (k9 _ _ ?_)
    refine WC.sub [(0, _), (1, _), (5, _), (7, _), (8, _)] ⟨rfl, rfl, rfl, rfl, rfl, trivial⟩ ?_
    refine WC.seq (fun K10 k10 => ?_)
    refine WC.region rfl ?_
    refine WL.yld rfl (blt rfl) rfl (Y.move rfl rfl) ?_
    refine WL.yld rfl (blt rfl) rfl (Y.move rfl rfl) ?_
    refine WL.yld rfl (blt rfl) rfl (Y.move rfl rfl) ?_
    have b11 : i < n_d := by omega
    refine WL.yld rfl (blt rfl) rfl (Y.indexLs i (h_d.ext xW) rfl Try.underlying22 ti59 rfl rfl rfl b11) ?_
    refine WL.yld rfl (blt rfl) rfl (Y.loadS (cs := [_, _]) rfl Try.underlying59 rfl ti59 rfl (Ls.part_eq (h_d.ext xW) b11 rfl)) ?_
    refine WL.callV (f := 24) rfl (blt rfl) rfl rfl rfl rfl has24 rfl (of1_any _ _ _ _ (hg.ext xW)) ?_
    rintro _ w12 ⟨rfl, x13⟩
    refine ⟨_, rfl, ?_⟩
    have xW := Ext.trans xW x13
    refine WL.nil ?_
    refine WK.then_normal (k10 _ _ ?_)
    refine WC.sub [(0, _), (1, _), (5, _), (7, _), (8, _), (16, _)] ⟨rfl, rfl, rfl, rfl, rfl, rfl, trivial⟩ ?_
    refine WC.cond rfl (fun h14 => ?_) (fun h14 => ?_)
    ·
      refine WC.seq (fun K15 k15 => ?_)
      refine WC.region rfl ?_
      refine WL.yld rfl (blt rfl) rfl (Y.move rfl rfl) ?_
      refine WL.yld rfl (blt rfl) rfl (Y.assign rfl rfl) ?_
      refine WL.nil ?_
      refine WK.then_normal (k15 _ _ ?_)
      refine WC.sub [(4, _)] ⟨rfl, trivial⟩ ?_
      refine WC.ret ?_
      refine WK.in_ret ?_
      refine WK.then_ret ?_
      refine WK.then_ret ?_
      refine WK.in_ret ?_
      refine WK.then_ret ?_
      clear k1 k2 k3 k5 k6 k8 k9 k10 k15
      refine WK.ret [_] rfl ⟨rfl, trivial⟩ ?_
      refine ⟨ret1 (vi ?_), xW⟩
      rw [← inv_i, drop_bang (show i < d.length from by omega)]
      simp only [Ck.idx, h14, if_true]
    ·
      refine WC.skip ?_
      refine WK.in_normal ?_
      refine WK.then_normal (k8 _ _ ?_)
      refine WC.sub [(0, _), (1, _), (7, _), (8, _)] ⟨rfl, rfl, rfl, rfl, trivial⟩ ?_
      refine WC.region rfl ?_
      refine WL.yld rfl (blt rfl) rfl (Y.add rfl rfl rfl (wrap_i64 (by first | omega | (dsimp only; omega)))) ?_
      refine WL.yld rfl (blt rfl) rfl (Y.move rfl rfl) ?_
      refine WL.nil ?_
      refine WK.roundS _ [(8, .int .i64 (((i + 1) : Nat) : Int))] ⟨rfl, rfl, rfl, rfl, trivial⟩ ?_ ⟨(i + 1), rfl, rfl, xW, (by omega), (by rw [← inv_i, drop_bang (show i < d.length from by omega)]; simp only [Ck.idx, h14, Bool.false_eq_true, if_false])⟩
      show _ - (i + 1) < _ - i; omega
  ·
    have p7 := (dec_f h7)
    refine WC.exit ?_
    refine WK.then_exit ?_
    refine WK.then_exit ?_
    refine WK.in_exit ?_
    refine WK.then_normal (k2 _ _ ?_)
    refine WC.sub [] trivial ?_
    refine WC.seq (fun K16 k16 => ?_)
    refine WC.region rfl ?_
    refine WL.yld rfl (blt rfl) rfl (Y.assign rfl rfl) ?_
    refine WL.nil ?_
    refine WK.then_normal (k16 _ _ ?_)
    refine WC.ret ?_
    clear k1 k2 k3 k5 k6 k16
    refine WK.ret [_] rfl ⟨rfl, trivial⟩ ?_
    refine ⟨ret1 (vi ?_), xW⟩
    rw [← inv_i, List.drop_of_length_le (by omega)]; rfl
theorem containsF24 (A_d : Option Addr) (n_d c_d : Nat) (d : List Ck.Dom) (id : Int) (g : Nat) (w : World) (h_d : Ls w A_d n_d c_d Ck.Dom.c 2 d) (hg : Blk w g 3 [.int .i64 id]) :
    Calls Try.prog 23 #[.slice A_d n_d c_d, .func (.func 24) #[] #[.pointer (some ⟨g, 0, none⟩)]] w fun e w' => e = .returned (.bool (decide (0 ≤ Ck.idx d id 0))) ∧ Ext w w' := by
  have xW := Ext.refl w
  refine calls_of_WC (args := [.slice A_d n_d c_d, .func (.func 24) #[] #[.pointer (some ⟨g, 0, none⟩)]]) Try.func23 rfl rfl (ble rfl) ?_
  refine WC.seq (fun K1 k1 => ?_)
  refine WC.region rfl ?_
  refine WL.yld rfl (blt rfl) rfl (Y.assign rfl rfl) ?_
  refine WL.nil ?_
  refine WK.then_normal (k1 _ _ ?_)
  refine WC.sub [(0, _), (1, _)] ⟨rfl, rfl, trivial⟩ ?_
  refine WC.seq (fun K2 k2 => ?_)
  refine WC.region rfl ?_
  refine WL.yld rfl (blt rfl) rfl (Y.move rfl rfl) ?_
  refine WL.yld rfl (blt rfl) rfl (Y.move rfl rfl) ?_
  refine WL.call rfl (blt rfl) rfl rfl rfl has44 rfl (indexFunc24 _ _ _ _ _ _ _ (h_d.ext xW) (hg.ext xW)) ?_
  rintro _ w3 ⟨rfl, x4⟩
  refine ⟨_, rfl, ?_⟩
  have xW := Ext.trans xW x4
  refine WL.yld rfl (blt rfl) rfl (Y.geq rfl rfl rfl) ?_
  refine WL.yld rfl (blt rfl) rfl (Y.assign rfl rfl) ?_
  refine WL.nil ?_
  refine WK.then_normal (k2 _ _ ?_)
  refine WC.sub [(4, _)] ⟨rfl, trivial⟩ ?_
  refine WC.ret ?_
  clear k1 k2
  refine WK.ret [_] rfl ⟨rfl, trivial⟩ ?_
  exact ⟨rfl, xW⟩
theorem of_any (A_d : Option Addr) (n_d c_d : Nat) (d : List Ck.Dom) (A_l : Option Addr) (n_l c_l : Nat) (l : List Ck.Snap) (id : Int) (at_ : Int) (w : World) (h_d : Ls w A_d n_d c_d Ck.Dom.c 2 d) (h_l : Ls w A_l n_l c_l Ck.Snap.c 5 l) (hl : n_l ≤ 11) :
    Calls Try.prog 11 #[.slice A_d n_d c_d, .slice A_l n_l c_l, .int .i64 id, .int .i64 at_] w fun e w' => e = .returned (Bd.ofV (Bd.ofF d l id at_)) ∧ Ext w w' := by
  have xW := Ext.refl w
  have e_d := h_d.len
  have z_d := h_d.nle
  have e_l := h_l.len
  have z_l := h_l.nle
  refine calls_of_WC (args := [.slice A_d n_d c_d, .slice A_l n_l c_l, .int .i64 id, .int .i64 at_]) Try.func11 rfl rfl (ble rfl) ?_
  refine WC.seq (fun K1 k1 => ?_)
  refine WC.region rfl ?_
  refine WL.box rfl (blt rfl) rfl rfl rfl rfl ?_
  intro g2 w3 e4 x5 m6
  have o_g2 := own_new xW e4
  have xW := Ext.trans xW x5
  refine WL.alloc rfl (blt rfl) rfl rfl ti29 rfl ?_
  intro g7 w8 e9 x10 m11
  have n_g2_g7 := ne_new m6 e9
  have o_g7 := own_new xW e9
  have m6 := m6.ext x10
  have xW := Ext.trans xW x10
  refine WL.yld rfl (blt rfl) rfl (Y.assign rfl rfl) ?_
  refine WL.nil ?_
  refine WK.then_normal (k1 _ _ ?_)
  refine WC.sub [(0, _), (1, _), (3, _), (6, _), (8, _)] ⟨rfl, rfl, rfl, rfl, rfl, trivial⟩ ?_
  refine WC.seq (fun K12 k12 => ?_)
  refine WC.seq (fun K13 k13 => ?_)
  refine WC.region rfl ?_
  refine WL.yld rfl (blt rfl) rfl (Y.move rfl rfl) ?_
  refine WL.yld rfl (blt rfl) rfl (Y.move rfl rfl) ?_
  refine WL.call rfl (blt rfl) rfl rfl rfl has17 rfl (check_any _ _ _ _ _ _ _ _ _ (h_d.ext xW) (h_l.ext xW)) ?_
  rintro _ w14 ⟨rfl, x15⟩
  refine ⟨_, rfl, ?_⟩
  have m6 := m6.ext x15
  have m11 := m11.ext x15
  have xW := Ext.trans xW x15
  refine WL.yld rfl (blt rfl) rfl (Y.assign rfl rfl) ?_
  refine WL.nil ?_
  refine WK.then_normal (k13 _ _ ?_)
  refine WC.sub [(0, _), (1, _), (3, _), (6, _), (8, _), (10, _)] ⟨rfl, rfl, rfl, rfl, rfl, rfl, trivial⟩ ?_
  refine WC.seq (fun K16 k16 => ?_)
  refine WC.region rfl ?_
  refine WL.yld rfl (blt rfl) rfl (Y.move rfl rfl) ?_
  refine WL.yld rfl (blt rfl) rfl (Y.neq rfl rfl rfl) ?_
  refine WL.nil ?_
  refine WK.then_normal (k16 _ _ ?_)
  refine WC.sub [(0, _), (1, _), (3, _), (6, _), (8, _), (10, _), (17, _)] ⟨rfl, rfl, rfl, rfl, rfl, rfl, rfl, trivial⟩ ?_
  refine WC.cond rfl (fun h17 => ?_) (fun h17 => ?_)
  ·
    have p17 := (eq_f (not_t h17))
    refine WC.seq (fun K18 k18 => ?_)
    refine WC.region rfl ?_
    refine WL.yld rfl (blt rfl) rfl (Y.build (cells := [_, _]) rfl pl29 rfl rfl) ?_
    refine WL.yld rfl (blt rfl) rfl (Y.move rfl rfl) ?_
    refine WL.store (cs' := [_, _]) rfl rfl rfl rfl rfl rfl ti29 m11 (ble rfl) rfl rfl (fun w19 on20 m21 => ?_)
    have m6 := m6.only n_g2_g7 on20
    have xW := Ext.only xW on20 o_g7
    refine WL.yld rfl (blt rfl) rfl (Y.assign rfl rfl) ?_
    refine WL.nil ?_
    refine WK.then_normal (k18 _ _ ?_)
    refine WC.sub [(8, _), (9, _)] ⟨rfl, rfl, trivial⟩ ?_
    refine WC.ret ?_
    refine WK.then_ret ?_
    clear k1 k12 k13 k16 k18
    refine WK.ret [_, _] rfl ⟨⟨_, rfl, run_loadVar_blk Try.underlying29 rfl ti29 m21⟩, rfl, trivial⟩ ?_
    refine ⟨?_, xW⟩
    simp only [Bd.ofF, Bd.conF, h17, Bool.false_eq_true, if_true, if_false]
    rfl
  ·
    have p17 := (eq_t (not_f h17))
    have ck : Ck.checkF d l = 0 := by simpa using h17
    have gd := Bd.good_of ck
    refine WC.skip ?_
    refine WK.then_normal (k12 _ _ ?_)
    refine WC.sub [(0, _), (1, _), (3, _), (6, _), (8, _)] ⟨rfl, rfl, rfl, rfl, rfl, trivial⟩ ?_
    refine WC.seq (fun K22 k22 => ?_)
    refine WC.block ?_
    refine WC.seq (fun K23 k23 => ?_)
    refine WC.region rfl ?_
    refine WL.yld rfl (blt rfl) rfl (Y.move rfl rfl) ?_
    refine WL.yld rfl (blt rfl) rfl (Y.func rfl rfl rfl) ?_
    refine WL.call rfl (blt rfl) rfl rfl rfl has23 rfl (containsF24 _ _ _ _ _ _ _ (h_d.ext xW) m6) ?_
    rintro _ w24 ⟨rfl, x25⟩
    refine ⟨_, rfl, ?_⟩
    have m6 := m6.ext x25
    have m11 := m11.ext x25
    have xW := Ext.trans xW x25
    refine WL.yld rfl (blt rfl) rfl (Y.not rfl rfl) ?_
    refine WL.yld rfl (blt rfl) rfl (Y.assign rfl rfl) ?_
    refine WL.nil ?_
    refine WK.then_normal (k23 _ _ ?_)
    refine WC.sub [(0, _), (1, _), (3, _), (6, _), (8, _), (20, _)] ⟨rfl, rfl, rfl, rfl, rfl, rfl, trivial⟩ ?_
    refine WC.cond rfl (fun h26 => ?_) (fun h26 => ?_)
    ·
      refine WC.seq (fun K27 k27 => ?_)
      refine WC.region rfl ?_
      refine WL.yld rfl (blt rfl) rfl (Y.build (cells := [_, _]) rfl pl29 rfl rfl) ?_
      refine WL.store (cs' := [_, _]) rfl rfl rfl rfl rfl rfl ti29 m11 (ble rfl) rfl rfl (fun w28 on29 m30 => ?_)
      have m6 := m6.only n_g2_g7 on29
      have xW := Ext.only xW on29 o_g7
      refine WL.yld rfl (blt rfl) rfl (Y.assign rfl rfl) ?_
      refine WL.nil ?_
      refine WK.then_normal (k27 _ _ ?_)
      refine WC.sub [(8, _), (9, _)] ⟨rfl, rfl, trivial⟩ ?_
      refine WC.ret ?_
      refine WK.in_ret ?_
      refine WK.then_ret ?_
      clear k1 k12 k13 k16 k22 k23 k27
      refine WK.ret [_, _] rfl ⟨⟨_, rfl, run_loadVar_blk Try.underlying29 rfl ti29 m30⟩, rfl, trivial⟩ ?_
      refine ⟨?_, xW⟩
      simp only [Bd.ofF, Bd.conF, h17, h26, Bool.false_eq_true, if_true, if_false]
      rfl
    ·
      have hid := Ck.idx_some d id 0 (by simpa using h26)
      refine WC.seq (fun K31 k31 => ?_)
      refine WC.region rfl ?_
      refine WL.yld rfl (blt rfl) rfl (Y.move rfl rfl) ?_
      refine WL.yld rfl (blt rfl) rfl (Y.lss rfl rfl rfl) ?_
      refine WL.yld rfl (blt rfl) rfl (Y.move rfl rfl) ?_
      refine WL.yldG rfl (blt rfl) rfl rfl rfl (fun hb => Y.move rfl rfl) ?_
      refine WL.yldG rfl (blt rfl) rfl rfl rfl (fun hb => Y.gtr rfl (evg rfl hb) rfl) ?_
      refine WL.yld rfl (blt rfl) rfl (Y.or rfl rfl rfl rfl) ?_
      refine WL.yld rfl (blt rfl) rfl (Y.assign rfl rfl) ?_
      refine WL.nil ?_
      refine WK.then_normal (k31 _ _ ?_)
      refine WC.sub [(0, _), (1, _), (3, _), (6, _), (8, _), (26, _)] ⟨rfl, rfl, rfl, rfl, rfl, rfl, trivial⟩ ?_
      refine WC.cond rfl (fun h32 => ?_) (fun h32 => ?_)
      ·
        have p32 := ((or_t h32).imp (fun h => (dec_t h)) (fun h => (dec_t h)))
        refine WC.seq (fun K33 k33 => ?_)
        refine WC.region rfl ?_
        refine WL.yld rfl (blt rfl) rfl (Y.build (cells := [_, _]) rfl pl29 rfl rfl) ?_
        refine WL.store (cs' := [_, _]) rfl rfl rfl rfl rfl rfl ti29 m11 (ble rfl) rfl rfl (fun w34 on35 m36 => ?_)
        have m6 := m6.only n_g2_g7 on35
        have xW := Ext.only xW on35 o_g7
        refine WL.yld rfl (blt rfl) rfl (Y.assign rfl rfl) ?_
        refine WL.nil ?_
        refine WK.then_normal (k33 _ _ ?_)
        refine WC.sub [(8, _), (9, _)] ⟨rfl, rfl, trivial⟩ ?_
        refine WC.ret ?_
        refine WK.in_ret ?_
        refine WK.then_ret ?_
        clear k1 k12 k13 k16 k22 k23 k31 k33
        refine WK.ret [_, _] rfl ⟨⟨_, rfl, run_loadVar_blk Try.underlying29 rfl ti29 m36⟩, rfl, trivial⟩ ?_
        refine ⟨?_, xW⟩
        simp only [Bd.ofF, Bd.conF, h17, h26, h32, Bool.false_eq_true, if_true, if_false]
        rfl
      ·
        have p32 := (And.intro (dec_f (or_f h32).1) (dec_f (or_f h32).2))
        have ha : 0 ≤ at_ ∧ at_ ≤ 1000000000000 := by omega
        have rd := Bd.ready_prog (id := id) gd (by omega) ha
        have hqN : (Bd.nds d l id at_) = (Bd.nds d l id at_) ++ [] := (List.append_nil _).symm
        have nr := Bd.nix_rng (Bd.key_in (l := l) (at_ := at_) hid)
        have nlt : Bd.nix (Bd.nds d l id at_) (id, at_) < ((Bd.nN d l id at_ : Nat) : Int) := by unfold Bd.nN; omega
        have rt := (Bd.ready_turn rd true).rng (show 0 ≤ Bd.nix (Bd.nds d l id at_) (id, at_) from by omega) nlt
        unfold Bd.val at rt
        have hfar : Bd.far = 9223372036854775807 := rfl
        have rl1 := Bd.rel_len (Bd.ready_turn rd true)
        have rl0 := Bd.rel_len (Bd.ready_turn rd false)
        refine WC.seq (fun K37 k37 => ?_)
        refine WC.region rfl ?_
        refine WL.yld rfl (blt rfl) rfl (Y.move rfl rfl) ?_
        refine WL.yld rfl (blt rfl) rfl (Y.move rfl rfl) ?_
        refine WL.yld rfl (blt rfl) rfl (Y.load1 rfl Try.underlying3 rfl rfl (Blk.at_eq m6 rfl)) ?_
        refine WL.call rfl (blt rfl) rfl rfl rfl has19 rfl (linked_any _ _ _ _ _ _ _ _ _ _ (h_d.ext xW) (h_l.ext xW) (by omega)) ?_
        rintro _ w38 ⟨rfl, x39⟩
        refine ⟨_, rfl, ?_⟩
        have m6 := m6.ext x39
        have m11 := m11.ext x39
        have xW := Ext.trans xW x39
        refine WL.yld rfl (blt rfl) rfl (Y.not rfl rfl) ?_
        refine WL.yld rfl (blt rfl) rfl (Y.assign rfl rfl) ?_
        refine WL.nil ?_
        refine WK.then_normal (k37 _ _ ?_)
        refine WC.sub [(0, _), (1, _), (3, _), (6, _), (8, _), (34, _)] ⟨rfl, rfl, rfl, rfl, rfl, rfl, trivial⟩ ?_
        refine WC.cond rfl (fun h40 => ?_) (fun h40 => ?_)
        ·
          refine WC.seq (fun K41 k41 => ?_)
          refine WC.region rfl ?_
          refine WL.yld rfl (blt rfl) rfl (Y.build (cells := [_, _]) rfl pl29 rfl rfl) ?_
          refine WL.store (cs' := [_, _]) rfl rfl rfl rfl rfl rfl ti29 m11 (ble rfl) rfl rfl (fun w42 on43 m44 => ?_)
          have m6 := m6.only n_g2_g7 on43
          have xW := Ext.only xW on43 o_g7
          refine WL.yld rfl (blt rfl) rfl (Y.assign rfl rfl) ?_
          refine WL.nil ?_
          refine WK.then_normal (k41 _ _ ?_)
          refine WC.sub [(8, _), (9, _)] ⟨rfl, rfl, trivial⟩ ?_
          refine WC.ret ?_
          refine WK.in_ret ?_
          refine WK.then_ret ?_
          clear k1 k12 k13 k16 k22 k23 k31 k37 k41
          refine WK.ret [_, _] rfl ⟨⟨_, rfl, run_loadVar_blk Try.underlying29 rfl ti29 m44⟩, rfl, trivial⟩ ?_
          refine ⟨?_, xW⟩
          simp only [Bd.ofF, Bd.conF, h17, h26, h32, h40, Bool.false_eq_true, if_true, if_false]
          rfl
        ·
          refine WC.skip ?_
          refine WK.in_normal ?_
          refine WK.then_normal (k22 _ _ ?_)
          refine WC.sub [(0, _), (1, _), (3, _), (6, _), (8, _)] ⟨rfl, rfl, rfl, rfl, rfl, trivial⟩ ?_
          refine WC.seq (fun K45 k45 => ?_)
          refine WC.region rfl ?_
          refine WL.yld rfl (blt rfl) rfl (Y.move rfl rfl) ?_
          refine WL.yld rfl (blt rfl) rfl (Y.move rfl rfl) ?_
          refine WL.yld rfl (blt rfl) rfl (Y.load1 rfl Try.underlying3 rfl rfl (Blk.at_eq m6 rfl)) ?_
          refine WL.yld rfl (blt rfl) rfl (Y.move rfl rfl) ?_
          refine WL.call rfl (blt rfl) rfl rfl rfl has25 rfl (build_any _ _ _ _ _ _ _ _ _ _ _ (h_d.ext xW) (h_l.ext xW) gd (by omega) ha) ?_
          rintro _ w46 ⟨g49, g48, v50, rfl, m51, m52, ow53, o54, o55, n_g48_g49, r_v50_g49, r_v50_g48, x47⟩
          refine ⟨_, rfl, ?_⟩
          have n_g2_g49 := ne_old m6 o54
          have n_g7_g49 := ne_old m11 o54
          have o_g49 := Nat.le_trans xW.size o54
          have n_g2_g48 := ne_old m6 o55
          have n_g7_g48 := ne_old m11 o55
          have o_g48 := Nat.le_trans xW.size o55
          have r_v50_g2 := ne_res ow53 m6
          have r_v50_g7 := ne_res ow53 m11
          have ow53 := OwnL.base_le ow53 xW.size
          have m6 := m6.ext x47
          have m11 := m11.ext x47
          have xW := Ext.trans xW x47
          refine WL.yld rfl (blt rfl) rfl (Y.assign rfl rfl) ?_
          refine WL.nil ?_
          refine WK.then_normal (k45 _ _ ?_)
          refine WC.sub [(3, _), (6, _), (8, _), (11, _)] ⟨rfl, rfl, rfl, rfl, trivial⟩ ?_
          refine WC.seq (fun K56 k56 => ?_)
          refine WC.seq (fun K57 k57 => ?_)
          refine WC.region rfl ?_
          refine WL.yld rfl (blt rfl) rfl (Y.move rfl rfl) ?_
          obtain ⟨A58, n59, c60, rfl, hl61⟩ := OwnL.opened ow53 (fun _ => rfl) (by decide)
          have e_n59 := hl61.len
          try simp only [List.length_append, List.length_cons, List.length_nil, List.length_reverse, List.length_drop, List.length_take, List.length_map, List.length_replicate, List.length_set] at e_n59
          have z_n59 := hl61.nle
          refine WL.call rfl (blt rfl) rfl rfl rfl has26 rfl (consistent_any _ _ _ _ _ _ _ Bd.Wm _ _ hl61 m51 m52 (by rw [Bd.numF_len]; rfl) rd (by have := Bd.nN_le (d := d) (l := l) (id := id) (at_ := at_) (by omega) gd.few; omega)) ?_
          rintro _ w62 ⟨rfl, x63⟩
          refine ⟨_, rfl, ?_⟩
          have m6 := m6.ext x63
          have m11 := m11.ext x63
          have m51 := m51.ext x63
          have m52 := m52.ext x63
          have ow53 := ow53.ext x63
          have hl61 := hl61.ext x63
          have xW := Ext.trans xW x63
          refine WL.yld rfl (blt rfl) rfl (Y.not rfl rfl) ?_
          refine WL.nil ?_
          refine WK.then_normal (k57 _ _ ?_)
          refine WC.sub [(3, _), (6, _), (8, _), (11, _), (48, _)] ⟨rfl, rfl, rfl, rfl, rfl, trivial⟩ ?_
          refine WC.cond rfl (fun h64 => ?_) (fun h64 => ?_)
          ·
            refine WC.seq (fun K65 k65 => ?_)
            refine WC.region rfl ?_
            refine WL.yld rfl (blt rfl) rfl (Y.build (cells := [_, _]) rfl pl29 rfl rfl) ?_
            refine WL.store (cs' := [_, _]) rfl rfl rfl rfl rfl rfl ti29 m11 (ble rfl) rfl rfl (fun w66 on67 m68 => ?_)
            have m6 := m6.only n_g2_g7 on67
            have m51 := m51.only n_g7_g49.symm on67
            have m52 := m52.only n_g7_g48.symm on67
            have ow53 := ow53.only r_v50_g7 on67
            have hl61 := OwnL.ls ow53 (fun _ => rfl) (by decide)
            have xW := Ext.only xW on67 o_g7
            refine WL.yld rfl (blt rfl) rfl (Y.assign rfl rfl) ?_
            refine WL.nil ?_
            refine WK.then_normal (k65 _ _ ?_)
            refine WC.sub [(8, _), (9, _)] ⟨rfl, rfl, trivial⟩ ?_
            refine WC.ret ?_
            refine WK.then_ret ?_
            clear k1 k12 k13 k16 k22 k23 k31 k37 k45 k56 k57 k65
            refine WK.ret [_, _] rfl ⟨⟨_, rfl, run_loadVar_blk Try.underlying29 rfl ti29 m68⟩, rfl, trivial⟩ ?_
            refine ⟨?_, xW⟩
            simp only [Bd.ofF, Bd.conF, h17, h26, h32, h40, h64, Bool.false_eq_true, if_true, if_false]
            rfl
          ·
            refine WC.skip ?_
            refine WK.then_normal (k56 _ _ ?_)
            refine WC.sub [(3, _), (6, _), (8, _), (11, _)] ⟨rfl, rfl, rfl, rfl, trivial⟩ ?_
            refine WC.seq (fun K69 k69 => ?_)
            refine WC.region rfl ?_
            refine WL.yld rfl (blt rfl) rfl (Y.move rfl rfl) ?_
            refine WL.yld rfl (blt rfl) rfl (Y.load1 rfl Try.underlying3 rfl rfl (Blk.at_eq m6 rfl)) ?_
            refine WL.yld rfl (blt rfl) rfl (Y.move rfl rfl) ?_
            refine WL.call rfl (blt rfl) rfl rfl rfl has27 rfl (number_in _ _ _ _ (Bd.nds d l id at_) _ _ _ _ m51 m52 hqN (Bd.key_in hid)) ?_
            rintro _ w70 ⟨rfl, x71⟩
            refine ⟨_, rfl, ?_⟩
            have m6 := m6.ext x71
            have m11 := m11.ext x71
            have m51 := m51.ext x71
            have m52 := m52.ext x71
            have ow53 := ow53.ext x71
            have hl61 := hl61.ext x71
            have xW := Ext.trans xW x71
            refine WL.yld rfl (blt rfl) rfl (Y.assign rfl rfl) ?_
            refine WL.nil ?_
            refine WK.then_normal (k69 _ _ ?_)
            refine WC.sub [(8, _), (11, _), (12, _)] ⟨rfl, rfl, rfl, trivial⟩ ?_
            refine WC.seq (fun K72 k72 => ?_)
            refine WC.regionX (fun W' => Ext w W' ∧ Blk W' g49 85 _ ∧ MpP W' g48 _ ∧ Ls W' A58 n59 c60 Bd.Ed.c 3 _) (.load 0 (.load 2 (.load 6 (.load 8 (.alt 1 (.load 3 (.alt 4 (.load 5 (.alt 7 (.load 9 (.alt 10 (.load 11 (.alt 12 (.load 13 (.fin)) (.none))) (.none))) (.none))) (.alt 7 (.load 9 (.alt 4 (.load 5 (.alt 10 (.load 11 (.alt 12 (.load 13 (.fin)) (.none))) (.none))) (.alt 10 (.alt 4 (.load 5 (.load 11 (.alt 12 (.load 13 (.fin)) (.none)))) (.none)) (.none)))) (.none)))) (.none)))))) ⟨xW, m51, m52, hl61⟩ (by kernel_rfl) (by kernel_rfl) (fun w73 x74 => ?_)
            have m11 := m11.ext x74
            have m51 := m51.ext x74
            have m52 := m52.ext x74
            have ow53 := ow53.ext x74
            have hl61 := hl61.ext x74
            have xW := Ext.trans xW x74
            refine WX.yld rfl rfl (blt rfl) rfl (Y.move rfl rfl) ?_
            refine WX.yld rfl rfl (blt rfl) rfl (Y.move rfl rfl) ?_
            refine WX.yld rfl rfl (blt rfl) rfl (Y.move rfl rfl) ?_
            refine WX.yld rfl rfl (blt rfl) rfl (Y.move rfl rfl) ?_
            refine WX.call rfl rfl (blt rfl) rfl rfl rfl has28 rfl ⟨xW, m51, m52, hl61⟩ (from_any _ _ _ _ _ _ _ Bd.Wm _ _ _ hl61 m51 m52 (by rw [Bd.numF_len]; rfl) rd (by have := Bd.nN_le (d := d) (l := l) (id := id) (at_ := at_) (by omega) gd.few; omega)) ?_
            rintro _ w75 ⟨v77, rfl, ow78, x76⟩
            refine ⟨_, rfl, ?_⟩
            have r_v77_g7 := ne_res ow78 m11
            have r_v77_g49 := ne_res ow78 m51
            have r_v77_g48 := ne_resMP ow78 m52
            have d_v50_v77 := (Apart.res ow78 ow53).symm
            have ow78 := OwnL.base_le ow78 xW.size
            have m11 := m11.ext x76
            have m51 := m51.ext x76
            have m52 := m52.ext x76
            have ow53 := ow53.ext x76
            have hl61 := hl61.ext x76
            have xW := Ext.trans xW x76
            obtain ⟨A79, n80, c81, rfl, hl82⟩ := OwnL.opened ow78 (fun _ => rfl) (by decide)
            have e_n80 := hl82.len
            try simp only [List.length_append, List.length_cons, List.length_nil, List.length_reverse, List.length_drop, List.length_take, List.length_map, List.length_replicate, List.length_set] at e_n80
            have z_n80 := hl82.nle
            have b83 : (Bd.nix (Bd.nds d l id at_) (id, at_)).toNat < n80 := by omega
            refine WX.yld rfl rfl (blt rfl) rfl (Y.indexLs (Bd.nix (Bd.nds d l id at_) (id, at_)).toNat hl82 rfl Try.underlying35 ti3 rfl rfl (by omega) b83) ?_
            refine WX.alt ?_ ?_
            ·
              refine WX.yldL rfl rfl (blt rfl) rfl ⟨xW, m51, m52, hl61⟩ (Y.load1 rfl Try.underlying3 rfl rfl (Ls.at_eq hl82 b83 rfl)) ?_
              refine WX.yld rfl rfl (blt rfl) rfl (Y.neg rfl rfl (wrap_i64 (by first | omega | (dsimp only; omega)))) ?_
              refine WX.call rfl rfl (blt rfl) rfl rfl rfl has28 rfl ⟨xW, m51, m52, hl61⟩ (from_any _ _ _ _ _ _ _ Bd.Wm _ _ _ hl61 m51 m52 (by rw [Bd.numF_len]; rfl) rd (by have := Bd.nN_le (d := d) (l := l) (id := id) (at_ := at_) (by omega) gd.few; omega)) ?_
              rintro _ w84 ⟨v86, rfl, ow87, x85⟩
              refine ⟨_, rfl, ?_⟩
              have r_v86_g7 := ne_res ow87 m11
              have r_v86_g49 := ne_res ow87 m51
              have r_v86_g48 := ne_resMP ow87 m52
              have d_v50_v86 := (Apart.res ow87 ow53).symm
              have d_v77_v86 := (Apart.res ow87 ow78).symm
              have ow87 := OwnL.base_le ow87 xW.size
              have m11 := m11.ext x85
              have m51 := m51.ext x85
              have m52 := m52.ext x85
              have ow53 := ow53.ext x85
              have hl61 := hl61.ext x85
              have ow78 := ow78.ext x85
              have hl82 := hl82.ext x85
              have xW := Ext.trans xW x85
              obtain ⟨A88, n89, c90, rfl, hl91⟩ := OwnL.opened ow87 (fun _ => rfl) (by decide)
              have e_n89 := hl91.len
              try simp only [List.length_append, List.length_cons, List.length_nil, List.length_reverse, List.length_drop, List.length_take, List.length_map, List.length_replicate, List.length_set] at e_n89
              have z_n89 := hl91.nle
              have b92 : (Bd.nix (Bd.nds d l id at_) (id, at_)).toNat < n89 := by omega
              refine WX.yld rfl rfl (blt rfl) rfl (Y.indexLs (Bd.nix (Bd.nds d l id at_) (id, at_)).toNat hl91 rfl Try.underlying35 ti3 rfl rfl (by omega) b92) ?_
              refine WX.yldL rfl rfl (blt rfl) rfl ⟨xW, m51, m52, hl61⟩ (Y.load1 rfl Try.underlying3 rfl rfl (Ls.at_eq hl91 b92 rfl)) ?_
              refine WX.yld rfl rfl (blt rfl) rfl (Y.build (cells := [_, _]) rfl pl29 rfl rfl) ?_
              refine WX.storeB (cs' := [_, _]) rfl ⟨xW, m51, m52, hl61⟩ rfl rfl rfl rfl rfl rfl ti29 m11 (ble rfl) rfl rfl (fun w93 on94 m95 => ?_)
              have m51 := m51.only n_g7_g49.symm on94
              have m52 := m52.only n_g7_g48.symm on94
              have ow53 := ow53.only r_v50_g7 on94
              have hl61 := OwnL.ls ow53 (fun _ => rfl) (by decide)
              have ow78 := ow78.only r_v77_g7 on94
              have hl82 := OwnL.ls ow78 (fun _ => rfl) (by decide)
              have ow87 := ow87.only r_v86_g7 on94
              have hl91 := OwnL.ls ow87 (fun _ => rfl) (by decide)
              have xW := Ext.only xW on94 o_g7
              refine WX.yld rfl rfl (blt rfl) rfl (Y.assign rfl rfl) ?_
              refine WX.nil ⟨xW, m51, m52, hl61⟩ ?_
              refine WK.then_normal (k72 _ _ ?_)
              refine WC.sub [(8, _), (9, _)] ⟨rfl, rfl, trivial⟩ ?_
              refine WC.ret ?_
              clear k1 k12 k13 k16 k22 k23 k31 k37 k45 k56 k57 k69 k72
              refine WK.ret [_, _] rfl ⟨⟨_, rfl, run_loadVar_blk Try.underlying29 rfl ti29 m95⟩, rfl, trivial⟩ ?_
              refine ⟨?_, xW⟩
              simp only [Bd.ofF, Bd.conF, h17, h26, h32, h40, h64, Bool.false_eq_true, if_true, if_false]
              rfl
            refine WX.call rfl rfl (blt rfl) rfl rfl rfl has28 rfl ⟨xW, m51, m52, hl61⟩ (from_any _ _ _ _ _ _ _ Bd.Wm _ _ _ hl61 m51 m52 (by rw [Bd.numF_len]; rfl) rd (by have := Bd.nN_le (d := d) (l := l) (id := id) (at_ := at_) (by omega) gd.few; omega)) ?_
            rintro _ w96 ⟨v98, rfl, ow99, x97⟩
            refine ⟨_, rfl, ?_⟩
            have r_v98_g7 := ne_res ow99 m11
            have r_v98_g49 := ne_res ow99 m51
            have r_v98_g48 := ne_resMP ow99 m52
            have d_v50_v98 := (Apart.res ow99 ow53).symm
            have d_v77_v98 := (Apart.res ow99 ow78).symm
            have ow99 := OwnL.base_le ow99 xW.size
            have m11 := m11.ext x97
            have m51 := m51.ext x97
            have m52 := m52.ext x97
            have ow53 := ow53.ext x97
            have hl61 := hl61.ext x97
            have ow78 := ow78.ext x97
            have hl82 := hl82.ext x97
            have xW := Ext.trans xW x97
            obtain ⟨A100, n101, c102, rfl, hl103⟩ := OwnL.opened ow99 (fun _ => rfl) (by decide)
            have e_n101 := hl103.len
            try simp only [List.length_append, List.length_cons, List.length_nil, List.length_reverse, List.length_drop, List.length_take, List.length_map, List.length_replicate, List.length_set] at e_n101
            have z_n101 := hl103.nle
            have b104 : (Bd.nix (Bd.nds d l id at_) (id, at_)).toNat < n101 := by omega
            refine WX.yld rfl rfl (blt rfl) rfl (Y.indexLs (Bd.nix (Bd.nds d l id at_) (id, at_)).toNat hl103 rfl Try.underlying35 ti3 rfl rfl (by omega) b104) ?_
            refine WX.alt ?_ ?_
            ·
              refine WX.yldL rfl rfl (blt rfl) rfl ⟨xW, m51, m52, hl61⟩ (Y.load1 rfl Try.underlying3 rfl rfl (Ls.at_eq hl82 b83 rfl)) ?_
              refine WX.yld rfl rfl (blt rfl) rfl (Y.neg rfl rfl (wrap_i64 (by first | omega | (dsimp only; omega)))) ?_
              refine WX.yldL rfl rfl (blt rfl) rfl ⟨xW, m51, m52, hl61⟩ (Y.load1 rfl Try.underlying3 rfl rfl (Ls.at_eq hl103 b104 rfl)) ?_
              refine WX.yld rfl rfl (blt rfl) rfl (Y.build (cells := [_, _]) rfl pl29 rfl rfl) ?_
              refine WX.storeB (cs' := [_, _]) rfl ⟨xW, m51, m52, hl61⟩ rfl rfl rfl rfl rfl rfl ti29 m11 (ble rfl) rfl rfl (fun w105 on106 m107 => ?_)
              have m51 := m51.only n_g7_g49.symm on106
              have m52 := m52.only n_g7_g48.symm on106
              have ow53 := ow53.only r_v50_g7 on106
              have hl61 := OwnL.ls ow53 (fun _ => rfl) (by decide)
              have ow78 := ow78.only r_v77_g7 on106
              have hl82 := OwnL.ls ow78 (fun _ => rfl) (by decide)
              have ow99 := ow99.only r_v98_g7 on106
              have hl103 := OwnL.ls ow99 (fun _ => rfl) (by decide)
              have xW := Ext.only xW on106 o_g7
              refine WX.yld rfl rfl (blt rfl) rfl (Y.assign rfl rfl) ?_
              refine WX.nil ⟨xW, m51, m52, hl61⟩ ?_
              refine WK.then_normal (k72 _ _ ?_)
              refine WC.sub [(8, _), (9, _)] ⟨rfl, rfl, trivial⟩ ?_
              refine WC.ret ?_
              clear k1 k12 k13 k16 k22 k23 k31 k37 k45 k56 k57 k69 k72
              refine WK.ret [_, _] rfl ⟨⟨_, rfl, run_loadVar_blk Try.underlying29 rfl ti29 m107⟩, rfl, trivial⟩ ?_
              refine ⟨?_, xW⟩
              simp only [Bd.ofF, Bd.conF, h17, h26, h32, h40, h64, Bool.false_eq_true, if_true, if_false]
              rfl
            refine WX.yldL rfl rfl (blt rfl) rfl ⟨xW, m51, m52, hl61⟩ (Y.load1 rfl Try.underlying3 rfl rfl (Ls.at_eq hl103 b104 rfl)) ?_
            refine WX.yldL rfl rfl (blt rfl) rfl ⟨xW, m51, m52, hl61⟩ (Y.load1 rfl Try.underlying3 rfl rfl (Ls.at_eq hl82 b83 rfl)) ?_
            refine WX.yld rfl rfl (blt rfl) rfl (Y.neg rfl rfl (wrap_i64 (by first | omega | (dsimp only; omega)))) ?_
            refine WX.yld rfl rfl (blt rfl) rfl (Y.build (cells := [_, _]) rfl pl29 rfl rfl) ?_
            refine WX.storeB (cs' := [_, _]) rfl ⟨xW, m51, m52, hl61⟩ rfl rfl rfl rfl rfl rfl ti29 m11 (ble rfl) rfl rfl (fun w108 on109 m110 => ?_)
            have m51 := m51.only n_g7_g49.symm on109
            have m52 := m52.only n_g7_g48.symm on109
            have ow53 := ow53.only r_v50_g7 on109
            have hl61 := OwnL.ls ow53 (fun _ => rfl) (by decide)
            have ow78 := ow78.only r_v77_g7 on109
            have hl82 := OwnL.ls ow78 (fun _ => rfl) (by decide)
            have ow99 := ow99.only r_v98_g7 on109
            have hl103 := OwnL.ls ow99 (fun _ => rfl) (by decide)
            have xW := Ext.only xW on109 o_g7
            refine WX.yld rfl rfl (blt rfl) rfl (Y.assign rfl rfl) ?_
            refine WX.nil ⟨xW, m51, m52, hl61⟩ ?_
            refine WK.then_normal (k72 _ _ ?_)
            refine WC.sub [(8, _), (9, _)] ⟨rfl, rfl, trivial⟩ ?_
            refine WC.ret ?_
            clear k1 k12 k13 k16 k22 k23 k31 k37 k45 k56 k57 k69 k72
            refine WK.ret [_, _] rfl ⟨⟨_, rfl, run_loadVar_blk Try.underlying29 rfl ti29 m110⟩, rfl, trivial⟩ ?_
            refine ⟨?_, xW⟩
            simp only [Bd.ofF, Bd.conF, h17, h26, h32, h40, h64, Bool.false_eq_true, if_true, if_false]
            rfl
end OF
end BdW

end Go.Proofs.Ytaglpampidlbmaa
