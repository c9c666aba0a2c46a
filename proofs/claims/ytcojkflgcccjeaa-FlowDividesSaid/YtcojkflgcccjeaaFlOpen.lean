/- Contracts: the open numbers. Conditions: what each theorem states. -/
import Derived.Test.YtcojkflgcccjeaaFlRef
import Derived.Test.YtcojkflgcccjeaaFlSort
namespace Go.Proofs.Ytcojkflgcccjeaa
open Go Go.Eng Go.RowKit
set_option linter.unusedVariables false
namespace FlW
open R
namespace O
theorem ti3 : TI Try.prog 3 (.int .i64 0) 1 8 := TI.mk (by kernel_rfl)
theorem ti35 : TI Try.prog 35 (.int .i64 0) 1 8 := TI.mk (by kernel_rfl)
theorem ti38 : TI Try.prog 38 (.agg #[.int .i64 0, .int .i64 0, .string ⟨#[]⟩, .int .i64 0, .int .i64 0, .slice none 0 0]) 6 72 := TI.mk (by kernel_rfl)
theorem ti44 : TI Try.prog 44 (.agg #[.int .i64 0, .int .i64 0, .int .i64 0, .int .i64 0, .string ⟨#[]⟩, .int .i64 0, .int .i64 0, .slice none 0 0, .int .i64 0, .int .i64 0]) 10 104 := TI.mk (by kernel_rfl)
theorem has26 : Has Try.prog 26 := ⟨_, Try.func26, rfl, by kernel_rfl⟩
theorem has27 : Has Try.prog 27 := ⟨_, Try.func27, rfl, by kernel_rfl⟩
theorem keys_any (b : Nat) (w : World) :
    Calls Try.prog 27 #[.map (some b)] w fun e w' => ∃ g, e = .returned (.func (.func 35) #[] #[.pointer (some ⟨g, 0, none⟩)]) ∧ g = w.heap.size ∧ Blk w' g 57 [.map (some b)] ∧ Ext w w' := by
  have xW := Ext.refl w
  refine calls_of_WC (args := [.map (some b)]) Try.func27 rfl rfl (ble rfl) ?_
  refine WC.seq (fun K1 k1 => ?_)
  refine WC.region rfl ?_
  refine WL.box rfl (blt rfl) rfl rfl rfl rfl ?_
  intro g2 w3 e4 x5 m6
  have o_g2 := own_new xW e4
  have xW := Ext.trans xW x5
  refine WL.yld rfl (blt rfl) rfl (Y.assign rfl rfl) ?_
  refine WL.nil ?_
  refine WK.then_normal (k1 _ _ ?_)
  refine WC.sub [(1, _)] ⟨rfl, trivial⟩ ?_
  refine WC.seq (fun K7 k7 => ?_)
  refine WC.region rfl ?_
  refine WL.yld rfl (blt rfl) rfl (Y.func rfl rfl rfl) ?_
  refine WL.yld rfl (blt rfl) rfl (Y.assign rfl rfl) ?_
  refine WL.nil ?_
  refine WK.then_normal (k7 _ _ ?_)
  refine WC.sub [(2, _)] ⟨rfl, trivial⟩ ?_
  refine WC.ret ?_
  clear k1 k7
  refine WK.ret [_] rfl ⟨rfl, trivial⟩ ?_
  exact ⟨_, rfl, e4, m6, xW⟩
theorem open_any (A_o : Option Addr) (n_o c_o : Nat) (o : List Fl.Ev) (w : World) (h_o : Ls w A_o n_o c_o Fl.Ev.c 10 o) (hn : n_o ≤ 1000) (hw : ∀ x ∈ o, (Lit.int .i64 x.n).wf = true) :
    Calls Try.prog 14 #[.slice A_o n_o c_o] w fun e w' => ∃ v, e = .returned v ∧ OwnL w' w.heap.size 3 Fl.ic 1 v (Fl.openF o) ∧ Ext w w' := by
  have xW := Ext.refl w
  have e_o := h_o.len
  have z_o := h_o.nle
  refine calls_of_WC (args := [.slice A_o n_o c_o]) Try.func14 rfl rfl (ble rfl) ?_
  refine WC.seq (fun K1 k1 => ?_)
  refine WC.region rfl ?_
  refine WL.yld rfl (blt rfl) rfl (Y.assign rfl rfl) ?_
  refine WL.nil ?_
  refine WK.then_normal (k1 _ _ ?_)
  refine WC.sub [(0, _)] ⟨rfl, trivial⟩ ?_
  refine WC.seq (fun K2 k2 => ?_)
  refine WC.region rfl ?_
  refine WL.makeMap rfl (blt rfl) rfl rfl ?_
  intro g3 w4 e5 x6 m7
  have o_g3 := own_new xW e5
  have xW := Ext.trans xW x6
  refine WL.yld rfl (blt rfl) rfl (Y.assign rfl rfl) ?_
  refine WL.nil ?_
  refine WK.then_normal (k2 _ _ ?_)
  refine WC.sub [(0, _), (3, _)] ⟨rfl, rfl, trivial⟩ ?_
  refine WC.seq (fun K8 k8 => ?_)
  refine WC.seq (fun K9 k9 => ?_)
  refine WC.region rfl ?_
  refine WL.yld rfl (blt rfl) rfl (Y.move rfl rfl) ?_
  refine WL.yld rfl (blt rfl) rfl (Y.lenSl rfl rfl rfl Try.underlying22 rfl) ?_
  refine WL.yld rfl (blt rfl) rfl (Y.move rfl rfl) ?_
  refine WL.nil ?_
  refine WK.then_normal (k9 _ _ ?_)
  refine WC.sub [(3, _), (7, _), (8, _), (9, _)] ⟨rfl, rfl, rfl, rfl, trivial⟩ ?_
  refine WC.block ?_
  refine WC.sub [(9, _), (3, _), (7, _), (8, _)] ⟨rfl, rfl, rfl, rfl, trivial⟩ ?_
  refine WC.loopS 1 (fun mz Ed W' => ∃ i : Nat, mz = n_o - i ∧ Ed = [(9, .int .i64 ((i : Nat) : Int))] ∧ Ext w W' ∧ Mp W' g3 (Fl.opn (o.take i)) ∧ (i ≤ n_o)) _ ⟨0, rfl, rfl, xW, m7, (Nat.zero_le _)⟩ ?_
  rintro _ _ w10 ⟨i, rfl, rfl, xW, m7, le_i⟩
  refine WC.sub [(9, _), (3, _), (7, _), (8, _)] ⟨rfl, rfl, rfl, rfl, trivial⟩ ?_
  refine WC.seq (fun K11 k11 => ?_)
  refine WC.region rfl ?_
  refine WL.yld rfl (blt rfl) rfl (Y.lss rfl rfl rfl) ?_
  refine WL.nil ?_
  refine WK.then_normal (k11 _ _ ?_)
  refine WC.seq (fun K12 k12 => ?_)
  refine WC.cond rfl (fun h13 => ?_) (fun h13 => ?_)
  ·
    have p13 := (dec_t h13)
    refine WC.skip ?_
    refine WK.then_normal (k12 _ _ ?_)
    refine WC.sub [(3, _), (7, _), (8, _), (9, _)] ⟨rfl, rfl, rfl, rfl, trivial⟩ ?_
    refine WC.seq (fun K14 k14 => ?_)
    refine WC.block ?_
    refine WC.seq (fun K15 k15 => ?_)
    refine WC.region rfl ?_
    have b16 : i < n_o := by omega
    refine WL.yld rfl (blt rfl) rfl (Y.indexLs i (h_o.ext xW) rfl Try.underlying22 ti44 rfl rfl rfl b16) ?_
    refine WL.yld rfl (blt rfl) rfl (Y.loadS (cs := [_, _, _, _, _, _, _, _, _, _]) rfl Try.underlying44 rfl ti44 rfl (Ls.part_eq (h_o.ext xW) b16 rfl)) ?_
    refine WL.alloc rfl (blt rfl) rfl rfl ti44 rfl ?_
    intro g17 w18 e19 x20 m21
    have n_g3_g17 := ne_newM m7 e19
    have o_g17 := own_new xW e19
    have m7 := m7.ext x20
    have xW := Ext.trans xW x20
    refine WL.store (cs' := [_, _, _, _, _, _, _, _, _, _]) rfl rfl rfl rfl rfl rfl ti44 m21 (ble rfl) rfl rfl (fun w22 on23 m24 => ?_)
    have m7 := m7.only n_g3_g17 on23
    have xW := Ext.only xW on23 o_g17
    refine WL.nil ?_
    refine WK.then_normal (k15 _ _ ?_)
    refine WC.sub [(3, _), (5, _), (7, _), (8, _), (9, _)] ⟨rfl, rfl, rfl, rfl, rfl, trivial⟩ ?_
    refine WC.seq (fun K25 k25 => ?_)
    refine WC.region rfl ?_
    refine WL.yld rfl (blt rfl) rfl (Y.fieldAddr rfl Try.underlying44 rfl ti38 (by decide) rfl) ?_
    refine WL.yld rfl (blt rfl) rfl (Y.fieldAddr rfl Try.underlying38 rfl ti35 (by decide) rfl) ?_
    refine WL.yld rfl (blt rfl) rfl (Y.load1 rfl Try.underlying35 rfl rfl (Blk.at_eq m24 rfl)) ?_
    refine WL.nil ?_
    refine WK.then_normal (k25 _ _ ?_)
    refine WC.sub [(3, _), (5, _), (7, _), (8, _), (9, _), (15, _)] ⟨rfl, rfl, rfl, rfl, rfl, rfl, trivial⟩ ?_
    refine WC.block ?_
    refine WC.seq (fun K26 k26 => ?_)
    refine WC.region rfl ?_
    refine WL.yld rfl (blt rfl) rfl (Y.eql rfl rfl rfl) ?_
    refine WL.yld rfl (blt rfl) rfl (Y.assign rfl rfl) ?_
    refine WL.nil ?_
    refine WK.then_normal (k26 _ _ ?_)
    refine WC.sub [(3, _), (5, _), (7, _), (8, _), (9, _), (15, _), (16, _)] ⟨rfl, rfl, rfl, rfl, rfl, rfl, rfl, trivial⟩ ?_
    refine WC.cond rfl (fun h27 => ?_) (fun h27 => ?_)
    ·
      have p27 := (eq_t h27)
      refine WC.region rfl ?_
      refine WL.yld rfl (blt rfl) rfl (Y.move rfl rfl) ?_
      refine WL.yld rfl (blt rfl) rfl (Y.fieldAddr rfl Try.underlying44 rfl ti38 (by decide) rfl) ?_
      refine WL.yld rfl (blt rfl) rfl (Y.fieldAddr rfl Try.underlying38 rfl ti3 (by decide) rfl) ?_
      refine WL.yld rfl (blt rfl) rfl (Y.load1 rfl Try.underlying3 rfl rfl (Blk.at_eq m24 rfl)) ?_
      refine WL.mapUpdate rfl rfl (.inl rfl) Try.underlying57 Try.underlying3 rfl rfl rfl m7 (fun w28 on29 m30 => ?_)
      have m24 := m24.only n_g3_g17.symm on29
      have xW := Ext.only xW on29 o_g3
      refine WL.nil ?_
      refine WK.in_normal ?_
      refine WK.in_normal ?_
      refine WK.then_normal (k14 _ _ ?_)
      refine WC.sub [(3, _), (7, _), (8, _), (9, _)] ⟨rfl, rfl, rfl, rfl, trivial⟩ ?_
      refine WC.region rfl ?_
      refine WL.yld rfl (blt rfl) rfl (Y.add rfl rfl rfl (wrap_i64 (by first | omega | (dsimp only; omega)))) ?_
      refine WL.yld rfl (blt rfl) rfl (Y.move rfl rfl) ?_
      refine WL.nil ?_
      refine WK.roundS _ [(9, .int .i64 (((i + 1) : Nat) : Int))] ⟨rfl, rfl, rfl, rfl, trivial⟩ ?_ ⟨(i + 1), rfl, rfl, xW, (by rw [Fl.opn_take o (show i < o.length from by omega)]; simp only [Fl.stepO, h27, Bool.false_eq_true, if_true, if_false]; exact m30), (by omega)⟩
      show _ - (i + 1) < _ - i; omega
    ·
      have p27 := (eq_f h27)
      refine WC.seq (fun K31 k31 => ?_)
      refine WC.region rfl ?_
      refine WL.yld rfl (blt rfl) rfl (Y.eql rfl rfl rfl) ?_
      refine WL.yld rfl (blt rfl) rfl (Y.assign rfl rfl) ?_
      refine WL.nil ?_
      refine WK.then_normal (k31 _ _ ?_)
      refine WC.sub [(3, _), (5, _), (7, _), (8, _), (9, _), (22, _)] ⟨rfl, rfl, rfl, rfl, rfl, rfl, trivial⟩ ?_
      refine WC.cond rfl (fun h32 => ?_) (fun h32 => ?_)
      ·
        have p32 := (eq_t h32)
        refine WC.region rfl ?_
        refine WL.yld rfl (blt rfl) rfl (Y.move rfl rfl) ?_
        refine WL.yld rfl (blt rfl) rfl (Y.fieldAddr rfl Try.underlying44 rfl ti38 (by decide) rfl) ?_
        refine WL.yld rfl (blt rfl) rfl (Y.fieldAddr rfl Try.underlying38 rfl ti3 (by decide) rfl) ?_
        refine WL.yld rfl (blt rfl) rfl (Y.load1 rfl Try.underlying3 rfl rfl (Blk.at_eq m24 rfl)) ?_
        refine WL.delete rfl rfl rfl rfl rfl Try.underlying57 Try.underlying3 rfl m7 (fun w33 on34 m35 => ?_)
        have m24 := m24.only n_g3_g17.symm on34
        have xW := Ext.only xW on34 o_g3
        refine WL.nil ?_
        refine WK.in_normal ?_
        refine WK.in_normal ?_
        refine WK.then_normal (k14 _ _ ?_)
        refine WC.sub [(3, _), (7, _), (8, _), (9, _)] ⟨rfl, rfl, rfl, rfl, trivial⟩ ?_
        refine WC.region rfl ?_
        refine WL.yld rfl (blt rfl) rfl (Y.add rfl rfl rfl (wrap_i64 (by first | omega | (dsimp only; omega)))) ?_
        refine WL.yld rfl (blt rfl) rfl (Y.move rfl rfl) ?_
        refine WL.nil ?_
        refine WK.roundS _ [(9, .int .i64 (((i + 1) : Nat) : Int))] ⟨rfl, rfl, rfl, rfl, trivial⟩ ?_ ⟨(i + 1), rfl, rfl, xW, (by rw [Fl.opn_take o (show i < o.length from by omega)]; simp only [Fl.stepO, h27, h32, Bool.false_eq_true, if_true, if_false]; exact m35), (by omega)⟩
        show _ - (i + 1) < _ - i; omega
      ·
        have p32 := (eq_f h32)
        refine WC.skip ?_
        refine WK.in_normal ?_
        refine WK.in_normal ?_
        refine WK.then_normal (k14 _ _ ?_)
        refine WC.sub [(3, _), (7, _), (8, _), (9, _)] ⟨rfl, rfl, rfl, rfl, trivial⟩ ?_
        refine WC.region rfl ?_
        refine WL.yld rfl (blt rfl) rfl (Y.add rfl rfl rfl (wrap_i64 (by first | omega | (dsimp only; omega)))) ?_
        refine WL.yld rfl (blt rfl) rfl (Y.move rfl rfl) ?_
        refine WL.nil ?_
        refine WK.roundS _ [(9, .int .i64 (((i + 1) : Nat) : Int))] ⟨rfl, rfl, rfl, rfl, trivial⟩ ?_ ⟨(i + 1), rfl, rfl, xW, (by rw [Fl.opn_take o (show i < o.length from by omega)]; simp only [Fl.stepO, h27, h32, Bool.false_eq_true, if_true, if_false]; exact m7), (by omega)⟩
        show _ - (i + 1) < _ - i; omega
  ·
    have p13 := (dec_f h13)
    rw [show o.take i = o from List.take_of_length_le (by omega)] at *
    refine WC.exit ?_
    refine WK.then_exit ?_
    refine WK.then_exit ?_
    refine WK.in_exit ?_
    refine WK.then_normal (k8 _ _ ?_)
    refine WC.sub [(3, _)] ⟨rfl, trivial⟩ ?_
    refine WC.seq (fun K36 k36 => ?_)
    refine WC.region rfl ?_
    refine WL.yld rfl (blt rfl) rfl (Y.move rfl rfl) ?_
    refine WL.call rfl (blt rfl) rfl rfl rfl has27 rfl (keys_any _ _ ) ?_
    rintro _ w37 ⟨g39, rfl, e40, m41, x38⟩
    refine ⟨_, rfl, ?_⟩
    have n_g3_g39 := ne_newM m7 e40
    have o_g39 := own_new xW e40
    have m7 := m7.ext x38
    have xW := Ext.trans xW x38
    refine WL.call rfl (blt rfl) rfl rfl rfl has26 rfl (sorted_any _ _ _ _ m41 m7 (Fl.opn_fit hw) (Nat.le_trans (Fl.opn_len o) (by omega))) ?_
    rintro _ w42 ⟨v44, rfl, ow45, x43⟩
    refine ⟨_, rfl, ?_⟩
    have r_v44_g3 := ne_resM ow45 m7
    have r_v44_g39 := ne_res ow45 m41
    have ow45 := OwnL.base_le ow45 xW.size
    have m7 := m7.ext x43
    have m41 := m41.ext x43
    have xW := Ext.trans xW x43
    refine WL.yld rfl (blt rfl) rfl (Y.assign rfl rfl) ?_
    refine WL.nil ?_
    refine WK.then_normal (k36 _ _ ?_)
    refine WC.sub [(2, _)] ⟨rfl, trivial⟩ ?_
    refine WC.ret ?_
    clear k1 k2 k8 k9 k11 k12 k36
    refine WK.ret [_] rfl ⟨rfl, trivial⟩ ?_
    exact ⟨_, rfl, ow45, xW⟩
end O
end FlW

end Go.Proofs.Ytcojkflgcccjeaa
