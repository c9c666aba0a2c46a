/- The walk of SyntaxNests. Conditions: what each theorem states. -/
import Derived.Test.YtklccakoblibmaaSxCal
import Derived.Test.YtklccakoblibmaaSxLw
namespace Go.Proofs.Ytklccakoblibmaa
open Go Go.Eng Go.RowKit
set_option linter.unusedVariables false
set_option linter.unusedSimpArgs false
namespace SxW
open B C D E G S T U V W X Y Z Z2 AA AB
namespace SyntaxNests
theorem ti25 : TI Try.prog 25 (.agg #[.int .i64 0, .int .i64 0, .string ⟨#[]⟩]) 3 32 := TI.mk (by kernel_rfl)
theorem ti28 : TI Try.prog 28 (.agg #[.int .i64 0, .string ⟨#[]⟩, .int .i64 0, .int .i64 0, .string ⟨#[]⟩, .slice none 0 0]) 6 80 := TI.mk (by kernel_rfl)
theorem has9 : Has Try.prog 9 := ⟨_, Try.func9, rfl, by kernel_rfl⟩
theorem has11 : Has Try.prog 11 := ⟨_, Try.func11, rfl, by kernel_rfl⟩
theorem pl25 : PL Try.prog 25 [.int .i64 0, .int .i64 0, .string ⟨#[]⟩] [(0, 1), (1, 1), (2, 1)] := PL.mk (zero := [.int .i64 0, .int .i64 0, .string ⟨#[]⟩]) ti25 Try.underlying25 (by kernel_rfl)
theorem pl28 : PL Try.prog 28 [.int .i64 0, .string ⟨#[]⟩, .int .i64 0, .int .i64 0, .string ⟨#[]⟩, .slice none 0 0] [(0, 1), (1, 1), (2, 3), (5, 1)] := PL.mk (zero := [.int .i64 0, .string ⟨#[]⟩, .int .i64 0, .int .i64 0, .string ⟨#[]⟩, .slice none 0 0]) ti28 Try.underlying28 (by kernel_rfl)
theorem SyntaxNests_any (n : Int) (w : World) (r_n : 0 ≤ n ∧ n ≤ 255) :
    Calls Try.prog 8 #[.int .u8 n] w fun e w' => e = .returned (.bool true) ∧ Ext w w' := by
  have xW := Ext.refl w
  refine calls_of_WC (args := [.int .u8 n]) Try.func8 rfl rfl (ble rfl) ?_
  refine WC.seq (fun K1 k1 => ?_)
  refine WC.region rfl ?_
  refine WL.yld rfl (blt rfl) rfl (Y.assign rfl rfl) ?_
  refine WL.nil ?_
  refine WK.then_normal (k1 _ _ ?_)
  refine WC.sub [(0, _)] ⟨rfl, trivial⟩ ?_
  refine WC.seq (fun K2 k2 => ?_)
  refine WC.region rfl ?_
  refine WL.yld rfl (blt rfl) rfl (Y.build (cells := [_, _, _]) rfl pl25 rfl rfl) ?_
  refine WL.yld rfl (blt rfl) rfl (Y.build (cells := [_, _, _, _, _, _]) rfl pl28 rfl rfl) ?_
  refine WL.alloc rfl (blt rfl) rfl rfl ti28 rfl ?_
  intro g3 w4 e5 x6 m7
  have o_g3 := own_new xW e5
  have xW := Ext.trans xW x6
  refine WL.store (cs' := [_, _, _, _, _, _]) rfl rfl rfl rfl rfl rfl ti28 m7 (ble rfl) rfl rfl (fun w8 on9 m10 => ?_)
  have xW := Ext.only xW on9 o_g3
  refine WL.nil ?_
  refine WK.then_normal (k2 _ _ ?_)
  refine WC.sub [(0, _), (3, _)] ⟨rfl, rfl, trivial⟩ ?_
  refine WC.seq (fun K11 k11 => ?_)
  refine WC.seq (fun K12 k12 => ?_)
  refine WC.region rfl ?_
  refine WL.yld rfl (blt rfl) rfl (Y.assign rfl rfl) ?_
  refine WL.nil ?_
  refine WK.then_normal (k12 _ _ ?_)
  refine WC.block ?_
  refine WC.sub [(4, _), (0, _), (3, _)] ⟨rfl, rfl, rfl, trivial⟩ ?_
  refine WC.loopS 1 (fun mz Ed W' => ∃ i : Nat, ∃ x : Sx.E, mz = (n % 60).toNat - i ∧ Ed = [(4, .int .i64 ((i : Nat) : Int))] ∧ Ext w W' ∧ Blk W' g3 28 [.int .i64 x.op, .string x.nm, .int .i64 x.vk, .int .i64 x.vn, .string x.vs, .slice x.A x.n x.c] ∧ (((i : Nat) : Int) ≤ n % 60) ∧ (Sx.NG g3 W' i x)) _ ⟨0, (Sx.E.mk 1 ⟨#[]⟩ 1 1 ⟨#[]⟩ none 0 0 []), rfl, rfl, xW, m10, (by omega), rfl⟩ ?_
  rintro _ _ w13 ⟨i, x, rfl, rfl, xW, m10, le_i, ng⟩
  refine WC.sub [(4, _), (0, _), (3, _)] ⟨rfl, rfl, rfl, trivial⟩ ?_
  refine WC.seq (fun K14 k14 => ?_)
  refine WC.seq (fun K15 k15 => ?_)
  refine WC.region rfl ?_
  refine WL.yld rfl (blt rfl) rfl (Y.move rfl rfl) ?_
  refine WL.yld rfl (blt rfl) rfl (Y.move rfl rfl) ?_
  refine WL.yld rfl (blt rfl) rfl (Y.rem rfl rfl rfl (by omega) (rem_pos (by omega))) ?_
  refine WL.yld rfl (blt rfl) rfl (Y.convInt rfl Try.underlying5 Try.underlying3 rfl (wrap_i64 (by first | omega | (dsimp only; omega)))) ?_
  refine WL.yld rfl (blt rfl) rfl (Y.lss rfl rfl rfl) ?_
  refine WL.nil ?_
  refine WK.then_normal (k15 _ _ ?_)
  refine WC.sub [(0, _), (3, _), (4, _), (12, _)] ⟨rfl, rfl, rfl, rfl, trivial⟩ ?_
  refine WC.cond rfl (fun h16 => ?_) (fun h16 => ?_)
  ·
    have p16 := (dec_t h16)
    refine WC.skip ?_
    refine WK.then_normal (k14 _ _ ?_)
    refine WC.sub [(0, _), (3, _), (4, _)] ⟨rfl, rfl, rfl, trivial⟩ ?_
    refine WC.seq (fun K17 k17 => ?_)
    refine WC.block ?_
    refine WC.region rfl ?_
    refine WL.yld rfl (blt rfl) rfl (Y.loadS rfl Try.underlying28 rfl ti28 rfl (Blk.row_eq m10)) ?_
    refine WL.bslice (zs := [.int .i64 0, .string ⟨#[]⟩, .int .i64 0, .int .i64 0, .string ⟨#[]⟩, .slice none 0 0]) (cs := [_, _, _, _, _, _]) rfl (blt rfl) rfl rfl Try.underlying26 ti28 rfl (ble rfl) (by kernel_rfl) rfl rfl ?_
    intro g18 w19 e20 x21 m22
    have n_g3_g18 := ne_new m10 e20
    have o_g18 := own_new xW e20
    have m10 := m10.ext x21
    have ng := ng.ext x21
    have xW := Ext.trans xW x21
    refine WL.yld rfl (blt rfl) rfl (Y.build (cells := [_, _, _, _, _, _]) rfl pl28 rfl rfl) ?_
    refine WL.store (cs' := [_, _, _, _, _, _]) rfl rfl rfl rfl rfl rfl ti28 m10 (ble rfl) rfl rfl (fun w23 on24 m25 => ?_)
    have ng := ng.only on24
    have m22 := m22.only n_g3_g18.symm on24
    have xW := Ext.only xW on24 o_g3
    refine WL.nil ?_
    refine WK.in_normal ?_
    refine WK.then_normal (k17 _ _ ?_)
    refine WC.sub [(0, _), (3, _), (4, _)] ⟨rfl, rfl, rfl, trivial⟩ ?_
    refine WC.region rfl ?_
    refine WL.yld rfl (blt rfl) rfl (Y.move rfl rfl) ?_
    refine WL.yld rfl (blt rfl) rfl (Y.add rfl rfl rfl (wrap_i64 (by first | omega | (dsimp only; omega)))) ?_
    refine WL.yld rfl (blt rfl) rfl (Y.assign rfl rfl) ?_
    refine WL.nil ?_
    refine WK.roundS _ [(4, .int .i64 (((i + 1) : Nat) : Int))] ⟨rfl, rfl, rfl, trivial⟩ ?_ ⟨(i + 1), (Sx.E.mk 3 ⟨#[]⟩ 0 0 ⟨#[]⟩ (some ⟨g18, 0, none⟩) 1 1 [x]), rfl, rfl, xW, m25, (by omega), ⟨g18, x, rfl, n_g3_g18.symm, m22, ng⟩⟩
    show _ - (i + 1) < _ - i; omega
  ·
    have p16 := (dec_f h16)
    refine WC.exit ?_
    refine WK.then_exit ?_
    refine WK.then_exit ?_
    refine WK.in_exit ?_
    refine WK.then_normal (k11 _ _ ?_)
    refine WC.sub [(0, _), (3, _)] ⟨rfl, rfl, trivial⟩ ?_
    refine WC.seq (fun K26 k26 => ?_)
    refine WC.region rfl ?_
    refine WL.yld rfl (blt rfl) rfl (Y.loadS rfl Try.underlying28 rfl ti28 rfl (Blk.row_eq m10)) ?_
    have nx := ng.nots
    refine WL.call rfl (blt rfl) rfl rfl rfl has11 rfl (expr_any _ x _ ng.good (Sx.nots nx).2.2.2 (by have := (Sx.nots nx).1; omega)) ?_
    rintro _ w27 ⟨rfl, x28⟩
    refine ⟨_, rfl, ?_⟩
    have m10 := m10.ext x28
    have ng := ng.ext x28
    have xW := Ext.trans xW x28
    refine WL.yld rfl (blt rfl) rfl (Y.assign rfl rfl) ?_
    refine WL.nil ?_
    refine WK.then_normal (k26 _ _ ?_)
    refine WC.sub [(0, _), (5, _)] ⟨rfl, rfl, trivial⟩ ?_
    refine WC.seq (fun K29 k29 => ?_)
    refine WC.seq (fun K30 k30 => ?_)
    refine WC.region rfl ?_
    refine WL.yld rfl (blt rfl) rfl (Y.move rfl rfl) ?_
    refine WL.yld rfl (blt rfl) rfl (Y.rem rfl rfl rfl (by omega) (rem_pos (by omega))) ?_
    refine WL.yld rfl (blt rfl) rfl (Y.convInt rfl Try.underlying5 Try.underlying3 rfl (wrap_i64 (by first | omega | (dsimp only; omega)))) ?_
    refine WL.yld rfl (blt rfl) rfl (Y.add rfl rfl rfl (wrap_i64 (by first | omega | (dsimp only; omega)))) ?_
    refine WL.yld rfl (blt rfl) rfl (Y.gtr rfl rfl rfl) ?_
    refine WL.nil ?_
    refine WK.then_normal (k30 _ _ ?_)
    refine WC.sub [(5, _), (24, _)] ⟨rfl, rfl, trivial⟩ ?_
    refine WC.cond rfl (fun h31 => ?_) (fun h31 => ?_)
    ·
      have p31 := (dec_t h31)
      refine WC.seq (fun K32 k32 => ?_)
      refine WC.region rfl ?_
      refine WL.yld rfl (blt rfl) rfl (Y.move rfl rfl) ?_
      refine WL.yld rfl (blt rfl) rfl (Y.eql rfl rfl rfl) ?_
      refine WL.yld rfl (blt rfl) rfl (Y.move rfl rfl) ?_
      refine WL.callG rfl (blt rfl) rfl rfl rfl rfl rfl has9 (fun hb => rfl) (fun hb => awake_any _) (fun w33 x34 => ?_)
      have ng := ng.ext x34
      have xW := Ext.trans xW x34
      refine WL.yld rfl (blt rfl) rfl (Y.and rfl rfl rfl rfl) ?_
      refine WL.yld rfl (blt rfl) rfl (Y.assign rfl rfl) ?_
      refine WL.nil ?_
      refine WK.then_normal (k32 _ _ ?_)
      refine WC.sub [(2, _)] ⟨rfl, trivial⟩ ?_
      refine WC.ret ?_
      refine WK.then_ret ?_
      clear k1 k2 k11 k12 k14 k15 k26 k29 k30 k32
      refine WK.ret [_] rfl ⟨rfl, trivial⟩ ?_
      refine ⟨ret1 (vb ?_), xW⟩
      have q0 := h31
      simp only [Bool.and_eq_true, Bool.or_eq_true, Bool.not_eq_true', Bool.and_eq_false_iff, Bool.or_eq_false_iff, Bool.not_eq_false', decide_eq_true_eq, decide_eq_false_iff_not, beq_iff_eq, beq_eq_false_iff_ne, ne_eq] at q0
      rw [Sx.nots_ex nx (by omega), if_pos (by omega)]
      rfl
    ·
      have p31 := (dec_f h31)
      refine WC.skip ?_
      refine WK.then_normal (k29 _ _ ?_)
      refine WC.sub [(5, _)] ⟨rfl, trivial⟩ ?_
      refine WC.seq (fun K35 k35 => ?_)
      refine WC.region rfl ?_
      refine WL.yld rfl (blt rfl) rfl (Y.move rfl rfl) ?_
      refine WL.yld rfl (blt rfl) rfl (Y.eql rfl rfl rfl) ?_
      refine WL.yld rfl (blt rfl) rfl (Y.move rfl rfl) ?_
      refine WL.callG rfl (blt rfl) rfl rfl rfl rfl rfl has9 (fun hb => rfl) (fun hb => awake_any _) (fun w36 x37 => ?_)
      have ng := ng.ext x37
      have xW := Ext.trans xW x37
      refine WL.yld rfl (blt rfl) rfl (Y.and rfl rfl rfl rfl) ?_
      refine WL.yld rfl (blt rfl) rfl (Y.assign rfl rfl) ?_
      refine WL.nil ?_
      refine WK.then_normal (k35 _ _ ?_)
      refine WC.sub [(2, _)] ⟨rfl, trivial⟩ ?_
      refine WC.ret ?_
      clear k1 k2 k11 k12 k14 k15 k26 k29 k30 k35
      refine WK.ret [_] rfl ⟨rfl, trivial⟩ ?_
      refine ⟨ret1 (vb ?_), xW⟩
      have q0 := h31
      simp only [Bool.and_eq_true, Bool.or_eq_true, Bool.not_eq_true', Bool.and_eq_false_iff, Bool.or_eq_false_iff, Bool.not_eq_false', decide_eq_true_eq, decide_eq_false_iff_not, beq_iff_eq, beq_eq_false_iff_ne, ne_eq] at q0
      rw [Sx.nots_ex nx (by omega), if_neg (by omega)]
      rfl
end SyntaxNests
end SxW

end Go.Proofs.Ytklccakoblibmaa
