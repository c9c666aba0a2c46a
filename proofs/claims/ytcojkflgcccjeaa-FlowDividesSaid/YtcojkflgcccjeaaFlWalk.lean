/- Contracts of package flow's functions. Conditions: what each theorem states. -/
import Derived.Test.YtcojkflgcccjeaaFlSpec
import Derived.Test.YtcojkflgcccjeaaRows
namespace Go.Proofs.Ytcojkflgcccjeaa
open Go Go.Eng Go.RowKit
set_option linter.unusedVariables false
namespace FlW
theorem ti3 : TI Try.prog 3 (.int .i64 0) 1 8 := TI.mk (by kernel_rfl)
theorem ti35 : TI Try.prog 35 (.int .i64 0) 1 8 := TI.mk (by kernel_rfl)
theorem ti38 : TI Try.prog 38 (.agg #[.int .i64 0, .int .i64 0, .string ⟨#[]⟩, .int .i64 0, .int .i64 0, .slice none 0 0]) 6 72 := TI.mk (by kernel_rfl)
theorem ti40 : TI Try.prog 40 (.agg #[.int .i64 0, .int .i64 0]) 2 16 := TI.mk (by kernel_rfl)
theorem ti42 : TI Try.prog 42 (.agg #[.int .i64 0, .int .i64 0]) 2 16 := TI.mk (by kernel_rfl)
theorem ti44 : TI Try.prog 44 (.agg #[.int .i64 0, .int .i64 0, .int .i64 0, .int .i64 0, .string ⟨#[]⟩, .int .i64 0, .int .i64 0, .slice none 0 0, .int .i64 0, .int .i64 0]) 10 104 := TI.mk (by kernel_rfl)
theorem ti46 : TI Try.prog 46 (.agg #[.int .i64 0, .int .i64 0, .int .i64 0, .int .i64 0, .int .i64 0, .int .i64 0, .int .i64 0]) 7 56 := TI.mk (by kernel_rfl)
theorem has24 : Has Try.prog 24 := ⟨_, Try.func24, rfl, by kernel_rfl⟩
theorem has30 : Has Try.prog 30 := ⟨_, Try.func30, rfl, by kernel_rfl⟩
theorem pl46 : PL Try.prog 46 [.int .i64 0, .int .i64 0, .int .i64 0, .int .i64 0, .int .i64 0, .int .i64 0, .int .i64 0] [(0, 1), (1, 2), (3, 2), (5, 1), (6, 1)] := PL.mk (zero := [.int .i64 0, .int .i64 0, .int .i64 0, .int .i64 0, .int .i64 0, .int .i64 0, .int .i64 0]) ti46 Try.underlying46 (by kernel_rfl)
theorem time_any (x : Fl.Ev) (w : World) :
    Calls Try.prog 24 #[.agg #[.int .i64 x.th, .int .i64 x.ser, .int .i64 x.at_, .int .i64 x.kind, .string x.name, .int .i64 x.n, .int .i64 x.m, .slice x.sA x.sn x.sc, .int .i64 x.lo, .int .i64 x.hi]] w fun e w' => e = .returned (.int .i64 (Fl.timeF x)) ∧ Ext w w' := by
  have xW := Ext.refl w
  refine calls_of_WC (args := [.agg #[.int .i64 x.th, .int .i64 x.ser, .int .i64 x.at_, .int .i64 x.kind, .string x.name, .int .i64 x.n, .int .i64 x.m, .slice x.sA x.sn x.sc, .int .i64 x.lo, .int .i64 x.hi]]) Try.func24 rfl rfl (ble rfl) ?_
  refine WC.seq (fun K1 k1 => ?_)
  refine WC.region rfl ?_
  refine WL.box rfl (blt rfl) rfl rfl rfl rfl ?_
  intro g2 w3 e4 x5 m6
  have o_g2 := own_new xW e4
  have xW := Ext.trans xW x5
  refine WL.yld rfl (blt rfl) rfl (Y.assign rfl rfl) ?_
  refine WL.nil ?_
  refine WK.then_normal (k1 _ _ ?_)
  refine WC.sub [(1, _)] ⟨rfl, trivial⟩ ?_
  refine WC.seq (fun K7 k7 => ?_)
  refine WC.region rfl ?_
  refine WL.yld rfl (blt rfl) rfl (Y.fieldAddr rfl Try.underlying44 rfl ti42 (by decide) rfl) ?_
  refine WL.yld rfl (blt rfl) rfl (Y.fieldAddr rfl Try.underlying42 rfl ti3 (by decide) rfl) ?_
  refine WL.yld rfl (blt rfl) rfl (Y.load1 rfl Try.underlying3 rfl rfl (Blk.at_eq m6 rfl)) ?_
  refine WL.yld rfl (blt rfl) rfl (Y.minI rfl rfl rfl rfl) ?_
  refine WL.yld rfl (blt rfl) rfl (Y.maxI rfl rfl rfl rfl) ?_
  refine WL.yld rfl (blt rfl) rfl (Y.assign rfl rfl) ?_
  refine WL.nil ?_
  refine WK.then_normal (k7 _ _ ?_)
  refine WC.sub [(2, _)] ⟨rfl, trivial⟩ ?_
  refine WC.ret ?_
  clear k1 k7
  refine WK.ret [_] rfl ⟨rfl, trivial⟩ ?_
  exact ⟨rfl, xW⟩
theorem bad_any (n : Int) (most : Int) (w : World) :
    Calls Try.prog 30 #[.int .i64 n, .int .i64 most] w fun e w' => e = .returned (.bool (Fl.badB n most)) ∧ Ext w w' := by
  have xW := Ext.refl w
  refine calls_of_WC (args := [.int .i64 n, .int .i64 most]) Try.func30 rfl rfl (ble rfl) ?_
  refine WC.seq (fun K1 k1 => ?_)
  refine WC.region rfl ?_
  refine WL.yld rfl (blt rfl) rfl (Y.assign rfl rfl) ?_
  refine WL.nil ?_
  refine WK.then_normal (k1 _ _ ?_)
  refine WC.sub [(0, _), (1, _)] ⟨rfl, rfl, trivial⟩ ?_
  refine WC.seq (fun K2 k2 => ?_)
  refine WC.region rfl ?_
  refine WL.yld rfl (blt rfl) rfl (Y.move rfl rfl) ?_
  refine WL.yld rfl (blt rfl) rfl (Y.lss rfl rfl rfl) ?_
  refine WL.yld rfl (blt rfl) rfl (Y.move rfl rfl) ?_
  refine WL.yldG rfl (blt rfl) rfl rfl rfl (fun hb => Y.move rfl rfl) ?_
  refine WL.yldG rfl (blt rfl) rfl rfl rfl (fun hb => Y.move rfl rfl) ?_
  refine WL.yldG rfl (blt rfl) rfl rfl rfl (fun hb => Y.gtr rfl (evg rfl hb) (evg rfl hb)) ?_
  refine WL.yld rfl (blt rfl) rfl (Y.or rfl rfl rfl rfl) ?_
  refine WL.yld rfl (blt rfl) rfl (Y.assign rfl rfl) ?_
  refine WL.nil ?_
  refine WK.then_normal (k2 _ _ ?_)
  refine WC.sub [(4, _)] ⟨rfl, trivial⟩ ?_
  refine WC.ret ?_
  clear k1 k2
  refine WK.ret [_] rfl ⟨rfl, trivial⟩ ?_
  exact ⟨rfl, xW⟩
theorem of_any (A_o : Option Addr) (n_o c_o : Nat) (o : List Fl.Ev) (w : World) (h_o : Ls w A_o n_o c_o Fl.Ev.c 10 o) (hn : n_o ≤ 1000) :
    Calls Try.prog 11 #[.slice A_o n_o c_o] w fun e w' => ∃ v, e = .returned v ∧ OwnL w' w.heap.size 46 Fl.Flow.c 7 v (Fl.ofF o) ∧ Ext w w' := by
  have xW := Ext.refl w
  have e_o := h_o.len
  have z_o := h_o.nle
  refine calls_of_WC (args := [.slice A_o n_o c_o]) Try.func11 rfl rfl (ble rfl) ?_
  refine WC.seq (fun K1 k1 => ?_)
  refine WC.region rfl ?_
  refine WL.yld rfl (blt rfl) rfl (Y.assign rfl rfl) ?_
  refine WL.nil ?_
  refine WK.then_normal (k1 _ _ ?_)
  refine WC.sub [(0, _)] ⟨rfl, trivial⟩ ?_
  refine WC.seq (fun K2 k2 => ?_)
  refine WC.region rfl ?_
  refine WL.makeMap rfl (blt rfl) rfl rfl ?_
  intro g3 w4 e5 x6 m7
  have o_g3 := own_new xW e5
  have xW := Ext.trans xW x6
  refine WL.yld rfl (blt rfl) rfl (Y.assign rfl rfl) ?_
  refine WL.nil ?_
  refine WK.then_normal (k2 _ _ ?_)
  refine WC.sub [(0, _), (3, _)] ⟨rfl, rfl, trivial⟩ ?_
  refine WC.seq (fun K8 k8 => ?_)
  refine WC.region rfl ?_
  refine WL.yld rfl (blt rfl) rfl (Y.assign rfl rfl) ?_
  refine WL.nil ?_
  refine WK.then_normal (k8 _ _ ?_)
  refine WC.seq (fun K9 k9 => ?_)
  refine WC.seq (fun K10 k10 => ?_)
  refine WC.region rfl ?_
  refine WL.yld rfl (blt rfl) rfl (Y.move rfl rfl) ?_
  refine WL.yld rfl (blt rfl) rfl (Y.lenSl rfl rfl rfl Try.underlying22 rfl) ?_
  refine WL.yld rfl (blt rfl) rfl (Y.move rfl rfl) ?_
  refine WL.nil ?_
  refine WK.then_normal (k10 _ _ ?_)
  refine WC.sub [(3, _), (4, _), (11, _), (12, _), (13, _)] ⟨rfl, rfl, rfl, rfl, rfl, trivial⟩ ?_
  refine WC.block ?_
  refine WC.sub [(13, _), (4, _), (3, _), (11, _), (12, _)] ⟨rfl, rfl, rfl, rfl, rfl, trivial⟩ ?_
  refine WC.loopS 2 (fun mz Ed W' => ∃ i : Nat, ∃ v : Value, mz = n_o - i ∧ Ed = [(13, .int .i64 ((i : Nat) : Int)), (4, v)] ∧ Ext w W' ∧ Mp W' g3 (Fl.mp (Fl.run (o.take i)).1) ∧ OwnL W' w.heap.size 46 Fl.Flow.c 7 v ((Fl.run (o.take i)).2) ∧ v.ownBlock ≠ some g3 ∧ (i ≤ n_o)) _ ⟨0, _, rfl, rfl, xW, m7, OwnL.nil_, ne_nil, (Nat.zero_le _)⟩ ?_
  rintro _ _ w11 ⟨i, v, rfl, rfl, xW, m7, ow_v, r_v_g3, le_i⟩
  refine WC.sub [(13, _), (4, _), (3, _), (11, _), (12, _)] ⟨rfl, rfl, rfl, rfl, rfl, trivial⟩ ?_
  refine WC.seq (fun K12 k12 => ?_)
  refine WC.region rfl ?_
  refine WL.yld rfl (blt rfl) rfl (Y.lss rfl rfl rfl) ?_
  refine WL.nil ?_
  refine WK.then_normal (k12 _ _ ?_)
  refine WC.seq (fun K13 k13 => ?_)
  refine WC.cond rfl (fun h14 => ?_) (fun h14 => ?_)
  ·
    have p14 := (dec_t h14)
    refine WC.skip ?_
    refine WK.then_normal (k13 _ _ ?_)
    refine WC.sub [(3, _), (4, _), (11, _), (12, _), (13, _)] ⟨rfl, rfl, rfl, rfl, rfl, trivial⟩ ?_
    refine WC.seq (fun K15 k15 => ?_)
    refine WC.block ?_
    refine WC.seq (fun K16 k16 => ?_)
    refine WC.region rfl ?_
    have b17 : i < n_o := by omega
    refine WL.yld rfl (blt rfl) rfl (Y.indexLs i (h_o.ext xW) rfl Try.underlying22 ti44 rfl rfl rfl b17) ?_
    refine WL.yld rfl (blt rfl) rfl (Y.loadS (cs := [_, _, _, _, _, _, _, _, _, _]) rfl Try.underlying44 rfl ti44 rfl (Ls.part_eq (h_o.ext xW) b17 rfl)) ?_
    refine WL.alloc rfl (blt rfl) rfl rfl ti44 rfl ?_
    intro g18 w19 e20 x21 m22
    have n_g3_g18 := ne_newM m7 e20
    have r_v_g18 := ne_newO ow_v e20
    have o_g18 := own_new xW e20
    have m7 := m7.ext x21
    have ow_v := ow_v.ext x21
    have xW := Ext.trans xW x21
    refine WL.store (cs' := [_, _, _, _, _, _, _, _, _, _]) rfl rfl rfl rfl rfl rfl ti44 m22 (ble rfl) rfl rfl (fun w23 on24 m25 => ?_)
    have m7 := m7.only n_g3_g18 on24
    have ow_v := ow_v.only r_v_g18 on24
    have xW := Ext.only xW on24 o_g18
    refine WL.nil ?_
    refine WK.then_normal (k16 _ _ ?_)
    refine WC.sub [(3, _), (4, _), (6, _), (11, _), (12, _), (13, _)] ⟨rfl, rfl, rfl, rfl, rfl, rfl, trivial⟩ ?_
    refine WC.seq (fun K26 k26 => ?_)
    refine WC.region rfl ?_
    refine WL.yld rfl (blt rfl) rfl (Y.fieldAddr rfl Try.underlying44 rfl ti38 (by decide) rfl) ?_
    refine WL.yld rfl (blt rfl) rfl (Y.fieldAddr rfl Try.underlying38 rfl ti3 (by decide) rfl) ?_
    refine WL.yld rfl (blt rfl) rfl (Y.load1 rfl Try.underlying3 rfl rfl (Blk.at_eq m25 rfl)) ?_
    refine WL.yld rfl (blt rfl) rfl (Y.assign rfl rfl) ?_
    refine WL.nil ?_
    refine WK.then_normal (k26 _ _ ?_)
    refine WC.sub [(3, _), (4, _), (6, _), (7, _), (11, _), (12, _), (13, _)] ⟨rfl, rfl, rfl, rfl, rfl, rfl, rfl, trivial⟩ ?_
    refine WC.seq (fun K27 k27 => ?_)
    refine WC.region rfl ?_
    refine WL.yld rfl (blt rfl) rfl (Y.fieldAddr rfl Try.underlying44 rfl ti38 (by decide) rfl) ?_
    refine WL.yld rfl (blt rfl) rfl (Y.fieldAddr rfl Try.underlying38 rfl ti35 (by decide) rfl) ?_
    refine WL.yld rfl (blt rfl) rfl (Y.load1 rfl Try.underlying35 rfl rfl (Blk.at_eq m25 rfl)) ?_
    refine WL.nil ?_
    refine WK.then_normal (k27 _ _ ?_)
    refine WC.sub [(3, _), (4, _), (6, _), (7, _), (11, _), (12, _), (13, _), (22, _)] ⟨rfl, rfl, rfl, rfl, rfl, rfl, rfl, rfl, trivial⟩ ?_
    refine WC.block ?_
    refine WC.seq (fun K28 k28 => ?_)
    refine WC.region rfl ?_
    refine WL.yld rfl (blt rfl) rfl (Y.eql rfl rfl rfl) ?_
    refine WL.yld rfl (blt rfl) rfl (Y.assign rfl rfl) ?_
    refine WL.nil ?_
    refine WK.then_normal (k28 _ _ ?_)
    refine WC.sub [(3, _), (4, _), (6, _), (7, _), (11, _), (12, _), (13, _), (22, _), (23, _)] ⟨rfl, rfl, rfl, rfl, rfl, rfl, rfl, rfl, rfl, trivial⟩ ?_
    refine WC.cond rfl (fun h29 => ?_) (fun h29 => ?_)
    ·
      have p29 := (eq_t h29)
      refine WC.region rfl ?_
      refine WL.yld rfl (blt rfl) rfl (Y.move rfl rfl) ?_
      refine WL.yld rfl (blt rfl) rfl (Y.move rfl rfl) ?_
      refine WL.yld rfl (blt rfl) rfl (Y.loadS rfl Try.underlying44 rfl ti44 rfl (Blk.row_eq m25)) ?_
      refine WL.mapUpdate rfl rfl (.inl rfl) Try.underlying54 Try.underlying3 rfl rfl rfl m7 (fun w30 on31 m32 => ?_)
      have ow_v := ow_v.only r_v_g3 on31
      have m25 := m25.only n_g3_g18.symm on31
      have xW := Ext.only xW on31 o_g3
      refine WL.nil ?_
      refine WK.in_normal ?_
      refine WK.in_normal ?_
      refine WK.then_normal (k15 _ _ ?_)
      refine WC.sub [(3, _), (4, _), (11, _), (12, _), (13, _)] ⟨rfl, rfl, rfl, rfl, rfl, trivial⟩ ?_
      refine WC.region rfl ?_
      refine WL.yld rfl (blt rfl) rfl (Y.add rfl rfl rfl (wrap_i64 (by first | omega | (dsimp only; omega)))) ?_
      refine WL.yld rfl (blt rfl) rfl (Y.move rfl rfl) ?_
      refine WL.nil ?_
      refine WK.roundS _ [(13, .int .i64 (((i + 1) : Nat) : Int)), (4, v)] ⟨rfl, rfl, rfl, rfl, rfl, trivial⟩ ?_ ⟨(i + 1), v, rfl, rfl, xW, (by rw [Fl.run_take o (show i < o.length from by omega)]; simp only [Fl.stepF, h29, Bool.false_eq_true, if_true, if_false]; first | exact m32 | (rw [← Fl.mp_set]; exact m32)), (by rw [Fl.run_take o (show i < o.length from by omega)]; simp only [Fl.stepF, h29, Bool.false_eq_true, if_true, if_false]; exact ow_v), r_v_g3, (by omega)⟩
      show _ - (i + 1) < _ - i; omega
    ·
      have p29 := (eq_f h29)
      refine WC.seq (fun K33 k33 => ?_)
      refine WC.region rfl ?_
      refine WL.yld rfl (blt rfl) rfl (Y.eql rfl rfl rfl) ?_
      refine WL.yld rfl (blt rfl) rfl (Y.assign rfl rfl) ?_
      refine WL.nil ?_
      refine WK.then_normal (k33 _ _ ?_)
      refine WC.sub [(3, _), (4, _), (6, _), (7, _), (11, _), (12, _), (13, _), (28, _)] ⟨rfl, rfl, rfl, rfl, rfl, rfl, rfl, rfl, trivial⟩ ?_
      refine WC.cond rfl (fun h34 => ?_) (fun h34 => ?_)
      ·
        have p34 := (eq_t h34)
        refine WC.seq (fun K35 k35 => ?_)
        refine WC.region rfl ?_
        refine WL.yld rfl (blt rfl) rfl (Y.move rfl rfl) ?_
        refine WL.yld rfl (blt rfl) rfl (Y.move rfl rfl) ?_
        refine WL.yld rfl (blt rfl) rfl (Y.lookupOk rfl Try.underlying54 Try.underlying3 ti44 rfl rfl (fun _ h => h ▸ m7)) ?_
        refine WL.yld rfl (blt rfl) rfl (Y.move rfl rfl) ?_
        refine WL.yld rfl (blt rfl) rfl (Yld.cast (Y.extract rfl rfl rfl) (Fl.mp_val _ _)) ?_
        refine WL.yld rfl (blt rfl) rfl (Yld.cast (Y.extract rfl rfl rfl) (vb (Fl.mp_has _ _))) ?_
        refine WL.alloc rfl (blt rfl) rfl rfl ti44 rfl ?_
        intro g36 w37 e38 x39 m40
        have n_g3_g36 := ne_newM m7 e38
        have r_v_g36 := ne_newO ow_v e38
        have n_g18_g36 := ne_new m25 e38
        have o_g36 := own_new xW e38
        have m7 := m7.ext x39
        have ow_v := ow_v.ext x39
        have m25 := m25.ext x39
        have xW := Ext.trans xW x39
        refine WL.store (cs' := [_, _, _, _, _, _, _, _, _, _]) rfl rfl rfl rfl rfl rfl ti44 m40 (ble rfl) rfl rfl (fun w41 on42 m43 => ?_)
        have m7 := m7.only n_g3_g36 on42
        have ow_v := ow_v.only r_v_g36 on42
        have m25 := m25.only n_g18_g36 on42
        have xW := Ext.only xW on42 o_g36
        refine WL.yld rfl (blt rfl) rfl (Y.assign rfl rfl) ?_
        refine WL.nil ?_
        refine WK.then_normal (k35 _ _ ?_)
        refine WC.sub [(3, _), (4, _), (6, _), (7, _), (8, _), (9, _), (11, _), (12, _), (13, _)] ⟨rfl, rfl, rfl, rfl, rfl, rfl, rfl, rfl, rfl, trivial⟩ ?_
        refine WC.seq (fun K44 k44 => ?_)
        refine WC.region rfl ?_
        refine WL.yld rfl (blt rfl) rfl (Y.move rfl rfl) ?_
        refine WL.nil ?_
        refine WK.then_normal (k44 _ _ ?_)
        refine WC.sub [(3, _), (4, _), (6, _), (7, _), (8, _), (11, _), (12, _), (13, _), (36, _)] ⟨rfl, rfl, rfl, rfl, rfl, rfl, rfl, rfl, rfl, trivial⟩ ?_
        refine WC.cond rfl (fun h45 => ?_) (fun h45 => ?_)
        ·
          refine WC.regionX (fun W' => Ext w W' ∧ Mp W' g3 _ ∧ Blk W' g18 44 _ ∧ Blk W' g36 44 _) (.load 0 (.load 1 (.load 2 (.load 3 (.load 4 (.load 5 (.load 6 (.load 8 (.alt 7 (.alt 9 (.load 10 (.alt 11 (.alt 12 (.load 13 (.fin)) (.none)) (.none))) (.none)) (.none)))))))))) ⟨xW, m7, m25, m43⟩ (by kernel_rfl) (by kernel_rfl) (fun w46 x47 => ?_)
          have m7 := m7.ext x47
          have ow_v := ow_v.ext x47
          have m25 := m25.ext x47
          have m43 := m43.ext x47
          have xW := Ext.trans xW x47
          refine WX.yld rfl rfl (blt rfl) rfl (Y.move rfl rfl) ?_
          refine WX.yld rfl rfl (blt rfl) rfl (Y.move rfl rfl) ?_
          refine WX.yld rfl rfl (blt rfl) rfl (Y.fieldAddr rfl Try.underlying44 rfl ti40 (by decide) rfl) ?_
          refine WX.yld rfl rfl (blt rfl) rfl (Y.loadS (cs := [_, _]) rfl Try.underlying40 rfl ti40 rfl (Blk.part_c (fun _ h => h.2.2.2) rfl)) ?_
          refine WX.yld rfl rfl (blt rfl) rfl (Y.fieldAddr rfl Try.underlying44 rfl ti40 (by decide) rfl) ?_
          refine WX.yld rfl rfl (blt rfl) rfl (Y.loadS (cs := [_, _]) rfl Try.underlying40 rfl ti40 rfl (Blk.part_c (fun _ h => h.2.2.1) rfl)) ?_
          refine WX.yld rfl rfl (blt rfl) rfl (Y.loadS rfl Try.underlying44 rfl ti44 rfl (Blk.row_c (fun _ h => h.2.2.2))) ?_
          refine WX.yld rfl rfl (blt rfl) rfl (Y.loadS rfl Try.underlying44 rfl ti44 rfl (Blk.row_c (fun _ h => h.2.2.1))) ?_
          refine WX.call rfl rfl (blt rfl) rfl rfl rfl has24 rfl ⟨xW, m7, m25, m43⟩ (time_any _ _ ) ?_
          rintro _ w48 ⟨rfl, x49⟩
          refine ⟨_, rfl, ?_⟩
          have m7 := m7.ext x49
          have ow_v := ow_v.ext x49
          have m25 := m25.ext x49
          have m43 := m43.ext x49
          have xW := Ext.trans xW x49
          refine WX.call rfl rfl (blt rfl) rfl rfl rfl has24 rfl ⟨xW, m7, m25, m43⟩ (time_any _ _ ) ?_
          rintro _ w50 ⟨rfl, x51⟩
          refine ⟨_, rfl, ?_⟩
          have m7 := m7.ext x51
          have ow_v := ow_v.ext x51
          have m25 := m25.ext x51
          have m43 := m43.ext x51
          have xW := Ext.trans xW x51
          refine WX.yld rfl rfl (blt rfl) rfl (Y.build (cells := [_, _, _, _, _, _, _]) rfl pl46 rfl rfl) ?_
          refine WX.run rfl rfl (blt rfl) rfl ⟨xW, m7, m25, m43⟩ (Run.bslice (zs := [.int .i64 0, .int .i64 0, .int .i64 0, .int .i64 0, .int .i64 0, .int .i64 0, .int .i64 0]) (cs := [_, _, _, _, _, _, _]) rfl Try.underlying25 ti46 rfl (ble rfl) (by kernel_rfl) rfl rfl) ?_
          rintro _ w53 ⟨g52, rfl, e54, x55, m56⟩
          have n_g3_g52 := ne_newM m7 e54
          have r_v_g52 := ne_newO ow_v e54
          have n_g18_g52 := ne_new m25 e54
          have n_g36_g52 := ne_new m43 e54
          have o_g52 := own_new xW e54
          have m7 := m7.ext x55
          have ow_v := ow_v.ext x55
          have m25 := m25.ext x55
          have m43 := m43.ext x55
          have xW := Ext.trans xW x55
          refine WX.run rfl rfl (blt rfl) rfl ⟨xW, m7, m25, m43⟩ (Run.appendB (f := Fl.Flow.c) (news := [Fl.flowOf ((Fl.sget (Fl.run (o.take i)).1 o[i]!.n).getD default) o[i]!]) rfl rfl rfl Try.underlying25 ti46 rfl (by decide) rfl ow_v (fun _ => rfl) Fl.Flow.one m56 rfl xW.size (by have q0 := Fl.run_take_len o i; first | omega | (simp only [List.length_append, List.length_cons, List.length_nil, List.length_take, List.length_drop, List.length_reverse]; omega)) (Nat.le_trans (show _ ≤ 140737488355328 from by have q0 := Fl.run_take_len o i; first | omega | (simp only [List.length_append, List.length_cons, List.length_nil, List.length_take, List.length_drop, List.length_reverse]; omega)) (by decide)) ) ?_
          rintro v57 w58 ⟨ow59, gr60, nb61⟩
          have r_v57_g3 := ne_appM nb61 r_v_g3 m7
          have m7 := m7.grown gr60 r_v_g3
          have r_v57_g18 := ne_app nb61 r_v_g18 m25
          have m25 := m25.grown gr60 r_v_g18
          have r_v57_g36 := ne_app nb61 r_v_g36 m43
          have m43 := m43.grown gr60 r_v_g36
          have r_v57_g52 := ne_app nb61 r_v_g52 m56
          have m56 := m56.grown gr60 r_v_g52
          have xW := Ext.grown xW gr60 (fun b hb => (OwnL.lt ow_v hb).1)
          refine WX.yld rfl rfl (blt rfl) rfl (Y.assign rfl rfl) ?_
          refine WX.nil ⟨xW, m7, m25, m43⟩ ?_
          refine WK.in_normal ?_
          refine WK.in_normal ?_
          refine WK.then_normal (k15 _ _ ?_)
          refine WC.sub [(3, _), (4, _), (11, _), (12, _), (13, _)] ⟨rfl, rfl, rfl, rfl, rfl, trivial⟩ ?_
          refine WC.region rfl ?_
          refine WL.yld rfl (blt rfl) rfl (Y.add rfl rfl rfl (wrap_i64 (by first | omega | (dsimp only; omega)))) ?_
          refine WL.yld rfl (blt rfl) rfl (Y.move rfl rfl) ?_
          refine WL.nil ?_
          refine WK.roundS _ [(13, .int .i64 (((i + 1) : Nat) : Int)), (4, v57)] ⟨rfl, rfl, rfl, rfl, rfl, trivial⟩ ?_ ⟨(i + 1), v57, rfl, rfl, xW, (by rw [Fl.run_take o (show i < o.length from by omega)]; simp only [Fl.stepF, h29, h34, h45, Bool.false_eq_true, if_true, if_false]; first | exact m7 | (rw [← Fl.mp_set]; exact m7)), (by rw [Fl.run_take o (show i < o.length from by omega)]; simp only [Fl.stepF, h29, h34, h45, Bool.false_eq_true, if_true, if_false]; exact ow59), r_v57_g3, (by omega)⟩
          show _ - (i + 1) < _ - i; omega
        ·
          refine WC.skip ?_
          refine WK.in_normal ?_
          refine WK.in_normal ?_
          refine WK.then_normal (k15 _ _ ?_)
          refine WC.sub [(3, _), (4, _), (11, _), (12, _), (13, _)] ⟨rfl, rfl, rfl, rfl, rfl, trivial⟩ ?_
          refine WC.region rfl ?_
          refine WL.yld rfl (blt rfl) rfl (Y.add rfl rfl rfl (wrap_i64 (by first | omega | (dsimp only; omega)))) ?_
          refine WL.yld rfl (blt rfl) rfl (Y.move rfl rfl) ?_
          refine WL.nil ?_
          refine WK.roundS _ [(13, .int .i64 (((i + 1) : Nat) : Int)), (4, v)] ⟨rfl, rfl, rfl, rfl, rfl, trivial⟩ ?_ ⟨(i + 1), v, rfl, rfl, xW, (by rw [Fl.run_take o (show i < o.length from by omega)]; simp only [Fl.stepF, h29, h34, h45, Bool.false_eq_true, if_true, if_false]; first | exact m7 | (rw [← Fl.mp_set]; exact m7)), (by rw [Fl.run_take o (show i < o.length from by omega)]; simp only [Fl.stepF, h29, h34, h45, Bool.false_eq_true, if_true, if_false]; exact ow_v), r_v_g3, (by omega)⟩
          show _ - (i + 1) < _ - i; omega
      ·
        have p34 := (eq_f h34)
        refine WC.skip ?_
        refine WK.in_normal ?_
        refine WK.in_normal ?_
        refine WK.then_normal (k15 _ _ ?_)
        refine WC.sub [(3, _), (4, _), (11, _), (12, _), (13, _)] ⟨rfl, rfl, rfl, rfl, rfl, trivial⟩ ?_
        refine WC.region rfl ?_
        refine WL.yld rfl (blt rfl) rfl (Y.add rfl rfl rfl (wrap_i64 (by first | omega | (dsimp only; omega)))) ?_
        refine WL.yld rfl (blt rfl) rfl (Y.move rfl rfl) ?_
        refine WL.nil ?_
        refine WK.roundS _ [(13, .int .i64 (((i + 1) : Nat) : Int)), (4, v)] ⟨rfl, rfl, rfl, rfl, rfl, trivial⟩ ?_ ⟨(i + 1), v, rfl, rfl, xW, (by rw [Fl.run_take o (show i < o.length from by omega)]; simp only [Fl.stepF, h29, h34, Bool.false_eq_true, if_true, if_false]; first | exact m7 | (rw [← Fl.mp_set]; exact m7)), (by rw [Fl.run_take o (show i < o.length from by omega)]; simp only [Fl.stepF, h29, h34, Bool.false_eq_true, if_true, if_false]; exact ow_v), r_v_g3, (by omega)⟩
        show _ - (i + 1) < _ - i; omega
  ·
    have p14 := (dec_f h14)
    refine WC.exit ?_
    refine WK.then_exit ?_
    refine WK.then_exit ?_
    refine WK.in_exit ?_
    refine WK.then_normal (k9 _ _ ?_)
    refine WC.sub [(4, _)] ⟨rfl, trivial⟩ ?_
    refine WC.seq (fun K62 k62 => ?_)
    refine WC.region rfl ?_
    refine WL.yld rfl (blt rfl) rfl (Y.move rfl rfl) ?_
    refine WL.yld rfl (blt rfl) rfl (Y.assign rfl rfl) ?_
    refine WL.nil ?_
    refine WK.then_normal (k62 _ _ ?_)
    refine WC.sub [(2, _)] ⟨rfl, trivial⟩ ?_
    refine WC.ret ?_
    clear k1 k2 k8 k9 k10 k12 k13 k62
    refine WK.ret [_] rfl ⟨rfl, trivial⟩ ?_
    refine ⟨_, rfl, ?_, xW⟩
    rw [show o.take i = o from List.take_of_length_le (by omega)] at ow_v
    exact ow_v
theorem check_any (A_l : Option Addr) (n_l c_l : Nat) (l : List Fl.Flow) (w : World) (h_l : Ls w A_l n_l c_l Fl.Flow.c 7 l) :
    Calls Try.prog 16 #[.slice A_l n_l c_l] w fun e w' => e = .returned (.int .i64 (Fl.chk l l 0)) ∧ Ext w w' := by
  have xW := Ext.refl w
  have e_l := h_l.len
  have z_l := h_l.nle
  refine calls_of_WC (args := [.slice A_l n_l c_l]) Try.func16 rfl rfl (ble rfl) ?_
  refine WC.seq (fun K1 k1 => ?_)
  refine WC.region rfl ?_
  refine WL.yld rfl (blt rfl) rfl (Y.assign rfl rfl) ?_
  refine WL.nil ?_
  refine WK.then_normal (k1 _ _ ?_)
  refine WC.sub [(0, _)] ⟨rfl, trivial⟩ ?_
  refine WC.seq (fun K2 k2 => ?_)
  refine WC.seq (fun K3 k3 => ?_)
  refine WC.region rfl ?_
  refine WL.yld rfl (blt rfl) rfl (Y.move rfl rfl) ?_
  refine WL.yld rfl (blt rfl) rfl (Y.lenSl rfl rfl rfl Try.underlying25 rfl) ?_
  refine WL.yld rfl (blt rfl) rfl (Y.move rfl rfl) ?_
  refine WL.nil ?_
  refine WK.then_normal (k3 _ _ ?_)
  refine WC.block ?_
  refine WC.sub [(7, _), (0, _), (5, _), (6, _)] ⟨rfl, rfl, rfl, rfl, trivial⟩ ?_
  refine WC.loopS 1 (fun mz Ed W' => ∃ i : Nat, mz = n_l - i ∧ Ed = [(7, .int .i64 ((i : Nat) : Int))] ∧ Ext w W' ∧ (i ≤ n_l) ∧ (Fl.chk l (l.drop i) i = Fl.chk l l 0)) _ ⟨0, rfl, rfl, xW, (Nat.zero_le _), rfl⟩ ?_
  rintro _ _ w4 ⟨i, rfl, rfl, xW, le_i, inv_i⟩
  refine WC.sub [(7, _), (0, _), (5, _), (6, _)] ⟨rfl, rfl, rfl, rfl, trivial⟩ ?_
  refine WC.seq (fun K5 k5 => ?_)
  refine WC.region rfl ?_
  refine WL.yld rfl (blt rfl) rfl (Y.lss rfl rfl rfl) ?_
  refine WL.nil ?_
  refine WK.then_normal (k5 _ _ ?_)
  refine WC.seq (fun K6 k6 => ?_)
  refine WC.cond rfl (fun h7 => ?_) (fun h7 => ?_)
  ·
    have p7 := (dec_t h7)
    refine WC.skip ?_
    refine WK.then_normal (k6 _ _ ?_)
    refine WC.sub [(0, _), (5, _), (6, _), (7, _)] ⟨rfl, rfl, rfl, rfl, trivial⟩ ?_
    refine WC.seq (fun K8 k8 => ?_)
    refine WC.block ?_
    refine WC.seq (fun K9 k9 => ?_)
    refine WC.region rfl ?_
    refine WL.yld rfl (blt rfl) rfl (Y.move rfl rfl) ?_
    have b10 : i < n_l := by omega
    refine WL.yld rfl (blt rfl) rfl (Y.indexLs i (h_l.ext xW) rfl Try.underlying25 ti46 rfl rfl rfl b10) ?_
    refine WL.yld rfl (blt rfl) rfl (Y.loadS (cs := [_, _, _, _, _, _, _]) rfl Try.underlying46 rfl ti46 rfl (Ls.part_eq (h_l.ext xW) b10 rfl)) ?_
    refine WL.alloc rfl (blt rfl) rfl rfl ti46 rfl ?_
    intro g11 w12 e13 x14 m15
    have o_g11 := own_new xW e13
    have xW := Ext.trans xW x14
    refine WL.yld rfl (blt rfl) rfl (Y.assign rfl rfl) ?_
    refine WL.store (cs' := [_, _, _, _, _, _, _]) rfl rfl rfl rfl rfl rfl ti46 m15 (ble rfl) rfl rfl (fun w16 on17 m18 => ?_)
    have xW := Ext.only xW on17 o_g11
    refine WL.nil ?_
    refine WK.then_normal (k9 _ _ ?_)
    refine WC.sub [(0, _), (3, _), (4, _), (5, _), (6, _), (7, _)] ⟨rfl, rfl, rfl, rfl, rfl, rfl, trivial⟩ ?_
    refine WC.block ?_
    refine WC.seq (fun K19 k19 => ?_)
    refine WC.seq (fun K20 k20 => ?_)
    refine WC.region rfl ?_
    refine WL.yld rfl (blt rfl) rfl (Y.fieldAddr rfl Try.underlying46 rfl ti3 (by decide) rfl) ?_
    refine WL.yld rfl (blt rfl) rfl (Y.load1 rfl Try.underlying3 rfl rfl (Blk.at_eq m18 rfl)) ?_
    refine WL.call rfl (blt rfl) rfl rfl rfl has30 rfl (bad_any _ _ _ ) ?_
    rintro _ w21 ⟨rfl, x22⟩
    refine ⟨_, rfl, ?_⟩
    have m18 := m18.ext x22
    have xW := Ext.trans xW x22
    refine WL.yld rfl (blt rfl) rfl (Y.assign rfl rfl) ?_
    refine WL.nil ?_
    refine WK.then_normal (k20 _ _ ?_)
    refine WC.sub [(0, _), (3, _), (4, _), (5, _), (6, _), (7, _), (12, _)] ⟨rfl, rfl, rfl, rfl, rfl, rfl, rfl, trivial⟩ ?_
    refine WC.cond rfl (fun h23 => ?_) (fun h23 => ?_)
    ·
      refine WC.skip ?_
      refine WK.then_normal (k19 _ _ ?_)
      refine WC.sub [(0, _), (3, _), (4, _), (5, _), (6, _), (7, _), (12, .bool true)] ⟨rfl, rfl, rfl, rfl, rfl, rfl, kn h23, trivial⟩ ?_
      refine WC.condT rfl ?_
      refine WC.seq (fun K24 k24 => ?_)
      refine WC.region rfl ?_
      refine WL.yld rfl (blt rfl) rfl (Y.assign rfl rfl) ?_
      refine WL.nil ?_
      refine WK.then_normal (k24 _ _ ?_)
      refine WC.sub [(2, _)] ⟨rfl, trivial⟩ ?_
      refine WC.ret ?_
      refine WK.in_ret ?_
      refine WK.in_ret ?_
      refine WK.then_ret ?_
      refine WK.then_ret ?_
      refine WK.in_ret ?_
      refine WK.then_ret ?_
      clear k1 k2 k3 k5 k6 k8 k9 k19 k20 k24
      refine WK.ret [_] rfl ⟨rfl, trivial⟩ ?_
      refine ⟨ret1 (vi ?_), xW⟩
      rw [← inv_i, drop_bang (show i < l.length from by omega)]
      rw [Fl.chk]
      unfold Fl.rangeB
      simp only [h23, Bool.or_false, Bool.false_or, Bool.or_true, Bool.true_or, Bool.false_eq_true, if_true, if_false]
    ·
      refine WC.seq (fun K25 k25 => ?_)
      refine WC.region rfl ?_
      refine WL.yld rfl (blt rfl) rfl (Y.fieldAddr rfl Try.underlying46 rfl ti40 (by decide) rfl) ?_
      refine WL.yld rfl (blt rfl) rfl (Y.fieldAddr rfl Try.underlying40 rfl ti3 (by decide) rfl) ?_
      refine WL.yld rfl (blt rfl) rfl (Y.load1 rfl Try.underlying3 rfl rfl (Blk.at_eq m18 rfl)) ?_
      refine WL.call rfl (blt rfl) rfl rfl rfl has30 rfl (bad_any _ _ _ ) ?_
      rintro _ w26 ⟨rfl, x27⟩
      refine ⟨_, rfl, ?_⟩
      have m18 := m18.ext x27
      have xW := Ext.trans xW x27
      refine WL.yld rfl (blt rfl) rfl (Y.assign rfl rfl) ?_
      refine WL.nil ?_
      refine WK.then_normal (k25 _ _ ?_)
      refine WC.sub [(0, _), (3, _), (4, _), (5, _), (6, _), (7, _), (12, _)] ⟨rfl, rfl, rfl, rfl, rfl, rfl, rfl, trivial⟩ ?_
      refine WC.cond rfl (fun h28 => ?_) (fun h28 => ?_)
      ·
        refine WC.skip ?_
        refine WK.then_normal (k19 _ _ ?_)
        refine WC.sub [(0, _), (3, _), (4, _), (5, _), (6, _), (7, _), (12, .bool true)] ⟨rfl, rfl, rfl, rfl, rfl, rfl, kn h28, trivial⟩ ?_
        refine WC.condT rfl ?_
        refine WC.seq (fun K29 k29 => ?_)
        refine WC.region rfl ?_
        refine WL.yld rfl (blt rfl) rfl (Y.assign rfl rfl) ?_
        refine WL.nil ?_
        refine WK.then_normal (k29 _ _ ?_)
        refine WC.sub [(2, _)] ⟨rfl, trivial⟩ ?_
        refine WC.ret ?_
        refine WK.in_ret ?_
        refine WK.in_ret ?_
        refine WK.then_ret ?_
        refine WK.then_ret ?_
        refine WK.in_ret ?_
        refine WK.then_ret ?_
        clear k1 k2 k3 k5 k6 k8 k9 k19 k20 k25 k29
        refine WK.ret [_] rfl ⟨rfl, trivial⟩ ?_
        refine ⟨ret1 (vi ?_), xW⟩
        rw [← inv_i, drop_bang (show i < l.length from by omega)]
        rw [Fl.chk]
        unfold Fl.rangeB
        simp only [h23, h28, Bool.or_false, Bool.false_or, Bool.or_true, Bool.true_or, Bool.false_eq_true, if_true, if_false]
      ·
        refine WC.seq (fun K30 k30 => ?_)
        refine WC.region rfl ?_
        refine WL.yld rfl (blt rfl) rfl (Y.fieldAddr rfl Try.underlying46 rfl ti40 (by decide) rfl) ?_
        refine WL.yld rfl (blt rfl) rfl (Y.fieldAddr rfl Try.underlying40 rfl ti3 (by decide) rfl) ?_
        refine WL.yld rfl (blt rfl) rfl (Y.load1 rfl Try.underlying3 rfl rfl (Blk.at_eq m18 rfl)) ?_
        refine WL.call rfl (blt rfl) rfl rfl rfl has30 rfl (bad_any _ _ _ ) ?_
        rintro _ w31 ⟨rfl, x32⟩
        refine ⟨_, rfl, ?_⟩
        have m18 := m18.ext x32
        have xW := Ext.trans xW x32
        refine WL.yld rfl (blt rfl) rfl (Y.assign rfl rfl) ?_
        refine WL.nil ?_
        refine WK.then_normal (k30 _ _ ?_)
        refine WC.sub [(0, _), (3, _), (4, _), (5, _), (6, _), (7, _), (12, _)] ⟨rfl, rfl, rfl, rfl, rfl, rfl, rfl, trivial⟩ ?_
        refine WC.cond rfl (fun h33 => ?_) (fun h33 => ?_)
        ·
          refine WC.skip ?_
          refine WK.then_normal (k19 _ _ ?_)
          refine WC.sub [(0, _), (3, _), (4, _), (5, _), (6, _), (7, _), (12, .bool true)] ⟨rfl, rfl, rfl, rfl, rfl, rfl, kn h33, trivial⟩ ?_
          refine WC.condT rfl ?_
          refine WC.seq (fun K34 k34 => ?_)
          refine WC.region rfl ?_
          refine WL.yld rfl (blt rfl) rfl (Y.assign rfl rfl) ?_
          refine WL.nil ?_
          refine WK.then_normal (k34 _ _ ?_)
          refine WC.sub [(2, _)] ⟨rfl, trivial⟩ ?_
          refine WC.ret ?_
          refine WK.in_ret ?_
          refine WK.in_ret ?_
          refine WK.then_ret ?_
          refine WK.then_ret ?_
          refine WK.in_ret ?_
          refine WK.then_ret ?_
          clear k1 k2 k3 k5 k6 k8 k9 k19 k20 k25 k30 k34
          refine WK.ret [_] rfl ⟨rfl, trivial⟩ ?_
          refine ⟨ret1 (vi ?_), xW⟩
          rw [← inv_i, drop_bang (show i < l.length from by omega)]
          rw [Fl.chk]
          unfold Fl.rangeB
          simp only [h23, h28, h33, Bool.or_false, Bool.false_or, Bool.or_true, Bool.true_or, Bool.false_eq_true, if_true, if_false]
        ·
          refine WC.seq (fun K35 k35 => ?_)
          refine WC.region rfl ?_
          refine WL.yld rfl (blt rfl) rfl (Y.fieldAddr rfl Try.underlying46 rfl ti40 (by decide) rfl) ?_
          refine WL.yld rfl (blt rfl) rfl (Y.fieldAddr rfl Try.underlying40 rfl ti3 (by decide) rfl) ?_
          refine WL.yld rfl (blt rfl) rfl (Y.load1 rfl Try.underlying3 rfl rfl (Blk.at_eq m18 rfl)) ?_
          refine WL.call rfl (blt rfl) rfl rfl rfl has30 rfl (bad_any _ _ _ ) ?_
          rintro _ w36 ⟨rfl, x37⟩
          refine ⟨_, rfl, ?_⟩
          have m18 := m18.ext x37
          have xW := Ext.trans xW x37
          refine WL.yld rfl (blt rfl) rfl (Y.assign rfl rfl) ?_
          refine WL.nil ?_
          refine WK.then_normal (k35 _ _ ?_)
          refine WC.sub [(0, _), (3, _), (4, _), (5, _), (6, _), (7, _), (12, _)] ⟨rfl, rfl, rfl, rfl, rfl, rfl, rfl, trivial⟩ ?_
          refine WC.cond rfl (fun h38 => ?_) (fun h38 => ?_)
          ·
            refine WC.skip ?_
            refine WK.then_normal (k19 _ _ ?_)
            refine WC.sub [(0, _), (3, _), (4, _), (5, _), (6, _), (7, _), (12, .bool true)] ⟨rfl, rfl, rfl, rfl, rfl, rfl, kn h38, trivial⟩ ?_
            refine WC.condT rfl ?_
            refine WC.seq (fun K39 k39 => ?_)
            refine WC.region rfl ?_
            refine WL.yld rfl (blt rfl) rfl (Y.assign rfl rfl) ?_
            refine WL.nil ?_
            refine WK.then_normal (k39 _ _ ?_)
            refine WC.sub [(2, _)] ⟨rfl, trivial⟩ ?_
            refine WC.ret ?_
            refine WK.in_ret ?_
            refine WK.in_ret ?_
            refine WK.then_ret ?_
            refine WK.then_ret ?_
            refine WK.in_ret ?_
            refine WK.then_ret ?_
            clear k1 k2 k3 k5 k6 k8 k9 k19 k20 k25 k30 k35 k39
            refine WK.ret [_] rfl ⟨rfl, trivial⟩ ?_
            refine ⟨ret1 (vi ?_), xW⟩
            rw [← inv_i, drop_bang (show i < l.length from by omega)]
            rw [Fl.chk]
            unfold Fl.rangeB
            simp only [h23, h28, h33, h38, Bool.or_false, Bool.false_or, Bool.or_true, Bool.true_or, Bool.false_eq_true, if_true, if_false]
          ·
            refine WC.seq (fun K40 k40 => ?_)
            refine WC.region rfl ?_
            refine WL.yld rfl (blt rfl) rfl (Y.fieldAddr rfl Try.underlying46 rfl ti40 (by decide) rfl) ?_
            refine WL.yld rfl (blt rfl) rfl (Y.fieldAddr rfl Try.underlying40 rfl ti3 (by decide) rfl) ?_
            refine WL.yld rfl (blt rfl) rfl (Y.load1 rfl Try.underlying3 rfl rfl (Blk.at_eq m18 rfl)) ?_
            refine WL.call rfl (blt rfl) rfl rfl rfl has30 rfl (bad_any _ _ _ ) ?_
            rintro _ w41 ⟨rfl, x42⟩
            refine ⟨_, rfl, ?_⟩
            have m18 := m18.ext x42
            have xW := Ext.trans xW x42
            refine WL.yld rfl (blt rfl) rfl (Y.assign rfl rfl) ?_
            refine WL.nil ?_
            refine WK.then_normal (k40 _ _ ?_)
            refine WC.sub [(0, _), (3, _), (4, _), (5, _), (6, _), (7, _), (12, _)] ⟨rfl, rfl, rfl, rfl, rfl, rfl, rfl, trivial⟩ ?_
            refine WC.cond rfl (fun h43 => ?_) (fun h43 => ?_)
            ·
              refine WC.skip ?_
              refine WK.then_normal (k19 _ _ ?_)
              refine WC.sub [(0, _), (3, _), (4, _), (5, _), (6, _), (7, _), (12, .bool true)] ⟨rfl, rfl, rfl, rfl, rfl, rfl, kn h43, trivial⟩ ?_
              refine WC.condT rfl ?_
              refine WC.seq (fun K44 k44 => ?_)
              refine WC.region rfl ?_
              refine WL.yld rfl (blt rfl) rfl (Y.assign rfl rfl) ?_
              refine WL.nil ?_
              refine WK.then_normal (k44 _ _ ?_)
              refine WC.sub [(2, _)] ⟨rfl, trivial⟩ ?_
              refine WC.ret ?_
              refine WK.in_ret ?_
              refine WK.in_ret ?_
              refine WK.then_ret ?_
              refine WK.then_ret ?_
              refine WK.in_ret ?_
              refine WK.then_ret ?_
              clear k1 k2 k3 k5 k6 k8 k9 k19 k20 k25 k30 k35 k40 k44
              refine WK.ret [_] rfl ⟨rfl, trivial⟩ ?_
              refine ⟨ret1 (vi ?_), xW⟩
              rw [← inv_i, drop_bang (show i < l.length from by omega)]
              rw [Fl.chk]
              unfold Fl.rangeB
              simp only [h23, h28, h33, h38, h43, Bool.or_false, Bool.false_or, Bool.or_true, Bool.true_or, Bool.false_eq_true, if_true, if_false]
            ·
              refine WC.seq (fun K45 k45 => ?_)
              refine WC.region rfl ?_
              refine WL.yld rfl (blt rfl) rfl (Y.fieldAddr rfl Try.underlying46 rfl ti3 (by decide) rfl) ?_
              refine WL.yld rfl (blt rfl) rfl (Y.load1 rfl Try.underlying3 rfl rfl (Blk.at_eq m18 rfl)) ?_
              refine WL.call rfl (blt rfl) rfl rfl rfl has30 rfl (bad_any _ _ _ ) ?_
              rintro _ w46 ⟨rfl, x47⟩
              refine ⟨_, rfl, ?_⟩
              have m18 := m18.ext x47
              have xW := Ext.trans xW x47
              refine WL.yld rfl (blt rfl) rfl (Y.assign rfl rfl) ?_
              refine WL.nil ?_
              refine WK.then_normal (k45 _ _ ?_)
              refine WC.sub [(0, _), (3, _), (4, _), (5, _), (6, _), (7, _), (12, _)] ⟨rfl, rfl, rfl, rfl, rfl, rfl, rfl, trivial⟩ ?_
              refine WC.cond rfl (fun h48 => ?_) (fun h48 => ?_)
              ·
                refine WC.skip ?_
                refine WK.then_normal (k19 _ _ ?_)
                refine WC.sub [(0, _), (3, _), (4, _), (5, _), (6, _), (7, _), (12, .bool true)] ⟨rfl, rfl, rfl, rfl, rfl, rfl, kn h48, trivial⟩ ?_
                refine WC.condT rfl ?_
                refine WC.seq (fun K49 k49 => ?_)
                refine WC.region rfl ?_
                refine WL.yld rfl (blt rfl) rfl (Y.assign rfl rfl) ?_
                refine WL.nil ?_
                refine WK.then_normal (k49 _ _ ?_)
                refine WC.sub [(2, _)] ⟨rfl, trivial⟩ ?_
                refine WC.ret ?_
                refine WK.in_ret ?_
                refine WK.in_ret ?_
                refine WK.then_ret ?_
                refine WK.then_ret ?_
                refine WK.in_ret ?_
                refine WK.then_ret ?_
                clear k1 k2 k3 k5 k6 k8 k9 k19 k20 k25 k30 k35 k40 k45 k49
                refine WK.ret [_] rfl ⟨rfl, trivial⟩ ?_
                refine ⟨ret1 (vi ?_), xW⟩
                rw [← inv_i, drop_bang (show i < l.length from by omega)]
                rw [Fl.chk]
                unfold Fl.rangeB
                simp only [h23, h28, h33, h38, h43, h48, Bool.or_false, Bool.false_or, Bool.or_true, Bool.true_or, Bool.false_eq_true, if_true, if_false]
              ·
                refine WC.region rfl ?_
                refine WL.yld rfl (blt rfl) rfl (Y.fieldAddr rfl Try.underlying46 rfl ti3 (by decide) rfl) ?_
                refine WL.yld rfl (blt rfl) rfl (Y.load1 rfl Try.underlying3 rfl rfl (Blk.at_eq m18 rfl)) ?_
                refine WL.call rfl (blt rfl) rfl rfl rfl has30 rfl (bad_any _ _ _ ) ?_
                rintro _ w50 ⟨rfl, x51⟩
                refine ⟨_, rfl, ?_⟩
                have m18 := m18.ext x51
                have xW := Ext.trans xW x51
                refine WL.yld rfl (blt rfl) rfl (Y.assign rfl rfl) ?_
                refine WL.nil ?_
                refine WK.then_normal (k19 _ _ ?_)
                refine WC.sub [(0, _), (3, _), (4, _), (5, _), (6, _), (7, _), (12, _)] ⟨rfl, rfl, rfl, rfl, rfl, rfl, rfl, trivial⟩ ?_
                refine WC.cond rfl (fun h52 => ?_) (fun h52 => ?_)
                ·
                  refine WC.seq (fun K53 k53 => ?_)
                  refine WC.region rfl ?_
                  refine WL.yld rfl (blt rfl) rfl (Y.assign rfl rfl) ?_
                  refine WL.nil ?_
                  refine WK.then_normal (k53 _ _ ?_)
                  refine WC.sub [(2, _)] ⟨rfl, trivial⟩ ?_
                  refine WC.ret ?_
                  refine WK.in_ret ?_
                  refine WK.in_ret ?_
                  refine WK.then_ret ?_
                  refine WK.then_ret ?_
                  refine WK.in_ret ?_
                  refine WK.then_ret ?_
                  clear k1 k2 k3 k5 k6 k8 k9 k19 k20 k25 k30 k35 k40 k45 k53
                  refine WK.ret [_] rfl ⟨rfl, trivial⟩ ?_
                  refine ⟨ret1 (vi ?_), xW⟩
                  rw [← inv_i, drop_bang (show i < l.length from by omega)]
                  rw [Fl.chk]
                  unfold Fl.rangeB
                  simp only [h23, h28, h33, h38, h43, h48, h52, Bool.or_false, Bool.false_or, Bool.or_true, Bool.true_or, Bool.false_eq_true, if_true, if_false]
                ·
                  refine WC.seq (fun K54 k54 => ?_)
                  refine WC.seq (fun K55 k55 => ?_)
                  refine WC.region rfl ?_
                  refine WL.yld rfl (blt rfl) rfl (Y.fieldAddr rfl Try.underlying46 rfl ti3 (by decide) rfl) ?_
                  refine WL.yld rfl (blt rfl) rfl (Y.load1 rfl Try.underlying3 rfl rfl (Blk.at_eq m18 rfl)) ?_
                  refine WL.yld rfl (blt rfl) rfl (Y.fieldAddr rfl Try.underlying46 rfl ti3 (by decide) rfl) ?_
                  refine WL.yld rfl (blt rfl) rfl (Y.load1 rfl Try.underlying3 rfl rfl (Blk.at_eq m18 rfl)) ?_
                  refine WL.yld rfl (blt rfl) rfl (Y.gtr rfl rfl rfl) ?_
                  refine WL.yld rfl (blt rfl) rfl (Y.assign rfl rfl) ?_
                  refine WL.nil ?_
                  refine WK.then_normal (k55 _ _ ?_)
                  refine WC.sub [(0, _), (3, _), (4, _), (5, _), (6, _), (7, _), (38, _)] ⟨rfl, rfl, rfl, rfl, rfl, rfl, rfl, trivial⟩ ?_
                  refine WC.cond rfl (fun h56 => ?_) (fun h56 => ?_)
                  ·
                    have p56 := (dec_t h56)
                    refine WC.skip ?_
                    refine WK.then_normal (k54 _ _ ?_)
                    refine WC.sub [(0, _), (5, _), (6, _), (7, _), (38, .bool true)] ⟨rfl, rfl, rfl, rfl, kn h56, trivial⟩ ?_
                    refine WC.condT rfl ?_
                    refine WC.seq (fun K57 k57 => ?_)
                    refine WC.region rfl ?_
                    refine WL.yld rfl (blt rfl) rfl (Y.assign rfl rfl) ?_
                    refine WL.nil ?_
                    refine WK.then_normal (k57 _ _ ?_)
                    refine WC.sub [(2, _)] ⟨rfl, trivial⟩ ?_
                    refine WC.ret ?_
                    refine WK.in_ret ?_
                    refine WK.in_ret ?_
                    refine WK.then_ret ?_
                    refine WK.then_ret ?_
                    refine WK.in_ret ?_
                    refine WK.then_ret ?_
                    clear k1 k2 k3 k5 k6 k8 k9 k19 k20 k25 k30 k35 k40 k45 k54 k55 k57
                    refine WK.ret [_] rfl ⟨rfl, trivial⟩ ?_
                    refine ⟨ret1 (vi ?_), xW⟩
                    rw [← inv_i, drop_bang (show i < l.length from by omega)]
                    rw [Fl.chk]
                    unfold Fl.rangeB
                    simp only [h23, h28, h33, h38, h43, h48, h52, h56, Bool.or_false, Bool.false_or, Bool.or_true, Bool.true_or, Bool.false_eq_true, if_true, if_false]
                  ·
                    have p56 := (dec_f h56)
                    refine WC.regionDq (by kernel_rfl) (by kernel_rfl) rfl ?_
                    refine WQ.yld rfl (blt rfl) rfl (Y.move rfl rfl) ?_
                    refine WQ.yld rfl (blt rfl) rfl (Y.gtr rfl rfl rfl) ?_
                    refine WQ.yld rfl (blt rfl) rfl (Y.move rfl rfl) ?_
                    refine WQ.yldG rfl (blt rfl) rfl rfl rfl (fun hb => Y.fieldAddr rfl Try.underlying46 rfl ti3 (by decide) rfl) ?_
                    refine WQ.yldG rfl (blt rfl) rfl rfl rfl (fun hb => Y.load1 rfl Try.underlying3 rfl (evg rfl hb) (Blk.at_ext m18 rfl)) ?_
                    refine WQ.yldG rfl (blt rfl) rfl rfl rfl (fun hb => Y.move rfl rfl) ?_
                    refine WQ.yldG rfl (blt rfl) rfl rfl rfl (fun hb => Y.move rfl rfl) ?_
                    refine WQ.yldG rfl (blt rfl) rfl rfl rfl (fun hb => Y.sub rfl (evg rfl hb) rfl (wrap_i64 (by have q0 := (dec_t hb); first | omega | (dsimp only; omega)))) ?_
                    refine WQ.yldG rfl (blt rfl) rfl rfl rfl (fun hb => Y.indexLs (i - 1) (h_l.ext xW) rfl Try.underlying25 ti46 (evg rfl hb) (evg rfl hb) (by have q0 := (dec_t hb); omega) (by have q0 := (dec_t hb); omega)) ?_
                    refine WQ.yldG rfl (blt rfl) rfl rfl rfl (fun hb => Y.fieldE rfl Try.underlying46 rfl ti3 (by decide) (evg rfl hb)) ?_
                    refine WQ.yldG rfl (blt rfl) rfl rfl rfl (fun hb => Y.load1 rfl Try.underlying3 rfl (evg rfl hb) (Ls.at_ext (h_l.ext xW) (by have q0 := (dec_t hb); omega) rfl)) ?_
                    refine WQ.yldG rfl (blt rfl) rfl rfl rfl (fun hb => Y.lss rfl (evg rfl hb) (evg rfl hb)) ?_
                    refine WQ.yld rfl (blt rfl) rfl (Y.and rfl rfl rfl rfl) ?_
                    refine WQ.yld rfl (blt rfl) rfl (Y.assign rfl rfl) ?_
                    refine WQ.done (fun w58 x59 => ?_)
                    have m18 := m18.ext x59
                    have xW := Ext.trans xW x59
                    refine WK.then_normal (k54 _ _ ?_)
                    refine WC.sub [(0, _), (5, _), (6, _), (7, _), (38, _)] ⟨rfl, rfl, rfl, rfl, rfl, trivial⟩ ?_
                    refine WC.cond rfl (fun h60 => ?_) (fun h60 => ?_)
                    ·
                      have p60 := (And.intro (dec_t (and_t h60).1) (dec_t (and_t h60).2))
                      refine WC.seq (fun K61 k61 => ?_)
                      refine WC.region rfl ?_
                      refine WL.yld rfl (blt rfl) rfl (Y.assign rfl rfl) ?_
                      refine WL.nil ?_
                      refine WK.then_normal (k61 _ _ ?_)
                      refine WC.sub [(2, _)] ⟨rfl, trivial⟩ ?_
                      refine WC.ret ?_
                      refine WK.in_ret ?_
                      refine WK.in_ret ?_
                      refine WK.then_ret ?_
                      refine WK.then_ret ?_
                      refine WK.in_ret ?_
                      refine WK.then_ret ?_
                      clear k1 k2 k3 k5 k6 k8 k9 k19 k20 k25 k30 k35 k40 k45 k54 k55 k61
                      refine WK.ret [_] rfl ⟨rfl, trivial⟩ ?_
                      refine ⟨ret1 (vi ?_), xW⟩
                      rw [← inv_i, drop_bang (show i < l.length from by omega)]
                      rw [Fl.chk]
                      unfold Fl.rangeB
                      simp only [h23, h28, h33, h38, h43, h48, h52, h56, h60, Bool.or_false, Bool.false_or, Bool.or_true, Bool.true_or, Bool.false_eq_true, if_true, if_false]
                    ·
                      have p60 := ((and_f h60).imp (fun h => (dec_f h)) (fun h => (dec_f h)))
                      refine WC.skip ?_
                      refine WK.in_normal ?_
                      refine WK.in_normal ?_
                      refine WK.then_normal (k8 _ _ ?_)
                      refine WC.sub [(0, _), (5, _), (6, _), (7, _)] ⟨rfl, rfl, rfl, rfl, trivial⟩ ?_
                      refine WC.region rfl ?_
                      refine WL.yld rfl (blt rfl) rfl (Y.add rfl rfl rfl (wrap_i64 (by first | omega | (dsimp only; omega)))) ?_
                      refine WL.yld rfl (blt rfl) rfl (Y.move rfl rfl) ?_
                      refine WL.nil ?_
                      refine WK.roundS _ [(7, .int .i64 (((i + 1) : Nat) : Int))] ⟨rfl, rfl, rfl, rfl, trivial⟩ ?_ ⟨(i + 1), rfl, rfl, xW, (by omega), (by rw [← inv_i, drop_bang (show i < l.length from by omega)]; rw [Fl.chk, if_neg (by unfold Fl.rangeB; simp only [h23, h28, h33, h38, h43, h48, h52, h56, h60, Bool.or_false, Bool.false_or]; exact Bool.false_ne_true), if_neg (by simp only [h23, h28, h33, h38, h43, h48, h52, h56, h60, Bool.or_false, Bool.false_or]; exact Bool.false_ne_true)])⟩
                      show _ - (i + 1) < _ - i; omega
  ·
    have p7 := (dec_f h7)
    refine WC.exit ?_
    refine WK.then_exit ?_
    refine WK.then_exit ?_
    refine WK.in_exit ?_
    refine WK.then_normal (k2 _ _ ?_)
    refine WC.sub [] trivial ?_
    refine WC.seq (fun K62 k62 => ?_)
    refine WC.region rfl ?_
    refine WL.yld rfl (blt rfl) rfl (Y.assign rfl rfl) ?_
    refine WL.nil ?_
    refine WK.then_normal (k62 _ _ ?_)
    refine WC.ret ?_
    clear k1 k2 k3 k5 k6 k62
    refine WK.ret [_] rfl ⟨rfl, trivial⟩ ?_
    refine ⟨ret1 (vi ?_), xW⟩
    rw [← inv_i, List.drop_of_length_le (by omega)]; rfl
theorem between_any (A_l : Option Addr) (n_l c_l : Nat) (l : List Fl.Flow) (a : Int) (b : Int) (w : World) (h_l : Ls w A_l n_l c_l Fl.Flow.c 7 l) (hn : n_l ≤ 2000) :
    Calls Try.prog 18 #[.slice A_l n_l c_l, .int .i64 a, .int .i64 b] w fun e w' => ∃ v, e = .returned v ∧ OwnL w' w.heap.size 46 Fl.Flow.c 7 v (Fl.betweenF l a b) ∧ Ext w w' := by
  have xW := Ext.refl w
  have e_l := h_l.len
  have z_l := h_l.nle
  refine calls_of_WC (args := [.slice A_l n_l c_l, .int .i64 a, .int .i64 b]) Try.func18 rfl rfl (ble rfl) ?_
  refine WC.seq (fun K1 k1 => ?_)
  refine WC.region rfl ?_
  refine WL.yld rfl (blt rfl) rfl (Y.assign rfl rfl) ?_
  refine WL.nil ?_
  refine WK.then_normal (k1 _ _ ?_)
  refine WC.sub [(0, _), (1, _), (2, _)] ⟨rfl, rfl, rfl, trivial⟩ ?_
  refine WC.seq (fun K2 k2 => ?_)
  refine WC.region rfl ?_
  refine WL.yld rfl (blt rfl) rfl (Y.assign rfl rfl) ?_
  refine WL.nil ?_
  refine WK.then_normal (k2 _ _ ?_)
  refine WC.seq (fun K3 k3 => ?_)
  refine WC.seq (fun K4 k4 => ?_)
  refine WC.region rfl ?_
  refine WL.yld rfl (blt rfl) rfl (Y.move rfl rfl) ?_
  refine WL.yld rfl (blt rfl) rfl (Y.lenSl rfl rfl rfl Try.underlying25 rfl) ?_
  refine WL.yld rfl (blt rfl) rfl (Y.move rfl rfl) ?_
  refine WL.nil ?_
  refine WK.then_normal (k4 _ _ ?_)
  refine WC.sub [(1, _), (2, _), (7, _), (10, _), (11, _), (12, _)] ⟨rfl, rfl, rfl, rfl, rfl, rfl, trivial⟩ ?_
  refine WC.block ?_
  refine WC.sub [(12, _), (7, _), (1, _), (2, _), (10, _), (11, _)] ⟨rfl, rfl, rfl, rfl, rfl, rfl, trivial⟩ ?_
  refine WC.loopS 2 (fun mz Ed W' => ∃ i : Nat, ∃ v : Value, mz = n_l - i ∧ Ed = [(12, .int .i64 ((i : Nat) : Int)), (7, v)] ∧ Ext w W' ∧ OwnL W' w.heap.size 46 Fl.Flow.c 7 v (Fl.betweenF (l.take i) a b) ∧ (i ≤ n_l)) _ ⟨0, _, rfl, rfl, xW, OwnL.nil_, (Nat.zero_le _)⟩ ?_
  rintro _ _ w5 ⟨i, v, rfl, rfl, xW, ow_v, le_i⟩
  refine WC.sub [(12, _), (7, _), (1, _), (2, _), (10, _), (11, _)] ⟨rfl, rfl, rfl, rfl, rfl, rfl, trivial⟩ ?_
  refine WC.seq (fun K6 k6 => ?_)
  refine WC.region rfl ?_
  refine WL.yld rfl (blt rfl) rfl (Y.lss rfl rfl rfl) ?_
  refine WL.nil ?_
  refine WK.then_normal (k6 _ _ ?_)
  refine WC.seq (fun K7 k7 => ?_)
  refine WC.cond rfl (fun h8 => ?_) (fun h8 => ?_)
  ·
    have p8 := (dec_t h8)
    refine WC.skip ?_
    refine WK.then_normal (k7 _ _ ?_)
    refine WC.sub [(1, _), (2, _), (7, _), (10, _), (11, _), (12, _)] ⟨rfl, rfl, rfl, rfl, rfl, rfl, trivial⟩ ?_
    refine WC.seq (fun K9 k9 => ?_)
    refine WC.block ?_
    refine WC.seq (fun K10 k10 => ?_)
    refine WC.region rfl ?_
    have b11 : i < n_l := by omega
    refine WL.yld rfl (blt rfl) rfl (Y.indexLs i (h_l.ext xW) rfl Try.underlying25 ti46 rfl rfl rfl b11) ?_
    refine WL.yld rfl (blt rfl) rfl (Y.loadS (cs := [_, _, _, _, _, _, _]) rfl Try.underlying46 rfl ti46 rfl (Ls.part_eq (h_l.ext xW) b11 rfl)) ?_
    refine WL.alloc rfl (blt rfl) rfl rfl ti46 rfl ?_
    intro g12 w13 e14 x15 m16
    have r_v_g12 := ne_newO ow_v e14
    have o_g12 := own_new xW e14
    have ow_v := ow_v.ext x15
    have xW := Ext.trans xW x15
    refine WL.store (cs' := [_, _, _, _, _, _, _]) rfl rfl rfl rfl rfl rfl ti46 m16 (ble rfl) rfl rfl (fun w17 on18 m19 => ?_)
    have ow_v := ow_v.only r_v_g12 on18
    have xW := Ext.only xW on18 o_g12
    refine WL.nil ?_
    refine WK.then_normal (k10 _ _ ?_)
    refine WC.sub [(1, _), (2, _), (7, _), (9, _), (10, _), (11, _), (12, _)] ⟨rfl, rfl, rfl, rfl, rfl, rfl, rfl, trivial⟩ ?_
    refine WC.seq (fun K20 k20 => ?_)
    refine WC.region rfl ?_
    refine WL.yld rfl (blt rfl) rfl (Y.fieldAddr rfl Try.underlying46 rfl ti40 (by decide) rfl) ?_
    refine WL.yld rfl (blt rfl) rfl (Y.fieldAddr rfl Try.underlying40 rfl ti3 (by decide) rfl) ?_
    refine WL.yld rfl (blt rfl) rfl (Y.load1 rfl Try.underlying3 rfl rfl (Blk.at_eq m19 rfl)) ?_
    refine WL.yld rfl (blt rfl) rfl (Y.move rfl rfl) ?_
    refine WL.yld rfl (blt rfl) rfl (Y.eql rfl rfl rfl) ?_
    refine WL.yld rfl (blt rfl) rfl (Y.move rfl rfl) ?_
    refine WL.yldG rfl (blt rfl) rfl rfl rfl (fun hb => Y.fieldAddr rfl Try.underlying46 rfl ti40 (by decide) rfl) ?_
    refine WL.yldG rfl (blt rfl) rfl rfl rfl (fun hb => Y.fieldAddr rfl Try.underlying40 rfl ti3 (by decide) (evg rfl hb)) ?_
    refine WL.yldG rfl (blt rfl) rfl rfl rfl (fun hb => Y.load1 rfl Try.underlying3 rfl (evg rfl hb) (Blk.at_eq m19 rfl)) ?_
    refine WL.yldG rfl (blt rfl) rfl rfl rfl (fun hb => Y.move rfl rfl) ?_
    refine WL.yldG rfl (blt rfl) rfl rfl rfl (fun hb => Y.eql rfl (evg rfl hb) (evg rfl hb)) ?_
    refine WL.yld rfl (blt rfl) rfl (Y.and rfl rfl rfl rfl) ?_
    refine WL.nil ?_
    refine WK.then_normal (k20 _ _ ?_)
    refine WC.sub [(1, _), (2, _), (7, _), (9, _), (10, _), (11, _), (12, _), (27, _)] ⟨rfl, rfl, rfl, rfl, rfl, rfl, rfl, rfl, trivial⟩ ?_
    refine WC.cond rfl (fun h21 => ?_) (fun h21 => ?_)
    ·
      have p21 := (And.intro (eq_t (and_t h21).1) (eq_t (and_t h21).2))
      refine WC.region rfl ?_
      refine WL.yld rfl (blt rfl) rfl (Y.move rfl rfl) ?_
      refine WL.yld rfl (blt rfl) rfl (Y.loadS rfl Try.underlying46 rfl ti46 rfl (Blk.row_eq m19)) ?_
      refine WL.bslice (zs := [.int .i64 0, .int .i64 0, .int .i64 0, .int .i64 0, .int .i64 0, .int .i64 0, .int .i64 0]) (cs := [_, _, _, _, _, _, _]) rfl (blt rfl) rfl rfl Try.underlying25 ti46 rfl (ble rfl) (by kernel_rfl) rfl rfl ?_
      intro g22 w23 e24 x25 m26
      have r_v_g22 := ne_newO ow_v e24
      have n_g12_g22 := ne_new m19 e24
      have o_g22 := own_new xW e24
      have ow_v := ow_v.ext x25
      have m19 := m19.ext x25
      have xW := Ext.trans xW x25
      refine WL.appendB (f := Fl.Flow.c) (news := [l[i]!]) rfl (blt rfl) rfl rfl rfl rfl Try.underlying25 ti46 rfl (by decide) rfl ow_v (fun _ => rfl) Fl.Flow.one m26 rfl xW.size (by have q0 := Fl.between_len l a b i; first | omega | (simp only [List.length_append, List.length_cons, List.length_nil, List.length_take, List.length_drop, List.length_reverse]; omega)) (Nat.le_trans (show _ ≤ 140737488355328 from by have q0 := Fl.between_len l a b i; first | omega | (simp only [List.length_append, List.length_cons, List.length_nil, List.length_take, List.length_drop, List.length_reverse]; omega)) (by decide)) (fun v27 w28 ow29 gr30 nb31 => ?_)
      have r_v27_g12 := ne_app nb31 r_v_g12 m19
      have m19 := m19.grown gr30 r_v_g12
      have r_v27_g22 := ne_app nb31 r_v_g22 m26
      have m26 := m26.grown gr30 r_v_g22
      have xW := Ext.grown xW gr30 (fun b hb => (OwnL.lt ow_v hb).1)
      refine WL.yld rfl (blt rfl) rfl (Y.assign rfl rfl) ?_
      refine WL.nil ?_
      refine WK.in_normal ?_
      refine WK.then_normal (k9 _ _ ?_)
      refine WC.sub [(1, _), (2, _), (7, _), (10, _), (11, _), (12, _)] ⟨rfl, rfl, rfl, rfl, rfl, rfl, trivial⟩ ?_
      refine WC.region rfl ?_
      refine WL.yld rfl (blt rfl) rfl (Y.add rfl rfl rfl (wrap_i64 (by first | omega | (dsimp only; omega)))) ?_
      refine WL.yld rfl (blt rfl) rfl (Y.move rfl rfl) ?_
      refine WL.nil ?_
      refine WK.roundS _ [(12, .int .i64 (((i + 1) : Nat) : Int)), (7, v27)] ⟨rfl, rfl, rfl, rfl, rfl, rfl, trivial⟩ ?_ ⟨(i + 1), v27, rfl, rfl, xW, (by rw [Fl.between_take l a b (show i < l.length from by omega)]; simp only [h21, Bool.false_eq_true, if_true, if_false, List.append_nil]; exact ow29), (by omega)⟩
      show _ - (i + 1) < _ - i; omega
    ·
      have p21 := ((and_f h21).imp (fun h => (eq_f h)) (fun h => (eq_f h)))
      refine WC.skip ?_
      refine WK.in_normal ?_
      refine WK.then_normal (k9 _ _ ?_)
      refine WC.sub [(1, _), (2, _), (7, _), (10, _), (11, _), (12, _)] ⟨rfl, rfl, rfl, rfl, rfl, rfl, trivial⟩ ?_
      refine WC.region rfl ?_
      refine WL.yld rfl (blt rfl) rfl (Y.add rfl rfl rfl (wrap_i64 (by first | omega | (dsimp only; omega)))) ?_
      refine WL.yld rfl (blt rfl) rfl (Y.move rfl rfl) ?_
      refine WL.nil ?_
      refine WK.roundS _ [(12, .int .i64 (((i + 1) : Nat) : Int)), (7, v)] ⟨rfl, rfl, rfl, rfl, rfl, rfl, trivial⟩ ?_ ⟨(i + 1), v, rfl, rfl, xW, (by rw [Fl.between_take l a b (show i < l.length from by omega)]; simp only [h21, Bool.false_eq_true, if_true, if_false, List.append_nil]; exact ow_v), (by omega)⟩
      show _ - (i + 1) < _ - i; omega
  ·
    have p8 := (dec_f h8)
    refine WC.exit ?_
    refine WK.then_exit ?_
    refine WK.then_exit ?_
    refine WK.in_exit ?_
    refine WK.then_normal (k3 _ _ ?_)
    refine WC.sub [(7, _)] ⟨rfl, trivial⟩ ?_
    refine WC.seq (fun K32 k32 => ?_)
    refine WC.region rfl ?_
    refine WL.yld rfl (blt rfl) rfl (Y.move rfl rfl) ?_
    refine WL.yld rfl (blt rfl) rfl (Y.assign rfl rfl) ?_
    refine WL.nil ?_
    refine WK.then_normal (k32 _ _ ?_)
    refine WC.sub [(6, _)] ⟨rfl, trivial⟩ ?_
    refine WC.ret ?_
    clear k1 k2 k3 k4 k6 k7 k32
    refine WK.ret [_] rfl ⟨rfl, trivial⟩ ?_
    refine ⟨_, rfl, ?_, xW⟩
    rw [show l.take i = l from List.take_of_length_le (by omega)] at ow_v
    exact ow_v
end FlW

end Go.Proofs.Ytcojkflgcccjeaa
