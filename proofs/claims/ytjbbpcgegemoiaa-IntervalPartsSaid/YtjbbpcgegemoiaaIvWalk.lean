/- Contracts of package interval's functions and of their references. Conditions: what each theorem states. -/
import Derived.Test.YtjbbpcgegemoiaaIvSpec
import Derived.Test.YtjbbpcgegemoiaaRows
namespace Go.Proofs.Ytjbbpcgegemoiaa
open Go Go.Eng Go.RowKit
set_option linter.unusedVariables false
theorem ti3 : TI Try.prog 3 (.int .i64 0) 1 8 := TI.mk (by kernel_rfl)
theorem ti23 : TI Try.prog 23 (.agg #[.int .i64 0, .int .i64 0]) 2 16 := TI.mk (by kernel_rfl)
theorem has13 : Has Try.prog 13 := ⟨_, Try.func13, rfl, by kernel_rfl⟩
theorem has14 : Has Try.prog 14 := ⟨_, Try.func14, rfl, by kernel_rfl⟩
theorem has25 : Has Try.prog 25 := ⟨_, Try.func25, rfl, by kernel_rfl⟩
theorem has26 : Has Try.prog 26 := ⟨_, Try.func26, rfl, by kernel_rfl⟩
theorem has27 : Has Try.prog 27 := ⟨_, Try.func27, rfl, by kernel_rfl⟩
theorem pl23 : PL Try.prog 23 [.int .i64 0, .int .i64 0] [(0, 1), (1, 1)] := PL.mk (zero := [.int .i64 0, .int .i64 0]) ti23 Try.underlying23 (by kernel_rfl)
theorem in_any (n : Int) (w : World) :
    Calls Try.prog 26 #[.int .i64 n] w fun e w' => e = .returned (.bool (Iv.inB n)) ∧ Ext w w' := by
  have xW := Ext.refl w
  refine calls_of_WC (args := [.int .i64 n]) Try.func26 rfl rfl (ble rfl) ?_
  refine WC.seq (fun K1 k1 => ?_)
  refine WC.region rfl ?_
  refine WL.yld rfl (blt rfl) rfl (Y.assign rfl rfl) ?_
  refine WL.nil ?_
  refine WK.then_normal (k1 _ _ ?_)
  refine WC.sub [(0, _)] ⟨rfl, trivial⟩ ?_
  refine WC.seq (fun K2 k2 => ?_)
  refine WC.region rfl ?_
  refine WL.yld rfl (blt rfl) rfl (Y.move rfl rfl) ?_
  refine WL.yld rfl (blt rfl) rfl (Y.geq rfl rfl rfl) ?_
  refine WL.yld rfl (blt rfl) rfl (Y.move rfl rfl) ?_
  refine WL.yldG rfl (blt rfl) rfl rfl rfl (fun hb => Y.move rfl rfl) ?_
  refine WL.yldG rfl (blt rfl) rfl rfl rfl (fun hb => Y.leq rfl (evg rfl hb) rfl) ?_
  refine WL.yld rfl (blt rfl) rfl (Y.and rfl rfl rfl rfl) ?_
  refine WL.yld rfl (blt rfl) rfl (Y.assign rfl rfl) ?_
  refine WL.nil ?_
  refine WK.then_normal (k2 _ _ ?_)
  refine WC.sub [(2, _)] ⟨rfl, trivial⟩ ?_
  refine WC.ret ?_
  clear k1 k2
  refine WK.ret [_] rfl ⟨rfl, trivial⟩ ?_
  exact ⟨rfl, xW⟩
theorem rin_any (n : Int) (w : World) :
    Calls Try.prog 27 #[.int .i64 n] w fun e w' => e = .returned (.bool (Iv.inB n)) ∧ Ext w w' := by
  have xW := Ext.refl w
  refine calls_of_WC (args := [.int .i64 n]) Try.func27 rfl rfl (ble rfl) ?_
  refine WC.seq (fun K1 k1 => ?_)
  refine WC.region rfl ?_
  refine WL.yld rfl (blt rfl) rfl (Y.assign rfl rfl) ?_
  refine WL.nil ?_
  refine WK.then_normal (k1 _ _ ?_)
  refine WC.sub [(0, _)] ⟨rfl, trivial⟩ ?_
  refine WC.seq (fun K2 k2 => ?_)
  refine WC.region rfl ?_
  refine WL.yld rfl (blt rfl) rfl (Y.move rfl rfl) ?_
  refine WL.yld rfl (blt rfl) rfl (Y.geq rfl rfl rfl) ?_
  refine WL.yld rfl (blt rfl) rfl (Y.move rfl rfl) ?_
  refine WL.yldG rfl (blt rfl) rfl rfl rfl (fun hb => Y.move rfl rfl) ?_
  refine WL.yldG rfl (blt rfl) rfl rfl rfl (fun hb => Y.leq rfl (evg rfl hb) rfl) ?_
  refine WL.yld rfl (blt rfl) rfl (Y.and rfl rfl rfl rfl) ?_
  refine WL.yld rfl (blt rfl) rfl (Y.assign rfl rfl) ?_
  refine WL.nil ?_
  refine WK.then_normal (k2 _ _ ?_)
  refine WC.sub [(2, _)] ⟨rfl, trivial⟩ ?_
  refine WC.ret ?_
  clear k1 k2
  refine WK.ret [_] rfl ⟨rfl, trivial⟩ ?_
  exact ⟨rfl, xW⟩
theorem valid_any (a0 : Int) (a1 : Int) (w : World) :
    Calls Try.prog 13 #[.agg #[.int .i64 a0, .int .i64 a1]] w fun e w' => e = .returned (.bool (Iv.validB (a0, a1))) ∧ Ext w w' := by
  have xW := Ext.refl w
  refine calls_of_WC (args := [.agg #[.int .i64 a0, .int .i64 a1]]) Try.func13 rfl rfl (ble rfl) ?_
  refine WC.seq (fun K1 k1 => ?_)
  refine WC.region rfl ?_
  refine WL.box rfl (blt rfl) rfl rfl rfl rfl ?_
  intro g2 w3 e4 x5 m6
  have o_g2 := own_new xW e4
  have xW := Ext.trans xW x5
  refine WL.yld rfl (blt rfl) rfl (Y.assign rfl rfl) ?_
  refine WL.nil ?_
  refine WK.then_normal (k1 _ _ ?_)
  refine WC.sub [(1, _)] ⟨rfl, trivial⟩ ?_
  refine WC.seq (fun K7 k7 => ?_)
  refine WC.region rfl ?_
  refine WL.yld rfl (blt rfl) rfl (Y.fieldAddr rfl Try.underlying23 rfl ti3 (by decide) rfl) ?_
  refine WL.yld rfl (blt rfl) rfl (Y.load1 rfl Try.underlying3 rfl rfl (Blk.at_eq m6 rfl)) ?_
  refine WL.yld rfl (blt rfl) rfl (Y.fieldAddr rfl Try.underlying23 rfl ti3 (by decide) rfl) ?_
  refine WL.yld rfl (blt rfl) rfl (Y.load1 rfl Try.underlying3 rfl rfl (Blk.at_eq m6 rfl)) ?_
  refine WL.yld rfl (blt rfl) rfl (Y.leq rfl rfl rfl) ?_
  refine WL.yld rfl (blt rfl) rfl (Y.move rfl rfl) ?_
  refine WL.yldG rfl (blt rfl) rfl rfl rfl (fun hb => Y.fieldAddr rfl Try.underlying23 rfl ti3 (by decide) rfl) ?_
  refine WL.yldG rfl (blt rfl) rfl rfl rfl (fun hb => Y.load1 rfl Try.underlying3 rfl (evg rfl hb) (Blk.at_eq m6 rfl)) ?_
  refine WL.callG rfl (blt rfl) rfl rfl rfl rfl rfl has26 (fun hb => (evs_cons (evg rfl hb) evs_nil)) (fun hb => in_any _ _) (fun w8 x9 => ?_)
  have m6 := m6.ext x9
  have xW := Ext.trans xW x9
  refine WL.yld rfl (blt rfl) rfl (Y.and rfl rfl rfl rfl) ?_
  refine WL.yld rfl (blt rfl) rfl (Y.move rfl rfl) ?_
  refine WL.yldG rfl (blt rfl) rfl rfl rfl (fun hb => Y.fieldAddr rfl Try.underlying23 rfl ti3 (by decide) rfl) ?_
  refine WL.yldG rfl (blt rfl) rfl rfl rfl (fun hb => Y.load1 rfl Try.underlying3 rfl (evg rfl hb) (Blk.at_eq m6 rfl)) ?_
  refine WL.callG rfl (blt rfl) rfl rfl rfl rfl rfl has26 (fun hb => (evs_cons (evg rfl hb) evs_nil)) (fun hb => in_any _ _) (fun w10 x11 => ?_)
  have m6 := m6.ext x11
  have xW := Ext.trans xW x11
  refine WL.yld rfl (blt rfl) rfl (Y.and rfl rfl rfl rfl) ?_
  refine WL.yld rfl (blt rfl) rfl (Y.assign rfl rfl) ?_
  refine WL.nil ?_
  refine WK.then_normal (k7 _ _ ?_)
  refine WC.sub [(2, _)] ⟨rfl, trivial⟩ ?_
  refine WC.ret ?_
  clear k1 k7
  refine WK.ret [_] rfl ⟨rfl, trivial⟩ ?_
  exact ⟨rfl, xW⟩
theorem rvalid_any (a0 : Int) (a1 : Int) (w : World) :
    Calls Try.prog 14 #[.agg #[.int .i64 a0, .int .i64 a1]] w fun e w' => e = .returned (.bool (Iv.validB (a0, a1))) ∧ Ext w w' := by
  have xW := Ext.refl w
  refine calls_of_WC (args := [.agg #[.int .i64 a0, .int .i64 a1]]) Try.func14 rfl rfl (ble rfl) ?_
  refine WC.seq (fun K1 k1 => ?_)
  refine WC.region rfl ?_
  refine WL.box rfl (blt rfl) rfl rfl rfl rfl ?_
  intro g2 w3 e4 x5 m6
  have o_g2 := own_new xW e4
  have xW := Ext.trans xW x5
  refine WL.yld rfl (blt rfl) rfl (Y.assign rfl rfl) ?_
  refine WL.nil ?_
  refine WK.then_normal (k1 _ _ ?_)
  refine WC.sub [(1, _)] ⟨rfl, trivial⟩ ?_
  refine WC.seq (fun K7 k7 => ?_)
  refine WC.region rfl ?_
  refine WL.yld rfl (blt rfl) rfl (Y.fieldAddr rfl Try.underlying23 rfl ti3 (by decide) rfl) ?_
  refine WL.yld rfl (blt rfl) rfl (Y.load1 rfl Try.underlying3 rfl rfl (Blk.at_eq m6 rfl)) ?_
  refine WL.yld rfl (blt rfl) rfl (Y.fieldAddr rfl Try.underlying23 rfl ti3 (by decide) rfl) ?_
  refine WL.yld rfl (blt rfl) rfl (Y.load1 rfl Try.underlying3 rfl rfl (Blk.at_eq m6 rfl)) ?_
  refine WL.yld rfl (blt rfl) rfl (Y.leq rfl rfl rfl) ?_
  refine WL.yld rfl (blt rfl) rfl (Y.move rfl rfl) ?_
  refine WL.yldG rfl (blt rfl) rfl rfl rfl (fun hb => Y.fieldAddr rfl Try.underlying23 rfl ti3 (by decide) rfl) ?_
  refine WL.yldG rfl (blt rfl) rfl rfl rfl (fun hb => Y.load1 rfl Try.underlying3 rfl (evg rfl hb) (Blk.at_eq m6 rfl)) ?_
  refine WL.callG rfl (blt rfl) rfl rfl rfl rfl rfl has27 (fun hb => (evs_cons (evg rfl hb) evs_nil)) (fun hb => rin_any _ _) (fun w8 x9 => ?_)
  have m6 := m6.ext x9
  have xW := Ext.trans xW x9
  refine WL.yld rfl (blt rfl) rfl (Y.and rfl rfl rfl rfl) ?_
  refine WL.yld rfl (blt rfl) rfl (Y.move rfl rfl) ?_
  refine WL.yldG rfl (blt rfl) rfl rfl rfl (fun hb => Y.fieldAddr rfl Try.underlying23 rfl ti3 (by decide) rfl) ?_
  refine WL.yldG rfl (blt rfl) rfl rfl rfl (fun hb => Y.load1 rfl Try.underlying3 rfl (evg rfl hb) (Blk.at_eq m6 rfl)) ?_
  refine WL.callG rfl (blt rfl) rfl rfl rfl rfl rfl has27 (fun hb => (evs_cons (evg rfl hb) evs_nil)) (fun hb => rin_any _ _) (fun w10 x11 => ?_)
  have m6 := m6.ext x11
  have xW := Ext.trans xW x11
  refine WL.yld rfl (blt rfl) rfl (Y.and rfl rfl rfl rfl) ?_
  refine WL.yld rfl (blt rfl) rfl (Y.assign rfl rfl) ?_
  refine WL.nil ?_
  refine WK.then_normal (k7 _ _ ?_)
  refine WC.sub [(2, _)] ⟨rfl, trivial⟩ ?_
  refine WC.ret ?_
  clear k1 k7
  refine WK.ret [_] rfl ⟨rfl, trivial⟩ ?_
  exact ⟨rfl, xW⟩
theorem checked_any (a0 : Int) (a1 : Int) (w : World) :
    Calls Try.prog 25 #[.agg #[.int .i64 a0, .int .i64 a1]] w fun e w' => e = .returned (Iv.ivb (Iv.checkedF (a0, a1))) ∧ Ext w w' := by
  have xW := Ext.refl w
  refine calls_of_WC (args := [.agg #[.int .i64 a0, .int .i64 a1]]) Try.func25 rfl rfl (ble rfl) ?_
  refine WC.seq (fun K1 k1 => ?_)
  refine WC.region rfl ?_
  refine WL.box rfl (blt rfl) rfl rfl rfl rfl ?_
  intro g2 w3 e4 x5 m6
  have o_g2 := own_new xW e4
  have xW := Ext.trans xW x5
  refine WL.alloc rfl (blt rfl) rfl rfl ti23 rfl ?_
  intro g7 w8 e9 x10 m11
  have n_g2_g7 := ne_new m6 e9
  have o_g7 := own_new xW e9
  have m6 := m6.ext x10
  have xW := Ext.trans xW x10
  refine WL.yld rfl (blt rfl) rfl (Y.assign rfl rfl) ?_
  refine WL.nil ?_
  refine WK.then_normal (k1 _ _ ?_)
  refine WC.sub [(1, _), (2, _)] ⟨rfl, rfl, trivial⟩ ?_
  refine WC.seq (fun K12 k12 => ?_)
  refine WC.seq (fun K13 k13 => ?_)
  refine WC.region rfl ?_
  refine WL.yld rfl (blt rfl) rfl (Y.loadS rfl Try.underlying23 rfl ti23 rfl (Blk.row_eq m6)) ?_
  refine WL.call rfl (blt rfl) rfl rfl rfl has13 rfl (valid_any _ _ _) ?_
  rintro _ w14 ⟨rfl, x15⟩
  refine ⟨_, rfl, ?_⟩
  have m6 := m6.ext x15
  have m11 := m11.ext x15
  have xW := Ext.trans xW x15
  refine WL.yld rfl (blt rfl) rfl (Y.not rfl rfl) ?_
  refine WL.nil ?_
  refine WK.then_normal (k13 _ _ ?_)
  refine WC.sub [(1, _), (2, _), (6, _)] ⟨rfl, rfl, rfl, trivial⟩ ?_
  refine WC.cond rfl (fun h16 => ?_) (fun h16 => ?_)
  ·
    refine WC.seq (fun K17 k17 => ?_)
    refine WC.region rfl ?_
    refine WL.yld rfl (blt rfl) rfl (Y.build (cells := [_, _]) rfl pl23 rfl rfl) ?_
    refine WL.store (cs' := [_, _]) rfl rfl rfl rfl rfl rfl ti23 m11 (ble rfl) rfl rfl (fun w18 on19 m20 => ?_)
    have m6 := m6.only n_g2_g7 on19
    have xW := Ext.only xW on19 o_g7
    refine WL.yld rfl (blt rfl) rfl (Y.assign rfl rfl) ?_
    refine WL.nil ?_
    refine WK.then_normal (k17 _ _ ?_)
    refine WC.sub [(2, _), (3, _)] ⟨rfl, rfl, trivial⟩ ?_
    refine WC.ret ?_
    refine WK.then_ret ?_
    clear k1 k12 k13 k17
    refine WK.ret [_, _] rfl ⟨⟨_, rfl, run_loadVar_blk Try.underlying23 rfl ti23 m20⟩, rfl, trivial⟩ ?_
    refine ⟨?_, xW⟩
    revert h16
    simp only [Iv.ivb, Iv.checkedF, resVal]
    cases Iv.validB (a0, a1) <;> simp
  ·
    refine WC.skip ?_
    refine WK.then_normal (k12 _ _ ?_)
    refine WC.sub [(1, _), (2, _)] ⟨rfl, rfl, trivial⟩ ?_
    refine WC.seq (fun K21 k21 => ?_)
    refine WC.region rfl ?_
    refine WL.yld rfl (blt rfl) rfl (Y.loadS rfl Try.underlying23 rfl ti23 rfl (Blk.row_eq m6)) ?_
    refine WL.store (cs' := [_, _]) rfl rfl rfl rfl rfl rfl ti23 m11 (ble rfl) rfl rfl (fun w22 on23 m24 => ?_)
    have m6 := m6.only n_g2_g7 on23
    have xW := Ext.only xW on23 o_g7
    refine WL.yld rfl (blt rfl) rfl (Y.assign rfl rfl) ?_
    refine WL.nil ?_
    refine WK.then_normal (k21 _ _ ?_)
    refine WC.sub [(2, _), (3, _)] ⟨rfl, rfl, trivial⟩ ?_
    refine WC.ret ?_
    clear k1 k12 k13 k21
    refine WK.ret [_, _] rfl ⟨⟨_, rfl, run_loadVar_blk Try.underlying23 rfl ti23 m24⟩, rfl, trivial⟩ ?_
    refine ⟨?_, xW⟩
    revert h16
    simp only [Iv.ivb, Iv.checkedF, resVal]
    cases Iv.validB (a0, a1) <;> simp
theorem meet_any (a0 : Int) (a1 : Int) (b0 : Int) (b1 : Int) (w : World) :
    Calls Try.prog 9 #[.agg #[.int .i64 a0, .int .i64 a1], .agg #[.int .i64 b0, .int .i64 b1]] w fun e w' => e = .returned (Iv.ivb (Iv.meetF (a0, a1) (b0, b1))) ∧ Ext w w' := by
  have xW := Ext.refl w
  refine calls_of_WC (args := [.agg #[.int .i64 a0, .int .i64 a1], .agg #[.int .i64 b0, .int .i64 b1]]) Try.func9 rfl rfl (ble rfl) ?_
  refine WC.seq (fun K1 k1 => ?_)
  refine WC.region rfl ?_
  refine WL.box rfl (blt rfl) rfl rfl rfl rfl ?_
  intro g2 w3 e4 x5 m6
  have o_g2 := own_new xW e4
  have xW := Ext.trans xW x5
  refine WL.box rfl (blt rfl) rfl rfl rfl rfl ?_
  intro g7 w8 e9 x10 m11
  have n_g2_g7 := ne_new m6 e9
  have o_g7 := own_new xW e9
  have m6 := m6.ext x10
  have xW := Ext.trans xW x10
  refine WL.alloc rfl (blt rfl) rfl rfl ti23 rfl ?_
  intro g12 w13 e14 x15 m16
  have n_g2_g12 := ne_new m6 e14
  have n_g7_g12 := ne_new m11 e14
  have o_g12 := own_new xW e14
  have m6 := m6.ext x15
  have m11 := m11.ext x15
  have xW := Ext.trans xW x15
  refine WL.yld rfl (blt rfl) rfl (Y.assign rfl rfl) ?_
  refine WL.nil ?_
  refine WK.then_normal (k1 _ _ ?_)
  refine WC.sub [(2, _), (3, _), (4, _)] ⟨rfl, rfl, rfl, trivial⟩ ?_
  refine WC.seq (fun K17 k17 => ?_)
  refine WC.seq (fun K18 k18 => ?_)
  refine WC.region rfl ?_
  refine WL.yld rfl (blt rfl) rfl (Y.loadS rfl Try.underlying23 rfl ti23 rfl (Blk.row_eq m6)) ?_
  refine WL.call rfl (blt rfl) rfl rfl rfl has13 rfl (valid_any _ _ _) ?_
  rintro _ w19 ⟨rfl, x20⟩
  refine ⟨_, rfl, ?_⟩
  have m6 := m6.ext x20
  have m11 := m11.ext x20
  have m16 := m16.ext x20
  have xW := Ext.trans xW x20
  refine WL.yld rfl (blt rfl) rfl (Y.not rfl rfl) ?_
  refine WL.yld rfl (blt rfl) rfl (Y.move rfl rfl) ?_
  refine WL.yldG rfl (blt rfl) rfl rfl rfl (fun hb => Y.loadS rfl Try.underlying23 rfl ti23 rfl (Blk.row_eq m11)) ?_
  refine WL.callG rfl (blt rfl) rfl rfl rfl rfl rfl has13 (fun hb => (evs_cons (evg rfl hb) evs_nil)) (fun hb => valid_any _ _ _) (fun w21 x22 => ?_)
  have m6 := m6.ext x22
  have m11 := m11.ext x22
  have m16 := m16.ext x22
  have xW := Ext.trans xW x22
  refine WL.yldG rfl (blt rfl) rfl rfl rfl (fun hb => Y.not rfl (evg rfl hb)) ?_
  refine WL.yld rfl (blt rfl) rfl (Y.or rfl rfl rfl rfl) ?_
  refine WL.nil ?_
  refine WK.then_normal (k18 _ _ ?_)
  refine WC.sub [(2, _), (3, _), (4, _), (13, _)] ⟨rfl, rfl, rfl, rfl, trivial⟩ ?_
  refine WC.cond rfl (fun h23 => ?_) (fun h23 => ?_)
  ·
    refine WC.seq (fun K24 k24 => ?_)
    refine WC.region rfl ?_
    refine WL.yld rfl (blt rfl) rfl (Y.build (cells := [_, _]) rfl pl23 rfl rfl) ?_
    refine WL.store (cs' := [_, _]) rfl rfl rfl rfl rfl rfl ti23 m16 (ble rfl) rfl rfl (fun w25 on26 m27 => ?_)
    have m6 := m6.only n_g2_g12 on26
    have m11 := m11.only n_g7_g12 on26
    have xW := Ext.only xW on26 o_g12
    refine WL.yld rfl (blt rfl) rfl (Y.assign rfl rfl) ?_
    refine WL.nil ?_
    refine WK.then_normal (k24 _ _ ?_)
    refine WC.sub [(4, _), (5, _)] ⟨rfl, rfl, trivial⟩ ?_
    refine WC.ret ?_
    refine WK.then_ret ?_
    clear k1 k17 k18 k24
    refine WK.ret [_, _] rfl ⟨⟨_, rfl, run_loadVar_blk Try.underlying23 rfl ti23 m27⟩, rfl, trivial⟩ ?_
    refine ⟨?_, xW⟩
    revert h23
    simp only [Iv.ivb, Iv.meetF, Iv.checkedF, resVal]
    cases Iv.validB (a0, a1) <;> cases Iv.validB (b0, b1) <;> cases Iv.validB (max a0 b0, min a1 b1) <;> simp
  ·
    refine WC.skip ?_
    refine WK.then_normal (k17 _ _ ?_)
    refine WC.sub [(2, _), (3, _), (4, _)] ⟨rfl, rfl, rfl, trivial⟩ ?_
    refine WC.seq (fun K28 k28 => ?_)
    refine WC.region rfl ?_
    refine WL.yld rfl (blt rfl) rfl (Y.fieldAddr rfl Try.underlying23 rfl ti3 (by decide) rfl) ?_
    refine WL.yld rfl (blt rfl) rfl (Y.load1 rfl Try.underlying3 rfl rfl (Blk.at_eq m6 rfl)) ?_
    refine WL.yld rfl (blt rfl) rfl (Y.fieldAddr rfl Try.underlying23 rfl ti3 (by decide) rfl) ?_
    refine WL.yld rfl (blt rfl) rfl (Y.load1 rfl Try.underlying3 rfl rfl (Blk.at_eq m11 rfl)) ?_
    refine WL.yld rfl (blt rfl) rfl (Y.maxI rfl rfl rfl rfl) ?_
    refine WL.yld rfl (blt rfl) rfl (Y.fieldAddr rfl Try.underlying23 rfl ti3 (by decide) rfl) ?_
    refine WL.yld rfl (blt rfl) rfl (Y.load1 rfl Try.underlying3 rfl rfl (Blk.at_eq m6 rfl)) ?_
    refine WL.yld rfl (blt rfl) rfl (Y.fieldAddr rfl Try.underlying23 rfl ti3 (by decide) rfl) ?_
    refine WL.yld rfl (blt rfl) rfl (Y.load1 rfl Try.underlying3 rfl rfl (Blk.at_eq m11 rfl)) ?_
    refine WL.yld rfl (blt rfl) rfl (Y.minI rfl rfl rfl rfl) ?_
    refine WL.yld rfl (blt rfl) rfl (Y.build (cells := [_, _]) rfl pl23 rfl rfl) ?_
    refine WL.call rfl (blt rfl) rfl rfl rfl has25 rfl (checked_any _ _ _) ?_
    rintro _ w29 ⟨rfl, x30⟩
    refine ⟨_, rfl, ?_⟩
    have m6 := m6.ext x30
    have m11 := m11.ext x30
    have m16 := m16.ext x30
    have xW := Ext.trans xW x30
    refine WL.yld rfl (blt rfl) rfl (Y.extract rfl rfl rfl) ?_
    refine WL.yld rfl (blt rfl) rfl (Y.extract rfl rfl rfl) ?_
    refine WL.store (cs' := [_, _]) rfl rfl rfl rfl rfl rfl ti23 m16 (ble rfl) rfl rfl (fun w31 on32 m33 => ?_)
    have m6 := m6.only n_g2_g12 on32
    have m11 := m11.only n_g7_g12 on32
    have xW := Ext.only xW on32 o_g12
    refine WL.yld rfl (blt rfl) rfl (Y.assign rfl rfl) ?_
    refine WL.nil ?_
    refine WK.then_normal (k28 _ _ ?_)
    refine WC.sub [(4, _), (5, _)] ⟨rfl, rfl, trivial⟩ ?_
    refine WC.ret ?_
    clear k1 k17 k18 k28
    refine WK.ret [_, _] rfl ⟨⟨_, rfl, run_loadVar_blk Try.underlying23 rfl ti23 m33⟩, rfl, trivial⟩ ?_
    refine ⟨?_, xW⟩
    revert h23
    simp only [Iv.ivb, Iv.meetF, Iv.checkedF, resVal]
    cases Iv.validB (a0, a1) <;> cases Iv.validB (b0, b1) <;> cases Iv.validB (max a0 b0, min a1 b1) <;> simp
theorem hull_any (a0 : Int) (a1 : Int) (b0 : Int) (b1 : Int) (w : World) :
    Calls Try.prog 15 #[.agg #[.int .i64 a0, .int .i64 a1], .agg #[.int .i64 b0, .int .i64 b1]] w fun e w' => e = .returned (Iv.iv (Iv.hullF (a0, a1) (b0, b1))) ∧ Ext w w' := by
  have xW := Ext.refl w
  refine calls_of_WC (args := [.agg #[.int .i64 a0, .int .i64 a1], .agg #[.int .i64 b0, .int .i64 b1]]) Try.func15 rfl rfl (ble rfl) ?_
  refine WC.seq (fun K1 k1 => ?_)
  refine WC.region rfl ?_
  refine WL.box rfl (blt rfl) rfl rfl rfl rfl ?_
  intro g2 w3 e4 x5 m6
  have o_g2 := own_new xW e4
  have xW := Ext.trans xW x5
  refine WL.box rfl (blt rfl) rfl rfl rfl rfl ?_
  intro g7 w8 e9 x10 m11
  have n_g2_g7 := ne_new m6 e9
  have o_g7 := own_new xW e9
  have m6 := m6.ext x10
  have xW := Ext.trans xW x10
  refine WL.alloc rfl (blt rfl) rfl rfl ti23 rfl ?_
  intro g12 w13 e14 x15 m16
  have n_g2_g12 := ne_new m6 e14
  have n_g7_g12 := ne_new m11 e14
  have o_g12 := own_new xW e14
  have m6 := m6.ext x15
  have m11 := m11.ext x15
  have xW := Ext.trans xW x15
  refine WL.nil ?_
  refine WK.then_normal (k1 _ _ ?_)
  refine WC.sub [(2, _), (3, _), (4, _)] ⟨rfl, rfl, rfl, trivial⟩ ?_
  refine WC.seq (fun K17 k17 => ?_)
  refine WC.block ?_
  refine WC.seq (fun K18 k18 => ?_)
  refine WC.region rfl ?_
  refine WL.yld rfl (blt rfl) rfl (Y.loadS rfl Try.underlying23 rfl ti23 rfl (Blk.row_eq m6)) ?_
  refine WL.call rfl (blt rfl) rfl rfl rfl has13 rfl (valid_any _ _ _) ?_
  rintro _ w19 ⟨rfl, x20⟩
  refine ⟨_, rfl, ?_⟩
  have m6 := m6.ext x20
  have m11 := m11.ext x20
  have m16 := m16.ext x20
  have xW := Ext.trans xW x20
  refine WL.yld rfl (blt rfl) rfl (Y.move rfl rfl) ?_
  refine WL.yldG rfl (blt rfl) rfl rfl rfl (fun hb => Y.loadS rfl Try.underlying23 rfl ti23 rfl (Blk.row_eq m11)) ?_
  refine WL.callG rfl (blt rfl) rfl rfl rfl rfl rfl has13 (fun hb => (evs_cons (evg rfl hb) evs_nil)) (fun hb => valid_any _ _ _) (fun w21 x22 => ?_)
  have m6 := m6.ext x22
  have m11 := m11.ext x22
  have m16 := m16.ext x22
  have xW := Ext.trans xW x22
  refine WL.yld rfl (blt rfl) rfl (Y.and rfl rfl rfl rfl) ?_
  refine WL.yld rfl (blt rfl) rfl (Y.assign rfl rfl) ?_
  refine WL.nil ?_
  refine WK.then_normal (k18 _ _ ?_)
  refine WC.sub [(2, _), (3, _), (4, _), (5, _)] ⟨rfl, rfl, rfl, rfl, trivial⟩ ?_
  refine WC.cond rfl (fun h23 => ?_) (fun h23 => ?_)
  ·
    refine WC.seq (fun K24 k24 => ?_)
    refine WC.region rfl ?_
    refine WL.yld rfl (blt rfl) rfl (Y.fieldAddr rfl Try.underlying23 rfl ti3 (by decide) rfl) ?_
    refine WL.yld rfl (blt rfl) rfl (Y.load1 rfl Try.underlying3 rfl rfl (Blk.at_eq m6 rfl)) ?_
    refine WL.yld rfl (blt rfl) rfl (Y.fieldAddr rfl Try.underlying23 rfl ti3 (by decide) rfl) ?_
    refine WL.yld rfl (blt rfl) rfl (Y.load1 rfl Try.underlying3 rfl rfl (Blk.at_eq m11 rfl)) ?_
    refine WL.yld rfl (blt rfl) rfl (Y.minI rfl rfl rfl rfl) ?_
    refine WL.yld rfl (blt rfl) rfl (Y.fieldAddr rfl Try.underlying23 rfl ti3 (by decide) rfl) ?_
    refine WL.yld rfl (blt rfl) rfl (Y.load1 rfl Try.underlying3 rfl rfl (Blk.at_eq m6 rfl)) ?_
    refine WL.yld rfl (blt rfl) rfl (Y.fieldAddr rfl Try.underlying23 rfl ti3 (by decide) rfl) ?_
    refine WL.yld rfl (blt rfl) rfl (Y.load1 rfl Try.underlying3 rfl rfl (Blk.at_eq m11 rfl)) ?_
    refine WL.yld rfl (blt rfl) rfl (Y.maxI rfl rfl rfl rfl) ?_
    refine WL.yld rfl (blt rfl) rfl (Y.build (cells := [_, _]) rfl pl23 rfl rfl) ?_
    refine WL.store (cs' := [_, _]) rfl rfl rfl rfl rfl rfl ti23 m16 (ble rfl) rfl rfl (fun w25 on26 m27 => ?_)
    have m6 := m6.only n_g2_g12 on26
    have m11 := m11.only n_g7_g12 on26
    have xW := Ext.only xW on26 o_g12
    refine WL.nil ?_
    refine WK.then_normal (k24 _ _ ?_)
    refine WC.sub [(4, _)] ⟨rfl, trivial⟩ ?_
    refine WC.ret ?_
    refine WK.in_ret ?_
    refine WK.then_ret ?_
    clear k1 k17 k18 k24
    refine WK.ret [_] rfl ⟨⟨_, rfl, run_loadVar_blk Try.underlying23 rfl ti23 m27⟩, trivial⟩ ?_
    refine ⟨?_, xW⟩
    revert h23
    simp only [Iv.iv, Iv.hullF, resVal]
    cases Iv.validB (a0, a1) <;> cases Iv.validB (b0, b1) <;> simp
  ·
    refine WC.seq (fun K28 k28 => ?_)
    refine WC.region rfl ?_
    refine WL.yld rfl (blt rfl) rfl (Y.loadS rfl Try.underlying23 rfl ti23 rfl (Blk.row_eq m6)) ?_
    refine WL.call rfl (blt rfl) rfl rfl rfl has13 rfl (valid_any _ _ _) ?_
    rintro _ w29 ⟨rfl, x30⟩
    refine ⟨_, rfl, ?_⟩
    have m6 := m6.ext x30
    have m11 := m11.ext x30
    have m16 := m16.ext x30
    have xW := Ext.trans xW x30
    refine WL.yld rfl (blt rfl) rfl (Y.assign rfl rfl) ?_
    refine WL.nil ?_
    refine WK.then_normal (k28 _ _ ?_)
    refine WC.sub [(2, _), (3, _), (4, _), (23, _)] ⟨rfl, rfl, rfl, rfl, trivial⟩ ?_
    refine WC.cond rfl (fun h31 => ?_) (fun h31 => ?_)
    ·
      refine WC.seq (fun K32 k32 => ?_)
      refine WC.region rfl ?_
      refine WL.yld rfl (blt rfl) rfl (Y.loadS rfl Try.underlying23 rfl ti23 rfl (Blk.row_eq m6)) ?_
      refine WL.store (cs' := [_, _]) rfl rfl rfl rfl rfl rfl ti23 m16 (ble rfl) rfl rfl (fun w33 on34 m35 => ?_)
      have m6 := m6.only n_g2_g12 on34
      have m11 := m11.only n_g7_g12 on34
      have xW := Ext.only xW on34 o_g12
      refine WL.nil ?_
      refine WK.then_normal (k32 _ _ ?_)
      refine WC.sub [(4, _)] ⟨rfl, trivial⟩ ?_
      refine WC.ret ?_
      refine WK.in_ret ?_
      refine WK.then_ret ?_
      clear k1 k17 k18 k28 k32
      refine WK.ret [_] rfl ⟨⟨_, rfl, run_loadVar_blk Try.underlying23 rfl ti23 m35⟩, trivial⟩ ?_
      refine ⟨?_, xW⟩
      revert h23 h31
      simp only [Iv.iv, Iv.hullF, resVal]
      cases Iv.validB (a0, a1) <;> cases Iv.validB (b0, b1) <;> simp
    ·
      refine WC.seq (fun K36 k36 => ?_)
      refine WC.region rfl ?_
      refine WL.yld rfl (blt rfl) rfl (Y.loadS rfl Try.underlying23 rfl ti23 rfl (Blk.row_eq m11)) ?_
      refine WL.call rfl (blt rfl) rfl rfl rfl has13 rfl (valid_any _ _ _) ?_
      rintro _ w37 ⟨rfl, x38⟩
      refine ⟨_, rfl, ?_⟩
      have m6 := m6.ext x38
      have m11 := m11.ext x38
      have m16 := m16.ext x38
      have xW := Ext.trans xW x38
      refine WL.yld rfl (blt rfl) rfl (Y.assign rfl rfl) ?_
      refine WL.nil ?_
      refine WK.then_normal (k36 _ _ ?_)
      refine WC.sub [(3, _), (4, _), (27, _)] ⟨rfl, rfl, rfl, trivial⟩ ?_
      refine WC.cond rfl (fun h39 => ?_) (fun h39 => ?_)
      ·
        refine WC.seq (fun K40 k40 => ?_)
        refine WC.region rfl ?_
        refine WL.yld rfl (blt rfl) rfl (Y.loadS rfl Try.underlying23 rfl ti23 rfl (Blk.row_eq m11)) ?_
        refine WL.store (cs' := [_, _]) rfl rfl rfl rfl rfl rfl ti23 m16 (ble rfl) rfl rfl (fun w41 on42 m43 => ?_)
        have m11 := m11.only n_g7_g12 on42
        have xW := Ext.only xW on42 o_g12
        refine WL.nil ?_
        refine WK.then_normal (k40 _ _ ?_)
        refine WC.sub [(4, _)] ⟨rfl, trivial⟩ ?_
        refine WC.ret ?_
        refine WK.in_ret ?_
        refine WK.then_ret ?_
        clear k1 k17 k18 k28 k36 k40
        refine WK.ret [_] rfl ⟨⟨_, rfl, run_loadVar_blk Try.underlying23 rfl ti23 m43⟩, trivial⟩ ?_
        refine ⟨?_, xW⟩
        revert h23 h31 h39
        simp only [Iv.iv, Iv.hullF, resVal]
        cases Iv.validB (a0, a1) <;> cases Iv.validB (b0, b1) <;> simp
      ·
        refine WC.skip ?_
        refine WK.in_normal ?_
        refine WK.then_normal (k17 _ _ ?_)
        refine WC.sub [(4, _)] ⟨rfl, trivial⟩ ?_
        refine WC.seq (fun K44 k44 => ?_)
        refine WC.region rfl ?_
        refine WL.yld rfl (blt rfl) rfl (Y.build (cells := [_, _]) rfl pl23 rfl rfl) ?_
        refine WL.store (cs' := [_, _]) rfl rfl rfl rfl rfl rfl ti23 m16 (ble rfl) rfl rfl (fun w45 on46 m47 => ?_)
        have xW := Ext.only xW on46 o_g12
        refine WL.nil ?_
        refine WK.then_normal (k44 _ _ ?_)
        refine WC.sub [(4, _)] ⟨rfl, trivial⟩ ?_
        refine WC.ret ?_
        clear k1 k17 k18 k28 k36 k44
        refine WK.ret [_] rfl ⟨⟨_, rfl, run_loadVar_blk Try.underlying23 rfl ti23 m47⟩, trivial⟩ ?_
        refine ⟨?_, xW⟩
        revert h23 h31 h39
        simp only [Iv.iv, Iv.hullF, resVal]
        cases Iv.validB (a0, a1) <;> cases Iv.validB (b0, b1) <;> simp
theorem add_any (a0 : Int) (a1 : Int) (b0 : Int) (b1 : Int) (w : World) :
    Calls Try.prog 11 #[.agg #[.int .i64 a0, .int .i64 a1], .agg #[.int .i64 b0, .int .i64 b1]] w fun e w' => e = .returned (Iv.ivb (Iv.addF (a0, a1) (b0, b1))) ∧ Ext w w' := by
  have xW := Ext.refl w
  refine calls_of_WC (args := [.agg #[.int .i64 a0, .int .i64 a1], .agg #[.int .i64 b0, .int .i64 b1]]) Try.func11 rfl rfl (ble rfl) ?_
  refine WC.seq (fun K1 k1 => ?_)
  refine WC.region rfl ?_
  refine WL.box rfl (blt rfl) rfl rfl rfl rfl ?_
  intro g2 w3 e4 x5 m6
  have o_g2 := own_new xW e4
  have xW := Ext.trans xW x5
  refine WL.box rfl (blt rfl) rfl rfl rfl rfl ?_
  intro g7 w8 e9 x10 m11
  have n_g2_g7 := ne_new m6 e9
  have o_g7 := own_new xW e9
  have m6 := m6.ext x10
  have xW := Ext.trans xW x10
  refine WL.alloc rfl (blt rfl) rfl rfl ti23 rfl ?_
  intro g12 w13 e14 x15 m16
  have n_g2_g12 := ne_new m6 e14
  have n_g7_g12 := ne_new m11 e14
  have o_g12 := own_new xW e14
  have m6 := m6.ext x15
  have m11 := m11.ext x15
  have xW := Ext.trans xW x15
  refine WL.yld rfl (blt rfl) rfl (Y.assign rfl rfl) ?_
  refine WL.nil ?_
  refine WK.then_normal (k1 _ _ ?_)
  refine WC.sub [(2, _), (3, _), (4, _)] ⟨rfl, rfl, rfl, trivial⟩ ?_
  refine WC.seq (fun K17 k17 => ?_)
  refine WC.seq (fun K18 k18 => ?_)
  refine WC.region rfl ?_
  refine WL.yld rfl (blt rfl) rfl (Y.loadS rfl Try.underlying23 rfl ti23 rfl (Blk.row_eq m6)) ?_
  refine WL.call rfl (blt rfl) rfl rfl rfl has13 rfl (valid_any _ _ _) ?_
  rintro _ w19 ⟨rfl, x20⟩
  refine ⟨_, rfl, ?_⟩
  have m6 := m6.ext x20
  have m11 := m11.ext x20
  have m16 := m16.ext x20
  have xW := Ext.trans xW x20
  refine WL.yld rfl (blt rfl) rfl (Y.not rfl rfl) ?_
  refine WL.yld rfl (blt rfl) rfl (Y.move rfl rfl) ?_
  refine WL.yldG rfl (blt rfl) rfl rfl rfl (fun hb => Y.loadS rfl Try.underlying23 rfl ti23 rfl (Blk.row_eq m11)) ?_
  refine WL.callG rfl (blt rfl) rfl rfl rfl rfl rfl has13 (fun hb => (evs_cons (evg rfl hb) evs_nil)) (fun hb => valid_any _ _ _) (fun w21 x22 => ?_)
  have m6 := m6.ext x22
  have m11 := m11.ext x22
  have m16 := m16.ext x22
  have xW := Ext.trans xW x22
  refine WL.yldG rfl (blt rfl) rfl rfl rfl (fun hb => Y.not rfl (evg rfl hb)) ?_
  refine WL.yld rfl (blt rfl) rfl (Y.or rfl rfl rfl rfl) ?_
  refine WL.nil ?_
  refine WK.then_normal (k18 _ _ ?_)
  refine WC.sub [(2, _), (3, _), (4, _), (13, _)] ⟨rfl, rfl, rfl, rfl, trivial⟩ ?_
  refine WC.cond rfl (fun h23 => ?_) (fun h23 => ?_)
  ·
    refine WC.seq (fun K24 k24 => ?_)
    refine WC.region rfl ?_
    refine WL.yld rfl (blt rfl) rfl (Y.build (cells := [_, _]) rfl pl23 rfl rfl) ?_
    refine WL.store (cs' := [_, _]) rfl rfl rfl rfl rfl rfl ti23 m16 (ble rfl) rfl rfl (fun w25 on26 m27 => ?_)
    have m6 := m6.only n_g2_g12 on26
    have m11 := m11.only n_g7_g12 on26
    have xW := Ext.only xW on26 o_g12
    refine WL.yld rfl (blt rfl) rfl (Y.assign rfl rfl) ?_
    refine WL.nil ?_
    refine WK.then_normal (k24 _ _ ?_)
    refine WC.sub [(4, _), (5, _)] ⟨rfl, rfl, trivial⟩ ?_
    refine WC.ret ?_
    refine WK.then_ret ?_
    clear k1 k17 k18 k24
    refine WK.ret [_, _] rfl ⟨⟨_, rfl, run_loadVar_blk Try.underlying23 rfl ti23 m27⟩, rfl, trivial⟩ ?_
    refine ⟨?_, xW⟩
    revert h23
    simp only [Iv.ivb, Iv.addF, Iv.checkedF, resVal]
    cases Iv.validB (a0, a1) <;> cases Iv.validB (b0, b1) <;> cases Iv.validB (a0 + b0, a1 + b1) <;> simp
  ·
    simp only [Bool.or_eq_false_iff, Bool.not_eq_false'] at h23
    have vi := Iv.valid_in h23.1
    have vj := Iv.valid_in h23.2
    dsimp only at vi vj
    replace h23 : (!Iv.validB (a0, a1) || !Iv.validB (b0, b1)) = false := by rw [h23.1, h23.2]; rfl
    refine WC.skip ?_
    refine WK.then_normal (k17 _ _ ?_)
    refine WC.sub [(2, _), (3, _), (4, _)] ⟨rfl, rfl, rfl, trivial⟩ ?_
    refine WC.seq (fun K28 k28 => ?_)
    refine WC.region rfl ?_
    refine WL.yld rfl (blt rfl) rfl (Y.fieldAddr rfl Try.underlying23 rfl ti3 (by decide) rfl) ?_
    refine WL.yld rfl (blt rfl) rfl (Y.load1 rfl Try.underlying3 rfl rfl (Blk.at_eq m6 rfl)) ?_
    refine WL.yld rfl (blt rfl) rfl (Y.fieldAddr rfl Try.underlying23 rfl ti3 (by decide) rfl) ?_
    refine WL.yld rfl (blt rfl) rfl (Y.load1 rfl Try.underlying3 rfl rfl (Blk.at_eq m11 rfl)) ?_
    refine WL.yld rfl (blt rfl) rfl (Y.add rfl rfl rfl (wrap_i64 (by first | omega | (dsimp only; omega)))) ?_
    refine WL.yld rfl (blt rfl) rfl (Y.fieldAddr rfl Try.underlying23 rfl ti3 (by decide) rfl) ?_
    refine WL.yld rfl (blt rfl) rfl (Y.load1 rfl Try.underlying3 rfl rfl (Blk.at_eq m6 rfl)) ?_
    refine WL.yld rfl (blt rfl) rfl (Y.fieldAddr rfl Try.underlying23 rfl ti3 (by decide) rfl) ?_
    refine WL.yld rfl (blt rfl) rfl (Y.load1 rfl Try.underlying3 rfl rfl (Blk.at_eq m11 rfl)) ?_
    refine WL.yld rfl (blt rfl) rfl (Y.add rfl rfl rfl (wrap_i64 (by first | omega | (dsimp only; omega)))) ?_
    refine WL.yld rfl (blt rfl) rfl (Y.build (cells := [_, _]) rfl pl23 rfl rfl) ?_
    refine WL.call rfl (blt rfl) rfl rfl rfl has25 rfl (checked_any _ _ _) ?_
    rintro _ w29 ⟨rfl, x30⟩
    refine ⟨_, rfl, ?_⟩
    have m6 := m6.ext x30
    have m11 := m11.ext x30
    have m16 := m16.ext x30
    have xW := Ext.trans xW x30
    refine WL.yld rfl (blt rfl) rfl (Y.extract rfl rfl rfl) ?_
    refine WL.yld rfl (blt rfl) rfl (Y.extract rfl rfl rfl) ?_
    refine WL.store (cs' := [_, _]) rfl rfl rfl rfl rfl rfl ti23 m16 (ble rfl) rfl rfl (fun w31 on32 m33 => ?_)
    have m6 := m6.only n_g2_g12 on32
    have m11 := m11.only n_g7_g12 on32
    have xW := Ext.only xW on32 o_g12
    refine WL.yld rfl (blt rfl) rfl (Y.assign rfl rfl) ?_
    refine WL.nil ?_
    refine WK.then_normal (k28 _ _ ?_)
    refine WC.sub [(4, _), (5, _)] ⟨rfl, rfl, trivial⟩ ?_
    refine WC.ret ?_
    clear k1 k17 k18 k28
    refine WK.ret [_, _] rfl ⟨⟨_, rfl, run_loadVar_blk Try.underlying23 rfl ti23 m33⟩, rfl, trivial⟩ ?_
    refine ⟨?_, xW⟩
    revert h23
    simp only [Iv.ivb, Iv.addF, Iv.checkedF, resVal]
    cases Iv.validB (a0, a1) <;> cases Iv.validB (b0, b1) <;> cases Iv.validB (a0 + b0, a1 + b1) <;> simp
theorem before_any (a0 : Int) (a1 : Int) (b0 : Int) (b1 : Int) (w : World) :
    Calls Try.prog 17 #[.agg #[.int .i64 a0, .int .i64 a1], .agg #[.int .i64 b0, .int .i64 b1]] w fun e w' => e = .returned (.bool (Iv.beforeB (a0, a1) (b0, b1))) ∧ Ext w w' := by
  have xW := Ext.refl w
  refine calls_of_WC (args := [.agg #[.int .i64 a0, .int .i64 a1], .agg #[.int .i64 b0, .int .i64 b1]]) Try.func17 rfl rfl (ble rfl) ?_
  refine WC.seq (fun K1 k1 => ?_)
  refine WC.region rfl ?_
  refine WL.box rfl (blt rfl) rfl rfl rfl rfl ?_
  intro g2 w3 e4 x5 m6
  have o_g2 := own_new xW e4
  have xW := Ext.trans xW x5
  refine WL.box rfl (blt rfl) rfl rfl rfl rfl ?_
  intro g7 w8 e9 x10 m11
  have n_g2_g7 := ne_new m6 e9
  have o_g7 := own_new xW e9
  have m6 := m6.ext x10
  have xW := Ext.trans xW x10
  refine WL.yld rfl (blt rfl) rfl (Y.assign rfl rfl) ?_
  refine WL.nil ?_
  refine WK.then_normal (k1 _ _ ?_)
  refine WC.sub [(2, _), (3, _)] ⟨rfl, rfl, trivial⟩ ?_
  refine WC.seq (fun K12 k12 => ?_)
  refine WC.region rfl ?_
  refine WL.yld rfl (blt rfl) rfl (Y.loadS rfl Try.underlying23 rfl ti23 rfl (Blk.row_eq m6)) ?_
  refine WL.call rfl (blt rfl) rfl rfl rfl has13 rfl (valid_any _ _ _) ?_
  rintro _ w13 ⟨rfl, x14⟩
  refine ⟨_, rfl, ?_⟩
  have m6 := m6.ext x14
  have m11 := m11.ext x14
  have xW := Ext.trans xW x14
  refine WL.yld rfl (blt rfl) rfl (Y.move rfl rfl) ?_
  refine WL.yldG rfl (blt rfl) rfl rfl rfl (fun hb => Y.loadS rfl Try.underlying23 rfl ti23 rfl (Blk.row_eq m11)) ?_
  refine WL.callG rfl (blt rfl) rfl rfl rfl rfl rfl has13 (fun hb => (evs_cons (evg rfl hb) evs_nil)) (fun hb => valid_any _ _ _) (fun w15 x16 => ?_)
  have m6 := m6.ext x16
  have m11 := m11.ext x16
  have xW := Ext.trans xW x16
  refine WL.yld rfl (blt rfl) rfl (Y.and rfl rfl rfl rfl) ?_
  refine WL.yld rfl (blt rfl) rfl (Y.move rfl rfl) ?_
  refine WL.yldG rfl (blt rfl) rfl rfl rfl (fun hb => Y.fieldAddr rfl Try.underlying23 rfl ti3 (by decide) rfl) ?_
  refine WL.yldG rfl (blt rfl) rfl rfl rfl (fun hb => Y.load1 rfl Try.underlying3 rfl (evg rfl hb) (Blk.at_eq m6 rfl)) ?_
  refine WL.yldG rfl (blt rfl) rfl rfl rfl (fun hb => Y.fieldAddr rfl Try.underlying23 rfl ti3 (by decide) rfl) ?_
  refine WL.yldG rfl (blt rfl) rfl rfl rfl (fun hb => Y.load1 rfl Try.underlying3 rfl (evg rfl hb) (Blk.at_eq m11 rfl)) ?_
  refine WL.yldG rfl (blt rfl) rfl rfl rfl (fun hb => Y.lss rfl (evg rfl hb) (evg rfl hb)) ?_
  refine WL.yld rfl (blt rfl) rfl (Y.and rfl rfl rfl rfl) ?_
  refine WL.yld rfl (blt rfl) rfl (Y.assign rfl rfl) ?_
  refine WL.nil ?_
  refine WK.then_normal (k12 _ _ ?_)
  refine WC.sub [(4, _)] ⟨rfl, trivial⟩ ?_
  refine WC.ret ?_
  clear k1 k12
  refine WK.ret [_] rfl ⟨rfl, trivial⟩ ?_
  exact ⟨rfl, xW⟩
theorem within_any (a0 : Int) (a1 : Int) (n : Int) (w : World) :
    Calls Try.prog 19 #[.agg #[.int .i64 a0, .int .i64 a1], .int .i64 n] w fun e w' => e = .returned (.bool (Iv.withinB (a0, a1) n)) ∧ Ext w w' := by
  have xW := Ext.refl w
  refine calls_of_WC (args := [.agg #[.int .i64 a0, .int .i64 a1], .int .i64 n]) Try.func19 rfl rfl (ble rfl) ?_
  refine WC.seq (fun K1 k1 => ?_)
  refine WC.region rfl ?_
  refine WL.box rfl (blt rfl) rfl rfl rfl rfl ?_
  intro g2 w3 e4 x5 m6
  have o_g2 := own_new xW e4
  have xW := Ext.trans xW x5
  refine WL.yld rfl (blt rfl) rfl (Y.assign rfl rfl) ?_
  refine WL.nil ?_
  refine WK.then_normal (k1 _ _ ?_)
  refine WC.sub [(1, _), (2, _)] ⟨rfl, rfl, trivial⟩ ?_
  refine WC.seq (fun K7 k7 => ?_)
  refine WC.region rfl ?_
  refine WL.yld rfl (blt rfl) rfl (Y.loadS rfl Try.underlying23 rfl ti23 rfl (Blk.row_eq m6)) ?_
  refine WL.call rfl (blt rfl) rfl rfl rfl has13 rfl (valid_any _ _ _) ?_
  rintro _ w8 ⟨rfl, x9⟩
  refine ⟨_, rfl, ?_⟩
  have m6 := m6.ext x9
  have xW := Ext.trans xW x9
  refine WL.yld rfl (blt rfl) rfl (Y.move rfl rfl) ?_
  refine WL.yldG rfl (blt rfl) rfl rfl rfl (fun hb => Y.fieldAddr rfl Try.underlying23 rfl ti3 (by decide) rfl) ?_
  refine WL.yldG rfl (blt rfl) rfl rfl rfl (fun hb => Y.load1 rfl Try.underlying3 rfl (evg rfl hb) (Blk.at_eq m6 rfl)) ?_
  refine WL.yldG rfl (blt rfl) rfl rfl rfl (fun hb => Y.move rfl rfl) ?_
  refine WL.yldG rfl (blt rfl) rfl rfl rfl (fun hb => Y.leq rfl (evg rfl hb) (evg rfl hb)) ?_
  refine WL.yld rfl (blt rfl) rfl (Y.and rfl rfl rfl rfl) ?_
  refine WL.yld rfl (blt rfl) rfl (Y.move rfl rfl) ?_
  refine WL.yldG rfl (blt rfl) rfl rfl rfl (fun hb => Y.move rfl rfl) ?_
  refine WL.yldG rfl (blt rfl) rfl rfl rfl (fun hb => Y.fieldAddr rfl Try.underlying23 rfl ti3 (by decide) rfl) ?_
  refine WL.yldG rfl (blt rfl) rfl rfl rfl (fun hb => Y.load1 rfl Try.underlying3 rfl (evg rfl hb) (Blk.at_eq m6 rfl)) ?_
  refine WL.yldG rfl (blt rfl) rfl rfl rfl (fun hb => Y.leq rfl (evg rfl hb) (evg rfl hb)) ?_
  refine WL.yld rfl (blt rfl) rfl (Y.and rfl rfl rfl rfl) ?_
  refine WL.yld rfl (blt rfl) rfl (Y.assign rfl rfl) ?_
  refine WL.nil ?_
  refine WK.then_normal (k7 _ _ ?_)
  refine WC.sub [(4, _)] ⟨rfl, trivial⟩ ?_
  refine WC.ret ?_
  clear k1 k7
  refine WK.ret [_] rfl ⟨rfl, trivial⟩ ?_
  exact ⟨rfl, xW⟩
theorem rmeet_any (a0 : Int) (a1 : Int) (b0 : Int) (b1 : Int) (w : World) :
    Calls Try.prog 10 #[.agg #[.int .i64 a0, .int .i64 a1], .agg #[.int .i64 b0, .int .i64 b1]] w fun e w' => e = .returned (Iv.ivb (Iv.meetF (a0, a1) (b0, b1))) ∧ Ext w w' := by
  have xW := Ext.refl w
  refine calls_of_WC (args := [.agg #[.int .i64 a0, .int .i64 a1], .agg #[.int .i64 b0, .int .i64 b1]]) Try.func10 rfl rfl (ble rfl) ?_
  refine WC.seq (fun K1 k1 => ?_)
  refine WC.region rfl ?_
  refine WL.box rfl (blt rfl) rfl rfl rfl rfl ?_
  intro g2 w3 e4 x5 m6
  have o_g2 := own_new xW e4
  have xW := Ext.trans xW x5
  refine WL.box rfl (blt rfl) rfl rfl rfl rfl ?_
  intro g7 w8 e9 x10 m11
  have n_g2_g7 := ne_new m6 e9
  have o_g7 := own_new xW e9
  have m6 := m6.ext x10
  have xW := Ext.trans xW x10
  refine WL.alloc rfl (blt rfl) rfl rfl ti23 rfl ?_
  intro g12 w13 e14 x15 m16
  have n_g2_g12 := ne_new m6 e14
  have n_g7_g12 := ne_new m11 e14
  have o_g12 := own_new xW e14
  have m6 := m6.ext x15
  have m11 := m11.ext x15
  have xW := Ext.trans xW x15
  refine WL.yld rfl (blt rfl) rfl (Y.assign rfl rfl) ?_
  refine WL.nil ?_
  refine WK.then_normal (k1 _ _ ?_)
  refine WC.sub [(2, _), (3, _), (4, _)] ⟨rfl, rfl, rfl, trivial⟩ ?_
  refine WC.seq (fun K17 k17 => ?_)
  refine WC.region rfl ?_
  refine WL.yld rfl (blt rfl) rfl (Y.fieldAddr rfl Try.underlying23 rfl ti3 (by decide) rfl) ?_
  refine WL.yld rfl (blt rfl) rfl (Y.load1 rfl Try.underlying3 rfl rfl (Blk.at_eq m6 rfl)) ?_
  refine WL.yld rfl (blt rfl) rfl (Y.fieldAddr rfl Try.underlying23 rfl ti3 (by decide) rfl) ?_
  refine WL.yld rfl (blt rfl) rfl (Y.load1 rfl Try.underlying3 rfl rfl (Blk.at_eq m11 rfl)) ?_
  refine WL.yld rfl (blt rfl) rfl (Y.maxI rfl rfl rfl rfl) ?_
  refine WL.yld rfl (blt rfl) rfl (Y.fieldAddr rfl Try.underlying23 rfl ti3 (by decide) rfl) ?_
  refine WL.yld rfl (blt rfl) rfl (Y.load1 rfl Try.underlying3 rfl rfl (Blk.at_eq m6 rfl)) ?_
  refine WL.yld rfl (blt rfl) rfl (Y.fieldAddr rfl Try.underlying23 rfl ti3 (by decide) rfl) ?_
  refine WL.yld rfl (blt rfl) rfl (Y.load1 rfl Try.underlying3 rfl rfl (Blk.at_eq m11 rfl)) ?_
  refine WL.yld rfl (blt rfl) rfl (Y.minI rfl rfl rfl rfl) ?_
  refine WL.yld rfl (blt rfl) rfl (Y.build (cells := [_, _]) rfl pl23 rfl rfl) ?_
  refine WL.alloc rfl (blt rfl) rfl rfl ti23 rfl ?_
  intro g18 w19 e20 x21 m22
  have n_g2_g18 := ne_new m6 e20
  have n_g7_g18 := ne_new m11 e20
  have n_g12_g18 := ne_new m16 e20
  have o_g18 := own_new xW e20
  have m6 := m6.ext x21
  have m11 := m11.ext x21
  have m16 := m16.ext x21
  have xW := Ext.trans xW x21
  refine WL.store (cs' := [_, _]) rfl rfl rfl rfl rfl rfl ti23 m22 (ble rfl) rfl rfl (fun w23 on24 m25 => ?_)
  have m6 := m6.only n_g2_g18 on24
  have m11 := m11.only n_g7_g18 on24
  have m16 := m16.only n_g12_g18 on24
  have xW := Ext.only xW on24 o_g18
  refine WL.nil ?_
  refine WK.then_normal (k17 _ _ ?_)
  refine WC.sub [(2, _), (3, _), (4, _), (6, _)] ⟨rfl, rfl, rfl, rfl, trivial⟩ ?_
  refine WC.seq (fun K26 k26 => ?_)
  refine WC.seq (fun K27 k27 => ?_)
  refine WC.region rfl ?_
  refine WL.yld rfl (blt rfl) rfl (Y.loadS rfl Try.underlying23 rfl ti23 rfl (Blk.row_eq m6)) ?_
  refine WL.call rfl (blt rfl) rfl rfl rfl has14 rfl (rvalid_any _ _ _) ?_
  rintro _ w28 ⟨rfl, x29⟩
  refine ⟨_, rfl, ?_⟩
  have m6 := m6.ext x29
  have m11 := m11.ext x29
  have m16 := m16.ext x29
  have m25 := m25.ext x29
  have xW := Ext.trans xW x29
  refine WL.yld rfl (blt rfl) rfl (Y.not rfl rfl) ?_
  refine WL.yld rfl (blt rfl) rfl (Y.move rfl rfl) ?_
  refine WL.yldG rfl (blt rfl) rfl rfl rfl (fun hb => Y.loadS rfl Try.underlying23 rfl ti23 rfl (Blk.row_eq m11)) ?_
  refine WL.callG rfl (blt rfl) rfl rfl rfl rfl rfl has14 (fun hb => (evs_cons (evg rfl hb) evs_nil)) (fun hb => rvalid_any _ _ _) (fun w30 x31 => ?_)
  have m6 := m6.ext x31
  have m11 := m11.ext x31
  have m16 := m16.ext x31
  have m25 := m25.ext x31
  have xW := Ext.trans xW x31
  refine WL.yldG rfl (blt rfl) rfl rfl rfl (fun hb => Y.not rfl (evg rfl hb)) ?_
  refine WL.yld rfl (blt rfl) rfl (Y.or rfl rfl rfl rfl) ?_
  refine WL.yld rfl (blt rfl) rfl (Y.move rfl rfl) ?_
  refine WL.yldG rfl (blt rfl) rfl rfl rfl (fun hb => Y.loadS rfl Try.underlying23 rfl ti23 rfl (Blk.row_eq m25)) ?_
  refine WL.callG rfl (blt rfl) rfl rfl rfl rfl rfl has14 (fun hb => (evs_cons (evg rfl hb) evs_nil)) (fun hb => rvalid_any _ _ _) (fun w32 x33 => ?_)
  have m6 := m6.ext x33
  have m11 := m11.ext x33
  have m16 := m16.ext x33
  have m25 := m25.ext x33
  have xW := Ext.trans xW x33
  refine WL.yldG rfl (blt rfl) rfl rfl rfl (fun hb => Y.not rfl (evg rfl hb)) ?_
  refine WL.yld rfl (blt rfl) rfl (Y.or rfl rfl rfl rfl) ?_
  refine WL.nil ?_
  refine WK.then_normal (k27 _ _ ?_)
  refine WC.sub [(4, _), (6, _), (30, _)] ⟨rfl, rfl, rfl, trivial⟩ ?_
  refine WC.cond rfl (fun h34 => ?_) (fun h34 => ?_)
  ·
    refine WC.seq (fun K35 k35 => ?_)
    refine WC.region rfl ?_
    refine WL.yld rfl (blt rfl) rfl (Y.build (cells := [_, _]) rfl pl23 rfl rfl) ?_
    refine WL.store (cs' := [_, _]) rfl rfl rfl rfl rfl rfl ti23 m16 (ble rfl) rfl rfl (fun w36 on37 m38 => ?_)
    have m25 := m25.only n_g12_g18.symm on37
    have xW := Ext.only xW on37 o_g12
    refine WL.yld rfl (blt rfl) rfl (Y.assign rfl rfl) ?_
    refine WL.nil ?_
    refine WK.then_normal (k35 _ _ ?_)
    refine WC.sub [(4, _), (5, _)] ⟨rfl, rfl, trivial⟩ ?_
    refine WC.ret ?_
    refine WK.then_ret ?_
    clear k1 k17 k26 k27 k35
    refine WK.ret [_, _] rfl ⟨⟨_, rfl, run_loadVar_blk Try.underlying23 rfl ti23 m38⟩, rfl, trivial⟩ ?_
    refine ⟨?_, xW⟩
    revert h34
    simp only [Iv.ivb, Iv.meetF, Iv.checkedF, resVal]
    cases Iv.validB (a0, a1) <;> cases Iv.validB (b0, b1) <;> cases Iv.validB (max a0 b0, min a1 b1) <;> simp
  ·
    refine WC.skip ?_
    refine WK.then_normal (k26 _ _ ?_)
    refine WC.sub [(4, _), (6, _)] ⟨rfl, rfl, trivial⟩ ?_
    refine WC.seq (fun K39 k39 => ?_)
    refine WC.region rfl ?_
    refine WL.yld rfl (blt rfl) rfl (Y.loadS rfl Try.underlying23 rfl ti23 rfl (Blk.row_eq m25)) ?_
    refine WL.store (cs' := [_, _]) rfl rfl rfl rfl rfl rfl ti23 m16 (ble rfl) rfl rfl (fun w40 on41 m42 => ?_)
    have m25 := m25.only n_g12_g18.symm on41
    have xW := Ext.only xW on41 o_g12
    refine WL.yld rfl (blt rfl) rfl (Y.assign rfl rfl) ?_
    refine WL.nil ?_
    refine WK.then_normal (k39 _ _ ?_)
    refine WC.sub [(4, _), (5, _)] ⟨rfl, rfl, trivial⟩ ?_
    refine WC.ret ?_
    clear k1 k17 k26 k27 k39
    refine WK.ret [_, _] rfl ⟨⟨_, rfl, run_loadVar_blk Try.underlying23 rfl ti23 m42⟩, rfl, trivial⟩ ?_
    refine ⟨?_, xW⟩
    revert h34
    simp only [Iv.ivb, Iv.meetF, Iv.checkedF, resVal]
    cases Iv.validB (a0, a1) <;> cases Iv.validB (b0, b1) <;> cases Iv.validB (max a0 b0, min a1 b1) <;> simp
theorem rhull_any (a0 : Int) (a1 : Int) (b0 : Int) (b1 : Int) (w : World) :
    Calls Try.prog 16 #[.agg #[.int .i64 a0, .int .i64 a1], .agg #[.int .i64 b0, .int .i64 b1]] w fun e w' => e = .returned (Iv.iv (Iv.hullF (a0, a1) (b0, b1))) ∧ Ext w w' := by
  have xW := Ext.refl w
  refine calls_of_WC (args := [.agg #[.int .i64 a0, .int .i64 a1], .agg #[.int .i64 b0, .int .i64 b1]]) Try.func16 rfl rfl (ble rfl) ?_
  refine WC.seq (fun K1 k1 => ?_)
  refine WC.region rfl ?_
  refine WL.box rfl (blt rfl) rfl rfl rfl rfl ?_
  intro g2 w3 e4 x5 m6
  have o_g2 := own_new xW e4
  have xW := Ext.trans xW x5
  refine WL.box rfl (blt rfl) rfl rfl rfl rfl ?_
  intro g7 w8 e9 x10 m11
  have n_g2_g7 := ne_new m6 e9
  have o_g7 := own_new xW e9
  have m6 := m6.ext x10
  have xW := Ext.trans xW x10
  refine WL.alloc rfl (blt rfl) rfl rfl ti23 rfl ?_
  intro g12 w13 e14 x15 m16
  have n_g2_g12 := ne_new m6 e14
  have n_g7_g12 := ne_new m11 e14
  have o_g12 := own_new xW e14
  have m6 := m6.ext x15
  have m11 := m11.ext x15
  have xW := Ext.trans xW x15
  refine WL.nil ?_
  refine WK.then_normal (k1 _ _ ?_)
  refine WC.sub [(2, _), (3, _), (4, _)] ⟨rfl, rfl, rfl, trivial⟩ ?_
  refine WC.seq (fun K17 k17 => ?_)
  refine WC.block ?_
  refine WC.seq (fun K18 k18 => ?_)
  refine WC.region rfl ?_
  refine WL.yld rfl (blt rfl) rfl (Y.loadS rfl Try.underlying23 rfl ti23 rfl (Blk.row_eq m6)) ?_
  refine WL.call rfl (blt rfl) rfl rfl rfl has14 rfl (rvalid_any _ _ _) ?_
  rintro _ w19 ⟨rfl, x20⟩
  refine ⟨_, rfl, ?_⟩
  have m6 := m6.ext x20
  have m11 := m11.ext x20
  have m16 := m16.ext x20
  have xW := Ext.trans xW x20
  refine WL.yld rfl (blt rfl) rfl (Y.move rfl rfl) ?_
  refine WL.yldG rfl (blt rfl) rfl rfl rfl (fun hb => Y.loadS rfl Try.underlying23 rfl ti23 rfl (Blk.row_eq m11)) ?_
  refine WL.callG rfl (blt rfl) rfl rfl rfl rfl rfl has14 (fun hb => (evs_cons (evg rfl hb) evs_nil)) (fun hb => rvalid_any _ _ _) (fun w21 x22 => ?_)
  have m6 := m6.ext x22
  have m11 := m11.ext x22
  have m16 := m16.ext x22
  have xW := Ext.trans xW x22
  refine WL.yld rfl (blt rfl) rfl (Y.and rfl rfl rfl rfl) ?_
  refine WL.yld rfl (blt rfl) rfl (Y.assign rfl rfl) ?_
  refine WL.nil ?_
  refine WK.then_normal (k18 _ _ ?_)
  refine WC.sub [(2, _), (3, _), (4, _), (5, _)] ⟨rfl, rfl, rfl, rfl, trivial⟩ ?_
  refine WC.cond rfl (fun h23 => ?_) (fun h23 => ?_)
  ·
    refine WC.seq (fun K24 k24 => ?_)
    refine WC.region rfl ?_
    refine WL.yld rfl (blt rfl) rfl (Y.fieldAddr rfl Try.underlying23 rfl ti3 (by decide) rfl) ?_
    refine WL.yld rfl (blt rfl) rfl (Y.load1 rfl Try.underlying3 rfl rfl (Blk.at_eq m6 rfl)) ?_
    refine WL.yld rfl (blt rfl) rfl (Y.fieldAddr rfl Try.underlying23 rfl ti3 (by decide) rfl) ?_
    refine WL.yld rfl (blt rfl) rfl (Y.load1 rfl Try.underlying3 rfl rfl (Blk.at_eq m11 rfl)) ?_
    refine WL.yld rfl (blt rfl) rfl (Y.minI rfl rfl rfl rfl) ?_
    refine WL.yld rfl (blt rfl) rfl (Y.fieldAddr rfl Try.underlying23 rfl ti3 (by decide) rfl) ?_
    refine WL.yld rfl (blt rfl) rfl (Y.load1 rfl Try.underlying3 rfl rfl (Blk.at_eq m6 rfl)) ?_
    refine WL.yld rfl (blt rfl) rfl (Y.fieldAddr rfl Try.underlying23 rfl ti3 (by decide) rfl) ?_
    refine WL.yld rfl (blt rfl) rfl (Y.load1 rfl Try.underlying3 rfl rfl (Blk.at_eq m11 rfl)) ?_
    refine WL.yld rfl (blt rfl) rfl (Y.maxI rfl rfl rfl rfl) ?_
    refine WL.yld rfl (blt rfl) rfl (Y.build (cells := [_, _]) rfl pl23 rfl rfl) ?_
    refine WL.store (cs' := [_, _]) rfl rfl rfl rfl rfl rfl ti23 m16 (ble rfl) rfl rfl (fun w25 on26 m27 => ?_)
    have m6 := m6.only n_g2_g12 on26
    have m11 := m11.only n_g7_g12 on26
    have xW := Ext.only xW on26 o_g12
    refine WL.nil ?_
    refine WK.then_normal (k24 _ _ ?_)
    refine WC.sub [(4, _)] ⟨rfl, trivial⟩ ?_
    refine WC.ret ?_
    refine WK.in_ret ?_
    refine WK.then_ret ?_
    clear k1 k17 k18 k24
    refine WK.ret [_] rfl ⟨⟨_, rfl, run_loadVar_blk Try.underlying23 rfl ti23 m27⟩, trivial⟩ ?_
    refine ⟨?_, xW⟩
    revert h23
    simp only [Iv.iv, Iv.hullF, resVal]
    cases Iv.validB (a0, a1) <;> cases Iv.validB (b0, b1) <;> simp
  ·
    refine WC.seq (fun K28 k28 => ?_)
    refine WC.region rfl ?_
    refine WL.yld rfl (blt rfl) rfl (Y.loadS rfl Try.underlying23 rfl ti23 rfl (Blk.row_eq m6)) ?_
    refine WL.call rfl (blt rfl) rfl rfl rfl has14 rfl (rvalid_any _ _ _) ?_
    rintro _ w29 ⟨rfl, x30⟩
    refine ⟨_, rfl, ?_⟩
    have m6 := m6.ext x30
    have m11 := m11.ext x30
    have m16 := m16.ext x30
    have xW := Ext.trans xW x30
    refine WL.yld rfl (blt rfl) rfl (Y.assign rfl rfl) ?_
    refine WL.nil ?_
    refine WK.then_normal (k28 _ _ ?_)
    refine WC.sub [(2, _), (3, _), (4, _), (23, _)] ⟨rfl, rfl, rfl, rfl, trivial⟩ ?_
    refine WC.cond rfl (fun h31 => ?_) (fun h31 => ?_)
    ·
      refine WC.seq (fun K32 k32 => ?_)
      refine WC.region rfl ?_
      refine WL.yld rfl (blt rfl) rfl (Y.loadS rfl Try.underlying23 rfl ti23 rfl (Blk.row_eq m6)) ?_
      refine WL.store (cs' := [_, _]) rfl rfl rfl rfl rfl rfl ti23 m16 (ble rfl) rfl rfl (fun w33 on34 m35 => ?_)
      have m6 := m6.only n_g2_g12 on34
      have m11 := m11.only n_g7_g12 on34
      have xW := Ext.only xW on34 o_g12
      refine WL.nil ?_
      refine WK.then_normal (k32 _ _ ?_)
      refine WC.sub [(4, _)] ⟨rfl, trivial⟩ ?_
      refine WC.ret ?_
      refine WK.in_ret ?_
      refine WK.then_ret ?_
      clear k1 k17 k18 k28 k32
      refine WK.ret [_] rfl ⟨⟨_, rfl, run_loadVar_blk Try.underlying23 rfl ti23 m35⟩, trivial⟩ ?_
      refine ⟨?_, xW⟩
      revert h23 h31
      simp only [Iv.iv, Iv.hullF, resVal]
      cases Iv.validB (a0, a1) <;> cases Iv.validB (b0, b1) <;> simp
    ·
      refine WC.seq (fun K36 k36 => ?_)
      refine WC.region rfl ?_
      refine WL.yld rfl (blt rfl) rfl (Y.loadS rfl Try.underlying23 rfl ti23 rfl (Blk.row_eq m11)) ?_
      refine WL.call rfl (blt rfl) rfl rfl rfl has14 rfl (rvalid_any _ _ _) ?_
      rintro _ w37 ⟨rfl, x38⟩
      refine ⟨_, rfl, ?_⟩
      have m6 := m6.ext x38
      have m11 := m11.ext x38
      have m16 := m16.ext x38
      have xW := Ext.trans xW x38
      refine WL.yld rfl (blt rfl) rfl (Y.assign rfl rfl) ?_
      refine WL.nil ?_
      refine WK.then_normal (k36 _ _ ?_)
      refine WC.sub [(3, _), (4, _), (27, _)] ⟨rfl, rfl, rfl, trivial⟩ ?_
      refine WC.cond rfl (fun h39 => ?_) (fun h39 => ?_)
      ·
        refine WC.seq (fun K40 k40 => ?_)
        refine WC.region rfl ?_
        refine WL.yld rfl (blt rfl) rfl (Y.loadS rfl Try.underlying23 rfl ti23 rfl (Blk.row_eq m11)) ?_
        refine WL.store (cs' := [_, _]) rfl rfl rfl rfl rfl rfl ti23 m16 (ble rfl) rfl rfl (fun w41 on42 m43 => ?_)
        have m11 := m11.only n_g7_g12 on42
        have xW := Ext.only xW on42 o_g12
        refine WL.nil ?_
        refine WK.then_normal (k40 _ _ ?_)
        refine WC.sub [(4, _)] ⟨rfl, trivial⟩ ?_
        refine WC.ret ?_
        refine WK.in_ret ?_
        refine WK.then_ret ?_
        clear k1 k17 k18 k28 k36 k40
        refine WK.ret [_] rfl ⟨⟨_, rfl, run_loadVar_blk Try.underlying23 rfl ti23 m43⟩, trivial⟩ ?_
        refine ⟨?_, xW⟩
        revert h23 h31 h39
        simp only [Iv.iv, Iv.hullF, resVal]
        cases Iv.validB (a0, a1) <;> cases Iv.validB (b0, b1) <;> simp
      ·
        refine WC.skip ?_
        refine WK.in_normal ?_
        refine WK.then_normal (k17 _ _ ?_)
        refine WC.sub [(4, _)] ⟨rfl, trivial⟩ ?_
        refine WC.seq (fun K44 k44 => ?_)
        refine WC.region rfl ?_
        refine WL.yld rfl (blt rfl) rfl (Y.build (cells := [_, _]) rfl pl23 rfl rfl) ?_
        refine WL.store (cs' := [_, _]) rfl rfl rfl rfl rfl rfl ti23 m16 (ble rfl) rfl rfl (fun w45 on46 m47 => ?_)
        have xW := Ext.only xW on46 o_g12
        refine WL.nil ?_
        refine WK.then_normal (k44 _ _ ?_)
        refine WC.sub [(4, _)] ⟨rfl, trivial⟩ ?_
        refine WC.ret ?_
        clear k1 k17 k18 k28 k36 k44
        refine WK.ret [_] rfl ⟨⟨_, rfl, run_loadVar_blk Try.underlying23 rfl ti23 m47⟩, trivial⟩ ?_
        refine ⟨?_, xW⟩
        revert h23 h31 h39
        simp only [Iv.iv, Iv.hullF, resVal]
        cases Iv.validB (a0, a1) <;> cases Iv.validB (b0, b1) <;> simp
theorem radd_any (a0 : Int) (a1 : Int) (b0 : Int) (b1 : Int) (w : World) :
    Calls Try.prog 12 #[.agg #[.int .i64 a0, .int .i64 a1], .agg #[.int .i64 b0, .int .i64 b1]] w fun e w' => e = .returned (Iv.ivb (Iv.addF (a0, a1) (b0, b1))) ∧ Ext w w' := by
  have xW := Ext.refl w
  refine calls_of_WC (args := [.agg #[.int .i64 a0, .int .i64 a1], .agg #[.int .i64 b0, .int .i64 b1]]) Try.func12 rfl rfl (ble rfl) ?_
  refine WC.seq (fun K1 k1 => ?_)
  refine WC.region rfl ?_
  refine WL.box rfl (blt rfl) rfl rfl rfl rfl ?_
  intro g2 w3 e4 x5 m6
  have o_g2 := own_new xW e4
  have xW := Ext.trans xW x5
  refine WL.box rfl (blt rfl) rfl rfl rfl rfl ?_
  intro g7 w8 e9 x10 m11
  have n_g2_g7 := ne_new m6 e9
  have o_g7 := own_new xW e9
  have m6 := m6.ext x10
  have xW := Ext.trans xW x10
  refine WL.alloc rfl (blt rfl) rfl rfl ti23 rfl ?_
  intro g12 w13 e14 x15 m16
  have n_g2_g12 := ne_new m6 e14
  have n_g7_g12 := ne_new m11 e14
  have o_g12 := own_new xW e14
  have m6 := m6.ext x15
  have m11 := m11.ext x15
  have xW := Ext.trans xW x15
  refine WL.yld rfl (blt rfl) rfl (Y.assign rfl rfl) ?_
  refine WL.nil ?_
  refine WK.then_normal (k1 _ _ ?_)
  refine WC.sub [(2, _), (3, _), (4, _)] ⟨rfl, rfl, rfl, trivial⟩ ?_
  refine WC.seq (fun K17 k17 => ?_)
  refine WC.seq (fun K18 k18 => ?_)
  refine WC.region rfl ?_
  refine WL.yld rfl (blt rfl) rfl (Y.loadS rfl Try.underlying23 rfl ti23 rfl (Blk.row_eq m6)) ?_
  refine WL.call rfl (blt rfl) rfl rfl rfl has14 rfl (rvalid_any _ _ _) ?_
  rintro _ w19 ⟨rfl, x20⟩
  refine ⟨_, rfl, ?_⟩
  have m6 := m6.ext x20
  have m11 := m11.ext x20
  have m16 := m16.ext x20
  have xW := Ext.trans xW x20
  refine WL.yld rfl (blt rfl) rfl (Y.not rfl rfl) ?_
  refine WL.yld rfl (blt rfl) rfl (Y.move rfl rfl) ?_
  refine WL.yldG rfl (blt rfl) rfl rfl rfl (fun hb => Y.loadS rfl Try.underlying23 rfl ti23 rfl (Blk.row_eq m11)) ?_
  refine WL.callG rfl (blt rfl) rfl rfl rfl rfl rfl has14 (fun hb => (evs_cons (evg rfl hb) evs_nil)) (fun hb => rvalid_any _ _ _) (fun w21 x22 => ?_)
  have m6 := m6.ext x22
  have m11 := m11.ext x22
  have m16 := m16.ext x22
  have xW := Ext.trans xW x22
  refine WL.yldG rfl (blt rfl) rfl rfl rfl (fun hb => Y.not rfl (evg rfl hb)) ?_
  refine WL.yld rfl (blt rfl) rfl (Y.or rfl rfl rfl rfl) ?_
  refine WL.nil ?_
  refine WK.then_normal (k18 _ _ ?_)
  refine WC.sub [(2, _), (3, _), (4, _), (14, _)] ⟨rfl, rfl, rfl, rfl, trivial⟩ ?_
  refine WC.cond rfl (fun h23 => ?_) (fun h23 => ?_)
  ·
    refine WC.seq (fun K24 k24 => ?_)
    refine WC.region rfl ?_
    refine WL.yld rfl (blt rfl) rfl (Y.build (cells := [_, _]) rfl pl23 rfl rfl) ?_
    refine WL.store (cs' := [_, _]) rfl rfl rfl rfl rfl rfl ti23 m16 (ble rfl) rfl rfl (fun w25 on26 m27 => ?_)
    have m6 := m6.only n_g2_g12 on26
    have m11 := m11.only n_g7_g12 on26
    have xW := Ext.only xW on26 o_g12
    refine WL.yld rfl (blt rfl) rfl (Y.assign rfl rfl) ?_
    refine WL.nil ?_
    refine WK.then_normal (k24 _ _ ?_)
    refine WC.sub [(4, _), (5, _)] ⟨rfl, rfl, trivial⟩ ?_
    refine WC.ret ?_
    refine WK.then_ret ?_
    clear k1 k17 k18 k24
    refine WK.ret [_, _] rfl ⟨⟨_, rfl, run_loadVar_blk Try.underlying23 rfl ti23 m27⟩, rfl, trivial⟩ ?_
    refine ⟨?_, xW⟩
    revert h23
    simp only [Iv.ivb, Iv.addF, Iv.checkedF, resVal]
    cases Iv.validB (a0, a1) <;> cases Iv.validB (b0, b1) <;> cases Iv.validB (a0 + b0, a1 + b1) <;> simp
  ·
    simp only [Bool.or_eq_false_iff, Bool.not_eq_false'] at h23
    have vi := Iv.valid_in h23.1
    have vj := Iv.valid_in h23.2
    dsimp only at vi vj
    replace h23 : (!Iv.validB (a0, a1) || !Iv.validB (b0, b1)) = false := by rw [h23.1, h23.2]; rfl
    refine WC.skip ?_
    refine WK.then_normal (k17 _ _ ?_)
    refine WC.sub [(2, _), (3, _), (4, _)] ⟨rfl, rfl, rfl, trivial⟩ ?_
    refine WC.seq (fun K28 k28 => ?_)
    refine WC.region rfl ?_
    refine WL.yld rfl (blt rfl) rfl (Y.fieldAddr rfl Try.underlying23 rfl ti3 (by decide) rfl) ?_
    refine WL.yld rfl (blt rfl) rfl (Y.load1 rfl Try.underlying3 rfl rfl (Blk.at_eq m6 rfl)) ?_
    refine WL.yld rfl (blt rfl) rfl (Y.fieldAddr rfl Try.underlying23 rfl ti3 (by decide) rfl) ?_
    refine WL.yld rfl (blt rfl) rfl (Y.load1 rfl Try.underlying3 rfl rfl (Blk.at_eq m11 rfl)) ?_
    refine WL.yld rfl (blt rfl) rfl (Y.add rfl rfl rfl (wrap_i64 (by first | omega | (dsimp only; omega)))) ?_
    refine WL.yld rfl (blt rfl) rfl (Y.fieldAddr rfl Try.underlying23 rfl ti3 (by decide) rfl) ?_
    refine WL.yld rfl (blt rfl) rfl (Y.load1 rfl Try.underlying3 rfl rfl (Blk.at_eq m6 rfl)) ?_
    refine WL.yld rfl (blt rfl) rfl (Y.fieldAddr rfl Try.underlying23 rfl ti3 (by decide) rfl) ?_
    refine WL.yld rfl (blt rfl) rfl (Y.load1 rfl Try.underlying3 rfl rfl (Blk.at_eq m11 rfl)) ?_
    refine WL.yld rfl (blt rfl) rfl (Y.add rfl rfl rfl (wrap_i64 (by first | omega | (dsimp only; omega)))) ?_
    refine WL.yld rfl (blt rfl) rfl (Y.build (cells := [_, _]) rfl pl23 rfl rfl) ?_
    refine WL.alloc rfl (blt rfl) rfl rfl ti23 rfl ?_
    intro g29 w30 e31 x32 m33
    have n_g2_g29 := ne_new m6 e31
    have n_g7_g29 := ne_new m11 e31
    have n_g12_g29 := ne_new m16 e31
    have o_g29 := own_new xW e31
    have m6 := m6.ext x32
    have m11 := m11.ext x32
    have m16 := m16.ext x32
    have xW := Ext.trans xW x32
    refine WL.store (cs' := [_, _]) rfl rfl rfl rfl rfl rfl ti23 m33 (ble rfl) rfl rfl (fun w34 on35 m36 => ?_)
    have m6 := m6.only n_g2_g29 on35
    have m11 := m11.only n_g7_g29 on35
    have m16 := m16.only n_g12_g29 on35
    have xW := Ext.only xW on35 o_g29
    refine WL.nil ?_
    refine WK.then_normal (k28 _ _ ?_)
    refine WC.sub [(4, _), (6, _)] ⟨rfl, rfl, trivial⟩ ?_
    refine WC.seq (fun K37 k37 => ?_)
    refine WC.seq (fun K38 k38 => ?_)
    refine WC.region rfl ?_
    refine WL.yld rfl (blt rfl) rfl (Y.loadS rfl Try.underlying23 rfl ti23 rfl (Blk.row_eq m36)) ?_
    refine WL.call rfl (blt rfl) rfl rfl rfl has14 rfl (rvalid_any _ _ _) ?_
    rintro _ w39 ⟨rfl, x40⟩
    refine ⟨_, rfl, ?_⟩
    have m16 := m16.ext x40
    have m36 := m36.ext x40
    have xW := Ext.trans xW x40
    refine WL.yld rfl (blt rfl) rfl (Y.not rfl rfl) ?_
    refine WL.nil ?_
    refine WK.then_normal (k38 _ _ ?_)
    refine WC.sub [(4, _), (6, _), (29, _)] ⟨rfl, rfl, rfl, trivial⟩ ?_
    refine WC.cond rfl (fun h41 => ?_) (fun h41 => ?_)
    ·
      refine WC.seq (fun K42 k42 => ?_)
      refine WC.region rfl ?_
      refine WL.yld rfl (blt rfl) rfl (Y.build (cells := [_, _]) rfl pl23 rfl rfl) ?_
      refine WL.store (cs' := [_, _]) rfl rfl rfl rfl rfl rfl ti23 m16 (ble rfl) rfl rfl (fun w43 on44 m45 => ?_)
      have m36 := m36.only n_g12_g29.symm on44
      have xW := Ext.only xW on44 o_g12
      refine WL.yld rfl (blt rfl) rfl (Y.assign rfl rfl) ?_
      refine WL.nil ?_
      refine WK.then_normal (k42 _ _ ?_)
      refine WC.sub [(4, _), (5, _)] ⟨rfl, rfl, trivial⟩ ?_
      refine WC.ret ?_
      refine WK.then_ret ?_
      clear k1 k17 k18 k28 k37 k38 k42
      refine WK.ret [_, _] rfl ⟨⟨_, rfl, run_loadVar_blk Try.underlying23 rfl ti23 m45⟩, rfl, trivial⟩ ?_
      refine ⟨?_, xW⟩
      revert h23 h41
      simp only [Iv.ivb, Iv.addF, Iv.checkedF, resVal]
      cases Iv.validB (a0, a1) <;> cases Iv.validB (b0, b1) <;> cases Iv.validB (a0 + b0, a1 + b1) <;> simp
    ·
      refine WC.skip ?_
      refine WK.then_normal (k37 _ _ ?_)
      refine WC.sub [(4, _), (6, _)] ⟨rfl, rfl, trivial⟩ ?_
      refine WC.seq (fun K46 k46 => ?_)
      refine WC.region rfl ?_
      refine WL.yld rfl (blt rfl) rfl (Y.loadS rfl Try.underlying23 rfl ti23 rfl (Blk.row_eq m36)) ?_
      refine WL.store (cs' := [_, _]) rfl rfl rfl rfl rfl rfl ti23 m16 (ble rfl) rfl rfl (fun w47 on48 m49 => ?_)
      have m36 := m36.only n_g12_g29.symm on48
      have xW := Ext.only xW on48 o_g12
      refine WL.yld rfl (blt rfl) rfl (Y.assign rfl rfl) ?_
      refine WL.nil ?_
      refine WK.then_normal (k46 _ _ ?_)
      refine WC.sub [(4, _), (5, _)] ⟨rfl, rfl, trivial⟩ ?_
      refine WC.ret ?_
      clear k1 k17 k18 k28 k37 k38 k46
      refine WK.ret [_, _] rfl ⟨⟨_, rfl, run_loadVar_blk Try.underlying23 rfl ti23 m49⟩, rfl, trivial⟩ ?_
      refine ⟨?_, xW⟩
      revert h23 h41
      simp only [Iv.ivb, Iv.addF, Iv.checkedF, resVal]
      cases Iv.validB (a0, a1) <;> cases Iv.validB (b0, b1) <;> cases Iv.validB (a0 + b0, a1 + b1) <;> simp
theorem rbefore_any (a0 : Int) (a1 : Int) (b0 : Int) (b1 : Int) (w : World) :
    Calls Try.prog 18 #[.agg #[.int .i64 a0, .int .i64 a1], .agg #[.int .i64 b0, .int .i64 b1]] w fun e w' => e = .returned (.bool (Iv.beforeB (a0, a1) (b0, b1))) ∧ Ext w w' := by
  have xW := Ext.refl w
  refine calls_of_WC (args := [.agg #[.int .i64 a0, .int .i64 a1], .agg #[.int .i64 b0, .int .i64 b1]]) Try.func18 rfl rfl (ble rfl) ?_
  refine WC.seq (fun K1 k1 => ?_)
  refine WC.region rfl ?_
  refine WL.box rfl (blt rfl) rfl rfl rfl rfl ?_
  intro g2 w3 e4 x5 m6
  have o_g2 := own_new xW e4
  have xW := Ext.trans xW x5
  refine WL.box rfl (blt rfl) rfl rfl rfl rfl ?_
  intro g7 w8 e9 x10 m11
  have n_g2_g7 := ne_new m6 e9
  have o_g7 := own_new xW e9
  have m6 := m6.ext x10
  have xW := Ext.trans xW x10
  refine WL.yld rfl (blt rfl) rfl (Y.assign rfl rfl) ?_
  refine WL.nil ?_
  refine WK.then_normal (k1 _ _ ?_)
  refine WC.sub [(2, _), (3, _)] ⟨rfl, rfl, trivial⟩ ?_
  refine WC.seq (fun K12 k12 => ?_)
  refine WC.region rfl ?_
  refine WL.yld rfl (blt rfl) rfl (Y.loadS rfl Try.underlying23 rfl ti23 rfl (Blk.row_eq m6)) ?_
  refine WL.call rfl (blt rfl) rfl rfl rfl has14 rfl (rvalid_any _ _ _) ?_
  rintro _ w13 ⟨rfl, x14⟩
  refine ⟨_, rfl, ?_⟩
  have m6 := m6.ext x14
  have m11 := m11.ext x14
  have xW := Ext.trans xW x14
  refine WL.yld rfl (blt rfl) rfl (Y.move rfl rfl) ?_
  refine WL.yldG rfl (blt rfl) rfl rfl rfl (fun hb => Y.loadS rfl Try.underlying23 rfl ti23 rfl (Blk.row_eq m11)) ?_
  refine WL.callG rfl (blt rfl) rfl rfl rfl rfl rfl has14 (fun hb => (evs_cons (evg rfl hb) evs_nil)) (fun hb => rvalid_any _ _ _) (fun w15 x16 => ?_)
  have m6 := m6.ext x16
  have m11 := m11.ext x16
  have xW := Ext.trans xW x16
  refine WL.yld rfl (blt rfl) rfl (Y.and rfl rfl rfl rfl) ?_
  refine WL.yld rfl (blt rfl) rfl (Y.move rfl rfl) ?_
  refine WL.yldG rfl (blt rfl) rfl rfl rfl (fun hb => Y.fieldAddr rfl Try.underlying23 rfl ti3 (by decide) rfl) ?_
  refine WL.yldG rfl (blt rfl) rfl rfl rfl (fun hb => Y.load1 rfl Try.underlying3 rfl (evg rfl hb) (Blk.at_eq m6 rfl)) ?_
  refine WL.yldG rfl (blt rfl) rfl rfl rfl (fun hb => Y.fieldAddr rfl Try.underlying23 rfl ti3 (by decide) rfl) ?_
  refine WL.yldG rfl (blt rfl) rfl rfl rfl (fun hb => Y.load1 rfl Try.underlying3 rfl (evg rfl hb) (Blk.at_eq m11 rfl)) ?_
  refine WL.yldG rfl (blt rfl) rfl rfl rfl (fun hb => Y.lss rfl (evg rfl hb) (evg rfl hb)) ?_
  refine WL.yld rfl (blt rfl) rfl (Y.and rfl rfl rfl rfl) ?_
  refine WL.yld rfl (blt rfl) rfl (Y.assign rfl rfl) ?_
  refine WL.nil ?_
  refine WK.then_normal (k12 _ _ ?_)
  refine WC.sub [(4, _)] ⟨rfl, trivial⟩ ?_
  refine WC.ret ?_
  clear k1 k12
  refine WK.ret [_] rfl ⟨rfl, trivial⟩ ?_
  exact ⟨rfl, xW⟩
theorem rwithin_any (a0 : Int) (a1 : Int) (n : Int) (w : World) :
    Calls Try.prog 20 #[.agg #[.int .i64 a0, .int .i64 a1], .int .i64 n] w fun e w' => e = .returned (.bool (Iv.withinB (a0, a1) n)) ∧ Ext w w' := by
  have xW := Ext.refl w
  refine calls_of_WC (args := [.agg #[.int .i64 a0, .int .i64 a1], .int .i64 n]) Try.func20 rfl rfl (ble rfl) ?_
  refine WC.seq (fun K1 k1 => ?_)
  refine WC.region rfl ?_
  refine WL.box rfl (blt rfl) rfl rfl rfl rfl ?_
  intro g2 w3 e4 x5 m6
  have o_g2 := own_new xW e4
  have xW := Ext.trans xW x5
  refine WL.yld rfl (blt rfl) rfl (Y.assign rfl rfl) ?_
  refine WL.nil ?_
  refine WK.then_normal (k1 _ _ ?_)
  refine WC.sub [(1, _), (2, _)] ⟨rfl, rfl, trivial⟩ ?_
  refine WC.seq (fun K7 k7 => ?_)
  refine WC.region rfl ?_
  refine WL.yld rfl (blt rfl) rfl (Y.loadS rfl Try.underlying23 rfl ti23 rfl (Blk.row_eq m6)) ?_
  refine WL.call rfl (blt rfl) rfl rfl rfl has14 rfl (rvalid_any _ _ _) ?_
  rintro _ w8 ⟨rfl, x9⟩
  refine ⟨_, rfl, ?_⟩
  have m6 := m6.ext x9
  have xW := Ext.trans xW x9
  refine WL.yld rfl (blt rfl) rfl (Y.move rfl rfl) ?_
  refine WL.yldG rfl (blt rfl) rfl rfl rfl (fun hb => Y.fieldAddr rfl Try.underlying23 rfl ti3 (by decide) rfl) ?_
  refine WL.yldG rfl (blt rfl) rfl rfl rfl (fun hb => Y.load1 rfl Try.underlying3 rfl (evg rfl hb) (Blk.at_eq m6 rfl)) ?_
  refine WL.yldG rfl (blt rfl) rfl rfl rfl (fun hb => Y.move rfl rfl) ?_
  refine WL.yldG rfl (blt rfl) rfl rfl rfl (fun hb => Y.leq rfl (evg rfl hb) (evg rfl hb)) ?_
  refine WL.yld rfl (blt rfl) rfl (Y.and rfl rfl rfl rfl) ?_
  refine WL.yld rfl (blt rfl) rfl (Y.move rfl rfl) ?_
  refine WL.yldG rfl (blt rfl) rfl rfl rfl (fun hb => Y.move rfl rfl) ?_
  refine WL.yldG rfl (blt rfl) rfl rfl rfl (fun hb => Y.fieldAddr rfl Try.underlying23 rfl ti3 (by decide) rfl) ?_
  refine WL.yldG rfl (blt rfl) rfl rfl rfl (fun hb => Y.load1 rfl Try.underlying3 rfl (evg rfl hb) (Blk.at_eq m6 rfl)) ?_
  refine WL.yldG rfl (blt rfl) rfl rfl rfl (fun hb => Y.leq rfl (evg rfl hb) (evg rfl hb)) ?_
  refine WL.yld rfl (blt rfl) rfl (Y.and rfl rfl rfl rfl) ?_
  refine WL.yld rfl (blt rfl) rfl (Y.assign rfl rfl) ?_
  refine WL.nil ?_
  refine WK.then_normal (k7 _ _ ?_)
  refine WC.sub [(4, _)] ⟨rfl, trivial⟩ ?_
  refine WC.ret ?_
  clear k1 k7
  refine WK.ret [_] rfl ⟨rfl, trivial⟩ ?_
  exact ⟨rfl, xW⟩
theorem of_any (a0 : Int) (a1 : Int) (w : World) :
    Calls Try.prog 24 #[.int .i64 a0, .int .i64 a1] w fun e w' => e = .returned (.agg #[.int .i64 a0, .int .i64 a1]) ∧ Ext w w' := by
  have xW := Ext.refl w
  refine calls_of_WC (args := [.int .i64 a0, .int .i64 a1]) Try.func24 rfl rfl (ble rfl) ?_
  refine WC.seq (fun K1 k1 => ?_)
  refine WC.region rfl ?_
  refine WL.alloc rfl (blt rfl) rfl rfl ti23 rfl ?_
  intro g2 w3 e4 x5 m6
  have o_g2 := own_new xW e4
  have xW := Ext.trans xW x5
  refine WL.nil ?_
  refine WK.then_normal (k1 _ _ ?_)
  refine WC.seq (fun K7 k7 => ?_)
  refine WC.region rfl ?_
  refine WL.yld rfl (blt rfl) rfl (Y.move rfl rfl) ?_
  refine WL.yld rfl (blt rfl) rfl (Y.move rfl rfl) ?_
  refine WL.yld rfl (blt rfl) rfl (Y.build (cells := [_, _]) rfl pl23 rfl rfl) ?_
  refine WL.store (cs' := [_, _]) rfl rfl rfl rfl rfl rfl ti23 m6 (ble rfl) rfl rfl (fun w8 on9 m10 => ?_)
  have xW := Ext.only xW on9 o_g2
  refine WL.nil ?_
  refine WK.then_normal (k7 _ _ ?_)
  refine WC.sub [(4, _)] ⟨rfl, trivial⟩ ?_
  refine WC.ret ?_
  clear k1 k7
  refine WK.ret [_] rfl ⟨⟨_, rfl, run_loadVar_blk Try.underlying23 rfl ti23 m10⟩, trivial⟩ ?_
  exact ⟨rfl, xW⟩
end Go.Proofs.Ytjbbpcgegemoiaa
