/- The walks of the laws of chapter 3. Conditions: what each theorem states. -/
import Derived.Test.YtjbbpcgegemoiaaAwake
namespace Go.Proofs.Ytjbbpcgegemoiaa
open Go Go.Eng Go.RowKit
set_option linter.unusedVariables false
namespace LawA
open NumF
namespace A
theorem ti23 : TI Try.prog 23 (.agg #[.int .i64 0, .int .i64 0]) 2 16 := TI.mk (by kernel_rfl)
theorem has9 : Has Try.prog 9 := ⟨_, Try.func9, rfl, by kernel_rfl⟩
theorem has10 : Has Try.prog 10 := ⟨_, Try.func10, rfl, by kernel_rfl⟩
theorem has11 : Has Try.prog 11 := ⟨_, Try.func11, rfl, by kernel_rfl⟩
theorem has12 : Has Try.prog 12 := ⟨_, Try.func12, rfl, by kernel_rfl⟩
theorem has13 : Has Try.prog 13 := ⟨_, Try.func13, rfl, by kernel_rfl⟩
theorem has14 : Has Try.prog 14 := ⟨_, Try.func14, rfl, by kernel_rfl⟩
theorem has15 : Has Try.prog 15 := ⟨_, Try.func15, rfl, by kernel_rfl⟩
theorem has16 : Has Try.prog 16 := ⟨_, Try.func16, rfl, by kernel_rfl⟩
theorem has17 : Has Try.prog 17 := ⟨_, Try.func17, rfl, by kernel_rfl⟩
theorem has18 : Has Try.prog 18 := ⟨_, Try.func18, rfl, by kernel_rfl⟩
theorem has19 : Has Try.prog 19 := ⟨_, Try.func19, rfl, by kernel_rfl⟩
theorem has20 : Has Try.prog 20 := ⟨_, Try.func20, rfl, by kernel_rfl⟩
theorem has21 : Has Try.prog 21 := ⟨_, Try.func21, rfl, by kernel_rfl⟩
theorem has22 : Has Try.prog 22 := ⟨_, Try.func22, rfl, by kernel_rfl⟩
theorem has23 : Has Try.prog 23 := ⟨_, Try.func23, rfl, by kernel_rfl⟩
theorem eqg23 : Try.prog.eqGuardType Try.prog.depth 23 = false := by kernel_rfl
theorem eq23 (a0 : Int) (a1 : Int) (b0 : Int) (b1 : Int) (w : World) : (Op.equalIn 10000 23 (.agg #[.int .i64 a0, .int .i64 a1]) (.agg #[.int .i64 b0, .int .i64 b1])).run Try.prog w = .ok ((a0 == b0) && (a1 == b1)) w := by
  go_simp
  (repeat' split) <;> simp_all
theorem IntervalExact_any (a0 a1 b0 b1 n : Int) (w : World) :
    Calls Try.prog 3 #[.agg #[.int .i64 a0, .int .i64 a1], .agg #[.int .i64 b0, .int .i64 b1], .int .i64 n] w fun e w' => e = .returned (.bool true) ∧ Ext w w' := by
  have xW := Ext.refl w
  refine calls_of_WC (args := [.agg #[.int .i64 a0, .int .i64 a1], .agg #[.int .i64 b0, .int .i64 b1], .int .i64 n]) Try.func3 rfl rfl (ble rfl) ?_
  refine WC.seq (fun K1 k1 => ?_)
  refine WC.region rfl ?_
  refine WL.box rfl (blt rfl) rfl rfl rfl rfl ?_
  intro g2 w3 e4 x5 m6
  have o_g2 := own_new xW e4
  have xW := Ext.trans xW x5
  refine WL.box rfl (blt rfl) rfl rfl rfl rfl ?_
  intro g7 w8 e9 x10 m11
  have n_g2_g7 := ne_new m6 e9
  have o_g7 := own_new xW e9
  have m6 := m6.ext x10
  have xW := Ext.trans xW x10
  refine WL.yld rfl (blt rfl) rfl (Y.assign rfl rfl) ?_
  refine WL.nil ?_
  refine WK.then_normal (k1 _ _ ?_)
  refine WC.sub [(2, _), (3, _), (4, _)] ⟨rfl, rfl, rfl, trivial⟩ ?_
  refine WC.seq (fun K12 k12 => ?_)
  refine WC.region rfl ?_
  refine WL.yld rfl (blt rfl) rfl (Y.loadS rfl Try.underlying23 rfl ti23 rfl (Blk.row_eq m6)) ?_
  refine WL.yld rfl (blt rfl) rfl (Y.loadS rfl Try.underlying23 rfl ti23 rfl (Blk.row_eq m11)) ?_
  refine WL.call rfl (blt rfl) rfl rfl rfl has9 rfl (meet_any _ _ _ _ _) ?_
  rintro _ w13 ⟨rfl, x14⟩
  refine ⟨_, rfl, ?_⟩
  have m6 := m6.ext x14
  have m11 := m11.ext x14
  have xW := Ext.trans xW x14
  refine WL.yld rfl (blt rfl) rfl (Y.move rfl rfl) ?_
  refine WL.yld rfl (blt rfl) rfl (Y.extract rfl rfl rfl) ?_
  refine WL.yld rfl (blt rfl) rfl (Y.extract rfl rfl rfl) ?_
  refine WL.alloc rfl (blt rfl) rfl rfl ti23 rfl ?_
  intro g15 w16 e17 x18 m19
  have n_g2_g15 := ne_new m6 e17
  have n_g7_g15 := ne_new m11 e17
  have o_g15 := own_new xW e17
  have m6 := m6.ext x18
  have m11 := m11.ext x18
  have xW := Ext.trans xW x18
  refine WL.store (cs' := [_, _]) rfl rfl rfl rfl rfl rfl ti23 m19 (ble rfl) rfl rfl (fun w20 on21 m22 => ?_)
  have m6 := m6.only n_g2_g15 on21
  have m11 := m11.only n_g7_g15 on21
  have xW := Ext.only xW on21 o_g15
  refine WL.yld rfl (blt rfl) rfl (Y.assign rfl rfl) ?_
  refine WL.nil ?_
  refine WK.then_normal (k12 _ _ ?_)
  refine WC.sub [(2, _), (3, _), (4, _), (7, _), (8, _)] ⟨rfl, rfl, rfl, rfl, rfl, trivial⟩ ?_
  refine WC.seq (fun K23 k23 => ?_)
  refine WC.region rfl ?_
  refine WL.yld rfl (blt rfl) rfl (Y.loadS rfl Try.underlying23 rfl ti23 rfl (Blk.row_eq m6)) ?_
  refine WL.yld rfl (blt rfl) rfl (Y.loadS rfl Try.underlying23 rfl ti23 rfl (Blk.row_eq m11)) ?_
  refine WL.call rfl (blt rfl) rfl rfl rfl has10 rfl (rmeet_any _ _ _ _ _) ?_
  rintro _ w24 ⟨rfl, x25⟩
  refine ⟨_, rfl, ?_⟩
  have m6 := m6.ext x25
  have m11 := m11.ext x25
  have m22 := m22.ext x25
  have xW := Ext.trans xW x25
  refine WL.yld rfl (blt rfl) rfl (Y.move rfl rfl) ?_
  refine WL.yld rfl (blt rfl) rfl (Y.extract rfl rfl rfl) ?_
  refine WL.yld rfl (blt rfl) rfl (Y.extract rfl rfl rfl) ?_
  refine WL.alloc rfl (blt rfl) rfl rfl ti23 rfl ?_
  intro g26 w27 e28 x29 m30
  have n_g2_g26 := ne_new m6 e28
  have n_g7_g26 := ne_new m11 e28
  have n_g15_g26 := ne_new m22 e28
  have o_g26 := own_new xW e28
  have m6 := m6.ext x29
  have m11 := m11.ext x29
  have m22 := m22.ext x29
  have xW := Ext.trans xW x29
  refine WL.store (cs' := [_, _]) rfl rfl rfl rfl rfl rfl ti23 m30 (ble rfl) rfl rfl (fun w31 on32 m33 => ?_)
  have m6 := m6.only n_g2_g26 on32
  have m11 := m11.only n_g7_g26 on32
  have m22 := m22.only n_g15_g26 on32
  have xW := Ext.only xW on32 o_g26
  refine WL.yld rfl (blt rfl) rfl (Y.assign rfl rfl) ?_
  refine WL.nil ?_
  refine WK.then_normal (k23 _ _ ?_)
  refine WC.sub [(2, _), (3, _), (4, _), (7, _), (8, _), (9, _), (10, _)] ⟨rfl, rfl, rfl, rfl, rfl, rfl, rfl, trivial⟩ ?_
  refine WC.seq (fun K34 k34 => ?_)
  refine WC.region rfl ?_
  refine WL.yld rfl (blt rfl) rfl (Y.loadS rfl Try.underlying23 rfl ti23 rfl (Blk.row_eq m6)) ?_
  refine WL.yld rfl (blt rfl) rfl (Y.loadS rfl Try.underlying23 rfl ti23 rfl (Blk.row_eq m11)) ?_
  refine WL.call rfl (blt rfl) rfl rfl rfl has11 rfl (add_any _ _ _ _ _) ?_
  rintro _ w35 ⟨rfl, x36⟩
  refine ⟨_, rfl, ?_⟩
  have m6 := m6.ext x36
  have m11 := m11.ext x36
  have m22 := m22.ext x36
  have m33 := m33.ext x36
  have xW := Ext.trans xW x36
  refine WL.yld rfl (blt rfl) rfl (Y.move rfl rfl) ?_
  refine WL.yld rfl (blt rfl) rfl (Y.extract rfl rfl rfl) ?_
  refine WL.yld rfl (blt rfl) rfl (Y.extract rfl rfl rfl) ?_
  refine WL.alloc rfl (blt rfl) rfl rfl ti23 rfl ?_
  intro g37 w38 e39 x40 m41
  have n_g2_g37 := ne_new m6 e39
  have n_g7_g37 := ne_new m11 e39
  have n_g15_g37 := ne_new m22 e39
  have n_g26_g37 := ne_new m33 e39
  have o_g37 := own_new xW e39
  have m6 := m6.ext x40
  have m11 := m11.ext x40
  have m22 := m22.ext x40
  have m33 := m33.ext x40
  have xW := Ext.trans xW x40
  refine WL.store (cs' := [_, _]) rfl rfl rfl rfl rfl rfl ti23 m41 (ble rfl) rfl rfl (fun w42 on43 m44 => ?_)
  have m6 := m6.only n_g2_g37 on43
  have m11 := m11.only n_g7_g37 on43
  have m22 := m22.only n_g15_g37 on43
  have m33 := m33.only n_g26_g37 on43
  have xW := Ext.only xW on43 o_g37
  refine WL.yld rfl (blt rfl) rfl (Y.assign rfl rfl) ?_
  refine WL.nil ?_
  refine WK.then_normal (k34 _ _ ?_)
  refine WC.sub [(2, _), (3, _), (4, _), (7, _), (8, _), (9, _), (10, _), (11, _), (12, _)] ⟨rfl, rfl, rfl, rfl, rfl, rfl, rfl, rfl, rfl, trivial⟩ ?_
  refine WC.seq (fun K45 k45 => ?_)
  refine WC.region rfl ?_
  refine WL.yld rfl (blt rfl) rfl (Y.loadS rfl Try.underlying23 rfl ti23 rfl (Blk.row_eq m6)) ?_
  refine WL.yld rfl (blt rfl) rfl (Y.loadS rfl Try.underlying23 rfl ti23 rfl (Blk.row_eq m11)) ?_
  refine WL.call rfl (blt rfl) rfl rfl rfl has12 rfl (radd_any _ _ _ _ _) ?_
  rintro _ w46 ⟨rfl, x47⟩
  refine ⟨_, rfl, ?_⟩
  have m6 := m6.ext x47
  have m11 := m11.ext x47
  have m22 := m22.ext x47
  have m33 := m33.ext x47
  have m44 := m44.ext x47
  have xW := Ext.trans xW x47
  refine WL.yld rfl (blt rfl) rfl (Y.move rfl rfl) ?_
  refine WL.yld rfl (blt rfl) rfl (Y.extract rfl rfl rfl) ?_
  refine WL.yld rfl (blt rfl) rfl (Y.extract rfl rfl rfl) ?_
  refine WL.alloc rfl (blt rfl) rfl rfl ti23 rfl ?_
  intro g48 w49 e50 x51 m52
  have n_g2_g48 := ne_new m6 e50
  have n_g7_g48 := ne_new m11 e50
  have n_g15_g48 := ne_new m22 e50
  have n_g26_g48 := ne_new m33 e50
  have n_g37_g48 := ne_new m44 e50
  have o_g48 := own_new xW e50
  have m6 := m6.ext x51
  have m11 := m11.ext x51
  have m22 := m22.ext x51
  have m33 := m33.ext x51
  have m44 := m44.ext x51
  have xW := Ext.trans xW x51
  refine WL.store (cs' := [_, _]) rfl rfl rfl rfl rfl rfl ti23 m52 (ble rfl) rfl rfl (fun w53 on54 m55 => ?_)
  have m6 := m6.only n_g2_g48 on54
  have m11 := m11.only n_g7_g48 on54
  have m22 := m22.only n_g15_g48 on54
  have m33 := m33.only n_g26_g48 on54
  have m44 := m44.only n_g37_g48 on54
  have xW := Ext.only xW on54 o_g48
  refine WL.yld rfl (blt rfl) rfl (Y.assign rfl rfl) ?_
  refine WL.nil ?_
  refine WK.then_normal (k45 _ _ ?_)
  refine WC.sub [(2, _), (3, _), (4, _), (7, _), (8, _), (9, _), (10, _), (11, _), (12, _), (13, _), (14, _)] ⟨rfl, rfl, rfl, rfl, rfl, rfl, rfl, rfl, rfl, rfl, rfl, trivial⟩ ?_
  refine WC.seq (fun K56 k56 => ?_)
  refine WC.regionD (by kernel_rfl) (by kernel_rfl) rfl ?_
  refine WQ.yld rfl (blt rfl) rfl (Y.loadS rfl Try.underlying23 rfl ti23 rfl (Blk.row_ext m6)) ?_
  refine WQ.call rfl (blt rfl) rfl rfl rfl has13 rfl (fun w hw => calls_ext hw (valid_any _ _ _)) ?_
  refine WQ.yld rfl (blt rfl) rfl (Y.loadS rfl Try.underlying23 rfl ti23 rfl (Blk.row_ext m6)) ?_
  refine WQ.call rfl (blt rfl) rfl rfl rfl has14 rfl (fun w hw => calls_ext hw (rvalid_any _ _ _)) ?_
  refine WQ.yld rfl (blt rfl) rfl (Y.eqlB rfl Try.underlying4 rfl rfl) ?_
  refine WQ.yld rfl (blt rfl) rfl (Y.move rfl rfl) ?_
  refine WQ.yldG rfl (blt rfl) rfl rfl rfl (fun hb => Y.loadS rfl Try.underlying23 rfl ti23 rfl (Blk.row_ext m22)) ?_
  refine WQ.yldG rfl (blt rfl) rfl rfl rfl (fun hb => Y.loadS rfl Try.underlying23 rfl ti23 rfl (Blk.row_ext m33)) ?_
  refine WQ.yldG rfl (blt rfl) rfl rfl rfl (fun hb => Y.eqlS rfl eqg23 (eq23 _ _ _ _) (evg rfl hb) (evg rfl hb)) ?_
  refine WQ.yld rfl (blt rfl) rfl (Y.and rfl rfl rfl rfl) ?_
  refine WQ.yld rfl (blt rfl) rfl (Y.move rfl rfl) ?_
  refine WQ.yldG rfl (blt rfl) rfl rfl rfl (fun hb => Y.move rfl rfl) ?_
  refine WQ.yldG rfl (blt rfl) rfl rfl rfl (fun hb => Y.move rfl rfl) ?_
  refine WQ.yldG rfl (blt rfl) rfl rfl rfl (fun hb => Y.eqlB rfl Try.underlying4 (evg rfl hb) (evg rfl hb)) ?_
  refine WQ.yld rfl (blt rfl) rfl (Y.and rfl rfl rfl rfl) ?_
  refine WQ.yld rfl (blt rfl) rfl (Y.move rfl rfl) ?_
  refine WQ.yldG rfl (blt rfl) rfl rfl rfl (fun hb => Y.loadS rfl Try.underlying23 rfl ti23 rfl (Blk.row_ext m44)) ?_
  refine WQ.yldG rfl (blt rfl) rfl rfl rfl (fun hb => Y.loadS rfl Try.underlying23 rfl ti23 rfl (Blk.row_ext m55)) ?_
  refine WQ.yldG rfl (blt rfl) rfl rfl rfl (fun hb => Y.eqlS rfl eqg23 (eq23 _ _ _ _) (evg rfl hb) (evg rfl hb)) ?_
  refine WQ.yld rfl (blt rfl) rfl (Y.and rfl rfl rfl rfl) ?_
  refine WQ.yld rfl (blt rfl) rfl (Y.move rfl rfl) ?_
  refine WQ.yldG rfl (blt rfl) rfl rfl rfl (fun hb => Y.move rfl rfl) ?_
  refine WQ.yldG rfl (blt rfl) rfl rfl rfl (fun hb => Y.move rfl rfl) ?_
  refine WQ.yldG rfl (blt rfl) rfl rfl rfl (fun hb => Y.eqlB rfl Try.underlying4 (evg rfl hb) (evg rfl hb)) ?_
  refine WQ.yld rfl (blt rfl) rfl (Y.and rfl rfl rfl rfl) ?_
  refine WQ.yld rfl (blt rfl) rfl (Y.move rfl rfl) ?_
  refine WQ.yldG rfl (blt rfl) rfl rfl rfl (fun hb => Y.loadS rfl Try.underlying23 rfl ti23 rfl (Blk.row_ext m6)) ?_
  refine WQ.yldG rfl (blt rfl) rfl rfl rfl (fun hb => Y.loadS rfl Try.underlying23 rfl ti23 rfl (Blk.row_ext m11)) ?_
  refine WQ.callG rfl (blt rfl) rfl rfl rfl rfl rfl has15 (fun hb => (evs_cons (evg rfl hb) (evs_cons (evg rfl hb) evs_nil))) (fun hb w hw => calls_ext hw (hull_any _ _ _ _ _)) ?_
  refine WQ.yldG rfl (blt rfl) rfl rfl rfl (fun hb => Y.loadS rfl Try.underlying23 rfl ti23 rfl (Blk.row_ext m6)) ?_
  refine WQ.yldG rfl (blt rfl) rfl rfl rfl (fun hb => Y.loadS rfl Try.underlying23 rfl ti23 rfl (Blk.row_ext m11)) ?_
  refine WQ.callG rfl (blt rfl) rfl rfl rfl rfl rfl has16 (fun hb => (evs_cons (evg rfl hb) (evs_cons (evg rfl hb) evs_nil))) (fun hb w hw => calls_ext hw (rhull_any _ _ _ _ _)) ?_
  refine WQ.yldG rfl (blt rfl) rfl rfl rfl (fun hb => Y.eqlS rfl eqg23 (eq23 _ _ _ _) (evg rfl hb) (evg rfl hb)) ?_
  refine WQ.yld rfl (blt rfl) rfl (Y.and rfl rfl rfl rfl) ?_
  refine WQ.yld rfl (blt rfl) rfl (Y.move rfl rfl) ?_
  refine WQ.yldG rfl (blt rfl) rfl rfl rfl (fun hb => Y.loadS rfl Try.underlying23 rfl ti23 rfl (Blk.row_ext m6)) ?_
  refine WQ.yldG rfl (blt rfl) rfl rfl rfl (fun hb => Y.loadS rfl Try.underlying23 rfl ti23 rfl (Blk.row_ext m11)) ?_
  refine WQ.callG rfl (blt rfl) rfl rfl rfl rfl rfl has17 (fun hb => (evs_cons (evg rfl hb) (evs_cons (evg rfl hb) evs_nil))) (fun hb w hw => calls_ext hw (before_any _ _ _ _ _)) ?_
  refine WQ.yldG rfl (blt rfl) rfl rfl rfl (fun hb => Y.loadS rfl Try.underlying23 rfl ti23 rfl (Blk.row_ext m6)) ?_
  refine WQ.yldG rfl (blt rfl) rfl rfl rfl (fun hb => Y.loadS rfl Try.underlying23 rfl ti23 rfl (Blk.row_ext m11)) ?_
  refine WQ.callG rfl (blt rfl) rfl rfl rfl rfl rfl has18 (fun hb => (evs_cons (evg rfl hb) (evs_cons (evg rfl hb) evs_nil))) (fun hb w hw => calls_ext hw (rbefore_any _ _ _ _ _)) ?_
  refine WQ.yldG rfl (blt rfl) rfl rfl rfl (fun hb => Y.eqlB rfl Try.underlying4 (evg rfl hb) (evg rfl hb)) ?_
  refine WQ.yld rfl (blt rfl) rfl (Y.and rfl rfl rfl rfl) ?_
  refine WQ.yld rfl (blt rfl) rfl (Y.move rfl rfl) ?_
  refine WQ.yldG rfl (blt rfl) rfl rfl rfl (fun hb => Y.loadS rfl Try.underlying23 rfl ti23 rfl (Blk.row_ext m6)) ?_
  refine WQ.yldG rfl (blt rfl) rfl rfl rfl (fun hb => Y.move rfl rfl) ?_
  refine WQ.callG rfl (blt rfl) rfl rfl rfl rfl rfl has19 (fun hb => (evs_cons (evg rfl hb) (evs_cons (evg rfl hb) evs_nil))) (fun hb w hw => calls_ext hw (within_any _ _ _ _)) ?_
  refine WQ.yldG rfl (blt rfl) rfl rfl rfl (fun hb => Y.loadS rfl Try.underlying23 rfl ti23 rfl (Blk.row_ext m6)) ?_
  refine WQ.yldG rfl (blt rfl) rfl rfl rfl (fun hb => Y.move rfl rfl) ?_
  refine WQ.callG rfl (blt rfl) rfl rfl rfl rfl rfl has20 (fun hb => (evs_cons (evg rfl hb) (evs_cons (evg rfl hb) evs_nil))) (fun hb w hw => calls_ext hw (rwithin_any _ _ _ _)) ?_
  refine WQ.yldG rfl (blt rfl) rfl rfl rfl (fun hb => Y.eqlB rfl Try.underlying4 (evg rfl hb) (evg rfl hb)) ?_
  refine WQ.yld rfl (blt rfl) rfl (Y.and rfl rfl rfl rfl) ?_
  refine WQ.yld rfl (blt rfl) rfl (Y.move rfl rfl) ?_
  refine WQ.callG rfl (blt rfl) rfl rfl rfl rfl rfl has21 (fun hb => rfl) (fun hb w hw => calls_ext hw (awake_any _)) ?_
  refine WQ.yld rfl (blt rfl) rfl (Y.and rfl rfl rfl rfl) ?_
  refine WQ.yld rfl (blt rfl) rfl (Y.assign rfl rfl) ?_
  refine WQ.done (fun w57 x58 => ?_)
  have m6 := m6.ext x58
  have m11 := m11.ext x58
  have m22 := m22.ext x58
  have m33 := m33.ext x58
  have m44 := m44.ext x58
  have m55 := m55.ext x58
  have xW := Ext.trans xW x58
  refine WK.then_normal (k56 _ _ ?_)
  refine WC.sub [(6, _)] ⟨rfl, trivial⟩ ?_
  refine WC.ret ?_
  clear k1 k12 k23 k34 k45 k56
  refine WK.ret [_] rfl ⟨rfl, trivial⟩ ?_
  exact ⟨ret1 (vb (by simp)), xW⟩
theorem IntervalStretch_any (d ppm : Int) (w : World) :
    Calls Try.prog 4 #[.int .i64 d, .int .i64 ppm] w fun e w' => e = .returned (.bool true) ∧ Ext w w' := by
  have xW := Ext.refl w
  refine calls_of_WC (args := [.int .i64 d, .int .i64 ppm]) Try.func4 rfl rfl (ble rfl) ?_
  refine WC.seq (fun K1 k1 => ?_)
  refine WC.region rfl ?_
  refine WL.yld rfl (blt rfl) rfl (Y.assign rfl rfl) ?_
  refine WL.nil ?_
  refine WK.then_normal (k1 _ _ ?_)
  refine WC.sub [(0, _), (1, _)] ⟨rfl, rfl, trivial⟩ ?_
  refine WC.seq (fun K2 k2 => ?_)
  refine WC.region rfl ?_
  refine WL.yld rfl (blt rfl) rfl (Y.move rfl rfl) ?_
  refine WL.yld rfl (blt rfl) rfl (Y.move rfl rfl) ?_
  refine WL.call rfl (blt rfl) rfl rfl rfl has22 rfl (stretch_any _ _ _) ?_
  rintro _ w3 ⟨rfl, x4⟩
  refine ⟨_, rfl, ?_⟩
  have xW := Ext.trans xW x4
  refine WL.yld rfl (blt rfl) rfl (Y.move rfl rfl) ?_
  refine WL.yld rfl (blt rfl) rfl (Y.extract rfl rfl rfl) ?_
  refine WL.yld rfl (blt rfl) rfl (Y.extract rfl rfl rfl) ?_
  refine WL.alloc rfl (blt rfl) rfl rfl ti23 rfl ?_
  intro g5 w6 e7 x8 m9
  have o_g5 := own_new xW e7
  have xW := Ext.trans xW x8
  refine WL.store (cs' := [_, _]) rfl rfl rfl rfl rfl rfl ti23 m9 (ble rfl) rfl rfl (fun w10 on11 m12 => ?_)
  have xW := Ext.only xW on11 o_g5
  refine WL.yld rfl (blt rfl) rfl (Y.assign rfl rfl) ?_
  refine WL.nil ?_
  refine WK.then_normal (k2 _ _ ?_)
  refine WC.sub [(0, _), (1, _), (5, _), (6, _)] ⟨rfl, rfl, rfl, rfl, trivial⟩ ?_
  refine WC.seq (fun K13 k13 => ?_)
  refine WC.region rfl ?_
  refine WL.yld rfl (blt rfl) rfl (Y.move rfl rfl) ?_
  refine WL.yld rfl (blt rfl) rfl (Y.move rfl rfl) ?_
  refine WL.call rfl (blt rfl) rfl rfl rfl has23 rfl (rstretch_any _ _ _) ?_
  rintro _ w14 ⟨rfl, x15⟩
  refine ⟨_, rfl, ?_⟩
  have m12 := m12.ext x15
  have xW := Ext.trans xW x15
  refine WL.yld rfl (blt rfl) rfl (Y.move rfl rfl) ?_
  refine WL.yld rfl (blt rfl) rfl (Y.extract rfl rfl rfl) ?_
  refine WL.yld rfl (blt rfl) rfl (Y.extract rfl rfl rfl) ?_
  refine WL.alloc rfl (blt rfl) rfl rfl ti23 rfl ?_
  intro g16 w17 e18 x19 m20
  have n_g5_g16 := ne_new m12 e18
  have o_g16 := own_new xW e18
  have m12 := m12.ext x19
  have xW := Ext.trans xW x19
  refine WL.store (cs' := [_, _]) rfl rfl rfl rfl rfl rfl ti23 m20 (ble rfl) rfl rfl (fun w21 on22 m23 => ?_)
  have m12 := m12.only n_g5_g16 on22
  have xW := Ext.only xW on22 o_g16
  refine WL.yld rfl (blt rfl) rfl (Y.assign rfl rfl) ?_
  refine WL.nil ?_
  refine WK.then_normal (k13 _ _ ?_)
  refine WC.sub [(5, _), (6, _), (7, _), (8, _)] ⟨rfl, rfl, rfl, rfl, trivial⟩ ?_
  refine WC.seq (fun K24 k24 => ?_)
  refine WC.region rfl ?_
  refine WL.yld rfl (blt rfl) rfl (Y.loadS rfl Try.underlying23 rfl ti23 rfl (Blk.row_eq m12)) ?_
  refine WL.yld rfl (blt rfl) rfl (Y.loadS rfl Try.underlying23 rfl ti23 rfl (Blk.row_eq m23)) ?_
  refine WL.yld rfl (blt rfl) rfl (Y.eqlS rfl eqg23 (eq23 _ _ _ _) rfl rfl) ?_
  refine WL.yld rfl (blt rfl) rfl (Y.move rfl rfl) ?_
  refine WL.yldG rfl (blt rfl) rfl rfl rfl (fun hb => Y.move rfl rfl) ?_
  refine WL.yldG rfl (blt rfl) rfl rfl rfl (fun hb => Y.move rfl rfl) ?_
  refine WL.yldG rfl (blt rfl) rfl rfl rfl (fun hb => Y.eqlB rfl Try.underlying4 (evg rfl hb) (evg rfl hb)) ?_
  refine WL.yld rfl (blt rfl) rfl (Y.and rfl rfl rfl rfl) ?_
  refine WL.yld rfl (blt rfl) rfl (Y.move rfl rfl) ?_
  refine WL.callG rfl (blt rfl) rfl rfl rfl rfl rfl has21 (fun hb => rfl) (fun hb => awake_any _) (fun w25 x26 => ?_)
  have m12 := m12.ext x26
  have m23 := m23.ext x26
  have xW := Ext.trans xW x26
  refine WL.yld rfl (blt rfl) rfl (Y.and rfl rfl rfl rfl) ?_
  refine WL.yld rfl (blt rfl) rfl (Y.assign rfl rfl) ?_
  refine WL.nil ?_
  refine WK.then_normal (k24 _ _ ?_)
  refine WC.sub [(4, _)] ⟨rfl, trivial⟩ ?_
  refine WC.ret ?_
  clear k1 k2 k13 k24
  refine WK.ret [_] rfl ⟨rfl, trivial⟩ ?_
  exact ⟨ret1 (vb (by simp)), xW⟩
end A
end LawA

end Go.Proofs.Ytjbbpcgegemoiaa
