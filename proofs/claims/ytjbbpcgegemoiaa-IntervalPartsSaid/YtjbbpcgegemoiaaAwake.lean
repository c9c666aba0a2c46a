/- The walk of the chapter's examples. Conditions: what each theorem states. -/
import Derived.Test.YtjbbpcgegemoiaaNumWalk
namespace Go.Proofs.Ytjbbpcgegemoiaa
open Go Go.Eng Go.RowKit
set_option linter.unusedVariables false
namespace LawA
open NumF
theorem ti23 : TI Try.prog 23 (.agg #[.int .i64 0, .int .i64 0]) 2 16 := TI.mk (by kernel_rfl)
theorem has9 : Has Try.prog 9 := ⟨_, Try.func9, rfl, by kernel_rfl⟩
theorem has11 : Has Try.prog 11 := ⟨_, Try.func11, rfl, by kernel_rfl⟩
theorem has13 : Has Try.prog 13 := ⟨_, Try.func13, rfl, by kernel_rfl⟩
theorem has15 : Has Try.prog 15 := ⟨_, Try.func15, rfl, by kernel_rfl⟩
theorem has17 : Has Try.prog 17 := ⟨_, Try.func17, rfl, by kernel_rfl⟩
theorem has19 : Has Try.prog 19 := ⟨_, Try.func19, rfl, by kernel_rfl⟩
theorem has22 : Has Try.prog 22 := ⟨_, Try.func22, rfl, by kernel_rfl⟩
theorem has24 : Has Try.prog 24 := ⟨_, Try.func24, rfl, by kernel_rfl⟩
theorem eqg23 : Try.prog.eqGuardType Try.prog.depth 23 = false := by kernel_rfl
theorem eq23 (a0 : Int) (a1 : Int) (b0 : Int) (b1 : Int) (w : World) : (Op.equalIn 10000 23 (.agg #[.int .i64 a0, .int .i64 a1]) (.agg #[.int .i64 b0, .int .i64 b1])).run Try.prog w = .ok ((a0 == b0) && (a1 == b1)) w := by
  go_simp
  (repeat' split) <;> simp_all
theorem awake_any  (w : World) :
    Calls Try.prog 21 #[] w fun e w' => e = .returned (.bool true) ∧ Ext w w' := by
  have xW := Ext.refl w
  refine calls_of_WC (args := []) Try.func21 rfl rfl (ble rfl) ?_
  refine WC.seq (fun K1 k1 => ?_)
  refine WC.region rfl ?_
  refine WL.yld rfl (blt rfl) rfl (Y.assign rfl rfl) ?_
  refine WL.nil ?_
  refine WK.then_normal (k1 _ _ ?_)
  refine WC.sub [] trivial ?_
  refine WC.seq (fun K2 k2 => ?_)
  refine WC.region rfl ?_
  refine WL.call rfl (blt rfl) rfl rfl rfl has24 rfl (of_any _ _ _) ?_
  rintro _ w3 ⟨rfl, x4⟩
  refine ⟨_, rfl, ?_⟩
  have xW := Ext.trans xW x4
  refine WL.call rfl (blt rfl) rfl rfl rfl has24 rfl (of_any _ _ _) ?_
  rintro _ w5 ⟨rfl, x6⟩
  refine ⟨_, rfl, ?_⟩
  have xW := Ext.trans xW x6
  refine WL.call rfl (blt rfl) rfl rfl rfl has9 rfl (meet_any _ _ _ _ _) ?_
  rintro _ w7 ⟨rfl, x8⟩
  refine ⟨_, rfl, ?_⟩
  have xW := Ext.trans xW x8
  refine WL.yld rfl (blt rfl) rfl (Y.move rfl rfl) ?_
  refine WL.yld rfl (blt rfl) rfl (Y.extract rfl rfl rfl) ?_
  refine WL.yld rfl (blt rfl) rfl (Y.extract rfl rfl rfl) ?_
  refine WL.alloc rfl (blt rfl) rfl rfl ti23 rfl ?_
  intro g9 w10 e11 x12 m13
  have o_g9 := own_new xW e11
  have xW := Ext.trans xW x12
  refine WL.store (cs' := [_, _]) rfl rfl rfl rfl rfl rfl ti23 m13 (ble rfl) rfl rfl (fun w14 on15 m16 => ?_)
  have xW := Ext.only xW on15 o_g9
  refine WL.yld rfl (blt rfl) rfl (Y.assign rfl rfl) ?_
  refine WL.nil ?_
  refine WK.then_normal (k2 _ _ ?_)
  refine WC.sub [(1, _), (2, _)] ⟨rfl, rfl, trivial⟩ ?_
  refine WC.seq (fun K17 k17 => ?_)
  refine WC.region rfl ?_
  refine WL.call rfl (blt rfl) rfl rfl rfl has24 rfl (of_any _ _ _) ?_
  rintro _ w18 ⟨rfl, x19⟩
  refine ⟨_, rfl, ?_⟩
  have m16 := m16.ext x19
  have xW := Ext.trans xW x19
  refine WL.call rfl (blt rfl) rfl rfl rfl has24 rfl (of_any _ _ _) ?_
  rintro _ w20 ⟨rfl, x21⟩
  refine ⟨_, rfl, ?_⟩
  have m16 := m16.ext x21
  have xW := Ext.trans xW x21
  refine WL.call rfl (blt rfl) rfl rfl rfl has9 rfl (meet_any _ _ _ _ _) ?_
  rintro _ w22 ⟨rfl, x23⟩
  refine ⟨_, rfl, ?_⟩
  have m16 := m16.ext x23
  have xW := Ext.trans xW x23
  refine WL.yld rfl (blt rfl) rfl (Y.move rfl rfl) ?_
  refine WL.yld rfl (blt rfl) rfl (Y.extract rfl rfl rfl) ?_
  refine WL.yld rfl (blt rfl) rfl (Y.extract rfl rfl rfl) ?_
  refine WL.alloc rfl (blt rfl) rfl rfl ti23 rfl ?_
  intro g24 w25 e26 x27 m28
  have n_g9_g24 := ne_new m16 e26
  have o_g24 := own_new xW e26
  have m16 := m16.ext x27
  have xW := Ext.trans xW x27
  refine WL.store (cs' := [_, _]) rfl rfl rfl rfl rfl rfl ti23 m28 (ble rfl) rfl rfl (fun w29 on30 m31 => ?_)
  have m16 := m16.only n_g9_g24 on30
  have xW := Ext.only xW on30 o_g24
  refine WL.yld rfl (blt rfl) rfl (Y.assign rfl rfl) ?_
  refine WL.nil ?_
  refine WK.then_normal (k17 _ _ ?_)
  refine WC.sub [(1, _), (2, _), (4, _)] ⟨rfl, rfl, rfl, trivial⟩ ?_
  refine WC.seq (fun K32 k32 => ?_)
  refine WC.region rfl ?_
  refine WL.call rfl (blt rfl) rfl rfl rfl has24 rfl (of_any _ _ _) ?_
  rintro _ w33 ⟨rfl, x34⟩
  refine ⟨_, rfl, ?_⟩
  have m16 := m16.ext x34
  have xW := Ext.trans xW x34
  refine WL.call rfl (blt rfl) rfl rfl rfl has24 rfl (of_any _ _ _) ?_
  rintro _ w35 ⟨rfl, x36⟩
  refine ⟨_, rfl, ?_⟩
  have m16 := m16.ext x36
  have xW := Ext.trans xW x36
  refine WL.call rfl (blt rfl) rfl rfl rfl has11 rfl (add_any _ _ _ _ _) ?_
  rintro _ w37 ⟨rfl, x38⟩
  refine ⟨_, rfl, ?_⟩
  have m16 := m16.ext x38
  have xW := Ext.trans xW x38
  refine WL.yld rfl (blt rfl) rfl (Y.move rfl rfl) ?_
  refine WL.yld rfl (blt rfl) rfl (Y.extract rfl rfl rfl) ?_
  refine WL.yld rfl (blt rfl) rfl (Y.extract rfl rfl rfl) ?_
  refine WL.alloc rfl (blt rfl) rfl rfl ti23 rfl ?_
  intro g39 w40 e41 x42 m43
  have n_g9_g39 := ne_new m16 e41
  have o_g39 := own_new xW e41
  have m16 := m16.ext x42
  have xW := Ext.trans xW x42
  refine WL.store (cs' := [_, _]) rfl rfl rfl rfl rfl rfl ti23 m43 (ble rfl) rfl rfl (fun w44 on45 m46 => ?_)
  have m16 := m16.only n_g9_g39 on45
  have xW := Ext.only xW on45 o_g39
  refine WL.yld rfl (blt rfl) rfl (Y.assign rfl rfl) ?_
  refine WL.nil ?_
  refine WK.then_normal (k32 _ _ ?_)
  refine WC.sub [(1, _), (2, _), (4, _), (5, _), (6, _)] ⟨rfl, rfl, rfl, rfl, rfl, trivial⟩ ?_
  refine WC.seq (fun K47 k47 => ?_)
  refine WC.region rfl ?_
  refine WL.call rfl (blt rfl) rfl rfl rfl has24 rfl (of_any _ _ _) ?_
  rintro _ w48 ⟨rfl, x49⟩
  refine ⟨_, rfl, ?_⟩
  have m16 := m16.ext x49
  have m46 := m46.ext x49
  have xW := Ext.trans xW x49
  refine WL.call rfl (blt rfl) rfl rfl rfl has24 rfl (of_any _ _ _) ?_
  rintro _ w50 ⟨rfl, x51⟩
  refine ⟨_, rfl, ?_⟩
  have m16 := m16.ext x51
  have m46 := m46.ext x51
  have xW := Ext.trans xW x51
  refine WL.call rfl (blt rfl) rfl rfl rfl has11 rfl (add_any _ _ _ _ _) ?_
  rintro _ w52 ⟨rfl, x53⟩
  refine ⟨_, rfl, ?_⟩
  have m16 := m16.ext x53
  have m46 := m46.ext x53
  have xW := Ext.trans xW x53
  refine WL.yld rfl (blt rfl) rfl (Y.move rfl rfl) ?_
  refine WL.yld rfl (blt rfl) rfl (Y.extract rfl rfl rfl) ?_
  refine WL.yld rfl (blt rfl) rfl (Y.extract rfl rfl rfl) ?_
  refine WL.alloc rfl (blt rfl) rfl rfl ti23 rfl ?_
  intro g54 w55 e56 x57 m58
  have n_g9_g54 := ne_new m16 e56
  have n_g39_g54 := ne_new m46 e56
  have o_g54 := own_new xW e56
  have m16 := m16.ext x57
  have m46 := m46.ext x57
  have xW := Ext.trans xW x57
  refine WL.store (cs' := [_, _]) rfl rfl rfl rfl rfl rfl ti23 m58 (ble rfl) rfl rfl (fun w59 on60 m61 => ?_)
  have m16 := m16.only n_g9_g54 on60
  have m46 := m46.only n_g39_g54 on60
  have xW := Ext.only xW on60 o_g54
  refine WL.yld rfl (blt rfl) rfl (Y.assign rfl rfl) ?_
  refine WL.nil ?_
  refine WK.then_normal (k47 _ _ ?_)
  refine WC.sub [(1, _), (2, _), (4, _), (5, _), (6, _), (8, _)] ⟨rfl, rfl, rfl, rfl, rfl, rfl, trivial⟩ ?_
  refine WC.seq (fun K62 k62 => ?_)
  refine WC.region rfl ?_
  refine WL.call rfl (blt rfl) rfl rfl rfl has22 rfl (stretch_any _ _ _) ?_
  rintro _ w63 ⟨rfl, x64⟩
  refine ⟨_, rfl, ?_⟩
  have m16 := m16.ext x64
  have m46 := m46.ext x64
  have xW := Ext.trans xW x64
  refine WL.yld rfl (blt rfl) rfl (Y.move rfl rfl) ?_
  refine WL.yld rfl (blt rfl) rfl (Y.extract rfl rfl rfl) ?_
  refine WL.yld rfl (blt rfl) rfl (Y.extract rfl rfl rfl) ?_
  refine WL.alloc rfl (blt rfl) rfl rfl ti23 rfl ?_
  intro g65 w66 e67 x68 m69
  have n_g9_g65 := ne_new m16 e67
  have n_g39_g65 := ne_new m46 e67
  have o_g65 := own_new xW e67
  have m16 := m16.ext x68
  have m46 := m46.ext x68
  have xW := Ext.trans xW x68
  refine WL.store (cs' := [_, _]) rfl rfl rfl rfl rfl rfl ti23 m69 (ble rfl) rfl rfl (fun w70 on71 m72 => ?_)
  have m16 := m16.only n_g9_g65 on71
  have m46 := m46.only n_g39_g65 on71
  have xW := Ext.only xW on71 o_g65
  refine WL.yld rfl (blt rfl) rfl (Y.assign rfl rfl) ?_
  refine WL.nil ?_
  refine WK.then_normal (k62 _ _ ?_)
  refine WC.sub [(1, _), (2, _), (4, _), (5, _), (6, _), (8, _), (9, _), (10, _)] ⟨rfl, rfl, rfl, rfl, rfl, rfl, rfl, rfl, trivial⟩ ?_
  refine WC.seq (fun K73 k73 => ?_)
  refine WC.region rfl ?_
  refine WL.call rfl (blt rfl) rfl rfl rfl has22 rfl (stretch_any _ _ _) ?_
  rintro _ w74 ⟨rfl, x75⟩
  refine ⟨_, rfl, ?_⟩
  have m16 := m16.ext x75
  have m46 := m46.ext x75
  have m72 := m72.ext x75
  have xW := Ext.trans xW x75
  refine WL.yld rfl (blt rfl) rfl (Y.move rfl rfl) ?_
  refine WL.yld rfl (blt rfl) rfl (Y.extract rfl rfl rfl) ?_
  refine WL.yld rfl (blt rfl) rfl (Y.extract rfl rfl rfl) ?_
  refine WL.alloc rfl (blt rfl) rfl rfl ti23 rfl ?_
  intro g76 w77 e78 x79 m80
  have n_g9_g76 := ne_new m16 e78
  have n_g39_g76 := ne_new m46 e78
  have n_g65_g76 := ne_new m72 e78
  have o_g76 := own_new xW e78
  have m16 := m16.ext x79
  have m46 := m46.ext x79
  have m72 := m72.ext x79
  have xW := Ext.trans xW x79
  refine WL.store (cs' := [_, _]) rfl rfl rfl rfl rfl rfl ti23 m80 (ble rfl) rfl rfl (fun w81 on82 m83 => ?_)
  have m16 := m16.only n_g9_g76 on82
  have m46 := m46.only n_g39_g76 on82
  have m72 := m72.only n_g65_g76 on82
  have xW := Ext.only xW on82 o_g76
  refine WL.yld rfl (blt rfl) rfl (Y.assign rfl rfl) ?_
  refine WL.nil ?_
  refine WK.then_normal (k73 _ _ ?_)
  refine WC.sub [(1, _), (2, _), (4, _), (5, _), (6, _), (8, _), (9, _), (10, _), (11, _), (12, _)] ⟨rfl, rfl, rfl, rfl, rfl, rfl, rfl, rfl, rfl, rfl, trivial⟩ ?_
  refine WC.seq (fun K84 k84 => ?_)
  refine WC.region rfl ?_
  refine WL.call rfl (blt rfl) rfl rfl rfl has22 rfl (stretch_any _ _ _) ?_
  rintro _ w85 ⟨rfl, x86⟩
  refine ⟨_, rfl, ?_⟩
  have m16 := m16.ext x86
  have m46 := m46.ext x86
  have m72 := m72.ext x86
  have m83 := m83.ext x86
  have xW := Ext.trans xW x86
  refine WL.yld rfl (blt rfl) rfl (Y.move rfl rfl) ?_
  refine WL.yld rfl (blt rfl) rfl (Y.extract rfl rfl rfl) ?_
  refine WL.yld rfl (blt rfl) rfl (Y.extract rfl rfl rfl) ?_
  refine WL.alloc rfl (blt rfl) rfl rfl ti23 rfl ?_
  intro g87 w88 e89 x90 m91
  have n_g9_g87 := ne_new m16 e89
  have n_g39_g87 := ne_new m46 e89
  have n_g65_g87 := ne_new m72 e89
  have n_g76_g87 := ne_new m83 e89
  have o_g87 := own_new xW e89
  have m16 := m16.ext x90
  have m46 := m46.ext x90
  have m72 := m72.ext x90
  have m83 := m83.ext x90
  have xW := Ext.trans xW x90
  refine WL.store (cs' := [_, _]) rfl rfl rfl rfl rfl rfl ti23 m91 (ble rfl) rfl rfl (fun w92 on93 m94 => ?_)
  have m16 := m16.only n_g9_g87 on93
  have m46 := m46.only n_g39_g87 on93
  have m72 := m72.only n_g65_g87 on93
  have m83 := m83.only n_g76_g87 on93
  have xW := Ext.only xW on93 o_g87
  refine WL.yld rfl (blt rfl) rfl (Y.assign rfl rfl) ?_
  refine WL.nil ?_
  refine WK.then_normal (k84 _ _ ?_)
  refine WC.sub [(1, _), (2, _), (4, _), (5, _), (6, _), (8, _), (9, _), (10, _), (11, _), (12, _), (14, _)] ⟨rfl, rfl, rfl, rfl, rfl, rfl, rfl, rfl, rfl, rfl, rfl, trivial⟩ ?_
  refine WC.seq (fun K95 k95 => ?_)
  refine WC.regionD (by kernel_rfl) (by kernel_rfl) rfl ?_
  refine WQ.call rfl (blt rfl) rfl rfl rfl has24 rfl (fun w hw => calls_ext hw (of_any _ _ _)) ?_
  refine WQ.call rfl (blt rfl) rfl rfl rfl has13 rfl (fun w hw => calls_ext hw (valid_any _ _ _)) ?_
  refine WQ.yld rfl (blt rfl) rfl (Y.move rfl rfl) ?_
  refine WQ.callG rfl (blt rfl) rfl rfl rfl rfl rfl has24 (fun hb => rfl) (fun hb w hw => calls_ext hw (of_any _ _ _)) ?_
  refine WQ.callG rfl (blt rfl) rfl rfl rfl rfl rfl has13 (fun hb => (evs_cons (evg rfl hb) evs_nil)) (fun hb w hw => calls_ext hw (valid_any _ _ _)) ?_
  refine WQ.yldG rfl (blt rfl) rfl rfl rfl (fun hb => Y.not rfl (evg rfl hb)) ?_
  refine WQ.yld rfl (blt rfl) rfl (Y.and rfl rfl rfl rfl) ?_
  refine WQ.yld rfl (blt rfl) rfl (Y.move rfl rfl) ?_
  refine WQ.yldG rfl (blt rfl) rfl rfl rfl (fun hb => Y.loadS rfl Try.underlying23 rfl ti23 rfl (Blk.row_ext m16)) ?_
  refine WQ.callG rfl (blt rfl) rfl rfl rfl rfl rfl has24 (fun hb => rfl) (fun hb w hw => calls_ext hw (of_any _ _ _)) ?_
  refine WQ.yldG rfl (blt rfl) rfl rfl rfl (fun hb => Y.eqlS rfl eqg23 (eq23 _ _ _ _) (evg rfl hb) (evg rfl hb)) ?_
  refine WQ.yld rfl (blt rfl) rfl (Y.and rfl rfl rfl rfl) ?_
  refine WQ.yld rfl (blt rfl) rfl (Y.move rfl rfl) ?_
  refine WQ.yldG rfl (blt rfl) rfl rfl rfl (fun hb => Y.move rfl rfl) ?_
  refine WQ.yld rfl (blt rfl) rfl (Y.and rfl rfl rfl rfl) ?_
  refine WQ.yld rfl (blt rfl) rfl (Y.move rfl rfl) ?_
  refine WQ.yldG rfl (blt rfl) rfl rfl rfl (fun hb => Y.move rfl rfl) ?_
  refine WQ.yldG rfl (blt rfl) rfl rfl rfl (fun hb => Y.not rfl (evg rfl hb)) ?_
  refine WQ.yld rfl (blt rfl) rfl (Y.and rfl rfl rfl rfl) ?_
  refine WQ.yld rfl (blt rfl) rfl (Y.move rfl rfl) ?_
  refine WQ.callG rfl (blt rfl) rfl rfl rfl rfl rfl has24 (fun hb => rfl) (fun hb w hw => calls_ext hw (of_any _ _ _)) ?_
  refine WQ.callG rfl (blt rfl) rfl rfl rfl rfl rfl has24 (fun hb => rfl) (fun hb w hw => calls_ext hw (of_any _ _ _)) ?_
  refine WQ.callG rfl (blt rfl) rfl rfl rfl rfl rfl has15 (fun hb => (evs_cons (evg rfl hb) (evs_cons (evg rfl hb) evs_nil))) (fun hb w hw => calls_ext hw (hull_any _ _ _ _ _)) ?_
  refine WQ.callG rfl (blt rfl) rfl rfl rfl rfl rfl has24 (fun hb => rfl) (fun hb w hw => calls_ext hw (of_any _ _ _)) ?_
  refine WQ.yldG rfl (blt rfl) rfl rfl rfl (fun hb => Y.eqlS rfl eqg23 (eq23 _ _ _ _) (evg rfl hb) (evg rfl hb)) ?_
  refine WQ.yld rfl (blt rfl) rfl (Y.and rfl rfl rfl rfl) ?_
  refine WQ.yld rfl (blt rfl) rfl (Y.move rfl rfl) ?_
  refine WQ.callG rfl (blt rfl) rfl rfl rfl rfl rfl has24 (fun hb => rfl) (fun hb w hw => calls_ext hw (of_any _ _ _)) ?_
  refine WQ.callG rfl (blt rfl) rfl rfl rfl rfl rfl has24 (fun hb => rfl) (fun hb w hw => calls_ext hw (of_any _ _ _)) ?_
  refine WQ.callG rfl (blt rfl) rfl rfl rfl rfl rfl has15 (fun hb => (evs_cons (evg rfl hb) (evs_cons (evg rfl hb) evs_nil))) (fun hb w hw => calls_ext hw (hull_any _ _ _ _ _)) ?_
  refine WQ.callG rfl (blt rfl) rfl rfl rfl rfl rfl has24 (fun hb => rfl) (fun hb w hw => calls_ext hw (of_any _ _ _)) ?_
  refine WQ.yldG rfl (blt rfl) rfl rfl rfl (fun hb => Y.eqlS rfl eqg23 (eq23 _ _ _ _) (evg rfl hb) (evg rfl hb)) ?_
  refine WQ.yld rfl (blt rfl) rfl (Y.and rfl rfl rfl rfl) ?_
  refine WQ.yld rfl (blt rfl) rfl (Y.move rfl rfl) ?_
  refine WQ.yldG rfl (blt rfl) rfl rfl rfl (fun hb => Y.loadS rfl Try.underlying23 rfl ti23 rfl (Blk.row_ext m46)) ?_
  refine WQ.callG rfl (blt rfl) rfl rfl rfl rfl rfl has24 (fun hb => rfl) (fun hb w hw => calls_ext hw (of_any _ _ _)) ?_
  refine WQ.yldG rfl (blt rfl) rfl rfl rfl (fun hb => Y.eqlS rfl eqg23 (eq23 _ _ _ _) (evg rfl hb) (evg rfl hb)) ?_
  refine WQ.yld rfl (blt rfl) rfl (Y.and rfl rfl rfl rfl) ?_
  refine WQ.yld rfl (blt rfl) rfl (Y.move rfl rfl) ?_
  refine WQ.yldG rfl (blt rfl) rfl rfl rfl (fun hb => Y.move rfl rfl) ?_
  refine WQ.yld rfl (blt rfl) rfl (Y.and rfl rfl rfl rfl) ?_
  refine WQ.yld rfl (blt rfl) rfl (Y.move rfl rfl) ?_
  refine WQ.yldG rfl (blt rfl) rfl rfl rfl (fun hb => Y.move rfl rfl) ?_
  refine WQ.yldG rfl (blt rfl) rfl rfl rfl (fun hb => Y.not rfl (evg rfl hb)) ?_
  refine WQ.yld rfl (blt rfl) rfl (Y.and rfl rfl rfl rfl) ?_
  refine WQ.yld rfl (blt rfl) rfl (Y.move rfl rfl) ?_
  refine WQ.callG rfl (blt rfl) rfl rfl rfl rfl rfl has24 (fun hb => rfl) (fun hb w hw => calls_ext hw (of_any _ _ _)) ?_
  refine WQ.callG rfl (blt rfl) rfl rfl rfl rfl rfl has24 (fun hb => rfl) (fun hb w hw => calls_ext hw (of_any _ _ _)) ?_
  refine WQ.callG rfl (blt rfl) rfl rfl rfl rfl rfl has17 (fun hb => (evs_cons (evg rfl hb) (evs_cons (evg rfl hb) evs_nil))) (fun hb w hw => calls_ext hw (before_any _ _ _ _ _)) ?_
  refine WQ.yld rfl (blt rfl) rfl (Y.and rfl rfl rfl rfl) ?_
  refine WQ.yld rfl (blt rfl) rfl (Y.move rfl rfl) ?_
  refine WQ.callG rfl (blt rfl) rfl rfl rfl rfl rfl has24 (fun hb => rfl) (fun hb w hw => calls_ext hw (of_any _ _ _)) ?_
  refine WQ.callG rfl (blt rfl) rfl rfl rfl rfl rfl has24 (fun hb => rfl) (fun hb w hw => calls_ext hw (of_any _ _ _)) ?_
  refine WQ.callG rfl (blt rfl) rfl rfl rfl rfl rfl has17 (fun hb => (evs_cons (evg rfl hb) (evs_cons (evg rfl hb) evs_nil))) (fun hb w hw => calls_ext hw (before_any _ _ _ _ _)) ?_
  refine WQ.yldG rfl (blt rfl) rfl rfl rfl (fun hb => Y.not rfl (evg rfl hb)) ?_
  refine WQ.yld rfl (blt rfl) rfl (Y.and rfl rfl rfl rfl) ?_
  refine WQ.yld rfl (blt rfl) rfl (Y.move rfl rfl) ?_
  refine WQ.callG rfl (blt rfl) rfl rfl rfl rfl rfl has24 (fun hb => rfl) (fun hb w hw => calls_ext hw (of_any _ _ _)) ?_
  refine WQ.callG rfl (blt rfl) rfl rfl rfl rfl rfl has19 (fun hb => (evs_cons (evg rfl hb) (evs_cons rfl evs_nil))) (fun hb w hw => calls_ext hw (within_any _ _ _ _)) ?_
  refine WQ.yld rfl (blt rfl) rfl (Y.and rfl rfl rfl rfl) ?_
  refine WQ.yld rfl (blt rfl) rfl (Y.move rfl rfl) ?_
  refine WQ.callG rfl (blt rfl) rfl rfl rfl rfl rfl has24 (fun hb => rfl) (fun hb w hw => calls_ext hw (of_any _ _ _)) ?_
  refine WQ.callG rfl (blt rfl) rfl rfl rfl rfl rfl has19 (fun hb => (evs_cons (evg rfl hb) (evs_cons rfl evs_nil))) (fun hb w hw => calls_ext hw (within_any _ _ _ _)) ?_
  refine WQ.yldG rfl (blt rfl) rfl rfl rfl (fun hb => Y.not rfl (evg rfl hb)) ?_
  refine WQ.yld rfl (blt rfl) rfl (Y.and rfl rfl rfl rfl) ?_
  refine WQ.yld rfl (blt rfl) rfl (Y.move rfl rfl) ?_
  refine WQ.yldG rfl (blt rfl) rfl rfl rfl (fun hb => Y.loadS rfl Try.underlying23 rfl ti23 rfl (Blk.row_ext m72)) ?_
  refine WQ.callG rfl (blt rfl) rfl rfl rfl rfl rfl has24 (fun hb => rfl) (fun hb w hw => calls_ext hw (of_any _ _ _)) ?_
  refine WQ.yldG rfl (blt rfl) rfl rfl rfl (fun hb => Y.eqlS rfl eqg23 (eq23 _ _ _ _) (evg rfl hb) (evg rfl hb)) ?_
  refine WQ.yld rfl (blt rfl) rfl (Y.and rfl rfl rfl rfl) ?_
  refine WQ.yld rfl (blt rfl) rfl (Y.move rfl rfl) ?_
  refine WQ.yldG rfl (blt rfl) rfl rfl rfl (fun hb => Y.move rfl rfl) ?_
  refine WQ.yld rfl (blt rfl) rfl (Y.and rfl rfl rfl rfl) ?_
  refine WQ.yld rfl (blt rfl) rfl (Y.move rfl rfl) ?_
  refine WQ.yldG rfl (blt rfl) rfl rfl rfl (fun hb => Y.loadS rfl Try.underlying23 rfl ti23 rfl (Blk.row_ext m83)) ?_
  refine WQ.callG rfl (blt rfl) rfl rfl rfl rfl rfl has24 (fun hb => rfl) (fun hb w hw => calls_ext hw (of_any _ _ _)) ?_
  refine WQ.yldG rfl (blt rfl) rfl rfl rfl (fun hb => Y.eqlS rfl eqg23 (eq23 _ _ _ _) (evg rfl hb) (evg rfl hb)) ?_
  refine WQ.yld rfl (blt rfl) rfl (Y.and rfl rfl rfl rfl) ?_
  refine WQ.yld rfl (blt rfl) rfl (Y.move rfl rfl) ?_
  refine WQ.yldG rfl (blt rfl) rfl rfl rfl (fun hb => Y.move rfl rfl) ?_
  refine WQ.yld rfl (blt rfl) rfl (Y.and rfl rfl rfl rfl) ?_
  refine WQ.yld rfl (blt rfl) rfl (Y.move rfl rfl) ?_
  refine WQ.yldG rfl (blt rfl) rfl rfl rfl (fun hb => Y.move rfl rfl) ?_
  refine WQ.yldG rfl (blt rfl) rfl rfl rfl (fun hb => Y.not rfl (evg rfl hb)) ?_
  refine WQ.yld rfl (blt rfl) rfl (Y.and rfl rfl rfl rfl) ?_
  refine WQ.yld rfl (blt rfl) rfl (Y.assign rfl rfl) ?_
  refine WQ.done (fun w96 x97 => ?_)
  have m16 := m16.ext x97
  have m46 := m46.ext x97
  have m72 := m72.ext x97
  have m83 := m83.ext x97
  have xW := Ext.trans xW x97
  refine WK.then_normal (k95 _ _ ?_)
  refine WC.sub [(0, _)] ⟨rfl, trivial⟩ ?_
  refine WC.ret ?_
  clear k1 k2 k17 k32 k47 k62 k73 k84 k95
  refine WK.ret [_] rfl ⟨rfl, trivial⟩ ?_
  exact ⟨ret1 (vb (by kernel_rfl)), xW⟩
end LawA

end Go.Proofs.Ytjbbpcgegemoiaa
