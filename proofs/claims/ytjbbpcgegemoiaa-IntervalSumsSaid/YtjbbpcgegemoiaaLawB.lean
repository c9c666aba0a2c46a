/- The walks of the laws of chapter 3, second part. Conditions: what each theorem states. -/
import Derived.Test.YtjbbpcgegemoiaaAwake
namespace Go.Proofs.Ytjbbpcgegemoiaa
open Go Go.Eng Go.RowKit
set_option linter.unusedVariables false
namespace LawA
open NumF
namespace B
theorem ti3 : TI Try.prog 3 (.int .i64 0) 1 8 := TI.mk (by kernel_rfl)
theorem ti23 : TI Try.prog 23 (.agg #[.int .i64 0, .int .i64 0]) 2 16 := TI.mk (by kernel_rfl)
theorem has9 : Has Try.prog 9 := ⟨_, Try.func9, rfl, by kernel_rfl⟩
theorem has11 : Has Try.prog 11 := ⟨_, Try.func11, rfl, by kernel_rfl⟩
theorem has13 : Has Try.prog 13 := ⟨_, Try.func13, rfl, by kernel_rfl⟩
theorem has15 : Has Try.prog 15 := ⟨_, Try.func15, rfl, by kernel_rfl⟩
theorem has17 : Has Try.prog 17 := ⟨_, Try.func17, rfl, by kernel_rfl⟩
theorem has19 : Has Try.prog 19 := ⟨_, Try.func19, rfl, by kernel_rfl⟩
theorem has21 : Has Try.prog 21 := ⟨_, Try.func21, rfl, by kernel_rfl⟩
theorem pl23 : PL Try.prog 23 [.int .i64 0, .int .i64 0] [(0, 1), (1, 1)] := PL.mk (zero := [.int .i64 0, .int .i64 0]) ti23 Try.underlying23 (by kernel_rfl)
theorem eqg23 : Try.prog.eqGuardType Try.prog.depth 23 = false := by kernel_rfl
theorem eq23 (a0 : Int) (a1 : Int) (b0 : Int) (b1 : Int) (w : World) : (Op.equalIn 10000 23 (.agg #[.int .i64 a0, .int .i64 a1]) (.agg #[.int .i64 b0, .int .i64 b1])).run Try.prog w = .ok ((a0 == b0) && (a1 == b1)) w := by
  go_simp
  (repeat' split) <;> simp_all
theorem IntervalMembers_any (a0 a1 b0 b1 n : Int) (w : World) :
    Calls Try.prog 5 #[.agg #[.int .i64 a0, .int .i64 a1], .agg #[.int .i64 b0, .int .i64 b1], .int .i64 n] w fun e w' => e = .returned (.bool true) ∧ Ext w w' := by
  have xW := Ext.refl w
  refine calls_of_WC (args := [.agg #[.int .i64 a0, .int .i64 a1], .agg #[.int .i64 b0, .int .i64 b1], .int .i64 n]) Try.func5 rfl rfl (ble rfl) ?_
  refine WC.seq (fun K1 k1 => ?_)
  refine WC.region rfl ?_
  refine WL.box rfl (blt rfl) rfl rfl rfl rfl ?_
  intro g2 w3 e4 x5 m6
  have o_g2 := own_new xW e4
  have xW := Ext.trans xW x5
  refine WL.box rfl (blt rfl) rfl rfl rfl rfl ?_
  intro g7 w8 e9 x10 m11
  have n_g2_g7 := ne_new m6 e9
  have o_g7 := own_new xW e9
  have m6 := m6.ext x10
  have xW := Ext.trans xW x10
  refine WL.yld rfl (blt rfl) rfl (Y.assign rfl rfl) ?_
  refine WL.nil ?_
  refine WK.then_normal (k1 _ _ ?_)
  refine WC.sub [(2, _), (3, _), (4, _)] ⟨rfl, rfl, rfl, trivial⟩ ?_
  refine WC.seq (fun K12 k12 => ?_)
  refine WC.region rfl ?_
  refine WL.yld rfl (blt rfl) rfl (Y.loadS rfl Try.underlying23 rfl ti23 rfl (Blk.row_eq m6)) ?_
  refine WL.yld rfl (blt rfl) rfl (Y.loadS rfl Try.underlying23 rfl ti23 rfl (Blk.row_eq m11)) ?_
  refine WL.call rfl (blt rfl) rfl rfl rfl has9 rfl (meet_any _ _ _ _ _) ?_
  rintro _ w13 ⟨rfl, x14⟩
  refine ⟨_, rfl, ?_⟩
  have m6 := m6.ext x14
  have m11 := m11.ext x14
  have xW := Ext.trans xW x14
  refine WL.yld rfl (blt rfl) rfl (Y.move rfl rfl) ?_
  refine WL.yld rfl (blt rfl) rfl (Y.extract rfl rfl rfl) ?_
  refine WL.yld rfl (blt rfl) rfl (Y.extract rfl rfl rfl) ?_
  refine WL.alloc rfl (blt rfl) rfl rfl ti23 rfl ?_
  intro g15 w16 e17 x18 m19
  have n_g2_g15 := ne_new m6 e17
  have n_g7_g15 := ne_new m11 e17
  have o_g15 := own_new xW e17
  have m6 := m6.ext x18
  have m11 := m11.ext x18
  have xW := Ext.trans xW x18
  refine WL.store (cs' := [_, _]) rfl rfl rfl rfl rfl rfl ti23 m19 (ble rfl) rfl rfl (fun w20 on21 m22 => ?_)
  have m6 := m6.only n_g2_g15 on21
  have m11 := m11.only n_g7_g15 on21
  have xW := Ext.only xW on21 o_g15
  refine WL.yld rfl (blt rfl) rfl (Y.assign rfl rfl) ?_
  refine WL.nil ?_
  refine WK.then_normal (k12 _ _ ?_)
  refine WC.sub [(2, _), (3, _), (4, _), (7, _), (8, _)] ⟨rfl, rfl, rfl, rfl, rfl, trivial⟩ ?_
  refine WC.seq (fun K23 k23 => ?_)
  refine WC.region rfl ?_
  refine WL.yld rfl (blt rfl) rfl (Y.loadS rfl Try.underlying23 rfl ti23 rfl (Blk.row_eq m11)) ?_
  refine WL.yld rfl (blt rfl) rfl (Y.loadS rfl Try.underlying23 rfl ti23 rfl (Blk.row_eq m6)) ?_
  refine WL.call rfl (blt rfl) rfl rfl rfl has9 rfl (meet_any _ _ _ _ _) ?_
  rintro _ w24 ⟨rfl, x25⟩
  refine ⟨_, rfl, ?_⟩
  have m6 := m6.ext x25
  have m11 := m11.ext x25
  have m22 := m22.ext x25
  have xW := Ext.trans xW x25
  refine WL.yld rfl (blt rfl) rfl (Y.move rfl rfl) ?_
  refine WL.yld rfl (blt rfl) rfl (Y.extract rfl rfl rfl) ?_
  refine WL.yld rfl (blt rfl) rfl (Y.extract rfl rfl rfl) ?_
  refine WL.alloc rfl (blt rfl) rfl rfl ti23 rfl ?_
  intro g26 w27 e28 x29 m30
  have n_g2_g26 := ne_new m6 e28
  have n_g7_g26 := ne_new m11 e28
  have n_g15_g26 := ne_new m22 e28
  have o_g26 := own_new xW e28
  have m6 := m6.ext x29
  have m11 := m11.ext x29
  have m22 := m22.ext x29
  have xW := Ext.trans xW x29
  refine WL.store (cs' := [_, _]) rfl rfl rfl rfl rfl rfl ti23 m30 (ble rfl) rfl rfl (fun w31 on32 m33 => ?_)
  have m6 := m6.only n_g2_g26 on32
  have m11 := m11.only n_g7_g26 on32
  have m22 := m22.only n_g15_g26 on32
  have xW := Ext.only xW on32 o_g26
  refine WL.yld rfl (blt rfl) rfl (Y.assign rfl rfl) ?_
  refine WL.nil ?_
  refine WK.then_normal (k23 _ _ ?_)
  refine WC.sub [(2, _), (3, _), (4, _), (7, _), (8, _), (9, _), (10, _)] ⟨rfl, rfl, rfl, rfl, rfl, rfl, rfl, trivial⟩ ?_
  refine WC.seq (fun K34 k34 => ?_)
  refine WC.region rfl ?_
  refine WL.yld rfl (blt rfl) rfl (Y.loadS rfl Try.underlying23 rfl ti23 rfl (Blk.row_eq m6)) ?_
  refine WL.yld rfl (blt rfl) rfl (Y.loadS rfl Try.underlying23 rfl ti23 rfl (Blk.row_eq m11)) ?_
  refine WL.call rfl (blt rfl) rfl rfl rfl has15 rfl (hull_any _ _ _ _ _) ?_
  rintro _ w35 ⟨rfl, x36⟩
  refine ⟨_, rfl, ?_⟩
  have m6 := m6.ext x36
  have m11 := m11.ext x36
  have m22 := m22.ext x36
  have m33 := m33.ext x36
  have xW := Ext.trans xW x36
  refine WL.alloc rfl (blt rfl) rfl rfl ti23 rfl ?_
  intro g37 w38 e39 x40 m41
  have n_g2_g37 := ne_new m6 e39
  have n_g7_g37 := ne_new m11 e39
  have n_g15_g37 := ne_new m22 e39
  have n_g26_g37 := ne_new m33 e39
  have o_g37 := own_new xW e39
  have m6 := m6.ext x40
  have m11 := m11.ext x40
  have m22 := m22.ext x40
  have m33 := m33.ext x40
  have xW := Ext.trans xW x40
  refine WL.store (cs' := [_, _]) rfl rfl rfl rfl rfl rfl ti23 m41 (ble rfl) rfl rfl (fun w42 on43 m44 => ?_)
  have m6 := m6.only n_g2_g37 on43
  have m11 := m11.only n_g7_g37 on43
  have m22 := m22.only n_g15_g37 on43
  have m33 := m33.only n_g26_g37 on43
  have xW := Ext.only xW on43 o_g37
  refine WL.nil ?_
  refine WK.then_normal (k34 _ _ ?_)
  refine WC.sub [(2, _), (3, _), (4, _), (7, _), (8, _), (9, _), (10, _), (11, _)] ⟨rfl, rfl, rfl, rfl, rfl, rfl, rfl, rfl, trivial⟩ ?_
  refine WC.seq (fun K45 k45 => ?_)
  refine WC.region rfl ?_
  refine WL.yld rfl (blt rfl) rfl (Y.loadS rfl Try.underlying23 rfl ti23 rfl (Blk.row_eq m6)) ?_
  refine WL.yld rfl (blt rfl) rfl (Y.move rfl rfl) ?_
  refine WL.call rfl (blt rfl) rfl rfl rfl has19 rfl (within_any _ _ _ _) ?_
  rintro _ w46 ⟨rfl, x47⟩
  refine ⟨_, rfl, ?_⟩
  have m6 := m6.ext x47
  have m11 := m11.ext x47
  have m22 := m22.ext x47
  have m33 := m33.ext x47
  have m44 := m44.ext x47
  have xW := Ext.trans xW x47
  refine WL.yld rfl (blt rfl) rfl (Y.move rfl rfl) ?_
  refine WL.yldG rfl (blt rfl) rfl rfl rfl (fun hb => Y.loadS rfl Try.underlying23 rfl ti23 rfl (Blk.row_eq m11)) ?_
  refine WL.yldG rfl (blt rfl) rfl rfl rfl (fun hb => Y.move rfl rfl) ?_
  refine WL.callG rfl (blt rfl) rfl rfl rfl rfl rfl has19 (fun hb => (evs_cons (evg rfl hb) (evs_cons (evg rfl hb) evs_nil))) (fun hb => within_any _ _ _ _) (fun w48 x49 => ?_)
  have m6 := m6.ext x49
  have m11 := m11.ext x49
  have m22 := m22.ext x49
  have m33 := m33.ext x49
  have m44 := m44.ext x49
  have xW := Ext.trans xW x49
  refine WL.yld rfl (blt rfl) rfl (Y.and rfl rfl rfl rfl) ?_
  refine WL.yld rfl (blt rfl) rfl (Y.assign rfl rfl) ?_
  refine WL.nil ?_
  refine WK.then_normal (k45 _ _ ?_)
  refine WC.sub [(2, _), (3, _), (4, _), (7, _), (8, _), (9, _), (10, _), (11, _), (12, _)] ⟨rfl, rfl, rfl, rfl, rfl, rfl, rfl, rfl, rfl, trivial⟩ ?_
  refine WC.seq (fun K50 k50 => ?_)
  refine WC.seq (fun K51 k51 => ?_)
  refine WC.regionD (by kernel_rfl) (by kernel_rfl) rfl ?_
  refine WQ.yld rfl (blt rfl) rfl (Y.loadS rfl Try.underlying23 rfl ti23 rfl (Blk.row_ext m22)) ?_
  refine WQ.yld rfl (blt rfl) rfl (Y.loadS rfl Try.underlying23 rfl ti23 rfl (Blk.row_ext m33)) ?_
  refine WQ.yld rfl (blt rfl) rfl (Y.neqS rfl eqg23 (eq23 _ _ _ _) rfl rfl) ?_
  refine WQ.yld rfl (blt rfl) rfl (Y.move rfl rfl) ?_
  refine WQ.yldG rfl (blt rfl) rfl rfl rfl (fun hb => Y.move rfl rfl) ?_
  refine WQ.yldG rfl (blt rfl) rfl rfl rfl (fun hb => Y.move rfl rfl) ?_
  refine WQ.yldG rfl (blt rfl) rfl rfl rfl (fun hb => Y.neqB rfl Try.underlying4 (evg rfl hb) (evg rfl hb)) ?_
  refine WQ.yld rfl (blt rfl) rfl (Y.or rfl rfl rfl rfl) ?_
  refine WQ.yld rfl (blt rfl) rfl (Y.move rfl rfl) ?_
  refine WQ.yldG rfl (blt rfl) rfl rfl rfl (fun hb => Y.loadS rfl Try.underlying23 rfl ti23 rfl (Blk.row_ext m44)) ?_
  refine WQ.yldG rfl (blt rfl) rfl rfl rfl (fun hb => Y.loadS rfl Try.underlying23 rfl ti23 rfl (Blk.row_ext m11)) ?_
  refine WQ.yldG rfl (blt rfl) rfl rfl rfl (fun hb => Y.loadS rfl Try.underlying23 rfl ti23 rfl (Blk.row_ext m6)) ?_
  refine WQ.callG rfl (blt rfl) rfl rfl rfl rfl rfl has15 (fun hb => (evs_cons (evg rfl hb) (evs_cons (evg rfl hb) evs_nil))) (fun hb w hw => calls_ext hw (hull_any _ _ _ _ _)) ?_
  refine WQ.yldG rfl (blt rfl) rfl rfl rfl (fun hb => Y.neqS rfl eqg23 (eq23 _ _ _ _) (evg rfl hb) (evg rfl hb)) ?_
  refine WQ.yld rfl (blt rfl) rfl (Y.or rfl rfl rfl rfl) ?_
  refine WQ.yld rfl (blt rfl) rfl (Y.move rfl rfl) ?_
  refine WQ.yldG rfl (blt rfl) rfl rfl rfl (fun hb => Y.move rfl rfl) ?_
  refine WQ.yldG rfl (blt rfl) rfl rfl rfl (fun hb => Y.move rfl rfl) ?_
  refine WQ.yldG rfl (blt rfl) rfl rfl rfl (fun hb => Y.move rfl (evg rfl hb)) ?_
  refine WQ.yldGs [(_, _)] rfl (blt rfl) rfl rfl rfl (fun hb => Y.loadS rfl Try.underlying23 rfl ti23 rfl (Blk.row_ext m22)) ?_
  refine WQ.yldGs [(_, _)] rfl (blt rfl) rfl rfl rfl (fun hb => Y.move rfl rfl) ?_
  refine WQ.callGs [(_, _)] rfl (blt rfl) rfl rfl rfl rfl rfl has19 (fun hb => (evs_cons (evg (evg rfl hb.1) hb.2.1) (evs_cons (evg (evg rfl hb.1) hb.2.1) evs_nil))) (fun hb w hw => calls_ext hw (within_any _ _ _ _)) ?_
  refine WQ.yldG rfl (blt rfl) rfl rfl rfl (fun hb => Y.and rfl (evg rfl hb) (evg rfl hb) rfl) ?_
  refine WQ.yldG rfl (blt rfl) rfl rfl rfl (fun hb => Y.neqB rfl Try.underlying4 (evg rfl hb) (evg rfl hb)) ?_
  refine WQ.yld rfl (blt rfl) rfl (Y.or rfl rfl rfl rfl) ?_
  refine WQ.done (fun w52 x53 => ?_)
  have m6 := m6.ext x53
  have m11 := m11.ext x53
  have m22 := m22.ext x53
  have m33 := m33.ext x53
  have m44 := m44.ext x53
  have xW := Ext.trans xW x53
  refine WK.then_normal (k51 _ _ ?_)
  refine WC.sub [(2, _), (3, _), (4, _), (11, _), (61, _)] ⟨rfl, rfl, rfl, rfl, rfl, trivial⟩ ?_
  refine WC.cond rfl (fun h54 => ?_) (fun h54 => ?_)
  ·
    clear k1 k12 k23 k34 k45 k50 k51
    rw [Iv.meet_within, Iv.meet_comm (b0, b1) (a0, a1), Iv.hull_comm (b0, b1) (a0, a1)] at h54
    simp at h54
  ·
    refine WC.skip ?_
    refine WK.then_normal (k50 _ _ ?_)
    refine WC.sub [(2, _), (3, _), (4, _), (11, _)] ⟨rfl, rfl, rfl, rfl, trivial⟩ ?_
    refine WC.seq (fun K55 k55 => ?_)
    refine WC.seq (fun K56 k56 => ?_)
    refine WC.region rfl ?_
    refine WL.yld rfl (blt rfl) rfl (Y.loadS rfl Try.underlying23 rfl ti23 rfl (Blk.row_eq m6)) ?_
    refine WL.yld rfl (blt rfl) rfl (Y.move rfl rfl) ?_
    refine WL.call rfl (blt rfl) rfl rfl rfl has19 rfl (within_any _ _ _ _) ?_
    rintro _ w57 ⟨rfl, x58⟩
    refine ⟨_, rfl, ?_⟩
    have m6 := m6.ext x58
    have m11 := m11.ext x58
    have m44 := m44.ext x58
    have xW := Ext.trans xW x58
    refine WL.yld rfl (blt rfl) rfl (Y.move rfl rfl) ?_
    refine WL.yldG rfl (blt rfl) rfl rfl rfl (fun hb => Y.loadS rfl Try.underlying23 rfl ti23 rfl (Blk.row_eq m11)) ?_
    refine WL.yldG rfl (blt rfl) rfl rfl rfl (fun hb => Y.move rfl rfl) ?_
    refine WL.callG rfl (blt rfl) rfl rfl rfl rfl rfl has19 (fun hb => (evs_cons (evg rfl hb) (evs_cons (evg rfl hb) evs_nil))) (fun hb => within_any _ _ _ _) (fun w59 x60 => ?_)
    have m6 := m6.ext x60
    have m11 := m11.ext x60
    have m44 := m44.ext x60
    have xW := Ext.trans xW x60
    refine WL.yld rfl (blt rfl) rfl (Y.or rfl rfl rfl rfl) ?_
    refine WL.yld rfl (blt rfl) rfl (Y.move rfl rfl) ?_
    refine WL.yldG rfl (blt rfl) rfl rfl rfl (fun hb => Y.loadS rfl Try.underlying23 rfl ti23 rfl (Blk.row_eq m44)) ?_
    refine WL.yldG rfl (blt rfl) rfl rfl rfl (fun hb => Y.move rfl rfl) ?_
    refine WL.callG rfl (blt rfl) rfl rfl rfl rfl rfl has19 (fun hb => (evs_cons (evg rfl hb) (evs_cons (evg rfl hb) evs_nil))) (fun hb => within_any _ _ _ _) (fun w61 x62 => ?_)
    have m6 := m6.ext x62
    have m11 := m11.ext x62
    have m44 := m44.ext x62
    have xW := Ext.trans xW x62
    refine WL.yldG rfl (blt rfl) rfl rfl rfl (fun hb => Y.not rfl (evg rfl hb)) ?_
    refine WL.yld rfl (blt rfl) rfl (Y.and rfl rfl rfl rfl) ?_
    refine WL.nil ?_
    refine WK.then_normal (k56 _ _ ?_)
    refine WC.sub [(3, _), (4, _), (11, _), (75, _)] ⟨rfl, rfl, rfl, rfl, trivial⟩ ?_
    refine WC.cond rfl (fun h63 => ?_) (fun h63 => ?_)
    ·
      clear k1 k12 k23 k34 k45 k50 k51 k55 k56
      simp only [Bool.and_eq_true, Bool.not_eq_true'] at h63
      exact Bool.noConfusion ((Iv.hull_within _ _ _ h63.1).symm.trans h63.2)
    ·
      refine WC.skip ?_
      refine WK.then_normal (k55 _ _ ?_)
      refine WC.sub [(3, _), (4, _), (11, _)] ⟨rfl, rfl, rfl, trivial⟩ ?_
      refine WC.seq (fun K64 k64 => ?_)
      refine WC.region rfl ?_
      refine WL.yld rfl (blt rfl) rfl (Y.fieldAddr rfl Try.underlying23 rfl ti3 (by decide) rfl) ?_
      refine WL.yld rfl (blt rfl) rfl (Y.load1 rfl Try.underlying3 rfl rfl (Blk.at_eq m44 rfl)) ?_
      refine WL.yld rfl (blt rfl) rfl (Y.fieldAddr rfl Try.underlying23 rfl ti3 (by decide) rfl) ?_
      refine WL.yld rfl (blt rfl) rfl (Y.load1 rfl Try.underlying3 rfl rfl (Blk.at_eq m6 rfl)) ?_
      refine WL.yld rfl (blt rfl) rfl (Y.eql rfl rfl rfl) ?_
      refine WL.yld rfl (blt rfl) rfl (Y.move rfl rfl) ?_
      refine WL.yldG rfl (blt rfl) rfl rfl rfl (fun hb => Y.fieldAddr rfl Try.underlying23 rfl ti3 (by decide) rfl) ?_
      refine WL.yldG rfl (blt rfl) rfl rfl rfl (fun hb => Y.load1 rfl Try.underlying3 rfl (evg rfl hb) (Blk.at_eq m44 rfl)) ?_
      refine WL.yldG rfl (blt rfl) rfl rfl rfl (fun hb => Y.fieldAddr rfl Try.underlying23 rfl ti3 (by decide) rfl) ?_
      refine WL.yldG rfl (blt rfl) rfl rfl rfl (fun hb => Y.load1 rfl Try.underlying3 rfl (evg rfl hb) (Blk.at_eq m11 rfl)) ?_
      refine WL.yldG rfl (blt rfl) rfl rfl rfl (fun hb => Y.eql rfl (evg rfl hb) (evg rfl hb)) ?_
      refine WL.yld rfl (blt rfl) rfl (Y.or rfl rfl rfl rfl) ?_
      refine WL.yld rfl (blt rfl) rfl (Y.move rfl rfl) ?_
      refine WL.yldG rfl (blt rfl) rfl rfl rfl (fun hb => Y.fieldAddr rfl Try.underlying23 rfl ti3 (by decide) rfl) ?_
      refine WL.yldG rfl (blt rfl) rfl rfl rfl (fun hb => Y.load1 rfl Try.underlying3 rfl (evg rfl hb) (Blk.at_eq m44 rfl)) ?_
      refine WL.yldG rfl (blt rfl) rfl rfl rfl (fun hb => Y.fieldAddr rfl Try.underlying23 rfl ti3 (by decide) rfl) ?_
      refine WL.yldG rfl (blt rfl) rfl rfl rfl (fun hb => Y.load1 rfl Try.underlying3 rfl (evg rfl hb) (Blk.at_eq m6 rfl)) ?_
      refine WL.yldG rfl (blt rfl) rfl rfl rfl (fun hb => Y.eql rfl (evg rfl hb) (evg rfl hb)) ?_
      refine WL.yldG rfl (blt rfl) rfl rfl rfl (fun hb => Y.move rfl (evg rfl hb)) ?_
      refine WL.yldGs [(_, _)] rfl (blt rfl) rfl rfl rfl (fun hb => Y.fieldAddr rfl Try.underlying23 rfl ti3 (by decide) rfl) ?_
      refine WL.yldGs [(_, _)] rfl (blt rfl) rfl rfl rfl (fun hb => Y.load1 rfl Try.underlying3 rfl (evg (evg rfl hb.1) hb.2.1) (Blk.at_eq m44 rfl)) ?_
      refine WL.yldGs [(_, _)] rfl (blt rfl) rfl rfl rfl (fun hb => Y.fieldAddr rfl Try.underlying23 rfl ti3 (by decide) rfl) ?_
      refine WL.yldGs [(_, _)] rfl (blt rfl) rfl rfl rfl (fun hb => Y.load1 rfl Try.underlying3 rfl (evg (evg rfl hb.1) hb.2.1) (Blk.at_eq m11 rfl)) ?_
      refine WL.yldGs [(_, _)] rfl (blt rfl) rfl rfl rfl (fun hb => Y.eql rfl (evg (evg rfl hb.1) hb.2.1) (evg (evg rfl hb.1) hb.2.1)) ?_
      refine WL.yldG rfl (blt rfl) rfl rfl rfl (fun hb => Y.or rfl (evg rfl hb) rfl (evg rfl hb)) ?_
      refine WL.yld rfl (blt rfl) rfl (Y.and rfl rfl rfl rfl) ?_
      refine WL.yld rfl (blt rfl) rfl (Y.assign rfl rfl) ?_
      refine WL.nil ?_
      refine WK.then_normal (k64 _ _ ?_)
      refine WC.sub [(3, _), (4, _), (11, _), (13, _)] ⟨rfl, rfl, rfl, rfl, trivial⟩ ?_
      refine WC.seq (fun K65 k65 => ?_)
      refine WC.region rfl ?_
      refine WL.yld rfl (blt rfl) rfl (Y.move rfl rfl) ?_
      refine WL.yld rfl (blt rfl) rfl (Y.move rfl rfl) ?_
      refine WL.yldG rfl (blt rfl) rfl rfl rfl (fun hb => Y.loadS rfl Try.underlying23 rfl ti23 rfl (Blk.row_eq m6)) ?_
      refine WL.callG rfl (blt rfl) rfl rfl rfl rfl rfl has13 (fun hb => (evs_cons (evg rfl hb) evs_nil)) (fun hb => valid_any _ _ _) (fun w66 x67 => ?_)
      have m6 := m6.ext x67
      have m11 := m11.ext x67
      have m44 := m44.ext x67
      have xW := Ext.trans xW x67
      refine WL.yldG rfl (blt rfl) rfl rfl rfl (fun hb => Y.not rfl (evg rfl hb)) ?_
      refine WL.yldG rfl (blt rfl) rfl rfl rfl (fun hb => Y.move rfl (evg rfl hb)) ?_
      refine WL.yldGs [(_, _)] rfl (blt rfl) rfl rfl rfl (fun hb => Y.loadS rfl Try.underlying23 rfl ti23 rfl (Blk.row_eq m11)) ?_
      refine WL.callGs [(_, _)] rfl (blt rfl) rfl rfl rfl rfl rfl has13 (fun hb => (evs_cons (evg (evg rfl hb.1) hb.2.1) evs_nil)) (fun hb => valid_any _ _ _) (fun w68 x69 => ?_)
      have m6 := m6.ext x69
      have m11 := m11.ext x69
      have m44 := m44.ext x69
      have xW := Ext.trans xW x69
      refine WL.yldGs [(_, _)] rfl (blt rfl) rfl rfl rfl (fun hb => Y.not rfl (evg (evg rfl hb.1) hb.2.1)) ?_
      refine WL.yldG rfl (blt rfl) rfl rfl rfl (fun hb => Y.and rfl (evg rfl hb) (evg rfl hb) rfl) ?_
      refine WL.yldG rfl (blt rfl) rfl rfl rfl (fun hb => Y.move rfl (evg rfl hb)) ?_
      refine WL.yldGs [(_, _)] rfl (blt rfl) rfl rfl rfl (fun hb => Y.loadS rfl Try.underlying23 rfl ti23 rfl (Blk.row_eq m44)) ?_
      refine WL.yldGs [(_, _)] rfl (blt rfl) rfl rfl rfl (fun hb => Y.build (cells := [_, _]) rfl pl23 rfl rfl) ?_
      refine WL.yldGs [(_, _)] rfl (blt rfl) rfl rfl rfl (fun hb => Y.eqlS rfl eqg23 (eq23 _ _ _ _) (evg (evg rfl hb.1) hb.2.1) (evg (evg rfl hb.1) hb.2.1)) ?_
      refine WL.yldG rfl (blt rfl) rfl rfl rfl (fun hb => Y.and rfl (evg rfl hb) (evg rfl hb) rfl) ?_
      refine WL.yld rfl (blt rfl) rfl (Y.or rfl rfl rfl rfl) ?_
      refine WL.yld rfl (blt rfl) rfl (Y.move rfl rfl) ?_
      refine WL.callG rfl (blt rfl) rfl rfl rfl rfl rfl has21 (fun hb => rfl) (fun hb => awake_any _) (fun w70 x71 => ?_)
      have m6 := m6.ext x71
      have m11 := m11.ext x71
      have m44 := m44.ext x71
      have xW := Ext.trans xW x71
      refine WL.yld rfl (blt rfl) rfl (Y.and rfl rfl rfl rfl) ?_
      refine WL.yld rfl (blt rfl) rfl (Y.assign rfl rfl) ?_
      refine WL.nil ?_
      refine WK.then_normal (k65 _ _ ?_)
      refine WC.sub [(6, _)] ⟨rfl, trivial⟩ ?_
      refine WC.ret ?_
      clear k1 k12 k23 k34 k45 k50 k51 k55 k56 k64 k65
      refine WK.ret [_] rfl ⟨rfl, trivial⟩ ?_
      refine ⟨ret1 (vb ?_), xW⟩
      have e := Iv.hull_ends (a0, a1) (b0, b1)
      dsimp only at e
      rcases e with ⟨e1 | e1, e2 | e2⟩ | ⟨e1, e2, e3⟩
      · simp [e1, e2]
      · simp [e1, e2]
      · simp [e1, e2]
      · simp [e1, e2]
      · simp [e1, e2, e3]
theorem IntervalSums_any (a0 a1 b0 b1 n m : Int) (w : World) :
    Calls Try.prog 6 #[.agg #[.int .i64 a0, .int .i64 a1], .agg #[.int .i64 b0, .int .i64 b1], .agg #[.int .i64 n, .int .i64 m]] w fun e w' => e = .returned (.bool true) ∧ Ext w w' := by
  have xW := Ext.refl w
  refine calls_of_WC (args := [.agg #[.int .i64 a0, .int .i64 a1], .agg #[.int .i64 b0, .int .i64 b1], .agg #[.int .i64 n, .int .i64 m]]) Try.func6 rfl rfl (ble rfl) ?_
  refine WC.seq (fun K1 k1 => ?_)
  refine WC.region rfl ?_
  refine WL.box rfl (blt rfl) rfl rfl rfl rfl ?_
  intro g2 w3 e4 x5 m6
  have o_g2 := own_new xW e4
  have xW := Ext.trans xW x5
  refine WL.box rfl (blt rfl) rfl rfl rfl rfl ?_
  intro g7 w8 e9 x10 m11
  have n_g2_g7 := ne_new m6 e9
  have o_g7 := own_new xW e9
  have m6 := m6.ext x10
  have xW := Ext.trans xW x10
  refine WL.box rfl (blt rfl) rfl rfl rfl rfl ?_
  intro g12 w13 e14 x15 m16
  have n_g2_g12 := ne_new m6 e14
  have n_g7_g12 := ne_new m11 e14
  have o_g12 := own_new xW e14
  have m6 := m6.ext x15
  have m11 := m11.ext x15
  have xW := Ext.trans xW x15
  refine WL.yld rfl (blt rfl) rfl (Y.assign rfl rfl) ?_
  refine WL.nil ?_
  refine WK.then_normal (k1 _ _ ?_)
  refine WC.sub [(3, _), (4, _), (5, _)] ⟨rfl, rfl, rfl, trivial⟩ ?_
  refine WC.seq (fun K17 k17 => ?_)
  refine WC.regionD (by kernel_rfl) (by kernel_rfl) rfl ?_
  refine WQ.yld rfl (blt rfl) rfl (Y.indexArr rfl Try.underlying34 ti3 rfl rfl (by decide)) ?_
  refine WQ.yld rfl (blt rfl) rfl (Y.load1 rfl Try.underlying3 rfl rfl (Blk.at_ext m16 rfl)) ?_
  refine WQ.yld rfl (blt rfl) rfl (Y.indexArr rfl Try.underlying34 ti3 rfl rfl (by decide)) ?_
  refine WQ.yld rfl (blt rfl) rfl (Y.load1 rfl Try.underlying3 rfl rfl (Blk.at_ext m16 rfl)) ?_
  refine WQ.yld rfl (blt rfl) rfl (Y.assign rfl rfl) ?_
  refine WQ.yld rfl (blt rfl) rfl (Y.assign rfl rfl) ?_
  refine WQ.done (fun w18 x19 => ?_)
  have m6 := m6.ext x19
  have m11 := m11.ext x19
  have m16 := m16.ext x19
  have xW := Ext.trans xW x19
  refine WK.then_normal (k17 _ _ ?_)
  refine WC.sub [(3, _), (4, _), (7, _), (8, _)] ⟨rfl, rfl, rfl, rfl, trivial⟩ ?_
  refine WC.seq (fun K20 k20 => ?_)
  refine WC.region rfl ?_
  refine WL.yld rfl (blt rfl) rfl (Y.loadS rfl Try.underlying23 rfl ti23 rfl (Blk.row_eq m6)) ?_
  refine WL.yld rfl (blt rfl) rfl (Y.loadS rfl Try.underlying23 rfl ti23 rfl (Blk.row_eq m11)) ?_
  refine WL.call rfl (blt rfl) rfl rfl rfl has11 rfl (add_any _ _ _ _ _) ?_
  rintro _ w21 ⟨rfl, x22⟩
  refine ⟨_, rfl, ?_⟩
  have m6 := m6.ext x22
  have m11 := m11.ext x22
  have xW := Ext.trans xW x22
  refine WL.yld rfl (blt rfl) rfl (Y.move rfl rfl) ?_
  refine WL.yld rfl (blt rfl) rfl (Y.extract rfl rfl rfl) ?_
  refine WL.yld rfl (blt rfl) rfl (Y.extract rfl rfl rfl) ?_
  refine WL.alloc rfl (blt rfl) rfl rfl ti23 rfl ?_
  intro g23 w24 e25 x26 m27
  have n_g2_g23 := ne_new m6 e25
  have n_g7_g23 := ne_new m11 e25
  have o_g23 := own_new xW e25
  have m6 := m6.ext x26
  have m11 := m11.ext x26
  have xW := Ext.trans xW x26
  refine WL.store (cs' := [_, _]) rfl rfl rfl rfl rfl rfl ti23 m27 (ble rfl) rfl rfl (fun w28 on29 m30 => ?_)
  have m6 := m6.only n_g2_g23 on29
  have m11 := m11.only n_g7_g23 on29
  have xW := Ext.only xW on29 o_g23
  refine WL.yld rfl (blt rfl) rfl (Y.assign rfl rfl) ?_
  refine WL.nil ?_
  refine WK.then_normal (k20 _ _ ?_)
  refine WC.sub [(3, _), (4, _), (7, _), (8, _), (9, _), (10, _)] ⟨rfl, rfl, rfl, rfl, rfl, rfl, trivial⟩ ?_
  refine WC.seq (fun K31 k31 => ?_)
  refine WC.region rfl ?_
  refine WL.yld rfl (blt rfl) rfl (Y.loadS rfl Try.underlying23 rfl ti23 rfl (Blk.row_eq m11)) ?_
  refine WL.yld rfl (blt rfl) rfl (Y.loadS rfl Try.underlying23 rfl ti23 rfl (Blk.row_eq m6)) ?_
  refine WL.call rfl (blt rfl) rfl rfl rfl has11 rfl (add_any _ _ _ _ _) ?_
  rintro _ w32 ⟨rfl, x33⟩
  refine ⟨_, rfl, ?_⟩
  have m6 := m6.ext x33
  have m11 := m11.ext x33
  have m30 := m30.ext x33
  have xW := Ext.trans xW x33
  refine WL.yld rfl (blt rfl) rfl (Y.move rfl rfl) ?_
  refine WL.yld rfl (blt rfl) rfl (Y.extract rfl rfl rfl) ?_
  refine WL.yld rfl (blt rfl) rfl (Y.extract rfl rfl rfl) ?_
  refine WL.alloc rfl (blt rfl) rfl rfl ti23 rfl ?_
  intro g34 w35 e36 x37 m38
  have n_g2_g34 := ne_new m6 e36
  have n_g7_g34 := ne_new m11 e36
  have n_g23_g34 := ne_new m30 e36
  have o_g34 := own_new xW e36
  have m6 := m6.ext x37
  have m11 := m11.ext x37
  have m30 := m30.ext x37
  have xW := Ext.trans xW x37
  refine WL.store (cs' := [_, _]) rfl rfl rfl rfl rfl rfl ti23 m38 (ble rfl) rfl rfl (fun w39 on40 m41 => ?_)
  have m6 := m6.only n_g2_g34 on40
  have m11 := m11.only n_g7_g34 on40
  have m30 := m30.only n_g23_g34 on40
  have xW := Ext.only xW on40 o_g34
  refine WL.yld rfl (blt rfl) rfl (Y.assign rfl rfl) ?_
  refine WL.nil ?_
  refine WK.then_normal (k31 _ _ ?_)
  refine WC.sub [(3, _), (4, _), (7, _), (8, _), (9, _), (10, _), (11, _), (12, _)] ⟨rfl, rfl, rfl, rfl, rfl, rfl, rfl, rfl, trivial⟩ ?_
  refine WC.seq (fun K42 k42 => ?_)
  refine WC.seq (fun K43 k43 => ?_)
  refine WC.region rfl ?_
  refine WL.yld rfl (blt rfl) rfl (Y.loadS rfl Try.underlying23 rfl ti23 rfl (Blk.row_eq m30)) ?_
  refine WL.yld rfl (blt rfl) rfl (Y.loadS rfl Try.underlying23 rfl ti23 rfl (Blk.row_eq m41)) ?_
  refine WL.yld rfl (blt rfl) rfl (Y.neqS rfl eqg23 (eq23 _ _ _ _) rfl rfl) ?_
  refine WL.yld rfl (blt rfl) rfl (Y.move rfl rfl) ?_
  refine WL.yldG rfl (blt rfl) rfl rfl rfl (fun hb => Y.move rfl rfl) ?_
  refine WL.yldG rfl (blt rfl) rfl rfl rfl (fun hb => Y.move rfl rfl) ?_
  refine WL.yldG rfl (blt rfl) rfl rfl rfl (fun hb => Y.neqB rfl Try.underlying4 (evg rfl hb) (evg rfl hb)) ?_
  refine WL.yld rfl (blt rfl) rfl (Y.or rfl rfl rfl rfl) ?_
  refine WL.yld rfl (blt rfl) rfl (Y.move rfl rfl) ?_
  refine WL.yldG rfl (blt rfl) rfl rfl rfl (fun hb => Y.move rfl rfl) ?_
  refine WL.yldG rfl (blt rfl) rfl rfl rfl (fun hb => Y.move rfl (evg rfl hb)) ?_
  refine WL.yldGs [(_, _)] rfl (blt rfl) rfl rfl rfl (fun hb => Y.fieldAddr rfl Try.underlying23 rfl ti3 (by decide) rfl) ?_
  refine WL.yldGs [(_, _)] rfl (blt rfl) rfl rfl rfl (fun hb => Y.load1 rfl Try.underlying3 rfl (evg (evg rfl hb.1) hb.2.1) (Blk.at_eq m30 rfl)) ?_
  refine WL.yldGs [(_, _)] rfl (blt rfl) rfl rfl rfl (fun hb => Y.fieldAddr rfl Try.underlying23 rfl ti3 (by decide) rfl) ?_
  refine WL.yldGs [(_, _)] rfl (blt rfl) rfl rfl rfl (fun hb => Y.load1 rfl Try.underlying3 rfl (evg (evg rfl hb.1) hb.2.1) (Blk.at_eq m6 rfl)) ?_
  refine WL.yldGs [(_, _)] rfl (blt rfl) rfl rfl rfl (fun hb => Y.fieldAddr rfl Try.underlying23 rfl ti3 (by decide) rfl) ?_
  refine WL.yldGs [(_, _)] rfl (blt rfl) rfl rfl rfl (fun hb => Y.load1 rfl Try.underlying3 rfl (evg (evg rfl hb.1) hb.2.1) (Blk.at_eq m11 rfl)) ?_
  refine WL.yldGs [(_, _)] rfl (blt rfl) rfl rfl rfl (fun hb => Y.add rfl (evg (evg rfl hb.1) hb.2.1) (evg (evg rfl hb.1) hb.2.1) (wrap_i64 (Iv.add_b hb.2.1).1)) ?_
  refine WL.yldGs [(_, _)] rfl (blt rfl) rfl rfl rfl (fun hb => Y.neq rfl (evg (evg rfl hb.1) hb.2.1) (evg (evg rfl hb.1) hb.2.1)) ?_
  refine WL.yldGs [(_, _)] rfl (blt rfl) rfl rfl rfl (fun hb => Y.move rfl (evg (evg rfl hb.1) hb.2.1)) ?_
  refine WL.yldGs [(_, _), (_, _)] rfl (blt rfl) rfl rfl rfl (fun hb => Y.fieldAddr rfl Try.underlying23 rfl ti3 (by decide) rfl) ?_
  refine WL.yldGs [(_, _), (_, _)] rfl (blt rfl) rfl rfl rfl (fun hb => Y.load1 rfl Try.underlying3 rfl (evg (evg (evg rfl hb.1) hb.2.1) hb.2.2.1) (Blk.at_eq m30 rfl)) ?_
  refine WL.yldGs [(_, _), (_, _)] rfl (blt rfl) rfl rfl rfl (fun hb => Y.fieldAddr rfl Try.underlying23 rfl ti3 (by decide) rfl) ?_
  refine WL.yldGs [(_, _), (_, _)] rfl (blt rfl) rfl rfl rfl (fun hb => Y.load1 rfl Try.underlying3 rfl (evg (evg (evg rfl hb.1) hb.2.1) hb.2.2.1) (Blk.at_eq m6 rfl)) ?_
  refine WL.yldGs [(_, _), (_, _)] rfl (blt rfl) rfl rfl rfl (fun hb => Y.fieldAddr rfl Try.underlying23 rfl ti3 (by decide) rfl) ?_
  refine WL.yldGs [(_, _), (_, _)] rfl (blt rfl) rfl rfl rfl (fun hb => Y.load1 rfl Try.underlying3 rfl (evg (evg (evg rfl hb.1) hb.2.1) hb.2.2.1) (Blk.at_eq m11 rfl)) ?_
  refine WL.yldGs [(_, _), (_, _)] rfl (blt rfl) rfl rfl rfl (fun hb => Y.add rfl (evg (evg (evg rfl hb.1) hb.2.1) hb.2.2.1) (evg (evg (evg rfl hb.1) hb.2.1) hb.2.2.1) (wrap_i64 (Iv.add_b hb.2.1).2)) ?_
  refine WL.yldGs [(_, _), (_, _)] rfl (blt rfl) rfl rfl rfl (fun hb => Y.neq rfl (evg (evg (evg rfl hb.1) hb.2.1) hb.2.2.1) (evg (evg (evg rfl hb.1) hb.2.1) hb.2.2.1)) ?_
  refine WL.yldGs [(_, _)] rfl (blt rfl) rfl rfl rfl (fun hb => Y.or rfl (evg (evg rfl hb.1) hb.2.1) rfl (evg (evg rfl hb.1) hb.2.1)) ?_
  refine WL.yldG rfl (blt rfl) rfl rfl rfl (fun hb => Y.and rfl (evg rfl hb) (evg rfl hb) rfl) ?_
  refine WL.yld rfl (blt rfl) rfl (Y.or rfl rfl rfl rfl) ?_
  refine WL.nil ?_
  refine WK.then_normal (k43 _ _ ?_)
  refine WC.sub [(3, _), (4, _), (7, _), (8, _), (9, _), (10, _), (62, _)] ⟨rfl, rfl, rfl, rfl, rfl, rfl, rfl, trivial⟩ ?_
  refine WC.cond rfl (fun h44 => ?_) (fun h44 => ?_)
  ·
    clear k1 k17 k20 k31 k42 k43
    rw [Iv.add_comm (b0, b1) (a0, a1)] at h44
    cases hs : (Iv.addF (a0, a1) (b0, b1)).2 with
    | false => simp [hs] at h44
    | true => rw [(Iv.add_sum _ _ hs).1] at h44; simp at h44
  ·
    refine WC.skip ?_
    refine WK.then_normal (k42 _ _ ?_)
    refine WC.sub [(3, _), (4, _), (7, _), (8, _), (9, _), (10, _)] ⟨rfl, rfl, rfl, rfl, rfl, rfl, trivial⟩ ?_
    refine WC.seq (fun K45 k45 => ?_)
    refine WC.seq (fun K46 k46 => ?_)
    refine WC.region rfl ?_
    refine WL.yld rfl (blt rfl) rfl (Y.move rfl rfl) ?_
    refine WL.yld rfl (blt rfl) rfl (Y.move rfl rfl) ?_
    refine WL.yldG rfl (blt rfl) rfl rfl rfl (fun hb => Y.loadS rfl Try.underlying23 rfl ti23 rfl (Blk.row_eq m6)) ?_
    refine WL.yldG rfl (blt rfl) rfl rfl rfl (fun hb => Y.move rfl rfl) ?_
    refine WL.callG rfl (blt rfl) rfl rfl rfl rfl rfl has19 (fun hb => (evs_cons (evg rfl hb) (evs_cons (evg rfl hb) evs_nil))) (fun hb => within_any _ _ _ _) (fun w47 x48 => ?_)
    have m6 := m6.ext x48
    have m11 := m11.ext x48
    have m30 := m30.ext x48
    have xW := Ext.trans xW x48
    refine WL.yld rfl (blt rfl) rfl (Y.and rfl rfl rfl rfl) ?_
    refine WL.yld rfl (blt rfl) rfl (Y.move rfl rfl) ?_
    refine WL.yldG rfl (blt rfl) rfl rfl rfl (fun hb => Y.loadS rfl Try.underlying23 rfl ti23 rfl (Blk.row_eq m11)) ?_
    refine WL.yldG rfl (blt rfl) rfl rfl rfl (fun hb => Y.move rfl rfl) ?_
    refine WL.callG rfl (blt rfl) rfl rfl rfl rfl rfl has19 (fun hb => (evs_cons (evg rfl hb) (evs_cons (evg rfl hb) evs_nil))) (fun hb => within_any _ _ _ _) (fun w49 x50 => ?_)
    have m6 := m6.ext x50
    have m11 := m11.ext x50
    have m30 := m30.ext x50
    have xW := Ext.trans xW x50
    refine WL.yld rfl (blt rfl) rfl (Y.and rfl rfl rfl rfl) ?_
    refine WL.yld rfl (blt rfl) rfl (Y.move rfl rfl) ?_
    refine WL.yldG rfl (blt rfl) rfl rfl rfl (fun hb => Y.loadS rfl Try.underlying23 rfl ti23 rfl (Blk.row_eq m30)) ?_
    refine WL.yldG rfl (blt rfl) rfl rfl rfl (fun hb => Y.move rfl rfl) ?_
    refine WL.yldG rfl (blt rfl) rfl rfl rfl (fun hb => Y.move rfl rfl) ?_
    refine WL.yldG rfl (blt rfl) rfl rfl rfl (fun hb => Y.add rfl (evg rfl hb) (evg rfl hb) (wrap_i64 (Iv.mn_b hb))) ?_
    refine WL.callG rfl (blt rfl) rfl rfl rfl rfl rfl has19 (fun hb => (evs_cons (evg rfl hb) (evs_cons (evg rfl hb) evs_nil))) (fun hb => within_any _ _ _ _) (fun w51 x52 => ?_)
    have m6 := m6.ext x52
    have m11 := m11.ext x52
    have m30 := m30.ext x52
    have xW := Ext.trans xW x52
    refine WL.yldG rfl (blt rfl) rfl rfl rfl (fun hb => Y.not rfl (evg rfl hb)) ?_
    refine WL.yld rfl (blt rfl) rfl (Y.and rfl rfl rfl rfl) ?_
    refine WL.nil ?_
    refine WK.then_normal (k46 _ _ ?_)
    refine WC.sub [(3, _), (4, _), (81, _)] ⟨rfl, rfl, rfl, trivial⟩ ?_
    refine WC.cond rfl (fun h53 => ?_) (fun h53 => ?_)
    ·
      clear k1 k17 k20 k31 k42 k43 k45 k46
      simp only [Bool.and_eq_true, Bool.not_eq_true'] at h53
      obtain ⟨⟨⟨e1, e2⟩, e3⟩, e4⟩ := h53
      have e := Iv.add_sum _ _ e1
      rw [e.1] at e4
      rw [Iv.within_iff] at e2 e3
      dsimp only at e2 e3 e4 e
      have e5 : Iv.withinB (a0 + b0, a1 + b1) (n + m) = true := by rw [Iv.within_iff]; exact ⟨e.2.2.2, by dsimp only; omega⟩
      exact Bool.noConfusion (e5.symm.trans e4)
    ·
      refine WC.skip ?_
      refine WK.then_normal (k45 _ _ ?_)
      refine WC.sub [(3, _), (4, _)] ⟨rfl, rfl, trivial⟩ ?_
      refine WC.seq (fun K54 k54 => ?_)
      refine WC.region rfl ?_
      refine WL.yld rfl (blt rfl) rfl (Y.loadS rfl Try.underlying23 rfl ti23 rfl (Blk.row_eq m6)) ?_
      refine WL.yld rfl (blt rfl) rfl (Y.loadS rfl Try.underlying23 rfl ti23 rfl (Blk.row_eq m11)) ?_
      refine WL.call rfl (blt rfl) rfl rfl rfl has9 rfl (meet_any _ _ _ _ _) ?_
      rintro _ w55 ⟨rfl, x56⟩
      refine ⟨_, rfl, ?_⟩
      have m6 := m6.ext x56
      have m11 := m11.ext x56
      have xW := Ext.trans xW x56
      refine WL.yld rfl (blt rfl) rfl (Y.move rfl rfl) ?_
      refine WL.yld rfl (blt rfl) rfl (Y.extract rfl rfl rfl) ?_
      refine WL.yld rfl (blt rfl) rfl (Y.extract rfl rfl rfl) ?_
      refine WL.alloc rfl (blt rfl) rfl rfl ti23 rfl ?_
      intro g57 w58 e59 x60 m61
      have n_g2_g57 := ne_new m6 e59
      have n_g7_g57 := ne_new m11 e59
      have o_g57 := own_new xW e59
      have m6 := m6.ext x60
      have m11 := m11.ext x60
      have xW := Ext.trans xW x60
      refine WL.store (cs' := [_, _]) rfl rfl rfl rfl rfl rfl ti23 m61 (ble rfl) rfl rfl (fun w62 on63 m64 => ?_)
      have m6 := m6.only n_g2_g57 on63
      have m11 := m11.only n_g7_g57 on63
      have xW := Ext.only xW on63 o_g57
      refine WL.yld rfl (blt rfl) rfl (Y.assign rfl rfl) ?_
      refine WL.nil ?_
      refine WK.then_normal (k54 _ _ ?_)
      refine WC.sub [(3, _), (4, _), (14, _)] ⟨rfl, rfl, rfl, trivial⟩ ?_
      refine WC.seq (fun K65 k65 => ?_)
      refine WC.region rfl ?_
      refine WL.yld rfl (blt rfl) rfl (Y.loadS rfl Try.underlying23 rfl ti23 rfl (Blk.row_eq m6)) ?_
      refine WL.yld rfl (blt rfl) rfl (Y.loadS rfl Try.underlying23 rfl ti23 rfl (Blk.row_eq m11)) ?_
      refine WL.call rfl (blt rfl) rfl rfl rfl has17 rfl (before_any _ _ _ _ _) ?_
      rintro _ w66 ⟨rfl, x67⟩
      refine ⟨_, rfl, ?_⟩
      have m6 := m6.ext x67
      have m11 := m11.ext x67
      have xW := Ext.trans xW x67
      refine WL.yld rfl (blt rfl) rfl (Y.move rfl rfl) ?_
      refine WL.yldG rfl (blt rfl) rfl rfl rfl (fun hb => Y.loadS rfl Try.underlying23 rfl ti23 rfl (Blk.row_eq m11)) ?_
      refine WL.yldG rfl (blt rfl) rfl rfl rfl (fun hb => Y.loadS rfl Try.underlying23 rfl ti23 rfl (Blk.row_eq m6)) ?_
      refine WL.callG rfl (blt rfl) rfl rfl rfl rfl rfl has17 (fun hb => (evs_cons (evg rfl hb) (evs_cons (evg rfl hb) evs_nil))) (fun hb => before_any _ _ _ _ _) (fun w68 x69 => ?_)
      have m6 := m6.ext x69
      have m11 := m11.ext x69
      have xW := Ext.trans xW x69
      refine WL.yld rfl (blt rfl) rfl (Y.or rfl rfl rfl rfl) ?_
      refine WL.yld rfl (blt rfl) rfl (Y.assign rfl rfl) ?_
      refine WL.nil ?_
      refine WK.then_normal (k65 _ _ ?_)
      refine WC.sub [(3, _), (4, _), (14, _), (15, _)] ⟨rfl, rfl, rfl, rfl, trivial⟩ ?_
      refine WC.seq (fun K70 k70 => ?_)
      refine WC.region rfl ?_
      refine WL.yld rfl (blt rfl) rfl (Y.loadS rfl Try.underlying23 rfl ti23 rfl (Blk.row_eq m6)) ?_
      refine WL.call rfl (blt rfl) rfl rfl rfl has13 rfl (valid_any _ _ _) ?_
      rintro _ w71 ⟨rfl, x72⟩
      refine ⟨_, rfl, ?_⟩
      have m6 := m6.ext x72
      have m11 := m11.ext x72
      have xW := Ext.trans xW x72
      refine WL.yld rfl (blt rfl) rfl (Y.not rfl rfl) ?_
      refine WL.yld rfl (blt rfl) rfl (Y.move rfl rfl) ?_
      refine WL.yldG rfl (blt rfl) rfl rfl rfl (fun hb => Y.loadS rfl Try.underlying23 rfl ti23 rfl (Blk.row_eq m11)) ?_
      refine WL.callG rfl (blt rfl) rfl rfl rfl rfl rfl has13 (fun hb => (evs_cons (evg rfl hb) evs_nil)) (fun hb => valid_any _ _ _) (fun w73 x74 => ?_)
      have m6 := m6.ext x74
      have m11 := m11.ext x74
      have xW := Ext.trans xW x74
      refine WL.yldG rfl (blt rfl) rfl rfl rfl (fun hb => Y.not rfl (evg rfl hb)) ?_
      refine WL.yld rfl (blt rfl) rfl (Y.or rfl rfl rfl rfl) ?_
      refine WL.yld rfl (blt rfl) rfl (Y.move rfl rfl) ?_
      refine WL.yldG rfl (blt rfl) rfl rfl rfl (fun hb => Y.move rfl rfl) ?_
      refine WL.yldG rfl (blt rfl) rfl rfl rfl (fun hb => Y.move rfl rfl) ?_
      refine WL.yldG rfl (blt rfl) rfl rfl rfl (fun hb => Y.neqB rfl Try.underlying4 (evg rfl hb) (evg rfl hb)) ?_
      refine WL.yld rfl (blt rfl) rfl (Y.or rfl rfl rfl rfl) ?_
      refine WL.yld rfl (blt rfl) rfl (Y.move rfl rfl) ?_
      refine WL.callG rfl (blt rfl) rfl rfl rfl rfl rfl has21 (fun hb => rfl) (fun hb => awake_any _) (fun w75 x76 => ?_)
      have m6 := m6.ext x76
      have m11 := m11.ext x76
      have xW := Ext.trans xW x76
      refine WL.yld rfl (blt rfl) rfl (Y.and rfl rfl rfl rfl) ?_
      refine WL.yld rfl (blt rfl) rfl (Y.assign rfl rfl) ?_
      refine WL.nil ?_
      refine WK.then_normal (k70 _ _ ?_)
      refine WC.sub [(6, _)] ⟨rfl, trivial⟩ ?_
      refine WC.ret ?_
      clear k1 k17 k20 k31 k42 k43 k45 k46 k54 k65 k70
      refine WK.ret [_] rfl ⟨rfl, trivial⟩ ?_
      refine ⟨ret1 (vb ?_), xW⟩
      cases hA : Iv.validB (a0, a1) with
      | false => simp
      | true =>
        cases hB : Iv.validB (b0, b1) with
        | false => simp
        | true => rw [Iv.before_meet _ _ hA hB]; simp
end B
end LawA

end Go.Proofs.Ytjbbpcgegemoiaa
