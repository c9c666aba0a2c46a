/- The walks of the laws of chapter 3, third part. Conditions: what each theorem states. -/
import Derived.Test.YtjbbpcgegemoiaaAwake
namespace Go.Proofs.Ytjbbpcgegemoiaa
open Go Go.Eng Go.RowKit
set_option linter.unusedVariables false
namespace LawA
open NumF
namespace C
theorem ti3 : TI Try.prog 3 (.int .i64 0) 1 8 := TI.mk (by kernel_rfl)
theorem ti23 : TI Try.prog 23 (.agg #[.int .i64 0, .int .i64 0]) 2 16 := TI.mk (by kernel_rfl)
theorem has11 : Has Try.prog 11 := ⟨_, Try.func11, rfl, by kernel_rfl⟩
theorem has19 : Has Try.prog 19 := ⟨_, Try.func19, rfl, by kernel_rfl⟩
theorem has21 : Has Try.prog 21 := ⟨_, Try.func21, rfl, by kernel_rfl⟩
theorem has22 : Has Try.prog 22 := ⟨_, Try.func22, rfl, by kernel_rfl⟩
theorem has24 : Has Try.prog 24 := ⟨_, Try.func24, rfl, by kernel_rfl⟩
theorem pl23 : PL Try.prog 23 [.int .i64 0, .int .i64 0] [(0, 1), (1, 1)] := PL.mk (zero := [.int .i64 0, .int .i64 0]) ti23 Try.underlying23 (by kernel_rfl)
theorem eqg23 : Try.prog.eqGuardType Try.prog.depth 23 = false := by kernel_rfl
theorem eq23 (a0 : Int) (a1 : Int) (b0 : Int) (b1 : Int) (w : World) : (Op.equalIn 10000 23 (.agg #[.int .i64 a0, .int .i64 a1]) (.agg #[.int .i64 b0, .int .i64 b1])).run Try.prog w = .ok ((a0 == b0) && (a1 == b1)) w := by
  go_simp
  (repeat' split) <;> simp_all
theorem IntervalDrift_any (d ppm less : Int) (w : World) :
    Calls Try.prog 7 #[.int .i64 d, .int .i64 ppm, .int .i64 less] w fun e w' => e = .returned (.bool true) ∧ Ext w w' := by
  have xW := Ext.refl w
  refine calls_of_WC (args := [.int .i64 d, .int .i64 ppm, .int .i64 less]) Try.func7 rfl rfl (ble rfl) ?_
  refine WC.seq (fun K1 k1 => ?_)
  refine WC.region rfl ?_
  refine WL.yld rfl (blt rfl) rfl (Y.assign rfl rfl) ?_
  refine WL.nil ?_
  refine WK.then_normal (k1 _ _ ?_)
  refine WC.sub [(0, _), (1, _), (2, _)] ⟨rfl, rfl, rfl, trivial⟩ ?_
  refine WC.seq (fun K2 k2 => ?_)
  refine WC.region rfl ?_
  refine WL.yld rfl (blt rfl) rfl (Y.move rfl rfl) ?_
  refine WL.yld rfl (blt rfl) rfl (Y.move rfl rfl) ?_
  refine WL.call rfl (blt rfl) rfl rfl rfl has22 rfl (stretch_any _ _ _) ?_
  rintro _ w3 ⟨rfl, x4⟩
  refine ⟨_, rfl, ?_⟩
  have xW := Ext.trans xW x4
  refine WL.yld rfl (blt rfl) rfl (Y.move rfl rfl) ?_
  refine WL.yld rfl (blt rfl) rfl (Y.extract rfl rfl rfl) ?_
  refine WL.yld rfl (blt rfl) rfl (Y.extract rfl rfl rfl) ?_
  refine WL.alloc rfl (blt rfl) rfl rfl ti23 rfl ?_
  intro g5 w6 e7 x8 m9
  have o_g5 := own_new xW e7
  have xW := Ext.trans xW x8
  refine WL.store (cs' := [_, _]) rfl rfl rfl rfl rfl rfl ti23 m9 (ble rfl) rfl rfl (fun w10 on11 m12 => ?_)
  have xW := Ext.only xW on11 o_g5
  refine WL.yld rfl (blt rfl) rfl (Y.assign rfl rfl) ?_
  refine WL.nil ?_
  refine WK.then_normal (k2 _ _ ?_)
  refine WC.sub [(0, _), (1, _), (2, _), (7, _), (8, _)] ⟨rfl, rfl, rfl, rfl, rfl, trivial⟩ ?_
  refine WC.seq (fun K13 k13 => ?_)
  refine WC.seq (fun K14 k14 => ?_)
  refine WC.region rfl ?_
  refine WL.yld rfl (blt rfl) rfl (Y.move rfl rfl) ?_
  refine WL.yld rfl (blt rfl) rfl (Y.not rfl rfl) ?_
  refine WL.nil ?_
  refine WK.then_normal (k14 _ _ ?_)
  refine WC.sub [(0, _), (1, _), (2, _), (7, _), (22, _)] ⟨rfl, rfl, rfl, rfl, rfl, trivial⟩ ?_
  refine WC.cond rfl (fun h15 => ?_) (fun h15 => ?_)
  ·
    refine WC.seq (fun K16 k16 => ?_)
    refine WC.region rfl ?_
    refine WL.yld rfl (blt rfl) rfl (Y.loadS rfl Try.underlying23 rfl ti23 rfl (Blk.row_eq m12)) ?_
    refine WL.yld rfl (blt rfl) rfl (Y.build (cells := [_, _]) rfl pl23 rfl rfl) ?_
    refine WL.yld rfl (blt rfl) rfl (Y.eqlS rfl eqg23 (eq23 _ _ _ _) rfl rfl) ?_
    refine WL.yld rfl (blt rfl) rfl (Y.move rfl rfl) ?_
    refine WL.callG rfl (blt rfl) rfl rfl rfl rfl rfl has21 (fun hb => rfl) (fun hb => awake_any _) (fun w17 x18 => ?_)
    have m12 := m12.ext x18
    have xW := Ext.trans xW x18
    refine WL.yld rfl (blt rfl) rfl (Y.and rfl rfl rfl rfl) ?_
    refine WL.yld rfl (blt rfl) rfl (Y.assign rfl rfl) ?_
    refine WL.nil ?_
    refine WK.then_normal (k16 _ _ ?_)
    refine WC.sub [(6, _)] ⟨rfl, trivial⟩ ?_
    refine WC.ret ?_
    refine WK.then_ret ?_
    clear k1 k2 k13 k14 k16
    refine WK.ret [_] rfl ⟨rfl, trivial⟩ ?_
    simp only [Bool.not_eq_true'] at h15
    rw [Iv.str_zero h15]
    exact ⟨rfl, xW⟩
  ·
    simp only [Bool.not_eq_false'] at h15
    have bd := Iv.str_dom h15
    have bs := Iv.str_bound d ppm
    have dr := Iv.drift1 h15
    refine WC.skip ?_
    refine WK.then_normal (k13 _ _ ?_)
    refine WC.sub [(0, _), (1, _), (2, _), (7, _)] ⟨rfl, rfl, rfl, rfl, trivial⟩ ?_
    refine WC.seq (fun K19 k19 => ?_)
    refine WC.region rfl ?_
    refine WL.yld rfl (blt rfl) rfl (Y.move rfl rfl) ?_
    refine WL.yld rfl (blt rfl) rfl (Y.neg rfl rfl (wrap_i64 (by first | omega | (dsimp only; omega)))) ?_
    refine WL.yld rfl (blt rfl) rfl (Y.move rfl rfl) ?_
    refine WL.call rfl (blt rfl) rfl rfl rfl has22 rfl (stretch_any _ _ _) ?_
    rintro _ w20 ⟨rfl, x21⟩
    refine ⟨_, rfl, ?_⟩
    have m12 := m12.ext x21
    have xW := Ext.trans xW x21
    refine WL.yld rfl (blt rfl) rfl (Y.move rfl rfl) ?_
    refine WL.yld rfl (blt rfl) rfl (Y.extract rfl rfl rfl) ?_
    refine WL.yld rfl (blt rfl) rfl (Y.extract rfl rfl rfl) ?_
    refine WL.alloc rfl (blt rfl) rfl rfl ti23 rfl ?_
    intro g22 w23 e24 x25 m26
    have n_g5_g22 := ne_new m12 e24
    have o_g22 := own_new xW e24
    have m12 := m12.ext x25
    have xW := Ext.trans xW x25
    refine WL.store (cs' := [_, _]) rfl rfl rfl rfl rfl rfl ti23 m26 (ble rfl) rfl rfl (fun w27 on28 m29 => ?_)
    have m12 := m12.only n_g5_g22 on28
    have xW := Ext.only xW on28 o_g22
    refine WL.yld rfl (blt rfl) rfl (Y.assign rfl rfl) ?_
    refine WL.nil ?_
    refine WK.then_normal (k19 _ _ ?_)
    refine WC.sub [(0, _), (1, _), (2, _), (7, _), (9, _), (10, _)] ⟨rfl, rfl, rfl, rfl, rfl, rfl, trivial⟩ ?_
    refine WC.seq (fun K30 k30 => ?_)
    refine WC.region rfl ?_
    refine WL.yld rfl (blt rfl) rfl (Y.move rfl rfl) ?_
    refine WL.call rfl (blt rfl) rfl rfl rfl has22 rfl (stretch_any _ _ _) ?_
    rintro _ w31 ⟨rfl, x32⟩
    refine ⟨_, rfl, ?_⟩
    have m12 := m12.ext x32
    have m29 := m29.ext x32
    have xW := Ext.trans xW x32
    refine WL.yld rfl (blt rfl) rfl (Y.move rfl rfl) ?_
    refine WL.yld rfl (blt rfl) rfl (Y.extract rfl rfl rfl) ?_
    refine WL.yld rfl (blt rfl) rfl (Y.extract rfl rfl rfl) ?_
    refine WL.alloc rfl (blt rfl) rfl rfl ti23 rfl ?_
    intro g33 w34 e35 x36 m37
    have n_g5_g33 := ne_new m12 e35
    have n_g22_g33 := ne_new m29 e35
    have o_g33 := own_new xW e35
    have m12 := m12.ext x36
    have m29 := m29.ext x36
    have xW := Ext.trans xW x36
    refine WL.store (cs' := [_, _]) rfl rfl rfl rfl rfl rfl ti23 m37 (ble rfl) rfl rfl (fun w38 on39 m40 => ?_)
    have m12 := m12.only n_g5_g33 on39
    have m29 := m29.only n_g22_g33 on39
    have xW := Ext.only xW on39 o_g33
    refine WL.yld rfl (blt rfl) rfl (Y.assign rfl rfl) ?_
    refine WL.nil ?_
    refine WK.then_normal (k30 _ _ ?_)
    refine WC.sub [(0, _), (1, _), (2, _), (7, _), (9, _), (10, _), (11, _), (12, _)] ⟨rfl, rfl, rfl, rfl, rfl, rfl, rfl, rfl, trivial⟩ ?_
    refine WC.seq (fun K41 k41 => ?_)
    refine WC.seq (fun K42 k42 => ?_)
    refine WC.regionD (by kernel_rfl) (by kernel_rfl) rfl ?_
    refine WQ.yld rfl (blt rfl) rfl (Y.move rfl rfl) ?_
    refine WQ.yld rfl (blt rfl) rfl (Y.not rfl rfl) ?_
    refine WQ.yld rfl (blt rfl) rfl (Y.move rfl rfl) ?_
    refine WQ.yldG rfl (blt rfl) rfl rfl rfl (fun hb => Y.loadS rfl Try.underlying23 rfl ti23 rfl (Blk.row_ext m29)) ?_
    refine WQ.yldG rfl (blt rfl) rfl rfl rfl (fun hb => Y.fieldAddr rfl Try.underlying23 rfl ti3 (by decide) rfl) ?_
    refine WQ.yldG rfl (blt rfl) rfl rfl rfl (fun hb => Y.load1 rfl Try.underlying3 rfl (evg rfl hb) (Blk.at_ext m12 rfl)) ?_
    refine WQ.yldG rfl (blt rfl) rfl rfl rfl (fun hb => Y.neg rfl (evg rfl hb) (wrap_i64 (by first | omega | (dsimp only; omega)))) ?_
    refine WQ.yldG rfl (blt rfl) rfl rfl rfl (fun hb => Y.fieldAddr rfl Try.underlying23 rfl ti3 (by decide) rfl) ?_
    refine WQ.yldG rfl (blt rfl) rfl rfl rfl (fun hb => Y.load1 rfl Try.underlying3 rfl (evg rfl hb) (Blk.at_ext m12 rfl)) ?_
    refine WQ.yldG rfl (blt rfl) rfl rfl rfl (fun hb => Y.neg rfl (evg rfl hb) (wrap_i64 (by first | omega | (dsimp only; omega)))) ?_
    refine WQ.callG rfl (blt rfl) rfl rfl rfl rfl rfl has24 (fun hb => (evs_cons (evg rfl hb) (evs_cons (evg rfl hb) evs_nil))) (fun hb w hw => calls_ext hw (of_any _ _ _)) ?_
    refine WQ.yldG rfl (blt rfl) rfl rfl rfl (fun hb => Y.neqS rfl eqg23 (eq23 _ _ _ _) (evg rfl hb) (evg rfl hb)) ?_
    refine WQ.yld rfl (blt rfl) rfl (Y.or rfl rfl rfl rfl) ?_
    refine WQ.yld rfl (blt rfl) rfl (Y.move rfl rfl) ?_
    refine WQ.yldG rfl (blt rfl) rfl rfl rfl (fun hb => Y.move rfl rfl) ?_
    refine WQ.yldG rfl (blt rfl) rfl rfl rfl (fun hb => Y.not rfl (evg rfl hb)) ?_
    refine WQ.yld rfl (blt rfl) rfl (Y.or rfl rfl rfl rfl) ?_
    refine WQ.yld rfl (blt rfl) rfl (Y.move rfl rfl) ?_
    refine WQ.yldG rfl (blt rfl) rfl rfl rfl (fun hb => Y.loadS rfl Try.underlying23 rfl ti23 rfl (Blk.row_ext m40)) ?_
    refine WQ.yldG rfl (blt rfl) rfl rfl rfl (fun hb => Y.move rfl rfl) ?_
    refine WQ.yldG rfl (blt rfl) rfl rfl rfl (fun hb => Y.move rfl rfl) ?_
    refine WQ.callG rfl (blt rfl) rfl rfl rfl rfl rfl has24 (fun hb => (evs_cons (evg rfl hb) (evs_cons (evg rfl hb) evs_nil))) (fun hb w hw => calls_ext hw (of_any _ _ _)) ?_
    refine WQ.yldG rfl (blt rfl) rfl rfl rfl (fun hb => Y.neqS rfl eqg23 (eq23 _ _ _ _) (evg rfl hb) (evg rfl hb)) ?_
    refine WQ.yld rfl (blt rfl) rfl (Y.or rfl rfl rfl rfl) ?_
    refine WQ.yld rfl (blt rfl) rfl (Y.move rfl rfl) ?_
    refine WQ.yldG rfl (blt rfl) rfl rfl rfl (fun hb => Y.loadS rfl Try.underlying23 rfl ti23 rfl (Blk.row_ext m12)) ?_
    refine WQ.yldG rfl (blt rfl) rfl rfl rfl (fun hb => Y.move rfl rfl) ?_
    refine WQ.callG rfl (blt rfl) rfl rfl rfl rfl rfl has19 (fun hb => (evs_cons (evg rfl hb) (evs_cons (evg rfl hb) evs_nil))) (fun hb w hw => calls_ext hw (within_any _ _ _ _)) ?_
    refine WQ.yldG rfl (blt rfl) rfl rfl rfl (fun hb => Y.not rfl (evg rfl hb)) ?_
    refine WQ.yld rfl (blt rfl) rfl (Y.or rfl rfl rfl rfl) ?_
    refine WQ.done (fun w43 x44 => ?_)
    have m12 := m12.ext x44
    have m29 := m29.ext x44
    have m40 := m40.ext x44
    have xW := Ext.trans xW x44
    refine WK.then_normal (k42 _ _ ?_)
    refine WC.sub [(0, _), (1, _), (2, _), (7, _), (70, _)] ⟨rfl, rfl, rfl, rfl, rfl, trivial⟩ ?_
    refine WC.cond rfl (fun h45 => ?_) (fun h45 => ?_)
    ·
      clear k1 k2 k13 k14 k19 k30 k41 k42
      rw [dr.1, dr.2.1] at h45
      have e : Iv.withinB ((Iv.stretchF d ppm).1.1, (Iv.stretchF d ppm).1.2) d = true := dr.2.2
      rw [e] at h45
      simp at h45
    ·
      refine WC.skip ?_
      refine WK.then_normal (k41 _ _ ?_)
      refine WC.sub [(0, _), (1, _), (2, _), (7, _)] ⟨rfl, rfl, rfl, rfl, trivial⟩ ?_
      refine WC.seq (fun K46 k46 => ?_)
      refine WC.region rfl ?_
      refine WL.yld rfl (blt rfl) rfl (Y.move rfl rfl) ?_
      refine WL.yld rfl (blt rfl) rfl (Y.move rfl rfl) ?_
      refine WL.call rfl (blt rfl) rfl rfl rfl has22 rfl (stretch_any _ _ _) ?_
      rintro _ w47 ⟨rfl, x48⟩
      refine ⟨_, rfl, ?_⟩
      have m12 := m12.ext x48
      have xW := Ext.trans xW x48
      refine WL.yld rfl (blt rfl) rfl (Y.move rfl rfl) ?_
      refine WL.yld rfl (blt rfl) rfl (Y.extract rfl rfl rfl) ?_
      refine WL.yld rfl (blt rfl) rfl (Y.extract rfl rfl rfl) ?_
      refine WL.alloc rfl (blt rfl) rfl rfl ti23 rfl ?_
      intro g49 w50 e51 x52 m53
      have n_g5_g49 := ne_new m12 e51
      have o_g49 := own_new xW e51
      have m12 := m12.ext x52
      have xW := Ext.trans xW x52
      refine WL.store (cs' := [_, _]) rfl rfl rfl rfl rfl rfl ti23 m53 (ble rfl) rfl rfl (fun w54 on55 m56 => ?_)
      have m12 := m12.only n_g5_g49 on55
      have xW := Ext.only xW on55 o_g49
      refine WL.yld rfl (blt rfl) rfl (Y.assign rfl rfl) ?_
      refine WL.nil ?_
      refine WK.then_normal (k46 _ _ ?_)
      refine WC.sub [(1, _), (2, _), (7, _), (13, _), (14, _)] ⟨rfl, rfl, rfl, rfl, rfl, trivial⟩ ?_
      refine WC.seq (fun K57 k57 => ?_)
      refine WC.region rfl ?_
      refine WL.yld rfl (blt rfl) rfl (Y.move rfl rfl) ?_
      refine WL.yld rfl (blt rfl) rfl (Y.not rfl rfl) ?_
      refine WL.yld rfl (blt rfl) rfl (Y.move rfl rfl) ?_
      refine WL.yldG rfl (blt rfl) rfl rfl rfl (fun hb => Y.move rfl rfl) ?_
      refine WL.yldG rfl (blt rfl) rfl rfl rfl (fun hb => Y.move rfl rfl) ?_
      refine WL.yldG rfl (blt rfl) rfl rfl rfl (fun hb => Y.gtr rfl (evg rfl hb) (evg rfl hb)) ?_
      refine WL.yld rfl (blt rfl) rfl (Y.or rfl rfl rfl rfl) ?_
      refine WL.yld rfl (blt rfl) rfl (Y.move rfl rfl) ?_
      refine WL.yldG rfl (blt rfl) rfl rfl rfl (fun hb => Y.loadS rfl Try.underlying23 rfl ti23 rfl (Blk.row_eq m12)) ?_
      refine WL.yldG rfl (blt rfl) rfl rfl rfl (fun hb => Y.fieldAddr rfl Try.underlying23 rfl ti3 (by decide) rfl) ?_
      refine WL.yldG rfl (blt rfl) rfl rfl rfl (fun hb => Y.load1 rfl Try.underlying3 rfl (evg rfl hb) (Blk.at_eq m56 rfl)) ?_
      refine WL.callG rfl (blt rfl) rfl rfl rfl rfl rfl has19 (fun hb => (evs_cons (evg rfl hb) (evs_cons (evg rfl hb) evs_nil))) (fun hb => within_any _ _ _ _) (fun w58 x59 => ?_)
      have m12 := m12.ext x59
      have m56 := m56.ext x59
      have xW := Ext.trans xW x59
      refine WL.yldG rfl (blt rfl) rfl rfl rfl (fun hb => Y.move rfl (evg rfl hb)) ?_
      refine WL.yldGs [(_, _)] rfl (blt rfl) rfl rfl rfl (fun hb => Y.loadS rfl Try.underlying23 rfl ti23 rfl (Blk.row_eq m12)) ?_
      refine WL.yldGs [(_, _)] rfl (blt rfl) rfl rfl rfl (fun hb => Y.fieldAddr rfl Try.underlying23 rfl ti3 (by decide) rfl) ?_
      refine WL.yldGs [(_, _)] rfl (blt rfl) rfl rfl rfl (fun hb => Y.load1 rfl Try.underlying3 rfl (evg (evg rfl hb.1) hb.2.1) (Blk.at_eq m56 rfl)) ?_
      refine WL.callGs [(_, _)] rfl (blt rfl) rfl rfl rfl rfl rfl has19 (fun hb => (evs_cons (evg (evg rfl hb.1) hb.2.1) (evs_cons (evg (evg rfl hb.1) hb.2.1) evs_nil))) (fun hb => within_any _ _ _ _) (fun w60 x61 => ?_)
      have m12 := m12.ext x61
      have m56 := m56.ext x61
      have xW := Ext.trans xW x61
      refine WL.yldG rfl (blt rfl) rfl rfl rfl (fun hb => Y.and rfl (evg rfl hb) (evg rfl hb) rfl) ?_
      refine WL.yld rfl (blt rfl) rfl (Y.or rfl rfl rfl rfl) ?_
      refine WL.yld rfl (blt rfl) rfl (Y.move rfl rfl) ?_
      refine WL.callG rfl (blt rfl) rfl rfl rfl rfl rfl has21 (fun hb => rfl) (fun hb => awake_any _) (fun w62 x63 => ?_)
      have m12 := m12.ext x63
      have m56 := m56.ext x63
      have xW := Ext.trans xW x63
      refine WL.yld rfl (blt rfl) rfl (Y.and rfl rfl rfl rfl) ?_
      refine WL.yld rfl (blt rfl) rfl (Y.assign rfl rfl) ?_
      refine WL.nil ?_
      refine WK.then_normal (k57 _ _ ?_)
      refine WC.sub [(6, _)] ⟨rfl, trivial⟩ ?_
      refine WC.ret ?_
      clear k1 k2 k13 k14 k19 k30 k41 k42 k46 k57
      refine WK.ret [_] rfl ⟨rfl, trivial⟩ ?_
      refine ⟨ret1 (vb ?_), xW⟩
      cases h1 : (Iv.stretchF d less).2 with
      | false => simp
      | true =>
        by_cases h2 : ppm < less
        · simp [h2]
        · have e := Iv.drift2 (p := ppm) h15 h1 (by omega)
          have e1 : Iv.withinB ((Iv.stretchF d ppm).1.1, (Iv.stretchF d ppm).1.2) (Iv.stretchF d less).1.1 = true := e.1
          have e2 : Iv.withinB ((Iv.stretchF d ppm).1.1, (Iv.stretchF d ppm).1.2) (Iv.stretchF d less).1.2 = true := e.2
          simp [e1, e2]
theorem IntervalParts_any (d e ppm : Int) (w : World) :
    Calls Try.prog 8 #[.int .i64 d, .int .i64 e, .int .i64 ppm] w fun e w' => e = .returned (.bool true) ∧ Ext w w' := by
  have xW := Ext.refl w
  refine calls_of_WC (args := [.int .i64 d, .int .i64 e, .int .i64 ppm]) Try.func8 rfl rfl (ble rfl) ?_
  refine WC.seq (fun K1 k1 => ?_)
  refine WC.region rfl ?_
  refine WL.yld rfl (blt rfl) rfl (Y.assign rfl rfl) ?_
  refine WL.nil ?_
  refine WK.then_normal (k1 _ _ ?_)
  refine WC.sub [(0, _), (1, _), (2, _)] ⟨rfl, rfl, rfl, trivial⟩ ?_
  refine WC.seq (fun K2 k2 => ?_)
  refine WC.region rfl ?_
  refine WL.yld rfl (blt rfl) rfl (Y.move rfl rfl) ?_
  refine WL.yld rfl (blt rfl) rfl (Y.move rfl rfl) ?_
  refine WL.call rfl (blt rfl) rfl rfl rfl has22 rfl (stretch_any _ _ _) ?_
  rintro _ w3 ⟨rfl, x4⟩
  refine ⟨_, rfl, ?_⟩
  have xW := Ext.trans xW x4
  refine WL.yld rfl (blt rfl) rfl (Y.move rfl rfl) ?_
  refine WL.yld rfl (blt rfl) rfl (Y.extract rfl rfl rfl) ?_
  refine WL.yld rfl (blt rfl) rfl (Y.extract rfl rfl rfl) ?_
  refine WL.alloc rfl (blt rfl) rfl rfl ti23 rfl ?_
  intro g5 w6 e7 x8 m9
  have o_g5 := own_new xW e7
  have xW := Ext.trans xW x8
  refine WL.store (cs' := [_, _]) rfl rfl rfl rfl rfl rfl ti23 m9 (ble rfl) rfl rfl (fun w10 on11 m12 => ?_)
  have xW := Ext.only xW on11 o_g5
  refine WL.yld rfl (blt rfl) rfl (Y.assign rfl rfl) ?_
  refine WL.nil ?_
  refine WK.then_normal (k2 _ _ ?_)
  refine WC.sub [(0, _), (1, _), (2, _), (7, _), (8, _)] ⟨rfl, rfl, rfl, rfl, rfl, trivial⟩ ?_
  refine WC.seq (fun K13 k13 => ?_)
  refine WC.region rfl ?_
  refine WL.yld rfl (blt rfl) rfl (Y.move rfl rfl) ?_
  refine WL.yld rfl (blt rfl) rfl (Y.move rfl rfl) ?_
  refine WL.call rfl (blt rfl) rfl rfl rfl has22 rfl (stretch_any _ _ _) ?_
  rintro _ w14 ⟨rfl, x15⟩
  refine ⟨_, rfl, ?_⟩
  have m12 := m12.ext x15
  have xW := Ext.trans xW x15
  refine WL.yld rfl (blt rfl) rfl (Y.move rfl rfl) ?_
  refine WL.yld rfl (blt rfl) rfl (Y.extract rfl rfl rfl) ?_
  refine WL.yld rfl (blt rfl) rfl (Y.extract rfl rfl rfl) ?_
  refine WL.alloc rfl (blt rfl) rfl rfl ti23 rfl ?_
  intro g16 w17 e18 x19 m20
  have n_g5_g16 := ne_new m12 e18
  have o_g16 := own_new xW e18
  have m12 := m12.ext x19
  have xW := Ext.trans xW x19
  refine WL.store (cs' := [_, _]) rfl rfl rfl rfl rfl rfl ti23 m20 (ble rfl) rfl rfl (fun w21 on22 m23 => ?_)
  have m12 := m12.only n_g5_g16 on22
  have xW := Ext.only xW on22 o_g16
  refine WL.yld rfl (blt rfl) rfl (Y.assign rfl rfl) ?_
  refine WL.nil ?_
  refine WK.then_normal (k13 _ _ ?_)
  refine WC.sub [(0, _), (1, _), (2, _), (7, _), (8, _), (9, _), (10, _)] ⟨rfl, rfl, rfl, rfl, rfl, rfl, rfl, trivial⟩ ?_
  refine WC.seq (fun K24 k24 => ?_)
  refine WC.seq (fun K25 k25 => ?_)
  refine WC.region rfl ?_
  refine WL.yld rfl (blt rfl) rfl (Y.move rfl rfl) ?_
  refine WL.yld rfl (blt rfl) rfl (Y.not rfl rfl) ?_
  refine WL.yld rfl (blt rfl) rfl (Y.move rfl rfl) ?_
  refine WL.yldG rfl (blt rfl) rfl rfl rfl (fun hb => Y.move rfl rfl) ?_
  refine WL.yldG rfl (blt rfl) rfl rfl rfl (fun hb => Y.not rfl (evg rfl hb)) ?_
  refine WL.yld rfl (blt rfl) rfl (Y.or rfl rfl rfl rfl) ?_
  refine WL.nil ?_
  refine WK.then_normal (k25 _ _ ?_)
  refine WC.sub [(0, _), (1, _), (2, _), (7, _), (9, _), (32, _)] ⟨rfl, rfl, rfl, rfl, rfl, rfl, trivial⟩ ?_
  refine WC.cond rfl (fun h26 => ?_) (fun h26 => ?_)
  ·
    refine WC.seq (fun K27 k27 => ?_)
    refine WC.region rfl ?_
    refine WL.call rfl (blt rfl) rfl rfl rfl has21 rfl (awake_any _) ?_
    rintro _ w28 ⟨rfl, x29⟩
    refine ⟨_, rfl, ?_⟩
    have m12 := m12.ext x29
    have m23 := m23.ext x29
    have xW := Ext.trans xW x29
    refine WL.yld rfl (blt rfl) rfl (Y.assign rfl rfl) ?_
    refine WL.nil ?_
    refine WK.then_normal (k27 _ _ ?_)
    refine WC.sub [(6, _)] ⟨rfl, trivial⟩ ?_
    refine WC.ret ?_
    refine WK.then_ret ?_
    clear k1 k2 k13 k24 k25 k27
    refine WK.ret [_] rfl ⟨rfl, trivial⟩ ?_
    exact ⟨rfl, xW⟩
  ·
    simp only [Bool.or_eq_false_iff, Bool.not_eq_false'] at h26
    have bd := Iv.str_dom h26.1
    have be := Iv.str_dom h26.2
    refine WC.skip ?_
    refine WK.then_normal (k24 _ _ ?_)
    refine WC.sub [(0, _), (1, _), (2, _), (7, _), (9, _)] ⟨rfl, rfl, rfl, rfl, rfl, trivial⟩ ?_
    refine WC.seq (fun K30 k30 => ?_)
    refine WC.region rfl ?_
    refine WL.yld rfl (blt rfl) rfl (Y.move rfl rfl) ?_
    refine WL.yld rfl (blt rfl) rfl (Y.move rfl rfl) ?_
    refine WL.yld rfl (blt rfl) rfl (Y.add rfl rfl rfl (wrap_i64 (by first | omega | (dsimp only; omega)))) ?_
    refine WL.yld rfl (blt rfl) rfl (Y.move rfl rfl) ?_
    refine WL.call rfl (blt rfl) rfl rfl rfl has22 rfl (stretch_any _ _ _) ?_
    rintro _ w31 ⟨rfl, x32⟩
    refine ⟨_, rfl, ?_⟩
    have m12 := m12.ext x32
    have m23 := m23.ext x32
    have xW := Ext.trans xW x32
    refine WL.yld rfl (blt rfl) rfl (Y.move rfl rfl) ?_
    refine WL.yld rfl (blt rfl) rfl (Y.extract rfl rfl rfl) ?_
    refine WL.yld rfl (blt rfl) rfl (Y.extract rfl rfl rfl) ?_
    refine WL.alloc rfl (blt rfl) rfl rfl ti23 rfl ?_
    intro g33 w34 e35 x36 m37
    have n_g5_g33 := ne_new m12 e35
    have n_g16_g33 := ne_new m23 e35
    have o_g33 := own_new xW e35
    have m12 := m12.ext x36
    have m23 := m23.ext x36
    have xW := Ext.trans xW x36
    refine WL.store (cs' := [_, _]) rfl rfl rfl rfl rfl rfl ti23 m37 (ble rfl) rfl rfl (fun w38 on39 m40 => ?_)
    have m12 := m12.only n_g5_g33 on39
    have m23 := m23.only n_g16_g33 on39
    have xW := Ext.only xW on39 o_g33
    refine WL.yld rfl (blt rfl) rfl (Y.assign rfl rfl) ?_
    refine WL.nil ?_
    refine WK.then_normal (k30 _ _ ?_)
    refine WC.sub [(0, _), (1, _), (7, _), (9, _), (11, _), (12, _)] ⟨rfl, rfl, rfl, rfl, rfl, rfl, trivial⟩ ?_
    refine WC.seq (fun K41 k41 => ?_)
    refine WC.seq (fun K42 k42 => ?_)
    refine WC.region rfl ?_
    refine WL.yld rfl (blt rfl) rfl (Y.move rfl rfl) ?_
    refine WL.yld rfl (blt rfl) rfl (Y.not rfl rfl) ?_
    refine WL.nil ?_
    refine WK.then_normal (k42 _ _ ?_)
    refine WC.sub [(0, _), (1, _), (7, _), (9, _), (11, _), (43, _)] ⟨rfl, rfl, rfl, rfl, rfl, rfl, trivial⟩ ?_
    refine WC.cond rfl (fun h43 => ?_) (fun h43 => ?_)
    ·
      refine WC.seq (fun K44 k44 => ?_)
      refine WC.region rfl ?_
      refine WL.yld rfl (blt rfl) rfl (Y.move rfl rfl) ?_
      refine WL.yld rfl (blt rfl) rfl (Y.move rfl rfl) ?_
      refine WL.yld rfl (blt rfl) rfl (Y.add rfl rfl rfl (wrap_i64 (by first | omega | (dsimp only; omega)))) ?_
      refine WL.yld rfl (blt rfl) rfl (Y.gtr rfl rfl rfl) ?_
      refine WL.yld rfl (blt rfl) rfl (Y.move rfl rfl) ?_
      refine WL.yldG rfl (blt rfl) rfl rfl rfl (fun hb => Y.move rfl rfl) ?_
      refine WL.yldG rfl (blt rfl) rfl rfl rfl (fun hb => Y.move rfl rfl) ?_
      refine WL.yldG rfl (blt rfl) rfl rfl rfl (fun hb => Y.add rfl (evg rfl hb) (evg rfl hb) (wrap_i64 (by first | omega | (dsimp only; omega)))) ?_
      refine WL.yldG rfl (blt rfl) rfl rfl rfl (fun hb => Y.lss rfl (evg rfl hb) rfl) ?_
      refine WL.yld rfl (blt rfl) rfl (Y.or rfl rfl rfl rfl) ?_
      refine WL.yld rfl (blt rfl) rfl (Y.move rfl rfl) ?_
      refine WL.callG rfl (blt rfl) rfl rfl rfl rfl rfl has21 (fun hb => rfl) (fun hb => awake_any _) (fun w45 x46 => ?_)
      have m12 := m12.ext x46
      have m23 := m23.ext x46
      have m40 := m40.ext x46
      have xW := Ext.trans xW x46
      refine WL.yld rfl (blt rfl) rfl (Y.and rfl rfl rfl rfl) ?_
      refine WL.yld rfl (blt rfl) rfl (Y.assign rfl rfl) ?_
      refine WL.nil ?_
      refine WK.then_normal (k44 _ _ ?_)
      refine WC.sub [(6, _)] ⟨rfl, trivial⟩ ?_
      refine WC.ret ?_
      refine WK.then_ret ?_
      clear k1 k2 k13 k24 k25 k30 k41 k42 k44
      refine WK.ret [_] rfl ⟨rfl, trivial⟩ ?_
      refine ⟨ret1 (vb ?_), xW⟩
      first
        | (simp only [Bool.not_eq_true'] at h43; have q := Iv.parts1 h26.1 h43; rcases q with q | q <;> simp [q])
        | (simp only [Bool.not_eq_false'] at h43; have q := Iv.parts2 h26.1 h26.2 h43; have e1 : (Iv.addF ((Iv.stretchF d ppm).1.1, (Iv.stretchF d ppm).1.2) ((Iv.stretchF e ppm).1.1, (Iv.stretchF e ppm).1.2)) = Iv.addF (Iv.stretchF d ppm).1 (Iv.stretchF e ppm).1 := rfl; have q2 : Iv.withinB ((Iv.addF (Iv.stretchF d ppm).1 (Iv.stretchF e ppm).1).1.1, (Iv.addF (Iv.stretchF d ppm).1 (Iv.stretchF e ppm).1).1.2) (Iv.stretchF (d + e) ppm).1.1 = true := q.2.1; have q3 : Iv.withinB ((Iv.addF (Iv.stretchF d ppm).1 (Iv.stretchF e ppm).1).1.1, (Iv.addF (Iv.stretchF d ppm).1 (Iv.stretchF e ppm).1).1.2) (Iv.stretchF (d + e) ppm).1.2 = true := q.2.2; rw [e1, q.1, q2, q3]; rfl)
    ·
      refine WC.skip ?_
      refine WK.then_normal (k41 _ _ ?_)
      refine WC.sub [(7, _), (9, _), (11, _)] ⟨rfl, rfl, rfl, trivial⟩ ?_
      refine WC.seq (fun K47 k47 => ?_)
      refine WC.region rfl ?_
      refine WL.yld rfl (blt rfl) rfl (Y.loadS rfl Try.underlying23 rfl ti23 rfl (Blk.row_eq m12)) ?_
      refine WL.yld rfl (blt rfl) rfl (Y.loadS rfl Try.underlying23 rfl ti23 rfl (Blk.row_eq m23)) ?_
      refine WL.call rfl (blt rfl) rfl rfl rfl has11 rfl (add_any _ _ _ _ _) ?_
      rintro _ w48 ⟨rfl, x49⟩
      refine ⟨_, rfl, ?_⟩
      have m12 := m12.ext x49
      have m23 := m23.ext x49
      have m40 := m40.ext x49
      have xW := Ext.trans xW x49
      refine WL.yld rfl (blt rfl) rfl (Y.move rfl rfl) ?_
      refine WL.yld rfl (blt rfl) rfl (Y.extract rfl rfl rfl) ?_
      refine WL.yld rfl (blt rfl) rfl (Y.extract rfl rfl rfl) ?_
      refine WL.alloc rfl (blt rfl) rfl rfl ti23 rfl ?_
      intro g50 w51 e52 x53 m54
      have n_g5_g50 := ne_new m12 e52
      have n_g16_g50 := ne_new m23 e52
      have n_g33_g50 := ne_new m40 e52
      have o_g50 := own_new xW e52
      have m12 := m12.ext x53
      have m23 := m23.ext x53
      have m40 := m40.ext x53
      have xW := Ext.trans xW x53
      refine WL.store (cs' := [_, _]) rfl rfl rfl rfl rfl rfl ti23 m54 (ble rfl) rfl rfl (fun w55 on56 m57 => ?_)
      have m12 := m12.only n_g5_g50 on56
      have m23 := m23.only n_g16_g50 on56
      have m40 := m40.only n_g33_g50 on56
      have xW := Ext.only xW on56 o_g50
      refine WL.yld rfl (blt rfl) rfl (Y.assign rfl rfl) ?_
      refine WL.nil ?_
      refine WK.then_normal (k47 _ _ ?_)
      refine WC.sub [(11, _), (13, _), (14, _)] ⟨rfl, rfl, rfl, trivial⟩ ?_
      refine WC.seq (fun K58 k58 => ?_)
      refine WC.region rfl ?_
      refine WL.yld rfl (blt rfl) rfl (Y.move rfl rfl) ?_
      refine WL.yld rfl (blt rfl) rfl (Y.move rfl rfl) ?_
      refine WL.yldG rfl (blt rfl) rfl rfl rfl (fun hb => Y.loadS rfl Try.underlying23 rfl ti23 rfl (Blk.row_eq m57)) ?_
      refine WL.yldG rfl (blt rfl) rfl rfl rfl (fun hb => Y.fieldAddr rfl Try.underlying23 rfl ti3 (by decide) rfl) ?_
      refine WL.yldG rfl (blt rfl) rfl rfl rfl (fun hb => Y.load1 rfl Try.underlying3 rfl (evg rfl hb) (Blk.at_eq m40 rfl)) ?_
      refine WL.callG rfl (blt rfl) rfl rfl rfl rfl rfl has19 (fun hb => (evs_cons (evg rfl hb) (evs_cons (evg rfl hb) evs_nil))) (fun hb => within_any _ _ _ _) (fun w59 x60 => ?_)
      have m40 := m40.ext x60
      have m57 := m57.ext x60
      have xW := Ext.trans xW x60
      refine WL.yld rfl (blt rfl) rfl (Y.and rfl rfl rfl rfl) ?_
      refine WL.yld rfl (blt rfl) rfl (Y.move rfl rfl) ?_
      refine WL.yldG rfl (blt rfl) rfl rfl rfl (fun hb => Y.loadS rfl Try.underlying23 rfl ti23 rfl (Blk.row_eq m57)) ?_
      refine WL.yldG rfl (blt rfl) rfl rfl rfl (fun hb => Y.fieldAddr rfl Try.underlying23 rfl ti3 (by decide) rfl) ?_
      refine WL.yldG rfl (blt rfl) rfl rfl rfl (fun hb => Y.load1 rfl Try.underlying3 rfl (evg rfl hb) (Blk.at_eq m40 rfl)) ?_
      refine WL.callG rfl (blt rfl) rfl rfl rfl rfl rfl has19 (fun hb => (evs_cons (evg rfl hb) (evs_cons (evg rfl hb) evs_nil))) (fun hb => within_any _ _ _ _) (fun w61 x62 => ?_)
      have m40 := m40.ext x62
      have m57 := m57.ext x62
      have xW := Ext.trans xW x62
      refine WL.yld rfl (blt rfl) rfl (Y.and rfl rfl rfl rfl) ?_
      refine WL.yld rfl (blt rfl) rfl (Y.move rfl rfl) ?_
      refine WL.callG rfl (blt rfl) rfl rfl rfl rfl rfl has21 (fun hb => rfl) (fun hb => awake_any _) (fun w63 x64 => ?_)
      have m40 := m40.ext x64
      have m57 := m57.ext x64
      have xW := Ext.trans xW x64
      refine WL.yld rfl (blt rfl) rfl (Y.and rfl rfl rfl rfl) ?_
      refine WL.yld rfl (blt rfl) rfl (Y.assign rfl rfl) ?_
      refine WL.nil ?_
      refine WK.then_normal (k58 _ _ ?_)
      refine WC.sub [(6, _)] ⟨rfl, trivial⟩ ?_
      refine WC.ret ?_
      clear k1 k2 k13 k24 k25 k30 k41 k42 k47 k58
      refine WK.ret [_] rfl ⟨rfl, trivial⟩ ?_
      refine ⟨ret1 (vb ?_), xW⟩
      first
        | (simp only [Bool.not_eq_true'] at h43; have q := Iv.parts1 h26.1 h43; rcases q with q | q <;> simp [q])
        | (simp only [Bool.not_eq_false'] at h43; have q := Iv.parts2 h26.1 h26.2 h43; have e1 : (Iv.addF ((Iv.stretchF d ppm).1.1, (Iv.stretchF d ppm).1.2) ((Iv.stretchF e ppm).1.1, (Iv.stretchF e ppm).1.2)) = Iv.addF (Iv.stretchF d ppm).1 (Iv.stretchF e ppm).1 := rfl; have q2 : Iv.withinB ((Iv.addF (Iv.stretchF d ppm).1 (Iv.stretchF e ppm).1).1.1, (Iv.addF (Iv.stretchF d ppm).1 (Iv.stretchF e ppm).1).1.2) (Iv.stretchF (d + e) ppm).1.1 = true := q.2.1; have q3 : Iv.withinB ((Iv.addF (Iv.stretchF d ppm).1 (Iv.stretchF e ppm).1).1.1, (Iv.addF (Iv.stretchF d ppm).1 (Iv.stretchF e ppm).1).1.2) (Iv.stretchF (d + e) ppm).1.2 = true := q.2.2; rw [e1, q.1, q2, q3]; rfl)
end C
end LawA

end Go.Proofs.Ytjbbpcgegemoiaa
