/- Contracts: comparing, equal lists. Conditions: what each theorem states. -/
import Derived.Test.YtbdfhiihaemjhaaItSpec
import Derived.Test.YtbdfhiihaemjhaaIn
import Derived.Test.YtbdfhiihaemjhaaRows
namespace Go.Proofs.Ytbdfhiihaemjhaa
open Go Go.Eng Go.RowKit
set_option linter.unusedVariables false
namespace ItW
theorem ti3 : TI Try.prog 3 (.int .i64 0) 1 8 := TI.mk (by kernel_rfl)
theorem ti32 : TI Try.prog 32 (.agg #[.int .i64 0, .int .i64 0]) 2 16 := TI.mk (by kernel_rfl)
theorem has25 : Has Try.prog 25 := ⟨_, Try.func25, rfl, by kernel_rfl⟩
theorem has26 : Has Try.prog 26 := ⟨_, Try.func26, rfl, by kernel_rfl⟩
theorem has33 : Has Try.prog 33 := ⟨_, Try.func33, rfl, by kernel_rfl⟩
theorem has39 : Has Try.prog 39 := ⟨_, Try.func39, rfl, by kernel_rfl⟩
theorem pl32 : PL Try.prog 32 [.int .i64 0, .int .i64 0] [(0, 1), (1, 1)] := PL.mk (zero := [.int .i64 0, .int .i64 0]) ti32 Try.underlying32 (by kernel_rfl)
theorem valid_any (x : Sp.S) (w : World) :
    Calls Try.prog 56 #[.agg #[.int .i64 x.f, .int .i64 x.t]] w fun e w' => e = .returned (.bool (Sp.ok x)) ∧ Ext w w' := by
  have xW := Ext.refl w
  refine calls_of_WC (args := [.agg #[.int .i64 x.f, .int .i64 x.t]]) Try.func56 rfl rfl (ble rfl) ?_
  refine WC.seq (fun K1 k1 => ?_)
  refine WC.region rfl ?_
  refine WL.box rfl (blt rfl) rfl rfl rfl rfl ?_
  intro g2 w3 e4 x5 m6
  have o_g2 := own_new xW e4
  have xW := Ext.trans xW x5
  refine WL.yld rfl (blt rfl) rfl (Y.assign rfl rfl) ?_
  refine WL.nil ?_
  refine WK.then_normal (k1 _ _ ?_)
  refine WC.sub [(1, _)] ⟨rfl, trivial⟩ ?_
  refine WC.seq (fun K7 k7 => ?_)
  refine WC.region rfl ?_
  refine WL.yld rfl (blt rfl) rfl (Y.fieldAddr rfl Try.underlying32 rfl ti3 (by decide) rfl) ?_
  refine WL.yld rfl (blt rfl) rfl (Y.load1 rfl Try.underlying3 rfl rfl (Blk.at_eq m6 rfl)) ?_
  refine WL.yld rfl (blt rfl) rfl (Y.geq rfl rfl rfl) ?_
  refine WL.yld rfl (blt rfl) rfl (Y.move rfl rfl) ?_
  refine WL.yldG rfl (blt rfl) rfl rfl rfl (fun hb => Y.fieldAddr rfl Try.underlying32 rfl ti3 (by decide) rfl) ?_
  refine WL.yldG rfl (blt rfl) rfl rfl rfl (fun hb => Y.load1 rfl Try.underlying3 rfl (evg rfl hb) (Blk.at_eq m6 rfl)) ?_
  refine WL.yldG rfl (blt rfl) rfl rfl rfl (fun hb => Y.fieldAddr rfl Try.underlying32 rfl ti3 (by decide) rfl) ?_
  refine WL.yldG rfl (blt rfl) rfl rfl rfl (fun hb => Y.load1 rfl Try.underlying3 rfl (evg rfl hb) (Blk.at_eq m6 rfl)) ?_
  refine WL.yldG rfl (blt rfl) rfl rfl rfl (fun hb => Y.lss rfl (evg rfl hb) (evg rfl hb)) ?_
  refine WL.yld rfl (blt rfl) rfl (Y.and rfl rfl rfl rfl) ?_
  refine WL.yld rfl (blt rfl) rfl (Y.move rfl rfl) ?_
  refine WL.yldG rfl (blt rfl) rfl rfl rfl (fun hb => Y.fieldAddr rfl Try.underlying32 rfl ti3 (by decide) rfl) ?_
  refine WL.yldG rfl (blt rfl) rfl rfl rfl (fun hb => Y.load1 rfl Try.underlying3 rfl (evg rfl hb) (Blk.at_eq m6 rfl)) ?_
  refine WL.yldG rfl (blt rfl) rfl rfl rfl (fun hb => Y.leq rfl (evg rfl hb) rfl) ?_
  refine WL.yld rfl (blt rfl) rfl (Y.and rfl rfl rfl rfl) ?_
  refine WL.yld rfl (blt rfl) rfl (Y.assign rfl rfl) ?_
  refine WL.nil ?_
  refine WK.then_normal (k7 _ _ ?_)
  refine WC.sub [(2, _)] ⟨rfl, trivial⟩ ?_
  refine WC.ret ?_
  clear k1 k7
  refine WK.ret [_] rfl ⟨rfl, trivial⟩ ?_
  exact ⟨rfl, xW⟩
theorem rvalid_any (x : Sp.S) (w : World) :
    Calls Try.prog 33 #[.agg #[.int .i64 x.f, .int .i64 x.t]] w fun e w' => e = .returned (.bool (Sp.ok x)) ∧ Ext w w' := by
  have xW := Ext.refl w
  refine calls_of_WC (args := [.agg #[.int .i64 x.f, .int .i64 x.t]]) Try.func33 rfl rfl (ble rfl) ?_
  refine WC.seq (fun K1 k1 => ?_)
  refine WC.region rfl ?_
  refine WL.box rfl (blt rfl) rfl rfl rfl rfl ?_
  intro g2 w3 e4 x5 m6
  have o_g2 := own_new xW e4
  have xW := Ext.trans xW x5
  refine WL.yld rfl (blt rfl) rfl (Y.assign rfl rfl) ?_
  refine WL.nil ?_
  refine WK.then_normal (k1 _ _ ?_)
  refine WC.sub [(1, _)] ⟨rfl, trivial⟩ ?_
  refine WC.seq (fun K7 k7 => ?_)
  refine WC.region rfl ?_
  refine WL.yld rfl (blt rfl) rfl (Y.fieldAddr rfl Try.underlying32 rfl ti3 (by decide) rfl) ?_
  refine WL.yld rfl (blt rfl) rfl (Y.load1 rfl Try.underlying3 rfl rfl (Blk.at_eq m6 rfl)) ?_
  refine WL.yld rfl (blt rfl) rfl (Y.geq rfl rfl rfl) ?_
  refine WL.yld rfl (blt rfl) rfl (Y.move rfl rfl) ?_
  refine WL.yldG rfl (blt rfl) rfl rfl rfl (fun hb => Y.fieldAddr rfl Try.underlying32 rfl ti3 (by decide) rfl) ?_
  refine WL.yldG rfl (blt rfl) rfl rfl rfl (fun hb => Y.load1 rfl Try.underlying3 rfl (evg rfl hb) (Blk.at_eq m6 rfl)) ?_
  refine WL.yldG rfl (blt rfl) rfl rfl rfl (fun hb => Y.fieldAddr rfl Try.underlying32 rfl ti3 (by decide) rfl) ?_
  refine WL.yldG rfl (blt rfl) rfl rfl rfl (fun hb => Y.load1 rfl Try.underlying3 rfl (evg rfl hb) (Blk.at_eq m6 rfl)) ?_
  refine WL.yldG rfl (blt rfl) rfl rfl rfl (fun hb => Y.lss rfl (evg rfl hb) (evg rfl hb)) ?_
  refine WL.yld rfl (blt rfl) rfl (Y.and rfl rfl rfl rfl) ?_
  refine WL.yld rfl (blt rfl) rfl (Y.move rfl rfl) ?_
  refine WL.yldG rfl (blt rfl) rfl rfl rfl (fun hb => Y.fieldAddr rfl Try.underlying32 rfl ti3 (by decide) rfl) ?_
  refine WL.yldG rfl (blt rfl) rfl rfl rfl (fun hb => Y.load1 rfl Try.underlying3 rfl (evg rfl hb) (Blk.at_eq m6 rfl)) ?_
  refine WL.yldG rfl (blt rfl) rfl rfl rfl (fun hb => Y.leq rfl (evg rfl hb) rfl) ?_
  refine WL.yld rfl (blt rfl) rfl (Y.and rfl rfl rfl rfl) ?_
  refine WL.yld rfl (blt rfl) rfl (Y.assign rfl rfl) ?_
  refine WL.nil ?_
  refine WK.then_normal (k7 _ _ ?_)
  refine WC.sub [(2, _)] ⟨rfl, trivial⟩ ?_
  refine WC.ret ?_
  clear k1 k7
  refine WK.ret [_] rfl ⟨rfl, trivial⟩ ?_
  exact ⟨rfl, xW⟩
theorem common_any (x : Sp.S) (y : Sp.S) (w : World) :
    Calls Try.prog 32 #[.agg #[.int .i64 x.f, .int .i64 x.t], .agg #[.int .i64 y.f, .int .i64 y.t]] w fun e w' => e = .returned (.bool (It.cm x y)) ∧ Ext w w' := by
  have xW := Ext.refl w
  refine calls_of_WC (args := [.agg #[.int .i64 x.f, .int .i64 x.t], .agg #[.int .i64 y.f, .int .i64 y.t]]) Try.func32 rfl rfl (ble rfl) ?_
  refine WC.seq (fun K1 k1 => ?_)
  refine WC.region rfl ?_
  refine WL.box rfl (blt rfl) rfl rfl rfl rfl ?_
  intro g2 w3 e4 x5 m6
  have o_g2 := own_new xW e4
  have xW := Ext.trans xW x5
  refine WL.box rfl (blt rfl) rfl rfl rfl rfl ?_
  intro g7 w8 e9 x10 m11
  have n_g2_g7 := ne_new m6 e9
  have o_g7 := own_new xW e9
  have m6 := m6.ext x10
  have xW := Ext.trans xW x10
  refine WL.yld rfl (blt rfl) rfl (Y.assign rfl rfl) ?_
  refine WL.nil ?_
  refine WK.then_normal (k1 _ _ ?_)
  refine WC.sub [(2, _), (3, _)] ⟨rfl, rfl, trivial⟩ ?_
  refine WC.seq (fun K12 k12 => ?_)
  refine WC.region rfl ?_
  refine WL.yld rfl (blt rfl) rfl (Y.loadS rfl Try.underlying32 rfl ti32 rfl (Blk.row_eq m6)) ?_
  refine WL.call rfl (blt rfl) rfl rfl rfl has33 rfl (rvalid_any _ _ ) ?_
  rintro _ w13 ⟨rfl, x14⟩
  refine ⟨_, rfl, ?_⟩
  have m6 := m6.ext x14
  have m11 := m11.ext x14
  have xW := Ext.trans xW x14
  refine WL.yld rfl (blt rfl) rfl (Y.move rfl rfl) ?_
  refine WL.yldG rfl (blt rfl) rfl rfl rfl (fun hb => Y.loadS rfl Try.underlying32 rfl ti32 rfl (Blk.row_eq m11)) ?_
  refine WL.callG rfl (blt rfl) rfl rfl rfl rfl rfl has33 (fun hb => (evs_cons (evg rfl hb) evs_nil)) (fun hb => rvalid_any _ _ ) (fun w15 x16 => ?_)
  have m6 := m6.ext x16
  have m11 := m11.ext x16
  have xW := Ext.trans xW x16
  refine WL.yld rfl (blt rfl) rfl (Y.and rfl rfl rfl rfl) ?_
  refine WL.yld rfl (blt rfl) rfl (Y.move rfl rfl) ?_
  refine WL.yldG rfl (blt rfl) rfl rfl rfl (fun hb => Y.fieldAddr rfl Try.underlying32 rfl ti3 (by decide) rfl) ?_
  refine WL.yldG rfl (blt rfl) rfl rfl rfl (fun hb => Y.load1 rfl Try.underlying3 rfl (evg rfl hb) (Blk.at_eq m6 rfl)) ?_
  refine WL.yldG rfl (blt rfl) rfl rfl rfl (fun hb => Y.fieldAddr rfl Try.underlying32 rfl ti3 (by decide) rfl) ?_
  refine WL.yldG rfl (blt rfl) rfl rfl rfl (fun hb => Y.load1 rfl Try.underlying3 rfl (evg rfl hb) (Blk.at_eq m11 rfl)) ?_
  refine WL.yldG rfl (blt rfl) rfl rfl rfl (fun hb => Y.lss rfl (evg rfl hb) (evg rfl hb)) ?_
  refine WL.yld rfl (blt rfl) rfl (Y.and rfl rfl rfl rfl) ?_
  refine WL.yld rfl (blt rfl) rfl (Y.move rfl rfl) ?_
  refine WL.yldG rfl (blt rfl) rfl rfl rfl (fun hb => Y.fieldAddr rfl Try.underlying32 rfl ti3 (by decide) rfl) ?_
  refine WL.yldG rfl (blt rfl) rfl rfl rfl (fun hb => Y.load1 rfl Try.underlying3 rfl (evg rfl hb) (Blk.at_eq m11 rfl)) ?_
  refine WL.yldG rfl (blt rfl) rfl rfl rfl (fun hb => Y.fieldAddr rfl Try.underlying32 rfl ti3 (by decide) rfl) ?_
  refine WL.yldG rfl (blt rfl) rfl rfl rfl (fun hb => Y.load1 rfl Try.underlying3 rfl (evg rfl hb) (Blk.at_eq m6 rfl)) ?_
  refine WL.yldG rfl (blt rfl) rfl rfl rfl (fun hb => Y.lss rfl (evg rfl hb) (evg rfl hb)) ?_
  refine WL.yld rfl (blt rfl) rfl (Y.and rfl rfl rfl rfl) ?_
  refine WL.yld rfl (blt rfl) rfl (Y.assign rfl rfl) ?_
  refine WL.nil ?_
  refine WK.then_normal (k12 _ _ ?_)
  refine WC.sub [(4, _)] ⟨rfl, trivial⟩ ?_
  refine WC.ret ?_
  clear k1 k12
  refine WK.ret [_] rfl ⟨rfl, trivial⟩ ?_
  exact ⟨rfl, xW⟩
theorem of_any (a : Int) (b : Int) (w : World) :
    Calls Try.prog 22 #[.int .i64 a, .int .i64 b] w fun e w' => e = .returned (.agg #[.int .i64 a, .int .i64 b]) ∧ Ext w w' := by
  have xW := Ext.refl w
  refine calls_of_WC (args := [.int .i64 a, .int .i64 b]) Try.func22 rfl rfl (ble rfl) ?_
  refine WC.seq (fun K1 k1 => ?_)
  refine WC.region rfl ?_
  refine WL.alloc rfl (blt rfl) rfl rfl ti32 rfl ?_
  intro g2 w3 e4 x5 m6
  have o_g2 := own_new xW e4
  have xW := Ext.trans xW x5
  refine WL.nil ?_
  refine WK.then_normal (k1 _ _ ?_)
  refine WC.seq (fun K7 k7 => ?_)
  refine WC.region rfl ?_
  refine WL.yld rfl (blt rfl) rfl (Y.move rfl rfl) ?_
  refine WL.yld rfl (blt rfl) rfl (Y.move rfl rfl) ?_
  refine WL.yld rfl (blt rfl) rfl (Y.build (cells := [_, _]) rfl pl32 rfl rfl) ?_
  refine WL.store (cs' := [_, _]) rfl rfl rfl rfl rfl rfl ti32 m6 (ble rfl) rfl rfl (fun w8 on9 m10 => ?_)
  have xW := Ext.only xW on9 o_g2
  refine WL.nil ?_
  refine WK.then_normal (k7 _ _ ?_)
  refine WC.sub [(4, _)] ⟨rfl, trivial⟩ ?_
  refine WC.ret ?_
  clear k1 k7
  refine WK.ret [_] rfl ⟨⟨_, rfl, run_loadVar_blk Try.underlying32 rfl ti32 m10⟩, trivial⟩ ?_
  exact ⟨rfl, xW⟩
theorem isnan_any (x : Int) (w : World) :
    Calls Try.prog 39 #[.int .i64 x] w fun e w' => e = .returned (.bool false) ∧ Ext w w' := by
  have xW := Ext.refl w
  refine calls_of_WC (args := [.int .i64 x]) Try.func39 rfl rfl (ble rfl) ?_
  refine WC.seq (fun K1 k1 => ?_)
  refine WC.region rfl ?_
  refine WL.yld rfl (blt rfl) rfl (Y.assign rfl rfl) ?_
  refine WL.nil ?_
  refine WK.then_normal (k1 _ _ ?_)
  refine WC.sub [(0, _)] ⟨rfl, trivial⟩ ?_
  refine WC.seq (fun K2 k2 => ?_)
  refine WC.region rfl ?_
  refine WL.yld rfl (blt rfl) rfl (Y.move rfl rfl) ?_
  refine WL.yld rfl (blt rfl) rfl (Y.move rfl rfl) ?_
  refine WL.yld rfl (blt rfl) rfl (Y.neq rfl rfl rfl) ?_
  refine WL.yld rfl (blt rfl) rfl (Y.assign rfl rfl) ?_
  refine WL.nil ?_
  refine WK.then_normal (k2 _ _ ?_)
  refine WC.sub [(2, _)] ⟨rfl, trivial⟩ ?_
  refine WC.ret ?_
  clear k1 k2
  refine WK.ret [_] rfl ⟨rfl, trivial⟩ ?_
  exact ⟨ret1 (vb (by simp)), xW⟩
theorem compare_any (x : Int) (y : Int) (w : World) :
    Calls Try.prog 26 #[.int .i64 x, .int .i64 y] w fun e w' => e = .returned (.int .i64 (It.cmpI x y)) ∧ Ext w w' := by
  have xW := Ext.refl w
  refine calls_of_WC (args := [.int .i64 x, .int .i64 y]) Try.func26 rfl rfl (ble rfl) ?_
  refine WC.seq (fun K1 k1 => ?_)
  refine WC.region rfl ?_
  refine WL.yld rfl (blt rfl) rfl (Y.assign rfl rfl) ?_
  refine WL.nil ?_
  refine WK.then_normal (k1 _ _ ?_)
  refine WC.sub [(0, _), (1, _)] ⟨rfl, rfl, trivial⟩ ?_
  refine WC.seq (fun K2 k2 => ?_)
  refine WC.region rfl ?_
  refine WL.yld rfl (blt rfl) rfl (Y.move rfl rfl) ?_
  refine WL.call rfl (blt rfl) rfl rfl rfl has39 rfl (isnan_any _ _ ) ?_
  rintro _ w3 ⟨rfl, x4⟩
  refine ⟨_, rfl, ?_⟩
  have xW := Ext.trans xW x4
  refine WL.yld rfl (blt rfl) rfl (Y.assign rfl rfl) ?_
  refine WL.nil ?_
  refine WK.then_normal (k2 _ _ ?_)
  refine WC.sub [(0, _), (1, _), (5, _)] ⟨rfl, rfl, rfl, trivial⟩ ?_
  refine WC.seq (fun K5 k5 => ?_)
  refine WC.region rfl ?_
  refine WL.yld rfl (blt rfl) rfl (Y.move rfl rfl) ?_
  refine WL.call rfl (blt rfl) rfl rfl rfl has39 rfl (isnan_any _ _ ) ?_
  rintro _ w6 ⟨rfl, x7⟩
  refine ⟨_, rfl, ?_⟩
  have xW := Ext.trans xW x7
  refine WL.yld rfl (blt rfl) rfl (Y.assign rfl rfl) ?_
  refine WL.nil ?_
  refine WK.then_normal (k5 _ _ ?_)
  refine WC.sub [(0, _), (1, _), (5, _), (6, _)] ⟨rfl, rfl, rfl, rfl, trivial⟩ ?_
  refine WC.seq (fun K8 k8 => ?_)
  refine WC.seq (fun K9 k9 => ?_)
  refine WC.region rfl ?_
  refine WL.yld rfl (blt rfl) rfl (Y.move rfl rfl) ?_
  refine WL.nil ?_
  refine WK.then_normal (k9 _ _ ?_)
  refine WC.sub [(0, _), (1, _), (6, _), (11, _)] ⟨rfl, rfl, rfl, rfl, trivial⟩ ?_
  refine WC.condF rfl ?_
  refine WC.skip ?_
  refine WK.then_normal (k8 _ _ ?_)
  refine WC.sub [(0, _), (1, _), (6, _)] ⟨rfl, rfl, rfl, trivial⟩ ?_
  refine WC.seq (fun K10 k10 => ?_)
  refine WC.seq (fun K11 k11 => ?_)
  refine WC.region rfl ?_
  refine WL.yld rfl (blt rfl) rfl (Y.move rfl rfl) ?_
  refine WL.nil ?_
  refine WK.then_normal (k11 _ _ ?_)
  refine WC.sub [(0, _), (1, _), (13, _)] ⟨rfl, rfl, rfl, trivial⟩ ?_
  refine WC.condF rfl ?_
  refine WC.skip ?_
  refine WK.then_normal (k10 _ _ ?_)
  refine WC.sub [(0, _), (1, _)] ⟨rfl, rfl, trivial⟩ ?_
  refine WC.seq (fun K12 k12 => ?_)
  refine WC.seq (fun K13 k13 => ?_)
  refine WC.region rfl ?_
  refine WL.yld rfl (blt rfl) rfl (Y.move rfl rfl) ?_
  refine WL.yld rfl (blt rfl) rfl (Y.move rfl rfl) ?_
  refine WL.yld rfl (blt rfl) rfl (Y.lss rfl rfl rfl) ?_
  refine WL.nil ?_
  refine WK.then_normal (k13 _ _ ?_)
  refine WC.sub [(0, _), (1, _), (16, _)] ⟨rfl, rfl, rfl, trivial⟩ ?_
  refine WC.cond rfl (fun h14 => ?_) (fun h14 => ?_)
  ·
    have p14 := (dec_t h14)
    refine WC.seq (fun K15 k15 => ?_)
    refine WC.region rfl ?_
    refine WL.yld rfl (blt rfl) rfl (Y.assign rfl rfl) ?_
    refine WL.nil ?_
    refine WK.then_normal (k15 _ _ ?_)
    refine WC.sub [(4, _)] ⟨rfl, trivial⟩ ?_
    refine WC.ret ?_
    refine WK.then_ret ?_
    clear k1 k2 k5 k8 k9 k10 k11 k12 k13 k15
    refine WK.ret [_] rfl ⟨rfl, trivial⟩ ?_
    refine ⟨ret1 (vi ?_), xW⟩
    unfold It.cmpI; rw [if_pos (dec_t h14)]
  ·
    have p14 := (dec_f h14)
    refine WC.skip ?_
    refine WK.then_normal (k12 _ _ ?_)
    refine WC.sub [(0, _), (1, _)] ⟨rfl, rfl, trivial⟩ ?_
    refine WC.seq (fun K16 k16 => ?_)
    refine WC.seq (fun K17 k17 => ?_)
    refine WC.region rfl ?_
    refine WL.yld rfl (blt rfl) rfl (Y.move rfl rfl) ?_
    refine WL.yld rfl (blt rfl) rfl (Y.move rfl rfl) ?_
    refine WL.yld rfl (blt rfl) rfl (Y.gtr rfl rfl rfl) ?_
    refine WL.nil ?_
    refine WK.then_normal (k17 _ _ ?_)
    refine WC.sub [(19, _)] ⟨rfl, trivial⟩ ?_
    refine WC.cond rfl (fun h18 => ?_) (fun h18 => ?_)
    ·
      have p18 := (dec_t h18)
      refine WC.seq (fun K19 k19 => ?_)
      refine WC.region rfl ?_
      refine WL.yld rfl (blt rfl) rfl (Y.assign rfl rfl) ?_
      refine WL.nil ?_
      refine WK.then_normal (k19 _ _ ?_)
      refine WC.sub [(4, _)] ⟨rfl, trivial⟩ ?_
      refine WC.ret ?_
      refine WK.then_ret ?_
      clear k1 k2 k5 k8 k9 k10 k11 k12 k13 k16 k17 k19
      refine WK.ret [_] rfl ⟨rfl, trivial⟩ ?_
      refine ⟨ret1 (vi ?_), xW⟩
      unfold It.cmpI; rw [if_neg (dec_f h14), if_pos (dec_t h18)]
    ·
      have p18 := (dec_f h18)
      refine WC.skip ?_
      refine WK.then_normal (k16 _ _ ?_)
      refine WC.sub [] trivial ?_
      refine WC.seq (fun K20 k20 => ?_)
      refine WC.region rfl ?_
      refine WL.yld rfl (blt rfl) rfl (Y.assign rfl rfl) ?_
      refine WL.nil ?_
      refine WK.then_normal (k20 _ _ ?_)
      refine WC.ret ?_
      clear k1 k2 k5 k8 k9 k10 k11 k12 k13 k16 k17 k20
      refine WK.ret [_] rfl ⟨rfl, trivial⟩ ?_
      refine ⟨ret1 (vi ?_), xW⟩
      unfold It.cmpI; rw [if_neg (dec_f h14), if_neg (dec_f h18)]
theorem or_any (A_l : Option Addr) (n_l c_l : Nat) (l : List Int) (w : World) (h_l : Ls w A_l n_l c_l Sp.ic 1 l) :
    Calls Try.prog 25 #[.slice A_l n_l c_l] w fun e w' => e = .returned (.int .i64 (It.orL l)) ∧ Ext w w' := by
  have xW := Ext.refl w
  have e_l := h_l.len
  have z_l := h_l.nle
  refine calls_of_WC (args := [.slice A_l n_l c_l]) Try.func25 rfl rfl (ble rfl) ?_
  refine WC.seq (fun K1 k1 => ?_)
  refine WC.region rfl ?_
  refine WL.yld rfl (blt rfl) rfl (Y.assign rfl rfl) ?_
  refine WL.nil ?_
  refine WK.then_normal (k1 _ _ ?_)
  refine WC.sub [(0, _)] ⟨rfl, trivial⟩ ?_
  refine WC.seq (fun K2 k2 => ?_)
  refine WC.region rfl ?_
  refine WL.yld rfl (blt rfl) rfl (Y.assign rfl rfl) ?_
  refine WL.nil ?_
  refine WK.then_normal (k2 _ _ ?_)
  refine WC.seq (fun K3 k3 => ?_)
  refine WC.seq (fun K4 k4 => ?_)
  refine WC.region rfl ?_
  refine WL.yld rfl (blt rfl) rfl (Y.move rfl rfl) ?_
  refine WL.yld rfl (blt rfl) rfl (Y.lenSl rfl rfl rfl Try.underlying24 rfl) ?_
  refine WL.yld rfl (blt rfl) rfl (Y.move rfl rfl) ?_
  refine WL.nil ?_
  refine WK.then_normal (k4 _ _ ?_)
  refine WC.sub [(3, _), (6, _), (7, _), (8, _)] ⟨rfl, rfl, rfl, rfl, trivial⟩ ?_
  refine WC.block ?_
  refine WC.sub [(8, _), (3, _), (6, _), (7, _)] ⟨rfl, rfl, rfl, rfl, trivial⟩ ?_
  refine WC.loopS 1 (fun mz Ed W' => ∃ i : Nat, mz = n_l - i ∧ Ed = [(8, .int .i64 ((i : Nat) : Int))] ∧ Ext w W' ∧ (i ≤ n_l) ∧ (∀ j, j < i → l[j]! = 0)) _ ⟨0, rfl, rfl, xW, (Nat.zero_le _), (fun j hj => absurd hj (Nat.not_lt_zero j))⟩ ?_
  rintro _ _ w5 ⟨i, rfl, rfl, xW, le_i, inv_i⟩
  refine WC.sub [(8, _), (3, _), (6, _), (7, _)] ⟨rfl, rfl, rfl, rfl, trivial⟩ ?_
  refine WC.seq (fun K6 k6 => ?_)
  refine WC.region rfl ?_
  refine WL.yld rfl (blt rfl) rfl (Y.lss rfl rfl rfl) ?_
  refine WL.nil ?_
  refine WK.then_normal (k6 _ _ ?_)
  refine WC.seq (fun K7 k7 => ?_)
  refine WC.cond rfl (fun h8 => ?_) (fun h8 => ?_)
  ·
    have p8 := (dec_t h8)
    refine WC.skip ?_
    refine WK.then_normal (k7 _ _ ?_)
    refine WC.sub [(3, _), (6, _), (7, _), (8, _)] ⟨rfl, rfl, rfl, rfl, trivial⟩ ?_
    refine WC.seq (fun K9 k9 => ?_)
    refine WC.block ?_
    refine WC.seq (fun K10 k10 => ?_)
    refine WC.region rfl ?_
    have b11 : i < n_l := by omega
    refine WL.yld rfl (blt rfl) rfl (Y.indexLs i (h_l.ext xW) rfl Try.underlying24 ti3 rfl rfl rfl b11) ?_
    refine WL.yld rfl (blt rfl) rfl (Y.load1 rfl Try.underlying3 rfl rfl (Ls.at_eq (h_l.ext xW) b11 rfl)) ?_
    refine WL.yld rfl (blt rfl) rfl (Y.assign rfl rfl) ?_
    refine WL.nil ?_
    refine WK.then_normal (k10 _ _ ?_)
    refine WC.sub [(3, _), (5, _), (6, _), (7, _), (8, _)] ⟨rfl, rfl, rfl, rfl, rfl, trivial⟩ ?_
    refine WC.seq (fun K12 k12 => ?_)
    refine WC.region rfl ?_
    refine WL.yld rfl (blt rfl) rfl (Y.move rfl rfl) ?_
    refine WL.yld rfl (blt rfl) rfl (Y.move rfl rfl) ?_
    refine WL.yld rfl (blt rfl) rfl (Y.neq rfl rfl rfl) ?_
    refine WL.nil ?_
    refine WK.then_normal (k12 _ _ ?_)
    refine WC.sub [(3, _), (5, _), (6, _), (7, _), (8, _), (14, _)] ⟨rfl, rfl, rfl, rfl, rfl, rfl, trivial⟩ ?_
    refine WC.cond rfl (fun h13 => ?_) (fun h13 => ?_)
    ·
      have p13 := (eq_f (not_t h13))
      refine WC.seq (fun K14 k14 => ?_)
      refine WC.region rfl ?_
      refine WL.yld rfl (blt rfl) rfl (Y.move rfl rfl) ?_
      refine WL.yld rfl (blt rfl) rfl (Y.assign rfl rfl) ?_
      refine WL.nil ?_
      refine WK.then_normal (k14 _ _ ?_)
      refine WC.sub [(2, _)] ⟨rfl, trivial⟩ ?_
      refine WC.ret ?_
      refine WK.in_ret ?_
      refine WK.then_ret ?_
      refine WK.then_ret ?_
      refine WK.in_ret ?_
      refine WK.then_ret ?_
      clear k1 k2 k3 k4 k6 k7 k9 k10 k12 k14
      refine WK.ret [_] rfl ⟨rfl, trivial⟩ ?_
      exact ⟨ret1 (vi (It.orL_hit (show i < l.length from by omega) h13 inv_i).symm), xW⟩
    ·
      have p13 := (eq_t (not_f h13))
      refine WC.skip ?_
      refine WK.in_normal ?_
      refine WK.then_normal (k9 _ _ ?_)
      refine WC.sub [(3, _), (6, _), (7, _), (8, _)] ⟨rfl, rfl, rfl, rfl, trivial⟩ ?_
      refine WC.region rfl ?_
      refine WL.yld rfl (blt rfl) rfl (Y.add rfl rfl rfl (wrap_i64 (by first | omega | (dsimp only; omega)))) ?_
      refine WL.yld rfl (blt rfl) rfl (Y.move rfl rfl) ?_
      refine WL.nil ?_
      refine WK.roundS _ [(8, .int .i64 (((i + 1) : Nat) : Int))] ⟨rfl, rfl, rfl, rfl, trivial⟩ ?_ ⟨(i + 1), rfl, rfl, xW, (by omega), (fun j hj => by rcases Nat.lt_succ_iff_lt_or_eq.1 hj with h | h; exact inv_i j h; subst h; exact eq_t (not_f h13))⟩
      show _ - (i + 1) < _ - i; omega
  ·
    have p8 := (dec_f h8)
    refine WC.exit ?_
    refine WK.then_exit ?_
    refine WK.then_exit ?_
    refine WK.in_exit ?_
    refine WK.then_normal (k3 _ _ ?_)
    refine WC.sub [(3, _)] ⟨rfl, trivial⟩ ?_
    refine WC.seq (fun K15 k15 => ?_)
    refine WC.region rfl ?_
    refine WL.yld rfl (blt rfl) rfl (Y.move rfl rfl) ?_
    refine WL.yld rfl (blt rfl) rfl (Y.assign rfl rfl) ?_
    refine WL.nil ?_
    refine WK.then_normal (k15 _ _ ?_)
    refine WC.sub [(2, _)] ⟨rfl, trivial⟩ ?_
    refine WC.ret ?_
    clear k1 k2 k3 k4 k6 k7 k15
    refine WK.ret [_] rfl ⟨rfl, trivial⟩ ?_
    exact ⟨ret1 (vi (It.orL_none fun j hj => inv_i j (by omega)).symm), xW⟩
theorem less_any (a b g0 : Nat) (A_l : Option Addr) (n_l c_l : Nat) (l : List Sp.S) (w : World) (m0 : Blk w g0 22 [.slice A_l n_l c_l]) (h_l : Ls w A_l n_l c_l Sp.S.c 2 l) (ha : a < n_l) (hb : b < n_l) :
    Calls Try.prog 24 #[.int .i64 ((a : Nat) : Int), .int .i64 ((b : Nat) : Int), .pointer (some ⟨g0, 0, none⟩)] w fun e w' => e = .returned (.int .i64 (It.cmpL l a b)) ∧ Ext w w' := by
  have xW := Ext.refl w
  have e_l := h_l.len
  have z_l := h_l.nle
  refine calls_of_WC (args := [.int .i64 ((a : Nat) : Int), .int .i64 ((b : Nat) : Int), .pointer (some ⟨g0, 0, none⟩)]) Try.func24 rfl rfl (ble rfl) ?_
  refine WC.seq (fun K1 k1 => ?_)
  refine WC.region rfl ?_
  refine WL.yld rfl (blt rfl) rfl (Y.assign rfl rfl) ?_
  refine WL.nil ?_
  refine WK.then_normal (k1 _ _ ?_)
  refine WC.sub [(0, _), (1, _), (2, _)] ⟨rfl, rfl, rfl, trivial⟩ ?_
  refine WC.seq (fun K2 k2 => ?_)
  refine WC.regionT 25 (by kernel_rfl) (by kernel_rfl) ?_
  refine WQ.yld rfl (blt rfl) rfl (Y.load1 rfl Try.underlying22 rfl rfl (Blk.at_ext m0 rfl)) ?_
  refine WQ.yld rfl (blt rfl) rfl (Y.move rfl rfl) ?_
  have b3 : a < n_l := by omega
  refine WQ.yld rfl (blt rfl) rfl (Y.indexLs a (h_l.ext xW) rfl Try.underlying22 ti32 rfl rfl rfl b3) ?_
  refine WQ.yld rfl (blt rfl) rfl (Y.fieldE rfl Try.underlying32 rfl ti3 (by decide) rfl) ?_
  refine WQ.yld rfl (blt rfl) rfl (Y.load1 rfl Try.underlying3 rfl rfl (Ls.at_ext (h_l.ext xW) b3 rfl)) ?_
  refine WQ.yld rfl (blt rfl) rfl (Y.load1 rfl Try.underlying22 rfl rfl (Blk.at_ext m0 rfl)) ?_
  refine WQ.yld rfl (blt rfl) rfl (Y.move rfl rfl) ?_
  have b4 : b < n_l := by omega
  refine WQ.yld rfl (blt rfl) rfl (Y.indexLs b (h_l.ext xW) rfl Try.underlying22 ti32 rfl rfl rfl b4) ?_
  refine WQ.yld rfl (blt rfl) rfl (Y.fieldE rfl Try.underlying32 rfl ti3 (by decide) rfl) ?_
  refine WQ.yld rfl (blt rfl) rfl (Y.load1 rfl Try.underlying3 rfl rfl (Ls.at_ext (h_l.ext xW) b4 rfl)) ?_
  refine WQ.call rfl (blt rfl) rfl rfl rfl has26 rfl (fun w hw => calls_ext hw (compare_any _ _ _ )) ?_
  refine WQ.yld rfl (blt rfl) rfl (Y.load1 rfl Try.underlying22 rfl rfl (Blk.at_ext m0 rfl)) ?_
  refine WQ.yld rfl (blt rfl) rfl (Y.move rfl rfl) ?_
  have b5 : a < n_l := by omega
  refine WQ.yld rfl (blt rfl) rfl (Y.indexLs a (h_l.ext xW) rfl Try.underlying22 ti32 rfl rfl rfl b5) ?_
  refine WQ.yld rfl (blt rfl) rfl (Y.fieldE rfl Try.underlying32 rfl ti3 (by decide) rfl) ?_
  refine WQ.yld rfl (blt rfl) rfl (Y.load1 rfl Try.underlying3 rfl rfl (Ls.at_ext (h_l.ext xW) b5 rfl)) ?_
  refine WQ.yld rfl (blt rfl) rfl (Y.load1 rfl Try.underlying22 rfl rfl (Blk.at_ext m0 rfl)) ?_
  refine WQ.yld rfl (blt rfl) rfl (Y.move rfl rfl) ?_
  have b6 : b < n_l := by omega
  refine WQ.yld rfl (blt rfl) rfl (Y.indexLs b (h_l.ext xW) rfl Try.underlying22 ti32 rfl rfl rfl b6) ?_
  refine WQ.yld rfl (blt rfl) rfl (Y.fieldE rfl Try.underlying32 rfl ti3 (by decide) rfl) ?_
  refine WQ.yld rfl (blt rfl) rfl (Y.load1 rfl Try.underlying3 rfl rfl (Ls.at_ext (h_l.ext xW) b6 rfl)) ?_
  refine WQ.call rfl (blt rfl) rfl rfl rfl has26 rfl (fun w hw => calls_ext hw (compare_any _ _ _ )) ?_
  refine WQ.yld rfl (blt rfl) rfl (Y.move rfl rfl) ?_
  refine WQ.yld rfl (blt rfl) rfl (Y.move rfl rfl) ?_
  refine WQ.call rfl (blt rfl) rfl rfl rfl has26 rfl (fun w hw => calls_ext hw (compare_any _ _ _ )) ?_
  refine WQ.tail (fun w7 x8 => ?_)
  have m0 := m0.ext x8
  have xW := Ext.trans xW x8
  refine WL.bslice (zs := [.int .i64 0, .int .i64 0, .int .i64 0]) (cs := [_, _, _]) rfl (blt rfl) rfl rfl Try.underlying24 ti3 rfl (ble rfl) (by kernel_rfl) rfl rfl ?_
  intro g9 w10 e11 x12 m13
  have n_g0_g9 := ne_new m0 e11
  have o_g9 := own_new xW e11
  have m0 := m0.ext x12
  have xW := Ext.trans xW x12
  refine WL.call rfl (blt rfl) rfl rfl rfl has25 rfl (or_any _ _ _ _ _ (Ls.lit (f := Sp.ic) (sz := 1) (l := ([It.cmpI l[a]!.f l[b]!.f, It.cmpI l[a]!.t l[b]!.t, It.cmpI (a : Int) (b : Int)] : List Int)) m13 (fun _ => rfl) rfl (by decide) rfl)) ?_
  rintro _ w14 ⟨rfl, x15⟩
  refine ⟨_, rfl, ?_⟩
  have m0 := m0.ext x15
  have m13 := m13.ext x15
  have xW := Ext.trans xW x15
  refine WL.yld rfl (blt rfl) rfl (Y.assign rfl rfl) ?_
  refine WL.nil ?_
  refine WK.then_normal (k2 _ _ ?_)
  refine WC.sub [(5, _)] ⟨rfl, trivial⟩ ?_
  refine WC.ret ?_
  clear k1 k2
  refine WK.ret [_] rfl ⟨rfl, trivial⟩ ?_
  exact ⟨rfl, xW⟩
theorem before_any (A_l : Option Addr) (n_l c_l : Nat) (l : List Sp.S) (i : Nat) (k : Nat) (w : World) (h_l : Ls w A_l n_l c_l Sp.S.c 2 l) (hi : i < n_l) (hk : k < n_l) :
    Calls Try.prog 40 #[.slice A_l n_l c_l, .int .i64 ((i : Nat) : Int), .int .i64 ((k : Nat) : Int)] w fun e w' => e = .returned (.bool (It.bef l i k)) ∧ Ext w w' := by
  have xW := Ext.refl w
  have e_l := h_l.len
  have z_l := h_l.nle
  refine calls_of_WC (args := [.slice A_l n_l c_l, .int .i64 ((i : Nat) : Int), .int .i64 ((k : Nat) : Int)]) Try.func40 rfl rfl (ble rfl) ?_
  refine WC.seq (fun K1 k1 => ?_)
  refine WC.region rfl ?_
  refine WL.yld rfl (blt rfl) rfl (Y.assign rfl rfl) ?_
  refine WL.nil ?_
  refine WK.then_normal (k1 _ _ ?_)
  refine WC.sub [(0, _), (1, _), (2, _)] ⟨rfl, rfl, rfl, trivial⟩ ?_
  refine WC.seq (fun K2 k2 => ?_)
  refine WC.seq (fun K3 k3 => ?_)
  refine WC.regionDq (by kernel_rfl) (by kernel_rfl) rfl ?_
  refine WQ.yld rfl (blt rfl) rfl (Y.move rfl rfl) ?_
  refine WQ.yld rfl (blt rfl) rfl (Y.move rfl rfl) ?_
  have b4 : i < n_l := by omega
  refine WQ.yld rfl (blt rfl) rfl (Y.indexLs i (h_l.ext xW) rfl Try.underlying22 ti32 rfl rfl rfl b4) ?_
  refine WQ.yld rfl (blt rfl) rfl (Y.fieldE rfl Try.underlying32 rfl ti3 (by decide) rfl) ?_
  refine WQ.yld rfl (blt rfl) rfl (Y.load1 rfl Try.underlying3 rfl rfl (Ls.at_ext (h_l.ext xW) b4 rfl)) ?_
  refine WQ.yld rfl (blt rfl) rfl (Y.move rfl rfl) ?_
  refine WQ.yld rfl (blt rfl) rfl (Y.move rfl rfl) ?_
  have b5 : k < n_l := by omega
  refine WQ.yld rfl (blt rfl) rfl (Y.indexLs k (h_l.ext xW) rfl Try.underlying22 ti32 rfl rfl rfl b5) ?_
  refine WQ.yld rfl (blt rfl) rfl (Y.fieldE rfl Try.underlying32 rfl ti3 (by decide) rfl) ?_
  refine WQ.yld rfl (blt rfl) rfl (Y.load1 rfl Try.underlying3 rfl rfl (Ls.at_ext (h_l.ext xW) b5 rfl)) ?_
  refine WQ.yld rfl (blt rfl) rfl (Y.neq rfl rfl rfl) ?_
  refine WQ.done (fun w6 x7 => ?_)
  have xW := Ext.trans xW x7
  refine WK.then_normal (k3 _ _ ?_)
  refine WC.sub [(0, _), (1, _), (2, _), (17, _)] ⟨rfl, rfl, rfl, rfl, trivial⟩ ?_
  refine WC.cond rfl (fun h8 => ?_) (fun h8 => ?_)
  ·
    have p8 := (eq_f (not_t h8))
    refine WC.seq (fun K9 k9 => ?_)
    refine WC.regionDq (by kernel_rfl) (by kernel_rfl) rfl ?_
    refine WQ.yld rfl (blt rfl) rfl (Y.move rfl rfl) ?_
    refine WQ.yld rfl (blt rfl) rfl (Y.move rfl rfl) ?_
    have b10 : i < n_l := by omega
    refine WQ.yld rfl (blt rfl) rfl (Y.indexLs i (h_l.ext xW) rfl Try.underlying22 ti32 rfl rfl rfl b10) ?_
    refine WQ.yld rfl (blt rfl) rfl (Y.fieldE rfl Try.underlying32 rfl ti3 (by decide) rfl) ?_
    refine WQ.yld rfl (blt rfl) rfl (Y.load1 rfl Try.underlying3 rfl rfl (Ls.at_ext (h_l.ext xW) b10 rfl)) ?_
    refine WQ.yld rfl (blt rfl) rfl (Y.move rfl rfl) ?_
    refine WQ.yld rfl (blt rfl) rfl (Y.move rfl rfl) ?_
    have b11 : k < n_l := by omega
    refine WQ.yld rfl (blt rfl) rfl (Y.indexLs k (h_l.ext xW) rfl Try.underlying22 ti32 rfl rfl rfl b11) ?_
    refine WQ.yld rfl (blt rfl) rfl (Y.fieldE rfl Try.underlying32 rfl ti3 (by decide) rfl) ?_
    refine WQ.yld rfl (blt rfl) rfl (Y.load1 rfl Try.underlying3 rfl rfl (Ls.at_ext (h_l.ext xW) b11 rfl)) ?_
    refine WQ.yld rfl (blt rfl) rfl (Y.lss rfl rfl rfl) ?_
    refine WQ.yld rfl (blt rfl) rfl (Y.assign rfl rfl) ?_
    refine WQ.done (fun w12 x13 => ?_)
    have xW := Ext.trans xW x13
    refine WK.then_normal (k9 _ _ ?_)
    refine WC.sub [(6, _)] ⟨rfl, trivial⟩ ?_
    refine WC.ret ?_
    refine WK.then_ret ?_
    clear k1 k2 k3 k9
    refine WK.ret [_] rfl ⟨rfl, trivial⟩ ?_
    refine ⟨ret1 (vb ?_), xW⟩
    unfold It.bef
    rw [if_pos (eq_f (not_t h8))]
  ·
    have p8 := (eq_t (not_f h8))
    refine WC.skip ?_
    refine WK.then_normal (k2 _ _ ?_)
    refine WC.sub [(0, _), (1, _), (2, _)] ⟨rfl, rfl, rfl, trivial⟩ ?_
    refine WC.seq (fun K14 k14 => ?_)
    refine WC.seq (fun K15 k15 => ?_)
    refine WC.regionDq (by kernel_rfl) (by kernel_rfl) rfl ?_
    refine WQ.yld rfl (blt rfl) rfl (Y.move rfl rfl) ?_
    refine WQ.yld rfl (blt rfl) rfl (Y.move rfl rfl) ?_
    have b16 : i < n_l := by omega
    refine WQ.yld rfl (blt rfl) rfl (Y.indexLs i (h_l.ext xW) rfl Try.underlying22 ti32 rfl rfl rfl b16) ?_
    refine WQ.yld rfl (blt rfl) rfl (Y.fieldE rfl Try.underlying32 rfl ti3 (by decide) rfl) ?_
    refine WQ.yld rfl (blt rfl) rfl (Y.load1 rfl Try.underlying3 rfl rfl (Ls.at_ext (h_l.ext xW) b16 rfl)) ?_
    refine WQ.yld rfl (blt rfl) rfl (Y.move rfl rfl) ?_
    refine WQ.yld rfl (blt rfl) rfl (Y.move rfl rfl) ?_
    have b17 : k < n_l := by omega
    refine WQ.yld rfl (blt rfl) rfl (Y.indexLs k (h_l.ext xW) rfl Try.underlying22 ti32 rfl rfl rfl b17) ?_
    refine WQ.yld rfl (blt rfl) rfl (Y.fieldE rfl Try.underlying32 rfl ti3 (by decide) rfl) ?_
    refine WQ.yld rfl (blt rfl) rfl (Y.load1 rfl Try.underlying3 rfl rfl (Ls.at_ext (h_l.ext xW) b17 rfl)) ?_
    refine WQ.yld rfl (blt rfl) rfl (Y.neq rfl rfl rfl) ?_
    refine WQ.done (fun w18 x19 => ?_)
    have xW := Ext.trans xW x19
    refine WK.then_normal (k15 _ _ ?_)
    refine WC.sub [(0, _), (1, _), (2, _), (39, _)] ⟨rfl, rfl, rfl, rfl, trivial⟩ ?_
    refine WC.cond rfl (fun h20 => ?_) (fun h20 => ?_)
    ·
      have p20 := (eq_f (not_t h20))
      refine WC.seq (fun K21 k21 => ?_)
      refine WC.regionDq (by kernel_rfl) (by kernel_rfl) rfl ?_
      refine WQ.yld rfl (blt rfl) rfl (Y.move rfl rfl) ?_
      refine WQ.yld rfl (blt rfl) rfl (Y.move rfl rfl) ?_
      have b22 : i < n_l := by omega
      refine WQ.yld rfl (blt rfl) rfl (Y.indexLs i (h_l.ext xW) rfl Try.underlying22 ti32 rfl rfl rfl b22) ?_
      refine WQ.yld rfl (blt rfl) rfl (Y.fieldE rfl Try.underlying32 rfl ti3 (by decide) rfl) ?_
      refine WQ.yld rfl (blt rfl) rfl (Y.load1 rfl Try.underlying3 rfl rfl (Ls.at_ext (h_l.ext xW) b22 rfl)) ?_
      refine WQ.yld rfl (blt rfl) rfl (Y.move rfl rfl) ?_
      refine WQ.yld rfl (blt rfl) rfl (Y.move rfl rfl) ?_
      have b23 : k < n_l := by omega
      refine WQ.yld rfl (blt rfl) rfl (Y.indexLs k (h_l.ext xW) rfl Try.underlying22 ti32 rfl rfl rfl b23) ?_
      refine WQ.yld rfl (blt rfl) rfl (Y.fieldE rfl Try.underlying32 rfl ti3 (by decide) rfl) ?_
      refine WQ.yld rfl (blt rfl) rfl (Y.load1 rfl Try.underlying3 rfl rfl (Ls.at_ext (h_l.ext xW) b23 rfl)) ?_
      refine WQ.yld rfl (blt rfl) rfl (Y.lss rfl rfl rfl) ?_
      refine WQ.yld rfl (blt rfl) rfl (Y.assign rfl rfl) ?_
      refine WQ.done (fun w24 x25 => ?_)
      have xW := Ext.trans xW x25
      refine WK.then_normal (k21 _ _ ?_)
      refine WC.sub [(6, _)] ⟨rfl, trivial⟩ ?_
      refine WC.ret ?_
      refine WK.then_ret ?_
      clear k1 k2 k3 k14 k15 k21
      refine WK.ret [_] rfl ⟨rfl, trivial⟩ ?_
      refine ⟨ret1 (vb ?_), xW⟩
      unfold It.bef
      rw [if_neg (fun hh => hh (eq_t (not_f h8))), if_pos (eq_f (not_t h20))]
    ·
      have p20 := (eq_t (not_f h20))
      refine WC.skip ?_
      refine WK.then_normal (k14 _ _ ?_)
      refine WC.sub [(1, _), (2, _)] ⟨rfl, rfl, trivial⟩ ?_
      refine WC.seq (fun K26 k26 => ?_)
      refine WC.region rfl ?_
      refine WL.yld rfl (blt rfl) rfl (Y.move rfl rfl) ?_
      refine WL.yld rfl (blt rfl) rfl (Y.move rfl rfl) ?_
      refine WL.yld rfl (blt rfl) rfl (Y.lss rfl rfl rfl) ?_
      refine WL.yld rfl (blt rfl) rfl (Y.assign rfl rfl) ?_
      refine WL.nil ?_
      refine WK.then_normal (k26 _ _ ?_)
      refine WC.sub [(6, _)] ⟨rfl, trivial⟩ ?_
      refine WC.ret ?_
      clear k1 k2 k3 k14 k15 k26
      refine WK.ret [_] rfl ⟨rfl, trivial⟩ ?_
      refine ⟨ret1 (vb ?_), xW⟩
      unfold It.bef
      rw [if_neg (fun hh => hh (eq_t (not_f h8))), if_neg (fun hh => hh (eq_t (not_f h20)))]
      exact decide_eq_decide.2 (by omega)
theorem same_any (A_a : Option Addr) (n_a c_a : Nat) (a : List Int) (A_b : Option Addr) (n_b c_b : Nat) (b : List Int) (w : World) (h_a : Ls w A_a n_a c_a Sp.ic 1 a) (h_b : Ls w A_b n_b c_b Sp.ic 1 b) :
    Calls Try.prog 11 #[.slice A_a n_a c_a, .slice A_b n_b c_b] w fun e w' => e = .returned (.bool (decide (a = b))) ∧ Ext w w' := by
  have xW := Ext.refl w
  have e_a := h_a.len
  have z_a := h_a.nle
  have e_b := h_b.len
  have z_b := h_b.nle
  refine calls_of_WC (args := [.slice A_a n_a c_a, .slice A_b n_b c_b]) Try.func11 rfl rfl (ble rfl) ?_
  refine WC.seq (fun K1 k1 => ?_)
  refine WC.region rfl ?_
  refine WL.yld rfl (blt rfl) rfl (Y.assign rfl rfl) ?_
  refine WL.nil ?_
  refine WK.then_normal (k1 _ _ ?_)
  refine WC.sub [(0, _), (1, _)] ⟨rfl, rfl, trivial⟩ ?_
  refine WC.seq (fun K2 k2 => ?_)
  refine WC.seq (fun K3 k3 => ?_)
  refine WC.region rfl ?_
  refine WL.yld rfl (blt rfl) rfl (Y.move rfl rfl) ?_
  refine WL.yld rfl (blt rfl) rfl (Y.lenSl rfl rfl rfl Try.underlying24 rfl) ?_
  refine WL.yld rfl (blt rfl) rfl (Y.move rfl rfl) ?_
  refine WL.yld rfl (blt rfl) rfl (Y.lenSl rfl rfl rfl Try.underlying24 rfl) ?_
  refine WL.yld rfl (blt rfl) rfl (Y.neq rfl rfl rfl) ?_
  refine WL.nil ?_
  refine WK.then_normal (k3 _ _ ?_)
  refine WC.sub [(0, _), (1, _), (10, _)] ⟨rfl, rfl, rfl, trivial⟩ ?_
  refine WC.cond rfl (fun h4 => ?_) (fun h4 => ?_)
  ·
    have p4 := (eq_f (not_t h4))
    refine WC.seq (fun K5 k5 => ?_)
    refine WC.region rfl ?_
    refine WL.yld rfl (blt rfl) rfl (Y.assign rfl rfl) ?_
    refine WL.nil ?_
    refine WK.then_normal (k5 _ _ ?_)
    refine WC.sub [(4, _)] ⟨rfl, trivial⟩ ?_
    refine WC.ret ?_
    refine WK.then_ret ?_
    clear k1 k2 k3 k5
    refine WK.ret [_] rfl ⟨rfl, trivial⟩ ?_
    refine ⟨ret1 (vb (Sp.same_no (by omega)).symm), xW⟩
  ·
    have p4 := (eq_t (not_f h4))
    refine WC.skip ?_
    refine WK.then_normal (k2 _ _ ?_)
    refine WC.sub [(0, _), (1, _)] ⟨rfl, rfl, trivial⟩ ?_
    refine WC.seq (fun K6 k6 => ?_)
    refine WC.seq (fun K7 k7 => ?_)
    refine WC.region rfl ?_
    refine WL.yld rfl (blt rfl) rfl (Y.assign rfl rfl) ?_
    refine WL.nil ?_
    refine WK.then_normal (k7 _ _ ?_)
    refine WC.block ?_
    refine WC.sub [(5, _), (0, _), (1, _)] ⟨rfl, rfl, rfl, trivial⟩ ?_
    refine WC.loopS 1 (fun mz Ed W' => ∃ i : Nat, mz = n_a - i ∧ Ed = [(5, .int .i64 ((i : Nat) : Int))] ∧ Ext w W' ∧ (i ≤ n_a) ∧ (∀ j, j < i → a[j]! = b[j]!)) _ ⟨0, rfl, rfl, xW, (Nat.zero_le _), (fun j hj => absurd hj (Nat.not_lt_zero j))⟩ ?_
    rintro _ _ w8 ⟨i, rfl, rfl, xW, le_i, inv_i⟩
    refine WC.sub [(5, _), (0, _), (1, _)] ⟨rfl, rfl, rfl, trivial⟩ ?_
    refine WC.seq (fun K9 k9 => ?_)
    refine WC.seq (fun K10 k10 => ?_)
    refine WC.region rfl ?_
    refine WL.yld rfl (blt rfl) rfl (Y.move rfl rfl) ?_
    refine WL.yld rfl (blt rfl) rfl (Y.move rfl rfl) ?_
    refine WL.yld rfl (blt rfl) rfl (Y.lenSl rfl rfl rfl Try.underlying24 rfl) ?_
    refine WL.yld rfl (blt rfl) rfl (Y.lss rfl rfl rfl) ?_
    refine WL.nil ?_
    refine WK.then_normal (k10 _ _ ?_)
    refine WC.sub [(0, _), (1, _), (5, _), (14, _)] ⟨rfl, rfl, rfl, rfl, trivial⟩ ?_
    refine WC.cond rfl (fun h11 => ?_) (fun h11 => ?_)
    ·
      have p11 := (dec_t h11)
      refine WC.skip ?_
      refine WK.then_normal (k9 _ _ ?_)
      refine WC.sub [(0, _), (1, _), (5, _)] ⟨rfl, rfl, rfl, trivial⟩ ?_
      refine WC.seq (fun K12 k12 => ?_)
      refine WC.block ?_
      refine WC.seq (fun K13 k13 => ?_)
      refine WC.regionDq (by kernel_rfl) (by kernel_rfl) rfl ?_
      refine WQ.yld rfl (blt rfl) rfl (Y.move rfl rfl) ?_
      refine WQ.yld rfl (blt rfl) rfl (Y.move rfl rfl) ?_
      have b14 : i < n_a := by omega
      refine WQ.yld rfl (blt rfl) rfl (Y.indexLs i (h_a.ext xW) rfl Try.underlying24 ti3 rfl rfl rfl b14) ?_
      refine WQ.yld rfl (blt rfl) rfl (Y.load1 rfl Try.underlying3 rfl rfl (Ls.at_ext (h_a.ext xW) b14 rfl)) ?_
      refine WQ.yld rfl (blt rfl) rfl (Y.move rfl rfl) ?_
      refine WQ.yld rfl (blt rfl) rfl (Y.move rfl rfl) ?_
      have b15 : i < n_b := by omega
      refine WQ.yld rfl (blt rfl) rfl (Y.indexLs i (h_b.ext xW) rfl Try.underlying24 ti3 rfl rfl rfl b15) ?_
      refine WQ.yld rfl (blt rfl) rfl (Y.load1 rfl Try.underlying3 rfl rfl (Ls.at_ext (h_b.ext xW) b15 rfl)) ?_
      refine WQ.yld rfl (blt rfl) rfl (Y.neq rfl rfl rfl) ?_
      refine WQ.done (fun w16 x17 => ?_)
      have xW := Ext.trans xW x17
      refine WK.then_normal (k13 _ _ ?_)
      refine WC.sub [(0, _), (1, _), (5, _), (25, _)] ⟨rfl, rfl, rfl, rfl, trivial⟩ ?_
      refine WC.cond rfl (fun h18 => ?_) (fun h18 => ?_)
      ·
        have p18 := (eq_f (not_t h18))
        refine WC.seq (fun K19 k19 => ?_)
        refine WC.region rfl ?_
        refine WL.yld rfl (blt rfl) rfl (Y.assign rfl rfl) ?_
        refine WL.nil ?_
        refine WK.then_normal (k19 _ _ ?_)
        refine WC.sub [(4, _)] ⟨rfl, trivial⟩ ?_
        refine WC.ret ?_
        refine WK.in_ret ?_
        refine WK.then_ret ?_
        refine WK.then_ret ?_
        refine WK.in_ret ?_
        refine WK.then_ret ?_
        clear k1 k2 k3 k6 k7 k9 k10 k12 k13 k19
        refine WK.ret [_] rfl ⟨rfl, trivial⟩ ?_
        refine ⟨ret1 (vb (Sp.same_at (eq_f (not_t h18))).symm), xW⟩
      ·
        have p18 := (eq_t (not_f h18))
        refine WC.skip ?_
        refine WK.in_normal ?_
        refine WK.then_normal (k12 _ _ ?_)
        refine WC.sub [(0, _), (1, _), (5, _)] ⟨rfl, rfl, rfl, trivial⟩ ?_
        refine WC.region rfl ?_
        refine WL.yld rfl (blt rfl) rfl (Y.move rfl rfl) ?_
        refine WL.yld rfl (blt rfl) rfl (Y.add rfl rfl rfl (wrap_i64 (by first | omega | (dsimp only; omega)))) ?_
        refine WL.yld rfl (blt rfl) rfl (Y.assign rfl rfl) ?_
        refine WL.nil ?_
        refine WK.roundS _ [(5, .int .i64 (((i + 1) : Nat) : Int))] ⟨rfl, rfl, rfl, trivial⟩ ?_ ⟨(i + 1), rfl, rfl, xW, (by omega), (fun j hj => by rcases Nat.lt_succ_iff_lt_or_eq.1 hj with h | h; exact inv_i j h; subst h; exact eq_t (not_f h18))⟩
        show _ - (i + 1) < _ - i; omega
    ·
      have p11 := (dec_f h11)
      refine WC.exit ?_
      refine WK.then_exit ?_
      refine WK.then_exit ?_
      refine WK.in_exit ?_
      refine WK.then_normal (k6 _ _ ?_)
      refine WC.sub [] trivial ?_
      refine WC.seq (fun K20 k20 => ?_)
      refine WC.region rfl ?_
      refine WL.yld rfl (blt rfl) rfl (Y.assign rfl rfl) ?_
      refine WL.nil ?_
      refine WK.then_normal (k20 _ _ ?_)
      refine WC.ret ?_
      clear k1 k2 k3 k6 k7 k9 k10 k20
      refine WK.ret [_] rfl ⟨rfl, trivial⟩ ?_
      refine ⟨ret1 (vb (decide_eq_true (Sp.bang_ext (by omega) (fun j hj => inv_i j (by omega)))).symm), xW⟩
theorem equal_any (A_a : Option Addr) (n_a c_a : Nat) (a : List Int) (A_b : Option Addr) (n_b c_b : Nat) (b : List Int) (w : World) (h_a : Ls w A_a n_a c_a Sp.ic 1 a) (h_b : Ls w A_b n_b c_b Sp.ic 1 b) :
    Calls Try.prog 30 #[.slice A_a n_a c_a, .slice A_b n_b c_b] w fun e w' => e = .returned (.bool (decide (a = b))) ∧ Ext w w' := by
  have xW := Ext.refl w
  have e_a := h_a.len
  have z_a := h_a.nle
  have e_b := h_b.len
  have z_b := h_b.nle
  refine calls_of_WC (args := [.slice A_a n_a c_a, .slice A_b n_b c_b]) Try.func30 rfl rfl (ble rfl) ?_
  refine WC.seq (fun K1 k1 => ?_)
  refine WC.region rfl ?_
  refine WL.yld rfl (blt rfl) rfl (Y.assign rfl rfl) ?_
  refine WL.nil ?_
  refine WK.then_normal (k1 _ _ ?_)
  refine WC.sub [(0, _), (1, _)] ⟨rfl, rfl, trivial⟩ ?_
  refine WC.seq (fun K2 k2 => ?_)
  refine WC.seq (fun K3 k3 => ?_)
  refine WC.region rfl ?_
  refine WL.yld rfl (blt rfl) rfl (Y.move rfl rfl) ?_
  refine WL.yld rfl (blt rfl) rfl (Y.lenSl rfl rfl rfl Try.underlying24 rfl) ?_
  refine WL.yld rfl (blt rfl) rfl (Y.move rfl rfl) ?_
  refine WL.yld rfl (blt rfl) rfl (Y.lenSl rfl rfl rfl Try.underlying24 rfl) ?_
  refine WL.yld rfl (blt rfl) rfl (Y.neq rfl rfl rfl) ?_
  refine WL.nil ?_
  refine WK.then_normal (k3 _ _ ?_)
  refine WC.sub [(0, _), (1, _), (10, _)] ⟨rfl, rfl, rfl, trivial⟩ ?_
  refine WC.cond rfl (fun h4 => ?_) (fun h4 => ?_)
  ·
    have p4 := (eq_f (not_t h4))
    refine WC.seq (fun K5 k5 => ?_)
    refine WC.region rfl ?_
    refine WL.yld rfl (blt rfl) rfl (Y.assign rfl rfl) ?_
    refine WL.nil ?_
    refine WK.then_normal (k5 _ _ ?_)
    refine WC.sub [(4, _)] ⟨rfl, trivial⟩ ?_
    refine WC.ret ?_
    refine WK.then_ret ?_
    clear k1 k2 k3 k5
    refine WK.ret [_] rfl ⟨rfl, trivial⟩ ?_
    refine ⟨ret1 (vb (Sp.same_no (by omega)).symm), xW⟩
  ·
    have p4 := (eq_t (not_f h4))
    refine WC.skip ?_
    refine WK.then_normal (k2 _ _ ?_)
    refine WC.sub [(0, _), (1, _)] ⟨rfl, rfl, trivial⟩ ?_
    refine WC.seq (fun K6 k6 => ?_)
    refine WC.seq (fun K7 k7 => ?_)
    refine WC.region rfl ?_
    refine WL.yld rfl (blt rfl) rfl (Y.move rfl rfl) ?_
    refine WL.yld rfl (blt rfl) rfl (Y.lenSl rfl rfl rfl Try.underlying24 rfl) ?_
    refine WL.yld rfl (blt rfl) rfl (Y.move rfl rfl) ?_
    refine WL.nil ?_
    refine WK.then_normal (k7 _ _ ?_)
    refine WC.sub [(0, _), (1, _), (12, _), (13, _)] ⟨rfl, rfl, rfl, rfl, trivial⟩ ?_
    refine WC.block ?_
    refine WC.sub [(13, _), (0, _), (1, _), (12, _)] ⟨rfl, rfl, rfl, rfl, trivial⟩ ?_
    refine WC.loopS 1 (fun mz Ed W' => ∃ i : Nat, mz = n_a - i ∧ Ed = [(13, .int .i64 ((i : Nat) : Int))] ∧ Ext w W' ∧ (i ≤ n_a) ∧ (∀ j, j < i → a[j]! = b[j]!)) _ ⟨0, rfl, rfl, xW, (Nat.zero_le _), (fun j hj => absurd hj (Nat.not_lt_zero j))⟩ ?_
    rintro _ _ w8 ⟨i, rfl, rfl, xW, le_i, inv_i⟩
    refine WC.sub [(13, _), (0, _), (1, _), (12, _)] ⟨rfl, rfl, rfl, rfl, trivial⟩ ?_
    refine WC.seq (fun K9 k9 => ?_)
    refine WC.region rfl ?_
    refine WL.yld rfl (blt rfl) rfl (Y.lss rfl rfl rfl) ?_
    refine WL.nil ?_
    refine WK.then_normal (k9 _ _ ?_)
    refine WC.seq (fun K10 k10 => ?_)
    refine WC.cond rfl (fun h11 => ?_) (fun h11 => ?_)
    ·
      have p11 := (dec_t h11)
      refine WC.skip ?_
      refine WK.then_normal (k10 _ _ ?_)
      refine WC.sub [(0, _), (1, _), (12, _), (13, _)] ⟨rfl, rfl, rfl, rfl, trivial⟩ ?_
      refine WC.seq (fun K12 k12 => ?_)
      refine WC.block ?_
      refine WC.seq (fun K13 k13 => ?_)
      refine WC.region rfl ?_
      refine WL.yld rfl (blt rfl) rfl (Y.move rfl rfl) ?_
      refine WL.yld rfl (blt rfl) rfl (Y.assign rfl rfl) ?_
      refine WL.nil ?_
      refine WK.then_normal (k13 _ _ ?_)
      refine WC.sub [(0, _), (1, _), (5, _), (12, _), (13, _)] ⟨rfl, rfl, rfl, rfl, rfl, trivial⟩ ?_
      refine WC.seq (fun K14 k14 => ?_)
      refine WC.regionDq (by kernel_rfl) (by kernel_rfl) rfl ?_
      refine WQ.yld rfl (blt rfl) rfl (Y.move rfl rfl) ?_
      refine WQ.yld rfl (blt rfl) rfl (Y.move rfl rfl) ?_
      have b15 : i < n_a := by omega
      refine WQ.yld rfl (blt rfl) rfl (Y.indexLs i (h_a.ext xW) rfl Try.underlying24 ti3 rfl rfl rfl b15) ?_
      refine WQ.yld rfl (blt rfl) rfl (Y.load1 rfl Try.underlying3 rfl rfl (Ls.at_ext (h_a.ext xW) b15 rfl)) ?_
      refine WQ.yld rfl (blt rfl) rfl (Y.move rfl rfl) ?_
      refine WQ.yld rfl (blt rfl) rfl (Y.move rfl rfl) ?_
      have b16 : i < n_b := by omega
      refine WQ.yld rfl (blt rfl) rfl (Y.indexLs i (h_b.ext xW) rfl Try.underlying24 ti3 rfl rfl rfl b16) ?_
      refine WQ.yld rfl (blt rfl) rfl (Y.load1 rfl Try.underlying3 rfl rfl (Ls.at_ext (h_b.ext xW) b16 rfl)) ?_
      refine WQ.yld rfl (blt rfl) rfl (Y.neq rfl rfl rfl) ?_
      refine WQ.done (fun w17 x18 => ?_)
      have xW := Ext.trans xW x18
      refine WK.then_normal (k14 _ _ ?_)
      refine WC.sub [(0, _), (1, _), (12, _), (13, _), (24, _)] ⟨rfl, rfl, rfl, rfl, rfl, trivial⟩ ?_
      refine WC.cond rfl (fun h19 => ?_) (fun h19 => ?_)
      ·
        have p19 := (eq_f (not_t h19))
        refine WC.seq (fun K20 k20 => ?_)
        refine WC.region rfl ?_
        refine WL.yld rfl (blt rfl) rfl (Y.assign rfl rfl) ?_
        refine WL.nil ?_
        refine WK.then_normal (k20 _ _ ?_)
        refine WC.sub [(4, _)] ⟨rfl, trivial⟩ ?_
        refine WC.ret ?_
        refine WK.in_ret ?_
        refine WK.then_ret ?_
        refine WK.then_ret ?_
        refine WK.in_ret ?_
        refine WK.then_ret ?_
        clear k1 k2 k3 k6 k7 k9 k10 k12 k13 k14 k20
        refine WK.ret [_] rfl ⟨rfl, trivial⟩ ?_
        refine ⟨ret1 (vb (Sp.same_at (eq_f (not_t h19))).symm), xW⟩
      ·
        have p19 := (eq_t (not_f h19))
        refine WC.skip ?_
        refine WK.in_normal ?_
        refine WK.then_normal (k12 _ _ ?_)
        refine WC.sub [(0, _), (1, _), (12, _), (13, _)] ⟨rfl, rfl, rfl, rfl, trivial⟩ ?_
        refine WC.region rfl ?_
        refine WL.yld rfl (blt rfl) rfl (Y.add rfl rfl rfl (wrap_i64 (by first | omega | (dsimp only; omega)))) ?_
        refine WL.yld rfl (blt rfl) rfl (Y.move rfl rfl) ?_
        refine WL.nil ?_
        refine WK.roundS _ [(13, .int .i64 (((i + 1) : Nat) : Int))] ⟨rfl, rfl, rfl, rfl, trivial⟩ ?_ ⟨(i + 1), rfl, rfl, xW, (by omega), (fun j hj => by rcases Nat.lt_succ_iff_lt_or_eq.1 hj with h | h; exact inv_i j h; subst h; exact eq_t (not_f h19))⟩
        show _ - (i + 1) < _ - i; omega
    ·
      have p11 := (dec_f h11)
      refine WC.exit ?_
      refine WK.then_exit ?_
      refine WK.then_exit ?_
      refine WK.in_exit ?_
      refine WK.then_normal (k6 _ _ ?_)
      refine WC.sub [] trivial ?_
      refine WC.seq (fun K21 k21 => ?_)
      refine WC.region rfl ?_
      refine WL.yld rfl (blt rfl) rfl (Y.assign rfl rfl) ?_
      refine WL.nil ?_
      refine WK.then_normal (k21 _ _ ?_)
      refine WC.ret ?_
      clear k1 k2 k3 k6 k7 k9 k10 k21
      refine WK.ret [_] rfl ⟨rfl, trivial⟩ ?_
      refine ⟨ret1 (vb (decide_eq_true (Sp.bang_ext (by omega) (fun j hj => inv_i j (by omega)))).symm), xW⟩
end ItW

end Go.Proofs.Ytbdfhiihaemjhaa
