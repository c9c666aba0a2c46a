/- The walk of the law. Conditions: what each theorem states. -/
import Derived.Test.YtaglpampidlbmaaBdAw
import Derived.Test.YtaglpampidlbmaaBdM2
namespace Go.Proofs.Ytaglpampidlbmaa
open Go Go.Eng Go.RowKit
set_option linter.unusedVariables false
set_option linter.unusedSimpArgs false
namespace BdW
open N RL NumF LB GR CkW CkW.P CkW.K CkW.R CkW.RP B OF MY RP_ RE RI RL_ RO RS_ AW_
namespace LBoundExact
theorem ti22 : TI Try.prog 22 (.slice none 0 0) 1 24 := TI.mk (by kernel_rfl)
theorem ti23 : TI Try.prog 23 (.slice none 0 0) 1 24 := TI.mk (by kernel_rfl)
theorem ti25 : TI Try.prog 25 (.agg #[.slice none 0 0, .slice none 0 0]) 2 48 := TI.mk (by kernel_rfl)
theorem ti29 : TI Try.prog 29 (.agg #[.int .i64 0, .int .i64 0]) 2 16 := TI.mk (by kernel_rfl)
theorem has9 : Has Try.prog 9 := ⟨_, Try.func9, rfl, by kernel_rfl⟩
theorem has10 : Has Try.prog 10 := ⟨_, Try.func10, rfl, by kernel_rfl⟩
theorem has11 : Has Try.prog 11 := ⟨_, Try.func11, rfl, by kernel_rfl⟩
theorem has12 : Has Try.prog 12 := ⟨_, Try.func12, rfl, by kernel_rfl⟩
theorem has13 : Has Try.prog 13 := ⟨_, Try.func13, rfl, by kernel_rfl⟩
theorem has14 : Has Try.prog 14 := ⟨_, Try.func14, rfl, by kernel_rfl⟩
theorem eqg29 : Try.prog.eqGuardType Try.prog.depth 29 = false := by kernel_rfl
theorem eq29 (a0 : Int) (a1 : Int) (b0 : Int) (b1 : Int) (w : World) : (Op.equalIn 10000 29 (.agg #[.int .i64 a0, .int .i64 a1]) (.agg #[.int .i64 b0, .int .i64 b1])).run Try.prog w = .ok ((a0 == b0) && (a1 == b1)) w := by
  go_simp
  (repeat' split) <;> simp_all
theorem BoundExact_any (A_d : Option Addr) (n_d c_d : Nat) (d : List Ck.Dom) (A_l : Option Addr) (n_l c_l : Nat) (l : List Ck.Snap) (id : Int) (at_ : Int) (w : World) (h_d : Ls w A_d n_d c_d Ck.Dom.c 2 d) (h_l : Ls w A_l n_l c_l Ck.Snap.c 5 l) :
    Calls Try.prog 3 #[.agg #[.slice A_d n_d c_d, .slice A_l n_l c_l], .int .i64 id, .int .i64 at_] w fun e w' => e = .returned (.bool true) ∧ Ext w w' := by
  have xW := Ext.refl w
  have e_d := h_d.len
  have z_d := h_d.nle
  have e_l := h_l.len
  have z_l := h_l.nle
  refine calls_of_WC (args := [.agg #[.slice A_d n_d c_d, .slice A_l n_l c_l], .int .i64 id, .int .i64 at_]) Try.func3 rfl rfl (ble rfl) ?_
  refine WC.seq (fun K1 k1 => ?_)
  refine WC.region rfl ?_
  refine WL.box rfl (blt rfl) rfl rfl rfl rfl ?_
  intro g2 w3 e4 x5 m6
  have o_g2 := own_new xW e4
  have xW := Ext.trans xW x5
  refine WL.yld rfl (blt rfl) rfl (Y.assign rfl rfl) ?_
  refine WL.nil ?_
  refine WK.then_normal (k1 _ _ ?_)
  refine WC.sub [(1, _), (2, _), (3, _)] ⟨rfl, rfl, rfl, trivial⟩ ?_
  refine WC.seq (fun K7 k7 => ?_)
  refine WC.seq (fun K8 k8 => ?_)
  refine WC.region rfl ?_
  refine WL.yld rfl (blt rfl) rfl (Y.loadS rfl Try.underlying25 rfl ti25 rfl (Blk.row_eq m6)) ?_
  refine WL.call rfl (blt rfl) rfl rfl rfl has9 rfl (small_any _ _ _ d _ _ _ l _) ?_
  rintro _ w9 ⟨rfl, x10⟩
  refine ⟨_, rfl, ?_⟩
  have m6 := m6.ext x10
  have xW := Ext.trans xW x10
  refine WL.yld rfl (blt rfl) rfl (Y.not rfl rfl) ?_
  refine WL.nil ?_
  refine WK.then_normal (k8 _ _ ?_)
  refine WC.sub [(1, _), (2, _), (3, _), (13, _)] ⟨rfl, rfl, rfl, rfl, trivial⟩ ?_
  refine WC.cond rfl (fun h11 => ?_) (fun h11 => ?_)
  ·
    have p11 := ((and_f (not_t h11)).imp (fun h => (dec_f h)) (fun h => (dec_f h)))
    refine WC.seq (fun K12 k12 => ?_)
    refine WC.region rfl ?_
    refine WL.call rfl (blt rfl) rfl rfl rfl has10 rfl (awake_any _ ) ?_
    rintro _ w13 ⟨rfl, x14⟩
    refine ⟨_, rfl, ?_⟩
    have m6 := m6.ext x14
    have xW := Ext.trans xW x14
    refine WL.yld rfl (blt rfl) rfl (Y.assign rfl rfl) ?_
    refine WL.nil ?_
    refine WK.then_normal (k12 _ _ ?_)
    refine WC.sub [(6, _)] ⟨rfl, trivial⟩ ?_
    refine WC.ret ?_
    refine WK.then_ret ?_
    clear k1 k7 k8 k12
    refine WK.ret [_] rfl ⟨rfl, trivial⟩ ?_
    exact ⟨ret1 (vb rfl), xW⟩
  ·
    have p11 := (And.intro (dec_t (and_t (not_f h11)).1) (dec_t (and_t (not_f h11)).2))
    refine WC.skip ?_
    refine WK.then_normal (k7 _ _ ?_)
    refine WC.sub [(1, _), (2, _), (3, _)] ⟨rfl, rfl, rfl, trivial⟩ ?_
    refine WC.seq (fun K15 k15 => ?_)
    refine WC.region rfl ?_
    refine WL.yld rfl (blt rfl) rfl (Y.fieldAddr rfl Try.underlying25 rfl ti22 (by decide) rfl) ?_
    refine WL.yld rfl (blt rfl) rfl (Y.load1 rfl Try.underlying22 rfl rfl (Blk.at_eq m6 rfl)) ?_
    refine WL.yld rfl (blt rfl) rfl (Y.fieldAddr rfl Try.underlying25 rfl ti23 (by decide) rfl) ?_
    refine WL.yld rfl (blt rfl) rfl (Y.load1 rfl Try.underlying23 rfl rfl (Blk.at_eq m6 rfl)) ?_
    refine WL.yld rfl (blt rfl) rfl (Y.move rfl rfl) ?_
    refine WL.yld rfl (blt rfl) rfl (Y.move rfl rfl) ?_
    refine WL.call rfl (blt rfl) rfl rfl rfl has11 rfl (of_any _ _ _ _ _ _ _ _ _ _ _ (h_d.ext xW) (h_l.ext xW) (by omega)) ?_
    rintro _ w16 ⟨rfl, x17⟩
    refine ⟨_, rfl, ?_⟩
    have m6 := m6.ext x17
    have xW := Ext.trans xW x17
    refine WL.yld rfl (blt rfl) rfl (Y.move rfl rfl) ?_
    refine WL.yld rfl (blt rfl) rfl (Y.extract rfl rfl rfl) ?_
    refine WL.yld rfl (blt rfl) rfl (Y.extract rfl rfl rfl) ?_
    refine WL.alloc rfl (blt rfl) rfl rfl ti29 rfl ?_
    intro g18 w19 e20 x21 m22
    have n_g2_g18 := ne_new m6 e20
    have o_g18 := own_new xW e20
    have m6 := m6.ext x21
    have xW := Ext.trans xW x21
    refine WL.store (cs' := [_, _]) rfl rfl rfl rfl rfl rfl ti29 m22 (ble rfl) rfl rfl (fun w23 on24 m25 => ?_)
    have m6 := m6.only n_g2_g18 on24
    have xW := Ext.only xW on24 o_g18
    refine WL.yld rfl (blt rfl) rfl (Y.assign rfl rfl) ?_
    refine WL.nil ?_
    refine WK.then_normal (k15 _ _ ?_)
    refine WC.sub [(1, _), (2, _), (3, _), (7, _), (8, _)] ⟨rfl, rfl, rfl, rfl, rfl, trivial⟩ ?_
    refine WC.seq (fun K26 k26 => ?_)
    refine WC.region rfl ?_
    refine WL.yld rfl (blt rfl) rfl (Y.fieldAddr rfl Try.underlying25 rfl ti22 (by decide) rfl) ?_
    refine WL.yld rfl (blt rfl) rfl (Y.load1 rfl Try.underlying22 rfl rfl (Blk.at_eq m6 rfl)) ?_
    refine WL.yld rfl (blt rfl) rfl (Y.fieldAddr rfl Try.underlying25 rfl ti23 (by decide) rfl) ?_
    refine WL.yld rfl (blt rfl) rfl (Y.load1 rfl Try.underlying23 rfl rfl (Blk.at_eq m6 rfl)) ?_
    refine WL.yld rfl (blt rfl) rfl (Y.move rfl rfl) ?_
    refine WL.yld rfl (blt rfl) rfl (Y.move rfl rfl) ?_
    refine WL.call rfl (blt rfl) rfl rfl rfl has12 rfl (rof_any _ _ _ _ _ _ _ _ _ _ _ (h_d.ext xW) (h_l.ext xW) (by omega)) ?_
    rintro _ w27 ⟨rfl, x28⟩
    refine ⟨_, rfl, ?_⟩
    have m6 := m6.ext x28
    have m25 := m25.ext x28
    have xW := Ext.trans xW x28
    refine WL.yld rfl (blt rfl) rfl (Y.move rfl rfl) ?_
    refine WL.yld rfl (blt rfl) rfl (Y.extract rfl rfl rfl) ?_
    refine WL.yld rfl (blt rfl) rfl (Y.extract rfl rfl rfl) ?_
    refine WL.alloc rfl (blt rfl) rfl rfl ti29 rfl ?_
    intro g29 w30 e31 x32 m33
    have n_g2_g29 := ne_new m6 e31
    have n_g18_g29 := ne_new m25 e31
    have o_g29 := own_new xW e31
    have m6 := m6.ext x32
    have m25 := m25.ext x32
    have xW := Ext.trans xW x32
    refine WL.store (cs' := [_, _]) rfl rfl rfl rfl rfl rfl ti29 m33 (ble rfl) rfl rfl (fun w34 on35 m36 => ?_)
    have m6 := m6.only n_g2_g29 on35
    have m25 := m25.only n_g18_g29 on35
    have xW := Ext.only xW on35 o_g29
    refine WL.yld rfl (blt rfl) rfl (Y.assign rfl rfl) ?_
    refine WL.nil ?_
    refine WK.then_normal (k26 _ _ ?_)
    refine WC.sub [(3, _), (7, _), (8, _), (9, _), (10, _)] ⟨rfl, rfl, rfl, rfl, rfl, trivial⟩ ?_
    refine WC.seq (fun K37 k37 => ?_)
    refine WC.regionDq (by kernel_rfl) (by kernel_rfl) rfl ?_
    refine WQ.yld rfl (blt rfl) rfl (Y.loadS rfl Try.underlying29 rfl ti29 rfl (Blk.row_ext m25)) ?_
    refine WQ.yld rfl (blt rfl) rfl (Y.loadS rfl Try.underlying29 rfl ti29 rfl (Blk.row_ext m36)) ?_
    refine WQ.yld rfl (blt rfl) rfl (Yld.cast (Y.eqlS rfl eqg29 (eq29 _ _ _ _) rfl rfl) (vb (b := true) (by rw [Bd.of_same (by omega)]; simp))) ?_
    refine WQ.yld rfl (blt rfl) rfl (Y.move rfl rfl) ?_
    refine WQ.yldW rfl (blt rfl) rfl rfl rfl (Y.move rfl rfl) ?_
    refine WQ.yldW rfl (blt rfl) rfl rfl rfl (Y.move rfl rfl) ?_
    refine WQ.yldW rfl (blt rfl) rfl rfl rfl (Yld.cast (Y.eql rfl rfl rfl) (vb (b := true) (by rw [Bd.of_same (by omega)]; simp))) ?_
    refine WQ.yld rfl (blt rfl) rfl (Y.pickT rfl rfl rfl) ?_
    refine WQ.yld rfl (blt rfl) rfl (Y.move rfl rfl) ?_
    refine WQ.yldW rfl (blt rfl) rfl rfl rfl (Y.fieldAddr rfl Try.underlying25 rfl ti22 (by decide) rfl) ?_
    refine WQ.yldW rfl (blt rfl) rfl rfl rfl (Y.load1 rfl Try.underlying22 rfl rfl (Blk.at_ext m6 rfl)) ?_
    refine WQ.yldW rfl (blt rfl) rfl rfl rfl (Y.fieldAddr rfl Try.underlying25 rfl ti23 (by decide) rfl) ?_
    refine WQ.yldW rfl (blt rfl) rfl rfl rfl (Y.load1 rfl Try.underlying23 rfl rfl (Blk.at_ext m6 rfl)) ?_
    refine WQ.callW rfl (blt rfl) rfl rfl rfl rfl rfl has13 rfl (fun w hw => calls_ext hw (consistentP_any _ _ _ _ _ _ _ _ _ (Ls.ext (h_d.ext xW) hw) (Ls.ext (h_l.ext xW) hw) (by omega))) ?_
    refine WQ.yldW rfl (blt rfl) rfl rfl rfl (Y.fieldAddr rfl Try.underlying25 rfl ti22 (by decide) rfl) ?_
    refine WQ.yldW rfl (blt rfl) rfl rfl rfl (Y.load1 rfl Try.underlying22 rfl rfl (Blk.at_ext m6 rfl)) ?_
    refine WQ.yldW rfl (blt rfl) rfl rfl rfl (Y.fieldAddr rfl Try.underlying25 rfl ti23 (by decide) rfl) ?_
    refine WQ.yldW rfl (blt rfl) rfl rfl rfl (Y.load1 rfl Try.underlying23 rfl rfl (Blk.at_ext m6 rfl)) ?_
    refine WQ.callW rfl (blt rfl) rfl rfl rfl rfl rfl has14 rfl (fun w hw => calls_ext hw (rcons_any _ _ _ _ _ _ _ _ _ (Ls.ext (h_d.ext xW) hw) (Ls.ext (h_l.ext xW) hw) (by omega))) ?_
    refine WQ.yldW rfl (blt rfl) rfl rfl rfl (Yld.cast (Y.eqlB rfl Try.underlying4 rfl rfl) (vb (b := true) (by rw [Bd.cons_same (by omega)]; simp))) ?_
    refine WQ.yld rfl (blt rfl) rfl (Y.pickT rfl rfl rfl) ?_
    refine WQ.yld rfl (blt rfl) rfl (Y.move rfl rfl) ?_
    refine WQ.callW rfl (blt rfl) rfl rfl rfl rfl rfl has10 rfl (fun w hw => calls_ext hw (awake_any _ )) ?_
    refine WQ.yld rfl (blt rfl) rfl (Y.pickT rfl rfl rfl) ?_
    refine WQ.yld rfl (blt rfl) rfl (Y.assign rfl rfl) ?_
    refine WQ.done (fun w38 x39 => ?_)
    have m6 := m6.ext x39
    have m25 := m25.ext x39
    have m36 := m36.ext x39
    have xW := Ext.trans xW x39
    refine WK.then_normal (k37 _ _ ?_)
    refine WC.sub [(6, _)] ⟨rfl, trivial⟩ ?_
    refine WC.ret ?_
    clear k1 k7 k8 k15 k26 k37
    refine WK.ret [_] rfl ⟨rfl, trivial⟩ ?_
    exact ⟨ret1 (vb rfl), xW⟩
end LBoundExact
end BdW

end Go.Proofs.Ytaglpampidlbmaa
