/- The walk of SyntaxSame. Conditions: what each theorem states. -/
import Derived.Test.YtklccakoblibmaaSxCal
import Derived.Test.YtklccakoblibmaaSxLw
namespace Go.Proofs.Ytklccakoblibmaa
open Go Go.Eng Go.RowKit
set_option linter.unusedVariables false
set_option linter.unusedSimpArgs false
namespace SxW
open B C D E G S T U V W X Y Z Z2 AA AB
namespace SyntaxSame
theorem ti46 : TI Try.prog 46 (.agg #[.string ⟨#[]⟩, .slice none 0 0]) 2 40 := TI.mk (by kernel_rfl)
theorem has9 : Has Try.prog 9 := ⟨_, Try.func9, rfl, by kernel_rfl⟩
theorem has19 : Has Try.prog 19 := ⟨_, Try.func19, rfl, by kernel_rfl⟩
theorem has20 : Has Try.prog 20 := ⟨_, Try.func20, rfl, by kernel_rfl⟩
theorem has23 : Has Try.prog 23 := ⟨_, Try.func23, rfl, by kernel_rfl⟩
theorem has24 : Has Try.prog 24 := ⟨_, Try.func24, rfl, by kernel_rfl⟩
theorem SyntaxSame_any (d_x : Nat) (x : Sx.Q) (d_y : Nat) (y : Sx.Q) (w : World) (g_x : Sx.GoodQ d_x w x) (g_y : Sx.GoodQ d_y w y) :
    Calls Try.prog 7 #[.agg #[.string x.fr, .slice x.A x.n x.c], .agg #[.string y.fr, .slice y.A y.n y.c]] w fun e w' => e = .returned (.bool true) ∧ Ext w w' := by
  have xW := Ext.refl w
  have e_x := g_x.l.len
  have z_x := g_x.l.nle
  have e_y := g_y.l.len
  have z_y := g_y.l.nle
  refine calls_of_WC (args := [.agg #[.string x.fr, .slice x.A x.n x.c], .agg #[.string y.fr, .slice y.A y.n y.c]]) Try.func7 rfl rfl (ble rfl) ?_
  refine WC.seq (fun K1 k1 => ?_)
  refine WC.region rfl ?_
  refine WL.box rfl (blt rfl) rfl rfl rfl rfl ?_
  intro g2 w3 e4 x5 m6
  have o_g2 := own_new xW e4
  have xW := Ext.trans xW x5
  refine WL.box rfl (blt rfl) rfl rfl rfl rfl ?_
  intro g7 w8 e9 x10 m11
  have n_g2_g7 := ne_new m6 e9
  have o_g7 := own_new xW e9
  have m6 := m6.ext x10
  have xW := Ext.trans xW x10
  refine WL.yld rfl (blt rfl) rfl (Y.assign rfl rfl) ?_
  refine WL.nil ?_
  refine WK.then_normal (k1 _ _ ?_)
  refine WC.sub [(2, _), (3, _)] ⟨rfl, rfl, trivial⟩ ?_
  refine WC.seq (fun K12 k12 => ?_)
  refine WC.seq (fun K13 k13 => ?_)
  refine WC.region rfl ?_
  refine WL.call rfl (blt rfl) rfl rfl rfl has9 rfl (awake_any _) ?_
  rintro _ w14 ⟨rfl, x15⟩
  refine ⟨_, rfl, ?_⟩
  have m6 := m6.ext x15
  have m11 := m11.ext x15
  have xW := Ext.trans xW x15
  refine WL.yld rfl (blt rfl) rfl (Y.not rfl rfl) ?_
  refine WL.yld rfl (blt rfl) rfl (Y.move rfl rfl) ?_
  refine WL.yldW rfl (blt rfl) rfl rfl rfl (Y.loadS rfl Try.underlying46 rfl ti46 rfl (Blk.row_eq m6)) ?_
  refine WL.callW rfl (blt rfl) rfl rfl rfl rfl rfl has19 rfl (fewq_any _ _ _ (g_x.ext xW)) ?_
  rintro _ w16 ⟨b18, rfl, hfx, x17⟩
  refine ⟨_, rfl, ?_⟩
  have m6 := m6.ext x17
  have m11 := m11.ext x17
  have xW := Ext.trans xW x17
  refine WL.yldW rfl (blt rfl) rfl rfl rfl (Y.not rfl rfl) ?_
  refine WL.yld rfl (blt rfl) rfl (Y.pickF rfl rfl rfl) ?_
  refine WL.yld rfl (blt rfl) rfl (Y.move rfl rfl) ?_
  refine WL.split (t := 13) rfl (fun h19 => ?_) (fun h19 => ?_)
  ·
    refine WL.skip rfl (blt rfl) rfl rfl rfl rfl ?_
    refine WL.skip rfl (blt rfl) rfl rfl rfl rfl ?_
    refine WL.skip rfl (blt rfl) rfl rfl rfl rfl ?_
    refine WL.yld rfl (blt rfl) rfl (Y.pickT rfl rfl rfl) ?_
    refine WL.nil ?_
    refine WK.then_normal (k13 _ _ ?_)
    refine WC.sub [(2, _), (3, _), (17, _)] ⟨rfl, rfl, rfl, trivial⟩ ?_
    refine WC.condT rfl ?_
    refine WC.seq (fun K20 k20 => ?_)
    refine WC.region rfl ?_
    refine WL.call rfl (blt rfl) rfl rfl rfl has9 rfl (awake_any _) ?_
    rintro _ w21 ⟨rfl, x22⟩
    refine ⟨_, rfl, ?_⟩
    have m6 := m6.ext x22
    have m11 := m11.ext x22
    have xW := Ext.trans xW x22
    refine WL.yld rfl (blt rfl) rfl (Y.assign rfl rfl) ?_
    refine WL.nil ?_
    refine WK.then_normal (k20 _ _ ?_)
    refine WC.sub [(4, _)] ⟨rfl, trivial⟩ ?_
    refine WC.ret ?_
    refine WK.then_ret ?_
    clear k1 k12 k13 k20
    refine WK.ret [_] rfl ⟨rfl, trivial⟩ ?_
    exact ⟨rfl, xW⟩
  ·
    refine WL.yldW rfl (blt rfl) rfl rfl rfl (Y.loadS rfl Try.underlying46 rfl ti46 rfl (Blk.row_eq m11)) ?_
    refine WL.callW rfl (blt rfl) rfl rfl rfl rfl rfl has19 rfl (fewq_any _ _ _ (g_y.ext xW)) ?_
    rintro _ w23 ⟨b25, rfl, hfy, x24⟩
    refine ⟨_, rfl, ?_⟩
    have m6 := m6.ext x24
    have m11 := m11.ext x24
    have xW := Ext.trans xW x24
    refine WL.yldW rfl (blt rfl) rfl rfl rfl (Y.not rfl rfl) ?_
    refine WL.yld rfl (blt rfl) rfl (Y.pickF rfl rfl rfl) ?_
    refine WL.nil ?_
    refine WK.then_normal (k13 _ _ ?_)
    refine WC.sub [(2, _), (3, _), (17, _)] ⟨rfl, rfl, rfl, trivial⟩ ?_
    refine WC.cond rfl (fun h26 => ?_) (fun h26 => ?_)
    ·
      refine WC.seq (fun K27 k27 => ?_)
      refine WC.region rfl ?_
      refine WL.call rfl (blt rfl) rfl rfl rfl has9 rfl (awake_any _) ?_
      rintro _ w28 ⟨rfl, x29⟩
      refine ⟨_, rfl, ?_⟩
      have m6 := m6.ext x29
      have m11 := m11.ext x29
      have xW := Ext.trans xW x29
      refine WL.yld rfl (blt rfl) rfl (Y.assign rfl rfl) ?_
      refine WL.nil ?_
      refine WK.then_normal (k27 _ _ ?_)
      refine WC.sub [(4, _)] ⟨rfl, trivial⟩ ?_
      refine WC.ret ?_
      refine WK.then_ret ?_
      clear k1 k12 k13 k27
      refine WK.ret [_] rfl ⟨rfl, trivial⟩ ?_
      exact ⟨rfl, xW⟩
    ·
      have f_y := hfy (by simpa using h26)
      have f_x := hfx (by simpa using h19)
      refine WC.skip ?_
      refine WK.then_normal (k12 _ _ ?_)
      refine WC.sub [(2, _), (3, _)] ⟨rfl, rfl, trivial⟩ ?_
      refine WC.seq (fun K30 k30 => ?_)
      refine WC.region rfl ?_
      refine WL.yld rfl (blt rfl) rfl (Y.loadS rfl Try.underlying46 rfl ti46 rfl (Blk.row_eq m6)) ?_
      refine WL.yld rfl (blt rfl) rfl (Y.loadS rfl Try.underlying46 rfl ti46 rfl (Blk.row_eq m11)) ?_
      refine WL.call rfl (blt rfl) rfl rfl rfl has23 rfl (same_any _ _ _ _ _ (g_x.ext xW) (g_y.ext xW)) ?_
      rintro _ w31 ⟨rfl, x32⟩
      refine ⟨_, rfl, ?_⟩
      have m6 := m6.ext x32
      have m11 := m11.ext x32
      have xW := Ext.trans xW x32
      refine WL.yld rfl (blt rfl) rfl (Y.assign rfl rfl) ?_
      refine WL.nil ?_
      refine WK.then_normal (k30 _ _ ?_)
      refine WC.sub [(2, _), (3, _), (5, _)] ⟨rfl, rfl, rfl, trivial⟩ ?_
      refine WC.seq (fun K33 k33 => ?_)
      refine WC.regionDq (by kernel_rfl) (by kernel_rfl) rfl ?_
      refine WQ.yld rfl (blt rfl) rfl (Y.move rfl rfl) ?_
      refine WQ.yld rfl (blt rfl) rfl (Y.loadS rfl Try.underlying46 rfl ti46 rfl (Blk.row_ext m6)) ?_
      refine WQ.yld rfl (blt rfl) rfl (Y.loadS rfl Try.underlying46 rfl ti46 rfl (Blk.row_ext m11)) ?_
      refine WQ.call rfl (blt rfl) rfl rfl rfl has24 rfl (fun w hw => calls_ext hw (rsame_any _ _ _ _ _ (g_x.ext (Ext.trans xW hw)) (g_y.ext (Ext.trans xW hw)))) ?_
      refine WQ.yld rfl (blt rfl) rfl (Y.eqlB rfl Try.underlying4 rfl rfl) ?_
      refine WQ.yld rfl (blt rfl) rfl (Y.move rfl rfl) ?_
      refine WQ.yldG rfl (blt rfl) rfl rfl rfl (fun hb => Y.move rfl rfl) ?_
      refine WQ.yldG rfl (blt rfl) rfl rfl rfl (fun hb => Y.loadS rfl Try.underlying46 rfl ti46 rfl (Blk.row_ext m11)) ?_
      refine WQ.yldG rfl (blt rfl) rfl rfl rfl (fun hb => Y.loadS rfl Try.underlying46 rfl ti46 rfl (Blk.row_ext m6)) ?_
      refine WQ.callG rfl (blt rfl) rfl rfl rfl rfl rfl has23 (fun hb => (evs_cons (evg rfl hb) (evs_cons (evg rfl hb) evs_nil))) (fun hb w hw => calls_ext hw (same_any _ _ _ _ _ (g_y.ext (Ext.trans xW hw)) (g_x.ext (Ext.trans xW hw)))) ?_
      refine WQ.yldG rfl (blt rfl) rfl rfl rfl (fun hb => Y.eqlB rfl Try.underlying4 (evg rfl hb) (evg rfl hb)) ?_
      refine WQ.yld rfl (blt rfl) rfl (Y.and rfl rfl rfl rfl) ?_
      refine WQ.yld rfl (blt rfl) rfl (Y.move rfl rfl) ?_
      refine WQ.yldG rfl (blt rfl) rfl rfl rfl (fun hb => Y.loadS rfl Try.underlying46 rfl ti46 rfl (Blk.row_ext m6)) ?_
      refine WQ.yldG rfl (blt rfl) rfl rfl rfl (fun hb => Y.loadS rfl Try.underlying46 rfl ti46 rfl (Blk.row_ext m6)) ?_
      refine WQ.callG rfl (blt rfl) rfl rfl rfl rfl rfl has23 (fun hb => (evs_cons (evg rfl hb) (evs_cons (evg rfl hb) evs_nil))) (fun hb w hw => calls_ext hw (same_any _ _ _ _ _ (g_x.ext (Ext.trans xW hw)) (g_x.ext (Ext.trans xW hw)))) ?_
      refine WQ.yld rfl (blt rfl) rfl (Y.and rfl rfl rfl rfl) ?_
      refine WQ.yld rfl (blt rfl) rfl (Y.move rfl rfl) ?_
      refine WQ.yldG rfl (blt rfl) rfl rfl rfl (fun hb => Y.move rfl rfl) ?_
      refine WQ.yldG rfl (blt rfl) rfl rfl rfl (fun hb => Y.not rfl (evg rfl hb)) ?_
      refine WQ.yldG rfl (blt rfl) rfl rfl rfl (fun hb => Y.move rfl (evg rfl hb)) ?_
      refine WQ.yldGs [(_, _)] rfl (blt rfl) rfl rfl rfl (fun hb => Y.loadS rfl Try.underlying46 rfl ti46 rfl (Blk.row_ext m6)) ?_
      refine WQ.callGs [(_, _)] rfl (blt rfl) rfl rfl rfl rfl rfl has20 (fun hb => (evs_cons (evg (evg rfl hb.1) hb.2.1) evs_nil)) (fun hb w hw => calls_ext hw (query_any _ _ _ (g_x.ext (Ext.trans xW hw)) f_x)) ?_
      refine WQ.yldGs [(_, _)] rfl (blt rfl) rfl rfl rfl (fun hb => Y.loadS rfl Try.underlying46 rfl ti46 rfl (Blk.row_ext m11)) ?_
      refine WQ.callGs [(_, _)] rfl (blt rfl) rfl rfl rfl rfl rfl has20 (fun hb => (evs_cons (evg (evg rfl hb.1) hb.2.1) evs_nil)) (fun hb w hw => calls_ext hw (query_any _ _ _ (g_y.ext (Ext.trans xW hw)) f_y)) ?_
      refine WQ.yldGs [(_, _)] rfl (blt rfl) rfl rfl rfl (fun hb => Y.eql rfl (evg (evg rfl hb.1) hb.2.1) (evg (evg rfl hb.1) hb.2.1)) ?_
      refine WQ.yldG rfl (blt rfl) rfl rfl rfl (fun hb => Y.or rfl (evg rfl hb) rfl (evg rfl hb)) ?_
      refine WQ.yld rfl (blt rfl) rfl (Y.and rfl rfl rfl rfl) ?_
      refine WQ.yld rfl (blt rfl) rfl (Y.assign rfl rfl) ?_
      refine WQ.done (fun w34 x35 => ?_)
      have m6 := m6.ext x35
      have m11 := m11.ext x35
      have xW := Ext.trans xW x35
      refine WK.then_normal (k33 _ _ ?_)
      refine WC.sub [(4, _)] ⟨rfl, trivial⟩ ?_
      refine WC.ret ?_
      clear k1 k12 k13 k30 k33
      refine WK.ret [_] rfl ⟨rfl, trivial⟩ ?_
      refine ⟨ret1 (vb ?_), xW⟩
      rw [Sx.q_symm y x, Sx.q_self, beq_self_eq_true]
      cases hq : Sx.qS x y with
      | false => rfl
      | true => rw [Sx.qry_same hq]; simp
end SyntaxSame
end SxW

end Go.Proofs.Ytklccakoblibmaa
