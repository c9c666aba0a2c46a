/- The walk of SyntaxSteps. Conditions: what each theorem states. -/
import Derived.Test.YtklccakoblibmaaSxCal
import Derived.Test.YtklccakoblibmaaSxLw
namespace Go.Proofs.Ytklccakoblibmaa
open Go Go.Eng Go.RowKit
set_option linter.unusedVariables false
set_option linter.unusedSimpArgs false
namespace SxW
open B C D E G S T U V W X Y Z Z2 AA AB
namespace SyntaxSteps
theorem ti41 : TI Try.prog 41 (.agg #[.int .i64 0, .int .i64 0, .string ⟨#[]⟩, .int .i64 0, .int .i64 0, .string ⟨#[]⟩, .slice none 0 0, .slice none 0 0, .slice none 0 0, .slice none 0 0, .slice none 0 0, .int .i64 0, .string ⟨#[]⟩]) 13 208 := TI.mk (by kernel_rfl)
theorem has9 : Has Try.prog 9 := ⟨_, Try.func9, rfl, by kernel_rfl⟩
theorem has16 : Has Try.prog 16 := ⟨_, Try.func16, rfl, by kernel_rfl⟩
theorem has17 : Has Try.prog 17 := ⟨_, Try.func17, rfl, by kernel_rfl⟩
theorem has18 : Has Try.prog 18 := ⟨_, Try.func18, rfl, by kernel_rfl⟩
theorem SyntaxSteps_any (d_s : Nat) (s : Sx.St) (w : World) (g_s : Sx.GoodS d_s w s) :
    Calls Try.prog 4 #[.agg #[.int .i64 s.op, .int .i64 s.cd.op, .string s.cd.nm, .int .i64 s.cd.vk, .int .i64 s.cd.vn, .string s.cd.vs, .slice s.cd.A s.cd.n s.cd.c, .slice s.iA s.iN s.iC, .slice s.cA s.cN s.cC, .slice s.aA s.aN s.aC, .slice s.sA s.sN s.sC, .int .i64 s.N, .string s.tb]] w fun e w' => e = .returned (.bool true) ∧ Ext w w' := by
  have xW := Ext.refl w
  have e_il := g_s.il.len
  have e_cl := g_s.cl.len
  have e_al := g_s.al.len
  have e_sl := g_s.sl.len
  refine calls_of_WC (args := [.agg #[.int .i64 s.op, .int .i64 s.cd.op, .string s.cd.nm, .int .i64 s.cd.vk, .int .i64 s.cd.vn, .string s.cd.vs, .slice s.cd.A s.cd.n s.cd.c, .slice s.iA s.iN s.iC, .slice s.cA s.cN s.cC, .slice s.aA s.aN s.aC, .slice s.sA s.sN s.sC, .int .i64 s.N, .string s.tb]]) Try.func4 rfl rfl (ble rfl) ?_
  refine WC.seq (fun K1 k1 => ?_)
  refine WC.region rfl ?_
  refine WL.box rfl (blt rfl) rfl rfl rfl rfl ?_
  intro g2 w3 e4 x5 m6
  have o_g2 := own_new xW e4
  have xW := Ext.trans xW x5
  refine WL.yld rfl (blt rfl) rfl (Y.assign rfl rfl) ?_
  refine WL.nil ?_
  refine WK.then_normal (k1 _ _ ?_)
  refine WC.sub [(1, _)] ⟨rfl, trivial⟩ ?_
  refine WC.seq (fun K7 k7 => ?_)
  refine WC.seq (fun K8 k8 => ?_)
  refine WC.region rfl ?_
  refine WL.call rfl (blt rfl) rfl rfl rfl has9 rfl (awake_any _) ?_
  rintro _ w9 ⟨rfl, x10⟩
  refine ⟨_, rfl, ?_⟩
  have m6 := m6.ext x10
  have xW := Ext.trans xW x10
  refine WL.yld rfl (blt rfl) rfl (Y.not rfl rfl) ?_
  refine WL.yld rfl (blt rfl) rfl (Y.move rfl rfl) ?_
  refine WL.yldW rfl (blt rfl) rfl rfl rfl (Y.loadS rfl Try.underlying41 rfl ti41 rfl (Blk.row_eq m6)) ?_
  refine WL.callW rfl (blt rfl) rfl rfl rfl rfl rfl has16 rfl (fews_any _ _ _ (g_s.ext xW)) ?_
  rintro _ w11 ⟨b13, rfl, hfs, x12⟩
  refine ⟨_, rfl, ?_⟩
  have m6 := m6.ext x12
  have xW := Ext.trans xW x12
  refine WL.yldW rfl (blt rfl) rfl rfl rfl (Y.not rfl rfl) ?_
  refine WL.yld rfl (blt rfl) rfl (Y.pickF rfl rfl rfl) ?_
  refine WL.nil ?_
  refine WK.then_normal (k8 _ _ ?_)
  refine WC.sub [(1, _), (9, _)] ⟨rfl, rfl, trivial⟩ ?_
  refine WC.cond rfl (fun h14 => ?_) (fun h14 => ?_)
  ·
    refine WC.seq (fun K15 k15 => ?_)
    refine WC.region rfl ?_
    refine WL.call rfl (blt rfl) rfl rfl rfl has9 rfl (awake_any _) ?_
    rintro _ w16 ⟨rfl, x17⟩
    refine ⟨_, rfl, ?_⟩
    have m6 := m6.ext x17
    have xW := Ext.trans xW x17
    refine WL.yld rfl (blt rfl) rfl (Y.assign rfl rfl) ?_
    refine WL.nil ?_
    refine WK.then_normal (k15 _ _ ?_)
    refine WC.sub [(2, _)] ⟨rfl, trivial⟩ ?_
    refine WC.ret ?_
    refine WK.then_ret ?_
    clear k1 k7 k8 k15
    refine WK.ret [_] rfl ⟨rfl, trivial⟩ ?_
    exact ⟨rfl, xW⟩
  ·
    have f_s := hfs (by simpa using h14)
    refine WC.skip ?_
    refine WK.then_normal (k7 _ _ ?_)
    refine WC.sub [(1, _)] ⟨rfl, trivial⟩ ?_
    refine WC.seq (fun K18 k18 => ?_)
    refine WC.regionDq (by kernel_rfl) (by kernel_rfl) rfl ?_
    refine WQ.yld rfl (blt rfl) rfl (Y.loadS rfl Try.underlying41 rfl ti41 rfl (Blk.row_ext m6)) ?_
    refine WQ.call rfl (blt rfl) rfl rfl rfl has17 rfl (fun w hw => calls_ext hw (step_any _ _ _ (g_s.ext (Ext.trans xW hw)) f_s)) ?_
    refine WQ.yld rfl (blt rfl) rfl (Y.loadS rfl Try.underlying41 rfl ti41 rfl (Blk.row_ext m6)) ?_
    refine WQ.call rfl (blt rfl) rfl rfl rfl has18 rfl (fun w hw => calls_ext hw (rstep_eq _ _ _ (g_s.ext (Ext.trans xW hw)) f_s)) ?_
    refine WQ.yld rfl (blt rfl) rfl (Y.eql rfl rfl rfl) ?_
    refine WQ.yld rfl (blt rfl) rfl (Y.assign rfl rfl) ?_
    refine WQ.done (fun w19 x20 => ?_)
    have m6 := m6.ext x20
    have xW := Ext.trans xW x20
    refine WK.then_normal (k18 _ _ ?_)
    refine WC.sub [(2, _)] ⟨rfl, trivial⟩ ?_
    refine WC.ret ?_
    clear k1 k7 k8 k18
    refine WK.ret [_] rfl ⟨rfl, trivial⟩ ?_
    refine ⟨ret1 (vb ?_), xW⟩
    simp
end SyntaxSteps
end SxW

end Go.Proofs.Ytklccakoblibmaa
