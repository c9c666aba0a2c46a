/- The walk of SyntaxExprs. Conditions: what each theorem states. -/
import Derived.Test.YtklccakoblibmaaSxCal
import Derived.Test.YtklccakoblibmaaSxLw
namespace Go.Proofs.Ytklccakoblibmaa
open Go Go.Eng Go.RowKit
set_option linter.unusedVariables false
set_option linter.unusedSimpArgs false
namespace SxW
open B C D E G S T U V W X Y Z Z2 AA AB
namespace SyntaxExprs
theorem ti28 : TI Try.prog 28 (.agg #[.int .i64 0, .string ⟨#[]⟩, .int .i64 0, .int .i64 0, .string ⟨#[]⟩, .slice none 0 0]) 6 80 := TI.mk (by kernel_rfl)
theorem has9 : Has Try.prog 9 := ⟨_, Try.func9, rfl, by kernel_rfl⟩
theorem has10 : Has Try.prog 10 := ⟨_, Try.func10, rfl, by kernel_rfl⟩
theorem has11 : Has Try.prog 11 := ⟨_, Try.func11, rfl, by kernel_rfl⟩
theorem has12 : Has Try.prog 12 := ⟨_, Try.func12, rfl, by kernel_rfl⟩
theorem has13 : Has Try.prog 13 := ⟨_, Try.func13, rfl, by kernel_rfl⟩
theorem has14 : Has Try.prog 14 := ⟨_, Try.func14, rfl, by kernel_rfl⟩
theorem has15 : Has Try.prog 15 := ⟨_, Try.func15, rfl, by kernel_rfl⟩
theorem SyntaxExprs_any (d_x : Nat) (x : Sx.E) (w : World) (g_x : Sx.Good d_x w x) :
    Calls Try.prog 3 #[.agg #[.int .i64 x.op, .string x.nm, .int .i64 x.vk, .int .i64 x.vn, .string x.vs, .slice x.A x.n x.c]] w fun e w' => e = .returned (.bool true) ∧ Ext w w' := by
  have xW := Ext.refl w
  have h_x := g_x.ls
  have e_x := h_x.len
  have z_x := h_x.nle
  refine calls_of_WC (args := [.agg #[.int .i64 x.op, .string x.nm, .int .i64 x.vk, .int .i64 x.vn, .string x.vs, .slice x.A x.n x.c]]) Try.func3 rfl rfl (ble rfl) ?_
  refine WC.seq (fun K1 k1 => ?_)
  refine WC.region rfl ?_
  refine WL.box rfl (blt rfl) rfl rfl rfl rfl ?_
  intro g2 w3 e4 x5 m6
  have o_g2 := own_new xW e4
  have xW := Ext.trans xW x5
  refine WL.yld rfl (blt rfl) rfl (Y.assign rfl rfl) ?_
  refine WL.nil ?_
  refine WK.then_normal (k1 _ _ ?_)
  refine WC.sub [(1, _)] ⟨rfl, trivial⟩ ?_
  refine WC.seq (fun K7 k7 => ?_)
  refine WC.seq (fun K8 k8 => ?_)
  refine WC.region rfl ?_
  refine WL.call rfl (blt rfl) rfl rfl rfl has9 rfl (awake_any _) ?_
  rintro _ w9 ⟨rfl, x10⟩
  refine ⟨_, rfl, ?_⟩
  have m6 := m6.ext x10
  have xW := Ext.trans xW x10
  refine WL.yld rfl (blt rfl) rfl (Y.not rfl rfl) ?_
  refine WL.yld rfl (blt rfl) rfl (Y.move rfl rfl) ?_
  refine WL.yldW rfl (blt rfl) rfl rfl rfl (Y.loadS rfl Try.underlying28 rfl ti28 rfl (Blk.row_eq m6)) ?_
  refine WL.callW rfl (blt rfl) rfl rfl rfl rfl rfl has10 rfl (small_any _ _ _ (g_x.ext xW)) ?_
  rintro _ w11 ⟨b13, rfl, hsa, x12⟩
  refine ⟨_, rfl, ?_⟩
  have m6 := m6.ext x12
  have xW := Ext.trans xW x12
  refine WL.yldW rfl (blt rfl) rfl rfl rfl (Y.not rfl rfl) ?_
  refine WL.yld rfl (blt rfl) rfl (Y.pickF rfl rfl rfl) ?_
  refine WL.nil ?_
  refine WK.then_normal (k8 _ _ ?_)
  refine WC.sub [(1, _), (9, _)] ⟨rfl, rfl, trivial⟩ ?_
  refine WC.cond rfl (fun h14 => ?_) (fun h14 => ?_)
  ·
    refine WC.seq (fun K15 k15 => ?_)
    refine WC.region rfl ?_
    refine WL.call rfl (blt rfl) rfl rfl rfl has9 rfl (awake_any _) ?_
    rintro _ w16 ⟨rfl, x17⟩
    refine ⟨_, rfl, ?_⟩
    have m6 := m6.ext x17
    have xW := Ext.trans xW x17
    refine WL.yld rfl (blt rfl) rfl (Y.assign rfl rfl) ?_
    refine WL.nil ?_
    refine WK.then_normal (k15 _ _ ?_)
    refine WC.sub [(2, _)] ⟨rfl, trivial⟩ ?_
    refine WC.ret ?_
    refine WK.then_ret ?_
    clear k1 k7 k8 k15
    refine WK.ret [_] rfl ⟨rfl, trivial⟩ ?_
    exact ⟨rfl, xW⟩
  ·
    have hs_x := hsa (by simpa using h14)
    have sh_x := hs_x.1
    have hc_x := hs_x.2.2
    refine WC.skip ?_
    refine WK.then_normal (k7 _ _ ?_)
    refine WC.sub [(1, _)] ⟨rfl, trivial⟩ ?_
    refine WC.seq (fun K18 k18 => ?_)
    refine WC.regionX (fun W' => Ext w W' ∧ Blk W' g2 28 _) (.load 0 (.load 2 (.alt 1 (.alt 3 (.load 4 (.load 5 (.load 6 (.load 8 (.alt 7 (.alt 9 (.alt 10 (.load 11 (.load 12 (.fin))) (.none)) (.none)) (.none)))))) (.none)) (.none)))) ⟨xW, m6⟩ (by kernel_rfl) (by kernel_rfl) (fun w19 x20 => ?_)
    have m6 := m6.ext x20
    have xW := Ext.trans xW x20
    refine WX.yld rfl rfl (blt rfl) rfl (Y.loadS rfl Try.underlying28 rfl ti28 rfl (Blk.row_c (fun _ h => h.2))) ?_
    refine WX.yld rfl rfl (blt rfl) rfl (Y.loadS rfl Try.underlying28 rfl ti28 rfl (Blk.row_c (fun _ h => h.2))) ?_
    refine WX.call rfl rfl (blt rfl) rfl rfl rfl has11 rfl ⟨xW, m6⟩ (expr_any _ _ _ (g_x.ext xW) sh_x hc_x) ?_
    rintro _ w21 ⟨rfl, x22⟩
    refine ⟨_, rfl, ?_⟩
    have m6 := m6.ext x22
    have xW := Ext.trans xW x22
    refine WX.call rfl rfl (blt rfl) rfl rfl rfl has12 rfl ⟨xW, m6⟩ (rexpr_any _ _ _ (g_x.ext xW) sh_x hc_x) ?_
    rintro _ w23 ⟨rfl, x24⟩
    refine ⟨_, rfl, ?_⟩
    have m6 := m6.ext x24
    have xW := Ext.trans xW x24
    refine WX.yld rfl rfl (blt rfl) rfl (Yld.cast (Y.eql rfl rfl rfl) (vb (show _ = true by simp))) ?_
    refine WX.yld rfl rfl (blt rfl) rfl (Y.move rfl rfl) ?_
    refine WX.yldW rfl rfl (blt rfl) rfl rfl rfl (Y.loadS rfl Try.underlying28 rfl ti28 rfl (Blk.row_c (fun _ h => h.2))) ?_
    refine WX.yldW rfl rfl (blt rfl) rfl rfl rfl (Y.loadS rfl Try.underlying28 rfl ti28 rfl (Blk.row_c (fun _ h => h.2))) ?_
    refine WX.callW rfl rfl (blt rfl) rfl rfl rfl rfl rfl has14 rfl ⟨xW, m6⟩ (columnsE_any _ _ _ (g_x.ext xW) sh_x hc_x) ?_
    rintro _ w25 ⟨v27, rfl, ow28, x26⟩
    refine ⟨_, rfl, ?_⟩
    have r_v27_g2 := ne_res ow28 m6
    have ow28 := OwnL.base_le ow28 xW.size
    have m6 := m6.ext x26
    have xW := Ext.trans xW x26
    refine WX.callW rfl rfl (blt rfl) rfl rfl rfl rfl rfl has15 rfl ⟨xW, m6⟩ (rcolumns_any _ _ _ (g_x.ext xW) sh_x hc_x) ?_
    rintro _ w29 ⟨A31, n32, c33, rfl, hl34, x30⟩
    refine ⟨_, rfl, ?_⟩
    have e_n32 := hl34.len
    have m6 := m6.ext x30
    have ow28 := ow28.ext x30
    have xW := Ext.trans xW x30
    obtain ⟨A35, n36, c37, rfl, hl38⟩ := OwnL.opened ow28 (fun _ => rfl) (by decide)
    have e_n36 := hl38.len
    try simp only [List.length_append, List.length_cons, List.length_nil, List.length_reverse, List.length_drop, List.length_take, List.length_map, List.length_replicate, List.length_set] at e_n36
    have z_n36 := hl38.nle
    refine WX.callW rfl rfl (blt rfl) rfl rfl rfl rfl rfl has13 rfl ⟨xW, m6⟩ (calls_cast (by rw [Sx.colP_eq, Sx.al_refl]) (texts_any _ _ _ _ _ _ _ _ _ hl38 hl34)) ?_
    rintro _ w39 ⟨rfl, x40⟩
    refine ⟨_, rfl, ?_⟩
    have m6 := m6.ext x40
    have ow28 := ow28.ext x40
    have hl38 := hl38.ext x40
    have hl34 := hl34.ext x40
    have xW := Ext.trans xW x40
    refine WX.yld rfl rfl (blt rfl) rfl (Y.pickT rfl rfl rfl) ?_
    refine WX.yld rfl rfl (blt rfl) rfl (Y.assign rfl rfl) ?_
    refine WX.nil ⟨xW, m6⟩ ?_
    refine WK.then_normal (k18 _ _ ?_)
    refine WC.sub [(2, _)] ⟨rfl, trivial⟩ ?_
    refine WC.ret ?_
    clear k1 k7 k8 k18
    refine WK.ret [_] rfl ⟨rfl, trivial⟩ ?_
    exact ⟨rfl, xW⟩
end SyntaxExprs
end SxW

end Go.Proofs.Ytklccakoblibmaa
