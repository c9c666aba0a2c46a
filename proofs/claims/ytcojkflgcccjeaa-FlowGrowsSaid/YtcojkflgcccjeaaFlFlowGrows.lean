/- The walk of the law. Conditions: what each theorem states. -/
import Derived.Test.YtcojkflgcccjeaaFlAwake
namespace Go.Proofs.Ytcojkflgcccjeaa
open Go Go.Eng Go.RowKit
set_option linter.unusedVariables false
namespace FlW
open R O V
namespace LFlowGrows
theorem ti44 : TI Try.prog 44 (.agg #[.int .i64 0, .int .i64 0, .int .i64 0, .int .i64 0, .string ⟨#[]⟩, .int .i64 0, .int .i64 0, .slice none 0 0, .int .i64 0, .int .i64 0]) 10 104 := TI.mk (by kernel_rfl)
theorem ti46 : TI Try.prog 46 (.agg #[.int .i64 0, .int .i64 0, .int .i64 0, .int .i64 0, .int .i64 0, .int .i64 0, .int .i64 0]) 7 56 := TI.mk (by kernel_rfl)
theorem has9 : Has Try.prog 9 := ⟨_, Try.func9, rfl, by kernel_rfl⟩
theorem has10 : Has Try.prog 10 := ⟨_, Try.func10, rfl, by kernel_rfl⟩
theorem has11 : Has Try.prog 11 := ⟨_, Try.func11, rfl, by kernel_rfl⟩
theorem FlowGrows_any (A_o : Option Addr) (n_o c_o : Nat) (o : List Fl.Ev) (k : Int) (w : World) (h_o : Ls w A_o n_o c_o Fl.Ev.c 10 o) (hk : 0 ≤ k ∧ k ≤ 65535) :
    Calls Try.prog 6 #[.slice A_o n_o c_o, .int .u16 k] w fun e w' => e = .returned (.bool true) ∧ Ext w w' := by
  have xW := Ext.refl w
  have e_o := h_o.len
  have z_o := h_o.nle
  have ll := Fl.of_len o (k.toNat % (n_o + 1))
  have tt := Fl.of_take o (k.toNat % (n_o + 1))
  have jj := Fl.mod_le k n_o
  refine calls_of_WC (args := [.slice A_o n_o c_o, .int .u16 k]) Try.func6 rfl rfl (ble rfl) ?_
  refine WC.seq (fun K1 k1 => ?_)
  refine WC.region rfl ?_
  refine WL.yld rfl (blt rfl) rfl (Y.assign rfl rfl) ?_
  refine WL.nil ?_
  refine WK.then_normal (k1 _ _ ?_)
  refine WC.sub [(0, _), (1, _)] ⟨rfl, rfl, trivial⟩ ?_
  refine WC.seq (fun K2 k2 => ?_)
  refine WC.seq (fun K3 k3 => ?_)
  refine WC.region rfl ?_
  refine WL.yld rfl (blt rfl) rfl (Y.move rfl rfl) ?_
  refine WL.yld rfl (blt rfl) rfl (Y.lenSl rfl rfl rfl Try.underlying22 rfl) ?_
  refine WL.yld rfl (blt rfl) rfl (Y.gtr rfl rfl rfl) ?_
  refine WL.nil ?_
  refine WK.then_normal (k3 _ _ ?_)
  refine WC.sub [(0, _), (1, _), (9, _)] ⟨rfl, rfl, rfl, trivial⟩ ?_
  refine WC.cond rfl (fun h4 => ?_) (fun h4 => ?_)
  ·
    have p4 := (dec_t h4)
    refine WC.seq (fun K5 k5 => ?_)
    refine WC.region rfl ?_
    refine WL.call rfl (blt rfl) rfl rfl rfl has9 rfl (awake_any _ ) ?_
    rintro _ w6 ⟨rfl, x7⟩
    refine ⟨_, rfl, ?_⟩
    have xW := Ext.trans xW x7
    refine WL.yld rfl (blt rfl) rfl (Y.assign rfl rfl) ?_
    refine WL.nil ?_
    refine WK.then_normal (k5 _ _ ?_)
    refine WC.sub [(4, _)] ⟨rfl, trivial⟩ ?_
    refine WC.ret ?_
    refine WK.then_ret ?_
    clear k1 k2 k3 k5
    refine WK.ret [_] rfl ⟨rfl, trivial⟩ ?_
    exact ⟨ret1 (vb rfl), xW⟩
  ·
    have p4 := (dec_f h4)
    refine WC.skip ?_
    refine WK.then_normal (k2 _ _ ?_)
    refine WC.sub [(0, _), (1, _)] ⟨rfl, rfl, trivial⟩ ?_
    refine WC.seq (fun K8 k8 => ?_)
    refine WC.region rfl ?_
    refine WL.yld rfl (blt rfl) rfl (Y.move rfl rfl) ?_
    refine WL.call rfl (blt rfl) rfl rfl rfl has11 rfl (of_any _ _ _ _ _ (h_o.ext xW) (by omega)) ?_
    rintro _ w9 ⟨v11, rfl, ow12, x10⟩
    refine ⟨_, rfl, ?_⟩
    have ow12 := OwnL.base_le ow12 xW.size
    have xW := Ext.trans xW x10
    refine WL.yld rfl (blt rfl) rfl (Y.assign rfl rfl) ?_
    refine WL.nil ?_
    refine WK.then_normal (k8 _ _ ?_)
    refine WC.sub [(0, _), (1, _), (5, _)] ⟨rfl, rfl, rfl, trivial⟩ ?_
    refine WC.seq (fun K13 k13 => ?_)
    refine WC.region rfl ?_
    refine WL.yld rfl (blt rfl) rfl (Y.move rfl rfl) ?_
    refine WL.yld rfl (blt rfl) rfl (Y.move rfl rfl) ?_
    refine WL.yld rfl (blt rfl) rfl (Y.convInt rfl Try.underlying49 Try.underlying3 rfl (wrap_i64 (by first | omega | (dsimp only; omega)))) ?_
    refine WL.yld rfl (blt rfl) rfl (Y.move rfl rfl) ?_
    refine WL.yld rfl (blt rfl) rfl (Y.lenSl rfl rfl rfl Try.underlying22 rfl) ?_
    refine WL.yld rfl (blt rfl) rfl (Y.add rfl rfl rfl (wrap_i64 (by first | omega | (dsimp only; omega)))) ?_
    refine WL.yld rfl (blt rfl) rfl (Y.rem rfl rfl rfl (by omega) (rem_pos (by omega))) ?_
    refine WL.yld rfl (blt rfl) rfl (Y.sliceH (k.toNat % (n_o + 1)) rfl Try.underlying22 ti44 rfl rfl (Fl.mod_nat hk) (Nat.le_trans (Fl.mod_le k n_o) (h_o.ext xW).le)) ?_
    refine WL.call rfl (blt rfl) rfl rfl rfl has11 rfl (of_any _ _ _ _ _ ((h_o.ext xW).take (Fl.mod_le k n_o)) (by omega)) ?_
    rintro _ w14 ⟨v16, rfl, ow17, x15⟩
    refine ⟨_, rfl, ?_⟩
    have d_v11_v16 := (Apart.res ow17 ow12).symm
    have ow17 := OwnL.base_le ow17 xW.size
    have ow12 := ow12.ext x15
    have xW := Ext.trans xW x15
    refine WL.yld rfl (blt rfl) rfl (Y.assign rfl rfl) ?_
    refine WL.nil ?_
    refine WK.then_normal (k13 _ _ ?_)
    refine WC.sub [(5, _), (6, _)] ⟨rfl, rfl, trivial⟩ ?_
    refine WC.seq (fun K18 k18 => ?_)
    refine WC.region rfl ?_
    refine WL.yld rfl (blt rfl) rfl (Y.move rfl rfl) ?_
    obtain ⟨A19, n20, c21, rfl, hl22⟩ := OwnL.opened ow17 (fun _ => rfl) (by decide)
    have e_n20 := hl22.len
    try simp only [List.length_append, List.length_cons, List.length_nil, List.length_reverse, List.length_drop, List.length_take] at e_n20
    have z_n20 := hl22.nle
    refine WL.yld rfl (blt rfl) rfl (Y.lenSl rfl rfl rfl Try.underlying25 rfl) ?_
    refine WL.yld rfl (blt rfl) rfl (Y.move rfl rfl) ?_
    obtain ⟨A23, n24, c25, rfl, hl26⟩ := OwnL.opened ow12 (fun _ => rfl) (by decide)
    have e_n24 := hl26.len
    try simp only [List.length_append, List.length_cons, List.length_nil, List.length_reverse, List.length_drop, List.length_take] at e_n24
    have z_n24 := hl26.nle
    refine WL.yld rfl (blt rfl) rfl (Y.lenSl rfl rfl rfl Try.underlying25 rfl) ?_
    refine WL.yld rfl (blt rfl) rfl (Yld.cast (Y.leq rfl rfl rfl) (vb (b := true) (decide_eq_true (by omega)))) ?_
    refine WL.yld rfl (blt rfl) rfl (Y.move rfl rfl) ?_
    refine WL.yldW rfl (blt rfl) rfl rfl rfl (Y.move rfl rfl) ?_
    refine WL.yldW rfl (blt rfl) rfl rfl rfl (Y.move rfl rfl) ?_
    refine WL.yldW rfl (blt rfl) rfl rfl rfl (Y.move rfl rfl) ?_
    refine WL.yldW rfl (blt rfl) rfl rfl rfl (Y.lenSl rfl rfl rfl Try.underlying25 rfl) ?_
    have b27 : n20 ≤ n24 := by omega
    refine WL.yldW rfl (blt rfl) rfl rfl rfl (Y.sliceH n20 rfl Try.underlying25 ti46 rfl rfl rfl (Nat.le_trans b27 hl26.le)) ?_
    refine WL.callW rfl (blt rfl) rfl rfl rfl rfl rfl has10 rfl (same_any _ _ _ _ _ _ _ _ _ hl22 (hl26.take b27)) ?_
    rintro _ w28 ⟨rfl, x29⟩
    refine ⟨_, rfl, ?_⟩
    have ow12 := ow12.ext x29
    have hl26 := hl26.ext x29
    have ow17 := ow17.ext x29
    have hl22 := hl22.ext x29
    have xW := Ext.trans xW x29
    refine WL.yld rfl (blt rfl) rfl (Yld.cast (Y.pickT rfl rfl rfl) (vb (b := true) (decide_eq_true (tt.trans (by congr 1))))) ?_
    refine WL.yld rfl (blt rfl) rfl (Y.move rfl rfl) ?_
    refine WL.callW rfl (blt rfl) rfl rfl rfl rfl rfl has9 rfl (awake_any _ ) ?_
    rintro _ w30 ⟨rfl, x31⟩
    refine ⟨_, rfl, ?_⟩
    have ow12 := ow12.ext x31
    have hl26 := hl26.ext x31
    have ow17 := ow17.ext x31
    have hl22 := hl22.ext x31
    have xW := Ext.trans xW x31
    refine WL.yld rfl (blt rfl) rfl (Y.pickT rfl rfl rfl) ?_
    refine WL.yld rfl (blt rfl) rfl (Y.assign rfl rfl) ?_
    refine WL.nil ?_
    refine WK.then_normal (k18 _ _ ?_)
    refine WC.sub [(4, _)] ⟨rfl, trivial⟩ ?_
    refine WC.ret ?_
    clear k1 k2 k3 k8 k13 k18
    refine WK.ret [_] rfl ⟨rfl, trivial⟩ ?_
    exact ⟨ret1 (vb rfl), xW⟩
end LFlowGrows
end FlW

end Go.Proofs.Ytcojkflgcccjeaa
