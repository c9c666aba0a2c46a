/- The walk of the law. Conditions: what each theorem states. -/
import Derived.Test.YtghfncgciaiofaaDoorSyMake
import Derived.Test.YtghfncgciaiofaaDoorSyKeep
namespace Go.Proofs.YtghfncgciaiofaaDoor
open Go Go.Eng Go.RowKit
set_option linter.unusedVariables false
namespace SyW
open R X F Y A S Q
namespace LSymbolSamples
theorem has8 : Has Tryd.prog 8 := ⟨_, Tryd.func8, rfl, by kernel_rfl⟩
theorem has9 : Has Tryd.prog 9 := ⟨_, Tryd.func9, rfl, by kernel_rfl⟩
theorem has16 : Has Tryd.prog 16 := ⟨_, Tryd.func16, rfl, by kernel_rfl⟩
theorem has17 : Has Tryd.prog 17 := ⟨_, Tryd.func17, rfl, by kernel_rfl⟩
theorem has18 : Has Tryd.prog 18 := ⟨_, Tryd.func18, rfl, by kernel_rfl⟩
theorem has19 : Has Tryd.prog 19 := ⟨_, Tryd.func19, rfl, by kernel_rfl⟩
theorem SymbolSamples_any (A_l : Option Addr) (n_l c_l : Nat) (l : List Sy.M) (A_s : Option Addr) (n_s c_s : Nat) (s : List Sy.P) (w : World) (h_l : Ls w A_l n_l c_l Sy.M.v 4 l) (h_s : Ls w A_s n_s c_s Sy.P.v 4 s) (g_l : Sy.Good w l) (g_s : Sy.GoodP w s) :
    Calls Tryd.prog 6 #[.slice A_l n_l c_l, .slice A_s n_s c_s] w fun e w' => e = .returned (.bool true) ∧ Ext w w' := by
  have xW := Ext.refl w
  have e_l := h_l.len
  have z_l := h_l.nle
  have e_s := h_s.len
  have z_s := h_s.nle
  refine calls_of_WC (args := [.slice A_l n_l c_l, .slice A_s n_s c_s]) Tryd.func6 rfl rfl (ble rfl) ?_
  refine WC.seq (fun K1 k1 => ?_)
  refine WC.region rfl ?_
  refine WL.yld rfl (blt rfl) rfl (Y.assign rfl rfl) ?_
  refine WL.nil ?_
  refine WK.then_normal (k1 _ _ ?_)
  refine WC.sub [(0, _), (1, _)] ⟨rfl, rfl, trivial⟩ ?_
  refine WC.seq (fun K2 k2 => ?_)
  refine WC.seq (fun K3 k3 => ?_)
  refine WC.region rfl ?_
  refine WL.call rfl (blt rfl) rfl rfl rfl has8 rfl (awake_any _) ?_
  rintro _ w4 ⟨rfl, x5⟩
  refine ⟨_, rfl, ?_⟩
  have xW := Ext.trans xW x5
  refine WL.yld rfl (blt rfl) rfl (Y.not rfl rfl) ?_
  refine WL.yld rfl (blt rfl) rfl (Y.move rfl rfl) ?_
  refine WL.yldW rfl (blt rfl) rfl rfl rfl (Y.move rfl rfl) ?_
  refine WL.callW rfl (blt rfl) rfl rfl rfl rfl rfl has9 rfl (few_any _ _ _ _ _ (h_l.ext xW) (Sy.Good.ext g_l xW)) ?_
  rintro _ w6 ⟨bf8, rfl, hfw, x7⟩
  refine ⟨_, rfl, ?_⟩
  have xW := Ext.trans xW x7
  refine WL.yldW rfl (blt rfl) rfl rfl rfl (Y.not rfl rfl) ?_
  refine WL.yld rfl (blt rfl) rfl (Y.pickF rfl rfl rfl) ?_
  refine WL.yld rfl (blt rfl) rfl (Y.move rfl rfl) ?_
  refine WL.yldG rfl (blt rfl) rfl rfl rfl (fun hb => Y.move rfl rfl) ?_
  refine WL.yldG rfl (blt rfl) rfl rfl rfl (fun hb => Y.lenSl rfl rfl rfl Tryd.underlying22 (evs_cons (evg rfl hb) evs_nil)) ?_
  refine WL.yldG rfl (blt rfl) rfl rfl rfl (fun hb => Y.gtr rfl (evg rfl hb) rfl) ?_
  refine WL.yld rfl (blt rfl) rfl (Y.or rfl rfl rfl rfl) ?_
  refine WL.yld rfl (blt rfl) rfl (Y.move rfl rfl) ?_
  refine WL.split (t := 21) rfl (fun h9 => ?_) (fun h9 => ?_)
  ·
    have p9 := ((or_t h9).imp (fun h => h) (fun h => (dec_t h)))
    refine WL.skip rfl (blt rfl) rfl rfl rfl rfl ?_
    refine WL.skip rfl (blt rfl) rfl rfl rfl rfl ?_
    refine WL.skip rfl (blt rfl) rfl rfl rfl rfl ?_
    refine WL.yld rfl (blt rfl) rfl (Y.pickT rfl rfl rfl) ?_
    refine WL.nil ?_
    refine WK.then_normal (k3 _ _ ?_)
    refine WC.sub [(0, _), (1, _), (25, _)] ⟨rfl, rfl, rfl, trivial⟩ ?_
    refine WC.condT rfl ?_
    refine WC.seq (fun K10 k10 => ?_)
    refine WC.region rfl ?_
    refine WL.call rfl (blt rfl) rfl rfl rfl has8 rfl (awake_any _) ?_
    rintro _ w11 ⟨rfl, x12⟩
    refine ⟨_, rfl, ?_⟩
    have xW := Ext.trans xW x12
    refine WL.yld rfl (blt rfl) rfl (Y.assign rfl rfl) ?_
    refine WL.nil ?_
    refine WK.then_normal (k10 _ _ ?_)
    refine WC.sub [(4, _)] ⟨rfl, trivial⟩ ?_
    refine WC.ret ?_
    refine WK.then_ret ?_
    clear k1 k2 k3 k10
    refine WK.ret [_] rfl ⟨rfl, trivial⟩ ?_
    exact ⟨rfl, xW⟩
  ·
    have p9 := (dec_f (or_f h9).2)
    refine WL.yldW rfl (blt rfl) rfl rfl rfl (Y.move rfl rfl) ?_
    refine WL.callW rfl (blt rfl) rfl rfl rfl rfl rfl has16 rfl (fewp_any _ _ _ _ _ (h_s.ext xW) (Sy.GoodP.ext g_s xW)) ?_
    rintro _ w13 ⟨bp15, rfl, hfp, x14⟩
    refine ⟨_, rfl, ?_⟩
    have xW := Ext.trans xW x14
    refine WL.yldW rfl (blt rfl) rfl rfl rfl (Y.not rfl rfl) ?_
    refine WL.yld rfl (blt rfl) rfl (Y.pickF rfl rfl rfl) ?_
    refine WL.nil ?_
    refine WK.then_normal (k3 _ _ ?_)
    refine WC.sub [(0, _), (1, _), (25, _)] ⟨rfl, rfl, rfl, trivial⟩ ?_
    refine WC.cond rfl (fun h16 => ?_) (fun h16 => ?_)
    ·
      refine WC.seq (fun K17 k17 => ?_)
      refine WC.region rfl ?_
      refine WL.call rfl (blt rfl) rfl rfl rfl has8 rfl (awake_any _) ?_
      rintro _ w18 ⟨rfl, x19⟩
      refine ⟨_, rfl, ?_⟩
      have xW := Ext.trans xW x19
      refine WL.yld rfl (blt rfl) rfl (Y.assign rfl rfl) ?_
      refine WL.nil ?_
      refine WK.then_normal (k17 _ _ ?_)
      refine WC.sub [(4, _)] ⟨rfl, trivial⟩ ?_
      refine WC.ret ?_
      refine WK.then_ret ?_
      clear k1 k2 k3 k17
      refine WK.ret [_] rfl ⟨rfl, trivial⟩ ?_
      exact ⟨rfl, xW⟩
    ·
      have hF := hfw (by have q := h9; simp at q; exact q.1)
      have n12 : n_l ≤ 12 := by have q := h9; simp at q; omega
      have hP := hfp (by simpa using h16)
      refine WC.skip ?_
      refine WK.then_normal (k2 _ _ ?_)
      refine WC.sub [(0, _), (1, _)] ⟨rfl, rfl, trivial⟩ ?_
      refine WC.seq (fun K20 k20 => ?_)
      refine WC.region rfl ?_
      refine WL.yld rfl (blt rfl) rfl (Y.move rfl rfl) ?_
      refine WL.yld rfl (blt rfl) rfl (Y.move rfl rfl) ?_
      refine WL.call rfl (blt rfl) rfl rfl rfl has17 rfl (samples_any _ _ _ _ _ _ _ _ _ (h_l.ext xW) (h_s.ext xW) (Sy.Good.ext g_l xW) hF (Sy.GoodP.ext g_s xW) hP) ?_
      rintro _ w21 ⟨A23, n24, c25, b26, rfl, hl27, gb28, rs29, x22⟩
      refine ⟨_, rfl, ?_⟩
      have e_n24 := hl27.len
      have z_n24 := hl27.nle
      have xW := Ext.trans xW x22
      refine WL.yld rfl (blt rfl) rfl (Y.move rfl rfl) ?_
      refine WL.yld rfl (blt rfl) rfl (Y.extract rfl rfl rfl) ?_
      refine WL.yld rfl (blt rfl) rfl (Y.extract rfl rfl rfl) ?_
      refine WL.yld rfl (blt rfl) rfl (Y.assign rfl rfl) ?_
      refine WL.yld rfl (blt rfl) rfl (Y.assign rfl rfl) ?_
      refine WL.nil ?_
      refine WK.then_normal (k20 _ _ ?_)
      refine WC.sub [(0, _), (1, _), (5, _), (6, _)] ⟨rfl, rfl, rfl, rfl, trivial⟩ ?_
      refine WC.seq (fun K30 k30 => ?_)
      refine WC.region rfl ?_
      refine WL.yld rfl (blt rfl) rfl (Y.move rfl rfl) ?_
      refine WL.yld rfl (blt rfl) rfl (Y.move rfl rfl) ?_
      refine WL.call rfl (blt rfl) rfl rfl rfl has18 rfl (rsamples_any _ _ _ _ _ _ _ _ _ (h_l.ext xW) (h_s.ext xW) (Sy.Good.ext g_l xW) hF (Sy.GoodP.ext g_s xW) hP) ?_
      rintro _ w31 ⟨A33, n34, c35, b36, rfl, hl37, gb38, rs39, x32⟩
      refine ⟨_, rfl, ?_⟩
      have e_n34 := hl37.len
      have z_n34 := hl37.nle
      have hl27 := hl27.ext x32
      have gb28 := gb28.ext x32
      have xW := Ext.trans xW x32
      refine WL.yld rfl (blt rfl) rfl (Y.move rfl rfl) ?_
      refine WL.yld rfl (blt rfl) rfl (Y.extract rfl rfl rfl) ?_
      refine WL.yld rfl (blt rfl) rfl (Y.extract rfl rfl rfl) ?_
      refine WL.yld rfl (blt rfl) rfl (Y.assign rfl rfl) ?_
      refine WL.yld rfl (blt rfl) rfl (Y.assign rfl rfl) ?_
      refine WL.nil ?_
      refine WK.then_normal (k30 _ _ ?_)
      refine WC.sub [(5, _), (6, _), (7, _), (8, _)] ⟨rfl, rfl, rfl, rfl, trivial⟩ ?_
      refine WC.seq (fun K40 k40 => ?_)
      refine WC.region rfl ?_
      refine WL.yld rfl (blt rfl) rfl (Y.move rfl rfl) ?_
      refine WL.yld rfl (blt rfl) rfl (Y.move rfl rfl) ?_
      refine WL.yld rfl (blt rfl) rfl (Y.eql rfl rfl rfl) ?_
      refine WL.yld rfl (blt rfl) rfl (Y.move rfl rfl) ?_
      refine WL.yldG rfl (blt rfl) rfl rfl rfl (fun hb => Y.move rfl rfl) ?_
      refine WL.yldG rfl (blt rfl) rfl rfl rfl (fun hb => Y.move rfl rfl) ?_
      refine WL.callG rfl (blt rfl) rfl rfl rfl rfl rfl has19 (fun hb => (evs_cons (evg rfl hb) (evs_cons (evg rfl hb) evs_nil))) (fun hb => same_any _ _ _ _ _ _ _ _ _ hl27 hl37 gb28 gb38 (Sy.res_same rs29 rs39)) (fun w41 x42 => ?_)
      have hl27 := hl27.ext x42
      have gb28 := gb28.ext x42
      have hl37 := hl37.ext x42
      have gb38 := gb38.ext x42
      have xW := Ext.trans xW x42
      refine WL.yld rfl (blt rfl) rfl (Y.and rfl rfl rfl rfl) ?_
      refine WL.yld rfl (blt rfl) rfl (Y.assign rfl rfl) ?_
      refine WL.nil ?_
      refine WK.then_normal (k40 _ _ ?_)
      refine WC.sub [(4, _)] ⟨rfl, trivial⟩ ?_
      refine WC.ret ?_
      clear k1 k2 k3 k20 k30 k40
      refine WK.ret [_] rfl ⟨rfl, trivial⟩ ?_
      refine ⟨ret1 (vb ?_), xW⟩
      simp
end LSymbolSamples
end SyW

end Go.Proofs.YtghfncgciaiofaaDoor
