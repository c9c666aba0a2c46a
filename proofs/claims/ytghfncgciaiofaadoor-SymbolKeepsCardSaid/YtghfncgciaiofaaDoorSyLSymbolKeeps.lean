/- The walk of the law. Conditions: what each theorem states. -/
import Derived.Test.YtghfncgciaiofaaDoorSyMake
import Derived.Test.YtghfncgciaiofaaDoorSyKeep
namespace Go.Proofs.YtghfncgciaiofaaDoor
open Go Go.Eng Go.RowKit
set_option linter.unusedVariables false
namespace SyW
open R X F Y A S Q
namespace LSymbolKeeps
theorem ti3 : TI Tryd.prog 3 (.int .i64 0) 1 8 := TI.mk (by kernel_rfl)
theorem ti9 : TI Tryd.prog 9 (.string ⟨#[]⟩) 1 16 := TI.mk (by kernel_rfl)
theorem ti46 : TI Tryd.prog 46 (.slice none 0 0) 1 24 := TI.mk (by kernel_rfl)
theorem ti48 : TI Tryd.prog 48 (.agg #[.int .i64 0, .int .i64 0, .int .i64 0, .slice none 0 0]) 4 48 := TI.mk (by kernel_rfl)
theorem has8 : Has Tryd.prog 8 := ⟨_, Tryd.func8, rfl, by kernel_rfl⟩
theorem has9 : Has Tryd.prog 9 := ⟨_, Tryd.func9, rfl, by kernel_rfl⟩
theorem has16 : Has Tryd.prog 16 := ⟨_, Tryd.func16, rfl, by kernel_rfl⟩
theorem has17 : Has Tryd.prog 17 := ⟨_, Tryd.func17, rfl, by kernel_rfl⟩
theorem has19 : Has Tryd.prog 19 := ⟨_, Tryd.func19, rfl, by kernel_rfl⟩
theorem has20 : Has Tryd.prog 20 := ⟨_, Tryd.func20, rfl, by kernel_rfl⟩
theorem has21 : Has Tryd.prog 21 := ⟨_, Tryd.func21, rfl, by kernel_rfl⟩
theorem SymbolKeeps_any (A_l : Option Addr) (n_l c_l : Nat) (l : List Sy.M) (A_s : Option Addr) (n_s c_s : Nat) (s : List Sy.P) (w : World) (h_l : Ls w A_l n_l c_l Sy.M.v 4 l) (h_s : Ls w A_s n_s c_s Sy.P.v 4 s) (g_l : Sy.Good w l) (g_s : Sy.GoodP w s) :
    Calls Tryd.prog 7 #[.slice A_l n_l c_l, .slice A_s n_s c_s] w fun e w' => e = .returned (.bool true) ∧ Ext w w' := by
  have xW := Ext.refl w
  have e_l := h_l.len
  have z_l := h_l.nle
  have e_s := h_s.len
  have z_s := h_s.nle
  refine calls_of_WC (args := [.slice A_l n_l c_l, .slice A_s n_s c_s]) Tryd.func7 rfl rfl (ble rfl) ?_
  refine WC.seq (fun K1 k1 => ?_)
  refine WC.region rfl ?_
  refine WL.yld rfl (blt rfl) rfl (Y.assign rfl rfl) ?_
  refine WL.nil ?_
  refine WK.then_normal (k1 _ _ ?_)
  refine WC.sub [(0, _), (1, _)] ⟨rfl, rfl, trivial⟩ ?_
  refine WC.seq (fun K2 k2 => ?_)
  refine WC.seq (fun K3 k3 => ?_)
  refine WC.region rfl ?_
  refine WL.call rfl (blt rfl) rfl rfl rfl has8 rfl (awake_any _) ?_
  rintro _ w4 ⟨rfl, x5⟩
  refine ⟨_, rfl, ?_⟩
  have xW := Ext.trans xW x5
  refine WL.yld rfl (blt rfl) rfl (Y.not rfl rfl) ?_
  refine WL.yld rfl (blt rfl) rfl (Y.move rfl rfl) ?_
  refine WL.yldW rfl (blt rfl) rfl rfl rfl (Y.move rfl rfl) ?_
  refine WL.callW rfl (blt rfl) rfl rfl rfl rfl rfl has9 rfl (few_any _ _ _ _ _ (h_l.ext xW) (Sy.Good.ext g_l xW)) ?_
  rintro _ w6 ⟨bf8, rfl, hfw, x7⟩
  refine ⟨_, rfl, ?_⟩
  have xW := Ext.trans xW x7
  refine WL.yldW rfl (blt rfl) rfl rfl rfl (Y.not rfl rfl) ?_
  refine WL.yld rfl (blt rfl) rfl (Y.pickF rfl rfl rfl) ?_
  refine WL.yld rfl (blt rfl) rfl (Y.move rfl rfl) ?_
  refine WL.yldG rfl (blt rfl) rfl rfl rfl (fun hb => Y.move rfl rfl) ?_
  refine WL.yldG rfl (blt rfl) rfl rfl rfl (fun hb => Y.lenSl rfl rfl rfl Tryd.underlying22 (evs_cons (evg rfl hb) evs_nil)) ?_
  refine WL.yldG rfl (blt rfl) rfl rfl rfl (fun hb => Y.gtr rfl (evg rfl hb) rfl) ?_
  refine WL.yld rfl (blt rfl) rfl (Y.or rfl rfl rfl rfl) ?_
  refine WL.yld rfl (blt rfl) rfl (Y.move rfl rfl) ?_
  refine WL.split (t := 24) rfl (fun h9 => ?_) (fun h9 => ?_)
  ·
    have p9 := ((or_t h9).imp (fun h => h) (fun h => (dec_t h)))
    refine WL.skip rfl (blt rfl) rfl rfl rfl rfl ?_
    refine WL.skip rfl (blt rfl) rfl rfl rfl rfl ?_
    refine WL.skip rfl (blt rfl) rfl rfl rfl rfl ?_
    refine WL.yld rfl (blt rfl) rfl (Y.pickT rfl rfl rfl) ?_
    refine WL.nil ?_
    refine WK.then_normal (k3 _ _ ?_)
    refine WC.sub [(0, _), (1, _), (28, _)] ⟨rfl, rfl, rfl, trivial⟩ ?_
    refine WC.condT rfl ?_
    refine WC.seq (fun K10 k10 => ?_)
    refine WC.region rfl ?_
    refine WL.call rfl (blt rfl) rfl rfl rfl has8 rfl (awake_any _) ?_
    rintro _ w11 ⟨rfl, x12⟩
    refine ⟨_, rfl, ?_⟩
    have xW := Ext.trans xW x12
    refine WL.yld rfl (blt rfl) rfl (Y.assign rfl rfl) ?_
    refine WL.nil ?_
    refine WK.then_normal (k10 _ _ ?_)
    refine WC.sub [(4, _)] ⟨rfl, trivial⟩ ?_
    refine WC.ret ?_
    refine WK.then_ret ?_
    clear k1 k2 k3 k10
    refine WK.ret [_] rfl ⟨rfl, trivial⟩ ?_
    exact ⟨rfl, xW⟩
  ·
    have p9 := (dec_f (or_f h9).2)
    refine WL.yldW rfl (blt rfl) rfl rfl rfl (Y.move rfl rfl) ?_
    refine WL.callW rfl (blt rfl) rfl rfl rfl rfl rfl has16 rfl (fewp_any _ _ _ _ _ (h_s.ext xW) (Sy.GoodP.ext g_s xW)) ?_
    rintro _ w13 ⟨bp15, rfl, hfp, x14⟩
    refine ⟨_, rfl, ?_⟩
    have xW := Ext.trans xW x14
    refine WL.yldW rfl (blt rfl) rfl rfl rfl (Y.not rfl rfl) ?_
    refine WL.yld rfl (blt rfl) rfl (Y.pickF rfl rfl rfl) ?_
    refine WL.nil ?_
    refine WK.then_normal (k3 _ _ ?_)
    refine WC.sub [(0, _), (1, _), (28, _)] ⟨rfl, rfl, rfl, trivial⟩ ?_
    refine WC.cond rfl (fun h16 => ?_) (fun h16 => ?_)
    ·
      refine WC.seq (fun K17 k17 => ?_)
      refine WC.region rfl ?_
      refine WL.call rfl (blt rfl) rfl rfl rfl has8 rfl (awake_any _) ?_
      rintro _ w18 ⟨rfl, x19⟩
      refine ⟨_, rfl, ?_⟩
      have xW := Ext.trans xW x19
      refine WL.yld rfl (blt rfl) rfl (Y.assign rfl rfl) ?_
      refine WL.nil ?_
      refine WK.then_normal (k17 _ _ ?_)
      refine WC.sub [(4, _)] ⟨rfl, trivial⟩ ?_
      refine WC.ret ?_
      refine WK.then_ret ?_
      clear k1 k2 k3 k17
      refine WK.ret [_] rfl ⟨rfl, trivial⟩ ?_
      exact ⟨rfl, xW⟩
    ·
      have hF := hfw (by have q := h9; simp at q; exact q.1)
      have n12 : n_l ≤ 12 := by have q := h9; simp at q; omega
      have hP := hfp (by simpa using h16)
      refine WC.skip ?_
      refine WK.then_normal (k2 _ _ ?_)
      refine WC.sub [(0, _), (1, _)] ⟨rfl, rfl, trivial⟩ ?_
      refine WC.seq (fun K20 k20 => ?_)
      refine WC.region rfl ?_
      refine WL.yld rfl (blt rfl) rfl (Y.move rfl rfl) ?_
      refine WL.yld rfl (blt rfl) rfl (Y.move rfl rfl) ?_
      refine WL.call rfl (blt rfl) rfl rfl rfl has17 rfl (samples_any _ _ _ _ _ _ _ _ _ (h_l.ext xW) (h_s.ext xW) (Sy.Good.ext g_l xW) hF (Sy.GoodP.ext g_s xW) hP) ?_
      rintro _ w21 ⟨A23, n24, c25, b26, rfl, hl27, gb28, rs29, x22⟩
      refine ⟨_, rfl, ?_⟩
      have e_n24 := hl27.len
      have z_n24 := hl27.nle
      have xW := Ext.trans xW x22
      refine WL.yld rfl (blt rfl) rfl (Y.move rfl rfl) ?_
      refine WL.yld rfl (blt rfl) rfl (Y.extract rfl rfl rfl) ?_
      refine WL.yld rfl (blt rfl) rfl (Y.extract rfl rfl rfl) ?_
      refine WL.yld rfl (blt rfl) rfl (Y.assign rfl rfl) ?_
      refine WL.yld rfl (blt rfl) rfl (Y.assign rfl rfl) ?_
      refine WL.nil ?_
      refine WK.then_normal (k20 _ _ ?_)
      refine WC.sub [(0, _), (1, _), (5, _), (6, _)] ⟨rfl, rfl, rfl, rfl, trivial⟩ ?_
      refine WC.seq (fun K30 k30 => ?_)
      refine WC.seq (fun K31 k31 => ?_)
      refine WC.region rfl ?_
      refine WL.yld rfl (blt rfl) rfl (Y.move rfl rfl) ?_
      refine WL.yld rfl (blt rfl) rfl (Y.neq rfl rfl rfl) ?_
      refine WL.nil ?_
      refine WK.then_normal (k31 _ _ ?_)
      refine WC.sub [(0, _), (1, _), (5, _), (37, _)] ⟨rfl, rfl, rfl, rfl, trivial⟩ ?_
      refine WC.cond rfl (fun h32 => ?_) (fun h32 => ?_)
      ·
        have p32 := (eq_f (not_t h32))
        refine WC.seq (fun K33 k33 => ?_)
        refine WC.region rfl ?_
        refine WL.yld rfl (blt rfl) rfl (Y.move rfl rfl) ?_
        refine WL.yld rfl (blt rfl) rfl (Y.lenSl rfl rfl rfl Tryd.underlying38 rfl) ?_
        refine WL.yld rfl (blt rfl) rfl (Y.eql rfl rfl rfl) ?_
        refine WL.yld rfl (blt rfl) rfl (Y.assign rfl rfl) ?_
        refine WL.nil ?_
        refine WK.then_normal (k33 _ _ ?_)
        refine WC.sub [(4, _)] ⟨rfl, trivial⟩ ?_
        refine WC.ret ?_
        refine WK.then_ret ?_
        clear k1 k2 k3 k20 k30 k31 k33
        refine WK.ret [_] rfl ⟨rfl, trivial⟩ ?_
        refine ⟨ret1 (vb ?_), xW⟩
        have q := Sy.res_nil rs29 (by have q := h32; simpa using q)
        have q2 : n24 = 0 := by rw [← e_n24, q]; rfl
        rw [q2]; rfl
      ·
        have p32 := (eq_t (not_f h32))
        have hz : Sy.sE l s = 0 := (by have q := h32; simpa using q)
        have ky := Sy.res_keys rs29 hz
        have zz := Sy.sE_zero hz
        have kl : n24 = n_s := by have q := Sy.out_len ky; omega
        have kc := Sy.smp_res ky zz.2
        have kt := Sy.tot_res ky
        have fw := Sy.few_res ky hP gb28
        refine WC.skip ?_
        refine WK.then_normal (k30 _ _ ?_)
        refine WC.sub [(0, _), (1, _), (5, _)] ⟨rfl, rfl, rfl, trivial⟩ ?_
        refine WC.seq (fun K34 k34 => ?_)
        refine WC.seq (fun K35 k35 => ?_)
        refine WC.region rfl ?_
        refine WL.yld rfl (blt rfl) rfl (Y.move rfl rfl) ?_
        refine WL.yld rfl (blt rfl) rfl (Y.lenSl rfl rfl rfl Tryd.underlying38 rfl) ?_
        refine WL.yld rfl (blt rfl) rfl (Y.move rfl rfl) ?_
        refine WL.yld rfl (blt rfl) rfl (Y.lenSl rfl rfl rfl Tryd.underlying38 rfl) ?_
        refine WL.yld rfl (blt rfl) rfl (Y.neq rfl rfl rfl) ?_
        refine WL.yld rfl (blt rfl) rfl (Y.move rfl rfl) ?_
        refine WL.yldG rfl (blt rfl) rfl rfl rfl (fun hb => Y.move rfl rfl) ?_
        refine WL.callG rfl (blt rfl) rfl rfl rfl rfl rfl has20 (fun hb => (evs_cons (evg rfl hb) evs_nil)) (fun hb => pcheck_any _ _ _ _ _ hl27 gb28) (fun w36 x37 => ?_)
        have hl27 := hl27.ext x37
        have gb28 := gb28.ext x37
        have xW := Ext.trans xW x37
        refine WL.yldG rfl (blt rfl) rfl rfl rfl (fun hb => Y.neq rfl (evg rfl hb) rfl) ?_
        refine WL.yld rfl (blt rfl) rfl (Y.or rfl rfl rfl rfl) ?_
        refine WL.yld rfl (blt rfl) rfl (Y.move rfl rfl) ?_
        refine WL.yldG rfl (blt rfl) rfl rfl rfl (fun hb => Y.move rfl rfl) ?_
        refine WL.callG rfl (blt rfl) rfl rfl rfl rfl rfl has21 (fun hb => (evs_cons (evg rfl hb) evs_nil)) (fun hb => total_any _ _ _ _ _ hl27 gb28) (fun w38 x39 => ?_)
        have hl27 := hl27.ext x39
        have gb28 := gb28.ext x39
        have xW := Ext.trans xW x39
        refine WL.yldG rfl (blt rfl) rfl rfl rfl (fun hb => Y.move rfl rfl) ?_
        refine WL.callG rfl (blt rfl) rfl rfl rfl rfl rfl has21 (fun hb => (evs_cons (evg rfl hb) evs_nil)) (fun hb => total_any _ _ _ _ _ (h_s.ext xW) (Sy.GoodP.ext g_s xW)) (fun w40 x41 => ?_)
        have hl27 := hl27.ext x41
        have gb28 := gb28.ext x41
        have xW := Ext.trans xW x41
        refine WL.yldG rfl (blt rfl) rfl rfl rfl (fun hb => Y.neq rfl (evg rfl hb) (evg rfl hb)) ?_
        refine WL.yld rfl (blt rfl) rfl (Y.or rfl rfl rfl rfl) ?_
        refine WL.nil ?_
        refine WK.then_normal (k35 _ _ ?_)
        refine WC.sub [(0, _), (1, _), (5, _), (57, _)] ⟨rfl, rfl, rfl, rfl, trivial⟩ ?_
        refine WC.cond rfl (fun h42 => ?_) (fun h42 => ?_)
        ·
          clear k1 k2 k3 k20 k30 k31 k34 k35
          exact False.elim (by have q := h42; rw [kc, kt, kl] at q; simp at q)
        ·
          have p42 := (And.intro (And.intro (eq_t (not_f (or_f (or_f h42).1).1)) (eq_t (not_f (or_f (or_f h42).1).2))) (eq_t (not_f (or_f h42).2)))
          refine WC.skip ?_
          refine WK.then_normal (k34 _ _ ?_)
          refine WC.sub [(0, _), (1, _), (5, _)] ⟨rfl, rfl, rfl, trivial⟩ ?_
          refine WC.seq (fun K43 k43 => ?_)
          refine WC.seq (fun K44 k44 => ?_)
          refine WC.region rfl ?_
          refine WL.yld rfl (blt rfl) rfl (Y.assign rfl rfl) ?_
          refine WL.nil ?_
          refine WK.then_normal (k44 _ _ ?_)
          refine WC.block ?_
          refine WC.sub [(7, _), (0, _), (1, _), (5, _)] ⟨rfl, rfl, rfl, rfl, trivial⟩ ?_
          refine WC.loopS 1 (fun mz Ed W' => ∃ i : Nat, mz = n_s - i ∧ Ed = [(7, .int .i64 ((i : Nat) : Int))] ∧ Ext w W' ∧ Ls W' A23 n24 c25 Sy.P.v 4 b26 ∧ Sy.GoodP W' b26 ∧ (i ≤ n_s)) _ ⟨0, rfl, rfl, xW, hl27, gb28, (Nat.zero_le _)⟩ ?_
          rintro _ _ w45 ⟨i, rfl, rfl, xW, hl27, gb28, le_i⟩
          refine WC.sub [(7, _), (0, _), (1, _), (5, _)] ⟨rfl, rfl, rfl, rfl, trivial⟩ ?_
          refine WC.seq (fun K46 k46 => ?_)
          refine WC.seq (fun K47 k47 => ?_)
          refine WC.region rfl ?_
          refine WL.yld rfl (blt rfl) rfl (Y.move rfl rfl) ?_
          refine WL.yld rfl (blt rfl) rfl (Y.move rfl rfl) ?_
          refine WL.yld rfl (blt rfl) rfl (Y.lenSl rfl rfl rfl Tryd.underlying38 rfl) ?_
          refine WL.yld rfl (blt rfl) rfl (Y.lss rfl rfl rfl) ?_
          refine WL.nil ?_
          refine WK.then_normal (k47 _ _ ?_)
          refine WC.sub [(0, _), (1, _), (5, _), (7, _), (61, _)] ⟨rfl, rfl, rfl, rfl, rfl, trivial⟩ ?_
          refine WC.cond rfl (fun h48 => ?_) (fun h48 => ?_)
          ·
            have p48 := (dec_t h48)
            have mp := hP.m _ (bang_mem (show i < s.length from by omega))
            have ka := Sy.out_at ky (show i < s.length from by omega)
            have ln1 := (gb28 _ (bang_mem (show i < b26.length from by omega))).len
            have ln2 := (g_s _ (bang_mem (show i < s.length from by omega))).len
            have kn : b26[i]!.n = s[i]!.n := by rw [← ln1, ← ln2, ka.2.2.2, List.length_map]
            refine WC.skip ?_
            refine WK.then_normal (k46 _ _ ?_)
            refine WC.sub [(0, _), (1, _), (5, _), (7, _)] ⟨rfl, rfl, rfl, rfl, trivial⟩ ?_
            refine WC.seq (fun K49 k49 => ?_)
            refine WC.block ?_
            refine WC.seq (fun K50 k50 => ?_)
            refine WC.seq (fun K51 k51 => ?_)
            refine WC.regionDq (by kernel_rfl) (by kernel_rfl) rfl ?_
            refine WQ.yld rfl (blt rfl) rfl (Y.move rfl rfl) ?_
            refine WQ.yld rfl (blt rfl) rfl (Y.move rfl rfl) ?_
            have b52 : i < n24 := by omega
            refine WQ.yld rfl (blt rfl) rfl (Y.indexLs i hl27 rfl Tryd.underlying38 ti48 rfl rfl rfl b52) ?_
            refine WQ.yld rfl (blt rfl) rfl (Y.fieldE rfl Tryd.underlying48 rfl ti3 (by decide) rfl) ?_
            refine WQ.yld rfl (blt rfl) rfl (Y.load1 rfl Tryd.underlying3 rfl rfl (Ls.at_ext hl27 b52 rfl)) ?_
            refine WQ.yld rfl (blt rfl) rfl (Y.move rfl rfl) ?_
            refine WQ.yld rfl (blt rfl) rfl (Y.move rfl rfl) ?_
            have b53 : i < n_s := by omega
            refine WQ.yld rfl (blt rfl) rfl (Y.indexLs i (h_s.ext xW) rfl Tryd.underlying38 ti48 rfl rfl rfl b53) ?_
            refine WQ.yld rfl (blt rfl) rfl (Y.fieldE rfl Tryd.underlying48 rfl ti3 (by decide) rfl) ?_
            refine WQ.yld rfl (blt rfl) rfl (Y.load1 rfl Tryd.underlying3 rfl rfl (Ls.at_ext (h_s.ext xW) b53 rfl)) ?_
            refine WQ.yld rfl (blt rfl) rfl (Y.neq rfl rfl rfl) ?_
            refine WQ.yld rfl (blt rfl) rfl (Y.move rfl rfl) ?_
            refine WQ.yldG rfl (blt rfl) rfl rfl rfl (fun hb => Y.move rfl rfl) ?_
            refine WQ.yldG rfl (blt rfl) rfl rfl rfl (fun hb => Y.move rfl rfl) ?_
            refine WQ.yldG rfl (blt rfl) rfl rfl rfl (fun hb => Y.indexLs i hl27 rfl Tryd.underlying38 ti48 (evg rfl hb) (evg rfl hb) rfl (by have q0 := (eq_t (not_f hb)); omega)) ?_
            refine WQ.yldG rfl (blt rfl) rfl rfl rfl (fun hb => Y.fieldE rfl Tryd.underlying48 rfl ti3 (by decide) (evg rfl hb)) ?_
            refine WQ.yldG rfl (blt rfl) rfl rfl rfl (fun hb => Y.load1 rfl Tryd.underlying3 rfl (evg rfl hb) (Ls.at_ext hl27 (by have q0 := (eq_t (not_f hb)); omega) rfl)) ?_
            refine WQ.yldG rfl (blt rfl) rfl rfl rfl (fun hb => Y.move rfl rfl) ?_
            refine WQ.yldG rfl (blt rfl) rfl rfl rfl (fun hb => Y.move rfl rfl) ?_
            refine WQ.yldG rfl (blt rfl) rfl rfl rfl (fun hb => Y.indexLs i (h_s.ext xW) rfl Tryd.underlying38 ti48 (evg rfl hb) (evg rfl hb) rfl (by have q0 := (eq_t (not_f hb)); omega)) ?_
            refine WQ.yldG rfl (blt rfl) rfl rfl rfl (fun hb => Y.fieldE rfl Tryd.underlying48 rfl ti3 (by decide) (evg rfl hb)) ?_
            refine WQ.yldG rfl (blt rfl) rfl rfl rfl (fun hb => Y.load1 rfl Tryd.underlying3 rfl (evg rfl hb) (Ls.at_ext (h_s.ext xW) (by have q0 := (eq_t (not_f hb)); omega) rfl)) ?_
            refine WQ.yldG rfl (blt rfl) rfl rfl rfl (fun hb => Y.neq rfl (evg rfl hb) (evg rfl hb)) ?_
            refine WQ.yld rfl (blt rfl) rfl (Y.or rfl rfl rfl rfl) ?_
            refine WQ.yld rfl (blt rfl) rfl (Y.move rfl rfl) ?_
            refine WQ.yldG rfl (blt rfl) rfl rfl rfl (fun hb => Y.move rfl rfl) ?_
            refine WQ.yldG rfl (blt rfl) rfl rfl rfl (fun hb => Y.move rfl rfl) ?_
            refine WQ.yldG rfl (blt rfl) rfl rfl rfl (fun hb => Y.indexLs i hl27 rfl Tryd.underlying38 ti48 (evg rfl hb) (evg rfl hb) rfl (by have q0 := (And.intro (eq_t (not_f (or_f hb).1)) (eq_t (not_f (or_f hb).2))); omega)) ?_
            refine WQ.yldG rfl (blt rfl) rfl rfl rfl (fun hb => Y.fieldE rfl Tryd.underlying48 rfl ti3 (by decide) (evg rfl hb)) ?_
            refine WQ.yldG rfl (blt rfl) rfl rfl rfl (fun hb => Y.load1 rfl Tryd.underlying3 rfl (evg rfl hb) (Ls.at_ext hl27 (by have q0 := (And.intro (eq_t (not_f (or_f hb).1)) (eq_t (not_f (or_f hb).2))); omega) rfl)) ?_
            refine WQ.yldG rfl (blt rfl) rfl rfl rfl (fun hb => Y.move rfl rfl) ?_
            refine WQ.yldG rfl (blt rfl) rfl rfl rfl (fun hb => Y.move rfl rfl) ?_
            refine WQ.yldG rfl (blt rfl) rfl rfl rfl (fun hb => Y.indexLs i (h_s.ext xW) rfl Tryd.underlying38 ti48 (evg rfl hb) (evg rfl hb) rfl (by have q0 := (And.intro (eq_t (not_f (or_f hb).1)) (eq_t (not_f (or_f hb).2))); omega)) ?_
            refine WQ.yldG rfl (blt rfl) rfl rfl rfl (fun hb => Y.fieldE rfl Tryd.underlying48 rfl ti3 (by decide) (evg rfl hb)) ?_
            refine WQ.yldG rfl (blt rfl) rfl rfl rfl (fun hb => Y.load1 rfl Tryd.underlying3 rfl (evg rfl hb) (Ls.at_ext (h_s.ext xW) (by have q0 := (And.intro (eq_t (not_f (or_f hb).1)) (eq_t (not_f (or_f hb).2))); omega) rfl)) ?_
            refine WQ.yldG rfl (blt rfl) rfl rfl rfl (fun hb => Y.neq rfl (evg rfl hb) (evg rfl hb)) ?_
            refine WQ.yld rfl (blt rfl) rfl (Y.or rfl rfl rfl rfl) ?_
            refine WQ.yld rfl (blt rfl) rfl (Y.move rfl rfl) ?_
            refine WQ.yldG rfl (blt rfl) rfl rfl rfl (fun hb => Y.move rfl rfl) ?_
            refine WQ.yldG rfl (blt rfl) rfl rfl rfl (fun hb => Y.move rfl rfl) ?_
            refine WQ.yldG rfl (blt rfl) rfl rfl rfl (fun hb => Y.indexLs i hl27 rfl Tryd.underlying38 ti48 (evg rfl hb) (evg rfl hb) rfl (by have q0 := (And.intro (And.intro (eq_t (not_f (or_f (or_f hb).1).1)) (eq_t (not_f (or_f (or_f hb).1).2))) (eq_t (not_f (or_f hb).2))); omega)) ?_
            refine WQ.yldG rfl (blt rfl) rfl rfl rfl (fun hb => Y.fieldE rfl Tryd.underlying48 rfl ti46 (by decide) (evg rfl hb)) ?_
            refine WQ.yldG rfl (blt rfl) rfl rfl rfl (fun hb => Y.load1 rfl Tryd.underlying46 rfl (evg rfl hb) (Ls.at_ext hl27 (by have q0 := (And.intro (And.intro (eq_t (not_f (or_f (or_f hb).1).1)) (eq_t (not_f (or_f (or_f hb).1).2))) (eq_t (not_f (or_f hb).2))); omega) rfl)) ?_
            refine WQ.yldG rfl (blt rfl) rfl rfl rfl (fun hb => Y.lenSl rfl rfl rfl Tryd.underlying46 (evs_cons (evg rfl hb) evs_nil)) ?_
            refine WQ.yldG rfl (blt rfl) rfl rfl rfl (fun hb => Y.move rfl rfl) ?_
            refine WQ.yldG rfl (blt rfl) rfl rfl rfl (fun hb => Y.move rfl rfl) ?_
            refine WQ.yldG rfl (blt rfl) rfl rfl rfl (fun hb => Y.indexLs i (h_s.ext xW) rfl Tryd.underlying38 ti48 (evg rfl hb) (evg rfl hb) rfl (by have q0 := (And.intro (And.intro (eq_t (not_f (or_f (or_f hb).1).1)) (eq_t (not_f (or_f (or_f hb).1).2))) (eq_t (not_f (or_f hb).2))); omega)) ?_
            refine WQ.yldG rfl (blt rfl) rfl rfl rfl (fun hb => Y.fieldE rfl Tryd.underlying48 rfl ti46 (by decide) (evg rfl hb)) ?_
            refine WQ.yldG rfl (blt rfl) rfl rfl rfl (fun hb => Y.load1 rfl Tryd.underlying46 rfl (evg rfl hb) (Ls.at_ext (h_s.ext xW) (by have q0 := (And.intro (And.intro (eq_t (not_f (or_f (or_f hb).1).1)) (eq_t (not_f (or_f (or_f hb).1).2))) (eq_t (not_f (or_f hb).2))); omega) rfl)) ?_
            refine WQ.yldG rfl (blt rfl) rfl rfl rfl (fun hb => Y.lenSl rfl rfl rfl Tryd.underlying46 (evs_cons (evg rfl hb) evs_nil)) ?_
            refine WQ.yldG rfl (blt rfl) rfl rfl rfl (fun hb => Y.neq rfl (evg rfl hb) (evg rfl hb)) ?_
            refine WQ.yld rfl (blt rfl) rfl (Y.or rfl rfl rfl rfl) ?_
            refine WQ.done (fun w54 x55 => ?_)
            have hl27 := hl27.ext x55
            have gb28 := gb28.ext x55
            have xW := Ext.trans xW x55
            refine WK.then_normal (k51 _ _ ?_)
            refine WC.sub [(0, _), (1, _), (5, _), (7, _), (115, _)] ⟨rfl, rfl, rfl, rfl, rfl, trivial⟩ ?_
            refine WC.cond rfl (fun h56 => ?_) (fun h56 => ?_)
            ·
              clear k1 k2 k3 k20 k30 k31 k34 k35 k43 k44 k46 k47 k49 k50 k51
              exact False.elim (by have q := h56; rw [ka.1, ka.2.1, ka.2.2.1, kn] at q; simp at q)
            ·
              have p56 := (And.intro (And.intro (And.intro (eq_t (not_f (or_f (or_f (or_f h56).1).1).1)) (eq_t (not_f (or_f (or_f (or_f h56).1).1).2))) (eq_t (not_f (or_f (or_f h56).1).2))) (eq_t (not_f (or_f h56).2)))
              refine WC.skip ?_
              refine WK.then_normal (k50 _ _ ?_)
              refine WC.sub [(0, _), (1, _), (5, _), (7, _)] ⟨rfl, rfl, rfl, rfl, trivial⟩ ?_
              refine WC.seq (fun K57 k57 => ?_)
              refine WC.region rfl ?_
              refine WL.yld rfl (blt rfl) rfl (Y.assign rfl rfl) ?_
              refine WL.nil ?_
              refine WK.then_normal (k57 _ _ ?_)
              refine WC.block ?_
              refine WC.sub [(8, _), (0, _), (1, _), (5, _), (7, _)] ⟨rfl, rfl, rfl, rfl, rfl, trivial⟩ ?_
              refine WC.loopS 1 (fun mz Ed W' => ∃ k : Nat, mz = s[i]!.n - k ∧ Ed = [(8, .int .i64 ((k : Nat) : Int))] ∧ Ext w W' ∧ Ls W' A23 n24 c25 Sy.P.v 4 b26 ∧ Sy.GoodP W' b26 ∧ (k ≤ s[i]!.n)) _ ⟨0, rfl, rfl, xW, hl27, gb28, (Nat.zero_le _)⟩ ?_
              rintro _ _ w58 ⟨k, rfl, rfl, xW, hl27, gb28, le_k⟩
              refine WC.sub [(8, _), (0, _), (1, _), (5, _), (7, _)] ⟨rfl, rfl, rfl, rfl, rfl, trivial⟩ ?_
              refine WC.seq (fun K59 k59 => ?_)
              refine WC.seq (fun K60 k60 => ?_)
              refine WC.region rfl ?_
              refine WL.yld rfl (blt rfl) rfl (Y.move rfl rfl) ?_
              refine WL.yld rfl (blt rfl) rfl (Y.move rfl rfl) ?_
              refine WL.yld rfl (blt rfl) rfl (Y.move rfl rfl) ?_
              have b61 : i < n24 := by omega
              refine WL.yld rfl (blt rfl) rfl (Y.indexLs i hl27 rfl Tryd.underlying38 ti48 rfl rfl rfl b61) ?_
              refine WL.yld rfl (blt rfl) rfl (Y.fieldE rfl Tryd.underlying48 rfl ti46 (by decide) rfl) ?_
              refine WL.yld rfl (blt rfl) rfl (Y.load1 rfl Tryd.underlying46 rfl rfl (Ls.at_eq hl27 b61 rfl)) ?_
              refine WL.yld rfl (blt rfl) rfl (Y.lenSl rfl rfl rfl Tryd.underlying46 rfl) ?_
              refine WL.yld rfl (blt rfl) rfl (Y.lss rfl rfl rfl) ?_
              refine WL.nil ?_
              refine WK.then_normal (k60 _ _ ?_)
              refine WC.sub [(0, _), (1, _), (5, _), (7, _), (8, _), (123, _)] ⟨rfl, rfl, rfl, rfl, rfl, rfl, trivial⟩ ?_
              refine WC.cond rfl (fun h62 => ?_) (fun h62 => ?_)
              ·
                have p62 := (dec_t h62)
                have kf : b26[i]!.l[k]! = Sy.frm l s[i]!.l[k]! := by rw [ka.2.2.2, Sy.bang_map (by omega)]
                refine WC.skip ?_
                refine WK.then_normal (k59 _ _ ?_)
                refine WC.sub [(0, _), (1, _), (5, _), (7, _), (8, _)] ⟨rfl, rfl, rfl, rfl, rfl, trivial⟩ ?_
                refine WC.seq (fun K63 k63 => ?_)
                refine WC.block ?_
                refine WC.seq (fun K64 k64 => ?_)
                refine WC.region rfl ?_
                refine WL.yld rfl (blt rfl) rfl (Y.move rfl rfl) ?_
                refine WL.yld rfl (blt rfl) rfl (Y.move rfl rfl) ?_
                have b65 : i < n_s := by omega
                refine WL.yld rfl (blt rfl) rfl (Y.indexLs i (h_s.ext xW) rfl Tryd.underlying38 ti48 rfl rfl rfl b65) ?_
                refine WL.yld rfl (blt rfl) rfl (Y.fieldE rfl Tryd.underlying48 rfl ti46 (by decide) rfl) ?_
                refine WL.yld rfl (blt rfl) rfl (Y.load1 rfl Tryd.underlying46 rfl rfl (Ls.at_eq (h_s.ext xW) b65 rfl)) ?_
                refine WL.yld rfl (blt rfl) rfl (Y.move rfl rfl) ?_
                have b66 : k < s[i]!.n := by omega
                refine WL.yld rfl (blt rfl) rfl (Y.indexLs k ((g_s _ (bang_mem (show i < s.length from by omega))).ext xW) rfl Tryd.underlying46 ti9 rfl rfl rfl b66) ?_
                refine WL.yld rfl (blt rfl) rfl (Y.load1 rfl Tryd.underlying9 rfl rfl (Ls.at_eq ((g_s _ (bang_mem (show i < s.length from by omega))).ext xW) b66 rfl)) ?_
                refine WL.yld rfl (blt rfl) rfl (Y.assign rfl rfl) ?_
                refine WL.nil ?_
                refine WK.then_normal (k64 _ _ ?_)
                refine WC.sub [(0, _), (1, _), (5, _), (7, _), (8, _), (9, _)] ⟨rfl, rfl, rfl, rfl, rfl, rfl, trivial⟩ ?_
                refine WC.seq (fun K67 k67 => ?_)
                refine WC.region rfl ?_
                refine WL.yld rfl (blt rfl) rfl (Y.move rfl rfl) ?_
                refine WL.yld rfl (blt rfl) rfl (Y.move rfl rfl) ?_
                have b68 : i < n24 := by omega
                refine WL.yld rfl (blt rfl) rfl (Y.indexLs i hl27 rfl Tryd.underlying38 ti48 rfl rfl rfl b68) ?_
                refine WL.yld rfl (blt rfl) rfl (Y.fieldE rfl Tryd.underlying48 rfl ti46 (by decide) rfl) ?_
                refine WL.yld rfl (blt rfl) rfl (Y.load1 rfl Tryd.underlying46 rfl rfl (Ls.at_eq hl27 b68 rfl)) ?_
                refine WL.yld rfl (blt rfl) rfl (Y.move rfl rfl) ?_
                have b69 : k < b26[i]!.n := by omega
                refine WL.yld rfl (blt rfl) rfl (Y.indexLs k (gb28 _ (bang_mem (show i < b26.length from by omega))) rfl Tryd.underlying46 ti9 rfl rfl rfl b69) ?_
                refine WL.yld rfl (blt rfl) rfl (Y.load1 rfl Tryd.underlying9 rfl rfl (Ls.at_eq (gb28 _ (bang_mem (show i < b26.length from by omega))) b69 rfl)) ?_
                refine WL.yld rfl (blt rfl) rfl (Y.move rfl rfl) ?_
                refine WL.yld rfl (blt rfl) rfl (Y.neqStr rfl rfl rfl) ?_
                refine WL.yld rfl (blt rfl) rfl (Y.move rfl rfl) ?_
                refine WL.yldG rfl (blt rfl) rfl rfl rfl (fun hb => Y.move rfl rfl) ?_
                refine WL.yldG rfl (blt rfl) rfl rfl rfl (fun hb => Y.lenStr rfl rfl rfl Tryd.underlying9 (evs_cons (evg rfl hb) evs_nil)) ?_
                refine WL.yldG rfl (blt rfl) rfl rfl rfl (fun hb => Y.lss rfl (evg rfl hb) rfl) ?_
                refine WL.yldG rfl (blt rfl) rfl rfl rfl (fun hb => Y.move rfl (evg rfl hb)) ?_
                refine WL.yldGs [(_, _)] rfl (blt rfl) rfl rfl rfl (fun hb => Y.move rfl rfl) ?_
                refine WL.yldGs [(_, _)] rfl (blt rfl) rfl rfl rfl (fun hb => Y.sliceStrH 2 rfl Tryd.underlying9 (evg (evg rfl hb.1) hb.2.1) rfl rfl (by have q1 := (dec_f hb.2.1); omega)) ?_
                refine WL.yldGs [(_, _)] rfl (blt rfl) rfl rfl rfl (fun hb => Y.neqStr rfl (evg (evg rfl hb.1) hb.2.1) rfl) ?_
                refine WL.yldG rfl (blt rfl) rfl rfl rfl (fun hb => Y.or rfl (evg rfl hb) rfl (evg rfl hb)) ?_
                refine WL.yld rfl (blt rfl) rfl (Y.and rfl rfl rfl rfl) ?_
                refine WL.nil ?_
                refine WK.then_normal (k67 _ _ ?_)
                refine WC.sub [(0, _), (1, _), (5, _), (7, _), (8, _), (153, _)] ⟨rfl, rfl, rfl, rfl, rfl, rfl, trivial⟩ ?_
                refine WC.cond rfl (fun h70 => ?_) (fun h70 => ?_)
                ·
                  clear k1 k2 k3 k20 k30 k31 k34 k35 k43 k44 k46 k47 k49 k50 k51 k57 k59 k60 k63 k64 k67
                  exact False.elim (by have q := h70; rw [kf] at q; by_cases e : Sy.frm l s[i]!.l[k]! = s[i]!.l[k]!; (rw [e] at q; simp [beqB_self] at q); (have d := Sy.frm_dead e; rw [d.2] at q; have d2 : decide (((s[i]!.l[k]!.size : Nat) : Int) < 3) = false := decide_eq_false (by omega); rw [d2] at q; simp at q))
                ·
                  have p70 := ((and_f h70).imp (fun h => h) (fun h => (dec_f (or_f h).1)))
                  refine WC.skip ?_
                  refine WK.in_normal ?_
                  refine WK.then_normal (k63 _ _ ?_)
                  refine WC.sub [(0, _), (1, _), (5, _), (7, _), (8, _)] ⟨rfl, rfl, rfl, rfl, rfl, trivial⟩ ?_
                  refine WC.region rfl ?_
                  refine WL.yld rfl (blt rfl) rfl (Y.move rfl rfl) ?_
                  refine WL.yld rfl (blt rfl) rfl (Y.add rfl rfl rfl (wrap_i64 (by first | omega | (dsimp only; omega)))) ?_
                  refine WL.yld rfl (blt rfl) rfl (Y.assign rfl rfl) ?_
                  refine WL.nil ?_
                  refine WK.roundS _ [(8, .int .i64 (((k + 1) : Nat) : Int))] ⟨rfl, rfl, rfl, rfl, rfl, trivial⟩ ?_ ⟨(k + 1), rfl, rfl, xW, hl27, gb28, (by omega)⟩
                  show _ - (k + 1) < _ - k; omega
              ·
                have p62 := (dec_f h62)
                refine WC.exit ?_
                refine WK.then_exit ?_
                refine WK.then_exit ?_
                refine WK.in_exit ?_
                refine WK.in_normal ?_
                refine WK.then_normal (k49 _ _ ?_)
                refine WC.sub [(0, _), (1, _), (5, _), (7, _)] ⟨rfl, rfl, rfl, rfl, trivial⟩ ?_
                refine WC.region rfl ?_
                refine WL.yld rfl (blt rfl) rfl (Y.move rfl rfl) ?_
                refine WL.yld rfl (blt rfl) rfl (Y.add rfl rfl rfl (wrap_i64 (by first | omega | (dsimp only; omega)))) ?_
                refine WL.yld rfl (blt rfl) rfl (Y.assign rfl rfl) ?_
                refine WL.nil ?_
                refine WK.roundS _ [(7, .int .i64 (((i + 1) : Nat) : Int))] ⟨rfl, rfl, rfl, rfl, trivial⟩ ?_ ⟨(i + 1), rfl, rfl, xW, hl27, gb28, (by omega)⟩
                show _ - (i + 1) < _ - i; omega
          ·
            have p48 := (dec_f h48)
            refine WC.exit ?_
            refine WK.then_exit ?_
            refine WK.then_exit ?_
            refine WK.in_exit ?_
            refine WK.then_normal (k43 _ _ ?_)
            refine WC.sub [(0, _), (5, _)] ⟨rfl, rfl, trivial⟩ ?_
            refine WC.seq (fun K71 k71 => ?_)
            refine WC.region rfl ?_
            refine WL.yld rfl (blt rfl) rfl (Y.move rfl rfl) ?_
            refine WL.yld rfl (blt rfl) rfl (Y.move rfl rfl) ?_
            refine WL.call rfl (blt rfl) rfl rfl rfl has17 rfl (samples_any _ _ _ _ _ _ _ _ _ (h_l.ext xW) hl27 (Sy.Good.ext g_l xW) hF gb28 fw) ?_
            rintro _ w72 ⟨A74, n75, c76, b77, rfl, hl78, gb79, rs80, x73⟩
            refine ⟨_, rfl, ?_⟩
            have e_n75 := hl78.len
            have z_n75 := hl78.nle
            have hl27 := hl27.ext x73
            have gb28 := gb28.ext x73
            have xW := Ext.trans xW x73
            refine WL.yld rfl (blt rfl) rfl (Y.move rfl rfl) ?_
            refine WL.yld rfl (blt rfl) rfl (Y.extract rfl rfl rfl) ?_
            refine WL.yld rfl (blt rfl) rfl (Y.extract rfl rfl rfl) ?_
            refine WL.yld rfl (blt rfl) rfl (Y.assign rfl rfl) ?_
            refine WL.yld rfl (blt rfl) rfl (Y.assign rfl rfl) ?_
            refine WL.nil ?_
            refine WK.then_normal (k71 _ _ ?_)
            refine WC.sub [(5, _), (10, _), (11, _)] ⟨rfl, rfl, rfl, trivial⟩ ?_
            refine WC.seq (fun K81 k81 => ?_)
            refine WC.region rfl ?_
            refine WL.yld rfl (blt rfl) rfl (Y.move rfl rfl) ?_
            refine WL.yld rfl (blt rfl) rfl (Y.eql rfl rfl rfl) ?_
            refine WL.yld rfl (blt rfl) rfl (Y.move rfl rfl) ?_
            refine WL.yldG rfl (blt rfl) rfl rfl rfl (fun hb => Y.move rfl rfl) ?_
            refine WL.yldG rfl (blt rfl) rfl rfl rfl (fun hb => Y.move rfl rfl) ?_
            refine WL.callG rfl (blt rfl) rfl rfl rfl rfl rfl has19 (fun hb => (evs_cons (evg rfl hb) (evs_cons (evg rfl hb) evs_nil))) (fun hb => same_any _ _ _ _ _ _ _ _ _ hl27 hl78 gb28 gb79 (Sy.res_again ky (Sy.res_keys rs80 (by rw [Sy.sE_smp zz.1]; exact kc)))) (fun w82 x83 => ?_)
            have hl27 := hl27.ext x83
            have gb28 := gb28.ext x83
            have hl78 := hl78.ext x83
            have gb79 := gb79.ext x83
            have xW := Ext.trans xW x83
            refine WL.yld rfl (blt rfl) rfl (Y.and rfl rfl rfl rfl) ?_
            refine WL.yld rfl (blt rfl) rfl (Y.assign rfl rfl) ?_
            refine WL.nil ?_
            refine WK.then_normal (k81 _ _ ?_)
            refine WC.sub [(4, _)] ⟨rfl, trivial⟩ ?_
            refine WC.ret ?_
            clear k1 k2 k3 k20 k30 k31 k34 k35 k43 k44 k46 k47 k71 k81
            refine WK.ret [_] rfl ⟨rfl, trivial⟩ ?_
            refine ⟨ret1 (vb ?_), xW⟩
            rw [Sy.sE_smp zz.1, kc]; rfl
end LSymbolKeeps
end SyW

end Go.Proofs.YtghfncgciaiofaaDoor
