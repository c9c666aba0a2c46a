/- Contracts: samples with their frames named. Conditions: what each theorem states. -/
import Derived.Test.YtghfncgciaiofaaDoorSySmp
import Derived.Test.YtghfncgciaiofaaDoorSyOut
import Derived.Test.YtghfncgciaiofaaDoorKep
namespace Go.Proofs.YtghfncgciaiofaaDoor
open Go Go.Eng Go.RowKit
set_option linter.unusedVariables false
namespace SyW
open R X F Y A S
namespace Q
theorem ti3 : TI Tryd.prog 3 (.int .i64 0) 1 8 := TI.mk (by kernel_rfl)
theorem ti9 : TI Tryd.prog 9 (.string ⟨#[]⟩) 1 16 := TI.mk (by kernel_rfl)
theorem ti46 : TI Tryd.prog 46 (.slice none 0 0) 1 24 := TI.mk (by kernel_rfl)
theorem ti48 : TI Tryd.prog 48 (.agg #[.int .i64 0, .int .i64 0, .int .i64 0, .slice none 0 0]) 4 48 := TI.mk (by kernel_rfl)
theorem has12 : Has Tryd.prog 12 := ⟨_, Tryd.func12, rfl, by kernel_rfl⟩
theorem has13 : Has Tryd.prog 13 := ⟨_, Tryd.func13, rfl, by kernel_rfl⟩
theorem has15 : Has Tryd.prog 15 := ⟨_, Tryd.func15, rfl, by kernel_rfl⟩
theorem has20 : Has Tryd.prog 20 := ⟨_, Tryd.func20, rfl, by kernel_rfl⟩
theorem has26 : Has Tryd.prog 26 := ⟨_, Tryd.func26, rfl, by kernel_rfl⟩
theorem has29 : Has Tryd.prog 29 := ⟨_, Tryd.func29, rfl, by kernel_rfl⟩
theorem has30 : Has Tryd.prog 30 := ⟨_, Tryd.func30, rfl, by kernel_rfl⟩
theorem pl48 : PL Tryd.prog 48 [.int .i64 0, .int .i64 0, .int .i64 0, .slice none 0 0] [(0, 1), (1, 1), (2, 1), (3, 1)] := PL.mk (zero := [.int .i64 0, .int .i64 0, .int .i64 0, .slice none 0 0]) ti48 Tryd.underlying48 (by kernel_rfl)
theorem rsamples_any (A_l : Option Addr) (n_l c_l : Nat) (l : List Sy.M) (A_s : Option Addr) (n_s c_s : Nat) (s : List Sy.P) (w : World) (h_l : Ls w A_l n_l c_l Sy.M.v 4 l) (h_s : Ls w A_s n_s c_s Sy.P.v 4 s) (g_l : Sy.Good w l) (hF : Sy.Few l) (g_s : Sy.GoodP w s) (hP : Sy.FewP s) :
    Calls Tryd.prog 18 #[.slice A_l n_l c_l, .slice A_s n_s c_s] w fun e w' => ∃ A n c b, e = .returned (.tuple #[.slice A n c, .int .i64 (Sy.sE l s)]) ∧ Ls w' A n c Sy.P.v 4 b ∧ Sy.GoodP w' b ∧ Sy.Res l s b ∧ Ext w w' := by
  have xW := Ext.refl w
  have e_l := h_l.len
  have z_l := h_l.nle
  have e_s := h_s.len
  have z_s := h_s.nle
  have pn := hP.n
  refine calls_of_WC (args := [.slice A_l n_l c_l, .slice A_s n_s c_s]) Tryd.func18 rfl rfl (ble rfl) ?_
  refine WC.seq (fun K1 k1 => ?_)
  refine WC.region rfl ?_
  refine WL.yld rfl (blt rfl) rfl (Y.assign rfl rfl) ?_
  refine WL.yld rfl (blt rfl) rfl (Y.assign rfl rfl) ?_
  refine WL.nil ?_
  refine WK.then_normal (k1 _ _ ?_)
  refine WC.sub [(0, _), (1, _)] ⟨rfl, rfl, trivial⟩ ?_
  refine WC.seq (fun K2 k2 => ?_)
  refine WC.region rfl ?_
  refine WL.yld rfl (blt rfl) rfl (Y.move rfl rfl) ?_
  refine WL.call rfl (blt rfl) rfl rfl rfl has13 rfl (rcheck_any _ _ _ _ _ (h_l.ext xW) (Sy.Good.ext g_l xW) hF) ?_
  rintro _ w3 ⟨rfl, x4⟩
  refine ⟨_, rfl, ?_⟩
  have xW := Ext.trans xW x4
  refine WL.yld rfl (blt rfl) rfl (Y.assign rfl rfl) ?_
  refine WL.nil ?_
  refine WK.then_normal (k2 _ _ ?_)
  refine WC.sub [(0, _), (1, _), (6, _)] ⟨rfl, rfl, rfl, trivial⟩ ?_
  refine WC.seq (fun K5 k5 => ?_)
  refine WC.seq (fun K6 k6 => ?_)
  refine WC.region rfl ?_
  refine WL.yld rfl (blt rfl) rfl (Y.move rfl rfl) ?_
  refine WL.yld rfl (blt rfl) rfl (Y.eql rfl rfl rfl) ?_
  refine WL.nil ?_
  refine WK.then_normal (k6 _ _ ?_)
  refine WC.sub [(0, _), (1, _), (6, _), (14, _)] ⟨rfl, rfl, rfl, rfl, trivial⟩ ?_
  refine WC.cond rfl (fun h7 => ?_) (fun h7 => ?_)
  ·
    have p7 := (eq_t h7)
    have hc0 : Sy.chkE l = 0 := (by have q := h7; simpa using q)
    refine WC.region rfl ?_
    refine WL.yld rfl (blt rfl) rfl (Y.move rfl rfl) ?_
    refine WL.call rfl (blt rfl) rfl rfl rfl has30 rfl (rpcheck_any _ _ _ _ _ (h_s.ext xW) (Sy.GoodP.ext g_s xW)) ?_
    rintro _ w8 ⟨rfl, x9⟩
    refine ⟨_, rfl, ?_⟩
    have xW := Ext.trans xW x9
    refine WL.yld rfl (blt rfl) rfl (Y.assign rfl rfl) ?_
    refine WL.nil ?_
    refine WK.then_normal (k5 _ _ ?_)
    refine WC.sub [(0, _), (1, _), (6, _)] ⟨rfl, rfl, rfl, trivial⟩ ?_
    refine WC.seq (fun K10 k10 => ?_)
    refine WC.seq (fun K11 k11 => ?_)
    refine WC.region rfl ?_
    refine WL.yld rfl (blt rfl) rfl (Y.move rfl rfl) ?_
    refine WL.yld rfl (blt rfl) rfl (Y.neq rfl rfl rfl) ?_
    refine WL.nil ?_
    refine WK.then_normal (k11 _ _ ?_)
    refine WC.sub [(0, _), (1, _), (6, _), (18, _)] ⟨rfl, rfl, rfl, rfl, trivial⟩ ?_
    refine WC.cond rfl (fun h12 => ?_) (fun h12 => ?_)
    ·
      have p12 := (eq_f (not_t h12))
      refine WC.seq (fun K13 k13 => ?_)
      refine WC.region rfl ?_
      refine WL.yld rfl (blt rfl) rfl (Y.move rfl rfl) ?_
      refine WL.yld rfl (blt rfl) rfl (Y.assign rfl rfl) ?_
      refine WL.yld rfl (blt rfl) rfl (Y.assign rfl rfl) ?_
      refine WL.nil ?_
      refine WK.then_normal (k13 _ _ ?_)
      refine WC.sub [(4, _), (5, _)] ⟨rfl, rfl, trivial⟩ ?_
      refine WC.ret ?_
      refine WK.then_ret ?_
      clear k1 k2 k5 k6 k10 k11 k13
      refine WK.ret [_, _] rfl ⟨rfl, rfl, trivial⟩ ?_
      refine ⟨none, 0, 0, [], ?_, Ls.nil (by decide), (fun _ h => by simp at h), Sy.res_bad ?_, xW⟩
      rw [Sy.sE_smp hc0]; rfl
      rw [Sy.sE_smp hc0]; exact (by have q := h12; simpa using q)
    ·
      have p12 := (eq_t (not_f h12))
      refine WC.skip ?_
      refine WK.then_normal (k10 _ _ ?_)
      refine WC.sub [(0, _), (1, _)] ⟨rfl, rfl, trivial⟩ ?_
      refine WC.seq (fun K14 k14 => ?_)
      refine WC.region rfl ?_
      refine WL.yld rfl (blt rfl) rfl (Y.assign rfl rfl) ?_
      refine WL.nil ?_
      refine WK.then_normal (k14 _ _ ?_)
      refine WC.seq (fun K15 k15 => ?_)
      refine WC.seq (fun K16 k16 => ?_)
      refine WC.region rfl ?_
      refine WL.yld rfl (blt rfl) rfl (Y.assign rfl rfl) ?_
      refine WL.nil ?_
      refine WK.then_normal (k16 _ _ ?_)
      refine WC.block ?_
      have kp : Kep w8 [] (Sy.Fin [] 0) := Kep.nil_ (fun w => Sy.fin_zero _ w)
      refine WC.sub [(8, _), (7, _), (0, _), (1, _)] ⟨rfl, rfl, rfl, rfl, trivial⟩ ?_
      refine WC.loopS 2 (fun mz Ed W' => ∃ i : Nat, ∃ v : Value, ∃ b : List Sy.P, ∃ B : List Nat, mz = n_s - i ∧ Ed = [(8, .int .i64 ((i : Nat) : Int)), (7, v)] ∧ Ext w W' ∧ OwnL W' w.heap.size 48 Sy.P.v 4 v (b) ∧ Kep W' B (Sy.Fin b i) ∧ Out v B ∧ (i ≤ n_s) ∧ (b.map Sy.P.key = (s.take i).map (Sy.out l))) _ ⟨0, _, [], [], rfl, rfl, xW, OwnL.nil_, kp, Out.nil_, (Nat.zero_le _), rfl⟩ ?_
      rintro _ _ w17 ⟨i, v, b, B, rfl, rfl, xW, ow_v, kp, q_v_kp, le_i, bi⟩
      refine WC.sub [(8, _), (7, _), (0, _), (1, _)] ⟨rfl, rfl, rfl, rfl, trivial⟩ ?_
      have bl := Sy.res_len bi (by omega)
      refine WC.seq (fun K18 k18 => ?_)
      refine WC.seq (fun K19 k19 => ?_)
      refine WC.region rfl ?_
      refine WL.yld rfl (blt rfl) rfl (Y.move rfl rfl) ?_
      refine WL.yld rfl (blt rfl) rfl (Y.move rfl rfl) ?_
      refine WL.yld rfl (blt rfl) rfl (Y.lenSl rfl rfl rfl Tryd.underlying38 rfl) ?_
      refine WL.yld rfl (blt rfl) rfl (Y.lss rfl rfl rfl) ?_
      refine WL.nil ?_
      refine WK.then_normal (k19 _ _ ?_)
      refine WC.sub [(0, _), (1, _), (7, _), (8, _), (23, _)] ⟨rfl, rfl, rfl, rfl, rfl, trivial⟩ ?_
      refine WC.cond rfl (fun h20 => ?_) (fun h20 => ?_)
      ·
        have p20 := (dec_t h20)
        have mp := hP.m _ (bang_mem (show i < s.length from by omega))
        refine WC.skip ?_
        refine WK.then_normal (k18 _ _ ?_)
        refine WC.sub [(0, _), (1, _), (7, _), (8, _)] ⟨rfl, rfl, rfl, rfl, trivial⟩ ?_
        refine WC.seq (fun K21 k21 => ?_)
        refine WC.block ?_
        refine WC.seq (fun K22 k22 => ?_)
        refine WC.region rfl ?_
        refine WL.yld rfl (blt rfl) rfl (Y.assign rfl rfl) ?_
        refine WL.nil ?_
        refine WK.then_normal (k22 _ _ ?_)
        refine WC.seq (fun K23 k23 => ?_)
        refine WC.seq (fun K24 k24 => ?_)
        refine WC.region rfl ?_
        refine WL.yld rfl (blt rfl) rfl (Y.assign rfl rfl) ?_
        refine WL.nil ?_
        refine WK.then_normal (k24 _ _ ?_)
        refine WC.block ?_
        refine WC.sub [(10, _), (9, _), (0, _), (1, _), (7, _), (8, _)] ⟨rfl, rfl, rfl, rfl, rfl, rfl, trivial⟩ ?_
        refine WC.loopS 2 (fun mz Ed W' => ∃ k : Nat, ∃ u : Value, mz = s[i]!.n - k ∧ Ed = [(10, .int .i64 ((k : Nat) : Int)), (9, u)] ∧ Ext w W' ∧ OwnL W' w.heap.size 48 Sy.P.v 4 v _ ∧ OwnL W' w.heap.size 9 Sy.sc 1 u ((s[i]!.l.take k).map (Sy.frm l)) ∧ Apart u v ∧ Kep W' B (Sy.Fin b i) ∧ Out u B ∧ Out v B ∧ (k ≤ s[i]!.n)) _ ⟨0, _, rfl, rfl, xW, ow_v, OwnL.nil_, Apart.nil_l, kp, Out.nil_, q_v_kp, (Nat.zero_le _)⟩ ?_
        rintro _ _ w25 ⟨k, u, rfl, rfl, xW, ow_v, ow_u, d_u_v, kp, q_u_kp, q_v_kp, le_k⟩
        refine WC.sub [(10, _), (9, _), (0, _), (1, _), (7, _), (8, _)] ⟨rfl, rfl, rfl, rfl, rfl, rfl, trivial⟩ ?_
        refine WC.seq (fun K26 k26 => ?_)
        refine WC.seq (fun K27 k27 => ?_)
        refine WC.region rfl ?_
        refine WL.yld rfl (blt rfl) rfl (Y.move rfl rfl) ?_
        refine WL.yld rfl (blt rfl) rfl (Y.move rfl rfl) ?_
        refine WL.yld rfl (blt rfl) rfl (Y.move rfl rfl) ?_
        have b28 : i < n_s := by omega
        refine WL.yld rfl (blt rfl) rfl (Y.indexLs i (h_s.ext xW) rfl Tryd.underlying38 ti48 rfl rfl rfl b28) ?_
        refine WL.yld rfl (blt rfl) rfl (Y.fieldE rfl Tryd.underlying48 rfl ti46 (by decide) rfl) ?_
        refine WL.yld rfl (blt rfl) rfl (Y.load1 rfl Tryd.underlying46 rfl rfl (Ls.at_eq (h_s.ext xW) b28 rfl)) ?_
        refine WL.yld rfl (blt rfl) rfl (Y.lenSl rfl rfl rfl Tryd.underlying46 rfl) ?_
        refine WL.yld rfl (blt rfl) rfl (Y.lss rfl rfl rfl) ?_
        refine WL.nil ?_
        refine WK.then_normal (k27 _ _ ?_)
        refine WC.sub [(0, _), (1, _), (7, _), (8, _), (9, _), (10, _), (33, _)] ⟨rfl, rfl, rfl, rfl, rfl, rfl, rfl, trivial⟩ ?_
        refine WC.cond rfl (fun h29 => ?_) (fun h29 => ?_)
        ·
          have p29 := (dec_t h29)
          refine WC.skip ?_
          refine WK.then_normal (k26 _ _ ?_)
          refine WC.sub [(0, _), (1, _), (7, _), (8, _), (9, _), (10, _)] ⟨rfl, rfl, rfl, rfl, rfl, rfl, trivial⟩ ?_
          refine WC.seq (fun K30 k30 => ?_)
          refine WC.block ?_
          refine WC.region rfl ?_
          refine WL.yld rfl (blt rfl) rfl (Y.move rfl rfl) ?_
          refine WL.yld rfl (blt rfl) rfl (Y.move rfl rfl) ?_
          refine WL.yld rfl (blt rfl) rfl (Y.move rfl rfl) ?_
          refine WL.yld rfl (blt rfl) rfl (Y.move rfl rfl) ?_
          have b31 : i < n_s := by omega
          refine WL.yld rfl (blt rfl) rfl (Y.indexLs i (h_s.ext xW) rfl Tryd.underlying38 ti48 rfl rfl rfl b31) ?_
          refine WL.yld rfl (blt rfl) rfl (Y.fieldE rfl Tryd.underlying48 rfl ti46 (by decide) rfl) ?_
          refine WL.yld rfl (blt rfl) rfl (Y.load1 rfl Tryd.underlying46 rfl rfl (Ls.at_eq (h_s.ext xW) b31 rfl)) ?_
          refine WL.yld rfl (blt rfl) rfl (Y.move rfl rfl) ?_
          have b32 : k < s[i]!.n := by omega
          refine WL.yld rfl (blt rfl) rfl (Y.indexLs k ((g_s _ (bang_mem (show i < s.length from by omega))).ext xW) rfl Tryd.underlying46 ti9 rfl rfl rfl b32) ?_
          refine WL.yld rfl (blt rfl) rfl (Y.load1 rfl Tryd.underlying9 rfl rfl (Ls.at_eq ((g_s _ (bang_mem (show i < s.length from by omega))).ext xW) b32 rfl)) ?_
          refine WL.call rfl (blt rfl) rfl rfl rfl has15 rfl (RFrame_any _ _ _ _ _ _ (h_l.ext xW) (Sy.Good.ext g_l xW) hF) ?_
          rintro _ w33 ⟨rfl, x34⟩
          refine ⟨_, rfl, ?_⟩
          have ow_v := ow_v.ext x34
          have kp := kp.ext x34
          have ow_u := ow_u.ext x34
          have xW := Ext.trans xW x34
          refine WL.bslice (zs := [.string ⟨#[]⟩]) (cs := [_]) rfl (blt rfl) rfl rfl Tryd.underlying46 ti9 rfl (ble rfl) (by kernel_rfl) rfl rfl ?_
          intro g35 w36 e37 x38 m39
          have r_v_g35 := ne_newO ow_v e37
          have r_u_g35 := ne_newO ow_u e37
          have o_g35 := own_new xW e37
          have ow_v := ow_v.ext x38
          have kp := kp.ext x38
          have ow_u := ow_u.ext x38
          have xW := Ext.trans xW x38
          refine WL.appendB (f := Sy.sc) (news := [Sy.frm l s[i]!.l[k]!]) rfl (blt rfl) rfl rfl rfl rfl Tryd.underlying46 ti9 rfl (by decide) rfl ow_u (fun _ => rfl) Sy.sc_one m39 rfl xW.size (by have q0 := (show ((s[i]!.l.take k).map (Sy.frm l)).length ≤ 60 from by rw [List.length_map, List.length_take]; omega); first | omega | (simp only [List.length_append, List.length_cons, List.length_nil, List.length_take, List.length_drop, List.length_reverse]; omega)) (Nat.le_trans (show _ ≤ 140737488355328 from by have q0 := (show ((s[i]!.l.take k).map (Sy.frm l)).length ≤ 60 from by rw [List.length_map, List.length_take]; omega); first | omega | (simp only [List.length_append, List.length_cons, List.length_nil, List.length_take, List.length_drop, List.length_reverse]; omega)) (by decide)) (fun v40 w41 ow42 gr43 nb44 => ?_)
          have d_v_v40 := (Apart.app d_u_v nb44 ow_v).symm
          have ow_v := OwnL.grown ow_v gr43 d_u_v
          have q_v40_kp := Out.app q_u_kp kp nb44
          have kp := Kep.grown kp gr43 q_u_kp
          have r_v40_g35 := ne_app nb44 r_u_g35 m39
          have m39 := m39.grown gr43 r_u_g35
          have xW := Ext.grown xW gr43 (fun b hb => (OwnL.lt ow_u hb).1)
          refine WL.yld rfl (blt rfl) rfl (Y.assign rfl rfl) ?_
          refine WL.nil ?_
          refine WK.in_normal ?_
          refine WK.then_normal (k30 _ _ ?_)
          refine WC.sub [(0, _), (1, _), (7, _), (8, _), (9, _), (10, _)] ⟨rfl, rfl, rfl, rfl, rfl, rfl, trivial⟩ ?_
          refine WC.region rfl ?_
          refine WL.yld rfl (blt rfl) rfl (Y.move rfl rfl) ?_
          refine WL.yld rfl (blt rfl) rfl (Y.add rfl rfl rfl (wrap_i64 (by first | omega | (dsimp only; omega)))) ?_
          refine WL.yld rfl (blt rfl) rfl (Y.assign rfl rfl) ?_
          refine WL.nil ?_
          refine WK.roundS _ [(10, .int .i64 (((k + 1) : Nat) : Int)), (9, v40)] ⟨rfl, rfl, rfl, rfl, rfl, rfl, trivial⟩ ?_ ⟨(k + 1), v40, rfl, rfl, xW, ow_v, (by rw [Sy.cur_step (by omega)]; exact ow42), d_v_v40.symm, kp, q_v40_kp, q_v_kp, (by omega)⟩
          show _ - (k + 1) < _ - k; omega
        ·
          have p29 := (dec_f h29)
          obtain ⟨A45, n46, c47, rfl, hl48⟩ := OwnL.opened ow_u (fun _ => rfl) (by decide)
          have e_n46 := hl48.len
          try simp only [List.length_append, List.length_cons, List.length_nil, List.length_reverse, List.length_drop, List.length_take, List.length_map, List.length_replicate, List.length_set] at e_n46
          have z_n46 := hl48.nle
          refine WC.exit ?_
          refine WK.then_exit ?_
          refine WK.then_exit ?_
          refine WK.in_exit ?_
          refine WK.then_normal (k23 _ _ ?_)
          refine WC.sub [(0, _), (1, _), (7, _), (8, _), (9, _)] ⟨rfl, rfl, rfl, rfl, rfl, trivial⟩ ?_
          refine WC.regionX (fun W' => Ext w W' ∧ Ls W' A45 n46 c47 Sy.sc 1 _) (.load 0 (.load 1 (.load 2 (.load 3 (.load 4 (.load 5 (.load 6 (.load 7 (.load 8 (.load 9 (.load 10 (.load 11 (.load 12 (.load 13 (.load 14 (.load 15 (.load 16 (.load 17 (.alt 18 (.alt 19 (.load 20 (.fin)) (.none)) (.none)))))))))))))))))))) ⟨xW, hl48⟩ (by kernel_rfl) (by kernel_rfl) (fun w49 x50 => ?_)
          have ow_v := ow_v.ext x50
          have kp := kp.ext x50
          have ow_u := ow_u.ext x50
          have hl48 := hl48.ext x50
          have xW := Ext.trans xW x50
          refine WX.yld rfl rfl (blt rfl) rfl (Y.move rfl rfl) ?_
          refine WX.yld rfl rfl (blt rfl) rfl (Y.move rfl rfl) ?_
          refine WX.yld rfl rfl (blt rfl) rfl (Y.move rfl rfl) ?_
          have b51 : i < n_s := by omega
          refine WX.yld rfl rfl (blt rfl) rfl (Y.indexLs i (h_s.ext xW) rfl Tryd.underlying38 ti48 rfl rfl rfl b51) ?_
          refine WX.yld rfl rfl (blt rfl) rfl (Y.fieldE rfl Tryd.underlying48 rfl ti3 (by decide) rfl) ?_
          refine WX.yld rfl rfl (blt rfl) rfl (Y.load1 rfl Tryd.underlying3 rfl rfl (Ls.at_c (fun _ h => (h_s.ext (h.1))) b51 rfl)) ?_
          refine WX.yld rfl rfl (blt rfl) rfl (Y.move rfl rfl) ?_
          refine WX.yld rfl rfl (blt rfl) rfl (Y.move rfl rfl) ?_
          have b52 : i < n_s := by omega
          refine WX.yld rfl rfl (blt rfl) rfl (Y.indexLs i (h_s.ext xW) rfl Tryd.underlying38 ti48 rfl rfl rfl b52) ?_
          refine WX.yld rfl rfl (blt rfl) rfl (Y.fieldE rfl Tryd.underlying48 rfl ti3 (by decide) rfl) ?_
          refine WX.yld rfl rfl (blt rfl) rfl (Y.load1 rfl Tryd.underlying3 rfl rfl (Ls.at_c (fun _ h => (h_s.ext (h.1))) b52 rfl)) ?_
          refine WX.yld rfl rfl (blt rfl) rfl (Y.move rfl rfl) ?_
          refine WX.yld rfl rfl (blt rfl) rfl (Y.move rfl rfl) ?_
          have b53 : i < n_s := by omega
          refine WX.yld rfl rfl (blt rfl) rfl (Y.indexLs i (h_s.ext xW) rfl Tryd.underlying38 ti48 rfl rfl rfl b53) ?_
          refine WX.yld rfl rfl (blt rfl) rfl (Y.fieldE rfl Tryd.underlying48 rfl ti3 (by decide) rfl) ?_
          refine WX.yld rfl rfl (blt rfl) rfl (Y.load1 rfl Tryd.underlying3 rfl rfl (Ls.at_c (fun _ h => (h_s.ext (h.1))) b53 rfl)) ?_
          refine WX.yld rfl rfl (blt rfl) rfl (Y.move rfl rfl) ?_
          refine WX.yld rfl rfl (blt rfl) rfl (Y.build (cells := [_, _, _, _]) rfl pl48 rfl rfl) ?_
          refine WX.run rfl rfl (blt rfl) rfl ⟨xW, hl48⟩ (Run.bslice (zs := [.int .i64 0, .int .i64 0, .int .i64 0, .slice none 0 0]) (cs := [_, _, _, _]) rfl Tryd.underlying38 ti48 rfl (ble rfl) (by kernel_rfl) rfl rfl) ?_
          rintro _ w55 ⟨g54, rfl, e56, x57, m58⟩
          have r_v_g54 := ne_newO ow_v e56
          have r_u_g54 := ne_newO ow_u e56
          have o_g54 := own_new xW e56
          have ow_v := ow_v.ext x57
          have kp := kp.ext x57
          have ow_u := ow_u.ext x57
          have hl48 := hl48.ext x57
          have xW := Ext.trans xW x57
          refine WX.run rfl rfl (blt rfl) rfl ⟨xW, hl48⟩ (Run.appendB (f := Sy.P.v) (news := [Sy.mkP s[i]! (.slice A45 n46 c47) ((s[i]!.l.take k).map (Sy.frm l))]) rfl rfl rfl Tryd.underlying38 ti48 rfl (by decide) rfl ow_v (fun _ => rfl) Sy.P.one m58 rfl xW.size (by have q0 := bl; first | omega | (simp only [List.length_append, List.length_cons, List.length_nil, List.length_take, List.length_drop, List.length_reverse]; omega)) (Nat.le_trans (show _ ≤ 140737488355328 from by have q0 := bl; first | omega | (simp only [List.length_append, List.length_cons, List.length_nil, List.length_take, List.length_drop, List.length_reverse]; omega)) (by decide)) ) ?_
          rintro v59 w60 ⟨ow61, gr62, nb63⟩
          have q_v59_kp := Out.app q_v_kp kp nb63
          have kp := Kep.grown kp gr62 q_v_kp
          have d_u_v59 := (Apart.app d_u_v.symm nb63 ow_u).symm
          have ow_u := OwnL.grown ow_u gr62 d_u_v.symm
          have hl48 := OwnL.ls ow_u (fun _ => rfl) (by decide)
          have r_v59_g54 := ne_app nb63 r_v_g54 m58
          have m58 := m58.grown gr62 r_v_g54
          have xW := Ext.grown xW gr62 (fun b hb => (OwnL.lt ow_v hb).1)
          refine WX.yld rfl rfl (blt rfl) rfl (Y.assign rfl rfl) ?_
          refine WX.nil ⟨xW, hl48⟩ ?_
          refine WK.in_normal ?_
          refine WK.then_normal (k21 _ _ ?_)
          refine WC.sub [(0, _), (1, _), (7, _), (8, _)] ⟨rfl, rfl, rfl, rfl, trivial⟩ ?_
          refine WC.region rfl ?_
          refine WL.yld rfl (blt rfl) rfl (Y.move rfl rfl) ?_
          refine WL.yld rfl (blt rfl) rfl (Y.add rfl rfl rfl (wrap_i64 (by first | omega | (dsimp only; omega)))) ?_
          refine WL.yld rfl (blt rfl) rfl (Y.assign rfl rfl) ?_
          refine WL.nil ?_
          refine WK.roundS _ [(8, .int .i64 (((i + 1) : Nat) : Int)), (7, v59)] ⟨rfl, rfl, rfl, rfl, trivial⟩ ?_ ⟨(i + 1), v59, (b ++ [Sy.mkP s[i]! (.slice A45 n46 c47) ((s[i]!.l.take k).map (Sy.frm l))]), (addB (.slice A45 n46 c47) B), rfl, rfl, xW, ow61, (Kep.cons kp ow_u (fun w2 h1 h2 => Sy.fin_app bl h1 (OwnL.ls h2 (fun _ => rfl) (by decide)))), (Out.add q_v59_kp d_u_v59.symm), (by omega), (Sy.res_app bi (by omega) (Sy.cur_all (by omega)))⟩
          show _ - (i + 1) < _ - i; omega
      ·
        have p20 := (dec_f h20)
        refine WC.exit ?_
        refine WK.then_exit ?_
        refine WK.then_exit ?_
        refine WK.in_exit ?_
        refine WK.then_normal (k15 _ _ ?_)
        refine WC.sub [(7, _)] ⟨rfl, trivial⟩ ?_
        refine WC.seq (fun K64 k64 => ?_)
        refine WC.region rfl ?_
        refine WL.yld rfl (blt rfl) rfl (Y.move rfl rfl) ?_
        refine WL.yld rfl (blt rfl) rfl (Y.assign rfl rfl) ?_
        refine WL.yld rfl (blt rfl) rfl (Y.assign rfl rfl) ?_
        refine WL.nil ?_
        refine WK.then_normal (k64 _ _ ?_)
        refine WC.sub [(4, _), (5, _)] ⟨rfl, rfl, trivial⟩ ?_
        refine WC.ret ?_
        clear k1 k2 k5 k6 k10 k11 k14 k15 k16 k18 k19 k64
        refine WK.ret [_, _] rfl ⟨rfl, rfl, trivial⟩ ?_
        obtain ⟨A9, n9, c9, rfl, hl9⟩ := OwnL.opened ow_v (fun _ => rfl) (by decide)
        have bl : b.length = i := Sy.res_len bi (by omega)
        have hz : Sy.sE l s = 0 := by rw [Sy.sE_smp hc0]; exact (by have q := h12; simpa using q)
        refine ⟨A9, n9, c9, b, ?_, hl9, Sy.fin_good (by rw [bl]; exact kp.at_), Sy.res_ok hz (by rw [bi, List.take_of_length_le (by omega)]), xW⟩
        rw [hz]; rfl
  ·
    have p7 := (eq_f h7)
    refine WC.skip ?_
    refine WK.then_normal (k5 _ _ ?_)
    refine WC.sub [(0, _), (1, _), (6, _)] ⟨rfl, rfl, rfl, trivial⟩ ?_
    refine WC.seq (fun K65 k65 => ?_)
    refine WC.seq (fun K66 k66 => ?_)
    refine WC.region rfl ?_
    refine WL.yld rfl (blt rfl) rfl (Y.move rfl rfl) ?_
    refine WL.yld rfl (blt rfl) rfl (Y.neq rfl rfl rfl) ?_
    refine WL.nil ?_
    refine WK.then_normal (k66 _ _ ?_)
    refine WC.sub [(0, _), (1, _), (6, _), (18, _)] ⟨rfl, rfl, rfl, rfl, trivial⟩ ?_
    refine WC.cond rfl (fun h67 => ?_) (fun h67 => ?_)
    ·
      have p67 := (eq_f (not_t h67))
      refine WC.seq (fun K68 k68 => ?_)
      refine WC.region rfl ?_
      refine WL.yld rfl (blt rfl) rfl (Y.move rfl rfl) ?_
      refine WL.yld rfl (blt rfl) rfl (Y.assign rfl rfl) ?_
      refine WL.yld rfl (blt rfl) rfl (Y.assign rfl rfl) ?_
      refine WL.nil ?_
      refine WK.then_normal (k68 _ _ ?_)
      refine WC.sub [(4, _), (5, _)] ⟨rfl, rfl, trivial⟩ ?_
      refine WC.ret ?_
      refine WK.then_ret ?_
      clear k1 k2 k5 k6 k65 k66 k68
      refine WK.ret [_, _] rfl ⟨rfl, rfl, trivial⟩ ?_
      refine ⟨none, 0, 0, [], ?_, Ls.nil (by decide), (fun _ h => by simp at h), Sy.res_bad ?_, xW⟩
      rw [Sy.sE_mod (by have q := h7; simpa using q)]; rfl
      rw [Sy.sE_mod (by have q := h7; simpa using q)]; exact (by have q := h7; simpa using q)
    ·
      clear k1 k2 k5 k6 k65 k66
      exact False.elim (by have q := h7; have q2 := h67; simp at q q2; exact q q2)
theorem framec_any (A_l : Option Addr) (n_l c_l : Nat) (l : List Sy.M) (s : ByteArray) (w : World) (h_l : Ls w A_l n_l c_l Sy.M.v 4 l) (g_l : Sy.Good w l) (hF : Sy.Few l) (hc : Sy.chkE l = 0) :
    Calls Tryd.prog 26 #[.slice A_l n_l c_l, .string s] w fun e w' => e = .returned (.string (Sy.frm l s)) ∧ Ext w w' := by
  rw [Sy.frm_ok hc]
  exact frame_any _ _ _ _ _ _ h_l g_l hF (Sy.chk_vals hc)
theorem samples_any (A_l : Option Addr) (n_l c_l : Nat) (l : List Sy.M) (A_s : Option Addr) (n_s c_s : Nat) (s : List Sy.P) (w : World) (h_l : Ls w A_l n_l c_l Sy.M.v 4 l) (h_s : Ls w A_s n_s c_s Sy.P.v 4 s) (g_l : Sy.Good w l) (hF : Sy.Few l) (g_s : Sy.GoodP w s) (hP : Sy.FewP s) :
    Calls Tryd.prog 17 #[.slice A_l n_l c_l, .slice A_s n_s c_s] w fun e w' => ∃ A n c b, e = .returned (.tuple #[.slice A n c, .int .i64 (Sy.sE l s)]) ∧ Ls w' A n c Sy.P.v 4 b ∧ Sy.GoodP w' b ∧ Sy.Res l s b ∧ Ext w w' := by
  have xW := Ext.refl w
  have e_l := h_l.len
  have z_l := h_l.nle
  have e_s := h_s.len
  have z_s := h_s.nle
  have pn := hP.n
  refine calls_of_WC (args := [.slice A_l n_l c_l, .slice A_s n_s c_s]) Tryd.func17 rfl rfl (ble rfl) ?_
  refine WC.seq (fun K1 k1 => ?_)
  refine WC.region rfl ?_
  refine WL.yld rfl (blt rfl) rfl (Y.assign rfl rfl) ?_
  refine WL.yld rfl (blt rfl) rfl (Y.assign rfl rfl) ?_
  refine WL.nil ?_
  refine WK.then_normal (k1 _ _ ?_)
  refine WC.sub [(0, _), (1, _)] ⟨rfl, rfl, trivial⟩ ?_
  refine WC.seq (fun K2 k2 => ?_)
  refine WC.seq (fun K3 k3 => ?_)
  refine WC.region rfl ?_
  refine WL.yld rfl (blt rfl) rfl (Y.move rfl rfl) ?_
  refine WL.call rfl (blt rfl) rfl rfl rfl has12 rfl (check_any _ _ _ _ _ (h_l.ext xW) (Sy.Good.ext g_l xW) hF) ?_
  rintro _ w4 ⟨rfl, x5⟩
  refine ⟨_, rfl, ?_⟩
  have xW := Ext.trans xW x5
  refine WL.yld rfl (blt rfl) rfl (Y.assign rfl rfl) ?_
  refine WL.nil ?_
  refine WK.then_normal (k3 _ _ ?_)
  refine WC.sub [(0, _), (1, _), (6, _)] ⟨rfl, rfl, rfl, trivial⟩ ?_
  refine WC.seq (fun K6 k6 => ?_)
  refine WC.region rfl ?_
  refine WL.yld rfl (blt rfl) rfl (Y.move rfl rfl) ?_
  refine WL.yld rfl (blt rfl) rfl (Y.neq rfl rfl rfl) ?_
  refine WL.nil ?_
  refine WK.then_normal (k6 _ _ ?_)
  refine WC.sub [(0, _), (1, _), (6, _), (15, _)] ⟨rfl, rfl, rfl, rfl, trivial⟩ ?_
  refine WC.cond rfl (fun h7 => ?_) (fun h7 => ?_)
  ·
    have p7 := (eq_f (not_t h7))
    refine WC.seq (fun K8 k8 => ?_)
    refine WC.region rfl ?_
    refine WL.yld rfl (blt rfl) rfl (Y.move rfl rfl) ?_
    refine WL.yld rfl (blt rfl) rfl (Y.assign rfl rfl) ?_
    refine WL.yld rfl (blt rfl) rfl (Y.assign rfl rfl) ?_
    refine WL.nil ?_
    refine WK.then_normal (k8 _ _ ?_)
    refine WC.sub [(4, _), (5, _)] ⟨rfl, rfl, trivial⟩ ?_
    refine WC.ret ?_
    refine WK.then_ret ?_
    clear k1 k2 k3 k6 k8
    refine WK.ret [_, _] rfl ⟨rfl, rfl, trivial⟩ ?_
    refine ⟨none, 0, 0, [], ?_, Ls.nil (by decide), (fun _ h => by simp at h), Sy.res_bad ?_, xW⟩
    rw [Sy.sE_mod (by have q := h7; simpa using q)]; rfl
    rw [Sy.sE_mod (by have q := h7; simpa using q)]; exact (by have q := h7; simpa using q)
  ·
    have p7 := (eq_t (not_f h7))
    have hc0 : Sy.chkE l = 0 := (by have q := h7; simpa using q)
    have hV := Sy.chk_vals hc0
    refine WC.skip ?_
    refine WK.then_normal (k2 _ _ ?_)
    refine WC.sub [(0, _), (1, _)] ⟨rfl, rfl, trivial⟩ ?_
    refine WC.seq (fun K9 k9 => ?_)
    refine WC.seq (fun K10 k10 => ?_)
    refine WC.region rfl ?_
    refine WL.yld rfl (blt rfl) rfl (Y.move rfl rfl) ?_
    refine WL.call rfl (blt rfl) rfl rfl rfl has20 rfl (pcheck_any _ _ _ _ _ (h_s.ext xW) (Sy.GoodP.ext g_s xW)) ?_
    rintro _ w11 ⟨rfl, x12⟩
    refine ⟨_, rfl, ?_⟩
    have xW := Ext.trans xW x12
    refine WL.yld rfl (blt rfl) rfl (Y.assign rfl rfl) ?_
    refine WL.nil ?_
    refine WK.then_normal (k10 _ _ ?_)
    refine WC.sub [(0, _), (1, _), (7, _)] ⟨rfl, rfl, rfl, trivial⟩ ?_
    refine WC.seq (fun K13 k13 => ?_)
    refine WC.region rfl ?_
    refine WL.yld rfl (blt rfl) rfl (Y.move rfl rfl) ?_
    refine WL.yld rfl (blt rfl) rfl (Y.neq rfl rfl rfl) ?_
    refine WL.nil ?_
    refine WK.then_normal (k13 _ _ ?_)
    refine WC.sub [(0, _), (1, _), (7, _), (20, _)] ⟨rfl, rfl, rfl, rfl, trivial⟩ ?_
    refine WC.cond rfl (fun h14 => ?_) (fun h14 => ?_)
    ·
      have p14 := (eq_f (not_t h14))
      refine WC.seq (fun K15 k15 => ?_)
      refine WC.region rfl ?_
      refine WL.yld rfl (blt rfl) rfl (Y.move rfl rfl) ?_
      refine WL.yld rfl (blt rfl) rfl (Y.assign rfl rfl) ?_
      refine WL.yld rfl (blt rfl) rfl (Y.assign rfl rfl) ?_
      refine WL.nil ?_
      refine WK.then_normal (k15 _ _ ?_)
      refine WC.sub [(4, _), (5, _)] ⟨rfl, rfl, trivial⟩ ?_
      refine WC.ret ?_
      refine WK.then_ret ?_
      clear k1 k2 k3 k6 k9 k10 k13 k15
      refine WK.ret [_, _] rfl ⟨rfl, rfl, trivial⟩ ?_
      refine ⟨none, 0, 0, [], ?_, Ls.nil (by decide), (fun _ h => by simp at h), Sy.res_bad ?_, xW⟩
      rw [Sy.sE_smp hc0]; rfl
      rw [Sy.sE_smp hc0]; exact (by have q := h14; simpa using q)
    ·
      have p14 := (eq_t (not_f h14))
      refine WC.skip ?_
      refine WK.then_normal (k9 _ _ ?_)
      refine WC.sub [(0, _), (1, _)] ⟨rfl, rfl, trivial⟩ ?_
      refine WC.seq (fun K16 k16 => ?_)
      refine WC.region rfl ?_
      refine WL.yld rfl (blt rfl) rfl (Y.move rfl rfl) ?_
      refine WL.call rfl (blt rfl) rfl rfl rfl has29 rfl (clone_any _ _ _ _ _ (h_s.ext xW) (by omega)) ?_
      rintro _ w17 ⟨v19, rfl, ow20, x18⟩
      refine ⟨_, rfl, ?_⟩
      have ow20 := OwnL.base_le ow20 xW.size
      have xW := Ext.trans xW x18
      refine WL.yld rfl (blt rfl) rfl (Y.assign rfl rfl) ?_
      refine WL.nil ?_
      refine WK.then_normal (k16 _ _ ?_)
      refine WC.sub [(0, _), (1, _), (8, _)] ⟨rfl, rfl, rfl, trivial⟩ ?_
      refine WC.seq (fun K21 k21 => ?_)
      refine WC.seq (fun K22 k22 => ?_)
      refine WC.region rfl ?_
      refine WL.yld rfl (blt rfl) rfl (Y.move rfl rfl) ?_
      obtain ⟨A23, n24, c25, rfl, hl26⟩ := OwnL.opened ow20 (fun _ => rfl) (by decide)
      have e_n24 := hl26.len
      try simp only [List.length_append, List.length_cons, List.length_nil, List.length_reverse, List.length_drop, List.length_take, List.length_map, List.length_replicate, List.length_set] at e_n24
      have z_n24 := hl26.nle
      refine WL.yld rfl (blt rfl) rfl (Y.lenSl rfl rfl rfl Tryd.underlying38 rfl) ?_
      refine WL.yld rfl (blt rfl) rfl (Y.move rfl rfl) ?_
      refine WL.nil ?_
      refine WK.then_normal (k22 _ _ ?_)
      refine WC.sub [(0, _), (1, _), (8, _), (25, _), (26, _)] ⟨rfl, rfl, rfl, rfl, rfl, trivial⟩ ?_
      refine WC.block ?_
      have kp : Kep w17 [] (Sy.Fin s 0) := Kep.nil_ (fun w => Sy.fin_zero _ w)
      have q_v19_kp : Out (.slice A23 n24 c25) [] := Out.empty
      refine WC.sub [(26, _), (8, _), (0, _), (1, _), (25, _)] ⟨rfl, rfl, rfl, rfl, rfl, trivial⟩ ?_
      refine WC.loopS 2 (fun mz Ed W' => ∃ i : Nat, ∃ v : Value, ∃ b : List Sy.P, ∃ B : List Nat, mz = n_s - i ∧ Ed = [(26, .int .i64 ((i : Nat) : Int)), (8, v)] ∧ Ext w W' ∧ OwnL W' w.heap.size 48 Sy.P.v 4 v (b) ∧ Kep W' B (Sy.Fin b i) ∧ Out v B ∧ (i ≤ n_s) ∧ (Sy.Mid l s b i)) _ ⟨0, _, s, [], rfl, rfl, xW, ow20, kp, q_v19_kp, (Nat.zero_le _), (Sy.mid_zero l s)⟩ ?_
      rintro _ _ w27 ⟨i, v, b, B, rfl, rfl, xW, ow_v, kp, q_v_kp, le_i, mb⟩
      refine WC.sub [(26, _), (8, _), (0, _), (1, _), (25, _)] ⟨rfl, rfl, rfl, rfl, rfl, trivial⟩ ?_
      have bl := mb.1
      refine WC.seq (fun K28 k28 => ?_)
      refine WC.region rfl ?_
      refine WL.yld rfl (blt rfl) rfl (Y.lss rfl rfl rfl) ?_
      refine WL.nil ?_
      refine WK.then_normal (k28 _ _ ?_)
      refine WC.seq (fun K29 k29 => ?_)
      refine WC.cond rfl (fun h30 => ?_) (fun h30 => ?_)
      ·
        have p30 := (dec_t h30)
        have mp := hP.m _ (bang_mem (show i < s.length from by omega))
        refine WC.skip ?_
        refine WK.then_normal (k29 _ _ ?_)
        refine WC.sub [(0, _), (1, _), (8, _), (25, _), (26, _)] ⟨rfl, rfl, rfl, rfl, rfl, trivial⟩ ?_
        refine WC.seq (fun K31 k31 => ?_)
        refine WC.block ?_
        refine WC.seq (fun K32 k32 => ?_)
        refine WC.region rfl ?_
        refine WL.yld rfl (blt rfl) rfl (Y.move rfl rfl) ?_
        refine WL.yld rfl (blt rfl) rfl (Y.assign rfl rfl) ?_
        refine WL.nil ?_
        refine WK.then_normal (k32 _ _ ?_)
        refine WC.sub [(0, _), (1, _), (8, _), (9, _), (25, _), (26, _)] ⟨rfl, rfl, rfl, rfl, rfl, rfl, trivial⟩ ?_
        refine WC.seq (fun K33 k33 => ?_)
        refine WC.region rfl ?_
        refine WL.yld rfl (blt rfl) rfl (Y.move rfl rfl) ?_
        refine WL.yld rfl (blt rfl) rfl (Y.move rfl rfl) ?_
        obtain ⟨A34, n35, c36, rfl, hl37⟩ := OwnL.opened ow_v (fun _ => rfl) (by decide)
        have e_n35 := hl37.len
        try simp only [List.length_append, List.length_cons, List.length_nil, List.length_reverse, List.length_drop, List.length_take, List.length_map, List.length_replicate, List.length_set] at e_n35
        have z_n35 := hl37.nle
        have b38 : i < n35 := by omega
        refine WL.yld rfl (blt rfl) rfl (Y.indexLs i hl37 rfl Tryd.underlying38 ti48 rfl rfl rfl b38) ?_
        refine WL.yld rfl (blt rfl) rfl (Y.fieldE rfl Tryd.underlying48 rfl ti46 (by decide) rfl) ?_
        refine WL.storeE (k := i) (off := 3) (f := Sy.P.v) (Sy.mkP b[i]! (.slice none 0 0) []) rfl rfl rfl rfl rfl rfl ti46 ow_v (fun _ => rfl) b38 (ble rfl) rfl rfl (fun w39 ow40 gr41 => ?_)
        have kp := Kep.grown kp gr41 q_v_kp
        have xW := Ext.grown xW gr41 (fun b hb => (OwnL.lt ow_v hb).1)
        have hl37 := OwnL.ls ow40 (fun _ => rfl) (by decide)
        refine WL.nil ?_
        refine WK.then_normal (k33 _ _ ?_)
        refine WC.sub [(0, _), (1, _), (8, _), (9, _), (25, _), (26, _)] ⟨rfl, rfl, rfl, rfl, rfl, rfl, trivial⟩ ?_
        refine WC.seq (fun K42 k42 => ?_)
        refine WC.region rfl ?_
        refine WL.yld rfl (blt rfl) rfl (Y.move rfl rfl) ?_
        refine WL.yld rfl (blt rfl) rfl (Y.move rfl rfl) ?_
        have b43 : i < n_s := by omega
        refine WL.yld rfl (blt rfl) rfl (Y.indexLs i (h_s.ext xW) rfl Tryd.underlying38 ti48 rfl rfl rfl b43) ?_
        refine WL.yld rfl (blt rfl) rfl (Y.fieldE rfl Tryd.underlying48 rfl ti46 (by decide) rfl) ?_
        refine WL.yld rfl (blt rfl) rfl (Y.load1 rfl Tryd.underlying46 rfl rfl (Ls.at_eq (h_s.ext xW) b43 rfl)) ?_
        refine WL.yld rfl (blt rfl) rfl (Y.lenSl rfl rfl rfl Tryd.underlying46 rfl) ?_
        refine WL.yld rfl (blt rfl) rfl (Y.move rfl rfl) ?_
        refine WL.nil ?_
        refine WK.then_normal (k42 _ _ ?_)
        refine WC.sub [(0, _), (1, _), (8, _), (9, _), (25, _), (26, _), (37, _), (38, _), (39, _)] ⟨rfl, rfl, rfl, rfl, rfl, rfl, rfl, rfl, rfl, trivial⟩ ?_
        refine WC.block ?_
        refine WC.sub [(39, _), (8, _), (0, _), (1, _), (9, _), (25, _), (26, _), (37, _), (38, _)] ⟨rfl, rfl, rfl, rfl, rfl, rfl, rfl, rfl, rfl, trivial⟩ ?_
        refine WC.loopS 2 (fun mz Ed W' => ∃ k : Nat, ∃ v1 : Value, ∃ u1 : Value, mz = s[i]!.n - k ∧ Ed = [(39, .int .i64 ((k : Nat) : Int)), (8, v1)] ∧ Ext w W' ∧ OwnL W' w.heap.size 48 Sy.P.v 4 v1 (b.set i (Sy.mkP b[i]! u1 ((s[i]!.l.take k).map (Sy.frm l)))) ∧ OwnL W' w.heap.size 9 Sy.sc 1 u1 ((s[i]!.l.take k).map (Sy.frm l)) ∧ Apart u1 v1 ∧ Kep W' B (Sy.Fin b i) ∧ Out v1 B ∧ Out u1 B ∧ (k ≤ s[i]!.n)) _ ⟨0, _, (.slice none 0 0), rfl, rfl, xW, ow40, OwnL.nil_, Apart.nil_l, kp, q_v_kp, Out.nil_, (Nat.zero_le _)⟩ ?_
        rintro _ _ w44 ⟨k, v1, u1, rfl, rfl, xW, ow_v1, ow_u1, d_u1_v1, kp, q_v1_kp, q_u1_kp, le_k⟩
        refine WC.sub [(39, _), (8, _), (0, _), (1, _), (9, _), (25, _), (26, _), (37, _), (38, _)] ⟨rfl, rfl, rfl, rfl, rfl, rfl, rfl, rfl, rfl, trivial⟩ ?_
        refine WC.seq (fun K45 k45 => ?_)
        refine WC.region rfl ?_
        refine WL.yld rfl (blt rfl) rfl (Y.lss rfl rfl rfl) ?_
        refine WL.nil ?_
        refine WK.then_normal (k45 _ _ ?_)
        refine WC.seq (fun K46 k46 => ?_)
        refine WC.cond rfl (fun h47 => ?_) (fun h47 => ?_)
        ·
          have p47 := (dec_t h47)
          refine WC.skip ?_
          refine WK.then_normal (k46 _ _ ?_)
          refine WC.sub [(0, _), (1, _), (8, _), (9, _), (25, _), (26, _), (37, _), (38, _), (39, _)] ⟨rfl, rfl, rfl, rfl, rfl, rfl, rfl, rfl, rfl, trivial⟩ ?_
          refine WC.seq (fun K48 k48 => ?_)
          refine WC.block ?_
          refine WC.seq (fun K49 k49 => ?_)
          refine WC.region rfl ?_
          have b50 : k < s[i]!.n := by omega
          refine WL.yld rfl (blt rfl) rfl (Y.indexLs k ((g_s _ (bang_mem (show i < s.length from by omega))).ext xW) rfl Tryd.underlying46 ti9 rfl rfl rfl b50) ?_
          refine WL.yld rfl (blt rfl) rfl (Y.load1 rfl Tryd.underlying9 rfl rfl (Ls.at_eq ((g_s _ (bang_mem (show i < s.length from by omega))).ext xW) b50 rfl)) ?_
          refine WL.yld rfl (blt rfl) rfl (Y.assign rfl rfl) ?_
          refine WL.nil ?_
          refine WK.then_normal (k49 _ _ ?_)
          refine WC.sub [(0, _), (1, _), (8, _), (9, _), (11, _), (25, _), (26, _), (37, _), (38, _), (39, _)] ⟨rfl, rfl, rfl, rfl, rfl, rfl, rfl, rfl, rfl, rfl, trivial⟩ ?_
          obtain ⟨A51, n52, c53, rfl, hl54⟩ := OwnL.opened ow_v1 (fun _ => rfl) (by decide)
          have e_n52 := hl54.len
          try simp only [List.length_append, List.length_cons, List.length_nil, List.length_reverse, List.length_drop, List.length_take, List.length_map, List.length_replicate, List.length_set] at e_n52
          have z_n52 := hl54.nle
          obtain ⟨A55, n56, c57, rfl, hl58⟩ := OwnL.opened ow_u1 (fun _ => rfl) (by decide)
          have e_n56 := hl58.len
          try simp only [List.length_append, List.length_cons, List.length_nil, List.length_reverse, List.length_drop, List.length_take, List.length_map, List.length_replicate, List.length_set] at e_n56
          have z_n56 := hl58.nle
          refine WC.regionX (fun W' => Ext w W') (.load 0 (.load 1 (.load 2 (.load 3 (.load 4 (.load 5 (.load 7 (.load 8 (.alt 6 (.alt 9 (.alt 10 (.alt 11 (.load 12 (.load 13 (.alt 14 (.fin) (.none)))) (.none)) (.none)) (.none)) (.alt 9 (.alt 6 (.alt 10 (.alt 11 (.load 12 (.load 13 (.alt 14 (.fin) (.none)))) (.none)) (.none)) (.alt 10 (.alt 6 (.alt 11 (.load 12 (.load 13 (.alt 14 (.fin) (.none)))) (.none)) (.none)) (.none))) (.none))))))))))) xW (by kernel_rfl) (by kernel_rfl) (fun w59 x60 => ?_)
          have kp := kp.ext x60
          have ow_v1 := ow_v1.ext x60
          have hl54 := hl54.ext x60
          have ow_u1 := ow_u1.ext x60
          have hl58 := hl58.ext x60
          have xW := Ext.trans xW x60
          refine WX.yld rfl rfl (blt rfl) rfl (Y.move rfl rfl) ?_
          refine WX.yld rfl rfl (blt rfl) rfl (Y.move rfl rfl) ?_
          refine WX.yld rfl rfl (blt rfl) rfl (Y.move rfl rfl) ?_
          refine WX.yld rfl rfl (blt rfl) rfl (Y.move rfl rfl) ?_
          have b61 : i < n52 := by omega
          refine WX.yld rfl rfl (blt rfl) rfl (Y.indexLs i hl54 rfl Tryd.underlying38 ti48 rfl rfl rfl b61) ?_
          refine WX.yld rfl rfl (blt rfl) rfl (Y.fieldE rfl Tryd.underlying48 rfl ti46 (by decide) rfl) ?_
          refine WX.yld rfl rfl (blt rfl) rfl (Y.move rfl rfl) ?_
          refine WX.yld rfl rfl (blt rfl) rfl (Y.move rfl rfl) ?_
          refine WX.alt ?_ ?_
          ·
            refine WX.yldL rfl rfl (blt rfl) rfl xW (Yld.cast (Y.load1 rfl Tryd.underlying46 rfl rfl (Ls.at_eq hl54 b61 rfl)) (Sy.stk_val (by omega))) ?_
            refine WX.call rfl rfl (blt rfl) rfl rfl rfl has26 rfl xW (framec_any _ _ _ _ _ _ (h_l.ext xW) (Sy.Good.ext g_l xW) hF hc0) ?_
            rintro _ w62 ⟨rfl, x63⟩
            refine ⟨_, rfl, ?_⟩
            have kp := kp.ext x63
            have ow_v1 := ow_v1.ext x63
            have hl54 := hl54.ext x63
            have ow_u1 := ow_u1.ext x63
            have hl58 := hl58.ext x63
            have xW := Ext.trans xW x63
            refine WX.run rfl rfl (blt rfl) rfl xW (Run.bslice (zs := [.string ⟨#[]⟩]) (cs := [_]) rfl Tryd.underlying46 ti9 rfl (ble rfl) (by kernel_rfl) rfl rfl) ?_
            rintro _ w65 ⟨g64, rfl, e66, x67, m68⟩
            have r_v1_g64 := ne_newO ow_v1 e66
            have r_u1_g64 := ne_newO ow_u1 e66
            have o_g64 := own_new xW e66
            have kp := kp.ext x67
            have ow_v1 := ow_v1.ext x67
            have hl54 := hl54.ext x67
            have ow_u1 := ow_u1.ext x67
            have hl58 := hl58.ext x67
            have xW := Ext.trans xW x67
            refine WX.run rfl rfl (blt rfl) rfl xW (Run.appendB (f := Sy.sc) (news := [Sy.frm l s[i]!.l[k]!]) rfl rfl rfl Tryd.underlying46 ti9 rfl (by decide) rfl ow_u1 (fun _ => rfl) Sy.sc_one m68 rfl xW.size (by have q0 := (show ((s[i]!.l.take k).map (Sy.frm l)).length ≤ 60 from by rw [List.length_map, List.length_take]; omega); first | omega | (simp only [List.length_append, List.length_cons, List.length_nil, List.length_take, List.length_drop, List.length_reverse]; omega)) (Nat.le_trans (show _ ≤ 140737488355328 from by have q0 := (show ((s[i]!.l.take k).map (Sy.frm l)).length ≤ 60 from by rw [List.length_map, List.length_take]; omega); first | omega | (simp only [List.length_append, List.length_cons, List.length_nil, List.length_take, List.length_drop, List.length_reverse]; omega)) (by decide)) ) ?_
            rintro v69 w70 ⟨ow71, gr72, nb73⟩
            have q_v69_kp := Out.app q_u1_kp kp nb73
            have kp := Kep.grown kp gr72 q_u1_kp
            have d_v1_v69 := (Apart.app d_u1_v1 nb73 ow_v1).symm
            have ow_v1 := OwnL.grown ow_v1 gr72 d_u1_v1
            have hl54 := OwnL.ls ow_v1 (fun _ => rfl) (by decide)
            have r_v69_g64 := ne_app nb73 r_u1_g64 m68
            have m68 := m68.grown gr72 r_u1_g64
            have xW := Ext.grown xW gr72 (fun b hb => (OwnL.lt ow_u1 hb).1)
            have b74 : i < n52 := by omega
            refine WX.yld rfl rfl (blt rfl) rfl (Y.indexLs i hl54 rfl Tryd.underlying38 ti48 rfl rfl rfl b74) ?_
            refine WX.yld rfl rfl (blt rfl) rfl (Y.fieldE rfl Tryd.underlying48 rfl ti46 (by decide) rfl) ?_
            obtain ⟨A75, n76, c77, rfl, hl78⟩ := OwnL.opened ow71 (fun _ => rfl) (by decide)
            have e_n76 := hl78.len
            try simp only [List.length_append, List.length_cons, List.length_nil, List.length_reverse, List.length_drop, List.length_take, List.length_map, List.length_replicate, List.length_set] at e_n76
            have z_n76 := hl78.nle
            refine WX.storeE (k := i) (off := 3) (f := Sy.P.v) (Sy.mkP _ (.slice A75 n76 c77) (((s[i]!.l.take k).map (Sy.frm l)) ++ [Sy.frm l s[i]!.l[k]!])) rfl xW rfl rfl rfl rfl rfl rfl ti46 ow_v1 (fun _ => rfl) b74 (ble rfl) rfl rfl (fun w79 ow80 gr81 => ?_)
            have kp := Kep.grown kp gr81 q_v1_kp
            have m68 := m68.grown gr81 r_v1_g64
            have ow71 := OwnL.grown ow71 gr81 d_v1_v69
            have hl78 := OwnL.ls ow71 (fun _ => rfl) (by decide)
            have xW := Ext.grown xW gr81 (fun b hb => (OwnL.lt ow_v1 hb).1)
            have hl54 := OwnL.ls ow80 (fun _ => rfl) (by decide)
            refine WX.nil xW ?_
            refine WK.in_normal ?_
            refine WK.then_normal (k48 _ _ ?_)
            refine WC.sub [(0, _), (1, _), (8, _), (9, _), (25, _), (26, _), (37, _), (38, _), (39, _)] ⟨rfl, rfl, rfl, rfl, rfl, rfl, rfl, rfl, rfl, trivial⟩ ?_
            refine WC.region rfl ?_
            refine WL.yld rfl (blt rfl) rfl (Y.add rfl rfl rfl (wrap_i64 (by first | omega | (dsimp only; omega)))) ?_
            refine WL.yld rfl (blt rfl) rfl (Y.move rfl rfl) ?_
            refine WL.nil ?_
            refine WK.roundS _ [(39, .int .i64 (((k + 1) : Nat) : Int)), (8, (.slice A51 n52 c53))] ⟨rfl, rfl, rfl, rfl, rfl, rfl, rfl, rfl, rfl, trivial⟩ ?_ ⟨(k + 1), (.slice A51 n52 c53), (.slice A75 n76 c77), rfl, rfl, xW, (by have q := ow80; rw [Sy.set_set (by omega)] at q; rw [Sy.cur_step (by omega)]; exact q), (by rw [Sy.cur_step (by omega)]; exact ow71), d_v1_v69.symm, kp, q_v1_kp, q_v69_kp, (by omega)⟩
            show _ - (k + 1) < _ - k; omega
          refine WX.call rfl rfl (blt rfl) rfl rfl rfl has26 rfl xW (framec_any _ _ _ _ _ _ (h_l.ext xW) (Sy.Good.ext g_l xW) hF hc0) ?_
          rintro _ w82 ⟨rfl, x83⟩
          refine ⟨_, rfl, ?_⟩
          have kp := kp.ext x83
          have ow_v1 := ow_v1.ext x83
          have hl54 := hl54.ext x83
          have ow_u1 := ow_u1.ext x83
          have hl58 := hl58.ext x83
          have xW := Ext.trans xW x83
          refine WX.alt ?_ ?_
          ·
            refine WX.yldL rfl rfl (blt rfl) rfl xW (Yld.cast (Y.load1 rfl Tryd.underlying46 rfl rfl (Ls.at_eq hl54 b61 rfl)) (Sy.stk_val (by omega))) ?_
            refine WX.run rfl rfl (blt rfl) rfl xW (Run.bslice (zs := [.string ⟨#[]⟩]) (cs := [_]) rfl Tryd.underlying46 ti9 rfl (ble rfl) (by kernel_rfl) rfl rfl) ?_
            rintro _ w85 ⟨g84, rfl, e86, x87, m88⟩
            have r_v1_g84 := ne_newO ow_v1 e86
            have r_u1_g84 := ne_newO ow_u1 e86
            have o_g84 := own_new xW e86
            have kp := kp.ext x87
            have ow_v1 := ow_v1.ext x87
            have hl54 := hl54.ext x87
            have ow_u1 := ow_u1.ext x87
            have hl58 := hl58.ext x87
            have xW := Ext.trans xW x87
            refine WX.run rfl rfl (blt rfl) rfl xW (Run.appendB (f := Sy.sc) (news := [Sy.frm l s[i]!.l[k]!]) rfl rfl rfl Tryd.underlying46 ti9 rfl (by decide) rfl ow_u1 (fun _ => rfl) Sy.sc_one m88 rfl xW.size (by have q0 := (show ((s[i]!.l.take k).map (Sy.frm l)).length ≤ 60 from by rw [List.length_map, List.length_take]; omega); first | omega | (simp only [List.length_append, List.length_cons, List.length_nil, List.length_take, List.length_drop, List.length_reverse]; omega)) (Nat.le_trans (show _ ≤ 140737488355328 from by have q0 := (show ((s[i]!.l.take k).map (Sy.frm l)).length ≤ 60 from by rw [List.length_map, List.length_take]; omega); first | omega | (simp only [List.length_append, List.length_cons, List.length_nil, List.length_take, List.length_drop, List.length_reverse]; omega)) (by decide)) ) ?_
            rintro v89 w90 ⟨ow91, gr92, nb93⟩
            have q_v89_kp := Out.app q_u1_kp kp nb93
            have kp := Kep.grown kp gr92 q_u1_kp
            have d_v1_v89 := (Apart.app d_u1_v1 nb93 ow_v1).symm
            have ow_v1 := OwnL.grown ow_v1 gr92 d_u1_v1
            have hl54 := OwnL.ls ow_v1 (fun _ => rfl) (by decide)
            have r_v89_g84 := ne_app nb93 r_u1_g84 m88
            have m88 := m88.grown gr92 r_u1_g84
            have xW := Ext.grown xW gr92 (fun b hb => (OwnL.lt ow_u1 hb).1)
            have b94 : i < n52 := by omega
            refine WX.yld rfl rfl (blt rfl) rfl (Y.indexLs i hl54 rfl Tryd.underlying38 ti48 rfl rfl rfl b94) ?_
            refine WX.yld rfl rfl (blt rfl) rfl (Y.fieldE rfl Tryd.underlying48 rfl ti46 (by decide) rfl) ?_
            obtain ⟨A95, n96, c97, rfl, hl98⟩ := OwnL.opened ow91 (fun _ => rfl) (by decide)
            have e_n96 := hl98.len
            try simp only [List.length_append, List.length_cons, List.length_nil, List.length_reverse, List.length_drop, List.length_take, List.length_map, List.length_replicate, List.length_set] at e_n96
            have z_n96 := hl98.nle
            refine WX.storeE (k := i) (off := 3) (f := Sy.P.v) (Sy.mkP _ (.slice A95 n96 c97) (((s[i]!.l.take k).map (Sy.frm l)) ++ [Sy.frm l s[i]!.l[k]!])) rfl xW rfl rfl rfl rfl rfl rfl ti46 ow_v1 (fun _ => rfl) b94 (ble rfl) rfl rfl (fun w99 ow100 gr101 => ?_)
            have kp := Kep.grown kp gr101 q_v1_kp
            have m88 := m88.grown gr101 r_v1_g84
            have ow91 := OwnL.grown ow91 gr101 d_v1_v89
            have hl98 := OwnL.ls ow91 (fun _ => rfl) (by decide)
            have xW := Ext.grown xW gr101 (fun b hb => (OwnL.lt ow_v1 hb).1)
            have hl54 := OwnL.ls ow100 (fun _ => rfl) (by decide)
            refine WX.nil xW ?_
            refine WK.in_normal ?_
            refine WK.then_normal (k48 _ _ ?_)
            refine WC.sub [(0, _), (1, _), (8, _), (9, _), (25, _), (26, _), (37, _), (38, _), (39, _)] ⟨rfl, rfl, rfl, rfl, rfl, rfl, rfl, rfl, rfl, trivial⟩ ?_
            refine WC.region rfl ?_
            refine WL.yld rfl (blt rfl) rfl (Y.add rfl rfl rfl (wrap_i64 (by first | omega | (dsimp only; omega)))) ?_
            refine WL.yld rfl (blt rfl) rfl (Y.move rfl rfl) ?_
            refine WL.nil ?_
            refine WK.roundS _ [(39, .int .i64 (((k + 1) : Nat) : Int)), (8, (.slice A51 n52 c53))] ⟨rfl, rfl, rfl, rfl, rfl, rfl, rfl, rfl, rfl, trivial⟩ ?_ ⟨(k + 1), (.slice A51 n52 c53), (.slice A95 n96 c97), rfl, rfl, xW, (by have q := ow100; rw [Sy.set_set (by omega)] at q; rw [Sy.cur_step (by omega)]; exact q), (by rw [Sy.cur_step (by omega)]; exact ow91), d_v1_v89.symm, kp, q_v1_kp, q_v89_kp, (by omega)⟩
            show _ - (k + 1) < _ - k; omega
          refine WX.run rfl rfl (blt rfl) rfl xW (Run.bslice (zs := [.string ⟨#[]⟩]) (cs := [_]) rfl Tryd.underlying46 ti9 rfl (ble rfl) (by kernel_rfl) rfl rfl) ?_
          rintro _ w103 ⟨g102, rfl, e104, x105, m106⟩
          have r_v1_g102 := ne_newO ow_v1 e104
          have r_u1_g102 := ne_newO ow_u1 e104
          have o_g102 := own_new xW e104
          have kp := kp.ext x105
          have ow_v1 := ow_v1.ext x105
          have hl54 := hl54.ext x105
          have ow_u1 := ow_u1.ext x105
          have hl58 := hl58.ext x105
          have xW := Ext.trans xW x105
          refine WX.yldL rfl rfl (blt rfl) rfl xW (Yld.cast (Y.load1 rfl Tryd.underlying46 rfl rfl (Ls.at_eq hl54 b61 rfl)) (Sy.stk_val (by omega))) ?_
          refine WX.run rfl rfl (blt rfl) rfl xW (Run.appendB (f := Sy.sc) (news := [Sy.frm l s[i]!.l[k]!]) rfl rfl rfl Tryd.underlying46 ti9 rfl (by decide) rfl ow_u1 (fun _ => rfl) Sy.sc_one m106 rfl xW.size (by have q0 := (show ((s[i]!.l.take k).map (Sy.frm l)).length ≤ 60 from by rw [List.length_map, List.length_take]; omega); first | omega | (simp only [List.length_append, List.length_cons, List.length_nil, List.length_take, List.length_drop, List.length_reverse]; omega)) (Nat.le_trans (show _ ≤ 140737488355328 from by have q0 := (show ((s[i]!.l.take k).map (Sy.frm l)).length ≤ 60 from by rw [List.length_map, List.length_take]; omega); first | omega | (simp only [List.length_append, List.length_cons, List.length_nil, List.length_take, List.length_drop, List.length_reverse]; omega)) (by decide)) ) ?_
          rintro v107 w108 ⟨ow109, gr110, nb111⟩
          have q_v107_kp := Out.app q_u1_kp kp nb111
          have kp := Kep.grown kp gr110 q_u1_kp
          have d_v1_v107 := (Apart.app d_u1_v1 nb111 ow_v1).symm
          have ow_v1 := OwnL.grown ow_v1 gr110 d_u1_v1
          have hl54 := OwnL.ls ow_v1 (fun _ => rfl) (by decide)
          have r_v107_g102 := ne_app nb111 r_u1_g102 m106
          have m106 := m106.grown gr110 r_u1_g102
          have xW := Ext.grown xW gr110 (fun b hb => (OwnL.lt ow_u1 hb).1)
          have b112 : i < n52 := by omega
          refine WX.yld rfl rfl (blt rfl) rfl (Y.indexLs i hl54 rfl Tryd.underlying38 ti48 rfl rfl rfl b112) ?_
          refine WX.yld rfl rfl (blt rfl) rfl (Y.fieldE rfl Tryd.underlying48 rfl ti46 (by decide) rfl) ?_
          obtain ⟨A113, n114, c115, rfl, hl116⟩ := OwnL.opened ow109 (fun _ => rfl) (by decide)
          have e_n114 := hl116.len
          try simp only [List.length_append, List.length_cons, List.length_nil, List.length_reverse, List.length_drop, List.length_take, List.length_map, List.length_replicate, List.length_set] at e_n114
          have z_n114 := hl116.nle
          refine WX.storeE (k := i) (off := 3) (f := Sy.P.v) (Sy.mkP _ (.slice A113 n114 c115) (((s[i]!.l.take k).map (Sy.frm l)) ++ [Sy.frm l s[i]!.l[k]!])) rfl xW rfl rfl rfl rfl rfl rfl ti46 ow_v1 (fun _ => rfl) b112 (ble rfl) rfl rfl (fun w117 ow118 gr119 => ?_)
          have kp := Kep.grown kp gr119 q_v1_kp
          have m106 := m106.grown gr119 r_v1_g102
          have ow109 := OwnL.grown ow109 gr119 d_v1_v107
          have hl116 := OwnL.ls ow109 (fun _ => rfl) (by decide)
          have xW := Ext.grown xW gr119 (fun b hb => (OwnL.lt ow_v1 hb).1)
          have hl54 := OwnL.ls ow118 (fun _ => rfl) (by decide)
          refine WX.nil xW ?_
          refine WK.in_normal ?_
          refine WK.then_normal (k48 _ _ ?_)
          refine WC.sub [(0, _), (1, _), (8, _), (9, _), (25, _), (26, _), (37, _), (38, _), (39, _)] ⟨rfl, rfl, rfl, rfl, rfl, rfl, rfl, rfl, rfl, trivial⟩ ?_
          refine WC.region rfl ?_
          refine WL.yld rfl (blt rfl) rfl (Y.add rfl rfl rfl (wrap_i64 (by first | omega | (dsimp only; omega)))) ?_
          refine WL.yld rfl (blt rfl) rfl (Y.move rfl rfl) ?_
          refine WL.nil ?_
          refine WK.roundS _ [(39, .int .i64 (((k + 1) : Nat) : Int)), (8, (.slice A51 n52 c53))] ⟨rfl, rfl, rfl, rfl, rfl, rfl, rfl, rfl, rfl, trivial⟩ ?_ ⟨(k + 1), (.slice A51 n52 c53), (.slice A113 n114 c115), rfl, rfl, xW, (by have q := ow118; rw [Sy.set_set (by omega)] at q; rw [Sy.cur_step (by omega)]; exact q), (by rw [Sy.cur_step (by omega)]; exact ow109), d_v1_v107.symm, kp, q_v1_kp, q_v107_kp, (by omega)⟩
          show _ - (k + 1) < _ - k; omega
        ·
          have p47 := (dec_f h47)
          obtain ⟨A120, n121, c122, rfl, hl123⟩ := OwnL.opened ow_u1 (fun _ => rfl) (by decide)
          have e_n121 := hl123.len
          try simp only [List.length_append, List.length_cons, List.length_nil, List.length_reverse, List.length_drop, List.length_take, List.length_map, List.length_replicate, List.length_set] at e_n121
          have z_n121 := hl123.nle
          refine WC.exit ?_
          refine WK.then_exit ?_
          refine WK.then_exit ?_
          refine WK.in_exit ?_
          refine WK.in_normal ?_
          refine WK.then_normal (k31 _ _ ?_)
          refine WC.sub [(0, _), (1, _), (8, _), (25, _), (26, _)] ⟨rfl, rfl, rfl, rfl, rfl, trivial⟩ ?_
          refine WC.region rfl ?_
          refine WL.yld rfl (blt rfl) rfl (Y.add rfl rfl rfl (wrap_i64 (by first | omega | (dsimp only; omega)))) ?_
          refine WL.yld rfl (blt rfl) rfl (Y.move rfl rfl) ?_
          refine WL.nil ?_
          refine WK.roundS _ [(26, .int .i64 (((i + 1) : Nat) : Int)), (8, v1)] ⟨rfl, rfl, rfl, rfl, rfl, trivial⟩ ?_ ⟨(i + 1), v1, (b.set i (Sy.mkP b[i]! (.slice A120 n121 c122) ((s[i]!.l.take k).map (Sy.frm l)))), (addB (.slice A120 n121 c122) B), rfl, rfl, xW, ow_v1, (Kep.cons kp ow_u1 (fun w2 h1 h2 => Sy.fin_set (by omega) h1 (OwnL.ls h2 (fun _ => rfl) (by decide)))), (Out.add q_v1_kp d_u1_v1.symm), (by omega), (Sy.mid_step mb (by omega) (Sy.cur_all (by omega)))⟩
          show _ - (i + 1) < _ - i; omega
      ·
        have p30 := (dec_f h30)
        refine WC.exit ?_
        refine WK.then_exit ?_
        refine WK.then_exit ?_
        refine WK.in_exit ?_
        refine WK.then_normal (k21 _ _ ?_)
        refine WC.sub [(8, _)] ⟨rfl, trivial⟩ ?_
        refine WC.seq (fun K124 k124 => ?_)
        refine WC.region rfl ?_
        refine WL.yld rfl (blt rfl) rfl (Y.move rfl rfl) ?_
        refine WL.yld rfl (blt rfl) rfl (Y.assign rfl rfl) ?_
        refine WL.yld rfl (blt rfl) rfl (Y.assign rfl rfl) ?_
        refine WL.nil ?_
        refine WK.then_normal (k124 _ _ ?_)
        refine WC.sub [(4, _), (5, _)] ⟨rfl, rfl, trivial⟩ ?_
        refine WC.ret ?_
        clear k1 k2 k3 k6 k9 k10 k13 k16 k21 k22 k28 k29 k124
        refine WK.ret [_, _] rfl ⟨rfl, rfl, trivial⟩ ?_
        obtain ⟨A9, n9, c9, rfl, hl9⟩ := OwnL.opened ow_v (fun _ => rfl) (by decide)
        have bl : b.length = i := by omega
        have hz : Sy.sE l s = 0 := by rw [Sy.sE_smp hc0]; exact (by have q := h14; simpa using q)
        refine ⟨A9, n9, c9, b, ?_, hl9, Sy.fin_good (by rw [bl]; exact kp.at_), Sy.res_ok hz (Sy.mid_end mb (by omega)), xW⟩
        rw [hz]; rfl
end Q
end SyW

end Go.Proofs.YtghfncgciaiofaaDoor
