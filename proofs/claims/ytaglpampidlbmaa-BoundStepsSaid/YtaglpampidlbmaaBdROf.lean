/- Contracts of the reference: Of, Consistent. Conditions: what each theorem states. -/
import Derived.Test.YtaglpampidlbmaaBdM5
import Derived.Test.YtaglpampidlbmaaBdM3
namespace Go.Proofs.Ytaglpampidlbmaa
open Go Go.Eng Go.RowKit
set_option linter.unusedVariables false
set_option linter.unusedSimpArgs false
namespace BdW
open N RL NumF LB GR CkW CkW.P CkW.K CkW.R CkW.RP B OF MY RP_ RE RI RL_
namespace RO
theorem ti3 : TI Try.prog 3 (.int .i64 0) 1 8 := TI.mk (by kernel_rfl)
theorem ti29 : TI Try.prog 29 (.agg #[.int .i64 0, .int .i64 0]) 2 16 := TI.mk (by kernel_rfl)
theorem ti49 : TI Try.prog 49 (.agg #[.int .i64 0, .int .i64 0]) 2 16 := TI.mk (by kernel_rfl)
theorem has29 : Has Try.prog 29 := ⟨_, Try.func29, rfl, by kernel_rfl⟩
theorem has30 : Has Try.prog 30 := ⟨_, Try.func30, rfl, by kernel_rfl⟩
theorem has31 : Has Try.prog 31 := ⟨_, Try.func31, rfl, by kernel_rfl⟩
theorem has32 : Has Try.prog 32 := ⟨_, Try.func32, rfl, by kernel_rfl⟩
theorem has33 : Has Try.prog 33 := ⟨_, Try.func33, rfl, by kernel_rfl⟩
theorem has34 : Has Try.prog 34 := ⟨_, Try.func34, rfl, by kernel_rfl⟩
theorem has35 : Has Try.prog 35 := ⟨_, Try.func35, rfl, by kernel_rfl⟩
theorem has36 : Has Try.prog 36 := ⟨_, Try.func36, rfl, by kernel_rfl⟩
theorem pl29 : PL Try.prog 29 [.int .i64 0, .int .i64 0] [(0, 1), (1, 1)] := PL.mk (zero := [.int .i64 0, .int .i64 0]) ti29 Try.underlying29 (by kernel_rfl)
theorem pl49 : PL Try.prog 49 [.int .i64 0, .int .i64 0] [(0, 1), (1, 1)] := PL.mk (zero := [.int .i64 0, .int .i64 0]) ti49 Try.underlying49 (by kernel_rfl)
theorem rof_any (A_d : Option Addr) (n_d c_d : Nat) (d : List Ck.Dom) (A_l : Option Addr) (n_l c_l : Nat) (l : List Ck.Snap) (id : Int) (at_ : Int) (w : World) (h_d : Ls w A_d n_d c_d Ck.Dom.c 2 d) (h_l : Ls w A_l n_l c_l Ck.Snap.c 5 l) (hl : n_l ≤ 10) :
    Calls Try.prog 12 #[.slice A_d n_d c_d, .slice A_l n_l c_l, .int .i64 id, .int .i64 at_] w fun e w' => e = .returned (Bd.ofV (Bd.rofF d l id at_)) ∧ Ext w w' := by
  have xW := Ext.refl w
  have e_d := h_d.len
  have z_d := h_d.nle
  have e_l := h_l.len
  have z_l := h_l.nle
  have hfar : Bd.rF = 1152921504606846976 := rfl
  refine calls_of_WC (args := [.slice A_d n_d c_d, .slice A_l n_l c_l, .int .i64 id, .int .i64 at_]) Try.func12 rfl rfl (ble rfl) ?_
  refine WC.seq (fun K1 k1 => ?_)
  refine WC.region rfl ?_
  refine WL.alloc rfl (blt rfl) rfl rfl ti29 rfl ?_
  intro g2 w3 e4 x5 m6
  have o_g2 := own_new xW e4
  have xW := Ext.trans xW x5
  refine WL.yld rfl (blt rfl) rfl (Y.assign rfl rfl) ?_
  refine WL.nil ?_
  refine WK.then_normal (k1 _ _ ?_)
  refine WC.sub [(0, _), (1, _), (2, _), (3, _), (8, _)] ⟨rfl, rfl, rfl, rfl, rfl, trivial⟩ ?_
  refine WC.seq (fun K7 k7 => ?_)
  refine WC.region rfl ?_
  refine WL.yld rfl (blt rfl) rfl (Y.move rfl rfl) ?_
  refine WL.yld rfl (blt rfl) rfl (Y.move rfl rfl) ?_
  refine WL.call rfl (blt rfl) rfl rfl rfl has29 rfl (rcheck_any _ _ _ _ _ _ _ _ _ (h_d.ext xW) (h_l.ext xW)) ?_
  rintro _ w8 ⟨rfl, x9⟩
  refine ⟨_, rfl, ?_⟩
  have m6 := m6.ext x9
  have xW := Ext.trans xW x9
  refine WL.yld rfl (blt rfl) rfl (Y.assign rfl rfl) ?_
  refine WL.nil ?_
  refine WK.then_normal (k7 _ _ ?_)
  refine WC.sub [(0, _), (1, _), (2, _), (3, _), (8, _), (10, _)] ⟨rfl, rfl, rfl, rfl, rfl, rfl, trivial⟩ ?_
  refine WC.seq (fun K10 k10 => ?_)
  refine WC.seq (fun K11 k11 => ?_)
  refine WC.region rfl ?_
  refine WL.yld rfl (blt rfl) rfl (Y.move rfl rfl) ?_
  refine WL.yld rfl (blt rfl) rfl (Y.neq rfl rfl rfl) ?_
  refine WL.nil ?_
  refine WK.then_normal (k11 _ _ ?_)
  refine WC.sub [(0, _), (1, _), (2, _), (3, _), (8, _), (10, _), (22, _)] ⟨rfl, rfl, rfl, rfl, rfl, rfl, rfl, trivial⟩ ?_
  refine WC.cond rfl (fun h12 => ?_) (fun h12 => ?_)
  ·
    have p12 := (eq_f (not_t h12))
    refine WC.seq (fun K13 k13 => ?_)
    refine WC.region rfl ?_
    refine WL.yld rfl (blt rfl) rfl (Y.build (cells := [_, _]) rfl pl29 rfl rfl) ?_
    refine WL.yld rfl (blt rfl) rfl (Y.move rfl rfl) ?_
    refine WL.store (cs' := [_, _]) rfl rfl rfl rfl rfl rfl ti29 m6 (ble rfl) rfl rfl (fun w14 on15 m16 => ?_)
    have xW := Ext.only xW on15 o_g2
    refine WL.yld rfl (blt rfl) rfl (Y.assign rfl rfl) ?_
    refine WL.nil ?_
    refine WK.then_normal (k13 _ _ ?_)
    refine WC.sub [(8, _), (9, _)] ⟨rfl, rfl, trivial⟩ ?_
    refine WC.ret ?_
    refine WK.then_ret ?_
    clear k1 k7 k10 k11 k13
    refine WK.ret [_, _] rfl ⟨⟨_, rfl, run_loadVar_blk Try.underlying29 rfl ti29 m16⟩, rfl, trivial⟩ ?_
    refine ⟨?_, xW⟩
    simp only [Bd.rofF, h12, Bool.false_eq_true, if_true, if_false]
    rfl
  ·
    have p12 := (eq_t (not_f h12))
    have ck : Ck.checkF d l = 0 := by simpa using h12
    refine WC.skip ?_
    refine WK.then_normal (k10 _ _ ?_)
    refine WC.sub [(0, _), (1, _), (2, _), (3, _), (8, _)] ⟨rfl, rfl, rfl, rfl, rfl, trivial⟩ ?_
    refine WC.seq (fun K17 k17 => ?_)
    refine WC.region rfl ?_
    refine WL.yld rfl (blt rfl) rfl (Y.move rfl rfl) ?_
    refine WL.yld rfl (blt rfl) rfl (Y.move rfl rfl) ?_
    refine WL.call rfl (blt rfl) rfl rfl rfl has30 rfl (rppm_any _ _ _ _ _ _ (h_d.ext xW)) ?_
    rintro _ w18 ⟨rfl, x19⟩
    refine ⟨_, rfl, ?_⟩
    have m6 := m6.ext x19
    have xW := Ext.trans xW x19
    refine WL.yld rfl (blt rfl) rfl (Y.move rfl rfl) ?_
    refine WL.yld rfl (blt rfl) rfl (Y.extract rfl rfl rfl) ?_
    refine WL.yld rfl (blt rfl) rfl (Y.extract rfl rfl rfl) ?_
    refine WL.yld rfl (blt rfl) rfl (Y.assign rfl rfl) ?_
    refine WL.yld rfl (blt rfl) rfl (Y.assign rfl rfl) ?_
    refine WL.nil ?_
    refine WK.then_normal (k17 _ _ ?_)
    refine WC.sub [(0, _), (1, _), (2, _), (3, _), (8, _), (12, _)] ⟨rfl, rfl, rfl, rfl, rfl, rfl, trivial⟩ ?_
    refine WC.seq (fun K20 k20 => ?_)
    refine WC.seq (fun K21 k21 => ?_)
    refine WC.region rfl ?_
    refine WL.yld rfl (blt rfl) rfl (Y.move rfl rfl) ?_
    refine WL.yld rfl (blt rfl) rfl (Y.not rfl rfl) ?_
    refine WL.nil ?_
    refine WK.then_normal (k21 _ _ ?_)
    refine WC.sub [(0, _), (1, _), (2, _), (3, _), (8, _), (32, _)] ⟨rfl, rfl, rfl, rfl, rfl, rfl, trivial⟩ ?_
    refine WC.cond rfl (fun h22 => ?_) (fun h22 => ?_)
    ·
      refine WC.seq (fun K23 k23 => ?_)
      refine WC.region rfl ?_
      refine WL.yld rfl (blt rfl) rfl (Y.build (cells := [_, _]) rfl pl29 rfl rfl) ?_
      refine WL.store (cs' := [_, _]) rfl rfl rfl rfl rfl rfl ti29 m6 (ble rfl) rfl rfl (fun w24 on25 m26 => ?_)
      have xW := Ext.only xW on25 o_g2
      refine WL.yld rfl (blt rfl) rfl (Y.assign rfl rfl) ?_
      refine WL.nil ?_
      refine WK.then_normal (k23 _ _ ?_)
      refine WC.sub [(8, _), (9, _)] ⟨rfl, rfl, trivial⟩ ?_
      refine WC.ret ?_
      refine WK.then_ret ?_
      clear k1 k7 k10 k11 k17 k20 k21 k23
      refine WK.ret [_, _] rfl ⟨⟨_, rfl, run_loadVar_blk Try.underlying29 rfl ti29 m26⟩, rfl, trivial⟩ ?_
      refine ⟨?_, xW⟩
      simp only [Bd.rofF, h12, h22, Bool.false_eq_true, if_true, if_false]
      rfl
    ·
      have hq : (Ck.ppmF d id).2 = true := by simpa using h22
      rw [Bd.ppm_snd ck] at hq
      have hid := Ck.idx_some d id 0 (of_decide_eq_true hq)
      refine WC.skip ?_
      refine WK.then_normal (k20 _ _ ?_)
      refine WC.sub [(0, _), (1, _), (2, _), (3, _), (8, _)] ⟨rfl, rfl, rfl, rfl, rfl, trivial⟩ ?_
      refine WC.seq (fun K27 k27 => ?_)
      refine WC.seq (fun K28 k28 => ?_)
      refine WC.region rfl ?_
      refine WL.yld rfl (blt rfl) rfl (Y.move rfl rfl) ?_
      refine WL.yld rfl (blt rfl) rfl (Y.lss rfl rfl rfl) ?_
      refine WL.yld rfl (blt rfl) rfl (Y.move rfl rfl) ?_
      refine WL.yldG rfl (blt rfl) rfl rfl rfl (fun hb => Y.move rfl rfl) ?_
      refine WL.yldG rfl (blt rfl) rfl rfl rfl (fun hb => Y.gtr rfl (evg rfl hb) rfl) ?_
      refine WL.yld rfl (blt rfl) rfl (Y.or rfl rfl rfl rfl) ?_
      refine WL.nil ?_
      refine WK.then_normal (k28 _ _ ?_)
      refine WC.sub [(0, _), (1, _), (2, _), (3, _), (8, _), (39, _)] ⟨rfl, rfl, rfl, rfl, rfl, rfl, trivial⟩ ?_
      refine WC.cond rfl (fun h29 => ?_) (fun h29 => ?_)
      ·
        have p29 := ((or_t h29).imp (fun h => (dec_t h)) (fun h => (dec_t h)))
        refine WC.seq (fun K30 k30 => ?_)
        refine WC.region rfl ?_
        refine WL.yld rfl (blt rfl) rfl (Y.build (cells := [_, _]) rfl pl29 rfl rfl) ?_
        refine WL.store (cs' := [_, _]) rfl rfl rfl rfl rfl rfl ti29 m6 (ble rfl) rfl rfl (fun w31 on32 m33 => ?_)
        have xW := Ext.only xW on32 o_g2
        refine WL.yld rfl (blt rfl) rfl (Y.assign rfl rfl) ?_
        refine WL.nil ?_
        refine WK.then_normal (k30 _ _ ?_)
        refine WC.sub [(8, _), (9, _)] ⟨rfl, rfl, trivial⟩ ?_
        refine WC.ret ?_
        refine WK.then_ret ?_
        clear k1 k7 k10 k11 k17 k20 k21 k27 k28 k30
        refine WK.ret [_, _] rfl ⟨⟨_, rfl, run_loadVar_blk Try.underlying29 rfl ti29 m33⟩, rfl, trivial⟩ ?_
        refine ⟨?_, xW⟩
        simp only [Bd.rofF, h12, h22, h29, Bool.false_eq_true, if_true, if_false]
        rfl
      ·
        have p29 := (And.intro (dec_f (or_f h29).1) (dec_f (or_f h29).2))
        have ha : 0 ≤ at_ ∧ at_ ≤ 1000000000000 := by omega
        have hm1 : ∀ k ∈ ([(id, at_)] : List Bd.Key), (∃ x ∈ d, x.id = k.1) ∧ 0 ≤ k.2 ∧ k.2 ≤ 1000000000000 := Bd.one_key hid ha
        have gd := Bd.good_of ck
        have hfew := gd.few
        have pg := Bd.rpts_pg ck (m := [(id, at_)]) hm1
        have psm : (Bd.rpts d l [(id, at_)]).length ≤ 3 * l.length + 2 := Nat.le_trans (Bd.rpts_small ck) (by simp)
        refine WC.skip ?_
        refine WK.then_normal (k27 _ _ ?_)
        refine WC.sub [(0, _), (1, _), (2, _), (3, _), (8, _)] ⟨rfl, rfl, rfl, rfl, rfl, trivial⟩ ?_
        refine WC.seq (fun K34 k34 => ?_)
        refine WC.region rfl ?_
        refine WL.yld rfl (blt rfl) rfl (Y.move rfl rfl) ?_
        refine WL.yld rfl (blt rfl) rfl (Y.move rfl rfl) ?_
        refine WL.yld rfl (blt rfl) rfl (Y.move rfl rfl) ?_
        refine WL.yld rfl (blt rfl) rfl (Y.move rfl rfl) ?_
        refine WL.yld rfl (blt rfl) rfl (Y.build (cells := [_, _]) rfl pl49 rfl rfl) ?_
        refine WL.bslice (zs := [.int .i64 0, .int .i64 0]) (cs := [_, _]) rfl (blt rfl) rfl rfl Try.underlying45 ti49 rfl (ble rfl) (by kernel_rfl) rfl rfl ?_
        intro g35 w36 e37 x38 m39
        have n_g2_g35 := ne_new m6 e37
        have o_g35 := own_new xW e37
        have m6 := m6.ext x38
        have xW := Ext.trans xW x38
        refine WL.call rfl (blt rfl) rfl rfl rfl has31 rfl (rpts_any _ _ _ _ _ _ _ _ _ _ _ _ _ (h_d.ext xW) (h_l.ext xW) (Ls.lit (f := Bd.kc) (sz := 2) (l := [(id, at_)]) m39 (fun _ => rfl) rfl (by first | decide | exact (show 1 ≤ maxLen by decide)) rfl) (by omega) (by omega) (by omega)) ?_
        rintro _ w40 ⟨v42, rfl, ow43, x41⟩
        refine ⟨_, rfl, ?_⟩
        have r_v42_g2 := ne_res ow43 m6
        have r_v42_g35 := ne_res ow43 m39
        have ow43 := OwnL.base_le ow43 xW.size
        have m6 := m6.ext x41
        have m39 := m39.ext x41
        have xW := Ext.trans xW x41
        refine WL.yld rfl (blt rfl) rfl (Y.assign rfl rfl) ?_
        refine WL.nil ?_
        refine WK.then_normal (k34 _ _ ?_)
        refine WC.sub [(0, _), (1, _), (2, _), (3, _), (8, _), (13, _)] ⟨rfl, rfl, rfl, rfl, rfl, rfl, trivial⟩ ?_
        refine WC.seq (fun K44 k44 => ?_)
        refine WC.region rfl ?_
        refine WL.yld rfl (blt rfl) rfl (Y.move rfl rfl) ?_
        refine WL.yld rfl (blt rfl) rfl (Y.move rfl rfl) ?_
        refine WL.yld rfl (blt rfl) rfl (Y.move rfl rfl) ?_
        obtain ⟨A45, n46, c47, rfl, hl48⟩ := OwnL.opened ow43 (fun _ => rfl) (by decide)
        have e_n46 := hl48.len
        try simp only [List.length_append, List.length_cons, List.length_nil, List.length_reverse, List.length_drop, List.length_take, List.length_map, List.length_replicate, List.length_set] at e_n46
        have z_n46 := hl48.nle
        refine WL.call rfl (blt rfl) rfl rfl rfl has32 rfl (redges_any _ _ _ _ _ _ _ _ _ _ _ _ _ (h_d.ext xW) (h_l.ext xW) hl48 (by omega) (by omega) (by omega) (Bd.PG.rng pg)) ?_
        rintro _ w49 ⟨v51, rfl, ow52, x50⟩
        refine ⟨_, rfl, ?_⟩
        have r_v51_g2 := ne_res ow52 m6
        have d_v42_v51 := (Apart.res ow52 ow43).symm
        have ow52 := OwnL.base_le ow52 xW.size
        have m6 := m6.ext x50
        have ow43 := ow43.ext x50
        have hl48 := hl48.ext x50
        have xW := Ext.trans xW x50
        refine WL.yld rfl (blt rfl) rfl (Y.assign rfl rfl) ?_
        refine WL.nil ?_
        refine WK.then_normal (k44 _ _ ?_)
        refine WC.sub [(0, _), (1, _), (2, _), (3, _), (8, _), (13, _), (14, _)] ⟨rfl, rfl, rfl, rfl, rfl, rfl, rfl, trivial⟩ ?_
        refine WC.seq (fun K53 k53 => ?_)
        refine WC.seq (fun K54 k54 => ?_)
        refine WC.region rfl ?_
        refine WL.yld rfl (blt rfl) rfl (Y.move rfl rfl) ?_
        refine WL.yld rfl (blt rfl) rfl (Y.move rfl rfl) ?_
        refine WL.yld rfl (blt rfl) rfl (Y.move rfl rfl) ?_
        refine WL.call rfl (blt rfl) rfl rfl rfl has33 rfl (rlinked_any _ _ _ _ _ _ _ _ _ _ (h_d.ext xW) (h_l.ext xW) (by omega)) ?_
        rintro _ w55 ⟨rfl, x56⟩
        refine ⟨_, rfl, ?_⟩
        have m6 := m6.ext x56
        have ow43 := ow43.ext x56
        have hl48 := hl48.ext x56
        have ow52 := ow52.ext x56
        have xW := Ext.trans xW x56
        refine WL.yld rfl (blt rfl) rfl (Y.not rfl rfl) ?_
        refine WL.yld rfl (blt rfl) rfl (Y.move rfl rfl) ?_
        refine WL.yldG rfl (blt rfl) rfl rfl rfl (fun hb => Y.move rfl rfl) ?_
        refine WL.yldG rfl (blt rfl) rfl rfl rfl (fun hb => Y.move rfl rfl) ?_
        refine WL.yldG rfl (blt rfl) rfl rfl rfl (fun hb => Y.lenSl rfl rfl rfl Try.underlying45 (evs_cons (evg rfl hb) evs_nil)) ?_
        obtain ⟨A57, n58, c59, rfl, hl60⟩ := OwnL.opened ow52 (fun _ => rfl) (by decide)
        have e_n58 := hl60.len
        try simp only [List.length_append, List.length_cons, List.length_nil, List.length_reverse, List.length_drop, List.length_take, List.length_map, List.length_replicate, List.length_set] at e_n58
        have z_n58 := hl60.nle
        have rdn : Bd.Ready Bd.rF Bd.Wm n46 (Bd.rEdges d l (Bd.rpts d l [(id, at_)])) := by rw [← hl48.len]; exact Bd.ready_ref pg (by omega) (by omega)
        have rdM := Int.mul_nonneg (show (0 : Int) ≤ ((Bd.rEdges d l (Bd.rpts d l [(id, at_)])).length : Int) from by omega) rdn.hW
        refine WL.callG rfl (blt rfl) rfl rfl rfl rfl rfl has34 (fun hb => (evs_cons (evg rfl hb) (evs_cons (evg rfl hb) evs_nil))) (fun hb => contra_any _ _ _ _ n46 _ hl60 Bd.Wm _ rdn.hW rfl rdM rdn.ok rdn.room (by omega)) (fun w61 x62 => ?_)
        have m6 := m6.ext x62
        have ow43 := ow43.ext x62
        have hl48 := hl48.ext x62
        have ow52 := ow52.ext x62
        have hl60 := hl60.ext x62
        have xW := Ext.trans xW x62
        refine WL.yld rfl (blt rfl) rfl (Y.or rfl rfl rfl rfl) ?_
        refine WL.nil ?_
        refine WK.then_normal (k54 _ _ ?_)
        refine WC.sub [(2, _), (3, _), (8, _), (13, _), (14, _), (62, _)] ⟨rfl, rfl, rfl, rfl, rfl, rfl, trivial⟩ ?_
        refine WC.cond rfl (fun h63 => ?_) (fun h63 => ?_)
        ·
          have enp := hl48.len
          refine WC.seq (fun K64 k64 => ?_)
          refine WC.region rfl ?_
          refine WL.yld rfl (blt rfl) rfl (Y.build (cells := [_, _]) rfl pl29 rfl rfl) ?_
          refine WL.store (cs' := [_, _]) rfl rfl rfl rfl rfl rfl ti29 m6 (ble rfl) rfl rfl (fun w65 on66 m67 => ?_)
          have ow43 := ow43.only r_v42_g2 on66
          have hl48 := OwnL.ls ow43 (fun _ => rfl) (by decide)
          have ow52 := ow52.only r_v51_g2 on66
          have hl60 := OwnL.ls ow52 (fun _ => rfl) (by decide)
          have xW := Ext.only xW on66 o_g2
          refine WL.yld rfl (blt rfl) rfl (Y.assign rfl rfl) ?_
          refine WL.nil ?_
          refine WK.then_normal (k64 _ _ ?_)
          refine WC.sub [(8, _), (9, _)] ⟨rfl, rfl, trivial⟩ ?_
          refine WC.ret ?_
          refine WK.then_ret ?_
          clear k1 k7 k10 k11 k17 k20 k21 k27 k28 k34 k44 k53 k54 k64
          refine WK.ret [_, _] rfl ⟨⟨_, rfl, run_loadVar_blk Try.underlying29 rfl ti29 m67⟩, rfl, trivial⟩ ?_
          have en := enp
          subst en
          refine ⟨?_, xW⟩
          simp only [Bd.rofF, h12, h22, h29, h63, Bool.false_eq_true, if_true, if_false]
          rfl
        ·
          have enp := hl48.len
          refine WC.skip ?_
          refine WK.then_normal (k53 _ _ ?_)
          refine WC.sub [(2, _), (3, _), (8, _), (13, _), (14, _)] ⟨rfl, rfl, rfl, rfl, rfl, trivial⟩ ?_
          refine WC.seq (fun K68 k68 => ?_)
          refine WC.region rfl ?_
          refine WL.yld rfl (blt rfl) rfl (Y.move rfl rfl) ?_
          refine WL.yld rfl (blt rfl) rfl (Y.move rfl rfl) ?_
          refine WL.yld rfl (blt rfl) rfl (Y.move rfl rfl) ?_
          refine WL.yld rfl (blt rfl) rfl (Y.build (cells := [_, _]) rfl pl49 rfl rfl) ?_
          have fnr := Bd.fnd_rng (show (id, at_) ∈ (Bd.rpts d l [(id, at_)]) from (Bd.rpts_mem gd (Bd.ids_nonneg ck)).2 (.inr (.inr (by simp))))
          rw [enp] at fnr
          have itl := Bd.iter_len (F := Bd.rF) (es := (Bd.rEdges d l (Bd.rpts d l [(id, at_)]))) n46 (Bd.fromD Bd.rF n46 (Bd.fnd (Bd.rpts d l [(id, at_)]) (id, at_)))
          have itl0 := Bd.iter_len (F := Bd.rF) (es := (Bd.rEdges d l (Bd.rpts d l [(id, at_)]))) n46 (Bd.fromD Bd.rF n46 0)
          rw [Bd.fromD_len] at itl itl0
          have itr := rdn.iter_rng (s := (Bd.fnd (Bd.rpts d l [(id, at_)]) (id, at_))) (v := 0) fnr.1 fnr.2 (Int.le_refl 0) (by have := rdn.pos; omega)
          unfold Bd.val at itr
          rw [show (0 : Int).toNat = 0 from rfl] at itr
          refine WL.call rfl (blt rfl) rfl rfl rfl has35 rfl (find_any _ _ _ _ (id, at_) _ hl48) ?_
          rintro _ w69 ⟨rfl, x70⟩
          refine ⟨_, rfl, ?_⟩
          have m6 := m6.ext x70
          have ow43 := ow43.ext x70
          have hl48 := hl48.ext x70
          have ow52 := ow52.ext x70
          have hl60 := hl60.ext x70
          have xW := Ext.trans xW x70
          refine WL.yld rfl (blt rfl) rfl (Y.assign rfl rfl) ?_
          refine WL.nil ?_
          refine WK.then_normal (k68 _ _ ?_)
          refine WC.sub [(8, _), (13, _), (14, _), (15, _)] ⟨rfl, rfl, rfl, rfl, trivial⟩ ?_
          refine WC.seq (fun K71 k71 => ?_)
          refine WC.region rfl ?_
          refine WL.yld rfl (blt rfl) rfl (Y.move rfl rfl) ?_
          refine WL.yld rfl (blt rfl) rfl (Y.move rfl rfl) ?_
          refine WL.yld rfl (blt rfl) rfl (Y.lenSl rfl rfl rfl Try.underlying45 rfl) ?_
          refine WL.call rfl (blt rfl) rfl rfl rfl has36 rfl (lengths_any _ _ _ _ n46 0 _ hl60 Bd.Wm _ rdn.hW rfl rdM rdn.ok rdn.room (by omega) (by have := rdn.pos; omega)) ?_
          rintro _ w72 ⟨v74, rfl, ow75, x73⟩
          refine ⟨_, rfl, ?_⟩
          have r_v74_g2 := ne_res ow75 m6
          have d_v42_v74 := (Apart.res ow75 ow43).symm
          have d_v51_v74 := (Apart.res ow75 ow52).symm
          have ow75 := OwnL.base_le ow75 xW.size
          have m6 := m6.ext x73
          have ow43 := ow43.ext x73
          have hl48 := hl48.ext x73
          have ow52 := ow52.ext x73
          have hl60 := hl60.ext x73
          have xW := Ext.trans xW x73
          refine WL.yld rfl (blt rfl) rfl (Y.assign rfl rfl) ?_
          refine WL.nil ?_
          refine WK.then_normal (k71 _ _ ?_)
          refine WC.sub [(8, _), (13, _), (14, _), (15, _), (16, _)] ⟨rfl, rfl, rfl, rfl, rfl, trivial⟩ ?_
          refine WC.seq (fun K76 k76 => ?_)
          refine WC.region rfl ?_
          refine WL.yld rfl (blt rfl) rfl (Y.move rfl rfl) ?_
          refine WL.yld rfl (blt rfl) rfl (Y.move rfl rfl) ?_
          refine WL.yld rfl (blt rfl) rfl (Y.lenSl rfl rfl rfl Try.underlying45 rfl) ?_
          refine WL.yld rfl (blt rfl) rfl (Y.move rfl rfl) ?_
          refine WL.call rfl (blt rfl) rfl rfl rfl has36 rfl (lengths_any _ _ _ _ n46 (Bd.fnd (Bd.rpts d l [(id, at_)]) (id, at_)) _ hl60 Bd.Wm _ rdn.hW rfl rdM rdn.ok rdn.room (by omega) (by omega)) ?_
          rintro _ w77 ⟨v79, rfl, ow80, x78⟩
          refine ⟨_, rfl, ?_⟩
          have r_v79_g2 := ne_res ow80 m6
          have d_v42_v79 := (Apart.res ow80 ow43).symm
          have d_v51_v79 := (Apart.res ow80 ow52).symm
          have d_v74_v79 := (Apart.res ow80 ow75).symm
          have ow80 := OwnL.base_le ow80 xW.size
          have m6 := m6.ext x78
          have ow43 := ow43.ext x78
          have hl48 := hl48.ext x78
          have ow52 := ow52.ext x78
          have hl60 := hl60.ext x78
          have ow75 := ow75.ext x78
          have xW := Ext.trans xW x78
          refine WL.yld rfl (blt rfl) rfl (Y.assign rfl rfl) ?_
          refine WL.nil ?_
          refine WK.then_normal (k76 _ _ ?_)
          refine WC.sub [(8, _), (15, _), (16, _), (17, _)] ⟨rfl, rfl, rfl, rfl, trivial⟩ ?_
          refine WC.seq (fun K81 k81 => ?_)
          obtain ⟨A82, n83, c84, rfl, hl85⟩ := OwnL.opened ow75 (fun _ => rfl) (by decide)
          have e_n83 := hl85.len
          try simp only [List.length_append, List.length_cons, List.length_nil, List.length_reverse, List.length_drop, List.length_take, List.length_map, List.length_replicate, List.length_set] at e_n83
          have z_n83 := hl85.nle
          obtain ⟨A86, n87, c88, rfl, hl89⟩ := OwnL.opened ow80 (fun _ => rfl) (by decide)
          have e_n87 := hl89.len
          try simp only [List.length_append, List.length_cons, List.length_nil, List.length_reverse, List.length_drop, List.length_take, List.length_map, List.length_replicate, List.length_set] at e_n87
          have z_n87 := hl89.nle
          refine WC.regionX (fun W' => Ext w W' ∧ Ls W' A82 n83 c84 Ck.ic 1 _ ∧ Ls W' A86 n87 c88 Ck.ic 1 _) (.load 0 (.load 1 (.load 2 (.load 3 (.load 4 (.load 5 (.load 6 (.load 7 (.load 8 (.alt 9 (.load 10 (.fin)) (.none))))))))))) ⟨xW, hl85, hl89⟩ (by kernel_rfl) (by kernel_rfl) (fun w90 x91 => ?_)
          have m6 := m6.ext x91
          have ow75 := ow75.ext x91
          have hl85 := hl85.ext x91
          have ow80 := ow80.ext x91
          have hl89 := hl89.ext x91
          have xW := Ext.trans xW x91
          refine WX.yld rfl rfl (blt rfl) rfl (Y.move rfl rfl) ?_
          have b92 : 0 < n87 := by omega
          refine WX.yld rfl rfl (blt rfl) rfl (Y.indexLs 0 hl89 rfl Try.underlying35 ti3 rfl rfl rfl b92) ?_
          refine WX.yld rfl rfl (blt rfl) rfl (Y.load1 rfl Try.underlying3 rfl rfl (Ls.at_c (fun _ h => h.2.2) b92 rfl)) ?_
          refine WX.yld rfl rfl (blt rfl) rfl (Y.neg rfl rfl (wrap_i64 (by first | omega | (dsimp only; omega)))) ?_
          refine WX.yld rfl rfl (blt rfl) rfl (Y.move rfl rfl) ?_
          refine WX.yld rfl rfl (blt rfl) rfl (Y.move rfl rfl) ?_
          have b93 : (Bd.fnd (Bd.rpts d l [(id, at_)]) (id, at_)).toNat < n83 := by omega
          refine WX.yld rfl rfl (blt rfl) rfl (Y.indexLs (Bd.fnd (Bd.rpts d l [(id, at_)]) (id, at_)).toNat hl85 rfl Try.underlying35 ti3 rfl rfl (by omega) b93) ?_
          refine WX.yld rfl rfl (blt rfl) rfl (Y.load1 rfl Try.underlying3 rfl rfl (Ls.at_c (fun _ h => h.2.1) b93 rfl)) ?_
          refine WX.yld rfl rfl (blt rfl) rfl (Y.build (cells := [_, _]) rfl pl29 rfl rfl) ?_
          refine WX.storeB (cs' := [_, _]) rfl ⟨xW, hl85, hl89⟩ rfl rfl rfl rfl rfl rfl ti29 m6 (ble rfl) rfl rfl (fun w94 on95 m96 => ?_)
          have ow75 := ow75.only r_v74_g2 on95
          have hl85 := OwnL.ls ow75 (fun _ => rfl) (by decide)
          have ow80 := ow80.only r_v79_g2 on95
          have hl89 := OwnL.ls ow80 (fun _ => rfl) (by decide)
          have xW := Ext.only xW on95 o_g2
          refine WX.yld rfl rfl (blt rfl) rfl (Y.assign rfl rfl) ?_
          refine WX.nil ⟨xW, hl85, hl89⟩ ?_
          refine WK.then_normal (k81 _ _ ?_)
          refine WC.sub [(8, _), (9, _)] ⟨rfl, rfl, trivial⟩ ?_
          refine WC.ret ?_
          clear k1 k7 k10 k11 k17 k20 k21 k27 k28 k34 k44 k53 k54 k68 k71 k76 k81
          refine WK.ret [_, _] rfl ⟨⟨_, rfl, run_loadVar_blk Try.underlying29 rfl ti29 m96⟩, rfl, trivial⟩ ?_
          have en := enp
          subst en
          refine ⟨?_, xW⟩
          simp only [Bd.rofF, h12, h22, h29, h63, Bool.false_eq_true, if_true, if_false]
          rfl
theorem rcons_any (A_d : Option Addr) (n_d c_d : Nat) (d : List Ck.Dom) (A_l : Option Addr) (n_l c_l : Nat) (l : List Ck.Snap) (w : World) (h_d : Ls w A_d n_d c_d Ck.Dom.c 2 d) (h_l : Ls w A_l n_l c_l Ck.Snap.c 5 l) (hl : n_l ≤ 10) :
    Calls Try.prog 14 #[.slice A_d n_d c_d, .slice A_l n_l c_l] w fun e w' => e = .returned (.bool (Bd.rconsF d l)) ∧ Ext w w' := by
  have xW := Ext.refl w
  have e_d := h_d.len
  have z_d := h_d.nle
  have e_l := h_l.len
  have z_l := h_l.nle
  refine calls_of_WC (args := [.slice A_d n_d c_d, .slice A_l n_l c_l]) Try.func14 rfl rfl (ble rfl) ?_
  refine WC.seq (fun K1 k1 => ?_)
  refine WC.region rfl ?_
  refine WL.yld rfl (blt rfl) rfl (Y.assign rfl rfl) ?_
  refine WL.nil ?_
  refine WK.then_normal (k1 _ _ ?_)
  refine WC.sub [(0, _), (1, _)] ⟨rfl, rfl, trivial⟩ ?_
  refine WC.seq (fun K2 k2 => ?_)
  refine WC.seq (fun K3 k3 => ?_)
  refine WC.region rfl ?_
  refine WL.yld rfl (blt rfl) rfl (Y.move rfl rfl) ?_
  refine WL.yld rfl (blt rfl) rfl (Y.move rfl rfl) ?_
  refine WL.call rfl (blt rfl) rfl rfl rfl has29 rfl (rcheck_any _ _ _ _ _ _ _ _ _ (h_d.ext xW) (h_l.ext xW)) ?_
  rintro _ w4 ⟨rfl, x5⟩
  refine ⟨_, rfl, ?_⟩
  have xW := Ext.trans xW x5
  refine WL.yld rfl (blt rfl) rfl (Y.neq rfl rfl rfl) ?_
  refine WL.nil ?_
  refine WK.then_normal (k3 _ _ ?_)
  refine WC.sub [(0, _), (1, _), (9, _)] ⟨rfl, rfl, rfl, trivial⟩ ?_
  refine WC.cond rfl (fun h6 => ?_) (fun h6 => ?_)
  ·
    have p6 := (eq_f (not_t h6))
    refine WC.seq (fun K7 k7 => ?_)
    refine WC.region rfl ?_
    refine WL.yld rfl (blt rfl) rfl (Y.assign rfl rfl) ?_
    refine WL.nil ?_
    refine WK.then_normal (k7 _ _ ?_)
    refine WC.sub [(4, _)] ⟨rfl, trivial⟩ ?_
    refine WC.ret ?_
    refine WK.then_ret ?_
    clear k1 k2 k3 k7
    refine WK.ret [_] rfl ⟨rfl, trivial⟩ ?_
    refine ⟨ret1 (vb ?_), xW⟩
    unfold Bd.rconsF
    rw [Bd.neq_f h6]; rfl
  ·
    have p6 := (eq_t (not_f h6))
    have ck : Ck.checkF d l = 0 := by simpa using h6
    have hm1 : ∀ k ∈ ([] : List Bd.Key), (∃ x ∈ d, x.id = k.1) ∧ 0 ≤ k.2 ∧ k.2 ≤ 1000000000000 := fun k hk => by cases hk
    have gd := Bd.good_of ck
    have hfew := gd.few
    have pg := Bd.rpts_pg ck (m := []) hm1
    have psm : (Bd.rpts d l []).length ≤ 3 * l.length + 2 := Nat.le_trans (Bd.rpts_small ck) (by simp)
    refine WC.skip ?_
    refine WK.then_normal (k2 _ _ ?_)
    refine WC.sub [(0, _), (1, _)] ⟨rfl, rfl, trivial⟩ ?_
    refine WC.seq (fun K8 k8 => ?_)
    refine WC.region rfl ?_
    refine WL.yld rfl (blt rfl) rfl (Y.move rfl rfl) ?_
    refine WL.yld rfl (blt rfl) rfl (Y.move rfl rfl) ?_
    refine WL.call rfl (blt rfl) rfl rfl rfl has31 rfl (rpts_any _ _ _ _ _ _ _ _ _ _ _ _ _ (h_d.ext xW) (h_l.ext xW) (Ls.nil (by decide)) (by omega) (by omega) (by omega)) ?_
    rintro _ w9 ⟨v11, rfl, ow12, x10⟩
    refine ⟨_, rfl, ?_⟩
    have ow12 := OwnL.base_le ow12 xW.size
    have xW := Ext.trans xW x10
    refine WL.yld rfl (blt rfl) rfl (Y.assign rfl rfl) ?_
    refine WL.nil ?_
    refine WK.then_normal (k8 _ _ ?_)
    refine WC.sub [(0, _), (1, _), (5, _)] ⟨rfl, rfl, rfl, trivial⟩ ?_
    refine WC.seq (fun K13 k13 => ?_)
    refine WC.region rfl ?_
    refine WL.yld rfl (blt rfl) rfl (Y.move rfl rfl) ?_
    refine WL.yld rfl (blt rfl) rfl (Y.move rfl rfl) ?_
    refine WL.yld rfl (blt rfl) rfl (Y.move rfl rfl) ?_
    obtain ⟨A14, n15, c16, rfl, hl17⟩ := OwnL.opened ow12 (fun _ => rfl) (by decide)
    have e_n15 := hl17.len
    try simp only [List.length_append, List.length_cons, List.length_nil, List.length_reverse, List.length_drop, List.length_take, List.length_map, List.length_replicate, List.length_set] at e_n15
    have z_n15 := hl17.nle
    refine WL.call rfl (blt rfl) rfl rfl rfl has32 rfl (redges_any _ _ _ _ _ _ _ _ _ _ _ _ _ (h_d.ext xW) (h_l.ext xW) hl17 (by omega) (by omega) (by omega) (Bd.PG.rng pg)) ?_
    rintro _ w18 ⟨v20, rfl, ow21, x19⟩
    refine ⟨_, rfl, ?_⟩
    have d_v11_v20 := (Apart.res ow21 ow12).symm
    have ow21 := OwnL.base_le ow21 xW.size
    have ow12 := ow12.ext x19
    have hl17 := hl17.ext x19
    have xW := Ext.trans xW x19
    refine WL.yld rfl (blt rfl) rfl (Y.move rfl rfl) ?_
    refine WL.yld rfl (blt rfl) rfl (Y.lenSl rfl rfl rfl Try.underlying45 rfl) ?_
    obtain ⟨A22, n23, c24, rfl, hl25⟩ := OwnL.opened ow21 (fun _ => rfl) (by decide)
    have e_n23 := hl25.len
    try simp only [List.length_append, List.length_cons, List.length_nil, List.length_reverse, List.length_drop, List.length_take, List.length_map, List.length_replicate, List.length_set] at e_n23
    have z_n23 := hl25.nle
    have rdn : Bd.Ready Bd.rF Bd.Wm n15 (Bd.rEdges d l (Bd.rpts d l [])) := by rw [← hl17.len]; exact Bd.ready_ref pg (by omega) (by omega)
    have rdM := Int.mul_nonneg (show (0 : Int) ≤ ((Bd.rEdges d l (Bd.rpts d l [])).length : Int) from by omega) rdn.hW
    have enp := hl17.len
    refine WL.call rfl (blt rfl) rfl rfl rfl has34 rfl (contra_any _ _ _ _ n15 _ hl25 Bd.Wm _ rdn.hW rfl rdM rdn.ok rdn.room (by omega)) ?_
    rintro _ w26 ⟨rfl, x27⟩
    refine ⟨_, rfl, ?_⟩
    have ow12 := ow12.ext x27
    have hl17 := hl17.ext x27
    have ow21 := ow21.ext x27
    have hl25 := hl25.ext x27
    have xW := Ext.trans xW x27
    refine WL.yld rfl (blt rfl) rfl (Y.not rfl rfl) ?_
    refine WL.yld rfl (blt rfl) rfl (Y.assign rfl rfl) ?_
    refine WL.nil ?_
    refine WK.then_normal (k13 _ _ ?_)
    refine WC.sub [(4, _)] ⟨rfl, trivial⟩ ?_
    refine WC.ret ?_
    clear k1 k2 k3 k8 k13
    refine WK.ret [_] rfl ⟨rfl, trivial⟩ ?_
    subst enp
    refine ⟨ret1 (vb ?_), xW⟩
    unfold Bd.rconsF
    rw [ck]
    simp
end RO
end BdW

end Go.Proofs.Ytaglpampidlbmaa
