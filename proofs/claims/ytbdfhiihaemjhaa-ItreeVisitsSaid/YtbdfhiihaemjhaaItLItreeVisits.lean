/- The walk of the law. Conditions: what each theorem states. -/
import Derived.Test.YtbdfhiihaemjhaaItAwake
import Derived.Test.YtbdfhiihaemjhaaItLaw
namespace Go.Proofs.Ytbdfhiihaemjhaa
open Go Go.Eng Go.RowKit
set_option linter.unusedVariables false
namespace ItW
open M O Vi X R A
namespace LItreeVisits
theorem ti3 : TI Try.prog 3 (.int .i64 0) 1 8 := TI.mk (by kernel_rfl)
theorem ti32 : TI Try.prog 32 (.agg #[.int .i64 0, .int .i64 0]) 2 16 := TI.mk (by kernel_rfl)
theorem has8 : Has Try.prog 8 := ⟨_, Try.func8, rfl, by kernel_rfl⟩
theorem has9 : Has Try.prog 9 := ⟨_, Try.func9, rfl, by kernel_rfl⟩
theorem has19 : Has Try.prog 19 := ⟨_, Try.func19, rfl, by kernel_rfl⟩
theorem ItreeVisits_any (A_l : Option Addr) (n_l c_l : Nat) (l : List Sp.S) (s : Sp.S) (w : World) (h_l : Ls w A_l n_l c_l Sp.S.c 2 l) (hv : ∀ x ∈ l, It.low ≤ x.t) :
    Calls Try.prog 6 #[.slice A_l n_l c_l, .agg #[.int .i64 s.f, .int .i64 s.t]] w fun e w' => e = .returned (.bool true) ∧ Ext w w' := by
  have xW := Ext.refl w
  have e_l := h_l.len
  have z_l := h_l.nle
  refine calls_of_WC (args := [.slice A_l n_l c_l, .agg #[.int .i64 s.f, .int .i64 s.t]]) Try.func6 rfl rfl (ble rfl) ?_
  refine WC.seq (fun K1 k1 => ?_)
  refine WC.region rfl ?_
  refine WL.box rfl (blt rfl) rfl rfl rfl rfl ?_
  intro g2 w3 e4 x5 m6
  have o_g2 := own_new xW e4
  have xW := Ext.trans xW x5
  refine WL.yld rfl (blt rfl) rfl (Y.assign rfl rfl) ?_
  refine WL.nil ?_
  refine WK.then_normal (k1 _ _ ?_)
  refine WC.sub [(0, _), (3, _)] ⟨rfl, rfl, trivial⟩ ?_
  refine WC.seq (fun K7 k7 => ?_)
  refine WC.seq (fun K8 k8 => ?_)
  refine WC.region rfl ?_
  refine WL.yld rfl (blt rfl) rfl (Y.move rfl rfl) ?_
  refine WL.yld rfl (blt rfl) rfl (Y.lenSl rfl rfl rfl Try.underlying22 rfl) ?_
  refine WL.yld rfl (blt rfl) rfl (Y.gtr rfl rfl rfl) ?_
  refine WL.nil ?_
  refine WK.then_normal (k8 _ _ ?_)
  refine WC.sub [(0, _), (3, _), (13, _)] ⟨rfl, rfl, rfl, trivial⟩ ?_
  refine WC.cond rfl (fun h9 => ?_) (fun h9 => ?_)
  ·
    have p9 := (dec_t h9)
    refine WC.seq (fun K10 k10 => ?_)
    refine WC.region rfl ?_
    refine WL.call rfl (blt rfl) rfl rfl rfl has8 rfl (awake_any _ ) ?_
    rintro _ w11 ⟨rfl, x12⟩
    refine ⟨_, rfl, ?_⟩
    have m6 := m6.ext x12
    have xW := Ext.trans xW x12
    refine WL.yld rfl (blt rfl) rfl (Y.assign rfl rfl) ?_
    refine WL.nil ?_
    refine WK.then_normal (k10 _ _ ?_)
    refine WC.sub [(4, _)] ⟨rfl, trivial⟩ ?_
    refine WC.ret ?_
    refine WK.then_ret ?_
    clear k1 k7 k8 k10
    refine WK.ret [_] rfl ⟨rfl, trivial⟩ ?_
    exact ⟨ret1 (vb rfl), xW⟩
  ·
    have p9 := (dec_f h9)
    refine WC.skip ?_
    refine WK.then_normal (k7 _ _ ?_)
    refine WC.sub [(0, _), (3, _)] ⟨rfl, rfl, trivial⟩ ?_
    refine WC.seq (fun K13 k13 => ?_)
    refine WC.region rfl ?_
    refine WL.yld rfl (blt rfl) rfl (Y.assign rfl rfl) ?_
    refine WL.yld rfl (blt rfl) rfl (Y.assign rfl rfl) ?_
    refine WL.nil ?_
    refine WK.then_normal (k13 _ _ ?_)
    refine WC.seq (fun K14 k14 => ?_)
    refine WC.region rfl ?_
    refine WL.yld rfl (blt rfl) rfl (Y.assign rfl rfl) ?_
    refine WL.nil ?_
    refine WK.then_normal (k14 _ _ ?_)
    refine WC.seq (fun K15 k15 => ?_)
    refine WC.seq (fun K16 k16 => ?_)
    refine WC.region rfl ?_
    refine WL.yld rfl (blt rfl) rfl (Y.move rfl rfl) ?_
    refine WL.yld rfl (blt rfl) rfl (Y.lenSl rfl rfl rfl Try.underlying22 rfl) ?_
    refine WL.yld rfl (blt rfl) rfl (Y.assign rfl rfl) ?_
    refine WL.nil ?_
    refine WK.then_normal (k16 _ _ ?_)
    refine WC.sub [(0, _), (3, _), (5, _), (6, _), (7, _), (8, _)] ⟨rfl, rfl, rfl, rfl, rfl, rfl, trivial⟩ ?_
    refine WC.block ?_
    refine WC.sub [(7, _), (8, _), (0, _), (3, _), (5, _), (6, _)] ⟨rfl, rfl, rfl, rfl, rfl, rfl, trivial⟩ ?_
    refine WC.loopS 2 (fun mz Ed W' => ∃ z : Nat, ∃ j : Nat, mz = 2 * j ∧ Ed = [(7, .int .i64 ((z : Nat) : Int)), (8, .int .i64 ((j : Nat) : Int))] ∧ Ext w W' ∧ Blk W' g2 32 _ ∧ (z + It.lv j = It.lv l.length) ∧ (j ≤ 200)) _ ⟨0, n_l, rfl, rfl, xW, m6, (by rw [e_l, Nat.zero_add]), (by omega)⟩ ?_
    rintro _ _ w17 ⟨z, j, rfl, rfl, xW, m6, zj, le_j⟩
    refine WC.sub [(7, _), (8, _), (0, _), (3, _), (5, _), (6, _)] ⟨rfl, rfl, rfl, rfl, rfl, rfl, trivial⟩ ?_
    refine WC.seq (fun K18 k18 => ?_)
    refine WC.seq (fun K19 k19 => ?_)
    refine WC.region rfl ?_
    refine WL.yld rfl (blt rfl) rfl (Y.move rfl rfl) ?_
    refine WL.yld rfl (blt rfl) rfl (Y.gtr rfl rfl rfl) ?_
    refine WL.nil ?_
    refine WK.then_normal (k19 _ _ ?_)
    refine WC.sub [(0, _), (3, _), (5, _), (6, _), (7, _), (8, _), (18, _)] ⟨rfl, rfl, rfl, rfl, rfl, rfl, rfl, trivial⟩ ?_
    refine WC.cond rfl (fun h20 => ?_) (fun h20 => ?_)
    ·
      have p20 := (dec_t h20)
      have lz := It.lv_le l.length
      refine WC.skip ?_
      refine WK.then_normal (k18 _ _ ?_)
      refine WC.sub [(0, _), (3, _), (5, _), (6, _), (7, _), (8, _)] ⟨rfl, rfl, rfl, rfl, rfl, rfl, trivial⟩ ?_
      refine WC.seq (fun K21 k21 => ?_)
      refine WC.block ?_
      refine WC.region rfl ?_
      refine WL.yld rfl (blt rfl) rfl (Y.move rfl rfl) ?_
      refine WL.yld rfl (blt rfl) rfl (Y.add rfl rfl rfl (wrap_i64 (by first | omega | (dsimp only; omega)))) ?_
      refine WL.yld rfl (blt rfl) rfl (Y.assign rfl rfl) ?_
      refine WL.nil ?_
      refine WK.in_normal ?_
      refine WK.then_normal (k21 _ _ ?_)
      refine WC.sub [(0, _), (3, _), (5, _), (6, _), (7, _), (8, _)] ⟨rfl, rfl, rfl, rfl, rfl, rfl, trivial⟩ ?_
      refine WC.region rfl ?_
      refine WL.yld rfl (blt rfl) rfl (Y.move rfl rfl) ?_
      refine WL.yld rfl (blt rfl) rfl (Yld.cast (Y.quo rfl rfl rfl (by omega) (wrap_quo (by omega) (by omega) (by omega))) (vi (b := ((j / 2 : Nat) : Int)) (by omega))) ?_
      refine WL.yld rfl (blt rfl) rfl (Y.assign rfl rfl) ?_
      refine WL.nil ?_
      refine WK.roundS _ [(7, .int .i64 (((z + 1) : Nat) : Int)), (8, .int .i64 (((j / 2) : Nat) : Int))] ⟨rfl, rfl, rfl, rfl, rfl, rfl, trivial⟩ ?_ ⟨(z + 1), (j / 2), rfl, rfl, xW, m6, (by rw [← zj, It.lv_step (show 0 < j by omega)]; omega), (by omega)⟩
      show 2 * (_ / 2) < 2 * _; omega
    ·
      have p20 := (dec_f h20)
      refine WC.exit ?_
      refine WK.then_exit ?_
      refine WK.then_exit ?_
      refine WK.in_exit ?_
      refine WK.then_normal (k15 _ _ ?_)
      refine WC.sub [(0, _), (3, _), (5, _), (6, _), (7, _)] ⟨rfl, rfl, rfl, rfl, rfl, trivial⟩ ?_
      refine WC.seq (fun K22 k22 => ?_)
      refine WC.seq (fun K23 k23 => ?_)
      refine WC.region rfl ?_
      refine WL.yld rfl (blt rfl) rfl (Y.assign rfl rfl) ?_
      refine WL.nil ?_
      refine WK.then_normal (k23 _ _ ?_)
      refine WC.block ?_
      refine WC.sub [(9, _), (5, _), (6, _), (0, _), (3, _), (7, _)] ⟨rfl, rfl, rfl, rfl, rfl, rfl, trivial⟩ ?_
      refine WC.loopS 3 (fun mz Ed W' => ∃ i : Nat, ∃ ba : Bool, ∃ bb : Bool, mz = n_l - i ∧ Ed = [(9, .int .i64 ((i : Nat) : Int)), (5, .bool ba), (6, .bool bb)] ∧ Ext w W' ∧ Blk W' g2 32 _ ∧ (i ≤ n_l) ∧ (ba = true → ∀ j, j < i → l[j]!.f ≥ s.t) ∧ (bb = true → ∀ j, j < i → l[j]!.t ≤ s.f)) _ ⟨0, true, true, rfl, rfl, xW, m6, (Nat.zero_le _), (fun _ j hj => absurd hj (Nat.not_lt_zero j)), (fun _ j hj => absurd hj (Nat.not_lt_zero j))⟩ ?_
      rintro _ _ w24 ⟨i, ba, bb, rfl, rfl, xW, m6, le_i, aft, bef⟩
      refine WC.sub [(9, _), (5, _), (6, _), (0, _), (3, _), (7, _)] ⟨rfl, rfl, rfl, rfl, rfl, rfl, trivial⟩ ?_
      refine WC.seq (fun K25 k25 => ?_)
      refine WC.seq (fun K26 k26 => ?_)
      refine WC.region rfl ?_
      refine WL.yld rfl (blt rfl) rfl (Y.move rfl rfl) ?_
      refine WL.yld rfl (blt rfl) rfl (Y.move rfl rfl) ?_
      refine WL.yld rfl (blt rfl) rfl (Y.lenSl rfl rfl rfl Try.underlying22 rfl) ?_
      refine WL.yld rfl (blt rfl) rfl (Y.lss rfl rfl rfl) ?_
      refine WL.nil ?_
      refine WK.then_normal (k26 _ _ ?_)
      refine WC.sub [(0, _), (3, _), (5, _), (6, _), (7, _), (9, _), (26, _)] ⟨rfl, rfl, rfl, rfl, rfl, rfl, rfl, trivial⟩ ?_
      refine WC.cond rfl (fun h27 => ?_) (fun h27 => ?_)
      ·
        have p27 := (dec_t h27)
        refine WC.skip ?_
        refine WK.then_normal (k25 _ _ ?_)
        refine WC.sub [(0, _), (3, _), (5, _), (6, _), (7, _), (9, _)] ⟨rfl, rfl, rfl, rfl, rfl, rfl, trivial⟩ ?_
        refine WC.seq (fun K28 k28 => ?_)
        refine WC.block ?_
        refine WC.seq (fun K29 k29 => ?_)
        refine WC.regionX (fun W' => Ext w W' ∧ Blk W' g2 32 _) (.load 0 (.load 1 (.load 2 (.load 3 (.load 4 (.load 5 (.load 6 (.load 7 (.load 8 (.load 9 (.load 10 (.load 11 (.fin))))))))))))) ⟨xW, m6⟩ (by kernel_rfl) (by kernel_rfl) (fun w30 x31 => ?_)
        have m6 := m6.ext x31
        have xW := Ext.trans xW x31
        refine WX.yld rfl rfl (blt rfl) rfl (Y.move rfl rfl) ?_
        refine WX.yld rfl rfl (blt rfl) rfl (Y.move rfl rfl) ?_
        refine WX.yldG rfl rfl (blt rfl) rfl rfl rfl (fun hb => Y.move rfl rfl) ?_
        refine WX.yldG rfl rfl (blt rfl) rfl rfl rfl (fun hb => Y.move rfl rfl) ?_
        refine WX.yldG rfl rfl (blt rfl) rfl rfl rfl (fun hb => Y.indexLs i (h_l.ext xW) rfl Try.underlying22 ti32 (evg rfl hb) (evg rfl hb) rfl (by omega)) ?_
        refine WX.yldG rfl rfl (blt rfl) rfl rfl rfl (fun hb => Y.fieldE rfl Try.underlying32 rfl ti3 (by decide) (evg rfl hb)) ?_
        refine WX.yldG rfl rfl (blt rfl) rfl rfl rfl (fun hb => Y.load1 rfl Try.underlying3 rfl (evg rfl hb) (Ls.at_c (fun _ h => (h_l.ext (h.1))) (by omega) rfl)) ?_
        refine WX.yldG rfl rfl (blt rfl) rfl rfl rfl (fun hb => Y.fieldAddr rfl Try.underlying32 rfl ti3 (by decide) rfl) ?_
        refine WX.yldG rfl rfl (blt rfl) rfl rfl rfl (fun hb => Y.load1 rfl Try.underlying3 rfl (evg rfl hb) (Blk.at_c (fun _ h => h.2) rfl)) ?_
        refine WX.yldG rfl rfl (blt rfl) rfl rfl rfl (fun hb => Y.geq rfl (evg rfl hb) (evg rfl hb)) ?_
        refine WX.yld rfl rfl (blt rfl) rfl (Y.and rfl rfl rfl rfl) ?_
        refine WX.yld rfl rfl (blt rfl) rfl (Y.assign rfl rfl) ?_
        refine WX.nil ⟨xW, m6⟩ ?_
        refine WK.then_normal (k29 _ _ ?_)
        refine WC.sub [(0, _), (3, _), (5, _), (6, _), (7, _), (9, _)] ⟨rfl, rfl, rfl, rfl, rfl, rfl, trivial⟩ ?_
        refine WC.regionX (fun W' => Ext w W' ∧ Blk W' g2 32 _) (.load 0 (.load 1 (.load 2 (.load 3 (.load 4 (.load 5 (.load 6 (.load 7 (.load 8 (.load 9 (.load 10 (.load 11 (.fin))))))))))))) ⟨xW, m6⟩ (by kernel_rfl) (by kernel_rfl) (fun w32 x33 => ?_)
        have m6 := m6.ext x33
        have xW := Ext.trans xW x33
        refine WX.yld rfl rfl (blt rfl) rfl (Y.move rfl rfl) ?_
        refine WX.yld rfl rfl (blt rfl) rfl (Y.move rfl rfl) ?_
        refine WX.yldG rfl rfl (blt rfl) rfl rfl rfl (fun hb => Y.move rfl rfl) ?_
        refine WX.yldG rfl rfl (blt rfl) rfl rfl rfl (fun hb => Y.move rfl rfl) ?_
        refine WX.yldG rfl rfl (blt rfl) rfl rfl rfl (fun hb => Y.indexLs i (h_l.ext xW) rfl Try.underlying22 ti32 (evg rfl hb) (evg rfl hb) rfl (by omega)) ?_
        refine WX.yldG rfl rfl (blt rfl) rfl rfl rfl (fun hb => Y.fieldE rfl Try.underlying32 rfl ti3 (by decide) (evg rfl hb)) ?_
        refine WX.yldG rfl rfl (blt rfl) rfl rfl rfl (fun hb => Y.load1 rfl Try.underlying3 rfl (evg rfl hb) (Ls.at_c (fun _ h => (h_l.ext (h.1))) (by omega) rfl)) ?_
        refine WX.yldG rfl rfl (blt rfl) rfl rfl rfl (fun hb => Y.fieldAddr rfl Try.underlying32 rfl ti3 (by decide) rfl) ?_
        refine WX.yldG rfl rfl (blt rfl) rfl rfl rfl (fun hb => Y.load1 rfl Try.underlying3 rfl (evg rfl hb) (Blk.at_c (fun _ h => h.2) rfl)) ?_
        refine WX.yldG rfl rfl (blt rfl) rfl rfl rfl (fun hb => Y.leq rfl (evg rfl hb) (evg rfl hb)) ?_
        refine WX.yld rfl rfl (blt rfl) rfl (Y.and rfl rfl rfl rfl) ?_
        refine WX.yld rfl rfl (blt rfl) rfl (Y.assign rfl rfl) ?_
        refine WX.nil ⟨xW, m6⟩ ?_
        refine WK.in_normal ?_
        refine WK.then_normal (k28 _ _ ?_)
        refine WC.sub [(0, _), (3, _), (5, _), (6, _), (7, _), (9, _)] ⟨rfl, rfl, rfl, rfl, rfl, rfl, trivial⟩ ?_
        refine WC.region rfl ?_
        refine WL.yld rfl (blt rfl) rfl (Y.move rfl rfl) ?_
        refine WL.yld rfl (blt rfl) rfl (Y.add rfl rfl rfl (wrap_i64 (by first | omega | (dsimp only; omega)))) ?_
        refine WL.yld rfl (blt rfl) rfl (Y.assign rfl rfl) ?_
        refine WL.nil ?_
        refine WK.roundS _ [(9, .int .i64 (((i + 1) : Nat) : Int)), (5, .bool _), (6, .bool _)] ⟨rfl, rfl, rfl, rfl, rfl, rfl, trivial⟩ ?_ ⟨(i + 1), _, _, rfl, rfl, xW, m6, (by omega), (It.aft_step aft), (It.bef_step bef)⟩
        show _ - (i + 1) < _ - i; omega
      ·
        have p27 := (dec_f h27)
        refine WC.exit ?_
        refine WK.then_exit ?_
        refine WK.then_exit ?_
        refine WK.in_exit ?_
        refine WK.then_normal (k22 _ _ ?_)
        refine WC.sub [(0, _), (3, _), (5, _), (6, _), (7, _)] ⟨rfl, rfl, rfl, rfl, rfl, trivial⟩ ?_
        refine WC.seq (fun K34 k34 => ?_)
        refine WC.regionX (fun W' => Ext w W' ∧ Blk W' g2 32 _) (.load 0 (.load 1 (.load 3 (.alt 2 (.alt 4 (.load 5 (.fin)) (.none)) (.none))))) ⟨xW, m6⟩ (by kernel_rfl) (by kernel_rfl) (fun w35 x36 => ?_)
        have m6 := m6.ext x36
        have xW := Ext.trans xW x36
        refine WX.yld rfl rfl (blt rfl) rfl (Y.move rfl rfl) ?_
        refine WX.yld rfl rfl (blt rfl) rfl (Y.move rfl rfl) ?_
        refine WX.yld rfl rfl (blt rfl) rfl (Y.loadS rfl Try.underlying32 rfl ti32 rfl (Blk.row_c (fun _ h => h.2))) ?_
        refine WX.call rfl rfl (blt rfl) rfl rfl rfl has9 rfl ⟨xW, m6⟩ (of_tree _ _ _ _ _ (h_l.ext xW) (by omega)) ?_
        rintro _ w37 ⟨v39, v40, rfl, ow41, ow42, d43, x38⟩
        refine ⟨_, rfl, ?_⟩
        have r_v39_g2 := ne_res ow41 m6
        have ow41 := OwnL.base_le ow41 xW.size
        have r_v40_g2 := ne_res ow42 m6
        have ow42 := OwnL.base_le ow42 xW.size
        have d_v39_v40 := d43.symm
        have m6 := m6.ext x38
        have xW := Ext.trans xW x38
        obtain ⟨A44, n45, c46, rfl, hl47⟩ := OwnL.opened ow41 (fun _ => rfl) (by decide)
        have e_n45 := hl47.len
        try simp only [List.length_append, List.length_cons, List.length_nil, List.length_reverse, List.length_drop, List.length_take, List.length_map, List.length_replicate] at e_n45
        have z_n45 := hl47.nle
        obtain ⟨A48, n49, c50, rfl, hl51⟩ := OwnL.opened ow42 (fun _ => rfl) (by decide)
        have e_n49 := hl51.len
        try simp only [List.length_append, List.length_cons, List.length_nil, List.length_reverse, List.length_drop, List.length_take, List.length_map, List.length_replicate] at e_n49
        have z_n49 := hl51.nle
        refine WX.call rfl rfl (blt rfl) rfl rfl rfl has19 rfl ⟨xW, m6⟩ (visits_any _ _ _ _ _ _ _ _ _ _ _ _ _ _ (h_l.ext xW) hl47 hl51 (by omega)) ?_
        rintro _ w52 ⟨rfl, x53⟩
        refine ⟨_, rfl, ?_⟩
        have m6 := m6.ext x53
        have ow41 := ow41.ext x53
        have hl47 := hl47.ext x53
        have ow42 := ow42.ext x53
        have hl51 := hl51.ext x53
        have xW := Ext.trans xW x53
        refine WX.yld rfl rfl (blt rfl) rfl (Y.assign rfl rfl) ?_
        refine WX.nil ⟨xW, m6⟩ ?_
        refine WK.then_normal (k34 _ _ ?_)
        refine WC.sub [(0, _), (5, _), (6, _), (7, _), (10, _)] ⟨rfl, rfl, rfl, rfl, rfl, trivial⟩ ?_
        refine WC.seq (fun K54 k54 => ?_)
        refine WC.seq (fun K55 k55 => ?_)
        refine WC.region rfl ?_
        refine WL.yld rfl (blt rfl) rfl (Y.move rfl rfl) ?_
        refine WL.yld rfl (blt rfl) rfl (Y.move rfl rfl) ?_
        refine WL.yldG rfl (blt rfl) rfl rfl rfl (fun hb => Y.move rfl rfl) ?_
        refine WL.yldG rfl (blt rfl) rfl rfl rfl (fun hb => Y.neq rfl (evg rfl hb) rfl) ?_
        refine WL.yld rfl (blt rfl) rfl (Y.and rfl rfl rfl rfl) ?_
        refine WL.yld rfl (blt rfl) rfl (Y.move rfl rfl) ?_
        refine WL.yldG rfl (blt rfl) rfl rfl rfl (fun hb => Y.move rfl rfl) ?_
        refine WL.yldG rfl (blt rfl) rfl rfl rfl (fun hb => Y.move rfl (evg rfl hb)) ?_
        refine WL.yldGs [(_, _)] rfl (blt rfl) rfl rfl rfl (fun hb => Y.move rfl rfl) ?_
        refine WL.yldGs [(_, _)] rfl (blt rfl) rfl rfl rfl (fun hb => Y.move rfl rfl) ?_
        refine WL.yldGs [(_, _)] rfl (blt rfl) rfl rfl rfl (fun hb => Y.gtr rfl (evg (evg rfl hb.1) hb.2.1) (evg (evg rfl hb.1) hb.2.1)) ?_
        refine WL.yldG rfl (blt rfl) rfl rfl rfl (fun hb => Y.and rfl (evg rfl hb) (evg rfl hb) rfl) ?_
        refine WL.yld rfl (blt rfl) rfl (Y.or rfl rfl rfl rfl) ?_
        refine WL.nil ?_
        refine WK.then_normal (k55 _ _ ?_)
        refine WC.sub [(0, _), (10, _), (68, _)] ⟨rfl, rfl, rfl, trivial⟩ ?_
        refine WC.cond rfl (fun h56 => ?_) (fun h56 => ?_)
        ·
          clear k1 k7 k8 k13 k14 k15 k16 k18 k19 k22 k23 k25 k26 k34 k54 k55
          exact False.elim (It.vis_dead hv (show i = l.length by omega) (by rw [← zj, show j = 0 by omega]; rfl) aft bef h56)
        ·
          have p56 := (And.intro ((and_f (or_f h56).1).imp (fun h => h) (fun h => (eq_t (not_f h)))) ((and_f (or_f h56).2).imp (fun h => h) (fun h => (dec_f h))))
          refine WC.skip ?_
          refine WK.then_normal (k54 _ _ ?_)
          refine WC.sub [(0, _), (10, _)] ⟨rfl, rfl, trivial⟩ ?_
          refine WC.seq (fun K57 k57 => ?_)
          refine WC.region rfl ?_
          refine WL.yld rfl (blt rfl) rfl (Y.move rfl rfl) ?_
          refine WL.yld rfl (blt rfl) rfl (Yld.cast (Y.geq rfl rfl rfl) (vb (b := true) (decide_eq_true (It.visC_rng l s).1))) ?_
          refine WL.yld rfl (blt rfl) rfl (Y.move rfl rfl) ?_
          refine WL.yldW rfl (blt rfl) rfl rfl rfl (Y.move rfl rfl) ?_
          refine WL.yldW rfl (blt rfl) rfl rfl rfl (Y.move rfl rfl) ?_
          refine WL.yldW rfl (blt rfl) rfl rfl rfl (Y.lenSl rfl rfl rfl Try.underlying22 rfl) ?_
          refine WL.yldW rfl (blt rfl) rfl rfl rfl (Yld.cast (Y.leq rfl rfl rfl) (vb (b := true) (decide_eq_true (by have q := (It.visC_rng l s).2; omega)))) ?_
          refine WL.yld rfl (blt rfl) rfl (Y.pickT rfl rfl rfl) ?_
          refine WL.yld rfl (blt rfl) rfl (Y.move rfl rfl) ?_
          refine WL.callW rfl (blt rfl) rfl rfl rfl rfl rfl has8 rfl (awake_any _ ) ?_
          rintro _ w58 ⟨rfl, x59⟩
          refine ⟨_, rfl, ?_⟩
          have xW := Ext.trans xW x59
          refine WL.yld rfl (blt rfl) rfl (Y.pickT rfl rfl rfl) ?_
          refine WL.yld rfl (blt rfl) rfl (Y.assign rfl rfl) ?_
          refine WL.nil ?_
          refine WK.then_normal (k57 _ _ ?_)
          refine WC.sub [(4, _)] ⟨rfl, trivial⟩ ?_
          refine WC.ret ?_
          clear k1 k7 k8 k13 k14 k15 k16 k18 k19 k22 k23 k25 k26 k34 k54 k55 k57
          refine WK.ret [_] rfl ⟨rfl, trivial⟩ ?_
          exact ⟨ret1 (vb rfl), xW⟩
end LItreeVisits
end ItW

end Go.Proofs.Ytbdfhiihaemjhaa
