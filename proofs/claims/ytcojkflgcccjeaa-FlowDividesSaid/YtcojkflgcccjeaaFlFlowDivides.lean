/- The walk of the law. Conditions: what each theorem states. -/
import Derived.Test.YtcojkflgcccjeaaFlAwake
namespace Go.Proofs.Ytcojkflgcccjeaa
open Go Go.Eng Go.RowKit
set_option linter.unusedVariables false
namespace FlW
open R O V
namespace LFlowDivides
theorem ti3 : TI Try.prog 3 (.int .i64 0) 1 8 := TI.mk (by kernel_rfl)
theorem ti40 : TI Try.prog 40 (.agg #[.int .i64 0, .int .i64 0]) 2 16 := TI.mk (by kernel_rfl)
theorem ti46 : TI Try.prog 46 (.agg #[.int .i64 0, .int .i64 0, .int .i64 0, .int .i64 0, .int .i64 0, .int .i64 0, .int .i64 0]) 7 56 := TI.mk (by kernel_rfl)
theorem has9 : Has Try.prog 9 := ⟨_, Try.func9, rfl, by kernel_rfl⟩
theorem has18 : Has Try.prog 18 := ⟨_, Try.func18, rfl, by kernel_rfl⟩
theorem eqg46 : Try.prog.eqGuardType Try.prog.depth 46 = false := by kernel_rfl
theorem eq46 (a0 : Int) (a1 : Int) (a2 : Int) (a3 : Int) (a4 : Int) (a5 : Int) (a6 : Int) (b0 : Int) (b1 : Int) (b2 : Int) (b3 : Int) (b4 : Int) (b5 : Int) (b6 : Int) (w : World) : (Op.equalIn 10000 46 (.agg #[.int .i64 a0, .int .i64 a1, .int .i64 a2, .int .i64 a3, .int .i64 a4, .int .i64 a5, .int .i64 a6]) (.agg #[.int .i64 b0, .int .i64 b1, .int .i64 b2, .int .i64 b3, .int .i64 b4, .int .i64 b5, .int .i64 b6])).run Try.prog w = .ok ((a0 == b0) && ((a1 == b1) && (a2 == b2)) && ((a3 == b3) && (a4 == b4)) && (a5 == b5) && (a6 == b6)) w := by
  go_simp
  (repeat' split) <;> simp_all
theorem FlowDivides_any (A_l : Option Addr) (n_l c_l : Nat) (l : List Fl.Flow) (w : World) (h_l : Ls w A_l n_l c_l Fl.Flow.c 7 l) :
    Calls Try.prog 8 #[.slice A_l n_l c_l] w fun e w' => e = .returned (.bool true) ∧ Ext w w' := by
  have xW := Ext.refl w
  have e_l := h_l.len
  have z_l := h_l.nle
  refine calls_of_WC (args := [.slice A_l n_l c_l]) Try.func8 rfl rfl (ble rfl) ?_
  refine WC.seq (fun K1 k1 => ?_)
  refine WC.region rfl ?_
  refine WL.yld rfl (blt rfl) rfl (Y.assign rfl rfl) ?_
  refine WL.nil ?_
  refine WK.then_normal (k1 _ _ ?_)
  refine WC.sub [(0, _)] ⟨rfl, trivial⟩ ?_
  refine WC.seq (fun K2 k2 => ?_)
  refine WC.seq (fun K3 k3 => ?_)
  refine WC.region rfl ?_
  refine WL.yld rfl (blt rfl) rfl (Y.move rfl rfl) ?_
  refine WL.yld rfl (blt rfl) rfl (Y.lenSl rfl rfl rfl Try.underlying25 rfl) ?_
  refine WL.yld rfl (blt rfl) rfl (Y.gtr rfl rfl rfl) ?_
  refine WL.nil ?_
  refine WK.then_normal (k3 _ _ ?_)
  refine WC.sub [(0, _), (9, _)] ⟨rfl, rfl, trivial⟩ ?_
  refine WC.cond rfl (fun h4 => ?_) (fun h4 => ?_)
  ·
    have p4 := (dec_t h4)
    refine WC.seq (fun K5 k5 => ?_)
    refine WC.region rfl ?_
    refine WL.call rfl (blt rfl) rfl rfl rfl has9 rfl (awake_any _ ) ?_
    rintro _ w6 ⟨rfl, x7⟩
    refine ⟨_, rfl, ?_⟩
    have xW := Ext.trans xW x7
    refine WL.yld rfl (blt rfl) rfl (Y.assign rfl rfl) ?_
    refine WL.nil ?_
    refine WK.then_normal (k5 _ _ ?_)
    refine WC.sub [(2, _)] ⟨rfl, trivial⟩ ?_
    refine WC.ret ?_
    refine WK.then_ret ?_
    clear k1 k2 k3 k5
    refine WK.ret [_] rfl ⟨rfl, trivial⟩ ?_
    exact ⟨ret1 (vb rfl), xW⟩
  ·
    have p4 := (dec_f h4)
    refine WC.skip ?_
    refine WK.then_normal (k2 _ _ ?_)
    refine WC.sub [(0, _)] ⟨rfl, trivial⟩ ?_
    refine WC.seq (fun K8 k8 => ?_)
    refine WC.seq (fun K9 k9 => ?_)
    refine WC.region rfl ?_
    refine WL.yld rfl (blt rfl) rfl (Y.assign rfl rfl) ?_
    refine WL.nil ?_
    refine WK.then_normal (k9 _ _ ?_)
    refine WC.block ?_
    refine WC.sub [(3, _), (0, _)] ⟨rfl, rfl, trivial⟩ ?_
    refine WC.loopS 1 (fun mz Ed W' => ∃ i : Nat, mz = n_l - i ∧ Ed = [(3, .int .i64 ((i : Nat) : Int))] ∧ Ext w W' ∧ (i ≤ n_l) ∧ (True)) _ ⟨0, rfl, rfl, xW, (Nat.zero_le _), trivial⟩ ?_
    rintro _ _ w10 ⟨i, rfl, rfl, xW, le_i, inv_i⟩
    refine WC.sub [(3, _), (0, _)] ⟨rfl, rfl, trivial⟩ ?_
    refine WC.seq (fun K11 k11 => ?_)
    refine WC.seq (fun K12 k12 => ?_)
    refine WC.region rfl ?_
    refine WL.yld rfl (blt rfl) rfl (Y.move rfl rfl) ?_
    refine WL.yld rfl (blt rfl) rfl (Y.move rfl rfl) ?_
    refine WL.yld rfl (blt rfl) rfl (Y.lenSl rfl rfl rfl Try.underlying25 rfl) ?_
    refine WL.yld rfl (blt rfl) rfl (Y.lss rfl rfl rfl) ?_
    refine WL.nil ?_
    refine WK.then_normal (k12 _ _ ?_)
    refine WC.sub [(0, _), (3, _), (14, _)] ⟨rfl, rfl, rfl, trivial⟩ ?_
    refine WC.cond rfl (fun h13 => ?_) (fun h13 => ?_)
    ·
      have p13 := (dec_t h13)
      refine WC.skip ?_
      refine WK.then_normal (k11 _ _ ?_)
      refine WC.sub [(0, _), (3, _)] ⟨rfl, rfl, trivial⟩ ?_
      refine WC.seq (fun K14 k14 => ?_)
      refine WC.block ?_
      refine WC.seq (fun K15 k15 => ?_)
      refine WC.regionX (fun W' => Ext w W') (.load 0 (.load 1 (.load 2 (.load 3 (.load 4 (.load 5 (.load 6 (.load 7 (.load 8 (.load 9 (.load 10 (.load 11 (.load 12 (.alt 13 (.load 14 (.fin)) (.none))))))))))))))) xW (by kernel_rfl) (by kernel_rfl) (fun w16 x17 => ?_)
      have xW := Ext.trans xW x17
      refine WX.yld rfl rfl (blt rfl) rfl (Y.move rfl rfl) ?_
      refine WX.yld rfl rfl (blt rfl) rfl (Y.move rfl rfl) ?_
      refine WX.yld rfl rfl (blt rfl) rfl (Y.move rfl rfl) ?_
      have b18 : i < n_l := by omega
      refine WX.yld rfl rfl (blt rfl) rfl (Y.indexLs i (h_l.ext xW) rfl Try.underlying25 ti46 rfl rfl rfl b18) ?_
      refine WX.yld rfl rfl (blt rfl) rfl (Y.fieldE rfl Try.underlying46 rfl ti40 (by decide) rfl) ?_
      refine WX.yld rfl rfl (blt rfl) rfl (Y.fieldE rfl Try.underlying40 rfl ti3 (by decide) rfl) ?_
      refine WX.yld rfl rfl (blt rfl) rfl (Y.load1 rfl Try.underlying3 rfl rfl (Ls.at_c (fun _ h => (h_l.ext (h))) b18 rfl)) ?_
      refine WX.yld rfl rfl (blt rfl) rfl (Y.move rfl rfl) ?_
      refine WX.yld rfl rfl (blt rfl) rfl (Y.move rfl rfl) ?_
      have b19 : i < n_l := by omega
      refine WX.yld rfl rfl (blt rfl) rfl (Y.indexLs i (h_l.ext xW) rfl Try.underlying25 ti46 rfl rfl rfl b19) ?_
      refine WX.yld rfl rfl (blt rfl) rfl (Y.fieldE rfl Try.underlying46 rfl ti40 (by decide) rfl) ?_
      refine WX.yld rfl rfl (blt rfl) rfl (Y.fieldE rfl Try.underlying40 rfl ti3 (by decide) rfl) ?_
      refine WX.yld rfl rfl (blt rfl) rfl (Y.load1 rfl Try.underlying3 rfl rfl (Ls.at_c (fun _ h => (h_l.ext (h))) b19 rfl)) ?_
      refine WX.call rfl rfl (blt rfl) rfl rfl rfl has18 rfl xW (between_any _ _ _ _ _ _ _ (h_l.ext xW) (by omega)) ?_
      rintro _ w20 ⟨v22, rfl, ow23, x21⟩
      refine ⟨_, rfl, ?_⟩
      have ow23 := OwnL.base_le ow23 xW.size
      have xW := Ext.trans xW x21
      refine WX.yld rfl rfl (blt rfl) rfl (Y.assign rfl rfl) ?_
      refine WX.nil xW ?_
      refine WK.then_normal (k15 _ _ ?_)
      refine WC.sub [(0, _), (3, _), (4, _)] ⟨rfl, rfl, rfl, trivial⟩ ?_
      refine WC.seq (fun K24 k24 => ?_)
      refine WC.region rfl ?_
      refine WL.yld rfl (blt rfl) rfl (Y.assign rfl rfl) ?_
      refine WL.nil ?_
      refine WK.then_normal (k24 _ _ ?_)
      refine WC.seq (fun K25 k25 => ?_)
      refine WC.seq (fun K26 k26 => ?_)
      refine WC.region rfl ?_
      refine WL.yld rfl (blt rfl) rfl (Y.assign rfl rfl) ?_
      refine WL.nil ?_
      refine WK.then_normal (k26 _ _ ?_)
      refine WC.block ?_
      refine WC.sub [(6, _), (5, _), (0, _), (3, _), (4, _)] ⟨rfl, rfl, rfl, rfl, rfl, trivial⟩ ?_
      refine WC.loopS 2 (fun mz Ed W' => ∃ j : Nat, ∃ k : Nat, mz = n_l - j ∧ Ed = [(6, .int .i64 ((j : Nat) : Int)), (5, .int .i64 ((k : Nat) : Int))] ∧ Ext w W' ∧ OwnL W' w.heap.size 46 Fl.Flow.c 7 v22 _ ∧ (j ≤ n_l) ∧ (k = (Fl.betweenF (l.take j) l[i]!.ft l[i]!.tt).length)) _ ⟨0, 0, rfl, rfl, xW, ow23, (Nat.zero_le _), rfl⟩ ?_
      rintro _ _ w27 ⟨j, k, rfl, rfl, xW, ow23, le_j, kj⟩
      refine WC.sub [(6, _), (5, _), (0, _), (3, _), (4, _)] ⟨rfl, rfl, rfl, rfl, rfl, trivial⟩ ?_
      refine WC.seq (fun K28 k28 => ?_)
      refine WC.seq (fun K29 k29 => ?_)
      refine WC.region rfl ?_
      refine WL.yld rfl (blt rfl) rfl (Y.move rfl rfl) ?_
      refine WL.yld rfl (blt rfl) rfl (Y.move rfl rfl) ?_
      refine WL.yld rfl (blt rfl) rfl (Y.lenSl rfl rfl rfl Try.underlying25 rfl) ?_
      refine WL.yld rfl (blt rfl) rfl (Y.lss rfl rfl rfl) ?_
      refine WL.nil ?_
      refine WK.then_normal (k29 _ _ ?_)
      refine WC.sub [(0, _), (3, _), (4, _), (5, _), (6, _), (34, _)] ⟨rfl, rfl, rfl, rfl, rfl, rfl, trivial⟩ ?_
      refine WC.cond rfl (fun h30 => ?_) (fun h30 => ?_)
      ·
        have p30 := (dec_t h30)
        refine WC.skip ?_
        refine WK.then_normal (k28 _ _ ?_)
        refine WC.sub [(0, _), (3, _), (4, _), (5, _), (6, _)] ⟨rfl, rfl, rfl, rfl, rfl, trivial⟩ ?_
        refine WC.seq (fun K31 k31 => ?_)
        refine WC.block ?_
        refine WC.seq (fun K32 k32 => ?_)
        refine WC.seq (fun K33 k33 => ?_)
        refine WC.regionDq (by kernel_rfl) (by kernel_rfl) rfl ?_
        refine WQ.yld rfl (blt rfl) rfl (Y.move rfl rfl) ?_
        refine WQ.yld rfl (blt rfl) rfl (Y.move rfl rfl) ?_
        have b34 : j < n_l := by omega
        refine WQ.yld rfl (blt rfl) rfl (Y.indexLs j (h_l.ext xW) rfl Try.underlying25 ti46 rfl rfl rfl b34) ?_
        refine WQ.yld rfl (blt rfl) rfl (Y.fieldE rfl Try.underlying46 rfl ti40 (by decide) rfl) ?_
        refine WQ.yld rfl (blt rfl) rfl (Y.fieldE rfl Try.underlying40 rfl ti3 (by decide) rfl) ?_
        refine WQ.yld rfl (blt rfl) rfl (Y.load1 rfl Try.underlying3 rfl rfl (Ls.at_ext (h_l.ext xW) b34 rfl)) ?_
        refine WQ.yld rfl (blt rfl) rfl (Y.move rfl rfl) ?_
        refine WQ.yld rfl (blt rfl) rfl (Y.move rfl rfl) ?_
        have b35 : i < n_l := by omega
        refine WQ.yld rfl (blt rfl) rfl (Y.indexLs i (h_l.ext xW) rfl Try.underlying25 ti46 rfl rfl rfl b35) ?_
        refine WQ.yld rfl (blt rfl) rfl (Y.fieldE rfl Try.underlying46 rfl ti40 (by decide) rfl) ?_
        refine WQ.yld rfl (blt rfl) rfl (Y.fieldE rfl Try.underlying40 rfl ti3 (by decide) rfl) ?_
        refine WQ.yld rfl (blt rfl) rfl (Y.load1 rfl Try.underlying3 rfl rfl (Ls.at_ext (h_l.ext xW) b35 rfl)) ?_
        refine WQ.yld rfl (blt rfl) rfl (Y.neq rfl rfl rfl) ?_
        refine WQ.yld rfl (blt rfl) rfl (Y.move rfl rfl) ?_
        refine WQ.yldG rfl (blt rfl) rfl rfl rfl (fun hb => Y.move rfl rfl) ?_
        refine WQ.yldG rfl (blt rfl) rfl rfl rfl (fun hb => Y.move rfl rfl) ?_
        refine WQ.yldG rfl (blt rfl) rfl rfl rfl (fun hb => Y.indexLs j (h_l.ext xW) rfl Try.underlying25 ti46 (evg rfl hb) (evg rfl hb) rfl (by have q0 := (eq_t (not_f hb)); omega)) ?_
        refine WQ.yldG rfl (blt rfl) rfl rfl rfl (fun hb => Y.fieldE rfl Try.underlying46 rfl ti40 (by decide) (evg rfl hb)) ?_
        refine WQ.yldG rfl (blt rfl) rfl rfl rfl (fun hb => Y.fieldE rfl Try.underlying40 rfl ti3 (by decide) (evg rfl hb)) ?_
        refine WQ.yldG rfl (blt rfl) rfl rfl rfl (fun hb => Y.load1 rfl Try.underlying3 rfl (evg rfl hb) (Ls.at_ext (h_l.ext xW) (by have q0 := (eq_t (not_f hb)); omega) rfl)) ?_
        refine WQ.yldG rfl (blt rfl) rfl rfl rfl (fun hb => Y.move rfl rfl) ?_
        refine WQ.yldG rfl (blt rfl) rfl rfl rfl (fun hb => Y.move rfl rfl) ?_
        refine WQ.yldG rfl (blt rfl) rfl rfl rfl (fun hb => Y.indexLs i (h_l.ext xW) rfl Try.underlying25 ti46 (evg rfl hb) (evg rfl hb) rfl (by have q0 := (eq_t (not_f hb)); omega)) ?_
        refine WQ.yldG rfl (blt rfl) rfl rfl rfl (fun hb => Y.fieldE rfl Try.underlying46 rfl ti40 (by decide) (evg rfl hb)) ?_
        refine WQ.yldG rfl (blt rfl) rfl rfl rfl (fun hb => Y.fieldE rfl Try.underlying40 rfl ti3 (by decide) (evg rfl hb)) ?_
        refine WQ.yldG rfl (blt rfl) rfl rfl rfl (fun hb => Y.load1 rfl Try.underlying3 rfl (evg rfl hb) (Ls.at_ext (h_l.ext xW) (by have q0 := (eq_t (not_f hb)); omega) rfl)) ?_
        refine WQ.yldG rfl (blt rfl) rfl rfl rfl (fun hb => Y.neq rfl (evg rfl hb) (evg rfl hb)) ?_
        refine WQ.yld rfl (blt rfl) rfl (Y.or rfl rfl rfl rfl) ?_
        refine WQ.done (fun w36 x37 => ?_)
        have ow23 := ow23.ext x37
        have xW := Ext.trans xW x37
        refine WK.then_normal (k33 _ _ ?_)
        refine WC.sub [(0, _), (3, _), (4, _), (5, _), (6, _), (64, _)] ⟨rfl, rfl, rfl, rfl, rfl, rfl, trivial⟩ ?_
        refine WC.cond rfl (fun h38 => ?_) (fun h38 => ?_)
        ·
          have p38 := ((or_t h38).imp (fun h => (eq_f (not_t h))) (fun h => (eq_f (not_t h))))
          refine WC.exit ?_
          refine WK.then_exit ?_
          refine WK.in_exit ?_
          refine WK.then_normal (k31 _ _ ?_)
          refine WC.sub [(0, _), (3, _), (4, _), (5, _), (6, _)] ⟨rfl, rfl, rfl, rfl, rfl, trivial⟩ ?_
          refine WC.region rfl ?_
          refine WL.yld rfl (blt rfl) rfl (Y.move rfl rfl) ?_
          refine WL.yld rfl (blt rfl) rfl (Y.add rfl rfl rfl (wrap_i64 (by first | omega | (dsimp only; omega)))) ?_
          refine WL.yld rfl (blt rfl) rfl (Y.assign rfl rfl) ?_
          refine WL.nil ?_
          refine WK.roundS _ [(6, .int .i64 (((j + 1) : Nat) : Int)), (5, .int .i64 ((k : Nat) : Int))] ⟨rfl, rfl, rfl, rfl, rfl, trivial⟩ ?_ ⟨(j + 1), k, rfl, rfl, xW, ow23, (by omega), (by rw [Fl.between_take l _ _ (show j < l.length from by omega), Fl.div_no h38, if_neg Bool.false_ne_true, List.append_nil]; exact kj)⟩
          show _ - (j + 1) < _ - j; omega
        ·
          have p38 := (And.intro (eq_t (not_f (or_f h38).1)) (eq_t (not_f (or_f h38).2)))
          have hd := h38
          refine WC.skip ?_
          refine WK.then_normal (k32 _ _ ?_)
          refine WC.sub [(0, _), (3, _), (4, _), (5, _), (6, _)] ⟨rfl, rfl, rfl, rfl, rfl, trivial⟩ ?_
          refine WC.seq (fun K39 k39 => ?_)
          refine WC.seq (fun K40 k40 => ?_)
          refine WC.regionDq (by kernel_rfl) (by kernel_rfl) rfl ?_
          refine WQ.yld rfl (blt rfl) rfl (Y.move rfl rfl) ?_
          refine WQ.yld rfl (blt rfl) rfl (Y.move rfl rfl) ?_
          obtain ⟨A41, n42, c43, rfl, hl44⟩ := OwnL.opened ow23 (fun _ => rfl) (by decide)
          have e_n42 := hl44.len
          try simp only [List.length_append, List.length_cons, List.length_nil, List.length_reverse, List.length_drop, List.length_take] at e_n42
          have z_n42 := hl44.nle
          refine WQ.yld rfl (blt rfl) rfl (Y.lenSl rfl rfl rfl Try.underlying25 rfl) ?_
          refine WQ.yld rfl (blt rfl) rfl (Y.geq rfl rfl rfl) ?_
          refine WQ.yld rfl (blt rfl) rfl (Y.move rfl rfl) ?_
          refine WQ.yldG rfl (blt rfl) rfl rfl rfl (fun hb => Y.move rfl rfl) ?_
          refine WQ.yldG rfl (blt rfl) rfl rfl rfl (fun hb => Y.move rfl rfl) ?_
          refine WQ.yldG rfl (blt rfl) rfl rfl rfl (fun hb => Y.indexLs k hl44 rfl Try.underlying25 ti46 (evg rfl hb) (evg rfl hb) rfl (by have q0 := (dec_f hb); omega)) ?_
          refine WQ.yldG rfl (blt rfl) rfl rfl rfl (fun hb => Y.loadS (cs := [_, _, _, _, _, _, _]) rfl Try.underlying46 rfl ti46 (evg rfl hb) (Ls.part_ext hl44 (by have q0 := (dec_f hb); omega) rfl)) ?_
          refine WQ.yldG rfl (blt rfl) rfl rfl rfl (fun hb => Y.move rfl rfl) ?_
          refine WQ.yldG rfl (blt rfl) rfl rfl rfl (fun hb => Y.move rfl rfl) ?_
          refine WQ.yldG rfl (blt rfl) rfl rfl rfl (fun hb => Y.indexLs j (h_l.ext xW) rfl Try.underlying25 ti46 (evg rfl hb) (evg rfl hb) rfl (by have q0 := (dec_f hb); omega)) ?_
          refine WQ.yldG rfl (blt rfl) rfl rfl rfl (fun hb => Y.loadS (cs := [_, _, _, _, _, _, _]) rfl Try.underlying46 rfl ti46 (evg rfl hb) (Ls.part_ext (h_l.ext xW) (by have q0 := (dec_f hb); omega) rfl)) ?_
          refine WQ.yldG rfl (blt rfl) rfl rfl rfl (fun hb => Y.neqS rfl eqg46 (eq46 _ _ _ _ _ _ _ _ _ _ _ _ _ _) (evg rfl hb) (evg rfl hb)) ?_
          refine WQ.yld rfl (blt rfl) rfl (Y.or rfl rfl rfl rfl) ?_
          refine WQ.done (fun w45 x46 => ?_)
          have ow23 := ow23.ext x46
          have hl44 := hl44.ext x46
          have xW := Ext.trans xW x46
          refine WK.then_normal (k40 _ _ ?_)
          refine WC.sub [(0, _), (3, _), (4, _), (5, _), (6, _), (79, _)] ⟨rfl, rfl, rfl, rfl, rfl, rfl, trivial⟩ ?_
          refine WC.cond rfl (fun h47 => ?_) (fun h47 => ?_)
          ·
            clear k1 k2 k3 k8 k9 k11 k12 k14 k15 k24 k25 k26 k28 k29 k31 k32 k33 k39 k40
            have q := Fl.between_at (show j < l.length from by omega) (Fl.div_yes hd)
            rw [← kj] at q
            rcases or_t h47 with z | z
            · have := dec_t z; omega
            · exact (Fl.ne_of_eqFl z q.2).elim
          ·
            have p47 := (dec_f (or_f h47).1)
            refine WC.skip ?_
            refine WK.then_normal (k39 _ _ ?_)
            refine WC.sub [(0, _), (3, _), (4, _), (5, _), (6, _)] ⟨rfl, rfl, rfl, rfl, rfl, trivial⟩ ?_
            refine WC.region rfl ?_
            refine WL.yld rfl (blt rfl) rfl (Y.move rfl rfl) ?_
            refine WL.yld rfl (blt rfl) rfl (Y.add rfl rfl rfl (wrap_i64 (by first | omega | (dsimp only; omega)))) ?_
            refine WL.yld rfl (blt rfl) rfl (Y.assign rfl rfl) ?_
            refine WL.nil ?_
            refine WK.in_normal ?_
            refine WK.then_normal (k31 _ _ ?_)
            refine WC.sub [(0, _), (3, _), (4, _), (5, _), (6, _)] ⟨rfl, rfl, rfl, rfl, rfl, trivial⟩ ?_
            refine WC.region rfl ?_
            refine WL.yld rfl (blt rfl) rfl (Y.move rfl rfl) ?_
            refine WL.yld rfl (blt rfl) rfl (Y.add rfl rfl rfl (wrap_i64 (by first | omega | (dsimp only; omega)))) ?_
            refine WL.yld rfl (blt rfl) rfl (Y.assign rfl rfl) ?_
            refine WL.nil ?_
            refine WK.roundS _ [(6, .int .i64 (((j + 1) : Nat) : Int)), (5, .int .i64 (((k + 1) : Nat) : Int))] ⟨rfl, rfl, rfl, rfl, rfl, trivial⟩ ?_ ⟨(j + 1), (k + 1), rfl, rfl, xW, ow23, (by omega), (by rw [Fl.between_take l _ _ (show j < l.length from by omega), Fl.div_yes h38, if_pos rfl, List.length_append, ← kj]; rfl)⟩
            show _ - (j + 1) < _ - j; omega
      ·
        have p30 := (dec_f h30)
        refine WC.exit ?_
        refine WK.then_exit ?_
        refine WK.then_exit ?_
        refine WK.in_exit ?_
        refine WK.then_normal (k25 _ _ ?_)
        refine WC.sub [(0, _), (3, _), (4, _), (5, _)] ⟨rfl, rfl, rfl, rfl, trivial⟩ ?_
        refine WC.seq (fun K48 k48 => ?_)
        refine WC.region rfl ?_
        refine WL.yld rfl (blt rfl) rfl (Y.move rfl rfl) ?_
        refine WL.yld rfl (blt rfl) rfl (Y.move rfl rfl) ?_
        obtain ⟨A49, n50, c51, rfl, hl52⟩ := OwnL.opened ow23 (fun _ => rfl) (by decide)
        have e_n50 := hl52.len
        try simp only [List.length_append, List.length_cons, List.length_nil, List.length_reverse, List.length_drop, List.length_take] at e_n50
        have z_n50 := hl52.nle
        refine WL.yld rfl (blt rfl) rfl (Y.lenSl rfl rfl rfl Try.underlying25 rfl) ?_
        refine WL.yld rfl (blt rfl) rfl (Y.neq rfl rfl rfl) ?_
        refine WL.nil ?_
        refine WK.then_normal (k48 _ _ ?_)
        refine WC.sub [(0, _), (3, _), (85, _)] ⟨rfl, rfl, rfl, trivial⟩ ?_
        refine WC.cond rfl (fun h53 => ?_) (fun h53 => ?_)
        ·
          clear k1 k2 k3 k8 k9 k11 k12 k14 k15 k24 k25 k26 k28 k29 k48
          have z := eq_f (not_t h53)
          rw [List.take_of_length_le (by omega)] at kj
          omega
        ·
          have p53 := (eq_t (not_f h53))
          refine WC.skip ?_
          refine WK.in_normal ?_
          refine WK.then_normal (k14 _ _ ?_)
          refine WC.sub [(0, _), (3, _)] ⟨rfl, rfl, trivial⟩ ?_
          refine WC.region rfl ?_
          refine WL.yld rfl (blt rfl) rfl (Y.move rfl rfl) ?_
          refine WL.yld rfl (blt rfl) rfl (Y.add rfl rfl rfl (wrap_i64 (by first | omega | (dsimp only; omega)))) ?_
          refine WL.yld rfl (blt rfl) rfl (Y.assign rfl rfl) ?_
          refine WL.nil ?_
          refine WK.roundS _ [(3, .int .i64 (((i + 1) : Nat) : Int))] ⟨rfl, rfl, trivial⟩ ?_ ⟨(i + 1), rfl, rfl, xW, (by omega), trivial⟩
          show _ - (i + 1) < _ - i; omega
    ·
      have p13 := (dec_f h13)
      refine WC.exit ?_
      refine WK.then_exit ?_
      refine WK.then_exit ?_
      refine WK.in_exit ?_
      refine WK.then_normal (k8 _ _ ?_)
      refine WC.sub [] trivial ?_
      refine WC.seq (fun K54 k54 => ?_)
      refine WC.region rfl ?_
      refine WL.call rfl (blt rfl) rfl rfl rfl has9 rfl (awake_any _ ) ?_
      rintro _ w55 ⟨rfl, x56⟩
      refine ⟨_, rfl, ?_⟩
      have xW := Ext.trans xW x56
      refine WL.yld rfl (blt rfl) rfl (Y.assign rfl rfl) ?_
      refine WL.nil ?_
      refine WK.then_normal (k54 _ _ ?_)
      refine WC.sub [(2, _)] ⟨rfl, trivial⟩ ?_
      refine WC.ret ?_
      clear k1 k2 k3 k8 k9 k11 k12 k54
      refine WK.ret [_] rfl ⟨rfl, trivial⟩ ?_
      exact ⟨ret1 (vb rfl), xW⟩
end LFlowDivides
end FlW

end Go.Proofs.Ytcojkflgcccjeaa
