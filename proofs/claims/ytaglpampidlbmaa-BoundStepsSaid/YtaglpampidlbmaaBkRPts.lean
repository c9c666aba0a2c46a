/- Contracts: the reference's points. Conditions: what each theorem states. -/
import Derived.Test.YtaglpampidlbmaaBkPts
import Derived.Test.YtaglpampidlbmaaBkLink
namespace Go.Proofs.Ytaglpampidlbmaa
open Go Go.Eng Go.RowKit
set_option linter.unusedVariables false
set_option linter.unusedSimpArgs false
namespace CkW
open R P K
namespace RP
theorem ti3 : TI Try.prog 3 (.int .i64 0) 1 8 := TI.mk (by kernel_rfl)
theorem ti29 : TI Try.prog 29 (.agg #[.int .i64 0, .int .i64 0]) 2 16 := TI.mk (by kernel_rfl)
theorem ti42 : TI Try.prog 42 (.agg #[.int .i64 0, .int .i64 0, .int .i64 0, .int .i64 0, .int .i64 0]) 5 40 := TI.mk (by kernel_rfl)
theorem has29 : Has Try.prog 29 := ⟨_, Try.func29, rfl, by kernel_rfl⟩
theorem has52 : Has Try.prog 52 := ⟨_, Try.func52, rfl, by kernel_rfl⟩
theorem has56 : Has Try.prog 56 := ⟨_, Try.func56, rfl, by kernel_rfl⟩
theorem has57 : Has Try.prog 57 := ⟨_, Try.func57, rfl, by kernel_rfl⟩
theorem has70 : Has Try.prog 70 := ⟨_, Try.func70, rfl, by kernel_rfl⟩
theorem has_any (A_l : Option Addr) (n_l c_l : Nat) (l : List Int) (n : Int) (w : World) (h_l : Ls w A_l n_l c_l Ck.ic 1 l) :
    Calls Try.prog 56 #[.slice A_l n_l c_l, .int .i64 n] w fun e w' => e = .returned (.bool (decide (n ∈ l))) ∧ Ext w w' := by
  have xW := Ext.refl w
  have e_l := h_l.len
  have z_l := h_l.nle
  refine calls_of_WC (args := [.slice A_l n_l c_l, .int .i64 n]) Try.func56 rfl rfl (ble rfl) ?_
  refine WC.seq (fun K1 k1 => ?_)
  refine WC.region rfl ?_
  refine WL.yld rfl (blt rfl) rfl (Y.assign rfl rfl) ?_
  refine WL.nil ?_
  refine WK.then_normal (k1 _ _ ?_)
  refine WC.sub [(0, _), (1, _)] ⟨rfl, rfl, trivial⟩ ?_
  refine WC.seq (fun K2 k2 => ?_)
  refine WC.seq (fun K3 k3 => ?_)
  refine WC.region rfl ?_
  refine WL.yld rfl (blt rfl) rfl (Y.assign rfl rfl) ?_
  refine WL.nil ?_
  refine WK.then_normal (k3 _ _ ?_)
  refine WC.block ?_
  refine WC.sub [(5, _), (0, _), (1, _)] ⟨rfl, rfl, rfl, trivial⟩ ?_
  refine WC.loopS 1 (fun mz Ed W' => ∃ i : Nat, mz = n_l - i ∧ Ed = [(5, .int .i64 ((i : Nat) : Int))] ∧ Ext w W' ∧ (i ≤ n_l) ∧ (∀ j, j < i → l[j]! ≠ n)) _ ⟨0, rfl, rfl, xW, (Nat.zero_le _), (fun j hj => absurd hj (Nat.not_lt_zero j))⟩ ?_
  rintro _ _ w4 ⟨i, rfl, rfl, xW, le_i, inv_i⟩
  refine WC.sub [(5, _), (0, _), (1, _)] ⟨rfl, rfl, rfl, trivial⟩ ?_
  refine WC.seq (fun K5 k5 => ?_)
  refine WC.seq (fun K6 k6 => ?_)
  refine WC.region rfl ?_
  refine WL.yld rfl (blt rfl) rfl (Y.move rfl rfl) ?_
  refine WL.yld rfl (blt rfl) rfl (Y.move rfl rfl) ?_
  refine WL.yld rfl (blt rfl) rfl (Y.lenSl rfl rfl rfl Try.underlying35 rfl) ?_
  refine WL.yld rfl (blt rfl) rfl (Y.lss rfl rfl rfl) ?_
  refine WL.nil ?_
  refine WK.then_normal (k6 _ _ ?_)
  refine WC.sub [(0, _), (1, _), (5, _), (9, _)] ⟨rfl, rfl, rfl, rfl, trivial⟩ ?_
  refine WC.cond rfl (fun h7 => ?_) (fun h7 => ?_)
  ·
    have p7 := (dec_t h7)
    refine WC.skip ?_
    refine WK.then_normal (k5 _ _ ?_)
    refine WC.sub [(0, _), (1, _), (5, _)] ⟨rfl, rfl, rfl, trivial⟩ ?_
    refine WC.seq (fun K8 k8 => ?_)
    refine WC.block ?_
    refine WC.seq (fun K9 k9 => ?_)
    refine WC.region rfl ?_
    refine WL.yld rfl (blt rfl) rfl (Y.move rfl rfl) ?_
    refine WL.yld rfl (blt rfl) rfl (Y.move rfl rfl) ?_
    have b10 : i < n_l := by omega
    refine WL.yld rfl (blt rfl) rfl (Y.indexLs i (h_l.ext xW) rfl Try.underlying35 ti3 rfl rfl rfl b10) ?_
    refine WL.yld rfl (blt rfl) rfl (Y.load1 rfl Try.underlying3 rfl rfl (Ls.at_eq (h_l.ext xW) b10 rfl)) ?_
    refine WL.yld rfl (blt rfl) rfl (Y.move rfl rfl) ?_
    refine WL.yld rfl (blt rfl) rfl (Y.eql rfl rfl rfl) ?_
    refine WL.nil ?_
    refine WK.then_normal (k9 _ _ ?_)
    refine WC.sub [(0, _), (1, _), (5, _), (17, _)] ⟨rfl, rfl, rfl, rfl, trivial⟩ ?_
    refine WC.cond rfl (fun h11 => ?_) (fun h11 => ?_)
    ·
      have p11 := (eq_t h11)
      refine WC.seq (fun K12 k12 => ?_)
      refine WC.region rfl ?_
      refine WL.yld rfl (blt rfl) rfl (Y.assign rfl rfl) ?_
      refine WL.nil ?_
      refine WK.then_normal (k12 _ _ ?_)
      refine WC.sub [(4, _)] ⟨rfl, trivial⟩ ?_
      refine WC.ret ?_
      refine WK.in_ret ?_
      refine WK.then_ret ?_
      refine WK.then_ret ?_
      refine WK.in_ret ?_
      refine WK.then_ret ?_
      clear k1 k2 k3 k5 k6 k8 k9 k12
      refine WK.ret [_] rfl ⟨rfl, trivial⟩ ?_
      refine ⟨ret1 (vb (Ck.has_yes (by omega) p11).symm), xW⟩
    ·
      have p11 := (eq_f h11)
      refine WC.skip ?_
      refine WK.in_normal ?_
      refine WK.then_normal (k8 _ _ ?_)
      refine WC.sub [(0, _), (1, _), (5, _)] ⟨rfl, rfl, rfl, trivial⟩ ?_
      refine WC.region rfl ?_
      refine WL.yld rfl (blt rfl) rfl (Y.move rfl rfl) ?_
      refine WL.yld rfl (blt rfl) rfl (Y.add rfl rfl rfl (wrap_i64 (by first | omega | (dsimp only; omega)))) ?_
      refine WL.yld rfl (blt rfl) rfl (Y.assign rfl rfl) ?_
      refine WL.nil ?_
      refine WK.roundS _ [(5, .int .i64 (((i + 1) : Nat) : Int))] ⟨rfl, rfl, rfl, trivial⟩ ?_ ⟨(i + 1), rfl, rfl, xW, (by omega), (fun j hj => by rcases Nat.lt_succ_iff_lt_or_eq.1 hj with h | h; exact inv_i j h; subst h; exact p11)⟩
      show _ - (i + 1) < _ - i; omega
  ·
    have p7 := (dec_f h7)
    refine WC.exit ?_
    refine WK.then_exit ?_
    refine WK.then_exit ?_
    refine WK.in_exit ?_
    refine WK.then_normal (k2 _ _ ?_)
    refine WC.sub [] trivial ?_
    refine WC.seq (fun K13 k13 => ?_)
    refine WC.region rfl ?_
    refine WL.yld rfl (blt rfl) rfl (Y.assign rfl rfl) ?_
    refine WL.nil ?_
    refine WK.then_normal (k13 _ _ ?_)
    refine WC.ret ?_
    clear k1 k2 k3 k5 k6 k13
    refine WK.ret [_] rfl ⟨rfl, trivial⟩ ?_
    refine ⟨ret1 (vb (Ck.has_no (fun j hj => inv_i j (by omega))).symm), xW⟩
theorem put_any (v_l : Value) (b_l : Nat) (l : List Int) (n : Int) (w : World) (ow_l : OwnL w b_l 3 Ck.ic 1 v_l l) (hb_l : b_l ≤ w.heap.size) (hn : l.length ≤ 2000) :
    Calls Try.prog 70 #[v_l, .int .i64 n] w fun e w' => ∃ v', e = .returned v' ∧ OwnL w' b_l 3 Ck.ic 1 v' (Ck.put l n) ∧ Ext w w' := by
  have xW := Ext.refl w
  obtain ⟨A_l, n_l, c_l, rfl, h_l⟩ := OwnL.opened ow_l (fun _ => rfl) (by decide)
  have e_l := h_l.len
  have z_l := h_l.nle
  refine calls_of_WC (args := [.slice A_l n_l c_l, .int .i64 n]) Try.func70 rfl rfl (ble rfl) ?_
  refine WC.seq (fun K1 k1 => ?_)
  refine WC.region rfl ?_
  refine WL.yld rfl (blt rfl) rfl (Y.assign rfl rfl) ?_
  refine WL.nil ?_
  refine WK.then_normal (k1 _ _ ?_)
  refine WC.sub [(0, _), (1, _)] ⟨rfl, rfl, trivial⟩ ?_
  refine WC.seq (fun K2 k2 => ?_)
  refine WC.region rfl ?_
  refine WL.yld rfl (blt rfl) rfl (Y.assign rfl rfl) ?_
  refine WL.nil ?_
  refine WK.then_normal (k2 _ _ ?_)
  refine WC.seq (fun K3 k3 => ?_)
  refine WC.block ?_
  refine WC.sub [(5, _), (0, _), (1, _)] ⟨rfl, rfl, rfl, trivial⟩ ?_
  refine WC.loopS 1 (fun mz Ed W' => ∃ i : Nat, mz = n_l - i ∧ Ed = [(5, .int .i64 ((i : Nat) : Int))] ∧ Ext w W' ∧ (i ≤ n_l) ∧ (∀ j, j < i → l[j]! < n)) _ ⟨0, rfl, rfl, xW, (Nat.zero_le _), (fun j hj => absurd hj (Nat.not_lt_zero j))⟩ ?_
  rintro _ _ w4 ⟨i, rfl, rfl, xW, le_i, inv_i⟩
  refine WC.sub [(5, _), (0, _), (1, _)] ⟨rfl, rfl, rfl, trivial⟩ ?_
  refine WC.seq (fun K5 k5 => ?_)
  refine WC.seq (fun K6 k6 => ?_)
  refine WC.region rfl ?_
  refine WL.yld rfl (blt rfl) rfl (Y.move rfl rfl) ?_
  refine WL.yld rfl (blt rfl) rfl (Y.move rfl rfl) ?_
  refine WL.yld rfl (blt rfl) rfl (Y.lenSl rfl rfl rfl Try.underlying35 rfl) ?_
  refine WL.yld rfl (blt rfl) rfl (Y.lss rfl rfl rfl) ?_
  refine WL.yld rfl (blt rfl) rfl (Y.move rfl rfl) ?_
  refine WL.yldG rfl (blt rfl) rfl rfl rfl (fun hb => Y.move rfl rfl) ?_
  refine WL.yldG rfl (blt rfl) rfl rfl rfl (fun hb => Y.move rfl rfl) ?_
  refine WL.yldG rfl (blt rfl) rfl rfl rfl (fun hb => Y.indexLs i (h_l.ext xW) rfl Try.underlying35 ti3 (evg rfl hb) (evg rfl hb) rfl (by have q0 := (dec_t hb); omega)) ?_
  refine WL.yldG rfl (blt rfl) rfl rfl rfl (fun hb => Y.load1 rfl Try.underlying3 rfl (evg rfl hb) (Ls.at_eq (h_l.ext xW) (by have q0 := (dec_t hb); omega) rfl)) ?_
  refine WL.yldG rfl (blt rfl) rfl rfl rfl (fun hb => Y.move rfl rfl) ?_
  refine WL.yldG rfl (blt rfl) rfl rfl rfl (fun hb => Y.lss rfl (evg rfl hb) (evg rfl hb)) ?_
  refine WL.yld rfl (blt rfl) rfl (Y.and rfl rfl rfl rfl) ?_
  refine WL.nil ?_
  refine WK.then_normal (k6 _ _ ?_)
  refine WC.sub [(0, _), (1, _), (5, _), (18, _)] ⟨rfl, rfl, rfl, rfl, trivial⟩ ?_
  refine WC.cond rfl (fun h7 => ?_) (fun h7 => ?_)
  ·
    have p7 := (And.intro (dec_t (and_t h7).1) (dec_t (and_t h7).2))
    refine WC.skip ?_
    refine WK.then_normal (k5 _ _ ?_)
    refine WC.sub [(0, _), (1, _), (5, _)] ⟨rfl, rfl, rfl, trivial⟩ ?_
    refine WC.block ?_
    refine WC.region rfl ?_
    refine WL.yld rfl (blt rfl) rfl (Y.move rfl rfl) ?_
    refine WL.yld rfl (blt rfl) rfl (Y.add rfl rfl rfl (wrap_i64 (by first | omega | (dsimp only; omega)))) ?_
    refine WL.yld rfl (blt rfl) rfl (Y.assign rfl rfl) ?_
    refine WL.nil ?_
    refine WK.in_normal ?_
    refine WK.roundS _ [(5, .int .i64 (((i + 1) : Nat) : Int))] ⟨rfl, rfl, rfl, trivial⟩ ?_ ⟨(i + 1), rfl, rfl, xW, (by omega), (fun j hj => by rcases Nat.lt_succ_iff_lt_or_eq.1 hj with h | h; exact inv_i j h; subst h; exact p7.2)⟩
    show _ - (i + 1) < _ - i; omega
  ·
    have p7 := ((and_f h7).imp (fun h => (dec_f h)) (fun h => (dec_f h)))
    refine WC.exit ?_
    refine WK.then_exit ?_
    refine WK.then_exit ?_
    refine WK.in_exit ?_
    refine WK.then_normal (k3 _ _ ?_)
    refine WC.sub [(0, _), (1, _), (5, _)] ⟨rfl, rfl, rfl, trivial⟩ ?_
    refine WC.seq (fun K8 k8 => ?_)
    refine WC.seq (fun K9 k9 => ?_)
    refine WC.region rfl ?_
    refine WL.yld rfl (blt rfl) rfl (Y.move rfl rfl) ?_
    refine WL.yld rfl (blt rfl) rfl (Y.move rfl rfl) ?_
    refine WL.yld rfl (blt rfl) rfl (Y.lenSl rfl rfl rfl Try.underlying35 rfl) ?_
    refine WL.yld rfl (blt rfl) rfl (Y.lss rfl rfl rfl) ?_
    refine WL.yld rfl (blt rfl) rfl (Y.move rfl rfl) ?_
    refine WL.yldG rfl (blt rfl) rfl rfl rfl (fun hb => Y.move rfl rfl) ?_
    refine WL.yldG rfl (blt rfl) rfl rfl rfl (fun hb => Y.move rfl rfl) ?_
    refine WL.yldG rfl (blt rfl) rfl rfl rfl (fun hb => Y.indexLs i (h_l.ext xW) rfl Try.underlying35 ti3 (evg rfl hb) (evg rfl hb) rfl (by have q0 := (dec_t hb); omega)) ?_
    refine WL.yldG rfl (blt rfl) rfl rfl rfl (fun hb => Y.load1 rfl Try.underlying3 rfl (evg rfl hb) (Ls.at_eq (h_l.ext xW) (by have q0 := (dec_t hb); omega) rfl)) ?_
    refine WL.yldG rfl (blt rfl) rfl rfl rfl (fun hb => Y.move rfl rfl) ?_
    refine WL.yldG rfl (blt rfl) rfl rfl rfl (fun hb => Y.eql rfl (evg rfl hb) (evg rfl hb)) ?_
    refine WL.yld rfl (blt rfl) rfl (Y.and rfl rfl rfl rfl) ?_
    refine WL.nil ?_
    refine WK.then_normal (k9 _ _ ?_)
    refine WC.sub [(0, _), (1, _), (5, _), (32, _)] ⟨rfl, rfl, rfl, rfl, trivial⟩ ?_
    refine WC.cond rfl (fun h10 => ?_) (fun h10 => ?_)
    ·
      have p10 := (And.intro (dec_t (and_t h10).1) (eq_t (and_t h10).2))
      refine WC.seq (fun K11 k11 => ?_)
      refine WC.region rfl ?_
      refine WL.yld rfl (blt rfl) rfl (Y.move rfl rfl) ?_
      refine WL.yld rfl (blt rfl) rfl (Y.assign rfl rfl) ?_
      refine WL.nil ?_
      refine WK.then_normal (k11 _ _ ?_)
      refine WC.sub [(4, _)] ⟨rfl, trivial⟩ ?_
      refine WC.ret ?_
      refine WK.then_ret ?_
      clear k1 k2 k3 k5 k6 k8 k9 k11
      refine WK.ret [_] rfl ⟨rfl, trivial⟩ ?_
      refine ⟨_, rfl, ?_, xW⟩
      rw [Ck.put_hit inv_i (by omega) p10.2]
      exact ow_l.ext xW
    ·
      have p10 := ((and_f h10).imp (fun h => (dec_f h)) (fun h => (eq_f h)))
      refine WC.skip ?_
      refine WK.then_normal (k8 _ _ ?_)
      refine WC.sub [(0, _), (1, _), (5, _)] ⟨rfl, rfl, rfl, trivial⟩ ?_
      refine WC.seq (fun K12 k12 => ?_)
      refine WC.region rfl ?_
      refine WL.bslice0 rfl (blt rfl) rfl rfl Try.underlying35 ti3 ?_
      intro g13 w14 e15 x16 m17
      have o_g13 := own_new xW e15
      have xW := Ext.trans xW x16
      refine WL.yld rfl (blt rfl) rfl (Y.move rfl rfl) ?_
      refine WL.yld rfl (blt rfl) rfl (Y.move rfl rfl) ?_
      have b18 : i ≤ n_l := by omega
      refine WL.yld rfl (blt rfl) rfl (Y.sliceH i rfl Try.underlying35 ti3 rfl rfl rfl (Nat.le_trans b18 (h_l.ext xW).le)) ?_
      have ob19 := Blk.own (sz := 1) (f := Ck.ic) (l := ([] : List Int)) (base := w.heap.size) m17 o_g13 (fun _ => rfl) rfl (by decide) rfl
      refine WL.appendL (f := Ck.ic) rfl (blt rfl) rfl rfl rfl rfl Try.underlying35 ti3 rfl (by decide) rfl ob19 (fun _ => rfl) Ck.ic_one ((h_l.ext xW).take b18) xW.size (by have q0 := h_l.len; have q1 := hn; first | omega | (simp only [List.length_append, List.length_cons, List.length_nil, List.length_take, List.length_drop, List.length_reverse]; omega)) (Nat.le_trans (show _ ≤ 140737488355328 from by have q0 := h_l.len; have q1 := hn; first | omega | (simp only [List.length_append, List.length_cons, List.length_nil, List.length_take, List.length_drop, List.length_reverse]; omega)) (by decide)) (fun v20 w21 ow22 gr23 nb24 => ?_)
      have xW := Ext.grown xW gr23 (fun b hb => (OwnL.lt ob19 hb).1)
      refine WL.yld rfl (blt rfl) rfl (Y.assign rfl rfl) ?_
      refine WL.nil ?_
      refine WK.then_normal (k12 _ _ ?_)
      refine WC.sub [(0, _), (1, _), (5, _), (6, _)] ⟨rfl, rfl, rfl, rfl, trivial⟩ ?_
      refine WC.seq (fun K25 k25 => ?_)
      refine WC.region rfl ?_
      refine WL.yld rfl (blt rfl) rfl (Y.move rfl rfl) ?_
      refine WL.yld rfl (blt rfl) rfl (Y.move rfl rfl) ?_
      refine WL.bslice (zs := [.int .i64 0]) (cs := [_]) rfl (blt rfl) rfl rfl Try.underlying35 ti3 rfl (ble rfl) (by kernel_rfl) rfl rfl ?_
      intro g26 w27 e28 x29 m30
      have r_v20_g26 := ne_newO ow22 e28
      have o_g26 := own_new xW e28
      have ow22 := ow22.ext x29
      have xW := Ext.trans xW x29
      refine WL.appendB (f := Ck.ic) (news := [n]) rfl (blt rfl) rfl rfl rfl rfl Try.underlying35 ti3 rfl (by decide) rfl ow22 (fun _ => rfl) Ck.ic_one m30 rfl xW.size (by have q0 := h_l.len; have q1 := hn; first | omega | (simp only [List.length_append, List.length_cons, List.length_nil, List.length_take, List.length_drop, List.length_reverse]; omega)) (Nat.le_trans (show _ ≤ 140737488355328 from by have q0 := h_l.len; have q1 := hn; first | omega | (simp only [List.length_append, List.length_cons, List.length_nil, List.length_take, List.length_drop, List.length_reverse]; omega)) (by decide)) (fun v31 w32 ow33 gr34 nb35 => ?_)
      have r_v31_g26 := ne_app nb35 r_v20_g26 m30
      have m30 := m30.grown gr34 r_v20_g26
      have xW := Ext.grown xW gr34 (fun b hb => (OwnL.lt ow22 hb).1)
      refine WL.yld rfl (blt rfl) rfl (Y.assign rfl rfl) ?_
      refine WL.nil ?_
      refine WK.then_normal (k25 _ _ ?_)
      refine WC.sub [(0, _), (5, _), (6, _)] ⟨rfl, rfl, rfl, trivial⟩ ?_
      refine WC.seq (fun K36 k36 => ?_)
      refine WC.region rfl ?_
      refine WL.yld rfl (blt rfl) rfl (Y.move rfl rfl) ?_
      refine WL.yld rfl (blt rfl) rfl (Y.move rfl rfl) ?_
      refine WL.yld rfl (blt rfl) rfl (Y.move rfl rfl) ?_
      have b37 : i ≤ n_l := by omega
      refine WL.yld rfl (blt rfl) rfl (Y.sliceL i rfl Try.underlying35 ti3 rfl rfl rfl b37) ?_
      refine WL.appendL (f := Ck.ic) rfl (blt rfl) rfl rfl rfl rfl Try.underlying35 ti3 rfl (by decide) rfl ow33 (fun _ => rfl) Ck.ic_one ((h_l.ext xW).drop b37) xW.size (by have q0 := h_l.len; have q1 := hn; first | omega | (simp only [List.length_append, List.length_cons, List.length_nil, List.length_take, List.length_drop, List.length_reverse]; omega)) (Nat.le_trans (show _ ≤ 140737488355328 from by have q0 := h_l.len; have q1 := hn; first | omega | (simp only [List.length_append, List.length_cons, List.length_nil, List.length_take, List.length_drop, List.length_reverse]; omega)) (by decide)) (fun v38 w39 ow40 gr41 nb42 => ?_)
      have xW := Ext.grown xW gr41 (fun b hb => (OwnL.lt ow33 hb).1)
      refine WL.yld rfl (blt rfl) rfl (Y.assign rfl rfl) ?_
      refine WL.nil ?_
      refine WK.then_normal (k36 _ _ ?_)
      refine WC.sub [(4, _)] ⟨rfl, trivial⟩ ?_
      refine WC.ret ?_
      clear k1 k2 k3 k5 k6 k8 k9 k12 k25 k36
      refine WK.ret [_] rfl ⟨rfl, trivial⟩ ?_
      refine ⟨_, rfl, ?_, xW⟩
      rw [Ck.put_miss inv_i (by omega)]
      exact OwnL.base_le ow40 hb_l
theorem rpoints_any (A_l : Option Addr) (n_l c_l : Nat) (l : List Ck.Snap) (id : Int) (w : World) (h_l : Ls w A_l n_l c_l Ck.Snap.c 5 l) (hn : n_l ≤ 600) :
    Calls Try.prog 54 #[.slice A_l n_l c_l, .int .i64 id] w fun e w' => ∃ v, e = .returned v ∧ OwnL w' w.heap.size 3 Ck.ic 1 v (Ck.pts l id) ∧ Ext w w' := by
  have xW := Ext.refl w
  have e_l := h_l.len
  have z_l := h_l.nle
  refine calls_of_WC (args := [.slice A_l n_l c_l, .int .i64 id]) Try.func54 rfl rfl (ble rfl) ?_
  refine WC.seq (fun K1 k1 => ?_)
  refine WC.region rfl ?_
  refine WL.yld rfl (blt rfl) rfl (Y.assign rfl rfl) ?_
  refine WL.nil ?_
  refine WK.then_normal (k1 _ _ ?_)
  refine WC.sub [(0, _), (1, _)] ⟨rfl, rfl, trivial⟩ ?_
  refine WC.seq (fun K2 k2 => ?_)
  refine WC.region rfl ?_
  refine WL.yld rfl (blt rfl) rfl (Y.assign rfl rfl) ?_
  refine WL.nil ?_
  refine WK.then_normal (k2 _ _ ?_)
  refine WC.seq (fun K3 k3 => ?_)
  refine WC.seq (fun K4 k4 => ?_)
  refine WC.region rfl ?_
  refine WL.yld rfl (blt rfl) rfl (Y.assign rfl rfl) ?_
  refine WL.nil ?_
  refine WK.then_normal (k4 _ _ ?_)
  refine WC.block ?_
  refine WC.sub [(6, _), (5, _), (0, _), (1, _)] ⟨rfl, rfl, rfl, rfl, trivial⟩ ?_
  refine WC.loopS 2 (fun mz Ed W' => ∃ i : Nat, ∃ v : Value, mz = n_l - i ∧ Ed = [(6, .int .i64 ((i : Nat) : Int)), (5, v)] ∧ Ext w W' ∧ OwnL W' w.heap.size 3 Ck.ic 1 v (Ck.puts (Ck.rawPts (l.take i) id)) ∧ (i ≤ n_l)) _ ⟨0, _, rfl, rfl, xW, OwnL.nil_, (Nat.zero_le _)⟩ ?_
  rintro _ _ w5 ⟨i, v, rfl, rfl, xW, ow_v, le_i⟩
  refine WC.sub [(6, _), (5, _), (0, _), (1, _)] ⟨rfl, rfl, rfl, rfl, trivial⟩ ?_
  refine WC.seq (fun K6 k6 => ?_)
  refine WC.seq (fun K7 k7 => ?_)
  refine WC.region rfl ?_
  refine WL.yld rfl (blt rfl) rfl (Y.move rfl rfl) ?_
  refine WL.yld rfl (blt rfl) rfl (Y.move rfl rfl) ?_
  refine WL.yld rfl (blt rfl) rfl (Y.lenSl rfl rfl rfl Try.underlying23 rfl) ?_
  refine WL.yld rfl (blt rfl) rfl (Y.lss rfl rfl rfl) ?_
  refine WL.nil ?_
  refine WK.then_normal (k7 _ _ ?_)
  refine WC.sub [(0, _), (1, _), (5, _), (6, _), (10, _)] ⟨rfl, rfl, rfl, rfl, rfl, trivial⟩ ?_
  refine WC.cond rfl (fun h8 => ?_) (fun h8 => ?_)
  ·
    have p8 := (dec_t h8)
    refine WC.skip ?_
    refine WK.then_normal (k6 _ _ ?_)
    refine WC.sub [(0, _), (1, _), (5, _), (6, _)] ⟨rfl, rfl, rfl, rfl, trivial⟩ ?_
    refine WC.seq (fun K9 k9 => ?_)
    refine WC.block ?_
    refine WC.seq (fun K10 k10 => ?_)
    refine WC.seq (fun K11 k11 => ?_)
    refine WC.region rfl ?_
    refine WL.yld rfl (blt rfl) rfl (Y.move rfl rfl) ?_
    refine WL.yld rfl (blt rfl) rfl (Y.move rfl rfl) ?_
    have b12 : i < n_l := by omega
    refine WL.yld rfl (blt rfl) rfl (Y.indexLs i (h_l.ext xW) rfl Try.underlying23 ti42 rfl rfl rfl b12) ?_
    refine WL.yld rfl (blt rfl) rfl (Y.fieldE rfl Try.underlying42 rfl ti3 (by decide) rfl) ?_
    refine WL.yld rfl (blt rfl) rfl (Y.load1 rfl Try.underlying3 rfl rfl (Ls.at_eq (h_l.ext xW) b12 rfl)) ?_
    refine WL.yld rfl (blt rfl) rfl (Y.move rfl rfl) ?_
    refine WL.yld rfl (blt rfl) rfl (Y.eql rfl rfl rfl) ?_
    refine WL.nil ?_
    refine WK.then_normal (k11 _ _ ?_)
    refine WC.sub [(0, _), (1, _), (5, _), (6, _), (19, _)] ⟨rfl, rfl, rfl, rfl, rfl, trivial⟩ ?_
    refine WC.cond rfl (fun h13 => ?_) (fun h13 => ?_)
    ·
      have p13 := (eq_t h13)
      refine WC.region rfl ?_
      refine WL.yld rfl (blt rfl) rfl (Y.move rfl rfl) ?_
      refine WL.yld rfl (blt rfl) rfl (Y.move rfl rfl) ?_
      refine WL.yld rfl (blt rfl) rfl (Y.move rfl rfl) ?_
      have b14 : i < n_l := by omega
      refine WL.yld rfl (blt rfl) rfl (Y.indexLs i (h_l.ext xW) rfl Try.underlying23 ti42 rfl rfl rfl b14) ?_
      refine WL.yld rfl (blt rfl) rfl (Y.fieldE rfl Try.underlying42 rfl ti3 (by decide) rfl) ?_
      refine WL.yld rfl (blt rfl) rfl (Y.load1 rfl Try.underlying3 rfl rfl (Ls.at_eq (h_l.ext xW) b14 rfl)) ?_
      refine WL.call rfl (blt rfl) rfl rfl rfl has70 rfl (put_any _ _ _ _ _ ow_v xW.size (by have q := Ck.puts_len l id i; omega)) ?_
      rintro _ w15 ⟨v17, rfl, ow18, x16⟩
      refine ⟨_, rfl, ?_⟩
      have xW := Ext.trans xW x16
      refine WL.yld rfl (blt rfl) rfl (Y.assign rfl rfl) ?_
      refine WL.nil ?_
      refine WK.then_normal (k10 _ _ ?_)
      refine WC.sub [(0, _), (1, _), (5, _), (6, _)] ⟨rfl, rfl, rfl, rfl, trivial⟩ ?_
      refine WC.seq (fun K19 k19 => ?_)
      refine WC.region rfl ?_
      refine WL.yld rfl (blt rfl) rfl (Y.move rfl rfl) ?_
      refine WL.yld rfl (blt rfl) rfl (Y.move rfl rfl) ?_
      have b20 : i < n_l := by omega
      refine WL.yld rfl (blt rfl) rfl (Y.indexLs i (h_l.ext xW) rfl Try.underlying23 ti42 rfl rfl rfl b20) ?_
      refine WL.yld rfl (blt rfl) rfl (Y.fieldE rfl Try.underlying42 rfl ti3 (by decide) rfl) ?_
      refine WL.yld rfl (blt rfl) rfl (Y.load1 rfl Try.underlying3 rfl rfl (Ls.at_eq (h_l.ext xW) b20 rfl)) ?_
      refine WL.yld rfl (blt rfl) rfl (Y.move rfl rfl) ?_
      refine WL.yld rfl (blt rfl) rfl (Y.eql rfl rfl rfl) ?_
      refine WL.nil ?_
      refine WK.then_normal (k19 _ _ ?_)
      refine WC.sub [(0, _), (1, _), (5, _), (6, _), (33, _)] ⟨rfl, rfl, rfl, rfl, rfl, trivial⟩ ?_
      refine WC.cond rfl (fun h21 => ?_) (fun h21 => ?_)
      ·
        have p21 := (eq_t h21)
        refine WC.regionX (fun W' => Ext w W') (.load 0 (.load 1 (.load 2 (.load 3 (.load 4 (.load 5 (.load 6 (.load 8 (.load 9 (.load 10 (.load 11 (.load 12 (.load 13 (.alt 7 (.alt 14 (.load 15 (.fin)) (.none)) (.none))))))))))))))) xW (by kernel_rfl) (by kernel_rfl) (fun w22 x23 => ?_)
        have ow18 := ow18.ext x23
        have xW := Ext.trans xW x23
        refine WX.yld rfl rfl (blt rfl) rfl (Y.move rfl rfl) ?_
        refine WX.yld rfl rfl (blt rfl) rfl (Y.move rfl rfl) ?_
        refine WX.yld rfl rfl (blt rfl) rfl (Y.move rfl rfl) ?_
        have b24 : i < n_l := by omega
        refine WX.yld rfl rfl (blt rfl) rfl (Y.indexLs i (h_l.ext xW) rfl Try.underlying23 ti42 rfl rfl rfl b24) ?_
        refine WX.yld rfl rfl (blt rfl) rfl (Y.fieldE rfl Try.underlying42 rfl ti29 (by decide) rfl) ?_
        refine WX.yld rfl rfl (blt rfl) rfl (Y.fieldE rfl Try.underlying29 rfl ti3 (by decide) rfl) ?_
        refine WX.yld rfl rfl (blt rfl) rfl (Y.load1 rfl Try.underlying3 rfl rfl (Ls.at_c (fun _ h => (h_l.ext (h))) b24 rfl)) ?_
        refine WX.yld rfl rfl (blt rfl) rfl (Y.move rfl rfl) ?_
        refine WX.yld rfl rfl (blt rfl) rfl (Y.move rfl rfl) ?_
        have b25 : i < n_l := by omega
        refine WX.yld rfl rfl (blt rfl) rfl (Y.indexLs i (h_l.ext xW) rfl Try.underlying23 ti42 rfl rfl rfl b25) ?_
        refine WX.yld rfl rfl (blt rfl) rfl (Y.fieldE rfl Try.underlying42 rfl ti29 (by decide) rfl) ?_
        refine WX.yld rfl rfl (blt rfl) rfl (Y.fieldE rfl Try.underlying29 rfl ti3 (by decide) rfl) ?_
        refine WX.yld rfl rfl (blt rfl) rfl (Y.load1 rfl Try.underlying3 rfl rfl (Ls.at_c (fun _ h => (h_l.ext (h))) b25 rfl)) ?_
        refine WX.call rfl rfl (blt rfl) rfl rfl rfl has70 rfl xW (put_any _ _ _ _ _ ow18 xW.size (by have q := Ck.puts_len l id i; first | omega | (have q2 := Ck.put_len (Ck.puts (Ck.rawPts (l.take i) id)) l[i]!.ata; omega))) ?_
        rintro _ w26 ⟨v28, rfl, ow29, x27⟩
        refine ⟨_, rfl, ?_⟩
        have xW := Ext.trans xW x27
        refine WX.call rfl rfl (blt rfl) rfl rfl rfl has70 rfl xW (put_any _ _ _ _ _ ow29 xW.size (by have q := Ck.puts_len l id i; first | (have q2 := Ck.put_len (Ck.puts (Ck.rawPts (l.take i) id)) l[i]!.lo; omega) | (have q2 := Ck.put_len (Ck.puts (Ck.rawPts (l.take i) id)) l[i]!.ata; have q3 := Ck.put_len (Ck.put (Ck.puts (Ck.rawPts (l.take i) id)) l[i]!.ata) l[i]!.lo; omega))) ?_
        rintro _ w30 ⟨v32, rfl, ow33, x31⟩
        refine ⟨_, rfl, ?_⟩
        have xW := Ext.trans xW x31
        refine WX.yld rfl rfl (blt rfl) rfl (Y.assign rfl rfl) ?_
        refine WX.nil xW ?_
        refine WK.in_normal ?_
        refine WK.then_normal (k9 _ _ ?_)
        refine WC.sub [(0, _), (1, _), (5, _), (6, _)] ⟨rfl, rfl, rfl, rfl, trivial⟩ ?_
        refine WC.region rfl ?_
        refine WL.yld rfl (blt rfl) rfl (Y.move rfl rfl) ?_
        refine WL.yld rfl (blt rfl) rfl (Y.add rfl rfl rfl (wrap_i64 (by first | omega | (dsimp only; omega)))) ?_
        refine WL.yld rfl (blt rfl) rfl (Y.assign rfl rfl) ?_
        refine WL.nil ?_
        refine WK.roundS _ [(6, .int .i64 (((i + 1) : Nat) : Int)), (5, v32)] ⟨rfl, rfl, rfl, rfl, trivial⟩ ?_ ⟨(i + 1), v32, rfl, rfl, xW, (by rw [Ck.puts_step l id (show i < l.length from by omega)]; simp only [Ck.ptsOf, h13, h21, Bool.false_eq_true, if_true, if_false, List.append_nil, List.nil_append, List.cons_append, List.foldl_cons, List.foldl_nil]; exact ow33), (by omega)⟩
        show _ - (i + 1) < _ - i; omega
      ·
        have p21 := (eq_f h21)
        refine WC.skip ?_
        refine WK.in_normal ?_
        refine WK.then_normal (k9 _ _ ?_)
        refine WC.sub [(0, _), (1, _), (5, _), (6, _)] ⟨rfl, rfl, rfl, rfl, trivial⟩ ?_
        refine WC.region rfl ?_
        refine WL.yld rfl (blt rfl) rfl (Y.move rfl rfl) ?_
        refine WL.yld rfl (blt rfl) rfl (Y.add rfl rfl rfl (wrap_i64 (by first | omega | (dsimp only; omega)))) ?_
        refine WL.yld rfl (blt rfl) rfl (Y.assign rfl rfl) ?_
        refine WL.nil ?_
        refine WK.roundS _ [(6, .int .i64 (((i + 1) : Nat) : Int)), (5, v17)] ⟨rfl, rfl, rfl, rfl, trivial⟩ ?_ ⟨(i + 1), v17, rfl, rfl, xW, (by rw [Ck.puts_step l id (show i < l.length from by omega)]; simp only [Ck.ptsOf, h13, h21, Bool.false_eq_true, if_true, if_false, List.append_nil, List.nil_append, List.cons_append, List.foldl_cons, List.foldl_nil]; exact ow18), (by omega)⟩
        show _ - (i + 1) < _ - i; omega
    ·
      have p13 := (eq_f h13)
      refine WC.skip ?_
      refine WK.then_normal (k10 _ _ ?_)
      refine WC.sub [(0, _), (1, _), (5, _), (6, _)] ⟨rfl, rfl, rfl, rfl, trivial⟩ ?_
      refine WC.seq (fun K34 k34 => ?_)
      refine WC.region rfl ?_
      refine WL.yld rfl (blt rfl) rfl (Y.move rfl rfl) ?_
      refine WL.yld rfl (blt rfl) rfl (Y.move rfl rfl) ?_
      have b35 : i < n_l := by omega
      refine WL.yld rfl (blt rfl) rfl (Y.indexLs i (h_l.ext xW) rfl Try.underlying23 ti42 rfl rfl rfl b35) ?_
      refine WL.yld rfl (blt rfl) rfl (Y.fieldE rfl Try.underlying42 rfl ti3 (by decide) rfl) ?_
      refine WL.yld rfl (blt rfl) rfl (Y.load1 rfl Try.underlying3 rfl rfl (Ls.at_eq (h_l.ext xW) b35 rfl)) ?_
      refine WL.yld rfl (blt rfl) rfl (Y.move rfl rfl) ?_
      refine WL.yld rfl (blt rfl) rfl (Y.eql rfl rfl rfl) ?_
      refine WL.nil ?_
      refine WK.then_normal (k34 _ _ ?_)
      refine WC.sub [(0, _), (1, _), (5, _), (6, _), (33, _)] ⟨rfl, rfl, rfl, rfl, rfl, trivial⟩ ?_
      refine WC.cond rfl (fun h36 => ?_) (fun h36 => ?_)
      ·
        have p36 := (eq_t h36)
        refine WC.regionX (fun W' => Ext w W') (.load 0 (.load 1 (.load 2 (.load 3 (.load 4 (.load 5 (.load 6 (.load 8 (.load 9 (.load 10 (.load 11 (.load 12 (.load 13 (.alt 7 (.alt 14 (.load 15 (.fin)) (.none)) (.none))))))))))))))) xW (by kernel_rfl) (by kernel_rfl) (fun w37 x38 => ?_)
        have ow_v := ow_v.ext x38
        have xW := Ext.trans xW x38
        refine WX.yld rfl rfl (blt rfl) rfl (Y.move rfl rfl) ?_
        refine WX.yld rfl rfl (blt rfl) rfl (Y.move rfl rfl) ?_
        refine WX.yld rfl rfl (blt rfl) rfl (Y.move rfl rfl) ?_
        have b39 : i < n_l := by omega
        refine WX.yld rfl rfl (blt rfl) rfl (Y.indexLs i (h_l.ext xW) rfl Try.underlying23 ti42 rfl rfl rfl b39) ?_
        refine WX.yld rfl rfl (blt rfl) rfl (Y.fieldE rfl Try.underlying42 rfl ti29 (by decide) rfl) ?_
        refine WX.yld rfl rfl (blt rfl) rfl (Y.fieldE rfl Try.underlying29 rfl ti3 (by decide) rfl) ?_
        refine WX.yld rfl rfl (blt rfl) rfl (Y.load1 rfl Try.underlying3 rfl rfl (Ls.at_c (fun _ h => (h_l.ext (h))) b39 rfl)) ?_
        refine WX.yld rfl rfl (blt rfl) rfl (Y.move rfl rfl) ?_
        refine WX.yld rfl rfl (blt rfl) rfl (Y.move rfl rfl) ?_
        have b40 : i < n_l := by omega
        refine WX.yld rfl rfl (blt rfl) rfl (Y.indexLs i (h_l.ext xW) rfl Try.underlying23 ti42 rfl rfl rfl b40) ?_
        refine WX.yld rfl rfl (blt rfl) rfl (Y.fieldE rfl Try.underlying42 rfl ti29 (by decide) rfl) ?_
        refine WX.yld rfl rfl (blt rfl) rfl (Y.fieldE rfl Try.underlying29 rfl ti3 (by decide) rfl) ?_
        refine WX.yld rfl rfl (blt rfl) rfl (Y.load1 rfl Try.underlying3 rfl rfl (Ls.at_c (fun _ h => (h_l.ext (h))) b40 rfl)) ?_
        refine WX.call rfl rfl (blt rfl) rfl rfl rfl has70 rfl xW (put_any _ _ _ _ _ ow_v xW.size (by have q := Ck.puts_len l id i; first | omega | (have q2 := Ck.put_len (Ck.puts (Ck.rawPts (l.take i) id)) l[i]!.ata; omega))) ?_
        rintro _ w41 ⟨v43, rfl, ow44, x42⟩
        refine ⟨_, rfl, ?_⟩
        have xW := Ext.trans xW x42
        refine WX.call rfl rfl (blt rfl) rfl rfl rfl has70 rfl xW (put_any _ _ _ _ _ ow44 xW.size (by have q := Ck.puts_len l id i; first | (have q2 := Ck.put_len (Ck.puts (Ck.rawPts (l.take i) id)) l[i]!.lo; omega) | (have q2 := Ck.put_len (Ck.puts (Ck.rawPts (l.take i) id)) l[i]!.ata; have q3 := Ck.put_len (Ck.put (Ck.puts (Ck.rawPts (l.take i) id)) l[i]!.ata) l[i]!.lo; omega))) ?_
        rintro _ w45 ⟨v47, rfl, ow48, x46⟩
        refine ⟨_, rfl, ?_⟩
        have xW := Ext.trans xW x46
        refine WX.yld rfl rfl (blt rfl) rfl (Y.assign rfl rfl) ?_
        refine WX.nil xW ?_
        refine WK.in_normal ?_
        refine WK.then_normal (k9 _ _ ?_)
        refine WC.sub [(0, _), (1, _), (5, _), (6, _)] ⟨rfl, rfl, rfl, rfl, trivial⟩ ?_
        refine WC.region rfl ?_
        refine WL.yld rfl (blt rfl) rfl (Y.move rfl rfl) ?_
        refine WL.yld rfl (blt rfl) rfl (Y.add rfl rfl rfl (wrap_i64 (by first | omega | (dsimp only; omega)))) ?_
        refine WL.yld rfl (blt rfl) rfl (Y.assign rfl rfl) ?_
        refine WL.nil ?_
        refine WK.roundS _ [(6, .int .i64 (((i + 1) : Nat) : Int)), (5, v47)] ⟨rfl, rfl, rfl, rfl, trivial⟩ ?_ ⟨(i + 1), v47, rfl, rfl, xW, (by rw [Ck.puts_step l id (show i < l.length from by omega)]; simp only [Ck.ptsOf, h13, h36, Bool.false_eq_true, if_true, if_false, List.append_nil, List.nil_append, List.cons_append, List.foldl_cons, List.foldl_nil]; exact ow48), (by omega)⟩
        show _ - (i + 1) < _ - i; omega
      ·
        have p36 := (eq_f h36)
        refine WC.skip ?_
        refine WK.in_normal ?_
        refine WK.then_normal (k9 _ _ ?_)
        refine WC.sub [(0, _), (1, _), (5, _), (6, _)] ⟨rfl, rfl, rfl, rfl, trivial⟩ ?_
        refine WC.region rfl ?_
        refine WL.yld rfl (blt rfl) rfl (Y.move rfl rfl) ?_
        refine WL.yld rfl (blt rfl) rfl (Y.add rfl rfl rfl (wrap_i64 (by first | omega | (dsimp only; omega)))) ?_
        refine WL.yld rfl (blt rfl) rfl (Y.assign rfl rfl) ?_
        refine WL.nil ?_
        refine WK.roundS _ [(6, .int .i64 (((i + 1) : Nat) : Int)), (5, v)] ⟨rfl, rfl, rfl, rfl, trivial⟩ ?_ ⟨(i + 1), v, rfl, rfl, xW, (by rw [Ck.puts_step l id (show i < l.length from by omega)]; simp only [Ck.ptsOf, h13, h36, Bool.false_eq_true, if_true, if_false, List.append_nil, List.nil_append, List.cons_append, List.foldl_cons, List.foldl_nil]; exact ow_v), (by omega)⟩
        show _ - (i + 1) < _ - i; omega
  ·
    have p8 := (dec_f h8)
    refine WC.exit ?_
    refine WK.then_exit ?_
    refine WK.then_exit ?_
    refine WK.in_exit ?_
    refine WK.then_normal (k3 _ _ ?_)
    refine WC.sub [(5, _)] ⟨rfl, trivial⟩ ?_
    refine WC.seq (fun K49 k49 => ?_)
    refine WC.region rfl ?_
    refine WL.yld rfl (blt rfl) rfl (Y.move rfl rfl) ?_
    refine WL.yld rfl (blt rfl) rfl (Y.assign rfl rfl) ?_
    refine WL.nil ?_
    refine WK.then_normal (k49 _ _ ?_)
    refine WC.sub [(4, _)] ⟨rfl, trivial⟩ ?_
    refine WC.ret ?_
    clear k1 k2 k3 k4 k6 k7 k49
    refine WK.ret [_] rfl ⟨rfl, trivial⟩ ?_
    refine ⟨_, rfl, ?_, xW⟩
    rw [show l.take i = l from List.take_of_length_le (by omega)] at ow_v
    exact ow_v
theorem reached_any (A_l : Option Addr) (n_l c_l : Nat) (l : List Ck.Snap) (w : World) (h_l : Ls w A_l n_l c_l Ck.Snap.c 5 l) (hn : n_l ≤ 1000) :
    Calls Try.prog 57 #[.slice A_l n_l c_l] w fun e w' => ∃ v out, e = .returned v ∧ OwnL w' w.heap.size 3 Ck.ic 1 v out ∧ (∀ q, q ∈ out ↔ Ck.Reach l q) ∧ Ext w w' := by
  have xW := Ext.refl w
  have e_l := h_l.len
  have z_l := h_l.nle
  refine calls_of_WC (args := [.slice A_l n_l c_l]) Try.func57 rfl rfl (ble rfl) ?_
  refine WC.seq (fun K1 k1 => ?_)
  refine WC.region rfl ?_
  refine WL.yld rfl (blt rfl) rfl (Y.assign rfl rfl) ?_
  refine WL.nil ?_
  refine WK.then_normal (k1 _ _ ?_)
  refine WC.sub [(0, _)] ⟨rfl, trivial⟩ ?_
  refine WC.seq (fun K2 k2 => ?_)
  refine WC.region rfl ?_
  refine WL.bslice (zs := [.int .i64 0]) (cs := [_]) rfl (blt rfl) rfl rfl Try.underlying35 ti3 rfl (ble rfl) (by kernel_rfl) rfl rfl ?_
  intro g3 w4 e5 x6 m7
  have o_g3 := own_new xW e5
  have xW := Ext.trans xW x6
  refine WL.yld rfl (blt rfl) rfl (Y.assign rfl rfl) ?_
  refine WL.nil ?_
  refine WK.then_normal (k2 _ _ ?_)
  refine WC.sub [(0, _), (3, _)] ⟨rfl, rfl, trivial⟩ ?_
  refine WC.seq (fun K8 k8 => ?_)
  refine WC.seq (fun K9 k9 => ?_)
  refine WC.region rfl ?_
  refine WL.yld rfl (blt rfl) rfl (Y.assign rfl rfl) ?_
  refine WL.nil ?_
  refine WK.then_normal (k9 _ _ ?_)
  refine WC.block ?_
  refine WC.sub [(4, _), (3, _), (0, _)] ⟨rfl, rfl, rfl, trivial⟩ ?_
  refine WC.loopS 2 (fun mz Ed W' => ∃ i : Nat, ∃ v : Value, ∃ o : List Int, mz = 2 * n_l + 1 - i ∧ Ed = [(4, .int .i64 ((i : Nat) : Int)), (3, v)] ∧ Ext w W' ∧ OwnL W' w.heap.size 3 Ck.ic 1 v (o) ∧ (Ck.RInv l o i 0)) _ ⟨0, _, [0], rfl, rfl, xW, (Blk.own (f := Ck.ic) (l := ([0] : List Int)) m7 o_g3 (fun _ => rfl) rfl (by first | decide | (unfold maxLen; simp)) rfl), (Ck.RInv.start l)⟩ ?_
  rintro _ _ w10 ⟨i, v, o, rfl, rfl, xW, ow_v, inv_i⟩
  refine WC.sub [(4, _), (3, _), (0, _)] ⟨rfl, rfl, rfl, trivial⟩ ?_
  refine WC.seq (fun K11 k11 => ?_)
  refine WC.seq (fun K12 k12 => ?_)
  refine WC.region rfl ?_
  refine WL.yld rfl (blt rfl) rfl (Y.move rfl rfl) ?_
  refine WL.yld rfl (blt rfl) rfl (Y.move rfl rfl) ?_
  obtain ⟨A13, n14, c15, rfl, hl16⟩ := OwnL.opened ow_v (fun _ => rfl) (by decide)
  have e_n14 := hl16.len
  try simp only [List.length_append, List.length_cons, List.length_nil, List.length_reverse, List.length_drop, List.length_take, List.length_map, List.length_replicate, List.length_set] at e_n14
  have z_n14 := hl16.nle
  refine WL.yld rfl (blt rfl) rfl (Y.lenSl rfl rfl rfl Try.underlying35 rfl) ?_
  refine WL.yld rfl (blt rfl) rfl (Y.lss rfl rfl rfl) ?_
  refine WL.nil ?_
  refine WK.then_normal (k12 _ _ ?_)
  refine WC.sub [(0, _), (3, _), (4, _), (10, _)] ⟨rfl, rfl, rfl, rfl, trivial⟩ ?_
  refine WC.cond rfl (fun h17 => ?_) (fun h17 => ?_)
  ·
    have p17 := (dec_t h17)
    refine WC.skip ?_
    refine WK.then_normal (k11 _ _ ?_)
    refine WC.sub [(0, _), (3, _), (4, _)] ⟨rfl, rfl, rfl, trivial⟩ ?_
    refine WC.seq (fun K18 k18 => ?_)
    refine WC.block ?_
    refine WC.seq (fun K19 k19 => ?_)
    refine WC.region rfl ?_
    refine WL.yld rfl (blt rfl) rfl (Y.assign rfl rfl) ?_
    refine WL.nil ?_
    refine WK.then_normal (k19 _ _ ?_)
    refine WC.block ?_
    refine WC.sub [(5, _), (3, _), (0, _), (4, _)] ⟨rfl, rfl, rfl, rfl, trivial⟩ ?_
    refine WC.loopS 2 (fun mz Ed W' => ∃ k : Nat, ∃ u : Value, ∃ o2 : List Int, mz = n_l - k ∧ Ed = [(5, .int .i64 ((k : Nat) : Int)), (3, u)] ∧ Ext w W' ∧ OwnL W' w.heap.size 3 Ck.ic 1 u (o2) ∧ (k ≤ n_l) ∧ (i < o2.length) ∧ (Ck.RInv l o2 i k)) _ ⟨0, _, _, rfl, rfl, xW, ow_v, (Nat.zero_le _), (by omega), inv_i⟩ ?_
    rintro _ _ w20 ⟨k, u, o2, rfl, rfl, xW, ow_u, le_k, hi_k, inv_k⟩
    refine WC.sub [(5, _), (3, _), (0, _), (4, _)] ⟨rfl, rfl, rfl, rfl, trivial⟩ ?_
    refine WC.seq (fun K21 k21 => ?_)
    refine WC.seq (fun K22 k22 => ?_)
    refine WC.region rfl ?_
    refine WL.yld rfl (blt rfl) rfl (Y.move rfl rfl) ?_
    refine WL.yld rfl (blt rfl) rfl (Y.move rfl rfl) ?_
    refine WL.yld rfl (blt rfl) rfl (Y.lenSl rfl rfl rfl Try.underlying23 rfl) ?_
    refine WL.yld rfl (blt rfl) rfl (Y.lss rfl rfl rfl) ?_
    refine WL.nil ?_
    refine WK.then_normal (k22 _ _ ?_)
    refine WC.sub [(0, _), (3, _), (4, _), (5, _), (16, _)] ⟨rfl, rfl, rfl, rfl, rfl, trivial⟩ ?_
    refine WC.cond rfl (fun h23 => ?_) (fun h23 => ?_)
    ·
      have p23 := (dec_t h23)
      refine WC.skip ?_
      refine WK.then_normal (k21 _ _ ?_)
      refine WC.sub [(0, _), (3, _), (4, _), (5, _)] ⟨rfl, rfl, rfl, rfl, trivial⟩ ?_
      refine WC.seq (fun K24 k24 => ?_)
      refine WC.block ?_
      refine WC.seq (fun K25 k25 => ?_)
      refine WC.seq (fun K26 k26 => ?_)
      refine WC.regionDq (by kernel_rfl) (by kernel_rfl) rfl ?_
      refine WQ.yld rfl (blt rfl) rfl (Y.move rfl rfl) ?_
      refine WQ.yld rfl (blt rfl) rfl (Y.move rfl rfl) ?_
      have b27 : k < n_l := by omega
      refine WQ.yld rfl (blt rfl) rfl (Y.indexLs k (h_l.ext xW) rfl Try.underlying23 ti42 rfl rfl rfl b27) ?_
      refine WQ.yld rfl (blt rfl) rfl (Y.fieldE rfl Try.underlying42 rfl ti3 (by decide) rfl) ?_
      refine WQ.yld rfl (blt rfl) rfl (Y.load1 rfl Try.underlying3 rfl rfl (Ls.at_ext (h_l.ext xW) b27 rfl)) ?_
      refine WQ.yld rfl (blt rfl) rfl (Y.move rfl rfl) ?_
      refine WQ.yld rfl (blt rfl) rfl (Y.move rfl rfl) ?_
      obtain ⟨A28, n29, c30, rfl, hl31⟩ := OwnL.opened ow_u (fun _ => rfl) (by decide)
      have e_n29 := hl31.len
      try simp only [List.length_append, List.length_cons, List.length_nil, List.length_reverse, List.length_drop, List.length_take, List.length_map, List.length_replicate, List.length_set] at e_n29
      have z_n29 := hl31.nle
      have b32 : i < n29 := by omega
      refine WQ.yld rfl (blt rfl) rfl (Y.indexLs i hl31 rfl Try.underlying35 ti3 rfl rfl rfl b32) ?_
      refine WQ.yld rfl (blt rfl) rfl (Y.load1 rfl Try.underlying3 rfl rfl (Ls.at_ext hl31 b32 rfl)) ?_
      refine WQ.yld rfl (blt rfl) rfl (Y.eql rfl rfl rfl) ?_
      refine WQ.yld rfl (blt rfl) rfl (Y.move rfl rfl) ?_
      refine WQ.yldG rfl (blt rfl) rfl rfl rfl (fun hb => Y.move rfl rfl) ?_
      refine WQ.yldG rfl (blt rfl) rfl rfl rfl (fun hb => Y.move rfl rfl) ?_
      refine WQ.yldG rfl (blt rfl) rfl rfl rfl (fun hb => Y.move rfl rfl) ?_
      refine WQ.yldG rfl (blt rfl) rfl rfl rfl (fun hb => Y.indexLs k (h_l.ext xW) rfl Try.underlying23 ti42 (evg rfl hb) (evg rfl hb) rfl (by have q0 := (eq_t hb); omega)) ?_
      refine WQ.yldG rfl (blt rfl) rfl rfl rfl (fun hb => Y.fieldE rfl Try.underlying42 rfl ti3 (by decide) (evg rfl hb)) ?_
      refine WQ.yldG rfl (blt rfl) rfl rfl rfl (fun hb => Y.load1 rfl Try.underlying3 rfl (evg rfl hb) (Ls.at_ext (h_l.ext xW) (by have q0 := (eq_t hb); omega) rfl)) ?_
      refine WQ.callG rfl (blt rfl) rfl rfl rfl rfl rfl has56 (fun hb => (evs_cons (evg rfl hb) (evs_cons (evg rfl hb) evs_nil))) (fun hb w hw => calls_ext hw (has_any _ _ _ _ _ _ (Ls.ext hl31 hw))) ?_
      refine WQ.yldG rfl (blt rfl) rfl rfl rfl (fun hb => Y.not rfl (evg rfl hb)) ?_
      refine WQ.yld rfl (blt rfl) rfl (Y.and rfl rfl rfl rfl) ?_
      refine WQ.done (fun w33 x34 => ?_)
      have ow_u := ow_u.ext x34
      have hl31 := hl31.ext x34
      have xW := Ext.trans xW x34
      refine WK.then_normal (k26 _ _ ?_)
      refine WC.sub [(0, _), (3, _), (4, _), (5, _), (38, _)] ⟨rfl, rfl, rfl, rfl, rfl, trivial⟩ ?_
      refine WC.cond rfl (fun h35 => ?_) (fun h35 => ?_)
      ·
        have p35 := (eq_t (and_t h35).1)
        refine WC.region rfl ?_
        refine WL.yld rfl (blt rfl) rfl (Y.move rfl rfl) ?_
        refine WL.yld rfl (blt rfl) rfl (Y.move rfl rfl) ?_
        refine WL.yld rfl (blt rfl) rfl (Y.move rfl rfl) ?_
        have b36 : k < n_l := by omega
        refine WL.yld rfl (blt rfl) rfl (Y.indexLs k (h_l.ext xW) rfl Try.underlying23 ti42 rfl rfl rfl b36) ?_
        refine WL.yld rfl (blt rfl) rfl (Y.fieldE rfl Try.underlying42 rfl ti3 (by decide) rfl) ?_
        refine WL.yld rfl (blt rfl) rfl (Y.load1 rfl Try.underlying3 rfl rfl (Ls.at_eq (h_l.ext xW) b36 rfl)) ?_
        refine WL.bslice (zs := [.int .i64 0]) (cs := [_]) rfl (blt rfl) rfl rfl Try.underlying35 ti3 rfl (ble rfl) (by kernel_rfl) rfl rfl ?_
        intro g37 w38 e39 x40 m41
        have r_u_g37 := ne_newO ow_u e39
        have o_g37 := own_new xW e39
        have ow_u := ow_u.ext x40
        have hl31 := hl31.ext x40
        have xW := Ext.trans xW x40
        refine WL.appendB (f := Ck.ic) (news := [l[k]!.b]) rfl (blt rfl) rfl rfl rfl rfl Try.underlying35 ti3 rfl (by decide) rfl ow_u (fun _ => rfl) Ck.ic_one m41 rfl xW.size (by have q0 := inv_k.len; first | omega | (simp only [List.length_append, List.length_cons, List.length_nil, List.length_take, List.length_drop, List.length_reverse]; omega)) (Nat.le_trans (show _ ≤ 140737488355328 from by have q0 := inv_k.len; first | omega | (simp only [List.length_append, List.length_cons, List.length_nil, List.length_take, List.length_drop, List.length_reverse]; omega)) (by decide)) (fun v42 w43 ow44 gr45 nb46 => ?_)
        have r_v42_g37 := ne_app nb46 r_u_g37 m41
        have m41 := m41.grown gr45 r_u_g37
        have xW := Ext.grown xW gr45 (fun b hb => (OwnL.lt ow_u hb).1)
        refine WL.yld rfl (blt rfl) rfl (Y.assign rfl rfl) ?_
        refine WL.nil ?_
        refine WK.then_normal (k25 _ _ ?_)
        refine WC.sub [(0, _), (3, _), (4, _), (5, _)] ⟨rfl, rfl, rfl, rfl, trivial⟩ ?_
        refine WC.seq (fun K47 k47 => ?_)
        refine WC.regionDq (by kernel_rfl) (by kernel_rfl) rfl ?_
        refine WQ.yld rfl (blt rfl) rfl (Y.move rfl rfl) ?_
        refine WQ.yld rfl (blt rfl) rfl (Y.move rfl rfl) ?_
        have b48 : k < n_l := by omega
        refine WQ.yld rfl (blt rfl) rfl (Y.indexLs k (h_l.ext xW) rfl Try.underlying23 ti42 rfl rfl rfl b48) ?_
        refine WQ.yld rfl (blt rfl) rfl (Y.fieldE rfl Try.underlying42 rfl ti3 (by decide) rfl) ?_
        refine WQ.yld rfl (blt rfl) rfl (Y.load1 rfl Try.underlying3 rfl rfl (Ls.at_ext (h_l.ext xW) b48 rfl)) ?_
        refine WQ.yld rfl (blt rfl) rfl (Y.move rfl rfl) ?_
        refine WQ.yld rfl (blt rfl) rfl (Y.move rfl rfl) ?_
        obtain ⟨A49, n50, c51, rfl, hl52⟩ := OwnL.opened ow44 (fun _ => rfl) (by decide)
        have e_n50 := hl52.len
        try simp only [List.length_append, List.length_cons, List.length_nil, List.length_reverse, List.length_drop, List.length_take, List.length_map, List.length_replicate, List.length_set] at e_n50
        have z_n50 := hl52.nle
        have b53 : i < n50 := by omega
        refine WQ.yld rfl (blt rfl) rfl (Y.indexLs i hl52 rfl Try.underlying35 ti3 rfl rfl rfl b53) ?_
        refine WQ.yld rfl (blt rfl) rfl (Y.load1 rfl Try.underlying3 rfl rfl (Ls.at_ext hl52 b53 rfl)) ?_
        refine WQ.yld rfl (blt rfl) rfl (Y.eql rfl rfl rfl) ?_
        refine WQ.yld rfl (blt rfl) rfl (Y.move rfl rfl) ?_
        refine WQ.yldG rfl (blt rfl) rfl rfl rfl (fun hb => Y.move rfl rfl) ?_
        refine WQ.yldG rfl (blt rfl) rfl rfl rfl (fun hb => Y.move rfl rfl) ?_
        refine WQ.yldG rfl (blt rfl) rfl rfl rfl (fun hb => Y.move rfl rfl) ?_
        refine WQ.yldG rfl (blt rfl) rfl rfl rfl (fun hb => Y.indexLs k (h_l.ext xW) rfl Try.underlying23 ti42 (evg rfl hb) (evg rfl hb) rfl (by have q0 := (eq_t hb); omega)) ?_
        refine WQ.yldG rfl (blt rfl) rfl rfl rfl (fun hb => Y.fieldE rfl Try.underlying42 rfl ti3 (by decide) (evg rfl hb)) ?_
        refine WQ.yldG rfl (blt rfl) rfl rfl rfl (fun hb => Y.load1 rfl Try.underlying3 rfl (evg rfl hb) (Ls.at_ext (h_l.ext xW) (by have q0 := (eq_t hb); omega) rfl)) ?_
        refine WQ.callG rfl (blt rfl) rfl rfl rfl rfl rfl has56 (fun hb => (evs_cons (evg rfl hb) (evs_cons (evg rfl hb) evs_nil))) (fun hb w hw => calls_ext hw (has_any _ _ _ _ _ _ (Ls.ext hl52 hw))) ?_
        refine WQ.yldG rfl (blt rfl) rfl rfl rfl (fun hb => Y.not rfl (evg rfl hb)) ?_
        refine WQ.yld rfl (blt rfl) rfl (Y.and rfl rfl rfl rfl) ?_
        refine WQ.done (fun w54 x55 => ?_)
        have ow44 := ow44.ext x55
        have hl52 := hl52.ext x55
        have xW := Ext.trans xW x55
        refine WK.then_normal (k47 _ _ ?_)
        refine WC.sub [(0, _), (3, _), (4, _), (5, _), (66, _)] ⟨rfl, rfl, rfl, rfl, rfl, trivial⟩ ?_
        refine WC.cond rfl (fun h56 => ?_) (fun h56 => ?_)
        ·
          have p56 := (eq_t (and_t h56).1)
          refine WC.region rfl ?_
          refine WL.yld rfl (blt rfl) rfl (Y.move rfl rfl) ?_
          refine WL.yld rfl (blt rfl) rfl (Y.move rfl rfl) ?_
          refine WL.yld rfl (blt rfl) rfl (Y.move rfl rfl) ?_
          have b57 : k < n_l := by omega
          refine WL.yld rfl (blt rfl) rfl (Y.indexLs k (h_l.ext xW) rfl Try.underlying23 ti42 rfl rfl rfl b57) ?_
          refine WL.yld rfl (blt rfl) rfl (Y.fieldE rfl Try.underlying42 rfl ti3 (by decide) rfl) ?_
          refine WL.yld rfl (blt rfl) rfl (Y.load1 rfl Try.underlying3 rfl rfl (Ls.at_eq (h_l.ext xW) b57 rfl)) ?_
          refine WL.bslice (zs := [.int .i64 0]) (cs := [_]) rfl (blt rfl) rfl rfl Try.underlying35 ti3 rfl (ble rfl) (by kernel_rfl) rfl rfl ?_
          intro g58 w59 e60 x61 m62
          have r_v42_g58 := ne_newO ow44 e60
          have o_g58 := own_new xW e60
          have ow44 := ow44.ext x61
          have hl52 := hl52.ext x61
          have xW := Ext.trans xW x61
          refine WL.appendB (f := Ck.ic) (news := [l[k]!.a]) rfl (blt rfl) rfl rfl rfl rfl Try.underlying35 ti3 rfl (by decide) rfl ow44 (fun _ => rfl) Ck.ic_one m62 rfl xW.size (by have q0 := inv_k.len; first | omega | (simp only [List.length_append, List.length_cons, List.length_nil, List.length_take, List.length_drop, List.length_reverse]; omega)) (Nat.le_trans (show _ ≤ 140737488355328 from by have q0 := inv_k.len; first | omega | (simp only [List.length_append, List.length_cons, List.length_nil, List.length_take, List.length_drop, List.length_reverse]; omega)) (by decide)) (fun v63 w64 ow65 gr66 nb67 => ?_)
          have r_v63_g58 := ne_app nb67 r_v42_g58 m62
          have m62 := m62.grown gr66 r_v42_g58
          have xW := Ext.grown xW gr66 (fun b hb => (OwnL.lt ow44 hb).1)
          refine WL.yld rfl (blt rfl) rfl (Y.assign rfl rfl) ?_
          refine WL.nil ?_
          refine WK.in_normal ?_
          refine WK.then_normal (k24 _ _ ?_)
          refine WC.sub [(0, _), (3, _), (4, _), (5, _)] ⟨rfl, rfl, rfl, rfl, trivial⟩ ?_
          refine WC.region rfl ?_
          refine WL.yld rfl (blt rfl) rfl (Y.move rfl rfl) ?_
          refine WL.yld rfl (blt rfl) rfl (Y.add rfl rfl rfl (wrap_i64 (by first | omega | (dsimp only; omega)))) ?_
          refine WL.yld rfl (blt rfl) rfl (Y.assign rfl rfl) ?_
          refine WL.nil ?_
          refine WK.roundS _ [(5, .int .i64 (((k + 1) : Nat) : Int)), (3, v63)] ⟨rfl, rfl, rfl, rfl, trivial⟩ ?_ ⟨(k + 1), v63, _, rfl, rfl, xW, ow65, (by omega), (by have q := hi_k; first | exact q | (simp only [List.length_append]; omega)), ((inv_k.half_t hi_k (by omega) h35).full_t (by omega) h56)⟩
          show _ - (k + 1) < _ - k; omega
        ·
          have p56 := ((and_f h56).imp (fun h => (eq_f h)) (fun h => h))
          refine WC.skip ?_
          refine WK.in_normal ?_
          refine WK.then_normal (k24 _ _ ?_)
          refine WC.sub [(0, _), (3, _), (4, _), (5, _)] ⟨rfl, rfl, rfl, rfl, trivial⟩ ?_
          refine WC.region rfl ?_
          refine WL.yld rfl (blt rfl) rfl (Y.move rfl rfl) ?_
          refine WL.yld rfl (blt rfl) rfl (Y.add rfl rfl rfl (wrap_i64 (by first | omega | (dsimp only; omega)))) ?_
          refine WL.yld rfl (blt rfl) rfl (Y.assign rfl rfl) ?_
          refine WL.nil ?_
          refine WK.roundS _ [(5, .int .i64 (((k + 1) : Nat) : Int)), (3, (.slice A49 n50 c51))] ⟨rfl, rfl, rfl, rfl, trivial⟩ ?_ ⟨(k + 1), (.slice A49 n50 c51), _, rfl, rfl, xW, ow44, (by omega), (by have q := hi_k; first | exact q | (simp only [List.length_append]; omega)), ((inv_k.half_t hi_k (by omega) h35).full_f (by omega) h56)⟩
          show _ - (k + 1) < _ - k; omega
      ·
        have p35 := ((and_f h35).imp (fun h => (eq_f h)) (fun h => h))
        refine WC.skip ?_
        refine WK.then_normal (k25 _ _ ?_)
        refine WC.sub [(0, _), (3, _), (4, _), (5, _)] ⟨rfl, rfl, rfl, rfl, trivial⟩ ?_
        refine WC.seq (fun K68 k68 => ?_)
        refine WC.regionDq (by kernel_rfl) (by kernel_rfl) rfl ?_
        refine WQ.yld rfl (blt rfl) rfl (Y.move rfl rfl) ?_
        refine WQ.yld rfl (blt rfl) rfl (Y.move rfl rfl) ?_
        have b69 : k < n_l := by omega
        refine WQ.yld rfl (blt rfl) rfl (Y.indexLs k (h_l.ext xW) rfl Try.underlying23 ti42 rfl rfl rfl b69) ?_
        refine WQ.yld rfl (blt rfl) rfl (Y.fieldE rfl Try.underlying42 rfl ti3 (by decide) rfl) ?_
        refine WQ.yld rfl (blt rfl) rfl (Y.load1 rfl Try.underlying3 rfl rfl (Ls.at_ext (h_l.ext xW) b69 rfl)) ?_
        refine WQ.yld rfl (blt rfl) rfl (Y.move rfl rfl) ?_
        refine WQ.yld rfl (blt rfl) rfl (Y.move rfl rfl) ?_
        have b70 : i < n29 := by omega
        refine WQ.yld rfl (blt rfl) rfl (Y.indexLs i hl31 rfl Try.underlying35 ti3 rfl rfl rfl b70) ?_
        refine WQ.yld rfl (blt rfl) rfl (Y.load1 rfl Try.underlying3 rfl rfl (Ls.at_ext hl31 b70 rfl)) ?_
        refine WQ.yld rfl (blt rfl) rfl (Y.eql rfl rfl rfl) ?_
        refine WQ.yld rfl (blt rfl) rfl (Y.move rfl rfl) ?_
        refine WQ.yldG rfl (blt rfl) rfl rfl rfl (fun hb => Y.move rfl rfl) ?_
        refine WQ.yldG rfl (blt rfl) rfl rfl rfl (fun hb => Y.move rfl rfl) ?_
        refine WQ.yldG rfl (blt rfl) rfl rfl rfl (fun hb => Y.move rfl rfl) ?_
        refine WQ.yldG rfl (blt rfl) rfl rfl rfl (fun hb => Y.indexLs k (h_l.ext xW) rfl Try.underlying23 ti42 (evg rfl hb) (evg rfl hb) rfl (by have q0 := (eq_t hb); omega)) ?_
        refine WQ.yldG rfl (blt rfl) rfl rfl rfl (fun hb => Y.fieldE rfl Try.underlying42 rfl ti3 (by decide) (evg rfl hb)) ?_
        refine WQ.yldG rfl (blt rfl) rfl rfl rfl (fun hb => Y.load1 rfl Try.underlying3 rfl (evg rfl hb) (Ls.at_ext (h_l.ext xW) (by have q0 := (eq_t hb); omega) rfl)) ?_
        refine WQ.callG rfl (blt rfl) rfl rfl rfl rfl rfl has56 (fun hb => (evs_cons (evg rfl hb) (evs_cons (evg rfl hb) evs_nil))) (fun hb w hw => calls_ext hw (has_any _ _ _ _ _ _ (Ls.ext hl31 hw))) ?_
        refine WQ.yldG rfl (blt rfl) rfl rfl rfl (fun hb => Y.not rfl (evg rfl hb)) ?_
        refine WQ.yld rfl (blt rfl) rfl (Y.and rfl rfl rfl rfl) ?_
        refine WQ.done (fun w71 x72 => ?_)
        have ow_u := ow_u.ext x72
        have hl31 := hl31.ext x72
        have xW := Ext.trans xW x72
        refine WK.then_normal (k68 _ _ ?_)
        refine WC.sub [(0, _), (3, _), (4, _), (5, _), (66, _)] ⟨rfl, rfl, rfl, rfl, rfl, trivial⟩ ?_
        refine WC.cond rfl (fun h73 => ?_) (fun h73 => ?_)
        ·
          have p73 := (eq_t (and_t h73).1)
          refine WC.region rfl ?_
          refine WL.yld rfl (blt rfl) rfl (Y.move rfl rfl) ?_
          refine WL.yld rfl (blt rfl) rfl (Y.move rfl rfl) ?_
          refine WL.yld rfl (blt rfl) rfl (Y.move rfl rfl) ?_
          have b74 : k < n_l := by omega
          refine WL.yld rfl (blt rfl) rfl (Y.indexLs k (h_l.ext xW) rfl Try.underlying23 ti42 rfl rfl rfl b74) ?_
          refine WL.yld rfl (blt rfl) rfl (Y.fieldE rfl Try.underlying42 rfl ti3 (by decide) rfl) ?_
          refine WL.yld rfl (blt rfl) rfl (Y.load1 rfl Try.underlying3 rfl rfl (Ls.at_eq (h_l.ext xW) b74 rfl)) ?_
          refine WL.bslice (zs := [.int .i64 0]) (cs := [_]) rfl (blt rfl) rfl rfl Try.underlying35 ti3 rfl (ble rfl) (by kernel_rfl) rfl rfl ?_
          intro g75 w76 e77 x78 m79
          have r_u_g75 := ne_newO ow_u e77
          have o_g75 := own_new xW e77
          have ow_u := ow_u.ext x78
          have hl31 := hl31.ext x78
          have xW := Ext.trans xW x78
          refine WL.appendB (f := Ck.ic) (news := [l[k]!.a]) rfl (blt rfl) rfl rfl rfl rfl Try.underlying35 ti3 rfl (by decide) rfl ow_u (fun _ => rfl) Ck.ic_one m79 rfl xW.size (by have q0 := inv_k.len; first | omega | (simp only [List.length_append, List.length_cons, List.length_nil, List.length_take, List.length_drop, List.length_reverse]; omega)) (Nat.le_trans (show _ ≤ 140737488355328 from by have q0 := inv_k.len; first | omega | (simp only [List.length_append, List.length_cons, List.length_nil, List.length_take, List.length_drop, List.length_reverse]; omega)) (by decide)) (fun v80 w81 ow82 gr83 nb84 => ?_)
          have r_v80_g75 := ne_app nb84 r_u_g75 m79
          have m79 := m79.grown gr83 r_u_g75
          have xW := Ext.grown xW gr83 (fun b hb => (OwnL.lt ow_u hb).1)
          refine WL.yld rfl (blt rfl) rfl (Y.assign rfl rfl) ?_
          refine WL.nil ?_
          refine WK.in_normal ?_
          refine WK.then_normal (k24 _ _ ?_)
          refine WC.sub [(0, _), (3, _), (4, _), (5, _)] ⟨rfl, rfl, rfl, rfl, trivial⟩ ?_
          refine WC.region rfl ?_
          refine WL.yld rfl (blt rfl) rfl (Y.move rfl rfl) ?_
          refine WL.yld rfl (blt rfl) rfl (Y.add rfl rfl rfl (wrap_i64 (by first | omega | (dsimp only; omega)))) ?_
          refine WL.yld rfl (blt rfl) rfl (Y.assign rfl rfl) ?_
          refine WL.nil ?_
          refine WK.roundS _ [(5, .int .i64 (((k + 1) : Nat) : Int)), (3, v80)] ⟨rfl, rfl, rfl, rfl, trivial⟩ ?_ ⟨(k + 1), v80, _, rfl, rfl, xW, ow82, (by omega), (by have q := hi_k; first | exact q | (simp only [List.length_append]; omega)), ((inv_k.half_f hi_k (by omega) h35).full_t (by omega) h73)⟩
          show _ - (k + 1) < _ - k; omega
        ·
          have p73 := ((and_f h73).imp (fun h => (eq_f h)) (fun h => h))
          refine WC.skip ?_
          refine WK.in_normal ?_
          refine WK.then_normal (k24 _ _ ?_)
          refine WC.sub [(0, _), (3, _), (4, _), (5, _)] ⟨rfl, rfl, rfl, rfl, trivial⟩ ?_
          refine WC.region rfl ?_
          refine WL.yld rfl (blt rfl) rfl (Y.move rfl rfl) ?_
          refine WL.yld rfl (blt rfl) rfl (Y.add rfl rfl rfl (wrap_i64 (by first | omega | (dsimp only; omega)))) ?_
          refine WL.yld rfl (blt rfl) rfl (Y.assign rfl rfl) ?_
          refine WL.nil ?_
          refine WK.roundS _ [(5, .int .i64 (((k + 1) : Nat) : Int)), (3, (.slice A28 n29 c30))] ⟨rfl, rfl, rfl, rfl, trivial⟩ ?_ ⟨(k + 1), (.slice A28 n29 c30), _, rfl, rfl, xW, ow_u, (by omega), (by have q := hi_k; first | exact q | (simp only [List.length_append]; omega)), ((inv_k.half_f hi_k (by omega) h35).full_f (by omega) h73)⟩
          show _ - (k + 1) < _ - k; omega
    ·
      have p23 := (dec_f h23)
      refine WC.exit ?_
      refine WK.then_exit ?_
      refine WK.then_exit ?_
      refine WK.in_exit ?_
      refine WK.in_normal ?_
      refine WK.then_normal (k18 _ _ ?_)
      refine WC.sub [(0, _), (3, _), (4, _)] ⟨rfl, rfl, rfl, trivial⟩ ?_
      refine WC.region rfl ?_
      refine WL.yld rfl (blt rfl) rfl (Y.move rfl rfl) ?_
      refine WL.yld rfl (blt rfl) rfl (Y.add rfl rfl rfl (wrap_i64 (by first | omega | (dsimp only; omega)))) ?_
      refine WL.yld rfl (blt rfl) rfl (Y.assign rfl rfl) ?_
      refine WL.nil ?_
      refine WK.roundS _ [(4, .int .i64 (((i + 1) : Nat) : Int)), (3, u)] ⟨rfl, rfl, rfl, trivial⟩ ?_ ⟨(i + 1), u, _, rfl, rfl, xW, ow_u, (inv_k.turn (by omega) hi_k)⟩
      have q := inv_i.len; show _ - (i + 1) < _ - i; omega
  ·
    have p17 := (dec_f h17)
    refine WC.exit ?_
    refine WK.then_exit ?_
    refine WK.then_exit ?_
    refine WK.in_exit ?_
    refine WK.then_normal (k8 _ _ ?_)
    refine WC.sub [(3, _)] ⟨rfl, trivial⟩ ?_
    refine WC.seq (fun K85 k85 => ?_)
    refine WC.region rfl ?_
    refine WL.yld rfl (blt rfl) rfl (Y.move rfl rfl) ?_
    refine WL.yld rfl (blt rfl) rfl (Y.assign rfl rfl) ?_
    refine WL.nil ?_
    refine WK.then_normal (k85 _ _ ?_)
    refine WC.sub [(2, _)] ⟨rfl, trivial⟩ ?_
    refine WC.ret ?_
    clear k1 k2 k8 k9 k11 k12 k85
    refine WK.ret [_] rfl ⟨rfl, trivial⟩ ?_
    exact ⟨_, _, rfl, ow_v, inv_i.all (by omega), xW⟩
theorem rlinked_any (A_d : Option Addr) (n_d c_d : Nat) (d : List Ck.Dom) (A_l : Option Addr) (n_l c_l : Nat) (l : List Ck.Snap) (id : Int) (w : World) (h_d : Ls w A_d n_d c_d Ck.Dom.c 2 d) (h_l : Ls w A_l n_l c_l Ck.Snap.c 5 l) (hn : n_l ≤ 1000) :
    Calls Try.prog 33 #[.slice A_d n_d c_d, .slice A_l n_l c_l, .int .i64 id] w fun e w' => e = .returned (.bool (Ck.linkedF d l id)) ∧ Ext w w' := by
  have xW := Ext.refl w
  have e_d := h_d.len
  have z_d := h_d.nle
  have e_l := h_l.len
  have z_l := h_l.nle
  refine calls_of_WC (args := [.slice A_d n_d c_d, .slice A_l n_l c_l, .int .i64 id]) Try.func33 rfl rfl (ble rfl) ?_
  refine WC.seq (fun K1 k1 => ?_)
  refine WC.region rfl ?_
  refine WL.yld rfl (blt rfl) rfl (Y.assign rfl rfl) ?_
  refine WL.nil ?_
  refine WK.then_normal (k1 _ _ ?_)
  refine WC.sub [(0, _), (1, _), (2, _)] ⟨rfl, rfl, rfl, trivial⟩ ?_
  refine WC.seq (fun K2 k2 => ?_)
  refine WC.region rfl ?_
  refine WL.yld rfl (blt rfl) rfl (Y.move rfl rfl) ?_
  refine WL.yld rfl (blt rfl) rfl (Y.move rfl rfl) ?_
  refine WL.call rfl (blt rfl) rfl rfl rfl has29 rfl (rcheck_any _ _ _ _ _ _ _ _ _ (h_d.ext xW) (h_l.ext xW)) ?_
  rintro _ w3 ⟨rfl, x4⟩
  refine ⟨_, rfl, ?_⟩
  have xW := Ext.trans xW x4
  refine WL.yld rfl (blt rfl) rfl (Y.eql rfl rfl rfl) ?_
  refine WL.yld rfl (blt rfl) rfl (Y.move rfl rfl) ?_
  refine WL.yldG rfl (blt rfl) rfl rfl rfl (fun hb => Y.move rfl rfl) ?_
  refine WL.yldG rfl (blt rfl) rfl rfl rfl (fun hb => Y.move rfl rfl) ?_
  refine WL.callG rfl (blt rfl) rfl rfl rfl rfl rfl has52 (fun hb => (evs_cons (evg rfl hb) (evs_cons (evg rfl hb) evs_nil))) (fun hb => find_any _ _ _ _ _ _ (h_d.ext xW)) (fun w5 x6 => ?_)
  have xW := Ext.trans xW x6
  refine WL.yldG rfl (blt rfl) rfl rfl rfl (fun hb => Y.geq rfl (evg rfl hb) rfl) ?_
  refine WL.yld rfl (blt rfl) rfl (Y.and rfl rfl rfl rfl) ?_
  refine WL.yld rfl (blt rfl) rfl (Y.move rfl rfl) ?_
  refine WL.split (t := 17) rfl (fun h7 => ?_) (fun h7 => ?_)
  ·
    have p7 := (And.intro (eq_t (and_t h7).1) (dec_t (and_t h7).2))
    refine WL.yldW rfl (blt rfl) rfl rfl rfl (Y.move rfl rfl) ?_
    refine WL.callW rfl (blt rfl) rfl rfl rfl rfl rfl has57 rfl (reached_any _ _ _ _ _ (h_l.ext xW) (by omega)) ?_
    rintro _ w8 ⟨v10, out12, rfl, ow11, ho13, x9⟩
    refine ⟨_, rfl, ?_⟩
    have ow11 := OwnL.base_le ow11 xW.size
    have xW := Ext.trans xW x9
    refine WL.yldW rfl (blt rfl) rfl rfl rfl (Y.move rfl rfl) ?_
    obtain ⟨A14, n15, c16, rfl, hl17⟩ := OwnL.opened ow11 (fun _ => rfl) (by decide)
    have e_n15 := hl17.len
    try simp only [List.length_append, List.length_cons, List.length_nil, List.length_reverse, List.length_drop, List.length_take, List.length_map, List.length_replicate, List.length_set] at e_n15
    have z_n15 := hl17.nle
    refine WL.callW rfl (blt rfl) rfl rfl rfl rfl rfl has56 rfl (has_any _ _ _ _ _ _ hl17) ?_
    rintro _ w18 ⟨rfl, x19⟩
    refine ⟨_, rfl, ?_⟩
    have ow11 := ow11.ext x19
    have hl17 := hl17.ext x19
    have xW := Ext.trans xW x19
    refine WL.yld rfl (blt rfl) rfl (Y.pickT rfl rfl rfl) ?_
    refine WL.yld rfl (blt rfl) rfl (Y.assign rfl rfl) ?_
    refine WL.nil ?_
    refine WK.then_normal (k2 _ _ ?_)
    refine WC.sub [(6, _)] ⟨rfl, trivial⟩ ?_
    refine WC.ret ?_
    clear k1 k2
    refine WK.ret [_] rfl ⟨rfl, trivial⟩ ?_
    exact ⟨ret1 (vb (Ck.linked_dec h7 ho13)), xW⟩
  ·
    have p7 := ((and_f h7).imp (fun h => (eq_f h)) (fun h => (dec_f h)))
    refine WL.skip rfl (blt rfl) rfl rfl rfl rfl ?_
    refine WL.skip rfl (blt rfl) rfl rfl rfl rfl ?_
    refine WL.skip rfl (blt rfl) rfl rfl rfl rfl ?_
    refine WL.skip rfl (blt rfl) rfl rfl rfl rfl ?_
    refine WL.yld rfl (blt rfl) rfl (Y.pickF rfl rfl rfl) ?_
    refine WL.yld rfl (blt rfl) rfl (Y.assign rfl rfl) ?_
    refine WL.nil ?_
    refine WK.then_normal (k2 _ _ ?_)
    refine WC.sub [(6, _)] ⟨rfl, trivial⟩ ?_
    refine WC.ret ?_
    clear k1 k2
    refine WK.ret [_] rfl ⟨rfl, trivial⟩ ?_
    exact ⟨ret1 (vb (Ck.linked_false h7).symm), xW⟩
end RP
end CkW

end Go.Proofs.Ytaglpampidlbmaa
