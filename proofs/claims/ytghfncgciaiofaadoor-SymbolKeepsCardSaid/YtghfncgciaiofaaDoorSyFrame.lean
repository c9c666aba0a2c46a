/- Contracts: where an address lies, frames. Conditions: what each theorem states. -/
import Derived.Test.YtghfncgciaiofaaDoorSyFind
import Derived.Test.YtghfncgciaiofaaDoorSyFr
namespace Go.Proofs.YtghfncgciaiofaaDoor
open Go Go.Eng Go.RowKit
set_option linter.unusedVariables false
namespace SyW
open R X F
namespace Y
theorem ti3 : TI Tryd.prog 3 (.int .i64 0) 1 8 := TI.mk (by kernel_rfl)
theorem ti9 : TI Tryd.prog 9 (.string ⟨#[]⟩) 1 16 := TI.mk (by kernel_rfl)
theorem ti32 : TI Tryd.prog 32 (.slice none 0 0) 1 24 := TI.mk (by kernel_rfl)
theorem ti34 : TI Tryd.prog 34 (.agg #[.string ⟨#[]⟩, .int .i64 0, .int .i64 0, .slice none 0 0]) 4 56 := TI.mk (by kernel_rfl)
theorem ti36 : TI Tryd.prog 36 (.agg #[.int .i64 0, .string ⟨#[]⟩]) 2 24 := TI.mk (by kernel_rfl)
theorem has11 : Has Tryd.prog 11 := ⟨_, Tryd.func11, rfl, by kernel_rfl⟩
theorem has12 : Has Tryd.prog 12 := ⟨_, Tryd.func12, rfl, by kernel_rfl⟩
theorem has13 : Has Tryd.prog 13 := ⟨_, Tryd.func13, rfl, by kernel_rfl⟩
theorem has22 : Has Tryd.prog 22 := ⟨_, Tryd.func22, rfl, by kernel_rfl⟩
theorem has26 : Has Tryd.prog 26 := ⟨_, Tryd.func26, rfl, by kernel_rfl⟩
theorem has27 : Has Tryd.prog 27 := ⟨_, Tryd.func27, rfl, by kernel_rfl⟩
theorem has41 : Has Tryd.prog 41 := ⟨_, Tryd.func41, rfl, by kernel_rfl⟩
theorem Find_any (A_l : Option Addr) (n_l c_l : Nat) (l : List Sy.M) (q : Int) (w : World) (h_l : Ls w A_l n_l c_l Sy.M.v 4 l) (g_l : Sy.Good w l) (hF : Sy.Few l) (r_q : -9223372036854775808 ≤ q ∧ q ≤ 9223372036854775807) :
    Calls Tryd.prog 10 #[.slice A_l n_l c_l, .int .i64 q] w fun e w' => e = .returned (.tuple #[.string (Sy.fnd l q).1, .int .i64 (Sy.fnd l q).2.1, .bool (Sy.fnd l q).2.2]) ∧ Ext w w' := by
  have xW := Ext.refl w
  have e_l := h_l.len
  have z_l := h_l.nle
  refine calls_of_WC (args := [.slice A_l n_l c_l, .int .i64 q]) Tryd.func10 rfl rfl (ble rfl) ?_
  refine WC.seq (fun K1 k1 => ?_)
  refine WC.region rfl ?_
  refine WL.yld rfl (blt rfl) rfl (Y.assign rfl rfl) ?_
  refine WL.yld rfl (blt rfl) rfl (Y.assign rfl rfl) ?_
  refine WL.yld rfl (blt rfl) rfl (Y.assign rfl rfl) ?_
  refine WL.nil ?_
  refine WK.then_normal (k1 _ _ ?_)
  refine WC.sub [(0, _), (1, _)] ⟨rfl, rfl, trivial⟩ ?_
  refine WC.seq (fun K2 k2 => ?_)
  refine WC.seq (fun K3 k3 => ?_)
  refine WC.region rfl ?_
  refine WL.yld rfl (blt rfl) rfl (Y.move rfl rfl) ?_
  refine WL.call rfl (blt rfl) rfl rfl rfl has12 rfl (check_any _ _ _ _ _ (h_l.ext xW) (Sy.Good.ext g_l xW) hF) ?_
  rintro _ w4 ⟨rfl, x5⟩
  refine ⟨_, rfl, ?_⟩
  have xW := Ext.trans xW x5
  refine WL.yld rfl (blt rfl) rfl (Y.neq rfl rfl rfl) ?_
  refine WL.nil ?_
  refine WK.then_normal (k3 _ _ ?_)
  refine WC.sub [(0, _), (1, _), (9, _)] ⟨rfl, rfl, rfl, trivial⟩ ?_
  refine WC.cond rfl (fun h6 => ?_) (fun h6 => ?_)
  ·
    have p6 := (eq_f (not_t h6))
    refine WC.seq (fun K7 k7 => ?_)
    refine WC.region rfl ?_
    refine WL.yld rfl (blt rfl) rfl (Y.assign rfl rfl) ?_
    refine WL.yld rfl (blt rfl) rfl (Y.assign rfl rfl) ?_
    refine WL.yld rfl (blt rfl) rfl (Y.assign rfl rfl) ?_
    refine WL.nil ?_
    refine WK.then_normal (k7 _ _ ?_)
    refine WC.sub [(4, _), (5, _), (6, _)] ⟨rfl, rfl, rfl, trivial⟩ ?_
    refine WC.ret ?_
    refine WK.then_ret ?_
    clear k1 k2 k3 k7
    refine WK.ret [_, _, _] rfl ⟨rfl, rfl, rfl, trivial⟩ ?_
    refine ⟨?_, xW⟩
    rw [Sy.fnd_bad (by have q := h6; simpa using q)]; rfl
  ·
    have p6 := (eq_t (not_f h6))
    have hc0 : Sy.chkE l = 0 := (by have q := h6; simpa using q)
    have hV := Sy.chk_vals hc0
    refine WC.skip ?_
    refine WK.then_normal (k2 _ _ ?_)
    refine WC.sub [(0, _), (1, _)] ⟨rfl, rfl, trivial⟩ ?_
    refine WC.seq (fun K8 k8 => ?_)
    refine WC.region rfl ?_
    refine WL.yld rfl (blt rfl) rfl (Y.move rfl rfl) ?_
    refine WL.yld rfl (blt rfl) rfl (Y.move rfl rfl) ?_
    refine WL.call rfl (blt rfl) rfl rfl rfl has22 rfl (find_any _ _ _ _ _ _ (h_l.ext xW) (Sy.Good.ext g_l xW) hF hV (by omega)) ?_
    rintro _ w9 ⟨rfl, x10⟩
    refine ⟨_, rfl, ?_⟩
    have xW := Ext.trans xW x10
    refine WL.yld rfl (blt rfl) rfl (Y.extract rfl rfl rfl) ?_
    refine WL.yld rfl (blt rfl) rfl (Y.extract rfl rfl rfl) ?_
    refine WL.yld rfl (blt rfl) rfl (Y.extract rfl rfl rfl) ?_
    refine WL.yld rfl (blt rfl) rfl (Y.assign rfl rfl) ?_
    refine WL.yld rfl (blt rfl) rfl (Y.assign rfl rfl) ?_
    refine WL.yld rfl (blt rfl) rfl (Y.assign rfl rfl) ?_
    refine WL.nil ?_
    refine WK.then_normal (k8 _ _ ?_)
    refine WC.sub [(4, _), (5, _), (6, _)] ⟨rfl, rfl, rfl, trivial⟩ ?_
    refine WC.ret ?_
    clear k1 k2 k3 k8
    refine WK.ret [_, _, _] rfl ⟨rfl, rfl, rfl, trivial⟩ ?_
    refine ⟨?_, xW⟩
    rw [Sy.fnd_ok (by have q := h6; simpa using q)]; rfl
theorem RFind_any (A_l : Option Addr) (n_l c_l : Nat) (l : List Sy.M) (q : Int) (w : World) (h_l : Ls w A_l n_l c_l Sy.M.v 4 l) (g_l : Sy.Good w l) (hF : Sy.Few l) (r_q : -9223372036854775808 ≤ q ∧ q ≤ 9223372036854775807) :
    Calls Tryd.prog 11 #[.slice A_l n_l c_l, .int .i64 q] w fun e w' => e = .returned (.tuple #[.string (Sy.fnd l q).1, .int .i64 (Sy.fnd l q).2.1, .bool (Sy.fnd l q).2.2]) ∧ Ext w w' := by
  have xW := Ext.refl w
  have e_l := h_l.len
  have z_l := h_l.nle
  refine calls_of_WC (args := [.slice A_l n_l c_l, .int .i64 q]) Tryd.func11 rfl rfl (ble rfl) ?_
  refine WC.seq (fun K1 k1 => ?_)
  refine WC.region rfl ?_
  refine WL.yld rfl (blt rfl) rfl (Y.assign rfl rfl) ?_
  refine WL.yld rfl (blt rfl) rfl (Y.assign rfl rfl) ?_
  refine WL.yld rfl (blt rfl) rfl (Y.assign rfl rfl) ?_
  refine WL.nil ?_
  refine WK.then_normal (k1 _ _ ?_)
  refine WC.sub [(0, _), (1, _)] ⟨rfl, rfl, trivial⟩ ?_
  refine WC.seq (fun K2 k2 => ?_)
  refine WC.seq (fun K3 k3 => ?_)
  refine WC.region rfl ?_
  refine WL.yld rfl (blt rfl) rfl (Y.move rfl rfl) ?_
  refine WL.call rfl (blt rfl) rfl rfl rfl has13 rfl (rcheck_any _ _ _ _ _ (h_l.ext xW) (Sy.Good.ext g_l xW) hF) ?_
  rintro _ w4 ⟨rfl, x5⟩
  refine ⟨_, rfl, ?_⟩
  have xW := Ext.trans xW x5
  refine WL.yld rfl (blt rfl) rfl (Y.neq rfl rfl rfl) ?_
  refine WL.nil ?_
  refine WK.then_normal (k3 _ _ ?_)
  refine WC.sub [(0, _), (1, _), (15, _)] ⟨rfl, rfl, rfl, trivial⟩ ?_
  refine WC.cond rfl (fun h6 => ?_) (fun h6 => ?_)
  ·
    have p6 := (eq_f (not_t h6))
    refine WC.seq (fun K7 k7 => ?_)
    refine WC.region rfl ?_
    refine WL.yld rfl (blt rfl) rfl (Y.assign rfl rfl) ?_
    refine WL.yld rfl (blt rfl) rfl (Y.assign rfl rfl) ?_
    refine WL.yld rfl (blt rfl) rfl (Y.assign rfl rfl) ?_
    refine WL.nil ?_
    refine WK.then_normal (k7 _ _ ?_)
    refine WC.sub [(4, _), (5, _), (6, _)] ⟨rfl, rfl, rfl, trivial⟩ ?_
    refine WC.ret ?_
    refine WK.then_ret ?_
    clear k1 k2 k3 k7
    refine WK.ret [_, _, _] rfl ⟨rfl, rfl, rfl, trivial⟩ ?_
    refine ⟨?_, xW⟩
    rw [Sy.fnd_bad (by have q := h6; simpa using q)]; rfl
  ·
    have p6 := (eq_t (not_f h6))
    have hc0 : Sy.chkE l = 0 := (by have q := h6; simpa using q)
    have hV := Sy.chk_vals hc0
    refine WC.skip ?_
    refine WK.then_normal (k2 _ _ ?_)
    refine WC.sub [(0, _), (1, _)] ⟨rfl, rfl, trivial⟩ ?_
    refine WC.seq (fun K8 k8 => ?_)
    refine WC.region rfl ?_
    refine WL.yld rfl (blt rfl) rfl (Y.assign rfl rfl) ?_
    refine WL.yld rfl (blt rfl) rfl (Y.assign rfl rfl) ?_
    refine WL.yld rfl (blt rfl) rfl (Y.assign rfl rfl) ?_
    refine WL.nil ?_
    refine WK.then_normal (k8 _ _ ?_)
    refine WC.seq (fun K9 k9 => ?_)
    refine WC.seq (fun K10 k10 => ?_)
    refine WC.region rfl ?_
    refine WL.yld rfl (blt rfl) rfl (Y.assign rfl rfl) ?_
    refine WL.nil ?_
    refine WK.then_normal (k10 _ _ ?_)
    refine WC.block ?_
    refine WC.sub [(10, _), (7, _), (8, _), (9, _), (0, _), (1, _)] ⟨rfl, rfl, rfl, rfl, rfl, rfl, trivial⟩ ?_
    refine WC.loopS 4 (fun mz Ed W' => ∃ i : Nat, ∃ T : Option (Sy.M × Sy.S), mz = n_l - i ∧ Ed = [(10, .int .i64 ((i : Nat) : Int)), (7, .string (Sy.nmT T)), (8, .int .i64 (Sy.atT T)), (9, .bool (Option.isSome T))] ∧ Ext w W' ∧ (i ≤ n_l) ∧ (T = Sy.modT l q i)) _ ⟨0, none, rfl, rfl, xW, (Nat.zero_le _), rfl⟩ ?_
    rintro _ _ w11 ⟨i, T, rfl, rfl, xW, le_i, Ti⟩
    refine WC.sub [(10, _), (7, _), (8, _), (9, _), (0, _), (1, _)] ⟨rfl, rfl, rfl, rfl, rfl, rfl, trivial⟩ ?_
    refine WC.seq (fun K12 k12 => ?_)
    refine WC.seq (fun K13 k13 => ?_)
    refine WC.region rfl ?_
    refine WL.yld rfl (blt rfl) rfl (Y.move rfl rfl) ?_
    refine WL.yld rfl (blt rfl) rfl (Y.move rfl rfl) ?_
    refine WL.yld rfl (blt rfl) rfl (Y.lenSl rfl rfl rfl Tryd.underlying22 rfl) ?_
    refine WL.yld rfl (blt rfl) rfl (Y.lss rfl rfl rfl) ?_
    refine WL.nil ?_
    refine WK.then_normal (k13 _ _ ?_)
    refine WC.sub [(0, _), (1, _), (7, _), (8, _), (9, _), (10, _), (19, _)] ⟨rfl, rfl, rfl, rfl, rfl, rfl, rfl, trivial⟩ ?_
    refine WC.cond rfl (fun h14 => ?_) (fun h14 => ?_)
    ·
      have p14 := (dec_t h14)
      have va := (hV i (show i < l.length from by omega)).rng
      have mb := hF.m _ (bang_mem (show i < l.length from by omega))
      refine WC.skip ?_
      refine WK.then_normal (k12 _ _ ?_)
      refine WC.sub [(0, _), (1, _), (7, _), (8, _), (9, _), (10, _)] ⟨rfl, rfl, rfl, rfl, rfl, rfl, trivial⟩ ?_
      refine WC.seq (fun K15 k15 => ?_)
      refine WC.block ?_
      refine WC.seq (fun K16 k16 => ?_)
      refine WC.region rfl ?_
      refine WL.yld rfl (blt rfl) rfl (Y.move rfl rfl) ?_
      refine WL.yld rfl (blt rfl) rfl (Y.move rfl rfl) ?_
      have b17 : i < n_l := by omega
      refine WL.yld rfl (blt rfl) rfl (Y.indexLs i (h_l.ext xW) rfl Tryd.underlying22 ti34 rfl rfl rfl b17) ?_
      refine WL.yld rfl (blt rfl) rfl (Y.loadS (cs := [_, _, _, _]) rfl Tryd.underlying34 rfl ti34 rfl (Ls.part_eq (h_l.ext xW) b17 rfl)) ?_
      refine WL.alloc rfl (blt rfl) rfl rfl ti34 rfl ?_
      intro g18 w19 e20 x21 m22
      have o_g18 := own_new xW e20
      have xW := Ext.trans xW x21
      refine WL.store (cs' := [_, _, _, _]) rfl rfl rfl rfl rfl rfl ti34 m22 (ble rfl) rfl rfl (fun w23 on24 m25 => ?_)
      have xW := Ext.only xW on24 o_g18
      refine WL.nil ?_
      refine WK.then_normal (k16 _ _ ?_)
      refine WC.sub [(0, _), (1, _), (7, _), (8, _), (9, _), (10, _), (11, _)] ⟨rfl, rfl, rfl, rfl, rfl, rfl, rfl, trivial⟩ ?_
      refine WC.seq (fun K26 k26 => ?_)
      refine WC.region rfl ?_
      refine WL.yld rfl (blt rfl) rfl (Y.assign rfl rfl) ?_
      refine WL.nil ?_
      refine WK.then_normal (k26 _ _ ?_)
      refine WC.block ?_
      refine WC.sub [(12, _), (7, _), (8, _), (9, _), (0, _), (1, _), (10, _), (11, _)] ⟨rfl, rfl, rfl, rfl, rfl, rfl, rfl, rfl, trivial⟩ ?_
      refine WC.loopS 4 (fun mz Ed W' => ∃ k : Nat, ∃ U : Option (Sy.M × Sy.S), mz = l[i]!.n - k ∧ Ed = [(12, .int .i64 ((k : Nat) : Int)), (7, .string (Sy.nmT U)), (8, .int .i64 (Sy.atT U)), (9, .bool (Option.isSome U))] ∧ Ext w W' ∧ Blk W' g18 34 _ ∧ (k ≤ l[i]!.n) ∧ (U = Sy.curT l q i k)) _ ⟨0, T, rfl, rfl, xW, m25, (Nat.zero_le _), (by rw [Sy.cur_zero]; exact Ti)⟩ ?_
      rintro _ _ w27 ⟨k, U, rfl, rfl, xW, m25, le_k, Ui⟩
      refine WC.sub [(12, _), (7, _), (8, _), (9, _), (0, _), (1, _), (10, _), (11, _)] ⟨rfl, rfl, rfl, rfl, rfl, rfl, rfl, rfl, trivial⟩ ?_
      refine WC.seq (fun K28 k28 => ?_)
      refine WC.seq (fun K29 k29 => ?_)
      refine WC.region rfl ?_
      refine WL.yld rfl (blt rfl) rfl (Y.move rfl rfl) ?_
      refine WL.yld rfl (blt rfl) rfl (Y.fieldAddr rfl Tryd.underlying34 rfl ti32 (by decide) rfl) ?_
      refine WL.yld rfl (blt rfl) rfl (Y.load1 rfl Tryd.underlying32 rfl rfl (Blk.at_eq m25 rfl)) ?_
      refine WL.yld rfl (blt rfl) rfl (Y.lenSl rfl rfl rfl Tryd.underlying32 rfl) ?_
      refine WL.yld rfl (blt rfl) rfl (Y.lss rfl rfl rfl) ?_
      refine WL.yld rfl (blt rfl) rfl (Y.move rfl rfl) ?_
      refine WL.yldG rfl (blt rfl) rfl rfl rfl (fun hb => Y.move rfl rfl) ?_
      refine WL.yldG rfl (blt rfl) rfl rfl rfl (fun hb => Y.fieldAddr rfl Tryd.underlying34 rfl ti3 (by decide) rfl) ?_
      refine WL.yldG rfl (blt rfl) rfl rfl rfl (fun hb => Y.load1 rfl Tryd.underlying3 rfl (evg rfl hb) (Blk.at_eq m25 rfl)) ?_
      refine WL.yldG rfl (blt rfl) rfl rfl rfl (fun hb => Y.geq rfl (evg rfl hb) (evg rfl hb)) ?_
      refine WL.yld rfl (blt rfl) rfl (Y.and rfl rfl rfl rfl) ?_
      refine WL.yld rfl (blt rfl) rfl (Y.move rfl rfl) ?_
      refine WL.yldG rfl (blt rfl) rfl rfl rfl (fun hb => Y.move rfl rfl) ?_
      refine WL.yldG rfl (blt rfl) rfl rfl rfl (fun hb => Y.fieldAddr rfl Tryd.underlying34 rfl ti3 (by decide) rfl) ?_
      refine WL.yldG rfl (blt rfl) rfl rfl rfl (fun hb => Y.load1 rfl Tryd.underlying3 rfl (evg rfl hb) (Blk.at_eq m25 rfl)) ?_
      refine WL.yldG rfl (blt rfl) rfl rfl rfl (fun hb => Y.sub rfl (evg rfl hb) (evg rfl hb) (wrap_i64 (by have q0 := hb; simp only [Bool.and_eq_true, decide_eq_true_eq] at q0; omega))) ?_
      refine WL.yldG rfl (blt rfl) rfl rfl rfl (fun hb => Y.fieldAddr rfl Tryd.underlying34 rfl ti3 (by decide) rfl) ?_
      refine WL.yldG rfl (blt rfl) rfl rfl rfl (fun hb => Y.load1 rfl Tryd.underlying3 rfl (evg rfl hb) (Blk.at_eq m25 rfl)) ?_
      refine WL.yldG rfl (blt rfl) rfl rfl rfl (fun hb => Y.lss rfl (evg rfl hb) (evg rfl hb)) ?_
      refine WL.yld rfl (blt rfl) rfl (Y.and rfl rfl rfl rfl) ?_
      refine WL.nil ?_
      refine WK.then_normal (k29 _ _ ?_)
      refine WC.sub [(0, _), (1, _), (7, _), (8, _), (9, _), (10, _), (11, _), (12, _), (45, _)] ⟨rfl, rfl, rfl, rfl, rfl, rfl, rfl, rfl, rfl, trivial⟩ ?_
      refine WC.cond rfl (fun h30 => ?_) (fun h30 => ?_)
      ·
        have p30 := (And.intro (And.intro (dec_t (and_t (and_t h30).1).1) (dec_t (and_t (and_t h30).1).2)) (dec_t (and_t h30).2))
        have sr := Sy.sym_rng hV (show i < l.length from by omega) k
        have s1 := Sy.app_size l[i]!.nm ⟨#[58]⟩
        have s2 : (ByteArray.mk #[58]).size = 1 := rfl
        refine WC.skip ?_
        refine WK.then_normal (k28 _ _ ?_)
        refine WC.sub [(0, _), (1, _), (7, _), (8, _), (9, _), (10, _), (11, _), (12, _)] ⟨rfl, rfl, rfl, rfl, rfl, rfl, rfl, rfl, trivial⟩ ?_
        refine WC.seq (fun K31 k31 => ?_)
        refine WC.block ?_
        refine WC.seq (fun K32 k32 => ?_)
        refine WC.regionDq (by kernel_rfl) (by kernel_rfl) rfl ?_
        refine WQ.yld rfl (blt rfl) rfl (Y.fieldAddr rfl Tryd.underlying34 rfl ti3 (by decide) rfl) ?_
        refine WQ.yld rfl (blt rfl) rfl (Y.load1 rfl Tryd.underlying3 rfl rfl (Blk.at_ext m25 rfl)) ?_
        refine WQ.yld rfl (blt rfl) rfl (Y.fieldAddr rfl Tryd.underlying34 rfl ti32 (by decide) rfl) ?_
        refine WQ.yld rfl (blt rfl) rfl (Y.load1 rfl Tryd.underlying32 rfl rfl (Blk.at_ext m25 rfl)) ?_
        refine WQ.yld rfl (blt rfl) rfl (Y.move rfl rfl) ?_
        have b33 : k < l[i]!.n := by omega
        refine WQ.yld rfl (blt rfl) rfl (Y.indexLs k ((g_l _ (bang_mem (show i < l.length from by omega))).ext xW) rfl Tryd.underlying32 ti36 rfl rfl rfl b33) ?_
        refine WQ.yld rfl (blt rfl) rfl (Y.fieldE rfl Tryd.underlying36 rfl ti3 (by decide) rfl) ?_
        refine WQ.yld rfl (blt rfl) rfl (Y.load1 rfl Tryd.underlying3 rfl rfl (Ls.at_ext ((g_l _ (bang_mem (show i < l.length from by omega))).ext xW) b33 rfl)) ?_
        refine WQ.yld rfl (blt rfl) rfl (Y.add rfl rfl rfl (wrap_i64 (by first | omega | (dsimp only; omega)))) ?_
        refine WQ.yld rfl (blt rfl) rfl (Y.move rfl rfl) ?_
        refine WQ.yld rfl (blt rfl) rfl (Y.leq rfl rfl rfl) ?_
        refine WQ.done (fun w34 x35 => ?_)
        have m25 := m25.ext x35
        have xW := Ext.trans xW x35
        refine WK.then_normal (k32 _ _ ?_)
        refine WC.sub [(0, _), (1, _), (7, _), (8, _), (9, _), (10, _), (11, _), (12, _), (58, _)] ⟨rfl, rfl, rfl, rfl, rfl, rfl, rfl, rfl, rfl, trivial⟩ ?_
        refine WC.cond rfl (fun h36 => ?_) (fun h36 => ?_)
        ·
          have p36 := (dec_t h36)
          refine WC.seq (fun K37 k37 => ?_)
          refine WC.regionDq (by kernel_rfl) (by kernel_rfl) rfl ?_
          refine WQ.yld rfl (blt rfl) rfl (Y.fieldAddr rfl Tryd.underlying34 rfl ti9 (by decide) rfl) ?_
          refine WQ.yld rfl (blt rfl) rfl (Y.load1 rfl Tryd.underlying9 rfl rfl (Blk.at_ext m25 rfl)) ?_
          refine WQ.yld rfl (blt rfl) rfl (Y.addStr rfl rfl rfl (by omega)) ?_
          refine WQ.yld rfl (blt rfl) rfl (Y.fieldAddr rfl Tryd.underlying34 rfl ti32 (by decide) rfl) ?_
          refine WQ.yld rfl (blt rfl) rfl (Y.load1 rfl Tryd.underlying32 rfl rfl (Blk.at_ext m25 rfl)) ?_
          refine WQ.yld rfl (blt rfl) rfl (Y.move rfl rfl) ?_
          have b38 : k < l[i]!.n := by omega
          refine WQ.yld rfl (blt rfl) rfl (Y.indexLs k ((g_l _ (bang_mem (show i < l.length from by omega))).ext xW) rfl Tryd.underlying32 ti36 rfl rfl rfl b38) ?_
          refine WQ.yld rfl (blt rfl) rfl (Y.fieldE rfl Tryd.underlying36 rfl ti9 (by decide) rfl) ?_
          refine WQ.yld rfl (blt rfl) rfl (Y.load1 rfl Tryd.underlying9 rfl rfl (Ls.at_ext ((g_l _ (bang_mem (show i < l.length from by omega))).ext xW) b38 rfl)) ?_
          refine WQ.yld rfl (blt rfl) rfl (Y.addStr rfl rfl rfl (by omega)) ?_
          refine WQ.yld rfl (blt rfl) rfl (Y.assign rfl rfl) ?_
          refine WQ.done (fun w39 x40 => ?_)
          have m25 := m25.ext x40
          have xW := Ext.trans xW x40
          refine WK.then_normal (k37 _ _ ?_)
          refine WC.sub [(0, _), (1, _), (7, _), (10, _), (11, _), (12, _)] ⟨rfl, rfl, rfl, rfl, rfl, rfl, trivial⟩ ?_
          refine WC.seq (fun K41 k41 => ?_)
          refine WC.regionDq (by kernel_rfl) (by kernel_rfl) rfl ?_
          refine WQ.yld rfl (blt rfl) rfl (Y.fieldAddr rfl Tryd.underlying34 rfl ti3 (by decide) rfl) ?_
          refine WQ.yld rfl (blt rfl) rfl (Y.load1 rfl Tryd.underlying3 rfl rfl (Blk.at_ext m25 rfl)) ?_
          refine WQ.yld rfl (blt rfl) rfl (Y.fieldAddr rfl Tryd.underlying34 rfl ti32 (by decide) rfl) ?_
          refine WQ.yld rfl (blt rfl) rfl (Y.load1 rfl Tryd.underlying32 rfl rfl (Blk.at_ext m25 rfl)) ?_
          refine WQ.yld rfl (blt rfl) rfl (Y.move rfl rfl) ?_
          have b42 : k < l[i]!.n := by omega
          refine WQ.yld rfl (blt rfl) rfl (Y.indexLs k ((g_l _ (bang_mem (show i < l.length from by omega))).ext xW) rfl Tryd.underlying32 ti36 rfl rfl rfl b42) ?_
          refine WQ.yld rfl (blt rfl) rfl (Y.fieldE rfl Tryd.underlying36 rfl ti3 (by decide) rfl) ?_
          refine WQ.yld rfl (blt rfl) rfl (Y.load1 rfl Tryd.underlying3 rfl rfl (Ls.at_ext ((g_l _ (bang_mem (show i < l.length from by omega))).ext xW) b42 rfl)) ?_
          refine WQ.yld rfl (blt rfl) rfl (Y.add rfl rfl rfl (wrap_i64 (by first | omega | (dsimp only; omega)))) ?_
          refine WQ.yld rfl (blt rfl) rfl (Y.assign rfl rfl) ?_
          refine WQ.done (fun w43 x44 => ?_)
          have m25 := m25.ext x44
          have xW := Ext.trans xW x44
          refine WK.then_normal (k41 _ _ ?_)
          refine WC.sub [(0, _), (1, _), (7, _), (8, _), (10, _), (11, _), (12, _)] ⟨rfl, rfl, rfl, rfl, rfl, rfl, rfl, trivial⟩ ?_
          refine WC.region rfl ?_
          refine WL.yld rfl (blt rfl) rfl (Y.assign rfl rfl) ?_
          refine WL.nil ?_
          refine WK.in_normal ?_
          refine WK.then_normal (k31 _ _ ?_)
          refine WC.region rfl ?_
          refine WL.yld rfl (blt rfl) rfl (Y.move rfl rfl) ?_
          refine WL.yld rfl (blt rfl) rfl (Y.add rfl rfl rfl (wrap_i64 (by first | omega | (dsimp only; omega)))) ?_
          refine WL.yld rfl (blt rfl) rfl (Y.assign rfl rfl) ?_
          refine WL.nil ?_
          refine WK.roundS _ [(12, .int .i64 (((k + 1) : Nat) : Int)), (7, .string (Sy.nmT (some (l[i]!, l[i]!.l[k]!)))), (8, .int .i64 (Sy.atT (some (l[i]!, l[i]!.l[k]!)))), (9, .bool (Option.isSome (some (l[i]!, l[i]!.l[k]!))))] ⟨rfl, rfl, rfl, rfl, rfl, rfl, rfl, rfl, trivial⟩ ?_ ⟨(k + 1), (some (l[i]!, l[i]!.l[k]!)), rfl, rfl, xW, m25, (by omega), (Sy.cur_hit (by have q0 := h30; unfold Sy.inM; simp only [Bool.and_eq_true, decide_eq_true_eq] at q0 ⊢; omega) (by have q0 := h36; simp only [decide_eq_true_eq, decide_eq_false_iff_not] at q0; omega)).symm⟩
          show _ - (k + 1) < _ - k; omega
        ·
          have p36 := (dec_f h36)
          refine WC.skip ?_
          refine WK.in_normal ?_
          refine WK.then_normal (k31 _ _ ?_)
          refine WC.sub [(0, _), (1, _), (7, _), (8, _), (9, _), (10, _), (11, _), (12, _)] ⟨rfl, rfl, rfl, rfl, rfl, rfl, rfl, rfl, trivial⟩ ?_
          refine WC.region rfl ?_
          refine WL.yld rfl (blt rfl) rfl (Y.move rfl rfl) ?_
          refine WL.yld rfl (blt rfl) rfl (Y.add rfl rfl rfl (wrap_i64 (by first | omega | (dsimp only; omega)))) ?_
          refine WL.yld rfl (blt rfl) rfl (Y.assign rfl rfl) ?_
          refine WL.nil ?_
          refine WK.roundS _ [(12, .int .i64 (((k + 1) : Nat) : Int)), (7, .string (Sy.nmT U)), (8, .int .i64 (Sy.atT U)), (9, .bool (Option.isSome U))] ⟨rfl, rfl, rfl, rfl, rfl, rfl, rfl, rfl, trivial⟩ ?_ ⟨(k + 1), U, rfl, rfl, xW, m25, (by omega), (by rw [Ui]; exact (Sy.cur_miss (by have q0 := h30; unfold Sy.inM; simp only [Bool.and_eq_true, decide_eq_true_eq] at q0 ⊢; omega) (by have q0 := h36; simp only [decide_eq_true_eq, decide_eq_false_iff_not] at q0; omega)).symm)⟩
          show _ - (k + 1) < _ - k; omega
      ·
        have p30 := ((and_f h30).imp (fun h => ((and_f h).imp (fun h => (dec_f h)) (fun h => (dec_f h)))) (fun h => (dec_f h)))
        refine WC.exit ?_
        refine WK.then_exit ?_
        refine WK.then_exit ?_
        refine WK.in_exit ?_
        refine WK.in_normal ?_
        refine WK.then_normal (k15 _ _ ?_)
        refine WC.sub [(0, _), (1, _), (7, _), (8, _), (9, _), (10, _)] ⟨rfl, rfl, rfl, rfl, rfl, rfl, trivial⟩ ?_
        refine WC.region rfl ?_
        refine WL.yld rfl (blt rfl) rfl (Y.move rfl rfl) ?_
        refine WL.yld rfl (blt rfl) rfl (Y.add rfl rfl rfl (wrap_i64 (by first | omega | (dsimp only; omega)))) ?_
        refine WL.yld rfl (blt rfl) rfl (Y.assign rfl rfl) ?_
        refine WL.nil ?_
        refine WK.roundS _ [(10, .int .i64 (((i + 1) : Nat) : Int)), (7, .string (Sy.nmT U)), (8, .int .i64 (Sy.atT U)), (9, .bool (Option.isSome U))] ⟨rfl, rfl, rfl, rfl, rfl, rfl, trivial⟩ ?_ ⟨(i + 1), U, rfl, rfl, xW, (by omega), (by rw [Ui]; exact (Sy.cur_end (fun hin => by have q0 := h30; unfold Sy.inM at hin; simp only [Bool.and_eq_true, Bool.and_eq_false_iff, decide_eq_true_eq, decide_eq_false_iff_not] at hin q0; omega)).symm)⟩
        show _ - (i + 1) < _ - i; omega
    ·
      have p14 := (dec_f h14)
      refine WC.exit ?_
      refine WK.then_exit ?_
      refine WK.then_exit ?_
      refine WK.in_exit ?_
      refine WK.then_normal (k9 _ _ ?_)
      refine WC.sub [(1, _), (7, _), (8, _), (9, _)] ⟨rfl, rfl, rfl, rfl, trivial⟩ ?_
      refine WC.seq (fun K45 k45 => ?_)
      refine WC.seq (fun K46 k46 => ?_)
      refine WC.region rfl ?_
      refine WL.yld rfl (blt rfl) rfl (Y.move rfl rfl) ?_
      refine WL.yld rfl (blt rfl) rfl (Y.not rfl rfl) ?_
      refine WL.nil ?_
      refine WK.then_normal (k46 _ _ ?_)
      refine WC.sub [(1, _), (7, _), (8, _), (79, _)] ⟨rfl, rfl, rfl, rfl, trivial⟩ ?_
      refine WC.cond rfl (fun h47 => ?_) (fun h47 => ?_)
      ·
        refine WC.seq (fun K48 k48 => ?_)
        refine WC.region rfl ?_
        refine WL.yld rfl (blt rfl) rfl (Y.assign rfl rfl) ?_
        refine WL.yld rfl (blt rfl) rfl (Y.assign rfl rfl) ?_
        refine WL.yld rfl (blt rfl) rfl (Y.assign rfl rfl) ?_
        refine WL.nil ?_
        refine WK.then_normal (k48 _ _ ?_)
        refine WC.sub [(4, _), (5, _), (6, _)] ⟨rfl, rfl, rfl, trivial⟩ ?_
        refine WC.ret ?_
        refine WK.then_ret ?_
        clear k1 k2 k3 k8 k9 k10 k12 k13 k45 k46 k48
        refine WK.ret [_, _, _] rfl ⟨rfl, rfl, rfl, trivial⟩ ?_
        have e := Ti
        rw [show i = l.length by omega] at e
        refine ⟨?_, xW⟩
        rw [Sy.fnd_ok hc0, ← e, Sy.fr_no (by simpa using h47)]; rfl
      ·
        have ma := Sy.mod_at (q := q) hV i (by omega) (by rw [← Ti]; simpa using h47)
        rw [← Ti] at ma
        refine WC.skip ?_
        refine WK.then_normal (k45 _ _ ?_)
        refine WC.sub [(1, _), (7, _), (8, _)] ⟨rfl, rfl, rfl, trivial⟩ ?_
        refine WC.seq (fun K49 k49 => ?_)
        refine WC.region rfl ?_
        refine WL.yld rfl (blt rfl) rfl (Y.move rfl rfl) ?_
        refine WL.yld rfl (blt rfl) rfl (Y.move rfl rfl) ?_
        refine WL.yld rfl (blt rfl) rfl (Y.move rfl rfl) ?_
        refine WL.yld rfl (blt rfl) rfl (Y.sub rfl rfl rfl (wrap_i64 (by first | omega | (dsimp only; omega)))) ?_
        refine WL.yld rfl (blt rfl) rfl (Y.assign rfl rfl) ?_
        refine WL.yld rfl (blt rfl) rfl (Y.assign rfl rfl) ?_
        refine WL.yld rfl (blt rfl) rfl (Y.assign rfl rfl) ?_
        refine WL.nil ?_
        refine WK.then_normal (k49 _ _ ?_)
        refine WC.sub [(4, _), (5, _), (6, _)] ⟨rfl, rfl, rfl, trivial⟩ ?_
        refine WC.ret ?_
        clear k1 k2 k3 k8 k9 k10 k12 k13 k45 k46 k49
        refine WK.ret [_, _, _] rfl ⟨rfl, rfl, rfl, trivial⟩ ?_
        have e := Ti
        rw [show i = l.length by omega] at e
        refine ⟨?_, xW⟩
        rw [Sy.fnd_ok hc0, ← e, Sy.fr_some (by simpa using h47)]; rfl
theorem frame_any (A_l : Option Addr) (n_l c_l : Nat) (l : List Sy.M) (s : ByteArray) (w : World) (h_l : Ls w A_l n_l c_l Sy.M.v 4 l) (g_l : Sy.Good w l) (hF : Sy.Few l) (hV : Sy.Vals l) :
    Calls Tryd.prog 26 #[.slice A_l n_l c_l, .string s] w fun e w' => e = .returned (.string (Sy.frm1 l s)) ∧ Ext w w' := by
  have xW := Ext.refl w
  have e_l := h_l.len
  have z_l := h_l.nle
  have ar := Sy.adr_rng s
  refine calls_of_WC (args := [.slice A_l n_l c_l, .string s]) Tryd.func26 rfl rfl (ble rfl) ?_
  refine WC.seq (fun K1 k1 => ?_)
  refine WC.region rfl ?_
  refine WL.yld rfl (blt rfl) rfl (Y.assign rfl rfl) ?_
  refine WL.nil ?_
  refine WK.then_normal (k1 _ _ ?_)
  refine WC.sub [(0, _), (1, _)] ⟨rfl, rfl, trivial⟩ ?_
  refine WC.seq (fun K2 k2 => ?_)
  refine WC.region rfl ?_
  refine WL.yld rfl (blt rfl) rfl (Y.move rfl rfl) ?_
  refine WL.call rfl (blt rfl) rfl rfl rfl has41 rfl (addr_any _ _ ) ?_
  rintro _ w3 ⟨rfl, x4⟩
  refine ⟨_, rfl, ?_⟩
  have xW := Ext.trans xW x4
  refine WL.yld rfl (blt rfl) rfl (Y.move rfl rfl) ?_
  refine WL.yld rfl (blt rfl) rfl (Y.extract rfl rfl rfl) ?_
  refine WL.yld rfl (blt rfl) rfl (Y.extract rfl rfl rfl) ?_
  refine WL.yld rfl (blt rfl) rfl (Y.assign rfl rfl) ?_
  refine WL.yld rfl (blt rfl) rfl (Y.assign rfl rfl) ?_
  refine WL.nil ?_
  refine WK.then_normal (k2 _ _ ?_)
  refine WC.sub [(0, _), (1, _), (5, _), (6, _)] ⟨rfl, rfl, rfl, rfl, trivial⟩ ?_
  refine WC.seq (fun K5 k5 => ?_)
  refine WC.seq (fun K6 k6 => ?_)
  refine WC.region rfl ?_
  refine WL.yld rfl (blt rfl) rfl (Y.move rfl rfl) ?_
  refine WL.yld rfl (blt rfl) rfl (Y.not rfl rfl) ?_
  refine WL.nil ?_
  refine WK.then_normal (k6 _ _ ?_)
  refine WC.sub [(0, _), (1, _), (5, _), (16, _)] ⟨rfl, rfl, rfl, rfl, trivial⟩ ?_
  refine WC.cond rfl (fun h7 => ?_) (fun h7 => ?_)
  ·
    refine WC.seq (fun K8 k8 => ?_)
    refine WC.region rfl ?_
    refine WL.yld rfl (blt rfl) rfl (Y.move rfl rfl) ?_
    refine WL.yld rfl (blt rfl) rfl (Y.assign rfl rfl) ?_
    refine WL.nil ?_
    refine WK.then_normal (k8 _ _ ?_)
    refine WC.sub [(4, _)] ⟨rfl, trivial⟩ ?_
    refine WC.ret ?_
    refine WK.then_ret ?_
    clear k1 k2 k5 k6 k8
    refine WK.ret [_] rfl ⟨rfl, trivial⟩ ?_
    refine ⟨?_, xW⟩
    rw [Sy.frm1_no (by simpa using h7)]; rfl
  ·
    refine WC.skip ?_
    refine WK.then_normal (k5 _ _ ?_)
    refine WC.sub [(0, _), (1, _), (5, _)] ⟨rfl, rfl, rfl, trivial⟩ ?_
    refine WC.seq (fun K9 k9 => ?_)
    refine WC.seq (fun K10 k10 => ?_)
    refine WC.region rfl ?_
    refine WL.yld rfl (blt rfl) rfl (Y.move rfl rfl) ?_
    refine WL.yld rfl (blt rfl) rfl (Y.move rfl rfl) ?_
    refine WL.call rfl (blt rfl) rfl rfl rfl has22 rfl (find_any _ _ _ _ _ _ (h_l.ext xW) (Sy.Good.ext g_l xW) hF hV (by omega)) ?_
    rintro _ w11 ⟨rfl, x12⟩
    refine ⟨_, rfl, ?_⟩
    have xW := Ext.trans xW x12
    refine WL.yld rfl (blt rfl) rfl (Y.move rfl rfl) ?_
    refine WL.yld rfl (blt rfl) rfl (Y.extract rfl rfl rfl) ?_
    refine WL.yld rfl (blt rfl) rfl (Y.extract rfl rfl rfl) ?_
    refine WL.yld rfl (blt rfl) rfl (Y.extract rfl rfl rfl) ?_
    refine WL.yld rfl (blt rfl) rfl (Y.assign rfl rfl) ?_
    refine WL.yld rfl (blt rfl) rfl (Y.assign rfl rfl) ?_
    refine WL.yld rfl (blt rfl) rfl (Y.assign rfl rfl) ?_
    refine WL.nil ?_
    refine WK.then_normal (k10 _ _ ?_)
    refine WC.sub [(1, _), (7, _), (9, _)] ⟨rfl, rfl, rfl, trivial⟩ ?_
    refine WC.seq (fun K13 k13 => ?_)
    refine WC.region rfl ?_
    refine WL.yld rfl (blt rfl) rfl (Y.move rfl rfl) ?_
    refine WL.yld rfl (blt rfl) rfl (Y.move rfl rfl) ?_
    refine WL.yldG rfl (blt rfl) rfl rfl rfl (fun hb => Y.move rfl rfl) ?_
    refine WL.yldG rfl (blt rfl) rfl rfl rfl (fun hb => Y.lenStr rfl rfl rfl Tryd.underlying9 (evs_cons (evg rfl hb) evs_nil)) ?_
    refine WL.yldG rfl (blt rfl) rfl rfl rfl (fun hb => Y.leq rfl (evg rfl hb) rfl) ?_
    refine WL.yld rfl (blt rfl) rfl (Y.and rfl rfl rfl rfl) ?_
    refine WL.nil ?_
    refine WK.then_normal (k13 _ _ ?_)
    refine WC.sub [(1, _), (7, _), (30, _)] ⟨rfl, rfl, rfl, trivial⟩ ?_
    refine WC.cond rfl (fun h14 => ?_) (fun h14 => ?_)
    ·
      have p14 := (dec_t (and_t h14).2)
      refine WC.seq (fun K15 k15 => ?_)
      refine WC.region rfl ?_
      refine WL.yld rfl (blt rfl) rfl (Y.move rfl rfl) ?_
      refine WL.yld rfl (blt rfl) rfl (Y.assign rfl rfl) ?_
      refine WL.nil ?_
      refine WK.then_normal (k15 _ _ ?_)
      refine WC.sub [(4, _)] ⟨rfl, trivial⟩ ?_
      refine WC.ret ?_
      refine WK.then_ret ?_
      clear k1 k2 k5 k6 k9 k10 k13 k15
      refine WK.ret [_] rfl ⟨rfl, trivial⟩ ?_
      refine ⟨?_, xW⟩
      rw [Sy.frm1_yes (by simpa using h7) h14]; rfl
    ·
      have p14 := ((and_f h14).imp (fun h => h) (fun h => (dec_f h)))
      refine WC.skip ?_
      refine WK.then_normal (k9 _ _ ?_)
      refine WC.sub [(1, _)] ⟨rfl, trivial⟩ ?_
      refine WC.seq (fun K16 k16 => ?_)
      refine WC.region rfl ?_
      refine WL.yld rfl (blt rfl) rfl (Y.move rfl rfl) ?_
      refine WL.yld rfl (blt rfl) rfl (Y.assign rfl rfl) ?_
      refine WL.nil ?_
      refine WK.then_normal (k16 _ _ ?_)
      refine WC.sub [(4, _)] ⟨rfl, trivial⟩ ?_
      refine WC.ret ?_
      clear k1 k2 k5 k6 k9 k10 k13 k16
      refine WK.ret [_] rfl ⟨rfl, trivial⟩ ?_
      refine ⟨?_, xW⟩
      rw [Sy.frm1_not h14]; rfl
theorem Frame_any (A_l : Option Addr) (n_l c_l : Nat) (l : List Sy.M) (s : ByteArray) (w : World) (h_l : Ls w A_l n_l c_l Sy.M.v 4 l) (g_l : Sy.Good w l) (hF : Sy.Few l) :
    Calls Tryd.prog 14 #[.slice A_l n_l c_l, .string s] w fun e w' => e = .returned (.string (Sy.frm l s)) ∧ Ext w w' := by
  have xW := Ext.refl w
  have e_l := h_l.len
  have z_l := h_l.nle
  refine calls_of_WC (args := [.slice A_l n_l c_l, .string s]) Tryd.func14 rfl rfl (ble rfl) ?_
  refine WC.seq (fun K1 k1 => ?_)
  refine WC.region rfl ?_
  refine WL.yld rfl (blt rfl) rfl (Y.assign rfl rfl) ?_
  refine WL.nil ?_
  refine WK.then_normal (k1 _ _ ?_)
  refine WC.sub [(0, _), (1, _)] ⟨rfl, rfl, trivial⟩ ?_
  refine WC.seq (fun K2 k2 => ?_)
  refine WC.seq (fun K3 k3 => ?_)
  refine WC.region rfl ?_
  refine WL.yld rfl (blt rfl) rfl (Y.move rfl rfl) ?_
  refine WL.call rfl (blt rfl) rfl rfl rfl has12 rfl (check_any _ _ _ _ _ (h_l.ext xW) (Sy.Good.ext g_l xW) hF) ?_
  rintro _ w4 ⟨rfl, x5⟩
  refine ⟨_, rfl, ?_⟩
  have xW := Ext.trans xW x5
  refine WL.yld rfl (blt rfl) rfl (Y.neq rfl rfl rfl) ?_
  refine WL.nil ?_
  refine WK.then_normal (k3 _ _ ?_)
  refine WC.sub [(0, _), (1, _), (7, _)] ⟨rfl, rfl, rfl, trivial⟩ ?_
  refine WC.cond rfl (fun h6 => ?_) (fun h6 => ?_)
  ·
    have p6 := (eq_f (not_t h6))
    refine WC.seq (fun K7 k7 => ?_)
    refine WC.region rfl ?_
    refine WL.yld rfl (blt rfl) rfl (Y.move rfl rfl) ?_
    refine WL.yld rfl (blt rfl) rfl (Y.assign rfl rfl) ?_
    refine WL.nil ?_
    refine WK.then_normal (k7 _ _ ?_)
    refine WC.sub [(4, _)] ⟨rfl, trivial⟩ ?_
    refine WC.ret ?_
    refine WK.then_ret ?_
    clear k1 k2 k3 k7
    refine WK.ret [_] rfl ⟨rfl, trivial⟩ ?_
    refine ⟨?_, xW⟩
    rw [Sy.frm_bad (by have q := h6; simpa using q)]; rfl
  ·
    have p6 := (eq_t (not_f h6))
    have hc0 : Sy.chkE l = 0 := (by have q := h6; simpa using q)
    have hV := Sy.chk_vals hc0
    refine WC.skip ?_
    refine WK.then_normal (k2 _ _ ?_)
    refine WC.sub [(0, _), (1, _)] ⟨rfl, rfl, trivial⟩ ?_
    refine WC.seq (fun K8 k8 => ?_)
    refine WC.region rfl ?_
    refine WL.yld rfl (blt rfl) rfl (Y.move rfl rfl) ?_
    refine WL.yld rfl (blt rfl) rfl (Y.move rfl rfl) ?_
    refine WL.call rfl (blt rfl) rfl rfl rfl has26 rfl (frame_any _ _ _ _ _ _ (h_l.ext xW) (Sy.Good.ext g_l xW) hF hV) ?_
    rintro _ w9 ⟨rfl, x10⟩
    refine ⟨_, rfl, ?_⟩
    have xW := Ext.trans xW x10
    refine WL.yld rfl (blt rfl) rfl (Y.assign rfl rfl) ?_
    refine WL.nil ?_
    refine WK.then_normal (k8 _ _ ?_)
    refine WC.sub [(4, _)] ⟨rfl, trivial⟩ ?_
    refine WC.ret ?_
    clear k1 k2 k3 k8
    refine WK.ret [_] rfl ⟨rfl, trivial⟩ ?_
    refine ⟨?_, xW⟩
    rw [Sy.frm_ok hc0]; rfl
theorem RFrame_any (A_l : Option Addr) (n_l c_l : Nat) (l : List Sy.M) (s : ByteArray) (w : World) (h_l : Ls w A_l n_l c_l Sy.M.v 4 l) (g_l : Sy.Good w l) (hF : Sy.Few l) :
    Calls Tryd.prog 15 #[.slice A_l n_l c_l, .string s] w fun e w' => e = .returned (.string (Sy.frm l s)) ∧ Ext w w' := by
  have xW := Ext.refl w
  have e_l := h_l.len
  have z_l := h_l.nle
  have ar := Sy.adr_rng s
  refine calls_of_WC (args := [.slice A_l n_l c_l, .string s]) Tryd.func15 rfl rfl (ble rfl) ?_
  refine WC.seq (fun K1 k1 => ?_)
  refine WC.region rfl ?_
  refine WL.yld rfl (blt rfl) rfl (Y.assign rfl rfl) ?_
  refine WL.nil ?_
  refine WK.then_normal (k1 _ _ ?_)
  refine WC.sub [(0, _), (1, _)] ⟨rfl, rfl, trivial⟩ ?_
  refine WC.seq (fun K2 k2 => ?_)
  refine WC.region rfl ?_
  refine WL.yld rfl (blt rfl) rfl (Y.move rfl rfl) ?_
  refine WL.call rfl (blt rfl) rfl rfl rfl has27 rfl (raddr_any _ _ ) ?_
  rintro _ w3 ⟨rfl, x4⟩
  refine ⟨_, rfl, ?_⟩
  have xW := Ext.trans xW x4
  refine WL.yld rfl (blt rfl) rfl (Y.move rfl rfl) ?_
  refine WL.yld rfl (blt rfl) rfl (Y.extract rfl rfl rfl) ?_
  refine WL.yld rfl (blt rfl) rfl (Y.extract rfl rfl rfl) ?_
  refine WL.yld rfl (blt rfl) rfl (Y.assign rfl rfl) ?_
  refine WL.yld rfl (blt rfl) rfl (Y.assign rfl rfl) ?_
  refine WL.nil ?_
  refine WK.then_normal (k2 _ _ ?_)
  refine WC.sub [(0, _), (1, _), (5, _), (6, _)] ⟨rfl, rfl, rfl, rfl, trivial⟩ ?_
  refine WC.seq (fun K5 k5 => ?_)
  refine WC.seq (fun K6 k6 => ?_)
  refine WC.region rfl ?_
  refine WL.yld rfl (blt rfl) rfl (Y.move rfl rfl) ?_
  refine WL.yld rfl (blt rfl) rfl (Y.not rfl rfl) ?_
  refine WL.nil ?_
  refine WK.then_normal (k6 _ _ ?_)
  refine WC.sub [(0, _), (1, _), (5, _), (16, _)] ⟨rfl, rfl, rfl, rfl, trivial⟩ ?_
  refine WC.cond rfl (fun h7 => ?_) (fun h7 => ?_)
  ·
    refine WC.seq (fun K8 k8 => ?_)
    refine WC.region rfl ?_
    refine WL.yld rfl (blt rfl) rfl (Y.move rfl rfl) ?_
    refine WL.yld rfl (blt rfl) rfl (Y.assign rfl rfl) ?_
    refine WL.nil ?_
    refine WK.then_normal (k8 _ _ ?_)
    refine WC.sub [(4, _)] ⟨rfl, trivial⟩ ?_
    refine WC.ret ?_
    refine WK.then_ret ?_
    clear k1 k2 k5 k6 k8
    refine WK.ret [_] rfl ⟨rfl, trivial⟩ ?_
    refine ⟨?_, xW⟩
    rw [Sy.frm_no (by simpa using h7)]; rfl
  ·
    refine WC.skip ?_
    refine WK.then_normal (k5 _ _ ?_)
    refine WC.sub [(0, _), (1, _), (5, _)] ⟨rfl, rfl, rfl, trivial⟩ ?_
    refine WC.seq (fun K9 k9 => ?_)
    refine WC.region rfl ?_
    refine WL.yld rfl (blt rfl) rfl (Y.move rfl rfl) ?_
    refine WL.yld rfl (blt rfl) rfl (Y.move rfl rfl) ?_
    refine WL.call rfl (blt rfl) rfl rfl rfl has11 rfl (RFind_any _ _ _ _ _ _ (h_l.ext xW) (Sy.Good.ext g_l xW) hF (by omega)) ?_
    rintro _ w10 ⟨rfl, x11⟩
    refine ⟨_, rfl, ?_⟩
    have xW := Ext.trans xW x11
    refine WL.yld rfl (blt rfl) rfl (Y.move rfl rfl) ?_
    refine WL.yld rfl (blt rfl) rfl (Y.extract rfl rfl rfl) ?_
    refine WL.yld rfl (blt rfl) rfl (Y.extract rfl rfl rfl) ?_
    refine WL.yld rfl (blt rfl) rfl (Y.extract rfl rfl rfl) ?_
    refine WL.yld rfl (blt rfl) rfl (Y.assign rfl rfl) ?_
    refine WL.yld rfl (blt rfl) rfl (Y.assign rfl rfl) ?_
    refine WL.yld rfl (blt rfl) rfl (Y.assign rfl rfl) ?_
    refine WL.nil ?_
    refine WK.then_normal (k9 _ _ ?_)
    refine WC.sub [(1, _), (7, _), (9, _)] ⟨rfl, rfl, rfl, trivial⟩ ?_
    refine WC.seq (fun K12 k12 => ?_)
    refine WC.seq (fun K13 k13 => ?_)
    refine WC.region rfl ?_
    refine WL.yld rfl (blt rfl) rfl (Y.move rfl rfl) ?_
    refine WL.yld rfl (blt rfl) rfl (Y.not rfl rfl) ?_
    refine WL.yld rfl (blt rfl) rfl (Y.move rfl rfl) ?_
    refine WL.yldG rfl (blt rfl) rfl rfl rfl (fun hb => Y.move rfl rfl) ?_
    refine WL.yldG rfl (blt rfl) rfl rfl rfl (fun hb => Y.lenStr rfl rfl rfl Tryd.underlying9 (evs_cons (evg rfl hb) evs_nil)) ?_
    refine WL.yldG rfl (blt rfl) rfl rfl rfl (fun hb => Y.gtr rfl (evg rfl hb) rfl) ?_
    refine WL.yld rfl (blt rfl) rfl (Y.or rfl rfl rfl rfl) ?_
    refine WL.nil ?_
    refine WK.then_normal (k13 _ _ ?_)
    refine WC.sub [(1, _), (7, _), (31, _)] ⟨rfl, rfl, rfl, trivial⟩ ?_
    refine WC.cond rfl (fun h14 => ?_) (fun h14 => ?_)
    ·
      have p14 := ((or_t h14).imp (fun h => h) (fun h => (dec_t h)))
      refine WC.seq (fun K15 k15 => ?_)
      refine WC.region rfl ?_
      refine WL.yld rfl (blt rfl) rfl (Y.move rfl rfl) ?_
      refine WL.yld rfl (blt rfl) rfl (Y.assign rfl rfl) ?_
      refine WL.nil ?_
      refine WK.then_normal (k15 _ _ ?_)
      refine WC.sub [(4, _)] ⟨rfl, trivial⟩ ?_
      refine WC.ret ?_
      refine WK.then_ret ?_
      clear k1 k2 k5 k6 k9 k12 k13 k15
      refine WK.ret [_] rfl ⟨rfl, trivial⟩ ?_
      refine ⟨?_, xW⟩
      rw [Sy.frm_not h14]; rfl
    ·
      have p14 := (dec_f (or_f h14).2)
      refine WC.skip ?_
      refine WK.then_normal (k12 _ _ ?_)
      refine WC.sub [(7, _)] ⟨rfl, trivial⟩ ?_
      refine WC.seq (fun K16 k16 => ?_)
      refine WC.region rfl ?_
      refine WL.yld rfl (blt rfl) rfl (Y.move rfl rfl) ?_
      refine WL.yld rfl (blt rfl) rfl (Y.assign rfl rfl) ?_
      refine WL.nil ?_
      refine WK.then_normal (k16 _ _ ?_)
      refine WC.sub [(4, _)] ⟨rfl, trivial⟩ ?_
      refine WC.ret ?_
      clear k1 k2 k5 k6 k9 k12 k13 k16
      refine WK.ret [_] rfl ⟨rfl, trivial⟩ ?_
      refine ⟨?_, xW⟩
      rw [Sy.frm_yes (by simpa using h7) h14]; rfl
end Y
end SyW

end Go.Proofs.YtghfncgciaiofaaDoor
