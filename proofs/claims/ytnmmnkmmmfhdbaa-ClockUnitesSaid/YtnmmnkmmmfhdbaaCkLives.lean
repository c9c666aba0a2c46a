/- Contracts: the laws' helpers. Conditions: what each theorem states. -/
import Derived.Test.YtnmmnkmmmfhdbaaCkPts
import Derived.Test.YtnmmnkmmmfhdbaaCkLink
namespace Go.Proofs.Ytnmmnkmmmfhdbaa
open Go Go.Eng Go.RowKit
set_option linter.unusedVariables false
namespace CkW
open R P K
namespace V
theorem ti3 : TI Try.prog 3 (.int .i64 0) 1 8 := TI.mk (by kernel_rfl)
theorem ti31 : TI Try.prog 31 (.agg #[.int .i64 0, .int .i64 0]) 2 16 := TI.mk (by kernel_rfl)
theorem ti35 : TI Try.prog 35 (.agg #[.int .i64 0, .int .i64 0]) 2 16 := TI.mk (by kernel_rfl)
theorem ti37 : TI Try.prog 37 (.agg #[.int .i64 0, .int .i64 0, .int .i64 0, .int .i64 0, .int .i64 0]) 5 40 := TI.mk (by kernel_rfl)
theorem has12 : Has Try.prog 12 := ⟨_, Try.func12, rfl, by kernel_rfl⟩
theorem has14 : Has Try.prog 14 := ⟨_, Try.func14, rfl, by kernel_rfl⟩
theorem has16 : Has Try.prog 16 := ⟨_, Try.func16, rfl, by kernel_rfl⟩
theorem has18 : Has Try.prog 18 := ⟨_, Try.func18, rfl, by kernel_rfl⟩
theorem has19 : Has Try.prog 19 := ⟨_, Try.func19, rfl, by kernel_rfl⟩
theorem pl31 : PL Try.prog 31 [.int .i64 0, .int .i64 0] [(0, 1), (1, 1)] := PL.mk (zero := [.int .i64 0, .int .i64 0]) ti31 Try.underlying31 (by kernel_rfl)
theorem pl35 : PL Try.prog 35 [.int .i64 0, .int .i64 0] [(0, 1), (1, 1)] := PL.mk (zero := [.int .i64 0, .int .i64 0]) ti35 Try.underlying35 (by kernel_rfl)
theorem pl37 : PL Try.prog 37 [.int .i64 0, .int .i64 0, .int .i64 0, .int .i64 0, .int .i64 0] [(0, 1), (1, 1), (2, 1), (3, 2)] := PL.mk (zero := [.int .i64 0, .int .i64 0, .int .i64 0, .int .i64 0, .int .i64 0]) ti37 Try.underlying37 (by kernel_rfl)
theorem equal_any (A_a : Option Addr) (n_a c_a : Nat) (a : List Int) (A_b : Option Addr) (n_b c_b : Nat) (b : List Int) (w : World) (h_a : Ls w A_a n_a c_a Ck.ic 1 a) (h_b : Ls w A_b n_b c_b Ck.ic 1 b) :
    Calls Try.prog 19 #[.slice A_a n_a c_a, .slice A_b n_b c_b] w fun e w' => e = .returned (.bool (decide (a = b))) ∧ Ext w w' := by
  have xW := Ext.refl w
  have e_a := h_a.len
  have z_a := h_a.nle
  have e_b := h_b.len
  have z_b := h_b.nle
  refine calls_of_WC (args := [.slice A_a n_a c_a, .slice A_b n_b c_b]) Try.func19 rfl rfl (ble rfl) ?_
  refine WC.seq (fun K1 k1 => ?_)
  refine WC.region rfl ?_
  refine WL.yld rfl (blt rfl) rfl (Y.assign rfl rfl) ?_
  refine WL.nil ?_
  refine WK.then_normal (k1 _ _ ?_)
  refine WC.sub [(0, _), (1, _)] ⟨rfl, rfl, trivial⟩ ?_
  refine WC.seq (fun K2 k2 => ?_)
  refine WC.seq (fun K3 k3 => ?_)
  refine WC.region rfl ?_
  refine WL.yld rfl (blt rfl) rfl (Y.move rfl rfl) ?_
  refine WL.yld rfl (blt rfl) rfl (Y.lenSl rfl rfl rfl Try.underlying39 rfl) ?_
  refine WL.yld rfl (blt rfl) rfl (Y.move rfl rfl) ?_
  refine WL.yld rfl (blt rfl) rfl (Y.lenSl rfl rfl rfl Try.underlying39 rfl) ?_
  refine WL.yld rfl (blt rfl) rfl (Y.neq rfl rfl rfl) ?_
  refine WL.nil ?_
  refine WK.then_normal (k3 _ _ ?_)
  refine WC.sub [(0, _), (1, _), (10, _)] ⟨rfl, rfl, rfl, trivial⟩ ?_
  refine WC.cond rfl (fun h4 => ?_) (fun h4 => ?_)
  ·
    have p4 := (eq_f (not_t h4))
    refine WC.seq (fun K5 k5 => ?_)
    refine WC.region rfl ?_
    refine WL.yld rfl (blt rfl) rfl (Y.assign rfl rfl) ?_
    refine WL.nil ?_
    refine WK.then_normal (k5 _ _ ?_)
    refine WC.sub [(4, _)] ⟨rfl, trivial⟩ ?_
    refine WC.ret ?_
    refine WK.then_ret ?_
    clear k1 k2 k3 k5
    refine WK.ret [_] rfl ⟨rfl, trivial⟩ ?_
    refine ⟨ret1 (vb (Ck.eqL_no (by omega)).symm), xW⟩
  ·
    have p4 := (eq_t (not_f h4))
    refine WC.skip ?_
    refine WK.then_normal (k2 _ _ ?_)
    refine WC.sub [(0, _), (1, _)] ⟨rfl, rfl, trivial⟩ ?_
    refine WC.seq (fun K6 k6 => ?_)
    refine WC.seq (fun K7 k7 => ?_)
    refine WC.region rfl ?_
    refine WL.yld rfl (blt rfl) rfl (Y.assign rfl rfl) ?_
    refine WL.nil ?_
    refine WK.then_normal (k7 _ _ ?_)
    refine WC.block ?_
    refine WC.sub [(5, _), (0, _), (1, _)] ⟨rfl, rfl, rfl, trivial⟩ ?_
    refine WC.loopS 1 (fun mz Ed W' => ∃ i : Nat, mz = n_a - i ∧ Ed = [(5, .int .i64 ((i : Nat) : Int))] ∧ Ext w W' ∧ (i ≤ n_a) ∧ (∀ j, j < i → a[j]! = b[j]!)) _ ⟨0, rfl, rfl, xW, (Nat.zero_le _), (fun j hj => absurd hj (Nat.not_lt_zero j))⟩ ?_
    rintro _ _ w8 ⟨i, rfl, rfl, xW, le_i, inv_i⟩
    refine WC.sub [(5, _), (0, _), (1, _)] ⟨rfl, rfl, rfl, trivial⟩ ?_
    refine WC.seq (fun K9 k9 => ?_)
    refine WC.seq (fun K10 k10 => ?_)
    refine WC.region rfl ?_
    refine WL.yld rfl (blt rfl) rfl (Y.move rfl rfl) ?_
    refine WL.yld rfl (blt rfl) rfl (Y.move rfl rfl) ?_
    refine WL.yld rfl (blt rfl) rfl (Y.lenSl rfl rfl rfl Try.underlying39 rfl) ?_
    refine WL.yld rfl (blt rfl) rfl (Y.lss rfl rfl rfl) ?_
    refine WL.nil ?_
    refine WK.then_normal (k10 _ _ ?_)
    refine WC.sub [(0, _), (1, _), (5, _), (14, _)] ⟨rfl, rfl, rfl, rfl, trivial⟩ ?_
    refine WC.cond rfl (fun h11 => ?_) (fun h11 => ?_)
    ·
      have p11 := (dec_t h11)
      refine WC.skip ?_
      refine WK.then_normal (k9 _ _ ?_)
      refine WC.sub [(0, _), (1, _), (5, _)] ⟨rfl, rfl, rfl, trivial⟩ ?_
      refine WC.seq (fun K12 k12 => ?_)
      refine WC.block ?_
      refine WC.seq (fun K13 k13 => ?_)
      refine WC.regionDq (by kernel_rfl) (by kernel_rfl) rfl ?_
      refine WQ.yld rfl (blt rfl) rfl (Y.move rfl rfl) ?_
      refine WQ.yld rfl (blt rfl) rfl (Y.move rfl rfl) ?_
      have b14 : i < n_a := by omega
      refine WQ.yld rfl (blt rfl) rfl (Y.indexLs i (h_a.ext xW) rfl Try.underlying39 ti3 rfl rfl rfl b14) ?_
      refine WQ.yld rfl (blt rfl) rfl (Y.load1 rfl Try.underlying3 rfl rfl (Ls.at_ext (h_a.ext xW) b14 rfl)) ?_
      refine WQ.yld rfl (blt rfl) rfl (Y.move rfl rfl) ?_
      refine WQ.yld rfl (blt rfl) rfl (Y.move rfl rfl) ?_
      have b15 : i < n_b := by omega
      refine WQ.yld rfl (blt rfl) rfl (Y.indexLs i (h_b.ext xW) rfl Try.underlying39 ti3 rfl rfl rfl b15) ?_
      refine WQ.yld rfl (blt rfl) rfl (Y.load1 rfl Try.underlying3 rfl rfl (Ls.at_ext (h_b.ext xW) b15 rfl)) ?_
      refine WQ.yld rfl (blt rfl) rfl (Y.neq rfl rfl rfl) ?_
      refine WQ.done (fun w16 x17 => ?_)
      have xW := Ext.trans xW x17
      refine WK.then_normal (k13 _ _ ?_)
      refine WC.sub [(0, _), (1, _), (5, _), (25, _)] ⟨rfl, rfl, rfl, rfl, trivial⟩ ?_
      refine WC.cond rfl (fun h18 => ?_) (fun h18 => ?_)
      ·
        have p18 := (eq_f (not_t h18))
        refine WC.seq (fun K19 k19 => ?_)
        refine WC.region rfl ?_
        refine WL.yld rfl (blt rfl) rfl (Y.assign rfl rfl) ?_
        refine WL.nil ?_
        refine WK.then_normal (k19 _ _ ?_)
        refine WC.sub [(4, _)] ⟨rfl, trivial⟩ ?_
        refine WC.ret ?_
        refine WK.in_ret ?_
        refine WK.then_ret ?_
        refine WK.then_ret ?_
        refine WK.in_ret ?_
        refine WK.then_ret ?_
        clear k1 k2 k3 k6 k7 k9 k10 k12 k13 k19
        refine WK.ret [_] rfl ⟨rfl, trivial⟩ ?_
        refine ⟨ret1 (vb (Ck.eqL_at p18).symm), xW⟩
      ·
        have p18 := (eq_t (not_f h18))
        refine WC.skip ?_
        refine WK.in_normal ?_
        refine WK.then_normal (k12 _ _ ?_)
        refine WC.sub [(0, _), (1, _), (5, _)] ⟨rfl, rfl, rfl, trivial⟩ ?_
        refine WC.region rfl ?_
        refine WL.yld rfl (blt rfl) rfl (Y.move rfl rfl) ?_
        refine WL.yld rfl (blt rfl) rfl (Y.add rfl rfl rfl (wrap_i64 (by first | omega | (dsimp only; omega)))) ?_
        refine WL.yld rfl (blt rfl) rfl (Y.assign rfl rfl) ?_
        refine WL.nil ?_
        refine WK.roundS _ [(5, .int .i64 (((i + 1) : Nat) : Int))] ⟨rfl, rfl, rfl, trivial⟩ ?_ ⟨(i + 1), rfl, rfl, xW, (by omega), (fun j hj => by rcases Nat.lt_succ_iff_lt_or_eq.1 hj with h | h; exact inv_i j h; subst h; exact p18)⟩
        show _ - (i + 1) < _ - i; omega
    ·
      have p11 := (dec_f h11)
      refine WC.exit ?_
      refine WK.then_exit ?_
      refine WK.then_exit ?_
      refine WK.in_exit ?_
      refine WK.then_normal (k6 _ _ ?_)
      refine WC.sub [] trivial ?_
      refine WC.seq (fun K20 k20 => ?_)
      refine WC.region rfl ?_
      refine WL.yld rfl (blt rfl) rfl (Y.assign rfl rfl) ?_
      refine WL.nil ?_
      refine WK.then_normal (k20 _ _ ?_)
      refine WC.ret ?_
      clear k1 k2 k3 k6 k7 k9 k10 k20
      refine WK.ret [_] rfl ⟨rfl, trivial⟩ ?_
      refine ⟨ret1 (vb (decide_eq_true (Ck.bang_ext (by omega) (fun j hj => inv_i j (by omega)))).symm), xW⟩
theorem few_any (A_d : Option Addr) (n_d c_d : Nat) (d : List Ck.Dom) (A_l : Option Addr) (n_l c_l : Nat) (l : List Ck.Snap) (w : World) (h_d : Ls w A_d n_d c_d Ck.Dom.c 2 d) (h_l : Ls w A_l n_l c_l Ck.Snap.c 5 l) :
    Calls Try.prog 10 #[.slice A_d n_d c_d, .slice A_l n_l c_l] w fun e w' => e = .returned (.bool (decide (n_d ≤ 20) && decide (n_l ≤ 250))) ∧ Ext w w' := by
  have xW := Ext.refl w
  have e_d := h_d.len
  have z_d := h_d.nle
  have e_l := h_l.len
  have z_l := h_l.nle
  refine calls_of_WC (args := [.slice A_d n_d c_d, .slice A_l n_l c_l]) Try.func10 rfl rfl (ble rfl) ?_
  refine WC.seq (fun K1 k1 => ?_)
  refine WC.region rfl ?_
  refine WL.yld rfl (blt rfl) rfl (Y.assign rfl rfl) ?_
  refine WL.nil ?_
  refine WK.then_normal (k1 _ _ ?_)
  refine WC.sub [(0, _), (1, _)] ⟨rfl, rfl, trivial⟩ ?_
  refine WC.seq (fun K2 k2 => ?_)
  refine WC.region rfl ?_
  refine WL.yld rfl (blt rfl) rfl (Y.move rfl rfl) ?_
  refine WL.yld rfl (blt rfl) rfl (Y.lenSl rfl rfl rfl Try.underlying22 rfl) ?_
  refine WL.yld rfl (blt rfl) rfl (Y.leq rfl rfl rfl) ?_
  refine WL.yld rfl (blt rfl) rfl (Y.move rfl rfl) ?_
  refine WL.yldG rfl (blt rfl) rfl rfl rfl (fun hb => Y.move rfl rfl) ?_
  refine WL.yldG rfl (blt rfl) rfl rfl rfl (fun hb => Y.lenSl rfl rfl rfl Try.underlying23 (evs_cons (evg rfl hb) evs_nil)) ?_
  refine WL.yldG rfl (blt rfl) rfl rfl rfl (fun hb => Y.leq rfl (evg rfl hb) rfl) ?_
  refine WL.yld rfl (blt rfl) rfl (Y.and rfl rfl rfl rfl) ?_
  refine WL.yld rfl (blt rfl) rfl (Y.assign rfl rfl) ?_
  refine WL.nil ?_
  refine WK.then_normal (k2 _ _ ?_)
  refine WC.sub [(4, _)] ⟨rfl, trivial⟩ ?_
  refine WC.ret ?_
  clear k1 k2
  refine WK.ret [_] rfl ⟨rfl, trivial⟩ ?_
  refine ⟨ret1 (vb ?_), xW⟩
  rw [Ck.few_eq]
theorem lives_any  (w : World) :
    Calls Try.prog 11 #[] w fun e w' => e = .returned (.bool true) ∧ Ext w w' := by
  have xW := Ext.refl w
  refine calls_of_WC (args := []) Try.func11 rfl rfl (ble rfl) ?_
  refine WC.seq (fun K1 k1 => ?_)
  refine WC.region rfl ?_
  refine WL.yld rfl (blt rfl) rfl (Y.assign rfl rfl) ?_
  refine WL.nil ?_
  refine WK.then_normal (k1 _ _ ?_)
  refine WC.sub [] trivial ?_
  refine WC.seq (fun K2 k2 => ?_)
  refine WC.region rfl ?_
  refine WL.yld rfl (blt rfl) rfl (Y.build (cells := [_, _]) rfl pl31 rfl rfl) ?_
  refine WL.yld rfl (blt rfl) rfl (Y.build (cells := [_, _]) rfl pl31 rfl rfl) ?_
  refine WL.bslice (zs := [.int .i64 0, .int .i64 0, .int .i64 0, .int .i64 0]) (cs := [_, _, _, _]) rfl (blt rfl) rfl rfl Try.underlying22 ti31 rfl (ble rfl) (by kernel_rfl) rfl rfl ?_
  intro g3 w4 e5 x6 m7
  have o_g3 := own_new xW e5
  have xW := Ext.trans xW x6
  refine WL.yld rfl (blt rfl) rfl (Y.assign rfl rfl) ?_
  refine WL.nil ?_
  refine WK.then_normal (k2 _ _ ?_)
  refine WC.sub [(1, _)] ⟨rfl, trivial⟩ ?_
  refine WC.seq (fun K8 k8 => ?_)
  refine WC.region rfl ?_
  refine WL.yld rfl (blt rfl) rfl (Y.build (cells := [_, _]) rfl pl35 rfl rfl) ?_
  refine WL.yld rfl (blt rfl) rfl (Y.build (cells := [_, _, _, _, _]) rfl pl37 rfl rfl) ?_
  refine WL.bslice (zs := [.int .i64 0, .int .i64 0, .int .i64 0, .int .i64 0, .int .i64 0]) (cs := [_, _, _, _, _]) rfl (blt rfl) rfl rfl Try.underlying23 ti37 rfl (ble rfl) (by kernel_rfl) rfl rfl ?_
  intro g9 w10 e11 x12 m13
  have n_g3_g9 := ne_new m7 e11
  have o_g9 := own_new xW e11
  have m7 := m7.ext x12
  have xW := Ext.trans xW x12
  refine WL.yld rfl (blt rfl) rfl (Y.assign rfl rfl) ?_
  refine WL.nil ?_
  refine WK.then_normal (k8 _ _ ?_)
  refine WC.sub [(1, _), (2, _)] ⟨rfl, rfl, trivial⟩ ?_
  refine WC.seq (fun K14 k14 => ?_)
  refine WC.region rfl ?_
  refine WL.yld rfl (blt rfl) rfl (Y.move rfl rfl) ?_
  refine WL.call rfl (blt rfl) rfl rfl rfl has14 rfl (ppm_any _ _ _ _ _ _ (Ls.lit (f := Ck.Dom.c) (l := [⟨0, 0⟩, ⟨1, 100⟩]) m7 (fun _ => rfl) rfl (by decide) rfl)) ?_
  rintro _ w15 ⟨rfl, x16⟩
  refine ⟨_, rfl, ?_⟩
  have m7 := m7.ext x16
  have m13 := m13.ext x16
  have xW := Ext.trans xW x16
  refine WL.yld rfl (blt rfl) rfl (Y.move rfl rfl) ?_
  refine WL.yld rfl (blt rfl) rfl (Y.extract rfl rfl rfl) ?_
  refine WL.yld rfl (blt rfl) rfl (Y.extract rfl rfl rfl) ?_
  refine WL.yld rfl (blt rfl) rfl (Y.assign rfl rfl) ?_
  refine WL.yld rfl (blt rfl) rfl (Y.assign rfl rfl) ?_
  refine WL.nil ?_
  refine WK.then_normal (k14 _ _ ?_)
  refine WC.sub [(1, _), (2, _), (3, _), (4, _)] ⟨rfl, rfl, rfl, rfl, trivial⟩ ?_
  refine WC.seq (fun K17 k17 => ?_)
  refine WC.region rfl ?_
  refine WL.yld rfl (blt rfl) rfl (Y.move rfl rfl) ?_
  refine WL.call rfl (blt rfl) rfl rfl rfl has14 rfl (ppm_any _ _ _ _ _ _ (Ls.lit (f := Ck.Dom.c) (l := [⟨0, 0⟩, ⟨1, 100⟩]) m7 (fun _ => rfl) rfl (by decide) rfl)) ?_
  rintro _ w18 ⟨rfl, x19⟩
  refine ⟨_, rfl, ?_⟩
  have m7 := m7.ext x19
  have m13 := m13.ext x19
  have xW := Ext.trans xW x19
  refine WL.yld rfl (blt rfl) rfl (Y.move rfl rfl) ?_
  refine WL.yld rfl (blt rfl) rfl (Y.extract rfl rfl rfl) ?_
  refine WL.yld rfl (blt rfl) rfl (Y.extract rfl rfl rfl) ?_
  refine WL.yld rfl (blt rfl) rfl (Y.assign rfl rfl) ?_
  refine WL.yld rfl (blt rfl) rfl (Y.assign rfl rfl) ?_
  refine WL.nil ?_
  refine WK.then_normal (k17 _ _ ?_)
  refine WC.sub [(1, _), (2, _), (3, _), (4, _), (6, _)] ⟨rfl, rfl, rfl, rfl, rfl, trivial⟩ ?_
  refine WC.seq (fun K20 k20 => ?_)
  refine WC.region rfl ?_
  refine WL.yld rfl (blt rfl) rfl (Y.move rfl rfl) ?_
  refine WL.yld rfl (blt rfl) rfl (Y.move rfl rfl) ?_
  refine WL.call rfl (blt rfl) rfl rfl rfl has12 rfl (check_any _ _ _ _ _ _ _ _ _ (Ls.lit (f := Ck.Dom.c) (l := [⟨0, 0⟩, ⟨1, 100⟩]) m7 (fun _ => rfl) rfl (by decide) rfl) (Ls.lit (f := Ck.Snap.c) (l := [⟨1, 1000, 0, 5000, 5010⟩]) m13 (fun _ => rfl) rfl (by decide) rfl)) ?_
  rintro _ w21 ⟨rfl, x22⟩
  refine ⟨_, rfl, ?_⟩
  have m7 := m7.ext x22
  have m13 := m13.ext x22
  have xW := Ext.trans xW x22
  refine WL.yld rfl (blt rfl) rfl (Yld.cast (Y.eql rfl rfl rfl) (vb (b := true) (by kernel_rfl))) ?_
  refine WL.yld rfl (blt rfl) rfl (Y.move rfl rfl) ?_
  refine WL.yldW rfl (blt rfl) rfl rfl rfl (Y.move rfl rfl) ?_
  refine WL.yldW rfl (blt rfl) rfl rfl rfl (Yld.cast (Y.eql rfl rfl rfl) (vb (b := true) (by kernel_rfl))) ?_
  refine WL.yld rfl (blt rfl) rfl (Y.pickT rfl rfl rfl) ?_
  refine WL.yld rfl (blt rfl) rfl (Y.move rfl rfl) ?_
  refine WL.yldW rfl (blt rfl) rfl rfl rfl (Y.move rfl rfl) ?_
  refine WL.yld rfl (blt rfl) rfl (Yld.cast (Y.pickT rfl rfl rfl) (vb (b := true) (by kernel_rfl))) ?_
  refine WL.yld rfl (blt rfl) rfl (Y.move rfl rfl) ?_
  refine WL.yldW rfl (blt rfl) rfl rfl rfl (Y.move rfl rfl) ?_
  refine WL.yldW rfl (blt rfl) rfl rfl rfl (Yld.cast (Y.not rfl rfl) (vb (b := true) (by kernel_rfl))) ?_
  refine WL.yld rfl (blt rfl) rfl (Y.pickT rfl rfl rfl) ?_
  refine WL.yld rfl (blt rfl) rfl (Y.move rfl rfl) ?_
  refine WL.yldW rfl (blt rfl) rfl rfl rfl (Y.move rfl rfl) ?_
  refine WL.yldW rfl (blt rfl) rfl rfl rfl (Y.move rfl rfl) ?_
  refine WL.callW rfl (blt rfl) rfl rfl rfl rfl rfl has16 rfl (linked_any _ _ _ _ _ _ _ _ _ _ (Ls.lit (f := Ck.Dom.c) (l := [⟨0, 0⟩, ⟨1, 100⟩]) m7 (fun _ => rfl) rfl (by decide) rfl) (Ls.lit (f := Ck.Snap.c) (l := [⟨1, 1000, 0, 5000, 5010⟩]) m13 (fun _ => rfl) rfl (by decide) rfl) (by omega)) ?_
  rintro _ w23 ⟨rfl, x24⟩
  refine ⟨_, rfl, ?_⟩
  have m7 := m7.ext x24
  have m13 := m13.ext x24
  have xW := Ext.trans xW x24
  refine WL.yld rfl (blt rfl) rfl (Yld.cast (Y.pickT rfl rfl rfl) (vb (b := true) (by kernel_rfl))) ?_
  refine WL.yld rfl (blt rfl) rfl (Y.move rfl rfl) ?_
  refine WL.yldW rfl (blt rfl) rfl rfl rfl (Y.move rfl rfl) ?_
  refine WL.callW rfl (blt rfl) rfl rfl rfl rfl rfl has16 rfl (linked_any _ _ _ _ _ _ _ _ _ _ (Ls.lit (f := Ck.Dom.c) (l := [⟨0, 0⟩, ⟨1, 100⟩]) m7 (fun _ => rfl) rfl (by decide) rfl) (Ls.nil (by decide)) (by omega)) ?_
  rintro _ w25 ⟨rfl, x26⟩
  refine ⟨_, rfl, ?_⟩
  have m7 := m7.ext x26
  have m13 := m13.ext x26
  have xW := Ext.trans xW x26
  refine WL.yldW rfl (blt rfl) rfl rfl rfl (Yld.cast (Y.not rfl rfl) (vb (b := true) (by kernel_rfl))) ?_
  refine WL.yld rfl (blt rfl) rfl (Y.pickT rfl rfl rfl) ?_
  refine WL.yld rfl (blt rfl) rfl (Y.move rfl rfl) ?_
  refine WL.yldW rfl (blt rfl) rfl rfl rfl (Y.move rfl rfl) ?_
  refine WL.callW rfl (blt rfl) rfl rfl rfl rfl rfl has18 rfl (points_any _ _ _ _ _ _ (Ls.lit (f := Ck.Snap.c) (l := [⟨1, 1000, 0, 5000, 5010⟩]) m13 (fun _ => rfl) rfl (by decide) rfl) (by omega)) ?_
  rintro _ w27 ⟨v29, rfl, ow30, x28⟩
  refine ⟨_, rfl, ?_⟩
  have r_v29_g3 := ne_res ow30 m7
  have r_v29_g9 := ne_res ow30 m13
  have ow30 := OwnL.base_le ow30 xW.size
  have m7 := m7.ext x28
  have m13 := m13.ext x28
  have xW := Ext.trans xW x28
  refine WL.guarded rfl rfl rfl ?_
  refine WL.bslice (zs := [.int .i64 0, .int .i64 0]) (cs := [_, _]) rfl (blt rfl) rfl rfl Try.underlying39 ti3 rfl (ble rfl) (by kernel_rfl) rfl rfl ?_
  intro g31 w32 e33 x34 m35
  have n_g3_g31 := ne_new m7 e33
  have n_g9_g31 := ne_new m13 e33
  have r_v29_g31 := ne_newO ow30 e33
  have o_g31 := own_new xW e33
  have m7 := m7.ext x34
  have m13 := m13.ext x34
  have ow30 := ow30.ext x34
  have xW := Ext.trans xW x34
  obtain ⟨A36, n37, c38, rfl, hl39⟩ := OwnL.opened ow30 (fun _ => rfl) (by decide)
  have e_n37 := hl39.len
  try simp only [List.length_append, List.length_cons, List.length_nil, List.length_reverse, List.length_drop, List.length_take] at e_n37
  have z_n37 := hl39.nle
  refine WL.callW rfl (blt rfl) rfl rfl rfl rfl rfl has19 rfl (equal_any _ _ _ _ _ _ _ _ _ hl39 (Ls.lit (f := Ck.ic) (l := [5000, 5010]) m35 (fun _ => rfl) rfl (by decide) rfl)) ?_
  rintro _ w40 ⟨rfl, x41⟩
  refine ⟨_, rfl, ?_⟩
  have m7 := m7.ext x41
  have m13 := m13.ext x41
  have ow30 := ow30.ext x41
  have hl39 := hl39.ext x41
  have m35 := m35.ext x41
  have xW := Ext.trans xW x41
  refine WL.yld rfl (blt rfl) rfl (Yld.cast (Y.pickT rfl rfl rfl) (vb (b := true) (by kernel_rfl))) ?_
  refine WL.yld rfl (blt rfl) rfl (Y.move rfl rfl) ?_
  refine WL.yldW rfl (blt rfl) rfl rfl rfl (Y.move rfl rfl) ?_
  refine WL.callW rfl (blt rfl) rfl rfl rfl rfl rfl has18 rfl (points_any _ _ _ _ _ _ (Ls.lit (f := Ck.Snap.c) (l := [⟨1, 1000, 0, 5000, 5010⟩]) m13 (fun _ => rfl) rfl (by decide) rfl) (by omega)) ?_
  rintro _ w42 ⟨v44, rfl, ow45, x43⟩
  refine ⟨_, rfl, ?_⟩
  have r_v44_g3 := ne_res ow45 m7
  have r_v44_g9 := ne_res ow45 m13
  have d_v29_v44 := (Apart.res ow45 ow30).symm
  have r_v44_g31 := ne_res ow45 m35
  have ow45 := OwnL.base_le ow45 xW.size
  have m7 := m7.ext x43
  have m13 := m13.ext x43
  have ow30 := ow30.ext x43
  have hl39 := hl39.ext x43
  have m35 := m35.ext x43
  have xW := Ext.trans xW x43
  refine WL.guarded rfl rfl rfl ?_
  refine WL.bslice (zs := [.int .i64 0]) (cs := [_]) rfl (blt rfl) rfl rfl Try.underlying39 ti3 rfl (ble rfl) (by kernel_rfl) rfl rfl ?_
  intro g46 w47 e48 x49 m50
  have n_g3_g46 := ne_new m7 e48
  have n_g9_g46 := ne_new m13 e48
  have r_v29_g46 := ne_newO ow30 e48
  have n_g31_g46 := ne_new m35 e48
  have r_v44_g46 := ne_newO ow45 e48
  have o_g46 := own_new xW e48
  have m7 := m7.ext x49
  have m13 := m13.ext x49
  have ow30 := ow30.ext x49
  have hl39 := hl39.ext x49
  have m35 := m35.ext x49
  have ow45 := ow45.ext x49
  have xW := Ext.trans xW x49
  obtain ⟨A51, n52, c53, rfl, hl54⟩ := OwnL.opened ow45 (fun _ => rfl) (by decide)
  have e_n52 := hl54.len
  try simp only [List.length_append, List.length_cons, List.length_nil, List.length_reverse, List.length_drop, List.length_take] at e_n52
  have z_n52 := hl54.nle
  refine WL.callW rfl (blt rfl) rfl rfl rfl rfl rfl has19 rfl (equal_any _ _ _ _ _ _ _ _ _ hl54 (Ls.lit (f := Ck.ic) (l := [1000]) m50 (fun _ => rfl) rfl (by decide) rfl)) ?_
  rintro _ w55 ⟨rfl, x56⟩
  refine ⟨_, rfl, ?_⟩
  have m7 := m7.ext x56
  have m13 := m13.ext x56
  have ow30 := ow30.ext x56
  have hl39 := hl39.ext x56
  have m35 := m35.ext x56
  have ow45 := ow45.ext x56
  have hl54 := hl54.ext x56
  have m50 := m50.ext x56
  have xW := Ext.trans xW x56
  refine WL.yld rfl (blt rfl) rfl (Yld.cast (Y.pickT rfl rfl rfl) (vb (b := true) (by kernel_rfl))) ?_
  refine WL.yld rfl (blt rfl) rfl (Y.move rfl rfl) ?_
  refine WL.callW rfl (blt rfl) rfl rfl rfl rfl rfl has12 rfl (check_any _ _ _ _ _ _ _ _ _ (Ls.nil (by decide)) (Ls.nil (by decide))) ?_
  rintro _ w57 ⟨rfl, x58⟩
  refine ⟨_, rfl, ?_⟩
  have m7 := m7.ext x58
  have m13 := m13.ext x58
  have ow30 := ow30.ext x58
  have hl39 := hl39.ext x58
  have m35 := m35.ext x58
  have ow45 := ow45.ext x58
  have hl54 := hl54.ext x58
  have m50 := m50.ext x58
  have xW := Ext.trans xW x58
  refine WL.yldW rfl (blt rfl) rfl rfl rfl (Yld.cast (Y.eql rfl rfl rfl) (vb (b := true) (by kernel_rfl))) ?_
  refine WL.yld rfl (blt rfl) rfl (Y.pickT rfl rfl rfl) ?_
  refine WL.yld rfl (blt rfl) rfl (Y.assign rfl rfl) ?_
  refine WL.nil ?_
  refine WK.then_normal (k20 _ _ ?_)
  refine WC.sub [(0, _)] ⟨rfl, trivial⟩ ?_
  refine WC.ret ?_
  clear k1 k2 k8 k14 k17 k20
  refine WK.ret [_] rfl ⟨rfl, trivial⟩ ?_
  exact ⟨rfl, xW⟩
end V
end CkW

end Go.Proofs.Ytnmmnkmmmfhdbaa
