/- Contracts: the laws' further helpers. Conditions: what each theorem states. -/
import Derived.Test.YtcojkflgcccjeaaFlAwake
namespace Go.Proofs.Ytcojkflgcccjeaa
open Go Go.Eng Go.RowKit
set_option linter.unusedVariables false
namespace FlW
open R O V
namespace H
theorem ti3 : TI Try.prog 3 (.int .i64 0) 1 8 := TI.mk (by kernel_rfl)
theorem ti35 : TI Try.prog 35 (.int .i64 0) 1 8 := TI.mk (by kernel_rfl)
theorem ti38 : TI Try.prog 38 (.agg #[.int .i64 0, .int .i64 0, .string ⟨#[]⟩, .int .i64 0, .int .i64 0, .slice none 0 0]) 6 72 := TI.mk (by kernel_rfl)
theorem ti44 : TI Try.prog 44 (.agg #[.int .i64 0, .int .i64 0, .int .i64 0, .int .i64 0, .string ⟨#[]⟩, .int .i64 0, .int .i64 0, .slice none 0 0, .int .i64 0, .int .i64 0]) 10 104 := TI.mk (by kernel_rfl)
theorem has_any (A_l : Option Addr) (n_l c_l : Nat) (l : List Int) (n : Int) (w : World) (h_l : Ls w A_l n_l c_l Fl.ic 1 l) :
    Calls Try.prog 20 #[.slice A_l n_l c_l, .int .i64 n] w fun e w' => e = .returned (.bool (decide (n ∈ l))) ∧ Ext w w' := by
  have xW := Ext.refl w
  have e_l := h_l.len
  have z_l := h_l.nle
  refine calls_of_WC (args := [.slice A_l n_l c_l, .int .i64 n]) Try.func20 rfl rfl (ble rfl) ?_
  refine WC.seq (fun K1 k1 => ?_)
  refine WC.region rfl ?_
  refine WL.yld rfl (blt rfl) rfl (Y.assign rfl rfl) ?_
  refine WL.nil ?_
  refine WK.then_normal (k1 _ _ ?_)
  refine WC.sub [(0, _), (1, _)] ⟨rfl, rfl, trivial⟩ ?_
  refine WC.seq (fun K2 k2 => ?_)
  refine WC.seq (fun K3 k3 => ?_)
  refine WC.region rfl ?_
  refine WL.yld rfl (blt rfl) rfl (Y.assign rfl rfl) ?_
  refine WL.nil ?_
  refine WK.then_normal (k3 _ _ ?_)
  refine WC.block ?_
  refine WC.sub [(5, _), (0, _), (1, _)] ⟨rfl, rfl, rfl, trivial⟩ ?_
  refine WC.loopS 1 (fun mz Ed W' => ∃ i : Nat, mz = n_l - i ∧ Ed = [(5, .int .i64 ((i : Nat) : Int))] ∧ Ext w W' ∧ (i ≤ n_l) ∧ (∀ j, j < i → l[j]! ≠ n)) _ ⟨0, rfl, rfl, xW, (Nat.zero_le _), (fun j hj => absurd hj (Nat.not_lt_zero j))⟩ ?_
  rintro _ _ w4 ⟨i, rfl, rfl, xW, le_i, inv_i⟩
  refine WC.sub [(5, _), (0, _), (1, _)] ⟨rfl, rfl, rfl, trivial⟩ ?_
  refine WC.seq (fun K5 k5 => ?_)
  refine WC.seq (fun K6 k6 => ?_)
  refine WC.region rfl ?_
  refine WL.yld rfl (blt rfl) rfl (Y.move rfl rfl) ?_
  refine WL.yld rfl (blt rfl) rfl (Y.move rfl rfl) ?_
  refine WL.yld rfl (blt rfl) rfl (Y.lenSl rfl rfl rfl Try.underlying28 rfl) ?_
  refine WL.yld rfl (blt rfl) rfl (Y.lss rfl rfl rfl) ?_
  refine WL.nil ?_
  refine WK.then_normal (k6 _ _ ?_)
  refine WC.sub [(0, _), (1, _), (5, _), (9, _)] ⟨rfl, rfl, rfl, rfl, trivial⟩ ?_
  refine WC.cond rfl (fun h7 => ?_) (fun h7 => ?_)
  ·
    have p7 := (dec_t h7)
    refine WC.skip ?_
    refine WK.then_normal (k5 _ _ ?_)
    refine WC.sub [(0, _), (1, _), (5, _)] ⟨rfl, rfl, rfl, trivial⟩ ?_
    refine WC.seq (fun K8 k8 => ?_)
    refine WC.block ?_
    refine WC.seq (fun K9 k9 => ?_)
    refine WC.region rfl ?_
    refine WL.yld rfl (blt rfl) rfl (Y.move rfl rfl) ?_
    refine WL.yld rfl (blt rfl) rfl (Y.move rfl rfl) ?_
    have b10 : i < n_l := by omega
    refine WL.yld rfl (blt rfl) rfl (Y.indexLs i (h_l.ext xW) rfl Try.underlying28 ti3 rfl rfl rfl b10) ?_
    refine WL.yld rfl (blt rfl) rfl (Y.load1 rfl Try.underlying3 rfl rfl (Ls.at_eq (h_l.ext xW) b10 rfl)) ?_
    refine WL.yld rfl (blt rfl) rfl (Y.move rfl rfl) ?_
    refine WL.yld rfl (blt rfl) rfl (Y.eql rfl rfl rfl) ?_
    refine WL.nil ?_
    refine WK.then_normal (k9 _ _ ?_)
    refine WC.sub [(0, _), (1, _), (5, _), (17, _)] ⟨rfl, rfl, rfl, rfl, trivial⟩ ?_
    refine WC.cond rfl (fun h11 => ?_) (fun h11 => ?_)
    ·
      have p11 := (eq_t h11)
      refine WC.seq (fun K12 k12 => ?_)
      refine WC.region rfl ?_
      refine WL.yld rfl (blt rfl) rfl (Y.assign rfl rfl) ?_
      refine WL.nil ?_
      refine WK.then_normal (k12 _ _ ?_)
      refine WC.sub [(4, _)] ⟨rfl, trivial⟩ ?_
      refine WC.ret ?_
      refine WK.in_ret ?_
      refine WK.then_ret ?_
      refine WK.then_ret ?_
      refine WK.in_ret ?_
      refine WK.then_ret ?_
      clear k1 k2 k3 k5 k6 k8 k9 k12
      refine WK.ret [_] rfl ⟨rfl, trivial⟩ ?_
      exact ⟨ret1 (vb (Inc.has_yes (show i < l.length from by omega) p11).symm), xW⟩
    ·
      have p11 := (eq_f h11)
      refine WC.skip ?_
      refine WK.in_normal ?_
      refine WK.then_normal (k8 _ _ ?_)
      refine WC.sub [(0, _), (1, _), (5, _)] ⟨rfl, rfl, rfl, trivial⟩ ?_
      refine WC.region rfl ?_
      refine WL.yld rfl (blt rfl) rfl (Y.move rfl rfl) ?_
      refine WL.yld rfl (blt rfl) rfl (Y.add rfl rfl rfl (wrap_i64 (by first | omega | (dsimp only; omega)))) ?_
      refine WL.yld rfl (blt rfl) rfl (Y.assign rfl rfl) ?_
      refine WL.nil ?_
      refine WK.roundS _ [(5, .int .i64 (((i + 1) : Nat) : Int))] ⟨rfl, rfl, rfl, trivial⟩ ?_ ⟨(i + 1), rfl, rfl, xW, (by omega), (fun j hj => by rcases Nat.lt_succ_iff_lt_or_eq.1 hj with h | h; exact inv_i j h; subst h; exact p11)⟩
      show _ - (i + 1) < _ - i; omega
  ·
    have p7 := (dec_f h7)
    refine WC.exit ?_
    refine WK.then_exit ?_
    refine WK.then_exit ?_
    refine WK.in_exit ?_
    refine WK.then_normal (k2 _ _ ?_)
    refine WC.sub [] trivial ?_
    refine WC.seq (fun K13 k13 => ?_)
    refine WC.region rfl ?_
    refine WL.yld rfl (blt rfl) rfl (Y.assign rfl rfl) ?_
    refine WL.nil ?_
    refine WK.then_normal (k13 _ _ ?_)
    refine WC.ret ?_
    clear k1 k2 k3 k5 k6 k13
    refine WK.ret [_] rfl ⟨rfl, trivial⟩ ?_
    exact ⟨ret1 (vb (Inc.has_no fun j hj => inv_i j (by omega)).symm), xW⟩
theorem waits_any (A_o : Option Addr) (n_o c_o : Nat) (o : List Fl.Ev) (n : Int) (w : World) (h_o : Ls w A_o n_o c_o Fl.Ev.c 10 o) :
    Calls Try.prog 21 #[.slice A_o n_o c_o, .int .i64 n] w fun e w' => e = .returned (.bool (Fl.waitsF o n)) ∧ Ext w w' := by
  have xW := Ext.refl w
  have e_o := h_o.len
  have z_o := h_o.nle
  refine calls_of_WC (args := [.slice A_o n_o c_o, .int .i64 n]) Try.func21 rfl rfl (ble rfl) ?_
  refine WC.seq (fun K1 k1 => ?_)
  refine WC.region rfl ?_
  refine WL.yld rfl (blt rfl) rfl (Y.assign rfl rfl) ?_
  refine WL.nil ?_
  refine WK.then_normal (k1 _ _ ?_)
  refine WC.sub [(0, _), (1, _)] ⟨rfl, rfl, trivial⟩ ?_
  refine WC.seq (fun K2 k2 => ?_)
  refine WC.region rfl ?_
  refine WL.yld rfl (blt rfl) rfl (Y.assign rfl rfl) ?_
  refine WL.nil ?_
  refine WK.then_normal (k2 _ _ ?_)
  refine WC.seq (fun K3 k3 => ?_)
  refine WC.seq (fun K4 k4 => ?_)
  refine WC.region rfl ?_
  refine WL.yld rfl (blt rfl) rfl (Y.assign rfl rfl) ?_
  refine WL.nil ?_
  refine WK.then_normal (k4 _ _ ?_)
  refine WC.block ?_
  refine WC.sub [(6, _), (5, _), (0, _), (1, _)] ⟨rfl, rfl, rfl, rfl, trivial⟩ ?_
  refine WC.loopS 2 (fun mz Ed W' => ∃ i : Nat, ∃ b : Bool, mz = n_o - i ∧ Ed = [(6, .int .i64 ((i : Nat) : Int)), (5, .bool b)] ∧ Ext w W' ∧ (i ≤ n_o) ∧ (b = Fl.waitsF (o.take i) n)) _ ⟨0, false, rfl, rfl, xW, (Nat.zero_le _), rfl⟩ ?_
  rintro _ _ w5 ⟨i, b, rfl, rfl, xW, le_i, inv_i⟩
  refine WC.sub [(6, _), (5, _), (0, _), (1, _)] ⟨rfl, rfl, rfl, rfl, trivial⟩ ?_
  refine WC.seq (fun K6 k6 => ?_)
  refine WC.seq (fun K7 k7 => ?_)
  refine WC.region rfl ?_
  refine WL.yld rfl (blt rfl) rfl (Y.move rfl rfl) ?_
  refine WL.yld rfl (blt rfl) rfl (Y.move rfl rfl) ?_
  refine WL.yld rfl (blt rfl) rfl (Y.lenSl rfl rfl rfl Try.underlying22 rfl) ?_
  refine WL.yld rfl (blt rfl) rfl (Y.lss rfl rfl rfl) ?_
  refine WL.nil ?_
  refine WK.then_normal (k7 _ _ ?_)
  refine WC.sub [(0, _), (1, _), (5, _), (6, _), (10, _)] ⟨rfl, rfl, rfl, rfl, rfl, trivial⟩ ?_
  refine WC.cond rfl (fun h8 => ?_) (fun h8 => ?_)
  ·
    have p8 := (dec_t h8)
    refine WC.skip ?_
    refine WK.then_normal (k6 _ _ ?_)
    refine WC.sub [(0, _), (1, _), (5, _), (6, _)] ⟨rfl, rfl, rfl, rfl, trivial⟩ ?_
    refine WC.seq (fun K9 k9 => ?_)
    refine WC.block ?_
    refine WC.seq (fun K10 k10 => ?_)
    refine WC.seq (fun K11 k11 => ?_)
    refine WC.region rfl ?_
    refine WL.yld rfl (blt rfl) rfl (Y.move rfl rfl) ?_
    refine WL.yld rfl (blt rfl) rfl (Y.move rfl rfl) ?_
    have b12 : i < n_o := by omega
    refine WL.yld rfl (blt rfl) rfl (Y.indexLs i (h_o.ext xW) rfl Try.underlying22 ti44 rfl rfl rfl b12) ?_
    refine WL.yld rfl (blt rfl) rfl (Y.fieldE rfl Try.underlying44 rfl ti38 (by decide) rfl) ?_
    refine WL.yld rfl (blt rfl) rfl (Y.fieldE rfl Try.underlying38 rfl ti3 (by decide) rfl) ?_
    refine WL.yld rfl (blt rfl) rfl (Y.load1 rfl Try.underlying3 rfl rfl (Ls.at_eq (h_o.ext xW) b12 rfl)) ?_
    refine WL.yld rfl (blt rfl) rfl (Y.move rfl rfl) ?_
    refine WL.yld rfl (blt rfl) rfl (Y.eql rfl rfl rfl) ?_
    refine WL.yld rfl (blt rfl) rfl (Y.move rfl rfl) ?_
    refine WL.yldG rfl (blt rfl) rfl rfl rfl (fun hb => Y.move rfl rfl) ?_
    refine WL.yldG rfl (blt rfl) rfl rfl rfl (fun hb => Y.move rfl rfl) ?_
    refine WL.yldG rfl (blt rfl) rfl rfl rfl (fun hb => Y.indexLs i (h_o.ext xW) rfl Try.underlying22 ti44 (evg rfl hb) (evg rfl hb) rfl (by have q0 := (eq_t hb); omega)) ?_
    refine WL.yldG rfl (blt rfl) rfl rfl rfl (fun hb => Y.fieldE rfl Try.underlying44 rfl ti38 (by decide) (evg rfl hb)) ?_
    refine WL.yldG rfl (blt rfl) rfl rfl rfl (fun hb => Y.fieldE rfl Try.underlying38 rfl ti35 (by decide) (evg rfl hb)) ?_
    refine WL.yldG rfl (blt rfl) rfl rfl rfl (fun hb => Y.load1 rfl Try.underlying35 rfl (evg rfl hb) (Ls.at_eq (h_o.ext xW) (by have q0 := (eq_t hb); omega) rfl)) ?_
    refine WL.yldG rfl (blt rfl) rfl rfl rfl (fun hb => Y.eql rfl (evg rfl hb) rfl) ?_
    refine WL.yld rfl (blt rfl) rfl (Y.and rfl rfl rfl rfl) ?_
    refine WL.nil ?_
    refine WK.then_normal (k11 _ _ ?_)
    refine WC.sub [(0, _), (1, _), (5, _), (6, _), (29, _)] ⟨rfl, rfl, rfl, rfl, rfl, trivial⟩ ?_
    refine WC.cond rfl (fun h13 => ?_) (fun h13 => ?_)
    ·
      have p13 := (And.intro (eq_t (and_t h13).1) (eq_t (and_t h13).2))
      refine WC.region rfl ?_
      refine WL.yld rfl (blt rfl) rfl (Y.assign rfl rfl) ?_
      refine WL.nil ?_
      refine WK.then_normal (k10 _ _ ?_)
      refine WC.sub [(0, _), (1, _), (5, _), (6, _)] ⟨rfl, rfl, rfl, rfl, trivial⟩ ?_
      refine WC.seq (fun K14 k14 => ?_)
      refine WC.region rfl ?_
      refine WL.yld rfl (blt rfl) rfl (Y.move rfl rfl) ?_
      refine WL.yld rfl (blt rfl) rfl (Y.move rfl rfl) ?_
      have b15 : i < n_o := by omega
      refine WL.yld rfl (blt rfl) rfl (Y.indexLs i (h_o.ext xW) rfl Try.underlying22 ti44 rfl rfl rfl b15) ?_
      refine WL.yld rfl (blt rfl) rfl (Y.fieldE rfl Try.underlying44 rfl ti38 (by decide) rfl) ?_
      refine WL.yld rfl (blt rfl) rfl (Y.fieldE rfl Try.underlying38 rfl ti3 (by decide) rfl) ?_
      refine WL.yld rfl (blt rfl) rfl (Y.load1 rfl Try.underlying3 rfl rfl (Ls.at_eq (h_o.ext xW) b15 rfl)) ?_
      refine WL.yld rfl (blt rfl) rfl (Y.move rfl rfl) ?_
      refine WL.yld rfl (blt rfl) rfl (Y.eql rfl rfl rfl) ?_
      refine WL.yld rfl (blt rfl) rfl (Y.move rfl rfl) ?_
      refine WL.yldG rfl (blt rfl) rfl rfl rfl (fun hb => Y.move rfl rfl) ?_
      refine WL.yldG rfl (blt rfl) rfl rfl rfl (fun hb => Y.move rfl rfl) ?_
      refine WL.yldG rfl (blt rfl) rfl rfl rfl (fun hb => Y.indexLs i (h_o.ext xW) rfl Try.underlying22 ti44 (evg rfl hb) (evg rfl hb) rfl (by have q0 := (eq_t hb); omega)) ?_
      refine WL.yldG rfl (blt rfl) rfl rfl rfl (fun hb => Y.fieldE rfl Try.underlying44 rfl ti38 (by decide) (evg rfl hb)) ?_
      refine WL.yldG rfl (blt rfl) rfl rfl rfl (fun hb => Y.fieldE rfl Try.underlying38 rfl ti35 (by decide) (evg rfl hb)) ?_
      refine WL.yldG rfl (blt rfl) rfl rfl rfl (fun hb => Y.load1 rfl Try.underlying35 rfl (evg rfl hb) (Ls.at_eq (h_o.ext xW) (by have q0 := (eq_t hb); omega) rfl)) ?_
      refine WL.yldG rfl (blt rfl) rfl rfl rfl (fun hb => Y.eql rfl (evg rfl hb) rfl) ?_
      refine WL.yld rfl (blt rfl) rfl (Y.and rfl rfl rfl rfl) ?_
      refine WL.nil ?_
      refine WK.then_normal (k14 _ _ ?_)
      refine WC.sub [(0, _), (1, _), (5, _), (6, _), (46, _)] ⟨rfl, rfl, rfl, rfl, rfl, trivial⟩ ?_
      refine WC.cond rfl (fun h16 => ?_) (fun h16 => ?_)
      ·
        have p16 := (And.intro (eq_t (and_t h16).1) (eq_t (and_t h16).2))
        refine WC.region rfl ?_
        refine WL.yld rfl (blt rfl) rfl (Y.assign rfl rfl) ?_
        refine WL.nil ?_
        refine WK.in_normal ?_
        refine WK.then_normal (k9 _ _ ?_)
        refine WC.sub [(0, _), (1, _), (5, _), (6, _)] ⟨rfl, rfl, rfl, rfl, trivial⟩ ?_
        refine WC.region rfl ?_
        refine WL.yld rfl (blt rfl) rfl (Y.move rfl rfl) ?_
        refine WL.yld rfl (blt rfl) rfl (Y.add rfl rfl rfl (wrap_i64 (by first | omega | (dsimp only; omega)))) ?_
        refine WL.yld rfl (blt rfl) rfl (Y.assign rfl rfl) ?_
        refine WL.nil ?_
        refine WK.roundS _ [(6, .int .i64 (((i + 1) : Nat) : Int)), (5, .bool false)] ⟨rfl, rfl, rfl, rfl, trivial⟩ ?_ ⟨(i + 1), false, rfl, rfl, xW, (by omega), (Fl.waits_tt h13 h16).elim⟩
        show _ - (i + 1) < _ - i; omega
      ·
        have p16 := ((and_f h16).imp (fun h => (eq_f h)) (fun h => (eq_f h)))
        refine WC.skip ?_
        refine WK.in_normal ?_
        refine WK.then_normal (k9 _ _ ?_)
        refine WC.sub [(0, _), (1, _), (5, _), (6, _)] ⟨rfl, rfl, rfl, rfl, trivial⟩ ?_
        refine WC.region rfl ?_
        refine WL.yld rfl (blt rfl) rfl (Y.move rfl rfl) ?_
        refine WL.yld rfl (blt rfl) rfl (Y.add rfl rfl rfl (wrap_i64 (by first | omega | (dsimp only; omega)))) ?_
        refine WL.yld rfl (blt rfl) rfl (Y.assign rfl rfl) ?_
        refine WL.nil ?_
        refine WK.roundS _ [(6, .int .i64 (((i + 1) : Nat) : Int)), (5, .bool true)] ⟨rfl, rfl, rfl, rfl, trivial⟩ ?_ ⟨(i + 1), true, rfl, rfl, xW, (by omega), (by rw [Fl.waits_take o n (show i < o.length from by omega), if_pos (Fl.and_swap h13)])⟩
        show _ - (i + 1) < _ - i; omega
    ·
      have p13 := ((and_f h13).imp (fun h => (eq_f h)) (fun h => (eq_f h)))
      refine WC.skip ?_
      refine WK.then_normal (k10 _ _ ?_)
      refine WC.sub [(0, _), (1, _), (5, _), (6, _)] ⟨rfl, rfl, rfl, rfl, trivial⟩ ?_
      refine WC.seq (fun K17 k17 => ?_)
      refine WC.region rfl ?_
      refine WL.yld rfl (blt rfl) rfl (Y.move rfl rfl) ?_
      refine WL.yld rfl (blt rfl) rfl (Y.move rfl rfl) ?_
      have b18 : i < n_o := by omega
      refine WL.yld rfl (blt rfl) rfl (Y.indexLs i (h_o.ext xW) rfl Try.underlying22 ti44 rfl rfl rfl b18) ?_
      refine WL.yld rfl (blt rfl) rfl (Y.fieldE rfl Try.underlying44 rfl ti38 (by decide) rfl) ?_
      refine WL.yld rfl (blt rfl) rfl (Y.fieldE rfl Try.underlying38 rfl ti3 (by decide) rfl) ?_
      refine WL.yld rfl (blt rfl) rfl (Y.load1 rfl Try.underlying3 rfl rfl (Ls.at_eq (h_o.ext xW) b18 rfl)) ?_
      refine WL.yld rfl (blt rfl) rfl (Y.move rfl rfl) ?_
      refine WL.yld rfl (blt rfl) rfl (Y.eql rfl rfl rfl) ?_
      refine WL.yld rfl (blt rfl) rfl (Y.move rfl rfl) ?_
      refine WL.yldG rfl (blt rfl) rfl rfl rfl (fun hb => Y.move rfl rfl) ?_
      refine WL.yldG rfl (blt rfl) rfl rfl rfl (fun hb => Y.move rfl rfl) ?_
      refine WL.yldG rfl (blt rfl) rfl rfl rfl (fun hb => Y.indexLs i (h_o.ext xW) rfl Try.underlying22 ti44 (evg rfl hb) (evg rfl hb) rfl (by have q0 := (eq_t hb); omega)) ?_
      refine WL.yldG rfl (blt rfl) rfl rfl rfl (fun hb => Y.fieldE rfl Try.underlying44 rfl ti38 (by decide) (evg rfl hb)) ?_
      refine WL.yldG rfl (blt rfl) rfl rfl rfl (fun hb => Y.fieldE rfl Try.underlying38 rfl ti35 (by decide) (evg rfl hb)) ?_
      refine WL.yldG rfl (blt rfl) rfl rfl rfl (fun hb => Y.load1 rfl Try.underlying35 rfl (evg rfl hb) (Ls.at_eq (h_o.ext xW) (by have q0 := (eq_t hb); omega) rfl)) ?_
      refine WL.yldG rfl (blt rfl) rfl rfl rfl (fun hb => Y.eql rfl (evg rfl hb) rfl) ?_
      refine WL.yld rfl (blt rfl) rfl (Y.and rfl rfl rfl rfl) ?_
      refine WL.nil ?_
      refine WK.then_normal (k17 _ _ ?_)
      refine WC.sub [(0, _), (1, _), (5, _), (6, _), (46, _)] ⟨rfl, rfl, rfl, rfl, rfl, trivial⟩ ?_
      refine WC.cond rfl (fun h19 => ?_) (fun h19 => ?_)
      ·
        have p19 := (And.intro (eq_t (and_t h19).1) (eq_t (and_t h19).2))
        refine WC.region rfl ?_
        refine WL.yld rfl (blt rfl) rfl (Y.assign rfl rfl) ?_
        refine WL.nil ?_
        refine WK.in_normal ?_
        refine WK.then_normal (k9 _ _ ?_)
        refine WC.sub [(0, _), (1, _), (5, _), (6, _)] ⟨rfl, rfl, rfl, rfl, trivial⟩ ?_
        refine WC.region rfl ?_
        refine WL.yld rfl (blt rfl) rfl (Y.move rfl rfl) ?_
        refine WL.yld rfl (blt rfl) rfl (Y.add rfl rfl rfl (wrap_i64 (by first | omega | (dsimp only; omega)))) ?_
        refine WL.yld rfl (blt rfl) rfl (Y.assign rfl rfl) ?_
        refine WL.nil ?_
        refine WK.roundS _ [(6, .int .i64 (((i + 1) : Nat) : Int)), (5, .bool false)] ⟨rfl, rfl, rfl, rfl, trivial⟩ ?_ ⟨(i + 1), false, rfl, rfl, xW, (by omega), (by rw [Fl.waits_take o n (show i < o.length from by omega), if_neg (by rw [Fl.and_swap h13]; exact Bool.false_ne_true), if_pos (Fl.and_swap h19)])⟩
        show _ - (i + 1) < _ - i; omega
      ·
        have p19 := ((and_f h19).imp (fun h => (eq_f h)) (fun h => (eq_f h)))
        refine WC.skip ?_
        refine WK.in_normal ?_
        refine WK.then_normal (k9 _ _ ?_)
        refine WC.sub [(0, _), (1, _), (5, _), (6, _)] ⟨rfl, rfl, rfl, rfl, trivial⟩ ?_
        refine WC.region rfl ?_
        refine WL.yld rfl (blt rfl) rfl (Y.move rfl rfl) ?_
        refine WL.yld rfl (blt rfl) rfl (Y.add rfl rfl rfl (wrap_i64 (by first | omega | (dsimp only; omega)))) ?_
        refine WL.yld rfl (blt rfl) rfl (Y.assign rfl rfl) ?_
        refine WL.nil ?_
        refine WK.roundS _ [(6, .int .i64 (((i + 1) : Nat) : Int)), (5, .bool b)] ⟨rfl, rfl, rfl, rfl, trivial⟩ ?_ ⟨(i + 1), b, rfl, rfl, xW, (by omega), (by rw [Fl.waits_take o n (show i < o.length from by omega), if_neg (by rw [Fl.and_swap h13]; exact Bool.false_ne_true), if_neg (by rw [Fl.and_swap h19]; exact Bool.false_ne_true)]; exact inv_i)⟩
        show _ - (i + 1) < _ - i; omega
  ·
    have p8 := (dec_f h8)
    refine WC.exit ?_
    refine WK.then_exit ?_
    refine WK.then_exit ?_
    refine WK.in_exit ?_
    refine WK.then_normal (k3 _ _ ?_)
    refine WC.sub [(5, _)] ⟨rfl, trivial⟩ ?_
    refine WC.seq (fun K20 k20 => ?_)
    refine WC.region rfl ?_
    refine WL.yld rfl (blt rfl) rfl (Y.move rfl rfl) ?_
    refine WL.yld rfl (blt rfl) rfl (Y.assign rfl rfl) ?_
    refine WL.nil ?_
    refine WK.then_normal (k20 _ _ ?_)
    refine WC.sub [(4, _)] ⟨rfl, trivial⟩ ?_
    refine WC.ret ?_
    clear k1 k2 k3 k4 k6 k7 k20
    refine WK.ret [_] rfl ⟨rfl, trivial⟩ ?_
    refine ⟨ret1 (vb ?_), xW⟩
    rw [inv_i, List.take_of_length_le (by omega)]
end H
end FlW

end Go.Proofs.Ytcojkflgcccjeaa
