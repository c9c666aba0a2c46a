/- Contracts: equal lists. Conditions: what each theorem states. -/
import Derived.Test.YtklccakoblibmaaSxQue
import Derived.Test.YtklccakoblibmaaSxSame
namespace Go.Proofs.Ytklccakoblibmaa
open Go Go.Eng Go.RowKit
set_option linter.unusedVariables false
set_option linter.unusedSimpArgs false
namespace SxW
open B C D E G S T U
namespace V
theorem ti3 : TI Try.prog 3 (.int .i64 0) 1 8 := TI.mk (by kernel_rfl)
theorem ti9 : TI Try.prog 9 (.string ⟨#[]⟩) 1 16 := TI.mk (by kernel_rfl)
theorem ti22 : TI Try.prog 22 (.int .i64 0) 1 8 := TI.mk (by kernel_rfl)
theorem ti25 : TI Try.prog 25 (.agg #[.int .i64 0, .int .i64 0, .string ⟨#[]⟩]) 3 32 := TI.mk (by kernel_rfl)
theorem ti26 : TI Try.prog 26 (.slice none 0 0) 1 24 := TI.mk (by kernel_rfl)
theorem ti28 : TI Try.prog 28 (.agg #[.int .i64 0, .string ⟨#[]⟩, .int .i64 0, .int .i64 0, .string ⟨#[]⟩, .slice none 0 0]) 6 80 := TI.mk (by kernel_rfl)
theorem ti34 : TI Try.prog 34 (.slice none 0 0) 1 24 := TI.mk (by kernel_rfl)
theorem ti36 : TI Try.prog 36 (.int .i64 0) 1 8 := TI.mk (by kernel_rfl)
theorem ti37 : TI Try.prog 37 (.slice none 0 0) 1 24 := TI.mk (by kernel_rfl)
theorem ti38 : TI Try.prog 38 (.slice none 0 0) 1 24 := TI.mk (by kernel_rfl)
theorem ti39 : TI Try.prog 39 (.slice none 0 0) 1 24 := TI.mk (by kernel_rfl)
theorem ti41 : TI Try.prog 41 (.agg #[.int .i64 0, .int .i64 0, .string ⟨#[]⟩, .int .i64 0, .int .i64 0, .string ⟨#[]⟩, .slice none 0 0, .slice none 0 0, .slice none 0 0, .slice none 0 0, .slice none 0 0, .int .i64 0, .string ⟨#[]⟩]) 13 208 := TI.mk (by kernel_rfl)
theorem ti44 : TI Try.prog 44 (.slice none 0 0) 1 24 := TI.mk (by kernel_rfl)
theorem ti55 : TI Try.prog 55 (.agg #[.string ⟨#[]⟩, .string ⟨#[]⟩, .string ⟨#[]⟩]) 3 48 := TI.mk (by kernel_rfl)
theorem ti65 : TI Try.prog 65 (.agg #[.int .i64 0, .string ⟨#[]⟩, .int .i64 0, .int .i64 0, .string ⟨#[]⟩, .slice none 0 0, .string ⟨#[]⟩]) 7 96 := TI.mk (by kernel_rfl)
theorem ti69 : TI Try.prog 69 (.agg #[.string ⟨#[]⟩, .bool false]) 2 24 := TI.mk (by kernel_rfl)
theorem has48 : Has Try.prog 48 := ⟨_, Try.func48, rfl, by kernel_rfl⟩
theorem has49 : Has Try.prog 49 := ⟨_, Try.func49, rfl, by kernel_rfl⟩
theorem has63 : Has Try.prog 63 := ⟨_, Try.func63, rfl, by kernel_rfl⟩
theorem has64 : Has Try.prog 64 := ⟨_, Try.func64, rfl, by kernel_rfl⟩
theorem has65 : Has Try.prog 65 := ⟨_, Try.func65, rfl, by kernel_rfl⟩
theorem has66 : Has Try.prog 66 := ⟨_, Try.func66, rfl, by kernel_rfl⟩
theorem has67 : Has Try.prog 67 := ⟨_, Try.func67, rfl, by kernel_rfl⟩
theorem has68 : Has Try.prog 68 := ⟨_, Try.func68, rfl, by kernel_rfl⟩
theorem has88 : Has Try.prog 88 := ⟨_, Try.func88, rfl, by kernel_rfl⟩
theorem eqg25 : Try.prog.eqGuardType Try.prog.depth 25 = false := by kernel_rfl
theorem eq25 (a0 : Int) (a1 : Int) (a2 : ByteArray) (b0 : Int) (b1 : Int) (b2 : ByteArray) (w : World) : (Op.equalIn 10000 25 (.agg #[.int .i64 a0, .int .i64 a1, .string a2]) (.agg #[.int .i64 b0, .int .i64 b1, .string b2])).run Try.prog w = .ok ((a0 == b0) && (a1 == b1) && (a2 == b2)) w := by
  go_simp
  (repeat' split) <;> simp_all [beq_toListBytes]
theorem eqg55 : Try.prog.eqGuardType Try.prog.depth 55 = false := by kernel_rfl
theorem eq55 (a0 : ByteArray) (a1 : ByteArray) (a2 : ByteArray) (b0 : ByteArray) (b1 : ByteArray) (b2 : ByteArray) (w : World) : (Op.equalIn 10000 55 (.agg #[.string a0, .string a1, .string a2]) (.agg #[.string b0, .string b1, .string b2])).run Try.prog w = .ok ((a0 == b0) && (a1 == b1) && (a2 == b2)) w := by
  go_simp
  (repeat' split) <;> simp_all [beq_toListBytes]
theorem eqg69 : Try.prog.eqGuardType Try.prog.depth 69 = false := by kernel_rfl
theorem eq69 (a0 : ByteArray) (a1 : Bool) (b0 : ByteArray) (b1 : Bool) (w : World) : (Op.equalIn 10000 69 (.agg #[.string a0, .bool a1]) (.agg #[.string b0, .bool b1])).run Try.prog w = .ok ((a0 == b0) && (a1 == b1)) w := by
  go_simp
  (repeat' split) <;> simp_all [beq_toListBytes]
theorem texts_any (A_a : Option Addr) (n_a c_a : Nat) (a : List ByteArray) (A_b : Option Addr) (n_b c_b : Nat) (b : List ByteArray) (w : World) (h_a : Ls w A_a n_a c_a Sx.sc 1 a) (h_b : Ls w A_b n_b c_b Sx.sc 1 b) :
    Calls Try.prog 13 #[.slice A_a n_a c_a, .slice A_b n_b c_b] w fun e w' => e = .returned (.bool (Sx.alB Sx.beS a b)) ∧ Ext w w' := by
  have xW := Ext.refl w
  have e_a := h_a.len
  have z_a := h_a.nle
  have e_b := h_b.len
  have z_b := h_b.nle
  refine calls_of_WC (args := [.slice A_a n_a c_a, .slice A_b n_b c_b]) Try.func13 rfl rfl (ble rfl) ?_
  refine WC.seq (fun K1 k1 => ?_)
  refine WC.region rfl ?_
  refine WL.yld rfl (blt rfl) rfl (Y.assign rfl rfl) ?_
  refine WL.nil ?_
  refine WK.then_normal (k1 _ _ ?_)
  refine WC.sub [(0, _), (1, _)] ⟨rfl, rfl, trivial⟩ ?_
  refine WC.seq (fun K2 k2 => ?_)
  refine WC.seq (fun K3 k3 => ?_)
  refine WC.region rfl ?_
  refine WL.yld rfl (blt rfl) rfl (Y.move rfl rfl) ?_
  refine WL.yld rfl (blt rfl) rfl (Y.lenSl rfl rfl rfl Try.underlying34 rfl) ?_
  refine WL.yld rfl (blt rfl) rfl (Y.move rfl rfl) ?_
  refine WL.yld rfl (blt rfl) rfl (Y.lenSl rfl rfl rfl Try.underlying34 rfl) ?_
  refine WL.yld rfl (blt rfl) rfl (Y.neq rfl rfl rfl) ?_
  refine WL.nil ?_
  refine WK.then_normal (k3 _ _ ?_)
  refine WC.sub [(0, _), (1, _), (10, _)] ⟨rfl, rfl, rfl, trivial⟩ ?_
  refine WC.cond rfl (fun h4 => ?_) (fun h4 => ?_)
  ·
    have p4 := (eq_f (not_t h4))
    refine WC.seq (fun K5 k5 => ?_)
    refine WC.region rfl ?_
    refine WL.yld rfl (blt rfl) rfl (Y.assign rfl rfl) ?_
    refine WL.nil ?_
    refine WK.then_normal (k5 _ _ ?_)
    refine WC.sub [(4, _)] ⟨rfl, trivial⟩ ?_
    refine WC.ret ?_
    refine WK.then_ret ?_
    clear k1 k2 k3 k5
    refine WK.ret [_] rfl ⟨rfl, trivial⟩ ?_
    exact ⟨ret1 (vb (Sx.al_len (by have q := h4; simp only [Bool.and_eq_true, Bool.or_eq_true, Bool.not_eq_true', Bool.and_eq_false_iff, Bool.or_eq_false_iff, Bool.not_eq_false', decide_eq_true_eq, decide_eq_false_iff_not, beq_iff_eq, beq_eq_false_iff_ne, ne_eq] at q; omega)).symm), xW⟩
  ·
    have p4 := (eq_t (not_f h4))
    have lab : n_a = n_b := by have q := h4; simp only [Bool.and_eq_true, Bool.or_eq_true, Bool.not_eq_true', Bool.and_eq_false_iff, Bool.or_eq_false_iff, Bool.not_eq_false', decide_eq_true_eq, decide_eq_false_iff_not, beq_iff_eq, beq_eq_false_iff_ne, ne_eq] at q; omega
    refine WC.skip ?_
    refine WK.then_normal (k2 _ _ ?_)
    refine WC.sub [(0, _), (1, _)] ⟨rfl, rfl, trivial⟩ ?_
    refine WC.seq (fun K6 k6 => ?_)
    refine WC.seq (fun K7 k7 => ?_)
    refine WC.region rfl ?_
    refine WL.yld rfl (blt rfl) rfl (Y.assign rfl rfl) ?_
    refine WL.nil ?_
    refine WK.then_normal (k7 _ _ ?_)
    refine WC.block ?_
    refine WC.sub [(5, _), (0, _), (1, _)] ⟨rfl, rfl, rfl, trivial⟩ ?_
    refine WC.loopS 1 (fun mz Ed W' => ∃ i : Nat, mz = n_a - i ∧ Ed = [(5, .int .i64 ((i : Nat) : Int))] ∧ Ext w W' ∧ (i ≤ n_a) ∧ (∀ j, j < i → Sx.beS a[j]! b[j]! = true)) _ ⟨0, rfl, rfl, xW, (Nat.zero_le _), (fun j hj => absurd hj (Nat.not_lt_zero j))⟩ ?_
    rintro _ _ w8 ⟨i, rfl, rfl, xW, le_i, inv_i⟩
    refine WC.sub [(5, _), (0, _), (1, _)] ⟨rfl, rfl, rfl, trivial⟩ ?_
    refine WC.seq (fun K9 k9 => ?_)
    refine WC.seq (fun K10 k10 => ?_)
    refine WC.region rfl ?_
    refine WL.yld rfl (blt rfl) rfl (Y.move rfl rfl) ?_
    refine WL.yld rfl (blt rfl) rfl (Y.move rfl rfl) ?_
    refine WL.yld rfl (blt rfl) rfl (Y.lenSl rfl rfl rfl Try.underlying34 rfl) ?_
    refine WL.yld rfl (blt rfl) rfl (Y.lss rfl rfl rfl) ?_
    refine WL.nil ?_
    refine WK.then_normal (k10 _ _ ?_)
    refine WC.sub [(0, _), (1, _), (5, _), (14, _)] ⟨rfl, rfl, rfl, rfl, trivial⟩ ?_
    refine WC.cond rfl (fun h11 => ?_) (fun h11 => ?_)
    ·
      have p11 := (dec_t h11)
      refine WC.skip ?_
      refine WK.then_normal (k9 _ _ ?_)
      refine WC.sub [(0, _), (1, _), (5, _)] ⟨rfl, rfl, rfl, trivial⟩ ?_
      refine WC.seq (fun K12 k12 => ?_)
      refine WC.block ?_
      refine WC.seq (fun K13 k13 => ?_)
      refine WC.regionDq (by kernel_rfl) (by kernel_rfl) rfl ?_
      refine WQ.yld rfl (blt rfl) rfl (Y.move rfl rfl) ?_
      refine WQ.yld rfl (blt rfl) rfl (Y.move rfl rfl) ?_
      have b14 : i < n_a := by omega
      refine WQ.yld rfl (blt rfl) rfl (Y.indexLs i (h_a.ext xW) rfl Try.underlying34 ti9 rfl rfl rfl b14) ?_
      refine WQ.yld rfl (blt rfl) rfl (Y.load1 rfl Try.underlying9 rfl rfl (Ls.at_ext (h_a.ext xW) b14 rfl)) ?_
      refine WQ.yld rfl (blt rfl) rfl (Y.move rfl rfl) ?_
      refine WQ.yld rfl (blt rfl) rfl (Y.move rfl rfl) ?_
      have b15 : i < n_b := by omega
      refine WQ.yld rfl (blt rfl) rfl (Y.indexLs i (h_b.ext xW) rfl Try.underlying34 ti9 rfl rfl rfl b15) ?_
      refine WQ.yld rfl (blt rfl) rfl (Y.load1 rfl Try.underlying9 rfl rfl (Ls.at_ext (h_b.ext xW) b15 rfl)) ?_
      refine WQ.yld rfl (blt rfl) rfl (Y.neqStr rfl rfl rfl) ?_
      refine WQ.done (fun w16 x17 => ?_)
      have xW := Ext.trans xW x17
      refine WK.then_normal (k13 _ _ ?_)
      refine WC.sub [(0, _), (1, _), (5, _), (25, _)] ⟨rfl, rfl, rfl, rfl, trivial⟩ ?_
      refine WC.cond rfl (fun h18 => ?_) (fun h18 => ?_)
      ·
        refine WC.seq (fun K19 k19 => ?_)
        refine WC.region rfl ?_
        refine WL.yld rfl (blt rfl) rfl (Y.assign rfl rfl) ?_
        refine WL.nil ?_
        refine WK.then_normal (k19 _ _ ?_)
        refine WC.sub [(4, _)] ⟨rfl, trivial⟩ ?_
        refine WC.ret ?_
        refine WK.in_ret ?_
        refine WK.then_ret ?_
        refine WK.then_ret ?_
        refine WK.in_ret ?_
        refine WK.then_ret ?_
        clear k1 k2 k3 k6 k7 k9 k10 k12 k13 k19
        refine WK.ret [_] rfl ⟨rfl, trivial⟩ ?_
        exact ⟨ret1 (vb (Sx.al_hit (show i < a.length from by omega) (by have q := h18; rw [Bool.not_eq_true'] at q; exact q)).symm), xW⟩
      ·
        refine WC.skip ?_
        refine WK.in_normal ?_
        refine WK.then_normal (k12 _ _ ?_)
        refine WC.sub [(0, _), (1, _), (5, _)] ⟨rfl, rfl, rfl, trivial⟩ ?_
        refine WC.region rfl ?_
        refine WL.yld rfl (blt rfl) rfl (Y.move rfl rfl) ?_
        refine WL.yld rfl (blt rfl) rfl (Y.add rfl rfl rfl (wrap_i64 (by first | omega | (dsimp only; omega)))) ?_
        refine WL.yld rfl (blt rfl) rfl (Y.assign rfl rfl) ?_
        refine WL.nil ?_
        refine WK.roundS _ [(5, .int .i64 (((i + 1) : Nat) : Int))] ⟨rfl, rfl, rfl, trivial⟩ ?_ ⟨(i + 1), rfl, rfl, xW, (by omega), (fun j hj => by rcases Nat.lt_succ_iff_lt_or_eq.1 hj with h | h; exact inv_i j h; rw [h]; exact (by have q := h18; rw [Bool.not_eq_false'] at q; exact q))⟩
        show _ - (i + 1) < _ - i; omega
    ·
      have p11 := (dec_f h11)
      refine WC.exit ?_
      refine WK.then_exit ?_
      refine WK.then_exit ?_
      refine WK.in_exit ?_
      refine WK.then_normal (k6 _ _ ?_)
      refine WC.sub [] trivial ?_
      refine WC.seq (fun K20 k20 => ?_)
      refine WC.region rfl ?_
      refine WL.yld rfl (blt rfl) rfl (Y.assign rfl rfl) ?_
      refine WL.nil ?_
      refine WK.then_normal (k20 _ _ ?_)
      refine WC.ret ?_
      clear k1 k2 k3 k6 k7 k9 k10 k20
      refine WK.ret [_] rfl ⟨rfl, trivial⟩ ?_
      exact ⟨ret1 (vb (Sx.al_ok (by omega) fun j hj => inv_i j (by omega)).symm), xW⟩
theorem eqS_any (A_a : Option Addr) (n_a c_a : Nat) (a : List ByteArray) (A_b : Option Addr) (n_b c_b : Nat) (b : List ByteArray) (w : World) (h_a : Ls w A_a n_a c_a Sx.sc 1 a) (h_b : Ls w A_b n_b c_b Sx.sc 1 b) :
    Calls Try.prog 66 #[.slice A_a n_a c_a, .slice A_b n_b c_b] w fun e w' => e = .returned (.bool (Sx.alB Sx.beS a b)) ∧ Ext w w' := by
  have xW := Ext.refl w
  have e_a := h_a.len
  have z_a := h_a.nle
  have e_b := h_b.len
  have z_b := h_b.nle
  refine calls_of_WC (args := [.slice A_a n_a c_a, .slice A_b n_b c_b]) Try.func66 rfl rfl (ble rfl) ?_
  refine WC.seq (fun K1 k1 => ?_)
  refine WC.region rfl ?_
  refine WL.yld rfl (blt rfl) rfl (Y.assign rfl rfl) ?_
  refine WL.nil ?_
  refine WK.then_normal (k1 _ _ ?_)
  refine WC.sub [(0, _), (1, _)] ⟨rfl, rfl, trivial⟩ ?_
  refine WC.seq (fun K2 k2 => ?_)
  refine WC.seq (fun K3 k3 => ?_)
  refine WC.region rfl ?_
  refine WL.yld rfl (blt rfl) rfl (Y.move rfl rfl) ?_
  refine WL.yld rfl (blt rfl) rfl (Y.lenSl rfl rfl rfl Try.underlying34 rfl) ?_
  refine WL.yld rfl (blt rfl) rfl (Y.move rfl rfl) ?_
  refine WL.yld rfl (blt rfl) rfl (Y.lenSl rfl rfl rfl Try.underlying34 rfl) ?_
  refine WL.yld rfl (blt rfl) rfl (Y.neq rfl rfl rfl) ?_
  refine WL.nil ?_
  refine WK.then_normal (k3 _ _ ?_)
  refine WC.sub [(0, _), (1, _), (10, _)] ⟨rfl, rfl, rfl, trivial⟩ ?_
  refine WC.cond rfl (fun h4 => ?_) (fun h4 => ?_)
  ·
    have p4 := (eq_f (not_t h4))
    refine WC.seq (fun K5 k5 => ?_)
    refine WC.region rfl ?_
    refine WL.yld rfl (blt rfl) rfl (Y.assign rfl rfl) ?_
    refine WL.nil ?_
    refine WK.then_normal (k5 _ _ ?_)
    refine WC.sub [(4, _)] ⟨rfl, trivial⟩ ?_
    refine WC.ret ?_
    refine WK.then_ret ?_
    clear k1 k2 k3 k5
    refine WK.ret [_] rfl ⟨rfl, trivial⟩ ?_
    exact ⟨ret1 (vb (Sx.al_len (by have q := h4; simp only [Bool.and_eq_true, Bool.or_eq_true, Bool.not_eq_true', Bool.and_eq_false_iff, Bool.or_eq_false_iff, Bool.not_eq_false', decide_eq_true_eq, decide_eq_false_iff_not, beq_iff_eq, beq_eq_false_iff_ne, ne_eq] at q; omega)).symm), xW⟩
  ·
    have p4 := (eq_t (not_f h4))
    have lab : n_a = n_b := by have q := h4; simp only [Bool.and_eq_true, Bool.or_eq_true, Bool.not_eq_true', Bool.and_eq_false_iff, Bool.or_eq_false_iff, Bool.not_eq_false', decide_eq_true_eq, decide_eq_false_iff_not, beq_iff_eq, beq_eq_false_iff_ne, ne_eq] at q; omega
    refine WC.skip ?_
    refine WK.then_normal (k2 _ _ ?_)
    refine WC.sub [(0, _), (1, _)] ⟨rfl, rfl, trivial⟩ ?_
    refine WC.seq (fun K6 k6 => ?_)
    refine WC.seq (fun K7 k7 => ?_)
    refine WC.region rfl ?_
    refine WL.yld rfl (blt rfl) rfl (Y.move rfl rfl) ?_
    refine WL.yld rfl (blt rfl) rfl (Y.lenSl rfl rfl rfl Try.underlying34 rfl) ?_
    refine WL.yld rfl (blt rfl) rfl (Y.move rfl rfl) ?_
    refine WL.nil ?_
    refine WK.then_normal (k7 _ _ ?_)
    refine WC.sub [(0, _), (1, _), (12, _), (13, _)] ⟨rfl, rfl, rfl, rfl, trivial⟩ ?_
    refine WC.block ?_
    refine WC.sub [(13, _), (0, _), (1, _), (12, _)] ⟨rfl, rfl, rfl, rfl, trivial⟩ ?_
    refine WC.loopS 1 (fun mz Ed W' => ∃ i : Nat, mz = n_a - i ∧ Ed = [(13, .int .i64 ((i : Nat) : Int))] ∧ Ext w W' ∧ (i ≤ n_a) ∧ (∀ j, j < i → Sx.beS a[j]! b[j]! = true)) _ ⟨0, rfl, rfl, xW, (Nat.zero_le _), (fun j hj => absurd hj (Nat.not_lt_zero j))⟩ ?_
    rintro _ _ w8 ⟨i, rfl, rfl, xW, le_i, inv_i⟩
    refine WC.sub [(13, _), (0, _), (1, _), (12, _)] ⟨rfl, rfl, rfl, rfl, trivial⟩ ?_
    refine WC.seq (fun K9 k9 => ?_)
    refine WC.region rfl ?_
    refine WL.yld rfl (blt rfl) rfl (Y.lss rfl rfl rfl) ?_
    refine WL.nil ?_
    refine WK.then_normal (k9 _ _ ?_)
    refine WC.seq (fun K10 k10 => ?_)
    refine WC.cond rfl (fun h11 => ?_) (fun h11 => ?_)
    ·
      have p11 := (dec_t h11)
      refine WC.skip ?_
      refine WK.then_normal (k10 _ _ ?_)
      refine WC.sub [(0, _), (1, _), (12, _), (13, _)] ⟨rfl, rfl, rfl, rfl, trivial⟩ ?_
      refine WC.seq (fun K12 k12 => ?_)
      refine WC.block ?_
      refine WC.seq (fun K13 k13 => ?_)
      refine WC.region rfl ?_
      refine WL.yld rfl (blt rfl) rfl (Y.move rfl rfl) ?_
      refine WL.yld rfl (blt rfl) rfl (Y.assign rfl rfl) ?_
      refine WL.nil ?_
      refine WK.then_normal (k13 _ _ ?_)
      refine WC.sub [(0, _), (1, _), (5, _), (12, _), (13, _)] ⟨rfl, rfl, rfl, rfl, rfl, trivial⟩ ?_
      refine WC.seq (fun K14 k14 => ?_)
      refine WC.regionDq (by kernel_rfl) (by kernel_rfl) rfl ?_
      refine WQ.yld rfl (blt rfl) rfl (Y.move rfl rfl) ?_
      refine WQ.yld rfl (blt rfl) rfl (Y.move rfl rfl) ?_
      have b15 : i < n_a := by omega
      refine WQ.yld rfl (blt rfl) rfl (Y.indexLs i (h_a.ext xW) rfl Try.underlying34 ti9 rfl rfl rfl b15) ?_
      refine WQ.yld rfl (blt rfl) rfl (Y.load1 rfl Try.underlying9 rfl rfl (Ls.at_ext (h_a.ext xW) b15 rfl)) ?_
      refine WQ.yld rfl (blt rfl) rfl (Y.move rfl rfl) ?_
      refine WQ.yld rfl (blt rfl) rfl (Y.move rfl rfl) ?_
      have b16 : i < n_b := by omega
      refine WQ.yld rfl (blt rfl) rfl (Y.indexLs i (h_b.ext xW) rfl Try.underlying34 ti9 rfl rfl rfl b16) ?_
      refine WQ.yld rfl (blt rfl) rfl (Y.load1 rfl Try.underlying9 rfl rfl (Ls.at_ext (h_b.ext xW) b16 rfl)) ?_
      refine WQ.yld rfl (blt rfl) rfl (Y.neqStr rfl rfl rfl) ?_
      refine WQ.done (fun w17 x18 => ?_)
      have xW := Ext.trans xW x18
      refine WK.then_normal (k14 _ _ ?_)
      refine WC.sub [(0, _), (1, _), (12, _), (13, _), (24, _)] ⟨rfl, rfl, rfl, rfl, rfl, trivial⟩ ?_
      refine WC.cond rfl (fun h19 => ?_) (fun h19 => ?_)
      ·
        refine WC.seq (fun K20 k20 => ?_)
        refine WC.region rfl ?_
        refine WL.yld rfl (blt rfl) rfl (Y.assign rfl rfl) ?_
        refine WL.nil ?_
        refine WK.then_normal (k20 _ _ ?_)
        refine WC.sub [(4, _)] ⟨rfl, trivial⟩ ?_
        refine WC.ret ?_
        refine WK.in_ret ?_
        refine WK.then_ret ?_
        refine WK.then_ret ?_
        refine WK.in_ret ?_
        refine WK.then_ret ?_
        clear k1 k2 k3 k6 k7 k9 k10 k12 k13 k14 k20
        refine WK.ret [_] rfl ⟨rfl, trivial⟩ ?_
        exact ⟨ret1 (vb (Sx.al_hit (show i < a.length from by omega) (by have q := h19; rw [Bool.not_eq_true'] at q; exact q)).symm), xW⟩
      ·
        refine WC.skip ?_
        refine WK.in_normal ?_
        refine WK.then_normal (k12 _ _ ?_)
        refine WC.sub [(0, _), (1, _), (12, _), (13, _)] ⟨rfl, rfl, rfl, rfl, trivial⟩ ?_
        refine WC.region rfl ?_
        refine WL.yld rfl (blt rfl) rfl (Y.add rfl rfl rfl (wrap_i64 (by first | omega | (dsimp only; omega)))) ?_
        refine WL.yld rfl (blt rfl) rfl (Y.move rfl rfl) ?_
        refine WL.nil ?_
        refine WK.roundS _ [(13, .int .i64 (((i + 1) : Nat) : Int))] ⟨rfl, rfl, rfl, rfl, trivial⟩ ?_ ⟨(i + 1), rfl, rfl, xW, (by omega), (fun j hj => by rcases Nat.lt_succ_iff_lt_or_eq.1 hj with h | h; exact inv_i j h; rw [h]; exact (by have q := h19; rw [Bool.not_eq_false'] at q; exact q))⟩
        show _ - (i + 1) < _ - i; omega
    ·
      have p11 := (dec_f h11)
      refine WC.exit ?_
      refine WK.then_exit ?_
      refine WK.then_exit ?_
      refine WK.in_exit ?_
      refine WK.then_normal (k6 _ _ ?_)
      refine WC.sub [] trivial ?_
      refine WC.seq (fun K21 k21 => ?_)
      refine WC.region rfl ?_
      refine WL.yld rfl (blt rfl) rfl (Y.assign rfl rfl) ?_
      refine WL.nil ?_
      refine WK.then_normal (k21 _ _ ?_)
      refine WC.ret ?_
      clear k1 k2 k3 k6 k7 k9 k10 k21
      refine WK.ret [_] rfl ⟨rfl, trivial⟩ ?_
      exact ⟨ret1 (vb (Sx.al_ok (by omega) fun j hj => inv_i j (by omega)).symm), xW⟩
theorem eqA_any (A_a : Option Addr) (n_a c_a : Nat) (a : List Sx.Ag) (A_b : Option Addr) (n_b c_b : Nat) (b : List Sx.Ag) (w : World) (h_a : Ls w A_a n_a c_a Sx.Ag.v 3 a) (h_b : Ls w A_b n_b c_b Sx.Ag.v 3 b) :
    Calls Try.prog 67 #[.slice A_a n_a c_a, .slice A_b n_b c_b] w fun e w' => e = .returned (.bool (Sx.alB Sx.agS a b)) ∧ Ext w w' := by
  have xW := Ext.refl w
  have e_a := h_a.len
  have z_a := h_a.nle
  have e_b := h_b.len
  have z_b := h_b.nle
  refine calls_of_WC (args := [.slice A_a n_a c_a, .slice A_b n_b c_b]) Try.func67 rfl rfl (ble rfl) ?_
  refine WC.seq (fun K1 k1 => ?_)
  refine WC.region rfl ?_
  refine WL.yld rfl (blt rfl) rfl (Y.assign rfl rfl) ?_
  refine WL.nil ?_
  refine WK.then_normal (k1 _ _ ?_)
  refine WC.sub [(0, _), (1, _)] ⟨rfl, rfl, trivial⟩ ?_
  refine WC.seq (fun K2 k2 => ?_)
  refine WC.seq (fun K3 k3 => ?_)
  refine WC.region rfl ?_
  refine WL.yld rfl (blt rfl) rfl (Y.move rfl rfl) ?_
  refine WL.yld rfl (blt rfl) rfl (Y.lenSl rfl rfl rfl Try.underlying38 rfl) ?_
  refine WL.yld rfl (blt rfl) rfl (Y.move rfl rfl) ?_
  refine WL.yld rfl (blt rfl) rfl (Y.lenSl rfl rfl rfl Try.underlying38 rfl) ?_
  refine WL.yld rfl (blt rfl) rfl (Y.neq rfl rfl rfl) ?_
  refine WL.nil ?_
  refine WK.then_normal (k3 _ _ ?_)
  refine WC.sub [(0, _), (1, _), (10, _)] ⟨rfl, rfl, rfl, trivial⟩ ?_
  refine WC.cond rfl (fun h4 => ?_) (fun h4 => ?_)
  ·
    have p4 := (eq_f (not_t h4))
    refine WC.seq (fun K5 k5 => ?_)
    refine WC.region rfl ?_
    refine WL.yld rfl (blt rfl) rfl (Y.assign rfl rfl) ?_
    refine WL.nil ?_
    refine WK.then_normal (k5 _ _ ?_)
    refine WC.sub [(4, _)] ⟨rfl, trivial⟩ ?_
    refine WC.ret ?_
    refine WK.then_ret ?_
    clear k1 k2 k3 k5
    refine WK.ret [_] rfl ⟨rfl, trivial⟩ ?_
    exact ⟨ret1 (vb (Sx.al_len (by have q := h4; simp only [Bool.and_eq_true, Bool.or_eq_true, Bool.not_eq_true', Bool.and_eq_false_iff, Bool.or_eq_false_iff, Bool.not_eq_false', decide_eq_true_eq, decide_eq_false_iff_not, beq_iff_eq, beq_eq_false_iff_ne, ne_eq] at q; omega)).symm), xW⟩
  ·
    have p4 := (eq_t (not_f h4))
    have lab : n_a = n_b := by have q := h4; simp only [Bool.and_eq_true, Bool.or_eq_true, Bool.not_eq_true', Bool.and_eq_false_iff, Bool.or_eq_false_iff, Bool.not_eq_false', decide_eq_true_eq, decide_eq_false_iff_not, beq_iff_eq, beq_eq_false_iff_ne, ne_eq] at q; omega
    refine WC.skip ?_
    refine WK.then_normal (k2 _ _ ?_)
    refine WC.sub [(0, _), (1, _)] ⟨rfl, rfl, trivial⟩ ?_
    refine WC.seq (fun K6 k6 => ?_)
    refine WC.seq (fun K7 k7 => ?_)
    refine WC.region rfl ?_
    refine WL.yld rfl (blt rfl) rfl (Y.move rfl rfl) ?_
    refine WL.yld rfl (blt rfl) rfl (Y.lenSl rfl rfl rfl Try.underlying38 rfl) ?_
    refine WL.yld rfl (blt rfl) rfl (Y.move rfl rfl) ?_
    refine WL.nil ?_
    refine WK.then_normal (k7 _ _ ?_)
    refine WC.sub [(0, _), (1, _), (12, _), (13, _)] ⟨rfl, rfl, rfl, rfl, trivial⟩ ?_
    refine WC.block ?_
    refine WC.sub [(13, _), (0, _), (1, _), (12, _)] ⟨rfl, rfl, rfl, rfl, trivial⟩ ?_
    refine WC.loopS 1 (fun mz Ed W' => ∃ i : Nat, mz = n_a - i ∧ Ed = [(13, .int .i64 ((i : Nat) : Int))] ∧ Ext w W' ∧ (i ≤ n_a) ∧ (∀ j, j < i → Sx.agS a[j]! b[j]! = true)) _ ⟨0, rfl, rfl, xW, (Nat.zero_le _), (fun j hj => absurd hj (Nat.not_lt_zero j))⟩ ?_
    rintro _ _ w8 ⟨i, rfl, rfl, xW, le_i, inv_i⟩
    refine WC.sub [(13, _), (0, _), (1, _), (12, _)] ⟨rfl, rfl, rfl, rfl, trivial⟩ ?_
    refine WC.seq (fun K9 k9 => ?_)
    refine WC.region rfl ?_
    refine WL.yld rfl (blt rfl) rfl (Y.lss rfl rfl rfl) ?_
    refine WL.nil ?_
    refine WK.then_normal (k9 _ _ ?_)
    refine WC.seq (fun K10 k10 => ?_)
    refine WC.cond rfl (fun h11 => ?_) (fun h11 => ?_)
    ·
      have p11 := (dec_t h11)
      refine WC.skip ?_
      refine WK.then_normal (k10 _ _ ?_)
      refine WC.sub [(0, _), (1, _), (12, _), (13, _)] ⟨rfl, rfl, rfl, rfl, trivial⟩ ?_
      refine WC.seq (fun K12 k12 => ?_)
      refine WC.block ?_
      refine WC.seq (fun K13 k13 => ?_)
      refine WC.region rfl ?_
      refine WL.yld rfl (blt rfl) rfl (Y.move rfl rfl) ?_
      refine WL.yld rfl (blt rfl) rfl (Y.assign rfl rfl) ?_
      refine WL.nil ?_
      refine WK.then_normal (k13 _ _ ?_)
      refine WC.sub [(0, _), (1, _), (5, _), (12, _), (13, _)] ⟨rfl, rfl, rfl, rfl, rfl, trivial⟩ ?_
      refine WC.seq (fun K14 k14 => ?_)
      refine WC.regionDq (by kernel_rfl) (by kernel_rfl) rfl ?_
      refine WQ.yld rfl (blt rfl) rfl (Y.move rfl rfl) ?_
      refine WQ.yld rfl (blt rfl) rfl (Y.move rfl rfl) ?_
      have b15 : i < n_a := by omega
      refine WQ.yld rfl (blt rfl) rfl (Y.indexLs i (h_a.ext xW) rfl Try.underlying38 ti55 rfl rfl rfl b15) ?_
      refine WQ.yld rfl (blt rfl) rfl (Y.loadS (cs := [_, _, _]) rfl Try.underlying55 rfl ti55 rfl (Ls.part_ext (h_a.ext xW) b15 rfl)) ?_
      refine WQ.yld rfl (blt rfl) rfl (Y.move rfl rfl) ?_
      refine WQ.yld rfl (blt rfl) rfl (Y.move rfl rfl) ?_
      have b16 : i < n_b := by omega
      refine WQ.yld rfl (blt rfl) rfl (Y.indexLs i (h_b.ext xW) rfl Try.underlying38 ti55 rfl rfl rfl b16) ?_
      refine WQ.yld rfl (blt rfl) rfl (Y.loadS (cs := [_, _, _]) rfl Try.underlying55 rfl ti55 rfl (Ls.part_ext (h_b.ext xW) b16 rfl)) ?_
      refine WQ.yld rfl (blt rfl) rfl (Y.neqS rfl eqg55 (eq55 _ _ _ _ _ _) rfl rfl) ?_
      refine WQ.done (fun w17 x18 => ?_)
      have xW := Ext.trans xW x18
      refine WK.then_normal (k14 _ _ ?_)
      refine WC.sub [(0, _), (1, _), (12, _), (13, _), (24, _)] ⟨rfl, rfl, rfl, rfl, rfl, trivial⟩ ?_
      refine WC.cond rfl (fun h19 => ?_) (fun h19 => ?_)
      ·
        refine WC.seq (fun K20 k20 => ?_)
        refine WC.region rfl ?_
        refine WL.yld rfl (blt rfl) rfl (Y.assign rfl rfl) ?_
        refine WL.nil ?_
        refine WK.then_normal (k20 _ _ ?_)
        refine WC.sub [(4, _)] ⟨rfl, trivial⟩ ?_
        refine WC.ret ?_
        refine WK.in_ret ?_
        refine WK.then_ret ?_
        refine WK.then_ret ?_
        refine WK.in_ret ?_
        refine WK.then_ret ?_
        clear k1 k2 k3 k6 k7 k9 k10 k12 k13 k14 k20
        refine WK.ret [_] rfl ⟨rfl, trivial⟩ ?_
        exact ⟨ret1 (vb (Sx.al_hit (show i < a.length from by omega) (by have q := h19; rw [Bool.not_eq_true'] at q; exact q)).symm), xW⟩
      ·
        refine WC.skip ?_
        refine WK.in_normal ?_
        refine WK.then_normal (k12 _ _ ?_)
        refine WC.sub [(0, _), (1, _), (12, _), (13, _)] ⟨rfl, rfl, rfl, rfl, trivial⟩ ?_
        refine WC.region rfl ?_
        refine WL.yld rfl (blt rfl) rfl (Y.add rfl rfl rfl (wrap_i64 (by first | omega | (dsimp only; omega)))) ?_
        refine WL.yld rfl (blt rfl) rfl (Y.move rfl rfl) ?_
        refine WL.nil ?_
        refine WK.roundS _ [(13, .int .i64 (((i + 1) : Nat) : Int))] ⟨rfl, rfl, rfl, rfl, trivial⟩ ?_ ⟨(i + 1), rfl, rfl, xW, (by omega), (fun j hj => by rcases Nat.lt_succ_iff_lt_or_eq.1 hj with h | h; exact inv_i j h; rw [h]; exact (by have q := h19; rw [Bool.not_eq_false'] at q; exact q))⟩
        show _ - (i + 1) < _ - i; omega
    ·
      have p11 := (dec_f h11)
      refine WC.exit ?_
      refine WK.then_exit ?_
      refine WK.then_exit ?_
      refine WK.in_exit ?_
      refine WK.then_normal (k6 _ _ ?_)
      refine WC.sub [] trivial ?_
      refine WC.seq (fun K21 k21 => ?_)
      refine WC.region rfl ?_
      refine WL.yld rfl (blt rfl) rfl (Y.assign rfl rfl) ?_
      refine WL.nil ?_
      refine WK.then_normal (k21 _ _ ?_)
      refine WC.ret ?_
      clear k1 k2 k3 k6 k7 k9 k10 k21
      refine WK.ret [_] rfl ⟨rfl, trivial⟩ ?_
      exact ⟨ret1 (vb (Sx.al_ok (by omega) fun j hj => inv_i j (by omega)).symm), xW⟩
theorem eqO_any (A_a : Option Addr) (n_a c_a : Nat) (a : List Sx.So) (A_b : Option Addr) (n_b c_b : Nat) (b : List Sx.So) (w : World) (h_a : Ls w A_a n_a c_a Sx.So.v 2 a) (h_b : Ls w A_b n_b c_b Sx.So.v 2 b) :
    Calls Try.prog 68 #[.slice A_a n_a c_a, .slice A_b n_b c_b] w fun e w' => e = .returned (.bool (Sx.alB Sx.soS a b)) ∧ Ext w w' := by
  have xW := Ext.refl w
  have e_a := h_a.len
  have z_a := h_a.nle
  have e_b := h_b.len
  have z_b := h_b.nle
  refine calls_of_WC (args := [.slice A_a n_a c_a, .slice A_b n_b c_b]) Try.func68 rfl rfl (ble rfl) ?_
  refine WC.seq (fun K1 k1 => ?_)
  refine WC.region rfl ?_
  refine WL.yld rfl (blt rfl) rfl (Y.assign rfl rfl) ?_
  refine WL.nil ?_
  refine WK.then_normal (k1 _ _ ?_)
  refine WC.sub [(0, _), (1, _)] ⟨rfl, rfl, trivial⟩ ?_
  refine WC.seq (fun K2 k2 => ?_)
  refine WC.seq (fun K3 k3 => ?_)
  refine WC.region rfl ?_
  refine WL.yld rfl (blt rfl) rfl (Y.move rfl rfl) ?_
  refine WL.yld rfl (blt rfl) rfl (Y.lenSl rfl rfl rfl Try.underlying39 rfl) ?_
  refine WL.yld rfl (blt rfl) rfl (Y.move rfl rfl) ?_
  refine WL.yld rfl (blt rfl) rfl (Y.lenSl rfl rfl rfl Try.underlying39 rfl) ?_
  refine WL.yld rfl (blt rfl) rfl (Y.neq rfl rfl rfl) ?_
  refine WL.nil ?_
  refine WK.then_normal (k3 _ _ ?_)
  refine WC.sub [(0, _), (1, _), (10, _)] ⟨rfl, rfl, rfl, trivial⟩ ?_
  refine WC.cond rfl (fun h4 => ?_) (fun h4 => ?_)
  ·
    have p4 := (eq_f (not_t h4))
    refine WC.seq (fun K5 k5 => ?_)
    refine WC.region rfl ?_
    refine WL.yld rfl (blt rfl) rfl (Y.assign rfl rfl) ?_
    refine WL.nil ?_
    refine WK.then_normal (k5 _ _ ?_)
    refine WC.sub [(4, _)] ⟨rfl, trivial⟩ ?_
    refine WC.ret ?_
    refine WK.then_ret ?_
    clear k1 k2 k3 k5
    refine WK.ret [_] rfl ⟨rfl, trivial⟩ ?_
    exact ⟨ret1 (vb (Sx.al_len (by have q := h4; simp only [Bool.and_eq_true, Bool.or_eq_true, Bool.not_eq_true', Bool.and_eq_false_iff, Bool.or_eq_false_iff, Bool.not_eq_false', decide_eq_true_eq, decide_eq_false_iff_not, beq_iff_eq, beq_eq_false_iff_ne, ne_eq] at q; omega)).symm), xW⟩
  ·
    have p4 := (eq_t (not_f h4))
    have lab : n_a = n_b := by have q := h4; simp only [Bool.and_eq_true, Bool.or_eq_true, Bool.not_eq_true', Bool.and_eq_false_iff, Bool.or_eq_false_iff, Bool.not_eq_false', decide_eq_true_eq, decide_eq_false_iff_not, beq_iff_eq, beq_eq_false_iff_ne, ne_eq] at q; omega
    refine WC.skip ?_
    refine WK.then_normal (k2 _ _ ?_)
    refine WC.sub [(0, _), (1, _)] ⟨rfl, rfl, trivial⟩ ?_
    refine WC.seq (fun K6 k6 => ?_)
    refine WC.seq (fun K7 k7 => ?_)
    refine WC.region rfl ?_
    refine WL.yld rfl (blt rfl) rfl (Y.move rfl rfl) ?_
    refine WL.yld rfl (blt rfl) rfl (Y.lenSl rfl rfl rfl Try.underlying39 rfl) ?_
    refine WL.yld rfl (blt rfl) rfl (Y.move rfl rfl) ?_
    refine WL.nil ?_
    refine WK.then_normal (k7 _ _ ?_)
    refine WC.sub [(0, _), (1, _), (12, _), (13, _)] ⟨rfl, rfl, rfl, rfl, trivial⟩ ?_
    refine WC.block ?_
    refine WC.sub [(13, _), (0, _), (1, _), (12, _)] ⟨rfl, rfl, rfl, rfl, trivial⟩ ?_
    refine WC.loopS 1 (fun mz Ed W' => ∃ i : Nat, mz = n_a - i ∧ Ed = [(13, .int .i64 ((i : Nat) : Int))] ∧ Ext w W' ∧ (i ≤ n_a) ∧ (∀ j, j < i → Sx.soS a[j]! b[j]! = true)) _ ⟨0, rfl, rfl, xW, (Nat.zero_le _), (fun j hj => absurd hj (Nat.not_lt_zero j))⟩ ?_
    rintro _ _ w8 ⟨i, rfl, rfl, xW, le_i, inv_i⟩
    refine WC.sub [(13, _), (0, _), (1, _), (12, _)] ⟨rfl, rfl, rfl, rfl, trivial⟩ ?_
    refine WC.seq (fun K9 k9 => ?_)
    refine WC.region rfl ?_
    refine WL.yld rfl (blt rfl) rfl (Y.lss rfl rfl rfl) ?_
    refine WL.nil ?_
    refine WK.then_normal (k9 _ _ ?_)
    refine WC.seq (fun K10 k10 => ?_)
    refine WC.cond rfl (fun h11 => ?_) (fun h11 => ?_)
    ·
      have p11 := (dec_t h11)
      refine WC.skip ?_
      refine WK.then_normal (k10 _ _ ?_)
      refine WC.sub [(0, _), (1, _), (12, _), (13, _)] ⟨rfl, rfl, rfl, rfl, trivial⟩ ?_
      refine WC.seq (fun K12 k12 => ?_)
      refine WC.block ?_
      refine WC.seq (fun K13 k13 => ?_)
      refine WC.region rfl ?_
      refine WL.yld rfl (blt rfl) rfl (Y.move rfl rfl) ?_
      refine WL.yld rfl (blt rfl) rfl (Y.assign rfl rfl) ?_
      refine WL.nil ?_
      refine WK.then_normal (k13 _ _ ?_)
      refine WC.sub [(0, _), (1, _), (5, _), (12, _), (13, _)] ⟨rfl, rfl, rfl, rfl, rfl, trivial⟩ ?_
      refine WC.seq (fun K14 k14 => ?_)
      refine WC.regionDq (by kernel_rfl) (by kernel_rfl) rfl ?_
      refine WQ.yld rfl (blt rfl) rfl (Y.move rfl rfl) ?_
      refine WQ.yld rfl (blt rfl) rfl (Y.move rfl rfl) ?_
      have b15 : i < n_a := by omega
      refine WQ.yld rfl (blt rfl) rfl (Y.indexLs i (h_a.ext xW) rfl Try.underlying39 ti69 rfl rfl rfl b15) ?_
      refine WQ.yld rfl (blt rfl) rfl (Y.loadS (cs := [_, _]) rfl Try.underlying69 rfl ti69 rfl (Ls.part_ext (h_a.ext xW) b15 rfl)) ?_
      refine WQ.yld rfl (blt rfl) rfl (Y.move rfl rfl) ?_
      refine WQ.yld rfl (blt rfl) rfl (Y.move rfl rfl) ?_
      have b16 : i < n_b := by omega
      refine WQ.yld rfl (blt rfl) rfl (Y.indexLs i (h_b.ext xW) rfl Try.underlying39 ti69 rfl rfl rfl b16) ?_
      refine WQ.yld rfl (blt rfl) rfl (Y.loadS (cs := [_, _]) rfl Try.underlying69 rfl ti69 rfl (Ls.part_ext (h_b.ext xW) b16 rfl)) ?_
      refine WQ.yld rfl (blt rfl) rfl (Y.neqS rfl eqg69 (eq69 _ _ _ _) rfl rfl) ?_
      refine WQ.done (fun w17 x18 => ?_)
      have xW := Ext.trans xW x18
      refine WK.then_normal (k14 _ _ ?_)
      refine WC.sub [(0, _), (1, _), (12, _), (13, _), (24, _)] ⟨rfl, rfl, rfl, rfl, rfl, trivial⟩ ?_
      refine WC.cond rfl (fun h19 => ?_) (fun h19 => ?_)
      ·
        refine WC.seq (fun K20 k20 => ?_)
        refine WC.region rfl ?_
        refine WL.yld rfl (blt rfl) rfl (Y.assign rfl rfl) ?_
        refine WL.nil ?_
        refine WK.then_normal (k20 _ _ ?_)
        refine WC.sub [(4, _)] ⟨rfl, trivial⟩ ?_
        refine WC.ret ?_
        refine WK.in_ret ?_
        refine WK.then_ret ?_
        refine WK.then_ret ?_
        refine WK.in_ret ?_
        refine WK.then_ret ?_
        clear k1 k2 k3 k6 k7 k9 k10 k12 k13 k14 k20
        refine WK.ret [_] rfl ⟨rfl, trivial⟩ ?_
        exact ⟨ret1 (vb (Sx.al_hit (show i < a.length from by omega) (by have q := h19; rw [Bool.not_eq_true'] at q; exact q)).symm), xW⟩
      ·
        refine WC.skip ?_
        refine WK.in_normal ?_
        refine WK.then_normal (k12 _ _ ?_)
        refine WC.sub [(0, _), (1, _), (12, _), (13, _)] ⟨rfl, rfl, rfl, rfl, trivial⟩ ?_
        refine WC.region rfl ?_
        refine WL.yld rfl (blt rfl) rfl (Y.add rfl rfl rfl (wrap_i64 (by first | omega | (dsimp only; omega)))) ?_
        refine WL.yld rfl (blt rfl) rfl (Y.move rfl rfl) ?_
        refine WL.nil ?_
        refine WK.roundS _ [(13, .int .i64 (((i + 1) : Nat) : Int))] ⟨rfl, rfl, rfl, rfl, trivial⟩ ?_ ⟨(i + 1), rfl, rfl, xW, (by omega), (fun j hj => by rcases Nat.lt_succ_iff_lt_or_eq.1 hj with h | h; exact inv_i j h; rw [h]; exact (by have q := h19; rw [Bool.not_eq_false'] at q; exact q))⟩
        show _ - (i + 1) < _ - i; omega
    ·
      have p11 := (dec_f h11)
      refine WC.exit ?_
      refine WK.then_exit ?_
      refine WK.then_exit ?_
      refine WK.in_exit ?_
      refine WK.then_normal (k6 _ _ ?_)
      refine WC.sub [] trivial ?_
      refine WC.seq (fun K21 k21 => ?_)
      refine WC.region rfl ?_
      refine WL.yld rfl (blt rfl) rfl (Y.assign rfl rfl) ?_
      refine WL.nil ?_
      refine WK.then_normal (k21 _ _ ?_)
      refine WC.ret ?_
      clear k1 k2 k3 k6 k7 k9 k10 k21
      refine WK.ret [_] rfl ⟨rfl, trivial⟩ ?_
      exact ⟨ret1 (vb (Sx.al_ok (by omega) fun j hj => inv_i j (by omega)).symm), xW⟩
theorem eqfE_any (A_a : Option Addr) (n_a c_a : Nat) (a : List Sx.E) (A_b : Option Addr) (n_b c_b : Nat) (b : List Sx.E) (w : World) (h_a : Ls w A_a n_a c_a Sx.E.v 6 a) (h_b : Ls w A_b n_b c_b Sx.E.v 6 b) (hf : ∀ i, i < a.length → i < b.length → ∀ w' : World, Ext w w' → Calls Try.prog 64 #[.agg #[.int .i64 a[i]!.op, .string a[i]!.nm, .int .i64 a[i]!.vk, .int .i64 a[i]!.vn, .string a[i]!.vs, .slice a[i]!.A a[i]!.n a[i]!.c], .agg #[.int .i64 b[i]!.op, .string b[i]!.nm, .int .i64 b[i]!.vk, .int .i64 b[i]!.vn, .string b[i]!.vs, .slice b[i]!.A b[i]!.n b[i]!.c]] w' fun e w2 => e = .returned (.bool (Sx.same a[i]! b[i]!)) ∧ Ext w' w2) :
    Calls Try.prog 88 #[.slice A_a n_a c_a, .slice A_b n_b c_b, .func (.func 64) #[] #[]] w fun e w' => e = .returned (.bool (Sx.alB Sx.same a b)) ∧ Ext w w' := by
  have xW := Ext.refl w
  have e_a := h_a.len
  have z_a := h_a.nle
  have e_b := h_b.len
  have z_b := h_b.nle
  refine calls_of_WC (args := [.slice A_a n_a c_a, .slice A_b n_b c_b, .func (.func 64) #[] #[]]) Try.func88 rfl rfl (ble rfl) ?_
  refine WC.seq (fun K1 k1 => ?_)
  refine WC.region rfl ?_
  refine WL.yld rfl (blt rfl) rfl (Y.assign rfl rfl) ?_
  refine WL.nil ?_
  refine WK.then_normal (k1 _ _ ?_)
  refine WC.sub [(0, _), (1, _), (2, _)] ⟨rfl, rfl, rfl, trivial⟩ ?_
  refine WC.seq (fun K2 k2 => ?_)
  refine WC.seq (fun K3 k3 => ?_)
  refine WC.region rfl ?_
  refine WL.yld rfl (blt rfl) rfl (Y.move rfl rfl) ?_
  refine WL.yld rfl (blt rfl) rfl (Y.lenSl rfl rfl rfl Try.underlying26 rfl) ?_
  refine WL.yld rfl (blt rfl) rfl (Y.move rfl rfl) ?_
  refine WL.yld rfl (blt rfl) rfl (Y.lenSl rfl rfl rfl Try.underlying26 rfl) ?_
  refine WL.yld rfl (blt rfl) rfl (Y.neq rfl rfl rfl) ?_
  refine WL.nil ?_
  refine WK.then_normal (k3 _ _ ?_)
  refine WC.sub [(0, _), (1, _), (2, _), (14, _)] ⟨rfl, rfl, rfl, rfl, trivial⟩ ?_
  refine WC.cond rfl (fun h4 => ?_) (fun h4 => ?_)
  ·
    have p4 := (eq_f (not_t h4))
    refine WC.seq (fun K5 k5 => ?_)
    refine WC.region rfl ?_
    refine WL.yld rfl (blt rfl) rfl (Y.assign rfl rfl) ?_
    refine WL.nil ?_
    refine WK.then_normal (k5 _ _ ?_)
    refine WC.sub [(6, _)] ⟨rfl, trivial⟩ ?_
    refine WC.ret ?_
    refine WK.then_ret ?_
    clear k1 k2 k3 k5
    refine WK.ret [_] rfl ⟨rfl, trivial⟩ ?_
    exact ⟨ret1 (vb (Sx.al_len (by have q := h4; simp only [Bool.and_eq_true, Bool.or_eq_true, Bool.not_eq_true', Bool.and_eq_false_iff, Bool.or_eq_false_iff, Bool.not_eq_false', decide_eq_true_eq, decide_eq_false_iff_not, beq_iff_eq, beq_eq_false_iff_ne, ne_eq] at q; omega)).symm), xW⟩
  ·
    have p4 := (eq_t (not_f h4))
    have lab : n_a = n_b := by have q := h4; simp only [Bool.and_eq_true, Bool.or_eq_true, Bool.not_eq_true', Bool.and_eq_false_iff, Bool.or_eq_false_iff, Bool.not_eq_false', decide_eq_true_eq, decide_eq_false_iff_not, beq_iff_eq, beq_eq_false_iff_ne, ne_eq] at q; omega
    refine WC.skip ?_
    refine WK.then_normal (k2 _ _ ?_)
    refine WC.sub [(0, _), (1, _), (2, _)] ⟨rfl, rfl, rfl, trivial⟩ ?_
    refine WC.seq (fun K6 k6 => ?_)
    refine WC.seq (fun K7 k7 => ?_)
    refine WC.region rfl ?_
    refine WL.yld rfl (blt rfl) rfl (Y.move rfl rfl) ?_
    refine WL.yld rfl (blt rfl) rfl (Y.lenSl rfl rfl rfl Try.underlying26 rfl) ?_
    refine WL.yld rfl (blt rfl) rfl (Y.move rfl rfl) ?_
    refine WL.nil ?_
    refine WK.then_normal (k7 _ _ ?_)
    refine WC.sub [(1, _), (2, _), (15, _), (16, _), (17, _)] ⟨rfl, rfl, rfl, rfl, rfl, trivial⟩ ?_
    refine WC.block ?_
    refine WC.sub [(17, _), (1, _), (2, _), (15, _), (16, _)] ⟨rfl, rfl, rfl, rfl, rfl, trivial⟩ ?_
    refine WC.loopS 1 (fun mz Ed W' => ∃ i : Nat, mz = n_a - i ∧ Ed = [(17, .int .i64 ((i : Nat) : Int))] ∧ Ext w W' ∧ (i ≤ n_a) ∧ (∀ j, j < i → Sx.same a[j]! b[j]! = true)) _ ⟨0, rfl, rfl, xW, (Nat.zero_le _), (fun j hj => absurd hj (Nat.not_lt_zero j))⟩ ?_
    rintro _ _ w8 ⟨i, rfl, rfl, xW, le_i, inv_i⟩
    refine WC.sub [(17, _), (1, _), (2, _), (15, _), (16, _)] ⟨rfl, rfl, rfl, rfl, rfl, trivial⟩ ?_
    refine WC.seq (fun K9 k9 => ?_)
    refine WC.region rfl ?_
    refine WL.yld rfl (blt rfl) rfl (Y.lss rfl rfl rfl) ?_
    refine WL.nil ?_
    refine WK.then_normal (k9 _ _ ?_)
    refine WC.seq (fun K10 k10 => ?_)
    refine WC.cond rfl (fun h11 => ?_) (fun h11 => ?_)
    ·
      have p11 := (dec_t h11)
      refine WC.skip ?_
      refine WK.then_normal (k10 _ _ ?_)
      refine WC.sub [(1, _), (2, _), (15, _), (16, _), (17, _)] ⟨rfl, rfl, rfl, rfl, rfl, trivial⟩ ?_
      refine WC.seq (fun K12 k12 => ?_)
      refine WC.block ?_
      refine WC.seq (fun K13 k13 => ?_)
      refine WC.region rfl ?_
      refine WL.yld rfl (blt rfl) rfl (Y.move rfl rfl) ?_
      have b14 : i < n_a := by omega
      refine WL.yld rfl (blt rfl) rfl (Y.indexLs i (h_a.ext xW) rfl Try.underlying26 ti28 rfl rfl rfl b14) ?_
      refine WL.yld rfl (blt rfl) rfl (Y.loadS (cs := [_, _, _, _, _, _]) rfl Try.underlying28 rfl ti28 rfl (Ls.part_eq (h_a.ext xW) b14 rfl)) ?_
      refine WL.alloc rfl (blt rfl) rfl rfl ti28 rfl ?_
      intro g15 w16 e17 x18 m19
      have o_g15 := own_new xW e17
      have xW := Ext.trans xW x18
      refine WL.yld rfl (blt rfl) rfl (Y.assign rfl rfl) ?_
      refine WL.store (cs' := [_, _, _, _, _, _]) rfl rfl rfl rfl rfl rfl ti28 m19 (ble rfl) rfl rfl (fun w20 on21 m22 => ?_)
      have xW := Ext.only xW on21 o_g15
      refine WL.nil ?_
      refine WK.then_normal (k13 _ _ ?_)
      refine WC.sub [(1, _), (2, _), (7, _), (8, _), (15, _), (16, _), (17, _)] ⟨rfl, rfl, rfl, rfl, rfl, rfl, rfl, trivial⟩ ?_
      refine WC.seq (fun K23 k23 => ?_)
      refine WC.region rfl ?_
      refine WL.yld rfl (blt rfl) rfl (Y.move rfl rfl) ?_
      refine WL.yld rfl (blt rfl) rfl (Y.move rfl rfl) ?_
      have b24 : i < n_b := by omega
      refine WL.yld rfl (blt rfl) rfl (Y.indexLs i (h_b.ext xW) rfl Try.underlying26 ti28 rfl rfl rfl b24) ?_
      refine WL.yld rfl (blt rfl) rfl (Y.loadS (cs := [_, _, _, _, _, _]) rfl Try.underlying28 rfl ti28 rfl (Ls.part_eq (h_b.ext xW) b24 rfl)) ?_
      refine WL.alloc rfl (blt rfl) rfl rfl ti28 rfl ?_
      intro g25 w26 e27 x28 m29
      have n_g15_g25 := ne_new m22 e27
      have o_g25 := own_new xW e27
      have m22 := m22.ext x28
      have xW := Ext.trans xW x28
      refine WL.store (cs' := [_, _, _, _, _, _]) rfl rfl rfl rfl rfl rfl ti28 m29 (ble rfl) rfl rfl (fun w30 on31 m32 => ?_)
      have m22 := m22.only n_g15_g25 on31
      have xW := Ext.only xW on31 o_g25
      refine WL.nil ?_
      refine WK.then_normal (k23 _ _ ?_)
      refine WC.sub [(1, _), (2, _), (8, _), (9, _), (15, _), (16, _), (17, _)] ⟨rfl, rfl, rfl, rfl, rfl, rfl, rfl, trivial⟩ ?_
      refine WC.seq (fun K33 k33 => ?_)
      refine WC.region rfl ?_
      refine WL.yld rfl (blt rfl) rfl (Y.move rfl rfl) ?_
      refine WL.yld rfl (blt rfl) rfl (Y.loadS rfl Try.underlying28 rfl ti28 rfl (Blk.row_eq m22)) ?_
      refine WL.yld rfl (blt rfl) rfl (Y.loadS rfl Try.underlying28 rfl ti28 rfl (Blk.row_eq m32)) ?_
      refine WL.callF rfl (blt rfl) rfl rfl rfl rfl has64 rfl (hf i (by omega) (by omega) _ xW) ?_
      rintro _ w34 ⟨rfl, x35⟩
      refine ⟨_, rfl, ?_⟩
      have m22 := m22.ext x35
      have m32 := m32.ext x35
      have xW := Ext.trans xW x35
      refine WL.yld rfl (blt rfl) rfl (Y.not rfl rfl) ?_
      refine WL.nil ?_
      refine WK.then_normal (k33 _ _ ?_)
      refine WC.sub [(1, _), (2, _), (15, _), (16, _), (17, _), (30, _)] ⟨rfl, rfl, rfl, rfl, rfl, rfl, trivial⟩ ?_
      refine WC.cond rfl (fun h36 => ?_) (fun h36 => ?_)
      ·
        refine WC.seq (fun K37 k37 => ?_)
        refine WC.region rfl ?_
        refine WL.yld rfl (blt rfl) rfl (Y.assign rfl rfl) ?_
        refine WL.nil ?_
        refine WK.then_normal (k37 _ _ ?_)
        refine WC.sub [(6, _)] ⟨rfl, trivial⟩ ?_
        refine WC.ret ?_
        refine WK.in_ret ?_
        refine WK.then_ret ?_
        refine WK.then_ret ?_
        refine WK.in_ret ?_
        refine WK.then_ret ?_
        clear k1 k2 k3 k6 k7 k9 k10 k12 k13 k23 k33 k37
        refine WK.ret [_] rfl ⟨rfl, trivial⟩ ?_
        exact ⟨ret1 (vb (Sx.al_hit (show i < a.length from by omega) (by have q := h36; rw [Bool.not_eq_true'] at q; exact q)).symm), xW⟩
      ·
        refine WC.skip ?_
        refine WK.in_normal ?_
        refine WK.then_normal (k12 _ _ ?_)
        refine WC.sub [(1, _), (2, _), (15, _), (16, _), (17, _)] ⟨rfl, rfl, rfl, rfl, rfl, trivial⟩ ?_
        refine WC.region rfl ?_
        refine WL.yld rfl (blt rfl) rfl (Y.add rfl rfl rfl (wrap_i64 (by first | omega | (dsimp only; omega)))) ?_
        refine WL.yld rfl (blt rfl) rfl (Y.move rfl rfl) ?_
        refine WL.nil ?_
        refine WK.roundS _ [(17, .int .i64 (((i + 1) : Nat) : Int))] ⟨rfl, rfl, rfl, rfl, rfl, trivial⟩ ?_ ⟨(i + 1), rfl, rfl, xW, (by omega), (fun j hj => by rcases Nat.lt_succ_iff_lt_or_eq.1 hj with h | h; exact inv_i j h; rw [h]; exact (by have q := h36; rw [Bool.not_eq_false'] at q; exact q))⟩
        show _ - (i + 1) < _ - i; omega
    ·
      have p11 := (dec_f h11)
      refine WC.exit ?_
      refine WK.then_exit ?_
      refine WK.then_exit ?_
      refine WK.in_exit ?_
      refine WK.then_normal (k6 _ _ ?_)
      refine WC.sub [] trivial ?_
      refine WC.seq (fun K38 k38 => ?_)
      refine WC.region rfl ?_
      refine WL.yld rfl (blt rfl) rfl (Y.assign rfl rfl) ?_
      refine WL.nil ?_
      refine WK.then_normal (k38 _ _ ?_)
      refine WC.ret ?_
      clear k1 k2 k3 k6 k7 k9 k10 k38
      refine WK.ret [_] rfl ⟨rfl, trivial⟩ ?_
      exact ⟨ret1 (vb (Sx.al_ok (by omega) fun j hj => inv_i j (by omega)).symm), xW⟩
theorem sameE_any : ∀ (d_x : Nat) (d_y : Nat) (x y : Sx.E) (w : World), Sx.Good d_x w x → Sx.Good d_y w y → 
    Calls Try.prog 64 #[.agg #[.int .i64 x.op, .string x.nm, .int .i64 x.vk, .int .i64 x.vn, .string x.vs, .slice x.A x.n x.c], .agg #[.int .i64 y.op, .string y.nm, .int .i64 y.vk, .int .i64 y.vn, .string y.vs, .slice y.A y.n y.c]] w fun e w' => e = .returned (.bool (Sx.same x y)) ∧ Ext w w' := by
  intro d_x
  induction d_x using Nat.strongRecOn
  rename_i d_x ih
  intro d_y x y w g_x g_y
  have xW := Ext.refl w
  have h_x := g_x.ls
  have e_x := h_x.len
  have z_x := h_x.nle
  have h_y := g_y.ls
  have e_y := h_y.len
  have z_y := h_y.nle
  refine calls_of_WC (args := [.agg #[.int .i64 x.op, .string x.nm, .int .i64 x.vk, .int .i64 x.vn, .string x.vs, .slice x.A x.n x.c], .agg #[.int .i64 y.op, .string y.nm, .int .i64 y.vk, .int .i64 y.vn, .string y.vs, .slice y.A y.n y.c]]) Try.func64 rfl rfl (ble rfl) ?_
  refine WC.seq (fun K1 k1 => ?_)
  refine WC.region rfl ?_
  refine WL.box rfl (blt rfl) rfl rfl rfl rfl ?_
  intro g2 w3 e4 x5 m6
  have o_g2 := own_new xW e4
  have xW := Ext.trans xW x5
  refine WL.box rfl (blt rfl) rfl rfl rfl rfl ?_
  intro g7 w8 e9 x10 m11
  have n_g2_g7 := ne_new m6 e9
  have o_g7 := own_new xW e9
  have m6 := m6.ext x10
  have xW := Ext.trans xW x10
  refine WL.yld rfl (blt rfl) rfl (Y.assign rfl rfl) ?_
  refine WL.nil ?_
  refine WK.then_normal (k1 _ _ ?_)
  refine WC.sub [(2, _), (3, _)] ⟨rfl, rfl, trivial⟩ ?_
  refine WC.seq (fun K12 k12 => ?_)
  refine WC.region rfl ?_
  refine WL.yld rfl (blt rfl) rfl (Y.fieldAddr rfl Try.underlying28 rfl ti22 (by decide) rfl) ?_
  refine WL.yld rfl (blt rfl) rfl (Y.load1 rfl Try.underlying22 rfl rfl (Blk.at_eq m6 rfl)) ?_
  refine WL.yld rfl (blt rfl) rfl (Y.fieldAddr rfl Try.underlying28 rfl ti22 (by decide) rfl) ?_
  refine WL.yld rfl (blt rfl) rfl (Y.load1 rfl Try.underlying22 rfl rfl (Blk.at_eq m11 rfl)) ?_
  refine WL.yld rfl (blt rfl) rfl (Y.eql rfl rfl rfl) ?_
  refine WL.yld rfl (blt rfl) rfl (Y.move rfl rfl) ?_
  refine WL.yldG rfl (blt rfl) rfl rfl rfl (fun hb => Y.fieldAddr rfl Try.underlying28 rfl ti9 (by decide) rfl) ?_
  refine WL.yldG rfl (blt rfl) rfl rfl rfl (fun hb => Y.load1 rfl Try.underlying9 rfl (evg rfl hb) (Blk.at_eq m6 rfl)) ?_
  refine WL.yldG rfl (blt rfl) rfl rfl rfl (fun hb => Y.fieldAddr rfl Try.underlying28 rfl ti9 (by decide) rfl) ?_
  refine WL.yldG rfl (blt rfl) rfl rfl rfl (fun hb => Y.load1 rfl Try.underlying9 rfl (evg rfl hb) (Blk.at_eq m11 rfl)) ?_
  refine WL.yldG rfl (blt rfl) rfl rfl rfl (fun hb => Y.eqlStr rfl (evg rfl hb) (evg rfl hb)) ?_
  refine WL.yld rfl (blt rfl) rfl (Y.and rfl rfl rfl rfl) ?_
  refine WL.yld rfl (blt rfl) rfl (Y.move rfl rfl) ?_
  refine WL.yldG rfl (blt rfl) rfl rfl rfl (fun hb => Y.fieldAddr rfl Try.underlying28 rfl ti25 (by decide) rfl) ?_
  refine WL.yldG rfl (blt rfl) rfl rfl rfl (fun hb => Y.loadS (cs := [_, _, _]) rfl Try.underlying25 rfl ti25 (evg rfl hb) (Blk.part_eq m6 rfl)) ?_
  refine WL.yldG rfl (blt rfl) rfl rfl rfl (fun hb => Y.fieldAddr rfl Try.underlying28 rfl ti25 (by decide) rfl) ?_
  refine WL.yldG rfl (blt rfl) rfl rfl rfl (fun hb => Y.loadS (cs := [_, _, _]) rfl Try.underlying25 rfl ti25 (evg rfl hb) (Blk.part_eq m11 rfl)) ?_
  refine WL.yldG rfl (blt rfl) rfl rfl rfl (fun hb => Y.eqlS rfl eqg25 (eq25 _ _ _ _ _ _) (evg rfl hb) (evg rfl hb)) ?_
  refine WL.yld rfl (blt rfl) rfl (Y.and rfl rfl rfl rfl) ?_
  refine WL.yld rfl (blt rfl) rfl (Y.move rfl rfl) ?_
  refine WL.yldG rfl (blt rfl) rfl rfl rfl (fun hb => Y.fieldAddr rfl Try.underlying28 rfl ti26 (by decide) rfl) ?_
  refine WL.yldG rfl (blt rfl) rfl rfl rfl (fun hb => Y.load1 rfl Try.underlying26 rfl (evg rfl hb) (Blk.at_eq m6 rfl)) ?_
  refine WL.yldG rfl (blt rfl) rfl rfl rfl (fun hb => Y.fieldAddr rfl Try.underlying28 rfl ti26 (by decide) rfl) ?_
  refine WL.yldG rfl (blt rfl) rfl rfl rfl (fun hb => Y.load1 rfl Try.underlying26 rfl (evg rfl hb) (Blk.at_eq m11 rfl)) ?_
  refine WL.callG rfl (blt rfl) rfl rfl rfl rfl rfl has88 (fun hb => (evs_cons (evg rfl hb) (evs_cons (evg rfl hb) (evs_cons rfl evs_nil)))) (fun hb => eqfE_any _ _ _ _ _ _ _ _ _ (h_x.ext xW) (h_y.ext xW) (fun i hi hj w' hw => ih (d_x - 1) (by have := g_x.pos; omega) (d_y - 1) _ _ _ ((g_x.kid (bang_mem hi)).ext (Ext.trans xW hw)) ((g_y.kid (bang_mem hj)).ext (Ext.trans xW hw)))) (fun w13 x14 => ?_)
  have m6 := m6.ext x14
  have m11 := m11.ext x14
  have xW := Ext.trans xW x14
  refine WL.yld rfl (blt rfl) rfl (Y.and rfl rfl rfl rfl) ?_
  refine WL.yld rfl (blt rfl) rfl (Y.assign rfl rfl) ?_
  refine WL.nil ?_
  refine WK.then_normal (k12 _ _ ?_)
  refine WC.sub [(4, _)] ⟨rfl, trivial⟩ ?_
  refine WC.ret ?_
  clear k1 k12
  refine WK.ret [_] rfl ⟨rfl, trivial⟩ ?_
  refine ⟨ret1 (vb ?_), xW⟩
  rw [Sx.same_eq, Sx.sameL_al]
theorem sameI_any (d_x : Nat) (x : Sx.It) (d_y : Nat) (y : Sx.It) (w : World) (g_x : Sx.Good d_x w x.e) (g_y : Sx.Good d_y w y.e) :
    Calls Try.prog 63 #[.agg #[.int .i64 x.e.op, .string x.e.nm, .int .i64 x.e.vk, .int .i64 x.e.vn, .string x.e.vs, .slice x.e.A x.e.n x.e.c, .string x.as_], .agg #[.int .i64 y.e.op, .string y.e.nm, .int .i64 y.e.vk, .int .i64 y.e.vn, .string y.e.vs, .slice y.e.A y.e.n y.e.c, .string y.as_]] w fun e w' => e = .returned (.bool (Sx.itS x y)) ∧ Ext w w' := by
  have xW := Ext.refl w
  refine calls_of_WC (args := [.agg #[.int .i64 x.e.op, .string x.e.nm, .int .i64 x.e.vk, .int .i64 x.e.vn, .string x.e.vs, .slice x.e.A x.e.n x.e.c, .string x.as_], .agg #[.int .i64 y.e.op, .string y.e.nm, .int .i64 y.e.vk, .int .i64 y.e.vn, .string y.e.vs, .slice y.e.A y.e.n y.e.c, .string y.as_]]) Try.func63 rfl rfl (ble rfl) ?_
  refine WC.seq (fun K1 k1 => ?_)
  refine WC.region rfl ?_
  refine WL.box rfl (blt rfl) rfl rfl rfl rfl ?_
  intro g2 w3 e4 x5 m6
  have o_g2 := own_new xW e4
  have xW := Ext.trans xW x5
  refine WL.box rfl (blt rfl) rfl rfl rfl rfl ?_
  intro g7 w8 e9 x10 m11
  have n_g2_g7 := ne_new m6 e9
  have o_g7 := own_new xW e9
  have m6 := m6.ext x10
  have xW := Ext.trans xW x10
  refine WL.yld rfl (blt rfl) rfl (Y.assign rfl rfl) ?_
  refine WL.nil ?_
  refine WK.then_normal (k1 _ _ ?_)
  refine WC.sub [(2, _), (3, _)] ⟨rfl, rfl, trivial⟩ ?_
  refine WC.seq (fun K12 k12 => ?_)
  refine WC.region rfl ?_
  refine WL.yld rfl (blt rfl) rfl (Y.fieldAddr rfl Try.underlying65 rfl ti9 (by decide) rfl) ?_
  refine WL.yld rfl (blt rfl) rfl (Y.load1 rfl Try.underlying9 rfl rfl (Blk.at_eq m6 rfl)) ?_
  refine WL.yld rfl (blt rfl) rfl (Y.fieldAddr rfl Try.underlying65 rfl ti9 (by decide) rfl) ?_
  refine WL.yld rfl (blt rfl) rfl (Y.load1 rfl Try.underlying9 rfl rfl (Blk.at_eq m11 rfl)) ?_
  refine WL.yld rfl (blt rfl) rfl (Y.eqlStr rfl rfl rfl) ?_
  refine WL.yld rfl (blt rfl) rfl (Y.move rfl rfl) ?_
  refine WL.yldG rfl (blt rfl) rfl rfl rfl (fun hb => Y.fieldAddr rfl Try.underlying65 rfl ti28 (by decide) rfl) ?_
  refine WL.yldG rfl (blt rfl) rfl rfl rfl (fun hb => Y.loadS (cs := [_, _, _, _, _, _]) rfl Try.underlying28 rfl ti28 (evg rfl hb) (Blk.part_eq m6 rfl)) ?_
  refine WL.yldG rfl (blt rfl) rfl rfl rfl (fun hb => Y.fieldAddr rfl Try.underlying65 rfl ti28 (by decide) rfl) ?_
  refine WL.yldG rfl (blt rfl) rfl rfl rfl (fun hb => Y.loadS (cs := [_, _, _, _, _, _]) rfl Try.underlying28 rfl ti28 (evg rfl hb) (Blk.part_eq m11 rfl)) ?_
  refine WL.callG rfl (blt rfl) rfl rfl rfl rfl rfl has64 (fun hb => (evs_cons (evg rfl hb) (evs_cons (evg rfl hb) evs_nil))) (fun hb => sameE_any _ _ _ _ _ (g_x.ext xW) (g_y.ext xW)) (fun w13 x14 => ?_)
  have m6 := m6.ext x14
  have m11 := m11.ext x14
  have xW := Ext.trans xW x14
  refine WL.yld rfl (blt rfl) rfl (Y.and rfl rfl rfl rfl) ?_
  refine WL.yld rfl (blt rfl) rfl (Y.assign rfl rfl) ?_
  refine WL.nil ?_
  refine WK.then_normal (k12 _ _ ?_)
  refine WC.sub [(4, _)] ⟨rfl, trivial⟩ ?_
  refine WC.ret ?_
  clear k1 k12
  refine WK.ret [_] rfl ⟨rfl, trivial⟩ ?_
  exact ⟨rfl, xW⟩
theorem eqfI_any (A_a : Option Addr) (n_a c_a : Nat) (a : List Sx.It) (A_b : Option Addr) (n_b c_b : Nat) (b : List Sx.It) (w : World) (h_a : Ls w A_a n_a c_a Sx.It.v 7 a) (h_b : Ls w A_b n_b c_b Sx.It.v 7 b) (hf : ∀ i, i < a.length → i < b.length → ∀ w' : World, Ext w w' → Calls Try.prog 63 #[.agg #[.int .i64 a[i]!.e.op, .string a[i]!.e.nm, .int .i64 a[i]!.e.vk, .int .i64 a[i]!.e.vn, .string a[i]!.e.vs, .slice a[i]!.e.A a[i]!.e.n a[i]!.e.c, .string a[i]!.as_], .agg #[.int .i64 b[i]!.e.op, .string b[i]!.e.nm, .int .i64 b[i]!.e.vk, .int .i64 b[i]!.e.vn, .string b[i]!.e.vs, .slice b[i]!.e.A b[i]!.e.n b[i]!.e.c, .string b[i]!.as_]] w' fun e w2 => e = .returned (.bool (Sx.itS a[i]! b[i]!)) ∧ Ext w' w2) :
    Calls Try.prog 65 #[.slice A_a n_a c_a, .slice A_b n_b c_b, .func (.func 63) #[] #[]] w fun e w' => e = .returned (.bool (Sx.alB Sx.itS a b)) ∧ Ext w w' := by
  have xW := Ext.refl w
  have e_a := h_a.len
  have z_a := h_a.nle
  have e_b := h_b.len
  have z_b := h_b.nle
  refine calls_of_WC (args := [.slice A_a n_a c_a, .slice A_b n_b c_b, .func (.func 63) #[] #[]]) Try.func65 rfl rfl (ble rfl) ?_
  refine WC.seq (fun K1 k1 => ?_)
  refine WC.region rfl ?_
  refine WL.yld rfl (blt rfl) rfl (Y.assign rfl rfl) ?_
  refine WL.nil ?_
  refine WK.then_normal (k1 _ _ ?_)
  refine WC.sub [(0, _), (1, _), (2, _)] ⟨rfl, rfl, rfl, trivial⟩ ?_
  refine WC.seq (fun K2 k2 => ?_)
  refine WC.seq (fun K3 k3 => ?_)
  refine WC.region rfl ?_
  refine WL.yld rfl (blt rfl) rfl (Y.move rfl rfl) ?_
  refine WL.yld rfl (blt rfl) rfl (Y.lenSl rfl rfl rfl Try.underlying37 rfl) ?_
  refine WL.yld rfl (blt rfl) rfl (Y.move rfl rfl) ?_
  refine WL.yld rfl (blt rfl) rfl (Y.lenSl rfl rfl rfl Try.underlying37 rfl) ?_
  refine WL.yld rfl (blt rfl) rfl (Y.neq rfl rfl rfl) ?_
  refine WL.nil ?_
  refine WK.then_normal (k3 _ _ ?_)
  refine WC.sub [(0, _), (1, _), (2, _), (14, _)] ⟨rfl, rfl, rfl, rfl, trivial⟩ ?_
  refine WC.cond rfl (fun h4 => ?_) (fun h4 => ?_)
  ·
    have p4 := (eq_f (not_t h4))
    refine WC.seq (fun K5 k5 => ?_)
    refine WC.region rfl ?_
    refine WL.yld rfl (blt rfl) rfl (Y.assign rfl rfl) ?_
    refine WL.nil ?_
    refine WK.then_normal (k5 _ _ ?_)
    refine WC.sub [(6, _)] ⟨rfl, trivial⟩ ?_
    refine WC.ret ?_
    refine WK.then_ret ?_
    clear k1 k2 k3 k5
    refine WK.ret [_] rfl ⟨rfl, trivial⟩ ?_
    exact ⟨ret1 (vb (Sx.al_len (by have q := h4; simp only [Bool.and_eq_true, Bool.or_eq_true, Bool.not_eq_true', Bool.and_eq_false_iff, Bool.or_eq_false_iff, Bool.not_eq_false', decide_eq_true_eq, decide_eq_false_iff_not, beq_iff_eq, beq_eq_false_iff_ne, ne_eq] at q; omega)).symm), xW⟩
  ·
    have p4 := (eq_t (not_f h4))
    have lab : n_a = n_b := by have q := h4; simp only [Bool.and_eq_true, Bool.or_eq_true, Bool.not_eq_true', Bool.and_eq_false_iff, Bool.or_eq_false_iff, Bool.not_eq_false', decide_eq_true_eq, decide_eq_false_iff_not, beq_iff_eq, beq_eq_false_iff_ne, ne_eq] at q; omega
    refine WC.skip ?_
    refine WK.then_normal (k2 _ _ ?_)
    refine WC.sub [(0, _), (1, _), (2, _)] ⟨rfl, rfl, rfl, trivial⟩ ?_
    refine WC.seq (fun K6 k6 => ?_)
    refine WC.seq (fun K7 k7 => ?_)
    refine WC.region rfl ?_
    refine WL.yld rfl (blt rfl) rfl (Y.move rfl rfl) ?_
    refine WL.yld rfl (blt rfl) rfl (Y.lenSl rfl rfl rfl Try.underlying37 rfl) ?_
    refine WL.yld rfl (blt rfl) rfl (Y.move rfl rfl) ?_
    refine WL.nil ?_
    refine WK.then_normal (k7 _ _ ?_)
    refine WC.sub [(1, _), (2, _), (15, _), (16, _), (17, _)] ⟨rfl, rfl, rfl, rfl, rfl, trivial⟩ ?_
    refine WC.block ?_
    refine WC.sub [(17, _), (1, _), (2, _), (15, _), (16, _)] ⟨rfl, rfl, rfl, rfl, rfl, trivial⟩ ?_
    refine WC.loopS 1 (fun mz Ed W' => ∃ i : Nat, mz = n_a - i ∧ Ed = [(17, .int .i64 ((i : Nat) : Int))] ∧ Ext w W' ∧ (i ≤ n_a) ∧ (∀ j, j < i → Sx.itS a[j]! b[j]! = true)) _ ⟨0, rfl, rfl, xW, (Nat.zero_le _), (fun j hj => absurd hj (Nat.not_lt_zero j))⟩ ?_
    rintro _ _ w8 ⟨i, rfl, rfl, xW, le_i, inv_i⟩
    refine WC.sub [(17, _), (1, _), (2, _), (15, _), (16, _)] ⟨rfl, rfl, rfl, rfl, rfl, trivial⟩ ?_
    refine WC.seq (fun K9 k9 => ?_)
    refine WC.region rfl ?_
    refine WL.yld rfl (blt rfl) rfl (Y.lss rfl rfl rfl) ?_
    refine WL.nil ?_
    refine WK.then_normal (k9 _ _ ?_)
    refine WC.seq (fun K10 k10 => ?_)
    refine WC.cond rfl (fun h11 => ?_) (fun h11 => ?_)
    ·
      have p11 := (dec_t h11)
      refine WC.skip ?_
      refine WK.then_normal (k10 _ _ ?_)
      refine WC.sub [(1, _), (2, _), (15, _), (16, _), (17, _)] ⟨rfl, rfl, rfl, rfl, rfl, trivial⟩ ?_
      refine WC.seq (fun K12 k12 => ?_)
      refine WC.block ?_
      refine WC.seq (fun K13 k13 => ?_)
      refine WC.region rfl ?_
      refine WL.yld rfl (blt rfl) rfl (Y.move rfl rfl) ?_
      have b14 : i < n_a := by omega
      refine WL.yld rfl (blt rfl) rfl (Y.indexLs i (h_a.ext xW) rfl Try.underlying37 ti65 rfl rfl rfl b14) ?_
      refine WL.yld rfl (blt rfl) rfl (Y.loadS (cs := [_, _, _, _, _, _, _]) rfl Try.underlying65 rfl ti65 rfl (Ls.part_eq (h_a.ext xW) b14 rfl)) ?_
      refine WL.alloc rfl (blt rfl) rfl rfl ti65 rfl ?_
      intro g15 w16 e17 x18 m19
      have o_g15 := own_new xW e17
      have xW := Ext.trans xW x18
      refine WL.yld rfl (blt rfl) rfl (Y.assign rfl rfl) ?_
      refine WL.store (cs' := [_, _, _, _, _, _, _]) rfl rfl rfl rfl rfl rfl ti65 m19 (ble rfl) rfl rfl (fun w20 on21 m22 => ?_)
      have xW := Ext.only xW on21 o_g15
      refine WL.nil ?_
      refine WK.then_normal (k13 _ _ ?_)
      refine WC.sub [(1, _), (2, _), (7, _), (8, _), (15, _), (16, _), (17, _)] ⟨rfl, rfl, rfl, rfl, rfl, rfl, rfl, trivial⟩ ?_
      refine WC.seq (fun K23 k23 => ?_)
      refine WC.region rfl ?_
      refine WL.yld rfl (blt rfl) rfl (Y.move rfl rfl) ?_
      refine WL.yld rfl (blt rfl) rfl (Y.move rfl rfl) ?_
      have b24 : i < n_b := by omega
      refine WL.yld rfl (blt rfl) rfl (Y.indexLs i (h_b.ext xW) rfl Try.underlying37 ti65 rfl rfl rfl b24) ?_
      refine WL.yld rfl (blt rfl) rfl (Y.loadS (cs := [_, _, _, _, _, _, _]) rfl Try.underlying65 rfl ti65 rfl (Ls.part_eq (h_b.ext xW) b24 rfl)) ?_
      refine WL.alloc rfl (blt rfl) rfl rfl ti65 rfl ?_
      intro g25 w26 e27 x28 m29
      have n_g15_g25 := ne_new m22 e27
      have o_g25 := own_new xW e27
      have m22 := m22.ext x28
      have xW := Ext.trans xW x28
      refine WL.store (cs' := [_, _, _, _, _, _, _]) rfl rfl rfl rfl rfl rfl ti65 m29 (ble rfl) rfl rfl (fun w30 on31 m32 => ?_)
      have m22 := m22.only n_g15_g25 on31
      have xW := Ext.only xW on31 o_g25
      refine WL.nil ?_
      refine WK.then_normal (k23 _ _ ?_)
      refine WC.sub [(1, _), (2, _), (8, _), (9, _), (15, _), (16, _), (17, _)] ⟨rfl, rfl, rfl, rfl, rfl, rfl, rfl, trivial⟩ ?_
      refine WC.seq (fun K33 k33 => ?_)
      refine WC.region rfl ?_
      refine WL.yld rfl (blt rfl) rfl (Y.move rfl rfl) ?_
      refine WL.yld rfl (blt rfl) rfl (Y.loadS rfl Try.underlying65 rfl ti65 rfl (Blk.row_eq m22)) ?_
      refine WL.yld rfl (blt rfl) rfl (Y.loadS rfl Try.underlying65 rfl ti65 rfl (Blk.row_eq m32)) ?_
      refine WL.callF rfl (blt rfl) rfl rfl rfl rfl has63 rfl (hf i (by omega) (by omega) _ xW) ?_
      rintro _ w34 ⟨rfl, x35⟩
      refine ⟨_, rfl, ?_⟩
      have m22 := m22.ext x35
      have m32 := m32.ext x35
      have xW := Ext.trans xW x35
      refine WL.yld rfl (blt rfl) rfl (Y.not rfl rfl) ?_
      refine WL.nil ?_
      refine WK.then_normal (k33 _ _ ?_)
      refine WC.sub [(1, _), (2, _), (15, _), (16, _), (17, _), (30, _)] ⟨rfl, rfl, rfl, rfl, rfl, rfl, trivial⟩ ?_
      refine WC.cond rfl (fun h36 => ?_) (fun h36 => ?_)
      ·
        refine WC.seq (fun K37 k37 => ?_)
        refine WC.region rfl ?_
        refine WL.yld rfl (blt rfl) rfl (Y.assign rfl rfl) ?_
        refine WL.nil ?_
        refine WK.then_normal (k37 _ _ ?_)
        refine WC.sub [(6, _)] ⟨rfl, trivial⟩ ?_
        refine WC.ret ?_
        refine WK.in_ret ?_
        refine WK.then_ret ?_
        refine WK.then_ret ?_
        refine WK.in_ret ?_
        refine WK.then_ret ?_
        clear k1 k2 k3 k6 k7 k9 k10 k12 k13 k23 k33 k37
        refine WK.ret [_] rfl ⟨rfl, trivial⟩ ?_
        exact ⟨ret1 (vb (Sx.al_hit (show i < a.length from by omega) (by have q := h36; rw [Bool.not_eq_true'] at q; exact q)).symm), xW⟩
      ·
        refine WC.skip ?_
        refine WK.in_normal ?_
        refine WK.then_normal (k12 _ _ ?_)
        refine WC.sub [(1, _), (2, _), (15, _), (16, _), (17, _)] ⟨rfl, rfl, rfl, rfl, rfl, trivial⟩ ?_
        refine WC.region rfl ?_
        refine WL.yld rfl (blt rfl) rfl (Y.add rfl rfl rfl (wrap_i64 (by first | omega | (dsimp only; omega)))) ?_
        refine WL.yld rfl (blt rfl) rfl (Y.move rfl rfl) ?_
        refine WL.nil ?_
        refine WK.roundS _ [(17, .int .i64 (((i + 1) : Nat) : Int))] ⟨rfl, rfl, rfl, rfl, rfl, trivial⟩ ?_ ⟨(i + 1), rfl, rfl, xW, (by omega), (fun j hj => by rcases Nat.lt_succ_iff_lt_or_eq.1 hj with h | h; exact inv_i j h; rw [h]; exact (by have q := h36; rw [Bool.not_eq_false'] at q; exact q))⟩
        show _ - (i + 1) < _ - i; omega
    ·
      have p11 := (dec_f h11)
      refine WC.exit ?_
      refine WK.then_exit ?_
      refine WK.then_exit ?_
      refine WK.in_exit ?_
      refine WK.then_normal (k6 _ _ ?_)
      refine WC.sub [] trivial ?_
      refine WC.seq (fun K38 k38 => ?_)
      refine WC.region rfl ?_
      refine WL.yld rfl (blt rfl) rfl (Y.assign rfl rfl) ?_
      refine WL.nil ?_
      refine WK.then_normal (k38 _ _ ?_)
      refine WC.ret ?_
      clear k1 k2 k3 k6 k7 k9 k10 k38
      refine WK.ret [_] rfl ⟨rfl, trivial⟩ ?_
      exact ⟨ret1 (vb (Sx.al_ok (by omega) fun j hj => inv_i j (by omega)).symm), xW⟩
theorem sameS_any (d_x : Nat) (x : Sx.St) (d_y : Nat) (y : Sx.St) (w : World) (g_x : Sx.GoodS d_x w x) (g_y : Sx.GoodS d_y w y) :
    Calls Try.prog 49 #[.agg #[.int .i64 x.op, .int .i64 x.cd.op, .string x.cd.nm, .int .i64 x.cd.vk, .int .i64 x.cd.vn, .string x.cd.vs, .slice x.cd.A x.cd.n x.cd.c, .slice x.iA x.iN x.iC, .slice x.cA x.cN x.cC, .slice x.aA x.aN x.aC, .slice x.sA x.sN x.sC, .int .i64 x.N, .string x.tb], .agg #[.int .i64 y.op, .int .i64 y.cd.op, .string y.cd.nm, .int .i64 y.cd.vk, .int .i64 y.cd.vn, .string y.cd.vs, .slice y.cd.A y.cd.n y.cd.c, .slice y.iA y.iN y.iC, .slice y.cA y.cN y.cC, .slice y.aA y.aN y.aC, .slice y.sA y.sN y.sC, .int .i64 y.N, .string y.tb]] w fun e w' => e = .returned (.bool (Sx.stS x y)) ∧ Ext w w' := by
  have xW := Ext.refl w
  have e_ilx := g_x.il.len
  have e_clx := g_x.cl.len
  have e_alx := g_x.al.len
  have e_slx := g_x.sl.len
  have e_ily := g_y.il.len
  have e_cly := g_y.cl.len
  have e_aly := g_y.al.len
  have e_sly := g_y.sl.len
  refine calls_of_WC (args := [.agg #[.int .i64 x.op, .int .i64 x.cd.op, .string x.cd.nm, .int .i64 x.cd.vk, .int .i64 x.cd.vn, .string x.cd.vs, .slice x.cd.A x.cd.n x.cd.c, .slice x.iA x.iN x.iC, .slice x.cA x.cN x.cC, .slice x.aA x.aN x.aC, .slice x.sA x.sN x.sC, .int .i64 x.N, .string x.tb], .agg #[.int .i64 y.op, .int .i64 y.cd.op, .string y.cd.nm, .int .i64 y.cd.vk, .int .i64 y.cd.vn, .string y.cd.vs, .slice y.cd.A y.cd.n y.cd.c, .slice y.iA y.iN y.iC, .slice y.cA y.cN y.cC, .slice y.aA y.aN y.aC, .slice y.sA y.sN y.sC, .int .i64 y.N, .string y.tb]]) Try.func49 rfl rfl (ble rfl) ?_
  refine WC.seq (fun K1 k1 => ?_)
  refine WC.region rfl ?_
  refine WL.box rfl (blt rfl) rfl rfl rfl rfl ?_
  intro g2 w3 e4 x5 m6
  have o_g2 := own_new xW e4
  have xW := Ext.trans xW x5
  refine WL.box rfl (blt rfl) rfl rfl rfl rfl ?_
  intro g7 w8 e9 x10 m11
  have n_g2_g7 := ne_new m6 e9
  have o_g7 := own_new xW e9
  have m6 := m6.ext x10
  have xW := Ext.trans xW x10
  refine WL.yld rfl (blt rfl) rfl (Y.assign rfl rfl) ?_
  refine WL.nil ?_
  refine WK.then_normal (k1 _ _ ?_)
  refine WC.sub [(2, _), (3, _)] ⟨rfl, rfl, trivial⟩ ?_
  refine WC.seq (fun K12 k12 => ?_)
  refine WC.region rfl ?_
  refine WL.yld rfl (blt rfl) rfl (Y.assign rfl rfl) ?_
  refine WL.nil ?_
  refine WK.then_normal (k12 _ _ ?_)
  refine WC.seq (fun K13 k13 => ?_)
  refine WC.region rfl ?_
  refine WL.yld rfl (blt rfl) rfl (Y.fieldAddr rfl Try.underlying41 rfl ti36 (by decide) rfl) ?_
  refine WL.yld rfl (blt rfl) rfl (Y.load1 rfl Try.underlying36 rfl rfl (Blk.at_eq m6 rfl)) ?_
  refine WL.yld rfl (blt rfl) rfl (Y.fieldAddr rfl Try.underlying41 rfl ti36 (by decide) rfl) ?_
  refine WL.yld rfl (blt rfl) rfl (Y.load1 rfl Try.underlying36 rfl rfl (Blk.at_eq m11 rfl)) ?_
  refine WL.yld rfl (blt rfl) rfl (Y.eql rfl rfl rfl) ?_
  refine WL.yld rfl (blt rfl) rfl (Y.move rfl rfl) ?_
  refine WL.yldG rfl (blt rfl) rfl rfl rfl (fun hb => Y.fieldAddr rfl Try.underlying41 rfl ti3 (by decide) rfl) ?_
  refine WL.yldG rfl (blt rfl) rfl rfl rfl (fun hb => Y.load1 rfl Try.underlying3 rfl (evg rfl hb) (Blk.at_eq m6 rfl)) ?_
  refine WL.yldG rfl (blt rfl) rfl rfl rfl (fun hb => Y.fieldAddr rfl Try.underlying41 rfl ti3 (by decide) rfl) ?_
  refine WL.yldG rfl (blt rfl) rfl rfl rfl (fun hb => Y.load1 rfl Try.underlying3 rfl (evg rfl hb) (Blk.at_eq m11 rfl)) ?_
  refine WL.yldG rfl (blt rfl) rfl rfl rfl (fun hb => Y.eql rfl (evg rfl hb) (evg rfl hb)) ?_
  refine WL.yld rfl (blt rfl) rfl (Y.and rfl rfl rfl rfl) ?_
  refine WL.yld rfl (blt rfl) rfl (Y.move rfl rfl) ?_
  refine WL.yldG rfl (blt rfl) rfl rfl rfl (fun hb => Y.fieldAddr rfl Try.underlying41 rfl ti9 (by decide) rfl) ?_
  refine WL.yldG rfl (blt rfl) rfl rfl rfl (fun hb => Y.load1 rfl Try.underlying9 rfl (evg rfl hb) (Blk.at_eq m6 rfl)) ?_
  refine WL.yldG rfl (blt rfl) rfl rfl rfl (fun hb => Y.fieldAddr rfl Try.underlying41 rfl ti9 (by decide) rfl) ?_
  refine WL.yldG rfl (blt rfl) rfl rfl rfl (fun hb => Y.load1 rfl Try.underlying9 rfl (evg rfl hb) (Blk.at_eq m11 rfl)) ?_
  refine WL.yldG rfl (blt rfl) rfl rfl rfl (fun hb => Y.eqlStr rfl (evg rfl hb) (evg rfl hb)) ?_
  refine WL.yld rfl (blt rfl) rfl (Y.and rfl rfl rfl rfl) ?_
  refine WL.yld rfl (blt rfl) rfl (Y.move rfl rfl) ?_
  refine WL.yldG rfl (blt rfl) rfl rfl rfl (fun hb => Y.fieldAddr rfl Try.underlying41 rfl ti28 (by decide) rfl) ?_
  refine WL.yldG rfl (blt rfl) rfl rfl rfl (fun hb => Y.loadS (cs := [_, _, _, _, _, _]) rfl Try.underlying28 rfl ti28 (evg rfl hb) (Blk.part_eq m6 rfl)) ?_
  refine WL.yldG rfl (blt rfl) rfl rfl rfl (fun hb => Y.fieldAddr rfl Try.underlying41 rfl ti28 (by decide) rfl) ?_
  refine WL.yldG rfl (blt rfl) rfl rfl rfl (fun hb => Y.loadS (cs := [_, _, _, _, _, _]) rfl Try.underlying28 rfl ti28 (evg rfl hb) (Blk.part_eq m11 rfl)) ?_
  refine WL.callG rfl (blt rfl) rfl rfl rfl rfl rfl has64 (fun hb => (evs_cons (evg rfl hb) (evs_cons (evg rfl hb) evs_nil))) (fun hb => sameE_any _ _ _ _ _ (g_x.cd.ext xW) (g_y.cd.ext xW)) (fun w14 x15 => ?_)
  have m6 := m6.ext x15
  have m11 := m11.ext x15
  have xW := Ext.trans xW x15
  refine WL.yld rfl (blt rfl) rfl (Y.and rfl rfl rfl rfl) ?_
  refine WL.yld rfl (blt rfl) rfl (Y.move rfl rfl) ?_
  refine WL.yldG rfl (blt rfl) rfl rfl rfl (fun hb => Y.fieldAddr rfl Try.underlying41 rfl ti37 (by decide) rfl) ?_
  refine WL.yldG rfl (blt rfl) rfl rfl rfl (fun hb => Y.load1 rfl Try.underlying37 rfl (evg rfl hb) (Blk.at_eq m6 rfl)) ?_
  refine WL.yldG rfl (blt rfl) rfl rfl rfl (fun hb => Y.fieldAddr rfl Try.underlying41 rfl ti37 (by decide) rfl) ?_
  refine WL.yldG rfl (blt rfl) rfl rfl rfl (fun hb => Y.load1 rfl Try.underlying37 rfl (evg rfl hb) (Blk.at_eq m11 rfl)) ?_
  refine WL.yldG rfl (blt rfl) rfl rfl rfl (fun hb => Y.move rfl rfl) ?_
  refine WL.callG rfl (blt rfl) rfl rfl rfl rfl rfl has65 (fun hb => (evs_cons (evg rfl hb) (evs_cons (evg rfl hb) (evs_cons (evg rfl hb) evs_nil)))) (fun hb => eqfI_any _ _ _ _ _ _ _ _ _ (g_x.il.ext xW) (g_y.il.ext xW) (fun i hi hj w' hw => sameI_any _ _ _ _ _ ((g_x.ie _ (bang_mem hi)).ext (Ext.trans xW hw)) ((g_y.ie _ (bang_mem hj)).ext (Ext.trans xW hw)))) (fun w16 x17 => ?_)
  have m6 := m6.ext x17
  have m11 := m11.ext x17
  have xW := Ext.trans xW x17
  refine WL.yld rfl (blt rfl) rfl (Y.and rfl rfl rfl rfl) ?_
  refine WL.yld rfl (blt rfl) rfl (Y.move rfl rfl) ?_
  refine WL.yldG rfl (blt rfl) rfl rfl rfl (fun hb => Y.fieldAddr rfl Try.underlying41 rfl ti34 (by decide) rfl) ?_
  refine WL.yldG rfl (blt rfl) rfl rfl rfl (fun hb => Y.load1 rfl Try.underlying34 rfl (evg rfl hb) (Blk.at_eq m6 rfl)) ?_
  refine WL.yldG rfl (blt rfl) rfl rfl rfl (fun hb => Y.fieldAddr rfl Try.underlying41 rfl ti34 (by decide) rfl) ?_
  refine WL.yldG rfl (blt rfl) rfl rfl rfl (fun hb => Y.load1 rfl Try.underlying34 rfl (evg rfl hb) (Blk.at_eq m11 rfl)) ?_
  refine WL.callG rfl (blt rfl) rfl rfl rfl rfl rfl has66 (fun hb => (evs_cons (evg rfl hb) (evs_cons (evg rfl hb) evs_nil))) (fun hb => eqS_any _ _ _ _ _ _ _ _ _ (g_x.cl.ext xW) (g_y.cl.ext xW)) (fun w18 x19 => ?_)
  have m6 := m6.ext x19
  have m11 := m11.ext x19
  have xW := Ext.trans xW x19
  refine WL.yld rfl (blt rfl) rfl (Y.and rfl rfl rfl rfl) ?_
  refine WL.yld rfl (blt rfl) rfl (Y.move rfl rfl) ?_
  refine WL.yldG rfl (blt rfl) rfl rfl rfl (fun hb => Y.fieldAddr rfl Try.underlying41 rfl ti38 (by decide) rfl) ?_
  refine WL.yldG rfl (blt rfl) rfl rfl rfl (fun hb => Y.load1 rfl Try.underlying38 rfl (evg rfl hb) (Blk.at_eq m6 rfl)) ?_
  refine WL.yldG rfl (blt rfl) rfl rfl rfl (fun hb => Y.fieldAddr rfl Try.underlying41 rfl ti38 (by decide) rfl) ?_
  refine WL.yldG rfl (blt rfl) rfl rfl rfl (fun hb => Y.load1 rfl Try.underlying38 rfl (evg rfl hb) (Blk.at_eq m11 rfl)) ?_
  refine WL.callG rfl (blt rfl) rfl rfl rfl rfl rfl has67 (fun hb => (evs_cons (evg rfl hb) (evs_cons (evg rfl hb) evs_nil))) (fun hb => eqA_any _ _ _ _ _ _ _ _ _ (g_x.al.ext xW) (g_y.al.ext xW)) (fun w20 x21 => ?_)
  have m6 := m6.ext x21
  have m11 := m11.ext x21
  have xW := Ext.trans xW x21
  refine WL.yld rfl (blt rfl) rfl (Y.and rfl rfl rfl rfl) ?_
  refine WL.yld rfl (blt rfl) rfl (Y.move rfl rfl) ?_
  refine WL.yldG rfl (blt rfl) rfl rfl rfl (fun hb => Y.fieldAddr rfl Try.underlying41 rfl ti39 (by decide) rfl) ?_
  refine WL.yldG rfl (blt rfl) rfl rfl rfl (fun hb => Y.load1 rfl Try.underlying39 rfl (evg rfl hb) (Blk.at_eq m6 rfl)) ?_
  refine WL.yldG rfl (blt rfl) rfl rfl rfl (fun hb => Y.fieldAddr rfl Try.underlying41 rfl ti39 (by decide) rfl) ?_
  refine WL.yldG rfl (blt rfl) rfl rfl rfl (fun hb => Y.load1 rfl Try.underlying39 rfl (evg rfl hb) (Blk.at_eq m11 rfl)) ?_
  refine WL.callG rfl (blt rfl) rfl rfl rfl rfl rfl has68 (fun hb => (evs_cons (evg rfl hb) (evs_cons (evg rfl hb) evs_nil))) (fun hb => eqO_any _ _ _ _ _ _ _ _ _ (g_x.sl.ext xW) (g_y.sl.ext xW)) (fun w22 x23 => ?_)
  have m6 := m6.ext x23
  have m11 := m11.ext x23
  have xW := Ext.trans xW x23
  refine WL.yld rfl (blt rfl) rfl (Y.and rfl rfl rfl rfl) ?_
  refine WL.yld rfl (blt rfl) rfl (Y.assign rfl rfl) ?_
  refine WL.nil ?_
  refine WK.then_normal (k13 _ _ ?_)
  refine WC.sub [(4, _)] ⟨rfl, trivial⟩ ?_
  refine WC.ret ?_
  clear k1 k12 k13
  refine WK.ret [_] rfl ⟨rfl, trivial⟩ ?_
  exact ⟨rfl, xW⟩
theorem eqfS_any (A_a : Option Addr) (n_a c_a : Nat) (a : List Sx.St) (A_b : Option Addr) (n_b c_b : Nat) (b : List Sx.St) (w : World) (h_a : Ls w A_a n_a c_a Sx.St.v 13 a) (h_b : Ls w A_b n_b c_b Sx.St.v 13 b) (hf : ∀ i, i < a.length → i < b.length → ∀ w' : World, Ext w w' → Calls Try.prog 49 #[.agg #[.int .i64 a[i]!.op, .int .i64 a[i]!.cd.op, .string a[i]!.cd.nm, .int .i64 a[i]!.cd.vk, .int .i64 a[i]!.cd.vn, .string a[i]!.cd.vs, .slice a[i]!.cd.A a[i]!.cd.n a[i]!.cd.c, .slice a[i]!.iA a[i]!.iN a[i]!.iC, .slice a[i]!.cA a[i]!.cN a[i]!.cC, .slice a[i]!.aA a[i]!.aN a[i]!.aC, .slice a[i]!.sA a[i]!.sN a[i]!.sC, .int .i64 a[i]!.N, .string a[i]!.tb], .agg #[.int .i64 b[i]!.op, .int .i64 b[i]!.cd.op, .string b[i]!.cd.nm, .int .i64 b[i]!.cd.vk, .int .i64 b[i]!.cd.vn, .string b[i]!.cd.vs, .slice b[i]!.cd.A b[i]!.cd.n b[i]!.cd.c, .slice b[i]!.iA b[i]!.iN b[i]!.iC, .slice b[i]!.cA b[i]!.cN b[i]!.cC, .slice b[i]!.aA b[i]!.aN b[i]!.aC, .slice b[i]!.sA b[i]!.sN b[i]!.sC, .int .i64 b[i]!.N, .string b[i]!.tb]] w' fun e w2 => e = .returned (.bool (Sx.stS a[i]! b[i]!)) ∧ Ext w' w2) :
    Calls Try.prog 48 #[.slice A_a n_a c_a, .slice A_b n_b c_b, .func (.func 49) #[] #[]] w fun e w' => e = .returned (.bool (Sx.alB Sx.stS a b)) ∧ Ext w w' := by
  have xW := Ext.refl w
  have e_a := h_a.len
  have z_a := h_a.nle
  have e_b := h_b.len
  have z_b := h_b.nle
  refine calls_of_WC (args := [.slice A_a n_a c_a, .slice A_b n_b c_b, .func (.func 49) #[] #[]]) Try.func48 rfl rfl (ble rfl) ?_
  refine WC.seq (fun K1 k1 => ?_)
  refine WC.region rfl ?_
  refine WL.yld rfl (blt rfl) rfl (Y.assign rfl rfl) ?_
  refine WL.nil ?_
  refine WK.then_normal (k1 _ _ ?_)
  refine WC.sub [(0, _), (1, _), (2, _)] ⟨rfl, rfl, rfl, trivial⟩ ?_
  refine WC.seq (fun K2 k2 => ?_)
  refine WC.seq (fun K3 k3 => ?_)
  refine WC.region rfl ?_
  refine WL.yld rfl (blt rfl) rfl (Y.move rfl rfl) ?_
  refine WL.yld rfl (blt rfl) rfl (Y.lenSl rfl rfl rfl Try.underlying44 rfl) ?_
  refine WL.yld rfl (blt rfl) rfl (Y.move rfl rfl) ?_
  refine WL.yld rfl (blt rfl) rfl (Y.lenSl rfl rfl rfl Try.underlying44 rfl) ?_
  refine WL.yld rfl (blt rfl) rfl (Y.neq rfl rfl rfl) ?_
  refine WL.nil ?_
  refine WK.then_normal (k3 _ _ ?_)
  refine WC.sub [(0, _), (1, _), (2, _), (14, _)] ⟨rfl, rfl, rfl, rfl, trivial⟩ ?_
  refine WC.cond rfl (fun h4 => ?_) (fun h4 => ?_)
  ·
    have p4 := (eq_f (not_t h4))
    refine WC.seq (fun K5 k5 => ?_)
    refine WC.region rfl ?_
    refine WL.yld rfl (blt rfl) rfl (Y.assign rfl rfl) ?_
    refine WL.nil ?_
    refine WK.then_normal (k5 _ _ ?_)
    refine WC.sub [(6, _)] ⟨rfl, trivial⟩ ?_
    refine WC.ret ?_
    refine WK.then_ret ?_
    clear k1 k2 k3 k5
    refine WK.ret [_] rfl ⟨rfl, trivial⟩ ?_
    exact ⟨ret1 (vb (Sx.al_len (by have q := h4; simp only [Bool.and_eq_true, Bool.or_eq_true, Bool.not_eq_true', Bool.and_eq_false_iff, Bool.or_eq_false_iff, Bool.not_eq_false', decide_eq_true_eq, decide_eq_false_iff_not, beq_iff_eq, beq_eq_false_iff_ne, ne_eq] at q; omega)).symm), xW⟩
  ·
    have p4 := (eq_t (not_f h4))
    have lab : n_a = n_b := by have q := h4; simp only [Bool.and_eq_true, Bool.or_eq_true, Bool.not_eq_true', Bool.and_eq_false_iff, Bool.or_eq_false_iff, Bool.not_eq_false', decide_eq_true_eq, decide_eq_false_iff_not, beq_iff_eq, beq_eq_false_iff_ne, ne_eq] at q; omega
    refine WC.skip ?_
    refine WK.then_normal (k2 _ _ ?_)
    refine WC.sub [(0, _), (1, _), (2, _)] ⟨rfl, rfl, rfl, trivial⟩ ?_
    refine WC.seq (fun K6 k6 => ?_)
    refine WC.seq (fun K7 k7 => ?_)
    refine WC.region rfl ?_
    refine WL.yld rfl (blt rfl) rfl (Y.move rfl rfl) ?_
    refine WL.yld rfl (blt rfl) rfl (Y.lenSl rfl rfl rfl Try.underlying44 rfl) ?_
    refine WL.yld rfl (blt rfl) rfl (Y.move rfl rfl) ?_
    refine WL.nil ?_
    refine WK.then_normal (k7 _ _ ?_)
    refine WC.sub [(1, _), (2, _), (15, _), (16, _), (17, _)] ⟨rfl, rfl, rfl, rfl, rfl, trivial⟩ ?_
    refine WC.block ?_
    refine WC.sub [(17, _), (1, _), (2, _), (15, _), (16, _)] ⟨rfl, rfl, rfl, rfl, rfl, trivial⟩ ?_
    refine WC.loopS 1 (fun mz Ed W' => ∃ i : Nat, mz = n_a - i ∧ Ed = [(17, .int .i64 ((i : Nat) : Int))] ∧ Ext w W' ∧ (i ≤ n_a) ∧ (∀ j, j < i → Sx.stS a[j]! b[j]! = true)) _ ⟨0, rfl, rfl, xW, (Nat.zero_le _), (fun j hj => absurd hj (Nat.not_lt_zero j))⟩ ?_
    rintro _ _ w8 ⟨i, rfl, rfl, xW, le_i, inv_i⟩
    refine WC.sub [(17, _), (1, _), (2, _), (15, _), (16, _)] ⟨rfl, rfl, rfl, rfl, rfl, trivial⟩ ?_
    refine WC.seq (fun K9 k9 => ?_)
    refine WC.region rfl ?_
    refine WL.yld rfl (blt rfl) rfl (Y.lss rfl rfl rfl) ?_
    refine WL.nil ?_
    refine WK.then_normal (k9 _ _ ?_)
    refine WC.seq (fun K10 k10 => ?_)
    refine WC.cond rfl (fun h11 => ?_) (fun h11 => ?_)
    ·
      have p11 := (dec_t h11)
      refine WC.skip ?_
      refine WK.then_normal (k10 _ _ ?_)
      refine WC.sub [(1, _), (2, _), (15, _), (16, _), (17, _)] ⟨rfl, rfl, rfl, rfl, rfl, trivial⟩ ?_
      refine WC.seq (fun K12 k12 => ?_)
      refine WC.block ?_
      refine WC.seq (fun K13 k13 => ?_)
      refine WC.region rfl ?_
      refine WL.yld rfl (blt rfl) rfl (Y.move rfl rfl) ?_
      have b14 : i < n_a := by omega
      refine WL.yld rfl (blt rfl) rfl (Y.indexLs i (h_a.ext xW) rfl Try.underlying44 ti41 rfl rfl rfl b14) ?_
      refine WL.yld rfl (blt rfl) rfl (Y.loadS (cs := [_, _, _, _, _, _, _, _, _, _, _, _, _]) rfl Try.underlying41 rfl ti41 rfl (Ls.part_eq (h_a.ext xW) b14 rfl)) ?_
      refine WL.alloc rfl (blt rfl) rfl rfl ti41 rfl ?_
      intro g15 w16 e17 x18 m19
      have o_g15 := own_new xW e17
      have xW := Ext.trans xW x18
      refine WL.yld rfl (blt rfl) rfl (Y.assign rfl rfl) ?_
      refine WL.store (cs' := [_, _, _, _, _, _, _, _, _, _, _, _, _]) rfl rfl rfl rfl rfl rfl ti41 m19 (ble rfl) rfl rfl (fun w20 on21 m22 => ?_)
      have xW := Ext.only xW on21 o_g15
      refine WL.nil ?_
      refine WK.then_normal (k13 _ _ ?_)
      refine WC.sub [(1, _), (2, _), (7, _), (8, _), (15, _), (16, _), (17, _)] ⟨rfl, rfl, rfl, rfl, rfl, rfl, rfl, trivial⟩ ?_
      refine WC.seq (fun K23 k23 => ?_)
      refine WC.region rfl ?_
      refine WL.yld rfl (blt rfl) rfl (Y.move rfl rfl) ?_
      refine WL.yld rfl (blt rfl) rfl (Y.move rfl rfl) ?_
      have b24 : i < n_b := by omega
      refine WL.yld rfl (blt rfl) rfl (Y.indexLs i (h_b.ext xW) rfl Try.underlying44 ti41 rfl rfl rfl b24) ?_
      refine WL.yld rfl (blt rfl) rfl (Y.loadS (cs := [_, _, _, _, _, _, _, _, _, _, _, _, _]) rfl Try.underlying41 rfl ti41 rfl (Ls.part_eq (h_b.ext xW) b24 rfl)) ?_
      refine WL.alloc rfl (blt rfl) rfl rfl ti41 rfl ?_
      intro g25 w26 e27 x28 m29
      have n_g15_g25 := ne_new m22 e27
      have o_g25 := own_new xW e27
      have m22 := m22.ext x28
      have xW := Ext.trans xW x28
      refine WL.store (cs' := [_, _, _, _, _, _, _, _, _, _, _, _, _]) rfl rfl rfl rfl rfl rfl ti41 m29 (ble rfl) rfl rfl (fun w30 on31 m32 => ?_)
      have m22 := m22.only n_g15_g25 on31
      have xW := Ext.only xW on31 o_g25
      refine WL.nil ?_
      refine WK.then_normal (k23 _ _ ?_)
      refine WC.sub [(1, _), (2, _), (8, _), (9, _), (15, _), (16, _), (17, _)] ⟨rfl, rfl, rfl, rfl, rfl, rfl, rfl, trivial⟩ ?_
      refine WC.seq (fun K33 k33 => ?_)
      refine WC.region rfl ?_
      refine WL.yld rfl (blt rfl) rfl (Y.move rfl rfl) ?_
      refine WL.yld rfl (blt rfl) rfl (Y.loadS rfl Try.underlying41 rfl ti41 rfl (Blk.row_eq m22)) ?_
      refine WL.yld rfl (blt rfl) rfl (Y.loadS rfl Try.underlying41 rfl ti41 rfl (Blk.row_eq m32)) ?_
      refine WL.callF rfl (blt rfl) rfl rfl rfl rfl has49 rfl (hf i (by omega) (by omega) _ xW) ?_
      rintro _ w34 ⟨rfl, x35⟩
      refine ⟨_, rfl, ?_⟩
      have m22 := m22.ext x35
      have m32 := m32.ext x35
      have xW := Ext.trans xW x35
      refine WL.yld rfl (blt rfl) rfl (Y.not rfl rfl) ?_
      refine WL.nil ?_
      refine WK.then_normal (k33 _ _ ?_)
      refine WC.sub [(1, _), (2, _), (15, _), (16, _), (17, _), (30, _)] ⟨rfl, rfl, rfl, rfl, rfl, rfl, trivial⟩ ?_
      refine WC.cond rfl (fun h36 => ?_) (fun h36 => ?_)
      ·
        refine WC.seq (fun K37 k37 => ?_)
        refine WC.region rfl ?_
        refine WL.yld rfl (blt rfl) rfl (Y.assign rfl rfl) ?_
        refine WL.nil ?_
        refine WK.then_normal (k37 _ _ ?_)
        refine WC.sub [(6, _)] ⟨rfl, trivial⟩ ?_
        refine WC.ret ?_
        refine WK.in_ret ?_
        refine WK.then_ret ?_
        refine WK.then_ret ?_
        refine WK.in_ret ?_
        refine WK.then_ret ?_
        clear k1 k2 k3 k6 k7 k9 k10 k12 k13 k23 k33 k37
        refine WK.ret [_] rfl ⟨rfl, trivial⟩ ?_
        exact ⟨ret1 (vb (Sx.al_hit (show i < a.length from by omega) (by have q := h36; rw [Bool.not_eq_true'] at q; exact q)).symm), xW⟩
      ·
        refine WC.skip ?_
        refine WK.in_normal ?_
        refine WK.then_normal (k12 _ _ ?_)
        refine WC.sub [(1, _), (2, _), (15, _), (16, _), (17, _)] ⟨rfl, rfl, rfl, rfl, rfl, trivial⟩ ?_
        refine WC.region rfl ?_
        refine WL.yld rfl (blt rfl) rfl (Y.add rfl rfl rfl (wrap_i64 (by first | omega | (dsimp only; omega)))) ?_
        refine WL.yld rfl (blt rfl) rfl (Y.move rfl rfl) ?_
        refine WL.nil ?_
        refine WK.roundS _ [(17, .int .i64 (((i + 1) : Nat) : Int))] ⟨rfl, rfl, rfl, rfl, rfl, trivial⟩ ?_ ⟨(i + 1), rfl, rfl, xW, (by omega), (fun j hj => by rcases Nat.lt_succ_iff_lt_or_eq.1 hj with h | h; exact inv_i j h; rw [h]; exact (by have q := h36; rw [Bool.not_eq_false'] at q; exact q))⟩
        show _ - (i + 1) < _ - i; omega
    ·
      have p11 := (dec_f h11)
      refine WC.exit ?_
      refine WK.then_exit ?_
      refine WK.then_exit ?_
      refine WK.in_exit ?_
      refine WK.then_normal (k6 _ _ ?_)
      refine WC.sub [] trivial ?_
      refine WC.seq (fun K38 k38 => ?_)
      refine WC.region rfl ?_
      refine WL.yld rfl (blt rfl) rfl (Y.assign rfl rfl) ?_
      refine WL.nil ?_
      refine WK.then_normal (k38 _ _ ?_)
      refine WC.ret ?_
      clear k1 k2 k3 k6 k7 k9 k10 k38
      refine WK.ret [_] rfl ⟨rfl, trivial⟩ ?_
      exact ⟨ret1 (vb (Sx.al_ok (by omega) fun j hj => inv_i j (by omega)).symm), xW⟩
theorem same_any (d_x : Nat) (x : Sx.Q) (d_y : Nat) (y : Sx.Q) (w : World) (g_x : Sx.GoodQ d_x w x) (g_y : Sx.GoodQ d_y w y) :
    Calls Try.prog 23 #[.agg #[.string x.fr, .slice x.A x.n x.c], .agg #[.string y.fr, .slice y.A y.n y.c]] w fun e w' => e = .returned (.bool (Sx.qS x y)) ∧ Ext w w' := by
  have xW := Ext.refl w
  have e_x := g_x.l.len
  have z_x := g_x.l.nle
  have e_y := g_y.l.len
  have z_y := g_y.l.nle
  refine calls_of_WC (args := [.agg #[.string x.fr, .slice x.A x.n x.c], .agg #[.string y.fr, .slice y.A y.n y.c]]) Try.func23 rfl rfl (ble rfl) ?_
  refine WC.seq (fun K1 k1 => ?_)
  refine WC.region rfl ?_
  refine WL.box rfl (blt rfl) rfl rfl rfl rfl ?_
  intro g2 w3 e4 x5 m6
  have o_g2 := own_new xW e4
  have xW := Ext.trans xW x5
  refine WL.box rfl (blt rfl) rfl rfl rfl rfl ?_
  intro g7 w8 e9 x10 m11
  have n_g2_g7 := ne_new m6 e9
  have o_g7 := own_new xW e9
  have m6 := m6.ext x10
  have xW := Ext.trans xW x10
  refine WL.yld rfl (blt rfl) rfl (Y.assign rfl rfl) ?_
  refine WL.nil ?_
  refine WK.then_normal (k1 _ _ ?_)
  refine WC.sub [(2, _), (3, _)] ⟨rfl, rfl, trivial⟩ ?_
  refine WC.seq (fun K12 k12 => ?_)
  refine WC.region rfl ?_
  refine WL.yld rfl (blt rfl) rfl (Y.fieldAddr rfl Try.underlying46 rfl ti9 (by decide) rfl) ?_
  refine WL.yld rfl (blt rfl) rfl (Y.load1 rfl Try.underlying9 rfl rfl (Blk.at_eq m6 rfl)) ?_
  refine WL.yld rfl (blt rfl) rfl (Y.fieldAddr rfl Try.underlying46 rfl ti9 (by decide) rfl) ?_
  refine WL.yld rfl (blt rfl) rfl (Y.load1 rfl Try.underlying9 rfl rfl (Blk.at_eq m11 rfl)) ?_
  refine WL.yld rfl (blt rfl) rfl (Y.eqlStr rfl rfl rfl) ?_
  refine WL.yld rfl (blt rfl) rfl (Y.move rfl rfl) ?_
  refine WL.yldG rfl (blt rfl) rfl rfl rfl (fun hb => Y.fieldAddr rfl Try.underlying46 rfl ti44 (by decide) rfl) ?_
  refine WL.yldG rfl (blt rfl) rfl rfl rfl (fun hb => Y.load1 rfl Try.underlying44 rfl (evg rfl hb) (Blk.at_eq m6 rfl)) ?_
  refine WL.yldG rfl (blt rfl) rfl rfl rfl (fun hb => Y.fieldAddr rfl Try.underlying46 rfl ti44 (by decide) rfl) ?_
  refine WL.yldG rfl (blt rfl) rfl rfl rfl (fun hb => Y.load1 rfl Try.underlying44 rfl (evg rfl hb) (Blk.at_eq m11 rfl)) ?_
  refine WL.callG rfl (blt rfl) rfl rfl rfl rfl rfl has48 (fun hb => (evs_cons (evg rfl hb) (evs_cons (evg rfl hb) (evs_cons rfl evs_nil)))) (fun hb => eqfS_any _ _ _ _ _ _ _ _ _ (g_x.l.ext xW) (g_y.l.ext xW) (fun i hi hj w' hw => sameS_any _ _ _ _ _ ((g_x.s _ (bang_mem hi)).ext (Ext.trans xW hw)) ((g_y.s _ (bang_mem hj)).ext (Ext.trans xW hw)))) (fun w13 x14 => ?_)
  have m6 := m6.ext x14
  have m11 := m11.ext x14
  have xW := Ext.trans xW x14
  refine WL.yld rfl (blt rfl) rfl (Y.and rfl rfl rfl rfl) ?_
  refine WL.yld rfl (blt rfl) rfl (Y.assign rfl rfl) ?_
  refine WL.nil ?_
  refine WK.then_normal (k12 _ _ ?_)
  refine WC.sub [(4, _)] ⟨rfl, trivial⟩ ?_
  refine WC.ret ?_
  clear k1 k12
  refine WK.ret [_] rfl ⟨rfl, trivial⟩ ?_
  exact ⟨rfl, xW⟩
end V
end SxW

end Go.Proofs.Ytklccakoblibmaa
