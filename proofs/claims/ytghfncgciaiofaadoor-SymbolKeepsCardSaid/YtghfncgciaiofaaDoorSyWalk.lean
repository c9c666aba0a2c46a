/- Contracts: names, checks. Conditions: what each theorem states. -/
import Derived.Test.YtghfncgciaiofaaDoorSyLay
import Derived.Test.YtghfncgciaiofaaDoorIn
import Derived.Test.YtghfncgciaiofaaDoorRows
namespace Go.Proofs.YtghfncgciaiofaaDoor
open Go Go.Eng Go.RowKit
set_option linter.unusedVariables false
namespace SyW
theorem ti3 : TI Tryd.prog 3 (.int .i64 0) 1 8 := TI.mk (by kernel_rfl)
theorem ti9 : TI Tryd.prog 9 (.string ⟨#[]⟩) 1 16 := TI.mk (by kernel_rfl)
theorem ti32 : TI Tryd.prog 32 (.slice none 0 0) 1 24 := TI.mk (by kernel_rfl)
theorem ti34 : TI Tryd.prog 34 (.agg #[.string ⟨#[]⟩, .int .i64 0, .int .i64 0, .slice none 0 0]) 4 56 := TI.mk (by kernel_rfl)
theorem ti36 : TI Tryd.prog 36 (.agg #[.int .i64 0, .string ⟨#[]⟩]) 2 24 := TI.mk (by kernel_rfl)
theorem has23 : Has Tryd.prog 23 := ⟨_, Tryd.func23, rfl, by kernel_rfl⟩
theorem has24 : Has Tryd.prog 24 := ⟨_, Tryd.func24, rfl, by kernel_rfl⟩
theorem has39 : Has Tryd.prog 39 := ⟨_, Tryd.func39, rfl, by kernel_rfl⟩
theorem has40 : Has Tryd.prog 40 := ⟨_, Tryd.func40, rfl, by kernel_rfl⟩
theorem has45 : Has Tryd.prog 45 := ⟨_, Tryd.func45, rfl, by kernel_rfl⟩
theorem has47 : Has Tryd.prog 47 := ⟨_, Tryd.func47, rfl, by kernel_rfl⟩
theorem indexByte_any (c : Int) (w : World) : Calls Tryd.prog 47 #[.string ⟨#[95, 46, 58, 47, 60, 62, 36, 42, 126, 45]⟩, .int .u8 c] w fun e w' => e = .returned (.int .i64 (Sy.ixB c)) ∧ Ext w w' :=
  (Any.strings_IndexByte Tryd.lays137 Sy.signs c w).mono fun e w' ⟨he, hw⟩ => ⟨he, by subst hw; exact Ext.refl _⟩
theorem letter_any (c : Int) (w : World) (hc : 0 ≤ c ∧ c ≤ 255) :
    Calls Tryd.prog 45 #[.int .u8 c] w fun e w' => e = .returned (.bool (Sy.letB c)) ∧ Ext w w' := by
  have xW := Ext.refl w
  refine calls_of_WC (args := [.int .u8 c]) Tryd.func45 rfl rfl (ble rfl) ?_
  refine WC.seq (fun K1 k1 => ?_)
  refine WC.region rfl ?_
  refine WL.yld rfl (blt rfl) rfl (Y.assign rfl rfl) ?_
  refine WL.nil ?_
  refine WK.then_normal (k1 _ _ ?_)
  refine WC.sub [(0, _)] ⟨rfl, trivial⟩ ?_
  refine WC.seq (fun K2 k2 => ?_)
  refine WC.region rfl ?_
  refine WL.yld rfl (blt rfl) rfl (Y.move rfl rfl) ?_
  refine WL.yld rfl (blt rfl) rfl (Y.geq rfl rfl rfl) ?_
  refine WL.yld rfl (blt rfl) rfl (Y.move rfl rfl) ?_
  refine WL.yldG rfl (blt rfl) rfl rfl rfl (fun hb => Y.move rfl rfl) ?_
  refine WL.yldG rfl (blt rfl) rfl rfl rfl (fun hb => Y.leq rfl (evg rfl hb) rfl) ?_
  refine WL.yld rfl (blt rfl) rfl (Y.and rfl rfl rfl rfl) ?_
  refine WL.yld rfl (blt rfl) rfl (Y.move rfl rfl) ?_
  refine WL.yldG rfl (blt rfl) rfl rfl rfl (fun hb => Y.move rfl rfl) ?_
  refine WL.yldG rfl (blt rfl) rfl rfl rfl (fun hb => Y.geq rfl (evg rfl hb) rfl) ?_
  refine WL.yldG rfl (blt rfl) rfl rfl rfl (fun hb => Y.move rfl (evg rfl hb)) ?_
  refine WL.yldGs [(_, _)] rfl (blt rfl) rfl rfl rfl (fun hb => Y.move rfl rfl) ?_
  refine WL.yldGs [(_, _)] rfl (blt rfl) rfl rfl rfl (fun hb => Y.leq rfl (evg (evg rfl hb.1) hb.2.1) rfl) ?_
  refine WL.yldG rfl (blt rfl) rfl rfl rfl (fun hb => Y.and rfl (evg rfl hb) (evg rfl hb) rfl) ?_
  refine WL.yld rfl (blt rfl) rfl (Y.or rfl rfl rfl rfl) ?_
  refine WL.yld rfl (blt rfl) rfl (Y.move rfl rfl) ?_
  refine WL.yldG rfl (blt rfl) rfl rfl rfl (fun hb => Y.move rfl rfl) ?_
  refine WL.yldG rfl (blt rfl) rfl rfl rfl (fun hb => Y.geq rfl (evg rfl hb) rfl) ?_
  refine WL.yldG rfl (blt rfl) rfl rfl rfl (fun hb => Y.move rfl (evg rfl hb)) ?_
  refine WL.yldGs [(_, _)] rfl (blt rfl) rfl rfl rfl (fun hb => Y.move rfl rfl) ?_
  refine WL.yldGs [(_, _)] rfl (blt rfl) rfl rfl rfl (fun hb => Y.leq rfl (evg (evg rfl hb.1) hb.2.1) rfl) ?_
  refine WL.yldG rfl (blt rfl) rfl rfl rfl (fun hb => Y.and rfl (evg rfl hb) (evg rfl hb) rfl) ?_
  refine WL.yld rfl (blt rfl) rfl (Y.or rfl rfl rfl rfl) ?_
  refine WL.yld rfl (blt rfl) rfl (Y.move rfl rfl) ?_
  refine WL.yldG rfl (blt rfl) rfl rfl rfl (fun hb => Y.move rfl rfl) ?_
  refine WL.callG rfl (blt rfl) rfl rfl rfl rfl rfl has47 (fun hb => (evs_cons rfl (evs_cons (evg rfl hb) evs_nil))) (fun hb => indexByte_any _ _) (fun w3 x4 => ?_)
  have xW := Ext.trans xW x4
  refine WL.yldG rfl (blt rfl) rfl rfl rfl (fun hb => Y.geq rfl (evg rfl hb) rfl) ?_
  refine WL.yld rfl (blt rfl) rfl (Y.or rfl rfl rfl rfl) ?_
  refine WL.yld rfl (blt rfl) rfl (Y.assign rfl rfl) ?_
  refine WL.nil ?_
  refine WK.then_normal (k2 _ _ ?_)
  refine WC.sub [(2, _)] ⟨rfl, trivial⟩ ?_
  refine WC.ret ?_
  clear k1 k2
  refine WK.ret [_] rfl ⟨rfl, trivial⟩ ?_
  exact ⟨ret1 (vb (Sy.let_ix hc)), xW⟩
theorem rletter_any (c : Int) (w : World) (hc : 0 ≤ c ∧ c ≤ 255) :
    Calls Tryd.prog 40 #[.int .u8 c] w fun e w' => e = .returned (.bool (Sy.letB c)) ∧ Ext w w' := by
  have xW := Ext.refl w
  have sz := Sy.sg_size
  refine calls_of_WC (args := [.int .u8 c]) Tryd.func40 rfl rfl (ble rfl) ?_
  refine WC.seq (fun K1 k1 => ?_)
  refine WC.region rfl ?_
  refine WL.yld rfl (blt rfl) rfl (Y.assign rfl rfl) ?_
  refine WL.nil ?_
  refine WK.then_normal (k1 _ _ ?_)
  refine WC.sub [(0, _)] ⟨rfl, trivial⟩ ?_
  refine WC.seq (fun K2 k2 => ?_)
  refine WC.seq (fun K3 k3 => ?_)
  refine WC.region rfl ?_
  refine WL.yld rfl (blt rfl) rfl (Y.move rfl rfl) ?_
  refine WL.yld rfl (blt rfl) rfl (Y.geq rfl rfl rfl) ?_
  refine WL.yld rfl (blt rfl) rfl (Y.move rfl rfl) ?_
  refine WL.yldG rfl (blt rfl) rfl rfl rfl (fun hb => Y.move rfl rfl) ?_
  refine WL.yldG rfl (blt rfl) rfl rfl rfl (fun hb => Y.leq rfl (evg rfl hb) rfl) ?_
  refine WL.yld rfl (blt rfl) rfl (Y.and rfl rfl rfl rfl) ?_
  refine WL.yld rfl (blt rfl) rfl (Y.move rfl rfl) ?_
  refine WL.yldG rfl (blt rfl) rfl rfl rfl (fun hb => Y.move rfl rfl) ?_
  refine WL.yldG rfl (blt rfl) rfl rfl rfl (fun hb => Y.geq rfl (evg rfl hb) rfl) ?_
  refine WL.yldG rfl (blt rfl) rfl rfl rfl (fun hb => Y.move rfl (evg rfl hb)) ?_
  refine WL.yldGs [(_, _)] rfl (blt rfl) rfl rfl rfl (fun hb => Y.move rfl rfl) ?_
  refine WL.yldGs [(_, _)] rfl (blt rfl) rfl rfl rfl (fun hb => Y.leq rfl (evg (evg rfl hb.1) hb.2.1) rfl) ?_
  refine WL.yldG rfl (blt rfl) rfl rfl rfl (fun hb => Y.and rfl (evg rfl hb) (evg rfl hb) rfl) ?_
  refine WL.yld rfl (blt rfl) rfl (Y.or rfl rfl rfl rfl) ?_
  refine WL.yld rfl (blt rfl) rfl (Y.move rfl rfl) ?_
  refine WL.yldG rfl (blt rfl) rfl rfl rfl (fun hb => Y.move rfl rfl) ?_
  refine WL.yldG rfl (blt rfl) rfl rfl rfl (fun hb => Y.geq rfl (evg rfl hb) rfl) ?_
  refine WL.yldG rfl (blt rfl) rfl rfl rfl (fun hb => Y.move rfl (evg rfl hb)) ?_
  refine WL.yldGs [(_, _)] rfl (blt rfl) rfl rfl rfl (fun hb => Y.move rfl rfl) ?_
  refine WL.yldGs [(_, _)] rfl (blt rfl) rfl rfl rfl (fun hb => Y.leq rfl (evg (evg rfl hb.1) hb.2.1) rfl) ?_
  refine WL.yldG rfl (blt rfl) rfl rfl rfl (fun hb => Y.and rfl (evg rfl hb) (evg rfl hb) rfl) ?_
  refine WL.yld rfl (blt rfl) rfl (Y.or rfl rfl rfl rfl) ?_
  refine WL.nil ?_
  refine WK.then_normal (k3 _ _ ?_)
  refine WC.sub [(0, _), (26, _)] ⟨rfl, rfl, trivial⟩ ?_
  refine WC.cond rfl (fun h4 => ?_) (fun h4 => ?_)
  ·
    have p4 := ((or_t h4).imp (fun h => ((or_t h).imp (fun h => (And.intro (dec_t (and_t h).1) (dec_t (and_t h).2))) (fun h => (And.intro (dec_t (and_t h).1) (dec_t (and_t h).2))))) (fun h => (And.intro (dec_t (and_t h).1) (dec_t (and_t h).2))))
    refine WC.seq (fun K5 k5 => ?_)
    refine WC.region rfl ?_
    refine WL.yld rfl (blt rfl) rfl (Y.assign rfl rfl) ?_
    refine WL.nil ?_
    refine WK.then_normal (k5 _ _ ?_)
    refine WC.sub [(2, _)] ⟨rfl, trivial⟩ ?_
    refine WC.ret ?_
    refine WK.then_ret ?_
    clear k1 k2 k3 k5
    refine WK.ret [_] rfl ⟨rfl, trivial⟩ ?_
    exact ⟨ret1 (vb (Sy.let_first h4).symm), xW⟩
  ·
    have p4 := (And.intro (And.intro ((and_f (or_f (or_f h4).1).1).imp (fun h => (dec_f h)) (fun h => (dec_f h))) ((and_f (or_f (or_f h4).1).2).imp (fun h => (dec_f h)) (fun h => (dec_f h)))) ((and_f (or_f h4).2).imp (fun h => (dec_f h)) (fun h => (dec_f h))))
    refine WC.skip ?_
    refine WK.then_normal (k2 _ _ ?_)
    refine WC.sub [(0, _)] ⟨rfl, trivial⟩ ?_
    refine WC.seq (fun K6 k6 => ?_)
    refine WC.region rfl ?_
    refine WL.yld rfl (blt rfl) rfl (Yld.cast (Y.assign rfl rfl) (show Value.string _ = Value.string Sy.signs from rfl)) ?_
    refine WL.nil ?_
    refine WK.then_normal (k6 _ _ ?_)
    refine WC.seq (fun K7 k7 => ?_)
    refine WC.seq (fun K8 k8 => ?_)
    refine WC.region rfl ?_
    refine WL.yld rfl (blt rfl) rfl (Y.assign rfl rfl) ?_
    refine WL.nil ?_
    refine WK.then_normal (k8 _ _ ?_)
    refine WC.block ?_
    refine WC.sub [(4, _), (0, _), (3, _)] ⟨rfl, rfl, rfl, trivial⟩ ?_
    refine WC.loopS 1 (fun mz Ed W' => ∃ i : Nat, mz = 10 - i ∧ Ed = [(4, .int .i64 ((i : Nat) : Int))] ∧ Ext w W' ∧ (i ≤ 10) ∧ (∀ j, j < i → (bat Sy.signs j == c) = false)) _ ⟨0, rfl, rfl, xW, (Nat.zero_le _), (fun j hj => absurd hj (Nat.not_lt_zero j))⟩ ?_
    rintro _ _ w9 ⟨i, rfl, rfl, xW, le_i, inv_i⟩
    refine WC.sub [(4, _), (0, _), (3, _)] ⟨rfl, rfl, rfl, trivial⟩ ?_
    refine WC.seq (fun K10 k10 => ?_)
    refine WC.seq (fun K11 k11 => ?_)
    refine WC.region rfl ?_
    refine WL.yld rfl (blt rfl) rfl (Y.move rfl rfl) ?_
    refine WL.yld rfl (blt rfl) rfl (Y.move rfl rfl) ?_
    refine WL.yld rfl (blt rfl) rfl (Y.lenStr rfl rfl rfl Tryd.underlying9 rfl) ?_
    refine WL.yld rfl (blt rfl) rfl (Y.lss rfl rfl rfl) ?_
    refine WL.nil ?_
    refine WK.then_normal (k11 _ _ ?_)
    refine WC.sub [(0, _), (3, _), (4, _), (30, _)] ⟨rfl, rfl, rfl, rfl, trivial⟩ ?_
    refine WC.cond rfl (fun h12 => ?_) (fun h12 => ?_)
    ·
      have p12 := (dec_t h12)
      refine WC.skip ?_
      refine WK.then_normal (k10 _ _ ?_)
      refine WC.sub [(0, _), (3, _), (4, _)] ⟨rfl, rfl, rfl, trivial⟩ ?_
      refine WC.seq (fun K13 k13 => ?_)
      refine WC.block ?_
      refine WC.seq (fun K14 k14 => ?_)
      refine WC.region rfl ?_
      refine WL.yld rfl (blt rfl) rfl (Y.move rfl rfl) ?_
      refine WL.yld rfl (blt rfl) rfl (Y.move rfl rfl) ?_
      have b15 : i < Sy.signs.size := by omega
      refine WL.yld rfl (blt rfl) rfl (Y.indexStr i rfl Tryd.underlying9 rfl rfl rfl b15) ?_
      refine WL.yld rfl (blt rfl) rfl (Y.move rfl rfl) ?_
      refine WL.yld rfl (blt rfl) rfl (Y.eql rfl rfl rfl) ?_
      refine WL.nil ?_
      refine WK.then_normal (k14 _ _ ?_)
      refine WC.sub [(0, _), (3, _), (4, _), (37, _)] ⟨rfl, rfl, rfl, rfl, trivial⟩ ?_
      refine WC.cond rfl (fun h16 => ?_) (fun h16 => ?_)
      ·
        have p16 := (eq_t h16)
        refine WC.seq (fun K17 k17 => ?_)
        refine WC.region rfl ?_
        refine WL.yld rfl (blt rfl) rfl (Y.assign rfl rfl) ?_
        refine WL.nil ?_
        refine WK.then_normal (k17 _ _ ?_)
        refine WC.sub [(2, _)] ⟨rfl, trivial⟩ ?_
        refine WC.ret ?_
        refine WK.in_ret ?_
        refine WK.then_ret ?_
        refine WK.then_ret ?_
        refine WK.in_ret ?_
        refine WK.then_ret ?_
        clear k1 k2 k3 k6 k7 k8 k10 k11 k13 k14 k17
        refine WK.ret [_] rfl ⟨rfl, trivial⟩ ?_
        exact ⟨ret1 (vb (Sy.let_yes (by omega) h16).symm), xW⟩
      ·
        have p16 := (eq_f h16)
        refine WC.skip ?_
        refine WK.in_normal ?_
        refine WK.then_normal (k13 _ _ ?_)
        refine WC.sub [(0, _), (3, _), (4, _)] ⟨rfl, rfl, rfl, trivial⟩ ?_
        refine WC.region rfl ?_
        refine WL.yld rfl (blt rfl) rfl (Y.move rfl rfl) ?_
        refine WL.yld rfl (blt rfl) rfl (Y.add rfl rfl rfl (wrap_i64 (by first | omega | (dsimp only; omega)))) ?_
        refine WL.yld rfl (blt rfl) rfl (Y.assign rfl rfl) ?_
        refine WL.nil ?_
        refine WK.roundS _ [(4, .int .i64 (((i + 1) : Nat) : Int))] ⟨rfl, rfl, rfl, trivial⟩ ?_ ⟨(i + 1), rfl, rfl, xW, (by omega), (fun j hj => by rcases Nat.lt_succ_iff_lt_or_eq.1 hj with h | h; exact inv_i j h; subst h; exact h16)⟩
        show _ - (i + 1) < _ - i; omega
    ·
      have p12 := (dec_f h12)
      refine WC.exit ?_
      refine WK.then_exit ?_
      refine WK.then_exit ?_
      refine WK.in_exit ?_
      refine WK.then_normal (k7 _ _ ?_)
      refine WC.sub [] trivial ?_
      refine WC.seq (fun K18 k18 => ?_)
      refine WC.region rfl ?_
      refine WL.yld rfl (blt rfl) rfl (Y.assign rfl rfl) ?_
      refine WL.nil ?_
      refine WK.then_normal (k18 _ _ ?_)
      refine WC.ret ?_
      clear k1 k2 k3 k6 k7 k8 k10 k11 k18
      refine WK.ret [_] rfl ⟨rfl, trivial⟩ ?_
      exact ⟨ret1 (vb (Sy.let_no h4 fun j hj => inv_i j (by omega)).symm), xW⟩
theorem name_any (s : ByteArray) (w : World) :
    Calls Tryd.prog 39 #[.string s] w fun e w' => e = .returned (.int .i64 (Sy.nmE s)) ∧ Ext w w' := by
  have xW := Ext.refl w
  refine calls_of_WC (args := [.string s]) Tryd.func39 rfl rfl (ble rfl) ?_
  refine WC.seq (fun K1 k1 => ?_)
  refine WC.region rfl ?_
  refine WL.yld rfl (blt rfl) rfl (Y.assign rfl rfl) ?_
  refine WL.nil ?_
  refine WK.then_normal (k1 _ _ ?_)
  refine WC.sub [(0, _)] ⟨rfl, trivial⟩ ?_
  refine WC.seq (fun K2 k2 => ?_)
  refine WC.seq (fun K3 k3 => ?_)
  refine WC.region rfl ?_
  refine WL.yld rfl (blt rfl) rfl (Y.move rfl rfl) ?_
  refine WL.yld rfl (blt rfl) rfl (Y.eqlStr rfl rfl rfl) ?_
  refine WL.yld rfl (blt rfl) rfl (Y.move rfl rfl) ?_
  refine WL.yldG rfl (blt rfl) rfl rfl rfl (fun hb => Y.move rfl rfl) ?_
  refine WL.yldG rfl (blt rfl) rfl rfl rfl (fun hb => Y.lenStr rfl rfl rfl Tryd.underlying9 (evs_cons (evg rfl hb) evs_nil)) ?_
  refine WL.yldG rfl (blt rfl) rfl rfl rfl (fun hb => Y.gtr rfl (evg rfl hb) rfl) ?_
  refine WL.yld rfl (blt rfl) rfl (Y.or rfl rfl rfl rfl) ?_
  refine WL.nil ?_
  refine WK.then_normal (k3 _ _ ?_)
  refine WC.sub [(0, _), (10, _)] ⟨rfl, rfl, trivial⟩ ?_
  refine WC.cond rfl (fun h4 => ?_) (fun h4 => ?_)
  ·
    have p4 := ((or_t h4).imp (fun h => h) (fun h => (dec_t h)))
    refine WC.seq (fun K5 k5 => ?_)
    refine WC.region rfl ?_
    refine WL.yld rfl (blt rfl) rfl (Y.assign rfl rfl) ?_
    refine WL.nil ?_
    refine WK.then_normal (k5 _ _ ?_)
    refine WC.sub [(2, _)] ⟨rfl, trivial⟩ ?_
    refine WC.ret ?_
    refine WK.then_ret ?_
    clear k1 k2 k3 k5
    refine WK.ret [_] rfl ⟨rfl, trivial⟩ ?_
    exact ⟨ret1 (vi (Sy.nm_a h4).symm), xW⟩
  ·
    have p4 := (dec_f (or_f h4).2)
    have hb := Sy.nm_b h4
    refine WC.skip ?_
    refine WK.then_normal (k2 _ _ ?_)
    refine WC.sub [(0, _)] ⟨rfl, trivial⟩ ?_
    refine WC.seq (fun K6 k6 => ?_)
    refine WC.seq (fun K7 k7 => ?_)
    refine WC.region rfl ?_
    refine WL.yld rfl (blt rfl) rfl (Y.move rfl rfl) ?_
    refine WL.yld rfl (blt rfl) rfl (Y.lenStr rfl rfl rfl Tryd.underlying9 rfl) ?_
    refine WL.yld rfl (blt rfl) rfl (Y.move rfl rfl) ?_
    refine WL.nil ?_
    refine WK.then_normal (k7 _ _ ?_)
    refine WC.sub [(0, _), (12, _), (13, _)] ⟨rfl, rfl, rfl, trivial⟩ ?_
    refine WC.block ?_
    refine WC.sub [(13, _), (0, _), (12, _)] ⟨rfl, rfl, rfl, trivial⟩ ?_
    refine WC.loopS 1 (fun mz Ed W' => ∃ i : Nat, mz = s.size - i ∧ Ed = [(13, .int .i64 ((i : Nat) : Int))] ∧ Ext w W' ∧ (i ≤ s.size) ∧ (∀ j, j < i → Sy.letB (bat s j) = true)) _ ⟨0, rfl, rfl, xW, (Nat.zero_le _), (fun j hj => absurd hj (Nat.not_lt_zero j))⟩ ?_
    rintro _ _ w8 ⟨i, rfl, rfl, xW, le_i, inv_i⟩
    refine WC.sub [(13, _), (0, _), (12, _)] ⟨rfl, rfl, rfl, trivial⟩ ?_
    refine WC.seq (fun K9 k9 => ?_)
    refine WC.region rfl ?_
    refine WL.yld rfl (blt rfl) rfl (Y.lss rfl rfl rfl) ?_
    refine WL.nil ?_
    refine WK.then_normal (k9 _ _ ?_)
    refine WC.seq (fun K10 k10 => ?_)
    refine WC.cond rfl (fun h11 => ?_) (fun h11 => ?_)
    ·
      have p11 := (dec_t h11)
      refine WC.skip ?_
      refine WK.then_normal (k10 _ _ ?_)
      refine WC.sub [(0, _), (12, _), (13, _)] ⟨rfl, rfl, rfl, trivial⟩ ?_
      refine WC.seq (fun K12 k12 => ?_)
      refine WC.block ?_
      refine WC.seq (fun K13 k13 => ?_)
      refine WC.region rfl ?_
      refine WL.yld rfl (blt rfl) rfl (Y.move rfl rfl) ?_
      refine WL.yld rfl (blt rfl) rfl (Y.assign rfl rfl) ?_
      refine WL.nil ?_
      refine WK.then_normal (k13 _ _ ?_)
      refine WC.sub [(0, _), (3, _), (12, _), (13, _)] ⟨rfl, rfl, rfl, rfl, trivial⟩ ?_
      refine WC.seq (fun K14 k14 => ?_)
      refine WC.region rfl ?_
      refine WL.yld rfl (blt rfl) rfl (Y.move rfl rfl) ?_
      refine WL.yld rfl (blt rfl) rfl (Y.move rfl rfl) ?_
      have b15 : i < s.size := by omega
      refine WL.yld rfl (blt rfl) rfl (Y.indexStr i rfl Tryd.underlying9 rfl rfl rfl b15) ?_
      refine WL.call rfl (blt rfl) rfl rfl rfl has45 rfl (letter_any _ _ (bat_rng _ _)) ?_
      rintro _ w16 ⟨rfl, x17⟩
      refine ⟨_, rfl, ?_⟩
      have xW := Ext.trans xW x17
      refine WL.yld rfl (blt rfl) rfl (Y.not rfl rfl) ?_
      refine WL.nil ?_
      refine WK.then_normal (k14 _ _ ?_)
      refine WC.sub [(0, _), (12, _), (13, _), (20, _)] ⟨rfl, rfl, rfl, rfl, trivial⟩ ?_
      refine WC.cond rfl (fun h18 => ?_) (fun h18 => ?_)
      ·
        refine WC.seq (fun K19 k19 => ?_)
        refine WC.region rfl ?_
        refine WL.yld rfl (blt rfl) rfl (Y.assign rfl rfl) ?_
        refine WL.nil ?_
        refine WK.then_normal (k19 _ _ ?_)
        refine WC.sub [(2, _)] ⟨rfl, trivial⟩ ?_
        refine WC.ret ?_
        refine WK.in_ret ?_
        refine WK.then_ret ?_
        refine WK.then_ret ?_
        refine WK.in_ret ?_
        refine WK.then_ret ?_
        clear k1 k2 k3 k6 k7 k9 k10 k12 k13 k14 k19
        refine WK.ret [_] rfl ⟨rfl, trivial⟩ ?_
        exact ⟨ret1 (vi (Sy.nmE_bad (show i < s.size from by omega) (Bool.not_eq_true' _ ▸ h18)).symm), xW⟩
      ·
        refine WC.skip ?_
        refine WK.in_normal ?_
        refine WK.then_normal (k12 _ _ ?_)
        refine WC.sub [(0, _), (12, _), (13, _)] ⟨rfl, rfl, rfl, trivial⟩ ?_
        refine WC.region rfl ?_
        refine WL.yld rfl (blt rfl) rfl (Y.add rfl rfl rfl (wrap_i64 (by first | omega | (dsimp only; omega)))) ?_
        refine WL.yld rfl (blt rfl) rfl (Y.move rfl rfl) ?_
        refine WL.nil ?_
        refine WK.roundS _ [(13, .int .i64 (((i + 1) : Nat) : Int))] ⟨rfl, rfl, rfl, trivial⟩ ?_ ⟨(i + 1), rfl, rfl, xW, (by omega), (fun j hj => by rcases Nat.lt_succ_iff_lt_or_eq.1 hj with h | h; exact inv_i j h; subst h; exact (by simpa using h18))⟩
        show _ - (i + 1) < _ - i; omega
    ·
      have p11 := (dec_f h11)
      refine WC.exit ?_
      refine WK.then_exit ?_
      refine WK.then_exit ?_
      refine WK.in_exit ?_
      refine WK.then_normal (k6 _ _ ?_)
      refine WC.sub [] trivial ?_
      refine WC.seq (fun K20 k20 => ?_)
      refine WC.region rfl ?_
      refine WL.yld rfl (blt rfl) rfl (Y.assign rfl rfl) ?_
      refine WL.nil ?_
      refine WK.then_normal (k20 _ _ ?_)
      refine WC.ret ?_
      clear k1 k2 k3 k6 k7 k9 k10 k20
      refine WK.ret [_] rfl ⟨rfl, trivial⟩ ?_
      exact ⟨ret1 (vi (Sy.nmE_ok ⟨hb.1, hb.2, fun j hj => inv_i j (by omega)⟩).symm), xW⟩
theorem rname_any (s : ByteArray) (w : World) :
    Calls Tryd.prog 24 #[.string s] w fun e w' => e = .returned (.int .i64 (Sy.nmE s)) ∧ Ext w w' := by
  have xW := Ext.refl w
  refine calls_of_WC (args := [.string s]) Tryd.func24 rfl rfl (ble rfl) ?_
  refine WC.seq (fun K1 k1 => ?_)
  refine WC.region rfl ?_
  refine WL.yld rfl (blt rfl) rfl (Y.assign rfl rfl) ?_
  refine WL.nil ?_
  refine WK.then_normal (k1 _ _ ?_)
  refine WC.sub [(0, _)] ⟨rfl, trivial⟩ ?_
  refine WC.seq (fun K2 k2 => ?_)
  refine WC.seq (fun K3 k3 => ?_)
  refine WC.region rfl ?_
  refine WL.yld rfl (blt rfl) rfl (Y.move rfl rfl) ?_
  refine WL.yld rfl (blt rfl) rfl (Y.lenStr rfl rfl rfl Tryd.underlying9 rfl) ?_
  refine WL.yld rfl (blt rfl) rfl (Y.lss rfl rfl rfl) ?_
  refine WL.yld rfl (blt rfl) rfl (Y.move rfl rfl) ?_
  refine WL.yldG rfl (blt rfl) rfl rfl rfl (fun hb => Y.move rfl rfl) ?_
  refine WL.yldG rfl (blt rfl) rfl rfl rfl (fun hb => Y.lenStr rfl rfl rfl Tryd.underlying9 (evs_cons (evg rfl hb) evs_nil)) ?_
  refine WL.yldG rfl (blt rfl) rfl rfl rfl (fun hb => Y.gtr rfl (evg rfl hb) rfl) ?_
  refine WL.yld rfl (blt rfl) rfl (Y.or rfl rfl rfl rfl) ?_
  refine WL.nil ?_
  refine WK.then_normal (k3 _ _ ?_)
  refine WC.sub [(0, _), (11, _)] ⟨rfl, rfl, trivial⟩ ?_
  refine WC.cond rfl (fun h4 => ?_) (fun h4 => ?_)
  ·
    have p4 := ((or_t h4).imp (fun h => (dec_t h)) (fun h => (dec_t h)))
    refine WC.seq (fun K5 k5 => ?_)
    refine WC.region rfl ?_
    refine WL.yld rfl (blt rfl) rfl (Y.assign rfl rfl) ?_
    refine WL.nil ?_
    refine WK.then_normal (k5 _ _ ?_)
    refine WC.sub [(2, _)] ⟨rfl, trivial⟩ ?_
    refine WC.ret ?_
    refine WK.then_ret ?_
    clear k1 k2 k3 k5
    refine WK.ret [_] rfl ⟨rfl, trivial⟩ ?_
    exact ⟨ret1 (vi (Sy.nmE_short (by have q := h4; simp only [Bool.or_eq_true, decide_eq_true_eq] at q; omega)).symm), xW⟩
  ·
    have p4 := (And.intro (dec_f (or_f h4).1) (dec_f (or_f h4).2))
    have hb : 1 ≤ s.size ∧ s.size ≤ 40 := by have q := h4; simp only [Bool.or_eq_false_iff, decide_eq_false_iff_not] at q; omega
    refine WC.skip ?_
    refine WK.then_normal (k2 _ _ ?_)
    refine WC.sub [(0, _)] ⟨rfl, trivial⟩ ?_
    refine WC.seq (fun K6 k6 => ?_)
    refine WC.seq (fun K7 k7 => ?_)
    refine WC.region rfl ?_
    refine WL.yld rfl (blt rfl) rfl (Y.assign rfl rfl) ?_
    refine WL.nil ?_
    refine WK.then_normal (k7 _ _ ?_)
    refine WC.block ?_
    refine WC.sub [(3, _), (0, _)] ⟨rfl, rfl, trivial⟩ ?_
    refine WC.loopS 1 (fun mz Ed W' => ∃ i : Nat, mz = s.size - i ∧ Ed = [(3, .int .i64 ((i : Nat) : Int))] ∧ Ext w W' ∧ (i ≤ s.size) ∧ (∀ j, j < i → Sy.letB (bat s j) = true)) _ ⟨0, rfl, rfl, xW, (Nat.zero_le _), (fun j hj => absurd hj (Nat.not_lt_zero j))⟩ ?_
    rintro _ _ w8 ⟨i, rfl, rfl, xW, le_i, inv_i⟩
    refine WC.sub [(3, _), (0, _)] ⟨rfl, rfl, trivial⟩ ?_
    refine WC.seq (fun K9 k9 => ?_)
    refine WC.seq (fun K10 k10 => ?_)
    refine WC.region rfl ?_
    refine WL.yld rfl (blt rfl) rfl (Y.move rfl rfl) ?_
    refine WL.yld rfl (blt rfl) rfl (Y.move rfl rfl) ?_
    refine WL.yld rfl (blt rfl) rfl (Y.lenStr rfl rfl rfl Tryd.underlying9 rfl) ?_
    refine WL.yld rfl (blt rfl) rfl (Y.lss rfl rfl rfl) ?_
    refine WL.nil ?_
    refine WK.then_normal (k10 _ _ ?_)
    refine WC.sub [(0, _), (3, _), (15, _)] ⟨rfl, rfl, rfl, trivial⟩ ?_
    refine WC.cond rfl (fun h11 => ?_) (fun h11 => ?_)
    ·
      have p11 := (dec_t h11)
      refine WC.skip ?_
      refine WK.then_normal (k9 _ _ ?_)
      refine WC.sub [(0, _), (3, _)] ⟨rfl, rfl, trivial⟩ ?_
      refine WC.seq (fun K12 k12 => ?_)
      refine WC.block ?_
      refine WC.seq (fun K13 k13 => ?_)
      refine WC.region rfl ?_
      refine WL.yld rfl (blt rfl) rfl (Y.move rfl rfl) ?_
      refine WL.yld rfl (blt rfl) rfl (Y.move rfl rfl) ?_
      have b14 : i < s.size := by omega
      refine WL.yld rfl (blt rfl) rfl (Y.indexStr i rfl Tryd.underlying9 rfl rfl rfl b14) ?_
      refine WL.call rfl (blt rfl) rfl rfl rfl has40 rfl (rletter_any _ _ (bat_rng _ _)) ?_
      rintro _ w15 ⟨rfl, x16⟩
      refine ⟨_, rfl, ?_⟩
      have xW := Ext.trans xW x16
      refine WL.yld rfl (blt rfl) rfl (Y.not rfl rfl) ?_
      refine WL.nil ?_
      refine WK.then_normal (k13 _ _ ?_)
      refine WC.sub [(0, _), (3, _), (22, _)] ⟨rfl, rfl, rfl, trivial⟩ ?_
      refine WC.cond rfl (fun h17 => ?_) (fun h17 => ?_)
      ·
        refine WC.seq (fun K18 k18 => ?_)
        refine WC.region rfl ?_
        refine WL.yld rfl (blt rfl) rfl (Y.assign rfl rfl) ?_
        refine WL.nil ?_
        refine WK.then_normal (k18 _ _ ?_)
        refine WC.sub [(2, _)] ⟨rfl, trivial⟩ ?_
        refine WC.ret ?_
        refine WK.in_ret ?_
        refine WK.then_ret ?_
        refine WK.then_ret ?_
        refine WK.in_ret ?_
        refine WK.then_ret ?_
        clear k1 k2 k3 k6 k7 k9 k10 k12 k13 k18
        refine WK.ret [_] rfl ⟨rfl, trivial⟩ ?_
        exact ⟨ret1 (vi (Sy.nmE_bad (show i < s.size from by omega) (Bool.not_eq_true' _ ▸ h17)).symm), xW⟩
      ·
        refine WC.skip ?_
        refine WK.in_normal ?_
        refine WK.then_normal (k12 _ _ ?_)
        refine WC.sub [(0, _), (3, _)] ⟨rfl, rfl, trivial⟩ ?_
        refine WC.region rfl ?_
        refine WL.yld rfl (blt rfl) rfl (Y.move rfl rfl) ?_
        refine WL.yld rfl (blt rfl) rfl (Y.add rfl rfl rfl (wrap_i64 (by first | omega | (dsimp only; omega)))) ?_
        refine WL.yld rfl (blt rfl) rfl (Y.assign rfl rfl) ?_
        refine WL.nil ?_
        refine WK.roundS _ [(3, .int .i64 (((i + 1) : Nat) : Int))] ⟨rfl, rfl, trivial⟩ ?_ ⟨(i + 1), rfl, rfl, xW, (by omega), (fun j hj => by rcases Nat.lt_succ_iff_lt_or_eq.1 hj with h | h; exact inv_i j h; subst h; exact (by simpa using h17))⟩
        show _ - (i + 1) < _ - i; omega
    ·
      have p11 := (dec_f h11)
      refine WC.exit ?_
      refine WK.then_exit ?_
      refine WK.then_exit ?_
      refine WK.in_exit ?_
      refine WK.then_normal (k6 _ _ ?_)
      refine WC.sub [] trivial ?_
      refine WC.seq (fun K19 k19 => ?_)
      refine WC.region rfl ?_
      refine WL.yld rfl (blt rfl) rfl (Y.assign rfl rfl) ?_
      refine WL.nil ?_
      refine WK.then_normal (k19 _ _ ?_)
      refine WC.ret ?_
      clear k1 k2 k3 k6 k7 k9 k10 k19
      refine WK.ret [_] rfl ⟨rfl, trivial⟩ ?_
      exact ⟨ret1 (vi (Sy.nmE_ok ⟨hb.1, hb.2, fun j hj => inv_i j (by omega)⟩).symm), xW⟩
theorem rsymbols_any (m : Sy.M) (w : World) (h_m : Ls w m.A m.n m.c Sy.S.c 2 m.l) :
    Calls Tryd.prog 25 #[.agg #[.string m.nm, .int .i64 m.b, .int .i64 m.s, .slice m.A m.n m.c]] w fun e w' => e = .returned (.int .i64 (Sy.symsE m.s m.l)) ∧ Ext w w' := by
  have xW := Ext.refl w
  have e_m := h_m.len
  have z_m := h_m.nle
  refine calls_of_WC (args := [.agg #[.string m.nm, .int .i64 m.b, .int .i64 m.s, .slice m.A m.n m.c]]) Tryd.func25 rfl rfl (ble rfl) ?_
  refine WC.seq (fun K1 k1 => ?_)
  refine WC.region rfl ?_
  refine WL.box rfl (blt rfl) rfl rfl rfl rfl ?_
  intro g2 w3 e4 x5 m6
  have o_g2 := own_new xW e4
  have xW := Ext.trans xW x5
  refine WL.yld rfl (blt rfl) rfl (Y.assign rfl rfl) ?_
  refine WL.nil ?_
  refine WK.then_normal (k1 _ _ ?_)
  refine WC.sub [(1, _)] ⟨rfl, trivial⟩ ?_
  refine WC.seq (fun K7 k7 => ?_)
  refine WC.seq (fun K8 k8 => ?_)
  refine WC.region rfl ?_
  refine WL.yld rfl (blt rfl) rfl (Y.assign rfl rfl) ?_
  refine WL.nil ?_
  refine WK.then_normal (k8 _ _ ?_)
  refine WC.block ?_
  refine WC.sub [(3, _), (1, _)] ⟨rfl, rfl, trivial⟩ ?_
  refine WC.loopS 1 (fun mz Ed W' => ∃ i : Nat, mz = m.n - i ∧ Ed = [(3, .int .i64 ((i : Nat) : Int))] ∧ Ext w W' ∧ Blk W' g2 34 _ ∧ (i ≤ m.n) ∧ (∀ j, j < i → Sy.symE m.s m.l j = 0)) _ ⟨0, rfl, rfl, xW, m6, (Nat.zero_le _), (fun j hj => absurd hj (Nat.not_lt_zero j))⟩ ?_
  rintro _ _ w9 ⟨i, rfl, rfl, xW, m6, le_i, inv_i⟩
  refine WC.sub [(3, _), (1, _)] ⟨rfl, rfl, trivial⟩ ?_
  refine WC.seq (fun K10 k10 => ?_)
  refine WC.seq (fun K11 k11 => ?_)
  refine WC.region rfl ?_
  refine WL.yld rfl (blt rfl) rfl (Y.move rfl rfl) ?_
  refine WL.yld rfl (blt rfl) rfl (Y.fieldAddr rfl Tryd.underlying34 rfl ti32 (by decide) rfl) ?_
  refine WL.yld rfl (blt rfl) rfl (Y.load1 rfl Tryd.underlying32 rfl rfl (Blk.at_eq m6 rfl)) ?_
  refine WL.yld rfl (blt rfl) rfl (Y.lenSl rfl rfl rfl Tryd.underlying32 rfl) ?_
  refine WL.yld rfl (blt rfl) rfl (Y.lss rfl rfl rfl) ?_
  refine WL.nil ?_
  refine WK.then_normal (k11 _ _ ?_)
  refine WC.sub [(1, _), (3, _), (10, _)] ⟨rfl, rfl, rfl, trivial⟩ ?_
  refine WC.cond rfl (fun h12 => ?_) (fun h12 => ?_)
  ·
    have p12 := (dec_t h12)
    refine WC.skip ?_
    refine WK.then_normal (k10 _ _ ?_)
    refine WC.sub [(1, _), (3, _)] ⟨rfl, rfl, trivial⟩ ?_
    refine WC.seq (fun K13 k13 => ?_)
    refine WC.block ?_
    refine WC.seq (fun K14 k14 => ?_)
    refine WC.region rfl ?_
    refine WL.yld rfl (blt rfl) rfl (Y.fieldAddr rfl Tryd.underlying34 rfl ti32 (by decide) rfl) ?_
    refine WL.yld rfl (blt rfl) rfl (Y.load1 rfl Tryd.underlying32 rfl rfl (Blk.at_eq m6 rfl)) ?_
    refine WL.yld rfl (blt rfl) rfl (Y.move rfl rfl) ?_
    have b15 : i < m.n := by omega
    refine WL.yld rfl (blt rfl) rfl (Y.indexLs i (h_m.ext xW) rfl Tryd.underlying32 ti36 rfl rfl rfl b15) ?_
    refine WL.yld rfl (blt rfl) rfl (Y.loadS (cs := [_, _]) rfl Tryd.underlying36 rfl ti36 rfl (Ls.part_eq (h_m.ext xW) b15 rfl)) ?_
    refine WL.alloc rfl (blt rfl) rfl rfl ti36 rfl ?_
    intro g16 w17 e18 x19 m20
    have n_g2_g16 := ne_new m6 e18
    have o_g16 := own_new xW e18
    have m6 := m6.ext x19
    have xW := Ext.trans xW x19
    refine WL.store (cs' := [_, _]) rfl rfl rfl rfl rfl rfl ti36 m20 (ble rfl) rfl rfl (fun w21 on22 m23 => ?_)
    have m6 := m6.only n_g2_g16 on22
    have xW := Ext.only xW on22 o_g16
    refine WL.nil ?_
    refine WK.then_normal (k14 _ _ ?_)
    refine WC.sub [(1, _), (3, _), (4, _)] ⟨rfl, rfl, rfl, trivial⟩ ?_
    refine WC.seq (fun K24 k24 => ?_)
    refine WC.region rfl ?_
    refine WL.yld rfl (blt rfl) rfl (Y.fieldAddr rfl Tryd.underlying36 rfl ti9 (by decide) rfl) ?_
    refine WL.yld rfl (blt rfl) rfl (Y.load1 rfl Tryd.underlying9 rfl rfl (Blk.at_eq m23 rfl)) ?_
    refine WL.call rfl (blt rfl) rfl rfl rfl has24 rfl (rname_any _ _ ) ?_
    rintro _ w25 ⟨rfl, x26⟩
    refine ⟨_, rfl, ?_⟩
    have m6 := m6.ext x26
    have m23 := m23.ext x26
    have xW := Ext.trans xW x26
    refine WL.yld rfl (blt rfl) rfl (Y.assign rfl rfl) ?_
    refine WL.nil ?_
    refine WK.then_normal (k24 _ _ ?_)
    refine WC.sub [(1, _), (3, _), (4, _), (5, _)] ⟨rfl, rfl, rfl, rfl, trivial⟩ ?_
    refine WC.seq (fun K27 k27 => ?_)
    refine WC.seq (fun K28 k28 => ?_)
    refine WC.region rfl ?_
    refine WL.yld rfl (blt rfl) rfl (Y.move rfl rfl) ?_
    refine WL.yld rfl (blt rfl) rfl (Y.neq rfl rfl rfl) ?_
    refine WL.nil ?_
    refine WK.then_normal (k28 _ _ ?_)
    refine WC.sub [(1, _), (3, _), (4, _), (5, _), (22, _)] ⟨rfl, rfl, rfl, rfl, rfl, trivial⟩ ?_
    refine WC.cond rfl (fun h29 => ?_) (fun h29 => ?_)
    ·
      have p29 := (eq_f (not_t h29))
      refine WC.seq (fun K30 k30 => ?_)
      refine WC.region rfl ?_
      refine WL.yld rfl (blt rfl) rfl (Y.move rfl rfl) ?_
      refine WL.yld rfl (blt rfl) rfl (Y.assign rfl rfl) ?_
      refine WL.nil ?_
      refine WK.then_normal (k30 _ _ ?_)
      refine WC.sub [(2, _)] ⟨rfl, trivial⟩ ?_
      refine WC.ret ?_
      refine WK.then_ret ?_
      refine WK.in_ret ?_
      refine WK.then_ret ?_
      refine WK.then_ret ?_
      refine WK.in_ret ?_
      refine WK.then_ret ?_
      clear k1 k7 k8 k10 k11 k13 k14 k24 k27 k28 k30
      refine WK.ret [_] rfl ⟨rfl, trivial⟩ ?_
      exact ⟨ret1 (vi (Eq.symm ((Sy.fst_hit (show i < m.l.length from by omega) inv_i (by rw [Sy.symE_nm (by have q := h29; simpa using q)]; exact (by have q := h29; simpa using q))).trans (Sy.symE_nm (by have q := h29; simpa using q))))), xW⟩
    ·
      have p29 := (eq_t (not_f h29))
      refine WC.skip ?_
      refine WK.then_normal (k27 _ _ ?_)
      refine WC.sub [(1, _), (3, _), (4, _)] ⟨rfl, rfl, rfl, trivial⟩ ?_
      refine WC.seq (fun K31 k31 => ?_)
      refine WC.seq (fun K32 k32 => ?_)
      refine WC.region rfl ?_
      refine WL.yld rfl (blt rfl) rfl (Y.fieldAddr rfl Tryd.underlying36 rfl ti3 (by decide) rfl) ?_
      refine WL.yld rfl (blt rfl) rfl (Y.load1 rfl Tryd.underlying3 rfl rfl (Blk.at_eq m23 rfl)) ?_
      refine WL.yld rfl (blt rfl) rfl (Y.lss rfl rfl rfl) ?_
      refine WL.yld rfl (blt rfl) rfl (Y.move rfl rfl) ?_
      refine WL.yldG rfl (blt rfl) rfl rfl rfl (fun hb => Y.fieldAddr rfl Tryd.underlying36 rfl ti3 (by decide) rfl) ?_
      refine WL.yldG rfl (blt rfl) rfl rfl rfl (fun hb => Y.load1 rfl Tryd.underlying3 rfl (evg rfl hb) (Blk.at_eq m23 rfl)) ?_
      refine WL.yldG rfl (blt rfl) rfl rfl rfl (fun hb => Y.fieldAddr rfl Tryd.underlying34 rfl ti3 (by decide) rfl) ?_
      refine WL.yldG rfl (blt rfl) rfl rfl rfl (fun hb => Y.load1 rfl Tryd.underlying3 rfl (evg rfl hb) (Blk.at_eq m6 rfl)) ?_
      refine WL.yldG rfl (blt rfl) rfl rfl rfl (fun hb => Y.geq rfl (evg rfl hb) (evg rfl hb)) ?_
      refine WL.yld rfl (blt rfl) rfl (Y.or rfl rfl rfl rfl) ?_
      refine WL.nil ?_
      refine WK.then_normal (k32 _ _ ?_)
      refine WC.sub [(1, _), (3, _), (4, _), (33, _)] ⟨rfl, rfl, rfl, rfl, trivial⟩ ?_
      refine WC.cond rfl (fun h33 => ?_) (fun h33 => ?_)
      ·
        have p33 := ((or_t h33).imp (fun h => (dec_t h)) (fun h => (dec_t h)))
        refine WC.seq (fun K34 k34 => ?_)
        refine WC.region rfl ?_
        refine WL.yld rfl (blt rfl) rfl (Y.assign rfl rfl) ?_
        refine WL.nil ?_
        refine WK.then_normal (k34 _ _ ?_)
        refine WC.sub [(2, _)] ⟨rfl, trivial⟩ ?_
        refine WC.ret ?_
        refine WK.then_ret ?_
        refine WK.in_ret ?_
        refine WK.then_ret ?_
        refine WK.then_ret ?_
        refine WK.in_ret ?_
        refine WK.then_ret ?_
        clear k1 k7 k8 k10 k11 k13 k14 k24 k27 k28 k31 k32 k34
        refine WK.ret [_] rfl ⟨rfl, trivial⟩ ?_
        exact ⟨ret1 (vi (Eq.symm ((Sy.fst_hit (show i < m.l.length from by omega) inv_i (by rw [Sy.symE_rng (by have q := h29; simpa using q) (by have q := h33; simp only [Bool.or_eq_true, decide_eq_true_eq] at q; omega)]; decide)).trans (Sy.symE_rng (by have q := h29; simpa using q) (by have q := h33; simp only [Bool.or_eq_true, decide_eq_true_eq] at q; omega))))), xW⟩
      ·
        have p33 := (And.intro (dec_f (or_f h33).1) (dec_f (or_f h33).2))
        refine WC.skip ?_
        refine WK.then_normal (k31 _ _ ?_)
        refine WC.sub [(1, _), (3, _), (4, _)] ⟨rfl, rfl, rfl, trivial⟩ ?_
        refine WC.seq (fun K35 k35 => ?_)
        refine WC.regionDq (by kernel_rfl) (by kernel_rfl) rfl ?_
        refine WQ.yld rfl (blt rfl) rfl (Y.move rfl rfl) ?_
        refine WQ.yld rfl (blt rfl) rfl (Y.gtr rfl rfl rfl) ?_
        refine WQ.yld rfl (blt rfl) rfl (Y.move rfl rfl) ?_
        refine WQ.yldG rfl (blt rfl) rfl rfl rfl (fun hb => Y.fieldAddr rfl Tryd.underlying36 rfl ti3 (by decide) rfl) ?_
        refine WQ.yldG rfl (blt rfl) rfl rfl rfl (fun hb => Y.load1 rfl Tryd.underlying3 rfl (evg rfl hb) (Blk.at_ext m23 rfl)) ?_
        refine WQ.yldG rfl (blt rfl) rfl rfl rfl (fun hb => Y.fieldAddr rfl Tryd.underlying34 rfl ti32 (by decide) rfl) ?_
        refine WQ.yldG rfl (blt rfl) rfl rfl rfl (fun hb => Y.load1 rfl Tryd.underlying32 rfl (evg rfl hb) (Blk.at_ext m6 rfl)) ?_
        refine WQ.yldG rfl (blt rfl) rfl rfl rfl (fun hb => Y.move rfl rfl) ?_
        refine WQ.yldG rfl (blt rfl) rfl rfl rfl (fun hb => Y.sub rfl (evg rfl hb) rfl (wrap_i64 (by have q0 := (dec_t hb); first | omega | (dsimp only; omega)))) ?_
        refine WQ.yldG rfl (blt rfl) rfl rfl rfl (fun hb => Y.indexLs (i - 1) (h_m.ext xW) rfl Tryd.underlying32 ti36 (evg rfl hb) (evg rfl hb) (by have q0 := (dec_t hb); omega) (by have q0 := (dec_t hb); omega)) ?_
        refine WQ.yldG rfl (blt rfl) rfl rfl rfl (fun hb => Y.fieldE rfl Tryd.underlying36 rfl ti3 (by decide) (evg rfl hb)) ?_
        refine WQ.yldG rfl (blt rfl) rfl rfl rfl (fun hb => Y.load1 rfl Tryd.underlying3 rfl (evg rfl hb) (Ls.at_ext (h_m.ext xW) (by have q0 := (dec_t hb); omega) rfl)) ?_
        refine WQ.yldG rfl (blt rfl) rfl rfl rfl (fun hb => Y.leq rfl (evg rfl hb) (evg rfl hb)) ?_
        refine WQ.yld rfl (blt rfl) rfl (Y.and rfl rfl rfl rfl) ?_
        refine WQ.done (fun w36 x37 => ?_)
        have m6 := m6.ext x37
        have m23 := m23.ext x37
        have xW := Ext.trans xW x37
        refine WK.then_normal (k35 _ _ ?_)
        refine WC.sub [(1, _), (3, _), (47, _)] ⟨rfl, rfl, rfl, trivial⟩ ?_
        refine WC.cond rfl (fun h38 => ?_) (fun h38 => ?_)
        ·
          have p38 := (And.intro (dec_t (and_t h38).1) (dec_t (and_t h38).2))
          refine WC.seq (fun K39 k39 => ?_)
          refine WC.region rfl ?_
          refine WL.yld rfl (blt rfl) rfl (Y.assign rfl rfl) ?_
          refine WL.nil ?_
          refine WK.then_normal (k39 _ _ ?_)
          refine WC.sub [(2, _)] ⟨rfl, trivial⟩ ?_
          refine WC.ret ?_
          refine WK.in_ret ?_
          refine WK.then_ret ?_
          refine WK.then_ret ?_
          refine WK.in_ret ?_
          refine WK.then_ret ?_
          clear k1 k7 k8 k10 k11 k13 k14 k24 k27 k28 k31 k32 k35 k39
          refine WK.ret [_] rfl ⟨rfl, trivial⟩ ?_
          exact ⟨ret1 (vi (Eq.symm ((Sy.fst_hit (show i < m.l.length from by omega) inv_i (by rw [Sy.symE_ord (by have q := h29; simpa using q) (by have q := h33; simp only [Bool.or_eq_false_iff, decide_eq_false_iff_not] at q; omega) (by have q := h38; simp only [Bool.and_eq_true, decide_eq_true_eq] at q; omega)]; decide)).trans (Sy.symE_ord (by have q := h29; simpa using q) (by have q := h33; simp only [Bool.or_eq_false_iff, decide_eq_false_iff_not] at q; omega) (by have q := h38; simp only [Bool.and_eq_true, decide_eq_true_eq] at q; omega))))), xW⟩
        ·
          have p38 := ((and_f h38).imp (fun h => (dec_f h)) (fun h => (dec_f h)))
          refine WC.skip ?_
          refine WK.in_normal ?_
          refine WK.then_normal (k13 _ _ ?_)
          refine WC.sub [(1, _), (3, _)] ⟨rfl, rfl, trivial⟩ ?_
          refine WC.region rfl ?_
          refine WL.yld rfl (blt rfl) rfl (Y.move rfl rfl) ?_
          refine WL.yld rfl (blt rfl) rfl (Y.add rfl rfl rfl (wrap_i64 (by first | omega | (dsimp only; omega)))) ?_
          refine WL.yld rfl (blt rfl) rfl (Y.assign rfl rfl) ?_
          refine WL.nil ?_
          refine WK.roundS _ [(3, .int .i64 (((i + 1) : Nat) : Int))] ⟨rfl, rfl, trivial⟩ ?_ ⟨(i + 1), rfl, rfl, xW, m6, (by omega), (fun j hj => by rcases Nat.lt_succ_iff_lt_or_eq.1 hj with h | h; exact inv_i j h; subst h; exact (Sy.symE_ok (by have q := h29; simpa using q) (by have q := h33; simp only [Bool.or_eq_false_iff, decide_eq_false_iff_not] at q; omega) (by have q := h38; simp only [Bool.and_eq_false_iff, decide_eq_false_iff_not] at q; omega)))⟩
          show _ - (i + 1) < _ - i; omega
  ·
    have p12 := (dec_f h12)
    refine WC.exit ?_
    refine WK.then_exit ?_
    refine WK.then_exit ?_
    refine WK.in_exit ?_
    refine WK.then_normal (k7 _ _ ?_)
    refine WC.sub [] trivial ?_
    refine WC.seq (fun K40 k40 => ?_)
    refine WC.region rfl ?_
    refine WL.yld rfl (blt rfl) rfl (Y.assign rfl rfl) ?_
    refine WL.nil ?_
    refine WK.then_normal (k40 _ _ ?_)
    refine WC.ret ?_
    clear k1 k7 k8 k10 k11 k40
    refine WK.ret [_] rfl ⟨rfl, trivial⟩ ?_
    exact ⟨ret1 (vi (Eq.symm (Sy.fst_none fun j hj => inv_i j (by omega)))), xW⟩
theorem module_any (m : Sy.M) (a : Int) (w : World) (h_m : Ls w m.A m.n m.c Sy.S.c 2 m.l) :
    Calls Tryd.prog 23 #[.agg #[.string m.nm, .int .i64 m.b, .int .i64 m.s, .slice m.A m.n m.c], .int .i64 a] w fun e w' => e = .returned (.int .i64 (Sy.modE m a)) ∧ Ext w w' := by
  have xW := Ext.refl w
  have e_m := h_m.len
  have z_m := h_m.nle
  refine calls_of_WC (args := [.agg #[.string m.nm, .int .i64 m.b, .int .i64 m.s, .slice m.A m.n m.c], .int .i64 a]) Tryd.func23 rfl rfl (ble rfl) ?_
  refine WC.seq (fun K1 k1 => ?_)
  refine WC.region rfl ?_
  refine WL.box rfl (blt rfl) rfl rfl rfl rfl ?_
  intro g2 w3 e4 x5 m6
  have o_g2 := own_new xW e4
  have xW := Ext.trans xW x5
  refine WL.yld rfl (blt rfl) rfl (Y.assign rfl rfl) ?_
  refine WL.nil ?_
  refine WK.then_normal (k1 _ _ ?_)
  refine WC.sub [(1, _), (2, _)] ⟨rfl, rfl, trivial⟩ ?_
  refine WC.seq (fun K7 k7 => ?_)
  refine WC.seq (fun K8 k8 => ?_)
  refine WC.region rfl ?_
  refine WL.yld rfl (blt rfl) rfl (Y.fieldAddr rfl Tryd.underlying34 rfl ti9 (by decide) rfl) ?_
  refine WL.yld rfl (blt rfl) rfl (Y.load1 rfl Tryd.underlying9 rfl rfl (Blk.at_eq m6 rfl)) ?_
  refine WL.call rfl (blt rfl) rfl rfl rfl has39 rfl (name_any _ _ ) ?_
  rintro _ w9 ⟨rfl, x10⟩
  refine ⟨_, rfl, ?_⟩
  have m6 := m6.ext x10
  have xW := Ext.trans xW x10
  refine WL.yld rfl (blt rfl) rfl (Y.assign rfl rfl) ?_
  refine WL.nil ?_
  refine WK.then_normal (k8 _ _ ?_)
  refine WC.sub [(1, _), (2, _), (5, _)] ⟨rfl, rfl, rfl, trivial⟩ ?_
  refine WC.seq (fun K11 k11 => ?_)
  refine WC.region rfl ?_
  refine WL.yld rfl (blt rfl) rfl (Y.move rfl rfl) ?_
  refine WL.yld rfl (blt rfl) rfl (Y.neq rfl rfl rfl) ?_
  refine WL.nil ?_
  refine WK.then_normal (k11 _ _ ?_)
  refine WC.sub [(1, _), (2, _), (5, _), (13, _)] ⟨rfl, rfl, rfl, rfl, trivial⟩ ?_
  refine WC.cond rfl (fun h12 => ?_) (fun h12 => ?_)
  ·
    have p12 := (eq_f (not_t h12))
    refine WC.seq (fun K13 k13 => ?_)
    refine WC.region rfl ?_
    refine WL.yld rfl (blt rfl) rfl (Y.move rfl rfl) ?_
    refine WL.yld rfl (blt rfl) rfl (Y.assign rfl rfl) ?_
    refine WL.nil ?_
    refine WK.then_normal (k13 _ _ ?_)
    refine WC.sub [(4, _)] ⟨rfl, trivial⟩ ?_
    refine WC.ret ?_
    refine WK.then_ret ?_
    clear k1 k7 k8 k11 k13
    refine WK.ret [_] rfl ⟨rfl, trivial⟩ ?_
    exact ⟨ret1 (vi (Sy.modE_nm (by have q := h12; simpa using q)).symm), xW⟩
  ·
    have p12 := (eq_t (not_f h12))
    refine WC.skip ?_
    refine WK.then_normal (k7 _ _ ?_)
    refine WC.sub [(1, _), (2, _)] ⟨rfl, rfl, trivial⟩ ?_
    refine WC.seq (fun K14 k14 => ?_)
    refine WC.block ?_
    refine WC.seq (fun K15 k15 => ?_)
    refine WC.region rfl ?_
    refine WL.yld rfl (blt rfl) rfl (Y.fieldAddr rfl Tryd.underlying34 rfl ti3 (by decide) rfl) ?_
    refine WL.yld rfl (blt rfl) rfl (Y.load1 rfl Tryd.underlying3 rfl rfl (Blk.at_eq m6 rfl)) ?_
    refine WL.yld rfl (blt rfl) rfl (Y.lss rfl rfl rfl) ?_
    refine WL.yld rfl (blt rfl) rfl (Y.move rfl rfl) ?_
    refine WL.yldG rfl (blt rfl) rfl rfl rfl (fun hb => Y.fieldAddr rfl Tryd.underlying34 rfl ti3 (by decide) rfl) ?_
    refine WL.yldG rfl (blt rfl) rfl rfl rfl (fun hb => Y.load1 rfl Tryd.underlying3 rfl (evg rfl hb) (Blk.at_eq m6 rfl)) ?_
    refine WL.yldG rfl (blt rfl) rfl rfl rfl (fun hb => Y.gtr rfl (evg rfl hb) rfl) ?_
    refine WL.yld rfl (blt rfl) rfl (Y.or rfl rfl rfl rfl) ?_
    refine WL.yld rfl (blt rfl) rfl (Y.move rfl rfl) ?_
    refine WL.yldG rfl (blt rfl) rfl rfl rfl (fun hb => Y.fieldAddr rfl Tryd.underlying34 rfl ti3 (by decide) rfl) ?_
    refine WL.yldG rfl (blt rfl) rfl rfl rfl (fun hb => Y.load1 rfl Tryd.underlying3 rfl (evg rfl hb) (Blk.at_eq m6 rfl)) ?_
    refine WL.yldG rfl (blt rfl) rfl rfl rfl (fun hb => Y.lss rfl (evg rfl hb) rfl) ?_
    refine WL.yld rfl (blt rfl) rfl (Y.or rfl rfl rfl rfl) ?_
    refine WL.yld rfl (blt rfl) rfl (Y.move rfl rfl) ?_
    refine WL.yldG rfl (blt rfl) rfl rfl rfl (fun hb => Y.fieldAddr rfl Tryd.underlying34 rfl ti3 (by decide) rfl) ?_
    refine WL.yldG rfl (blt rfl) rfl rfl rfl (fun hb => Y.load1 rfl Tryd.underlying3 rfl (evg rfl hb) (Blk.at_eq m6 rfl)) ?_
    refine WL.yldG rfl (blt rfl) rfl rfl rfl (fun hb => Y.gtr rfl (evg rfl hb) rfl) ?_
    refine WL.yld rfl (blt rfl) rfl (Y.or rfl rfl rfl rfl) ?_
    refine WL.yld rfl (blt rfl) rfl (Y.move rfl rfl) ?_
    refine WL.yldG rfl (blt rfl) rfl rfl rfl (fun hb => Y.fieldAddr rfl Tryd.underlying34 rfl ti3 (by decide) rfl) ?_
    refine WL.yldG rfl (blt rfl) rfl rfl rfl (fun hb => Y.load1 rfl Tryd.underlying3 rfl (evg rfl hb) (Blk.at_eq m6 rfl)) ?_
    refine WL.yldG rfl (blt rfl) rfl rfl rfl (fun hb => Y.fieldAddr rfl Tryd.underlying34 rfl ti3 (by decide) rfl) ?_
    refine WL.yldG rfl (blt rfl) rfl rfl rfl (fun hb => Y.load1 rfl Tryd.underlying3 rfl (evg rfl hb) (Blk.at_eq m6 rfl)) ?_
    refine WL.yldG rfl (blt rfl) rfl rfl rfl (fun hb => Y.add rfl (evg rfl hb) (evg rfl hb) (wrap_i64 (by have q0 := (And.intro (And.intro (And.intro (dec_f (or_f (or_f (or_f hb).1).1).1) (dec_f (or_f (or_f (or_f hb).1).1).2)) (dec_f (or_f (or_f hb).1).2)) (dec_f (or_f hb).2)); first | omega | (dsimp only; omega)))) ?_
    refine WL.yldG rfl (blt rfl) rfl rfl rfl (fun hb => Y.gtr rfl (evg rfl hb) rfl) ?_
    refine WL.yld rfl (blt rfl) rfl (Y.or rfl rfl rfl rfl) ?_
    refine WL.yld rfl (blt rfl) rfl (Y.assign rfl rfl) ?_
    refine WL.nil ?_
    refine WK.then_normal (k15 _ _ ?_)
    refine WC.sub [(1, _), (2, _), (15, _)] ⟨rfl, rfl, rfl, trivial⟩ ?_
    refine WC.cond rfl (fun h16 => ?_) (fun h16 => ?_)
    ·
      have p16 := ((or_t h16).imp (fun h => ((or_t h).imp (fun h => ((or_t h).imp (fun h => ((or_t h).imp (fun h => (dec_t h)) (fun h => (dec_t h)))) (fun h => (dec_t h)))) (fun h => (dec_t h)))) (fun h => (dec_t h)))
      refine WC.seq (fun K17 k17 => ?_)
      refine WC.region rfl ?_
      refine WL.yld rfl (blt rfl) rfl (Y.assign rfl rfl) ?_
      refine WL.nil ?_
      refine WK.then_normal (k17 _ _ ?_)
      refine WC.sub [(4, _)] ⟨rfl, trivial⟩ ?_
      refine WC.ret ?_
      refine WK.in_ret ?_
      refine WK.then_ret ?_
      clear k1 k7 k8 k11 k14 k15 k17
      refine WK.ret [_] rfl ⟨rfl, trivial⟩ ?_
      exact ⟨ret1 (vi (Sy.modE_rng (by have q := h12; simpa using q) h16).symm), xW⟩
    ·
      have p16 := (And.intro (And.intro (And.intro (And.intro (dec_f (or_f (or_f (or_f (or_f h16).1).1).1).1) (dec_f (or_f (or_f (or_f (or_f h16).1).1).1).2)) (dec_f (or_f (or_f (or_f h16).1).1).2)) (dec_f (or_f (or_f h16).1).2)) (dec_f (or_f h16).2))
      refine WC.seq (fun K18 k18 => ?_)
      refine WC.region rfl ?_
      refine WL.yld rfl (blt rfl) rfl (Y.fieldAddr rfl Tryd.underlying34 rfl ti3 (by decide) rfl) ?_
      refine WL.yld rfl (blt rfl) rfl (Y.load1 rfl Tryd.underlying3 rfl rfl (Blk.at_eq m6 rfl)) ?_
      refine WL.yld rfl (blt rfl) rfl (Y.move rfl rfl) ?_
      refine WL.yld rfl (blt rfl) rfl (Y.lss rfl rfl rfl) ?_
      refine WL.yld rfl (blt rfl) rfl (Y.assign rfl rfl) ?_
      refine WL.nil ?_
      refine WK.then_normal (k18 _ _ ?_)
      refine WC.sub [(2, _), (42, _)] ⟨rfl, rfl, trivial⟩ ?_
      refine WC.cond rfl (fun h19 => ?_) (fun h19 => ?_)
      ·
        have p19 := (dec_t h19)
        refine WC.seq (fun K20 k20 => ?_)
        refine WC.region rfl ?_
        refine WL.yld rfl (blt rfl) rfl (Y.assign rfl rfl) ?_
        refine WL.nil ?_
        refine WK.then_normal (k20 _ _ ?_)
        refine WC.sub [(4, _)] ⟨rfl, trivial⟩ ?_
        refine WC.ret ?_
        refine WK.in_ret ?_
        refine WK.then_ret ?_
        clear k1 k7 k8 k11 k14 k15 k18 k20
        refine WK.ret [_] rfl ⟨rfl, trivial⟩ ?_
        exact ⟨ret1 (vi (Sy.modE_ord (by have q := h12; simpa using q) h16 (dec_t h19)).symm), xW⟩
      ·
        have p19 := (dec_f h19)
        refine WC.skip ?_
        refine WK.in_normal ?_
        refine WK.then_normal (k14 _ _ ?_)
        refine WC.sub [(2, _)] ⟨rfl, trivial⟩ ?_
        refine WC.seq (fun K21 k21 => ?_)
        refine WC.seq (fun K22 k22 => ?_)
        refine WC.region rfl ?_
        refine WL.yld rfl (blt rfl) rfl (Y.fieldAddr rfl Tryd.underlying34 rfl ti32 (by decide) rfl) ?_
        refine WL.yld rfl (blt rfl) rfl (Y.load1 rfl Tryd.underlying32 rfl rfl (Blk.at_eq m6 rfl)) ?_
        refine WL.yld rfl (blt rfl) rfl (Y.lenSl rfl rfl rfl Tryd.underlying32 rfl) ?_
        refine WL.yld rfl (blt rfl) rfl (Y.move rfl rfl) ?_
        refine WL.nil ?_
        refine WK.then_normal (k22 _ _ ?_)
        refine WC.sub [(2, _), (48, _), (49, _), (50, _)] ⟨rfl, rfl, rfl, rfl, trivial⟩ ?_
        refine WC.block ?_
        refine WC.sub [(50, _), (2, _), (48, _), (49, _)] ⟨rfl, rfl, rfl, rfl, trivial⟩ ?_
        refine WC.loopS 1 (fun mz Ed W' => ∃ i : Nat, mz = m.n - i ∧ Ed = [(50, .int .i64 ((i : Nat) : Int))] ∧ Ext w W' ∧ Blk W' g2 34 _ ∧ (i ≤ m.n) ∧ (∀ j, j < i → Sy.symE m.s m.l j = 0)) _ ⟨0, rfl, rfl, xW, m6, (Nat.zero_le _), (fun j hj => absurd hj (Nat.not_lt_zero j))⟩ ?_
        rintro _ _ w23 ⟨i, rfl, rfl, xW, m6, le_i, inv_i⟩
        refine WC.sub [(50, _), (2, _), (48, _), (49, _)] ⟨rfl, rfl, rfl, rfl, trivial⟩ ?_
        refine WC.seq (fun K24 k24 => ?_)
        refine WC.region rfl ?_
        refine WL.yld rfl (blt rfl) rfl (Y.lss rfl rfl rfl) ?_
        refine WL.nil ?_
        refine WK.then_normal (k24 _ _ ?_)
        refine WC.seq (fun K25 k25 => ?_)
        refine WC.cond rfl (fun h26 => ?_) (fun h26 => ?_)
        ·
          have p26 := (dec_t h26)
          refine WC.skip ?_
          refine WK.then_normal (k25 _ _ ?_)
          refine WC.sub [(2, _), (48, _), (49, _), (50, _)] ⟨rfl, rfl, rfl, rfl, trivial⟩ ?_
          refine WC.seq (fun K27 k27 => ?_)
          refine WC.block ?_
          refine WC.seq (fun K28 k28 => ?_)
          refine WC.region rfl ?_
          refine WL.yld rfl (blt rfl) rfl (Y.move rfl rfl) ?_
          have b29 : i < m.n := by omega
          refine WL.yld rfl (blt rfl) rfl (Y.indexLs i (h_m.ext xW) rfl Tryd.underlying32 ti36 rfl rfl rfl b29) ?_
          refine WL.yld rfl (blt rfl) rfl (Y.loadS (cs := [_, _]) rfl Tryd.underlying36 rfl ti36 rfl (Ls.part_eq (h_m.ext xW) b29 rfl)) ?_
          refine WL.alloc rfl (blt rfl) rfl rfl ti36 rfl ?_
          intro g30 w31 e32 x33 m34
          have n_g2_g30 := ne_new m6 e32
          have o_g30 := own_new xW e32
          have m6 := m6.ext x33
          have xW := Ext.trans xW x33
          refine WL.yld rfl (blt rfl) rfl (Y.assign rfl rfl) ?_
          refine WL.store (cs' := [_, _]) rfl rfl rfl rfl rfl rfl ti36 m34 (ble rfl) rfl rfl (fun w35 on36 m37 => ?_)
          have m6 := m6.only n_g2_g30 on36
          have xW := Ext.only xW on36 o_g30
          refine WL.nil ?_
          refine WK.then_normal (k28 _ _ ?_)
          refine WC.sub [(2, _), (6, _), (7, _), (48, _), (49, _), (50, _)] ⟨rfl, rfl, rfl, rfl, rfl, rfl, trivial⟩ ?_
          refine WC.seq (fun K38 k38 => ?_)
          refine WC.seq (fun K39 k39 => ?_)
          refine WC.region rfl ?_
          refine WL.yld rfl (blt rfl) rfl (Y.fieldAddr rfl Tryd.underlying36 rfl ti9 (by decide) rfl) ?_
          refine WL.yld rfl (blt rfl) rfl (Y.load1 rfl Tryd.underlying9 rfl rfl (Blk.at_eq m37 rfl)) ?_
          refine WL.call rfl (blt rfl) rfl rfl rfl has39 rfl (name_any _ _ ) ?_
          rintro _ w40 ⟨rfl, x41⟩
          refine ⟨_, rfl, ?_⟩
          have m6 := m6.ext x41
          have m37 := m37.ext x41
          have xW := Ext.trans xW x41
          refine WL.yld rfl (blt rfl) rfl (Y.assign rfl rfl) ?_
          refine WL.nil ?_
          refine WK.then_normal (k39 _ _ ?_)
          refine WC.sub [(2, _), (6, _), (7, _), (8, _), (48, _), (49, _), (50, _)] ⟨rfl, rfl, rfl, rfl, rfl, rfl, rfl, trivial⟩ ?_
          refine WC.seq (fun K42 k42 => ?_)
          refine WC.region rfl ?_
          refine WL.yld rfl (blt rfl) rfl (Y.move rfl rfl) ?_
          refine WL.yld rfl (blt rfl) rfl (Y.neq rfl rfl rfl) ?_
          refine WL.nil ?_
          refine WK.then_normal (k42 _ _ ?_)
          refine WC.sub [(2, _), (6, _), (7, _), (8, _), (48, _), (49, _), (50, _), (59, _)] ⟨rfl, rfl, rfl, rfl, rfl, rfl, rfl, rfl, trivial⟩ ?_
          refine WC.cond rfl (fun h43 => ?_) (fun h43 => ?_)
          ·
            have p43 := (eq_f (not_t h43))
            refine WC.seq (fun K44 k44 => ?_)
            refine WC.region rfl ?_
            refine WL.yld rfl (blt rfl) rfl (Y.move rfl rfl) ?_
            refine WL.yld rfl (blt rfl) rfl (Y.assign rfl rfl) ?_
            refine WL.nil ?_
            refine WK.then_normal (k44 _ _ ?_)
            refine WC.sub [(4, _)] ⟨rfl, trivial⟩ ?_
            refine WC.ret ?_
            refine WK.then_ret ?_
            refine WK.in_ret ?_
            refine WK.then_ret ?_
            refine WK.then_ret ?_
            refine WK.in_ret ?_
            refine WK.then_ret ?_
            clear k1 k7 k8 k11 k14 k15 k18 k21 k22 k24 k25 k27 k28 k38 k39 k42 k44
            refine WK.ret [_] rfl ⟨rfl, trivial⟩ ?_
            exact ⟨ret1 (vi (Eq.symm ((Sy.modE_sym (by have q := h12; simpa using q) h16 (dec_f h19)).trans ((Sy.fst_hit (show i < m.l.length from by omega) inv_i (by rw [Sy.symE_nm (by have q := h43; simpa using q)]; exact (by have q := h43; simpa using q))).trans (Sy.symE_nm (by have q := h43; simpa using q)))))), xW⟩
          ·
            have p43 := (eq_t (not_f h43))
            refine WC.skip ?_
            refine WK.then_normal (k38 _ _ ?_)
            refine WC.sub [(2, _), (6, _), (7, _), (48, _), (49, _), (50, _)] ⟨rfl, rfl, rfl, rfl, rfl, rfl, trivial⟩ ?_
            refine WC.seq (fun K45 k45 => ?_)
            refine WC.seq (fun K46 k46 => ?_)
            refine WC.region rfl ?_
            refine WL.yld rfl (blt rfl) rfl (Y.fieldAddr rfl Tryd.underlying36 rfl ti3 (by decide) rfl) ?_
            refine WL.yld rfl (blt rfl) rfl (Y.load1 rfl Tryd.underlying3 rfl rfl (Blk.at_eq m37 rfl)) ?_
            refine WL.yld rfl (blt rfl) rfl (Y.lss rfl rfl rfl) ?_
            refine WL.yld rfl (blt rfl) rfl (Y.move rfl rfl) ?_
            refine WL.yldG rfl (blt rfl) rfl rfl rfl (fun hb => Y.fieldAddr rfl Tryd.underlying36 rfl ti3 (by decide) rfl) ?_
            refine WL.yldG rfl (blt rfl) rfl rfl rfl (fun hb => Y.load1 rfl Tryd.underlying3 rfl (evg rfl hb) (Blk.at_eq m37 rfl)) ?_
            refine WL.yldG rfl (blt rfl) rfl rfl rfl (fun hb => Y.fieldAddr rfl Tryd.underlying34 rfl ti3 (by decide) rfl) ?_
            refine WL.yldG rfl (blt rfl) rfl rfl rfl (fun hb => Y.load1 rfl Tryd.underlying3 rfl (evg rfl hb) (Blk.at_eq m6 rfl)) ?_
            refine WL.yldG rfl (blt rfl) rfl rfl rfl (fun hb => Y.geq rfl (evg rfl hb) (evg rfl hb)) ?_
            refine WL.yld rfl (blt rfl) rfl (Y.or rfl rfl rfl rfl) ?_
            refine WL.nil ?_
            refine WK.then_normal (k46 _ _ ?_)
            refine WC.sub [(2, _), (6, _), (7, _), (48, _), (49, _), (50, _), (70, _)] ⟨rfl, rfl, rfl, rfl, rfl, rfl, rfl, trivial⟩ ?_
            refine WC.cond rfl (fun h47 => ?_) (fun h47 => ?_)
            ·
              have p47 := ((or_t h47).imp (fun h => (dec_t h)) (fun h => (dec_t h)))
              refine WC.seq (fun K48 k48 => ?_)
              refine WC.region rfl ?_
              refine WL.yld rfl (blt rfl) rfl (Y.assign rfl rfl) ?_
              refine WL.nil ?_
              refine WK.then_normal (k48 _ _ ?_)
              refine WC.sub [(4, _)] ⟨rfl, trivial⟩ ?_
              refine WC.ret ?_
              refine WK.then_ret ?_
              refine WK.in_ret ?_
              refine WK.then_ret ?_
              refine WK.then_ret ?_
              refine WK.in_ret ?_
              refine WK.then_ret ?_
              clear k1 k7 k8 k11 k14 k15 k18 k21 k22 k24 k25 k27 k28 k38 k39 k42 k45 k46 k48
              refine WK.ret [_] rfl ⟨rfl, trivial⟩ ?_
              exact ⟨ret1 (vi (Eq.symm ((Sy.modE_sym (by have q := h12; simpa using q) h16 (dec_f h19)).trans ((Sy.fst_hit (show i < m.l.length from by omega) inv_i (by rw [Sy.symE_rng (by have q := h43; simpa using q) (by have q := h47; simp only [Bool.or_eq_true, decide_eq_true_eq] at q; omega)]; decide)).trans (Sy.symE_rng (by have q := h43; simpa using q) (by have q := h47; simp only [Bool.or_eq_true, decide_eq_true_eq] at q; omega)))))), xW⟩
            ·
              have p47 := (And.intro (dec_f (or_f h47).1) (dec_f (or_f h47).2))
              refine WC.skip ?_
              refine WK.then_normal (k45 _ _ ?_)
              refine WC.sub [(2, _), (6, _), (7, _), (48, _), (49, _), (50, _)] ⟨rfl, rfl, rfl, rfl, rfl, rfl, trivial⟩ ?_
              refine WC.seq (fun K49 k49 => ?_)
              refine WC.regionDq (by kernel_rfl) (by kernel_rfl) rfl ?_
              refine WQ.yld rfl (blt rfl) rfl (Y.move rfl rfl) ?_
              refine WQ.yld rfl (blt rfl) rfl (Y.gtr rfl rfl rfl) ?_
              refine WQ.yld rfl (blt rfl) rfl (Y.move rfl rfl) ?_
              refine WQ.yldG rfl (blt rfl) rfl rfl rfl (fun hb => Y.fieldAddr rfl Tryd.underlying36 rfl ti3 (by decide) rfl) ?_
              refine WQ.yldG rfl (blt rfl) rfl rfl rfl (fun hb => Y.load1 rfl Tryd.underlying3 rfl (evg rfl hb) (Blk.at_ext m37 rfl)) ?_
              refine WQ.yldG rfl (blt rfl) rfl rfl rfl (fun hb => Y.fieldAddr rfl Tryd.underlying34 rfl ti32 (by decide) rfl) ?_
              refine WQ.yldG rfl (blt rfl) rfl rfl rfl (fun hb => Y.load1 rfl Tryd.underlying32 rfl (evg rfl hb) (Blk.at_ext m6 rfl)) ?_
              refine WQ.yldG rfl (blt rfl) rfl rfl rfl (fun hb => Y.move rfl rfl) ?_
              refine WQ.yldG rfl (blt rfl) rfl rfl rfl (fun hb => Y.sub rfl (evg rfl hb) rfl (wrap_i64 (by have q0 := (dec_t hb); first | omega | (dsimp only; omega)))) ?_
              refine WQ.yldG rfl (blt rfl) rfl rfl rfl (fun hb => Y.indexLs (i - 1) (h_m.ext xW) rfl Tryd.underlying32 ti36 (evg rfl hb) (evg rfl hb) (by have q0 := (dec_t hb); omega) (by have q0 := (dec_t hb); omega)) ?_
              refine WQ.yldG rfl (blt rfl) rfl rfl rfl (fun hb => Y.fieldE rfl Tryd.underlying36 rfl ti3 (by decide) (evg rfl hb)) ?_
              refine WQ.yldG rfl (blt rfl) rfl rfl rfl (fun hb => Y.load1 rfl Tryd.underlying3 rfl (evg rfl hb) (Ls.at_ext (h_m.ext xW) (by have q0 := (dec_t hb); omega) rfl)) ?_
              refine WQ.yldG rfl (blt rfl) rfl rfl rfl (fun hb => Y.leq rfl (evg rfl hb) (evg rfl hb)) ?_
              refine WQ.yld rfl (blt rfl) rfl (Y.and rfl rfl rfl rfl) ?_
              refine WQ.done (fun w50 x51 => ?_)
              have m6 := m6.ext x51
              have m37 := m37.ext x51
              have xW := Ext.trans xW x51
              refine WK.then_normal (k49 _ _ ?_)
              refine WC.sub [(2, _), (48, _), (49, _), (50, _), (84, _)] ⟨rfl, rfl, rfl, rfl, rfl, trivial⟩ ?_
              refine WC.cond rfl (fun h52 => ?_) (fun h52 => ?_)
              ·
                have p52 := (And.intro (dec_t (and_t h52).1) (dec_t (and_t h52).2))
                refine WC.seq (fun K53 k53 => ?_)
                refine WC.region rfl ?_
                refine WL.yld rfl (blt rfl) rfl (Y.assign rfl rfl) ?_
                refine WL.nil ?_
                refine WK.then_normal (k53 _ _ ?_)
                refine WC.sub [(4, _)] ⟨rfl, trivial⟩ ?_
                refine WC.ret ?_
                refine WK.in_ret ?_
                refine WK.then_ret ?_
                refine WK.then_ret ?_
                refine WK.in_ret ?_
                refine WK.then_ret ?_
                clear k1 k7 k8 k11 k14 k15 k18 k21 k22 k24 k25 k27 k28 k38 k39 k42 k45 k46 k49 k53
                refine WK.ret [_] rfl ⟨rfl, trivial⟩ ?_
                exact ⟨ret1 (vi (Eq.symm ((Sy.modE_sym (by have q := h12; simpa using q) h16 (dec_f h19)).trans ((Sy.fst_hit (show i < m.l.length from by omega) inv_i (by rw [Sy.symE_ord (by have q := h43; simpa using q) (by have q := h47; simp only [Bool.or_eq_false_iff, decide_eq_false_iff_not] at q; omega) (by have q := h52; simp only [Bool.and_eq_true, decide_eq_true_eq] at q; omega)]; decide)).trans (Sy.symE_ord (by have q := h43; simpa using q) (by have q := h47; simp only [Bool.or_eq_false_iff, decide_eq_false_iff_not] at q; omega) (by have q := h52; simp only [Bool.and_eq_true, decide_eq_true_eq] at q; omega)))))), xW⟩
              ·
                have p52 := ((and_f h52).imp (fun h => (dec_f h)) (fun h => (dec_f h)))
                refine WC.skip ?_
                refine WK.in_normal ?_
                refine WK.then_normal (k27 _ _ ?_)
                refine WC.sub [(2, _), (48, _), (49, _), (50, _)] ⟨rfl, rfl, rfl, rfl, trivial⟩ ?_
                refine WC.region rfl ?_
                refine WL.yld rfl (blt rfl) rfl (Y.add rfl rfl rfl (wrap_i64 (by first | omega | (dsimp only; omega)))) ?_
                refine WL.yld rfl (blt rfl) rfl (Y.move rfl rfl) ?_
                refine WL.nil ?_
                refine WK.roundS _ [(50, .int .i64 (((i + 1) : Nat) : Int))] ⟨rfl, rfl, rfl, rfl, trivial⟩ ?_ ⟨(i + 1), rfl, rfl, xW, m6, (by omega), (fun j hj => by rcases Nat.lt_succ_iff_lt_or_eq.1 hj with h | h; exact inv_i j h; subst h; exact (Sy.symE_ok (by have q := h43; simpa using q) (by have q := h47; simp only [Bool.or_eq_false_iff, decide_eq_false_iff_not] at q; omega) (by have q := h52; simp only [Bool.and_eq_false_iff, decide_eq_false_iff_not] at q; omega)))⟩
                show _ - (i + 1) < _ - i; omega
        ·
          have p26 := (dec_f h26)
          refine WC.exit ?_
          refine WK.then_exit ?_
          refine WK.then_exit ?_
          refine WK.in_exit ?_
          refine WK.then_normal (k21 _ _ ?_)
          refine WC.sub [] trivial ?_
          refine WC.seq (fun K54 k54 => ?_)
          refine WC.region rfl ?_
          refine WL.yld rfl (blt rfl) rfl (Y.assign rfl rfl) ?_
          refine WL.nil ?_
          refine WK.then_normal (k54 _ _ ?_)
          refine WC.ret ?_
          clear k1 k7 k8 k11 k14 k15 k18 k21 k22 k24 k25 k54
          refine WK.ret [_] rfl ⟨rfl, trivial⟩ ?_
          exact ⟨ret1 (vi (Eq.symm ((Sy.modE_sym (by have q := h12; simpa using q) h16 (dec_f h19)).trans (Sy.fst_none fun j hj => inv_i j (by omega))))), xW⟩
theorem check_any (A_l : Option Addr) (n_l c_l : Nat) (l : List Sy.M) (w : World) (h_l : Ls w A_l n_l c_l Sy.M.v 4 l) (g_l : Sy.Good w l) (hF : Sy.Few l) :
    Calls Tryd.prog 12 #[.slice A_l n_l c_l] w fun e w' => e = .returned (.int .i64 (Sy.chkE l)) ∧ Ext w w' := by
  have xW := Ext.refl w
  have e_l := h_l.len
  have z_l := h_l.nle
  refine calls_of_WC (args := [.slice A_l n_l c_l]) Tryd.func12 rfl rfl (ble rfl) ?_
  refine WC.seq (fun K1 k1 => ?_)
  refine WC.region rfl ?_
  refine WL.yld rfl (blt rfl) rfl (Y.assign rfl rfl) ?_
  refine WL.nil ?_
  refine WK.then_normal (k1 _ _ ?_)
  refine WC.sub [(0, _)] ⟨rfl, trivial⟩ ?_
  refine WC.seq (fun K2 k2 => ?_)
  refine WC.region rfl ?_
  refine WL.yld rfl (blt rfl) rfl (Y.assign rfl rfl) ?_
  refine WL.nil ?_
  refine WK.then_normal (k2 _ _ ?_)
  refine WC.seq (fun K3 k3 => ?_)
  refine WC.seq (fun K4 k4 => ?_)
  refine WC.region rfl ?_
  refine WL.yld rfl (blt rfl) rfl (Y.move rfl rfl) ?_
  refine WL.yld rfl (blt rfl) rfl (Y.lenSl rfl rfl rfl Tryd.underlying22 rfl) ?_
  refine WL.yld rfl (blt rfl) rfl (Y.move rfl rfl) ?_
  refine WL.nil ?_
  refine WK.then_normal (k4 _ _ ?_)
  refine WC.block ?_
  refine WC.sub [(12, _), (3, _), (0, _), (10, _), (11, _)] ⟨rfl, rfl, rfl, rfl, rfl, trivial⟩ ?_
  refine WC.loopS 2 (fun mz Ed W' => ∃ i : Nat, ∃ z : Nat, mz = n_l - i ∧ Ed = [(12, .int .i64 ((i : Nat) : Int)), (3, .int .i64 ((z : Nat) : Int))] ∧ Ext w W' ∧ (i ≤ n_l) ∧ (z = Sy.tot l i)) _ ⟨0, 0, rfl, rfl, xW, (Nat.zero_le _), rfl⟩ ?_
  rintro _ _ w5 ⟨i, z, rfl, rfl, xW, le_i, zi⟩
  refine WC.sub [(12, _), (3, _), (0, _), (10, _), (11, _)] ⟨rfl, rfl, rfl, rfl, rfl, trivial⟩ ?_
  refine WC.seq (fun K6 k6 => ?_)
  refine WC.region rfl ?_
  refine WL.yld rfl (blt rfl) rfl (Y.lss rfl rfl rfl) ?_
  refine WL.nil ?_
  refine WK.then_normal (k6 _ _ ?_)
  refine WC.seq (fun K7 k7 => ?_)
  refine WC.cond rfl (fun h8 => ?_) (fun h8 => ?_)
  ·
    have p8 := (dec_t h8)
    have mb := hF.m _ (bang_mem (show i < l.length from by omega))
    have tb := Sy.tot_le hF i (by omega)
    have fn := hF.n
    refine WC.skip ?_
    refine WK.then_normal (k7 _ _ ?_)
    refine WC.sub [(0, _), (3, _), (10, _), (11, _), (12, _)] ⟨rfl, rfl, rfl, rfl, rfl, trivial⟩ ?_
    refine WC.seq (fun K9 k9 => ?_)
    refine WC.block ?_
    refine WC.seq (fun K10 k10 => ?_)
    refine WC.region rfl ?_
    have b11 : i < n_l := by omega
    refine WL.yld rfl (blt rfl) rfl (Y.indexLs i (h_l.ext xW) rfl Tryd.underlying22 ti34 rfl rfl rfl b11) ?_
    refine WL.yld rfl (blt rfl) rfl (Y.loadS (cs := [_, _, _, _]) rfl Tryd.underlying34 rfl ti34 rfl (Ls.part_eq (h_l.ext xW) b11 rfl)) ?_
    refine WL.alloc rfl (blt rfl) rfl rfl ti34 rfl ?_
    intro g12 w13 e14 x15 m16
    have o_g12 := own_new xW e14
    have xW := Ext.trans xW x15
    refine WL.store (cs' := [_, _, _, _]) rfl rfl rfl rfl rfl rfl ti34 m16 (ble rfl) rfl rfl (fun w17 on18 m19 => ?_)
    have xW := Ext.only xW on18 o_g12
    refine WL.nil ?_
    refine WK.then_normal (k10 _ _ ?_)
    refine WC.sub [(0, _), (3, _), (5, _), (10, _), (11, _), (12, _)] ⟨rfl, rfl, rfl, rfl, rfl, rfl, trivial⟩ ?_
    refine WC.region rfl ?_
    refine WL.yld rfl (blt rfl) rfl (Y.move rfl rfl) ?_
    refine WL.yld rfl (blt rfl) rfl (Y.fieldAddr rfl Tryd.underlying34 rfl ti32 (by decide) rfl) ?_
    refine WL.yld rfl (blt rfl) rfl (Y.load1 rfl Tryd.underlying32 rfl rfl (Blk.at_eq m19 rfl)) ?_
    refine WL.yld rfl (blt rfl) rfl (Y.lenSl rfl rfl rfl Tryd.underlying32 rfl) ?_
    refine WL.yld rfl (blt rfl) rfl (Y.add rfl rfl rfl (wrap_i64 (by first | omega | (dsimp only; omega)))) ?_
    refine WL.yld rfl (blt rfl) rfl (Y.assign rfl rfl) ?_
    refine WL.nil ?_
    refine WK.in_normal ?_
    refine WK.then_normal (k9 _ _ ?_)
    refine WC.sub [(0, _), (3, _), (10, _), (11, _), (12, _)] ⟨rfl, rfl, rfl, rfl, rfl, trivial⟩ ?_
    refine WC.region rfl ?_
    refine WL.yld rfl (blt rfl) rfl (Y.add rfl rfl rfl (wrap_i64 (by first | omega | (dsimp only; omega)))) ?_
    refine WL.yld rfl (blt rfl) rfl (Y.move rfl rfl) ?_
    refine WL.nil ?_
    refine WK.roundS _ [(12, .int .i64 (((i + 1) : Nat) : Int)), (3, .int .i64 (((z + l[i]!.n) : Nat) : Int))] ⟨rfl, rfl, rfl, rfl, rfl, trivial⟩ ?_ ⟨(i + 1), (z + l[i]!.n), rfl, rfl, xW, (by omega), (by rw [zi]; rfl)⟩
    show _ - (i + 1) < _ - i; omega
  ·
    have p8 := (dec_f h8)
    have tb := Sy.tot_le hF i (by omega)
    have fn := hF.n
    refine WC.exit ?_
    refine WK.then_exit ?_
    refine WK.then_exit ?_
    refine WK.in_exit ?_
    refine WK.then_normal (k3 _ _ ?_)
    refine WC.sub [(0, _), (3, _)] ⟨rfl, rfl, trivial⟩ ?_
    refine WC.seq (fun K20 k20 => ?_)
    refine WC.seq (fun K21 k21 => ?_)
    refine WC.region rfl ?_
    refine WL.yld rfl (blt rfl) rfl (Y.move rfl rfl) ?_
    refine WL.yld rfl (blt rfl) rfl (Y.lenSl rfl rfl rfl Tryd.underlying22 rfl) ?_
    refine WL.yld rfl (blt rfl) rfl (Y.gtr rfl rfl rfl) ?_
    refine WL.yld rfl (blt rfl) rfl (Y.move rfl rfl) ?_
    refine WL.yldG rfl (blt rfl) rfl rfl rfl (fun hb => Y.move rfl rfl) ?_
    refine WL.yldG rfl (blt rfl) rfl rfl rfl (fun hb => Y.gtr rfl (evg rfl hb) rfl) ?_
    refine WL.yld rfl (blt rfl) rfl (Y.or rfl rfl rfl rfl) ?_
    refine WL.nil ?_
    refine WK.then_normal (k21 _ _ ?_)
    refine WC.sub [(0, _), (28, _)] ⟨rfl, rfl, trivial⟩ ?_
    refine WC.cond rfl (fun h22 => ?_) (fun h22 => ?_)
    ·
      have p22 := ((or_t h22).imp (fun h => (dec_t h)) (fun h => (dec_t h)))
      have hm : Sy.many l = true := (Sy.many_at e_l (show z = Sy.tot l n_l from by rw [zi, show i = n_l by omega])).symm.trans h22
      refine WC.seq (fun K23 k23 => ?_)
      refine WC.region rfl ?_
      refine WL.yld rfl (blt rfl) rfl (Y.assign rfl rfl) ?_
      refine WL.nil ?_
      refine WK.then_normal (k23 _ _ ?_)
      refine WC.sub [(2, _)] ⟨rfl, trivial⟩ ?_
      refine WC.ret ?_
      refine WK.then_ret ?_
      clear k1 k2 k3 k4 k6 k7 k20 k21 k23
      refine WK.ret [_] rfl ⟨rfl, trivial⟩ ?_
      exact ⟨ret1 (vi (Sy.chk_many hm).symm), xW⟩
    ·
      have p22 := (And.intro (dec_f (or_f h22).1) (dec_f (or_f h22).2))
      have hm : Sy.many l = false := (Sy.many_at e_l (show z = Sy.tot l n_l from by rw [zi, show i = n_l by omega])).symm.trans h22
      refine WC.skip ?_
      refine WK.then_normal (k20 _ _ ?_)
      refine WC.sub [(0, _)] ⟨rfl, trivial⟩ ?_
      refine WC.seq (fun K24 k24 => ?_)
      refine WC.region rfl ?_
      refine WL.yld rfl (blt rfl) rfl (Y.assign rfl rfl) ?_
      refine WL.nil ?_
      refine WK.then_normal (k24 _ _ ?_)
      refine WC.seq (fun K25 k25 => ?_)
      refine WC.seq (fun K26 k26 => ?_)
      refine WC.region rfl ?_
      refine WL.yld rfl (blt rfl) rfl (Y.move rfl rfl) ?_
      refine WL.yld rfl (blt rfl) rfl (Y.lenSl rfl rfl rfl Tryd.underlying22 rfl) ?_
      refine WL.yld rfl (blt rfl) rfl (Y.move rfl rfl) ?_
      refine WL.nil ?_
      refine WK.then_normal (k26 _ _ ?_)
      refine WC.sub [(6, _), (29, _), (30, _), (31, _)] ⟨rfl, rfl, rfl, rfl, trivial⟩ ?_
      refine WC.block ?_
      refine WC.sub [(31, _), (6, _), (29, _), (30, _)] ⟨rfl, rfl, rfl, rfl, trivial⟩ ?_
      refine WC.loopS 2 (fun mz Ed W' => ∃ i : Nat, ∃ a : Int, mz = n_l - i ∧ Ed = [(31, .int .i64 ((i : Nat) : Int)), (6, .int .i64 a)] ∧ Ext w W' ∧ (i ≤ n_l) ∧ (∀ j, j < i → Sy.chk1 l j = 0) ∧ (a = Sy.befo l i)) _ ⟨0, 0, rfl, rfl, xW, (Nat.zero_le _), (fun j hj => absurd hj (Nat.not_lt_zero j)), rfl⟩ ?_
      rintro _ _ w27 ⟨i, a, rfl, rfl, xW, le_i, inv_i, ai⟩
      refine WC.sub [(31, _), (6, _), (29, _), (30, _)] ⟨rfl, rfl, rfl, rfl, trivial⟩ ?_
      refine WC.seq (fun K28 k28 => ?_)
      refine WC.region rfl ?_
      refine WL.yld rfl (blt rfl) rfl (Y.lss rfl rfl rfl) ?_
      refine WL.nil ?_
      refine WK.then_normal (k28 _ _ ?_)
      refine WC.seq (fun K29 k29 => ?_)
      refine WC.cond rfl (fun h30 => ?_) (fun h30 => ?_)
      ·
        have p30 := (dec_t h30)
        refine WC.skip ?_
        refine WK.then_normal (k29 _ _ ?_)
        refine WC.sub [(6, _), (29, _), (30, _), (31, _)] ⟨rfl, rfl, rfl, rfl, trivial⟩ ?_
        refine WC.seq (fun K31 k31 => ?_)
        refine WC.block ?_
        refine WC.seq (fun K32 k32 => ?_)
        refine WC.region rfl ?_
        have b33 : i < n_l := by omega
        refine WL.yld rfl (blt rfl) rfl (Y.indexLs i (h_l.ext xW) rfl Tryd.underlying22 ti34 rfl rfl rfl b33) ?_
        refine WL.yld rfl (blt rfl) rfl (Y.loadS (cs := [_, _, _, _]) rfl Tryd.underlying34 rfl ti34 rfl (Ls.part_eq (h_l.ext xW) b33 rfl)) ?_
        refine WL.alloc rfl (blt rfl) rfl rfl ti34 rfl ?_
        intro g34 w35 e36 x37 m38
        have o_g34 := own_new xW e36
        have xW := Ext.trans xW x37
        refine WL.store (cs' := [_, _, _, _]) rfl rfl rfl rfl rfl rfl ti34 m38 (ble rfl) rfl rfl (fun w39 on40 m41 => ?_)
        have xW := Ext.only xW on40 o_g34
        refine WL.nil ?_
        refine WK.then_normal (k32 _ _ ?_)
        refine WC.sub [(6, _), (8, _), (29, _), (30, _), (31, _)] ⟨rfl, rfl, rfl, rfl, rfl, trivial⟩ ?_
        refine WC.seq (fun K42 k42 => ?_)
        refine WC.seq (fun K43 k43 => ?_)
        refine WC.region rfl ?_
        refine WL.yld rfl (blt rfl) rfl (Y.loadS rfl Tryd.underlying34 rfl ti34 rfl (Blk.row_eq m41)) ?_
        refine WL.yld rfl (blt rfl) rfl (Y.move rfl rfl) ?_
        refine WL.call rfl (blt rfl) rfl rfl rfl has23 rfl (module_any _ _ _ ((g_l _ (bang_mem (show i < l.length from by omega))).ext xW)) ?_
        rintro _ w44 ⟨rfl, x45⟩
        refine ⟨_, rfl, ?_⟩
        have m41 := m41.ext x45
        have xW := Ext.trans xW x45
        refine WL.yld rfl (blt rfl) rfl (Y.assign rfl rfl) ?_
        refine WL.nil ?_
        refine WK.then_normal (k43 _ _ ?_)
        refine WC.sub [(8, _), (9, _), (29, _), (30, _), (31, _)] ⟨rfl, rfl, rfl, rfl, rfl, trivial⟩ ?_
        refine WC.seq (fun K46 k46 => ?_)
        refine WC.region rfl ?_
        refine WL.yld rfl (blt rfl) rfl (Y.move rfl rfl) ?_
        refine WL.yld rfl (blt rfl) rfl (Y.neq rfl rfl rfl) ?_
        refine WL.nil ?_
        refine WK.then_normal (k46 _ _ ?_)
        refine WC.sub [(8, _), (9, _), (29, _), (30, _), (31, _), (39, _)] ⟨rfl, rfl, rfl, rfl, rfl, rfl, trivial⟩ ?_
        refine WC.cond rfl (fun h47 => ?_) (fun h47 => ?_)
        ·
          have p47 := (eq_f (not_t h47))
          refine WC.seq (fun K48 k48 => ?_)
          refine WC.region rfl ?_
          refine WL.yld rfl (blt rfl) rfl (Y.move rfl rfl) ?_
          refine WL.yld rfl (blt rfl) rfl (Y.assign rfl rfl) ?_
          refine WL.nil ?_
          refine WK.then_normal (k48 _ _ ?_)
          refine WC.sub [(2, _)] ⟨rfl, trivial⟩ ?_
          refine WC.ret ?_
          refine WK.then_ret ?_
          refine WK.in_ret ?_
          refine WK.then_ret ?_
          refine WK.then_ret ?_
          refine WK.in_ret ?_
          refine WK.then_ret ?_
          clear k1 k2 k3 k4 k6 k7 k20 k21 k24 k25 k26 k28 k29 k31 k32 k42 k43 k46 k48
          refine WK.ret [_] rfl ⟨rfl, trivial⟩ ?_
          exact ⟨ret1 (vi (Eq.symm ((Sy.chk_few hm).trans ((Sy.fst_hit (show i < l.length from by omega) inv_i (by unfold Sy.chk1; rw [← ai]; exact (by have q := h47; simpa using q))).trans (by unfold Sy.chk1; rw [← ai]))))), xW⟩
        ·
          have p47 := (eq_t (not_f h47))
          have ck0 : Sy.chk1 l i = 0 := by unfold Sy.chk1; rw [← ai]; exact (by have q := h47; simpa using q)
          have va := (Sy.modE_val ck0).rng
          refine WC.skip ?_
          refine WK.then_normal (k42 _ _ ?_)
          refine WC.sub [(8, _), (29, _), (30, _), (31, _)] ⟨rfl, rfl, rfl, rfl, trivial⟩ ?_
          refine WC.region rfl ?_
          refine WL.yld rfl (blt rfl) rfl (Y.fieldAddr rfl Tryd.underlying34 rfl ti3 (by decide) rfl) ?_
          refine WL.yld rfl (blt rfl) rfl (Y.load1 rfl Tryd.underlying3 rfl rfl (Blk.at_eq m41 rfl)) ?_
          refine WL.yld rfl (blt rfl) rfl (Y.fieldAddr rfl Tryd.underlying34 rfl ti3 (by decide) rfl) ?_
          refine WL.yld rfl (blt rfl) rfl (Y.load1 rfl Tryd.underlying3 rfl rfl (Blk.at_eq m41 rfl)) ?_
          refine WL.yld rfl (blt rfl) rfl (Y.add rfl rfl rfl (wrap_i64 (by first | omega | (dsimp only; omega)))) ?_
          refine WL.yld rfl (blt rfl) rfl (Y.assign rfl rfl) ?_
          refine WL.nil ?_
          refine WK.in_normal ?_
          refine WK.then_normal (k31 _ _ ?_)
          refine WC.sub [(6, _), (29, _), (30, _), (31, _)] ⟨rfl, rfl, rfl, rfl, trivial⟩ ?_
          refine WC.region rfl ?_
          refine WL.yld rfl (blt rfl) rfl (Y.add rfl rfl rfl (wrap_i64 (by first | omega | (dsimp only; omega)))) ?_
          refine WL.yld rfl (blt rfl) rfl (Y.move rfl rfl) ?_
          refine WL.nil ?_
          refine WK.roundS _ [(31, .int .i64 (((i + 1) : Nat) : Int)), (6, .int .i64 _)] ⟨rfl, rfl, rfl, rfl, trivial⟩ ?_ ⟨(i + 1), _, rfl, rfl, xW, (by omega), (fun j hj => by rcases Nat.lt_succ_iff_lt_or_eq.1 hj with h | h; exact inv_i j h; subst h; exact ck0), (Sy.befo_next l i).symm⟩
          show _ - (i + 1) < _ - i; omega
      ·
        have p30 := (dec_f h30)
        refine WC.exit ?_
        refine WK.then_exit ?_
        refine WK.then_exit ?_
        refine WK.in_exit ?_
        refine WK.then_normal (k25 _ _ ?_)
        refine WC.sub [] trivial ?_
        refine WC.seq (fun K49 k49 => ?_)
        refine WC.region rfl ?_
        refine WL.yld rfl (blt rfl) rfl (Y.assign rfl rfl) ?_
        refine WL.nil ?_
        refine WK.then_normal (k49 _ _ ?_)
        refine WC.ret ?_
        clear k1 k2 k3 k4 k6 k7 k20 k21 k24 k25 k26 k28 k29 k49
        refine WK.ret [_] rfl ⟨rfl, trivial⟩ ?_
        exact ⟨ret1 (vi (Eq.symm ((Sy.chk_few hm).trans (Sy.fst_none fun j hj => inv_i j (by omega))))), xW⟩
end SyW

end Go.Proofs.YtghfncgciaiofaaDoor
