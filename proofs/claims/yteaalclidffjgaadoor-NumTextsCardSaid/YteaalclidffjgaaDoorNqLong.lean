/- Contracts: long division. Conditions: what each theorem states. -/
import Derived.Test.YteaalclidffjgaaDoorNqWalk
import Derived.Test.YteaalclidffjgaaDoorNqOps
import Derived.Test.YteaalclidffjgaaDoorNqLay
namespace Go.Proofs.YteaalclidffjgaaDoor
open Go Go.Eng Go.RowKit
set_option linter.unusedVariables false
namespace NqW
namespace D
theorem has42 : Has Tryd.prog 42 := ⟨_, Tryd.func42, rfl, by kernel_rfl⟩
theorem has50 : Has Tryd.prog 50 := ⟨_, Tryd.func50, rfl, by kernel_rfl⟩
theorem len64_any (n : Int) (w : World) (hn : 1 ≤ n ∧ n ≤ 18446744073709551615) : Calls Tryd.prog 50 #[.int .u64 n] w fun e w' => e = .returned (.int .i64 (Lib.bitLen n.toNat)) ∧ Ext w w' :=
  (Any.bits_Len64 Tryd.lays129 n w (by omega) (by omega)).mono fun e w' ⟨he, hw⟩ => ⟨he, by subst hw; exact Ext.refl _⟩
theorem lz_any (n : Int) (w : World) (hn : 1 ≤ n ∧ n ≤ 18446744073709551615) :
    Calls Tryd.prog 42 #[.int .u64 n] w fun e w' => e = .returned (.int .i64 ((Nq.lz n : Nat) : Int)) ∧ Ext w w' := by
  have xW := Ext.refl w
  have bl := Nq.bl hn
  refine calls_of_WC (args := [.int .u64 n]) Tryd.func42 rfl rfl (ble rfl) ?_
  refine WC.seq (fun K1 k1 => ?_)
  refine WC.region rfl ?_
  refine WL.yld rfl (blt rfl) rfl (Y.assign rfl rfl) ?_
  refine WL.nil ?_
  refine WK.then_normal (k1 _ _ ?_)
  refine WC.sub [(0, _)] ⟨rfl, trivial⟩ ?_
  refine WC.seq (fun K2 k2 => ?_)
  refine WC.region rfl ?_
  refine WL.yld rfl (blt rfl) rfl (Y.move rfl rfl) ?_
  refine WL.call rfl (blt rfl) rfl rfl rfl has50 rfl (len64_any _ _ hn) ?_
  rintro _ w3 ⟨rfl, x4⟩
  refine ⟨_, rfl, ?_⟩
  have xW := Ext.trans xW x4
  refine WL.yld rfl (blt rfl) rfl (Y.sub rfl rfl rfl (wrap_i64 (by first | omega | (dsimp only; omega)))) ?_
  refine WL.yld rfl (blt rfl) rfl (Y.assign rfl rfl) ?_
  refine WL.nil ?_
  refine WK.then_normal (k2 _ _ ?_)
  refine WC.sub [(2, _)] ⟨rfl, trivial⟩ ?_
  refine WC.ret ?_
  clear k1 k2
  refine WK.ret [_] rfl ⟨rfl, trivial⟩ ?_
  refine ⟨ret1 (vi ?_), xW⟩
  unfold Nq.lz; omega
theorem div64_lo (lo y : Int) (w : World) (hl : 0 ≤ lo ∧ lo ≤ 18446744073709551615) (hy : 1 ≤ y ∧ y ≤ 18446744073709551615) :
    Calls Tryd.prog 33 #[.int .u64 0, .int .u64 lo, .int .u64 y] w fun e w' => e = .returned (.tuple #[.int .u64 (lo / y), .int .u64 (lo % y)]) ∧ Ext w w' := by
  have xW := Ext.refl w
  refine calls_of_WC (args := [.int .u64 0, .int .u64 lo, .int .u64 y]) Tryd.func33 rfl rfl (ble rfl) ?_
  refine WC.seq (fun K1 k1 => ?_)
  refine WC.region rfl ?_
  refine WL.yld rfl (blt rfl) rfl (Y.assign rfl rfl) ?_
  refine WL.yld rfl (blt rfl) rfl (Y.assign rfl rfl) ?_
  refine WL.nil ?_
  refine WK.then_normal (k1 _ _ ?_)
  refine WC.sub [(0, _), (1, _), (2, _)] ⟨rfl, rfl, rfl, trivial⟩ ?_
  refine WC.seq (fun K2 k2 => ?_)
  refine WC.seq (fun K3 k3 => ?_)
  refine WC.region rfl ?_
  refine WL.yld rfl (blt rfl) rfl (Y.move rfl rfl) ?_
  refine WL.yld rfl (blt rfl) rfl (Yld.cast (Y.eql rfl rfl rfl) (vb (b := false) (Nq.eq_no (by omega)))) ?_
  refine WL.nil ?_
  refine WK.then_normal (k3 _ _ ?_)
  refine WC.sub [(0, _), (1, _), (2, _), (20, _)] ⟨rfl, rfl, rfl, rfl, trivial⟩ ?_
  refine WC.condF rfl ?_
  refine WC.skip ?_
  refine WK.then_normal (k2 _ _ ?_)
  refine WC.sub [(0, _), (1, _), (2, _)] ⟨rfl, rfl, rfl, trivial⟩ ?_
  refine WC.seq (fun K4 k4 => ?_)
  refine WC.seq (fun K5 k5 => ?_)
  refine WC.region rfl ?_
  refine WL.yld rfl (blt rfl) rfl (Y.move rfl rfl) ?_
  refine WL.yld rfl (blt rfl) rfl (Y.move rfl rfl) ?_
  refine WL.yld rfl (blt rfl) rfl (Yld.cast (Y.leq rfl rfl rfl) (vb (b := false) (decide_eq_false (by omega)))) ?_
  refine WL.nil ?_
  refine WK.then_normal (k5 _ _ ?_)
  refine WC.sub [(0, _), (1, _), (2, _), (24, _)] ⟨rfl, rfl, rfl, rfl, trivial⟩ ?_
  refine WC.condF rfl ?_
  refine WC.skip ?_
  refine WK.then_normal (k4 _ _ ?_)
  refine WC.sub [(0, _), (1, _), (2, _)] ⟨rfl, rfl, rfl, trivial⟩ ?_
  refine WC.seq (fun K6 k6 => ?_)
  refine WC.seq (fun K7 k7 => ?_)
  refine WC.region rfl ?_
  refine WL.yld rfl (blt rfl) rfl (Y.move rfl rfl) ?_
  refine WL.yld rfl (blt rfl) rfl (Yld.cast (Y.eql rfl rfl rfl) (vb (b := true) rfl)) ?_
  refine WL.nil ?_
  refine WK.then_normal (k7 _ _ ?_)
  refine WC.sub [(0, _), (1, _), (2, _), (27, _)] ⟨rfl, rfl, rfl, rfl, trivial⟩ ?_
  refine WC.condT rfl ?_
  refine WC.seq (fun K8 k8 => ?_)
  refine WC.regionDq (by kernel_rfl) (by kernel_rfl) rfl ?_
  refine WQ.yld rfl (blt rfl) rfl (Y.move rfl rfl) ?_
  refine WQ.yld rfl (blt rfl) rfl (Y.move rfl rfl) ?_
  refine WQ.yld rfl (blt rfl) rfl (Y.quo rfl rfl rfl (by omega) (wrap_quo_u64 (by omega) (by omega) (by omega))) ?_
  refine WQ.yld rfl (blt rfl) rfl (Y.move rfl rfl) ?_
  refine WQ.yld rfl (blt rfl) rfl (Y.move rfl rfl) ?_
  refine WQ.yld rfl (blt rfl) rfl (Y.rem rfl rfl rfl (by omega) (rem_pos (by omega))) ?_
  refine WQ.yld rfl (blt rfl) rfl (Y.assign rfl rfl) ?_
  refine WQ.yld rfl (blt rfl) rfl (Y.assign rfl rfl) ?_
  refine WQ.done (fun w9 x10 => ?_)
  have xW := Ext.trans xW x10
  refine WK.then_normal (k8 _ _ ?_)
  refine WC.sub [(6, _), (7, _)] ⟨rfl, rfl, trivial⟩ ?_
  refine WC.ret ?_
  refine WK.then_ret ?_
  clear k1 k2 k3 k4 k5 k6 k7 k8
  refine WK.ret [_, _] rfl ⟨rfl, rfl, trivial⟩ ?_
  exact ⟨rfl, xW⟩
theorem div64_hi (hi lo y : Int) (w : World) (hz : hi ≠ 0) (hh : 0 ≤ hi ∧ hi < y) (hl : 0 ≤ lo ∧ lo ≤ 18446744073709551615) (hy : 1 ≤ y ∧ y ≤ 18446744073709551615) :
    Calls Tryd.prog 33 #[.int .u64 hi, .int .u64 lo, .int .u64 y] w fun e w' => e = .returned (.tuple #[.int .u64 ((hi * 18446744073709551616 + lo) / y), .int .u64 ((hi * 18446744073709551616 + lo) % y)]) ∧ Ext w w' := by
  have xW := Ext.refl w
  have sr := Nq.sh_rng hy
  have zl := Nq.lz_le hy
  have ul := Nq.un_lt hh.1 hh.2 hl hy
  have hY : Nq.sh y = (Nq.sh y / 4294967296) * 4294967296 + (Nq.sh y % 4294967296) := by omega
  have h1 : 2147483648 ≤ (Nq.sh y / 4294967296) ∧ (Nq.sh y / 4294967296) < 4294967296 := by omega
  have h0 : 0 ≤ (Nq.sh y % 4294967296) ∧ (Nq.sh y % 4294967296) < 4294967296 := by omega
  have hv1 : 0 ≤ ((Nq.un hi lo y % 18446744073709551616) / 4294967296) ∧ ((Nq.un hi lo y % 18446744073709551616) / 4294967296) < 4294967296 := by omega
  have hv0 : 0 ≤ ((Nq.un hi lo y % 18446744073709551616) % 4294967296) ∧ ((Nq.un hi lo y % 18446744073709551616) % 4294967296) < 4294967296 := by omega
  have hR : 0 ≤ (((Nq.un hi lo y / 18446744073709551616) * 4294967296 + ((Nq.un hi lo y % 18446744073709551616) / 4294967296)) % Nq.sh y) ∧ (((Nq.un hi lo y / 18446744073709551616) * 4294967296 + ((Nq.un hi lo y % 18446744073709551616) / 4294967296)) % Nq.sh y) < Nq.sh y := ⟨Int.emod_nonneg _ (by omega), Int.emod_lt_of_pos _ (by omega)⟩
  have ds1 := Nq.d_start hY h1 h0 ul hv1
  have ds2 := Nq.d_start hY h1 h0 hR hv0
  have lt1 := Nq.d_lt hY h1 h0 ul hv1
  have lt2 := Nq.d_lt hY h1 h0 hR hv0
  refine calls_of_WC (args := [.int .u64 hi, .int .u64 lo, .int .u64 y]) Tryd.func33 rfl rfl (ble rfl) ?_
  refine WC.seq (fun K1 k1 => ?_)
  refine WC.region rfl ?_
  refine WL.yld rfl (blt rfl) rfl (Y.assign rfl rfl) ?_
  refine WL.yld rfl (blt rfl) rfl (Y.assign rfl rfl) ?_
  refine WL.nil ?_
  refine WK.then_normal (k1 _ _ ?_)
  refine WC.sub [(0, _), (1, _), (2, _)] ⟨rfl, rfl, rfl, trivial⟩ ?_
  refine WC.seq (fun K2 k2 => ?_)
  refine WC.seq (fun K3 k3 => ?_)
  refine WC.region rfl ?_
  refine WL.yld rfl (blt rfl) rfl (Y.move rfl rfl) ?_
  refine WL.yld rfl (blt rfl) rfl (Yld.cast (Y.eql rfl rfl rfl) (vb (b := false) (Nq.eq_no (by omega)))) ?_
  refine WL.nil ?_
  refine WK.then_normal (k3 _ _ ?_)
  refine WC.sub [(0, _), (1, _), (2, _), (20, _)] ⟨rfl, rfl, rfl, rfl, trivial⟩ ?_
  refine WC.condF rfl ?_
  refine WC.skip ?_
  refine WK.then_normal (k2 _ _ ?_)
  refine WC.sub [(0, _), (1, _), (2, _)] ⟨rfl, rfl, rfl, trivial⟩ ?_
  refine WC.seq (fun K4 k4 => ?_)
  refine WC.seq (fun K5 k5 => ?_)
  refine WC.region rfl ?_
  refine WL.yld rfl (blt rfl) rfl (Y.move rfl rfl) ?_
  refine WL.yld rfl (blt rfl) rfl (Y.move rfl rfl) ?_
  refine WL.yld rfl (blt rfl) rfl (Yld.cast (Y.leq rfl rfl rfl) (vb (b := false) (decide_eq_false (by omega)))) ?_
  refine WL.nil ?_
  refine WK.then_normal (k5 _ _ ?_)
  refine WC.sub [(0, _), (1, _), (2, _), (24, _)] ⟨rfl, rfl, rfl, rfl, trivial⟩ ?_
  refine WC.condF rfl ?_
  refine WC.skip ?_
  refine WK.then_normal (k4 _ _ ?_)
  refine WC.sub [(0, _), (1, _), (2, _)] ⟨rfl, rfl, rfl, trivial⟩ ?_
  refine WC.seq (fun K6 k6 => ?_)
  refine WC.seq (fun K7 k7 => ?_)
  refine WC.region rfl ?_
  refine WL.yld rfl (blt rfl) rfl (Y.move rfl rfl) ?_
  refine WL.yld rfl (blt rfl) rfl (Yld.cast (Y.eql rfl rfl rfl) (vb (b := false) (Nq.eq_no (by omega)))) ?_
  refine WL.nil ?_
  refine WK.then_normal (k7 _ _ ?_)
  refine WC.sub [(0, _), (1, _), (2, _), (27, _)] ⟨rfl, rfl, rfl, rfl, trivial⟩ ?_
  refine WC.condF rfl ?_
  refine WC.skip ?_
  refine WK.then_normal (k6 _ _ ?_)
  refine WC.sub [(0, _), (1, _), (2, _)] ⟨rfl, rfl, rfl, trivial⟩ ?_
  refine WC.seq (fun K8 k8 => ?_)
  refine WC.region rfl ?_
  refine WL.yld rfl (blt rfl) rfl (Y.move rfl rfl) ?_
  refine WL.call rfl (blt rfl) rfl rfl rfl has42 rfl (lz_any _ _ hy) ?_
  rintro _ w9 ⟨rfl, x10⟩
  refine ⟨_, rfl, ?_⟩
  have xW := Ext.trans xW x10
  refine WL.yld rfl (blt rfl) rfl (Y.convInt rfl Tryd.underlying3 Tryd.underlying57 rfl (wrap_u64 (by first | omega | (dsimp only; omega)))) ?_
  refine WL.yld rfl (blt rfl) rfl (Y.assign rfl rfl) ?_
  refine WL.nil ?_
  refine WK.then_normal (k8 _ _ ?_)
  refine WC.sub [(0, _), (1, _), (2, _), (8, _)] ⟨rfl, rfl, rfl, rfl, trivial⟩ ?_
  refine WC.seq (fun K11 k11 => ?_)
  refine WC.region rfl ?_
  refine WL.yld rfl (blt rfl) rfl (Y.move rfl rfl) ?_
  refine WL.yld rfl (blt rfl) rfl (Y.move rfl rfl) ?_
  refine WL.yld rfl (blt rfl) rfl (Y.shl rfl rfl rfl (by omega) (Nq.shl_y hy)) ?_
  refine WL.yld rfl (blt rfl) rfl (Y.assign rfl rfl) ?_
  refine WL.nil ?_
  refine WK.then_normal (k11 _ _ ?_)
  refine WC.sub [(0, _), (1, _), (2, _), (8, _)] ⟨rfl, rfl, rfl, rfl, trivial⟩ ?_
  refine WC.seq (fun K12 k12 => ?_)
  refine WC.region rfl ?_
  refine WL.yld rfl (blt rfl) rfl (Y.move rfl rfl) ?_
  refine WL.yld rfl (blt rfl) rfl (Y.shr rfl rfl rfl (by omega) (shr32 (by omega))) ?_
  refine WL.yld rfl (blt rfl) rfl (Y.assign rfl rfl) ?_
  refine WL.nil ?_
  refine WK.then_normal (k12 _ _ ?_)
  refine WC.sub [(0, _), (1, _), (2, _), (8, _), (9, _)] ⟨rfl, rfl, rfl, rfl, rfl, trivial⟩ ?_
  refine WC.seq (fun K13 k13 => ?_)
  refine WC.region rfl ?_
  refine WL.yld rfl (blt rfl) rfl (Y.move rfl rfl) ?_
  refine WL.yld rfl (blt rfl) rfl (Y.andM rfl rfl rfl (by omega)) ?_
  refine WL.yld rfl (blt rfl) rfl (Y.assign rfl rfl) ?_
  refine WL.nil ?_
  refine WK.then_normal (k13 _ _ ?_)
  refine WC.sub [(0, _), (1, _), (2, _), (8, _), (9, _), (10, _)] ⟨rfl, rfl, rfl, rfl, rfl, rfl, trivial⟩ ?_
  refine WC.seq (fun K14 k14 => ?_)
  refine WC.region rfl ?_
  refine WL.yld rfl (blt rfl) rfl (Y.move rfl rfl) ?_
  refine WL.yld rfl (blt rfl) rfl (Y.move rfl rfl) ?_
  refine WL.yld rfl (blt rfl) rfl (Y.shl rfl rfl rfl (by omega) (Nq.shl_hi hh.1 hh.2 hy)) ?_
  refine WL.yld rfl (blt rfl) rfl (Y.move rfl rfl) ?_
  refine WL.yld rfl (blt rfl) rfl (Y.move rfl rfl) ?_
  refine WL.yld rfl (blt rfl) rfl (Yld.cast (Y.sub rfl rfl rfl (wrap_u64 (by first | omega | (dsimp only; omega)))) (vi (b := ((64 - Nq.lz y : Nat) : Int)) (by omega))) ?_
  refine WL.yld rfl (blt rfl) rfl (Y.shr rfl rfl rfl (by omega) (Nq.shr_lo hl.1)) ?_
  refine WL.yld rfl (blt rfl) rfl (Y.orM rfl rfl rfl (fun _ => Nq.or_un hh.1 hh.2 hl hy)) ?_
  refine WL.yld rfl (blt rfl) rfl (Y.assign rfl rfl) ?_
  refine WL.nil ?_
  refine WK.then_normal (k14 _ _ ?_)
  refine WC.sub [(1, _), (2, _), (8, _), (9, _), (10, _), (11, _)] ⟨rfl, rfl, rfl, rfl, rfl, rfl, trivial⟩ ?_
  refine WC.seq (fun K15 k15 => ?_)
  refine WC.region rfl ?_
  refine WL.yld rfl (blt rfl) rfl (Y.move rfl rfl) ?_
  refine WL.yld rfl (blt rfl) rfl (Y.move rfl rfl) ?_
  refine WL.yld rfl (blt rfl) rfl (Yld.cast (Y.shl rfl rfl rfl (by omega) (Nq.shl_lo hy)) (vi (Nq.un_parts (hi := hi) hl hy).2.1)) ?_
  refine WL.yld rfl (blt rfl) rfl (Y.assign rfl rfl) ?_
  refine WL.nil ?_
  refine WK.then_normal (k15 _ _ ?_)
  refine WC.sub [(2, _), (8, _), (9, _), (10, _), (11, _), (12, _)] ⟨rfl, rfl, rfl, rfl, rfl, rfl, trivial⟩ ?_
  refine WC.seq (fun K16 k16 => ?_)
  refine WC.region rfl ?_
  refine WL.yld rfl (blt rfl) rfl (Y.move rfl rfl) ?_
  refine WL.yld rfl (blt rfl) rfl (Y.shr rfl rfl rfl (by omega) (shr32 (by omega))) ?_
  refine WL.yld rfl (blt rfl) rfl (Y.assign rfl rfl) ?_
  refine WL.nil ?_
  refine WK.then_normal (k16 _ _ ?_)
  refine WC.sub [(2, _), (8, _), (9, _), (10, _), (11, _), (12, _), (13, _)] ⟨rfl, rfl, rfl, rfl, rfl, rfl, rfl, trivial⟩ ?_
  refine WC.seq (fun K17 k17 => ?_)
  refine WC.region rfl ?_
  refine WL.yld rfl (blt rfl) rfl (Y.move rfl rfl) ?_
  refine WL.yld rfl (blt rfl) rfl (Y.andM rfl rfl rfl (by omega)) ?_
  refine WL.yld rfl (blt rfl) rfl (Y.assign rfl rfl) ?_
  refine WL.nil ?_
  refine WK.then_normal (k17 _ _ ?_)
  refine WC.sub [(2, _), (8, _), (9, _), (10, _), (11, _), (13, _), (14, _)] ⟨rfl, rfl, rfl, rfl, rfl, rfl, rfl, trivial⟩ ?_
  refine WC.seq (fun K18 k18 => ?_)
  refine WC.region rfl ?_
  refine WL.yld rfl (blt rfl) rfl (Y.move rfl rfl) ?_
  refine WL.yld rfl (blt rfl) rfl (Y.move rfl rfl) ?_
  refine WL.yld rfl (blt rfl) rfl (Y.quo rfl rfl rfl (by omega) (wrap_quo_u64 (by omega) (by omega) (by omega))) ?_
  refine WL.yld rfl (blt rfl) rfl (Y.assign rfl rfl) ?_
  refine WL.nil ?_
  refine WK.then_normal (k18 _ _ ?_)
  refine WC.sub [(2, _), (8, _), (9, _), (10, _), (11, _), (13, _), (14, _), (15, _)] ⟨rfl, rfl, rfl, rfl, rfl, rfl, rfl, rfl, trivial⟩ ?_
  refine WC.seq (fun K19 k19 => ?_)
  refine WC.region rfl ?_
  refine WL.yld rfl (blt rfl) rfl (Y.move rfl rfl) ?_
  refine WL.yld rfl (blt rfl) rfl (Y.move rfl rfl) ?_
  refine WL.yld rfl (blt rfl) rfl (Y.move rfl rfl) ?_
  refine WL.yld rfl (blt rfl) rfl (Y.mul rfl rfl rfl (Nq.ds_wrap ds1.2.2.2.2.1 (by omega) ds1.2.2.1 (by omega))) ?_
  refine WL.yld rfl (blt rfl) rfl (Y.sub rfl rfl rfl (wrap_u64 ⟨ds1.2.2.1, by have q := ds1.2.2.2.1; omega⟩)) ?_
  refine WL.yld rfl (blt rfl) rfl (Y.assign rfl rfl) ?_
  refine WL.nil ?_
  refine WK.then_normal (k19 _ _ ?_)
  refine WC.sub [(2, _), (8, _), (9, _), (10, _), (11, _), (13, _), (14, _), (15, _), (16, _)] ⟨rfl, rfl, rfl, rfl, rfl, rfl, rfl, rfl, rfl, trivial⟩ ?_
  refine WC.seq (fun K20 k20 => ?_)
  refine WC.block ?_
  refine WC.sub [(15, _), (16, _), (2, _), (8, _), (9, _), (10, _), (11, _), (13, _), (14, _)] ⟨rfl, rfl, rfl, rfl, rfl, rfl, rfl, rfl, rfl, trivial⟩ ?_
  refine WC.loopS 2 (fun mz Ed W' => ∃ q1 : Int, ∃ r1 : Int, mz = q1.toNat ∧ Ed = [(15, .int .u64 q1), (16, .int .u64 r1)] ∧ Ext w W' ∧ (q1 * (Nq.sh y / 4294967296) + r1 = (Nq.un hi lo y / 18446744073709551616)) ∧ (((Nq.un hi lo y / 18446744073709551616) * 4294967296 + ((Nq.un hi lo y % 18446744073709551616) / 4294967296)) / Nq.sh y ≤ q1) ∧ ((0 ≤ r1 ∧ r1 < 4294967296) ∧ 0 ≤ q1 ∧ q1 ≤ 8589934592)) _ ⟨_, _, rfl, rfl, xW, ds1.1, ds1.2.1, ⟨⟨ds1.2.2.1, ds1.2.2.2.1⟩, ds1.2.2.2.2⟩⟩ ?_
  rintro _ _ w21 ⟨q1, r1, rfl, rfl, xW, iq1, gq1, bq1⟩
  refine WC.sub [(15, _), (16, _), (2, _), (8, _), (9, _), (10, _), (11, _), (13, _), (14, _)] ⟨rfl, rfl, rfl, rfl, rfl, rfl, rfl, rfl, rfl, trivial⟩ ?_
  refine WC.seq (fun K22 k22 => ?_)
  refine WC.seq (fun K23 k23 => ?_)
  refine WC.region rfl ?_
  refine WL.yld rfl (blt rfl) rfl (Y.move rfl rfl) ?_
  refine WL.yld rfl (blt rfl) rfl (Y.geq rfl rfl rfl) ?_
  refine WL.yld rfl (blt rfl) rfl (Y.move rfl rfl) ?_
  refine WL.yldG rfl (blt rfl) rfl rfl rfl (fun hb => Y.move rfl rfl) ?_
  refine WL.yldG rfl (blt rfl) rfl rfl rfl (fun hb => Y.move rfl rfl) ?_
  refine WL.yldG rfl (blt rfl) rfl rfl rfl (fun hb => Y.mul rfl (evg rfl hb) (evg rfl hb) (Nq.qy hb bq1.2.1 h0)) ?_
  refine WL.yldG rfl (blt rfl) rfl rfl rfl (fun hb => Y.move rfl rfl) ?_
  refine WL.yldG rfl (blt rfl) rfl rfl rfl (fun hb => Y.mul rfl rfl (evg rfl hb) (wrap_u64 (by have q0 := (dec_f hb); first | omega | (dsimp only; omega)))) ?_
  refine WL.yldG rfl (blt rfl) rfl rfl rfl (fun hb => Y.move rfl rfl) ?_
  refine WL.yldG rfl (blt rfl) rfl rfl rfl (fun hb => Y.add rfl (evg rfl hb) (evg rfl hb) (wrap_u64 (by have q0 := (dec_f hb); first | omega | (dsimp only; omega)))) ?_
  refine WL.yldG rfl (blt rfl) rfl rfl rfl (fun hb => Y.gtr rfl (evg rfl hb) (evg rfl hb)) ?_
  refine WL.yld rfl (blt rfl) rfl (Y.or rfl rfl rfl rfl) ?_
  refine WL.nil ?_
  refine WK.then_normal (k23 _ _ ?_)
  refine WC.sub [(2, _), (8, _), (9, _), (10, _), (11, _), (13, _), (14, _), (15, _), (16, _), (78, _)] ⟨rfl, rfl, rfl, rfl, rfl, rfl, rfl, rfl, rfl, rfl, trivial⟩ ?_
  refine WC.cond rfl (fun h24 => ?_) (fun h24 => ?_)
  ·
    have p24 := ((or_t h24).imp (fun h => (dec_t h)) (fun h => (dec_t h)))
    have dt1 := Nq.dt h24
    have qp1 := Nq.q_pos dt1 bq1.2.1 bq1.1.1 hv1.1
    have dd1 := Nq.d_dec hY h1 h0 ul hv1 iq1 gq1 dt1
    refine WC.skip ?_
    refine WK.then_normal (k22 _ _ ?_)
    refine WC.sub [(2, _), (8, _), (9, _), (10, _), (11, _), (13, _), (14, _), (15, _), (16, _)] ⟨rfl, rfl, rfl, rfl, rfl, rfl, rfl, rfl, rfl, trivial⟩ ?_
    refine WC.block ?_
    refine WC.seq (fun K25 k25 => ?_)
    refine WC.region rfl ?_
    refine WL.yld rfl (blt rfl) rfl (Y.move rfl rfl) ?_
    refine WL.yld rfl (blt rfl) rfl (Y.sub rfl rfl rfl (wrap_u64 (by first | omega | (dsimp only; omega)))) ?_
    refine WL.yld rfl (blt rfl) rfl (Y.assign rfl rfl) ?_
    refine WL.nil ?_
    refine WK.then_normal (k25 _ _ ?_)
    refine WC.sub [(2, _), (8, _), (9, _), (10, _), (11, _), (13, _), (14, _), (15, _), (16, _)] ⟨rfl, rfl, rfl, rfl, rfl, rfl, rfl, rfl, rfl, trivial⟩ ?_
    refine WC.seq (fun K26 k26 => ?_)
    refine WC.region rfl ?_
    refine WL.yld rfl (blt rfl) rfl (Y.move rfl rfl) ?_
    refine WL.yld rfl (blt rfl) rfl (Y.move rfl rfl) ?_
    refine WL.yld rfl (blt rfl) rfl (Y.add rfl rfl rfl (wrap_u64 (by first | omega | (dsimp only; omega)))) ?_
    refine WL.yld rfl (blt rfl) rfl (Y.assign rfl rfl) ?_
    refine WL.nil ?_
    refine WK.then_normal (k26 _ _ ?_)
    refine WC.sub [(2, _), (8, _), (9, _), (10, _), (11, _), (13, _), (14, _), (15, _), (16, _)] ⟨rfl, rfl, rfl, rfl, rfl, rfl, rfl, rfl, rfl, trivial⟩ ?_
    refine WC.seq (fun K27 k27 => ?_)
    refine WC.region rfl ?_
    refine WL.yld rfl (blt rfl) rfl (Y.move rfl rfl) ?_
    refine WL.yld rfl (blt rfl) rfl (Y.geq rfl rfl rfl) ?_
    refine WL.nil ?_
    refine WK.then_normal (k27 _ _ ?_)
    refine WC.sub [(2, _), (8, _), (9, _), (10, _), (11, _), (13, _), (14, _), (15, _), (16, _), (85, _)] ⟨rfl, rfl, rfl, rfl, rfl, rfl, rfl, rfl, rfl, rfl, trivial⟩ ?_
    refine WC.cond rfl (fun h28 => ?_) (fun h28 => ?_)
    ·
      have p28 := (dec_t h28)
      have e1 := Nq.d_break hY h1 h0 ul hv1 dd1.1 dd1.2 (dec_t h28) (by omega)
      refine WC.exit ?_
      refine WK.in_other rfl ?_
      refine WK.then_exit ?_
      refine WK.in_exit ?_
      refine WK.then_normal (k20 _ _ ?_)
      refine WC.sub [(2, _), (8, _), (9, _), (10, _), (11, _), (13, _), (14, _), (15, _)] ⟨rfl, rfl, rfl, rfl, rfl, rfl, rfl, rfl, trivial⟩ ?_
      refine WC.seq (fun K29 k29 => ?_)
      refine WC.region rfl ?_
      refine WL.yld rfl (blt rfl) rfl (Y.move rfl rfl) ?_
      refine WL.yld rfl (blt rfl) rfl (Y.mul rfl rfl rfl (IntKind.wrap_u64 _)) ?_
      refine WL.yld rfl (blt rfl) rfl (Y.move rfl rfl) ?_
      refine WL.yld rfl (blt rfl) rfl (Y.add rfl rfl rfl (IntKind.wrap_u64 _)) ?_
      refine WL.yld rfl (blt rfl) rfl (Y.move rfl rfl) ?_
      refine WL.yld rfl (blt rfl) rfl (Y.move rfl rfl) ?_
      refine WL.yld rfl (blt rfl) rfl (Y.mul rfl rfl rfl (IntKind.wrap_u64 _)) ?_
      refine WL.yld rfl (blt rfl) rfl (Yld.cast (Y.sub rfl rfl rfl (IntKind.wrap_u64 _)) (vi (Nq.d_rest hY h1 h0 e1))) ?_
      refine WL.yld rfl (blt rfl) rfl (Y.assign rfl rfl) ?_
      refine WL.nil ?_
      refine WK.then_normal (k29 _ _ ?_)
      refine WC.sub [(2, _), (8, _), (9, _), (10, _), (14, _), (15, _), (17, _)] ⟨rfl, rfl, rfl, rfl, rfl, rfl, rfl, trivial⟩ ?_
      refine WC.seq (fun K30 k30 => ?_)
      refine WC.region rfl ?_
      refine WL.yld rfl (blt rfl) rfl (Y.move rfl rfl) ?_
      refine WL.yld rfl (blt rfl) rfl (Y.move rfl rfl) ?_
      refine WL.yld rfl (blt rfl) rfl (Y.quo rfl rfl rfl (by omega) (wrap_quo_u64 (by omega) (by omega) (by omega))) ?_
      refine WL.yld rfl (blt rfl) rfl (Y.assign rfl rfl) ?_
      refine WL.nil ?_
      refine WK.then_normal (k30 _ _ ?_)
      refine WC.sub [(2, _), (8, _), (9, _), (10, _), (14, _), (15, _), (17, _), (18, _)] ⟨rfl, rfl, rfl, rfl, rfl, rfl, rfl, rfl, trivial⟩ ?_
      refine WC.seq (fun K31 k31 => ?_)
      refine WC.region rfl ?_
      refine WL.yld rfl (blt rfl) rfl (Y.move rfl rfl) ?_
      refine WL.yld rfl (blt rfl) rfl (Y.move rfl rfl) ?_
      refine WL.yld rfl (blt rfl) rfl (Y.move rfl rfl) ?_
      refine WL.yld rfl (blt rfl) rfl (Y.mul rfl rfl rfl (Nq.ds_wrap ds2.2.2.2.2.1 (by omega) ds2.2.2.1 (by omega))) ?_
      refine WL.yld rfl (blt rfl) rfl (Y.sub rfl rfl rfl (wrap_u64 ⟨ds2.2.2.1, by have q := ds2.2.2.2.1; omega⟩)) ?_
      refine WL.yld rfl (blt rfl) rfl (Y.assign rfl rfl) ?_
      refine WL.nil ?_
      refine WK.then_normal (k31 _ _ ?_)
      refine WC.sub [(2, _), (8, _), (9, _), (10, _), (14, _), (15, _), (16, _), (17, _), (18, _)] ⟨rfl, rfl, rfl, rfl, rfl, rfl, rfl, rfl, rfl, trivial⟩ ?_
      refine WC.seq (fun K32 k32 => ?_)
      refine WC.block ?_
      refine WC.sub [(18, _), (16, _), (2, _), (8, _), (9, _), (10, _), (14, _), (15, _), (17, _)] ⟨rfl, rfl, rfl, rfl, rfl, rfl, rfl, rfl, rfl, trivial⟩ ?_
      refine WC.loopS 2 (fun mz Ed W' => ∃ q2 : Int, ∃ r2 : Int, mz = q2.toNat ∧ Ed = [(18, .int .u64 q2), (16, .int .u64 r2)] ∧ Ext w W' ∧ (q2 * (Nq.sh y / 4294967296) + r2 = (((Nq.un hi lo y / 18446744073709551616) * 4294967296 + ((Nq.un hi lo y % 18446744073709551616) / 4294967296)) % Nq.sh y)) ∧ (((((Nq.un hi lo y / 18446744073709551616) * 4294967296 + ((Nq.un hi lo y % 18446744073709551616) / 4294967296)) % Nq.sh y) * 4294967296 + ((Nq.un hi lo y % 18446744073709551616) % 4294967296)) / Nq.sh y ≤ q2) ∧ ((0 ≤ r2 ∧ r2 < 4294967296) ∧ 0 ≤ q2 ∧ q2 ≤ 8589934592)) _ ⟨_, _, rfl, rfl, xW, ds2.1, ds2.2.1, ⟨⟨ds2.2.2.1, ds2.2.2.2.1⟩, ds2.2.2.2.2⟩⟩ ?_
      rintro _ _ w33 ⟨q2, r2, rfl, rfl, xW, iq2, gq2, bq2⟩
      refine WC.sub [(18, _), (16, _), (2, _), (8, _), (9, _), (10, _), (14, _), (15, _), (17, _)] ⟨rfl, rfl, rfl, rfl, rfl, rfl, rfl, rfl, rfl, trivial⟩ ?_
      refine WC.seq (fun K34 k34 => ?_)
      refine WC.seq (fun K35 k35 => ?_)
      refine WC.region rfl ?_
      refine WL.yld rfl (blt rfl) rfl (Y.move rfl rfl) ?_
      refine WL.yld rfl (blt rfl) rfl (Y.geq rfl rfl rfl) ?_
      refine WL.yld rfl (blt rfl) rfl (Y.move rfl rfl) ?_
      refine WL.yldG rfl (blt rfl) rfl rfl rfl (fun hb => Y.move rfl rfl) ?_
      refine WL.yldG rfl (blt rfl) rfl rfl rfl (fun hb => Y.move rfl rfl) ?_
      refine WL.yldG rfl (blt rfl) rfl rfl rfl (fun hb => Y.mul rfl (evg rfl hb) (evg rfl hb) (Nq.qy hb bq2.2.1 h0)) ?_
      refine WL.yldG rfl (blt rfl) rfl rfl rfl (fun hb => Y.move rfl rfl) ?_
      refine WL.yldG rfl (blt rfl) rfl rfl rfl (fun hb => Y.mul rfl rfl (evg rfl hb) (wrap_u64 (by have q0 := (dec_f hb); first | omega | (dsimp only; omega)))) ?_
      refine WL.yldG rfl (blt rfl) rfl rfl rfl (fun hb => Y.move rfl rfl) ?_
      refine WL.yldG rfl (blt rfl) rfl rfl rfl (fun hb => Y.add rfl (evg rfl hb) (evg rfl hb) (wrap_u64 (by have q0 := (dec_f hb); first | omega | (dsimp only; omega)))) ?_
      refine WL.yldG rfl (blt rfl) rfl rfl rfl (fun hb => Y.gtr rfl (evg rfl hb) (evg rfl hb)) ?_
      refine WL.yld rfl (blt rfl) rfl (Y.or rfl rfl rfl rfl) ?_
      refine WL.nil ?_
      refine WK.then_normal (k35 _ _ ?_)
      refine WC.sub [(2, _), (8, _), (9, _), (10, _), (14, _), (15, _), (16, _), (17, _), (18, _), (113, _)] ⟨rfl, rfl, rfl, rfl, rfl, rfl, rfl, rfl, rfl, rfl, trivial⟩ ?_
      refine WC.cond rfl (fun h36 => ?_) (fun h36 => ?_)
      ·
        have p36 := ((or_t h36).imp (fun h => (dec_t h)) (fun h => (dec_t h)))
        have dt2 := Nq.dt h36
        have qp2 := Nq.q_pos dt2 bq2.2.1 bq2.1.1 hv0.1
        have dd2 := Nq.d_dec hY h1 h0 hR hv0 iq2 gq2 dt2
        refine WC.skip ?_
        refine WK.then_normal (k34 _ _ ?_)
        refine WC.sub [(2, _), (8, _), (9, _), (10, _), (14, _), (15, _), (16, _), (17, _), (18, _)] ⟨rfl, rfl, rfl, rfl, rfl, rfl, rfl, rfl, rfl, trivial⟩ ?_
        refine WC.block ?_
        refine WC.seq (fun K37 k37 => ?_)
        refine WC.region rfl ?_
        refine WL.yld rfl (blt rfl) rfl (Y.move rfl rfl) ?_
        refine WL.yld rfl (blt rfl) rfl (Y.sub rfl rfl rfl (wrap_u64 (by first | omega | (dsimp only; omega)))) ?_
        refine WL.yld rfl (blt rfl) rfl (Y.assign rfl rfl) ?_
        refine WL.nil ?_
        refine WK.then_normal (k37 _ _ ?_)
        refine WC.sub [(2, _), (8, _), (9, _), (10, _), (14, _), (15, _), (16, _), (17, _), (18, _)] ⟨rfl, rfl, rfl, rfl, rfl, rfl, rfl, rfl, rfl, trivial⟩ ?_
        refine WC.seq (fun K38 k38 => ?_)
        refine WC.region rfl ?_
        refine WL.yld rfl (blt rfl) rfl (Y.move rfl rfl) ?_
        refine WL.yld rfl (blt rfl) rfl (Y.move rfl rfl) ?_
        refine WL.yld rfl (blt rfl) rfl (Y.add rfl rfl rfl (wrap_u64 (by first | omega | (dsimp only; omega)))) ?_
        refine WL.yld rfl (blt rfl) rfl (Y.assign rfl rfl) ?_
        refine WL.nil ?_
        refine WK.then_normal (k38 _ _ ?_)
        refine WC.sub [(2, _), (8, _), (9, _), (10, _), (14, _), (15, _), (16, _), (17, _), (18, _)] ⟨rfl, rfl, rfl, rfl, rfl, rfl, rfl, rfl, rfl, trivial⟩ ?_
        refine WC.seq (fun K39 k39 => ?_)
        refine WC.region rfl ?_
        refine WL.yld rfl (blt rfl) rfl (Y.move rfl rfl) ?_
        refine WL.yld rfl (blt rfl) rfl (Y.geq rfl rfl rfl) ?_
        refine WL.nil ?_
        refine WK.then_normal (k39 _ _ ?_)
        refine WC.sub [(2, _), (8, _), (9, _), (10, _), (14, _), (15, _), (16, _), (17, _), (18, _), (120, _)] ⟨rfl, rfl, rfl, rfl, rfl, rfl, rfl, rfl, rfl, rfl, trivial⟩ ?_
        refine WC.cond rfl (fun h40 => ?_) (fun h40 => ?_)
        ·
          have p40 := (dec_t h40)
          have e2 := Nq.d_break hY h1 h0 hR hv0 dd2.1 dd2.2 (dec_t h40) (by omega)
          refine WC.exit ?_
          refine WK.in_other rfl ?_
          refine WK.then_exit ?_
          refine WK.in_exit ?_
          refine WK.then_normal (k32 _ _ ?_)
          refine WC.sub [(2, _), (8, _), (14, _), (15, _), (17, _), (18, _)] ⟨rfl, rfl, rfl, rfl, rfl, rfl, trivial⟩ ?_
          refine WC.seq (fun K41 k41 => ?_)
          refine WC.region rfl ?_
          refine WL.yld rfl (blt rfl) rfl (Y.move rfl rfl) ?_
          refine WL.yld rfl (blt rfl) rfl (Y.mul rfl rfl rfl (wrap_u64 (by first | omega | (dsimp only; omega)))) ?_
          refine WL.yld rfl (blt rfl) rfl (Y.move rfl rfl) ?_
          refine WL.yld rfl (blt rfl) rfl (Y.add rfl rfl rfl (wrap_u64 (by first | omega | (dsimp only; omega)))) ?_
          refine WL.yld rfl (blt rfl) rfl (Y.move rfl rfl) ?_
          refine WL.yld rfl (blt rfl) rfl (Y.mul rfl rfl rfl (IntKind.wrap_u64 _)) ?_
          refine WL.yld rfl (blt rfl) rfl (Y.move rfl rfl) ?_
          refine WL.yld rfl (blt rfl) rfl (Y.add rfl rfl rfl (IntKind.wrap_u64 _)) ?_
          refine WL.yld rfl (blt rfl) rfl (Y.move rfl rfl) ?_
          refine WL.yld rfl (blt rfl) rfl (Y.move rfl rfl) ?_
          refine WL.yld rfl (blt rfl) rfl (Y.mul rfl rfl rfl (IntKind.wrap_u64 _)) ?_
          refine WL.yld rfl (blt rfl) rfl (Yld.cast (Y.sub rfl rfl rfl (IntKind.wrap_u64 _)) (vi (Nq.d_rest hY h1 h0 e2))) ?_
          refine WL.yld rfl (blt rfl) rfl (Y.move rfl rfl) ?_
          refine WL.yld rfl (blt rfl) rfl (Y.shr rfl rfl rfl (by omega) (Nq.shr_s (Int.emod_nonneg _ (by omega)) hy)) ?_
          refine WL.yld rfl (blt rfl) rfl (Y.assign rfl rfl) ?_
          refine WL.yld rfl (blt rfl) rfl (Y.assign rfl rfl) ?_
          refine WL.nil ?_
          refine WK.then_normal (k41 _ _ ?_)
          refine WC.sub [(6, _), (7, _)] ⟨rfl, rfl, trivial⟩ ?_
          refine WC.ret ?_
          clear k1 k2 k3 k4 k5 k6 k7 k8 k11 k12 k13 k14 k15 k16 k17 k18 k19 k20 k22 k23 k25 k26 k27 k29 k30 k31 k32 k34 k35 k37 k38 k39 k41
          refine WK.ret [_, _] rfl ⟨rfl, rfl, trivial⟩ ?_
          have ff := Nq.fin64 hy e1 e2
          exact ⟨ret2 (vi ff.1) (vi ff.2), xW⟩
        ·
          have p40 := (dec_f h40)
          refine WC.skip ?_
          refine WK.in_normal ?_
          refine WK.roundS _ [(18, .int .u64 _), (16, .int .u64 _)] ⟨rfl, rfl, rfl, rfl, rfl, rfl, rfl, rfl, rfl, trivial⟩ ?_ ⟨_, _, rfl, rfl, xW, dd2.1, dd2.2, (by omega)⟩
          show (_ - 1 : Int).toNat < _; omega
      ·
        have p36 := (And.intro (dec_f (or_f h36).1) (dec_f (or_f h36).2))
        have e2 := Nq.d_exit hY h1 iq2 gq2 h0.1 (Nq.df h36)
        refine WC.exit ?_
        refine WK.then_exit ?_
        refine WK.then_exit ?_
        refine WK.in_exit ?_
        refine WK.then_normal (k32 _ _ ?_)
        refine WC.sub [(2, _), (8, _), (14, _), (15, _), (17, _), (18, _)] ⟨rfl, rfl, rfl, rfl, rfl, rfl, trivial⟩ ?_
        refine WC.seq (fun K42 k42 => ?_)
        refine WC.region rfl ?_
        refine WL.yld rfl (blt rfl) rfl (Y.move rfl rfl) ?_
        refine WL.yld rfl (blt rfl) rfl (Y.mul rfl rfl rfl (wrap_u64 (by first | omega | (dsimp only; omega)))) ?_
        refine WL.yld rfl (blt rfl) rfl (Y.move rfl rfl) ?_
        refine WL.yld rfl (blt rfl) rfl (Y.add rfl rfl rfl (wrap_u64 (by first | omega | (dsimp only; omega)))) ?_
        refine WL.yld rfl (blt rfl) rfl (Y.move rfl rfl) ?_
        refine WL.yld rfl (blt rfl) rfl (Y.mul rfl rfl rfl (IntKind.wrap_u64 _)) ?_
        refine WL.yld rfl (blt rfl) rfl (Y.move rfl rfl) ?_
        refine WL.yld rfl (blt rfl) rfl (Y.add rfl rfl rfl (IntKind.wrap_u64 _)) ?_
        refine WL.yld rfl (blt rfl) rfl (Y.move rfl rfl) ?_
        refine WL.yld rfl (blt rfl) rfl (Y.move rfl rfl) ?_
        refine WL.yld rfl (blt rfl) rfl (Y.mul rfl rfl rfl (IntKind.wrap_u64 _)) ?_
        refine WL.yld rfl (blt rfl) rfl (Yld.cast (Y.sub rfl rfl rfl (IntKind.wrap_u64 _)) (vi (Nq.d_rest hY h1 h0 e2))) ?_
        refine WL.yld rfl (blt rfl) rfl (Y.move rfl rfl) ?_
        refine WL.yld rfl (blt rfl) rfl (Y.shr rfl rfl rfl (by omega) (Nq.shr_s (Int.emod_nonneg _ (by omega)) hy)) ?_
        refine WL.yld rfl (blt rfl) rfl (Y.assign rfl rfl) ?_
        refine WL.yld rfl (blt rfl) rfl (Y.assign rfl rfl) ?_
        refine WL.nil ?_
        refine WK.then_normal (k42 _ _ ?_)
        refine WC.sub [(6, _), (7, _)] ⟨rfl, rfl, trivial⟩ ?_
        refine WC.ret ?_
        clear k1 k2 k3 k4 k5 k6 k7 k8 k11 k12 k13 k14 k15 k16 k17 k18 k19 k20 k22 k23 k25 k26 k27 k29 k30 k31 k32 k34 k35 k42
        refine WK.ret [_, _] rfl ⟨rfl, rfl, trivial⟩ ?_
        have ff := Nq.fin64 hy e1 e2
        exact ⟨ret2 (vi ff.1) (vi ff.2), xW⟩
    ·
      have p28 := (dec_f h28)
      refine WC.skip ?_
      refine WK.in_normal ?_
      refine WK.roundS _ [(15, .int .u64 _), (16, .int .u64 _)] ⟨rfl, rfl, rfl, rfl, rfl, rfl, rfl, rfl, rfl, trivial⟩ ?_ ⟨_, _, rfl, rfl, xW, dd1.1, dd1.2, (by omega)⟩
      show (_ - 1 : Int).toNat < _; omega
  ·
    have p24 := (And.intro (dec_f (or_f h24).1) (dec_f (or_f h24).2))
    have e1 := Nq.d_exit hY h1 iq1 gq1 h0.1 (Nq.df h24)
    refine WC.exit ?_
    refine WK.then_exit ?_
    refine WK.then_exit ?_
    refine WK.in_exit ?_
    refine WK.then_normal (k20 _ _ ?_)
    refine WC.sub [(2, _), (8, _), (9, _), (10, _), (11, _), (13, _), (14, _), (15, _)] ⟨rfl, rfl, rfl, rfl, rfl, rfl, rfl, rfl, trivial⟩ ?_
    refine WC.seq (fun K43 k43 => ?_)
    refine WC.region rfl ?_
    refine WL.yld rfl (blt rfl) rfl (Y.move rfl rfl) ?_
    refine WL.yld rfl (blt rfl) rfl (Y.mul rfl rfl rfl (IntKind.wrap_u64 _)) ?_
    refine WL.yld rfl (blt rfl) rfl (Y.move rfl rfl) ?_
    refine WL.yld rfl (blt rfl) rfl (Y.add rfl rfl rfl (IntKind.wrap_u64 _)) ?_
    refine WL.yld rfl (blt rfl) rfl (Y.move rfl rfl) ?_
    refine WL.yld rfl (blt rfl) rfl (Y.move rfl rfl) ?_
    refine WL.yld rfl (blt rfl) rfl (Y.mul rfl rfl rfl (IntKind.wrap_u64 _)) ?_
    refine WL.yld rfl (blt rfl) rfl (Yld.cast (Y.sub rfl rfl rfl (IntKind.wrap_u64 _)) (vi (Nq.d_rest hY h1 h0 e1))) ?_
    refine WL.yld rfl (blt rfl) rfl (Y.assign rfl rfl) ?_
    refine WL.nil ?_
    refine WK.then_normal (k43 _ _ ?_)
    refine WC.sub [(2, _), (8, _), (9, _), (10, _), (14, _), (15, _), (17, _)] ⟨rfl, rfl, rfl, rfl, rfl, rfl, rfl, trivial⟩ ?_
    refine WC.seq (fun K44 k44 => ?_)
    refine WC.region rfl ?_
    refine WL.yld rfl (blt rfl) rfl (Y.move rfl rfl) ?_
    refine WL.yld rfl (blt rfl) rfl (Y.move rfl rfl) ?_
    refine WL.yld rfl (blt rfl) rfl (Y.quo rfl rfl rfl (by omega) (wrap_quo_u64 (by omega) (by omega) (by omega))) ?_
    refine WL.yld rfl (blt rfl) rfl (Y.assign rfl rfl) ?_
    refine WL.nil ?_
    refine WK.then_normal (k44 _ _ ?_)
    refine WC.sub [(2, _), (8, _), (9, _), (10, _), (14, _), (15, _), (17, _), (18, _)] ⟨rfl, rfl, rfl, rfl, rfl, rfl, rfl, rfl, trivial⟩ ?_
    refine WC.seq (fun K45 k45 => ?_)
    refine WC.region rfl ?_
    refine WL.yld rfl (blt rfl) rfl (Y.move rfl rfl) ?_
    refine WL.yld rfl (blt rfl) rfl (Y.move rfl rfl) ?_
    refine WL.yld rfl (blt rfl) rfl (Y.move rfl rfl) ?_
    refine WL.yld rfl (blt rfl) rfl (Y.mul rfl rfl rfl (Nq.ds_wrap ds2.2.2.2.2.1 (by omega) ds2.2.2.1 (by omega))) ?_
    refine WL.yld rfl (blt rfl) rfl (Y.sub rfl rfl rfl (wrap_u64 ⟨ds2.2.2.1, by have q := ds2.2.2.2.1; omega⟩)) ?_
    refine WL.yld rfl (blt rfl) rfl (Y.assign rfl rfl) ?_
    refine WL.nil ?_
    refine WK.then_normal (k45 _ _ ?_)
    refine WC.sub [(2, _), (8, _), (9, _), (10, _), (14, _), (15, _), (16, _), (17, _), (18, _)] ⟨rfl, rfl, rfl, rfl, rfl, rfl, rfl, rfl, rfl, trivial⟩ ?_
    refine WC.seq (fun K46 k46 => ?_)
    refine WC.block ?_
    refine WC.sub [(18, _), (16, _), (2, _), (8, _), (9, _), (10, _), (14, _), (15, _), (17, _)] ⟨rfl, rfl, rfl, rfl, rfl, rfl, rfl, rfl, rfl, trivial⟩ ?_
    refine WC.loopS 2 (fun mz Ed W' => ∃ q2 : Int, ∃ r2 : Int, mz = q2.toNat ∧ Ed = [(18, .int .u64 q2), (16, .int .u64 r2)] ∧ Ext w W' ∧ (q2 * (Nq.sh y / 4294967296) + r2 = (((Nq.un hi lo y / 18446744073709551616) * 4294967296 + ((Nq.un hi lo y % 18446744073709551616) / 4294967296)) % Nq.sh y)) ∧ (((((Nq.un hi lo y / 18446744073709551616) * 4294967296 + ((Nq.un hi lo y % 18446744073709551616) / 4294967296)) % Nq.sh y) * 4294967296 + ((Nq.un hi lo y % 18446744073709551616) % 4294967296)) / Nq.sh y ≤ q2) ∧ ((0 ≤ r2 ∧ r2 < 4294967296) ∧ 0 ≤ q2 ∧ q2 ≤ 8589934592)) _ ⟨_, _, rfl, rfl, xW, ds2.1, ds2.2.1, ⟨⟨ds2.2.2.1, ds2.2.2.2.1⟩, ds2.2.2.2.2⟩⟩ ?_
    rintro _ _ w47 ⟨q2, r2, rfl, rfl, xW, iq2, gq2, bq2⟩
    refine WC.sub [(18, _), (16, _), (2, _), (8, _), (9, _), (10, _), (14, _), (15, _), (17, _)] ⟨rfl, rfl, rfl, rfl, rfl, rfl, rfl, rfl, rfl, trivial⟩ ?_
    refine WC.seq (fun K48 k48 => ?_)
    refine WC.seq (fun K49 k49 => ?_)
    refine WC.region rfl ?_
    refine WL.yld rfl (blt rfl) rfl (Y.move rfl rfl) ?_
    refine WL.yld rfl (blt rfl) rfl (Y.geq rfl rfl rfl) ?_
    refine WL.yld rfl (blt rfl) rfl (Y.move rfl rfl) ?_
    refine WL.yldG rfl (blt rfl) rfl rfl rfl (fun hb => Y.move rfl rfl) ?_
    refine WL.yldG rfl (blt rfl) rfl rfl rfl (fun hb => Y.move rfl rfl) ?_
    refine WL.yldG rfl (blt rfl) rfl rfl rfl (fun hb => Y.mul rfl (evg rfl hb) (evg rfl hb) (Nq.qy hb bq2.2.1 h0)) ?_
    refine WL.yldG rfl (blt rfl) rfl rfl rfl (fun hb => Y.move rfl rfl) ?_
    refine WL.yldG rfl (blt rfl) rfl rfl rfl (fun hb => Y.mul rfl rfl (evg rfl hb) (wrap_u64 (by have q0 := (dec_f hb); first | omega | (dsimp only; omega)))) ?_
    refine WL.yldG rfl (blt rfl) rfl rfl rfl (fun hb => Y.move rfl rfl) ?_
    refine WL.yldG rfl (blt rfl) rfl rfl rfl (fun hb => Y.add rfl (evg rfl hb) (evg rfl hb) (wrap_u64 (by have q0 := (dec_f hb); first | omega | (dsimp only; omega)))) ?_
    refine WL.yldG rfl (blt rfl) rfl rfl rfl (fun hb => Y.gtr rfl (evg rfl hb) (evg rfl hb)) ?_
    refine WL.yld rfl (blt rfl) rfl (Y.or rfl rfl rfl rfl) ?_
    refine WL.nil ?_
    refine WK.then_normal (k49 _ _ ?_)
    refine WC.sub [(2, _), (8, _), (9, _), (10, _), (14, _), (15, _), (16, _), (17, _), (18, _), (113, _)] ⟨rfl, rfl, rfl, rfl, rfl, rfl, rfl, rfl, rfl, rfl, trivial⟩ ?_
    refine WC.cond rfl (fun h50 => ?_) (fun h50 => ?_)
    ·
      have p50 := ((or_t h50).imp (fun h => (dec_t h)) (fun h => (dec_t h)))
      have dt2 := Nq.dt h50
      have qp2 := Nq.q_pos dt2 bq2.2.1 bq2.1.1 hv0.1
      have dd2 := Nq.d_dec hY h1 h0 hR hv0 iq2 gq2 dt2
      refine WC.skip ?_
      refine WK.then_normal (k48 _ _ ?_)
      refine WC.sub [(2, _), (8, _), (9, _), (10, _), (14, _), (15, _), (16, _), (17, _), (18, _)] ⟨rfl, rfl, rfl, rfl, rfl, rfl, rfl, rfl, rfl, trivial⟩ ?_
      refine WC.block ?_
      refine WC.seq (fun K51 k51 => ?_)
      refine WC.region rfl ?_
      refine WL.yld rfl (blt rfl) rfl (Y.move rfl rfl) ?_
      refine WL.yld rfl (blt rfl) rfl (Y.sub rfl rfl rfl (wrap_u64 (by first | omega | (dsimp only; omega)))) ?_
      refine WL.yld rfl (blt rfl) rfl (Y.assign rfl rfl) ?_
      refine WL.nil ?_
      refine WK.then_normal (k51 _ _ ?_)
      refine WC.sub [(2, _), (8, _), (9, _), (10, _), (14, _), (15, _), (16, _), (17, _), (18, _)] ⟨rfl, rfl, rfl, rfl, rfl, rfl, rfl, rfl, rfl, trivial⟩ ?_
      refine WC.seq (fun K52 k52 => ?_)
      refine WC.region rfl ?_
      refine WL.yld rfl (blt rfl) rfl (Y.move rfl rfl) ?_
      refine WL.yld rfl (blt rfl) rfl (Y.move rfl rfl) ?_
      refine WL.yld rfl (blt rfl) rfl (Y.add rfl rfl rfl (wrap_u64 (by first | omega | (dsimp only; omega)))) ?_
      refine WL.yld rfl (blt rfl) rfl (Y.assign rfl rfl) ?_
      refine WL.nil ?_
      refine WK.then_normal (k52 _ _ ?_)
      refine WC.sub [(2, _), (8, _), (9, _), (10, _), (14, _), (15, _), (16, _), (17, _), (18, _)] ⟨rfl, rfl, rfl, rfl, rfl, rfl, rfl, rfl, rfl, trivial⟩ ?_
      refine WC.seq (fun K53 k53 => ?_)
      refine WC.region rfl ?_
      refine WL.yld rfl (blt rfl) rfl (Y.move rfl rfl) ?_
      refine WL.yld rfl (blt rfl) rfl (Y.geq rfl rfl rfl) ?_
      refine WL.nil ?_
      refine WK.then_normal (k53 _ _ ?_)
      refine WC.sub [(2, _), (8, _), (9, _), (10, _), (14, _), (15, _), (16, _), (17, _), (18, _), (120, _)] ⟨rfl, rfl, rfl, rfl, rfl, rfl, rfl, rfl, rfl, rfl, trivial⟩ ?_
      refine WC.cond rfl (fun h54 => ?_) (fun h54 => ?_)
      ·
        have p54 := (dec_t h54)
        have e2 := Nq.d_break hY h1 h0 hR hv0 dd2.1 dd2.2 (dec_t h54) (by omega)
        refine WC.exit ?_
        refine WK.in_other rfl ?_
        refine WK.then_exit ?_
        refine WK.in_exit ?_
        refine WK.then_normal (k46 _ _ ?_)
        refine WC.sub [(2, _), (8, _), (14, _), (15, _), (17, _), (18, _)] ⟨rfl, rfl, rfl, rfl, rfl, rfl, trivial⟩ ?_
        refine WC.seq (fun K55 k55 => ?_)
        refine WC.region rfl ?_
        refine WL.yld rfl (blt rfl) rfl (Y.move rfl rfl) ?_
        refine WL.yld rfl (blt rfl) rfl (Y.mul rfl rfl rfl (wrap_u64 (by first | omega | (dsimp only; omega)))) ?_
        refine WL.yld rfl (blt rfl) rfl (Y.move rfl rfl) ?_
        refine WL.yld rfl (blt rfl) rfl (Y.add rfl rfl rfl (wrap_u64 (by first | omega | (dsimp only; omega)))) ?_
        refine WL.yld rfl (blt rfl) rfl (Y.move rfl rfl) ?_
        refine WL.yld rfl (blt rfl) rfl (Y.mul rfl rfl rfl (IntKind.wrap_u64 _)) ?_
        refine WL.yld rfl (blt rfl) rfl (Y.move rfl rfl) ?_
        refine WL.yld rfl (blt rfl) rfl (Y.add rfl rfl rfl (IntKind.wrap_u64 _)) ?_
        refine WL.yld rfl (blt rfl) rfl (Y.move rfl rfl) ?_
        refine WL.yld rfl (blt rfl) rfl (Y.move rfl rfl) ?_
        refine WL.yld rfl (blt rfl) rfl (Y.mul rfl rfl rfl (IntKind.wrap_u64 _)) ?_
        refine WL.yld rfl (blt rfl) rfl (Yld.cast (Y.sub rfl rfl rfl (IntKind.wrap_u64 _)) (vi (Nq.d_rest hY h1 h0 e2))) ?_
        refine WL.yld rfl (blt rfl) rfl (Y.move rfl rfl) ?_
        refine WL.yld rfl (blt rfl) rfl (Y.shr rfl rfl rfl (by omega) (Nq.shr_s (Int.emod_nonneg _ (by omega)) hy)) ?_
        refine WL.yld rfl (blt rfl) rfl (Y.assign rfl rfl) ?_
        refine WL.yld rfl (blt rfl) rfl (Y.assign rfl rfl) ?_
        refine WL.nil ?_
        refine WK.then_normal (k55 _ _ ?_)
        refine WC.sub [(6, _), (7, _)] ⟨rfl, rfl, trivial⟩ ?_
        refine WC.ret ?_
        clear k1 k2 k3 k4 k5 k6 k7 k8 k11 k12 k13 k14 k15 k16 k17 k18 k19 k20 k22 k23 k43 k44 k45 k46 k48 k49 k51 k52 k53 k55
        refine WK.ret [_, _] rfl ⟨rfl, rfl, trivial⟩ ?_
        have ff := Nq.fin64 hy e1 e2
        exact ⟨ret2 (vi ff.1) (vi ff.2), xW⟩
      ·
        have p54 := (dec_f h54)
        refine WC.skip ?_
        refine WK.in_normal ?_
        refine WK.roundS _ [(18, .int .u64 _), (16, .int .u64 _)] ⟨rfl, rfl, rfl, rfl, rfl, rfl, rfl, rfl, rfl, trivial⟩ ?_ ⟨_, _, rfl, rfl, xW, dd2.1, dd2.2, (by omega)⟩
        show (_ - 1 : Int).toNat < _; omega
    ·
      have p50 := (And.intro (dec_f (or_f h50).1) (dec_f (or_f h50).2))
      have e2 := Nq.d_exit hY h1 iq2 gq2 h0.1 (Nq.df h50)
      refine WC.exit ?_
      refine WK.then_exit ?_
      refine WK.then_exit ?_
      refine WK.in_exit ?_
      refine WK.then_normal (k46 _ _ ?_)
      refine WC.sub [(2, _), (8, _), (14, _), (15, _), (17, _), (18, _)] ⟨rfl, rfl, rfl, rfl, rfl, rfl, trivial⟩ ?_
      refine WC.seq (fun K56 k56 => ?_)
      refine WC.region rfl ?_
      refine WL.yld rfl (blt rfl) rfl (Y.move rfl rfl) ?_
      refine WL.yld rfl (blt rfl) rfl (Y.mul rfl rfl rfl (wrap_u64 (by first | omega | (dsimp only; omega)))) ?_
      refine WL.yld rfl (blt rfl) rfl (Y.move rfl rfl) ?_
      refine WL.yld rfl (blt rfl) rfl (Y.add rfl rfl rfl (wrap_u64 (by first | omega | (dsimp only; omega)))) ?_
      refine WL.yld rfl (blt rfl) rfl (Y.move rfl rfl) ?_
      refine WL.yld rfl (blt rfl) rfl (Y.mul rfl rfl rfl (IntKind.wrap_u64 _)) ?_
      refine WL.yld rfl (blt rfl) rfl (Y.move rfl rfl) ?_
      refine WL.yld rfl (blt rfl) rfl (Y.add rfl rfl rfl (IntKind.wrap_u64 _)) ?_
      refine WL.yld rfl (blt rfl) rfl (Y.move rfl rfl) ?_
      refine WL.yld rfl (blt rfl) rfl (Y.move rfl rfl) ?_
      refine WL.yld rfl (blt rfl) rfl (Y.mul rfl rfl rfl (IntKind.wrap_u64 _)) ?_
      refine WL.yld rfl (blt rfl) rfl (Yld.cast (Y.sub rfl rfl rfl (IntKind.wrap_u64 _)) (vi (Nq.d_rest hY h1 h0 e2))) ?_
      refine WL.yld rfl (blt rfl) rfl (Y.move rfl rfl) ?_
      refine WL.yld rfl (blt rfl) rfl (Y.shr rfl rfl rfl (by omega) (Nq.shr_s (Int.emod_nonneg _ (by omega)) hy)) ?_
      refine WL.yld rfl (blt rfl) rfl (Y.assign rfl rfl) ?_
      refine WL.yld rfl (blt rfl) rfl (Y.assign rfl rfl) ?_
      refine WL.nil ?_
      refine WK.then_normal (k56 _ _ ?_)
      refine WC.sub [(6, _), (7, _)] ⟨rfl, rfl, trivial⟩ ?_
      refine WC.ret ?_
      clear k1 k2 k3 k4 k5 k6 k7 k8 k11 k12 k13 k14 k15 k16 k17 k18 k19 k20 k22 k23 k43 k44 k45 k46 k48 k49 k56
      refine WK.ret [_, _] rfl ⟨rfl, rfl, trivial⟩ ?_
      have ff := Nq.fin64 hy e1 e2
      exact ⟨ret2 (vi ff.1) (vi ff.2), xW⟩
end D
end NqW

end Go.Proofs.YteaalclidffjgaaDoor
