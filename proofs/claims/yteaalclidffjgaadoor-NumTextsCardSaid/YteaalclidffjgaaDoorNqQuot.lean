/- Contracts: products, quotients. Conditions: what each theorem states. -/
import Derived.Test.YteaalclidffjgaaDoorNqLong
import Derived.Test.YteaalclidffjgaaDoorNumSpec
namespace Go.Proofs.YteaalclidffjgaaDoor
open Go Go.Eng Go.RowKit
set_option linter.unusedVariables false
namespace NqW
open D
namespace Q
theorem has14 : Has Tryd.prog 14 := ⟨_, Tryd.func14, rfl, by kernel_rfl⟩
theorem has17 : Has Tryd.prog 17 := ⟨_, Tryd.func17, rfl, by kernel_rfl⟩
theorem has27 : Has Tryd.prog 27 := ⟨_, Tryd.func27, rfl, by kernel_rfl⟩
theorem has28 : Has Tryd.prog 28 := ⟨_, Tryd.func28, rfl, by kernel_rfl⟩
theorem has32 : Has Tryd.prog 32 := ⟨_, Tryd.func32, rfl, by kernel_rfl⟩
theorem has33 : Has Tryd.prog 33 := ⟨_, Tryd.func33, rfl, by kernel_rfl⟩
theorem has36 : Has Tryd.prog 36 := ⟨_, Tryd.func36, rfl, by kernel_rfl⟩
theorem mul64_any (x y : Int) (w : World) (hx : 0 ≤ x ∧ x ≤ 18446744073709551615) (hy : 0 ≤ y ∧ y ≤ 18446744073709551615) :
    Calls Tryd.prog 32 #[.int .u64 x, .int .u64 y] w fun e w' => e = .returned (.tuple #[.int .u64 (x * y / 18446744073709551616), .int .u64 (x * y % 18446744073709551616)]) ∧ Ext w w' := by
  have xW := Ext.refl w
  obtain ⟨p00, h00⟩ : ∃ p, (x % 4294967296) * (y % 4294967296) = p := ⟨_, rfl⟩
  obtain ⟨p01, h01⟩ : ∃ p, (x % 4294967296) * (y / 4294967296) = p := ⟨_, rfl⟩
  obtain ⟨p10, h10⟩ : ∃ p, (x / 4294967296) * (y % 4294967296) = p := ⟨_, rfl⟩
  obtain ⟨p11, h11⟩ : ∃ p, (x / 4294967296) * (y / 4294967296) = p := ⟨_, rfl⟩
  have b00 := mul_bound (a := x % 4294967296) (b := y % 4294967296) (m := 4294967295) (k := 4294967295) (by omega) (by omega)
  have b01 := mul_bound (a := x % 4294967296) (b := y / 4294967296) (m := 4294967295) (k := 4294967295) (by omega) (by omega)
  have b10 := mul_bound (a := x / 4294967296) (b := y % 4294967296) (m := 4294967295) (k := 4294967295) (by omega) (by omega)
  have b11 := mul_bound (a := x / 4294967296) (b := y / 4294967296) (m := 4294967295) (k := 4294967295) (by omega) (by omega)
  rw [h00] at b00
  rw [h01] at b01
  rw [h10] at b10
  rw [h11] at b11
  have hxy := Num.mul_split hx hy h00 h01 h10 h11
  refine calls_of_WC (args := [.int .u64 x, .int .u64 y]) Tryd.func32 rfl rfl (ble rfl) ?_
  refine WC.seq (fun K1 k1 => ?_)
  refine WC.region rfl ?_
  refine WL.yld rfl (blt rfl) rfl (Y.assign rfl rfl) ?_
  refine WL.yld rfl (blt rfl) rfl (Y.assign rfl rfl) ?_
  refine WL.nil ?_
  refine WK.then_normal (k1 _ _ ?_)
  refine WC.sub [(0, _), (1, _)] ⟨rfl, rfl, trivial⟩ ?_
  refine WC.seq (fun K2 k2 => ?_)
  refine WC.region rfl ?_
  refine WL.yld rfl (blt rfl) rfl (Y.move rfl rfl) ?_
  refine WL.yld rfl (blt rfl) rfl (Y.andM rfl rfl rfl (by omega)) ?_
  refine WL.yld rfl (blt rfl) rfl (Y.assign rfl rfl) ?_
  refine WL.nil ?_
  refine WK.then_normal (k2 _ _ ?_)
  refine WC.sub [(0, _), (1, _), (6, _)] ⟨rfl, rfl, rfl, trivial⟩ ?_
  refine WC.seq (fun K3 k3 => ?_)
  refine WC.region rfl ?_
  refine WL.yld rfl (blt rfl) rfl (Y.move rfl rfl) ?_
  refine WL.yld rfl (blt rfl) rfl (Y.shr rfl rfl rfl (by omega) (shr32 (by omega))) ?_
  refine WL.yld rfl (blt rfl) rfl (Y.assign rfl rfl) ?_
  refine WL.nil ?_
  refine WK.then_normal (k3 _ _ ?_)
  refine WC.sub [(0, _), (1, _), (6, _), (7, _)] ⟨rfl, rfl, rfl, rfl, trivial⟩ ?_
  refine WC.seq (fun K4 k4 => ?_)
  refine WC.region rfl ?_
  refine WL.yld rfl (blt rfl) rfl (Y.move rfl rfl) ?_
  refine WL.yld rfl (blt rfl) rfl (Y.andM rfl rfl rfl (by omega)) ?_
  refine WL.yld rfl (blt rfl) rfl (Y.assign rfl rfl) ?_
  refine WL.nil ?_
  refine WK.then_normal (k4 _ _ ?_)
  refine WC.sub [(0, _), (1, _), (6, _), (7, _), (8, _)] ⟨rfl, rfl, rfl, rfl, rfl, trivial⟩ ?_
  refine WC.seq (fun K5 k5 => ?_)
  refine WC.region rfl ?_
  refine WL.yld rfl (blt rfl) rfl (Y.move rfl rfl) ?_
  refine WL.yld rfl (blt rfl) rfl (Y.shr rfl rfl rfl (by omega) (shr32 (by omega))) ?_
  refine WL.yld rfl (blt rfl) rfl (Y.assign rfl rfl) ?_
  refine WL.nil ?_
  refine WK.then_normal (k5 _ _ ?_)
  refine WC.sub [(0, _), (1, _), (6, _), (7, _), (8, _), (9, _)] ⟨rfl, rfl, rfl, rfl, rfl, rfl, trivial⟩ ?_
  refine WC.seq (fun K6 k6 => ?_)
  refine WC.region rfl ?_
  refine WL.yld rfl (blt rfl) rfl (Y.move rfl rfl) ?_
  refine WL.yld rfl (blt rfl) rfl (Y.move rfl rfl) ?_
  refine WL.yld rfl (blt rfl) rfl (Y.mul rfl rfl rfl (wm h00 (by omega))) ?_
  refine WL.yld rfl (blt rfl) rfl (Y.assign rfl rfl) ?_
  refine WL.nil ?_
  refine WK.then_normal (k6 _ _ ?_)
  refine WC.sub [(0, _), (1, _), (6, _), (7, _), (8, _), (9, _), (10, _)] ⟨rfl, rfl, rfl, rfl, rfl, rfl, rfl, trivial⟩ ?_
  refine WC.seq (fun K7 k7 => ?_)
  refine WC.region rfl ?_
  refine WL.yld rfl (blt rfl) rfl (Y.move rfl rfl) ?_
  refine WL.yld rfl (blt rfl) rfl (Y.move rfl rfl) ?_
  refine WL.yld rfl (blt rfl) rfl (Y.mul rfl rfl rfl (wm h10 (by omega))) ?_
  refine WL.yld rfl (blt rfl) rfl (Y.move rfl rfl) ?_
  refine WL.yld rfl (blt rfl) rfl (Y.shr rfl rfl rfl (by omega) (shr32 (by omega))) ?_
  refine WL.yld rfl (blt rfl) rfl (Y.add rfl rfl rfl (wrap_u64 (by first | omega | (dsimp only; omega)))) ?_
  refine WL.yld rfl (blt rfl) rfl (Y.assign rfl rfl) ?_
  refine WL.nil ?_
  refine WK.then_normal (k7 _ _ ?_)
  refine WC.sub [(0, _), (1, _), (6, _), (7, _), (9, _), (11, _)] ⟨rfl, rfl, rfl, rfl, rfl, rfl, trivial⟩ ?_
  refine WC.seq (fun K8 k8 => ?_)
  refine WC.region rfl ?_
  refine WL.yld rfl (blt rfl) rfl (Y.move rfl rfl) ?_
  refine WL.yld rfl (blt rfl) rfl (Y.andM rfl rfl rfl (by omega)) ?_
  refine WL.yld rfl (blt rfl) rfl (Y.assign rfl rfl) ?_
  refine WL.nil ?_
  refine WK.then_normal (k8 _ _ ?_)
  refine WC.sub [(0, _), (1, _), (6, _), (7, _), (9, _), (11, _), (12, _)] ⟨rfl, rfl, rfl, rfl, rfl, rfl, rfl, trivial⟩ ?_
  refine WC.seq (fun K9 k9 => ?_)
  refine WC.region rfl ?_
  refine WL.yld rfl (blt rfl) rfl (Y.move rfl rfl) ?_
  refine WL.yld rfl (blt rfl) rfl (Y.shr rfl rfl rfl (by omega) (shr32 (by omega))) ?_
  refine WL.yld rfl (blt rfl) rfl (Y.assign rfl rfl) ?_
  refine WL.nil ?_
  refine WK.then_normal (k9 _ _ ?_)
  refine WC.sub [(0, _), (1, _), (6, _), (7, _), (9, _), (12, _), (13, _)] ⟨rfl, rfl, rfl, rfl, rfl, rfl, rfl, trivial⟩ ?_
  refine WC.seq (fun K10 k10 => ?_)
  refine WC.region rfl ?_
  refine WL.yld rfl (blt rfl) rfl (Y.move rfl rfl) ?_
  refine WL.yld rfl (blt rfl) rfl (Y.move rfl rfl) ?_
  refine WL.yld rfl (blt rfl) rfl (Y.move rfl rfl) ?_
  refine WL.yld rfl (blt rfl) rfl (Y.mul rfl rfl rfl (wm h01 (by omega))) ?_
  refine WL.yld rfl (blt rfl) rfl (Y.add rfl rfl rfl (wrap_u64 (by first | omega | (dsimp only; omega)))) ?_
  refine WL.yld rfl (blt rfl) rfl (Y.assign rfl rfl) ?_
  refine WL.nil ?_
  refine WK.then_normal (k10 _ _ ?_)
  refine WC.sub [(0, _), (1, _), (7, _), (9, _), (12, _), (13, _)] ⟨rfl, rfl, rfl, rfl, rfl, rfl, trivial⟩ ?_
  refine WC.seq (fun K11 k11 => ?_)
  refine WC.region rfl ?_
  refine WL.yld rfl (blt rfl) rfl (Y.move rfl rfl) ?_
  refine WL.yld rfl (blt rfl) rfl (Y.move rfl rfl) ?_
  refine WL.yld rfl (blt rfl) rfl (Y.mul rfl rfl rfl (wm h11 (by omega))) ?_
  refine WL.yld rfl (blt rfl) rfl (Y.move rfl rfl) ?_
  refine WL.yld rfl (blt rfl) rfl (Y.add rfl rfl rfl (wrap_u64 (by first | omega | (dsimp only; omega)))) ?_
  refine WL.yld rfl (blt rfl) rfl (Y.move rfl rfl) ?_
  refine WL.yld rfl (blt rfl) rfl (Y.shr rfl rfl rfl (by omega) (shr32 (by omega))) ?_
  refine WL.yld rfl (blt rfl) rfl (Y.add rfl rfl rfl (wrap_u64 (by first | omega | (dsimp only; omega)))) ?_
  refine WL.yld rfl (blt rfl) rfl (Y.assign rfl rfl) ?_
  refine WL.nil ?_
  refine WK.then_normal (k11 _ _ ?_)
  refine WC.sub [(0, _), (1, _), (4, _)] ⟨rfl, rfl, rfl, trivial⟩ ?_
  refine WC.seq (fun K12 k12 => ?_)
  refine WC.region rfl ?_
  refine WL.yld rfl (blt rfl) rfl (Y.move rfl rfl) ?_
  refine WL.yld rfl (blt rfl) rfl (Y.move rfl rfl) ?_
  refine WL.yld rfl (blt rfl) rfl (Y.mul rfl rfl rfl (IntKind.wrap_u64 _)) ?_
  refine WL.yld rfl (blt rfl) rfl (Y.assign rfl rfl) ?_
  refine WL.nil ?_
  refine WK.then_normal (k12 _ _ ?_)
  refine WC.sub [(4, _), (5, _)] ⟨rfl, rfl, trivial⟩ ?_
  refine WC.ret ?_
  clear k1 k2 k3 k4 k5 k6 k7 k8 k9 k10 k11 k12
  refine WK.ret [_, _] rfl ⟨rfl, rfl, trivial⟩ ?_
  refine ⟨ret2 (vi ?_) rfl, xW⟩
  rw [hxy]
  omega
theorem div64_any (hi lo y : Int) (w : World) (hh : 0 ≤ hi ∧ hi < y) (hl : 0 ≤ lo ∧ lo ≤ 18446744073709551615) (hy : 1 ≤ y ∧ y ≤ 18446744073709551615) :
    Calls Tryd.prog 33 #[.int .u64 hi, .int .u64 lo, .int .u64 y] w fun e w' => e = .returned (.tuple #[.int .u64 ((hi * 18446744073709551616 + lo) / y), .int .u64 ((hi * 18446744073709551616 + lo) % y)]) ∧ Ext w w' := by
  by_cases hz : hi = 0
  · subst hz
    rw [Int.zero_mul, Int.zero_add]
    exact div64_lo lo y w hl hy
  · exact div64_hi hi lo y w hz hh hl hy
theorem quot_any (a : Int) (b : Int) (c : Int) (w : World) :
    Calls Tryd.prog 28 #[.int .i64 a, .int .i64 b, .int .i64 c] w fun e w' => e = .returned (.tuple #[.int .u64 (Nq.qf a b c).1, .int .u64 (Nq.qf a b c).2.1, .bool (Nq.qf a b c).2.2.1, .bool (Nq.qf a b c).2.2.2]) ∧ Ext w w' := by
  have xW := Ext.refl w
  refine calls_of_WC (args := [.int .i64 a, .int .i64 b, .int .i64 c]) Tryd.func28 rfl rfl (ble rfl) ?_
  refine WC.seq (fun K1 k1 => ?_)
  refine WC.region rfl ?_
  refine WL.yld rfl (blt rfl) rfl (Y.assign rfl rfl) ?_
  refine WL.yld rfl (blt rfl) rfl (Y.assign rfl rfl) ?_
  refine WL.yld rfl (blt rfl) rfl (Y.assign rfl rfl) ?_
  refine WL.yld rfl (blt rfl) rfl (Y.assign rfl rfl) ?_
  refine WL.nil ?_
  refine WK.then_normal (k1 _ _ ?_)
  refine WC.sub [(0, _), (1, _), (2, _)] ⟨rfl, rfl, rfl, trivial⟩ ?_
  refine WC.seq (fun K2 k2 => ?_)
  refine WC.seq (fun K3 k3 => ?_)
  refine WC.region rfl ?_
  refine WL.yld rfl (blt rfl) rfl (Y.move rfl rfl) ?_
  refine WL.call rfl (blt rfl) rfl rfl rfl has14 rfl (in_any _ _ ) ?_
  rintro _ w4 ⟨rfl, x5⟩
  refine ⟨_, rfl, ?_⟩
  have xW := Ext.trans xW x5
  refine WL.yld rfl (blt rfl) rfl (Y.not rfl rfl) ?_
  refine WL.yld rfl (blt rfl) rfl (Y.move rfl rfl) ?_
  refine WL.yldG rfl (blt rfl) rfl rfl rfl (fun hb => Y.move rfl rfl) ?_
  refine WL.callG rfl (blt rfl) rfl rfl rfl rfl rfl has14 (fun hb => (evs_cons (evg rfl hb) evs_nil)) (fun hb => in_any _ _ ) (fun w6 x7 => ?_)
  have xW := Ext.trans xW x7
  refine WL.yldG rfl (blt rfl) rfl rfl rfl (fun hb => Y.not rfl (evg rfl hb)) ?_
  refine WL.yld rfl (blt rfl) rfl (Y.or rfl rfl rfl rfl) ?_
  refine WL.yld rfl (blt rfl) rfl (Y.move rfl rfl) ?_
  refine WL.yldG rfl (blt rfl) rfl rfl rfl (fun hb => Y.move rfl rfl) ?_
  refine WL.yldG rfl (blt rfl) rfl rfl rfl (fun hb => Y.lss rfl (evg rfl hb) rfl) ?_
  refine WL.yld rfl (blt rfl) rfl (Y.or rfl rfl rfl rfl) ?_
  refine WL.yld rfl (blt rfl) rfl (Y.move rfl rfl) ?_
  refine WL.yldG rfl (blt rfl) rfl rfl rfl (fun hb => Y.move rfl rfl) ?_
  refine WL.callG rfl (blt rfl) rfl rfl rfl rfl rfl has14 (fun hb => (evs_cons (evg rfl hb) evs_nil)) (fun hb => in_any _ _ ) (fun w8 x9 => ?_)
  have xW := Ext.trans xW x9
  refine WL.yldG rfl (blt rfl) rfl rfl rfl (fun hb => Y.not rfl (evg rfl hb)) ?_
  refine WL.yld rfl (blt rfl) rfl (Y.or rfl rfl rfl rfl) ?_
  refine WL.nil ?_
  refine WK.then_normal (k3 _ _ ?_)
  refine WC.sub [(0, _), (1, _), (2, _), (32, _)] ⟨rfl, rfl, rfl, rfl, trivial⟩ ?_
  refine WC.cond rfl (fun h10 => ?_) (fun h10 => ?_)
  ·
    have p10 := ((or_t h10).imp (fun h => ((or_t h).imp (fun h => h) (fun h => (dec_t h)))) (fun h => h))
    refine WC.seq (fun K11 k11 => ?_)
    refine WC.region rfl ?_
    refine WL.yld rfl (blt rfl) rfl (Y.assign rfl rfl) ?_
    refine WL.yld rfl (blt rfl) rfl (Y.assign rfl rfl) ?_
    refine WL.yld rfl (blt rfl) rfl (Y.assign rfl rfl) ?_
    refine WL.yld rfl (blt rfl) rfl (Y.assign rfl rfl) ?_
    refine WL.nil ?_
    refine WK.then_normal (k11 _ _ ?_)
    refine WC.sub [(6, _), (7, _), (8, _), (9, _)] ⟨rfl, rfl, rfl, rfl, trivial⟩ ?_
    refine WC.ret ?_
    refine WK.then_ret ?_
    clear k1 k2 k3 k11
    refine WK.ret [_, _, _, _] rfl ⟨rfl, rfl, rfl, rfl, trivial⟩ ?_
    refine ⟨?_, xW⟩
    rw [Nq.qf_bad h10]; rfl
  ·
    have p10 := (dec_f (or_f (or_f h10).1).2)
    have hg := Nq.gd_of h10
    have hq := Nq.gd_iff.1 hg
    have ia := hq.1
    have ib := hq.2.1
    have pr := Nq.pr_rng ia ib
    unfold Nq.pr at pr
    have ma := Nq.mag_rng ia
    have mb := Nq.mag_rng ib
    refine WC.skip ?_
    refine WK.then_normal (k2 _ _ ?_)
    refine WC.sub [(0, _), (1, _), (2, _)] ⟨rfl, rfl, rfl, trivial⟩ ?_
    refine WC.seq (fun K12 k12 => ?_)
    refine WC.region rfl ?_
    refine WL.yld rfl (blt rfl) rfl (Y.move rfl rfl) ?_
    refine WL.call rfl (blt rfl) rfl rfl rfl has36 rfl (mag_any _ _ (by assumption)) ?_
    rintro _ w13 ⟨rfl, x14⟩
    refine ⟨_, rfl, ?_⟩
    have xW := Ext.trans xW x14
    refine WL.yld rfl (blt rfl) rfl (Y.move rfl rfl) ?_
    refine WL.yld rfl (blt rfl) rfl (Y.extract rfl rfl rfl) ?_
    refine WL.yld rfl (blt rfl) rfl (Y.extract rfl rfl rfl) ?_
    refine WL.yld rfl (blt rfl) rfl (Y.assign rfl rfl) ?_
    refine WL.yld rfl (blt rfl) rfl (Y.assign rfl rfl) ?_
    refine WL.nil ?_
    refine WK.then_normal (k12 _ _ ?_)
    refine WC.sub [(1, _), (2, _), (10, _), (11, _)] ⟨rfl, rfl, rfl, rfl, trivial⟩ ?_
    refine WC.seq (fun K15 k15 => ?_)
    refine WC.region rfl ?_
    refine WL.yld rfl (blt rfl) rfl (Y.move rfl rfl) ?_
    refine WL.call rfl (blt rfl) rfl rfl rfl has36 rfl (mag_any _ _ (by assumption)) ?_
    rintro _ w16 ⟨rfl, x17⟩
    refine ⟨_, rfl, ?_⟩
    have xW := Ext.trans xW x17
    refine WL.yld rfl (blt rfl) rfl (Y.move rfl rfl) ?_
    refine WL.yld rfl (blt rfl) rfl (Y.extract rfl rfl rfl) ?_
    refine WL.yld rfl (blt rfl) rfl (Y.extract rfl rfl rfl) ?_
    refine WL.yld rfl (blt rfl) rfl (Y.assign rfl rfl) ?_
    refine WL.yld rfl (blt rfl) rfl (Y.assign rfl rfl) ?_
    refine WL.nil ?_
    refine WK.then_normal (k15 _ _ ?_)
    refine WC.sub [(2, _), (10, _), (11, _), (12, _), (13, _)] ⟨rfl, rfl, rfl, rfl, rfl, trivial⟩ ?_
    refine WC.seq (fun K18 k18 => ?_)
    refine WC.region rfl ?_
    refine WL.yld rfl (blt rfl) rfl (Y.move rfl rfl) ?_
    refine WL.yld rfl (blt rfl) rfl (Y.move rfl rfl) ?_
    refine WL.call rfl (blt rfl) rfl rfl rfl has32 rfl (mul64_any _ _ _ (by omega) (by omega)) ?_
    rintro _ w19 ⟨rfl, x20⟩
    refine ⟨_, rfl, ?_⟩
    have xW := Ext.trans xW x20
    refine WL.yld rfl (blt rfl) rfl (Y.move rfl rfl) ?_
    refine WL.yld rfl (blt rfl) rfl (Y.extract rfl rfl rfl) ?_
    refine WL.yld rfl (blt rfl) rfl (Y.extract rfl rfl rfl) ?_
    refine WL.yld rfl (blt rfl) rfl (Y.assign rfl rfl) ?_
    refine WL.yld rfl (blt rfl) rfl (Y.assign rfl rfl) ?_
    refine WL.nil ?_
    refine WK.then_normal (k18 _ _ ?_)
    refine WC.sub [(2, _), (11, _), (13, _), (14, _), (15, _)] ⟨rfl, rfl, rfl, rfl, rfl, trivial⟩ ?_
    refine WC.seq (fun K21 k21 => ?_)
    refine WC.seq (fun K22 k22 => ?_)
    refine WC.region rfl ?_
    refine WL.yld rfl (blt rfl) rfl (Y.move rfl rfl) ?_
    refine WL.yld rfl (blt rfl) rfl (Y.move rfl rfl) ?_
    refine WL.yld rfl (blt rfl) rfl (Y.convInt rfl Tryd.underlying3 Tryd.underlying37 rfl (wrap_u64 (by first | omega | (dsimp only; omega)))) ?_
    refine WL.yld rfl (blt rfl) rfl (Y.geq rfl rfl rfl) ?_
    refine WL.nil ?_
    refine WK.then_normal (k22 _ _ ?_)
    refine WC.sub [(2, _), (11, _), (13, _), (14, _), (15, _), (52, _)] ⟨rfl, rfl, rfl, rfl, rfl, rfl, trivial⟩ ?_
    refine WC.cond rfl (fun h23 => ?_) (fun h23 => ?_)
    ·
      have p23 := (dec_t h23)
      refine WC.seq (fun K24 k24 => ?_)
      refine WC.region rfl ?_
      refine WL.yld rfl (blt rfl) rfl (Y.assign rfl rfl) ?_
      refine WL.yld rfl (blt rfl) rfl (Y.assign rfl rfl) ?_
      refine WL.yld rfl (blt rfl) rfl (Y.assign rfl rfl) ?_
      refine WL.yld rfl (blt rfl) rfl (Y.assign rfl rfl) ?_
      refine WL.nil ?_
      refine WK.then_normal (k24 _ _ ?_)
      refine WC.sub [(6, _), (7, _), (8, _), (9, _)] ⟨rfl, rfl, rfl, rfl, trivial⟩ ?_
      refine WC.ret ?_
      refine WK.then_ret ?_
      clear k1 k2 k3 k12 k15 k18 k21 k22 k24
      refine WK.ret [_, _, _, _] rfl ⟨rfl, rfl, rfl, rfl, trivial⟩ ?_
      refine ⟨?_, xW⟩
      rw [Nq.qf_hi hg h23]; rfl
    ·
      have p23 := (dec_f h23)
      refine WC.skip ?_
      refine WK.then_normal (k21 _ _ ?_)
      refine WC.sub [(2, _), (11, _), (13, _), (14, _), (15, _)] ⟨rfl, rfl, rfl, rfl, rfl, trivial⟩ ?_
      refine WC.seq (fun K25 k25 => ?_)
      refine WC.region rfl ?_
      refine WL.yld rfl (blt rfl) rfl (Y.move rfl rfl) ?_
      refine WL.yld rfl (blt rfl) rfl (Y.move rfl rfl) ?_
      refine WL.yld rfl (blt rfl) rfl (Y.move rfl rfl) ?_
      refine WL.yld rfl (blt rfl) rfl (Y.convInt rfl Tryd.underlying3 Tryd.underlying37 rfl (wrap_u64 (by first | omega | (dsimp only; omega)))) ?_
      refine WL.call rfl (blt rfl) rfl rfl rfl has33 rfl (div64_any _ _ _ _ (by omega) (by omega) (by omega)) ?_
      rintro _ w26 ⟨rfl, x27⟩
      refine ⟨_, rfl, ?_⟩
      have xW := Ext.trans xW x27
      refine WL.yld rfl (blt rfl) rfl (Y.move rfl rfl) ?_
      refine WL.yld rfl (blt rfl) rfl (Y.extract rfl rfl rfl) ?_
      refine WL.yld rfl (blt rfl) rfl (Y.extract rfl rfl rfl) ?_
      refine WL.yld rfl (blt rfl) rfl (Y.assign rfl rfl) ?_
      refine WL.yld rfl (blt rfl) rfl (Y.assign rfl rfl) ?_
      refine WL.nil ?_
      refine WK.then_normal (k25 _ _ ?_)
      refine WC.sub [(6, _), (7, _), (11, _), (13, _)] ⟨rfl, rfl, rfl, rfl, trivial⟩ ?_
      refine WC.seq (fun K28 k28 => ?_)
      refine WC.region rfl ?_
      refine WL.yld rfl (blt rfl) rfl (Y.move rfl rfl) ?_
      refine WL.yld rfl (blt rfl) rfl (Y.move rfl rfl) ?_
      refine WL.yld rfl (blt rfl) rfl (Y.move rfl rfl) ?_
      refine WL.yld rfl (blt rfl) rfl (Y.move rfl rfl) ?_
      refine WL.yld rfl (blt rfl) rfl (Y.neqB rfl Tryd.underlying4 rfl rfl) ?_
      refine WL.yld rfl (blt rfl) rfl (Y.move rfl rfl) ?_
      refine WL.yld rfl (blt rfl) rfl (Y.leq rfl rfl rfl) ?_
      refine WL.yld rfl (blt rfl) rfl (Y.assign rfl rfl) ?_
      refine WL.yld rfl (blt rfl) rfl (Y.assign rfl rfl) ?_
      refine WL.yld rfl (blt rfl) rfl (Y.assign rfl rfl) ?_
      refine WL.yld rfl (blt rfl) rfl (Y.assign rfl rfl) ?_
      refine WL.nil ?_
      refine WK.then_normal (k28 _ _ ?_)
      refine WC.sub [(6, _), (7, _), (8, _), (9, _)] ⟨rfl, rfl, rfl, rfl, trivial⟩ ?_
      refine WC.ret ?_
      clear k1 k2 k3 k12 k15 k18 k21 k22 k25 k28
      refine WK.ret [_, _, _, _] rfl ⟨rfl, rfl, rfl, rfl, trivial⟩ ?_
      refine ⟨?_, xW⟩
      rw [Nq.qf_fin hg h23]; rfl
theorem floor_any (a : Int) (b : Int) (c : Int) (w : World) :
    Calls Tryd.prog 17 #[.int .i64 a, .int .i64 b, .int .i64 c] w fun e w' => e = .returned (.tuple #[.int .i64 (Nq.rnd a b c false).1, .bool (Nq.rnd a b c false).2]) ∧ Ext w w' := by
  have xW := Ext.refl w
  refine calls_of_WC (args := [.int .i64 a, .int .i64 b, .int .i64 c]) Tryd.func17 rfl rfl (ble rfl) ?_
  refine WC.seq (fun K1 k1 => ?_)
  refine WC.region rfl ?_
  refine WL.yld rfl (blt rfl) rfl (Y.assign rfl rfl) ?_
  refine WL.yld rfl (blt rfl) rfl (Y.assign rfl rfl) ?_
  refine WL.nil ?_
  refine WK.then_normal (k1 _ _ ?_)
  refine WC.sub [(0, _), (1, _), (2, _)] ⟨rfl, rfl, rfl, trivial⟩ ?_
  refine WC.seq (fun K2 k2 => ?_)
  refine WC.region rfl ?_
  refine WL.yld rfl (blt rfl) rfl (Y.move rfl rfl) ?_
  refine WL.yld rfl (blt rfl) rfl (Y.move rfl rfl) ?_
  refine WL.yld rfl (blt rfl) rfl (Y.move rfl rfl) ?_
  refine WL.call rfl (blt rfl) rfl rfl rfl has28 rfl (quot_any _ _ _ _ ) ?_
  rintro _ w3 ⟨rfl, x4⟩
  refine ⟨_, rfl, ?_⟩
  have xW := Ext.trans xW x4
  refine WL.yld rfl (blt rfl) rfl (Y.move rfl rfl) ?_
  refine WL.yld rfl (blt rfl) rfl (Y.extract rfl rfl rfl) ?_
  refine WL.yld rfl (blt rfl) rfl (Y.extract rfl rfl rfl) ?_
  refine WL.yld rfl (blt rfl) rfl (Y.extract rfl rfl rfl) ?_
  refine WL.yld rfl (blt rfl) rfl (Y.extract rfl rfl rfl) ?_
  refine WL.yld rfl (blt rfl) rfl (Y.assign rfl rfl) ?_
  refine WL.yld rfl (blt rfl) rfl (Y.assign rfl rfl) ?_
  refine WL.yld rfl (blt rfl) rfl (Y.assign rfl rfl) ?_
  refine WL.yld rfl (blt rfl) rfl (Y.assign rfl rfl) ?_
  refine WL.nil ?_
  refine WK.then_normal (k2 _ _ ?_)
  refine WC.sub [(8, _), (9, _), (10, _), (11, _)] ⟨rfl, rfl, rfl, rfl, trivial⟩ ?_
  refine WC.seq (fun K5 k5 => ?_)
  refine WC.region rfl ?_
  refine WL.yld rfl (blt rfl) rfl (Y.move rfl rfl) ?_
  refine WL.yld rfl (blt rfl) rfl (Y.convInt rfl Tryd.underlying37 Tryd.underlying3 rfl rfl) ?_
  refine WL.yld rfl (blt rfl) rfl (Y.assign rfl rfl) ?_
  refine WL.nil ?_
  refine WK.then_normal (k5 _ _ ?_)
  refine WC.sub [(9, _), (10, _), (11, _), (12, _)] ⟨rfl, rfl, rfl, rfl, trivial⟩ ?_
  refine WC.seq (fun K6 k6 => ?_)
  refine WC.seq (fun K7 k7 => ?_)
  refine WC.region rfl ?_
  refine WL.yld rfl (blt rfl) rfl (Y.move rfl rfl) ?_
  refine WL.nil ?_
  refine WK.then_normal (k7 _ _ ?_)
  refine WC.sub [(9, _), (11, _), (12, _), (24, _)] ⟨rfl, rfl, rfl, rfl, trivial⟩ ?_
  refine WC.cond rfl (fun h8 => ?_) (fun h8 => ?_)
  ·
    refine WC.seq (fun K9 k9 => ?_)
    refine WC.region rfl ?_
    refine WL.yld rfl (blt rfl) rfl (Y.move rfl rfl) ?_
    refine WL.yld rfl (blt rfl) rfl (Y.neg rfl rfl rfl) ?_
    refine WL.yld rfl (blt rfl) rfl (Y.assign rfl rfl) ?_
    refine WL.nil ?_
    refine WK.then_normal (k9 _ _ ?_)
    refine WC.sub [(9, _), (11, _), (12, _)] ⟨rfl, rfl, rfl, trivial⟩ ?_
    refine WC.seq (fun K10 k10 => ?_)
    refine WC.region rfl ?_
    refine WL.yld rfl (blt rfl) rfl (Y.move rfl rfl) ?_
    refine WL.yld rfl (blt rfl) rfl (Y.gtr rfl rfl rfl) ?_
    refine WL.nil ?_
    refine WK.then_normal (k10 _ _ ?_)
    refine WC.sub [(11, _), (12, _), (28, _)] ⟨rfl, rfl, rfl, trivial⟩ ?_
    refine WC.cond rfl (fun h11 => ?_) (fun h11 => ?_)
    ·
      have p11 := (dec_t h11)
      refine WC.region rfl ?_
      refine WL.yld rfl (blt rfl) rfl (Y.move rfl rfl) ?_
      refine WL.yld rfl (blt rfl) rfl (Y.sub rfl rfl rfl rfl) ?_
      refine WL.yld rfl (blt rfl) rfl (Y.assign rfl rfl) ?_
      refine WL.nil ?_
      refine WK.then_normal (k6 _ _ ?_)
      refine WC.sub [(11, _), (12, _)] ⟨rfl, rfl, trivial⟩ ?_
      refine WC.seq (fun K12 k12 => ?_)
      refine WC.region rfl ?_
      refine WL.yld rfl (blt rfl) rfl (Y.move rfl rfl) ?_
      refine WL.yld rfl (blt rfl) rfl (Y.move rfl rfl) ?_
      refine WL.call rfl (blt rfl) rfl rfl rfl has27 rfl (within_any _ _ _ ) ?_
      rintro _ w13 ⟨rfl, x14⟩
      refine ⟨_, rfl, ?_⟩
      have xW := Ext.trans xW x14
      refine WL.yld rfl (blt rfl) rfl (Y.extract rfl rfl rfl) ?_
      refine WL.yld rfl (blt rfl) rfl (Y.extract rfl rfl rfl) ?_
      refine WL.yld rfl (blt rfl) rfl (Y.assign rfl rfl) ?_
      refine WL.yld rfl (blt rfl) rfl (Y.assign rfl rfl) ?_
      refine WL.nil ?_
      refine WK.then_normal (k12 _ _ ?_)
      refine WC.sub [(6, _), (7, _)] ⟨rfl, rfl, trivial⟩ ?_
      refine WC.ret ?_
      clear k1 k2 k5 k6 k7 k9 k10 k12
      refine WK.ret [_, _] rfl ⟨rfl, rfl, trivial⟩ ?_
      refine ⟨?_, xW⟩
      rw [← Nq.fl_neg1 h8 (dec_t h11)]; rfl
    ·
      have p11 := (dec_f h11)
      refine WC.skip ?_
      refine WK.then_normal (k6 _ _ ?_)
      refine WC.sub [(11, _), (12, _)] ⟨rfl, rfl, trivial⟩ ?_
      refine WC.seq (fun K15 k15 => ?_)
      refine WC.region rfl ?_
      refine WL.yld rfl (blt rfl) rfl (Y.move rfl rfl) ?_
      refine WL.yld rfl (blt rfl) rfl (Y.move rfl rfl) ?_
      refine WL.call rfl (blt rfl) rfl rfl rfl has27 rfl (within_any _ _ _ ) ?_
      rintro _ w16 ⟨rfl, x17⟩
      refine ⟨_, rfl, ?_⟩
      have xW := Ext.trans xW x17
      refine WL.yld rfl (blt rfl) rfl (Y.extract rfl rfl rfl) ?_
      refine WL.yld rfl (blt rfl) rfl (Y.extract rfl rfl rfl) ?_
      refine WL.yld rfl (blt rfl) rfl (Y.assign rfl rfl) ?_
      refine WL.yld rfl (blt rfl) rfl (Y.assign rfl rfl) ?_
      refine WL.nil ?_
      refine WK.then_normal (k15 _ _ ?_)
      refine WC.sub [(6, _), (7, _)] ⟨rfl, rfl, trivial⟩ ?_
      refine WC.ret ?_
      clear k1 k2 k5 k6 k7 k9 k10 k15
      refine WK.ret [_, _] rfl ⟨rfl, rfl, trivial⟩ ?_
      refine ⟨?_, xW⟩
      rw [← Nq.fl_neg0 h8 (dec_f h11)]; rfl
  ·
    refine WC.skip ?_
    refine WK.then_normal (k6 _ _ ?_)
    refine WC.sub [(11, _), (12, _)] ⟨rfl, rfl, trivial⟩ ?_
    refine WC.seq (fun K18 k18 => ?_)
    refine WC.region rfl ?_
    refine WL.yld rfl (blt rfl) rfl (Y.move rfl rfl) ?_
    refine WL.yld rfl (blt rfl) rfl (Y.move rfl rfl) ?_
    refine WL.call rfl (blt rfl) rfl rfl rfl has27 rfl (within_any _ _ _ ) ?_
    rintro _ w19 ⟨rfl, x20⟩
    refine ⟨_, rfl, ?_⟩
    have xW := Ext.trans xW x20
    refine WL.yld rfl (blt rfl) rfl (Y.extract rfl rfl rfl) ?_
    refine WL.yld rfl (blt rfl) rfl (Y.extract rfl rfl rfl) ?_
    refine WL.yld rfl (blt rfl) rfl (Y.assign rfl rfl) ?_
    refine WL.yld rfl (blt rfl) rfl (Y.assign rfl rfl) ?_
    refine WL.nil ?_
    refine WK.then_normal (k18 _ _ ?_)
    refine WC.sub [(6, _), (7, _)] ⟨rfl, rfl, trivial⟩ ?_
    refine WC.ret ?_
    clear k1 k2 k5 k6 k7 k18
    refine WK.ret [_, _] rfl ⟨rfl, rfl, trivial⟩ ?_
    refine ⟨?_, xW⟩
    rw [← Nq.fl_pos h8]; rfl
theorem ceil_any (a : Int) (b : Int) (c : Int) (w : World) :
    Calls Tryd.prog 18 #[.int .i64 a, .int .i64 b, .int .i64 c] w fun e w' => e = .returned (.tuple #[.int .i64 (Nq.rnd a b c true).1, .bool (Nq.rnd a b c true).2]) ∧ Ext w w' := by
  have xW := Ext.refl w
  refine calls_of_WC (args := [.int .i64 a, .int .i64 b, .int .i64 c]) Tryd.func18 rfl rfl (ble rfl) ?_
  refine WC.seq (fun K1 k1 => ?_)
  refine WC.region rfl ?_
  refine WL.yld rfl (blt rfl) rfl (Y.assign rfl rfl) ?_
  refine WL.yld rfl (blt rfl) rfl (Y.assign rfl rfl) ?_
  refine WL.nil ?_
  refine WK.then_normal (k1 _ _ ?_)
  refine WC.sub [(0, _), (1, _), (2, _)] ⟨rfl, rfl, rfl, trivial⟩ ?_
  refine WC.seq (fun K2 k2 => ?_)
  refine WC.region rfl ?_
  refine WL.yld rfl (blt rfl) rfl (Y.move rfl rfl) ?_
  refine WL.yld rfl (blt rfl) rfl (Y.move rfl rfl) ?_
  refine WL.yld rfl (blt rfl) rfl (Y.move rfl rfl) ?_
  refine WL.call rfl (blt rfl) rfl rfl rfl has28 rfl (quot_any _ _ _ _ ) ?_
  rintro _ w3 ⟨rfl, x4⟩
  refine ⟨_, rfl, ?_⟩
  have xW := Ext.trans xW x4
  refine WL.yld rfl (blt rfl) rfl (Y.move rfl rfl) ?_
  refine WL.yld rfl (blt rfl) rfl (Y.extract rfl rfl rfl) ?_
  refine WL.yld rfl (blt rfl) rfl (Y.extract rfl rfl rfl) ?_
  refine WL.yld rfl (blt rfl) rfl (Y.extract rfl rfl rfl) ?_
  refine WL.yld rfl (blt rfl) rfl (Y.extract rfl rfl rfl) ?_
  refine WL.yld rfl (blt rfl) rfl (Y.assign rfl rfl) ?_
  refine WL.yld rfl (blt rfl) rfl (Y.assign rfl rfl) ?_
  refine WL.yld rfl (blt rfl) rfl (Y.assign rfl rfl) ?_
  refine WL.yld rfl (blt rfl) rfl (Y.assign rfl rfl) ?_
  refine WL.nil ?_
  refine WK.then_normal (k2 _ _ ?_)
  refine WC.sub [(8, _), (9, _), (10, _), (11, _)] ⟨rfl, rfl, rfl, rfl, trivial⟩ ?_
  refine WC.seq (fun K5 k5 => ?_)
  refine WC.region rfl ?_
  refine WL.yld rfl (blt rfl) rfl (Y.move rfl rfl) ?_
  refine WL.yld rfl (blt rfl) rfl (Y.convInt rfl Tryd.underlying37 Tryd.underlying3 rfl rfl) ?_
  refine WL.yld rfl (blt rfl) rfl (Y.assign rfl rfl) ?_
  refine WL.nil ?_
  refine WK.then_normal (k5 _ _ ?_)
  refine WC.sub [(9, _), (10, _), (11, _), (12, _)] ⟨rfl, rfl, rfl, rfl, trivial⟩ ?_
  refine WC.seq (fun K6 k6 => ?_)
  refine WC.seq (fun K7 k7 => ?_)
  refine WC.region rfl ?_
  refine WL.yld rfl (blt rfl) rfl (Y.move rfl rfl) ?_
  refine WL.nil ?_
  refine WK.then_normal (k7 _ _ ?_)
  refine WC.sub [(9, _), (11, _), (12, _), (24, _)] ⟨rfl, rfl, rfl, rfl, trivial⟩ ?_
  refine WC.cond rfl (fun h8 => ?_) (fun h8 => ?_)
  ·
    refine WC.region rfl ?_
    refine WL.yld rfl (blt rfl) rfl (Y.move rfl rfl) ?_
    refine WL.yld rfl (blt rfl) rfl (Y.neg rfl rfl rfl) ?_
    refine WL.yld rfl (blt rfl) rfl (Y.assign rfl rfl) ?_
    refine WL.nil ?_
    refine WK.then_normal (k6 _ _ ?_)
    refine WC.sub [(11, _), (12, _)] ⟨rfl, rfl, trivial⟩ ?_
    refine WC.seq (fun K9 k9 => ?_)
    refine WC.region rfl ?_
    refine WL.yld rfl (blt rfl) rfl (Y.move rfl rfl) ?_
    refine WL.yld rfl (blt rfl) rfl (Y.move rfl rfl) ?_
    refine WL.call rfl (blt rfl) rfl rfl rfl has27 rfl (within_any _ _ _ ) ?_
    rintro _ w10 ⟨rfl, x11⟩
    refine ⟨_, rfl, ?_⟩
    have xW := Ext.trans xW x11
    refine WL.yld rfl (blt rfl) rfl (Y.extract rfl rfl rfl) ?_
    refine WL.yld rfl (blt rfl) rfl (Y.extract rfl rfl rfl) ?_
    refine WL.yld rfl (blt rfl) rfl (Y.assign rfl rfl) ?_
    refine WL.yld rfl (blt rfl) rfl (Y.assign rfl rfl) ?_
    refine WL.nil ?_
    refine WK.then_normal (k9 _ _ ?_)
    refine WC.sub [(6, _), (7, _)] ⟨rfl, rfl, trivial⟩ ?_
    refine WC.ret ?_
    clear k1 k2 k5 k6 k7 k9
    refine WK.ret [_, _] rfl ⟨rfl, rfl, trivial⟩ ?_
    refine ⟨?_, xW⟩
    rw [← Nq.ce_neg h8]; rfl
  ·
    refine WC.seq (fun K12 k12 => ?_)
    refine WC.region rfl ?_
    refine WL.yld rfl (blt rfl) rfl (Y.move rfl rfl) ?_
    refine WL.yld rfl (blt rfl) rfl (Y.gtr rfl rfl rfl) ?_
    refine WL.nil ?_
    refine WK.then_normal (k12 _ _ ?_)
    refine WC.sub [(11, _), (12, _), (28, _)] ⟨rfl, rfl, rfl, trivial⟩ ?_
    refine WC.cond rfl (fun h13 => ?_) (fun h13 => ?_)
    ·
      have p13 := (dec_t h13)
      refine WC.region rfl ?_
      refine WL.yld rfl (blt rfl) rfl (Y.move rfl rfl) ?_
      refine WL.yld rfl (blt rfl) rfl (Y.add rfl rfl rfl rfl) ?_
      refine WL.yld rfl (blt rfl) rfl (Y.assign rfl rfl) ?_
      refine WL.nil ?_
      refine WK.then_normal (k6 _ _ ?_)
      refine WC.sub [(11, _), (12, _)] ⟨rfl, rfl, trivial⟩ ?_
      refine WC.seq (fun K14 k14 => ?_)
      refine WC.region rfl ?_
      refine WL.yld rfl (blt rfl) rfl (Y.move rfl rfl) ?_
      refine WL.yld rfl (blt rfl) rfl (Y.move rfl rfl) ?_
      refine WL.call rfl (blt rfl) rfl rfl rfl has27 rfl (within_any _ _ _ ) ?_
      rintro _ w15 ⟨rfl, x16⟩
      refine ⟨_, rfl, ?_⟩
      have xW := Ext.trans xW x16
      refine WL.yld rfl (blt rfl) rfl (Y.extract rfl rfl rfl) ?_
      refine WL.yld rfl (blt rfl) rfl (Y.extract rfl rfl rfl) ?_
      refine WL.yld rfl (blt rfl) rfl (Y.assign rfl rfl) ?_
      refine WL.yld rfl (blt rfl) rfl (Y.assign rfl rfl) ?_
      refine WL.nil ?_
      refine WK.then_normal (k14 _ _ ?_)
      refine WC.sub [(6, _), (7, _)] ⟨rfl, rfl, trivial⟩ ?_
      refine WC.ret ?_
      clear k1 k2 k5 k6 k7 k12 k14
      refine WK.ret [_, _] rfl ⟨rfl, rfl, trivial⟩ ?_
      refine ⟨?_, xW⟩
      rw [← Nq.ce_pos1 h8 (dec_t h13)]; rfl
    ·
      have p13 := (dec_f h13)
      refine WC.skip ?_
      refine WK.then_normal (k6 _ _ ?_)
      refine WC.sub [(11, _), (12, _)] ⟨rfl, rfl, trivial⟩ ?_
      refine WC.seq (fun K17 k17 => ?_)
      refine WC.region rfl ?_
      refine WL.yld rfl (blt rfl) rfl (Y.move rfl rfl) ?_
      refine WL.yld rfl (blt rfl) rfl (Y.move rfl rfl) ?_
      refine WL.call rfl (blt rfl) rfl rfl rfl has27 rfl (within_any _ _ _ ) ?_
      rintro _ w18 ⟨rfl, x19⟩
      refine ⟨_, rfl, ?_⟩
      have xW := Ext.trans xW x19
      refine WL.yld rfl (blt rfl) rfl (Y.extract rfl rfl rfl) ?_
      refine WL.yld rfl (blt rfl) rfl (Y.extract rfl rfl rfl) ?_
      refine WL.yld rfl (blt rfl) rfl (Y.assign rfl rfl) ?_
      refine WL.yld rfl (blt rfl) rfl (Y.assign rfl rfl) ?_
      refine WL.nil ?_
      refine WK.then_normal (k17 _ _ ?_)
      refine WC.sub [(6, _), (7, _)] ⟨rfl, rfl, trivial⟩ ?_
      refine WC.ret ?_
      clear k1 k2 k5 k6 k7 k12 k17
      refine WK.ret [_, _] rfl ⟨rfl, rfl, trivial⟩ ?_
      refine ⟨?_, xW⟩
      rw [← Nq.ce_pos0 h8 (dec_f h13)]; rfl
theorem mul_any (a : Int) (b : Int) (w : World) :
    Calls Tryd.prog 11 #[.int .i64 a, .int .i64 b] w fun e w' => e = .returned (.tuple #[.int .i64 (Nq.rnd a b 1 false).1, .bool (Nq.rnd a b 1 false).2]) ∧ Ext w w' := by
  have xW := Ext.refl w
  refine calls_of_WC (args := [.int .i64 a, .int .i64 b]) Tryd.func11 rfl rfl (ble rfl) ?_
  refine WC.seq (fun K1 k1 => ?_)
  refine WC.region rfl ?_
  refine WL.yld rfl (blt rfl) rfl (Y.assign rfl rfl) ?_
  refine WL.yld rfl (blt rfl) rfl (Y.assign rfl rfl) ?_
  refine WL.nil ?_
  refine WK.then_normal (k1 _ _ ?_)
  refine WC.sub [(0, _), (1, _)] ⟨rfl, rfl, trivial⟩ ?_
  refine WC.seq (fun K2 k2 => ?_)
  refine WC.region rfl ?_
  refine WL.yld rfl (blt rfl) rfl (Y.move rfl rfl) ?_
  refine WL.yld rfl (blt rfl) rfl (Y.move rfl rfl) ?_
  refine WL.call rfl (blt rfl) rfl rfl rfl has17 rfl (floor_any _ _ _ _ ) ?_
  rintro _ w3 ⟨rfl, x4⟩
  refine ⟨_, rfl, ?_⟩
  have xW := Ext.trans xW x4
  refine WL.yld rfl (blt rfl) rfl (Y.extract rfl rfl rfl) ?_
  refine WL.yld rfl (blt rfl) rfl (Y.extract rfl rfl rfl) ?_
  refine WL.yld rfl (blt rfl) rfl (Y.assign rfl rfl) ?_
  refine WL.yld rfl (blt rfl) rfl (Y.assign rfl rfl) ?_
  refine WL.nil ?_
  refine WK.then_normal (k2 _ _ ?_)
  refine WC.sub [(4, _), (5, _)] ⟨rfl, rfl, trivial⟩ ?_
  refine WC.ret ?_
  clear k1 k2
  refine WK.ret [_, _] rfl ⟨rfl, rfl, trivial⟩ ?_
  exact ⟨rfl, xW⟩
end Q
end NqW

end Go.Proofs.YteaalclidffjgaaDoor
