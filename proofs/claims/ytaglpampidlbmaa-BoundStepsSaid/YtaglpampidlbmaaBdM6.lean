/- Contracts of package interval's functions. Conditions: what each theorem states.
   Contracts of package num's functions; Stretch. Conditions: what each theorem states. -/
import Derived.Test.YtaglpampidlbmaaIvSpec
import Derived.Test.YtaglpampidlbmaaIn
import Derived.Test.YtaglpampidlbmaaRows
import Derived.Test.YtaglpampidlbmaaNumSpec
namespace Go.Proofs.Ytaglpampidlbmaa
open Go Go.Eng Go.RowKit
set_option linter.unusedVariables false
set_option linter.unusedSimpArgs false
namespace BdW
theorem ti3 : TI Try.prog 3 (.int .i64 0) 1 8 := TI.mk (by kernel_rfl)
theorem ti29 : TI Try.prog 29 (.agg #[.int .i64 0, .int .i64 0]) 2 16 := TI.mk (by kernel_rfl)
theorem has41 : Has Try.prog 41 := ⟨_, Try.func41, rfl, by kernel_rfl⟩
theorem has61 : Has Try.prog 61 := ⟨_, Try.func61, rfl, by kernel_rfl⟩
theorem in_any (n : Int) (w : World) :
    Calls Try.prog 61 #[.int .i64 n] w fun e w' => e = .returned (.bool (Iv.inB n)) ∧ Ext w w' := by
  have xW := Ext.refl w
  refine calls_of_WC (args := [.int .i64 n]) Try.func61 rfl rfl (ble rfl) ?_
  refine WC.seq (fun K1 k1 => ?_)
  refine WC.region rfl ?_
  refine WL.yld rfl (blt rfl) rfl (Y.assign rfl rfl) ?_
  refine WL.nil ?_
  refine WK.then_normal (k1 _ _ ?_)
  refine WC.sub [(0, _)] ⟨rfl, trivial⟩ ?_
  refine WC.seq (fun K2 k2 => ?_)
  refine WC.region rfl ?_
  refine WL.yld rfl (blt rfl) rfl (Y.move rfl rfl) ?_
  refine WL.yld rfl (blt rfl) rfl (Y.geq rfl rfl rfl) ?_
  refine WL.yld rfl (blt rfl) rfl (Y.move rfl rfl) ?_
  refine WL.yldG rfl (blt rfl) rfl rfl rfl (fun hb => Y.move rfl rfl) ?_
  refine WL.yldG rfl (blt rfl) rfl rfl rfl (fun hb => Y.leq rfl (evg rfl hb) rfl) ?_
  refine WL.yld rfl (blt rfl) rfl (Y.and rfl rfl rfl rfl) ?_
  refine WL.yld rfl (blt rfl) rfl (Y.assign rfl rfl) ?_
  refine WL.nil ?_
  refine WK.then_normal (k2 _ _ ?_)
  refine WC.sub [(2, _)] ⟨rfl, trivial⟩ ?_
  refine WC.ret ?_
  clear k1 k2
  refine WK.ret [_] rfl ⟨rfl, trivial⟩ ?_
  exact ⟨rfl, xW⟩
theorem valid_any (a0 : Int) (a1 : Int) (w : World) :
    Calls Try.prog 41 #[.agg #[.int .i64 a0, .int .i64 a1]] w fun e w' => e = .returned (.bool (Iv.validB (a0, a1))) ∧ Ext w w' := by
  have xW := Ext.refl w
  refine calls_of_WC (args := [.agg #[.int .i64 a0, .int .i64 a1]]) Try.func41 rfl rfl (ble rfl) ?_
  refine WC.seq (fun K1 k1 => ?_)
  refine WC.region rfl ?_
  refine WL.box rfl (blt rfl) rfl rfl rfl rfl ?_
  intro g2 w3 e4 x5 m6
  have o_g2 := own_new xW e4
  have xW := Ext.trans xW x5
  refine WL.yld rfl (blt rfl) rfl (Y.assign rfl rfl) ?_
  refine WL.nil ?_
  refine WK.then_normal (k1 _ _ ?_)
  refine WC.sub [(1, _)] ⟨rfl, trivial⟩ ?_
  refine WC.seq (fun K7 k7 => ?_)
  refine WC.region rfl ?_
  refine WL.yld rfl (blt rfl) rfl (Y.fieldAddr rfl Try.underlying29 rfl ti3 (by decide) rfl) ?_
  refine WL.yld rfl (blt rfl) rfl (Y.load1 rfl Try.underlying3 rfl rfl (Blk.at_eq m6 rfl)) ?_
  refine WL.yld rfl (blt rfl) rfl (Y.fieldAddr rfl Try.underlying29 rfl ti3 (by decide) rfl) ?_
  refine WL.yld rfl (blt rfl) rfl (Y.load1 rfl Try.underlying3 rfl rfl (Blk.at_eq m6 rfl)) ?_
  refine WL.yld rfl (blt rfl) rfl (Y.leq rfl rfl rfl) ?_
  refine WL.yld rfl (blt rfl) rfl (Y.move rfl rfl) ?_
  refine WL.yldG rfl (blt rfl) rfl rfl rfl (fun hb => Y.fieldAddr rfl Try.underlying29 rfl ti3 (by decide) rfl) ?_
  refine WL.yldG rfl (blt rfl) rfl rfl rfl (fun hb => Y.load1 rfl Try.underlying3 rfl (evg rfl hb) (Blk.at_eq m6 rfl)) ?_
  refine WL.callG rfl (blt rfl) rfl rfl rfl rfl rfl has61 (fun hb => (evs_cons (evg rfl hb) evs_nil)) (fun hb => in_any _ _) (fun w8 x9 => ?_)
  have m6 := m6.ext x9
  have xW := Ext.trans xW x9
  refine WL.yld rfl (blt rfl) rfl (Y.and rfl rfl rfl rfl) ?_
  refine WL.yld rfl (blt rfl) rfl (Y.move rfl rfl) ?_
  refine WL.yldG rfl (blt rfl) rfl rfl rfl (fun hb => Y.fieldAddr rfl Try.underlying29 rfl ti3 (by decide) rfl) ?_
  refine WL.yldG rfl (blt rfl) rfl rfl rfl (fun hb => Y.load1 rfl Try.underlying3 rfl (evg rfl hb) (Blk.at_eq m6 rfl)) ?_
  refine WL.callG rfl (blt rfl) rfl rfl rfl rfl rfl has61 (fun hb => (evs_cons (evg rfl hb) evs_nil)) (fun hb => in_any _ _) (fun w10 x11 => ?_)
  have m6 := m6.ext x11
  have xW := Ext.trans xW x11
  refine WL.yld rfl (blt rfl) rfl (Y.and rfl rfl rfl rfl) ?_
  refine WL.yld rfl (blt rfl) rfl (Y.assign rfl rfl) ?_
  refine WL.nil ?_
  refine WK.then_normal (k7 _ _ ?_)
  refine WC.sub [(2, _)] ⟨rfl, trivial⟩ ?_
  refine WC.ret ?_
  clear k1 k7
  refine WK.ret [_] rfl ⟨rfl, trivial⟩ ?_
  exact ⟨rfl, xW⟩
theorem within_any (a0 : Int) (a1 : Int) (n : Int) (w : World) :
    Calls Try.prog 20 #[.agg #[.int .i64 a0, .int .i64 a1], .int .i64 n] w fun e w' => e = .returned (.bool (Iv.withinB (a0, a1) n)) ∧ Ext w w' := by
  have xW := Ext.refl w
  refine calls_of_WC (args := [.agg #[.int .i64 a0, .int .i64 a1], .int .i64 n]) Try.func20 rfl rfl (ble rfl) ?_
  refine WC.seq (fun K1 k1 => ?_)
  refine WC.region rfl ?_
  refine WL.box rfl (blt rfl) rfl rfl rfl rfl ?_
  intro g2 w3 e4 x5 m6
  have o_g2 := own_new xW e4
  have xW := Ext.trans xW x5
  refine WL.yld rfl (blt rfl) rfl (Y.assign rfl rfl) ?_
  refine WL.nil ?_
  refine WK.then_normal (k1 _ _ ?_)
  refine WC.sub [(1, _), (2, _)] ⟨rfl, rfl, trivial⟩ ?_
  refine WC.seq (fun K7 k7 => ?_)
  refine WC.region rfl ?_
  refine WL.yld rfl (blt rfl) rfl (Y.loadS rfl Try.underlying29 rfl ti29 rfl (Blk.row_eq m6)) ?_
  refine WL.call rfl (blt rfl) rfl rfl rfl has41 rfl (valid_any _ _ _) ?_
  rintro _ w8 ⟨rfl, x9⟩
  refine ⟨_, rfl, ?_⟩
  have m6 := m6.ext x9
  have xW := Ext.trans xW x9
  refine WL.yld rfl (blt rfl) rfl (Y.move rfl rfl) ?_
  refine WL.yldG rfl (blt rfl) rfl rfl rfl (fun hb => Y.fieldAddr rfl Try.underlying29 rfl ti3 (by decide) rfl) ?_
  refine WL.yldG rfl (blt rfl) rfl rfl rfl (fun hb => Y.load1 rfl Try.underlying3 rfl (evg rfl hb) (Blk.at_eq m6 rfl)) ?_
  refine WL.yldG rfl (blt rfl) rfl rfl rfl (fun hb => Y.move rfl rfl) ?_
  refine WL.yldG rfl (blt rfl) rfl rfl rfl (fun hb => Y.leq rfl (evg rfl hb) (evg rfl hb)) ?_
  refine WL.yld rfl (blt rfl) rfl (Y.and rfl rfl rfl rfl) ?_
  refine WL.yld rfl (blt rfl) rfl (Y.move rfl rfl) ?_
  refine WL.yldG rfl (blt rfl) rfl rfl rfl (fun hb => Y.move rfl rfl) ?_
  refine WL.yldG rfl (blt rfl) rfl rfl rfl (fun hb => Y.fieldAddr rfl Try.underlying29 rfl ti3 (by decide) rfl) ?_
  refine WL.yldG rfl (blt rfl) rfl rfl rfl (fun hb => Y.load1 rfl Try.underlying3 rfl (evg rfl hb) (Blk.at_eq m6 rfl)) ?_
  refine WL.yldG rfl (blt rfl) rfl rfl rfl (fun hb => Y.leq rfl (evg rfl hb) (evg rfl hb)) ?_
  refine WL.yld rfl (blt rfl) rfl (Y.and rfl rfl rfl rfl) ?_
  refine WL.yld rfl (blt rfl) rfl (Y.assign rfl rfl) ?_
  refine WL.nil ?_
  refine WK.then_normal (k7 _ _ ?_)
  refine WC.sub [(4, _)] ⟨rfl, trivial⟩ ?_
  refine WC.ret ?_
  clear k1 k7
  refine WK.ret [_] rfl ⟨rfl, trivial⟩ ?_
  exact ⟨rfl, xW⟩
end BdW

end Go.Proofs.Ytaglpampidlbmaa

namespace Go.Proofs.Ytaglpampidlbmaa
open Go Go.Eng Go.RowKit
set_option linter.unusedVariables false
set_option linter.unusedSimpArgs false
namespace BdW
namespace NumF
theorem ti3 : TI Try.prog 3 (.int .i64 0) 1 8 := TI.mk (by kernel_rfl)
theorem ti29 : TI Try.prog 29 (.agg #[.int .i64 0, .int .i64 0]) 2 16 := TI.mk (by kernel_rfl)
theorem has22 : Has Try.prog 22 := ⟨_, Try.func22, rfl, by kernel_rfl⟩
theorem has42 : Has Try.prog 42 := ⟨_, Try.func42, rfl, by kernel_rfl⟩
theorem has43 : Has Try.prog 43 := ⟨_, Try.func43, rfl, by kernel_rfl⟩
theorem has55 : Has Try.prog 55 := ⟨_, Try.func55, rfl, by kernel_rfl⟩
theorem has61 : Has Try.prog 61 := ⟨_, Try.func61, rfl, by kernel_rfl⟩
theorem has62 : Has Try.prog 62 := ⟨_, Try.func62, rfl, by kernel_rfl⟩
theorem has63 : Has Try.prog 63 := ⟨_, Try.func63, rfl, by kernel_rfl⟩
theorem has71 : Has Try.prog 71 := ⟨_, Try.func71, rfl, by kernel_rfl⟩
theorem has72 : Has Try.prog 72 := ⟨_, Try.func72, rfl, by kernel_rfl⟩
theorem has73 : Has Try.prog 73 := ⟨_, Try.func73, rfl, by kernel_rfl⟩
theorem pl29 : PL Try.prog 29 [.int .i64 0, .int .i64 0] [(0, 1), (1, 1)] := PL.mk (zero := [.int .i64 0, .int .i64 0]) ti29 Try.underlying29 (by kernel_rfl)
theorem mul64_any (x y : Int) (w : World) (hx : 0 ≤ x ∧ x ≤ 18446744073709551615) (hy : 0 ≤ y ∧ y ≤ 18446744073709551615) :
    Calls Try.prog 72 #[.int .u64 x, .int .u64 y] w fun e w' => e = .returned (.tuple #[.int .u64 (x * y / 18446744073709551616), .int .u64 (x * y % 18446744073709551616)]) ∧ Ext w w' := by
  have xW := Ext.refl w
  obtain ⟨p00, h00⟩ : ∃ p, (x % 4294967296) * (y % 4294967296) = p := ⟨_, rfl⟩
  obtain ⟨p01, h01⟩ : ∃ p, (x % 4294967296) * (y / 4294967296) = p := ⟨_, rfl⟩
  obtain ⟨p10, h10⟩ : ∃ p, (x / 4294967296) * (y % 4294967296) = p := ⟨_, rfl⟩
  obtain ⟨p11, h11⟩ : ∃ p, (x / 4294967296) * (y / 4294967296) = p := ⟨_, rfl⟩
  have b00 := mul_bound (a := x % 4294967296) (b := y % 4294967296) (m := 4294967295) (k := 4294967295) (by omega) (by omega)
  have b01 := mul_bound (a := x % 4294967296) (b := y / 4294967296) (m := 4294967295) (k := 4294967295) (by omega) (by omega)
  have b10 := mul_bound (a := x / 4294967296) (b := y % 4294967296) (m := 4294967295) (k := 4294967295) (by omega) (by omega)
  have b11 := mul_bound (a := x / 4294967296) (b := y / 4294967296) (m := 4294967295) (k := 4294967295) (by omega) (by omega)
  rw [h00] at b00
  rw [h01] at b01
  rw [h10] at b10
  rw [h11] at b11
  have hxy := Num.mul_split hx hy h00 h01 h10 h11
  refine calls_of_WC (args := [.int .u64 x, .int .u64 y]) Try.func72 rfl rfl (ble rfl) ?_
  refine WC.seq (fun K1 k1 => ?_)
  refine WC.region rfl ?_
  refine WL.yld rfl (blt rfl) rfl (Y.assign rfl rfl) ?_
  refine WL.yld rfl (blt rfl) rfl (Y.assign rfl rfl) ?_
  refine WL.nil ?_
  refine WK.then_normal (k1 _ _ ?_)
  refine WC.sub [(0, _), (1, _)] ⟨rfl, rfl, trivial⟩ ?_
  refine WC.seq (fun K2 k2 => ?_)
  refine WC.region rfl ?_
  refine WL.yld rfl (blt rfl) rfl (Y.move rfl rfl) ?_
  refine WL.yld rfl (blt rfl) rfl (Y.andM rfl rfl rfl (by omega)) ?_
  refine WL.yld rfl (blt rfl) rfl (Y.assign rfl rfl) ?_
  refine WL.nil ?_
  refine WK.then_normal (k2 _ _ ?_)
  refine WC.sub [(0, _), (1, _), (6, _)] ⟨rfl, rfl, rfl, trivial⟩ ?_
  refine WC.seq (fun K3 k3 => ?_)
  refine WC.region rfl ?_
  refine WL.yld rfl (blt rfl) rfl (Y.move rfl rfl) ?_
  refine WL.yld rfl (blt rfl) rfl (Y.shr rfl rfl rfl (by omega) (shr32 (by omega))) ?_
  refine WL.yld rfl (blt rfl) rfl (Y.assign rfl rfl) ?_
  refine WL.nil ?_
  refine WK.then_normal (k3 _ _ ?_)
  refine WC.sub [(0, _), (1, _), (6, _), (7, _)] ⟨rfl, rfl, rfl, rfl, trivial⟩ ?_
  refine WC.seq (fun K4 k4 => ?_)
  refine WC.region rfl ?_
  refine WL.yld rfl (blt rfl) rfl (Y.move rfl rfl) ?_
  refine WL.yld rfl (blt rfl) rfl (Y.andM rfl rfl rfl (by omega)) ?_
  refine WL.yld rfl (blt rfl) rfl (Y.assign rfl rfl) ?_
  refine WL.nil ?_
  refine WK.then_normal (k4 _ _ ?_)
  refine WC.sub [(0, _), (1, _), (6, _), (7, _), (8, _)] ⟨rfl, rfl, rfl, rfl, rfl, trivial⟩ ?_
  refine WC.seq (fun K5 k5 => ?_)
  refine WC.region rfl ?_
  refine WL.yld rfl (blt rfl) rfl (Y.move rfl rfl) ?_
  refine WL.yld rfl (blt rfl) rfl (Y.shr rfl rfl rfl (by omega) (shr32 (by omega))) ?_
  refine WL.yld rfl (blt rfl) rfl (Y.assign rfl rfl) ?_
  refine WL.nil ?_
  refine WK.then_normal (k5 _ _ ?_)
  refine WC.sub [(0, _), (1, _), (6, _), (7, _), (8, _), (9, _)] ⟨rfl, rfl, rfl, rfl, rfl, rfl, trivial⟩ ?_
  refine WC.seq (fun K6 k6 => ?_)
  refine WC.region rfl ?_
  refine WL.yld rfl (blt rfl) rfl (Y.move rfl rfl) ?_
  refine WL.yld rfl (blt rfl) rfl (Y.move rfl rfl) ?_
  refine WL.yld rfl (blt rfl) rfl (Y.mul rfl rfl rfl (wm h00 (by omega))) ?_
  refine WL.yld rfl (blt rfl) rfl (Y.assign rfl rfl) ?_
  refine WL.nil ?_
  refine WK.then_normal (k6 _ _ ?_)
  refine WC.sub [(0, _), (1, _), (6, _), (7, _), (8, _), (9, _), (10, _)] ⟨rfl, rfl, rfl, rfl, rfl, rfl, rfl, trivial⟩ ?_
  refine WC.seq (fun K7 k7 => ?_)
  refine WC.region rfl ?_
  refine WL.yld rfl (blt rfl) rfl (Y.move rfl rfl) ?_
  refine WL.yld rfl (blt rfl) rfl (Y.move rfl rfl) ?_
  refine WL.yld rfl (blt rfl) rfl (Y.mul rfl rfl rfl (wm h10 (by omega))) ?_
  refine WL.yld rfl (blt rfl) rfl (Y.move rfl rfl) ?_
  refine WL.yld rfl (blt rfl) rfl (Y.shr rfl rfl rfl (by omega) (shr32 (by omega))) ?_
  refine WL.yld rfl (blt rfl) rfl (Y.add rfl rfl rfl (wrap_u64 (by first | omega | (dsimp only; omega)))) ?_
  refine WL.yld rfl (blt rfl) rfl (Y.assign rfl rfl) ?_
  refine WL.nil ?_
  refine WK.then_normal (k7 _ _ ?_)
  refine WC.sub [(0, _), (1, _), (6, _), (7, _), (9, _), (11, _)] ⟨rfl, rfl, rfl, rfl, rfl, rfl, trivial⟩ ?_
  refine WC.seq (fun K8 k8 => ?_)
  refine WC.region rfl ?_
  refine WL.yld rfl (blt rfl) rfl (Y.move rfl rfl) ?_
  refine WL.yld rfl (blt rfl) rfl (Y.andM rfl rfl rfl (by omega)) ?_
  refine WL.yld rfl (blt rfl) rfl (Y.assign rfl rfl) ?_
  refine WL.nil ?_
  refine WK.then_normal (k8 _ _ ?_)
  refine WC.sub [(0, _), (1, _), (6, _), (7, _), (9, _), (11, _), (12, _)] ⟨rfl, rfl, rfl, rfl, rfl, rfl, rfl, trivial⟩ ?_
  refine WC.seq (fun K9 k9 => ?_)
  refine WC.region rfl ?_
  refine WL.yld rfl (blt rfl) rfl (Y.move rfl rfl) ?_
  refine WL.yld rfl (blt rfl) rfl (Y.shr rfl rfl rfl (by omega) (shr32 (by omega))) ?_
  refine WL.yld rfl (blt rfl) rfl (Y.assign rfl rfl) ?_
  refine WL.nil ?_
  refine WK.then_normal (k9 _ _ ?_)
  refine WC.sub [(0, _), (1, _), (6, _), (7, _), (9, _), (12, _), (13, _)] ⟨rfl, rfl, rfl, rfl, rfl, rfl, rfl, trivial⟩ ?_
  refine WC.seq (fun K10 k10 => ?_)
  refine WC.region rfl ?_
  refine WL.yld rfl (blt rfl) rfl (Y.move rfl rfl) ?_
  refine WL.yld rfl (blt rfl) rfl (Y.move rfl rfl) ?_
  refine WL.yld rfl (blt rfl) rfl (Y.move rfl rfl) ?_
  refine WL.yld rfl (blt rfl) rfl (Y.mul rfl rfl rfl (wm h01 (by omega))) ?_
  refine WL.yld rfl (blt rfl) rfl (Y.add rfl rfl rfl (wrap_u64 (by first | omega | (dsimp only; omega)))) ?_
  refine WL.yld rfl (blt rfl) rfl (Y.assign rfl rfl) ?_
  refine WL.nil ?_
  refine WK.then_normal (k10 _ _ ?_)
  refine WC.sub [(0, _), (1, _), (7, _), (9, _), (12, _), (13, _)] ⟨rfl, rfl, rfl, rfl, rfl, rfl, trivial⟩ ?_
  refine WC.seq (fun K11 k11 => ?_)
  refine WC.region rfl ?_
  refine WL.yld rfl (blt rfl) rfl (Y.move rfl rfl) ?_
  refine WL.yld rfl (blt rfl) rfl (Y.move rfl rfl) ?_
  refine WL.yld rfl (blt rfl) rfl (Y.mul rfl rfl rfl (wm h11 (by omega))) ?_
  refine WL.yld rfl (blt rfl) rfl (Y.move rfl rfl) ?_
  refine WL.yld rfl (blt rfl) rfl (Y.add rfl rfl rfl (wrap_u64 (by first | omega | (dsimp only; omega)))) ?_
  refine WL.yld rfl (blt rfl) rfl (Y.move rfl rfl) ?_
  refine WL.yld rfl (blt rfl) rfl (Y.shr rfl rfl rfl (by omega) (shr32 (by omega))) ?_
  refine WL.yld rfl (blt rfl) rfl (Y.add rfl rfl rfl (wrap_u64 (by first | omega | (dsimp only; omega)))) ?_
  refine WL.yld rfl (blt rfl) rfl (Y.assign rfl rfl) ?_
  refine WL.nil ?_
  refine WK.then_normal (k11 _ _ ?_)
  refine WC.sub [(0, _), (1, _), (4, _)] ⟨rfl, rfl, rfl, trivial⟩ ?_
  refine WC.seq (fun K12 k12 => ?_)
  refine WC.region rfl ?_
  refine WL.yld rfl (blt rfl) rfl (Y.move rfl rfl) ?_
  refine WL.yld rfl (blt rfl) rfl (Y.move rfl rfl) ?_
  refine WL.yld rfl (blt rfl) rfl (Y.mul rfl rfl rfl (IntKind.wrap_u64 _)) ?_
  refine WL.yld rfl (blt rfl) rfl (Y.assign rfl rfl) ?_
  refine WL.nil ?_
  refine WK.then_normal (k12 _ _ ?_)
  refine WC.sub [(4, _), (5, _)] ⟨rfl, rfl, trivial⟩ ?_
  refine WC.ret ?_
  clear k1 k2 k3 k4 k5 k6 k7 k8 k9 k10 k11 k12
  refine WK.ret [_, _] rfl ⟨rfl, rfl, trivial⟩ ?_
  refine ⟨ret2 (vi ?_) rfl, xW⟩
  rw [hxy]
  omega
theorem div64_lo (lo y : Int) (w : World) (hl : 0 ≤ lo ∧ lo ≤ 18446744073709551615) (hy : 1 ≤ y ∧ y ≤ 18446744073709551615) :
    Calls Try.prog 73 #[.int .u64 0, .int .u64 lo, .int .u64 y] w fun e w' => e = .returned (.tuple #[.int .u64 (lo / y), .int .u64 (lo % y)]) ∧ Ext w w' := by
  have xW := Ext.refl w
  refine calls_of_WC (args := [.int .u64 0, .int .u64 lo, .int .u64 y]) Try.func73 rfl rfl (ble rfl) ?_
  refine WC.seq (fun K1 k1 => ?_)
  refine WC.region rfl ?_
  refine WL.yld rfl (blt rfl) rfl (Y.assign rfl rfl) ?_
  refine WL.yld rfl (blt rfl) rfl (Y.assign rfl rfl) ?_
  refine WL.nil ?_
  refine WK.then_normal (k1 _ _ ?_)
  refine WC.sub [(0, _), (1, _), (2, _)] ⟨rfl, rfl, rfl, trivial⟩ ?_
  refine WC.seq (fun K2 k2 => ?_)
  refine WC.seq (fun K3 k3 => ?_)
  refine WC.region rfl ?_
  refine WL.yld rfl (blt rfl) rfl (Y.move rfl rfl) ?_
  refine WL.yld rfl (blt rfl) rfl (Yld.cast (Y.eql rfl rfl rfl) (vb (Num.ne_beq (by omega)))) ?_
  refine WL.nil ?_
  refine WK.then_normal (k3 _ _ ?_)
  refine WC.sub [(0, _), (1, _), (2, _), (20, _)] ⟨rfl, rfl, rfl, rfl, trivial⟩ ?_
  refine WC.condF rfl ?_
  refine WC.skip ?_
  refine WK.then_normal (k2 _ _ ?_)
  refine WC.sub [(0, _), (1, _), (2, _)] ⟨rfl, rfl, rfl, trivial⟩ ?_
  refine WC.seq (fun K4 k4 => ?_)
  refine WC.seq (fun K5 k5 => ?_)
  refine WC.region rfl ?_
  refine WL.yld rfl (blt rfl) rfl (Y.move rfl rfl) ?_
  refine WL.yld rfl (blt rfl) rfl (Y.move rfl rfl) ?_
  refine WL.yld rfl (blt rfl) rfl (Yld.cast (Y.leq rfl rfl rfl) (bf (by omega))) ?_
  refine WL.nil ?_
  refine WK.then_normal (k5 _ _ ?_)
  refine WC.sub [(0, _), (1, _), (2, _), (24, _)] ⟨rfl, rfl, rfl, rfl, trivial⟩ ?_
  refine WC.condF rfl ?_
  refine WC.skip ?_
  refine WK.then_normal (k4 _ _ ?_)
  refine WC.sub [(0, _), (1, _), (2, _)] ⟨rfl, rfl, rfl, trivial⟩ ?_
  refine WC.seq (fun K6 k6 => ?_)
  refine WC.seq (fun K7 k7 => ?_)
  refine WC.region rfl ?_
  refine WL.yld rfl (blt rfl) rfl (Y.move rfl rfl) ?_
  refine WL.yld rfl (blt rfl) rfl (Yld.cast (Y.eql rfl rfl rfl) (vb rfl)) ?_
  refine WL.nil ?_
  refine WK.then_normal (k7 _ _ ?_)
  refine WC.sub [(0, _), (1, _), (2, _), (27, _)] ⟨rfl, rfl, rfl, rfl, trivial⟩ ?_
  refine WC.condT rfl ?_
  refine WC.seq (fun K8 k8 => ?_)
  refine WC.regionDq (by kernel_rfl) (by kernel_rfl) rfl ?_
  refine WQ.yld rfl (blt rfl) rfl (Y.move rfl rfl) ?_
  refine WQ.yld rfl (blt rfl) rfl (Y.move rfl rfl) ?_
  refine WQ.yld rfl (blt rfl) rfl (Y.quo rfl rfl rfl (by omega) (wrap_quo_u64 (by omega) (by omega) (by omega))) ?_
  refine WQ.yld rfl (blt rfl) rfl (Y.move rfl rfl) ?_
  refine WQ.yld rfl (blt rfl) rfl (Y.move rfl rfl) ?_
  refine WQ.yld rfl (blt rfl) rfl (Y.rem rfl rfl rfl (by omega) (rem_pos (by omega))) ?_
  refine WQ.yld rfl (blt rfl) rfl (Y.assign rfl rfl) ?_
  refine WQ.yld rfl (blt rfl) rfl (Y.assign rfl rfl) ?_
  refine WQ.done (fun w9 x10 => ?_)
  have xW := Ext.trans xW x10
  refine WK.then_normal (k8 _ _ ?_)
  refine WC.sub [(6, _), (7, _)] ⟨rfl, rfl, trivial⟩ ?_
  refine WC.ret ?_
  refine WK.then_ret ?_
  clear k1 k2 k3 k4 k5 k6 k7 k8
  refine WK.ret [_, _] rfl ⟨rfl, rfl, trivial⟩ ?_
  exact ⟨rfl, xW⟩
theorem mul64_small (x y p : Int) (w : World) (h : x * y = p) (hx : 0 ≤ x ∧ x ≤ 18446744073709551615) (hy : 0 ≤ y ∧ y ≤ 18446744073709551615) (hp : 0 ≤ p ∧ p ≤ 18446744073709551615) :
    Calls Try.prog 72 #[.int .u64 x, .int .u64 y] w fun e w' => e = .returned (.tuple #[.int .u64 0, .int .u64 p]) ∧ Ext w w' := by
  have := mul64_any x y w hx hy
  rw [h, show p / 18446744073709551616 = 0 from by omega, show p % 18446744073709551616 = p from by omega] at this
  exact this
theorem in_yes (n : Int) (w : World) (h : -1000000000000000 ≤ n ∧ n ≤ 1000000000000000) :
    Calls Try.prog 61 #[.int .i64 n] w fun e w' => e = .returned (.bool true) ∧ Ext w w' := by
  have := in_any n w
  rw [show Iv.inB n = true from by simp [Iv.inB]; omega] at this
  exact this
theorem mag_nn (n : Int) (w : World) (h : 0 ≤ n ∧ n ≤ 1000000000000000) :
    Calls Try.prog 71 #[.int .i64 n] w fun e w' => e = .returned (.tuple #[.int .u64 n, .bool false]) ∧ Ext w w' := by
  have xW := Ext.refl w
  refine calls_of_WC (args := [.int .i64 n]) Try.func71 rfl rfl (ble rfl) ?_
  refine WC.seq (fun K1 k1 => ?_)
  refine WC.region rfl ?_
  refine WL.yld rfl (blt rfl) rfl (Y.assign rfl rfl) ?_
  refine WL.yld rfl (blt rfl) rfl (Y.assign rfl rfl) ?_
  refine WL.nil ?_
  refine WK.then_normal (k1 _ _ ?_)
  refine WC.sub [(0, _)] ⟨rfl, trivial⟩ ?_
  refine WC.seq (fun K2 k2 => ?_)
  refine WC.seq (fun K3 k3 => ?_)
  refine WC.region rfl ?_
  refine WL.yld rfl (blt rfl) rfl (Y.move rfl rfl) ?_
  refine WL.yld rfl (blt rfl) rfl (Yld.cast (Y.lss rfl rfl rfl) (bf (by omega))) ?_
  refine WL.nil ?_
  refine WK.then_normal (k3 _ _ ?_)
  refine WC.sub [(0, _), (5, _)] ⟨rfl, rfl, trivial⟩ ?_
  refine WC.condF rfl ?_
  refine WC.skip ?_
  refine WK.then_normal (k2 _ _ ?_)
  refine WC.sub [(0, _)] ⟨rfl, trivial⟩ ?_
  refine WC.seq (fun K4 k4 => ?_)
  refine WC.region rfl ?_
  refine WL.yld rfl (blt rfl) rfl (Y.move rfl rfl) ?_
  refine WL.yld rfl (blt rfl) rfl (Y.convInt rfl Try.underlying3 Try.underlying101 rfl (wrap_u64 (by first | omega | (dsimp only; omega)))) ?_
  refine WL.yld rfl (blt rfl) rfl (Y.assign rfl rfl) ?_
  refine WL.yld rfl (blt rfl) rfl (Y.assign rfl rfl) ?_
  refine WL.nil ?_
  refine WK.then_normal (k4 _ _ ?_)
  refine WC.sub [(2, _), (3, _)] ⟨rfl, rfl, trivial⟩ ?_
  refine WC.ret ?_
  clear k1 k2 k3 k4
  refine WK.ret [_, _] rfl ⟨rfl, rfl, trivial⟩ ?_
  exact ⟨rfl, xW⟩
theorem within_yes (n : Int) (w : World) (h : -1000000000000000 ≤ n ∧ n ≤ 1000000000000000) :
    Calls Try.prog 63 #[.int .i64 n, .bool true] w fun e w' => e = .returned (.tuple #[.int .i64 n, .bool true]) ∧ Ext w w' := by
  have xW := Ext.refl w
  refine calls_of_WC (args := [.int .i64 n, .bool true]) Try.func63 rfl rfl (ble rfl) ?_
  refine WC.seq (fun K1 k1 => ?_)
  refine WC.region rfl ?_
  refine WL.yld rfl (blt rfl) rfl (Y.assign rfl rfl) ?_
  refine WL.yld rfl (blt rfl) rfl (Y.assign rfl rfl) ?_
  refine WL.nil ?_
  refine WK.then_normal (k1 _ _ ?_)
  refine WC.sub [(0, _), (1, _)] ⟨rfl, rfl, trivial⟩ ?_
  refine WC.seq (fun K2 k2 => ?_)
  refine WC.seq (fun K3 k3 => ?_)
  refine WC.region rfl ?_
  refine WL.yld rfl (blt rfl) rfl (Y.move rfl rfl) ?_
  refine WL.yld rfl (blt rfl) rfl (Y.not rfl rfl) ?_
  refine WL.yld rfl (blt rfl) rfl (Y.move rfl rfl) ?_
  refine WL.yldW rfl (blt rfl) rfl rfl rfl (Y.move rfl rfl) ?_
  refine WL.callW rfl (blt rfl) rfl rfl rfl rfl rfl has61 rfl (in_yes _ _ (by omega)) ?_
  rintro _ w4 ⟨rfl, x5⟩
  refine ⟨_, rfl, ?_⟩
  have xW := Ext.trans xW x5
  refine WL.yldW rfl (blt rfl) rfl rfl rfl (Y.not rfl rfl) ?_
  refine WL.yld rfl (blt rfl) rfl (Y.pickF rfl rfl rfl) ?_
  refine WL.nil ?_
  refine WK.then_normal (k3 _ _ ?_)
  refine WC.sub [(0, _), (12, _)] ⟨rfl, rfl, trivial⟩ ?_
  refine WC.condF rfl ?_
  refine WC.skip ?_
  refine WK.then_normal (k2 _ _ ?_)
  refine WC.sub [(0, _)] ⟨rfl, trivial⟩ ?_
  refine WC.seq (fun K6 k6 => ?_)
  refine WC.region rfl ?_
  refine WL.yld rfl (blt rfl) rfl (Y.move rfl rfl) ?_
  refine WL.yld rfl (blt rfl) rfl (Y.assign rfl rfl) ?_
  refine WL.yld rfl (blt rfl) rfl (Y.assign rfl rfl) ?_
  refine WL.nil ?_
  refine WK.then_normal (k6 _ _ ?_)
  refine WC.sub [(4, _), (5, _)] ⟨rfl, rfl, trivial⟩ ?_
  refine WC.ret ?_
  clear k1 k2 k3 k6
  refine WK.ret [_, _] rfl ⟨rfl, rfl, trivial⟩ ?_
  exact ⟨rfl, xW⟩
theorem quot_small (a b c p q r : Int) (w : World) (ha : 0 ≤ a ∧ a ≤ 1000000000000000) (hb : 0 ≤ b ∧ b ≤ 1000000000000000) (hc : 1 ≤ c ∧ c ≤ 1000000000000000) (h : a * b = p) (hp : 0 ≤ p ∧ p ≤ 18446744073709551615) (hq : p / c = q) (hr : p % c = r) (hqb : 0 ≤ q ∧ q ≤ 1000000000000000) (hrb : 0 ≤ r ∧ r < c) :
    Calls Try.prog 62 #[.int .i64 a, .int .i64 b, .int .i64 c] w fun e w' => e = .returned (.tuple #[.int .u64 q, .int .u64 r, .bool false, .bool true]) ∧ Ext w w' := by
  have xW := Ext.refl w
  refine calls_of_WC (args := [.int .i64 a, .int .i64 b, .int .i64 c]) Try.func62 rfl rfl (ble rfl) ?_
  refine WC.seq (fun K1 k1 => ?_)
  refine WC.region rfl ?_
  refine WL.yld rfl (blt rfl) rfl (Y.assign rfl rfl) ?_
  refine WL.yld rfl (blt rfl) rfl (Y.assign rfl rfl) ?_
  refine WL.yld rfl (blt rfl) rfl (Y.assign rfl rfl) ?_
  refine WL.yld rfl (blt rfl) rfl (Y.assign rfl rfl) ?_
  refine WL.nil ?_
  refine WK.then_normal (k1 _ _ ?_)
  refine WC.sub [(0, _), (1, _), (2, _)] ⟨rfl, rfl, rfl, trivial⟩ ?_
  refine WC.seq (fun K2 k2 => ?_)
  refine WC.seq (fun K3 k3 => ?_)
  refine WC.region rfl ?_
  refine WL.yld rfl (blt rfl) rfl (Y.move rfl rfl) ?_
  refine WL.call rfl (blt rfl) rfl rfl rfl has61 rfl (in_yes _ _ (by omega)) ?_
  rintro _ w4 ⟨rfl, x5⟩
  refine ⟨_, rfl, ?_⟩
  have xW := Ext.trans xW x5
  refine WL.yld rfl (blt rfl) rfl (Y.not rfl rfl) ?_
  refine WL.yld rfl (blt rfl) rfl (Y.move rfl rfl) ?_
  refine WL.yldW rfl (blt rfl) rfl rfl rfl (Y.move rfl rfl) ?_
  refine WL.callW rfl (blt rfl) rfl rfl rfl rfl rfl has61 rfl (in_yes _ _ (by omega)) ?_
  rintro _ w6 ⟨rfl, x7⟩
  refine ⟨_, rfl, ?_⟩
  have xW := Ext.trans xW x7
  refine WL.yldW rfl (blt rfl) rfl rfl rfl (Y.not rfl rfl) ?_
  refine WL.yld rfl (blt rfl) rfl (Y.pickF rfl rfl rfl) ?_
  refine WL.yld rfl (blt rfl) rfl (Y.move rfl rfl) ?_
  refine WL.yldW rfl (blt rfl) rfl rfl rfl (Y.move rfl rfl) ?_
  refine WL.yldW rfl (blt rfl) rfl rfl rfl (Yld.cast (Y.lss rfl rfl rfl) (bf (by omega))) ?_
  refine WL.yld rfl (blt rfl) rfl (Y.pickF rfl rfl rfl) ?_
  refine WL.yld rfl (blt rfl) rfl (Y.move rfl rfl) ?_
  refine WL.yldW rfl (blt rfl) rfl rfl rfl (Y.move rfl rfl) ?_
  refine WL.callW rfl (blt rfl) rfl rfl rfl rfl rfl has61 rfl (in_yes _ _ (by omega)) ?_
  rintro _ w8 ⟨rfl, x9⟩
  refine ⟨_, rfl, ?_⟩
  have xW := Ext.trans xW x9
  refine WL.yldW rfl (blt rfl) rfl rfl rfl (Y.not rfl rfl) ?_
  refine WL.yld rfl (blt rfl) rfl (Y.pickF rfl rfl rfl) ?_
  refine WL.nil ?_
  refine WK.then_normal (k3 _ _ ?_)
  refine WC.sub [(0, _), (1, _), (2, _), (32, _)] ⟨rfl, rfl, rfl, rfl, trivial⟩ ?_
  refine WC.condF rfl ?_
  refine WC.skip ?_
  refine WK.then_normal (k2 _ _ ?_)
  refine WC.sub [(0, _), (1, _), (2, _)] ⟨rfl, rfl, rfl, trivial⟩ ?_
  refine WC.seq (fun K10 k10 => ?_)
  refine WC.region rfl ?_
  refine WL.yld rfl (blt rfl) rfl (Y.move rfl rfl) ?_
  refine WL.call rfl (blt rfl) rfl rfl rfl has71 rfl (mag_nn _ _ (by omega)) ?_
  rintro _ w11 ⟨rfl, x12⟩
  refine ⟨_, rfl, ?_⟩
  have xW := Ext.trans xW x12
  refine WL.yld rfl (blt rfl) rfl (Y.move rfl rfl) ?_
  refine WL.yld rfl (blt rfl) rfl (Y.extract rfl rfl rfl) ?_
  refine WL.yld rfl (blt rfl) rfl (Y.extract rfl rfl rfl) ?_
  refine WL.yld rfl (blt rfl) rfl (Y.assign rfl rfl) ?_
  refine WL.yld rfl (blt rfl) rfl (Y.assign rfl rfl) ?_
  refine WL.nil ?_
  refine WK.then_normal (k10 _ _ ?_)
  refine WC.sub [(1, _), (2, _), (10, _), (11, _)] ⟨rfl, rfl, rfl, rfl, trivial⟩ ?_
  refine WC.seq (fun K13 k13 => ?_)
  refine WC.region rfl ?_
  refine WL.yld rfl (blt rfl) rfl (Y.move rfl rfl) ?_
  refine WL.call rfl (blt rfl) rfl rfl rfl has71 rfl (mag_nn _ _ (by omega)) ?_
  rintro _ w14 ⟨rfl, x15⟩
  refine ⟨_, rfl, ?_⟩
  have xW := Ext.trans xW x15
  refine WL.yld rfl (blt rfl) rfl (Y.move rfl rfl) ?_
  refine WL.yld rfl (blt rfl) rfl (Y.extract rfl rfl rfl) ?_
  refine WL.yld rfl (blt rfl) rfl (Y.extract rfl rfl rfl) ?_
  refine WL.yld rfl (blt rfl) rfl (Y.assign rfl rfl) ?_
  refine WL.yld rfl (blt rfl) rfl (Y.assign rfl rfl) ?_
  refine WL.nil ?_
  refine WK.then_normal (k13 _ _ ?_)
  refine WC.sub [(2, _), (10, _), (11, _), (12, _), (13, _)] ⟨rfl, rfl, rfl, rfl, rfl, trivial⟩ ?_
  refine WC.seq (fun K16 k16 => ?_)
  refine WC.region rfl ?_
  refine WL.yld rfl (blt rfl) rfl (Y.move rfl rfl) ?_
  refine WL.yld rfl (blt rfl) rfl (Y.move rfl rfl) ?_
  refine WL.call rfl (blt rfl) rfl rfl rfl has72 rfl (mul64_small _ _ _ _ h (by omega) (by omega) (by omega)) ?_
  rintro _ w17 ⟨rfl, x18⟩
  refine ⟨_, rfl, ?_⟩
  have xW := Ext.trans xW x18
  refine WL.yld rfl (blt rfl) rfl (Y.move rfl rfl) ?_
  refine WL.yld rfl (blt rfl) rfl (Y.extract rfl rfl rfl) ?_
  refine WL.yld rfl (blt rfl) rfl (Y.extract rfl rfl rfl) ?_
  refine WL.yld rfl (blt rfl) rfl (Y.assign rfl rfl) ?_
  refine WL.yld rfl (blt rfl) rfl (Y.assign rfl rfl) ?_
  refine WL.nil ?_
  refine WK.then_normal (k16 _ _ ?_)
  refine WC.sub [(2, _), (11, _), (13, _), (14, _), (15, _)] ⟨rfl, rfl, rfl, rfl, rfl, trivial⟩ ?_
  refine WC.seq (fun K19 k19 => ?_)
  refine WC.seq (fun K20 k20 => ?_)
  refine WC.region rfl ?_
  refine WL.yld rfl (blt rfl) rfl (Y.move rfl rfl) ?_
  refine WL.yld rfl (blt rfl) rfl (Y.move rfl rfl) ?_
  refine WL.yld rfl (blt rfl) rfl (Y.convInt rfl Try.underlying3 Try.underlying101 rfl (wrap_u64 (by first | omega | (dsimp only; omega)))) ?_
  refine WL.yld rfl (blt rfl) rfl (Yld.cast (Y.geq rfl rfl rfl) (bf (by omega))) ?_
  refine WL.nil ?_
  refine WK.then_normal (k20 _ _ ?_)
  refine WC.sub [(2, _), (11, _), (13, _), (14, _), (15, _), (52, _)] ⟨rfl, rfl, rfl, rfl, rfl, rfl, trivial⟩ ?_
  refine WC.condF rfl ?_
  refine WC.skip ?_
  refine WK.then_normal (k19 _ _ ?_)
  refine WC.sub [(2, _), (11, _), (13, _), (14, _), (15, _)] ⟨rfl, rfl, rfl, rfl, rfl, trivial⟩ ?_
  refine WC.seq (fun K21 k21 => ?_)
  refine WC.region rfl ?_
  refine WL.yld rfl (blt rfl) rfl (Y.move rfl rfl) ?_
  refine WL.yld rfl (blt rfl) rfl (Y.move rfl rfl) ?_
  refine WL.yld rfl (blt rfl) rfl (Y.move rfl rfl) ?_
  refine WL.yld rfl (blt rfl) rfl (Y.convInt rfl Try.underlying3 Try.underlying101 rfl (wrap_u64 (by first | omega | (dsimp only; omega)))) ?_
  refine WL.call rfl (blt rfl) rfl rfl rfl has73 rfl (div64_lo _ _ _ (by omega) (by omega)) ?_
  rintro _ w22 ⟨rfl, x23⟩
  refine ⟨_, rfl, ?_⟩
  have xW := Ext.trans xW x23
  refine WL.yld rfl (blt rfl) rfl (Y.move rfl rfl) ?_
  refine WL.yld rfl (blt rfl) rfl (Y.extract rfl rfl rfl) ?_
  refine WL.yld rfl (blt rfl) rfl (Y.extract rfl rfl rfl) ?_
  refine WL.yld rfl (blt rfl) rfl (Y.assign rfl rfl) ?_
  refine WL.yld rfl (blt rfl) rfl (Y.assign rfl rfl) ?_
  refine WL.nil ?_
  refine WK.then_normal (k21 _ _ ?_)
  refine WC.sub [(6, _), (7, _), (11, _), (13, _)] ⟨rfl, rfl, rfl, rfl, trivial⟩ ?_
  refine WC.seq (fun K24 k24 => ?_)
  refine WC.region rfl ?_
  refine WL.yld rfl (blt rfl) rfl (Y.move rfl rfl) ?_
  refine WL.yld rfl (blt rfl) rfl (Y.move rfl rfl) ?_
  refine WL.yld rfl (blt rfl) rfl (Y.move rfl rfl) ?_
  refine WL.yld rfl (blt rfl) rfl (Y.move rfl rfl) ?_
  refine WL.yld rfl (blt rfl) rfl (Y.neqB rfl Try.underlying4 rfl rfl) ?_
  refine WL.yld rfl (blt rfl) rfl (Y.move rfl rfl) ?_
  refine WL.yld rfl (blt rfl) rfl (Yld.cast (Y.leq rfl rfl rfl) (bt (by omega))) ?_
  refine WL.yld rfl (blt rfl) rfl (Y.assign rfl rfl) ?_
  refine WL.yld rfl (blt rfl) rfl (Y.assign rfl rfl) ?_
  refine WL.yld rfl (blt rfl) rfl (Y.assign rfl rfl) ?_
  refine WL.yld rfl (blt rfl) rfl (Y.assign rfl rfl) ?_
  refine WL.nil ?_
  refine WK.then_normal (k24 _ _ ?_)
  refine WC.sub [(6, _), (7, _), (8, _), (9, _)] ⟨rfl, rfl, rfl, rfl, trivial⟩ ?_
  refine WC.ret ?_
  clear k1 k2 k3 k10 k13 k16 k19 k20 k21 k24
  refine WK.ret [_, _, _, _] rfl ⟨rfl, rfl, rfl, rfl, trivial⟩ ?_
  exact ⟨ret4 (vi hq) (vi hr) rfl rfl, xW⟩
theorem floor_small (a b c p q r : Int) (w : World) (ha : 0 ≤ a ∧ a ≤ 1000000000000000) (hb : 0 ≤ b ∧ b ≤ 1000000000000000) (hc : 1 ≤ c ∧ c ≤ 1000000000000000) (h : a * b = p) (hp : 0 ≤ p ∧ p ≤ 18446744073709551615) (hq : p / c = q) (hr : p % c = r) (hqb : 0 ≤ q ∧ q ≤ 1000000000000000) (hrb : 0 ≤ r ∧ r < c) :
    Calls Try.prog 42 #[.int .i64 a, .int .i64 b, .int .i64 c] w fun e w' => e = .returned (.tuple #[.int .i64 q, .bool true]) ∧ Ext w w' := by
  have xW := Ext.refl w
  refine calls_of_WC (args := [.int .i64 a, .int .i64 b, .int .i64 c]) Try.func42 rfl rfl (ble rfl) ?_
  refine WC.seq (fun K1 k1 => ?_)
  refine WC.region rfl ?_
  refine WL.yld rfl (blt rfl) rfl (Y.assign rfl rfl) ?_
  refine WL.yld rfl (blt rfl) rfl (Y.assign rfl rfl) ?_
  refine WL.nil ?_
  refine WK.then_normal (k1 _ _ ?_)
  refine WC.sub [(0, _), (1, _), (2, _)] ⟨rfl, rfl, rfl, trivial⟩ ?_
  refine WC.seq (fun K2 k2 => ?_)
  refine WC.region rfl ?_
  refine WL.yld rfl (blt rfl) rfl (Y.move rfl rfl) ?_
  refine WL.yld rfl (blt rfl) rfl (Y.move rfl rfl) ?_
  refine WL.yld rfl (blt rfl) rfl (Y.move rfl rfl) ?_
  refine WL.call rfl (blt rfl) rfl rfl rfl has62 rfl (quot_small _ _ _ p q r _ ha hb hc h hp hq hr (by omega) hrb) ?_
  rintro _ w3 ⟨rfl, x4⟩
  refine ⟨_, rfl, ?_⟩
  have xW := Ext.trans xW x4
  refine WL.yld rfl (blt rfl) rfl (Y.move rfl rfl) ?_
  refine WL.yld rfl (blt rfl) rfl (Y.extract rfl rfl rfl) ?_
  refine WL.yld rfl (blt rfl) rfl (Y.extract rfl rfl rfl) ?_
  refine WL.yld rfl (blt rfl) rfl (Y.extract rfl rfl rfl) ?_
  refine WL.yld rfl (blt rfl) rfl (Y.extract rfl rfl rfl) ?_
  refine WL.yld rfl (blt rfl) rfl (Y.assign rfl rfl) ?_
  refine WL.yld rfl (blt rfl) rfl (Y.assign rfl rfl) ?_
  refine WL.yld rfl (blt rfl) rfl (Y.assign rfl rfl) ?_
  refine WL.yld rfl (blt rfl) rfl (Y.assign rfl rfl) ?_
  refine WL.nil ?_
  refine WK.then_normal (k2 _ _ ?_)
  refine WC.sub [(8, _), (9, _), (10, _), (11, _)] ⟨rfl, rfl, rfl, rfl, trivial⟩ ?_
  refine WC.seq (fun K5 k5 => ?_)
  refine WC.region rfl ?_
  refine WL.yld rfl (blt rfl) rfl (Y.move rfl rfl) ?_
  refine WL.yld rfl (blt rfl) rfl (Y.convInt rfl Try.underlying101 Try.underlying3 rfl (wrap_i64 (by first | omega | (dsimp only; omega)))) ?_
  refine WL.yld rfl (blt rfl) rfl (Y.assign rfl rfl) ?_
  refine WL.nil ?_
  refine WK.then_normal (k5 _ _ ?_)
  refine WC.sub [(9, _), (10, _), (11, _), (12, _)] ⟨rfl, rfl, rfl, rfl, trivial⟩ ?_
  refine WC.seq (fun K6 k6 => ?_)
  refine WC.seq (fun K7 k7 => ?_)
  refine WC.region rfl ?_
  refine WL.yld rfl (blt rfl) rfl (Y.move rfl rfl) ?_
  refine WL.nil ?_
  refine WK.then_normal (k7 _ _ ?_)
  refine WC.sub [(9, _), (11, _), (12, _), (24, _)] ⟨rfl, rfl, rfl, rfl, trivial⟩ ?_
  refine WC.condF rfl ?_
  refine WC.skip ?_
  refine WK.then_normal (k6 _ _ ?_)
  refine WC.sub [(11, _), (12, _)] ⟨rfl, rfl, trivial⟩ ?_
  refine WC.seq (fun K8 k8 => ?_)
  refine WC.region rfl ?_
  refine WL.yld rfl (blt rfl) rfl (Y.move rfl rfl) ?_
  refine WL.yld rfl (blt rfl) rfl (Y.move rfl rfl) ?_
  refine WL.call rfl (blt rfl) rfl rfl rfl has63 rfl (within_yes _ _ (by omega)) ?_
  rintro _ w9 ⟨rfl, x10⟩
  refine ⟨_, rfl, ?_⟩
  have xW := Ext.trans xW x10
  refine WL.yld rfl (blt rfl) rfl (Y.extract rfl rfl rfl) ?_
  refine WL.yld rfl (blt rfl) rfl (Y.extract rfl rfl rfl) ?_
  refine WL.yld rfl (blt rfl) rfl (Y.assign rfl rfl) ?_
  refine WL.yld rfl (blt rfl) rfl (Y.assign rfl rfl) ?_
  refine WL.nil ?_
  refine WK.then_normal (k8 _ _ ?_)
  refine WC.sub [(6, _), (7, _)] ⟨rfl, rfl, trivial⟩ ?_
  refine WC.ret ?_
  clear k1 k2 k5 k6 k7 k8
  refine WK.ret [_, _] rfl ⟨rfl, rfl, trivial⟩ ?_
  exact ⟨rfl, xW⟩
theorem ceil_small (a b c p q r : Int) (w : World) (ha : 0 ≤ a ∧ a ≤ 1000000000000000) (hb : 0 ≤ b ∧ b ≤ 1000000000000000) (hc : 1 ≤ c ∧ c ≤ 1000000000000000) (h : a * b = p) (hp : 0 ≤ p ∧ p ≤ 18446744073709551615) (hq : p / c = q) (hr : p % c = r) (hqb : 0 ≤ q ∧ q < 1000000000000000) (hrb : 0 ≤ r ∧ r < c) :
    Calls Try.prog 43 #[.int .i64 a, .int .i64 b, .int .i64 c] w fun e w' => e = .returned (.tuple #[.int .i64 (if 0 < r then q + 1 else q), .bool true]) ∧ Ext w w' := by
  have xW := Ext.refl w
  refine calls_of_WC (args := [.int .i64 a, .int .i64 b, .int .i64 c]) Try.func43 rfl rfl (ble rfl) ?_
  refine WC.seq (fun K1 k1 => ?_)
  refine WC.region rfl ?_
  refine WL.yld rfl (blt rfl) rfl (Y.assign rfl rfl) ?_
  refine WL.yld rfl (blt rfl) rfl (Y.assign rfl rfl) ?_
  refine WL.nil ?_
  refine WK.then_normal (k1 _ _ ?_)
  refine WC.sub [(0, _), (1, _), (2, _)] ⟨rfl, rfl, rfl, trivial⟩ ?_
  refine WC.seq (fun K2 k2 => ?_)
  refine WC.region rfl ?_
  refine WL.yld rfl (blt rfl) rfl (Y.move rfl rfl) ?_
  refine WL.yld rfl (blt rfl) rfl (Y.move rfl rfl) ?_
  refine WL.yld rfl (blt rfl) rfl (Y.move rfl rfl) ?_
  refine WL.call rfl (blt rfl) rfl rfl rfl has62 rfl (quot_small _ _ _ p q r _ ha hb hc h hp hq hr (by omega) hrb) ?_
  rintro _ w3 ⟨rfl, x4⟩
  refine ⟨_, rfl, ?_⟩
  have xW := Ext.trans xW x4
  refine WL.yld rfl (blt rfl) rfl (Y.move rfl rfl) ?_
  refine WL.yld rfl (blt rfl) rfl (Y.extract rfl rfl rfl) ?_
  refine WL.yld rfl (blt rfl) rfl (Y.extract rfl rfl rfl) ?_
  refine WL.yld rfl (blt rfl) rfl (Y.extract rfl rfl rfl) ?_
  refine WL.yld rfl (blt rfl) rfl (Y.extract rfl rfl rfl) ?_
  refine WL.yld rfl (blt rfl) rfl (Y.assign rfl rfl) ?_
  refine WL.yld rfl (blt rfl) rfl (Y.assign rfl rfl) ?_
  refine WL.yld rfl (blt rfl) rfl (Y.assign rfl rfl) ?_
  refine WL.yld rfl (blt rfl) rfl (Y.assign rfl rfl) ?_
  refine WL.nil ?_
  refine WK.then_normal (k2 _ _ ?_)
  refine WC.sub [(8, _), (9, _), (10, _), (11, _)] ⟨rfl, rfl, rfl, rfl, trivial⟩ ?_
  refine WC.seq (fun K5 k5 => ?_)
  refine WC.region rfl ?_
  refine WL.yld rfl (blt rfl) rfl (Y.move rfl rfl) ?_
  refine WL.yld rfl (blt rfl) rfl (Y.convInt rfl Try.underlying101 Try.underlying3 rfl (wrap_i64 (by first | omega | (dsimp only; omega)))) ?_
  refine WL.yld rfl (blt rfl) rfl (Y.assign rfl rfl) ?_
  refine WL.nil ?_
  refine WK.then_normal (k5 _ _ ?_)
  refine WC.sub [(9, _), (10, _), (11, _), (12, _)] ⟨rfl, rfl, rfl, rfl, trivial⟩ ?_
  refine WC.seq (fun K6 k6 => ?_)
  refine WC.seq (fun K7 k7 => ?_)
  refine WC.region rfl ?_
  refine WL.yld rfl (blt rfl) rfl (Y.move rfl rfl) ?_
  refine WL.nil ?_
  refine WK.then_normal (k7 _ _ ?_)
  refine WC.sub [(9, _), (11, _), (12, _), (24, _)] ⟨rfl, rfl, rfl, rfl, trivial⟩ ?_
  refine WC.condF rfl ?_
  refine WC.seq (fun K8 k8 => ?_)
  refine WC.region rfl ?_
  refine WL.yld rfl (blt rfl) rfl (Y.move rfl rfl) ?_
  refine WL.yld rfl (blt rfl) rfl (Y.gtr rfl rfl rfl) ?_
  refine WL.nil ?_
  refine WK.then_normal (k8 _ _ ?_)
  refine WC.sub [(11, _), (12, _), (28, _)] ⟨rfl, rfl, rfl, trivial⟩ ?_
  refine WC.cond rfl (fun h9 => ?_) (fun h9 => ?_)
  ·
    have p9 := (dec_t h9)
    refine WC.region rfl ?_
    refine WL.yld rfl (blt rfl) rfl (Y.move rfl rfl) ?_
    refine WL.yld rfl (blt rfl) rfl (Y.add rfl rfl rfl (wrap_i64 (by first | omega | (dsimp only; omega)))) ?_
    refine WL.yld rfl (blt rfl) rfl (Y.assign rfl rfl) ?_
    refine WL.nil ?_
    refine WK.then_normal (k6 _ _ ?_)
    refine WC.sub [(11, _), (12, _)] ⟨rfl, rfl, trivial⟩ ?_
    refine WC.seq (fun K10 k10 => ?_)
    refine WC.region rfl ?_
    refine WL.yld rfl (blt rfl) rfl (Y.move rfl rfl) ?_
    refine WL.yld rfl (blt rfl) rfl (Y.move rfl rfl) ?_
    refine WL.call rfl (blt rfl) rfl rfl rfl has63 rfl (within_yes _ _ (by omega)) ?_
    rintro _ w11 ⟨rfl, x12⟩
    refine ⟨_, rfl, ?_⟩
    have xW := Ext.trans xW x12
    refine WL.yld rfl (blt rfl) rfl (Y.extract rfl rfl rfl) ?_
    refine WL.yld rfl (blt rfl) rfl (Y.extract rfl rfl rfl) ?_
    refine WL.yld rfl (blt rfl) rfl (Y.assign rfl rfl) ?_
    refine WL.yld rfl (blt rfl) rfl (Y.assign rfl rfl) ?_
    refine WL.nil ?_
    refine WK.then_normal (k10 _ _ ?_)
    refine WC.sub [(6, _), (7, _)] ⟨rfl, rfl, trivial⟩ ?_
    refine WC.ret ?_
    clear k1 k2 k5 k6 k7 k8 k10
    refine WK.ret [_, _] rfl ⟨rfl, rfl, trivial⟩ ?_
    simp only [decide_eq_true_eq, decide_eq_false_iff_not] at h9
    refine ⟨?_, xW⟩
    first | rw [if_pos (by omega)] | rw [if_neg (by omega)]
    rfl
  ·
    have p9 := (dec_f h9)
    refine WC.skip ?_
    refine WK.then_normal (k6 _ _ ?_)
    refine WC.sub [(11, _), (12, _)] ⟨rfl, rfl, trivial⟩ ?_
    refine WC.seq (fun K13 k13 => ?_)
    refine WC.region rfl ?_
    refine WL.yld rfl (blt rfl) rfl (Y.move rfl rfl) ?_
    refine WL.yld rfl (blt rfl) rfl (Y.move rfl rfl) ?_
    refine WL.call rfl (blt rfl) rfl rfl rfl has63 rfl (within_yes _ _ (by omega)) ?_
    rintro _ w14 ⟨rfl, x15⟩
    refine ⟨_, rfl, ?_⟩
    have xW := Ext.trans xW x15
    refine WL.yld rfl (blt rfl) rfl (Y.extract rfl rfl rfl) ?_
    refine WL.yld rfl (blt rfl) rfl (Y.extract rfl rfl rfl) ?_
    refine WL.yld rfl (blt rfl) rfl (Y.assign rfl rfl) ?_
    refine WL.yld rfl (blt rfl) rfl (Y.assign rfl rfl) ?_
    refine WL.nil ?_
    refine WK.then_normal (k13 _ _ ?_)
    refine WC.sub [(6, _), (7, _)] ⟨rfl, rfl, trivial⟩ ?_
    refine WC.ret ?_
    clear k1 k2 k5 k6 k7 k8 k13
    refine WK.ret [_, _] rfl ⟨rfl, rfl, trivial⟩ ?_
    simp only [decide_eq_true_eq, decide_eq_false_iff_not] at h9
    refine ⟨?_, xW⟩
    first | rw [if_pos (by omega)] | rw [if_neg (by omega)]
    rfl
theorem stretch_pos (d ppm : Int) (w : World) (hd : 0 ≤ d ∧ d ≤ 1000000000000) (hp : 0 ≤ ppm ∧ ppm ≤ 10000) :
    Calls Try.prog 22 #[.int .i64 d, .int .i64 ppm] w fun e w' => e = .returned (Iv.ivb (Iv.strPos d ppm, true)) ∧ Ext w w' := by
  have xW := Ext.refl w
  obtain ⟨p1, hp1⟩ : ∃ p, d * (1000000 - ppm) = p := ⟨_, rfl⟩
  obtain ⟨p2, hp2⟩ : ∃ p, d * (1000000 + ppm) = p := ⟨_, rfl⟩
  have b1 := mul_bound (a := d) (b := 1000000 - ppm) (m := 1000000000000) (k := 1000000) hd (by omega)
  have b2 := mul_bound (a := d) (b := 1000000 + ppm) (m := 1000000000000) (k := 1010000) hd (by omega)
  rw [hp1] at b1
  rw [hp2] at b2
  refine calls_of_WC (args := [.int .i64 d, .int .i64 ppm]) Try.func22 rfl rfl (ble rfl) ?_
  refine WC.seq (fun K1 k1 => ?_)
  refine WC.region rfl ?_
  refine WL.alloc rfl (blt rfl) rfl rfl ti29 rfl ?_
  intro g2 w3 e4 x5 m6
  have o_g2 := own_new xW e4
  have xW := Ext.trans xW x5
  refine WL.yld rfl (blt rfl) rfl (Y.assign rfl rfl) ?_
  refine WL.nil ?_
  refine WK.then_normal (k1 _ _ ?_)
  refine WC.sub [(0, _), (1, _), (4, _)] ⟨rfl, rfl, rfl, trivial⟩ ?_
  refine WC.seq (fun K7 k7 => ?_)
  refine WC.seq (fun K8 k8 => ?_)
  refine WC.region rfl ?_
  refine WL.yld rfl (blt rfl) rfl (Y.move rfl rfl) ?_
  refine WL.yld rfl (blt rfl) rfl (Yld.cast (Y.lss rfl rfl rfl) (bf (by omega))) ?_
  refine WL.yld rfl (blt rfl) rfl (Y.move rfl rfl) ?_
  refine WL.yldW rfl (blt rfl) rfl rfl rfl (Y.move rfl rfl) ?_
  refine WL.yldW rfl (blt rfl) rfl rfl rfl (Yld.cast (Y.gtr rfl rfl rfl) (bf (by omega))) ?_
  refine WL.yld rfl (blt rfl) rfl (Y.pickF rfl rfl rfl) ?_
  refine WL.yld rfl (blt rfl) rfl (Y.move rfl rfl) ?_
  refine WL.yldW rfl (blt rfl) rfl rfl rfl (Y.move rfl rfl) ?_
  refine WL.yldW rfl (blt rfl) rfl rfl rfl (Yld.cast (Y.lss rfl rfl rfl) (bf (by omega))) ?_
  refine WL.yld rfl (blt rfl) rfl (Y.pickF rfl rfl rfl) ?_
  refine WL.yld rfl (blt rfl) rfl (Y.move rfl rfl) ?_
  refine WL.yldW rfl (blt rfl) rfl rfl rfl (Y.move rfl rfl) ?_
  refine WL.yldW rfl (blt rfl) rfl rfl rfl (Yld.cast (Y.gtr rfl rfl rfl) (bf (by omega))) ?_
  refine WL.yld rfl (blt rfl) rfl (Y.pickF rfl rfl rfl) ?_
  refine WL.nil ?_
  refine WK.then_normal (k8 _ _ ?_)
  refine WC.sub [(0, _), (1, _), (4, _), (25, _)] ⟨rfl, rfl, rfl, rfl, trivial⟩ ?_
  refine WC.condF rfl ?_
  refine WC.skip ?_
  refine WK.then_normal (k7 _ _ ?_)
  refine WC.sub [(0, _), (1, _), (4, _)] ⟨rfl, rfl, rfl, trivial⟩ ?_
  refine WC.seq (fun K9 k9 => ?_)
  refine WC.seq (fun K10 k10 => ?_)
  refine WC.region rfl ?_
  refine WL.yld rfl (blt rfl) rfl (Y.move rfl rfl) ?_
  refine WL.yld rfl (blt rfl) rfl (Yld.cast (Y.lss rfl rfl rfl) (bf (by omega))) ?_
  refine WL.nil ?_
  refine WK.then_normal (k10 _ _ ?_)
  refine WC.sub [(0, _), (1, _), (4, _), (28, _)] ⟨rfl, rfl, rfl, rfl, trivial⟩ ?_
  refine WC.condF rfl ?_
  refine WC.skip ?_
  refine WK.then_normal (k9 _ _ ?_)
  refine WC.sub [(0, _), (1, _), (4, _)] ⟨rfl, rfl, rfl, trivial⟩ ?_
  refine WC.seq (fun K11 k11 => ?_)
  refine WC.region rfl ?_
  refine WL.yld rfl (blt rfl) rfl (Y.move rfl rfl) ?_
  refine WL.yld rfl (blt rfl) rfl (Y.move rfl rfl) ?_
  refine WL.yld rfl (blt rfl) rfl (Y.sub rfl rfl rfl (wrap_i64 (by first | omega | (dsimp only; omega)))) ?_
  refine WL.call rfl (blt rfl) rfl rfl rfl has42 rfl (floor_small _ _ _ p1 _ _ _ (by omega) (by omega) (by omega) hp1 (by omega) rfl rfl (by omega) (by omega)) ?_
  rintro _ w12 ⟨rfl, x13⟩
  refine ⟨_, rfl, ?_⟩
  have m6 := m6.ext x13
  have xW := Ext.trans xW x13
  refine WL.yld rfl (blt rfl) rfl (Y.move rfl rfl) ?_
  refine WL.yld rfl (blt rfl) rfl (Y.extract rfl rfl rfl) ?_
  refine WL.yld rfl (blt rfl) rfl (Y.extract rfl rfl rfl) ?_
  refine WL.yld rfl (blt rfl) rfl (Y.assign rfl rfl) ?_
  refine WL.yld rfl (blt rfl) rfl (Y.assign rfl rfl) ?_
  refine WL.nil ?_
  refine WK.then_normal (k11 _ _ ?_)
  refine WC.sub [(0, _), (1, _), (4, _), (8, _)] ⟨rfl, rfl, rfl, rfl, trivial⟩ ?_
  refine WC.seq (fun K14 k14 => ?_)
  refine WC.region rfl ?_
  refine WL.yld rfl (blt rfl) rfl (Y.move rfl rfl) ?_
  refine WL.yld rfl (blt rfl) rfl (Y.move rfl rfl) ?_
  refine WL.yld rfl (blt rfl) rfl (Y.add rfl rfl rfl (wrap_i64 (by first | omega | (dsimp only; omega)))) ?_
  refine WL.call rfl (blt rfl) rfl rfl rfl has43 rfl (ceil_small _ _ _ p2 _ _ _ (by omega) (by omega) (by omega) hp2 (by omega) rfl rfl (by omega) (by omega)) ?_
  rintro _ w15 ⟨rfl, x16⟩
  refine ⟨_, rfl, ?_⟩
  have m6 := m6.ext x16
  have xW := Ext.trans xW x16
  refine WL.yld rfl (blt rfl) rfl (Y.move rfl rfl) ?_
  refine WL.yld rfl (blt rfl) rfl (Y.extract rfl rfl rfl) ?_
  refine WL.yld rfl (blt rfl) rfl (Y.extract rfl rfl rfl) ?_
  refine WL.yld rfl (blt rfl) rfl (Y.assign rfl rfl) ?_
  refine WL.yld rfl (blt rfl) rfl (Y.assign rfl rfl) ?_
  refine WL.nil ?_
  refine WK.then_normal (k14 _ _ ?_)
  refine WC.sub [(4, _), (8, _), (10, _)] ⟨rfl, rfl, rfl, trivial⟩ ?_
  refine WC.seq (fun K17 k17 => ?_)
  refine WC.region rfl ?_
  refine WL.yld rfl (blt rfl) rfl (Y.move rfl rfl) ?_
  refine WL.yld rfl (blt rfl) rfl (Y.move rfl rfl) ?_
  refine WL.yld rfl (blt rfl) rfl (Y.build (cells := [_, _]) rfl pl29 rfl rfl) ?_
  refine WL.store (cs' := [_, _]) rfl rfl rfl rfl rfl rfl ti29 m6 (ble rfl) rfl rfl (fun w18 on19 m20 => ?_)
  have xW := Ext.only xW on19 o_g2
  refine WL.yld rfl (blt rfl) rfl (Y.assign rfl rfl) ?_
  refine WL.nil ?_
  refine WK.then_normal (k17 _ _ ?_)
  refine WC.sub [(4, _), (5, _)] ⟨rfl, rfl, trivial⟩ ?_
  refine WC.ret ?_
  clear k1 k7 k8 k9 k10 k11 k14 k17
  refine WK.ret [_, _] rfl ⟨⟨_, rfl, run_loadVar_blk Try.underlying29 rfl ti29 m20⟩, rfl, trivial⟩ ?_
  refine ⟨?_, xW⟩
  simp only [Iv.ivb, Iv.strPos, hp1, hp2]
  exact ret2 (Iv.agg2 (by omega) (by first | omega | (split <;> omega))) rfl
theorem stretch_bad (d ppm : Int) (w : World) (hg : Iv.strGuard d ppm = true) :
    Calls Try.prog 22 #[.int .i64 d, .int .i64 ppm] w fun e w' => e = .returned (Iv.ivb ((0, 0), false)) ∧ Ext w w' := by
  have xW := Ext.refl w
  refine calls_of_WC (args := [.int .i64 d, .int .i64 ppm]) Try.func22 rfl rfl (ble rfl) ?_
  refine WC.seq (fun K1 k1 => ?_)
  refine WC.region rfl ?_
  refine WL.alloc rfl (blt rfl) rfl rfl ti29 rfl ?_
  intro g2 w3 e4 x5 m6
  have o_g2 := own_new xW e4
  have xW := Ext.trans xW x5
  refine WL.yld rfl (blt rfl) rfl (Y.assign rfl rfl) ?_
  refine WL.nil ?_
  refine WK.then_normal (k1 _ _ ?_)
  refine WC.sub [(0, _), (1, _), (4, _)] ⟨rfl, rfl, rfl, trivial⟩ ?_
  refine WC.seq (fun K7 k7 => ?_)
  refine WC.seq (fun K8 k8 => ?_)
  refine WC.region rfl ?_
  refine WL.yld rfl (blt rfl) rfl (Y.move rfl rfl) ?_
  refine WL.yld rfl (blt rfl) rfl (Y.lss rfl rfl rfl) ?_
  refine WL.yld rfl (blt rfl) rfl (Y.move rfl rfl) ?_
  refine WL.yldG rfl (blt rfl) rfl rfl rfl (fun hb => Y.move rfl rfl) ?_
  refine WL.yldG rfl (blt rfl) rfl rfl rfl (fun hb => Y.gtr rfl (evg rfl hb) rfl) ?_
  refine WL.yld rfl (blt rfl) rfl (Y.or rfl rfl rfl rfl) ?_
  refine WL.yld rfl (blt rfl) rfl (Y.move rfl rfl) ?_
  refine WL.yldG rfl (blt rfl) rfl rfl rfl (fun hb => Y.move rfl rfl) ?_
  refine WL.yldG rfl (blt rfl) rfl rfl rfl (fun hb => Y.lss rfl (evg rfl hb) rfl) ?_
  refine WL.yld rfl (blt rfl) rfl (Y.or rfl rfl rfl rfl) ?_
  refine WL.yld rfl (blt rfl) rfl (Y.move rfl rfl) ?_
  refine WL.yldG rfl (blt rfl) rfl rfl rfl (fun hb => Y.move rfl rfl) ?_
  refine WL.yldG rfl (blt rfl) rfl rfl rfl (fun hb => Y.gtr rfl (evg rfl hb) rfl) ?_
  refine WL.yld rfl (blt rfl) rfl (Y.or rfl rfl rfl rfl) ?_
  refine WL.nil ?_
  refine WK.then_normal (k8 _ _ ?_)
  refine WC.sub [(0, _), (1, _), (4, _), (25, _)] ⟨rfl, rfl, rfl, rfl, trivial⟩ ?_
  refine WC.cond rfl (fun h9 => ?_) (fun h9 => ?_)
  ·
    have p9 := ((or_t h9).imp (fun h => ((or_t h).imp (fun h => ((or_t h).imp (fun h => (dec_t h)) (fun h => (dec_t h)))) (fun h => (dec_t h)))) (fun h => (dec_t h)))
    refine WC.seq (fun K10 k10 => ?_)
    refine WC.region rfl ?_
    refine WL.yld rfl (blt rfl) rfl (Y.build (cells := [_, _]) rfl pl29 rfl rfl) ?_
    refine WL.store (cs' := [_, _]) rfl rfl rfl rfl rfl rfl ti29 m6 (ble rfl) rfl rfl (fun w11 on12 m13 => ?_)
    have xW := Ext.only xW on12 o_g2
    refine WL.yld rfl (blt rfl) rfl (Y.assign rfl rfl) ?_
    refine WL.nil ?_
    refine WK.then_normal (k10 _ _ ?_)
    refine WC.sub [(4, _), (5, _)] ⟨rfl, rfl, trivial⟩ ?_
    refine WC.ret ?_
    refine WK.then_ret ?_
    clear k1 k7 k8 k10
    refine WK.ret [_, _] rfl ⟨⟨_, rfl, run_loadVar_blk Try.underlying29 rfl ti29 m13⟩, rfl, trivial⟩ ?_
    exact ⟨rfl, xW⟩
  ·
    clear k1 k7 k8
    exact Bool.noConfusion (hg.symm.trans h9)
theorem stretch_neg (d ppm : Int) (w : World) (hd : -1000000000000 ≤ d ∧ d < 0) (hp : 0 ≤ ppm ∧ ppm ≤ 10000) :
    Calls Try.prog 22 #[.int .i64 d, .int .i64 ppm] w fun e w' => e = .returned (Iv.ivb ((-(Iv.strPos (-d) ppm).2, -(Iv.strPos (-d) ppm).1), true)) ∧ Ext w w' := by
  have xW := Ext.refl w
  have b := Iv.strPos_bound (d := -d) (ppm := ppm) (by omega) hp
  refine calls_of_WC (args := [.int .i64 d, .int .i64 ppm]) Try.func22 rfl rfl (ble rfl) ?_
  refine WC.seq (fun K1 k1 => ?_)
  refine WC.region rfl ?_
  refine WL.alloc rfl (blt rfl) rfl rfl ti29 rfl ?_
  intro g2 w3 e4 x5 m6
  have o_g2 := own_new xW e4
  have xW := Ext.trans xW x5
  refine WL.yld rfl (blt rfl) rfl (Y.assign rfl rfl) ?_
  refine WL.nil ?_
  refine WK.then_normal (k1 _ _ ?_)
  refine WC.sub [(0, _), (1, _), (4, _)] ⟨rfl, rfl, rfl, trivial⟩ ?_
  refine WC.seq (fun K7 k7 => ?_)
  refine WC.seq (fun K8 k8 => ?_)
  refine WC.region rfl ?_
  refine WL.yld rfl (blt rfl) rfl (Y.move rfl rfl) ?_
  refine WL.yld rfl (blt rfl) rfl (Yld.cast (Y.lss rfl rfl rfl) (bf (by omega))) ?_
  refine WL.yld rfl (blt rfl) rfl (Y.move rfl rfl) ?_
  refine WL.yldW rfl (blt rfl) rfl rfl rfl (Y.move rfl rfl) ?_
  refine WL.yldW rfl (blt rfl) rfl rfl rfl (Yld.cast (Y.gtr rfl rfl rfl) (bf (by omega))) ?_
  refine WL.yld rfl (blt rfl) rfl (Y.pickF rfl rfl rfl) ?_
  refine WL.yld rfl (blt rfl) rfl (Y.move rfl rfl) ?_
  refine WL.yldW rfl (blt rfl) rfl rfl rfl (Y.move rfl rfl) ?_
  refine WL.yldW rfl (blt rfl) rfl rfl rfl (Yld.cast (Y.lss rfl rfl rfl) (bf (by omega))) ?_
  refine WL.yld rfl (blt rfl) rfl (Y.pickF rfl rfl rfl) ?_
  refine WL.yld rfl (blt rfl) rfl (Y.move rfl rfl) ?_
  refine WL.yldW rfl (blt rfl) rfl rfl rfl (Y.move rfl rfl) ?_
  refine WL.yldW rfl (blt rfl) rfl rfl rfl (Yld.cast (Y.gtr rfl rfl rfl) (bf (by omega))) ?_
  refine WL.yld rfl (blt rfl) rfl (Y.pickF rfl rfl rfl) ?_
  refine WL.nil ?_
  refine WK.then_normal (k8 _ _ ?_)
  refine WC.sub [(0, _), (1, _), (4, _), (25, _)] ⟨rfl, rfl, rfl, rfl, trivial⟩ ?_
  refine WC.condF rfl ?_
  refine WC.skip ?_
  refine WK.then_normal (k7 _ _ ?_)
  refine WC.sub [(0, _), (1, _), (4, _)] ⟨rfl, rfl, rfl, trivial⟩ ?_
  refine WC.seq (fun K9 k9 => ?_)
  refine WC.seq (fun K10 k10 => ?_)
  refine WC.region rfl ?_
  refine WL.yld rfl (blt rfl) rfl (Y.move rfl rfl) ?_
  refine WL.yld rfl (blt rfl) rfl (Yld.cast (Y.lss rfl rfl rfl) (bt (by omega))) ?_
  refine WL.nil ?_
  refine WK.then_normal (k10 _ _ ?_)
  refine WC.sub [(0, _), (1, _), (4, _), (28, _)] ⟨rfl, rfl, rfl, rfl, trivial⟩ ?_
  refine WC.condT rfl ?_
  refine WC.seq (fun K11 k11 => ?_)
  refine WC.region rfl ?_
  refine WL.yld rfl (blt rfl) rfl (Y.move rfl rfl) ?_
  refine WL.yld rfl (blt rfl) rfl (Y.neg rfl rfl (wrap_i64 (by first | omega | (dsimp only; omega)))) ?_
  refine WL.yld rfl (blt rfl) rfl (Y.move rfl rfl) ?_
  refine WL.call rfl (blt rfl) rfl rfl rfl has22 rfl (stretch_pos _ _ _ (by omega) (by omega)) ?_
  rintro _ w12 ⟨rfl, x13⟩
  refine ⟨_, rfl, ?_⟩
  have m6 := m6.ext x13
  have xW := Ext.trans xW x13
  refine WL.yld rfl (blt rfl) rfl (Y.move rfl rfl) ?_
  refine WL.yld rfl (blt rfl) rfl (Y.extract rfl rfl rfl) ?_
  refine WL.yld rfl (blt rfl) rfl (Y.extract rfl rfl rfl) ?_
  refine WL.alloc rfl (blt rfl) rfl rfl ti29 rfl ?_
  intro g14 w15 e16 x17 m18
  have n_g2_g14 := ne_new m6 e16
  have o_g14 := own_new xW e16
  have m6 := m6.ext x17
  have xW := Ext.trans xW x17
  refine WL.store (cs' := [_, _]) rfl rfl rfl rfl rfl rfl ti29 m18 (ble rfl) rfl rfl (fun w19 on20 m21 => ?_)
  have m6 := m6.only n_g2_g14 on20
  have xW := Ext.only xW on20 o_g14
  refine WL.yld rfl (blt rfl) rfl (Y.assign rfl rfl) ?_
  refine WL.nil ?_
  refine WK.then_normal (k11 _ _ ?_)
  refine WC.sub [(4, _), (6, _)] ⟨rfl, rfl, trivial⟩ ?_
  refine WC.seq (fun K22 k22 => ?_)
  refine WC.region rfl ?_
  refine WL.yld rfl (blt rfl) rfl (Y.fieldAddr rfl Try.underlying29 rfl ti3 (by decide) rfl) ?_
  refine WL.yld rfl (blt rfl) rfl (Y.load1 rfl Try.underlying3 rfl rfl (Blk.at_eq m21 rfl)) ?_
  refine WL.yld rfl (blt rfl) rfl (Y.neg rfl rfl (wrap_i64 (by first | omega | (dsimp only; omega)))) ?_
  refine WL.yld rfl (blt rfl) rfl (Y.fieldAddr rfl Try.underlying29 rfl ti3 (by decide) rfl) ?_
  refine WL.yld rfl (blt rfl) rfl (Y.load1 rfl Try.underlying3 rfl rfl (Blk.at_eq m21 rfl)) ?_
  refine WL.yld rfl (blt rfl) rfl (Y.neg rfl rfl (wrap_i64 (by first | omega | (dsimp only; omega)))) ?_
  refine WL.yld rfl (blt rfl) rfl (Y.build (cells := [_, _]) rfl pl29 rfl rfl) ?_
  refine WL.store (cs' := [_, _]) rfl rfl rfl rfl rfl rfl ti29 m6 (ble rfl) rfl rfl (fun w23 on24 m25 => ?_)
  have m21 := m21.only n_g2_g14.symm on24
  have xW := Ext.only xW on24 o_g2
  refine WL.yld rfl (blt rfl) rfl (Y.assign rfl rfl) ?_
  refine WL.nil ?_
  refine WK.then_normal (k22 _ _ ?_)
  refine WC.sub [(4, _), (5, _)] ⟨rfl, rfl, trivial⟩ ?_
  refine WC.ret ?_
  refine WK.then_ret ?_
  clear k1 k7 k8 k9 k10 k11 k22
  refine WK.ret [_, _] rfl ⟨⟨_, rfl, run_loadVar_blk Try.underlying29 rfl ti29 m25⟩, rfl, trivial⟩ ?_
  exact ⟨rfl, xW⟩
theorem stretch_any (d ppm : Int) (w : World) : Calls Try.prog 22 #[.int .i64 d, .int .i64 ppm] w fun e w' => e = .returned (Iv.ivb (Iv.stretchF d ppm)) ∧ Ext w w' := by
  cases hg : Iv.strGuard d ppm with
  | true => rw [Iv.stretch_bad hg]; exact stretch_bad d ppm w hg
  | false =>
    have hb := Iv.guard_no hg
    by_cases h0 : d < 0
    · rw [Iv.stretch_neg hg h0]; exact stretch_neg d ppm w (by omega) (by omega)
    · rw [Iv.stretch_pos hg h0]; exact stretch_pos d ppm w (by omega) (by omega)
theorem rstretch_pos (d ppm : Int) (w : World) (hd : 0 ≤ d ∧ d ≤ 1000000000000) (hp : 0 ≤ ppm ∧ ppm ≤ 10000) :
    Calls Try.prog 55 #[.int .i64 d, .int .i64 ppm] w fun e w' => e = .returned (Iv.ivb (Iv.strPos d ppm, true)) ∧ Ext w w' := by
  have xW := Ext.refl w
  obtain ⟨p1, hp1⟩ : ∃ p, d * (1000000 - ppm) = p := ⟨_, rfl⟩
  obtain ⟨p2, hp2⟩ : ∃ p, d * (1000000 + ppm) = p := ⟨_, rfl⟩
  have b1 := mul_bound (a := d) (b := 1000000 - ppm) (m := 1000000000000) (k := 1000000) hd (by omega)
  have b2 := mul_bound (a := d) (b := 1000000 + ppm) (m := 1000000000000) (k := 1010000) hd (by omega)
  rw [hp1] at b1
  rw [hp2] at b2
  refine calls_of_WC (args := [.int .i64 d, .int .i64 ppm]) Try.func55 rfl rfl (ble rfl) ?_
  refine WC.seq (fun K1 k1 => ?_)
  refine WC.region rfl ?_
  refine WL.alloc rfl (blt rfl) rfl rfl ti29 rfl ?_
  intro g2 w3 e4 x5 m6
  have o_g2 := own_new xW e4
  have xW := Ext.trans xW x5
  refine WL.yld rfl (blt rfl) rfl (Y.assign rfl rfl) ?_
  refine WL.nil ?_
  refine WK.then_normal (k1 _ _ ?_)
  refine WC.sub [(0, _), (1, _), (4, _)] ⟨rfl, rfl, rfl, trivial⟩ ?_
  refine WC.seq (fun K7 k7 => ?_)
  refine WC.seq (fun K8 k8 => ?_)
  refine WC.region rfl ?_
  refine WL.yld rfl (blt rfl) rfl (Y.move rfl rfl) ?_
  refine WL.yld rfl (blt rfl) rfl (Yld.cast (Y.lss rfl rfl rfl) (bf (by omega))) ?_
  refine WL.yld rfl (blt rfl) rfl (Y.move rfl rfl) ?_
  refine WL.yldW rfl (blt rfl) rfl rfl rfl (Y.move rfl rfl) ?_
  refine WL.yldW rfl (blt rfl) rfl rfl rfl (Yld.cast (Y.gtr rfl rfl rfl) (bf (by omega))) ?_
  refine WL.yld rfl (blt rfl) rfl (Y.pickF rfl rfl rfl) ?_
  refine WL.yld rfl (blt rfl) rfl (Y.move rfl rfl) ?_
  refine WL.yldW rfl (blt rfl) rfl rfl rfl (Y.move rfl rfl) ?_
  refine WL.yldW rfl (blt rfl) rfl rfl rfl (Yld.cast (Y.lss rfl rfl rfl) (bf (by omega))) ?_
  refine WL.yld rfl (blt rfl) rfl (Y.pickF rfl rfl rfl) ?_
  refine WL.yld rfl (blt rfl) rfl (Y.move rfl rfl) ?_
  refine WL.yldW rfl (blt rfl) rfl rfl rfl (Y.move rfl rfl) ?_
  refine WL.yldW rfl (blt rfl) rfl rfl rfl (Yld.cast (Y.gtr rfl rfl rfl) (bf (by omega))) ?_
  refine WL.yld rfl (blt rfl) rfl (Y.pickF rfl rfl rfl) ?_
  refine WL.nil ?_
  refine WK.then_normal (k8 _ _ ?_)
  refine WC.sub [(0, _), (1, _), (4, _), (23, _)] ⟨rfl, rfl, rfl, rfl, trivial⟩ ?_
  refine WC.condF rfl ?_
  refine WC.skip ?_
  refine WK.then_normal (k7 _ _ ?_)
  refine WC.sub [(0, _), (1, _), (4, _)] ⟨rfl, rfl, rfl, trivial⟩ ?_
  refine WC.seq (fun K9 k9 => ?_)
  refine WC.seq (fun K10 k10 => ?_)
  refine WC.region rfl ?_
  refine WL.yld rfl (blt rfl) rfl (Y.move rfl rfl) ?_
  refine WL.yld rfl (blt rfl) rfl (Yld.cast (Y.lss rfl rfl rfl) (bf (by omega))) ?_
  refine WL.nil ?_
  refine WK.then_normal (k10 _ _ ?_)
  refine WC.sub [(0, _), (1, _), (4, _), (26, _)] ⟨rfl, rfl, rfl, rfl, trivial⟩ ?_
  refine WC.condF rfl ?_
  refine WC.skip ?_
  refine WK.then_normal (k9 _ _ ?_)
  refine WC.sub [(0, _), (1, _), (4, _)] ⟨rfl, rfl, rfl, trivial⟩ ?_
  refine WC.seq (fun K11 k11 => ?_)
  refine WC.region rfl ?_
  refine WL.yld rfl (blt rfl) rfl (Y.move rfl rfl) ?_
  refine WL.yld rfl (blt rfl) rfl (Y.move rfl rfl) ?_
  refine WL.yld rfl (blt rfl) rfl (Y.sub rfl rfl rfl (wrap_i64 (by first | omega | (dsimp only; omega)))) ?_
  refine WL.yld rfl (blt rfl) rfl (Y.mul rfl rfl rfl (Iv.wmi hp1 (by omega))) ?_
  refine WL.yld rfl (blt rfl) rfl (Y.move rfl rfl) ?_
  refine WL.yld rfl (blt rfl) rfl (Y.move rfl rfl) ?_
  refine WL.yld rfl (blt rfl) rfl (Y.add rfl rfl rfl (wrap_i64 (by first | omega | (dsimp only; omega)))) ?_
  refine WL.yld rfl (blt rfl) rfl (Y.mul rfl rfl rfl (Iv.wmi hp2 (by omega))) ?_
  refine WL.yld rfl (blt rfl) rfl (Y.assign rfl rfl) ?_
  refine WL.yld rfl (blt rfl) rfl (Y.assign rfl rfl) ?_
  refine WL.nil ?_
  refine WK.then_normal (k11 _ _ ?_)
  refine WC.sub [(4, _), (8, _), (9, _)] ⟨rfl, rfl, rfl, trivial⟩ ?_
  refine WC.seq (fun K12 k12 => ?_)
  refine WC.region rfl ?_
  refine WL.yld rfl (blt rfl) rfl (Y.move rfl rfl) ?_
  refine WL.yld rfl (blt rfl) rfl (Y.quo rfl rfl rfl (by omega) (wrap_quo (by omega) (by omega) (by omega))) ?_
  refine WL.yld rfl (blt rfl) rfl (Y.move rfl rfl) ?_
  refine WL.yld rfl (blt rfl) rfl (Y.add rfl rfl rfl (wrap_i64 (by first | omega | (dsimp only; omega)))) ?_
  refine WL.yld rfl (blt rfl) rfl (Y.sub rfl rfl rfl (wrap_i64 (by first | omega | (dsimp only; omega)))) ?_
  refine WL.yld rfl (blt rfl) rfl (Y.quo rfl rfl rfl (by omega) (wrap_quo (by omega) (by omega) (by omega))) ?_
  refine WL.yld rfl (blt rfl) rfl (Y.build (cells := [_, _]) rfl pl29 rfl rfl) ?_
  refine WL.store (cs' := [_, _]) rfl rfl rfl rfl rfl rfl ti29 m6 (ble rfl) rfl rfl (fun w13 on14 m15 => ?_)
  have xW := Ext.only xW on14 o_g2
  refine WL.yld rfl (blt rfl) rfl (Y.assign rfl rfl) ?_
  refine WL.nil ?_
  refine WK.then_normal (k12 _ _ ?_)
  refine WC.sub [(4, _), (5, _)] ⟨rfl, rfl, trivial⟩ ?_
  refine WC.ret ?_
  clear k1 k7 k8 k9 k10 k11 k12
  refine WK.ret [_, _] rfl ⟨⟨_, rfl, run_loadVar_blk Try.underlying29 rfl ti29 m15⟩, rfl, trivial⟩ ?_
  refine ⟨?_, xW⟩
  simp only [Iv.ivb, Iv.strPos, hp1, hp2]
  exact ret2 (Iv.agg2 (by omega) (by first | omega | (split <;> omega))) rfl
theorem rstretch_bad (d ppm : Int) (w : World) (hg : Iv.strGuard d ppm = true) :
    Calls Try.prog 55 #[.int .i64 d, .int .i64 ppm] w fun e w' => e = .returned (Iv.ivb ((0, 0), false)) ∧ Ext w w' := by
  have xW := Ext.refl w
  refine calls_of_WC (args := [.int .i64 d, .int .i64 ppm]) Try.func55 rfl rfl (ble rfl) ?_
  refine WC.seq (fun K1 k1 => ?_)
  refine WC.region rfl ?_
  refine WL.alloc rfl (blt rfl) rfl rfl ti29 rfl ?_
  intro g2 w3 e4 x5 m6
  have o_g2 := own_new xW e4
  have xW := Ext.trans xW x5
  refine WL.yld rfl (blt rfl) rfl (Y.assign rfl rfl) ?_
  refine WL.nil ?_
  refine WK.then_normal (k1 _ _ ?_)
  refine WC.sub [(0, _), (1, _), (4, _)] ⟨rfl, rfl, rfl, trivial⟩ ?_
  refine WC.seq (fun K7 k7 => ?_)
  refine WC.seq (fun K8 k8 => ?_)
  refine WC.region rfl ?_
  refine WL.yld rfl (blt rfl) rfl (Y.move rfl rfl) ?_
  refine WL.yld rfl (blt rfl) rfl (Y.lss rfl rfl rfl) ?_
  refine WL.yld rfl (blt rfl) rfl (Y.move rfl rfl) ?_
  refine WL.yldG rfl (blt rfl) rfl rfl rfl (fun hb => Y.move rfl rfl) ?_
  refine WL.yldG rfl (blt rfl) rfl rfl rfl (fun hb => Y.gtr rfl (evg rfl hb) rfl) ?_
  refine WL.yld rfl (blt rfl) rfl (Y.or rfl rfl rfl rfl) ?_
  refine WL.yld rfl (blt rfl) rfl (Y.move rfl rfl) ?_
  refine WL.yldG rfl (blt rfl) rfl rfl rfl (fun hb => Y.move rfl rfl) ?_
  refine WL.yldG rfl (blt rfl) rfl rfl rfl (fun hb => Y.lss rfl (evg rfl hb) rfl) ?_
  refine WL.yld rfl (blt rfl) rfl (Y.or rfl rfl rfl rfl) ?_
  refine WL.yld rfl (blt rfl) rfl (Y.move rfl rfl) ?_
  refine WL.yldG rfl (blt rfl) rfl rfl rfl (fun hb => Y.move rfl rfl) ?_
  refine WL.yldG rfl (blt rfl) rfl rfl rfl (fun hb => Y.gtr rfl (evg rfl hb) rfl) ?_
  refine WL.yld rfl (blt rfl) rfl (Y.or rfl rfl rfl rfl) ?_
  refine WL.nil ?_
  refine WK.then_normal (k8 _ _ ?_)
  refine WC.sub [(0, _), (1, _), (4, _), (23, _)] ⟨rfl, rfl, rfl, rfl, trivial⟩ ?_
  refine WC.cond rfl (fun h9 => ?_) (fun h9 => ?_)
  ·
    have p9 := ((or_t h9).imp (fun h => ((or_t h).imp (fun h => ((or_t h).imp (fun h => (dec_t h)) (fun h => (dec_t h)))) (fun h => (dec_t h)))) (fun h => (dec_t h)))
    refine WC.seq (fun K10 k10 => ?_)
    refine WC.region rfl ?_
    refine WL.yld rfl (blt rfl) rfl (Y.build (cells := [_, _]) rfl pl29 rfl rfl) ?_
    refine WL.store (cs' := [_, _]) rfl rfl rfl rfl rfl rfl ti29 m6 (ble rfl) rfl rfl (fun w11 on12 m13 => ?_)
    have xW := Ext.only xW on12 o_g2
    refine WL.yld rfl (blt rfl) rfl (Y.assign rfl rfl) ?_
    refine WL.nil ?_
    refine WK.then_normal (k10 _ _ ?_)
    refine WC.sub [(4, _), (5, _)] ⟨rfl, rfl, trivial⟩ ?_
    refine WC.ret ?_
    refine WK.then_ret ?_
    clear k1 k7 k8 k10
    refine WK.ret [_, _] rfl ⟨⟨_, rfl, run_loadVar_blk Try.underlying29 rfl ti29 m13⟩, rfl, trivial⟩ ?_
    exact ⟨rfl, xW⟩
  ·
    clear k1 k7 k8
    exact Bool.noConfusion (hg.symm.trans h9)
theorem rstretch_neg (d ppm : Int) (w : World) (hd : -1000000000000 ≤ d ∧ d < 0) (hp : 0 ≤ ppm ∧ ppm ≤ 10000) :
    Calls Try.prog 55 #[.int .i64 d, .int .i64 ppm] w fun e w' => e = .returned (Iv.ivb ((-(Iv.strPos (-d) ppm).2, -(Iv.strPos (-d) ppm).1), true)) ∧ Ext w w' := by
  have xW := Ext.refl w
  have b := Iv.strPos_bound (d := -d) (ppm := ppm) (by omega) hp
  refine calls_of_WC (args := [.int .i64 d, .int .i64 ppm]) Try.func55 rfl rfl (ble rfl) ?_
  refine WC.seq (fun K1 k1 => ?_)
  refine WC.region rfl ?_
  refine WL.alloc rfl (blt rfl) rfl rfl ti29 rfl ?_
  intro g2 w3 e4 x5 m6
  have o_g2 := own_new xW e4
  have xW := Ext.trans xW x5
  refine WL.yld rfl (blt rfl) rfl (Y.assign rfl rfl) ?_
  refine WL.nil ?_
  refine WK.then_normal (k1 _ _ ?_)
  refine WC.sub [(0, _), (1, _), (4, _)] ⟨rfl, rfl, rfl, trivial⟩ ?_
  refine WC.seq (fun K7 k7 => ?_)
  refine WC.seq (fun K8 k8 => ?_)
  refine WC.region rfl ?_
  refine WL.yld rfl (blt rfl) rfl (Y.move rfl rfl) ?_
  refine WL.yld rfl (blt rfl) rfl (Yld.cast (Y.lss rfl rfl rfl) (bf (by omega))) ?_
  refine WL.yld rfl (blt rfl) rfl (Y.move rfl rfl) ?_
  refine WL.yldW rfl (blt rfl) rfl rfl rfl (Y.move rfl rfl) ?_
  refine WL.yldW rfl (blt rfl) rfl rfl rfl (Yld.cast (Y.gtr rfl rfl rfl) (bf (by omega))) ?_
  refine WL.yld rfl (blt rfl) rfl (Y.pickF rfl rfl rfl) ?_
  refine WL.yld rfl (blt rfl) rfl (Y.move rfl rfl) ?_
  refine WL.yldW rfl (blt rfl) rfl rfl rfl (Y.move rfl rfl) ?_
  refine WL.yldW rfl (blt rfl) rfl rfl rfl (Yld.cast (Y.lss rfl rfl rfl) (bf (by omega))) ?_
  refine WL.yld rfl (blt rfl) rfl (Y.pickF rfl rfl rfl) ?_
  refine WL.yld rfl (blt rfl) rfl (Y.move rfl rfl) ?_
  refine WL.yldW rfl (blt rfl) rfl rfl rfl (Y.move rfl rfl) ?_
  refine WL.yldW rfl (blt rfl) rfl rfl rfl (Yld.cast (Y.gtr rfl rfl rfl) (bf (by omega))) ?_
  refine WL.yld rfl (blt rfl) rfl (Y.pickF rfl rfl rfl) ?_
  refine WL.nil ?_
  refine WK.then_normal (k8 _ _ ?_)
  refine WC.sub [(0, _), (1, _), (4, _), (23, _)] ⟨rfl, rfl, rfl, rfl, trivial⟩ ?_
  refine WC.condF rfl ?_
  refine WC.skip ?_
  refine WK.then_normal (k7 _ _ ?_)
  refine WC.sub [(0, _), (1, _), (4, _)] ⟨rfl, rfl, rfl, trivial⟩ ?_
  refine WC.seq (fun K9 k9 => ?_)
  refine WC.seq (fun K10 k10 => ?_)
  refine WC.region rfl ?_
  refine WL.yld rfl (blt rfl) rfl (Y.move rfl rfl) ?_
  refine WL.yld rfl (blt rfl) rfl (Yld.cast (Y.lss rfl rfl rfl) (bt (by omega))) ?_
  refine WL.nil ?_
  refine WK.then_normal (k10 _ _ ?_)
  refine WC.sub [(0, _), (1, _), (4, _), (26, _)] ⟨rfl, rfl, rfl, rfl, trivial⟩ ?_
  refine WC.condT rfl ?_
  refine WC.seq (fun K11 k11 => ?_)
  refine WC.region rfl ?_
  refine WL.yld rfl (blt rfl) rfl (Y.move rfl rfl) ?_
  refine WL.yld rfl (blt rfl) rfl (Y.neg rfl rfl (wrap_i64 (by first | omega | (dsimp only; omega)))) ?_
  refine WL.yld rfl (blt rfl) rfl (Y.move rfl rfl) ?_
  refine WL.call rfl (blt rfl) rfl rfl rfl has55 rfl (rstretch_pos _ _ _ (by omega) (by omega)) ?_
  rintro _ w12 ⟨rfl, x13⟩
  refine ⟨_, rfl, ?_⟩
  have m6 := m6.ext x13
  have xW := Ext.trans xW x13
  refine WL.yld rfl (blt rfl) rfl (Y.move rfl rfl) ?_
  refine WL.yld rfl (blt rfl) rfl (Y.extract rfl rfl rfl) ?_
  refine WL.yld rfl (blt rfl) rfl (Y.extract rfl rfl rfl) ?_
  refine WL.alloc rfl (blt rfl) rfl rfl ti29 rfl ?_
  intro g14 w15 e16 x17 m18
  have n_g2_g14 := ne_new m6 e16
  have o_g14 := own_new xW e16
  have m6 := m6.ext x17
  have xW := Ext.trans xW x17
  refine WL.store (cs' := [_, _]) rfl rfl rfl rfl rfl rfl ti29 m18 (ble rfl) rfl rfl (fun w19 on20 m21 => ?_)
  have m6 := m6.only n_g2_g14 on20
  have xW := Ext.only xW on20 o_g14
  refine WL.yld rfl (blt rfl) rfl (Y.assign rfl rfl) ?_
  refine WL.nil ?_
  refine WK.then_normal (k11 _ _ ?_)
  refine WC.sub [(4, _), (6, _), (7, _)] ⟨rfl, rfl, rfl, trivial⟩ ?_
  refine WC.seq (fun K22 k22 => ?_)
  refine WC.region rfl ?_
  refine WL.yld rfl (blt rfl) rfl (Y.fieldAddr rfl Try.underlying29 rfl ti3 (by decide) rfl) ?_
  refine WL.yld rfl (blt rfl) rfl (Y.load1 rfl Try.underlying3 rfl rfl (Blk.at_eq m21 rfl)) ?_
  refine WL.yld rfl (blt rfl) rfl (Y.neg rfl rfl (wrap_i64 (by first | omega | (dsimp only; omega)))) ?_
  refine WL.yld rfl (blt rfl) rfl (Y.fieldAddr rfl Try.underlying29 rfl ti3 (by decide) rfl) ?_
  refine WL.yld rfl (blt rfl) rfl (Y.load1 rfl Try.underlying3 rfl rfl (Blk.at_eq m21 rfl)) ?_
  refine WL.yld rfl (blt rfl) rfl (Y.neg rfl rfl (wrap_i64 (by first | omega | (dsimp only; omega)))) ?_
  refine WL.yld rfl (blt rfl) rfl (Y.build (cells := [_, _]) rfl pl29 rfl rfl) ?_
  refine WL.yld rfl (blt rfl) rfl (Y.move rfl rfl) ?_
  refine WL.store (cs' := [_, _]) rfl rfl rfl rfl rfl rfl ti29 m6 (ble rfl) rfl rfl (fun w23 on24 m25 => ?_)
  have m21 := m21.only n_g2_g14.symm on24
  have xW := Ext.only xW on24 o_g2
  refine WL.yld rfl (blt rfl) rfl (Y.assign rfl rfl) ?_
  refine WL.nil ?_
  refine WK.then_normal (k22 _ _ ?_)
  refine WC.sub [(4, _), (5, _)] ⟨rfl, rfl, trivial⟩ ?_
  refine WC.ret ?_
  refine WK.then_ret ?_
  clear k1 k7 k8 k9 k10 k11 k22
  refine WK.ret [_, _] rfl ⟨⟨_, rfl, run_loadVar_blk Try.underlying29 rfl ti29 m25⟩, rfl, trivial⟩ ?_
  exact ⟨rfl, xW⟩
theorem rstretch_any (d ppm : Int) (w : World) : Calls Try.prog 55 #[.int .i64 d, .int .i64 ppm] w fun e w' => e = .returned (Iv.ivb (Iv.stretchF d ppm)) ∧ Ext w w' := by
  cases hg : Iv.strGuard d ppm with
  | true => rw [Iv.stretch_bad hg]; exact rstretch_bad d ppm w hg
  | false =>
    have hb := Iv.guard_no hg
    by_cases h0 : d < 0
    · rw [Iv.stretch_neg hg h0]; exact rstretch_neg d ppm w (by omega) (by omega)
    · rw [Iv.stretch_pos hg h0]; exact rstretch_pos d ppm w (by omega) (by omega)
end NumF
end BdW

end Go.Proofs.Ytaglpampidlbmaa
