/- Contracts: the number of a node. Conditions: what each theorem states. -/
import Derived.Test.YtaglpampidlbmaaBkRPts
import Derived.Test.YtaglpampidlbmaaBdM6
import Derived.Test.YtaglpampidlbmaaBdSpec
import Derived.Test.YtaglpampidlbmaaBdKey
import Derived.Test.YtaglpampidlbmaaCopy
namespace Go.Proofs.Ytaglpampidlbmaa
open Go Go.Eng Go.RowKit
set_option linter.unusedVariables false
set_option linter.unusedSimpArgs false
namespace BdW
namespace N
theorem ti3 : TI Try.prog 3 (.int .i64 0) 1 8 := TI.mk (by kernel_rfl)
theorem ti82 : TI Try.prog 82 (.map none) 1 8 := TI.mk (by kernel_rfl)
theorem ti83 : TI Try.prog 83 (.slice none 0 0) 1 24 := TI.mk (by kernel_rfl)
theorem ti92 : TI Try.prog 92 (.agg #[.int .i64 0, .int .i64 0, .int .i64 0]) 3 24 := TI.mk (by kernel_rfl)
theorem ti95 : TI Try.prog 95 (.agg #[.int .i64 0, .int .i64 0]) 2 16 := TI.mk (by kernel_rfl)
theorem pl92 : PL Try.prog 92 [.int .i64 0, .int .i64 0, .int .i64 0] [(0, 1), (1, 1), (2, 1)] := PL.mk (zero := [.int .i64 0, .int .i64 0, .int .i64 0]) ti92 Try.underlying92 (by kernel_rfl)
theorem pl95 : PL Try.prog 95 [.int .i64 0, .int .i64 0] [(0, 1), (1, 1)] := PL.mk (zero := [.int .i64 0, .int .i64 0]) ti95 Try.underlying95 (by kernel_rfl)
theorem number_has (g0 g1 : Nat) (v : Value) (m : PM) (a b k : Int) (w : World) (m0 : Blk w g0 85 [.map (some g1), v]) (mm : MpP w g1 m) (hk : pget m (a, b) = some (.int .i64 k)) :
    Calls Try.prog 27 #[.pointer (some ⟨g0, 0, none⟩), .int .i64 a, .int .i64 b] w fun e w' => e = .returned (.int .i64 k) ∧ Ext w w' := by
  have xW := Ext.refl w
  refine calls_of_WC (args := [.pointer (some ⟨g0, 0, none⟩), .int .i64 a, .int .i64 b]) Try.func27 rfl rfl (ble rfl) ?_
  refine WC.seq (fun K1 k1 => ?_)
  refine WC.region rfl ?_
  refine WL.yld rfl (blt rfl) rfl (Y.assign rfl rfl) ?_
  refine WL.nil ?_
  refine WK.then_normal (k1 _ _ ?_)
  refine WC.sub [(0, _), (1, _), (2, _)] ⟨rfl, rfl, rfl, trivial⟩ ?_
  refine WC.seq (fun K2 k2 => ?_)
  refine WC.region rfl ?_
  refine WL.yld rfl (blt rfl) rfl (Y.move rfl rfl) ?_
  refine WL.yld rfl (blt rfl) rfl (Y.nilCheck rfl rfl) ?_
  refine WL.yld rfl (blt rfl) rfl (Y.fieldAddr rfl Try.underlying85 rfl ti82 (by decide) rfl) ?_
  refine WL.yld rfl (blt rfl) rfl (Y.load1 rfl Try.underlying82 rfl rfl (Blk.at_eq (m0.ext xW) rfl)) ?_
  refine WL.yld rfl (blt rfl) rfl (Y.move rfl rfl) ?_
  refine WL.yld rfl (blt rfl) rfl (Y.move rfl rfl) ?_
  refine WL.yld rfl (blt rfl) rfl (Y.build (cells := [_, _]) rfl pl95 rfl rfl) ?_
  refine WL.yld rfl (blt rfl) rfl (Y.lookupOkP rfl Try.underlying82 pkk95 ti3 rfl rfl (fun _ h => h ▸ (mm.ext xW))) ?_
  refine WL.yld rfl (blt rfl) rfl (Y.move rfl rfl) ?_
  refine WL.yld rfl (blt rfl) rfl (Yld.cast (Y.extract rfl rfl rfl) (Bd.pv_has hk)) ?_
  refine WL.yld rfl (blt rfl) rfl (Yld.cast (Y.extract rfl rfl rfl) (Bd.pg_has hk)) ?_
  refine WL.yld rfl (blt rfl) rfl (Y.assign rfl rfl) ?_
  refine WL.yld rfl (blt rfl) rfl (Y.assign rfl rfl) ?_
  refine WL.nil ?_
  refine WK.then_normal (k2 _ _ ?_)
  refine WC.sub [(0, _), (1, _), (2, _), (7, _), (8, _)] ⟨rfl, rfl, rfl, rfl, rfl, trivial⟩ ?_
  refine WC.seq (fun K3 k3 => ?_)
  refine WC.seq (fun K4 k4 => ?_)
  refine WC.region rfl ?_
  refine WL.yld rfl (blt rfl) rfl (Y.move rfl rfl) ?_
  refine WL.yld rfl (blt rfl) rfl (Y.not rfl rfl) ?_
  refine WL.nil ?_
  refine WK.then_normal (k4 _ _ ?_)
  refine WC.sub [(0, _), (1, _), (2, _), (7, _), (21, _)] ⟨rfl, rfl, rfl, rfl, rfl, trivial⟩ ?_
  refine WC.condF rfl ?_
  refine WC.skip ?_
  refine WK.then_normal (k3 _ _ ?_)
  refine WC.sub [(7, _)] ⟨rfl, trivial⟩ ?_
  refine WC.seq (fun K5 k5 => ?_)
  refine WC.region rfl ?_
  refine WL.yld rfl (blt rfl) rfl (Y.move rfl rfl) ?_
  refine WL.yld rfl (blt rfl) rfl (Y.assign rfl rfl) ?_
  refine WL.nil ?_
  refine WK.then_normal (k5 _ _ ?_)
  refine WC.sub [(6, _)] ⟨rfl, trivial⟩ ?_
  refine WC.ret ?_
  clear k1 k2 k3 k4 k5
  refine WK.ret [_] rfl ⟨rfl, trivial⟩ ?_
  exact ⟨rfl, xW⟩
theorem number_new (wb : World) (g0 g1 : Nat) (o_g1 : wb.heap.size ≤ g1) (n_g0_g1 : g0 ≠ g1) (v : Value) (m : PM) (a b : Int) (w : World) (xW : Ext wb w) (m0 : Blk w g0 85 [.map (some g1), v]) (mm : MpP w g1 m) (hk : pget m (a, b) = none) (hl : m.length ≤ 100000) :
    Calls Try.prog 27 #[.pointer (some ⟨g0, 0, none⟩), .int .i64 a, .int .i64 b] w fun e w' => e = .returned (.int .i64 (((m.length : Nat) : Int) + 1)) ∧ Only g1 w w' ∧ MpP w' g1 (m ++ [((a, b), .int .i64 (((m.length : Nat) : Int) + 1))]) := by
  refine calls_of_WC (args := [.pointer (some ⟨g0, 0, none⟩), .int .i64 a, .int .i64 b]) Try.func27 rfl rfl (ble rfl) ?_
  refine WC.seq (fun K1 k1 => ?_)
  refine WC.region rfl ?_
  refine WL.yld rfl (blt rfl) rfl (Y.assign rfl rfl) ?_
  refine WL.nil ?_
  refine WK.then_normal (k1 _ _ ?_)
  refine WC.sub [(0, _), (1, _), (2, _)] ⟨rfl, rfl, rfl, trivial⟩ ?_
  refine WC.seq (fun K2 k2 => ?_)
  refine WC.region rfl ?_
  refine WL.yld rfl (blt rfl) rfl (Y.move rfl rfl) ?_
  refine WL.yld rfl (blt rfl) rfl (Y.nilCheck rfl rfl) ?_
  refine WL.yld rfl (blt rfl) rfl (Y.fieldAddr rfl Try.underlying85 rfl ti82 (by decide) rfl) ?_
  refine WL.yld rfl (blt rfl) rfl (Y.load1 rfl Try.underlying82 rfl rfl (Blk.at_eq m0 rfl)) ?_
  refine WL.yld rfl (blt rfl) rfl (Y.move rfl rfl) ?_
  refine WL.yld rfl (blt rfl) rfl (Y.move rfl rfl) ?_
  refine WL.yld rfl (blt rfl) rfl (Y.build (cells := [_, _]) rfl pl95 rfl rfl) ?_
  refine WL.yld rfl (blt rfl) rfl (Y.lookupOkP rfl Try.underlying82 pkk95 ti3 rfl rfl (fun _ h => h ▸ mm)) ?_
  refine WL.yld rfl (blt rfl) rfl (Y.move rfl rfl) ?_
  refine WL.yld rfl (blt rfl) rfl (Y.extract rfl rfl rfl) ?_
  refine WL.yld rfl (blt rfl) rfl (Yld.cast (Y.extract rfl rfl rfl) (Bd.pg_no hk)) ?_
  refine WL.yld rfl (blt rfl) rfl (Y.assign rfl rfl) ?_
  refine WL.yld rfl (blt rfl) rfl (Y.assign rfl rfl) ?_
  refine WL.nil ?_
  refine WK.then_normal (k2 _ _ ?_)
  refine WC.sub [(0, _), (1, _), (2, _), (7, _), (8, _)] ⟨rfl, rfl, rfl, rfl, rfl, trivial⟩ ?_
  refine WC.seq (fun K3 k3 => ?_)
  refine WC.seq (fun K4 k4 => ?_)
  refine WC.region rfl ?_
  refine WL.yld rfl (blt rfl) rfl (Y.move rfl rfl) ?_
  refine WL.yld rfl (blt rfl) rfl (Y.not rfl rfl) ?_
  refine WL.nil ?_
  refine WK.then_normal (k4 _ _ ?_)
  refine WC.sub [(0, _), (1, _), (2, _), (7, _), (21, _)] ⟨rfl, rfl, rfl, rfl, rfl, trivial⟩ ?_
  refine WC.condT rfl ?_
  refine WC.seq (fun K5 k5 => ?_)
  refine WC.region rfl ?_
  refine WL.yld rfl (blt rfl) rfl (Y.move rfl rfl) ?_
  refine WL.yld rfl (blt rfl) rfl (Y.nilCheck rfl rfl) ?_
  refine WL.yld rfl (blt rfl) rfl (Y.fieldAddr rfl Try.underlying85 rfl ti82 (by decide) rfl) ?_
  refine WL.yld rfl (blt rfl) rfl (Y.load1 rfl Try.underlying82 rfl rfl (Blk.at_eq m0 rfl)) ?_
  refine WL.yld rfl (blt rfl) rfl (Y.lenMapP rfl rfl rfl Try.underlying82 rfl (fun _ h => h ▸ mm)) ?_
  refine WL.yld rfl (blt rfl) rfl (Y.add rfl rfl rfl (wrap_i64 (by omega))) ?_
  refine WL.yld rfl (blt rfl) rfl (Y.assign rfl rfl) ?_
  refine WL.nil ?_
  refine WK.then_normal (k5 _ _ ?_)
  refine WC.sub [(0, _), (1, _), (2, _), (7, _)] ⟨rfl, rfl, rfl, rfl, trivial⟩ ?_
  refine WC.region rfl ?_
  refine WL.yld rfl (blt rfl) rfl (Y.move rfl rfl) ?_
  refine WL.yld rfl (blt rfl) rfl (Y.nilCheck rfl rfl) ?_
  refine WL.yld rfl (blt rfl) rfl (Y.fieldAddr rfl Try.underlying85 rfl ti82 (by decide) rfl) ?_
  refine WL.yld rfl (blt rfl) rfl (Y.load1 rfl Try.underlying82 rfl rfl (Blk.at_eq m0 rfl)) ?_
  refine WL.yld rfl (blt rfl) rfl (Y.move rfl rfl) ?_
  refine WL.yld rfl (blt rfl) rfl (Y.move rfl rfl) ?_
  refine WL.yld rfl (blt rfl) rfl (Y.build (cells := [_, _]) rfl pl95 rfl rfl) ?_
  refine WL.yld rfl (blt rfl) rfl (Y.move rfl rfl) ?_
  refine WL.mapUpdateP rfl rfl (.inl rfl) Try.underlying82 pkk95 rfl rfl rfl mm (fun w6 on7 m8 => ?_)
  have m0 := m0.only n_g0_g1 on7
  have xW := Ext.only xW on7 o_g1
  refine WL.nil ?_
  refine WK.then_normal (k3 _ _ ?_)
  refine WC.sub [(7, _)] ⟨rfl, trivial⟩ ?_
  refine WC.seq (fun K9 k9 => ?_)
  refine WC.region rfl ?_
  refine WL.yld rfl (blt rfl) rfl (Y.move rfl rfl) ?_
  refine WL.yld rfl (blt rfl) rfl (Y.assign rfl rfl) ?_
  refine WL.nil ?_
  refine WK.then_normal (k9 _ _ ?_)
  refine WC.sub [(6, _)] ⟨rfl, trivial⟩ ?_
  refine WC.ret ?_
  clear k1 k2 k3 k4 k5 k9
  refine WK.ret [_] rfl ⟨rfl, trivial⟩ ?_
  exact ⟨rfl, on7, by rw [← pset_none _ _ _ hk]; exact m8⟩
theorem add_any (wb : World) (g0 : Nat) (o_g0 : wb.heap.size ≤ g0) (x v : Value) (es : List Bd.Ed) (a b lo hi : Int) (w : World) (xW : Ext wb w) (m0 : Blk w g0 85 [x, v]) (ow_v : OwnL w wb.heap.size 92 Bd.Ed.c 3 v es) (r_v_g0 : v.ownBlock ≠ some g0) (hl : es.length ≤ 100000) (hlo : -2000000000000000 ≤ lo ∧ lo ≤ 2000000000000000) :
    Calls Try.prog 49 #[.pointer (some ⟨g0, 0, none⟩), .int .i64 a, .int .i64 b, .agg #[.int .i64 lo, .int .i64 hi]] w fun e w' => ∃ v', e = .returned (.tuple #[]) ∧ Blk w' g0 85 [x, v'] ∧ OwnL w' wb.heap.size 92 Bd.Ed.c 3 v' (es ++ [⟨a, b, hi⟩, ⟨b, a, -lo⟩]) ∧ v'.ownBlock ≠ some g0 ∧ Two g0 v w w' ∧ NB w v v' := by
  have tW := Two.refl (g := g0) (u := v) (w := w)
  have nW := NB.refl (w := w) (u := v)
  refine calls_of_WC (args := [.pointer (some ⟨g0, 0, none⟩), .int .i64 a, .int .i64 b, .agg #[.int .i64 lo, .int .i64 hi]]) Try.func49 rfl rfl (ble rfl) ?_
  refine WC.seq (fun K1 k1 => ?_)
  refine WC.region rfl ?_
  refine WL.box rfl (blt rfl) rfl rfl rfl rfl ?_
  intro g2 w3 e4 x5 m6
  have n_g0_g2 := ne_new m0 e4
  have r_v_g2 := ne_newO ow_v e4
  have o_g2 := own_new xW e4
  have m0 := m0.ext x5
  have ow_v := ow_v.ext x5
  have xW := Ext.trans xW x5
  have tW := Two.ext tW x5
  refine WL.nil ?_
  refine WK.then_normal (k1 _ _ ?_)
  refine WC.sub [(0, _), (1, _), (2, _), (7, _)] ⟨rfl, rfl, rfl, rfl, trivial⟩ ?_
  refine WC.regionX (fun W' => Ext wb W' ∧ Blk W' g2 29 _) (.load 0 (.load 1 (.load 2 (.load 3 (.load 5 (.load 6 (.load 7 (.load 8 (.load 9 (.load 10 (.load 11 (.load 12 (.load 13 (.load 14 (.load 15 (.alt 4 (.alt 16 (.alt 17 (.load 18 (.load 19 (.alt 20 (.fin) (.none)))) (.none)) (.none)) (.alt 16 (.alt 4 (.alt 17 (.load 18 (.load 19 (.alt 20 (.fin) (.none)))) (.none)) (.none)) (.none)))))))))))))))))) ⟨xW, m6⟩ (by kernel_rfl) (by kernel_rfl) (fun w7 x8 => ?_)
  have m0 := m0.ext x8
  have ow_v := ow_v.ext x8
  have m6 := m6.ext x8
  have xW := Ext.trans xW x8
  have tW := Two.ext tW x8
  refine WX.yld rfl rfl (blt rfl) rfl (Y.move rfl rfl) ?_
  refine WX.yld rfl rfl (blt rfl) rfl (Y.move rfl rfl) ?_
  refine WX.yld rfl rfl (blt rfl) rfl (Y.nilCheck rfl rfl) ?_
  refine WX.yld rfl rfl (blt rfl) rfl (Y.fieldAddr rfl Try.underlying85 rfl ti83 (by decide) rfl) ?_
  refine WX.yld rfl rfl (blt rfl) rfl (Y.move rfl rfl) ?_
  refine WX.yld rfl rfl (blt rfl) rfl (Y.move rfl rfl) ?_
  refine WX.yld rfl rfl (blt rfl) rfl (Y.fieldAddr rfl Try.underlying29 rfl ti3 (by decide) rfl) ?_
  refine WX.yld rfl rfl (blt rfl) rfl (Y.load1 rfl Try.underlying3 rfl rfl (Blk.at_c (fun _ h => h.2) rfl)) ?_
  refine WX.yld rfl rfl (blt rfl) rfl (Y.build (cells := [_, _, _]) rfl pl92 rfl rfl) ?_
  refine WX.yld rfl rfl (blt rfl) rfl (Y.move rfl rfl) ?_
  refine WX.yld rfl rfl (blt rfl) rfl (Y.move rfl rfl) ?_
  refine WX.yld rfl rfl (blt rfl) rfl (Y.fieldAddr rfl Try.underlying29 rfl ti3 (by decide) rfl) ?_
  refine WX.yld rfl rfl (blt rfl) rfl (Y.load1 rfl Try.underlying3 rfl rfl (Blk.at_c (fun _ h => h.2) rfl)) ?_
  refine WX.yld rfl rfl (blt rfl) rfl (Y.neg rfl rfl (wrap_i64 (by first | omega | (dsimp only; omega)))) ?_
  refine WX.yld rfl rfl (blt rfl) rfl (Y.build (cells := [_, _, _]) rfl pl92 rfl rfl) ?_
  refine WX.alt ?_ ?_
  ·
    refine WX.yldL rfl rfl (blt rfl) rfl ⟨xW, m6⟩ (Y.load1 rfl Try.underlying83 rfl rfl (Blk.at_eq m0 rfl)) ?_
    refine WX.run rfl rfl (blt rfl) rfl ⟨xW, m6⟩ (Run.bslice (zs := [.int .i64 0, .int .i64 0, .int .i64 0, .int .i64 0, .int .i64 0, .int .i64 0]) (cs := [_, _, _, _, _, _]) rfl Try.underlying83 ti92 rfl (ble rfl) (by kernel_rfl) rfl rfl) ?_
    rintro _ w10 ⟨g9, rfl, e11, x12, m13⟩
    have n_g0_g9 := ne_new m0 e11
    have r_v_g9 := ne_newO ow_v e11
    have n_g2_g9 := ne_new m6 e11
    have o_g9 := own_new xW e11
    have m0 := m0.ext x12
    have ow_v := ow_v.ext x12
    have m6 := m6.ext x12
    have xW := Ext.trans xW x12
    have tW := Two.ext tW x12
    refine WX.run rfl rfl (blt rfl) rfl ⟨xW, m6⟩ (Run.appendB (f := Bd.Ed.c) (news := [⟨a, b, hi⟩, ⟨b, a, -lo⟩]) rfl rfl rfl Try.underlying83 ti92 rfl (by decide) rfl ow_v (fun _ => rfl) Bd.Ed.one m13 rfl xW.size (by have q0 := hl; first | omega | (simp only [List.length_append, List.length_cons, List.length_nil, List.length_take, List.length_drop, List.length_reverse]; omega)) (Nat.le_trans (show _ ≤ 140737488355328 from by have q0 := hl; first | omega | (simp only [List.length_append, List.length_cons, List.length_nil, List.length_take, List.length_drop, List.length_reverse]; omega)) (by decide)) ) ?_
    rintro v14 w15 ⟨ow16, gr17, nb18⟩
    have r_v14_g0 := ne_app nb18 r_v_g0 m0
    have m0 := m0.grown gr17 r_v_g0
    have r_v14_g2 := ne_app nb18 r_v_g2 m6
    have m6 := m6.grown gr17 r_v_g2
    have r_v14_g9 := ne_app nb18 r_v_g9 m13
    have m13 := m13.grown gr17 r_v_g9
    have xW := Ext.grown xW gr17 (fun b hb => (OwnL.lt ow_v hb).1)
    have nW1 := NB.app nW nb18 tW.size
    have tW := Two.grown tW gr17 nW
    have nW := nW1
    refine WX.yld rfl rfl (blt rfl) rfl (Y.nilCheck rfl rfl) ?_
    refine WX.yld rfl rfl (blt rfl) rfl (Y.fieldAddr rfl Try.underlying85 rfl ti83 (by decide) rfl) ?_
    obtain ⟨A19, n20, c21, rfl, hl22⟩ := OwnL.opened ow16 (fun _ => rfl) (by decide)
    have e_n20 := hl22.len
    try simp only [List.length_append, List.length_cons, List.length_nil, List.length_reverse, List.length_drop, List.length_take, List.length_map, List.length_replicate, List.length_set] at e_n20
    have z_n20 := hl22.nle
    refine WX.storeB (cs' := [_, _]) rfl ⟨xW, m6⟩ rfl rfl rfl rfl rfl rfl ti83 m0 (ble rfl) rfl rfl (fun w23 on24 m25 => ?_)
    have m6 := m6.only n_g0_g2.symm on24
    have m13 := m13.only n_g0_g9.symm on24
    have ow16 := ow16.only r_v14_g0 on24
    have hl22 := OwnL.ls ow16 (fun _ => rfl) (by decide)
    have xW := Ext.only xW on24 o_g0
    have tW := Two.only tW on24 (.inl rfl)
    refine WX.nil ⟨xW, m6⟩ ?_
    clear k1
    refine WK.end_ [] rfl trivial ?_
    exact ⟨_, rfl, m25, by simpa using ow16, r_v14_g0, tW, nW⟩
  refine WX.run rfl rfl (blt rfl) rfl ⟨xW, m6⟩ (Run.bslice (zs := [.int .i64 0, .int .i64 0, .int .i64 0, .int .i64 0, .int .i64 0, .int .i64 0]) (cs := [_, _, _, _, _, _]) rfl Try.underlying83 ti92 rfl (ble rfl) (by kernel_rfl) rfl rfl) ?_
  rintro _ w27 ⟨g26, rfl, e28, x29, m30⟩
  have n_g0_g26 := ne_new m0 e28
  have r_v_g26 := ne_newO ow_v e28
  have n_g2_g26 := ne_new m6 e28
  have o_g26 := own_new xW e28
  have m0 := m0.ext x29
  have ow_v := ow_v.ext x29
  have m6 := m6.ext x29
  have xW := Ext.trans xW x29
  have tW := Two.ext tW x29
  refine WX.yldL rfl rfl (blt rfl) rfl ⟨xW, m6⟩ (Y.load1 rfl Try.underlying83 rfl rfl (Blk.at_eq m0 rfl)) ?_
  refine WX.run rfl rfl (blt rfl) rfl ⟨xW, m6⟩ (Run.appendB (f := Bd.Ed.c) (news := [⟨a, b, hi⟩, ⟨b, a, -lo⟩]) rfl rfl rfl Try.underlying83 ti92 rfl (by decide) rfl ow_v (fun _ => rfl) Bd.Ed.one m30 rfl xW.size (by have q0 := hl; first | omega | (simp only [List.length_append, List.length_cons, List.length_nil, List.length_take, List.length_drop, List.length_reverse]; omega)) (Nat.le_trans (show _ ≤ 140737488355328 from by have q0 := hl; first | omega | (simp only [List.length_append, List.length_cons, List.length_nil, List.length_take, List.length_drop, List.length_reverse]; omega)) (by decide)) ) ?_
  rintro v31 w32 ⟨ow33, gr34, nb35⟩
  have r_v31_g0 := ne_app nb35 r_v_g0 m0
  have m0 := m0.grown gr34 r_v_g0
  have r_v31_g2 := ne_app nb35 r_v_g2 m6
  have m6 := m6.grown gr34 r_v_g2
  have r_v31_g26 := ne_app nb35 r_v_g26 m30
  have m30 := m30.grown gr34 r_v_g26
  have xW := Ext.grown xW gr34 (fun b hb => (OwnL.lt ow_v hb).1)
  have nW1 := NB.app nW nb35 tW.size
  have tW := Two.grown tW gr34 nW
  have nW := nW1
  refine WX.yld rfl rfl (blt rfl) rfl (Y.nilCheck rfl rfl) ?_
  refine WX.yld rfl rfl (blt rfl) rfl (Y.fieldAddr rfl Try.underlying85 rfl ti83 (by decide) rfl) ?_
  obtain ⟨A36, n37, c38, rfl, hl39⟩ := OwnL.opened ow33 (fun _ => rfl) (by decide)
  have e_n37 := hl39.len
  try simp only [List.length_append, List.length_cons, List.length_nil, List.length_reverse, List.length_drop, List.length_take, List.length_map, List.length_replicate, List.length_set] at e_n37
  have z_n37 := hl39.nle
  refine WX.storeB (cs' := [_, _]) rfl ⟨xW, m6⟩ rfl rfl rfl rfl rfl rfl ti83 m0 (ble rfl) rfl rfl (fun w40 on41 m42 => ?_)
  have m6 := m6.only n_g0_g2.symm on41
  have m30 := m30.only n_g0_g26.symm on41
  have ow33 := ow33.only r_v31_g0 on41
  have hl39 := OwnL.ls ow33 (fun _ => rfl) (by decide)
  have xW := Ext.only xW on41 o_g0
  have tW := Two.only tW on41 (.inl rfl)
  refine WX.nil ⟨xW, m6⟩ ?_
  clear k1
  refine WK.end_ [] rfl trivial ?_
  exact ⟨_, rfl, m42, by simpa using ow33, r_v31_g0, tW, nW⟩
end N
end BdW

end Go.Proofs.Ytaglpampidlbmaa
