/- Contracts: the laws' helpers. Conditions: what each theorem states. -/
import Derived.Test.YtaglpampidlbmaaBdM2
import Derived.Test.YtaglpampidlbmaaBdRSt
namespace Go.Proofs.Ytaglpampidlbmaa
open Go Go.Eng Go.RowKit
set_option linter.unusedVariables false
set_option linter.unusedSimpArgs false
namespace BdW
open N RL NumF LB GR CkW CkW.P CkW.K CkW.R CkW.RP B OF MY RP_ RE RI RL_ RO RS_
namespace AW_
theorem ti3 : TI Try.prog 3 (.int .i64 0) 1 8 := TI.mk (by kernel_rfl)
theorem ti22 : TI Try.prog 22 (.slice none 0 0) 1 24 := TI.mk (by kernel_rfl)
theorem ti23 : TI Try.prog 23 (.slice none 0 0) 1 24 := TI.mk (by kernel_rfl)
theorem ti29 : TI Try.prog 29 (.agg #[.int .i64 0, .int .i64 0]) 2 16 := TI.mk (by kernel_rfl)
theorem ti42 : TI Try.prog 42 (.agg #[.int .i64 0, .int .i64 0, .int .i64 0, .int .i64 0, .int .i64 0]) 5 40 := TI.mk (by kernel_rfl)
theorem ti59 : TI Try.prog 59 (.agg #[.int .i64 0, .int .i64 0]) 2 16 := TI.mk (by kernel_rfl)
theorem has11 : Has Try.prog 11 := ⟨_, Try.func11, rfl, by kernel_rfl⟩
theorem has13 : Has Try.prog 13 := ⟨_, Try.func13, rfl, by kernel_rfl⟩
theorem has15 : Has Try.prog 15 := ⟨_, Try.func15, rfl, by kernel_rfl⟩
theorem pl29 : PL Try.prog 29 [.int .i64 0, .int .i64 0] [(0, 1), (1, 1)] := PL.mk (zero := [.int .i64 0, .int .i64 0]) ti29 Try.underlying29 (by kernel_rfl)
theorem pl42 : PL Try.prog 42 [.int .i64 0, .int .i64 0, .int .i64 0, .int .i64 0, .int .i64 0] [(0, 1), (1, 1), (2, 1), (3, 2)] := PL.mk (zero := [.int .i64 0, .int .i64 0, .int .i64 0, .int .i64 0, .int .i64 0]) ti42 Try.underlying42 (by kernel_rfl)
theorem pl59 : PL Try.prog 59 [.int .i64 0, .int .i64 0] [(0, 1), (1, 1)] := PL.mk (zero := [.int .i64 0, .int .i64 0]) ti59 Try.underlying59 (by kernel_rfl)
theorem eqg29 : Try.prog.eqGuardType Try.prog.depth 29 = false := by kernel_rfl
theorem eq29 (a0 : Int) (a1 : Int) (b0 : Int) (b1 : Int) (w : World) : (Op.equalIn 10000 29 (.agg #[.int .i64 a0, .int .i64 a1]) (.agg #[.int .i64 b0, .int .i64 b1])).run Try.prog w = .ok ((a0 == b0) && (a1 == b1)) w := by
  go_simp
  (repeat' split) <;> simp_all
theorem small_any (A_d : Option Addr) (n_d c_d : Nat) (d : List Ck.Dom) (A_l : Option Addr) (n_l c_l : Nat) (l : List Ck.Snap) (w : World) :
    Calls Try.prog 9 #[.agg #[.slice A_d n_d c_d, .slice A_l n_l c_l]] w fun e w' => e = .returned (.bool (decide (((n_d : Nat) : Int) ≤ 12) && decide (((n_l : Nat) : Int) ≤ 10))) ∧ Ext w w' := by
  have xW := Ext.refl w
  refine calls_of_WC (args := [.agg #[.slice A_d n_d c_d, .slice A_l n_l c_l]]) Try.func9 rfl rfl (ble rfl) ?_
  refine WC.seq (fun K1 k1 => ?_)
  refine WC.region rfl ?_
  refine WL.box rfl (blt rfl) rfl rfl rfl rfl ?_
  intro g2 w3 e4 x5 m6
  have o_g2 := own_new xW e4
  have xW := Ext.trans xW x5
  refine WL.yld rfl (blt rfl) rfl (Y.assign rfl rfl) ?_
  refine WL.nil ?_
  refine WK.then_normal (k1 _ _ ?_)
  refine WC.sub [(1, _)] ⟨rfl, trivial⟩ ?_
  refine WC.seq (fun K7 k7 => ?_)
  refine WC.region rfl ?_
  refine WL.yld rfl (blt rfl) rfl (Y.fieldAddr rfl Try.underlying25 rfl ti22 (by decide) rfl) ?_
  refine WL.yld rfl (blt rfl) rfl (Y.load1 rfl Try.underlying22 rfl rfl (Blk.at_eq m6 rfl)) ?_
  refine WL.yld rfl (blt rfl) rfl (Y.lenSl rfl rfl rfl Try.underlying22 rfl) ?_
  refine WL.yld rfl (blt rfl) rfl (Y.leq rfl rfl rfl) ?_
  refine WL.yld rfl (blt rfl) rfl (Y.move rfl rfl) ?_
  refine WL.yldG rfl (blt rfl) rfl rfl rfl (fun hb => Y.fieldAddr rfl Try.underlying25 rfl ti23 (by decide) rfl) ?_
  refine WL.yldG rfl (blt rfl) rfl rfl rfl (fun hb => Y.load1 rfl Try.underlying23 rfl (evg rfl hb) (Blk.at_eq m6 rfl)) ?_
  refine WL.yldG rfl (blt rfl) rfl rfl rfl (fun hb => Y.lenSl rfl rfl rfl Try.underlying23 (evs_cons (evg rfl hb) evs_nil)) ?_
  refine WL.yldG rfl (blt rfl) rfl rfl rfl (fun hb => Y.leq rfl (evg rfl hb) rfl) ?_
  refine WL.yld rfl (blt rfl) rfl (Y.and rfl rfl rfl rfl) ?_
  refine WL.yld rfl (blt rfl) rfl (Y.assign rfl rfl) ?_
  refine WL.nil ?_
  refine WK.then_normal (k7 _ _ ?_)
  refine WC.sub [(2, _)] ⟨rfl, trivial⟩ ?_
  refine WC.ret ?_
  clear k1 k7
  refine WK.ret [_] rfl ⟨rfl, trivial⟩ ?_
  exact ⟨rfl, xW⟩
theorem more_any (A_d : Option Addr) (n_d c_d : Nat) (d : List Ck.Dom) (A_l : Option Addr) (n_l c_l : Nat) (l : List Ck.Snap) (id : Int) (at_ : Int) (t : Int) (w : World) (h_l : Ls w A_l n_l c_l Ck.Snap.c 5 l) (hl : n_l ≤ 10) :
    Calls Try.prog 16 #[.agg #[.slice A_d n_d c_d, .slice A_l n_l c_l], .int .i64 id, .int .i64 at_, .int .i64 t] w fun e w' => ∃ v, e = .returned v ∧ OwnL w' w.heap.size 42 Ck.Snap.c 5 v ((([] ++ l) ++ [(⟨id, at_, 0, t, t⟩ : Ck.Snap)])) ∧ Ext w w' := by
  have xW := Ext.refl w
  have e_l := h_l.len
  have z_l := h_l.nle
  refine calls_of_WC (args := [.agg #[.slice A_d n_d c_d, .slice A_l n_l c_l], .int .i64 id, .int .i64 at_, .int .i64 t]) Try.func16 rfl rfl (ble rfl) ?_
  refine WC.seq (fun K1 k1 => ?_)
  refine WC.region rfl ?_
  refine WL.box rfl (blt rfl) rfl rfl rfl rfl ?_
  intro g2 w3 e4 x5 m6
  have o_g2 := own_new xW e4
  have xW := Ext.trans xW x5
  refine WL.yld rfl (blt rfl) rfl (Y.assign rfl rfl) ?_
  refine WL.nil ?_
  refine WK.then_normal (k1 _ _ ?_)
  refine WC.sub [(1, _), (2, _), (3, _), (4, _)] ⟨rfl, rfl, rfl, rfl, trivial⟩ ?_
  refine WC.seq (fun K7 k7 => ?_)
  refine WC.region rfl ?_
  refine WL.bslice0 rfl (blt rfl) rfl rfl Try.underlying23 ti42 ?_
  intro g8 w9 e10 x11 m12
  have n_g2_g8 := ne_new m6 e10
  have o_g8 := own_new xW e10
  have m6 := m6.ext x11
  have xW := Ext.trans xW x11
  refine WL.yld rfl (blt rfl) rfl (Y.fieldAddr rfl Try.underlying25 rfl ti23 (by decide) rfl) ?_
  refine WL.yld rfl (blt rfl) rfl (Y.load1 rfl Try.underlying23 rfl rfl (Blk.at_eq m6 rfl)) ?_
  have ob13 := Blk.own (sz := 5) (f := Ck.Snap.c) (l := ([] : List Ck.Snap)) (base := w.heap.size) m12 o_g8 (fun _ => rfl) rfl (by decide) rfl
  refine WL.appendL (f := Ck.Snap.c) rfl (blt rfl) rfl rfl rfl rfl Try.underlying23 ti42 rfl (by decide) rfl ob13 (fun _ => rfl) Ck.Snap.one (h_l.ext xW) xW.size (by have q0 := h_l.len; first | omega | (simp only [List.length_append, List.length_cons, List.length_nil, List.length_take, List.length_drop, List.length_reverse]; omega)) (Nat.le_trans (show _ ≤ 140737488355328 from by have q0 := h_l.len; first | omega | (simp only [List.length_append, List.length_cons, List.length_nil, List.length_take, List.length_drop, List.length_reverse]; omega)) (by decide)) (fun v14 w15 ow16 gr17 nb18 => ?_)
  have r_v14_g2 := ne_app nb18 (ne_blk n_g2_g8) m6
  have m6 := m6.grown gr17 (ne_blk n_g2_g8)
  have xW := Ext.grown xW gr17 (fun b hb => (OwnL.lt ob13 hb).1)
  refine WL.yld rfl (blt rfl) rfl (Y.move rfl rfl) ?_
  refine WL.yld rfl (blt rfl) rfl (Y.move rfl rfl) ?_
  refine WL.yld rfl (blt rfl) rfl (Y.move rfl rfl) ?_
  refine WL.yld rfl (blt rfl) rfl (Y.move rfl rfl) ?_
  refine WL.yld rfl (blt rfl) rfl (Y.build (cells := [_, _]) rfl pl29 rfl rfl) ?_
  refine WL.yld rfl (blt rfl) rfl (Y.build (cells := [_, _, _, _, _]) rfl pl42 rfl rfl) ?_
  refine WL.bslice (zs := [.int .i64 0, .int .i64 0, .int .i64 0, .int .i64 0, .int .i64 0]) (cs := [_, _, _, _, _]) rfl (blt rfl) rfl rfl Try.underlying23 ti42 rfl (ble rfl) (by kernel_rfl) rfl rfl ?_
  intro g19 w20 e21 x22 m23
  have n_g2_g19 := ne_new m6 e21
  have r_v14_g19 := ne_newO ow16 e21
  have o_g19 := own_new xW e21
  have m6 := m6.ext x22
  have ow16 := ow16.ext x22
  have xW := Ext.trans xW x22
  refine WL.appendB (f := Ck.Snap.c) (news := [⟨id, at_, 0, t, t⟩]) rfl (blt rfl) rfl rfl rfl rfl Try.underlying23 ti42 rfl (by decide) rfl ow16 (fun _ => rfl) Ck.Snap.one m23 rfl xW.size (by have q0 := h_l.len; first | omega | (simp only [List.length_append, List.length_cons, List.length_nil, List.length_take, List.length_drop, List.length_reverse]; omega)) (Nat.le_trans (show _ ≤ 140737488355328 from by have q0 := h_l.len; first | omega | (simp only [List.length_append, List.length_cons, List.length_nil, List.length_take, List.length_drop, List.length_reverse]; omega)) (by decide)) (fun v24 w25 ow26 gr27 nb28 => ?_)
  have r_v24_g2 := ne_app nb28 r_v14_g2 m6
  have m6 := m6.grown gr27 r_v14_g2
  have r_v24_g19 := ne_app nb28 r_v14_g19 m23
  have m23 := m23.grown gr27 r_v14_g19
  have xW := Ext.grown xW gr27 (fun b hb => (OwnL.lt ow16 hb).1)
  refine WL.yld rfl (blt rfl) rfl (Y.assign rfl rfl) ?_
  refine WL.nil ?_
  refine WK.then_normal (k7 _ _ ?_)
  refine WC.sub [(8, _)] ⟨rfl, trivial⟩ ?_
  refine WC.ret ?_
  clear k1 k7
  refine WK.ret [_] rfl ⟨rfl, trivial⟩ ?_
  exact ⟨_, rfl, ow26, xW⟩
theorem awake_any  (w : World) :
    Calls Try.prog 10 #[] w fun e w' => e = .returned (.bool true) ∧ Ext w w' := by
  have xW := Ext.refl w
  have s1l : Bd.S1.length = 1 := rfl
  refine calls_of_WC (args := []) Try.func10 rfl rfl (ble rfl) ?_
  refine WC.seq (fun K1 k1 => ?_)
  refine WC.region rfl ?_
  refine WL.yld rfl (blt rfl) rfl (Y.assign rfl rfl) ?_
  refine WL.nil ?_
  refine WK.then_normal (k1 _ _ ?_)
  refine WC.sub [] trivial ?_
  refine WC.seq (fun K2 k2 => ?_)
  refine WC.region rfl ?_
  refine WL.yld rfl (blt rfl) rfl (Y.build (cells := [_, _]) rfl pl59 rfl rfl) ?_
  refine WL.yld rfl (blt rfl) rfl (Y.build (cells := [_, _]) rfl pl59 rfl rfl) ?_
  refine WL.bslice (zs := [.int .i64 0, .int .i64 0, .int .i64 0, .int .i64 0]) (cs := [_, _, _, _]) rfl (blt rfl) rfl rfl Try.underlying22 ti59 rfl (ble rfl) (by kernel_rfl) rfl rfl ?_
  intro g3 w4 e5 x6 m7
  have o_g3 := own_new xW e5
  have xW := Ext.trans xW x6
  refine WL.yld rfl (blt rfl) rfl (Y.assign rfl rfl) ?_
  refine WL.nil ?_
  refine WK.then_normal (k2 _ _ ?_)
  refine WC.sub [(1, _)] ⟨rfl, trivial⟩ ?_
  refine WC.seq (fun K8 k8 => ?_)
  refine WC.region rfl ?_
  refine WL.yld rfl (blt rfl) rfl (Y.build (cells := [_, _]) rfl pl29 rfl rfl) ?_
  refine WL.yld rfl (blt rfl) rfl (Y.build (cells := [_, _, _, _, _]) rfl pl42 rfl rfl) ?_
  refine WL.bslice (zs := [.int .i64 0, .int .i64 0, .int .i64 0, .int .i64 0, .int .i64 0]) (cs := [_, _, _, _, _]) rfl (blt rfl) rfl rfl Try.underlying23 ti42 rfl (ble rfl) (by kernel_rfl) rfl rfl ?_
  intro g9 w10 e11 x12 m13
  have n_g3_g9 := ne_new m7 e11
  have o_g9 := own_new xW e11
  have m7 := m7.ext x12
  have xW := Ext.trans xW x12
  refine WL.yld rfl (blt rfl) rfl (Y.assign rfl rfl) ?_
  refine WL.nil ?_
  refine WK.then_normal (k8 _ _ ?_)
  refine WC.sub [(1, _), (2, _)] ⟨rfl, rfl, trivial⟩ ?_
  refine WC.seq (fun K14 k14 => ?_)
  refine WC.region rfl ?_
  refine WL.bslice0 rfl (blt rfl) rfl rfl Try.underlying23 ti42 ?_
  intro g15 w16 e17 x18 m19
  have n_g3_g15 := ne_new m7 e17
  have n_g9_g15 := ne_new m13 e17
  have o_g15 := own_new xW e17
  have m7 := m7.ext x18
  have m13 := m13.ext x18
  have xW := Ext.trans xW x18
  refine WL.yld rfl (blt rfl) rfl (Y.move rfl rfl) ?_
  have ob20 := Blk.own (sz := 5) (f := Ck.Snap.c) (l := ([] : List Ck.Snap)) (base := w.heap.size) m19 o_g15 (fun _ => rfl) rfl (by decide) rfl
  refine WL.appendB (f := Ck.Snap.c) (news := Bd.S1) rfl (blt rfl) rfl rfl rfl rfl Try.underlying23 ti42 rfl (by decide) rfl ob20 (fun _ => rfl) Ck.Snap.one m13 rfl xW.size (by have q0 := (show Bd.S1.length = 1 from rfl); first | omega | (simp only [List.length_append, List.length_cons, List.length_nil, List.length_take, List.length_drop, List.length_reverse]; omega)) (Nat.le_trans (show _ ≤ 140737488355328 from by have q0 := (show Bd.S1.length = 1 from rfl); first | omega | (simp only [List.length_append, List.length_cons, List.length_nil, List.length_take, List.length_drop, List.length_reverse]; omega)) (by decide)) (fun v21 w22 ow23 gr24 nb25 => ?_)
  have r_v21_g3 := ne_app nb25 (ne_blk n_g3_g15) m7
  have m7 := m7.grown gr24 (ne_blk n_g3_g15)
  have r_v21_g9 := ne_app nb25 (ne_blk n_g9_g15) m13
  have m13 := m13.grown gr24 (ne_blk n_g9_g15)
  have xW := Ext.grown xW gr24 (fun b hb => (OwnL.lt ob20 hb).1)
  refine WL.yld rfl (blt rfl) rfl (Y.build (cells := [_, _]) rfl pl29 rfl rfl) ?_
  refine WL.yld rfl (blt rfl) rfl (Y.build (cells := [_, _, _, _, _]) rfl pl42 rfl rfl) ?_
  refine WL.bslice (zs := [.int .i64 0, .int .i64 0, .int .i64 0, .int .i64 0, .int .i64 0]) (cs := [_, _, _, _, _]) rfl (blt rfl) rfl rfl Try.underlying23 ti42 rfl (ble rfl) (by kernel_rfl) rfl rfl ?_
  intro g26 w27 e28 x29 m30
  have n_g3_g26 := ne_new m7 e28
  have n_g9_g26 := ne_new m13 e28
  have r_v21_g26 := ne_newO ow23 e28
  have o_g26 := own_new xW e28
  have m7 := m7.ext x29
  have m13 := m13.ext x29
  have ow23 := ow23.ext x29
  have xW := Ext.trans xW x29
  refine WL.appendB (f := Ck.Snap.c) (news := [⟨1, 2000, 0, 5000, 5900⟩]) rfl (blt rfl) rfl rfl rfl rfl Try.underlying23 ti42 rfl (by decide) rfl ow23 (fun _ => rfl) Ck.Snap.one m30 rfl xW.size (by have q0 := (show Bd.S1.length = 1 from rfl); first | omega | (simp only [List.length_append, List.length_cons, List.length_nil, List.length_take, List.length_drop, List.length_reverse]; omega)) (Nat.le_trans (show _ ≤ 140737488355328 from by have q0 := (show Bd.S1.length = 1 from rfl); first | omega | (simp only [List.length_append, List.length_cons, List.length_nil, List.length_take, List.length_drop, List.length_reverse]; omega)) (by decide)) (fun v31 w32 ow33 gr34 nb35 => ?_)
  have r_v31_g3 := ne_app nb35 r_v21_g3 m7
  have m7 := m7.grown gr34 r_v21_g3
  have r_v31_g9 := ne_app nb35 r_v21_g9 m13
  have m13 := m13.grown gr34 r_v21_g9
  have r_v31_g26 := ne_app nb35 r_v21_g26 m30
  have m30 := m30.grown gr34 r_v21_g26
  have xW := Ext.grown xW gr34 (fun b hb => (OwnL.lt ow23 hb).1)
  refine WL.yld rfl (blt rfl) rfl (Y.assign rfl rfl) ?_
  refine WL.nil ?_
  refine WK.then_normal (k14 _ _ ?_)
  refine WC.sub [(1, _), (2, _), (3, _)] ⟨rfl, rfl, rfl, trivial⟩ ?_
  refine WC.seq (fun K36 k36 => ?_)
  refine WC.region rfl ?_
  refine WL.yld rfl (blt rfl) rfl (Y.move rfl rfl) ?_
  refine WL.yld rfl (blt rfl) rfl (Y.move rfl rfl) ?_
  refine WL.call rfl (blt rfl) rfl rfl rfl has11 rfl (of_any _ _ _ _ _ _ _ _ _ _ _ (Ls.lit (f := Ck.Dom.c) (sz := 2) (l := Bd.D2) m7 (fun _ => rfl) rfl (by first | decide | exact (show 2 ≤ maxLen by decide)) rfl) (Ls.lit (f := Ck.Snap.c) (sz := 5) (l := Bd.S1) m13 (fun _ => rfl) rfl (by first | decide | exact (show 1 ≤ maxLen by decide)) rfl) (by omega)) ?_
  rintro _ w37 ⟨rfl, x38⟩
  refine ⟨_, rfl, ?_⟩
  have m7 := m7.ext x38
  have m13 := m13.ext x38
  have ow33 := ow33.ext x38
  have xW := Ext.trans xW x38
  refine WL.yld rfl (blt rfl) rfl (Yld.cast (Y.move rfl rfl) (by show Bd.ofV (Bd.ofF Bd.D2 Bd.S1 1 1001000) = Bd.ofV ((1004900, 1005110), 0); rw [Bd.aw1])) ?_
  refine WL.yld rfl (blt rfl) rfl (Y.extract rfl rfl rfl) ?_
  refine WL.yld rfl (blt rfl) rfl (Y.extract rfl rfl rfl) ?_
  refine WL.alloc rfl (blt rfl) rfl rfl ti29 rfl ?_
  intro g39 w40 e41 x42 m43
  have n_g3_g39 := ne_new m7 e41
  have n_g9_g39 := ne_new m13 e41
  have r_v31_g39 := ne_newO ow33 e41
  have o_g39 := own_new xW e41
  have m7 := m7.ext x42
  have m13 := m13.ext x42
  have ow33 := ow33.ext x42
  have xW := Ext.trans xW x42
  refine WL.store (cs' := [_, _]) rfl rfl rfl rfl rfl rfl ti29 m43 (ble rfl) rfl rfl (fun w44 on45 m46 => ?_)
  have m7 := m7.only n_g3_g39 on45
  have m13 := m13.only n_g9_g39 on45
  have ow33 := ow33.only r_v31_g39 on45
  have xW := Ext.only xW on45 o_g39
  refine WL.yld rfl (blt rfl) rfl (Y.assign rfl rfl) ?_
  refine WL.nil ?_
  refine WK.then_normal (k36 _ _ ?_)
  refine WC.sub [(1, _), (2, _), (3, _), (4, _), (5, _)] ⟨rfl, rfl, rfl, rfl, rfl, trivial⟩ ?_
  refine WC.seq (fun K47 k47 => ?_)
  refine WC.region rfl ?_
  refine WL.yld rfl (blt rfl) rfl (Y.move rfl rfl) ?_
  refine WL.yld rfl (blt rfl) rfl (Y.move rfl rfl) ?_
  refine WL.call rfl (blt rfl) rfl rfl rfl has11 rfl (of_any _ _ _ _ _ _ _ _ _ _ _ (Ls.lit (f := Ck.Dom.c) (sz := 2) (l := Bd.D2) m7 (fun _ => rfl) rfl (by first | decide | exact (show 2 ≤ maxLen by decide)) rfl) (Ls.lit (f := Ck.Snap.c) (sz := 5) (l := Bd.S1) m13 (fun _ => rfl) rfl (by first | decide | exact (show 1 ≤ maxLen by decide)) rfl) (by omega)) ?_
  rintro _ w48 ⟨rfl, x49⟩
  refine ⟨_, rfl, ?_⟩
  have m7 := m7.ext x49
  have m13 := m13.ext x49
  have ow33 := ow33.ext x49
  have m46 := m46.ext x49
  have xW := Ext.trans xW x49
  refine WL.yld rfl (blt rfl) rfl (Yld.cast (Y.move rfl rfl) (by show Bd.ofV (Bd.ofF Bd.D2 Bd.S1 1 0) = Bd.ofV ((3999, 4011), 0); rw [Bd.aw2])) ?_
  refine WL.yld rfl (blt rfl) rfl (Y.extract rfl rfl rfl) ?_
  refine WL.yld rfl (blt rfl) rfl (Y.extract rfl rfl rfl) ?_
  refine WL.alloc rfl (blt rfl) rfl rfl ti29 rfl ?_
  intro g50 w51 e52 x53 m54
  have n_g3_g50 := ne_new m7 e52
  have n_g9_g50 := ne_new m13 e52
  have r_v31_g50 := ne_newO ow33 e52
  have n_g39_g50 := ne_new m46 e52
  have o_g50 := own_new xW e52
  have m7 := m7.ext x53
  have m13 := m13.ext x53
  have ow33 := ow33.ext x53
  have m46 := m46.ext x53
  have xW := Ext.trans xW x53
  refine WL.store (cs' := [_, _]) rfl rfl rfl rfl rfl rfl ti29 m54 (ble rfl) rfl rfl (fun w55 on56 m57 => ?_)
  have m7 := m7.only n_g3_g50 on56
  have m13 := m13.only n_g9_g50 on56
  have ow33 := ow33.only r_v31_g50 on56
  have m46 := m46.only n_g39_g50 on56
  have xW := Ext.only xW on56 o_g50
  refine WL.yld rfl (blt rfl) rfl (Y.assign rfl rfl) ?_
  refine WL.nil ?_
  refine WK.then_normal (k47 _ _ ?_)
  refine WC.sub [(1, _), (2, _), (3, _), (4, _), (5, _), (6, _), (7, _)] ⟨rfl, rfl, rfl, rfl, rfl, rfl, rfl, trivial⟩ ?_
  refine WC.seq (fun K58 k58 => ?_)
  refine WC.region rfl ?_
  refine WL.yld rfl (blt rfl) rfl (Y.move rfl rfl) ?_
  refine WL.call rfl (blt rfl) rfl rfl rfl has11 rfl (of_any _ _ _ _ _ _ _ _ _ _ _ (Ls.lit (f := Ck.Dom.c) (sz := 2) (l := Bd.D2) m7 (fun _ => rfl) rfl (by first | decide | exact (show 2 ≤ maxLen by decide)) rfl) (Ls.nil (by decide)) (by omega)) ?_
  rintro _ w59 ⟨rfl, x60⟩
  refine ⟨_, rfl, ?_⟩
  have m7 := m7.ext x60
  have m13 := m13.ext x60
  have ow33 := ow33.ext x60
  have m46 := m46.ext x60
  have m57 := m57.ext x60
  have xW := Ext.trans xW x60
  refine WL.yld rfl (blt rfl) rfl (Yld.cast (Y.move rfl rfl) (by show Bd.ofV (Bd.ofF Bd.D2 [] 0 7) = Bd.ofV ((7, 7), 0); rw [Bd.aw3])) ?_
  refine WL.yld rfl (blt rfl) rfl (Y.extract rfl rfl rfl) ?_
  refine WL.yld rfl (blt rfl) rfl (Y.extract rfl rfl rfl) ?_
  refine WL.alloc rfl (blt rfl) rfl rfl ti29 rfl ?_
  intro g61 w62 e63 x64 m65
  have n_g3_g61 := ne_new m7 e63
  have n_g9_g61 := ne_new m13 e63
  have r_v31_g61 := ne_newO ow33 e63
  have n_g39_g61 := ne_new m46 e63
  have n_g50_g61 := ne_new m57 e63
  have o_g61 := own_new xW e63
  have m7 := m7.ext x64
  have m13 := m13.ext x64
  have ow33 := ow33.ext x64
  have m46 := m46.ext x64
  have m57 := m57.ext x64
  have xW := Ext.trans xW x64
  refine WL.store (cs' := [_, _]) rfl rfl rfl rfl rfl rfl ti29 m65 (ble rfl) rfl rfl (fun w66 on67 m68 => ?_)
  have m7 := m7.only n_g3_g61 on67
  have m13 := m13.only n_g9_g61 on67
  have ow33 := ow33.only r_v31_g61 on67
  have m46 := m46.only n_g39_g61 on67
  have m57 := m57.only n_g50_g61 on67
  have xW := Ext.only xW on67 o_g61
  refine WL.yld rfl (blt rfl) rfl (Y.assign rfl rfl) ?_
  refine WL.nil ?_
  refine WK.then_normal (k58 _ _ ?_)
  refine WC.sub [(1, _), (2, _), (3, _), (4, _), (5, _), (6, _), (7, _), (8, _), (9, _)] ⟨rfl, rfl, rfl, rfl, rfl, rfl, rfl, rfl, rfl, trivial⟩ ?_
  refine WC.seq (fun K69 k69 => ?_)
  refine WC.region rfl ?_
  refine WL.yld rfl (blt rfl) rfl (Y.move rfl rfl) ?_
  refine WL.call rfl (blt rfl) rfl rfl rfl has11 rfl (of_any _ _ _ _ _ _ _ _ _ _ _ (Ls.lit (f := Ck.Dom.c) (sz := 2) (l := Bd.D2) m7 (fun _ => rfl) rfl (by first | decide | exact (show 2 ≤ maxLen by decide)) rfl) (Ls.nil (by decide)) (by omega)) ?_
  rintro _ w70 ⟨rfl, x71⟩
  refine ⟨_, rfl, ?_⟩
  have m7 := m7.ext x71
  have m13 := m13.ext x71
  have ow33 := ow33.ext x71
  have m46 := m46.ext x71
  have m57 := m57.ext x71
  have m68 := m68.ext x71
  have xW := Ext.trans xW x71
  refine WL.yld rfl (blt rfl) rfl (Y.move rfl rfl) ?_
  refine WL.yld rfl (blt rfl) rfl (Y.extract rfl rfl rfl) ?_
  refine WL.yld rfl (blt rfl) rfl (Y.extract rfl rfl rfl) ?_
  refine WL.alloc rfl (blt rfl) rfl rfl ti29 rfl ?_
  intro g72 w73 e74 x75 m76
  have n_g3_g72 := ne_new m7 e74
  have n_g9_g72 := ne_new m13 e74
  have r_v31_g72 := ne_newO ow33 e74
  have n_g39_g72 := ne_new m46 e74
  have n_g50_g72 := ne_new m57 e74
  have n_g61_g72 := ne_new m68 e74
  have o_g72 := own_new xW e74
  have m7 := m7.ext x75
  have m13 := m13.ext x75
  have ow33 := ow33.ext x75
  have m46 := m46.ext x75
  have m57 := m57.ext x75
  have m68 := m68.ext x75
  have xW := Ext.trans xW x75
  refine WL.store (cs' := [_, _]) rfl rfl rfl rfl rfl rfl ti29 m76 (ble rfl) rfl rfl (fun w77 on78 m79 => ?_)
  have m7 := m7.only n_g3_g72 on78
  have m13 := m13.only n_g9_g72 on78
  have ow33 := ow33.only r_v31_g72 on78
  have m46 := m46.only n_g39_g72 on78
  have m57 := m57.only n_g50_g72 on78
  have m68 := m68.only n_g61_g72 on78
  have xW := Ext.only xW on78 o_g72
  refine WL.yld rfl (blt rfl) rfl (Y.assign rfl rfl) ?_
  refine WL.nil ?_
  refine WK.then_normal (k69 _ _ ?_)
  refine WC.sub [(1, _), (2, _), (3, _), (4, _), (5, _), (6, _), (7, _), (8, _), (9, _), (11, _)] ⟨rfl, rfl, rfl, rfl, rfl, rfl, rfl, rfl, rfl, rfl, trivial⟩ ?_
  refine WC.seq (fun K80 k80 => ?_)
  refine WC.region rfl ?_
  refine WL.yld rfl (blt rfl) rfl (Y.move rfl rfl) ?_
  refine WL.yld rfl (blt rfl) rfl (Y.move rfl rfl) ?_
  obtain ⟨A81, n82, c83, rfl, hl84⟩ := OwnL.opened ow33 (fun _ => rfl) (by decide)
  have e_n82 := hl84.len
  try simp only [List.length_append, List.length_cons, List.length_nil, List.length_reverse, List.length_drop, List.length_take, List.length_map, List.length_replicate, List.length_set] at e_n82
  have z_n82 := hl84.nle
  refine WL.call rfl (blt rfl) rfl rfl rfl has11 rfl (of_any _ _ _ _ _ _ _ _ _ _ _ (Ls.lit (f := Ck.Dom.c) (sz := 2) (l := Bd.D2) m7 (fun _ => rfl) rfl (by first | decide | exact (show 2 ≤ maxLen by decide)) rfl) hl84 (by omega)) ?_
  rintro _ w85 ⟨rfl, x86⟩
  refine ⟨_, rfl, ?_⟩
  have m7 := m7.ext x86
  have m13 := m13.ext x86
  have ow33 := ow33.ext x86
  have hl84 := hl84.ext x86
  have m46 := m46.ext x86
  have m57 := m57.ext x86
  have m68 := m68.ext x86
  have xW := Ext.trans xW x86
  refine WL.yld rfl (blt rfl) rfl (Y.move rfl rfl) ?_
  refine WL.yld rfl (blt rfl) rfl (Y.extract rfl rfl rfl) ?_
  refine WL.yld rfl (blt rfl) rfl (Y.extract rfl rfl rfl) ?_
  refine WL.alloc rfl (blt rfl) rfl rfl ti29 rfl ?_
  intro g87 w88 e89 x90 m91
  have n_g3_g87 := ne_new m7 e89
  have n_g9_g87 := ne_new m13 e89
  have r_v31_g87 := ne_newO ow33 e89
  have n_g39_g87 := ne_new m46 e89
  have n_g50_g87 := ne_new m57 e89
  have n_g61_g87 := ne_new m68 e89
  have o_g87 := own_new xW e89
  have m7 := m7.ext x90
  have m13 := m13.ext x90
  have ow33 := ow33.ext x90
  have hl84 := hl84.ext x90
  have m46 := m46.ext x90
  have m57 := m57.ext x90
  have m68 := m68.ext x90
  have xW := Ext.trans xW x90
  refine WL.store (cs' := [_, _]) rfl rfl rfl rfl rfl rfl ti29 m91 (ble rfl) rfl rfl (fun w92 on93 m94 => ?_)
  have m7 := m7.only n_g3_g87 on93
  have m13 := m13.only n_g9_g87 on93
  have ow33 := ow33.only r_v31_g87 on93
  have hl84 := OwnL.ls ow33 (fun _ => rfl) (by decide)
  have m46 := m46.only n_g39_g87 on93
  have m57 := m57.only n_g50_g87 on93
  have m68 := m68.only n_g61_g87 on93
  have xW := Ext.only xW on93 o_g87
  refine WL.yld rfl (blt rfl) rfl (Y.assign rfl rfl) ?_
  refine WL.nil ?_
  refine WK.then_normal (k80 _ _ ?_)
  refine WC.sub [(1, _), (2, _), (3, _), (4, _), (5, _), (6, _), (7, _), (8, _), (9, _), (11, _), (13, _)] ⟨rfl, rfl, rfl, rfl, rfl, rfl, rfl, rfl, rfl, rfl, rfl, trivial⟩ ?_
  refine WC.seq (fun K95 k95 => ?_)
  refine WC.region rfl ?_
  refine WL.yld rfl (blt rfl) rfl (Y.move rfl rfl) ?_
  refine WL.yld rfl (blt rfl) rfl (Y.move rfl rfl) ?_
  refine WL.bslice (zs := [.int .i64 0, .int .i64 0]) (cs := [_, _]) rfl (blt rfl) rfl rfl Try.underlying35 ti3 rfl (ble rfl) (by kernel_rfl) rfl rfl ?_
  intro g96 w97 e98 x99 m100
  have n_g3_g96 := ne_new m7 e98
  have n_g9_g96 := ne_new m13 e98
  have r_v31_g96 := ne_newO ow33 e98
  have n_g39_g96 := ne_new m46 e98
  have n_g50_g96 := ne_new m57 e98
  have n_g61_g96 := ne_new m68 e98
  have o_g96 := own_new xW e98
  have m7 := m7.ext x99
  have m13 := m13.ext x99
  have ow33 := ow33.ext x99
  have hl84 := hl84.ext x99
  have m46 := m46.ext x99
  have m57 := m57.ext x99
  have m68 := m68.ext x99
  have xW := Ext.trans xW x99
  refine WL.call rfl (blt rfl) rfl rfl rfl has15 rfl (many_any _ _ _ _ _ _ _ _ _ _ _ _ _ _ (Ls.lit (f := Ck.Dom.c) (sz := 2) (l := Bd.D2) m7 (fun _ => rfl) rfl (by first | decide | exact (show 2 ≤ maxLen by decide)) rfl) (Ls.lit (f := Ck.Snap.c) (sz := 5) (l := Bd.S1) m13 (fun _ => rfl) rfl (by first | decide | exact (show 1 ≤ maxLen by decide)) rfl) (Ls.lit (f := Ck.ic) (sz := 1) (l := ([1000, 0] : List Int)) m100 (fun _ => rfl) rfl (by first | decide | exact (show 2 ≤ maxLen by decide)) rfl) (by omega) (by omega)) ?_
  rintro _ w101 ⟨v103, rfl, ow104, x102⟩
  refine ⟨_, rfl, ?_⟩
  have r_v103_g3 := ne_res ow104 m7
  have r_v103_g9 := ne_res ow104 m13
  have d_v103_v31 := Apart.res ow104 ow33
  have r_v103_g39 := ne_res ow104 m46
  have r_v103_g50 := ne_res ow104 m57
  have r_v103_g61 := ne_res ow104 m68
  have r_v103_g96 := ne_res ow104 m100
  have ow104 := OwnL.base_le ow104 xW.size
  have m7 := m7.ext x102
  have m13 := m13.ext x102
  have ow33 := ow33.ext x102
  have hl84 := hl84.ext x102
  have m46 := m46.ext x102
  have m57 := m57.ext x102
  have m68 := m68.ext x102
  have m100 := m100.ext x102
  have xW := Ext.trans xW x102
  rw [Bd.aw7] at ow104
  refine WL.yld rfl (blt rfl) rfl (Y.move rfl rfl) ?_
  refine WL.yld rfl (blt rfl) rfl (Y.extract rfl rfl rfl) ?_
  refine WL.yld rfl (blt rfl) rfl (Yld.cast (Y.extract rfl rfl rfl) (vi Bd.aw6)) ?_
  refine WL.yld rfl (blt rfl) rfl (Y.assign rfl rfl) ?_
  refine WL.yld rfl (blt rfl) rfl (Y.assign rfl rfl) ?_
  refine WL.nil ?_
  refine WK.then_normal (k95 _ _ ?_)
  refine WC.sub [(1, _), (2, _), (3, _), (4, _), (5, _), (6, _), (7, _), (8, _), (9, _), (11, _), (13, _), (14, _), (15, _)] ⟨rfl, rfl, rfl, rfl, rfl, rfl, rfl, rfl, rfl, rfl, rfl, rfl, rfl, trivial⟩ ?_
  refine WC.seq (fun K105 k105 => ?_)
  refine WC.regionDq (by kernel_rfl) (by kernel_rfl) rfl ?_
  refine WQ.yld rfl (blt rfl) rfl (Y.loadS rfl Try.underlying29 rfl ti29 rfl (Blk.row_ext m46)) ?_
  refine WQ.yld rfl (blt rfl) rfl (Y.build (cells := [_, _]) rfl pl29 rfl rfl) ?_
  refine WQ.yld rfl (blt rfl) rfl (Yld.cast (Y.eqlS rfl eqg29 (eq29 _ _ _ _) rfl rfl) (vb (b := true) (by decide))) ?_
  refine WQ.yld rfl (blt rfl) rfl (Y.move rfl rfl) ?_
  refine WQ.yldW rfl (blt rfl) rfl rfl rfl (Y.move rfl rfl) ?_
  refine WQ.yldW rfl (blt rfl) rfl rfl rfl (Yld.cast (Y.eql rfl rfl rfl) (vb (b := true) (by decide))) ?_
  refine WQ.yld rfl (blt rfl) rfl (Y.pickT rfl rfl rfl) ?_
  refine WQ.yld rfl (blt rfl) rfl (Y.move rfl rfl) ?_
  refine WQ.yldW rfl (blt rfl) rfl rfl rfl (Y.loadS rfl Try.underlying29 rfl ti29 rfl (Blk.row_ext m57)) ?_
  refine WQ.yldW rfl (blt rfl) rfl rfl rfl (Y.build (cells := [_, _]) rfl pl29 rfl rfl) ?_
  refine WQ.yldW rfl (blt rfl) rfl rfl rfl (Yld.cast (Y.eqlS rfl eqg29 (eq29 _ _ _ _) rfl rfl) (vb (b := true) (by decide))) ?_
  refine WQ.yld rfl (blt rfl) rfl (Y.pickT rfl rfl rfl) ?_
  refine WQ.yld rfl (blt rfl) rfl (Y.move rfl rfl) ?_
  refine WQ.yldW rfl (blt rfl) rfl rfl rfl (Y.move rfl rfl) ?_
  refine WQ.yldW rfl (blt rfl) rfl rfl rfl (Yld.cast (Y.eql rfl rfl rfl) (vb (b := true) (by decide))) ?_
  refine WQ.yld rfl (blt rfl) rfl (Y.pickT rfl rfl rfl) ?_
  refine WQ.yld rfl (blt rfl) rfl (Y.move rfl rfl) ?_
  refine WQ.yldW rfl (blt rfl) rfl rfl rfl (Y.loadS rfl Try.underlying29 rfl ti29 rfl (Blk.row_ext m68)) ?_
  refine WQ.yldW rfl (blt rfl) rfl rfl rfl (Y.build (cells := [_, _]) rfl pl29 rfl rfl) ?_
  refine WQ.yldW rfl (blt rfl) rfl rfl rfl (Yld.cast (Y.eqlS rfl eqg29 (eq29 _ _ _ _) rfl rfl) (vb (b := true) (by decide))) ?_
  refine WQ.yld rfl (blt rfl) rfl (Y.pickT rfl rfl rfl) ?_
  refine WQ.yld rfl (blt rfl) rfl (Y.move rfl rfl) ?_
  refine WQ.yldW rfl (blt rfl) rfl rfl rfl (Y.move rfl rfl) ?_
  refine WQ.yldW rfl (blt rfl) rfl rfl rfl (Yld.cast (Y.eql rfl rfl rfl) (vb (b := true) (by decide))) ?_
  refine WQ.yld rfl (blt rfl) rfl (Y.pickT rfl rfl rfl) ?_
  refine WQ.yld rfl (blt rfl) rfl (Y.move rfl rfl) ?_
  refine WQ.yldW rfl (blt rfl) rfl rfl rfl (Y.move rfl rfl) ?_
  refine WQ.yldW rfl (blt rfl) rfl rfl rfl (Yld.cast (Y.eql rfl rfl rfl) (vb (b := true) (by rw [Bd.aw4]; rfl))) ?_
  refine WQ.yld rfl (blt rfl) rfl (Y.pickT rfl rfl rfl) ?_
  refine WQ.yld rfl (blt rfl) rfl (Y.move rfl rfl) ?_
  refine WQ.yldW rfl (blt rfl) rfl rfl rfl (Y.move rfl rfl) ?_
  refine WQ.yldW rfl (blt rfl) rfl rfl rfl (Yld.cast (Y.eql rfl rfl rfl) (vb (b := true) (by show ((Bd.ofF Bd.D2 Bd.S2 0 7).2 == 12) = true; rw [Bd.aw5]; rfl))) ?_
  refine WQ.yld rfl (blt rfl) rfl (Y.pickT rfl rfl rfl) ?_
  refine WQ.yld rfl (blt rfl) rfl (Y.move rfl rfl) ?_
  refine WQ.yldW rfl (blt rfl) rfl rfl rfl (Y.move rfl rfl) ?_
  obtain ⟨A106, n107, c108, rfl, hl109⟩ := OwnL.opened ow104 (fun _ => rfl) (by decide)
  have e_n107 := hl109.len
  try simp only [List.length_append, List.length_cons, List.length_nil, List.length_reverse, List.length_drop, List.length_take, List.length_map, List.length_replicate, List.length_set] at e_n107
  have z_n107 := hl109.nle
  refine WQ.yldW rfl (blt rfl) rfl rfl rfl (Y.lenSl rfl rfl rfl Try.underlying36 rfl) ?_
  refine WQ.yldW rfl (blt rfl) rfl rfl rfl (Yld.cast (Y.eql rfl rfl rfl) (vb (b := true) (beq_iff_eq.2 (by omega)))) ?_
  refine WQ.yld rfl (blt rfl) rfl (Y.pickT rfl rfl rfl) ?_
  refine WQ.yld rfl (blt rfl) rfl (Y.move rfl rfl) ?_
  refine WQ.yldW rfl (blt rfl) rfl rfl rfl (Y.move rfl rfl) ?_
  have b110 : 0 < n107 := by omega
  refine WQ.yldW rfl (blt rfl) rfl rfl rfl (Y.indexLs 0 hl109 rfl Try.underlying36 ti29 rfl rfl rfl b110) ?_
  refine WQ.yldW rfl (blt rfl) rfl rfl rfl (Y.loadS (cs := [_, _]) rfl Try.underlying29 rfl ti29 rfl (Ls.part_ext hl109 b110 rfl)) ?_
  refine WQ.yldW rfl (blt rfl) rfl rfl rfl (Y.build (cells := [_, _]) rfl pl29 rfl rfl) ?_
  refine WQ.yldW rfl (blt rfl) rfl rfl rfl (Yld.cast (Y.eqlS rfl eqg29 (eq29 _ _ _ _) rfl rfl) (vb (b := true) (by decide))) ?_
  refine WQ.yld rfl (blt rfl) rfl (Y.pickT rfl rfl rfl) ?_
  refine WQ.yld rfl (blt rfl) rfl (Y.move rfl rfl) ?_
  refine WQ.yldW rfl (blt rfl) rfl rfl rfl (Y.move rfl rfl) ?_
  have b111 : 1 < n107 := by omega
  refine WQ.yldW rfl (blt rfl) rfl rfl rfl (Y.indexLs 1 hl109 rfl Try.underlying36 ti29 rfl rfl rfl b111) ?_
  refine WQ.yldW rfl (blt rfl) rfl rfl rfl (Y.loadS (cs := [_, _]) rfl Try.underlying29 rfl ti29 rfl (Ls.part_ext hl109 b111 rfl)) ?_
  refine WQ.yldW rfl (blt rfl) rfl rfl rfl (Y.loadS rfl Try.underlying29 rfl ti29 rfl (Blk.row_ext m57)) ?_
  refine WQ.yldW rfl (blt rfl) rfl rfl rfl (Yld.cast (Y.eqlS rfl eqg29 (eq29 _ _ _ _) rfl rfl) (vb (b := true) (by decide))) ?_
  refine WQ.yld rfl (blt rfl) rfl (Y.pickT rfl rfl rfl) ?_
  refine WQ.yld rfl (blt rfl) rfl (Y.move rfl rfl) ?_
  refine WQ.yldW rfl (blt rfl) rfl rfl rfl (Y.move rfl rfl) ?_
  refine WQ.yldW rfl (blt rfl) rfl rfl rfl (Yld.cast (Y.eql rfl rfl rfl) (vb (b := true) (by decide))) ?_
  refine WQ.yld rfl (blt rfl) rfl (Y.pickT rfl rfl rfl) ?_
  refine WQ.yld rfl (blt rfl) rfl (Y.move rfl rfl) ?_
  refine WQ.yldW rfl (blt rfl) rfl rfl rfl (Y.move rfl rfl) ?_
  refine WQ.yldW rfl (blt rfl) rfl rfl rfl (Y.move rfl rfl) ?_
  refine WQ.callW rfl (blt rfl) rfl rfl rfl rfl rfl has13 rfl (fun w hw => calls_ext hw (consistentP_any _ _ _ _ _ _ _ _ _ (Ls.ext (Ls.lit (f := Ck.Dom.c) (sz := 2) (l := Bd.D2) m7 (fun _ => rfl) rfl (by first | decide | exact (show 2 ≤ maxLen by decide)) rfl) hw) (Ls.ext (Ls.lit (f := Ck.Snap.c) (sz := 5) (l := Bd.S1) m13 (fun _ => rfl) rfl (by first | decide | exact (show 1 ≤ maxLen by decide)) rfl) hw) (by omega))) ?_
  refine WQ.yld rfl (blt rfl) rfl (Yld.cast (Y.pickT rfl rfl rfl) (vb (b := true) Bd.aw8)) ?_
  refine WQ.yld rfl (blt rfl) rfl (Y.move rfl rfl) ?_
  refine WQ.yldW rfl (blt rfl) rfl rfl rfl (Y.move rfl rfl) ?_
  refine WQ.yldW rfl (blt rfl) rfl rfl rfl (Y.move rfl rfl) ?_
  refine WQ.callW rfl (blt rfl) rfl rfl rfl rfl rfl has13 rfl (fun w hw => calls_ext hw (consistentP_any _ _ _ _ _ _ _ _ _ (Ls.ext (Ls.lit (f := Ck.Dom.c) (sz := 2) (l := Bd.D2) m7 (fun _ => rfl) rfl (by first | decide | exact (show 2 ≤ maxLen by decide)) rfl) hw) (Ls.ext hl84 hw) (by omega))) ?_
  refine WQ.yldW rfl (blt rfl) rfl rfl rfl (Yld.cast (Y.not rfl rfl) (vb (b := true) (by show (!Bd.consF Bd.D2 Bd.S2) = true; rw [Bd.aw9]; rfl))) ?_
  refine WQ.yld rfl (blt rfl) rfl (Y.pickT rfl rfl rfl) ?_
  refine WQ.yld rfl (blt rfl) rfl (Y.assign rfl rfl) ?_
  refine WQ.done (fun w112 x113 => ?_)
  have m7 := m7.ext x113
  have m13 := m13.ext x113
  have ow33 := ow33.ext x113
  have hl84 := hl84.ext x113
  have m46 := m46.ext x113
  have m57 := m57.ext x113
  have m68 := m68.ext x113
  have ow104 := ow104.ext x113
  have hl109 := hl109.ext x113
  have xW := Ext.trans xW x113
  refine WK.then_normal (k105 _ _ ?_)
  refine WC.sub [(0, _)] ⟨rfl, trivial⟩ ?_
  refine WC.ret ?_
  clear k1 k2 k8 k14 k36 k47 k58 k69 k80 k95 k105
  refine WK.ret [_] rfl ⟨rfl, trivial⟩ ?_
  exact ⟨rfl, xW⟩
end AW_
end BdW

end Go.Proofs.Ytaglpampidlbmaa
