/- The walk of the law. Conditions: what each theorem states. -/
import Derived.Test.YtaglpampidlbmaaBdAw
import Derived.Test.YtaglpampidlbmaaBdM2
namespace Go.Proofs.Ytaglpampidlbmaa
open Go Go.Eng Go.RowKit
set_option linter.unusedVariables false
set_option linter.unusedSimpArgs false
namespace BdW
open N RL NumF LB GR CkW CkW.P CkW.K CkW.R CkW.RP B OF MY RP_ RE RI RL_ RO RS_ AW_
namespace LBoundNarrows
theorem ti3 : TI Try.prog 3 (.int .i64 0) 1 8 := TI.mk (by kernel_rfl)
theorem ti22 : TI Try.prog 22 (.slice none 0 0) 1 24 := TI.mk (by kernel_rfl)
theorem ti23 : TI Try.prog 23 (.slice none 0 0) 1 24 := TI.mk (by kernel_rfl)
theorem ti25 : TI Try.prog 25 (.agg #[.slice none 0 0, .slice none 0 0]) 2 48 := TI.mk (by kernel_rfl)
theorem ti29 : TI Try.prog 29 (.agg #[.int .i64 0, .int .i64 0]) 2 16 := TI.mk (by kernel_rfl)
theorem ti42 : TI Try.prog 42 (.agg #[.int .i64 0, .int .i64 0, .int .i64 0, .int .i64 0, .int .i64 0]) 5 40 := TI.mk (by kernel_rfl)
theorem has9 : Has Try.prog 9 := ⟨_, Try.func9, rfl, by kernel_rfl⟩
theorem has10 : Has Try.prog 10 := ⟨_, Try.func10, rfl, by kernel_rfl⟩
theorem has11 : Has Try.prog 11 := ⟨_, Try.func11, rfl, by kernel_rfl⟩
theorem BoundNarrows_any (A_d : Option Addr) (n_d c_d : Nat) (d : List Ck.Dom) (A_l : Option Addr) (n_l c_l : Nat) (l : List Ck.Snap) (x : Ck.Snap) (id at_ : Int) (w : World) (h_d : Ls w A_d n_d c_d Ck.Dom.c 2 d) (h_l : Ls w A_l n_l c_l Ck.Snap.c 5 l) :
    Calls Try.prog 6 #[.agg #[.slice A_d n_d c_d, .slice A_l n_l c_l], .agg #[.int .i64 x.a, .int .i64 x.ata, .int .i64 x.b, .int .i64 x.lo, .int .i64 x.hi], .agg #[.int .i64 id, .int .i64 at_]] w fun e w' => e = .returned (.bool true) ∧ Ext w w' := by
  have xW := Ext.refl w
  have e_d := h_d.len
  have z_d := h_d.nle
  have e_l := h_l.len
  have z_l := h_l.nle
  refine calls_of_WC (args := [.agg #[.slice A_d n_d c_d, .slice A_l n_l c_l], .agg #[.int .i64 x.a, .int .i64 x.ata, .int .i64 x.b, .int .i64 x.lo, .int .i64 x.hi], .agg #[.int .i64 id, .int .i64 at_]]) Try.func6 rfl rfl (ble rfl) ?_
  refine WC.seq (fun K1 k1 => ?_)
  refine WC.region rfl ?_
  refine WL.box rfl (blt rfl) rfl rfl rfl rfl ?_
  intro g2 w3 e4 x5 m6
  have o_g2 := own_new xW e4
  have xW := Ext.trans xW x5
  refine WL.box rfl (blt rfl) rfl rfl rfl rfl ?_
  intro g7 w8 e9 x10 m11
  have n_g2_g7 := ne_new m6 e9
  have o_g7 := own_new xW e9
  have m6 := m6.ext x10
  have xW := Ext.trans xW x10
  refine WL.box rfl (blt rfl) rfl rfl rfl rfl ?_
  intro g12 w13 e14 x15 m16
  have n_g2_g12 := ne_new m6 e14
  have n_g7_g12 := ne_new m11 e14
  have o_g12 := own_new xW e14
  have m6 := m6.ext x15
  have m11 := m11.ext x15
  have xW := Ext.trans xW x15
  refine WL.yld rfl (blt rfl) rfl (Y.assign rfl rfl) ?_
  refine WL.nil ?_
  refine WK.then_normal (k1 _ _ ?_)
  refine WC.sub [(3, _), (4, _), (5, _)] ⟨rfl, rfl, rfl, trivial⟩ ?_
  refine WC.seq (fun K17 k17 => ?_)
  refine WC.seq (fun K18 k18 => ?_)
  refine WC.region rfl ?_
  refine WL.yld rfl (blt rfl) rfl (Y.loadS rfl Try.underlying25 rfl ti25 rfl (Blk.row_eq m6)) ?_
  refine WL.call rfl (blt rfl) rfl rfl rfl has9 rfl (small_any _ _ _ d _ _ _ l _) ?_
  rintro _ w19 ⟨rfl, x20⟩
  refine ⟨_, rfl, ?_⟩
  have m6 := m6.ext x20
  have m11 := m11.ext x20
  have m16 := m16.ext x20
  have xW := Ext.trans xW x20
  refine WL.yld rfl (blt rfl) rfl (Y.not rfl rfl) ?_
  refine WL.nil ?_
  refine WK.then_normal (k18 _ _ ?_)
  refine WC.sub [(3, _), (4, _), (5, _), (13, _)] ⟨rfl, rfl, rfl, rfl, trivial⟩ ?_
  refine WC.cond rfl (fun h21 => ?_) (fun h21 => ?_)
  ·
    have p21 := ((and_f (not_t h21)).imp (fun h => (dec_f h)) (fun h => (dec_f h)))
    refine WC.seq (fun K22 k22 => ?_)
    refine WC.region rfl ?_
    refine WL.call rfl (blt rfl) rfl rfl rfl has10 rfl (awake_any _ ) ?_
    rintro _ w23 ⟨rfl, x24⟩
    refine ⟨_, rfl, ?_⟩
    have m6 := m6.ext x24
    have m11 := m11.ext x24
    have m16 := m16.ext x24
    have xW := Ext.trans xW x24
    refine WL.yld rfl (blt rfl) rfl (Y.assign rfl rfl) ?_
    refine WL.nil ?_
    refine WK.then_normal (k22 _ _ ?_)
    refine WC.sub [(6, _)] ⟨rfl, trivial⟩ ?_
    refine WC.ret ?_
    refine WK.then_ret ?_
    clear k1 k17 k18 k22
    refine WK.ret [_] rfl ⟨rfl, trivial⟩ ?_
    exact ⟨ret1 (vb rfl), xW⟩
  ·
    have p21 := (And.intro (dec_t (and_t (not_f h21)).1) (dec_t (and_t (not_f h21)).2))
    refine WC.skip ?_
    refine WK.then_normal (k17 _ _ ?_)
    refine WC.sub [(3, _), (4, _), (5, _)] ⟨rfl, rfl, rfl, trivial⟩ ?_
    refine WC.seq (fun K25 k25 => ?_)
    refine WC.region rfl ?_
    refine WL.yld rfl (blt rfl) rfl (Y.fieldAddr rfl Try.underlying25 rfl ti22 (by decide) rfl) ?_
    refine WL.yld rfl (blt rfl) rfl (Y.load1 rfl Try.underlying22 rfl rfl (Blk.at_eq m6 rfl)) ?_
    refine WL.yld rfl (blt rfl) rfl (Y.fieldAddr rfl Try.underlying25 rfl ti23 (by decide) rfl) ?_
    refine WL.yld rfl (blt rfl) rfl (Y.load1 rfl Try.underlying23 rfl rfl (Blk.at_eq m6 rfl)) ?_
    refine WL.yld rfl (blt rfl) rfl (Y.indexArr rfl Try.underlying43 ti3 rfl rfl (by decide)) ?_
    refine WL.yld rfl (blt rfl) rfl (Y.load1 rfl Try.underlying3 rfl rfl (Blk.at_eq m16 rfl)) ?_
    refine WL.yld rfl (blt rfl) rfl (Y.indexArr rfl Try.underlying43 ti3 rfl rfl (by decide)) ?_
    refine WL.yld rfl (blt rfl) rfl (Y.load1 rfl Try.underlying3 rfl rfl (Blk.at_eq m16 rfl)) ?_
    refine WL.call rfl (blt rfl) rfl rfl rfl has11 rfl (of_any _ _ _ _ _ _ _ _ _ _ _ (h_d.ext xW) (h_l.ext xW) (by omega)) ?_
    rintro _ w26 ⟨rfl, x27⟩
    refine ⟨_, rfl, ?_⟩
    have m6 := m6.ext x27
    have m11 := m11.ext x27
    have m16 := m16.ext x27
    have xW := Ext.trans xW x27
    refine WL.yld rfl (blt rfl) rfl (Y.move rfl rfl) ?_
    refine WL.yld rfl (blt rfl) rfl (Y.extract rfl rfl rfl) ?_
    refine WL.yld rfl (blt rfl) rfl (Y.extract rfl rfl rfl) ?_
    refine WL.alloc rfl (blt rfl) rfl rfl ti29 rfl ?_
    intro g28 w29 e30 x31 m32
    have n_g2_g28 := ne_new m6 e30
    have n_g7_g28 := ne_new m11 e30
    have n_g12_g28 := ne_new m16 e30
    have o_g28 := own_new xW e30
    have m6 := m6.ext x31
    have m11 := m11.ext x31
    have m16 := m16.ext x31
    have xW := Ext.trans xW x31
    refine WL.store (cs' := [_, _]) rfl rfl rfl rfl rfl rfl ti29 m32 (ble rfl) rfl rfl (fun w33 on34 m35 => ?_)
    have m6 := m6.only n_g2_g28 on34
    have m11 := m11.only n_g7_g28 on34
    have m16 := m16.only n_g12_g28 on34
    have xW := Ext.only xW on34 o_g28
    refine WL.yld rfl (blt rfl) rfl (Y.assign rfl rfl) ?_
    refine WL.nil ?_
    refine WK.then_normal (k25 _ _ ?_)
    refine WC.sub [(3, _), (4, _), (5, _), (7, _), (8, _)] ⟨rfl, rfl, rfl, rfl, rfl, trivial⟩ ?_
    refine WC.seq (fun K36 k36 => ?_)
    refine WC.regionX (fun W' => Ext w W' ∧ Blk W' g2 25 _ ∧ Blk W' g7 42 _ ∧ Blk W' g12 43 _ ∧ Blk W' g28 29 _) (.load 0 (.load 1 (.load 3 (.load 4 (.load 6 (.load 9 (.load 10 (.load 11 (.load 12 (.alt 2 (.alt 5 (.alt 7 (.alt 8 (.alt 13 (.load 14 (.load 15 (.load 16 (.alt 17 (.alt 18 (.load 19 (.fin)) (.none)) (.none))))) (.alt 17 (.alt 13 (.load 14 (.load 15 (.load 16 (.alt 18 (.load 19 (.fin)) (.none))))) (.none)) (.none))) (.alt 17 (.alt 8 (.alt 13 (.load 14 (.load 15 (.load 16 (.alt 18 (.load 19 (.fin)) (.none))))) (.none)) (.none)) (.none))) (.alt 17 (.alt 7 (.alt 8 (.alt 13 (.load 14 (.load 15 (.load 16 (.alt 18 (.load 19 (.fin)) (.none))))) (.none)) (.none)) (.none)) (.none))) (.alt 7 (.alt 5 (.alt 8 (.alt 13 (.load 14 (.load 15 (.load 16 (.alt 17 (.alt 18 (.load 19 (.fin)) (.none)) (.none))))) (.alt 17 (.alt 13 (.load 14 (.load 15 (.load 16 (.alt 18 (.load 19 (.fin)) (.none))))) (.none)) (.none))) (.alt 17 (.alt 8 (.alt 13 (.load 14 (.load 15 (.load 16 (.alt 18 (.load 19 (.fin)) (.none))))) (.none)) (.none)) (.none))) (.alt 17 (.alt 5 (.alt 8 (.alt 13 (.load 14 (.load 15 (.load 16 (.alt 18 (.load 19 (.fin)) (.none))))) (.none)) (.none)) (.none)) (.none))) (.alt 17 (.alt 5 (.alt 7 (.alt 8 (.alt 13 (.load 14 (.load 15 (.load 16 (.alt 18 (.load 19 (.fin)) (.none))))) (.none)) (.none)) (.none)) (.alt 7 (.alt 5 (.alt 8 (.alt 13 (.load 14 (.load 15 (.load 16 (.alt 18 (.load 19 (.fin)) (.none))))) (.none)) (.none)) (.none)) (.none))) (.none)))) (.alt 7 (.alt 2 (.alt 5 (.alt 8 (.alt 13 (.load 14 (.load 15 (.load 16 (.alt 17 (.alt 18 (.load 19 (.fin)) (.none)) (.none))))) (.alt 17 (.alt 13 (.load 14 (.load 15 (.load 16 (.alt 18 (.load 19 (.fin)) (.none))))) (.none)) (.none))) (.alt 17 (.alt 8 (.alt 13 (.load 14 (.load 15 (.load 16 (.alt 18 (.load 19 (.fin)) (.none))))) (.none)) (.none)) (.none))) (.alt 17 (.alt 5 (.alt 8 (.alt 13 (.load 14 (.load 15 (.load 16 (.alt 18 (.load 19 (.fin)) (.none))))) (.none)) (.none)) (.none)) (.none))) (.alt 17 (.alt 2 (.alt 5 (.alt 8 (.alt 13 (.load 14 (.load 15 (.load 16 (.alt 18 (.load 19 (.fin)) (.none))))) (.none)) (.none)) (.none)) (.none)) (.none))) (.alt 17 (.alt 2 (.alt 5 (.alt 7 (.alt 8 (.alt 13 (.load 14 (.load 15 (.load 16 (.alt 18 (.load 19 (.fin)) (.none))))) (.none)) (.none)) (.none)) (.alt 7 (.alt 5 (.alt 8 (.alt 13 (.load 14 (.load 15 (.load 16 (.alt 18 (.load 19 (.fin)) (.none))))) (.none)) (.none)) (.none)) (.none))) (.alt 7 (.alt 2 (.alt 5 (.alt 8 (.alt 13 (.load 14 (.load 15 (.load 16 (.alt 18 (.load 19 (.fin)) (.none))))) (.none)) (.none)) (.none)) (.none)) (.none))) (.none))))))))))))) ⟨xW, m6, m11, m16, m35⟩ (by kernel_rfl) (by kernel_rfl) (fun w37 x38 => ?_)
    have m6 := m6.ext x38
    have m11 := m11.ext x38
    have m16 := m16.ext x38
    have m35 := m35.ext x38
    have xW := Ext.trans xW x38
    refine WX.yld rfl rfl (blt rfl) rfl (Y.fieldAddr rfl Try.underlying25 rfl ti22 (by decide) rfl) ?_
    refine WX.yld rfl rfl (blt rfl) rfl (Y.load1 rfl Try.underlying22 rfl rfl (Blk.at_c (fun _ h => h.2.1) rfl)) ?_
    refine WX.yld rfl rfl (blt rfl) rfl (Y.fieldAddr rfl Try.underlying25 rfl ti23 (by decide) rfl) ?_
    refine WX.yld rfl rfl (blt rfl) rfl (Y.load1 rfl Try.underlying23 rfl rfl (Blk.at_c (fun _ h => h.2.1) rfl)) ?_
    refine WX.yld rfl rfl (blt rfl) rfl (Y.loadS rfl Try.underlying42 rfl ti42 rfl (Blk.row_c (fun _ h => h.2.2.1))) ?_
    refine WX.yld rfl rfl (blt rfl) rfl (Y.indexArr rfl Try.underlying43 ti3 rfl rfl (by decide)) ?_
    refine WX.yld rfl rfl (blt rfl) rfl (Y.load1 rfl Try.underlying3 rfl rfl (Blk.at_c (fun _ h => h.2.2.2.1) rfl)) ?_
    refine WX.yld rfl rfl (blt rfl) rfl (Y.indexArr rfl Try.underlying43 ti3 rfl rfl (by decide)) ?_
    refine WX.yld rfl rfl (blt rfl) rfl (Y.load1 rfl Try.underlying3 rfl rfl (Blk.at_c (fun _ h => h.2.2.2.1) rfl)) ?_
    refine WX.alt ?_ ?_
    ·
      refine WX.run rfl rfl (blt rfl) rfl ⟨xW, m6, m11, m16, m35⟩ (Run.bslice0 rfl Try.underlying23 ti42) ?_
      rintro _ w40 ⟨g39, rfl, e41, x42, m43⟩
      have n_g2_g39 := ne_new m6 e41
      have n_g7_g39 := ne_new m11 e41
      have n_g12_g39 := ne_new m16 e41
      have n_g28_g39 := ne_new m35 e41
      have o_g39 := own_new xW e41
      have m6 := m6.ext x42
      have m11 := m11.ext x42
      have m16 := m16.ext x42
      have m35 := m35.ext x42
      have xW := Ext.trans xW x42
      refine WX.alt ?_ ?_
      ·
        have ob44 := Blk.own (sz := 5) (f := Ck.Snap.c) (l := ([] : List Ck.Snap)) (base := w.heap.size) m43 o_g39 (fun _ => rfl) rfl (by decide) rfl
        refine WX.run rfl rfl (blt rfl) rfl ⟨xW, m6, m11, m16, m35⟩ (Run.appendL (f := Ck.Snap.c) rfl rfl rfl Try.underlying23 ti42 rfl (by decide) rfl ob44 (fun _ => rfl) Ck.Snap.one (h_l.ext xW) xW.size (by have q0 := h_l.len; first | omega | (simp only [List.length_append, List.length_cons, List.length_nil, List.length_take, List.length_drop, List.length_reverse]; omega)) (Nat.le_trans (show _ ≤ 140737488355328 from by have q0 := h_l.len; first | omega | (simp only [List.length_append, List.length_cons, List.length_nil, List.length_take, List.length_drop, List.length_reverse]; omega)) (by decide)) ) ?_
        rintro v45 w46 ⟨ow47, gr48, nb49⟩
        have r_v45_g2 := ne_app nb49 (ne_blk n_g2_g39) m6
        have m6 := m6.grown gr48 (ne_blk n_g2_g39)
        have r_v45_g7 := ne_app nb49 (ne_blk n_g7_g39) m11
        have m11 := m11.grown gr48 (ne_blk n_g7_g39)
        have r_v45_g12 := ne_app nb49 (ne_blk n_g12_g39) m16
        have m16 := m16.grown gr48 (ne_blk n_g12_g39)
        have r_v45_g28 := ne_app nb49 (ne_blk n_g28_g39) m35
        have m35 := m35.grown gr48 (ne_blk n_g28_g39)
        have xW := Ext.grown xW gr48 (fun b hb => (OwnL.lt ob44 hb).1)
        refine WX.alt ?_ ?_
        ·
          refine WX.run rfl rfl (blt rfl) rfl ⟨xW, m6, m11, m16, m35⟩ (Run.bslice (zs := [.int .i64 0, .int .i64 0, .int .i64 0, .int .i64 0, .int .i64 0]) (cs := [_, _, _, _, _]) rfl Try.underlying23 ti42 rfl (ble rfl) (by kernel_rfl) rfl rfl) ?_
          rintro _ w51 ⟨g50, rfl, e52, x53, m54⟩
          have n_g2_g50 := ne_new m6 e52
          have n_g7_g50 := ne_new m11 e52
          have n_g12_g50 := ne_new m16 e52
          have n_g28_g50 := ne_new m35 e52
          have r_v45_g50 := ne_newO ow47 e52
          have o_g50 := own_new xW e52
          have m6 := m6.ext x53
          have m11 := m11.ext x53
          have m16 := m16.ext x53
          have m35 := m35.ext x53
          have ow47 := ow47.ext x53
          have xW := Ext.trans xW x53
          refine WX.alt ?_ ?_
          ·
            refine WX.run rfl rfl (blt rfl) rfl ⟨xW, m6, m11, m16, m35⟩ (Run.appendB (f := Ck.Snap.c) (news := [x]) rfl rfl rfl Try.underlying23 ti42 rfl (by decide) rfl ow47 (fun _ => rfl) Ck.Snap.one m54 rfl xW.size (by have q0 := h_l.len; first | omega | (simp only [List.length_append, List.length_cons, List.length_nil, List.length_take, List.length_drop, List.length_reverse]; omega)) (Nat.le_trans (show _ ≤ 140737488355328 from by have q0 := h_l.len; first | omega | (simp only [List.length_append, List.length_cons, List.length_nil, List.length_take, List.length_drop, List.length_reverse]; omega)) (by decide)) ) ?_
            rintro v55 w56 ⟨ow57, gr58, nb59⟩
            have r_v55_g2 := ne_app nb59 r_v45_g2 m6
            have m6 := m6.grown gr58 r_v45_g2
            have r_v55_g7 := ne_app nb59 r_v45_g7 m11
            have m11 := m11.grown gr58 r_v45_g7
            have r_v55_g12 := ne_app nb59 r_v45_g12 m16
            have m16 := m16.grown gr58 r_v45_g12
            have r_v55_g28 := ne_app nb59 r_v45_g28 m35
            have m35 := m35.grown gr58 r_v45_g28
            have r_v55_g50 := ne_app nb59 r_v45_g50 m54
            have m54 := m54.grown gr58 r_v45_g50
            have xW := Ext.grown xW gr58 (fun b hb => (OwnL.lt ow47 hb).1)
            refine WX.alt ?_ ?_
            ·
              obtain ⟨A60, n61, c62, rfl, hl63⟩ := OwnL.opened ow57 (fun _ => rfl) (by decide)
              have e_n61 := hl63.len
              try simp only [List.length_append, List.length_cons, List.length_nil, List.length_reverse, List.length_drop, List.length_take, List.length_map, List.length_replicate, List.length_set] at e_n61
              have z_n61 := hl63.nle
              refine WX.call rfl rfl (blt rfl) rfl rfl rfl has11 rfl ⟨xW, m6, m11, m16, m35⟩ (of_any _ _ _ _ _ _ _ _ _ _ _ (h_d.ext xW) hl63 (by omega)) ?_
              rintro _ w64 ⟨rfl, x65⟩
              refine ⟨_, rfl, ?_⟩
              have m6 := m6.ext x65
              have m11 := m11.ext x65
              have m16 := m16.ext x65
              have m35 := m35.ext x65
              have m54 := m54.ext x65
              have ow57 := ow57.ext x65
              have hl63 := hl63.ext x65
              have xW := Ext.trans xW x65
              refine WX.yld rfl rfl (blt rfl) rfl (Y.move rfl rfl) ?_
              refine WX.yld rfl rfl (blt rfl) rfl (Y.extract rfl rfl rfl) ?_
              refine WX.yld rfl rfl (blt rfl) rfl (Y.extract rfl rfl rfl) ?_
              refine WX.run rfl rfl (blt rfl) rfl ⟨xW, m6, m11, m16, m35⟩ (Run.alloc rfl ti29 rfl) ?_
              rintro _ w67 ⟨g66, rfl, e68, x69, m70⟩
              have n_g2_g66 := ne_new m6 e68
              have n_g7_g66 := ne_new m11 e68
              have n_g12_g66 := ne_new m16 e68
              have n_g28_g66 := ne_new m35 e68
              have n_g50_g66 := ne_new m54 e68
              have r_v55_g66 := ne_newO ow57 e68
              have o_g66 := own_new xW e68
              have m6 := m6.ext x69
              have m11 := m11.ext x69
              have m16 := m16.ext x69
              have m35 := m35.ext x69
              have m54 := m54.ext x69
              have ow57 := ow57.ext x69
              have hl63 := hl63.ext x69
              have xW := Ext.trans xW x69
              refine WX.storeB (cs' := [_, _]) rfl ⟨xW, m6, m11, m16, m35⟩ rfl rfl rfl rfl rfl rfl ti29 m70 (ble rfl) rfl rfl (fun w71 on72 m73 => ?_)
              have m6 := m6.only n_g2_g66 on72
              have m11 := m11.only n_g7_g66 on72
              have m16 := m16.only n_g12_g66 on72
              have m35 := m35.only n_g28_g66 on72
              have m54 := m54.only n_g50_g66 on72
              have ow57 := ow57.only r_v55_g66 on72
              have hl63 := OwnL.ls ow57 (fun _ => rfl) (by decide)
              have xW := Ext.only xW on72 o_g66
              refine WX.yld rfl rfl (blt rfl) rfl (Y.assign rfl rfl) ?_
              refine WX.nil ⟨xW, m6, m11, m16, m35⟩ ?_
              refine WK.then_normal (k36 _ _ ?_)
              refine WC.sub [(7, _), (8, _), (9, _), (10, _)] ⟨rfl, rfl, rfl, rfl, trivial⟩ ?_
              refine WC.seq (fun K74 k74 => ?_)
              refine WC.seq (fun K75 k75 => ?_)
              refine WC.region rfl ?_
              refine WL.yld rfl (blt rfl) rfl (Y.move rfl rfl) ?_
              refine WL.yld rfl (blt rfl) rfl (Y.neq rfl rfl rfl) ?_
              refine WL.yld rfl (blt rfl) rfl (Y.move rfl rfl) ?_
              refine WL.yldG rfl (blt rfl) rfl rfl rfl (fun hb => Y.move rfl rfl) ?_
              refine WL.yldG rfl (blt rfl) rfl rfl rfl (fun hb => Y.neq rfl (evg rfl hb) rfl) ?_
              refine WL.yld rfl (blt rfl) rfl (Y.or rfl rfl rfl rfl) ?_
              refine WL.nil ?_
              refine WK.then_normal (k75 _ _ ?_)
              refine WC.sub [(7, _), (9, _), (49, _)] ⟨rfl, rfl, rfl, trivial⟩ ?_
              refine WC.cond rfl (fun h76 => ?_) (fun h76 => ?_)
              ·
                have p76 := ((or_t h76).imp (fun h => (eq_f (not_t h))) (fun h => (eq_f (not_t h))))
                refine WC.seq (fun K77 k77 => ?_)
                refine WC.region rfl ?_
                refine WL.call rfl (blt rfl) rfl rfl rfl has10 rfl (awake_any _ ) ?_
                rintro _ w78 ⟨rfl, x79⟩
                refine ⟨_, rfl, ?_⟩
                have m35 := m35.ext x79
                have m73 := m73.ext x79
                have xW := Ext.trans xW x79
                refine WL.yld rfl (blt rfl) rfl (Y.assign rfl rfl) ?_
                refine WL.nil ?_
                refine WK.then_normal (k77 _ _ ?_)
                refine WC.sub [(6, _)] ⟨rfl, trivial⟩ ?_
                refine WC.ret ?_
                refine WK.then_ret ?_
                clear k1 k17 k18 k25 k36 k74 k75 k77
                refine WK.ret [_] rfl ⟨rfl, trivial⟩ ?_
                exact ⟨ret1 (vb rfl), xW⟩
              ·
                have p76 := (And.intro (eq_t (not_f (or_f h76).1)) (eq_t (not_f (or_f h76).2)))
                have hx0 : (Bd.ofF d l id at_).2 = 0 := by simpa using (Bool.or_eq_false_iff.1 h76).1
                have hx1 : (Bd.ofF d (([] ++ l) ++ [x]) id at_).2 = 0 := by simpa using (Bool.or_eq_false_iff.1 h76).2
                have nw := Bd.narrows (by omega) (by simp; omega) (fun s hs => by simp [hs]) hx0 hx1
                refine WC.skip ?_
                refine WK.then_normal (k74 _ _ ?_)
                refine WC.sub [(7, _), (9, _)] ⟨rfl, rfl, trivial⟩ ?_
                refine WC.seq (fun K80 k80 => ?_)
                refine WC.region rfl ?_
                refine WL.yld rfl (blt rfl) rfl (Y.fieldAddr rfl Try.underlying29 rfl ti3 (by decide) rfl) ?_
                refine WL.yld rfl (blt rfl) rfl (Y.load1 rfl Try.underlying3 rfl rfl (Blk.at_eq m73 rfl)) ?_
                refine WL.yld rfl (blt rfl) rfl (Y.fieldAddr rfl Try.underlying29 rfl ti3 (by decide) rfl) ?_
                refine WL.yld rfl (blt rfl) rfl (Y.load1 rfl Try.underlying3 rfl rfl (Blk.at_eq m35 rfl)) ?_
                refine WL.yld rfl (blt rfl) rfl (Yld.cast (Y.geq rfl rfl rfl) (bt nw.1)) ?_
                refine WL.yld rfl (blt rfl) rfl (Y.move rfl rfl) ?_
                refine WL.yldW rfl (blt rfl) rfl rfl rfl (Y.fieldAddr rfl Try.underlying29 rfl ti3 (by decide) rfl) ?_
                refine WL.yldW rfl (blt rfl) rfl rfl rfl (Y.load1 rfl Try.underlying3 rfl rfl (Blk.at_eq m73 rfl)) ?_
                refine WL.yldW rfl (blt rfl) rfl rfl rfl (Y.fieldAddr rfl Try.underlying29 rfl ti3 (by decide) rfl) ?_
                refine WL.yldW rfl (blt rfl) rfl rfl rfl (Y.load1 rfl Try.underlying3 rfl rfl (Blk.at_eq m35 rfl)) ?_
                refine WL.yldW rfl (blt rfl) rfl rfl rfl (Yld.cast (Y.leq rfl rfl rfl) (bt nw.2)) ?_
                refine WL.yld rfl (blt rfl) rfl (Y.pickT rfl rfl rfl) ?_
                refine WL.yld rfl (blt rfl) rfl (Y.move rfl rfl) ?_
                refine WL.callW rfl (blt rfl) rfl rfl rfl rfl rfl has10 rfl (awake_any _ ) ?_
                rintro _ w81 ⟨rfl, x82⟩
                refine ⟨_, rfl, ?_⟩
                have m35 := m35.ext x82
                have m73 := m73.ext x82
                have xW := Ext.trans xW x82
                refine WL.yld rfl (blt rfl) rfl (Y.pickT rfl rfl rfl) ?_
                refine WL.yld rfl (blt rfl) rfl (Y.assign rfl rfl) ?_
                refine WL.nil ?_
                refine WK.then_normal (k80 _ _ ?_)
                refine WC.sub [(6, _)] ⟨rfl, trivial⟩ ?_
                refine WC.ret ?_
                clear k1 k17 k18 k25 k36 k74 k75 k80
                refine WK.ret [_] rfl ⟨rfl, trivial⟩ ?_
                exact ⟨ret1 (vb rfl), xW⟩
            refine WX.run rfl rfl (blt rfl) rfl ⟨xW, m6, m11, m16, m35⟩ (Run.alloc rfl ti29 rfl) ?_
            rintro _ w84 ⟨g83, rfl, e85, x86, m87⟩
            have n_g2_g83 := ne_new m6 e85
            have n_g7_g83 := ne_new m11 e85
            have n_g12_g83 := ne_new m16 e85
            have n_g28_g83 := ne_new m35 e85
            have n_g50_g83 := ne_new m54 e85
            have r_v55_g83 := ne_newO ow57 e85
            have o_g83 := own_new xW e85
            have m6 := m6.ext x86
            have m11 := m11.ext x86
            have m16 := m16.ext x86
            have m35 := m35.ext x86
            have m54 := m54.ext x86
            have ow57 := ow57.ext x86
            have xW := Ext.trans xW x86
            obtain ⟨A88, n89, c90, rfl, hl91⟩ := OwnL.opened ow57 (fun _ => rfl) (by decide)
            have e_n89 := hl91.len
            try simp only [List.length_append, List.length_cons, List.length_nil, List.length_reverse, List.length_drop, List.length_take, List.length_map, List.length_replicate, List.length_set] at e_n89
            have z_n89 := hl91.nle
            refine WX.call rfl rfl (blt rfl) rfl rfl rfl has11 rfl ⟨xW, m6, m11, m16, m35⟩ (of_any _ _ _ _ _ _ _ _ _ _ _ (h_d.ext xW) hl91 (by omega)) ?_
            rintro _ w92 ⟨rfl, x93⟩
            refine ⟨_, rfl, ?_⟩
            have m6 := m6.ext x93
            have m11 := m11.ext x93
            have m16 := m16.ext x93
            have m35 := m35.ext x93
            have m54 := m54.ext x93
            have ow57 := ow57.ext x93
            have hl91 := hl91.ext x93
            have m87 := m87.ext x93
            have xW := Ext.trans xW x93
            refine WX.yld rfl rfl (blt rfl) rfl (Y.move rfl rfl) ?_
            refine WX.yld rfl rfl (blt rfl) rfl (Y.extract rfl rfl rfl) ?_
            refine WX.yld rfl rfl (blt rfl) rfl (Y.extract rfl rfl rfl) ?_
            refine WX.storeB (cs' := [_, _]) rfl ⟨xW, m6, m11, m16, m35⟩ rfl rfl rfl rfl rfl rfl ti29 m87 (ble rfl) rfl rfl (fun w94 on95 m96 => ?_)
            have m6 := m6.only n_g2_g83 on95
            have m11 := m11.only n_g7_g83 on95
            have m16 := m16.only n_g12_g83 on95
            have m35 := m35.only n_g28_g83 on95
            have m54 := m54.only n_g50_g83 on95
            have ow57 := ow57.only r_v55_g83 on95
            have hl91 := OwnL.ls ow57 (fun _ => rfl) (by decide)
            have xW := Ext.only xW on95 o_g83
            refine WX.yld rfl rfl (blt rfl) rfl (Y.assign rfl rfl) ?_
            refine WX.nil ⟨xW, m6, m11, m16, m35⟩ ?_
            refine WK.then_normal (k36 _ _ ?_)
            refine WC.sub [(7, _), (8, _), (9, _), (10, _)] ⟨rfl, rfl, rfl, rfl, trivial⟩ ?_
            refine WC.seq (fun K97 k97 => ?_)
            refine WC.seq (fun K98 k98 => ?_)
            refine WC.region rfl ?_
            refine WL.yld rfl (blt rfl) rfl (Y.move rfl rfl) ?_
            refine WL.yld rfl (blt rfl) rfl (Y.neq rfl rfl rfl) ?_
            refine WL.yld rfl (blt rfl) rfl (Y.move rfl rfl) ?_
            refine WL.yldG rfl (blt rfl) rfl rfl rfl (fun hb => Y.move rfl rfl) ?_
            refine WL.yldG rfl (blt rfl) rfl rfl rfl (fun hb => Y.neq rfl (evg rfl hb) rfl) ?_
            refine WL.yld rfl (blt rfl) rfl (Y.or rfl rfl rfl rfl) ?_
            refine WL.nil ?_
            refine WK.then_normal (k98 _ _ ?_)
            refine WC.sub [(7, _), (9, _), (49, _)] ⟨rfl, rfl, rfl, trivial⟩ ?_
            refine WC.cond rfl (fun h99 => ?_) (fun h99 => ?_)
            ·
              have p99 := ((or_t h99).imp (fun h => (eq_f (not_t h))) (fun h => (eq_f (not_t h))))
              refine WC.seq (fun K100 k100 => ?_)
              refine WC.region rfl ?_
              refine WL.call rfl (blt rfl) rfl rfl rfl has10 rfl (awake_any _ ) ?_
              rintro _ w101 ⟨rfl, x102⟩
              refine ⟨_, rfl, ?_⟩
              have m35 := m35.ext x102
              have m96 := m96.ext x102
              have xW := Ext.trans xW x102
              refine WL.yld rfl (blt rfl) rfl (Y.assign rfl rfl) ?_
              refine WL.nil ?_
              refine WK.then_normal (k100 _ _ ?_)
              refine WC.sub [(6, _)] ⟨rfl, trivial⟩ ?_
              refine WC.ret ?_
              refine WK.then_ret ?_
              clear k1 k17 k18 k25 k36 k97 k98 k100
              refine WK.ret [_] rfl ⟨rfl, trivial⟩ ?_
              exact ⟨ret1 (vb rfl), xW⟩
            ·
              have p99 := (And.intro (eq_t (not_f (or_f h99).1)) (eq_t (not_f (or_f h99).2)))
              have hx0 : (Bd.ofF d l id at_).2 = 0 := by simpa using (Bool.or_eq_false_iff.1 h99).1
              have hx1 : (Bd.ofF d (([] ++ l) ++ [x]) id at_).2 = 0 := by simpa using (Bool.or_eq_false_iff.1 h99).2
              have nw := Bd.narrows (by omega) (by simp; omega) (fun s hs => by simp [hs]) hx0 hx1
              refine WC.skip ?_
              refine WK.then_normal (k97 _ _ ?_)
              refine WC.sub [(7, _), (9, _)] ⟨rfl, rfl, trivial⟩ ?_
              refine WC.seq (fun K103 k103 => ?_)
              refine WC.region rfl ?_
              refine WL.yld rfl (blt rfl) rfl (Y.fieldAddr rfl Try.underlying29 rfl ti3 (by decide) rfl) ?_
              refine WL.yld rfl (blt rfl) rfl (Y.load1 rfl Try.underlying3 rfl rfl (Blk.at_eq m96 rfl)) ?_
              refine WL.yld rfl (blt rfl) rfl (Y.fieldAddr rfl Try.underlying29 rfl ti3 (by decide) rfl) ?_
              refine WL.yld rfl (blt rfl) rfl (Y.load1 rfl Try.underlying3 rfl rfl (Blk.at_eq m35 rfl)) ?_
              refine WL.yld rfl (blt rfl) rfl (Yld.cast (Y.geq rfl rfl rfl) (bt nw.1)) ?_
              refine WL.yld rfl (blt rfl) rfl (Y.move rfl rfl) ?_
              refine WL.yldW rfl (blt rfl) rfl rfl rfl (Y.fieldAddr rfl Try.underlying29 rfl ti3 (by decide) rfl) ?_
              refine WL.yldW rfl (blt rfl) rfl rfl rfl (Y.load1 rfl Try.underlying3 rfl rfl (Blk.at_eq m96 rfl)) ?_
              refine WL.yldW rfl (blt rfl) rfl rfl rfl (Y.fieldAddr rfl Try.underlying29 rfl ti3 (by decide) rfl) ?_
              refine WL.yldW rfl (blt rfl) rfl rfl rfl (Y.load1 rfl Try.underlying3 rfl rfl (Blk.at_eq m35 rfl)) ?_
              refine WL.yldW rfl (blt rfl) rfl rfl rfl (Yld.cast (Y.leq rfl rfl rfl) (bt nw.2)) ?_
              refine WL.yld rfl (blt rfl) rfl (Y.pickT rfl rfl rfl) ?_
              refine WL.yld rfl (blt rfl) rfl (Y.move rfl rfl) ?_
              refine WL.callW rfl (blt rfl) rfl rfl rfl rfl rfl has10 rfl (awake_any _ ) ?_
              rintro _ w104 ⟨rfl, x105⟩
              refine ⟨_, rfl, ?_⟩
              have m35 := m35.ext x105
              have m96 := m96.ext x105
              have xW := Ext.trans xW x105
              refine WL.yld rfl (blt rfl) rfl (Y.pickT rfl rfl rfl) ?_
              refine WL.yld rfl (blt rfl) rfl (Y.assign rfl rfl) ?_
              refine WL.nil ?_
              refine WK.then_normal (k103 _ _ ?_)
              refine WC.sub [(6, _)] ⟨rfl, trivial⟩ ?_
              refine WC.ret ?_
              clear k1 k17 k18 k25 k36 k97 k98 k103
              refine WK.ret [_] rfl ⟨rfl, trivial⟩ ?_
              exact ⟨ret1 (vb rfl), xW⟩
          refine WX.run rfl rfl (blt rfl) rfl ⟨xW, m6, m11, m16, m35⟩ (Run.alloc rfl ti29 rfl) ?_
          rintro _ w107 ⟨g106, rfl, e108, x109, m110⟩
          have n_g2_g106 := ne_new m6 e108
          have n_g7_g106 := ne_new m11 e108
          have n_g12_g106 := ne_new m16 e108
          have n_g28_g106 := ne_new m35 e108
          have r_v45_g106 := ne_newO ow47 e108
          have n_g50_g106 := ne_new m54 e108
          have o_g106 := own_new xW e108
          have m6 := m6.ext x109
          have m11 := m11.ext x109
          have m16 := m16.ext x109
          have m35 := m35.ext x109
          have ow47 := ow47.ext x109
          have m54 := m54.ext x109
          have xW := Ext.trans xW x109
          refine WX.run rfl rfl (blt rfl) rfl ⟨xW, m6, m11, m16, m35⟩ (Run.appendB (f := Ck.Snap.c) (news := [x]) rfl rfl rfl Try.underlying23 ti42 rfl (by decide) rfl ow47 (fun _ => rfl) Ck.Snap.one m54 rfl xW.size (by have q0 := h_l.len; first | omega | (simp only [List.length_append, List.length_cons, List.length_nil, List.length_take, List.length_drop, List.length_reverse]; omega)) (Nat.le_trans (show _ ≤ 140737488355328 from by have q0 := h_l.len; first | omega | (simp only [List.length_append, List.length_cons, List.length_nil, List.length_take, List.length_drop, List.length_reverse]; omega)) (by decide)) ) ?_
          rintro v111 w112 ⟨ow113, gr114, nb115⟩
          have r_v111_g2 := ne_app nb115 r_v45_g2 m6
          have m6 := m6.grown gr114 r_v45_g2
          have r_v111_g7 := ne_app nb115 r_v45_g7 m11
          have m11 := m11.grown gr114 r_v45_g7
          have r_v111_g12 := ne_app nb115 r_v45_g12 m16
          have m16 := m16.grown gr114 r_v45_g12
          have r_v111_g28 := ne_app nb115 r_v45_g28 m35
          have m35 := m35.grown gr114 r_v45_g28
          have r_v111_g50 := ne_app nb115 r_v45_g50 m54
          have m54 := m54.grown gr114 r_v45_g50
          have r_v111_g106 := ne_app nb115 r_v45_g106 m110
          have m110 := m110.grown gr114 r_v45_g106
          have xW := Ext.grown xW gr114 (fun b hb => (OwnL.lt ow47 hb).1)
          obtain ⟨A116, n117, c118, rfl, hl119⟩ := OwnL.opened ow113 (fun _ => rfl) (by decide)
          have e_n117 := hl119.len
          try simp only [List.length_append, List.length_cons, List.length_nil, List.length_reverse, List.length_drop, List.length_take, List.length_map, List.length_replicate, List.length_set] at e_n117
          have z_n117 := hl119.nle
          refine WX.call rfl rfl (blt rfl) rfl rfl rfl has11 rfl ⟨xW, m6, m11, m16, m35⟩ (of_any _ _ _ _ _ _ _ _ _ _ _ (h_d.ext xW) hl119 (by omega)) ?_
          rintro _ w120 ⟨rfl, x121⟩
          refine ⟨_, rfl, ?_⟩
          have m6 := m6.ext x121
          have m11 := m11.ext x121
          have m16 := m16.ext x121
          have m35 := m35.ext x121
          have m54 := m54.ext x121
          have m110 := m110.ext x121
          have ow113 := ow113.ext x121
          have hl119 := hl119.ext x121
          have xW := Ext.trans xW x121
          refine WX.yld rfl rfl (blt rfl) rfl (Y.move rfl rfl) ?_
          refine WX.yld rfl rfl (blt rfl) rfl (Y.extract rfl rfl rfl) ?_
          refine WX.yld rfl rfl (blt rfl) rfl (Y.extract rfl rfl rfl) ?_
          refine WX.storeB (cs' := [_, _]) rfl ⟨xW, m6, m11, m16, m35⟩ rfl rfl rfl rfl rfl rfl ti29 m110 (ble rfl) rfl rfl (fun w122 on123 m124 => ?_)
          have m6 := m6.only n_g2_g106 on123
          have m11 := m11.only n_g7_g106 on123
          have m16 := m16.only n_g12_g106 on123
          have m35 := m35.only n_g28_g106 on123
          have m54 := m54.only n_g50_g106 on123
          have ow113 := ow113.only r_v111_g106 on123
          have hl119 := OwnL.ls ow113 (fun _ => rfl) (by decide)
          have xW := Ext.only xW on123 o_g106
          refine WX.yld rfl rfl (blt rfl) rfl (Y.assign rfl rfl) ?_
          refine WX.nil ⟨xW, m6, m11, m16, m35⟩ ?_
          refine WK.then_normal (k36 _ _ ?_)
          refine WC.sub [(7, _), (8, _), (9, _), (10, _)] ⟨rfl, rfl, rfl, rfl, trivial⟩ ?_
          refine WC.seq (fun K125 k125 => ?_)
          refine WC.seq (fun K126 k126 => ?_)
          refine WC.region rfl ?_
          refine WL.yld rfl (blt rfl) rfl (Y.move rfl rfl) ?_
          refine WL.yld rfl (blt rfl) rfl (Y.neq rfl rfl rfl) ?_
          refine WL.yld rfl (blt rfl) rfl (Y.move rfl rfl) ?_
          refine WL.yldG rfl (blt rfl) rfl rfl rfl (fun hb => Y.move rfl rfl) ?_
          refine WL.yldG rfl (blt rfl) rfl rfl rfl (fun hb => Y.neq rfl (evg rfl hb) rfl) ?_
          refine WL.yld rfl (blt rfl) rfl (Y.or rfl rfl rfl rfl) ?_
          refine WL.nil ?_
          refine WK.then_normal (k126 _ _ ?_)
          refine WC.sub [(7, _), (9, _), (49, _)] ⟨rfl, rfl, rfl, trivial⟩ ?_
          refine WC.cond rfl (fun h127 => ?_) (fun h127 => ?_)
          ·
            have p127 := ((or_t h127).imp (fun h => (eq_f (not_t h))) (fun h => (eq_f (not_t h))))
            refine WC.seq (fun K128 k128 => ?_)
            refine WC.region rfl ?_
            refine WL.call rfl (blt rfl) rfl rfl rfl has10 rfl (awake_any _ ) ?_
            rintro _ w129 ⟨rfl, x130⟩
            refine ⟨_, rfl, ?_⟩
            have m35 := m35.ext x130
            have m124 := m124.ext x130
            have xW := Ext.trans xW x130
            refine WL.yld rfl (blt rfl) rfl (Y.assign rfl rfl) ?_
            refine WL.nil ?_
            refine WK.then_normal (k128 _ _ ?_)
            refine WC.sub [(6, _)] ⟨rfl, trivial⟩ ?_
            refine WC.ret ?_
            refine WK.then_ret ?_
            clear k1 k17 k18 k25 k36 k125 k126 k128
            refine WK.ret [_] rfl ⟨rfl, trivial⟩ ?_
            exact ⟨ret1 (vb rfl), xW⟩
          ·
            have p127 := (And.intro (eq_t (not_f (or_f h127).1)) (eq_t (not_f (or_f h127).2)))
            have hx0 : (Bd.ofF d l id at_).2 = 0 := by simpa using (Bool.or_eq_false_iff.1 h127).1
            have hx1 : (Bd.ofF d (([] ++ l) ++ [x]) id at_).2 = 0 := by simpa using (Bool.or_eq_false_iff.1 h127).2
            have nw := Bd.narrows (by omega) (by simp; omega) (fun s hs => by simp [hs]) hx0 hx1
            refine WC.skip ?_
            refine WK.then_normal (k125 _ _ ?_)
            refine WC.sub [(7, _), (9, _)] ⟨rfl, rfl, trivial⟩ ?_
            refine WC.seq (fun K131 k131 => ?_)
            refine WC.region rfl ?_
            refine WL.yld rfl (blt rfl) rfl (Y.fieldAddr rfl Try.underlying29 rfl ti3 (by decide) rfl) ?_
            refine WL.yld rfl (blt rfl) rfl (Y.load1 rfl Try.underlying3 rfl rfl (Blk.at_eq m124 rfl)) ?_
            refine WL.yld rfl (blt rfl) rfl (Y.fieldAddr rfl Try.underlying29 rfl ti3 (by decide) rfl) ?_
            refine WL.yld rfl (blt rfl) rfl (Y.load1 rfl Try.underlying3 rfl rfl (Blk.at_eq m35 rfl)) ?_
            refine WL.yld rfl (blt rfl) rfl (Yld.cast (Y.geq rfl rfl rfl) (bt nw.1)) ?_
            refine WL.yld rfl (blt rfl) rfl (Y.move rfl rfl) ?_
            refine WL.yldW rfl (blt rfl) rfl rfl rfl (Y.fieldAddr rfl Try.underlying29 rfl ti3 (by decide) rfl) ?_
            refine WL.yldW rfl (blt rfl) rfl rfl rfl (Y.load1 rfl Try.underlying3 rfl rfl (Blk.at_eq m124 rfl)) ?_
            refine WL.yldW rfl (blt rfl) rfl rfl rfl (Y.fieldAddr rfl Try.underlying29 rfl ti3 (by decide) rfl) ?_
            refine WL.yldW rfl (blt rfl) rfl rfl rfl (Y.load1 rfl Try.underlying3 rfl rfl (Blk.at_eq m35 rfl)) ?_
            refine WL.yldW rfl (blt rfl) rfl rfl rfl (Yld.cast (Y.leq rfl rfl rfl) (bt nw.2)) ?_
            refine WL.yld rfl (blt rfl) rfl (Y.pickT rfl rfl rfl) ?_
            refine WL.yld rfl (blt rfl) rfl (Y.move rfl rfl) ?_
            refine WL.callW rfl (blt rfl) rfl rfl rfl rfl rfl has10 rfl (awake_any _ ) ?_
            rintro _ w132 ⟨rfl, x133⟩
            refine ⟨_, rfl, ?_⟩
            have m35 := m35.ext x133
            have m124 := m124.ext x133
            have xW := Ext.trans xW x133
            refine WL.yld rfl (blt rfl) rfl (Y.pickT rfl rfl rfl) ?_
            refine WL.yld rfl (blt rfl) rfl (Y.assign rfl rfl) ?_
            refine WL.nil ?_
            refine WK.then_normal (k131 _ _ ?_)
            refine WC.sub [(6, _)] ⟨rfl, trivial⟩ ?_
            refine WC.ret ?_
            clear k1 k17 k18 k25 k36 k125 k126 k131
            refine WK.ret [_] rfl ⟨rfl, trivial⟩ ?_
            exact ⟨ret1 (vb rfl), xW⟩
        refine WX.run rfl rfl (blt rfl) rfl ⟨xW, m6, m11, m16, m35⟩ (Run.alloc rfl ti29 rfl) ?_
        rintro _ w135 ⟨g134, rfl, e136, x137, m138⟩
        have n_g2_g134 := ne_new m6 e136
        have n_g7_g134 := ne_new m11 e136
        have n_g12_g134 := ne_new m16 e136
        have n_g28_g134 := ne_new m35 e136
        have r_v45_g134 := ne_newO ow47 e136
        have o_g134 := own_new xW e136
        have m6 := m6.ext x137
        have m11 := m11.ext x137
        have m16 := m16.ext x137
        have m35 := m35.ext x137
        have ow47 := ow47.ext x137
        have xW := Ext.trans xW x137
        refine WX.run rfl rfl (blt rfl) rfl ⟨xW, m6, m11, m16, m35⟩ (Run.bslice (zs := [.int .i64 0, .int .i64 0, .int .i64 0, .int .i64 0, .int .i64 0]) (cs := [_, _, _, _, _]) rfl Try.underlying23 ti42 rfl (ble rfl) (by kernel_rfl) rfl rfl) ?_
        rintro _ w140 ⟨g139, rfl, e141, x142, m143⟩
        have n_g2_g139 := ne_new m6 e141
        have n_g7_g139 := ne_new m11 e141
        have n_g12_g139 := ne_new m16 e141
        have n_g28_g139 := ne_new m35 e141
        have r_v45_g139 := ne_newO ow47 e141
        have n_g134_g139 := ne_new m138 e141
        have o_g139 := own_new xW e141
        have m6 := m6.ext x142
        have m11 := m11.ext x142
        have m16 := m16.ext x142
        have m35 := m35.ext x142
        have ow47 := ow47.ext x142
        have m138 := m138.ext x142
        have xW := Ext.trans xW x142
        refine WX.run rfl rfl (blt rfl) rfl ⟨xW, m6, m11, m16, m35⟩ (Run.appendB (f := Ck.Snap.c) (news := [x]) rfl rfl rfl Try.underlying23 ti42 rfl (by decide) rfl ow47 (fun _ => rfl) Ck.Snap.one m143 rfl xW.size (by have q0 := h_l.len; first | omega | (simp only [List.length_append, List.length_cons, List.length_nil, List.length_take, List.length_drop, List.length_reverse]; omega)) (Nat.le_trans (show _ ≤ 140737488355328 from by have q0 := h_l.len; first | omega | (simp only [List.length_append, List.length_cons, List.length_nil, List.length_take, List.length_drop, List.length_reverse]; omega)) (by decide)) ) ?_
        rintro v144 w145 ⟨ow146, gr147, nb148⟩
        have r_v144_g2 := ne_app nb148 r_v45_g2 m6
        have m6 := m6.grown gr147 r_v45_g2
        have r_v144_g7 := ne_app nb148 r_v45_g7 m11
        have m11 := m11.grown gr147 r_v45_g7
        have r_v144_g12 := ne_app nb148 r_v45_g12 m16
        have m16 := m16.grown gr147 r_v45_g12
        have r_v144_g28 := ne_app nb148 r_v45_g28 m35
        have m35 := m35.grown gr147 r_v45_g28
        have r_v144_g134 := ne_app nb148 r_v45_g134 m138
        have m138 := m138.grown gr147 r_v45_g134
        have r_v144_g139 := ne_app nb148 r_v45_g139 m143
        have m143 := m143.grown gr147 r_v45_g139
        have xW := Ext.grown xW gr147 (fun b hb => (OwnL.lt ow47 hb).1)
        obtain ⟨A149, n150, c151, rfl, hl152⟩ := OwnL.opened ow146 (fun _ => rfl) (by decide)
        have e_n150 := hl152.len
        try simp only [List.length_append, List.length_cons, List.length_nil, List.length_reverse, List.length_drop, List.length_take, List.length_map, List.length_replicate, List.length_set] at e_n150
        have z_n150 := hl152.nle
        refine WX.call rfl rfl (blt rfl) rfl rfl rfl has11 rfl ⟨xW, m6, m11, m16, m35⟩ (of_any _ _ _ _ _ _ _ _ _ _ _ (h_d.ext xW) hl152 (by omega)) ?_
        rintro _ w153 ⟨rfl, x154⟩
        refine ⟨_, rfl, ?_⟩
        have m6 := m6.ext x154
        have m11 := m11.ext x154
        have m16 := m16.ext x154
        have m35 := m35.ext x154
        have m138 := m138.ext x154
        have m143 := m143.ext x154
        have ow146 := ow146.ext x154
        have hl152 := hl152.ext x154
        have xW := Ext.trans xW x154
        refine WX.yld rfl rfl (blt rfl) rfl (Y.move rfl rfl) ?_
        refine WX.yld rfl rfl (blt rfl) rfl (Y.extract rfl rfl rfl) ?_
        refine WX.yld rfl rfl (blt rfl) rfl (Y.extract rfl rfl rfl) ?_
        refine WX.storeB (cs' := [_, _]) rfl ⟨xW, m6, m11, m16, m35⟩ rfl rfl rfl rfl rfl rfl ti29 m138 (ble rfl) rfl rfl (fun w155 on156 m157 => ?_)
        have m6 := m6.only n_g2_g134 on156
        have m11 := m11.only n_g7_g134 on156
        have m16 := m16.only n_g12_g134 on156
        have m35 := m35.only n_g28_g134 on156
        have m143 := m143.only n_g134_g139.symm on156
        have ow146 := ow146.only r_v144_g134 on156
        have hl152 := OwnL.ls ow146 (fun _ => rfl) (by decide)
        have xW := Ext.only xW on156 o_g134
        refine WX.yld rfl rfl (blt rfl) rfl (Y.assign rfl rfl) ?_
        refine WX.nil ⟨xW, m6, m11, m16, m35⟩ ?_
        refine WK.then_normal (k36 _ _ ?_)
        refine WC.sub [(7, _), (8, _), (9, _), (10, _)] ⟨rfl, rfl, rfl, rfl, trivial⟩ ?_
        refine WC.seq (fun K158 k158 => ?_)
        refine WC.seq (fun K159 k159 => ?_)
        refine WC.region rfl ?_
        refine WL.yld rfl (blt rfl) rfl (Y.move rfl rfl) ?_
        refine WL.yld rfl (blt rfl) rfl (Y.neq rfl rfl rfl) ?_
        refine WL.yld rfl (blt rfl) rfl (Y.move rfl rfl) ?_
        refine WL.yldG rfl (blt rfl) rfl rfl rfl (fun hb => Y.move rfl rfl) ?_
        refine WL.yldG rfl (blt rfl) rfl rfl rfl (fun hb => Y.neq rfl (evg rfl hb) rfl) ?_
        refine WL.yld rfl (blt rfl) rfl (Y.or rfl rfl rfl rfl) ?_
        refine WL.nil ?_
        refine WK.then_normal (k159 _ _ ?_)
        refine WC.sub [(7, _), (9, _), (49, _)] ⟨rfl, rfl, rfl, trivial⟩ ?_
        refine WC.cond rfl (fun h160 => ?_) (fun h160 => ?_)
        ·
          have p160 := ((or_t h160).imp (fun h => (eq_f (not_t h))) (fun h => (eq_f (not_t h))))
          refine WC.seq (fun K161 k161 => ?_)
          refine WC.region rfl ?_
          refine WL.call rfl (blt rfl) rfl rfl rfl has10 rfl (awake_any _ ) ?_
          rintro _ w162 ⟨rfl, x163⟩
          refine ⟨_, rfl, ?_⟩
          have m35 := m35.ext x163
          have m157 := m157.ext x163
          have xW := Ext.trans xW x163
          refine WL.yld rfl (blt rfl) rfl (Y.assign rfl rfl) ?_
          refine WL.nil ?_
          refine WK.then_normal (k161 _ _ ?_)
          refine WC.sub [(6, _)] ⟨rfl, trivial⟩ ?_
          refine WC.ret ?_
          refine WK.then_ret ?_
          clear k1 k17 k18 k25 k36 k158 k159 k161
          refine WK.ret [_] rfl ⟨rfl, trivial⟩ ?_
          exact ⟨ret1 (vb rfl), xW⟩
        ·
          have p160 := (And.intro (eq_t (not_f (or_f h160).1)) (eq_t (not_f (or_f h160).2)))
          have hx0 : (Bd.ofF d l id at_).2 = 0 := by simpa using (Bool.or_eq_false_iff.1 h160).1
          have hx1 : (Bd.ofF d (([] ++ l) ++ [x]) id at_).2 = 0 := by simpa using (Bool.or_eq_false_iff.1 h160).2
          have nw := Bd.narrows (by omega) (by simp; omega) (fun s hs => by simp [hs]) hx0 hx1
          refine WC.skip ?_
          refine WK.then_normal (k158 _ _ ?_)
          refine WC.sub [(7, _), (9, _)] ⟨rfl, rfl, trivial⟩ ?_
          refine WC.seq (fun K164 k164 => ?_)
          refine WC.region rfl ?_
          refine WL.yld rfl (blt rfl) rfl (Y.fieldAddr rfl Try.underlying29 rfl ti3 (by decide) rfl) ?_
          refine WL.yld rfl (blt rfl) rfl (Y.load1 rfl Try.underlying3 rfl rfl (Blk.at_eq m157 rfl)) ?_
          refine WL.yld rfl (blt rfl) rfl (Y.fieldAddr rfl Try.underlying29 rfl ti3 (by decide) rfl) ?_
          refine WL.yld rfl (blt rfl) rfl (Y.load1 rfl Try.underlying3 rfl rfl (Blk.at_eq m35 rfl)) ?_
          refine WL.yld rfl (blt rfl) rfl (Yld.cast (Y.geq rfl rfl rfl) (bt nw.1)) ?_
          refine WL.yld rfl (blt rfl) rfl (Y.move rfl rfl) ?_
          refine WL.yldW rfl (blt rfl) rfl rfl rfl (Y.fieldAddr rfl Try.underlying29 rfl ti3 (by decide) rfl) ?_
          refine WL.yldW rfl (blt rfl) rfl rfl rfl (Y.load1 rfl Try.underlying3 rfl rfl (Blk.at_eq m157 rfl)) ?_
          refine WL.yldW rfl (blt rfl) rfl rfl rfl (Y.fieldAddr rfl Try.underlying29 rfl ti3 (by decide) rfl) ?_
          refine WL.yldW rfl (blt rfl) rfl rfl rfl (Y.load1 rfl Try.underlying3 rfl rfl (Blk.at_eq m35 rfl)) ?_
          refine WL.yldW rfl (blt rfl) rfl rfl rfl (Yld.cast (Y.leq rfl rfl rfl) (bt nw.2)) ?_
          refine WL.yld rfl (blt rfl) rfl (Y.pickT rfl rfl rfl) ?_
          refine WL.yld rfl (blt rfl) rfl (Y.move rfl rfl) ?_
          refine WL.callW rfl (blt rfl) rfl rfl rfl rfl rfl has10 rfl (awake_any _ ) ?_
          rintro _ w165 ⟨rfl, x166⟩
          refine ⟨_, rfl, ?_⟩
          have m35 := m35.ext x166
          have m157 := m157.ext x166
          have xW := Ext.trans xW x166
          refine WL.yld rfl (blt rfl) rfl (Y.pickT rfl rfl rfl) ?_
          refine WL.yld rfl (blt rfl) rfl (Y.assign rfl rfl) ?_
          refine WL.nil ?_
          refine WK.then_normal (k164 _ _ ?_)
          refine WC.sub [(6, _)] ⟨rfl, trivial⟩ ?_
          refine WC.ret ?_
          clear k1 k17 k18 k25 k36 k158 k159 k164
          refine WK.ret [_] rfl ⟨rfl, trivial⟩ ?_
          exact ⟨ret1 (vb rfl), xW⟩
      refine WX.alt ?_ ?_
      ·
        refine WX.run rfl rfl (blt rfl) rfl ⟨xW, m6, m11, m16, m35⟩ (Run.bslice (zs := [.int .i64 0, .int .i64 0, .int .i64 0, .int .i64 0, .int .i64 0]) (cs := [_, _, _, _, _]) rfl Try.underlying23 ti42 rfl (ble rfl) (by kernel_rfl) rfl rfl) ?_
        rintro _ w168 ⟨g167, rfl, e169, x170, m171⟩
        have n_g2_g167 := ne_new m6 e169
        have n_g7_g167 := ne_new m11 e169
        have n_g12_g167 := ne_new m16 e169
        have n_g28_g167 := ne_new m35 e169
        have n_g39_g167 := ne_new m43 e169
        have o_g167 := own_new xW e169
        have m6 := m6.ext x170
        have m11 := m11.ext x170
        have m16 := m16.ext x170
        have m35 := m35.ext x170
        have m43 := m43.ext x170
        have xW := Ext.trans xW x170
        refine WX.alt ?_ ?_
        ·
          have ob172 := Blk.own (sz := 5) (f := Ck.Snap.c) (l := ([] : List Ck.Snap)) (base := w.heap.size) m43 o_g39 (fun _ => rfl) rfl (by decide) rfl
          refine WX.run rfl rfl (blt rfl) rfl ⟨xW, m6, m11, m16, m35⟩ (Run.appendL (f := Ck.Snap.c) rfl rfl rfl Try.underlying23 ti42 rfl (by decide) rfl ob172 (fun _ => rfl) Ck.Snap.one (h_l.ext xW) xW.size (by have q0 := h_l.len; first | omega | (simp only [List.length_append, List.length_cons, List.length_nil, List.length_take, List.length_drop, List.length_reverse]; omega)) (Nat.le_trans (show _ ≤ 140737488355328 from by have q0 := h_l.len; first | omega | (simp only [List.length_append, List.length_cons, List.length_nil, List.length_take, List.length_drop, List.length_reverse]; omega)) (by decide)) ) ?_
          rintro v173 w174 ⟨ow175, gr176, nb177⟩
          have r_v173_g2 := ne_app nb177 (ne_blk n_g2_g39) m6
          have m6 := m6.grown gr176 (ne_blk n_g2_g39)
          have r_v173_g7 := ne_app nb177 (ne_blk n_g7_g39) m11
          have m11 := m11.grown gr176 (ne_blk n_g7_g39)
          have r_v173_g12 := ne_app nb177 (ne_blk n_g12_g39) m16
          have m16 := m16.grown gr176 (ne_blk n_g12_g39)
          have r_v173_g28 := ne_app nb177 (ne_blk n_g28_g39) m35
          have m35 := m35.grown gr176 (ne_blk n_g28_g39)
          have r_v173_g167 := ne_app nb177 (ne_blk n_g39_g167.symm) m171
          have m171 := m171.grown gr176 (ne_blk n_g39_g167.symm)
          have xW := Ext.grown xW gr176 (fun b hb => (OwnL.lt ob172 hb).1)
          refine WX.alt ?_ ?_
          ·
            refine WX.run rfl rfl (blt rfl) rfl ⟨xW, m6, m11, m16, m35⟩ (Run.appendB (f := Ck.Snap.c) (news := [x]) rfl rfl rfl Try.underlying23 ti42 rfl (by decide) rfl ow175 (fun _ => rfl) Ck.Snap.one m171 rfl xW.size (by have q0 := h_l.len; first | omega | (simp only [List.length_append, List.length_cons, List.length_nil, List.length_take, List.length_drop, List.length_reverse]; omega)) (Nat.le_trans (show _ ≤ 140737488355328 from by have q0 := h_l.len; first | omega | (simp only [List.length_append, List.length_cons, List.length_nil, List.length_take, List.length_drop, List.length_reverse]; omega)) (by decide)) ) ?_
            rintro v178 w179 ⟨ow180, gr181, nb182⟩
            have r_v178_g2 := ne_app nb182 r_v173_g2 m6
            have m6 := m6.grown gr181 r_v173_g2
            have r_v178_g7 := ne_app nb182 r_v173_g7 m11
            have m11 := m11.grown gr181 r_v173_g7
            have r_v178_g12 := ne_app nb182 r_v173_g12 m16
            have m16 := m16.grown gr181 r_v173_g12
            have r_v178_g28 := ne_app nb182 r_v173_g28 m35
            have m35 := m35.grown gr181 r_v173_g28
            have r_v178_g167 := ne_app nb182 r_v173_g167 m171
            have m171 := m171.grown gr181 r_v173_g167
            have xW := Ext.grown xW gr181 (fun b hb => (OwnL.lt ow175 hb).1)
            refine WX.alt ?_ ?_
            ·
              obtain ⟨A183, n184, c185, rfl, hl186⟩ := OwnL.opened ow180 (fun _ => rfl) (by decide)
              have e_n184 := hl186.len
              try simp only [List.length_append, List.length_cons, List.length_nil, List.length_reverse, List.length_drop, List.length_take, List.length_map, List.length_replicate, List.length_set] at e_n184
              have z_n184 := hl186.nle
              refine WX.call rfl rfl (blt rfl) rfl rfl rfl has11 rfl ⟨xW, m6, m11, m16, m35⟩ (of_any _ _ _ _ _ _ _ _ _ _ _ (h_d.ext xW) hl186 (by omega)) ?_
              rintro _ w187 ⟨rfl, x188⟩
              refine ⟨_, rfl, ?_⟩
              have m6 := m6.ext x188
              have m11 := m11.ext x188
              have m16 := m16.ext x188
              have m35 := m35.ext x188
              have m171 := m171.ext x188
              have ow180 := ow180.ext x188
              have hl186 := hl186.ext x188
              have xW := Ext.trans xW x188
              refine WX.yld rfl rfl (blt rfl) rfl (Y.move rfl rfl) ?_
              refine WX.yld rfl rfl (blt rfl) rfl (Y.extract rfl rfl rfl) ?_
              refine WX.yld rfl rfl (blt rfl) rfl (Y.extract rfl rfl rfl) ?_
              refine WX.run rfl rfl (blt rfl) rfl ⟨xW, m6, m11, m16, m35⟩ (Run.alloc rfl ti29 rfl) ?_
              rintro _ w190 ⟨g189, rfl, e191, x192, m193⟩
              have n_g2_g189 := ne_new m6 e191
              have n_g7_g189 := ne_new m11 e191
              have n_g12_g189 := ne_new m16 e191
              have n_g28_g189 := ne_new m35 e191
              have n_g167_g189 := ne_new m171 e191
              have r_v178_g189 := ne_newO ow180 e191
              have o_g189 := own_new xW e191
              have m6 := m6.ext x192
              have m11 := m11.ext x192
              have m16 := m16.ext x192
              have m35 := m35.ext x192
              have m171 := m171.ext x192
              have ow180 := ow180.ext x192
              have hl186 := hl186.ext x192
              have xW := Ext.trans xW x192
              refine WX.storeB (cs' := [_, _]) rfl ⟨xW, m6, m11, m16, m35⟩ rfl rfl rfl rfl rfl rfl ti29 m193 (ble rfl) rfl rfl (fun w194 on195 m196 => ?_)
              have m6 := m6.only n_g2_g189 on195
              have m11 := m11.only n_g7_g189 on195
              have m16 := m16.only n_g12_g189 on195
              have m35 := m35.only n_g28_g189 on195
              have m171 := m171.only n_g167_g189 on195
              have ow180 := ow180.only r_v178_g189 on195
              have hl186 := OwnL.ls ow180 (fun _ => rfl) (by decide)
              have xW := Ext.only xW on195 o_g189
              refine WX.yld rfl rfl (blt rfl) rfl (Y.assign rfl rfl) ?_
              refine WX.nil ⟨xW, m6, m11, m16, m35⟩ ?_
              refine WK.then_normal (k36 _ _ ?_)
              refine WC.sub [(7, _), (8, _), (9, _), (10, _)] ⟨rfl, rfl, rfl, rfl, trivial⟩ ?_
              refine WC.seq (fun K197 k197 => ?_)
              refine WC.seq (fun K198 k198 => ?_)
              refine WC.region rfl ?_
              refine WL.yld rfl (blt rfl) rfl (Y.move rfl rfl) ?_
              refine WL.yld rfl (blt rfl) rfl (Y.neq rfl rfl rfl) ?_
              refine WL.yld rfl (blt rfl) rfl (Y.move rfl rfl) ?_
              refine WL.yldG rfl (blt rfl) rfl rfl rfl (fun hb => Y.move rfl rfl) ?_
              refine WL.yldG rfl (blt rfl) rfl rfl rfl (fun hb => Y.neq rfl (evg rfl hb) rfl) ?_
              refine WL.yld rfl (blt rfl) rfl (Y.or rfl rfl rfl rfl) ?_
              refine WL.nil ?_
              refine WK.then_normal (k198 _ _ ?_)
              refine WC.sub [(7, _), (9, _), (49, _)] ⟨rfl, rfl, rfl, trivial⟩ ?_
              refine WC.cond rfl (fun h199 => ?_) (fun h199 => ?_)
              ·
                have p199 := ((or_t h199).imp (fun h => (eq_f (not_t h))) (fun h => (eq_f (not_t h))))
                refine WC.seq (fun K200 k200 => ?_)
                refine WC.region rfl ?_
                refine WL.call rfl (blt rfl) rfl rfl rfl has10 rfl (awake_any _ ) ?_
                rintro _ w201 ⟨rfl, x202⟩
                refine ⟨_, rfl, ?_⟩
                have m35 := m35.ext x202
                have m196 := m196.ext x202
                have xW := Ext.trans xW x202
                refine WL.yld rfl (blt rfl) rfl (Y.assign rfl rfl) ?_
                refine WL.nil ?_
                refine WK.then_normal (k200 _ _ ?_)
                refine WC.sub [(6, _)] ⟨rfl, trivial⟩ ?_
                refine WC.ret ?_
                refine WK.then_ret ?_
                clear k1 k17 k18 k25 k36 k197 k198 k200
                refine WK.ret [_] rfl ⟨rfl, trivial⟩ ?_
                exact ⟨ret1 (vb rfl), xW⟩
              ·
                have p199 := (And.intro (eq_t (not_f (or_f h199).1)) (eq_t (not_f (or_f h199).2)))
                have hx0 : (Bd.ofF d l id at_).2 = 0 := by simpa using (Bool.or_eq_false_iff.1 h199).1
                have hx1 : (Bd.ofF d (([] ++ l) ++ [x]) id at_).2 = 0 := by simpa using (Bool.or_eq_false_iff.1 h199).2
                have nw := Bd.narrows (by omega) (by simp; omega) (fun s hs => by simp [hs]) hx0 hx1
                refine WC.skip ?_
                refine WK.then_normal (k197 _ _ ?_)
                refine WC.sub [(7, _), (9, _)] ⟨rfl, rfl, trivial⟩ ?_
                refine WC.seq (fun K203 k203 => ?_)
                refine WC.region rfl ?_
                refine WL.yld rfl (blt rfl) rfl (Y.fieldAddr rfl Try.underlying29 rfl ti3 (by decide) rfl) ?_
                refine WL.yld rfl (blt rfl) rfl (Y.load1 rfl Try.underlying3 rfl rfl (Blk.at_eq m196 rfl)) ?_
                refine WL.yld rfl (blt rfl) rfl (Y.fieldAddr rfl Try.underlying29 rfl ti3 (by decide) rfl) ?_
                refine WL.yld rfl (blt rfl) rfl (Y.load1 rfl Try.underlying3 rfl rfl (Blk.at_eq m35 rfl)) ?_
                refine WL.yld rfl (blt rfl) rfl (Yld.cast (Y.geq rfl rfl rfl) (bt nw.1)) ?_
                refine WL.yld rfl (blt rfl) rfl (Y.move rfl rfl) ?_
                refine WL.yldW rfl (blt rfl) rfl rfl rfl (Y.fieldAddr rfl Try.underlying29 rfl ti3 (by decide) rfl) ?_
                refine WL.yldW rfl (blt rfl) rfl rfl rfl (Y.load1 rfl Try.underlying3 rfl rfl (Blk.at_eq m196 rfl)) ?_
                refine WL.yldW rfl (blt rfl) rfl rfl rfl (Y.fieldAddr rfl Try.underlying29 rfl ti3 (by decide) rfl) ?_
                refine WL.yldW rfl (blt rfl) rfl rfl rfl (Y.load1 rfl Try.underlying3 rfl rfl (Blk.at_eq m35 rfl)) ?_
                refine WL.yldW rfl (blt rfl) rfl rfl rfl (Yld.cast (Y.leq rfl rfl rfl) (bt nw.2)) ?_
                refine WL.yld rfl (blt rfl) rfl (Y.pickT rfl rfl rfl) ?_
                refine WL.yld rfl (blt rfl) rfl (Y.move rfl rfl) ?_
                refine WL.callW rfl (blt rfl) rfl rfl rfl rfl rfl has10 rfl (awake_any _ ) ?_
                rintro _ w204 ⟨rfl, x205⟩
                refine ⟨_, rfl, ?_⟩
                have m35 := m35.ext x205
                have m196 := m196.ext x205
                have xW := Ext.trans xW x205
                refine WL.yld rfl (blt rfl) rfl (Y.pickT rfl rfl rfl) ?_
                refine WL.yld rfl (blt rfl) rfl (Y.assign rfl rfl) ?_
                refine WL.nil ?_
                refine WK.then_normal (k203 _ _ ?_)
                refine WC.sub [(6, _)] ⟨rfl, trivial⟩ ?_
                refine WC.ret ?_
                clear k1 k17 k18 k25 k36 k197 k198 k203
                refine WK.ret [_] rfl ⟨rfl, trivial⟩ ?_
                exact ⟨ret1 (vb rfl), xW⟩
            refine WX.run rfl rfl (blt rfl) rfl ⟨xW, m6, m11, m16, m35⟩ (Run.alloc rfl ti29 rfl) ?_
            rintro _ w207 ⟨g206, rfl, e208, x209, m210⟩
            have n_g2_g206 := ne_new m6 e208
            have n_g7_g206 := ne_new m11 e208
            have n_g12_g206 := ne_new m16 e208
            have n_g28_g206 := ne_new m35 e208
            have n_g167_g206 := ne_new m171 e208
            have r_v178_g206 := ne_newO ow180 e208
            have o_g206 := own_new xW e208
            have m6 := m6.ext x209
            have m11 := m11.ext x209
            have m16 := m16.ext x209
            have m35 := m35.ext x209
            have m171 := m171.ext x209
            have ow180 := ow180.ext x209
            have xW := Ext.trans xW x209
            obtain ⟨A211, n212, c213, rfl, hl214⟩ := OwnL.opened ow180 (fun _ => rfl) (by decide)
            have e_n212 := hl214.len
            try simp only [List.length_append, List.length_cons, List.length_nil, List.length_reverse, List.length_drop, List.length_take, List.length_map, List.length_replicate, List.length_set] at e_n212
            have z_n212 := hl214.nle
            refine WX.call rfl rfl (blt rfl) rfl rfl rfl has11 rfl ⟨xW, m6, m11, m16, m35⟩ (of_any _ _ _ _ _ _ _ _ _ _ _ (h_d.ext xW) hl214 (by omega)) ?_
            rintro _ w215 ⟨rfl, x216⟩
            refine ⟨_, rfl, ?_⟩
            have m6 := m6.ext x216
            have m11 := m11.ext x216
            have m16 := m16.ext x216
            have m35 := m35.ext x216
            have m171 := m171.ext x216
            have ow180 := ow180.ext x216
            have hl214 := hl214.ext x216
            have m210 := m210.ext x216
            have xW := Ext.trans xW x216
            refine WX.yld rfl rfl (blt rfl) rfl (Y.move rfl rfl) ?_
            refine WX.yld rfl rfl (blt rfl) rfl (Y.extract rfl rfl rfl) ?_
            refine WX.yld rfl rfl (blt rfl) rfl (Y.extract rfl rfl rfl) ?_
            refine WX.storeB (cs' := [_, _]) rfl ⟨xW, m6, m11, m16, m35⟩ rfl rfl rfl rfl rfl rfl ti29 m210 (ble rfl) rfl rfl (fun w217 on218 m219 => ?_)
            have m6 := m6.only n_g2_g206 on218
            have m11 := m11.only n_g7_g206 on218
            have m16 := m16.only n_g12_g206 on218
            have m35 := m35.only n_g28_g206 on218
            have m171 := m171.only n_g167_g206 on218
            have ow180 := ow180.only r_v178_g206 on218
            have hl214 := OwnL.ls ow180 (fun _ => rfl) (by decide)
            have xW := Ext.only xW on218 o_g206
            refine WX.yld rfl rfl (blt rfl) rfl (Y.assign rfl rfl) ?_
            refine WX.nil ⟨xW, m6, m11, m16, m35⟩ ?_
            refine WK.then_normal (k36 _ _ ?_)
            refine WC.sub [(7, _), (8, _), (9, _), (10, _)] ⟨rfl, rfl, rfl, rfl, trivial⟩ ?_
            refine WC.seq (fun K220 k220 => ?_)
            refine WC.seq (fun K221 k221 => ?_)
            refine WC.region rfl ?_
            refine WL.yld rfl (blt rfl) rfl (Y.move rfl rfl) ?_
            refine WL.yld rfl (blt rfl) rfl (Y.neq rfl rfl rfl) ?_
            refine WL.yld rfl (blt rfl) rfl (Y.move rfl rfl) ?_
            refine WL.yldG rfl (blt rfl) rfl rfl rfl (fun hb => Y.move rfl rfl) ?_
            refine WL.yldG rfl (blt rfl) rfl rfl rfl (fun hb => Y.neq rfl (evg rfl hb) rfl) ?_
            refine WL.yld rfl (blt rfl) rfl (Y.or rfl rfl rfl rfl) ?_
            refine WL.nil ?_
            refine WK.then_normal (k221 _ _ ?_)
            refine WC.sub [(7, _), (9, _), (49, _)] ⟨rfl, rfl, rfl, trivial⟩ ?_
            refine WC.cond rfl (fun h222 => ?_) (fun h222 => ?_)
            ·
              have p222 := ((or_t h222).imp (fun h => (eq_f (not_t h))) (fun h => (eq_f (not_t h))))
              refine WC.seq (fun K223 k223 => ?_)
              refine WC.region rfl ?_
              refine WL.call rfl (blt rfl) rfl rfl rfl has10 rfl (awake_any _ ) ?_
              rintro _ w224 ⟨rfl, x225⟩
              refine ⟨_, rfl, ?_⟩
              have m35 := m35.ext x225
              have m219 := m219.ext x225
              have xW := Ext.trans xW x225
              refine WL.yld rfl (blt rfl) rfl (Y.assign rfl rfl) ?_
              refine WL.nil ?_
              refine WK.then_normal (k223 _ _ ?_)
              refine WC.sub [(6, _)] ⟨rfl, trivial⟩ ?_
              refine WC.ret ?_
              refine WK.then_ret ?_
              clear k1 k17 k18 k25 k36 k220 k221 k223
              refine WK.ret [_] rfl ⟨rfl, trivial⟩ ?_
              exact ⟨ret1 (vb rfl), xW⟩
            ·
              have p222 := (And.intro (eq_t (not_f (or_f h222).1)) (eq_t (not_f (or_f h222).2)))
              have hx0 : (Bd.ofF d l id at_).2 = 0 := by simpa using (Bool.or_eq_false_iff.1 h222).1
              have hx1 : (Bd.ofF d (([] ++ l) ++ [x]) id at_).2 = 0 := by simpa using (Bool.or_eq_false_iff.1 h222).2
              have nw := Bd.narrows (by omega) (by simp; omega) (fun s hs => by simp [hs]) hx0 hx1
              refine WC.skip ?_
              refine WK.then_normal (k220 _ _ ?_)
              refine WC.sub [(7, _), (9, _)] ⟨rfl, rfl, trivial⟩ ?_
              refine WC.seq (fun K226 k226 => ?_)
              refine WC.region rfl ?_
              refine WL.yld rfl (blt rfl) rfl (Y.fieldAddr rfl Try.underlying29 rfl ti3 (by decide) rfl) ?_
              refine WL.yld rfl (blt rfl) rfl (Y.load1 rfl Try.underlying3 rfl rfl (Blk.at_eq m219 rfl)) ?_
              refine WL.yld rfl (blt rfl) rfl (Y.fieldAddr rfl Try.underlying29 rfl ti3 (by decide) rfl) ?_
              refine WL.yld rfl (blt rfl) rfl (Y.load1 rfl Try.underlying3 rfl rfl (Blk.at_eq m35 rfl)) ?_
              refine WL.yld rfl (blt rfl) rfl (Yld.cast (Y.geq rfl rfl rfl) (bt nw.1)) ?_
              refine WL.yld rfl (blt rfl) rfl (Y.move rfl rfl) ?_
              refine WL.yldW rfl (blt rfl) rfl rfl rfl (Y.fieldAddr rfl Try.underlying29 rfl ti3 (by decide) rfl) ?_
              refine WL.yldW rfl (blt rfl) rfl rfl rfl (Y.load1 rfl Try.underlying3 rfl rfl (Blk.at_eq m219 rfl)) ?_
              refine WL.yldW rfl (blt rfl) rfl rfl rfl (Y.fieldAddr rfl Try.underlying29 rfl ti3 (by decide) rfl) ?_
              refine WL.yldW rfl (blt rfl) rfl rfl rfl (Y.load1 rfl Try.underlying3 rfl rfl (Blk.at_eq m35 rfl)) ?_
              refine WL.yldW rfl (blt rfl) rfl rfl rfl (Yld.cast (Y.leq rfl rfl rfl) (bt nw.2)) ?_
              refine WL.yld rfl (blt rfl) rfl (Y.pickT rfl rfl rfl) ?_
              refine WL.yld rfl (blt rfl) rfl (Y.move rfl rfl) ?_
              refine WL.callW rfl (blt rfl) rfl rfl rfl rfl rfl has10 rfl (awake_any _ ) ?_
              rintro _ w227 ⟨rfl, x228⟩
              refine ⟨_, rfl, ?_⟩
              have m35 := m35.ext x228
              have m219 := m219.ext x228
              have xW := Ext.trans xW x228
              refine WL.yld rfl (blt rfl) rfl (Y.pickT rfl rfl rfl) ?_
              refine WL.yld rfl (blt rfl) rfl (Y.assign rfl rfl) ?_
              refine WL.nil ?_
              refine WK.then_normal (k226 _ _ ?_)
              refine WC.sub [(6, _)] ⟨rfl, trivial⟩ ?_
              refine WC.ret ?_
              clear k1 k17 k18 k25 k36 k220 k221 k226
              refine WK.ret [_] rfl ⟨rfl, trivial⟩ ?_
              exact ⟨ret1 (vb rfl), xW⟩
          refine WX.run rfl rfl (blt rfl) rfl ⟨xW, m6, m11, m16, m35⟩ (Run.alloc rfl ti29 rfl) ?_
          rintro _ w230 ⟨g229, rfl, e231, x232, m233⟩
          have n_g2_g229 := ne_new m6 e231
          have n_g7_g229 := ne_new m11 e231
          have n_g12_g229 := ne_new m16 e231
          have n_g28_g229 := ne_new m35 e231
          have n_g167_g229 := ne_new m171 e231
          have r_v173_g229 := ne_newO ow175 e231
          have o_g229 := own_new xW e231
          have m6 := m6.ext x232
          have m11 := m11.ext x232
          have m16 := m16.ext x232
          have m35 := m35.ext x232
          have m171 := m171.ext x232
          have ow175 := ow175.ext x232
          have xW := Ext.trans xW x232
          refine WX.run rfl rfl (blt rfl) rfl ⟨xW, m6, m11, m16, m35⟩ (Run.appendB (f := Ck.Snap.c) (news := [x]) rfl rfl rfl Try.underlying23 ti42 rfl (by decide) rfl ow175 (fun _ => rfl) Ck.Snap.one m171 rfl xW.size (by have q0 := h_l.len; first | omega | (simp only [List.length_append, List.length_cons, List.length_nil, List.length_take, List.length_drop, List.length_reverse]; omega)) (Nat.le_trans (show _ ≤ 140737488355328 from by have q0 := h_l.len; first | omega | (simp only [List.length_append, List.length_cons, List.length_nil, List.length_take, List.length_drop, List.length_reverse]; omega)) (by decide)) ) ?_
          rintro v234 w235 ⟨ow236, gr237, nb238⟩
          have r_v234_g2 := ne_app nb238 r_v173_g2 m6
          have m6 := m6.grown gr237 r_v173_g2
          have r_v234_g7 := ne_app nb238 r_v173_g7 m11
          have m11 := m11.grown gr237 r_v173_g7
          have r_v234_g12 := ne_app nb238 r_v173_g12 m16
          have m16 := m16.grown gr237 r_v173_g12
          have r_v234_g28 := ne_app nb238 r_v173_g28 m35
          have m35 := m35.grown gr237 r_v173_g28
          have r_v234_g167 := ne_app nb238 r_v173_g167 m171
          have m171 := m171.grown gr237 r_v173_g167
          have r_v234_g229 := ne_app nb238 r_v173_g229 m233
          have m233 := m233.grown gr237 r_v173_g229
          have xW := Ext.grown xW gr237 (fun b hb => (OwnL.lt ow175 hb).1)
          obtain ⟨A239, n240, c241, rfl, hl242⟩ := OwnL.opened ow236 (fun _ => rfl) (by decide)
          have e_n240 := hl242.len
          try simp only [List.length_append, List.length_cons, List.length_nil, List.length_reverse, List.length_drop, List.length_take, List.length_map, List.length_replicate, List.length_set] at e_n240
          have z_n240 := hl242.nle
          refine WX.call rfl rfl (blt rfl) rfl rfl rfl has11 rfl ⟨xW, m6, m11, m16, m35⟩ (of_any _ _ _ _ _ _ _ _ _ _ _ (h_d.ext xW) hl242 (by omega)) ?_
          rintro _ w243 ⟨rfl, x244⟩
          refine ⟨_, rfl, ?_⟩
          have m6 := m6.ext x244
          have m11 := m11.ext x244
          have m16 := m16.ext x244
          have m35 := m35.ext x244
          have m171 := m171.ext x244
          have m233 := m233.ext x244
          have ow236 := ow236.ext x244
          have hl242 := hl242.ext x244
          have xW := Ext.trans xW x244
          refine WX.yld rfl rfl (blt rfl) rfl (Y.move rfl rfl) ?_
          refine WX.yld rfl rfl (blt rfl) rfl (Y.extract rfl rfl rfl) ?_
          refine WX.yld rfl rfl (blt rfl) rfl (Y.extract rfl rfl rfl) ?_
          refine WX.storeB (cs' := [_, _]) rfl ⟨xW, m6, m11, m16, m35⟩ rfl rfl rfl rfl rfl rfl ti29 m233 (ble rfl) rfl rfl (fun w245 on246 m247 => ?_)
          have m6 := m6.only n_g2_g229 on246
          have m11 := m11.only n_g7_g229 on246
          have m16 := m16.only n_g12_g229 on246
          have m35 := m35.only n_g28_g229 on246
          have m171 := m171.only n_g167_g229 on246
          have ow236 := ow236.only r_v234_g229 on246
          have hl242 := OwnL.ls ow236 (fun _ => rfl) (by decide)
          have xW := Ext.only xW on246 o_g229
          refine WX.yld rfl rfl (blt rfl) rfl (Y.assign rfl rfl) ?_
          refine WX.nil ⟨xW, m6, m11, m16, m35⟩ ?_
          refine WK.then_normal (k36 _ _ ?_)
          refine WC.sub [(7, _), (8, _), (9, _), (10, _)] ⟨rfl, rfl, rfl, rfl, trivial⟩ ?_
          refine WC.seq (fun K248 k248 => ?_)
          refine WC.seq (fun K249 k249 => ?_)
          refine WC.region rfl ?_
          refine WL.yld rfl (blt rfl) rfl (Y.move rfl rfl) ?_
          refine WL.yld rfl (blt rfl) rfl (Y.neq rfl rfl rfl) ?_
          refine WL.yld rfl (blt rfl) rfl (Y.move rfl rfl) ?_
          refine WL.yldG rfl (blt rfl) rfl rfl rfl (fun hb => Y.move rfl rfl) ?_
          refine WL.yldG rfl (blt rfl) rfl rfl rfl (fun hb => Y.neq rfl (evg rfl hb) rfl) ?_
          refine WL.yld rfl (blt rfl) rfl (Y.or rfl rfl rfl rfl) ?_
          refine WL.nil ?_
          refine WK.then_normal (k249 _ _ ?_)
          refine WC.sub [(7, _), (9, _), (49, _)] ⟨rfl, rfl, rfl, trivial⟩ ?_
          refine WC.cond rfl (fun h250 => ?_) (fun h250 => ?_)
          ·
            have p250 := ((or_t h250).imp (fun h => (eq_f (not_t h))) (fun h => (eq_f (not_t h))))
            refine WC.seq (fun K251 k251 => ?_)
            refine WC.region rfl ?_
            refine WL.call rfl (blt rfl) rfl rfl rfl has10 rfl (awake_any _ ) ?_
            rintro _ w252 ⟨rfl, x253⟩
            refine ⟨_, rfl, ?_⟩
            have m35 := m35.ext x253
            have m247 := m247.ext x253
            have xW := Ext.trans xW x253
            refine WL.yld rfl (blt rfl) rfl (Y.assign rfl rfl) ?_
            refine WL.nil ?_
            refine WK.then_normal (k251 _ _ ?_)
            refine WC.sub [(6, _)] ⟨rfl, trivial⟩ ?_
            refine WC.ret ?_
            refine WK.then_ret ?_
            clear k1 k17 k18 k25 k36 k248 k249 k251
            refine WK.ret [_] rfl ⟨rfl, trivial⟩ ?_
            exact ⟨ret1 (vb rfl), xW⟩
          ·
            have p250 := (And.intro (eq_t (not_f (or_f h250).1)) (eq_t (not_f (or_f h250).2)))
            have hx0 : (Bd.ofF d l id at_).2 = 0 := by simpa using (Bool.or_eq_false_iff.1 h250).1
            have hx1 : (Bd.ofF d (([] ++ l) ++ [x]) id at_).2 = 0 := by simpa using (Bool.or_eq_false_iff.1 h250).2
            have nw := Bd.narrows (by omega) (by simp; omega) (fun s hs => by simp [hs]) hx0 hx1
            refine WC.skip ?_
            refine WK.then_normal (k248 _ _ ?_)
            refine WC.sub [(7, _), (9, _)] ⟨rfl, rfl, trivial⟩ ?_
            refine WC.seq (fun K254 k254 => ?_)
            refine WC.region rfl ?_
            refine WL.yld rfl (blt rfl) rfl (Y.fieldAddr rfl Try.underlying29 rfl ti3 (by decide) rfl) ?_
            refine WL.yld rfl (blt rfl) rfl (Y.load1 rfl Try.underlying3 rfl rfl (Blk.at_eq m247 rfl)) ?_
            refine WL.yld rfl (blt rfl) rfl (Y.fieldAddr rfl Try.underlying29 rfl ti3 (by decide) rfl) ?_
            refine WL.yld rfl (blt rfl) rfl (Y.load1 rfl Try.underlying3 rfl rfl (Blk.at_eq m35 rfl)) ?_
            refine WL.yld rfl (blt rfl) rfl (Yld.cast (Y.geq rfl rfl rfl) (bt nw.1)) ?_
            refine WL.yld rfl (blt rfl) rfl (Y.move rfl rfl) ?_
            refine WL.yldW rfl (blt rfl) rfl rfl rfl (Y.fieldAddr rfl Try.underlying29 rfl ti3 (by decide) rfl) ?_
            refine WL.yldW rfl (blt rfl) rfl rfl rfl (Y.load1 rfl Try.underlying3 rfl rfl (Blk.at_eq m247 rfl)) ?_
            refine WL.yldW rfl (blt rfl) rfl rfl rfl (Y.fieldAddr rfl Try.underlying29 rfl ti3 (by decide) rfl) ?_
            refine WL.yldW rfl (blt rfl) rfl rfl rfl (Y.load1 rfl Try.underlying3 rfl rfl (Blk.at_eq m35 rfl)) ?_
            refine WL.yldW rfl (blt rfl) rfl rfl rfl (Yld.cast (Y.leq rfl rfl rfl) (bt nw.2)) ?_
            refine WL.yld rfl (blt rfl) rfl (Y.pickT rfl rfl rfl) ?_
            refine WL.yld rfl (blt rfl) rfl (Y.move rfl rfl) ?_
            refine WL.callW rfl (blt rfl) rfl rfl rfl rfl rfl has10 rfl (awake_any _ ) ?_
            rintro _ w255 ⟨rfl, x256⟩
            refine ⟨_, rfl, ?_⟩
            have m35 := m35.ext x256
            have m247 := m247.ext x256
            have xW := Ext.trans xW x256
            refine WL.yld rfl (blt rfl) rfl (Y.pickT rfl rfl rfl) ?_
            refine WL.yld rfl (blt rfl) rfl (Y.assign rfl rfl) ?_
            refine WL.nil ?_
            refine WK.then_normal (k254 _ _ ?_)
            refine WC.sub [(6, _)] ⟨rfl, trivial⟩ ?_
            refine WC.ret ?_
            clear k1 k17 k18 k25 k36 k248 k249 k254
            refine WK.ret [_] rfl ⟨rfl, trivial⟩ ?_
            exact ⟨ret1 (vb rfl), xW⟩
        refine WX.run rfl rfl (blt rfl) rfl ⟨xW, m6, m11, m16, m35⟩ (Run.alloc rfl ti29 rfl) ?_
        rintro _ w258 ⟨g257, rfl, e259, x260, m261⟩
        have n_g2_g257 := ne_new m6 e259
        have n_g7_g257 := ne_new m11 e259
        have n_g12_g257 := ne_new m16 e259
        have n_g28_g257 := ne_new m35 e259
        have n_g39_g257 := ne_new m43 e259
        have n_g167_g257 := ne_new m171 e259
        have o_g257 := own_new xW e259
        have m6 := m6.ext x260
        have m11 := m11.ext x260
        have m16 := m16.ext x260
        have m35 := m35.ext x260
        have m43 := m43.ext x260
        have m171 := m171.ext x260
        have xW := Ext.trans xW x260
        have ob262 := Blk.own (sz := 5) (f := Ck.Snap.c) (l := ([] : List Ck.Snap)) (base := w.heap.size) m43 o_g39 (fun _ => rfl) rfl (by decide) rfl
        refine WX.run rfl rfl (blt rfl) rfl ⟨xW, m6, m11, m16, m35⟩ (Run.appendL (f := Ck.Snap.c) rfl rfl rfl Try.underlying23 ti42 rfl (by decide) rfl ob262 (fun _ => rfl) Ck.Snap.one (h_l.ext xW) xW.size (by have q0 := h_l.len; first | omega | (simp only [List.length_append, List.length_cons, List.length_nil, List.length_take, List.length_drop, List.length_reverse]; omega)) (Nat.le_trans (show _ ≤ 140737488355328 from by have q0 := h_l.len; first | omega | (simp only [List.length_append, List.length_cons, List.length_nil, List.length_take, List.length_drop, List.length_reverse]; omega)) (by decide)) ) ?_
        rintro v263 w264 ⟨ow265, gr266, nb267⟩
        have r_v263_g2 := ne_app nb267 (ne_blk n_g2_g39) m6
        have m6 := m6.grown gr266 (ne_blk n_g2_g39)
        have r_v263_g7 := ne_app nb267 (ne_blk n_g7_g39) m11
        have m11 := m11.grown gr266 (ne_blk n_g7_g39)
        have r_v263_g12 := ne_app nb267 (ne_blk n_g12_g39) m16
        have m16 := m16.grown gr266 (ne_blk n_g12_g39)
        have r_v263_g28 := ne_app nb267 (ne_blk n_g28_g39) m35
        have m35 := m35.grown gr266 (ne_blk n_g28_g39)
        have r_v263_g167 := ne_app nb267 (ne_blk n_g39_g167.symm) m171
        have m171 := m171.grown gr266 (ne_blk n_g39_g167.symm)
        have r_v263_g257 := ne_app nb267 (ne_blk n_g39_g257.symm) m261
        have m261 := m261.grown gr266 (ne_blk n_g39_g257.symm)
        have xW := Ext.grown xW gr266 (fun b hb => (OwnL.lt ob262 hb).1)
        refine WX.run rfl rfl (blt rfl) rfl ⟨xW, m6, m11, m16, m35⟩ (Run.appendB (f := Ck.Snap.c) (news := [x]) rfl rfl rfl Try.underlying23 ti42 rfl (by decide) rfl ow265 (fun _ => rfl) Ck.Snap.one m171 rfl xW.size (by have q0 := h_l.len; first | omega | (simp only [List.length_append, List.length_cons, List.length_nil, List.length_take, List.length_drop, List.length_reverse]; omega)) (Nat.le_trans (show _ ≤ 140737488355328 from by have q0 := h_l.len; first | omega | (simp only [List.length_append, List.length_cons, List.length_nil, List.length_take, List.length_drop, List.length_reverse]; omega)) (by decide)) ) ?_
        rintro v268 w269 ⟨ow270, gr271, nb272⟩
        have r_v268_g2 := ne_app nb272 r_v263_g2 m6
        have m6 := m6.grown gr271 r_v263_g2
        have r_v268_g7 := ne_app nb272 r_v263_g7 m11
        have m11 := m11.grown gr271 r_v263_g7
        have r_v268_g12 := ne_app nb272 r_v263_g12 m16
        have m16 := m16.grown gr271 r_v263_g12
        have r_v268_g28 := ne_app nb272 r_v263_g28 m35
        have m35 := m35.grown gr271 r_v263_g28
        have r_v268_g167 := ne_app nb272 r_v263_g167 m171
        have m171 := m171.grown gr271 r_v263_g167
        have r_v268_g257 := ne_app nb272 r_v263_g257 m261
        have m261 := m261.grown gr271 r_v263_g257
        have xW := Ext.grown xW gr271 (fun b hb => (OwnL.lt ow265 hb).1)
        obtain ⟨A273, n274, c275, rfl, hl276⟩ := OwnL.opened ow270 (fun _ => rfl) (by decide)
        have e_n274 := hl276.len
        try simp only [List.length_append, List.length_cons, List.length_nil, List.length_reverse, List.length_drop, List.length_take, List.length_map, List.length_replicate, List.length_set] at e_n274
        have z_n274 := hl276.nle
        refine WX.call rfl rfl (blt rfl) rfl rfl rfl has11 rfl ⟨xW, m6, m11, m16, m35⟩ (of_any _ _ _ _ _ _ _ _ _ _ _ (h_d.ext xW) hl276 (by omega)) ?_
        rintro _ w277 ⟨rfl, x278⟩
        refine ⟨_, rfl, ?_⟩
        have m6 := m6.ext x278
        have m11 := m11.ext x278
        have m16 := m16.ext x278
        have m35 := m35.ext x278
        have m171 := m171.ext x278
        have m261 := m261.ext x278
        have ow270 := ow270.ext x278
        have hl276 := hl276.ext x278
        have xW := Ext.trans xW x278
        refine WX.yld rfl rfl (blt rfl) rfl (Y.move rfl rfl) ?_
        refine WX.yld rfl rfl (blt rfl) rfl (Y.extract rfl rfl rfl) ?_
        refine WX.yld rfl rfl (blt rfl) rfl (Y.extract rfl rfl rfl) ?_
        refine WX.storeB (cs' := [_, _]) rfl ⟨xW, m6, m11, m16, m35⟩ rfl rfl rfl rfl rfl rfl ti29 m261 (ble rfl) rfl rfl (fun w279 on280 m281 => ?_)
        have m6 := m6.only n_g2_g257 on280
        have m11 := m11.only n_g7_g257 on280
        have m16 := m16.only n_g12_g257 on280
        have m35 := m35.only n_g28_g257 on280
        have m171 := m171.only n_g167_g257 on280
        have ow270 := ow270.only r_v268_g257 on280
        have hl276 := OwnL.ls ow270 (fun _ => rfl) (by decide)
        have xW := Ext.only xW on280 o_g257
        refine WX.yld rfl rfl (blt rfl) rfl (Y.assign rfl rfl) ?_
        refine WX.nil ⟨xW, m6, m11, m16, m35⟩ ?_
        refine WK.then_normal (k36 _ _ ?_)
        refine WC.sub [(7, _), (8, _), (9, _), (10, _)] ⟨rfl, rfl, rfl, rfl, trivial⟩ ?_
        refine WC.seq (fun K282 k282 => ?_)
        refine WC.seq (fun K283 k283 => ?_)
        refine WC.region rfl ?_
        refine WL.yld rfl (blt rfl) rfl (Y.move rfl rfl) ?_
        refine WL.yld rfl (blt rfl) rfl (Y.neq rfl rfl rfl) ?_
        refine WL.yld rfl (blt rfl) rfl (Y.move rfl rfl) ?_
        refine WL.yldG rfl (blt rfl) rfl rfl rfl (fun hb => Y.move rfl rfl) ?_
        refine WL.yldG rfl (blt rfl) rfl rfl rfl (fun hb => Y.neq rfl (evg rfl hb) rfl) ?_
        refine WL.yld rfl (blt rfl) rfl (Y.or rfl rfl rfl rfl) ?_
        refine WL.nil ?_
        refine WK.then_normal (k283 _ _ ?_)
        refine WC.sub [(7, _), (9, _), (49, _)] ⟨rfl, rfl, rfl, trivial⟩ ?_
        refine WC.cond rfl (fun h284 => ?_) (fun h284 => ?_)
        ·
          have p284 := ((or_t h284).imp (fun h => (eq_f (not_t h))) (fun h => (eq_f (not_t h))))
          refine WC.seq (fun K285 k285 => ?_)
          refine WC.region rfl ?_
          refine WL.call rfl (blt rfl) rfl rfl rfl has10 rfl (awake_any _ ) ?_
          rintro _ w286 ⟨rfl, x287⟩
          refine ⟨_, rfl, ?_⟩
          have m35 := m35.ext x287
          have m281 := m281.ext x287
          have xW := Ext.trans xW x287
          refine WL.yld rfl (blt rfl) rfl (Y.assign rfl rfl) ?_
          refine WL.nil ?_
          refine WK.then_normal (k285 _ _ ?_)
          refine WC.sub [(6, _)] ⟨rfl, trivial⟩ ?_
          refine WC.ret ?_
          refine WK.then_ret ?_
          clear k1 k17 k18 k25 k36 k282 k283 k285
          refine WK.ret [_] rfl ⟨rfl, trivial⟩ ?_
          exact ⟨ret1 (vb rfl), xW⟩
        ·
          have p284 := (And.intro (eq_t (not_f (or_f h284).1)) (eq_t (not_f (or_f h284).2)))
          have hx0 : (Bd.ofF d l id at_).2 = 0 := by simpa using (Bool.or_eq_false_iff.1 h284).1
          have hx1 : (Bd.ofF d (([] ++ l) ++ [x]) id at_).2 = 0 := by simpa using (Bool.or_eq_false_iff.1 h284).2
          have nw := Bd.narrows (by omega) (by simp; omega) (fun s hs => by simp [hs]) hx0 hx1
          refine WC.skip ?_
          refine WK.then_normal (k282 _ _ ?_)
          refine WC.sub [(7, _), (9, _)] ⟨rfl, rfl, trivial⟩ ?_
          refine WC.seq (fun K288 k288 => ?_)
          refine WC.region rfl ?_
          refine WL.yld rfl (blt rfl) rfl (Y.fieldAddr rfl Try.underlying29 rfl ti3 (by decide) rfl) ?_
          refine WL.yld rfl (blt rfl) rfl (Y.load1 rfl Try.underlying3 rfl rfl (Blk.at_eq m281 rfl)) ?_
          refine WL.yld rfl (blt rfl) rfl (Y.fieldAddr rfl Try.underlying29 rfl ti3 (by decide) rfl) ?_
          refine WL.yld rfl (blt rfl) rfl (Y.load1 rfl Try.underlying3 rfl rfl (Blk.at_eq m35 rfl)) ?_
          refine WL.yld rfl (blt rfl) rfl (Yld.cast (Y.geq rfl rfl rfl) (bt nw.1)) ?_
          refine WL.yld rfl (blt rfl) rfl (Y.move rfl rfl) ?_
          refine WL.yldW rfl (blt rfl) rfl rfl rfl (Y.fieldAddr rfl Try.underlying29 rfl ti3 (by decide) rfl) ?_
          refine WL.yldW rfl (blt rfl) rfl rfl rfl (Y.load1 rfl Try.underlying3 rfl rfl (Blk.at_eq m281 rfl)) ?_
          refine WL.yldW rfl (blt rfl) rfl rfl rfl (Y.fieldAddr rfl Try.underlying29 rfl ti3 (by decide) rfl) ?_
          refine WL.yldW rfl (blt rfl) rfl rfl rfl (Y.load1 rfl Try.underlying3 rfl rfl (Blk.at_eq m35 rfl)) ?_
          refine WL.yldW rfl (blt rfl) rfl rfl rfl (Yld.cast (Y.leq rfl rfl rfl) (bt nw.2)) ?_
          refine WL.yld rfl (blt rfl) rfl (Y.pickT rfl rfl rfl) ?_
          refine WL.yld rfl (blt rfl) rfl (Y.move rfl rfl) ?_
          refine WL.callW rfl (blt rfl) rfl rfl rfl rfl rfl has10 rfl (awake_any _ ) ?_
          rintro _ w289 ⟨rfl, x290⟩
          refine ⟨_, rfl, ?_⟩
          have m35 := m35.ext x290
          have m281 := m281.ext x290
          have xW := Ext.trans xW x290
          refine WL.yld rfl (blt rfl) rfl (Y.pickT rfl rfl rfl) ?_
          refine WL.yld rfl (blt rfl) rfl (Y.assign rfl rfl) ?_
          refine WL.nil ?_
          refine WK.then_normal (k288 _ _ ?_)
          refine WC.sub [(6, _)] ⟨rfl, trivial⟩ ?_
          refine WC.ret ?_
          clear k1 k17 k18 k25 k36 k282 k283 k288
          refine WK.ret [_] rfl ⟨rfl, trivial⟩ ?_
          exact ⟨ret1 (vb rfl), xW⟩
      refine WX.run rfl rfl (blt rfl) rfl ⟨xW, m6, m11, m16, m35⟩ (Run.alloc rfl ti29 rfl) ?_
      rintro _ w292 ⟨g291, rfl, e293, x294, m295⟩
      have n_g2_g291 := ne_new m6 e293
      have n_g7_g291 := ne_new m11 e293
      have n_g12_g291 := ne_new m16 e293
      have n_g28_g291 := ne_new m35 e293
      have n_g39_g291 := ne_new m43 e293
      have o_g291 := own_new xW e293
      have m6 := m6.ext x294
      have m11 := m11.ext x294
      have m16 := m16.ext x294
      have m35 := m35.ext x294
      have m43 := m43.ext x294
      have xW := Ext.trans xW x294
      refine WX.alt ?_ ?_
      ·
        have ob296 := Blk.own (sz := 5) (f := Ck.Snap.c) (l := ([] : List Ck.Snap)) (base := w.heap.size) m43 o_g39 (fun _ => rfl) rfl (by decide) rfl
        refine WX.run rfl rfl (blt rfl) rfl ⟨xW, m6, m11, m16, m35⟩ (Run.appendL (f := Ck.Snap.c) rfl rfl rfl Try.underlying23 ti42 rfl (by decide) rfl ob296 (fun _ => rfl) Ck.Snap.one (h_l.ext xW) xW.size (by have q0 := h_l.len; first | omega | (simp only [List.length_append, List.length_cons, List.length_nil, List.length_take, List.length_drop, List.length_reverse]; omega)) (Nat.le_trans (show _ ≤ 140737488355328 from by have q0 := h_l.len; first | omega | (simp only [List.length_append, List.length_cons, List.length_nil, List.length_take, List.length_drop, List.length_reverse]; omega)) (by decide)) ) ?_
        rintro v297 w298 ⟨ow299, gr300, nb301⟩
        have r_v297_g2 := ne_app nb301 (ne_blk n_g2_g39) m6
        have m6 := m6.grown gr300 (ne_blk n_g2_g39)
        have r_v297_g7 := ne_app nb301 (ne_blk n_g7_g39) m11
        have m11 := m11.grown gr300 (ne_blk n_g7_g39)
        have r_v297_g12 := ne_app nb301 (ne_blk n_g12_g39) m16
        have m16 := m16.grown gr300 (ne_blk n_g12_g39)
        have r_v297_g28 := ne_app nb301 (ne_blk n_g28_g39) m35
        have m35 := m35.grown gr300 (ne_blk n_g28_g39)
        have r_v297_g291 := ne_app nb301 (ne_blk n_g39_g291.symm) m295
        have m295 := m295.grown gr300 (ne_blk n_g39_g291.symm)
        have xW := Ext.grown xW gr300 (fun b hb => (OwnL.lt ob296 hb).1)
        refine WX.run rfl rfl (blt rfl) rfl ⟨xW, m6, m11, m16, m35⟩ (Run.bslice (zs := [.int .i64 0, .int .i64 0, .int .i64 0, .int .i64 0, .int .i64 0]) (cs := [_, _, _, _, _]) rfl Try.underlying23 ti42 rfl (ble rfl) (by kernel_rfl) rfl rfl) ?_
        rintro _ w303 ⟨g302, rfl, e304, x305, m306⟩
        have n_g2_g302 := ne_new m6 e304
        have n_g7_g302 := ne_new m11 e304
        have n_g12_g302 := ne_new m16 e304
        have n_g28_g302 := ne_new m35 e304
        have n_g291_g302 := ne_new m295 e304
        have r_v297_g302 := ne_newO ow299 e304
        have o_g302 := own_new xW e304
        have m6 := m6.ext x305
        have m11 := m11.ext x305
        have m16 := m16.ext x305
        have m35 := m35.ext x305
        have m295 := m295.ext x305
        have ow299 := ow299.ext x305
        have xW := Ext.trans xW x305
        refine WX.run rfl rfl (blt rfl) rfl ⟨xW, m6, m11, m16, m35⟩ (Run.appendB (f := Ck.Snap.c) (news := [x]) rfl rfl rfl Try.underlying23 ti42 rfl (by decide) rfl ow299 (fun _ => rfl) Ck.Snap.one m306 rfl xW.size (by have q0 := h_l.len; first | omega | (simp only [List.length_append, List.length_cons, List.length_nil, List.length_take, List.length_drop, List.length_reverse]; omega)) (Nat.le_trans (show _ ≤ 140737488355328 from by have q0 := h_l.len; first | omega | (simp only [List.length_append, List.length_cons, List.length_nil, List.length_take, List.length_drop, List.length_reverse]; omega)) (by decide)) ) ?_
        rintro v307 w308 ⟨ow309, gr310, nb311⟩
        have r_v307_g2 := ne_app nb311 r_v297_g2 m6
        have m6 := m6.grown gr310 r_v297_g2
        have r_v307_g7 := ne_app nb311 r_v297_g7 m11
        have m11 := m11.grown gr310 r_v297_g7
        have r_v307_g12 := ne_app nb311 r_v297_g12 m16
        have m16 := m16.grown gr310 r_v297_g12
        have r_v307_g28 := ne_app nb311 r_v297_g28 m35
        have m35 := m35.grown gr310 r_v297_g28
        have r_v307_g291 := ne_app nb311 r_v297_g291 m295
        have m295 := m295.grown gr310 r_v297_g291
        have r_v307_g302 := ne_app nb311 r_v297_g302 m306
        have m306 := m306.grown gr310 r_v297_g302
        have xW := Ext.grown xW gr310 (fun b hb => (OwnL.lt ow299 hb).1)
        obtain ⟨A312, n313, c314, rfl, hl315⟩ := OwnL.opened ow309 (fun _ => rfl) (by decide)
        have e_n313 := hl315.len
        try simp only [List.length_append, List.length_cons, List.length_nil, List.length_reverse, List.length_drop, List.length_take, List.length_map, List.length_replicate, List.length_set] at e_n313
        have z_n313 := hl315.nle
        refine WX.call rfl rfl (blt rfl) rfl rfl rfl has11 rfl ⟨xW, m6, m11, m16, m35⟩ (of_any _ _ _ _ _ _ _ _ _ _ _ (h_d.ext xW) hl315 (by omega)) ?_
        rintro _ w316 ⟨rfl, x317⟩
        refine ⟨_, rfl, ?_⟩
        have m6 := m6.ext x317
        have m11 := m11.ext x317
        have m16 := m16.ext x317
        have m35 := m35.ext x317
        have m295 := m295.ext x317
        have m306 := m306.ext x317
        have ow309 := ow309.ext x317
        have hl315 := hl315.ext x317
        have xW := Ext.trans xW x317
        refine WX.yld rfl rfl (blt rfl) rfl (Y.move rfl rfl) ?_
        refine WX.yld rfl rfl (blt rfl) rfl (Y.extract rfl rfl rfl) ?_
        refine WX.yld rfl rfl (blt rfl) rfl (Y.extract rfl rfl rfl) ?_
        refine WX.storeB (cs' := [_, _]) rfl ⟨xW, m6, m11, m16, m35⟩ rfl rfl rfl rfl rfl rfl ti29 m295 (ble rfl) rfl rfl (fun w318 on319 m320 => ?_)
        have m6 := m6.only n_g2_g291 on319
        have m11 := m11.only n_g7_g291 on319
        have m16 := m16.only n_g12_g291 on319
        have m35 := m35.only n_g28_g291 on319
        have m306 := m306.only n_g291_g302.symm on319
        have ow309 := ow309.only r_v307_g291 on319
        have hl315 := OwnL.ls ow309 (fun _ => rfl) (by decide)
        have xW := Ext.only xW on319 o_g291
        refine WX.yld rfl rfl (blt rfl) rfl (Y.assign rfl rfl) ?_
        refine WX.nil ⟨xW, m6, m11, m16, m35⟩ ?_
        refine WK.then_normal (k36 _ _ ?_)
        refine WC.sub [(7, _), (8, _), (9, _), (10, _)] ⟨rfl, rfl, rfl, rfl, trivial⟩ ?_
        refine WC.seq (fun K321 k321 => ?_)
        refine WC.seq (fun K322 k322 => ?_)
        refine WC.region rfl ?_
        refine WL.yld rfl (blt rfl) rfl (Y.move rfl rfl) ?_
        refine WL.yld rfl (blt rfl) rfl (Y.neq rfl rfl rfl) ?_
        refine WL.yld rfl (blt rfl) rfl (Y.move rfl rfl) ?_
        refine WL.yldG rfl (blt rfl) rfl rfl rfl (fun hb => Y.move rfl rfl) ?_
        refine WL.yldG rfl (blt rfl) rfl rfl rfl (fun hb => Y.neq rfl (evg rfl hb) rfl) ?_
        refine WL.yld rfl (blt rfl) rfl (Y.or rfl rfl rfl rfl) ?_
        refine WL.nil ?_
        refine WK.then_normal (k322 _ _ ?_)
        refine WC.sub [(7, _), (9, _), (49, _)] ⟨rfl, rfl, rfl, trivial⟩ ?_
        refine WC.cond rfl (fun h323 => ?_) (fun h323 => ?_)
        ·
          have p323 := ((or_t h323).imp (fun h => (eq_f (not_t h))) (fun h => (eq_f (not_t h))))
          refine WC.seq (fun K324 k324 => ?_)
          refine WC.region rfl ?_
          refine WL.call rfl (blt rfl) rfl rfl rfl has10 rfl (awake_any _ ) ?_
          rintro _ w325 ⟨rfl, x326⟩
          refine ⟨_, rfl, ?_⟩
          have m35 := m35.ext x326
          have m320 := m320.ext x326
          have xW := Ext.trans xW x326
          refine WL.yld rfl (blt rfl) rfl (Y.assign rfl rfl) ?_
          refine WL.nil ?_
          refine WK.then_normal (k324 _ _ ?_)
          refine WC.sub [(6, _)] ⟨rfl, trivial⟩ ?_
          refine WC.ret ?_
          refine WK.then_ret ?_
          clear k1 k17 k18 k25 k36 k321 k322 k324
          refine WK.ret [_] rfl ⟨rfl, trivial⟩ ?_
          exact ⟨ret1 (vb rfl), xW⟩
        ·
          have p323 := (And.intro (eq_t (not_f (or_f h323).1)) (eq_t (not_f (or_f h323).2)))
          have hx0 : (Bd.ofF d l id at_).2 = 0 := by simpa using (Bool.or_eq_false_iff.1 h323).1
          have hx1 : (Bd.ofF d (([] ++ l) ++ [x]) id at_).2 = 0 := by simpa using (Bool.or_eq_false_iff.1 h323).2
          have nw := Bd.narrows (by omega) (by simp; omega) (fun s hs => by simp [hs]) hx0 hx1
          refine WC.skip ?_
          refine WK.then_normal (k321 _ _ ?_)
          refine WC.sub [(7, _), (9, _)] ⟨rfl, rfl, trivial⟩ ?_
          refine WC.seq (fun K327 k327 => ?_)
          refine WC.region rfl ?_
          refine WL.yld rfl (blt rfl) rfl (Y.fieldAddr rfl Try.underlying29 rfl ti3 (by decide) rfl) ?_
          refine WL.yld rfl (blt rfl) rfl (Y.load1 rfl Try.underlying3 rfl rfl (Blk.at_eq m320 rfl)) ?_
          refine WL.yld rfl (blt rfl) rfl (Y.fieldAddr rfl Try.underlying29 rfl ti3 (by decide) rfl) ?_
          refine WL.yld rfl (blt rfl) rfl (Y.load1 rfl Try.underlying3 rfl rfl (Blk.at_eq m35 rfl)) ?_
          refine WL.yld rfl (blt rfl) rfl (Yld.cast (Y.geq rfl rfl rfl) (bt nw.1)) ?_
          refine WL.yld rfl (blt rfl) rfl (Y.move rfl rfl) ?_
          refine WL.yldW rfl (blt rfl) rfl rfl rfl (Y.fieldAddr rfl Try.underlying29 rfl ti3 (by decide) rfl) ?_
          refine WL.yldW rfl (blt rfl) rfl rfl rfl (Y.load1 rfl Try.underlying3 rfl rfl (Blk.at_eq m320 rfl)) ?_
          refine WL.yldW rfl (blt rfl) rfl rfl rfl (Y.fieldAddr rfl Try.underlying29 rfl ti3 (by decide) rfl) ?_
          refine WL.yldW rfl (blt rfl) rfl rfl rfl (Y.load1 rfl Try.underlying3 rfl rfl (Blk.at_eq m35 rfl)) ?_
          refine WL.yldW rfl (blt rfl) rfl rfl rfl (Yld.cast (Y.leq rfl rfl rfl) (bt nw.2)) ?_
          refine WL.yld rfl (blt rfl) rfl (Y.pickT rfl rfl rfl) ?_
          refine WL.yld rfl (blt rfl) rfl (Y.move rfl rfl) ?_
          refine WL.callW rfl (blt rfl) rfl rfl rfl rfl rfl has10 rfl (awake_any _ ) ?_
          rintro _ w328 ⟨rfl, x329⟩
          refine ⟨_, rfl, ?_⟩
          have m35 := m35.ext x329
          have m320 := m320.ext x329
          have xW := Ext.trans xW x329
          refine WL.yld rfl (blt rfl) rfl (Y.pickT rfl rfl rfl) ?_
          refine WL.yld rfl (blt rfl) rfl (Y.assign rfl rfl) ?_
          refine WL.nil ?_
          refine WK.then_normal (k327 _ _ ?_)
          refine WC.sub [(6, _)] ⟨rfl, trivial⟩ ?_
          refine WC.ret ?_
          clear k1 k17 k18 k25 k36 k321 k322 k327
          refine WK.ret [_] rfl ⟨rfl, trivial⟩ ?_
          exact ⟨ret1 (vb rfl), xW⟩
      refine WX.run rfl rfl (blt rfl) rfl ⟨xW, m6, m11, m16, m35⟩ (Run.bslice (zs := [.int .i64 0, .int .i64 0, .int .i64 0, .int .i64 0, .int .i64 0]) (cs := [_, _, _, _, _]) rfl Try.underlying23 ti42 rfl (ble rfl) (by kernel_rfl) rfl rfl) ?_
      rintro _ w331 ⟨g330, rfl, e332, x333, m334⟩
      have n_g2_g330 := ne_new m6 e332
      have n_g7_g330 := ne_new m11 e332
      have n_g12_g330 := ne_new m16 e332
      have n_g28_g330 := ne_new m35 e332
      have n_g39_g330 := ne_new m43 e332
      have n_g291_g330 := ne_new m295 e332
      have o_g330 := own_new xW e332
      have m6 := m6.ext x333
      have m11 := m11.ext x333
      have m16 := m16.ext x333
      have m35 := m35.ext x333
      have m43 := m43.ext x333
      have m295 := m295.ext x333
      have xW := Ext.trans xW x333
      have ob335 := Blk.own (sz := 5) (f := Ck.Snap.c) (l := ([] : List Ck.Snap)) (base := w.heap.size) m43 o_g39 (fun _ => rfl) rfl (by decide) rfl
      refine WX.run rfl rfl (blt rfl) rfl ⟨xW, m6, m11, m16, m35⟩ (Run.appendL (f := Ck.Snap.c) rfl rfl rfl Try.underlying23 ti42 rfl (by decide) rfl ob335 (fun _ => rfl) Ck.Snap.one (h_l.ext xW) xW.size (by have q0 := h_l.len; first | omega | (simp only [List.length_append, List.length_cons, List.length_nil, List.length_take, List.length_drop, List.length_reverse]; omega)) (Nat.le_trans (show _ ≤ 140737488355328 from by have q0 := h_l.len; first | omega | (simp only [List.length_append, List.length_cons, List.length_nil, List.length_take, List.length_drop, List.length_reverse]; omega)) (by decide)) ) ?_
      rintro v336 w337 ⟨ow338, gr339, nb340⟩
      have r_v336_g2 := ne_app nb340 (ne_blk n_g2_g39) m6
      have m6 := m6.grown gr339 (ne_blk n_g2_g39)
      have r_v336_g7 := ne_app nb340 (ne_blk n_g7_g39) m11
      have m11 := m11.grown gr339 (ne_blk n_g7_g39)
      have r_v336_g12 := ne_app nb340 (ne_blk n_g12_g39) m16
      have m16 := m16.grown gr339 (ne_blk n_g12_g39)
      have r_v336_g28 := ne_app nb340 (ne_blk n_g28_g39) m35
      have m35 := m35.grown gr339 (ne_blk n_g28_g39)
      have r_v336_g291 := ne_app nb340 (ne_blk n_g39_g291.symm) m295
      have m295 := m295.grown gr339 (ne_blk n_g39_g291.symm)
      have r_v336_g330 := ne_app nb340 (ne_blk n_g39_g330.symm) m334
      have m334 := m334.grown gr339 (ne_blk n_g39_g330.symm)
      have xW := Ext.grown xW gr339 (fun b hb => (OwnL.lt ob335 hb).1)
      refine WX.run rfl rfl (blt rfl) rfl ⟨xW, m6, m11, m16, m35⟩ (Run.appendB (f := Ck.Snap.c) (news := [x]) rfl rfl rfl Try.underlying23 ti42 rfl (by decide) rfl ow338 (fun _ => rfl) Ck.Snap.one m334 rfl xW.size (by have q0 := h_l.len; first | omega | (simp only [List.length_append, List.length_cons, List.length_nil, List.length_take, List.length_drop, List.length_reverse]; omega)) (Nat.le_trans (show _ ≤ 140737488355328 from by have q0 := h_l.len; first | omega | (simp only [List.length_append, List.length_cons, List.length_nil, List.length_take, List.length_drop, List.length_reverse]; omega)) (by decide)) ) ?_
      rintro v341 w342 ⟨ow343, gr344, nb345⟩
      have r_v341_g2 := ne_app nb345 r_v336_g2 m6
      have m6 := m6.grown gr344 r_v336_g2
      have r_v341_g7 := ne_app nb345 r_v336_g7 m11
      have m11 := m11.grown gr344 r_v336_g7
      have r_v341_g12 := ne_app nb345 r_v336_g12 m16
      have m16 := m16.grown gr344 r_v336_g12
      have r_v341_g28 := ne_app nb345 r_v336_g28 m35
      have m35 := m35.grown gr344 r_v336_g28
      have r_v341_g291 := ne_app nb345 r_v336_g291 m295
      have m295 := m295.grown gr344 r_v336_g291
      have r_v341_g330 := ne_app nb345 r_v336_g330 m334
      have m334 := m334.grown gr344 r_v336_g330
      have xW := Ext.grown xW gr344 (fun b hb => (OwnL.lt ow338 hb).1)
      obtain ⟨A346, n347, c348, rfl, hl349⟩ := OwnL.opened ow343 (fun _ => rfl) (by decide)
      have e_n347 := hl349.len
      try simp only [List.length_append, List.length_cons, List.length_nil, List.length_reverse, List.length_drop, List.length_take, List.length_map, List.length_replicate, List.length_set] at e_n347
      have z_n347 := hl349.nle
      refine WX.call rfl rfl (blt rfl) rfl rfl rfl has11 rfl ⟨xW, m6, m11, m16, m35⟩ (of_any _ _ _ _ _ _ _ _ _ _ _ (h_d.ext xW) hl349 (by omega)) ?_
      rintro _ w350 ⟨rfl, x351⟩
      refine ⟨_, rfl, ?_⟩
      have m6 := m6.ext x351
      have m11 := m11.ext x351
      have m16 := m16.ext x351
      have m35 := m35.ext x351
      have m295 := m295.ext x351
      have m334 := m334.ext x351
      have ow343 := ow343.ext x351
      have hl349 := hl349.ext x351
      have xW := Ext.trans xW x351
      refine WX.yld rfl rfl (blt rfl) rfl (Y.move rfl rfl) ?_
      refine WX.yld rfl rfl (blt rfl) rfl (Y.extract rfl rfl rfl) ?_
      refine WX.yld rfl rfl (blt rfl) rfl (Y.extract rfl rfl rfl) ?_
      refine WX.storeB (cs' := [_, _]) rfl ⟨xW, m6, m11, m16, m35⟩ rfl rfl rfl rfl rfl rfl ti29 m295 (ble rfl) rfl rfl (fun w352 on353 m354 => ?_)
      have m6 := m6.only n_g2_g291 on353
      have m11 := m11.only n_g7_g291 on353
      have m16 := m16.only n_g12_g291 on353
      have m35 := m35.only n_g28_g291 on353
      have m334 := m334.only n_g291_g330.symm on353
      have ow343 := ow343.only r_v341_g291 on353
      have hl349 := OwnL.ls ow343 (fun _ => rfl) (by decide)
      have xW := Ext.only xW on353 o_g291
      refine WX.yld rfl rfl (blt rfl) rfl (Y.assign rfl rfl) ?_
      refine WX.nil ⟨xW, m6, m11, m16, m35⟩ ?_
      refine WK.then_normal (k36 _ _ ?_)
      refine WC.sub [(7, _), (8, _), (9, _), (10, _)] ⟨rfl, rfl, rfl, rfl, trivial⟩ ?_
      refine WC.seq (fun K355 k355 => ?_)
      refine WC.seq (fun K356 k356 => ?_)
      refine WC.region rfl ?_
      refine WL.yld rfl (blt rfl) rfl (Y.move rfl rfl) ?_
      refine WL.yld rfl (blt rfl) rfl (Y.neq rfl rfl rfl) ?_
      refine WL.yld rfl (blt rfl) rfl (Y.move rfl rfl) ?_
      refine WL.yldG rfl (blt rfl) rfl rfl rfl (fun hb => Y.move rfl rfl) ?_
      refine WL.yldG rfl (blt rfl) rfl rfl rfl (fun hb => Y.neq rfl (evg rfl hb) rfl) ?_
      refine WL.yld rfl (blt rfl) rfl (Y.or rfl rfl rfl rfl) ?_
      refine WL.nil ?_
      refine WK.then_normal (k356 _ _ ?_)
      refine WC.sub [(7, _), (9, _), (49, _)] ⟨rfl, rfl, rfl, trivial⟩ ?_
      refine WC.cond rfl (fun h357 => ?_) (fun h357 => ?_)
      ·
        have p357 := ((or_t h357).imp (fun h => (eq_f (not_t h))) (fun h => (eq_f (not_t h))))
        refine WC.seq (fun K358 k358 => ?_)
        refine WC.region rfl ?_
        refine WL.call rfl (blt rfl) rfl rfl rfl has10 rfl (awake_any _ ) ?_
        rintro _ w359 ⟨rfl, x360⟩
        refine ⟨_, rfl, ?_⟩
        have m35 := m35.ext x360
        have m354 := m354.ext x360
        have xW := Ext.trans xW x360
        refine WL.yld rfl (blt rfl) rfl (Y.assign rfl rfl) ?_
        refine WL.nil ?_
        refine WK.then_normal (k358 _ _ ?_)
        refine WC.sub [(6, _)] ⟨rfl, trivial⟩ ?_
        refine WC.ret ?_
        refine WK.then_ret ?_
        clear k1 k17 k18 k25 k36 k355 k356 k358
        refine WK.ret [_] rfl ⟨rfl, trivial⟩ ?_
        exact ⟨ret1 (vb rfl), xW⟩
      ·
        have p357 := (And.intro (eq_t (not_f (or_f h357).1)) (eq_t (not_f (or_f h357).2)))
        have hx0 : (Bd.ofF d l id at_).2 = 0 := by simpa using (Bool.or_eq_false_iff.1 h357).1
        have hx1 : (Bd.ofF d (([] ++ l) ++ [x]) id at_).2 = 0 := by simpa using (Bool.or_eq_false_iff.1 h357).2
        have nw := Bd.narrows (by omega) (by simp; omega) (fun s hs => by simp [hs]) hx0 hx1
        refine WC.skip ?_
        refine WK.then_normal (k355 _ _ ?_)
        refine WC.sub [(7, _), (9, _)] ⟨rfl, rfl, trivial⟩ ?_
        refine WC.seq (fun K361 k361 => ?_)
        refine WC.region rfl ?_
        refine WL.yld rfl (blt rfl) rfl (Y.fieldAddr rfl Try.underlying29 rfl ti3 (by decide) rfl) ?_
        refine WL.yld rfl (blt rfl) rfl (Y.load1 rfl Try.underlying3 rfl rfl (Blk.at_eq m354 rfl)) ?_
        refine WL.yld rfl (blt rfl) rfl (Y.fieldAddr rfl Try.underlying29 rfl ti3 (by decide) rfl) ?_
        refine WL.yld rfl (blt rfl) rfl (Y.load1 rfl Try.underlying3 rfl rfl (Blk.at_eq m35 rfl)) ?_
        refine WL.yld rfl (blt rfl) rfl (Yld.cast (Y.geq rfl rfl rfl) (bt nw.1)) ?_
        refine WL.yld rfl (blt rfl) rfl (Y.move rfl rfl) ?_
        refine WL.yldW rfl (blt rfl) rfl rfl rfl (Y.fieldAddr rfl Try.underlying29 rfl ti3 (by decide) rfl) ?_
        refine WL.yldW rfl (blt rfl) rfl rfl rfl (Y.load1 rfl Try.underlying3 rfl rfl (Blk.at_eq m354 rfl)) ?_
        refine WL.yldW rfl (blt rfl) rfl rfl rfl (Y.fieldAddr rfl Try.underlying29 rfl ti3 (by decide) rfl) ?_
        refine WL.yldW rfl (blt rfl) rfl rfl rfl (Y.load1 rfl Try.underlying3 rfl rfl (Blk.at_eq m35 rfl)) ?_
        refine WL.yldW rfl (blt rfl) rfl rfl rfl (Yld.cast (Y.leq rfl rfl rfl) (bt nw.2)) ?_
        refine WL.yld rfl (blt rfl) rfl (Y.pickT rfl rfl rfl) ?_
        refine WL.yld rfl (blt rfl) rfl (Y.move rfl rfl) ?_
        refine WL.callW rfl (blt rfl) rfl rfl rfl rfl rfl has10 rfl (awake_any _ ) ?_
        rintro _ w362 ⟨rfl, x363⟩
        refine ⟨_, rfl, ?_⟩
        have m35 := m35.ext x363
        have m354 := m354.ext x363
        have xW := Ext.trans xW x363
        refine WL.yld rfl (blt rfl) rfl (Y.pickT rfl rfl rfl) ?_
        refine WL.yld rfl (blt rfl) rfl (Y.assign rfl rfl) ?_
        refine WL.nil ?_
        refine WK.then_normal (k361 _ _ ?_)
        refine WC.sub [(6, _)] ⟨rfl, trivial⟩ ?_
        refine WC.ret ?_
        clear k1 k17 k18 k25 k36 k355 k356 k361
        refine WK.ret [_] rfl ⟨rfl, trivial⟩ ?_
        exact ⟨ret1 (vb rfl), xW⟩
    refine WX.alt ?_ ?_
    ·
      refine WX.run rfl rfl (blt rfl) rfl ⟨xW, m6, m11, m16, m35⟩ (Run.bslice (zs := [.int .i64 0, .int .i64 0, .int .i64 0, .int .i64 0, .int .i64 0]) (cs := [_, _, _, _, _]) rfl Try.underlying23 ti42 rfl (ble rfl) (by kernel_rfl) rfl rfl) ?_
      rintro _ w365 ⟨g364, rfl, e366, x367, m368⟩
      have n_g2_g364 := ne_new m6 e366
      have n_g7_g364 := ne_new m11 e366
      have n_g12_g364 := ne_new m16 e366
      have n_g28_g364 := ne_new m35 e366
      have o_g364 := own_new xW e366
      have m6 := m6.ext x367
      have m11 := m11.ext x367
      have m16 := m16.ext x367
      have m35 := m35.ext x367
      have xW := Ext.trans xW x367
      refine WX.alt ?_ ?_
      ·
        refine WX.run rfl rfl (blt rfl) rfl ⟨xW, m6, m11, m16, m35⟩ (Run.bslice0 rfl Try.underlying23 ti42) ?_
        rintro _ w370 ⟨g369, rfl, e371, x372, m373⟩
        have n_g2_g369 := ne_new m6 e371
        have n_g7_g369 := ne_new m11 e371
        have n_g12_g369 := ne_new m16 e371
        have n_g28_g369 := ne_new m35 e371
        have n_g364_g369 := ne_new m368 e371
        have o_g369 := own_new xW e371
        have m6 := m6.ext x372
        have m11 := m11.ext x372
        have m16 := m16.ext x372
        have m35 := m35.ext x372
        have m368 := m368.ext x372
        have xW := Ext.trans xW x372
        refine WX.alt ?_ ?_
        ·
          have ob374 := Blk.own (sz := 5) (f := Ck.Snap.c) (l := ([] : List Ck.Snap)) (base := w.heap.size) m373 o_g369 (fun _ => rfl) rfl (by decide) rfl
          refine WX.run rfl rfl (blt rfl) rfl ⟨xW, m6, m11, m16, m35⟩ (Run.appendL (f := Ck.Snap.c) rfl rfl rfl Try.underlying23 ti42 rfl (by decide) rfl ob374 (fun _ => rfl) Ck.Snap.one (h_l.ext xW) xW.size (by have q0 := h_l.len; first | omega | (simp only [List.length_append, List.length_cons, List.length_nil, List.length_take, List.length_drop, List.length_reverse]; omega)) (Nat.le_trans (show _ ≤ 140737488355328 from by have q0 := h_l.len; first | omega | (simp only [List.length_append, List.length_cons, List.length_nil, List.length_take, List.length_drop, List.length_reverse]; omega)) (by decide)) ) ?_
          rintro v375 w376 ⟨ow377, gr378, nb379⟩
          have r_v375_g2 := ne_app nb379 (ne_blk n_g2_g369) m6
          have m6 := m6.grown gr378 (ne_blk n_g2_g369)
          have r_v375_g7 := ne_app nb379 (ne_blk n_g7_g369) m11
          have m11 := m11.grown gr378 (ne_blk n_g7_g369)
          have r_v375_g12 := ne_app nb379 (ne_blk n_g12_g369) m16
          have m16 := m16.grown gr378 (ne_blk n_g12_g369)
          have r_v375_g28 := ne_app nb379 (ne_blk n_g28_g369) m35
          have m35 := m35.grown gr378 (ne_blk n_g28_g369)
          have r_v375_g364 := ne_app nb379 (ne_blk n_g364_g369) m368
          have m368 := m368.grown gr378 (ne_blk n_g364_g369)
          have xW := Ext.grown xW gr378 (fun b hb => (OwnL.lt ob374 hb).1)
          refine WX.alt ?_ ?_
          ·
            refine WX.run rfl rfl (blt rfl) rfl ⟨xW, m6, m11, m16, m35⟩ (Run.appendB (f := Ck.Snap.c) (news := [x]) rfl rfl rfl Try.underlying23 ti42 rfl (by decide) rfl ow377 (fun _ => rfl) Ck.Snap.one m368 rfl xW.size (by have q0 := h_l.len; first | omega | (simp only [List.length_append, List.length_cons, List.length_nil, List.length_take, List.length_drop, List.length_reverse]; omega)) (Nat.le_trans (show _ ≤ 140737488355328 from by have q0 := h_l.len; first | omega | (simp only [List.length_append, List.length_cons, List.length_nil, List.length_take, List.length_drop, List.length_reverse]; omega)) (by decide)) ) ?_
            rintro v380 w381 ⟨ow382, gr383, nb384⟩
            have r_v380_g2 := ne_app nb384 r_v375_g2 m6
            have m6 := m6.grown gr383 r_v375_g2
            have r_v380_g7 := ne_app nb384 r_v375_g7 m11
            have m11 := m11.grown gr383 r_v375_g7
            have r_v380_g12 := ne_app nb384 r_v375_g12 m16
            have m16 := m16.grown gr383 r_v375_g12
            have r_v380_g28 := ne_app nb384 r_v375_g28 m35
            have m35 := m35.grown gr383 r_v375_g28
            have r_v380_g364 := ne_app nb384 r_v375_g364 m368
            have m368 := m368.grown gr383 r_v375_g364
            have xW := Ext.grown xW gr383 (fun b hb => (OwnL.lt ow377 hb).1)
            refine WX.alt ?_ ?_
            ·
              obtain ⟨A385, n386, c387, rfl, hl388⟩ := OwnL.opened ow382 (fun _ => rfl) (by decide)
              have e_n386 := hl388.len
              try simp only [List.length_append, List.length_cons, List.length_nil, List.length_reverse, List.length_drop, List.length_take, List.length_map, List.length_replicate, List.length_set] at e_n386
              have z_n386 := hl388.nle
              refine WX.call rfl rfl (blt rfl) rfl rfl rfl has11 rfl ⟨xW, m6, m11, m16, m35⟩ (of_any _ _ _ _ _ _ _ _ _ _ _ (h_d.ext xW) hl388 (by omega)) ?_
              rintro _ w389 ⟨rfl, x390⟩
              refine ⟨_, rfl, ?_⟩
              have m6 := m6.ext x390
              have m11 := m11.ext x390
              have m16 := m16.ext x390
              have m35 := m35.ext x390
              have m368 := m368.ext x390
              have ow382 := ow382.ext x390
              have hl388 := hl388.ext x390
              have xW := Ext.trans xW x390
              refine WX.yld rfl rfl (blt rfl) rfl (Y.move rfl rfl) ?_
              refine WX.yld rfl rfl (blt rfl) rfl (Y.extract rfl rfl rfl) ?_
              refine WX.yld rfl rfl (blt rfl) rfl (Y.extract rfl rfl rfl) ?_
              refine WX.run rfl rfl (blt rfl) rfl ⟨xW, m6, m11, m16, m35⟩ (Run.alloc rfl ti29 rfl) ?_
              rintro _ w392 ⟨g391, rfl, e393, x394, m395⟩
              have n_g2_g391 := ne_new m6 e393
              have n_g7_g391 := ne_new m11 e393
              have n_g12_g391 := ne_new m16 e393
              have n_g28_g391 := ne_new m35 e393
              have n_g364_g391 := ne_new m368 e393
              have r_v380_g391 := ne_newO ow382 e393
              have o_g391 := own_new xW e393
              have m6 := m6.ext x394
              have m11 := m11.ext x394
              have m16 := m16.ext x394
              have m35 := m35.ext x394
              have m368 := m368.ext x394
              have ow382 := ow382.ext x394
              have hl388 := hl388.ext x394
              have xW := Ext.trans xW x394
              refine WX.storeB (cs' := [_, _]) rfl ⟨xW, m6, m11, m16, m35⟩ rfl rfl rfl rfl rfl rfl ti29 m395 (ble rfl) rfl rfl (fun w396 on397 m398 => ?_)
              have m6 := m6.only n_g2_g391 on397
              have m11 := m11.only n_g7_g391 on397
              have m16 := m16.only n_g12_g391 on397
              have m35 := m35.only n_g28_g391 on397
              have m368 := m368.only n_g364_g391 on397
              have ow382 := ow382.only r_v380_g391 on397
              have hl388 := OwnL.ls ow382 (fun _ => rfl) (by decide)
              have xW := Ext.only xW on397 o_g391
              refine WX.yld rfl rfl (blt rfl) rfl (Y.assign rfl rfl) ?_
              refine WX.nil ⟨xW, m6, m11, m16, m35⟩ ?_
              refine WK.then_normal (k36 _ _ ?_)
              refine WC.sub [(7, _), (8, _), (9, _), (10, _)] ⟨rfl, rfl, rfl, rfl, trivial⟩ ?_
              refine WC.seq (fun K399 k399 => ?_)
              refine WC.seq (fun K400 k400 => ?_)
              refine WC.region rfl ?_
              refine WL.yld rfl (blt rfl) rfl (Y.move rfl rfl) ?_
              refine WL.yld rfl (blt rfl) rfl (Y.neq rfl rfl rfl) ?_
              refine WL.yld rfl (blt rfl) rfl (Y.move rfl rfl) ?_
              refine WL.yldG rfl (blt rfl) rfl rfl rfl (fun hb => Y.move rfl rfl) ?_
              refine WL.yldG rfl (blt rfl) rfl rfl rfl (fun hb => Y.neq rfl (evg rfl hb) rfl) ?_
              refine WL.yld rfl (blt rfl) rfl (Y.or rfl rfl rfl rfl) ?_
              refine WL.nil ?_
              refine WK.then_normal (k400 _ _ ?_)
              refine WC.sub [(7, _), (9, _), (49, _)] ⟨rfl, rfl, rfl, trivial⟩ ?_
              refine WC.cond rfl (fun h401 => ?_) (fun h401 => ?_)
              ·
                have p401 := ((or_t h401).imp (fun h => (eq_f (not_t h))) (fun h => (eq_f (not_t h))))
                refine WC.seq (fun K402 k402 => ?_)
                refine WC.region rfl ?_
                refine WL.call rfl (blt rfl) rfl rfl rfl has10 rfl (awake_any _ ) ?_
                rintro _ w403 ⟨rfl, x404⟩
                refine ⟨_, rfl, ?_⟩
                have m35 := m35.ext x404
                have m398 := m398.ext x404
                have xW := Ext.trans xW x404
                refine WL.yld rfl (blt rfl) rfl (Y.assign rfl rfl) ?_
                refine WL.nil ?_
                refine WK.then_normal (k402 _ _ ?_)
                refine WC.sub [(6, _)] ⟨rfl, trivial⟩ ?_
                refine WC.ret ?_
                refine WK.then_ret ?_
                clear k1 k17 k18 k25 k36 k399 k400 k402
                refine WK.ret [_] rfl ⟨rfl, trivial⟩ ?_
                exact ⟨ret1 (vb rfl), xW⟩
              ·
                have p401 := (And.intro (eq_t (not_f (or_f h401).1)) (eq_t (not_f (or_f h401).2)))
                have hx0 : (Bd.ofF d l id at_).2 = 0 := by simpa using (Bool.or_eq_false_iff.1 h401).1
                have hx1 : (Bd.ofF d (([] ++ l) ++ [x]) id at_).2 = 0 := by simpa using (Bool.or_eq_false_iff.1 h401).2
                have nw := Bd.narrows (by omega) (by simp; omega) (fun s hs => by simp [hs]) hx0 hx1
                refine WC.skip ?_
                refine WK.then_normal (k399 _ _ ?_)
                refine WC.sub [(7, _), (9, _)] ⟨rfl, rfl, trivial⟩ ?_
                refine WC.seq (fun K405 k405 => ?_)
                refine WC.region rfl ?_
                refine WL.yld rfl (blt rfl) rfl (Y.fieldAddr rfl Try.underlying29 rfl ti3 (by decide) rfl) ?_
                refine WL.yld rfl (blt rfl) rfl (Y.load1 rfl Try.underlying3 rfl rfl (Blk.at_eq m398 rfl)) ?_
                refine WL.yld rfl (blt rfl) rfl (Y.fieldAddr rfl Try.underlying29 rfl ti3 (by decide) rfl) ?_
                refine WL.yld rfl (blt rfl) rfl (Y.load1 rfl Try.underlying3 rfl rfl (Blk.at_eq m35 rfl)) ?_
                refine WL.yld rfl (blt rfl) rfl (Yld.cast (Y.geq rfl rfl rfl) (bt nw.1)) ?_
                refine WL.yld rfl (blt rfl) rfl (Y.move rfl rfl) ?_
                refine WL.yldW rfl (blt rfl) rfl rfl rfl (Y.fieldAddr rfl Try.underlying29 rfl ti3 (by decide) rfl) ?_
                refine WL.yldW rfl (blt rfl) rfl rfl rfl (Y.load1 rfl Try.underlying3 rfl rfl (Blk.at_eq m398 rfl)) ?_
                refine WL.yldW rfl (blt rfl) rfl rfl rfl (Y.fieldAddr rfl Try.underlying29 rfl ti3 (by decide) rfl) ?_
                refine WL.yldW rfl (blt rfl) rfl rfl rfl (Y.load1 rfl Try.underlying3 rfl rfl (Blk.at_eq m35 rfl)) ?_
                refine WL.yldW rfl (blt rfl) rfl rfl rfl (Yld.cast (Y.leq rfl rfl rfl) (bt nw.2)) ?_
                refine WL.yld rfl (blt rfl) rfl (Y.pickT rfl rfl rfl) ?_
                refine WL.yld rfl (blt rfl) rfl (Y.move rfl rfl) ?_
                refine WL.callW rfl (blt rfl) rfl rfl rfl rfl rfl has10 rfl (awake_any _ ) ?_
                rintro _ w406 ⟨rfl, x407⟩
                refine ⟨_, rfl, ?_⟩
                have m35 := m35.ext x407
                have m398 := m398.ext x407
                have xW := Ext.trans xW x407
                refine WL.yld rfl (blt rfl) rfl (Y.pickT rfl rfl rfl) ?_
                refine WL.yld rfl (blt rfl) rfl (Y.assign rfl rfl) ?_
                refine WL.nil ?_
                refine WK.then_normal (k405 _ _ ?_)
                refine WC.sub [(6, _)] ⟨rfl, trivial⟩ ?_
                refine WC.ret ?_
                clear k1 k17 k18 k25 k36 k399 k400 k405
                refine WK.ret [_] rfl ⟨rfl, trivial⟩ ?_
                exact ⟨ret1 (vb rfl), xW⟩
            refine WX.run rfl rfl (blt rfl) rfl ⟨xW, m6, m11, m16, m35⟩ (Run.alloc rfl ti29 rfl) ?_
            rintro _ w409 ⟨g408, rfl, e410, x411, m412⟩
            have n_g2_g408 := ne_new m6 e410
            have n_g7_g408 := ne_new m11 e410
            have n_g12_g408 := ne_new m16 e410
            have n_g28_g408 := ne_new m35 e410
            have n_g364_g408 := ne_new m368 e410
            have r_v380_g408 := ne_newO ow382 e410
            have o_g408 := own_new xW e410
            have m6 := m6.ext x411
            have m11 := m11.ext x411
            have m16 := m16.ext x411
            have m35 := m35.ext x411
            have m368 := m368.ext x411
            have ow382 := ow382.ext x411
            have xW := Ext.trans xW x411
            obtain ⟨A413, n414, c415, rfl, hl416⟩ := OwnL.opened ow382 (fun _ => rfl) (by decide)
            have e_n414 := hl416.len
            try simp only [List.length_append, List.length_cons, List.length_nil, List.length_reverse, List.length_drop, List.length_take, List.length_map, List.length_replicate, List.length_set] at e_n414
            have z_n414 := hl416.nle
            refine WX.call rfl rfl (blt rfl) rfl rfl rfl has11 rfl ⟨xW, m6, m11, m16, m35⟩ (of_any _ _ _ _ _ _ _ _ _ _ _ (h_d.ext xW) hl416 (by omega)) ?_
            rintro _ w417 ⟨rfl, x418⟩
            refine ⟨_, rfl, ?_⟩
            have m6 := m6.ext x418
            have m11 := m11.ext x418
            have m16 := m16.ext x418
            have m35 := m35.ext x418
            have m368 := m368.ext x418
            have ow382 := ow382.ext x418
            have hl416 := hl416.ext x418
            have m412 := m412.ext x418
            have xW := Ext.trans xW x418
            refine WX.yld rfl rfl (blt rfl) rfl (Y.move rfl rfl) ?_
            refine WX.yld rfl rfl (blt rfl) rfl (Y.extract rfl rfl rfl) ?_
            refine WX.yld rfl rfl (blt rfl) rfl (Y.extract rfl rfl rfl) ?_
            refine WX.storeB (cs' := [_, _]) rfl ⟨xW, m6, m11, m16, m35⟩ rfl rfl rfl rfl rfl rfl ti29 m412 (ble rfl) rfl rfl (fun w419 on420 m421 => ?_)
            have m6 := m6.only n_g2_g408 on420
            have m11 := m11.only n_g7_g408 on420
            have m16 := m16.only n_g12_g408 on420
            have m35 := m35.only n_g28_g408 on420
            have m368 := m368.only n_g364_g408 on420
            have ow382 := ow382.only r_v380_g408 on420
            have hl416 := OwnL.ls ow382 (fun _ => rfl) (by decide)
            have xW := Ext.only xW on420 o_g408
            refine WX.yld rfl rfl (blt rfl) rfl (Y.assign rfl rfl) ?_
            refine WX.nil ⟨xW, m6, m11, m16, m35⟩ ?_
            refine WK.then_normal (k36 _ _ ?_)
            refine WC.sub [(7, _), (8, _), (9, _), (10, _)] ⟨rfl, rfl, rfl, rfl, trivial⟩ ?_
            refine WC.seq (fun K422 k422 => ?_)
            refine WC.seq (fun K423 k423 => ?_)
            refine WC.region rfl ?_
            refine WL.yld rfl (blt rfl) rfl (Y.move rfl rfl) ?_
            refine WL.yld rfl (blt rfl) rfl (Y.neq rfl rfl rfl) ?_
            refine WL.yld rfl (blt rfl) rfl (Y.move rfl rfl) ?_
            refine WL.yldG rfl (blt rfl) rfl rfl rfl (fun hb => Y.move rfl rfl) ?_
            refine WL.yldG rfl (blt rfl) rfl rfl rfl (fun hb => Y.neq rfl (evg rfl hb) rfl) ?_
            refine WL.yld rfl (blt rfl) rfl (Y.or rfl rfl rfl rfl) ?_
            refine WL.nil ?_
            refine WK.then_normal (k423 _ _ ?_)
            refine WC.sub [(7, _), (9, _), (49, _)] ⟨rfl, rfl, rfl, trivial⟩ ?_
            refine WC.cond rfl (fun h424 => ?_) (fun h424 => ?_)
            ·
              have p424 := ((or_t h424).imp (fun h => (eq_f (not_t h))) (fun h => (eq_f (not_t h))))
              refine WC.seq (fun K425 k425 => ?_)
              refine WC.region rfl ?_
              refine WL.call rfl (blt rfl) rfl rfl rfl has10 rfl (awake_any _ ) ?_
              rintro _ w426 ⟨rfl, x427⟩
              refine ⟨_, rfl, ?_⟩
              have m35 := m35.ext x427
              have m421 := m421.ext x427
              have xW := Ext.trans xW x427
              refine WL.yld rfl (blt rfl) rfl (Y.assign rfl rfl) ?_
              refine WL.nil ?_
              refine WK.then_normal (k425 _ _ ?_)
              refine WC.sub [(6, _)] ⟨rfl, trivial⟩ ?_
              refine WC.ret ?_
              refine WK.then_ret ?_
              clear k1 k17 k18 k25 k36 k422 k423 k425
              refine WK.ret [_] rfl ⟨rfl, trivial⟩ ?_
              exact ⟨ret1 (vb rfl), xW⟩
            ·
              have p424 := (And.intro (eq_t (not_f (or_f h424).1)) (eq_t (not_f (or_f h424).2)))
              have hx0 : (Bd.ofF d l id at_).2 = 0 := by simpa using (Bool.or_eq_false_iff.1 h424).1
              have hx1 : (Bd.ofF d (([] ++ l) ++ [x]) id at_).2 = 0 := by simpa using (Bool.or_eq_false_iff.1 h424).2
              have nw := Bd.narrows (by omega) (by simp; omega) (fun s hs => by simp [hs]) hx0 hx1
              refine WC.skip ?_
              refine WK.then_normal (k422 _ _ ?_)
              refine WC.sub [(7, _), (9, _)] ⟨rfl, rfl, trivial⟩ ?_
              refine WC.seq (fun K428 k428 => ?_)
              refine WC.region rfl ?_
              refine WL.yld rfl (blt rfl) rfl (Y.fieldAddr rfl Try.underlying29 rfl ti3 (by decide) rfl) ?_
              refine WL.yld rfl (blt rfl) rfl (Y.load1 rfl Try.underlying3 rfl rfl (Blk.at_eq m421 rfl)) ?_
              refine WL.yld rfl (blt rfl) rfl (Y.fieldAddr rfl Try.underlying29 rfl ti3 (by decide) rfl) ?_
              refine WL.yld rfl (blt rfl) rfl (Y.load1 rfl Try.underlying3 rfl rfl (Blk.at_eq m35 rfl)) ?_
              refine WL.yld rfl (blt rfl) rfl (Yld.cast (Y.geq rfl rfl rfl) (bt nw.1)) ?_
              refine WL.yld rfl (blt rfl) rfl (Y.move rfl rfl) ?_
              refine WL.yldW rfl (blt rfl) rfl rfl rfl (Y.fieldAddr rfl Try.underlying29 rfl ti3 (by decide) rfl) ?_
              refine WL.yldW rfl (blt rfl) rfl rfl rfl (Y.load1 rfl Try.underlying3 rfl rfl (Blk.at_eq m421 rfl)) ?_
              refine WL.yldW rfl (blt rfl) rfl rfl rfl (Y.fieldAddr rfl Try.underlying29 rfl ti3 (by decide) rfl) ?_
              refine WL.yldW rfl (blt rfl) rfl rfl rfl (Y.load1 rfl Try.underlying3 rfl rfl (Blk.at_eq m35 rfl)) ?_
              refine WL.yldW rfl (blt rfl) rfl rfl rfl (Yld.cast (Y.leq rfl rfl rfl) (bt nw.2)) ?_
              refine WL.yld rfl (blt rfl) rfl (Y.pickT rfl rfl rfl) ?_
              refine WL.yld rfl (blt rfl) rfl (Y.move rfl rfl) ?_
              refine WL.callW rfl (blt rfl) rfl rfl rfl rfl rfl has10 rfl (awake_any _ ) ?_
              rintro _ w429 ⟨rfl, x430⟩
              refine ⟨_, rfl, ?_⟩
              have m35 := m35.ext x430
              have m421 := m421.ext x430
              have xW := Ext.trans xW x430
              refine WL.yld rfl (blt rfl) rfl (Y.pickT rfl rfl rfl) ?_
              refine WL.yld rfl (blt rfl) rfl (Y.assign rfl rfl) ?_
              refine WL.nil ?_
              refine WK.then_normal (k428 _ _ ?_)
              refine WC.sub [(6, _)] ⟨rfl, trivial⟩ ?_
              refine WC.ret ?_
              clear k1 k17 k18 k25 k36 k422 k423 k428
              refine WK.ret [_] rfl ⟨rfl, trivial⟩ ?_
              exact ⟨ret1 (vb rfl), xW⟩
          refine WX.run rfl rfl (blt rfl) rfl ⟨xW, m6, m11, m16, m35⟩ (Run.alloc rfl ti29 rfl) ?_
          rintro _ w432 ⟨g431, rfl, e433, x434, m435⟩
          have n_g2_g431 := ne_new m6 e433
          have n_g7_g431 := ne_new m11 e433
          have n_g12_g431 := ne_new m16 e433
          have n_g28_g431 := ne_new m35 e433
          have n_g364_g431 := ne_new m368 e433
          have r_v375_g431 := ne_newO ow377 e433
          have o_g431 := own_new xW e433
          have m6 := m6.ext x434
          have m11 := m11.ext x434
          have m16 := m16.ext x434
          have m35 := m35.ext x434
          have m368 := m368.ext x434
          have ow377 := ow377.ext x434
          have xW := Ext.trans xW x434
          refine WX.run rfl rfl (blt rfl) rfl ⟨xW, m6, m11, m16, m35⟩ (Run.appendB (f := Ck.Snap.c) (news := [x]) rfl rfl rfl Try.underlying23 ti42 rfl (by decide) rfl ow377 (fun _ => rfl) Ck.Snap.one m368 rfl xW.size (by have q0 := h_l.len; first | omega | (simp only [List.length_append, List.length_cons, List.length_nil, List.length_take, List.length_drop, List.length_reverse]; omega)) (Nat.le_trans (show _ ≤ 140737488355328 from by have q0 := h_l.len; first | omega | (simp only [List.length_append, List.length_cons, List.length_nil, List.length_take, List.length_drop, List.length_reverse]; omega)) (by decide)) ) ?_
          rintro v436 w437 ⟨ow438, gr439, nb440⟩
          have r_v436_g2 := ne_app nb440 r_v375_g2 m6
          have m6 := m6.grown gr439 r_v375_g2
          have r_v436_g7 := ne_app nb440 r_v375_g7 m11
          have m11 := m11.grown gr439 r_v375_g7
          have r_v436_g12 := ne_app nb440 r_v375_g12 m16
          have m16 := m16.grown gr439 r_v375_g12
          have r_v436_g28 := ne_app nb440 r_v375_g28 m35
          have m35 := m35.grown gr439 r_v375_g28
          have r_v436_g364 := ne_app nb440 r_v375_g364 m368
          have m368 := m368.grown gr439 r_v375_g364
          have r_v436_g431 := ne_app nb440 r_v375_g431 m435
          have m435 := m435.grown gr439 r_v375_g431
          have xW := Ext.grown xW gr439 (fun b hb => (OwnL.lt ow377 hb).1)
          obtain ⟨A441, n442, c443, rfl, hl444⟩ := OwnL.opened ow438 (fun _ => rfl) (by decide)
          have e_n442 := hl444.len
          try simp only [List.length_append, List.length_cons, List.length_nil, List.length_reverse, List.length_drop, List.length_take, List.length_map, List.length_replicate, List.length_set] at e_n442
          have z_n442 := hl444.nle
          refine WX.call rfl rfl (blt rfl) rfl rfl rfl has11 rfl ⟨xW, m6, m11, m16, m35⟩ (of_any _ _ _ _ _ _ _ _ _ _ _ (h_d.ext xW) hl444 (by omega)) ?_
          rintro _ w445 ⟨rfl, x446⟩
          refine ⟨_, rfl, ?_⟩
          have m6 := m6.ext x446
          have m11 := m11.ext x446
          have m16 := m16.ext x446
          have m35 := m35.ext x446
          have m368 := m368.ext x446
          have m435 := m435.ext x446
          have ow438 := ow438.ext x446
          have hl444 := hl444.ext x446
          have xW := Ext.trans xW x446
          refine WX.yld rfl rfl (blt rfl) rfl (Y.move rfl rfl) ?_
          refine WX.yld rfl rfl (blt rfl) rfl (Y.extract rfl rfl rfl) ?_
          refine WX.yld rfl rfl (blt rfl) rfl (Y.extract rfl rfl rfl) ?_
          refine WX.storeB (cs' := [_, _]) rfl ⟨xW, m6, m11, m16, m35⟩ rfl rfl rfl rfl rfl rfl ti29 m435 (ble rfl) rfl rfl (fun w447 on448 m449 => ?_)
          have m6 := m6.only n_g2_g431 on448
          have m11 := m11.only n_g7_g431 on448
          have m16 := m16.only n_g12_g431 on448
          have m35 := m35.only n_g28_g431 on448
          have m368 := m368.only n_g364_g431 on448
          have ow438 := ow438.only r_v436_g431 on448
          have hl444 := OwnL.ls ow438 (fun _ => rfl) (by decide)
          have xW := Ext.only xW on448 o_g431
          refine WX.yld rfl rfl (blt rfl) rfl (Y.assign rfl rfl) ?_
          refine WX.nil ⟨xW, m6, m11, m16, m35⟩ ?_
          refine WK.then_normal (k36 _ _ ?_)
          refine WC.sub [(7, _), (8, _), (9, _), (10, _)] ⟨rfl, rfl, rfl, rfl, trivial⟩ ?_
          refine WC.seq (fun K450 k450 => ?_)
          refine WC.seq (fun K451 k451 => ?_)
          refine WC.region rfl ?_
          refine WL.yld rfl (blt rfl) rfl (Y.move rfl rfl) ?_
          refine WL.yld rfl (blt rfl) rfl (Y.neq rfl rfl rfl) ?_
          refine WL.yld rfl (blt rfl) rfl (Y.move rfl rfl) ?_
          refine WL.yldG rfl (blt rfl) rfl rfl rfl (fun hb => Y.move rfl rfl) ?_
          refine WL.yldG rfl (blt rfl) rfl rfl rfl (fun hb => Y.neq rfl (evg rfl hb) rfl) ?_
          refine WL.yld rfl (blt rfl) rfl (Y.or rfl rfl rfl rfl) ?_
          refine WL.nil ?_
          refine WK.then_normal (k451 _ _ ?_)
          refine WC.sub [(7, _), (9, _), (49, _)] ⟨rfl, rfl, rfl, trivial⟩ ?_
          refine WC.cond rfl (fun h452 => ?_) (fun h452 => ?_)
          ·
            have p452 := ((or_t h452).imp (fun h => (eq_f (not_t h))) (fun h => (eq_f (not_t h))))
            refine WC.seq (fun K453 k453 => ?_)
            refine WC.region rfl ?_
            refine WL.call rfl (blt rfl) rfl rfl rfl has10 rfl (awake_any _ ) ?_
            rintro _ w454 ⟨rfl, x455⟩
            refine ⟨_, rfl, ?_⟩
            have m35 := m35.ext x455
            have m449 := m449.ext x455
            have xW := Ext.trans xW x455
            refine WL.yld rfl (blt rfl) rfl (Y.assign rfl rfl) ?_
            refine WL.nil ?_
            refine WK.then_normal (k453 _ _ ?_)
            refine WC.sub [(6, _)] ⟨rfl, trivial⟩ ?_
            refine WC.ret ?_
            refine WK.then_ret ?_
            clear k1 k17 k18 k25 k36 k450 k451 k453
            refine WK.ret [_] rfl ⟨rfl, trivial⟩ ?_
            exact ⟨ret1 (vb rfl), xW⟩
          ·
            have p452 := (And.intro (eq_t (not_f (or_f h452).1)) (eq_t (not_f (or_f h452).2)))
            have hx0 : (Bd.ofF d l id at_).2 = 0 := by simpa using (Bool.or_eq_false_iff.1 h452).1
            have hx1 : (Bd.ofF d (([] ++ l) ++ [x]) id at_).2 = 0 := by simpa using (Bool.or_eq_false_iff.1 h452).2
            have nw := Bd.narrows (by omega) (by simp; omega) (fun s hs => by simp [hs]) hx0 hx1
            refine WC.skip ?_
            refine WK.then_normal (k450 _ _ ?_)
            refine WC.sub [(7, _), (9, _)] ⟨rfl, rfl, trivial⟩ ?_
            refine WC.seq (fun K456 k456 => ?_)
            refine WC.region rfl ?_
            refine WL.yld rfl (blt rfl) rfl (Y.fieldAddr rfl Try.underlying29 rfl ti3 (by decide) rfl) ?_
            refine WL.yld rfl (blt rfl) rfl (Y.load1 rfl Try.underlying3 rfl rfl (Blk.at_eq m449 rfl)) ?_
            refine WL.yld rfl (blt rfl) rfl (Y.fieldAddr rfl Try.underlying29 rfl ti3 (by decide) rfl) ?_
            refine WL.yld rfl (blt rfl) rfl (Y.load1 rfl Try.underlying3 rfl rfl (Blk.at_eq m35 rfl)) ?_
            refine WL.yld rfl (blt rfl) rfl (Yld.cast (Y.geq rfl rfl rfl) (bt nw.1)) ?_
            refine WL.yld rfl (blt rfl) rfl (Y.move rfl rfl) ?_
            refine WL.yldW rfl (blt rfl) rfl rfl rfl (Y.fieldAddr rfl Try.underlying29 rfl ti3 (by decide) rfl) ?_
            refine WL.yldW rfl (blt rfl) rfl rfl rfl (Y.load1 rfl Try.underlying3 rfl rfl (Blk.at_eq m449 rfl)) ?_
            refine WL.yldW rfl (blt rfl) rfl rfl rfl (Y.fieldAddr rfl Try.underlying29 rfl ti3 (by decide) rfl) ?_
            refine WL.yldW rfl (blt rfl) rfl rfl rfl (Y.load1 rfl Try.underlying3 rfl rfl (Blk.at_eq m35 rfl)) ?_
            refine WL.yldW rfl (blt rfl) rfl rfl rfl (Yld.cast (Y.leq rfl rfl rfl) (bt nw.2)) ?_
            refine WL.yld rfl (blt rfl) rfl (Y.pickT rfl rfl rfl) ?_
            refine WL.yld rfl (blt rfl) rfl (Y.move rfl rfl) ?_
            refine WL.callW rfl (blt rfl) rfl rfl rfl rfl rfl has10 rfl (awake_any _ ) ?_
            rintro _ w457 ⟨rfl, x458⟩
            refine ⟨_, rfl, ?_⟩
            have m35 := m35.ext x458
            have m449 := m449.ext x458
            have xW := Ext.trans xW x458
            refine WL.yld rfl (blt rfl) rfl (Y.pickT rfl rfl rfl) ?_
            refine WL.yld rfl (blt rfl) rfl (Y.assign rfl rfl) ?_
            refine WL.nil ?_
            refine WK.then_normal (k456 _ _ ?_)
            refine WC.sub [(6, _)] ⟨rfl, trivial⟩ ?_
            refine WC.ret ?_
            clear k1 k17 k18 k25 k36 k450 k451 k456
            refine WK.ret [_] rfl ⟨rfl, trivial⟩ ?_
            exact ⟨ret1 (vb rfl), xW⟩
        refine WX.run rfl rfl (blt rfl) rfl ⟨xW, m6, m11, m16, m35⟩ (Run.alloc rfl ti29 rfl) ?_
        rintro _ w460 ⟨g459, rfl, e461, x462, m463⟩
        have n_g2_g459 := ne_new m6 e461
        have n_g7_g459 := ne_new m11 e461
        have n_g12_g459 := ne_new m16 e461
        have n_g28_g459 := ne_new m35 e461
        have n_g364_g459 := ne_new m368 e461
        have n_g369_g459 := ne_new m373 e461
        have o_g459 := own_new xW e461
        have m6 := m6.ext x462
        have m11 := m11.ext x462
        have m16 := m16.ext x462
        have m35 := m35.ext x462
        have m368 := m368.ext x462
        have m373 := m373.ext x462
        have xW := Ext.trans xW x462
        have ob464 := Blk.own (sz := 5) (f := Ck.Snap.c) (l := ([] : List Ck.Snap)) (base := w.heap.size) m373 o_g369 (fun _ => rfl) rfl (by decide) rfl
        refine WX.run rfl rfl (blt rfl) rfl ⟨xW, m6, m11, m16, m35⟩ (Run.appendL (f := Ck.Snap.c) rfl rfl rfl Try.underlying23 ti42 rfl (by decide) rfl ob464 (fun _ => rfl) Ck.Snap.one (h_l.ext xW) xW.size (by have q0 := h_l.len; first | omega | (simp only [List.length_append, List.length_cons, List.length_nil, List.length_take, List.length_drop, List.length_reverse]; omega)) (Nat.le_trans (show _ ≤ 140737488355328 from by have q0 := h_l.len; first | omega | (simp only [List.length_append, List.length_cons, List.length_nil, List.length_take, List.length_drop, List.length_reverse]; omega)) (by decide)) ) ?_
        rintro v465 w466 ⟨ow467, gr468, nb469⟩
        have r_v465_g2 := ne_app nb469 (ne_blk n_g2_g369) m6
        have m6 := m6.grown gr468 (ne_blk n_g2_g369)
        have r_v465_g7 := ne_app nb469 (ne_blk n_g7_g369) m11
        have m11 := m11.grown gr468 (ne_blk n_g7_g369)
        have r_v465_g12 := ne_app nb469 (ne_blk n_g12_g369) m16
        have m16 := m16.grown gr468 (ne_blk n_g12_g369)
        have r_v465_g28 := ne_app nb469 (ne_blk n_g28_g369) m35
        have m35 := m35.grown gr468 (ne_blk n_g28_g369)
        have r_v465_g364 := ne_app nb469 (ne_blk n_g364_g369) m368
        have m368 := m368.grown gr468 (ne_blk n_g364_g369)
        have r_v465_g459 := ne_app nb469 (ne_blk n_g369_g459.symm) m463
        have m463 := m463.grown gr468 (ne_blk n_g369_g459.symm)
        have xW := Ext.grown xW gr468 (fun b hb => (OwnL.lt ob464 hb).1)
        refine WX.run rfl rfl (blt rfl) rfl ⟨xW, m6, m11, m16, m35⟩ (Run.appendB (f := Ck.Snap.c) (news := [x]) rfl rfl rfl Try.underlying23 ti42 rfl (by decide) rfl ow467 (fun _ => rfl) Ck.Snap.one m368 rfl xW.size (by have q0 := h_l.len; first | omega | (simp only [List.length_append, List.length_cons, List.length_nil, List.length_take, List.length_drop, List.length_reverse]; omega)) (Nat.le_trans (show _ ≤ 140737488355328 from by have q0 := h_l.len; first | omega | (simp only [List.length_append, List.length_cons, List.length_nil, List.length_take, List.length_drop, List.length_reverse]; omega)) (by decide)) ) ?_
        rintro v470 w471 ⟨ow472, gr473, nb474⟩
        have r_v470_g2 := ne_app nb474 r_v465_g2 m6
        have m6 := m6.grown gr473 r_v465_g2
        have r_v470_g7 := ne_app nb474 r_v465_g7 m11
        have m11 := m11.grown gr473 r_v465_g7
        have r_v470_g12 := ne_app nb474 r_v465_g12 m16
        have m16 := m16.grown gr473 r_v465_g12
        have r_v470_g28 := ne_app nb474 r_v465_g28 m35
        have m35 := m35.grown gr473 r_v465_g28
        have r_v470_g364 := ne_app nb474 r_v465_g364 m368
        have m368 := m368.grown gr473 r_v465_g364
        have r_v470_g459 := ne_app nb474 r_v465_g459 m463
        have m463 := m463.grown gr473 r_v465_g459
        have xW := Ext.grown xW gr473 (fun b hb => (OwnL.lt ow467 hb).1)
        obtain ⟨A475, n476, c477, rfl, hl478⟩ := OwnL.opened ow472 (fun _ => rfl) (by decide)
        have e_n476 := hl478.len
        try simp only [List.length_append, List.length_cons, List.length_nil, List.length_reverse, List.length_drop, List.length_take, List.length_map, List.length_replicate, List.length_set] at e_n476
        have z_n476 := hl478.nle
        refine WX.call rfl rfl (blt rfl) rfl rfl rfl has11 rfl ⟨xW, m6, m11, m16, m35⟩ (of_any _ _ _ _ _ _ _ _ _ _ _ (h_d.ext xW) hl478 (by omega)) ?_
        rintro _ w479 ⟨rfl, x480⟩
        refine ⟨_, rfl, ?_⟩
        have m6 := m6.ext x480
        have m11 := m11.ext x480
        have m16 := m16.ext x480
        have m35 := m35.ext x480
        have m368 := m368.ext x480
        have m463 := m463.ext x480
        have ow472 := ow472.ext x480
        have hl478 := hl478.ext x480
        have xW := Ext.trans xW x480
        refine WX.yld rfl rfl (blt rfl) rfl (Y.move rfl rfl) ?_
        refine WX.yld rfl rfl (blt rfl) rfl (Y.extract rfl rfl rfl) ?_
        refine WX.yld rfl rfl (blt rfl) rfl (Y.extract rfl rfl rfl) ?_
        refine WX.storeB (cs' := [_, _]) rfl ⟨xW, m6, m11, m16, m35⟩ rfl rfl rfl rfl rfl rfl ti29 m463 (ble rfl) rfl rfl (fun w481 on482 m483 => ?_)
        have m6 := m6.only n_g2_g459 on482
        have m11 := m11.only n_g7_g459 on482
        have m16 := m16.only n_g12_g459 on482
        have m35 := m35.only n_g28_g459 on482
        have m368 := m368.only n_g364_g459 on482
        have ow472 := ow472.only r_v470_g459 on482
        have hl478 := OwnL.ls ow472 (fun _ => rfl) (by decide)
        have xW := Ext.only xW on482 o_g459
        refine WX.yld rfl rfl (blt rfl) rfl (Y.assign rfl rfl) ?_
        refine WX.nil ⟨xW, m6, m11, m16, m35⟩ ?_
        refine WK.then_normal (k36 _ _ ?_)
        refine WC.sub [(7, _), (8, _), (9, _), (10, _)] ⟨rfl, rfl, rfl, rfl, trivial⟩ ?_
        refine WC.seq (fun K484 k484 => ?_)
        refine WC.seq (fun K485 k485 => ?_)
        refine WC.region rfl ?_
        refine WL.yld rfl (blt rfl) rfl (Y.move rfl rfl) ?_
        refine WL.yld rfl (blt rfl) rfl (Y.neq rfl rfl rfl) ?_
        refine WL.yld rfl (blt rfl) rfl (Y.move rfl rfl) ?_
        refine WL.yldG rfl (blt rfl) rfl rfl rfl (fun hb => Y.move rfl rfl) ?_
        refine WL.yldG rfl (blt rfl) rfl rfl rfl (fun hb => Y.neq rfl (evg rfl hb) rfl) ?_
        refine WL.yld rfl (blt rfl) rfl (Y.or rfl rfl rfl rfl) ?_
        refine WL.nil ?_
        refine WK.then_normal (k485 _ _ ?_)
        refine WC.sub [(7, _), (9, _), (49, _)] ⟨rfl, rfl, rfl, trivial⟩ ?_
        refine WC.cond rfl (fun h486 => ?_) (fun h486 => ?_)
        ·
          have p486 := ((or_t h486).imp (fun h => (eq_f (not_t h))) (fun h => (eq_f (not_t h))))
          refine WC.seq (fun K487 k487 => ?_)
          refine WC.region rfl ?_
          refine WL.call rfl (blt rfl) rfl rfl rfl has10 rfl (awake_any _ ) ?_
          rintro _ w488 ⟨rfl, x489⟩
          refine ⟨_, rfl, ?_⟩
          have m35 := m35.ext x489
          have m483 := m483.ext x489
          have xW := Ext.trans xW x489
          refine WL.yld rfl (blt rfl) rfl (Y.assign rfl rfl) ?_
          refine WL.nil ?_
          refine WK.then_normal (k487 _ _ ?_)
          refine WC.sub [(6, _)] ⟨rfl, trivial⟩ ?_
          refine WC.ret ?_
          refine WK.then_ret ?_
          clear k1 k17 k18 k25 k36 k484 k485 k487
          refine WK.ret [_] rfl ⟨rfl, trivial⟩ ?_
          exact ⟨ret1 (vb rfl), xW⟩
        ·
          have p486 := (And.intro (eq_t (not_f (or_f h486).1)) (eq_t (not_f (or_f h486).2)))
          have hx0 : (Bd.ofF d l id at_).2 = 0 := by simpa using (Bool.or_eq_false_iff.1 h486).1
          have hx1 : (Bd.ofF d (([] ++ l) ++ [x]) id at_).2 = 0 := by simpa using (Bool.or_eq_false_iff.1 h486).2
          have nw := Bd.narrows (by omega) (by simp; omega) (fun s hs => by simp [hs]) hx0 hx1
          refine WC.skip ?_
          refine WK.then_normal (k484 _ _ ?_)
          refine WC.sub [(7, _), (9, _)] ⟨rfl, rfl, trivial⟩ ?_
          refine WC.seq (fun K490 k490 => ?_)
          refine WC.region rfl ?_
          refine WL.yld rfl (blt rfl) rfl (Y.fieldAddr rfl Try.underlying29 rfl ti3 (by decide) rfl) ?_
          refine WL.yld rfl (blt rfl) rfl (Y.load1 rfl Try.underlying3 rfl rfl (Blk.at_eq m483 rfl)) ?_
          refine WL.yld rfl (blt rfl) rfl (Y.fieldAddr rfl Try.underlying29 rfl ti3 (by decide) rfl) ?_
          refine WL.yld rfl (blt rfl) rfl (Y.load1 rfl Try.underlying3 rfl rfl (Blk.at_eq m35 rfl)) ?_
          refine WL.yld rfl (blt rfl) rfl (Yld.cast (Y.geq rfl rfl rfl) (bt nw.1)) ?_
          refine WL.yld rfl (blt rfl) rfl (Y.move rfl rfl) ?_
          refine WL.yldW rfl (blt rfl) rfl rfl rfl (Y.fieldAddr rfl Try.underlying29 rfl ti3 (by decide) rfl) ?_
          refine WL.yldW rfl (blt rfl) rfl rfl rfl (Y.load1 rfl Try.underlying3 rfl rfl (Blk.at_eq m483 rfl)) ?_
          refine WL.yldW rfl (blt rfl) rfl rfl rfl (Y.fieldAddr rfl Try.underlying29 rfl ti3 (by decide) rfl) ?_
          refine WL.yldW rfl (blt rfl) rfl rfl rfl (Y.load1 rfl Try.underlying3 rfl rfl (Blk.at_eq m35 rfl)) ?_
          refine WL.yldW rfl (blt rfl) rfl rfl rfl (Yld.cast (Y.leq rfl rfl rfl) (bt nw.2)) ?_
          refine WL.yld rfl (blt rfl) rfl (Y.pickT rfl rfl rfl) ?_
          refine WL.yld rfl (blt rfl) rfl (Y.move rfl rfl) ?_
          refine WL.callW rfl (blt rfl) rfl rfl rfl rfl rfl has10 rfl (awake_any _ ) ?_
          rintro _ w491 ⟨rfl, x492⟩
          refine ⟨_, rfl, ?_⟩
          have m35 := m35.ext x492
          have m483 := m483.ext x492
          have xW := Ext.trans xW x492
          refine WL.yld rfl (blt rfl) rfl (Y.pickT rfl rfl rfl) ?_
          refine WL.yld rfl (blt rfl) rfl (Y.assign rfl rfl) ?_
          refine WL.nil ?_
          refine WK.then_normal (k490 _ _ ?_)
          refine WC.sub [(6, _)] ⟨rfl, trivial⟩ ?_
          refine WC.ret ?_
          clear k1 k17 k18 k25 k36 k484 k485 k490
          refine WK.ret [_] rfl ⟨rfl, trivial⟩ ?_
          exact ⟨ret1 (vb rfl), xW⟩
      refine WX.run rfl rfl (blt rfl) rfl ⟨xW, m6, m11, m16, m35⟩ (Run.alloc rfl ti29 rfl) ?_
      rintro _ w494 ⟨g493, rfl, e495, x496, m497⟩
      have n_g2_g493 := ne_new m6 e495
      have n_g7_g493 := ne_new m11 e495
      have n_g12_g493 := ne_new m16 e495
      have n_g28_g493 := ne_new m35 e495
      have n_g364_g493 := ne_new m368 e495
      have o_g493 := own_new xW e495
      have m6 := m6.ext x496
      have m11 := m11.ext x496
      have m16 := m16.ext x496
      have m35 := m35.ext x496
      have m368 := m368.ext x496
      have xW := Ext.trans xW x496
      refine WX.run rfl rfl (blt rfl) rfl ⟨xW, m6, m11, m16, m35⟩ (Run.bslice0 rfl Try.underlying23 ti42) ?_
      rintro _ w499 ⟨g498, rfl, e500, x501, m502⟩
      have n_g2_g498 := ne_new m6 e500
      have n_g7_g498 := ne_new m11 e500
      have n_g12_g498 := ne_new m16 e500
      have n_g28_g498 := ne_new m35 e500
      have n_g364_g498 := ne_new m368 e500
      have n_g493_g498 := ne_new m497 e500
      have o_g498 := own_new xW e500
      have m6 := m6.ext x501
      have m11 := m11.ext x501
      have m16 := m16.ext x501
      have m35 := m35.ext x501
      have m368 := m368.ext x501
      have m497 := m497.ext x501
      have xW := Ext.trans xW x501
      have ob503 := Blk.own (sz := 5) (f := Ck.Snap.c) (l := ([] : List Ck.Snap)) (base := w.heap.size) m502 o_g498 (fun _ => rfl) rfl (by decide) rfl
      refine WX.run rfl rfl (blt rfl) rfl ⟨xW, m6, m11, m16, m35⟩ (Run.appendL (f := Ck.Snap.c) rfl rfl rfl Try.underlying23 ti42 rfl (by decide) rfl ob503 (fun _ => rfl) Ck.Snap.one (h_l.ext xW) xW.size (by have q0 := h_l.len; first | omega | (simp only [List.length_append, List.length_cons, List.length_nil, List.length_take, List.length_drop, List.length_reverse]; omega)) (Nat.le_trans (show _ ≤ 140737488355328 from by have q0 := h_l.len; first | omega | (simp only [List.length_append, List.length_cons, List.length_nil, List.length_take, List.length_drop, List.length_reverse]; omega)) (by decide)) ) ?_
      rintro v504 w505 ⟨ow506, gr507, nb508⟩
      have r_v504_g2 := ne_app nb508 (ne_blk n_g2_g498) m6
      have m6 := m6.grown gr507 (ne_blk n_g2_g498)
      have r_v504_g7 := ne_app nb508 (ne_blk n_g7_g498) m11
      have m11 := m11.grown gr507 (ne_blk n_g7_g498)
      have r_v504_g12 := ne_app nb508 (ne_blk n_g12_g498) m16
      have m16 := m16.grown gr507 (ne_blk n_g12_g498)
      have r_v504_g28 := ne_app nb508 (ne_blk n_g28_g498) m35
      have m35 := m35.grown gr507 (ne_blk n_g28_g498)
      have r_v504_g364 := ne_app nb508 (ne_blk n_g364_g498) m368
      have m368 := m368.grown gr507 (ne_blk n_g364_g498)
      have r_v504_g493 := ne_app nb508 (ne_blk n_g493_g498) m497
      have m497 := m497.grown gr507 (ne_blk n_g493_g498)
      have xW := Ext.grown xW gr507 (fun b hb => (OwnL.lt ob503 hb).1)
      refine WX.run rfl rfl (blt rfl) rfl ⟨xW, m6, m11, m16, m35⟩ (Run.appendB (f := Ck.Snap.c) (news := [x]) rfl rfl rfl Try.underlying23 ti42 rfl (by decide) rfl ow506 (fun _ => rfl) Ck.Snap.one m368 rfl xW.size (by have q0 := h_l.len; first | omega | (simp only [List.length_append, List.length_cons, List.length_nil, List.length_take, List.length_drop, List.length_reverse]; omega)) (Nat.le_trans (show _ ≤ 140737488355328 from by have q0 := h_l.len; first | omega | (simp only [List.length_append, List.length_cons, List.length_nil, List.length_take, List.length_drop, List.length_reverse]; omega)) (by decide)) ) ?_
      rintro v509 w510 ⟨ow511, gr512, nb513⟩
      have r_v509_g2 := ne_app nb513 r_v504_g2 m6
      have m6 := m6.grown gr512 r_v504_g2
      have r_v509_g7 := ne_app nb513 r_v504_g7 m11
      have m11 := m11.grown gr512 r_v504_g7
      have r_v509_g12 := ne_app nb513 r_v504_g12 m16
      have m16 := m16.grown gr512 r_v504_g12
      have r_v509_g28 := ne_app nb513 r_v504_g28 m35
      have m35 := m35.grown gr512 r_v504_g28
      have r_v509_g364 := ne_app nb513 r_v504_g364 m368
      have m368 := m368.grown gr512 r_v504_g364
      have r_v509_g493 := ne_app nb513 r_v504_g493 m497
      have m497 := m497.grown gr512 r_v504_g493
      have xW := Ext.grown xW gr512 (fun b hb => (OwnL.lt ow506 hb).1)
      obtain ⟨A514, n515, c516, rfl, hl517⟩ := OwnL.opened ow511 (fun _ => rfl) (by decide)
      have e_n515 := hl517.len
      try simp only [List.length_append, List.length_cons, List.length_nil, List.length_reverse, List.length_drop, List.length_take, List.length_map, List.length_replicate, List.length_set] at e_n515
      have z_n515 := hl517.nle
      refine WX.call rfl rfl (blt rfl) rfl rfl rfl has11 rfl ⟨xW, m6, m11, m16, m35⟩ (of_any _ _ _ _ _ _ _ _ _ _ _ (h_d.ext xW) hl517 (by omega)) ?_
      rintro _ w518 ⟨rfl, x519⟩
      refine ⟨_, rfl, ?_⟩
      have m6 := m6.ext x519
      have m11 := m11.ext x519
      have m16 := m16.ext x519
      have m35 := m35.ext x519
      have m368 := m368.ext x519
      have m497 := m497.ext x519
      have ow511 := ow511.ext x519
      have hl517 := hl517.ext x519
      have xW := Ext.trans xW x519
      refine WX.yld rfl rfl (blt rfl) rfl (Y.move rfl rfl) ?_
      refine WX.yld rfl rfl (blt rfl) rfl (Y.extract rfl rfl rfl) ?_
      refine WX.yld rfl rfl (blt rfl) rfl (Y.extract rfl rfl rfl) ?_
      refine WX.storeB (cs' := [_, _]) rfl ⟨xW, m6, m11, m16, m35⟩ rfl rfl rfl rfl rfl rfl ti29 m497 (ble rfl) rfl rfl (fun w520 on521 m522 => ?_)
      have m6 := m6.only n_g2_g493 on521
      have m11 := m11.only n_g7_g493 on521
      have m16 := m16.only n_g12_g493 on521
      have m35 := m35.only n_g28_g493 on521
      have m368 := m368.only n_g364_g493 on521
      have ow511 := ow511.only r_v509_g493 on521
      have hl517 := OwnL.ls ow511 (fun _ => rfl) (by decide)
      have xW := Ext.only xW on521 o_g493
      refine WX.yld rfl rfl (blt rfl) rfl (Y.assign rfl rfl) ?_
      refine WX.nil ⟨xW, m6, m11, m16, m35⟩ ?_
      refine WK.then_normal (k36 _ _ ?_)
      refine WC.sub [(7, _), (8, _), (9, _), (10, _)] ⟨rfl, rfl, rfl, rfl, trivial⟩ ?_
      refine WC.seq (fun K523 k523 => ?_)
      refine WC.seq (fun K524 k524 => ?_)
      refine WC.region rfl ?_
      refine WL.yld rfl (blt rfl) rfl (Y.move rfl rfl) ?_
      refine WL.yld rfl (blt rfl) rfl (Y.neq rfl rfl rfl) ?_
      refine WL.yld rfl (blt rfl) rfl (Y.move rfl rfl) ?_
      refine WL.yldG rfl (blt rfl) rfl rfl rfl (fun hb => Y.move rfl rfl) ?_
      refine WL.yldG rfl (blt rfl) rfl rfl rfl (fun hb => Y.neq rfl (evg rfl hb) rfl) ?_
      refine WL.yld rfl (blt rfl) rfl (Y.or rfl rfl rfl rfl) ?_
      refine WL.nil ?_
      refine WK.then_normal (k524 _ _ ?_)
      refine WC.sub [(7, _), (9, _), (49, _)] ⟨rfl, rfl, rfl, trivial⟩ ?_
      refine WC.cond rfl (fun h525 => ?_) (fun h525 => ?_)
      ·
        have p525 := ((or_t h525).imp (fun h => (eq_f (not_t h))) (fun h => (eq_f (not_t h))))
        refine WC.seq (fun K526 k526 => ?_)
        refine WC.region rfl ?_
        refine WL.call rfl (blt rfl) rfl rfl rfl has10 rfl (awake_any _ ) ?_
        rintro _ w527 ⟨rfl, x528⟩
        refine ⟨_, rfl, ?_⟩
        have m35 := m35.ext x528
        have m522 := m522.ext x528
        have xW := Ext.trans xW x528
        refine WL.yld rfl (blt rfl) rfl (Y.assign rfl rfl) ?_
        refine WL.nil ?_
        refine WK.then_normal (k526 _ _ ?_)
        refine WC.sub [(6, _)] ⟨rfl, trivial⟩ ?_
        refine WC.ret ?_
        refine WK.then_ret ?_
        clear k1 k17 k18 k25 k36 k523 k524 k526
        refine WK.ret [_] rfl ⟨rfl, trivial⟩ ?_
        exact ⟨ret1 (vb rfl), xW⟩
      ·
        have p525 := (And.intro (eq_t (not_f (or_f h525).1)) (eq_t (not_f (or_f h525).2)))
        have hx0 : (Bd.ofF d l id at_).2 = 0 := by simpa using (Bool.or_eq_false_iff.1 h525).1
        have hx1 : (Bd.ofF d (([] ++ l) ++ [x]) id at_).2 = 0 := by simpa using (Bool.or_eq_false_iff.1 h525).2
        have nw := Bd.narrows (by omega) (by simp; omega) (fun s hs => by simp [hs]) hx0 hx1
        refine WC.skip ?_
        refine WK.then_normal (k523 _ _ ?_)
        refine WC.sub [(7, _), (9, _)] ⟨rfl, rfl, trivial⟩ ?_
        refine WC.seq (fun K529 k529 => ?_)
        refine WC.region rfl ?_
        refine WL.yld rfl (blt rfl) rfl (Y.fieldAddr rfl Try.underlying29 rfl ti3 (by decide) rfl) ?_
        refine WL.yld rfl (blt rfl) rfl (Y.load1 rfl Try.underlying3 rfl rfl (Blk.at_eq m522 rfl)) ?_
        refine WL.yld rfl (blt rfl) rfl (Y.fieldAddr rfl Try.underlying29 rfl ti3 (by decide) rfl) ?_
        refine WL.yld rfl (blt rfl) rfl (Y.load1 rfl Try.underlying3 rfl rfl (Blk.at_eq m35 rfl)) ?_
        refine WL.yld rfl (blt rfl) rfl (Yld.cast (Y.geq rfl rfl rfl) (bt nw.1)) ?_
        refine WL.yld rfl (blt rfl) rfl (Y.move rfl rfl) ?_
        refine WL.yldW rfl (blt rfl) rfl rfl rfl (Y.fieldAddr rfl Try.underlying29 rfl ti3 (by decide) rfl) ?_
        refine WL.yldW rfl (blt rfl) rfl rfl rfl (Y.load1 rfl Try.underlying3 rfl rfl (Blk.at_eq m522 rfl)) ?_
        refine WL.yldW rfl (blt rfl) rfl rfl rfl (Y.fieldAddr rfl Try.underlying29 rfl ti3 (by decide) rfl) ?_
        refine WL.yldW rfl (blt rfl) rfl rfl rfl (Y.load1 rfl Try.underlying3 rfl rfl (Blk.at_eq m35 rfl)) ?_
        refine WL.yldW rfl (blt rfl) rfl rfl rfl (Yld.cast (Y.leq rfl rfl rfl) (bt nw.2)) ?_
        refine WL.yld rfl (blt rfl) rfl (Y.pickT rfl rfl rfl) ?_
        refine WL.yld rfl (blt rfl) rfl (Y.move rfl rfl) ?_
        refine WL.callW rfl (blt rfl) rfl rfl rfl rfl rfl has10 rfl (awake_any _ ) ?_
        rintro _ w530 ⟨rfl, x531⟩
        refine ⟨_, rfl, ?_⟩
        have m35 := m35.ext x531
        have m522 := m522.ext x531
        have xW := Ext.trans xW x531
        refine WL.yld rfl (blt rfl) rfl (Y.pickT rfl rfl rfl) ?_
        refine WL.yld rfl (blt rfl) rfl (Y.assign rfl rfl) ?_
        refine WL.nil ?_
        refine WK.then_normal (k529 _ _ ?_)
        refine WC.sub [(6, _)] ⟨rfl, trivial⟩ ?_
        refine WC.ret ?_
        clear k1 k17 k18 k25 k36 k523 k524 k529
        refine WK.ret [_] rfl ⟨rfl, trivial⟩ ?_
        exact ⟨ret1 (vb rfl), xW⟩
    refine WX.run rfl rfl (blt rfl) rfl ⟨xW, m6, m11, m16, m35⟩ (Run.alloc rfl ti29 rfl) ?_
    rintro _ w533 ⟨g532, rfl, e534, x535, m536⟩
    have n_g2_g532 := ne_new m6 e534
    have n_g7_g532 := ne_new m11 e534
    have n_g12_g532 := ne_new m16 e534
    have n_g28_g532 := ne_new m35 e534
    have o_g532 := own_new xW e534
    have m6 := m6.ext x535
    have m11 := m11.ext x535
    have m16 := m16.ext x535
    have m35 := m35.ext x535
    have xW := Ext.trans xW x535
    refine WX.alt ?_ ?_
    ·
      refine WX.run rfl rfl (blt rfl) rfl ⟨xW, m6, m11, m16, m35⟩ (Run.bslice0 rfl Try.underlying23 ti42) ?_
      rintro _ w538 ⟨g537, rfl, e539, x540, m541⟩
      have n_g2_g537 := ne_new m6 e539
      have n_g7_g537 := ne_new m11 e539
      have n_g12_g537 := ne_new m16 e539
      have n_g28_g537 := ne_new m35 e539
      have n_g532_g537 := ne_new m536 e539
      have o_g537 := own_new xW e539
      have m6 := m6.ext x540
      have m11 := m11.ext x540
      have m16 := m16.ext x540
      have m35 := m35.ext x540
      have m536 := m536.ext x540
      have xW := Ext.trans xW x540
      refine WX.alt ?_ ?_
      ·
        have ob542 := Blk.own (sz := 5) (f := Ck.Snap.c) (l := ([] : List Ck.Snap)) (base := w.heap.size) m541 o_g537 (fun _ => rfl) rfl (by decide) rfl
        refine WX.run rfl rfl (blt rfl) rfl ⟨xW, m6, m11, m16, m35⟩ (Run.appendL (f := Ck.Snap.c) rfl rfl rfl Try.underlying23 ti42 rfl (by decide) rfl ob542 (fun _ => rfl) Ck.Snap.one (h_l.ext xW) xW.size (by have q0 := h_l.len; first | omega | (simp only [List.length_append, List.length_cons, List.length_nil, List.length_take, List.length_drop, List.length_reverse]; omega)) (Nat.le_trans (show _ ≤ 140737488355328 from by have q0 := h_l.len; first | omega | (simp only [List.length_append, List.length_cons, List.length_nil, List.length_take, List.length_drop, List.length_reverse]; omega)) (by decide)) ) ?_
        rintro v543 w544 ⟨ow545, gr546, nb547⟩
        have r_v543_g2 := ne_app nb547 (ne_blk n_g2_g537) m6
        have m6 := m6.grown gr546 (ne_blk n_g2_g537)
        have r_v543_g7 := ne_app nb547 (ne_blk n_g7_g537) m11
        have m11 := m11.grown gr546 (ne_blk n_g7_g537)
        have r_v543_g12 := ne_app nb547 (ne_blk n_g12_g537) m16
        have m16 := m16.grown gr546 (ne_blk n_g12_g537)
        have r_v543_g28 := ne_app nb547 (ne_blk n_g28_g537) m35
        have m35 := m35.grown gr546 (ne_blk n_g28_g537)
        have r_v543_g532 := ne_app nb547 (ne_blk n_g532_g537) m536
        have m536 := m536.grown gr546 (ne_blk n_g532_g537)
        have xW := Ext.grown xW gr546 (fun b hb => (OwnL.lt ob542 hb).1)
        refine WX.run rfl rfl (blt rfl) rfl ⟨xW, m6, m11, m16, m35⟩ (Run.bslice (zs := [.int .i64 0, .int .i64 0, .int .i64 0, .int .i64 0, .int .i64 0]) (cs := [_, _, _, _, _]) rfl Try.underlying23 ti42 rfl (ble rfl) (by kernel_rfl) rfl rfl) ?_
        rintro _ w549 ⟨g548, rfl, e550, x551, m552⟩
        have n_g2_g548 := ne_new m6 e550
        have n_g7_g548 := ne_new m11 e550
        have n_g12_g548 := ne_new m16 e550
        have n_g28_g548 := ne_new m35 e550
        have n_g532_g548 := ne_new m536 e550
        have r_v543_g548 := ne_newO ow545 e550
        have o_g548 := own_new xW e550
        have m6 := m6.ext x551
        have m11 := m11.ext x551
        have m16 := m16.ext x551
        have m35 := m35.ext x551
        have m536 := m536.ext x551
        have ow545 := ow545.ext x551
        have xW := Ext.trans xW x551
        refine WX.run rfl rfl (blt rfl) rfl ⟨xW, m6, m11, m16, m35⟩ (Run.appendB (f := Ck.Snap.c) (news := [x]) rfl rfl rfl Try.underlying23 ti42 rfl (by decide) rfl ow545 (fun _ => rfl) Ck.Snap.one m552 rfl xW.size (by have q0 := h_l.len; first | omega | (simp only [List.length_append, List.length_cons, List.length_nil, List.length_take, List.length_drop, List.length_reverse]; omega)) (Nat.le_trans (show _ ≤ 140737488355328 from by have q0 := h_l.len; first | omega | (simp only [List.length_append, List.length_cons, List.length_nil, List.length_take, List.length_drop, List.length_reverse]; omega)) (by decide)) ) ?_
        rintro v553 w554 ⟨ow555, gr556, nb557⟩
        have r_v553_g2 := ne_app nb557 r_v543_g2 m6
        have m6 := m6.grown gr556 r_v543_g2
        have r_v553_g7 := ne_app nb557 r_v543_g7 m11
        have m11 := m11.grown gr556 r_v543_g7
        have r_v553_g12 := ne_app nb557 r_v543_g12 m16
        have m16 := m16.grown gr556 r_v543_g12
        have r_v553_g28 := ne_app nb557 r_v543_g28 m35
        have m35 := m35.grown gr556 r_v543_g28
        have r_v553_g532 := ne_app nb557 r_v543_g532 m536
        have m536 := m536.grown gr556 r_v543_g532
        have r_v553_g548 := ne_app nb557 r_v543_g548 m552
        have m552 := m552.grown gr556 r_v543_g548
        have xW := Ext.grown xW gr556 (fun b hb => (OwnL.lt ow545 hb).1)
        obtain ⟨A558, n559, c560, rfl, hl561⟩ := OwnL.opened ow555 (fun _ => rfl) (by decide)
        have e_n559 := hl561.len
        try simp only [List.length_append, List.length_cons, List.length_nil, List.length_reverse, List.length_drop, List.length_take, List.length_map, List.length_replicate, List.length_set] at e_n559
        have z_n559 := hl561.nle
        refine WX.call rfl rfl (blt rfl) rfl rfl rfl has11 rfl ⟨xW, m6, m11, m16, m35⟩ (of_any _ _ _ _ _ _ _ _ _ _ _ (h_d.ext xW) hl561 (by omega)) ?_
        rintro _ w562 ⟨rfl, x563⟩
        refine ⟨_, rfl, ?_⟩
        have m6 := m6.ext x563
        have m11 := m11.ext x563
        have m16 := m16.ext x563
        have m35 := m35.ext x563
        have m536 := m536.ext x563
        have m552 := m552.ext x563
        have ow555 := ow555.ext x563
        have hl561 := hl561.ext x563
        have xW := Ext.trans xW x563
        refine WX.yld rfl rfl (blt rfl) rfl (Y.move rfl rfl) ?_
        refine WX.yld rfl rfl (blt rfl) rfl (Y.extract rfl rfl rfl) ?_
        refine WX.yld rfl rfl (blt rfl) rfl (Y.extract rfl rfl rfl) ?_
        refine WX.storeB (cs' := [_, _]) rfl ⟨xW, m6, m11, m16, m35⟩ rfl rfl rfl rfl rfl rfl ti29 m536 (ble rfl) rfl rfl (fun w564 on565 m566 => ?_)
        have m6 := m6.only n_g2_g532 on565
        have m11 := m11.only n_g7_g532 on565
        have m16 := m16.only n_g12_g532 on565
        have m35 := m35.only n_g28_g532 on565
        have m552 := m552.only n_g532_g548.symm on565
        have ow555 := ow555.only r_v553_g532 on565
        have hl561 := OwnL.ls ow555 (fun _ => rfl) (by decide)
        have xW := Ext.only xW on565 o_g532
        refine WX.yld rfl rfl (blt rfl) rfl (Y.assign rfl rfl) ?_
        refine WX.nil ⟨xW, m6, m11, m16, m35⟩ ?_
        refine WK.then_normal (k36 _ _ ?_)
        refine WC.sub [(7, _), (8, _), (9, _), (10, _)] ⟨rfl, rfl, rfl, rfl, trivial⟩ ?_
        refine WC.seq (fun K567 k567 => ?_)
        refine WC.seq (fun K568 k568 => ?_)
        refine WC.region rfl ?_
        refine WL.yld rfl (blt rfl) rfl (Y.move rfl rfl) ?_
        refine WL.yld rfl (blt rfl) rfl (Y.neq rfl rfl rfl) ?_
        refine WL.yld rfl (blt rfl) rfl (Y.move rfl rfl) ?_
        refine WL.yldG rfl (blt rfl) rfl rfl rfl (fun hb => Y.move rfl rfl) ?_
        refine WL.yldG rfl (blt rfl) rfl rfl rfl (fun hb => Y.neq rfl (evg rfl hb) rfl) ?_
        refine WL.yld rfl (blt rfl) rfl (Y.or rfl rfl rfl rfl) ?_
        refine WL.nil ?_
        refine WK.then_normal (k568 _ _ ?_)
        refine WC.sub [(7, _), (9, _), (49, _)] ⟨rfl, rfl, rfl, trivial⟩ ?_
        refine WC.cond rfl (fun h569 => ?_) (fun h569 => ?_)
        ·
          have p569 := ((or_t h569).imp (fun h => (eq_f (not_t h))) (fun h => (eq_f (not_t h))))
          refine WC.seq (fun K570 k570 => ?_)
          refine WC.region rfl ?_
          refine WL.call rfl (blt rfl) rfl rfl rfl has10 rfl (awake_any _ ) ?_
          rintro _ w571 ⟨rfl, x572⟩
          refine ⟨_, rfl, ?_⟩
          have m35 := m35.ext x572
          have m566 := m566.ext x572
          have xW := Ext.trans xW x572
          refine WL.yld rfl (blt rfl) rfl (Y.assign rfl rfl) ?_
          refine WL.nil ?_
          refine WK.then_normal (k570 _ _ ?_)
          refine WC.sub [(6, _)] ⟨rfl, trivial⟩ ?_
          refine WC.ret ?_
          refine WK.then_ret ?_
          clear k1 k17 k18 k25 k36 k567 k568 k570
          refine WK.ret [_] rfl ⟨rfl, trivial⟩ ?_
          exact ⟨ret1 (vb rfl), xW⟩
        ·
          have p569 := (And.intro (eq_t (not_f (or_f h569).1)) (eq_t (not_f (or_f h569).2)))
          have hx0 : (Bd.ofF d l id at_).2 = 0 := by simpa using (Bool.or_eq_false_iff.1 h569).1
          have hx1 : (Bd.ofF d (([] ++ l) ++ [x]) id at_).2 = 0 := by simpa using (Bool.or_eq_false_iff.1 h569).2
          have nw := Bd.narrows (by omega) (by simp; omega) (fun s hs => by simp [hs]) hx0 hx1
          refine WC.skip ?_
          refine WK.then_normal (k567 _ _ ?_)
          refine WC.sub [(7, _), (9, _)] ⟨rfl, rfl, trivial⟩ ?_
          refine WC.seq (fun K573 k573 => ?_)
          refine WC.region rfl ?_
          refine WL.yld rfl (blt rfl) rfl (Y.fieldAddr rfl Try.underlying29 rfl ti3 (by decide) rfl) ?_
          refine WL.yld rfl (blt rfl) rfl (Y.load1 rfl Try.underlying3 rfl rfl (Blk.at_eq m566 rfl)) ?_
          refine WL.yld rfl (blt rfl) rfl (Y.fieldAddr rfl Try.underlying29 rfl ti3 (by decide) rfl) ?_
          refine WL.yld rfl (blt rfl) rfl (Y.load1 rfl Try.underlying3 rfl rfl (Blk.at_eq m35 rfl)) ?_
          refine WL.yld rfl (blt rfl) rfl (Yld.cast (Y.geq rfl rfl rfl) (bt nw.1)) ?_
          refine WL.yld rfl (blt rfl) rfl (Y.move rfl rfl) ?_
          refine WL.yldW rfl (blt rfl) rfl rfl rfl (Y.fieldAddr rfl Try.underlying29 rfl ti3 (by decide) rfl) ?_
          refine WL.yldW rfl (blt rfl) rfl rfl rfl (Y.load1 rfl Try.underlying3 rfl rfl (Blk.at_eq m566 rfl)) ?_
          refine WL.yldW rfl (blt rfl) rfl rfl rfl (Y.fieldAddr rfl Try.underlying29 rfl ti3 (by decide) rfl) ?_
          refine WL.yldW rfl (blt rfl) rfl rfl rfl (Y.load1 rfl Try.underlying3 rfl rfl (Blk.at_eq m35 rfl)) ?_
          refine WL.yldW rfl (blt rfl) rfl rfl rfl (Yld.cast (Y.leq rfl rfl rfl) (bt nw.2)) ?_
          refine WL.yld rfl (blt rfl) rfl (Y.pickT rfl rfl rfl) ?_
          refine WL.yld rfl (blt rfl) rfl (Y.move rfl rfl) ?_
          refine WL.callW rfl (blt rfl) rfl rfl rfl rfl rfl has10 rfl (awake_any _ ) ?_
          rintro _ w574 ⟨rfl, x575⟩
          refine ⟨_, rfl, ?_⟩
          have m35 := m35.ext x575
          have m566 := m566.ext x575
          have xW := Ext.trans xW x575
          refine WL.yld rfl (blt rfl) rfl (Y.pickT rfl rfl rfl) ?_
          refine WL.yld rfl (blt rfl) rfl (Y.assign rfl rfl) ?_
          refine WL.nil ?_
          refine WK.then_normal (k573 _ _ ?_)
          refine WC.sub [(6, _)] ⟨rfl, trivial⟩ ?_
          refine WC.ret ?_
          clear k1 k17 k18 k25 k36 k567 k568 k573
          refine WK.ret [_] rfl ⟨rfl, trivial⟩ ?_
          exact ⟨ret1 (vb rfl), xW⟩
      refine WX.run rfl rfl (blt rfl) rfl ⟨xW, m6, m11, m16, m35⟩ (Run.bslice (zs := [.int .i64 0, .int .i64 0, .int .i64 0, .int .i64 0, .int .i64 0]) (cs := [_, _, _, _, _]) rfl Try.underlying23 ti42 rfl (ble rfl) (by kernel_rfl) rfl rfl) ?_
      rintro _ w577 ⟨g576, rfl, e578, x579, m580⟩
      have n_g2_g576 := ne_new m6 e578
      have n_g7_g576 := ne_new m11 e578
      have n_g12_g576 := ne_new m16 e578
      have n_g28_g576 := ne_new m35 e578
      have n_g532_g576 := ne_new m536 e578
      have n_g537_g576 := ne_new m541 e578
      have o_g576 := own_new xW e578
      have m6 := m6.ext x579
      have m11 := m11.ext x579
      have m16 := m16.ext x579
      have m35 := m35.ext x579
      have m536 := m536.ext x579
      have m541 := m541.ext x579
      have xW := Ext.trans xW x579
      have ob581 := Blk.own (sz := 5) (f := Ck.Snap.c) (l := ([] : List Ck.Snap)) (base := w.heap.size) m541 o_g537 (fun _ => rfl) rfl (by decide) rfl
      refine WX.run rfl rfl (blt rfl) rfl ⟨xW, m6, m11, m16, m35⟩ (Run.appendL (f := Ck.Snap.c) rfl rfl rfl Try.underlying23 ti42 rfl (by decide) rfl ob581 (fun _ => rfl) Ck.Snap.one (h_l.ext xW) xW.size (by have q0 := h_l.len; first | omega | (simp only [List.length_append, List.length_cons, List.length_nil, List.length_take, List.length_drop, List.length_reverse]; omega)) (Nat.le_trans (show _ ≤ 140737488355328 from by have q0 := h_l.len; first | omega | (simp only [List.length_append, List.length_cons, List.length_nil, List.length_take, List.length_drop, List.length_reverse]; omega)) (by decide)) ) ?_
      rintro v582 w583 ⟨ow584, gr585, nb586⟩
      have r_v582_g2 := ne_app nb586 (ne_blk n_g2_g537) m6
      have m6 := m6.grown gr585 (ne_blk n_g2_g537)
      have r_v582_g7 := ne_app nb586 (ne_blk n_g7_g537) m11
      have m11 := m11.grown gr585 (ne_blk n_g7_g537)
      have r_v582_g12 := ne_app nb586 (ne_blk n_g12_g537) m16
      have m16 := m16.grown gr585 (ne_blk n_g12_g537)
      have r_v582_g28 := ne_app nb586 (ne_blk n_g28_g537) m35
      have m35 := m35.grown gr585 (ne_blk n_g28_g537)
      have r_v582_g532 := ne_app nb586 (ne_blk n_g532_g537) m536
      have m536 := m536.grown gr585 (ne_blk n_g532_g537)
      have r_v582_g576 := ne_app nb586 (ne_blk n_g537_g576.symm) m580
      have m580 := m580.grown gr585 (ne_blk n_g537_g576.symm)
      have xW := Ext.grown xW gr585 (fun b hb => (OwnL.lt ob581 hb).1)
      refine WX.run rfl rfl (blt rfl) rfl ⟨xW, m6, m11, m16, m35⟩ (Run.appendB (f := Ck.Snap.c) (news := [x]) rfl rfl rfl Try.underlying23 ti42 rfl (by decide) rfl ow584 (fun _ => rfl) Ck.Snap.one m580 rfl xW.size (by have q0 := h_l.len; first | omega | (simp only [List.length_append, List.length_cons, List.length_nil, List.length_take, List.length_drop, List.length_reverse]; omega)) (Nat.le_trans (show _ ≤ 140737488355328 from by have q0 := h_l.len; first | omega | (simp only [List.length_append, List.length_cons, List.length_nil, List.length_take, List.length_drop, List.length_reverse]; omega)) (by decide)) ) ?_
      rintro v587 w588 ⟨ow589, gr590, nb591⟩
      have r_v587_g2 := ne_app nb591 r_v582_g2 m6
      have m6 := m6.grown gr590 r_v582_g2
      have r_v587_g7 := ne_app nb591 r_v582_g7 m11
      have m11 := m11.grown gr590 r_v582_g7
      have r_v587_g12 := ne_app nb591 r_v582_g12 m16
      have m16 := m16.grown gr590 r_v582_g12
      have r_v587_g28 := ne_app nb591 r_v582_g28 m35
      have m35 := m35.grown gr590 r_v582_g28
      have r_v587_g532 := ne_app nb591 r_v582_g532 m536
      have m536 := m536.grown gr590 r_v582_g532
      have r_v587_g576 := ne_app nb591 r_v582_g576 m580
      have m580 := m580.grown gr590 r_v582_g576
      have xW := Ext.grown xW gr590 (fun b hb => (OwnL.lt ow584 hb).1)
      obtain ⟨A592, n593, c594, rfl, hl595⟩ := OwnL.opened ow589 (fun _ => rfl) (by decide)
      have e_n593 := hl595.len
      try simp only [List.length_append, List.length_cons, List.length_nil, List.length_reverse, List.length_drop, List.length_take, List.length_map, List.length_replicate, List.length_set] at e_n593
      have z_n593 := hl595.nle
      refine WX.call rfl rfl (blt rfl) rfl rfl rfl has11 rfl ⟨xW, m6, m11, m16, m35⟩ (of_any _ _ _ _ _ _ _ _ _ _ _ (h_d.ext xW) hl595 (by omega)) ?_
      rintro _ w596 ⟨rfl, x597⟩
      refine ⟨_, rfl, ?_⟩
      have m6 := m6.ext x597
      have m11 := m11.ext x597
      have m16 := m16.ext x597
      have m35 := m35.ext x597
      have m536 := m536.ext x597
      have m580 := m580.ext x597
      have ow589 := ow589.ext x597
      have hl595 := hl595.ext x597
      have xW := Ext.trans xW x597
      refine WX.yld rfl rfl (blt rfl) rfl (Y.move rfl rfl) ?_
      refine WX.yld rfl rfl (blt rfl) rfl (Y.extract rfl rfl rfl) ?_
      refine WX.yld rfl rfl (blt rfl) rfl (Y.extract rfl rfl rfl) ?_
      refine WX.storeB (cs' := [_, _]) rfl ⟨xW, m6, m11, m16, m35⟩ rfl rfl rfl rfl rfl rfl ti29 m536 (ble rfl) rfl rfl (fun w598 on599 m600 => ?_)
      have m6 := m6.only n_g2_g532 on599
      have m11 := m11.only n_g7_g532 on599
      have m16 := m16.only n_g12_g532 on599
      have m35 := m35.only n_g28_g532 on599
      have m580 := m580.only n_g532_g576.symm on599
      have ow589 := ow589.only r_v587_g532 on599
      have hl595 := OwnL.ls ow589 (fun _ => rfl) (by decide)
      have xW := Ext.only xW on599 o_g532
      refine WX.yld rfl rfl (blt rfl) rfl (Y.assign rfl rfl) ?_
      refine WX.nil ⟨xW, m6, m11, m16, m35⟩ ?_
      refine WK.then_normal (k36 _ _ ?_)
      refine WC.sub [(7, _), (8, _), (9, _), (10, _)] ⟨rfl, rfl, rfl, rfl, trivial⟩ ?_
      refine WC.seq (fun K601 k601 => ?_)
      refine WC.seq (fun K602 k602 => ?_)
      refine WC.region rfl ?_
      refine WL.yld rfl (blt rfl) rfl (Y.move rfl rfl) ?_
      refine WL.yld rfl (blt rfl) rfl (Y.neq rfl rfl rfl) ?_
      refine WL.yld rfl (blt rfl) rfl (Y.move rfl rfl) ?_
      refine WL.yldG rfl (blt rfl) rfl rfl rfl (fun hb => Y.move rfl rfl) ?_
      refine WL.yldG rfl (blt rfl) rfl rfl rfl (fun hb => Y.neq rfl (evg rfl hb) rfl) ?_
      refine WL.yld rfl (blt rfl) rfl (Y.or rfl rfl rfl rfl) ?_
      refine WL.nil ?_
      refine WK.then_normal (k602 _ _ ?_)
      refine WC.sub [(7, _), (9, _), (49, _)] ⟨rfl, rfl, rfl, trivial⟩ ?_
      refine WC.cond rfl (fun h603 => ?_) (fun h603 => ?_)
      ·
        have p603 := ((or_t h603).imp (fun h => (eq_f (not_t h))) (fun h => (eq_f (not_t h))))
        refine WC.seq (fun K604 k604 => ?_)
        refine WC.region rfl ?_
        refine WL.call rfl (blt rfl) rfl rfl rfl has10 rfl (awake_any _ ) ?_
        rintro _ w605 ⟨rfl, x606⟩
        refine ⟨_, rfl, ?_⟩
        have m35 := m35.ext x606
        have m600 := m600.ext x606
        have xW := Ext.trans xW x606
        refine WL.yld rfl (blt rfl) rfl (Y.assign rfl rfl) ?_
        refine WL.nil ?_
        refine WK.then_normal (k604 _ _ ?_)
        refine WC.sub [(6, _)] ⟨rfl, trivial⟩ ?_
        refine WC.ret ?_
        refine WK.then_ret ?_
        clear k1 k17 k18 k25 k36 k601 k602 k604
        refine WK.ret [_] rfl ⟨rfl, trivial⟩ ?_
        exact ⟨ret1 (vb rfl), xW⟩
      ·
        have p603 := (And.intro (eq_t (not_f (or_f h603).1)) (eq_t (not_f (or_f h603).2)))
        have hx0 : (Bd.ofF d l id at_).2 = 0 := by simpa using (Bool.or_eq_false_iff.1 h603).1
        have hx1 : (Bd.ofF d (([] ++ l) ++ [x]) id at_).2 = 0 := by simpa using (Bool.or_eq_false_iff.1 h603).2
        have nw := Bd.narrows (by omega) (by simp; omega) (fun s hs => by simp [hs]) hx0 hx1
        refine WC.skip ?_
        refine WK.then_normal (k601 _ _ ?_)
        refine WC.sub [(7, _), (9, _)] ⟨rfl, rfl, trivial⟩ ?_
        refine WC.seq (fun K607 k607 => ?_)
        refine WC.region rfl ?_
        refine WL.yld rfl (blt rfl) rfl (Y.fieldAddr rfl Try.underlying29 rfl ti3 (by decide) rfl) ?_
        refine WL.yld rfl (blt rfl) rfl (Y.load1 rfl Try.underlying3 rfl rfl (Blk.at_eq m600 rfl)) ?_
        refine WL.yld rfl (blt rfl) rfl (Y.fieldAddr rfl Try.underlying29 rfl ti3 (by decide) rfl) ?_
        refine WL.yld rfl (blt rfl) rfl (Y.load1 rfl Try.underlying3 rfl rfl (Blk.at_eq m35 rfl)) ?_
        refine WL.yld rfl (blt rfl) rfl (Yld.cast (Y.geq rfl rfl rfl) (bt nw.1)) ?_
        refine WL.yld rfl (blt rfl) rfl (Y.move rfl rfl) ?_
        refine WL.yldW rfl (blt rfl) rfl rfl rfl (Y.fieldAddr rfl Try.underlying29 rfl ti3 (by decide) rfl) ?_
        refine WL.yldW rfl (blt rfl) rfl rfl rfl (Y.load1 rfl Try.underlying3 rfl rfl (Blk.at_eq m600 rfl)) ?_
        refine WL.yldW rfl (blt rfl) rfl rfl rfl (Y.fieldAddr rfl Try.underlying29 rfl ti3 (by decide) rfl) ?_
        refine WL.yldW rfl (blt rfl) rfl rfl rfl (Y.load1 rfl Try.underlying3 rfl rfl (Blk.at_eq m35 rfl)) ?_
        refine WL.yldW rfl (blt rfl) rfl rfl rfl (Yld.cast (Y.leq rfl rfl rfl) (bt nw.2)) ?_
        refine WL.yld rfl (blt rfl) rfl (Y.pickT rfl rfl rfl) ?_
        refine WL.yld rfl (blt rfl) rfl (Y.move rfl rfl) ?_
        refine WL.callW rfl (blt rfl) rfl rfl rfl rfl rfl has10 rfl (awake_any _ ) ?_
        rintro _ w608 ⟨rfl, x609⟩
        refine ⟨_, rfl, ?_⟩
        have m35 := m35.ext x609
        have m600 := m600.ext x609
        have xW := Ext.trans xW x609
        refine WL.yld rfl (blt rfl) rfl (Y.pickT rfl rfl rfl) ?_
        refine WL.yld rfl (blt rfl) rfl (Y.assign rfl rfl) ?_
        refine WL.nil ?_
        refine WK.then_normal (k607 _ _ ?_)
        refine WC.sub [(6, _)] ⟨rfl, trivial⟩ ?_
        refine WC.ret ?_
        clear k1 k17 k18 k25 k36 k601 k602 k607
        refine WK.ret [_] rfl ⟨rfl, trivial⟩ ?_
        exact ⟨ret1 (vb rfl), xW⟩
    refine WX.run rfl rfl (blt rfl) rfl ⟨xW, m6, m11, m16, m35⟩ (Run.bslice (zs := [.int .i64 0, .int .i64 0, .int .i64 0, .int .i64 0, .int .i64 0]) (cs := [_, _, _, _, _]) rfl Try.underlying23 ti42 rfl (ble rfl) (by kernel_rfl) rfl rfl) ?_
    rintro _ w611 ⟨g610, rfl, e612, x613, m614⟩
    have n_g2_g610 := ne_new m6 e612
    have n_g7_g610 := ne_new m11 e612
    have n_g12_g610 := ne_new m16 e612
    have n_g28_g610 := ne_new m35 e612
    have n_g532_g610 := ne_new m536 e612
    have o_g610 := own_new xW e612
    have m6 := m6.ext x613
    have m11 := m11.ext x613
    have m16 := m16.ext x613
    have m35 := m35.ext x613
    have m536 := m536.ext x613
    have xW := Ext.trans xW x613
    refine WX.run rfl rfl (blt rfl) rfl ⟨xW, m6, m11, m16, m35⟩ (Run.bslice0 rfl Try.underlying23 ti42) ?_
    rintro _ w616 ⟨g615, rfl, e617, x618, m619⟩
    have n_g2_g615 := ne_new m6 e617
    have n_g7_g615 := ne_new m11 e617
    have n_g12_g615 := ne_new m16 e617
    have n_g28_g615 := ne_new m35 e617
    have n_g532_g615 := ne_new m536 e617
    have n_g610_g615 := ne_new m614 e617
    have o_g615 := own_new xW e617
    have m6 := m6.ext x618
    have m11 := m11.ext x618
    have m16 := m16.ext x618
    have m35 := m35.ext x618
    have m536 := m536.ext x618
    have m614 := m614.ext x618
    have xW := Ext.trans xW x618
    have ob620 := Blk.own (sz := 5) (f := Ck.Snap.c) (l := ([] : List Ck.Snap)) (base := w.heap.size) m619 o_g615 (fun _ => rfl) rfl (by decide) rfl
    refine WX.run rfl rfl (blt rfl) rfl ⟨xW, m6, m11, m16, m35⟩ (Run.appendL (f := Ck.Snap.c) rfl rfl rfl Try.underlying23 ti42 rfl (by decide) rfl ob620 (fun _ => rfl) Ck.Snap.one (h_l.ext xW) xW.size (by have q0 := h_l.len; first | omega | (simp only [List.length_append, List.length_cons, List.length_nil, List.length_take, List.length_drop, List.length_reverse]; omega)) (Nat.le_trans (show _ ≤ 140737488355328 from by have q0 := h_l.len; first | omega | (simp only [List.length_append, List.length_cons, List.length_nil, List.length_take, List.length_drop, List.length_reverse]; omega)) (by decide)) ) ?_
    rintro v621 w622 ⟨ow623, gr624, nb625⟩
    have r_v621_g2 := ne_app nb625 (ne_blk n_g2_g615) m6
    have m6 := m6.grown gr624 (ne_blk n_g2_g615)
    have r_v621_g7 := ne_app nb625 (ne_blk n_g7_g615) m11
    have m11 := m11.grown gr624 (ne_blk n_g7_g615)
    have r_v621_g12 := ne_app nb625 (ne_blk n_g12_g615) m16
    have m16 := m16.grown gr624 (ne_blk n_g12_g615)
    have r_v621_g28 := ne_app nb625 (ne_blk n_g28_g615) m35
    have m35 := m35.grown gr624 (ne_blk n_g28_g615)
    have r_v621_g532 := ne_app nb625 (ne_blk n_g532_g615) m536
    have m536 := m536.grown gr624 (ne_blk n_g532_g615)
    have r_v621_g610 := ne_app nb625 (ne_blk n_g610_g615) m614
    have m614 := m614.grown gr624 (ne_blk n_g610_g615)
    have xW := Ext.grown xW gr624 (fun b hb => (OwnL.lt ob620 hb).1)
    refine WX.run rfl rfl (blt rfl) rfl ⟨xW, m6, m11, m16, m35⟩ (Run.appendB (f := Ck.Snap.c) (news := [x]) rfl rfl rfl Try.underlying23 ti42 rfl (by decide) rfl ow623 (fun _ => rfl) Ck.Snap.one m614 rfl xW.size (by have q0 := h_l.len; first | omega | (simp only [List.length_append, List.length_cons, List.length_nil, List.length_take, List.length_drop, List.length_reverse]; omega)) (Nat.le_trans (show _ ≤ 140737488355328 from by have q0 := h_l.len; first | omega | (simp only [List.length_append, List.length_cons, List.length_nil, List.length_take, List.length_drop, List.length_reverse]; omega)) (by decide)) ) ?_
    rintro v626 w627 ⟨ow628, gr629, nb630⟩
    have r_v626_g2 := ne_app nb630 r_v621_g2 m6
    have m6 := m6.grown gr629 r_v621_g2
    have r_v626_g7 := ne_app nb630 r_v621_g7 m11
    have m11 := m11.grown gr629 r_v621_g7
    have r_v626_g12 := ne_app nb630 r_v621_g12 m16
    have m16 := m16.grown gr629 r_v621_g12
    have r_v626_g28 := ne_app nb630 r_v621_g28 m35
    have m35 := m35.grown gr629 r_v621_g28
    have r_v626_g532 := ne_app nb630 r_v621_g532 m536
    have m536 := m536.grown gr629 r_v621_g532
    have r_v626_g610 := ne_app nb630 r_v621_g610 m614
    have m614 := m614.grown gr629 r_v621_g610
    have xW := Ext.grown xW gr629 (fun b hb => (OwnL.lt ow623 hb).1)
    obtain ⟨A631, n632, c633, rfl, hl634⟩ := OwnL.opened ow628 (fun _ => rfl) (by decide)
    have e_n632 := hl634.len
    try simp only [List.length_append, List.length_cons, List.length_nil, List.length_reverse, List.length_drop, List.length_take, List.length_map, List.length_replicate, List.length_set] at e_n632
    have z_n632 := hl634.nle
    refine WX.call rfl rfl (blt rfl) rfl rfl rfl has11 rfl ⟨xW, m6, m11, m16, m35⟩ (of_any _ _ _ _ _ _ _ _ _ _ _ (h_d.ext xW) hl634 (by omega)) ?_
    rintro _ w635 ⟨rfl, x636⟩
    refine ⟨_, rfl, ?_⟩
    have m6 := m6.ext x636
    have m11 := m11.ext x636
    have m16 := m16.ext x636
    have m35 := m35.ext x636
    have m536 := m536.ext x636
    have m614 := m614.ext x636
    have ow628 := ow628.ext x636
    have hl634 := hl634.ext x636
    have xW := Ext.trans xW x636
    refine WX.yld rfl rfl (blt rfl) rfl (Y.move rfl rfl) ?_
    refine WX.yld rfl rfl (blt rfl) rfl (Y.extract rfl rfl rfl) ?_
    refine WX.yld rfl rfl (blt rfl) rfl (Y.extract rfl rfl rfl) ?_
    refine WX.storeB (cs' := [_, _]) rfl ⟨xW, m6, m11, m16, m35⟩ rfl rfl rfl rfl rfl rfl ti29 m536 (ble rfl) rfl rfl (fun w637 on638 m639 => ?_)
    have m6 := m6.only n_g2_g532 on638
    have m11 := m11.only n_g7_g532 on638
    have m16 := m16.only n_g12_g532 on638
    have m35 := m35.only n_g28_g532 on638
    have m614 := m614.only n_g532_g610.symm on638
    have ow628 := ow628.only r_v626_g532 on638
    have hl634 := OwnL.ls ow628 (fun _ => rfl) (by decide)
    have xW := Ext.only xW on638 o_g532
    refine WX.yld rfl rfl (blt rfl) rfl (Y.assign rfl rfl) ?_
    refine WX.nil ⟨xW, m6, m11, m16, m35⟩ ?_
    refine WK.then_normal (k36 _ _ ?_)
    refine WC.sub [(7, _), (8, _), (9, _), (10, _)] ⟨rfl, rfl, rfl, rfl, trivial⟩ ?_
    refine WC.seq (fun K640 k640 => ?_)
    refine WC.seq (fun K641 k641 => ?_)
    refine WC.region rfl ?_
    refine WL.yld rfl (blt rfl) rfl (Y.move rfl rfl) ?_
    refine WL.yld rfl (blt rfl) rfl (Y.neq rfl rfl rfl) ?_
    refine WL.yld rfl (blt rfl) rfl (Y.move rfl rfl) ?_
    refine WL.yldG rfl (blt rfl) rfl rfl rfl (fun hb => Y.move rfl rfl) ?_
    refine WL.yldG rfl (blt rfl) rfl rfl rfl (fun hb => Y.neq rfl (evg rfl hb) rfl) ?_
    refine WL.yld rfl (blt rfl) rfl (Y.or rfl rfl rfl rfl) ?_
    refine WL.nil ?_
    refine WK.then_normal (k641 _ _ ?_)
    refine WC.sub [(7, _), (9, _), (49, _)] ⟨rfl, rfl, rfl, trivial⟩ ?_
    refine WC.cond rfl (fun h642 => ?_) (fun h642 => ?_)
    ·
      have p642 := ((or_t h642).imp (fun h => (eq_f (not_t h))) (fun h => (eq_f (not_t h))))
      refine WC.seq (fun K643 k643 => ?_)
      refine WC.region rfl ?_
      refine WL.call rfl (blt rfl) rfl rfl rfl has10 rfl (awake_any _ ) ?_
      rintro _ w644 ⟨rfl, x645⟩
      refine ⟨_, rfl, ?_⟩
      have m35 := m35.ext x645
      have m639 := m639.ext x645
      have xW := Ext.trans xW x645
      refine WL.yld rfl (blt rfl) rfl (Y.assign rfl rfl) ?_
      refine WL.nil ?_
      refine WK.then_normal (k643 _ _ ?_)
      refine WC.sub [(6, _)] ⟨rfl, trivial⟩ ?_
      refine WC.ret ?_
      refine WK.then_ret ?_
      clear k1 k17 k18 k25 k36 k640 k641 k643
      refine WK.ret [_] rfl ⟨rfl, trivial⟩ ?_
      exact ⟨ret1 (vb rfl), xW⟩
    ·
      have p642 := (And.intro (eq_t (not_f (or_f h642).1)) (eq_t (not_f (or_f h642).2)))
      have hx0 : (Bd.ofF d l id at_).2 = 0 := by simpa using (Bool.or_eq_false_iff.1 h642).1
      have hx1 : (Bd.ofF d (([] ++ l) ++ [x]) id at_).2 = 0 := by simpa using (Bool.or_eq_false_iff.1 h642).2
      have nw := Bd.narrows (by omega) (by simp; omega) (fun s hs => by simp [hs]) hx0 hx1
      refine WC.skip ?_
      refine WK.then_normal (k640 _ _ ?_)
      refine WC.sub [(7, _), (9, _)] ⟨rfl, rfl, trivial⟩ ?_
      refine WC.seq (fun K646 k646 => ?_)
      refine WC.region rfl ?_
      refine WL.yld rfl (blt rfl) rfl (Y.fieldAddr rfl Try.underlying29 rfl ti3 (by decide) rfl) ?_
      refine WL.yld rfl (blt rfl) rfl (Y.load1 rfl Try.underlying3 rfl rfl (Blk.at_eq m639 rfl)) ?_
      refine WL.yld rfl (blt rfl) rfl (Y.fieldAddr rfl Try.underlying29 rfl ti3 (by decide) rfl) ?_
      refine WL.yld rfl (blt rfl) rfl (Y.load1 rfl Try.underlying3 rfl rfl (Blk.at_eq m35 rfl)) ?_
      refine WL.yld rfl (blt rfl) rfl (Yld.cast (Y.geq rfl rfl rfl) (bt nw.1)) ?_
      refine WL.yld rfl (blt rfl) rfl (Y.move rfl rfl) ?_
      refine WL.yldW rfl (blt rfl) rfl rfl rfl (Y.fieldAddr rfl Try.underlying29 rfl ti3 (by decide) rfl) ?_
      refine WL.yldW rfl (blt rfl) rfl rfl rfl (Y.load1 rfl Try.underlying3 rfl rfl (Blk.at_eq m639 rfl)) ?_
      refine WL.yldW rfl (blt rfl) rfl rfl rfl (Y.fieldAddr rfl Try.underlying29 rfl ti3 (by decide) rfl) ?_
      refine WL.yldW rfl (blt rfl) rfl rfl rfl (Y.load1 rfl Try.underlying3 rfl rfl (Blk.at_eq m35 rfl)) ?_
      refine WL.yldW rfl (blt rfl) rfl rfl rfl (Yld.cast (Y.leq rfl rfl rfl) (bt nw.2)) ?_
      refine WL.yld rfl (blt rfl) rfl (Y.pickT rfl rfl rfl) ?_
      refine WL.yld rfl (blt rfl) rfl (Y.move rfl rfl) ?_
      refine WL.callW rfl (blt rfl) rfl rfl rfl rfl rfl has10 rfl (awake_any _ ) ?_
      rintro _ w647 ⟨rfl, x648⟩
      refine ⟨_, rfl, ?_⟩
      have m35 := m35.ext x648
      have m639 := m639.ext x648
      have xW := Ext.trans xW x648
      refine WL.yld rfl (blt rfl) rfl (Y.pickT rfl rfl rfl) ?_
      refine WL.yld rfl (blt rfl) rfl (Y.assign rfl rfl) ?_
      refine WL.nil ?_
      refine WK.then_normal (k646 _ _ ?_)
      refine WC.sub [(6, _)] ⟨rfl, trivial⟩ ?_
      refine WC.ret ?_
      clear k1 k17 k18 k25 k36 k640 k641 k646
      refine WK.ret [_] rfl ⟨rfl, trivial⟩ ?_
      exact ⟨ret1 (vb rfl), xW⟩
end LBoundNarrows
end BdW

end Go.Proofs.Ytaglpampidlbmaa
