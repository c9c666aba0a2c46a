/- Contracts: build. Conditions: what each theorem states. -/
import Derived.Test.YtaglpampidlbmaaBdBld
namespace Go.Proofs.Ytaglpampidlbmaa
open Go Go.Eng Go.RowKit
set_option linter.unusedVariables false
set_option linter.unusedSimpArgs false
namespace BdW
open N RL NumF LB GR CkW CkW.P
namespace B
theorem ti3 : TI Try.prog 3 (.int .i64 0) 1 8 := TI.mk (by kernel_rfl)
theorem ti29 : TI Try.prog 29 (.agg #[.int .i64 0, .int .i64 0]) 2 16 := TI.mk (by kernel_rfl)
theorem ti42 : TI Try.prog 42 (.agg #[.int .i64 0, .int .i64 0, .int .i64 0, .int .i64 0, .int .i64 0]) 5 40 := TI.mk (by kernel_rfl)
theorem ti59 : TI Try.prog 59 (.agg #[.int .i64 0, .int .i64 0]) 2 16 := TI.mk (by kernel_rfl)
theorem ti83 : TI Try.prog 83 (.slice none 0 0) 1 24 := TI.mk (by kernel_rfl)
theorem ti85 : TI Try.prog 85 (.agg #[.map none, .slice none 0 0]) 2 32 := TI.mk (by kernel_rfl)
theorem ti92 : TI Try.prog 92 (.agg #[.int .i64 0, .int .i64 0, .int .i64 0]) 3 24 := TI.mk (by kernel_rfl)
theorem has22 : Has Try.prog 22 := ⟨_, Try.func22, rfl, by kernel_rfl⟩
theorem has27 : Has Try.prog 27 := ⟨_, Try.func27, rfl, by kernel_rfl⟩
theorem has45 : Has Try.prog 45 := ⟨_, Try.func45, rfl, by kernel_rfl⟩
theorem has46 : Has Try.prog 46 := ⟨_, Try.func46, rfl, by kernel_rfl⟩
theorem has47 : Has Try.prog 47 := ⟨_, Try.func47, rfl, by kernel_rfl⟩
theorem has48 : Has Try.prog 48 := ⟨_, Try.func48, rfl, by kernel_rfl⟩
theorem has49 : Has Try.prog 49 := ⟨_, Try.func49, rfl, by kernel_rfl⟩
theorem pl29 : PL Try.prog 29 [.int .i64 0, .int .i64 0] [(0, 1), (1, 1)] := PL.mk (zero := [.int .i64 0, .int .i64 0]) ti29 Try.underlying29 (by kernel_rfl)
theorem pl85 : PL Try.prog 85 [.map none, .slice none 0 0] [(0, 1), (1, 1)] := PL.mk (zero := [.map none, .slice none 0 0]) ti85 Try.underlying85 (by kernel_rfl)
theorem pl92 : PL Try.prog 92 [.int .i64 0, .int .i64 0, .int .i64 0] [(0, 1), (1, 1), (2, 1)] := PL.mk (zero := [.int .i64 0, .int .i64 0, .int .i64 0]) ti92 Try.underlying92 (by kernel_rfl)
theorem build_any (A_d : Option Addr) (n_d c_d : Nat) (d : List Ck.Dom) (A_l : Option Addr) (n_l c_l : Nat) (l : List Ck.Snap) (id : Int) (at_ : Int) (w : World) (h_d : Ls w A_d n_d c_d Ck.Dom.c 2 d) (h_l : Ls w A_l n_l c_l Ck.Snap.c 5 l) (gd : Bd.Good d l) (hl : n_l ≤ 11) (ha : 0 ≤ at_ ∧ at_ ≤ 1000000000000) :
    Calls Try.prog 25 #[.slice A_d n_d c_d, .slice A_l n_l c_l, .int .i64 id, .int .i64 at_] w fun e w' => ∃ g0 g1 v, e = .returned (.pointer (some ⟨g0, 0, none⟩)) ∧ Blk w' g0 85 [.map (some g1), v] ∧ MpP w' g1 (Bd.numF 0 (Bd.nds d l id at_)) ∧ OwnL w' w.heap.size 92 Bd.Ed.c 3 v (Bd.edgesF d l id at_) ∧ w.heap.size ≤ g0 ∧ w.heap.size ≤ g1 ∧ g1 ≠ g0 ∧ v.ownBlock ≠ some g0 ∧ v.ownBlock ≠ some g1 ∧ Ext w w' := by
  have xW := Ext.refl w
  have e_d := h_d.len
  have z_d := h_d.nle
  have e_l := h_l.len
  have z_l := h_l.nle
  refine calls_of_WC (args := [.slice A_d n_d c_d, .slice A_l n_l c_l, .int .i64 id, .int .i64 at_]) Try.func25 rfl rfl (ble rfl) ?_
  refine WC.seq (fun K1 k1 => ?_)
  refine WC.region rfl ?_
  refine WL.yld rfl (blt rfl) rfl (Y.assign rfl rfl) ?_
  refine WL.nil ?_
  refine WK.then_normal (k1 _ _ ?_)
  refine WC.sub [(0, _), (1, _), (2, _), (3, _)] ⟨rfl, rfl, rfl, rfl, trivial⟩ ?_
  refine WC.seq (fun K2 k2 => ?_)
  refine WC.region rfl ?_
  refine WL.makeMapP rfl (blt rfl) rfl rfl ?_
  intro g3 w4 e5 x6 m7
  have o_g3 := own_new xW e5
  have xW := Ext.trans xW x6
  refine WL.yld rfl (blt rfl) rfl (Y.build (cells := [_, _]) rfl pl85 rfl rfl) ?_
  refine WL.box rfl (blt rfl) rfl rfl rfl rfl ?_
  intro g8 w9 e10 x11 m12
  have n_g3_g8 := ne_newMP m7 e10
  have o_g8 := own_new xW e10
  have m7 := m7.ext x11
  have xW := Ext.trans xW x11
  refine WL.yld rfl (blt rfl) rfl (Y.assign rfl rfl) ?_
  refine WL.nil ?_
  refine WK.then_normal (k2 _ _ ?_)
  refine WC.sub [(0, _), (1, _), (2, _), (3, _), (9, _)] ⟨rfl, rfl, rfl, rfl, rfl, trivial⟩ ?_
  refine WC.seq (fun K13 k13 => ?_)
  refine WC.seq (fun K14 k14 => ?_)
  refine WC.region rfl ?_
  refine WL.yld rfl (blt rfl) rfl (Y.move rfl rfl) ?_
  refine WL.yld rfl (blt rfl) rfl (Y.lenSl rfl rfl rfl Try.underlying22 rfl) ?_
  refine WL.yld rfl (blt rfl) rfl (Y.move rfl rfl) ?_
  refine WL.nil ?_
  refine WK.then_normal (k14 _ _ ?_)
  refine WC.sub [(1, _), (2, _), (3, _), (9, _), (26, _), (27, _), (28, _)] ⟨rfl, rfl, rfl, rfl, rfl, rfl, rfl, trivial⟩ ?_
  refine WC.block ?_
  refine WC.sub [(28, _), (1, _), (2, _), (3, _), (9, _), (26, _), (27, _)] ⟨rfl, rfl, rfl, rfl, rfl, rfl, rfl, trivial⟩ ?_
  refine WC.loopS 1 (fun mz Ed W' => ∃ i : Nat, ∃ va : Value, mz = n_d - i ∧ Ed = [(28, .int .i64 ((i : Nat) : Int))] ∧ Ext w W' ∧ MpP W' g3 (Bd.numF 0 (Bd.ndsN d l id at_ i)) ∧ Blk W' g8 85 [.map (some g3), va] ∧ OwnL W' w.heap.size 92 Bd.Ed.c 3 va (Bd.edN d l id at_ i) ∧ va.ownBlock ≠ some g3 ∧ va.ownBlock ≠ some g8 ∧ (i ≤ n_d)) _ ⟨0, _, rfl, rfl, xW, m7, m12, (by rw [show Bd.edN d l id at_ 0 = [] from rfl]; exact OwnL.nil_), ne_nil, ne_nil, (Nat.zero_le _)⟩ ?_
  rintro _ _ w15 ⟨i, va, rfl, rfl, xW, m7, m12, ow_va, r_va_g3, r_va_g8, le_i⟩
  refine WC.sub [(28, _), (1, _), (2, _), (3, _), (9, _), (26, _), (27, _)] ⟨rfl, rfl, rfl, rfl, rfl, rfl, rfl, trivial⟩ ?_
  refine WC.seq (fun K16 k16 => ?_)
  refine WC.region rfl ?_
  refine WL.yld rfl (blt rfl) rfl (Y.lss rfl rfl rfl) ?_
  refine WL.nil ?_
  refine WK.then_normal (k16 _ _ ?_)
  refine WC.seq (fun K17 k17 => ?_)
  refine WC.cond rfl (fun h18 => ?_) (fun h18 => ?_)
  ·
    have p18 := (dec_t h18)
    refine WC.skip ?_
    refine WK.then_normal (k17 _ _ ?_)
    refine WC.sub [(1, _), (2, _), (3, _), (9, _), (26, _), (27, _), (28, _)] ⟨rfl, rfl, rfl, rfl, rfl, rfl, rfl, trivial⟩ ?_
    refine WC.seq (fun K19 k19 => ?_)
    refine WC.block ?_
    refine WC.seq (fun K20 k20 => ?_)
    refine WC.region rfl ?_
    have b21 : i < n_d := by omega
    refine WL.yld rfl (blt rfl) rfl (Y.indexLs i (h_d.ext xW) rfl Try.underlying22 ti59 rfl rfl rfl b21) ?_
    refine WL.yld rfl (blt rfl) rfl (Y.loadS (cs := [_, _]) rfl Try.underlying59 rfl ti59 rfl (Ls.part_eq (h_d.ext xW) b21 rfl)) ?_
    refine WL.alloc rfl (blt rfl) rfl rfl ti59 rfl ?_
    intro g22 w23 e24 x25 m26
    have n_g3_g22 := ne_newMP m7 e24
    have n_g8_g22 := ne_new m12 e24
    have r_va_g22 := ne_newO ow_va e24
    have o_g22 := own_new xW e24
    have m7 := m7.ext x25
    have m12 := m12.ext x25
    have ow_va := ow_va.ext x25
    have xW := Ext.trans xW x25
    refine WL.store (cs' := [_, _]) rfl rfl rfl rfl rfl rfl ti59 m26 (ble rfl) rfl rfl (fun w27 on28 m29 => ?_)
    have m7 := m7.only n_g3_g22 on28
    have m12 := m12.only n_g8_g22 on28
    have ow_va := ow_va.only r_va_g22 on28
    have xW := Ext.only xW on28 o_g22
    refine WL.nil ?_
    refine WK.then_normal (k20 _ _ ?_)
    refine WC.sub [(1, _), (2, _), (3, _), (9, _), (11, _), (26, _), (27, _), (28, _)] ⟨rfl, rfl, rfl, rfl, rfl, rfl, rfl, rfl, trivial⟩ ?_
    refine WC.seq (fun K30 k30 => ?_)
    refine WC.region rfl ?_
    refine WL.yld rfl (blt rfl) rfl (Y.move rfl rfl) ?_
    refine WL.yld rfl (blt rfl) rfl (Y.fieldAddr rfl Try.underlying59 rfl ti3 (by decide) rfl) ?_
    refine WL.yld rfl (blt rfl) rfl (Y.load1 rfl Try.underlying3 rfl rfl (Blk.at_eq m29 rfl)) ?_
    refine WL.call rfl (blt rfl) rfl rfl rfl has45 rfl (points_any _ _ _ _ _ _ (h_l.ext xW) (by omega)) ?_
    rintro _ w31 ⟨v33, rfl, ow34, x32⟩
    refine ⟨_, rfl, ?_⟩
    have r_v33_g3 := ne_resMP ow34 m7
    have r_v33_g8 := ne_res ow34 m12
    have d_v33_va := Apart.res ow34 ow_va
    have r_v33_g22 := ne_res ow34 m29
    have ow34 := OwnL.base_le ow34 xW.size
    have m7 := m7.ext x32
    have m12 := m12.ext x32
    have ow_va := ow_va.ext x32
    have m29 := m29.ext x32
    have xW := Ext.trans xW x32
    refine WL.yld rfl (blt rfl) rfl (Y.assign rfl rfl) ?_
    refine WL.nil ?_
    refine WK.then_normal (k30 _ _ ?_)
    refine WC.sub [(1, _), (2, _), (3, _), (9, _), (11, _), (12, _), (26, _), (27, _), (28, _)] ⟨rfl, rfl, rfl, rfl, rfl, rfl, rfl, rfl, rfl, trivial⟩ ?_
    refine WC.seq (fun K35 k35 => ?_)
    refine WC.seq (fun K36 k36 => ?_)
    refine WC.region rfl ?_
    refine WL.yld rfl (blt rfl) rfl (Y.fieldAddr rfl Try.underlying59 rfl ti3 (by decide) rfl) ?_
    refine WL.yld rfl (blt rfl) rfl (Y.load1 rfl Try.underlying3 rfl rfl (Blk.at_eq m29 rfl)) ?_
    refine WL.yld rfl (blt rfl) rfl (Y.move rfl rfl) ?_
    refine WL.yld rfl (blt rfl) rfl (Y.eql rfl rfl rfl) ?_
    refine WL.yld rfl (blt rfl) rfl (Y.move rfl rfl) ?_
    refine WL.yldG rfl (blt rfl) rfl rfl rfl (fun hb => Y.move rfl rfl) ?_
    refine WL.yldG rfl (blt rfl) rfl rfl rfl (fun hb => Y.move rfl rfl) ?_
    obtain ⟨A37, n38, c39, rfl, hl40⟩ := OwnL.opened ow34 (fun _ => rfl) (by decide)
    have e_n38 := hl40.len
    try simp only [List.length_append, List.length_cons, List.length_nil, List.length_reverse, List.length_drop, List.length_take, List.length_map, List.length_replicate, List.length_set] at e_n38
    have z_n38 := hl40.nle
    refine WL.callG rfl (blt rfl) rfl rfl rfl rfl rfl has46 (fun hb => (evs_cons (evg rfl hb) (evs_cons (evg rfl hb) evs_nil))) (fun hb => contains_int _ _ _ _ _ _ hl40) (fun w41 x42 => ?_)
    have m7 := m7.ext x42
    have m12 := m12.ext x42
    have ow_va := ow_va.ext x42
    have m29 := m29.ext x42
    have ow34 := ow34.ext x42
    have hl40 := hl40.ext x42
    have xW := Ext.trans xW x42
    refine WL.yldG rfl (blt rfl) rfl rfl rfl (fun hb => Y.not rfl (evg rfl hb)) ?_
    refine WL.yld rfl (blt rfl) rfl (Y.and rfl rfl rfl rfl) ?_
    refine WL.nil ?_
    refine WK.then_normal (k36 _ _ ?_)
    refine WC.sub [(1, _), (2, _), (3, _), (9, _), (11, _), (12, _), (26, _), (27, _), (28, _), (45, _)] ⟨rfl, rfl, rfl, rfl, rfl, rfl, rfl, rfl, rfl, rfl, trivial⟩ ?_
    refine WC.cond rfl (fun h43 => ?_) (fun h43 => ?_)
    ·
      have p43 := (eq_t (and_t h43).1)
      have pl0 := Ck.pts_len l d[i]!.id
      refine WC.region rfl ?_
      refine WL.yld rfl (blt rfl) rfl (Y.move rfl rfl) ?_
      refine WL.call rfl (blt rfl) rfl rfl rfl has47 rfl (clone_int _ _ _ _ _ hl40 (by omega)) ?_
      rintro _ w44 ⟨v46, rfl, ow47, x45⟩
      refine ⟨_, rfl, ?_⟩
      have r_v46_g3 := ne_resMP ow47 m7
      have r_v46_g8 := ne_res ow47 m12
      have d_v46_va := Apart.res ow47 ow_va
      have r_v46_g22 := ne_res ow47 m29
      have d_v33_v46 := (Apart.res ow47 ow34).symm
      have ow47 := OwnL.base_le ow47 xW.size
      have m7 := m7.ext x45
      have m12 := m12.ext x45
      have ow_va := ow_va.ext x45
      have m29 := m29.ext x45
      have ow34 := ow34.ext x45
      have hl40 := hl40.ext x45
      have xW := Ext.trans xW x45
      refine WL.yld rfl (blt rfl) rfl (Y.move rfl rfl) ?_
      refine WL.bslice (zs := [.int .i64 0]) (cs := [_]) rfl (blt rfl) rfl rfl Try.underlying35 ti3 rfl (ble rfl) (by kernel_rfl) rfl rfl ?_
      intro g48 w49 e50 x51 m52
      have n_g3_g48 := ne_newMP m7 e50
      have n_g8_g48 := ne_new m12 e50
      have r_va_g48 := ne_newO ow_va e50
      have n_g22_g48 := ne_new m29 e50
      have r_v33_g48 := ne_newO ow34 e50
      have r_v46_g48 := ne_newO ow47 e50
      have o_g48 := own_new xW e50
      have m7 := m7.ext x51
      have m12 := m12.ext x51
      have ow_va := ow_va.ext x51
      have m29 := m29.ext x51
      have ow34 := ow34.ext x51
      have hl40 := hl40.ext x51
      have ow47 := ow47.ext x51
      have xW := Ext.trans xW x51
      refine WL.appendB (f := Ck.ic) (news := [at_]) rfl (blt rfl) rfl rfl rfl rfl Try.underlying35 ti3 rfl (by decide) rfl ow47 (fun _ => rfl) Ck.ic_one m52 rfl xW.size (by have q0 := Ck.pts_len l d[i]!.id; first | omega | (simp only [List.length_append, List.length_cons, List.length_nil, List.length_take, List.length_drop, List.length_reverse]; omega)) (Nat.le_trans (show _ ≤ 140737488355328 from by have q0 := Ck.pts_len l d[i]!.id; first | omega | (simp only [List.length_append, List.length_cons, List.length_nil, List.length_take, List.length_drop, List.length_reverse]; omega)) (by decide)) (fun v53 w54 ow55 gr56 nb57 => ?_)
      have r_v53_g3 := ne_appMP nb57 r_v46_g3 m7
      have m7 := m7.grown gr56 r_v46_g3
      have r_v53_g8 := ne_app nb57 r_v46_g8 m12
      have m12 := m12.grown gr56 r_v46_g8
      have d_v53_va := (Apart.app d_v46_va nb57 ow_va)
      have ow_va := OwnL.grown ow_va gr56 d_v46_va
      have r_v53_g22 := ne_app nb57 r_v46_g22 m29
      have m29 := m29.grown gr56 r_v46_g22
      have d_v33_v53 := (Apart.app d_v33_v46.symm nb57 ow34).symm
      have ow34 := OwnL.grown ow34 gr56 d_v33_v46.symm
      have hl40 := OwnL.ls ow34 (fun _ => rfl) (by decide)
      have r_v53_g48 := ne_app nb57 r_v46_g48 m52
      have m52 := m52.grown gr56 r_v46_g48
      have xW := Ext.grown xW gr56 (fun b hb => (OwnL.lt ow47 hb).1)
      refine WL.yld rfl (blt rfl) rfl (Y.assign rfl rfl) ?_
      refine WL.nil ?_
      refine WK.then_normal (k35 _ _ ?_)
      refine WC.sub [(1, _), (2, _), (3, _), (9, _), (11, _), (12, _), (26, _), (27, _), (28, _)] ⟨rfl, rfl, rfl, rfl, rfl, rfl, rfl, rfl, rfl, trivial⟩ ?_
      refine WC.seq (fun K58 k58 => ?_)
      refine WC.region rfl ?_
      refine WL.yld rfl (blt rfl) rfl (Y.move rfl rfl) ?_
      refine WL.call rfl (blt rfl) rfl rfl rfl has48 rfl (sort_row _ _ _ _ ow55 (by have := Ck.pts_len l d[i]!.id; rw [List.length_append]; simp only [List.length_cons, List.length_nil]; omega)) ?_
      rintro _ w59 ⟨rfl, ow61, gr62⟩
      refine ⟨_, rfl, ?_⟩
      have m7 := m7.grown gr62 r_v53_g3
      have m12 := m12.grown gr62 r_v53_g8
      have ow_va := OwnL.grown ow_va gr62 d_v53_va
      have m29 := m29.grown gr62 r_v53_g22
      have xW := Ext.grown xW gr62 (fun b hb => (OwnL.lt ow55 hb).1)
      rw [Bd.ptsQ_yes h43] at ow61
      refine WL.nil ?_
      refine WK.then_normal (k58 _ _ ?_)
      refine WC.sub [(1, _), (2, _), (3, _), (9, _), (11, _), (12, _), (26, _), (27, _), (28, _)] ⟨rfl, rfl, rfl, rfl, rfl, rfl, rfl, rfl, rfl, trivial⟩ ?_
      refine WC.seq (fun K63 k63 => ?_)
      refine WC.region rfl ?_
      refine WL.yld rfl (blt rfl) rfl (Y.move rfl rfl) ?_
      obtain ⟨A64, n65, c66, rfl, hl67⟩ := OwnL.opened ow61 (fun _ => rfl) (by decide)
      have e_n65 := hl67.len
      try simp only [List.length_append, List.length_cons, List.length_nil, List.length_reverse, List.length_drop, List.length_take, List.length_map, List.length_replicate, List.length_set] at e_n65
      have z_n65 := hl67.nle
      refine WL.yld rfl (blt rfl) rfl (Y.lenSl rfl rfl rfl Try.underlying35 rfl) ?_
      refine WL.yld rfl (blt rfl) rfl (Y.move rfl rfl) ?_
      refine WL.nil ?_
      refine WK.then_normal (k63 _ _ ?_)
      refine WC.block ?_
      rw [show Bd.ndsN d l id at_ i = Bd.ndsN d l id at_ i ++ Bd.nodP l id at_ d[i]! 0 from by rw [Bd.nodP_zero, List.append_nil]] at m7
      have epl := (OwnL.ls ow61 (fun _ => rfl) (by decide)).len
      have psl := Bd.ptsQ_len (l := l) (id := id) (at_ := at_) (q := d[i]!.id)
      refine WC.sub [(55, _), (1, _), (2, _), (3, _), (9, _), (11, _), (12, _), (26, _), (27, _), (28, _), (53, _), (54, _)] ⟨rfl, rfl, rfl, rfl, rfl, rfl, rfl, rfl, rfl, rfl, rfl, rfl, trivial⟩ ?_
      refine WC.loopS 1 (fun mz Ed W' => ∃ j : Nat, ∃ vb : Value, mz = n65 - j ∧ Ed = [(55, .int .i64 ((j : Nat) : Int))] ∧ Ext w W' ∧ MpP W' g3 (Bd.numF 0 (Bd.ndsN d l id at_ i ++ Bd.nodP l id at_ d[i]! j)) ∧ Blk W' g8 85 [.map (some g3), vb] ∧ Blk W' g22 59 _ ∧ OwnL W' w.heap.size 3 Ck.ic 1 (.slice A64 n65 c66) _ ∧ OwnL W' w.heap.size 92 Bd.Ed.c 3 vb (Bd.edN d l id at_ i ++ Bd.ePts (Bd.nds d l id at_) d[i]! (Bd.ptsQ l d[i]!.id id at_) j) ∧ vb.ownBlock ≠ some g3 ∧ vb.ownBlock ≠ some g8 ∧ vb.ownBlock ≠ some g22 ∧ Apart (.slice A64 n65 c66) vb ∧ (j ≤ n65)) _ ⟨0, _, rfl, rfl, xW, m7, m12, m29, ow61, (by rw [show Bd.ePts (Bd.nds d l id at_) d[i]! (Bd.ptsQ l d[i]!.id id at_) 0 = [] from rfl, List.append_nil]; exact ow_va), r_va_g3, r_va_g8, r_va_g22, (d_v53_va.symm).symm, (Nat.zero_le _)⟩ ?_
      rintro _ _ w68 ⟨j, vb, rfl, rfl, xW, m7, m12, m29, ow61, ow_vb, r_vb_g3, r_vb_g8, r_vb_g22, d_v53_vb, le_j⟩
      refine WC.sub [(55, _), (1, _), (2, _), (3, _), (9, _), (11, _), (12, _), (26, _), (27, _), (28, _), (53, _), (54, _)] ⟨rfl, rfl, rfl, rfl, rfl, rfl, rfl, rfl, rfl, rfl, rfl, rfl, trivial⟩ ?_
      have hl67 := OwnL.ls ow61 (fun _ => rfl) (by decide)
      refine WC.seq (fun K69 k69 => ?_)
      refine WC.region rfl ?_
      refine WL.yld rfl (blt rfl) rfl (Y.lss rfl rfl rfl) ?_
      refine WL.nil ?_
      refine WK.then_normal (k69 _ _ ?_)
      refine WC.seq (fun K70 k70 => ?_)
      refine WC.cond rfl (fun h71 => ?_) (fun h71 => ?_)
      ·
        have p71 := (dec_t h71)
        have pb := Bd.ptsQ_rng gd ha (bang_mem (show j < (Bd.ptsQ l d[i]!.id id at_).length from by omega))
        refine WC.skip ?_
        refine WK.then_normal (k70 _ _ ?_)
        refine WC.sub [(1, _), (2, _), (3, _), (9, _), (11, _), (12, _), (26, _), (27, _), (28, _), (53, _), (54, _), (55, _)] ⟨rfl, rfl, rfl, rfl, rfl, rfl, rfl, rfl, rfl, rfl, rfl, rfl, trivial⟩ ?_
        refine WC.seq (fun K72 k72 => ?_)
        refine WC.block ?_
        refine WC.seq (fun K73 k73 => ?_)
        refine WC.region rfl ?_
        refine WL.yld rfl (blt rfl) rfl (Y.move rfl rfl) ?_
        have b74 : j < n65 := by omega
        refine WL.yld rfl (blt rfl) rfl (Y.indexLs j hl67 rfl Try.underlying35 ti3 rfl rfl rfl b74) ?_
        refine WL.yld rfl (blt rfl) rfl (Y.load1 rfl Try.underlying3 rfl rfl (Ls.at_eq hl67 b74 rfl)) ?_
        refine WL.yld rfl (blt rfl) rfl (Y.assign rfl rfl) ?_
        refine WL.yld rfl (blt rfl) rfl (Y.assign rfl rfl) ?_
        refine WL.nil ?_
        refine WK.then_normal (k73 _ _ ?_)
        refine WC.sub [(1, _), (2, _), (3, _), (9, _), (11, _), (12, _), (13, _), (14, _), (26, _), (27, _), (28, _), (53, _), (54, _), (55, _)] ⟨rfl, rfl, rfl, rfl, rfl, rfl, rfl, rfl, rfl, rfl, rfl, rfl, rfl, rfl, trivial⟩ ?_
        refine WC.seq (fun K75 k75 => ?_)
        refine WC.region rfl ?_
        refine WL.yld rfl (blt rfl) rfl (Y.move rfl rfl) ?_
        refine WL.yld rfl (blt rfl) rfl (Y.fieldAddr rfl Try.underlying59 rfl ti3 (by decide) rfl) ?_
        refine WL.yld rfl (blt rfl) rfl (Y.load1 rfl Try.underlying3 rfl rfl (Blk.at_eq m29 rfl)) ?_
        refine WL.yld rfl (blt rfl) rfl (Y.move rfl rfl) ?_
        obtain ⟨bq, hq1, hq2⟩ := Bd.nds_split (d := d) (l := l) (id := id) (at_ := at_) (show i < d.length from by omega) j
        obtain ⟨bq2, rfl⟩ := hq2 (by omega)
        refine WL.call rfl (blt rfl) rfl rfl rfl has27 rfl (number_at w g8 g3 o_g3 n_g3_g8.symm _ _ _ _ _ _ _ xW m12 m7 hq1 (Bd.nds_fresh gd (show i < d.length from by omega) (by omega)) (by have := Bd.ndsN_len (d := d) (l := l) (id := id) (at_ := at_) (i := i) (B := 34) (by omega) gd.few; have := Bd.nodP_len (l := l) (id := id) (at_ := at_) (x := d[i]!) (j := j); rw [List.length_append]; omega)) ?_
        rintro _ w76 ⟨rfl, on78, m79⟩
        refine ⟨_, rfl, ?_⟩
        have m12 := m12.only n_g3_g8.symm on78
        have m29 := m29.only n_g3_g22.symm on78
        have ow61 := ow61.only r_v53_g3 on78
        have hl67 := OwnL.ls ow61 (fun _ => rfl) (by decide)
        have ow_vb := ow_vb.only r_vb_g3 on78
        have xW := Ext.only xW on78 o_g3
        rw [List.append_assoc, ← Bd.nodP_next (show j < (Bd.ptsQ l d[i]!.id id at_).length from by omega)] at m79
        refine WL.yld rfl (blt rfl) rfl (Y.assign rfl rfl) ?_
        refine WL.nil ?_
        refine WK.then_normal (k75 _ _ ?_)
        refine WC.sub [(1, _), (2, _), (3, _), (9, _), (11, _), (12, _), (13, _), (14, _), (15, _), (26, _), (27, _), (28, _), (53, _), (54, _), (55, _)] ⟨rfl, rfl, rfl, rfl, rfl, rfl, rfl, rfl, rfl, rfl, rfl, rfl, rfl, rfl, rfl, trivial⟩ ?_
        refine WC.seq (fun K80 k80 => ?_)
        refine WC.seq (fun K81 k81 => ?_)
        refine WC.region rfl ?_
        refine WL.yld rfl (blt rfl) rfl (Y.fieldAddr rfl Try.underlying59 rfl ti3 (by decide) rfl) ?_
        refine WL.yld rfl (blt rfl) rfl (Y.load1 rfl Try.underlying3 rfl rfl (Blk.at_eq m29 rfl)) ?_
        refine WL.yld rfl (blt rfl) rfl (Y.eql rfl rfl rfl) ?_
        refine WL.nil ?_
        refine WK.then_normal (k81 _ _ ?_)
        refine WC.sub [(1, _), (2, _), (3, _), (9, _), (11, _), (12, _), (13, _), (14, _), (15, _), (26, _), (27, _), (28, _), (53, _), (54, _), (55, _), (67, _)] ⟨rfl, rfl, rfl, rfl, rfl, rfl, rfl, rfl, rfl, rfl, rfl, rfl, rfl, rfl, rfl, rfl, trivial⟩ ?_
        refine WC.cond rfl (fun h82 => ?_) (fun h82 => ?_)
        ·
          have p82 := (eq_t h82)
          refine WC.seq (fun K83 k83 => ?_)
          refine WC.region rfl ?_
          refine WL.yld rfl (blt rfl) rfl (Y.move rfl rfl) ?_
          refine WL.yld rfl (blt rfl) rfl (Y.move rfl rfl) ?_
          refine WL.yld rfl (blt rfl) rfl (Y.move rfl rfl) ?_
          refine WL.yld rfl (blt rfl) rfl (Y.move rfl rfl) ?_
          refine WL.yld rfl (blt rfl) rfl (Y.build (cells := [_, _]) rfl pl29 rfl rfl) ?_
          refine WL.call rfl (blt rfl) rfl rfl rfl has49 rfl (add_any w g8 o_g8 _ _ _ _ _ _ _ _ xW m12 ow_vb r_vb_g8 (by have := Bd.edN_len (d := d) (l := l) (id := id) (at_ := at_) (i := i) (B := 34) (by omega) gd.few; have := Bd.ePts_len (n := (Bd.nds d l id at_)) (x := d[i]!) (ps := (Bd.ptsQ l d[i]!.id id at_)) (j := j) (B := 34) (by omega) (by omega) (by omega); simp only [List.length_append]; omega) (by omega)) ?_
          rintro _ w84 ⟨v86, rfl, m88, ow87, r_v86_g8, tw89, nb90⟩
          refine ⟨_, rfl, ?_⟩
          have r_v86_g3 := ne_twoMP nb90 r_vb_g3 m79
          have m79 := m79.two tw89 n_g3_g8 r_vb_g3
          have r_v86_g22 := ne_two nb90 r_vb_g22 m29
          have m29 := m29.two tw89 n_g8_g22.symm r_vb_g22
          have d_v53_v86 := (Apart.two nb90 d_v53_vb.symm ow61).symm
          have ow61 := OwnL.two ow61 tw89 r_v53_g8 d_v53_vb
          have hl67 := OwnL.ls ow61 (fun _ => rfl) (by decide)
          have xW := Ext.two xW tw89 o_g8 (fun b hb => (OwnL.lt ow_vb hb).1)
          refine WL.nil ?_
          refine WK.then_normal (k83 _ _ ?_)
          refine WC.sub [(1, _), (2, _), (3, _), (9, _), (11, _), (12, _), (26, _), (27, _), (28, _), (53, _), (54, _), (55, _)] ⟨rfl, rfl, rfl, rfl, rfl, rfl, rfl, rfl, rfl, rfl, rfl, rfl, trivial⟩ ?_
          refine WC.exit ?_
          refine WK.then_exit ?_
          refine WK.in_exit ?_
          refine WK.then_normal (k72 _ _ ?_)
          refine WC.region rfl ?_
          refine WL.yld rfl (blt rfl) rfl (Y.add rfl rfl rfl (wrap_i64 (by first | omega | (dsimp only; omega)))) ?_
          refine WL.yld rfl (blt rfl) rfl (Y.move rfl rfl) ?_
          refine WL.nil ?_
          refine WK.roundS _ [(55, .int .i64 (((j + 1) : Nat) : Int))] ⟨rfl, rfl, rfl, rfl, rfl, rfl, rfl, rfl, rfl, rfl, rfl, rfl, trivial⟩ ?_ ⟨(j + 1), v86, rfl, rfl, xW, m79, m88, m29, ow61, (by rw [Bd.ePts_next, Bd.ePt_zero (eq_t h82), ← List.append_assoc]; exact ow87), r_v86_g3, r_v86_g8, r_v86_g22, (d_v53_v86.symm).symm, (by omega)⟩
          show _ - (j + 1) < _ - j; omega
        ·
          have p82 := (eq_f h82)
          refine WC.skip ?_
          refine WK.then_normal (k80 _ _ ?_)
          refine WC.sub [(1, _), (2, _), (3, _), (9, _), (11, _), (12, _), (13, _), (14, _), (15, _), (26, _), (27, _), (28, _), (53, _), (54, _), (55, _)] ⟨rfl, rfl, rfl, rfl, rfl, rfl, rfl, rfl, rfl, rfl, rfl, rfl, rfl, rfl, rfl, trivial⟩ ?_
          refine WC.seq (fun K91 k91 => ?_)
          refine WC.region rfl ?_
          refine WL.yld rfl (blt rfl) rfl (Y.move rfl rfl) ?_
          refine WL.yld rfl (blt rfl) rfl (Y.move rfl rfl) ?_
          have b92 : j ≤ n65 := by omega
          refine WL.yld rfl (blt rfl) rfl (Y.sliceH j rfl Try.underlying35 ti3 rfl rfl rfl (Nat.le_trans b92 hl67.le)) ?_
          refine WL.yld rfl (blt rfl) rfl (Y.lenSl rfl rfl rfl Try.underlying35 rfl) ?_
          refine WL.yld rfl (blt rfl) rfl (Y.move rfl rfl) ?_
          refine WL.nil ?_
          refine WK.then_normal (k91 _ _ ?_)
          refine WC.sub [(1, _), (2, _), (3, _), (9, _), (11, _), (12, _), (14, _), (15, _), (26, _), (27, _), (28, _), (53, _), (54, _), (55, _), (76, _), (77, _), (78, _)] ⟨rfl, rfl, rfl, rfl, rfl, rfl, rfl, rfl, rfl, rfl, rfl, rfl, rfl, rfl, rfl, rfl, rfl, trivial⟩ ?_
          refine WC.block ?_
          refine WC.sub [(78, _), (1, _), (2, _), (3, _), (9, _), (11, _), (12, _), (14, _), (15, _), (26, _), (27, _), (28, _), (53, _), (54, _), (55, _), (76, _), (77, _)] ⟨rfl, rfl, rfl, rfl, rfl, rfl, rfl, rfl, rfl, rfl, rfl, rfl, rfl, rfl, rfl, rfl, rfl, trivial⟩ ?_
          refine WC.loopS 1 (fun mz Ed W' => ∃ k : Nat, ∃ vc : Value, mz = j - k ∧ Ed = [(78, .int .i64 ((k : Nat) : Int))] ∧ Ext w W' ∧ MpP W' g3 (Bd.numF 0 (Bd.ndsN d l id at_ i ++ Bd.nodP l id at_ d[i]! (j + 1))) ∧ Blk W' g8 85 [.map (some g3), vc] ∧ Blk W' g22 59 _ ∧ OwnL W' w.heap.size 3 Ck.ic 1 (.slice A64 n65 c66) _ ∧ OwnL W' w.heap.size 92 Bd.Ed.c 3 vc (Bd.edN d l id at_ i ++ Bd.ePts (Bd.nds d l id at_) d[i]! (Bd.ptsQ l d[i]!.id id at_) j ++ Bd.ePr (Bd.nds d l id at_) d[i]! (Bd.ptsQ l d[i]!.id id at_) j k) ∧ vc.ownBlock ≠ some g3 ∧ vc.ownBlock ≠ some g8 ∧ vc.ownBlock ≠ some g22 ∧ Apart (.slice A64 n65 c66) vc ∧ (k ≤ j)) _ ⟨0, _, rfl, rfl, xW, m79, m12, m29, ow61, (by rw [show Bd.ePr (Bd.nds d l id at_) d[i]! (Bd.ptsQ l d[i]!.id id at_) j 0 = [] from rfl, List.append_nil]; exact ow_vb), r_vb_g3, r_vb_g8, r_vb_g22, (d_v53_vb.symm).symm, (Nat.zero_le _)⟩ ?_
          rintro _ _ w93 ⟨k, vc, rfl, rfl, xW, m79, m12, m29, ow61, ow_vc, r_vc_g3, r_vc_g8, r_vc_g22, d_v53_vc, le_k⟩
          refine WC.sub [(78, _), (1, _), (2, _), (3, _), (9, _), (11, _), (12, _), (14, _), (15, _), (26, _), (27, _), (28, _), (53, _), (54, _), (55, _), (76, _), (77, _)] ⟨rfl, rfl, rfl, rfl, rfl, rfl, rfl, rfl, rfl, rfl, rfl, rfl, rfl, rfl, rfl, rfl, rfl, trivial⟩ ?_
          have hl67 := OwnL.ls ow61 (fun _ => rfl) (by decide)
          refine WC.seq (fun K94 k94 => ?_)
          refine WC.region rfl ?_
          refine WL.yld rfl (blt rfl) rfl (Y.lss rfl rfl rfl) ?_
          refine WL.nil ?_
          refine WK.then_normal (k94 _ _ ?_)
          refine WC.seq (fun K95 k95 => ?_)
          refine WC.cond rfl (fun h96 => ?_) (fun h96 => ?_)
          ·
            have p96 := (dec_t h96)
            have hkt : k < ((Bd.ptsQ l d[i]!.id id at_).take j).length := by rw [List.length_take]; omega
            have qm : ((Bd.ptsQ l d[i]!.id id at_).take j)[k]! ∈ (Bd.ptsQ l d[i]!.id id at_) := List.mem_of_mem_take (bang_mem hkt)
            have qb := Bd.ptsQ_rng gd ha qm
            obtain ⟨bq3, hq3, _⟩ := Bd.nds_split (d := d) (l := l) (id := id) (at_ := at_) (show i < d.length from by omega) (j + 1)
            have hq4 := Bd.nod_in (d := d) (l := l) (id := id) (at_ := at_) (i := i) (j := j) hkt
            refine WC.skip ?_
            refine WK.then_normal (k95 _ _ ?_)
            refine WC.sub [(1, _), (2, _), (3, _), (9, _), (11, _), (12, _), (14, _), (15, _), (26, _), (27, _), (28, _), (53, _), (54, _), (55, _), (76, _), (77, _), (78, _)] ⟨rfl, rfl, rfl, rfl, rfl, rfl, rfl, rfl, rfl, rfl, rfl, rfl, rfl, rfl, rfl, rfl, rfl, trivial⟩ ?_
            refine WC.seq (fun K97 k97 => ?_)
            refine WC.block ?_
            refine WC.seq (fun K98 k98 => ?_)
            refine WC.region rfl ?_
            have b99 : k < j := by omega
            refine WL.yld rfl (blt rfl) rfl (Y.indexLs k (hl67.take b92) rfl Try.underlying35 ti3 rfl rfl rfl b99) ?_
            refine WL.yld rfl (blt rfl) rfl (Y.load1 rfl Try.underlying3 rfl rfl (Ls.at_eq (hl67.take b92) b99 rfl)) ?_
            refine WL.yld rfl (blt rfl) rfl (Y.assign rfl rfl) ?_
            refine WL.nil ?_
            refine WK.then_normal (k98 _ _ ?_)
            refine WC.sub [(1, _), (2, _), (3, _), (9, _), (11, _), (12, _), (14, _), (15, _), (17, _), (26, _), (27, _), (28, _), (53, _), (54, _), (55, _), (76, _), (77, _), (78, _)] ⟨rfl, rfl, rfl, rfl, rfl, rfl, rfl, rfl, rfl, rfl, rfl, rfl, rfl, rfl, rfl, rfl, rfl, rfl, trivial⟩ ?_
            refine WC.seq (fun K100 k100 => ?_)
            refine WC.region rfl ?_
            refine WL.yld rfl (blt rfl) rfl (Y.move rfl rfl) ?_
            refine WL.yld rfl (blt rfl) rfl (Y.move rfl rfl) ?_
            refine WL.yld rfl (blt rfl) rfl (Y.sub rfl rfl rfl (wrap_i64 (by first | omega | (dsimp only; omega)))) ?_
            refine WL.yld rfl (blt rfl) rfl (Y.fieldAddr rfl Try.underlying59 rfl ti3 (by decide) rfl) ?_
            refine WL.yld rfl (blt rfl) rfl (Y.load1 rfl Try.underlying3 rfl rfl (Blk.at_eq m29 rfl)) ?_
            refine WL.call rfl (blt rfl) rfl rfl rfl has22 rfl (stretch_any _ _ _) ?_
            rintro _ w101 ⟨rfl, x102⟩
            refine ⟨_, rfl, ?_⟩
            have m79 := m79.ext x102
            have m12 := m12.ext x102
            have m29 := m29.ext x102
            have ow61 := ow61.ext x102
            have hl67 := hl67.ext x102
            have ow_vc := ow_vc.ext x102
            have xW := Ext.trans xW x102
            refine WL.yld rfl (blt rfl) rfl (Y.move rfl rfl) ?_
            refine WL.yld rfl (blt rfl) rfl (Y.extract rfl rfl rfl) ?_
            refine WL.yld rfl (blt rfl) rfl (Y.extract rfl rfl rfl) ?_
            refine WL.alloc rfl (blt rfl) rfl rfl ti29 rfl ?_
            intro g103 w104 e105 x106 m107
            have n_g3_g103 := ne_newMP m79 e105
            have n_g8_g103 := ne_new m12 e105
            have n_g22_g103 := ne_new m29 e105
            have r_v53_g103 := ne_newO ow61 e105
            have r_vc_g103 := ne_newO ow_vc e105
            have o_g103 := own_new xW e105
            have m79 := m79.ext x106
            have m12 := m12.ext x106
            have m29 := m29.ext x106
            have ow61 := ow61.ext x106
            have hl67 := hl67.ext x106
            have ow_vc := ow_vc.ext x106
            have xW := Ext.trans xW x106
            refine WL.store (cs' := [_, _]) rfl rfl rfl rfl rfl rfl ti29 m107 (ble rfl) rfl rfl (fun w108 on109 m110 => ?_)
            have m79 := m79.only n_g3_g103 on109
            have m12 := m12.only n_g8_g103 on109
            have m29 := m29.only n_g22_g103 on109
            have ow61 := ow61.only r_v53_g103 on109
            have hl67 := OwnL.ls ow61 (fun _ => rfl) (by decide)
            have ow_vc := ow_vc.only r_vc_g103 on109
            have xW := Ext.only xW on109 o_g103
            refine WL.yld rfl (blt rfl) rfl (Y.assign rfl rfl) ?_
            refine WL.nil ?_
            refine WK.then_normal (k100 _ _ ?_)
            refine WC.sub [(1, _), (2, _), (3, _), (9, _), (11, _), (12, _), (14, _), (15, _), (17, _), (18, _), (26, _), (27, _), (28, _), (53, _), (54, _), (55, _), (76, _), (77, _), (78, _)] ⟨rfl, rfl, rfl, rfl, rfl, rfl, rfl, rfl, rfl, rfl, rfl, rfl, rfl, rfl, rfl, rfl, rfl, rfl, rfl, trivial⟩ ?_
            refine WC.regionT 8 (by kernel_rfl) (by kernel_rfl) ?_
            refine WQ.yld rfl (blt rfl) rfl (Y.move rfl rfl) ?_
            refine WQ.yld rfl (blt rfl) rfl (Y.move rfl rfl) ?_
            refine WQ.yld rfl (blt rfl) rfl (Y.fieldAddr rfl Try.underlying59 rfl ti3 (by decide) rfl) ?_
            refine WQ.yld rfl (blt rfl) rfl (Y.load1 rfl Try.underlying3 rfl rfl (Blk.at_ext m29 rfl)) ?_
            refine WQ.yld rfl (blt rfl) rfl (Y.move rfl rfl) ?_
            refine WQ.call rfl (blt rfl) rfl rfl rfl has27 rfl (fun w hw => calls_ext hw (number_in _ _ _ _ (Bd.nds d l id at_) _ _ _ _ (Blk.ext m12 hw) (MpP.ext m79 hw) hq3 hq4)) ?_
            refine WQ.yld rfl (blt rfl) rfl (Y.move rfl rfl) ?_
            refine WQ.yld rfl (blt rfl) rfl (Y.loadS rfl Try.underlying29 rfl ti29 rfl (Blk.row_ext m110)) ?_
            refine WQ.tail (fun w111 x112 => ?_)
            have m79 := m79.ext x112
            have m12 := m12.ext x112
            have m29 := m29.ext x112
            have ow61 := ow61.ext x112
            have hl67 := hl67.ext x112
            have ow_vc := ow_vc.ext x112
            have m110 := m110.ext x112
            have xW := Ext.trans xW x112
            refine WL.call rfl (blt rfl) rfl rfl rfl has49 rfl (add_any w g8 o_g8 _ _ _ _ _ _ _ _ xW m12 ow_vc r_vc_g8 (by have := Bd.edN_len (d := d) (l := l) (id := id) (at_ := at_) (i := i) (B := 34) (by omega) gd.few; have := Bd.ePts_len (n := (Bd.nds d l id at_)) (x := d[i]!) (ps := (Bd.ptsQ l d[i]!.id id at_)) (j := j) (B := 34) (by omega) (by omega) (by omega); have := Bd.ePr_len (n := (Bd.nds d l id at_)) (x := d[i]!) (ps := (Bd.ptsQ l d[i]!.id id at_)) (j := j) (k := k) (B := 34) (by omega); simp only [List.length_append]; omega) (by have := Iv.str_bound ((Bd.ptsQ l d[i]!.id id at_)[j]! - ((Bd.ptsQ l d[i]!.id id at_).take j)[k]!) d[i]!.ppm; omega)) ?_
            rintro _ w113 ⟨v115, rfl, m117, ow116, r_v115_g8, tw118, nb119⟩
            refine ⟨_, rfl, ?_⟩
            have r_v115_g3 := ne_twoMP nb119 r_vc_g3 m79
            have m79 := m79.two tw118 n_g3_g8 r_vc_g3
            have r_v115_g22 := ne_two nb119 r_vc_g22 m29
            have m29 := m29.two tw118 n_g8_g22.symm r_vc_g22
            have d_v115_v53 := (Apart.two nb119 d_v53_vc.symm ow61)
            have ow61 := OwnL.two ow61 tw118 r_v53_g8 d_v53_vc
            have hl67 := OwnL.ls ow61 (fun _ => rfl) (by decide)
            have r_v115_g103 := ne_two nb119 r_vc_g103 m110
            have m110 := m110.two tw118 n_g8_g103.symm r_vc_g103
            have xW := Ext.two xW tw118 o_g8 (fun b hb => (OwnL.lt ow_vc hb).1)
            refine WL.nil ?_
            refine WK.in_normal ?_
            refine WK.then_normal (k97 _ _ ?_)
            refine WC.sub [(1, _), (2, _), (3, _), (9, _), (11, _), (12, _), (14, _), (15, _), (26, _), (27, _), (28, _), (53, _), (54, _), (55, _), (76, _), (77, _), (78, _)] ⟨rfl, rfl, rfl, rfl, rfl, rfl, rfl, rfl, rfl, rfl, rfl, rfl, rfl, rfl, rfl, rfl, rfl, trivial⟩ ?_
            refine WC.region rfl ?_
            refine WL.yld rfl (blt rfl) rfl (Y.add rfl rfl rfl (wrap_i64 (by first | omega | (dsimp only; omega)))) ?_
            refine WL.yld rfl (blt rfl) rfl (Y.move rfl rfl) ?_
            refine WL.nil ?_
            refine WK.roundS _ [(78, .int .i64 (((k + 1) : Nat) : Int))] ⟨rfl, rfl, rfl, rfl, rfl, rfl, rfl, rfl, rfl, rfl, rfl, rfl, rfl, rfl, rfl, rfl, rfl, trivial⟩ ?_ ⟨(k + 1), v115, rfl, rfl, xW, m79, m117, m29, ow61, (by rw [Bd.ePr_next (show k < ((Bd.ptsQ l d[i]!.id id at_).take j).length from by rw [List.length_take]; omega), ← List.append_assoc]; exact ow116), r_v115_g3, r_v115_g8, r_v115_g22, (d_v115_v53).symm, (by omega)⟩
            show _ - (k + 1) < _ - k; omega
          ·
            have p96 := (dec_f h96)
            refine WC.exit ?_
            refine WK.then_exit ?_
            refine WK.then_exit ?_
            refine WK.in_exit ?_
            refine WK.in_normal ?_
            refine WK.then_normal (k72 _ _ ?_)
            refine WC.sub [(1, _), (2, _), (3, _), (9, _), (11, _), (12, _), (26, _), (27, _), (28, _), (53, _), (54, _), (55, _)] ⟨rfl, rfl, rfl, rfl, rfl, rfl, rfl, rfl, rfl, rfl, rfl, rfl, trivial⟩ ?_
            refine WC.region rfl ?_
            refine WL.yld rfl (blt rfl) rfl (Y.add rfl rfl rfl (wrap_i64 (by first | omega | (dsimp only; omega)))) ?_
            refine WL.yld rfl (blt rfl) rfl (Y.move rfl rfl) ?_
            refine WL.nil ?_
            refine WK.roundS _ [(55, .int .i64 (((j + 1) : Nat) : Int))] ⟨rfl, rfl, rfl, rfl, rfl, rfl, rfl, rfl, rfl, rfl, rfl, rfl, trivial⟩ ?_ ⟨(j + 1), vc, rfl, rfl, xW, m79, m12, m29, ow61, (by rw [Bd.ePts_next, ← Bd.ePt_one (k := k) (eq_f h82) (by rw [List.length_take]; omega), ← List.append_assoc]; exact ow_vc), r_vc_g3, r_vc_g8, r_vc_g22, (d_v53_vc.symm).symm, (by omega)⟩
            show _ - (j + 1) < _ - j; omega
      ·
        have p71 := (dec_f h71)
        refine WC.exit ?_
        refine WK.then_exit ?_
        refine WK.then_exit ?_
        refine WK.in_exit ?_
        refine WK.in_normal ?_
        refine WK.then_normal (k19 _ _ ?_)
        refine WC.sub [(1, _), (2, _), (3, _), (9, _), (26, _), (27, _), (28, _)] ⟨rfl, rfl, rfl, rfl, rfl, rfl, rfl, trivial⟩ ?_
        refine WC.region rfl ?_
        refine WL.yld rfl (blt rfl) rfl (Y.add rfl rfl rfl (wrap_i64 (by first | omega | (dsimp only; omega)))) ?_
        refine WL.yld rfl (blt rfl) rfl (Y.move rfl rfl) ?_
        refine WL.nil ?_
        rw [Bd.nodP_all (by omega), ← Bd.ndsN_next (show i < d.length from by omega)] at m7
        refine WK.roundS _ [(28, .int .i64 (((i + 1) : Nat) : Int))] ⟨rfl, rfl, rfl, rfl, rfl, rfl, rfl, trivial⟩ ?_ ⟨(i + 1), vb, rfl, rfl, xW, m7, m12, (by rw [Bd.edN_next (show i < d.length from by omega)]; unfold Bd.eDom; rw [show (Bd.ptsQ l d[i]!.id id at_).length = j from by omega]; exact ow_vb), r_vb_g3, r_vb_g8, (by omega)⟩
        show _ - (i + 1) < _ - i; omega
    ·
      have p43 := ((and_f h43).imp (fun h => (eq_f h)) (fun h => h))
      refine WC.skip ?_
      refine WK.then_normal (k35 _ _ ?_)
      refine WC.sub [(1, _), (2, _), (3, _), (9, _), (11, _), (12, _), (26, _), (27, _), (28, _)] ⟨rfl, rfl, rfl, rfl, rfl, rfl, rfl, rfl, rfl, trivial⟩ ?_
      refine WC.seq (fun K120 k120 => ?_)
      refine WC.region rfl ?_
      refine WL.yld rfl (blt rfl) rfl (Y.move rfl rfl) ?_
      refine WL.call rfl (blt rfl) rfl rfl rfl has48 rfl (sort_row _ _ _ _ ow34 (by have := Ck.pts_len l d[i]!.id; omega)) ?_
      rintro _ w121 ⟨rfl, ow123, gr124⟩
      refine ⟨_, rfl, ?_⟩
      have m7 := m7.grown gr124 r_v33_g3
      have m12 := m12.grown gr124 r_v33_g8
      have ow_va := OwnL.grown ow_va gr124 d_v33_va
      have m29 := m29.grown gr124 r_v33_g22
      have xW := Ext.grown xW gr124 (fun b hb => (OwnL.lt ow34 hb).1)
      have hl40 := OwnL.ls ow123 (fun _ => rfl) (by decide)
      rw [Bd.ptsQ_no h43] at ow123
      refine WL.nil ?_
      refine WK.then_normal (k120 _ _ ?_)
      refine WC.sub [(1, _), (2, _), (3, _), (9, _), (11, _), (12, _), (26, _), (27, _), (28, _)] ⟨rfl, rfl, rfl, rfl, rfl, rfl, rfl, rfl, rfl, trivial⟩ ?_
      refine WC.seq (fun K125 k125 => ?_)
      refine WC.region rfl ?_
      refine WL.yld rfl (blt rfl) rfl (Y.move rfl rfl) ?_
      refine WL.yld rfl (blt rfl) rfl (Y.lenSl rfl rfl rfl Try.underlying35 rfl) ?_
      refine WL.yld rfl (blt rfl) rfl (Y.move rfl rfl) ?_
      refine WL.nil ?_
      refine WK.then_normal (k125 _ _ ?_)
      refine WC.block ?_
      rw [show Bd.ndsN d l id at_ i = Bd.ndsN d l id at_ i ++ Bd.nodP l id at_ d[i]! 0 from by rw [Bd.nodP_zero, List.append_nil]] at m7
      have epl := (OwnL.ls ow123 (fun _ => rfl) (by decide)).len
      have psl := Bd.ptsQ_len (l := l) (id := id) (at_ := at_) (q := d[i]!.id)
      refine WC.sub [(55, _), (1, _), (2, _), (3, _), (9, _), (11, _), (12, _), (26, _), (27, _), (28, _), (53, _), (54, _)] ⟨rfl, rfl, rfl, rfl, rfl, rfl, rfl, rfl, rfl, rfl, rfl, rfl, trivial⟩ ?_
      refine WC.loopS 1 (fun mz Ed W' => ∃ j : Nat, ∃ vb : Value, mz = n38 - j ∧ Ed = [(55, .int .i64 ((j : Nat) : Int))] ∧ Ext w W' ∧ MpP W' g3 (Bd.numF 0 (Bd.ndsN d l id at_ i ++ Bd.nodP l id at_ d[i]! j)) ∧ Blk W' g8 85 [.map (some g3), vb] ∧ Blk W' g22 59 _ ∧ OwnL W' w.heap.size 3 Ck.ic 1 (.slice A37 n38 c39) _ ∧ OwnL W' w.heap.size 92 Bd.Ed.c 3 vb (Bd.edN d l id at_ i ++ Bd.ePts (Bd.nds d l id at_) d[i]! (Bd.ptsQ l d[i]!.id id at_) j) ∧ vb.ownBlock ≠ some g3 ∧ vb.ownBlock ≠ some g8 ∧ vb.ownBlock ≠ some g22 ∧ Apart (.slice A37 n38 c39) vb ∧ (j ≤ n38)) _ ⟨0, _, rfl, rfl, xW, m7, m12, m29, ow123, (by rw [show Bd.ePts (Bd.nds d l id at_) d[i]! (Bd.ptsQ l d[i]!.id id at_) 0 = [] from rfl, List.append_nil]; exact ow_va), r_va_g3, r_va_g8, r_va_g22, (d_v33_va.symm).symm, (Nat.zero_le _)⟩ ?_
      rintro _ _ w126 ⟨j, vb, rfl, rfl, xW, m7, m12, m29, ow123, ow_vb, r_vb_g3, r_vb_g8, r_vb_g22, d_v33_vb, le_j⟩
      refine WC.sub [(55, _), (1, _), (2, _), (3, _), (9, _), (11, _), (12, _), (26, _), (27, _), (28, _), (53, _), (54, _)] ⟨rfl, rfl, rfl, rfl, rfl, rfl, rfl, rfl, rfl, rfl, rfl, rfl, trivial⟩ ?_
      have hl40 := OwnL.ls ow123 (fun _ => rfl) (by decide)
      refine WC.seq (fun K127 k127 => ?_)
      refine WC.region rfl ?_
      refine WL.yld rfl (blt rfl) rfl (Y.lss rfl rfl rfl) ?_
      refine WL.nil ?_
      refine WK.then_normal (k127 _ _ ?_)
      refine WC.seq (fun K128 k128 => ?_)
      refine WC.cond rfl (fun h129 => ?_) (fun h129 => ?_)
      ·
        have p129 := (dec_t h129)
        have pb := Bd.ptsQ_rng gd ha (bang_mem (show j < (Bd.ptsQ l d[i]!.id id at_).length from by omega))
        refine WC.skip ?_
        refine WK.then_normal (k128 _ _ ?_)
        refine WC.sub [(1, _), (2, _), (3, _), (9, _), (11, _), (12, _), (26, _), (27, _), (28, _), (53, _), (54, _), (55, _)] ⟨rfl, rfl, rfl, rfl, rfl, rfl, rfl, rfl, rfl, rfl, rfl, rfl, trivial⟩ ?_
        refine WC.seq (fun K130 k130 => ?_)
        refine WC.block ?_
        refine WC.seq (fun K131 k131 => ?_)
        refine WC.region rfl ?_
        refine WL.yld rfl (blt rfl) rfl (Y.move rfl rfl) ?_
        have b132 : j < n38 := by omega
        refine WL.yld rfl (blt rfl) rfl (Y.indexLs j hl40 rfl Try.underlying35 ti3 rfl rfl rfl b132) ?_
        refine WL.yld rfl (blt rfl) rfl (Y.load1 rfl Try.underlying3 rfl rfl (Ls.at_eq hl40 b132 rfl)) ?_
        refine WL.yld rfl (blt rfl) rfl (Y.assign rfl rfl) ?_
        refine WL.yld rfl (blt rfl) rfl (Y.assign rfl rfl) ?_
        refine WL.nil ?_
        refine WK.then_normal (k131 _ _ ?_)
        refine WC.sub [(1, _), (2, _), (3, _), (9, _), (11, _), (12, _), (13, _), (14, _), (26, _), (27, _), (28, _), (53, _), (54, _), (55, _)] ⟨rfl, rfl, rfl, rfl, rfl, rfl, rfl, rfl, rfl, rfl, rfl, rfl, rfl, rfl, trivial⟩ ?_
        refine WC.seq (fun K133 k133 => ?_)
        refine WC.region rfl ?_
        refine WL.yld rfl (blt rfl) rfl (Y.move rfl rfl) ?_
        refine WL.yld rfl (blt rfl) rfl (Y.fieldAddr rfl Try.underlying59 rfl ti3 (by decide) rfl) ?_
        refine WL.yld rfl (blt rfl) rfl (Y.load1 rfl Try.underlying3 rfl rfl (Blk.at_eq m29 rfl)) ?_
        refine WL.yld rfl (blt rfl) rfl (Y.move rfl rfl) ?_
        obtain ⟨bq, hq1, hq2⟩ := Bd.nds_split (d := d) (l := l) (id := id) (at_ := at_) (show i < d.length from by omega) j
        obtain ⟨bq2, rfl⟩ := hq2 (by omega)
        refine WL.call rfl (blt rfl) rfl rfl rfl has27 rfl (number_at w g8 g3 o_g3 n_g3_g8.symm _ _ _ _ _ _ _ xW m12 m7 hq1 (Bd.nds_fresh gd (show i < d.length from by omega) (by omega)) (by have := Bd.ndsN_len (d := d) (l := l) (id := id) (at_ := at_) (i := i) (B := 34) (by omega) gd.few; have := Bd.nodP_len (l := l) (id := id) (at_ := at_) (x := d[i]!) (j := j); rw [List.length_append]; omega)) ?_
        rintro _ w134 ⟨rfl, on136, m137⟩
        refine ⟨_, rfl, ?_⟩
        have m12 := m12.only n_g3_g8.symm on136
        have m29 := m29.only n_g3_g22.symm on136
        have ow123 := ow123.only r_v33_g3 on136
        have hl40 := OwnL.ls ow123 (fun _ => rfl) (by decide)
        have ow_vb := ow_vb.only r_vb_g3 on136
        have xW := Ext.only xW on136 o_g3
        rw [List.append_assoc, ← Bd.nodP_next (show j < (Bd.ptsQ l d[i]!.id id at_).length from by omega)] at m137
        refine WL.yld rfl (blt rfl) rfl (Y.assign rfl rfl) ?_
        refine WL.nil ?_
        refine WK.then_normal (k133 _ _ ?_)
        refine WC.sub [(1, _), (2, _), (3, _), (9, _), (11, _), (12, _), (13, _), (14, _), (15, _), (26, _), (27, _), (28, _), (53, _), (54, _), (55, _)] ⟨rfl, rfl, rfl, rfl, rfl, rfl, rfl, rfl, rfl, rfl, rfl, rfl, rfl, rfl, rfl, trivial⟩ ?_
        refine WC.seq (fun K138 k138 => ?_)
        refine WC.seq (fun K139 k139 => ?_)
        refine WC.region rfl ?_
        refine WL.yld rfl (blt rfl) rfl (Y.fieldAddr rfl Try.underlying59 rfl ti3 (by decide) rfl) ?_
        refine WL.yld rfl (blt rfl) rfl (Y.load1 rfl Try.underlying3 rfl rfl (Blk.at_eq m29 rfl)) ?_
        refine WL.yld rfl (blt rfl) rfl (Y.eql rfl rfl rfl) ?_
        refine WL.nil ?_
        refine WK.then_normal (k139 _ _ ?_)
        refine WC.sub [(1, _), (2, _), (3, _), (9, _), (11, _), (12, _), (13, _), (14, _), (15, _), (26, _), (27, _), (28, _), (53, _), (54, _), (55, _), (67, _)] ⟨rfl, rfl, rfl, rfl, rfl, rfl, rfl, rfl, rfl, rfl, rfl, rfl, rfl, rfl, rfl, rfl, trivial⟩ ?_
        refine WC.cond rfl (fun h140 => ?_) (fun h140 => ?_)
        ·
          have p140 := (eq_t h140)
          refine WC.seq (fun K141 k141 => ?_)
          refine WC.region rfl ?_
          refine WL.yld rfl (blt rfl) rfl (Y.move rfl rfl) ?_
          refine WL.yld rfl (blt rfl) rfl (Y.move rfl rfl) ?_
          refine WL.yld rfl (blt rfl) rfl (Y.move rfl rfl) ?_
          refine WL.yld rfl (blt rfl) rfl (Y.move rfl rfl) ?_
          refine WL.yld rfl (blt rfl) rfl (Y.build (cells := [_, _]) rfl pl29 rfl rfl) ?_
          refine WL.call rfl (blt rfl) rfl rfl rfl has49 rfl (add_any w g8 o_g8 _ _ _ _ _ _ _ _ xW m12 ow_vb r_vb_g8 (by have := Bd.edN_len (d := d) (l := l) (id := id) (at_ := at_) (i := i) (B := 34) (by omega) gd.few; have := Bd.ePts_len (n := (Bd.nds d l id at_)) (x := d[i]!) (ps := (Bd.ptsQ l d[i]!.id id at_)) (j := j) (B := 34) (by omega) (by omega) (by omega); simp only [List.length_append]; omega) (by omega)) ?_
          rintro _ w142 ⟨v144, rfl, m146, ow145, r_v144_g8, tw147, nb148⟩
          refine ⟨_, rfl, ?_⟩
          have r_v144_g3 := ne_twoMP nb148 r_vb_g3 m137
          have m137 := m137.two tw147 n_g3_g8 r_vb_g3
          have r_v144_g22 := ne_two nb148 r_vb_g22 m29
          have m29 := m29.two tw147 n_g8_g22.symm r_vb_g22
          have d_v144_v33 := (Apart.two nb148 d_v33_vb.symm ow123)
          have ow123 := OwnL.two ow123 tw147 r_v33_g8 d_v33_vb
          have hl40 := OwnL.ls ow123 (fun _ => rfl) (by decide)
          have xW := Ext.two xW tw147 o_g8 (fun b hb => (OwnL.lt ow_vb hb).1)
          refine WL.nil ?_
          refine WK.then_normal (k141 _ _ ?_)
          refine WC.sub [(1, _), (2, _), (3, _), (9, _), (11, _), (12, _), (26, _), (27, _), (28, _), (53, _), (54, _), (55, _)] ⟨rfl, rfl, rfl, rfl, rfl, rfl, rfl, rfl, rfl, rfl, rfl, rfl, trivial⟩ ?_
          refine WC.exit ?_
          refine WK.then_exit ?_
          refine WK.in_exit ?_
          refine WK.then_normal (k130 _ _ ?_)
          refine WC.region rfl ?_
          refine WL.yld rfl (blt rfl) rfl (Y.add rfl rfl rfl (wrap_i64 (by first | omega | (dsimp only; omega)))) ?_
          refine WL.yld rfl (blt rfl) rfl (Y.move rfl rfl) ?_
          refine WL.nil ?_
          refine WK.roundS _ [(55, .int .i64 (((j + 1) : Nat) : Int))] ⟨rfl, rfl, rfl, rfl, rfl, rfl, rfl, rfl, rfl, rfl, rfl, rfl, trivial⟩ ?_ ⟨(j + 1), v144, rfl, rfl, xW, m137, m146, m29, ow123, (by rw [Bd.ePts_next, Bd.ePt_zero (eq_t h140), ← List.append_assoc]; exact ow145), r_v144_g3, r_v144_g8, r_v144_g22, (d_v144_v33).symm, (by omega)⟩
          show _ - (j + 1) < _ - j; omega
        ·
          have p140 := (eq_f h140)
          refine WC.skip ?_
          refine WK.then_normal (k138 _ _ ?_)
          refine WC.sub [(1, _), (2, _), (3, _), (9, _), (11, _), (12, _), (13, _), (14, _), (15, _), (26, _), (27, _), (28, _), (53, _), (54, _), (55, _)] ⟨rfl, rfl, rfl, rfl, rfl, rfl, rfl, rfl, rfl, rfl, rfl, rfl, rfl, rfl, rfl, trivial⟩ ?_
          refine WC.seq (fun K149 k149 => ?_)
          refine WC.region rfl ?_
          refine WL.yld rfl (blt rfl) rfl (Y.move rfl rfl) ?_
          refine WL.yld rfl (blt rfl) rfl (Y.move rfl rfl) ?_
          have b150 : j ≤ n38 := by omega
          refine WL.yld rfl (blt rfl) rfl (Y.sliceH j rfl Try.underlying35 ti3 rfl rfl rfl (Nat.le_trans b150 hl40.le)) ?_
          refine WL.yld rfl (blt rfl) rfl (Y.lenSl rfl rfl rfl Try.underlying35 rfl) ?_
          refine WL.yld rfl (blt rfl) rfl (Y.move rfl rfl) ?_
          refine WL.nil ?_
          refine WK.then_normal (k149 _ _ ?_)
          refine WC.sub [(1, _), (2, _), (3, _), (9, _), (11, _), (12, _), (14, _), (15, _), (26, _), (27, _), (28, _), (53, _), (54, _), (55, _), (76, _), (77, _), (78, _)] ⟨rfl, rfl, rfl, rfl, rfl, rfl, rfl, rfl, rfl, rfl, rfl, rfl, rfl, rfl, rfl, rfl, rfl, trivial⟩ ?_
          refine WC.block ?_
          refine WC.sub [(78, _), (1, _), (2, _), (3, _), (9, _), (11, _), (12, _), (14, _), (15, _), (26, _), (27, _), (28, _), (53, _), (54, _), (55, _), (76, _), (77, _)] ⟨rfl, rfl, rfl, rfl, rfl, rfl, rfl, rfl, rfl, rfl, rfl, rfl, rfl, rfl, rfl, rfl, rfl, trivial⟩ ?_
          refine WC.loopS 1 (fun mz Ed W' => ∃ k : Nat, ∃ vc : Value, mz = j - k ∧ Ed = [(78, .int .i64 ((k : Nat) : Int))] ∧ Ext w W' ∧ MpP W' g3 (Bd.numF 0 (Bd.ndsN d l id at_ i ++ Bd.nodP l id at_ d[i]! (j + 1))) ∧ Blk W' g8 85 [.map (some g3), vc] ∧ Blk W' g22 59 _ ∧ OwnL W' w.heap.size 3 Ck.ic 1 (.slice A37 n38 c39) _ ∧ OwnL W' w.heap.size 92 Bd.Ed.c 3 vc (Bd.edN d l id at_ i ++ Bd.ePts (Bd.nds d l id at_) d[i]! (Bd.ptsQ l d[i]!.id id at_) j ++ Bd.ePr (Bd.nds d l id at_) d[i]! (Bd.ptsQ l d[i]!.id id at_) j k) ∧ vc.ownBlock ≠ some g3 ∧ vc.ownBlock ≠ some g8 ∧ vc.ownBlock ≠ some g22 ∧ Apart (.slice A37 n38 c39) vc ∧ (k ≤ j)) _ ⟨0, _, rfl, rfl, xW, m137, m12, m29, ow123, (by rw [show Bd.ePr (Bd.nds d l id at_) d[i]! (Bd.ptsQ l d[i]!.id id at_) j 0 = [] from rfl, List.append_nil]; exact ow_vb), r_vb_g3, r_vb_g8, r_vb_g22, (d_v33_vb.symm).symm, (Nat.zero_le _)⟩ ?_
          rintro _ _ w151 ⟨k, vc, rfl, rfl, xW, m137, m12, m29, ow123, ow_vc, r_vc_g3, r_vc_g8, r_vc_g22, d_v33_vc, le_k⟩
          refine WC.sub [(78, _), (1, _), (2, _), (3, _), (9, _), (11, _), (12, _), (14, _), (15, _), (26, _), (27, _), (28, _), (53, _), (54, _), (55, _), (76, _), (77, _)] ⟨rfl, rfl, rfl, rfl, rfl, rfl, rfl, rfl, rfl, rfl, rfl, rfl, rfl, rfl, rfl, rfl, rfl, trivial⟩ ?_
          have hl40 := OwnL.ls ow123 (fun _ => rfl) (by decide)
          refine WC.seq (fun K152 k152 => ?_)
          refine WC.region rfl ?_
          refine WL.yld rfl (blt rfl) rfl (Y.lss rfl rfl rfl) ?_
          refine WL.nil ?_
          refine WK.then_normal (k152 _ _ ?_)
          refine WC.seq (fun K153 k153 => ?_)
          refine WC.cond rfl (fun h154 => ?_) (fun h154 => ?_)
          ·
            have p154 := (dec_t h154)
            have hkt : k < ((Bd.ptsQ l d[i]!.id id at_).take j).length := by rw [List.length_take]; omega
            have qm : ((Bd.ptsQ l d[i]!.id id at_).take j)[k]! ∈ (Bd.ptsQ l d[i]!.id id at_) := List.mem_of_mem_take (bang_mem hkt)
            have qb := Bd.ptsQ_rng gd ha qm
            obtain ⟨bq3, hq3, _⟩ := Bd.nds_split (d := d) (l := l) (id := id) (at_ := at_) (show i < d.length from by omega) (j + 1)
            have hq4 := Bd.nod_in (d := d) (l := l) (id := id) (at_ := at_) (i := i) (j := j) hkt
            refine WC.skip ?_
            refine WK.then_normal (k153 _ _ ?_)
            refine WC.sub [(1, _), (2, _), (3, _), (9, _), (11, _), (12, _), (14, _), (15, _), (26, _), (27, _), (28, _), (53, _), (54, _), (55, _), (76, _), (77, _), (78, _)] ⟨rfl, rfl, rfl, rfl, rfl, rfl, rfl, rfl, rfl, rfl, rfl, rfl, rfl, rfl, rfl, rfl, rfl, trivial⟩ ?_
            refine WC.seq (fun K155 k155 => ?_)
            refine WC.block ?_
            refine WC.seq (fun K156 k156 => ?_)
            refine WC.region rfl ?_
            have b157 : k < j := by omega
            refine WL.yld rfl (blt rfl) rfl (Y.indexLs k (hl40.take b150) rfl Try.underlying35 ti3 rfl rfl rfl b157) ?_
            refine WL.yld rfl (blt rfl) rfl (Y.load1 rfl Try.underlying3 rfl rfl (Ls.at_eq (hl40.take b150) b157 rfl)) ?_
            refine WL.yld rfl (blt rfl) rfl (Y.assign rfl rfl) ?_
            refine WL.nil ?_
            refine WK.then_normal (k156 _ _ ?_)
            refine WC.sub [(1, _), (2, _), (3, _), (9, _), (11, _), (12, _), (14, _), (15, _), (17, _), (26, _), (27, _), (28, _), (53, _), (54, _), (55, _), (76, _), (77, _), (78, _)] ⟨rfl, rfl, rfl, rfl, rfl, rfl, rfl, rfl, rfl, rfl, rfl, rfl, rfl, rfl, rfl, rfl, rfl, rfl, trivial⟩ ?_
            refine WC.seq (fun K158 k158 => ?_)
            refine WC.region rfl ?_
            refine WL.yld rfl (blt rfl) rfl (Y.move rfl rfl) ?_
            refine WL.yld rfl (blt rfl) rfl (Y.move rfl rfl) ?_
            refine WL.yld rfl (blt rfl) rfl (Y.sub rfl rfl rfl (wrap_i64 (by first | omega | (dsimp only; omega)))) ?_
            refine WL.yld rfl (blt rfl) rfl (Y.fieldAddr rfl Try.underlying59 rfl ti3 (by decide) rfl) ?_
            refine WL.yld rfl (blt rfl) rfl (Y.load1 rfl Try.underlying3 rfl rfl (Blk.at_eq m29 rfl)) ?_
            refine WL.call rfl (blt rfl) rfl rfl rfl has22 rfl (stretch_any _ _ _) ?_
            rintro _ w159 ⟨rfl, x160⟩
            refine ⟨_, rfl, ?_⟩
            have m137 := m137.ext x160
            have m12 := m12.ext x160
            have m29 := m29.ext x160
            have ow123 := ow123.ext x160
            have hl40 := hl40.ext x160
            have ow_vc := ow_vc.ext x160
            have xW := Ext.trans xW x160
            refine WL.yld rfl (blt rfl) rfl (Y.move rfl rfl) ?_
            refine WL.yld rfl (blt rfl) rfl (Y.extract rfl rfl rfl) ?_
            refine WL.yld rfl (blt rfl) rfl (Y.extract rfl rfl rfl) ?_
            refine WL.alloc rfl (blt rfl) rfl rfl ti29 rfl ?_
            intro g161 w162 e163 x164 m165
            have n_g3_g161 := ne_newMP m137 e163
            have n_g8_g161 := ne_new m12 e163
            have n_g22_g161 := ne_new m29 e163
            have r_v33_g161 := ne_newO ow123 e163
            have r_vc_g161 := ne_newO ow_vc e163
            have o_g161 := own_new xW e163
            have m137 := m137.ext x164
            have m12 := m12.ext x164
            have m29 := m29.ext x164
            have ow123 := ow123.ext x164
            have hl40 := hl40.ext x164
            have ow_vc := ow_vc.ext x164
            have xW := Ext.trans xW x164
            refine WL.store (cs' := [_, _]) rfl rfl rfl rfl rfl rfl ti29 m165 (ble rfl) rfl rfl (fun w166 on167 m168 => ?_)
            have m137 := m137.only n_g3_g161 on167
            have m12 := m12.only n_g8_g161 on167
            have m29 := m29.only n_g22_g161 on167
            have ow123 := ow123.only r_v33_g161 on167
            have hl40 := OwnL.ls ow123 (fun _ => rfl) (by decide)
            have ow_vc := ow_vc.only r_vc_g161 on167
            have xW := Ext.only xW on167 o_g161
            refine WL.yld rfl (blt rfl) rfl (Y.assign rfl rfl) ?_
            refine WL.nil ?_
            refine WK.then_normal (k158 _ _ ?_)
            refine WC.sub [(1, _), (2, _), (3, _), (9, _), (11, _), (12, _), (14, _), (15, _), (17, _), (18, _), (26, _), (27, _), (28, _), (53, _), (54, _), (55, _), (76, _), (77, _), (78, _)] ⟨rfl, rfl, rfl, rfl, rfl, rfl, rfl, rfl, rfl, rfl, rfl, rfl, rfl, rfl, rfl, rfl, rfl, rfl, rfl, trivial⟩ ?_
            refine WC.regionT 8 (by kernel_rfl) (by kernel_rfl) ?_
            refine WQ.yld rfl (blt rfl) rfl (Y.move rfl rfl) ?_
            refine WQ.yld rfl (blt rfl) rfl (Y.move rfl rfl) ?_
            refine WQ.yld rfl (blt rfl) rfl (Y.fieldAddr rfl Try.underlying59 rfl ti3 (by decide) rfl) ?_
            refine WQ.yld rfl (blt rfl) rfl (Y.load1 rfl Try.underlying3 rfl rfl (Blk.at_ext m29 rfl)) ?_
            refine WQ.yld rfl (blt rfl) rfl (Y.move rfl rfl) ?_
            refine WQ.call rfl (blt rfl) rfl rfl rfl has27 rfl (fun w hw => calls_ext hw (number_in _ _ _ _ (Bd.nds d l id at_) _ _ _ _ (Blk.ext m12 hw) (MpP.ext m137 hw) hq3 hq4)) ?_
            refine WQ.yld rfl (blt rfl) rfl (Y.move rfl rfl) ?_
            refine WQ.yld rfl (blt rfl) rfl (Y.loadS rfl Try.underlying29 rfl ti29 rfl (Blk.row_ext m168)) ?_
            refine WQ.tail (fun w169 x170 => ?_)
            have m137 := m137.ext x170
            have m12 := m12.ext x170
            have m29 := m29.ext x170
            have ow123 := ow123.ext x170
            have hl40 := hl40.ext x170
            have ow_vc := ow_vc.ext x170
            have m168 := m168.ext x170
            have xW := Ext.trans xW x170
            refine WL.call rfl (blt rfl) rfl rfl rfl has49 rfl (add_any w g8 o_g8 _ _ _ _ _ _ _ _ xW m12 ow_vc r_vc_g8 (by have := Bd.edN_len (d := d) (l := l) (id := id) (at_ := at_) (i := i) (B := 34) (by omega) gd.few; have := Bd.ePts_len (n := (Bd.nds d l id at_)) (x := d[i]!) (ps := (Bd.ptsQ l d[i]!.id id at_)) (j := j) (B := 34) (by omega) (by omega) (by omega); have := Bd.ePr_len (n := (Bd.nds d l id at_)) (x := d[i]!) (ps := (Bd.ptsQ l d[i]!.id id at_)) (j := j) (k := k) (B := 34) (by omega); simp only [List.length_append]; omega) (by have := Iv.str_bound ((Bd.ptsQ l d[i]!.id id at_)[j]! - ((Bd.ptsQ l d[i]!.id id at_).take j)[k]!) d[i]!.ppm; omega)) ?_
            rintro _ w171 ⟨v173, rfl, m175, ow174, r_v173_g8, tw176, nb177⟩
            refine ⟨_, rfl, ?_⟩
            have r_v173_g3 := ne_twoMP nb177 r_vc_g3 m137
            have m137 := m137.two tw176 n_g3_g8 r_vc_g3
            have r_v173_g22 := ne_two nb177 r_vc_g22 m29
            have m29 := m29.two tw176 n_g8_g22.symm r_vc_g22
            have d_v173_v33 := (Apart.two nb177 d_v33_vc.symm ow123)
            have ow123 := OwnL.two ow123 tw176 r_v33_g8 d_v33_vc
            have hl40 := OwnL.ls ow123 (fun _ => rfl) (by decide)
            have r_v173_g161 := ne_two nb177 r_vc_g161 m168
            have m168 := m168.two tw176 n_g8_g161.symm r_vc_g161
            have xW := Ext.two xW tw176 o_g8 (fun b hb => (OwnL.lt ow_vc hb).1)
            refine WL.nil ?_
            refine WK.in_normal ?_
            refine WK.then_normal (k155 _ _ ?_)
            refine WC.sub [(1, _), (2, _), (3, _), (9, _), (11, _), (12, _), (14, _), (15, _), (26, _), (27, _), (28, _), (53, _), (54, _), (55, _), (76, _), (77, _), (78, _)] ⟨rfl, rfl, rfl, rfl, rfl, rfl, rfl, rfl, rfl, rfl, rfl, rfl, rfl, rfl, rfl, rfl, rfl, trivial⟩ ?_
            refine WC.region rfl ?_
            refine WL.yld rfl (blt rfl) rfl (Y.add rfl rfl rfl (wrap_i64 (by first | omega | (dsimp only; omega)))) ?_
            refine WL.yld rfl (blt rfl) rfl (Y.move rfl rfl) ?_
            refine WL.nil ?_
            refine WK.roundS _ [(78, .int .i64 (((k + 1) : Nat) : Int))] ⟨rfl, rfl, rfl, rfl, rfl, rfl, rfl, rfl, rfl, rfl, rfl, rfl, rfl, rfl, rfl, rfl, rfl, trivial⟩ ?_ ⟨(k + 1), v173, rfl, rfl, xW, m137, m175, m29, ow123, (by rw [Bd.ePr_next (show k < ((Bd.ptsQ l d[i]!.id id at_).take j).length from by rw [List.length_take]; omega), ← List.append_assoc]; exact ow174), r_v173_g3, r_v173_g8, r_v173_g22, (d_v173_v33).symm, (by omega)⟩
            show _ - (k + 1) < _ - k; omega
          ·
            have p154 := (dec_f h154)
            refine WC.exit ?_
            refine WK.then_exit ?_
            refine WK.then_exit ?_
            refine WK.in_exit ?_
            refine WK.in_normal ?_
            refine WK.then_normal (k130 _ _ ?_)
            refine WC.sub [(1, _), (2, _), (3, _), (9, _), (11, _), (12, _), (26, _), (27, _), (28, _), (53, _), (54, _), (55, _)] ⟨rfl, rfl, rfl, rfl, rfl, rfl, rfl, rfl, rfl, rfl, rfl, rfl, trivial⟩ ?_
            refine WC.region rfl ?_
            refine WL.yld rfl (blt rfl) rfl (Y.add rfl rfl rfl (wrap_i64 (by first | omega | (dsimp only; omega)))) ?_
            refine WL.yld rfl (blt rfl) rfl (Y.move rfl rfl) ?_
            refine WL.nil ?_
            refine WK.roundS _ [(55, .int .i64 (((j + 1) : Nat) : Int))] ⟨rfl, rfl, rfl, rfl, rfl, rfl, rfl, rfl, rfl, rfl, rfl, rfl, trivial⟩ ?_ ⟨(j + 1), vc, rfl, rfl, xW, m137, m12, m29, ow123, (by rw [Bd.ePts_next, ← Bd.ePt_one (k := k) (eq_f h140) (by rw [List.length_take]; omega), ← List.append_assoc]; exact ow_vc), r_vc_g3, r_vc_g8, r_vc_g22, (d_v33_vc.symm).symm, (by omega)⟩
            show _ - (j + 1) < _ - j; omega
      ·
        have p129 := (dec_f h129)
        refine WC.exit ?_
        refine WK.then_exit ?_
        refine WK.then_exit ?_
        refine WK.in_exit ?_
        refine WK.in_normal ?_
        refine WK.then_normal (k19 _ _ ?_)
        refine WC.sub [(1, _), (2, _), (3, _), (9, _), (26, _), (27, _), (28, _)] ⟨rfl, rfl, rfl, rfl, rfl, rfl, rfl, trivial⟩ ?_
        refine WC.region rfl ?_
        refine WL.yld rfl (blt rfl) rfl (Y.add rfl rfl rfl (wrap_i64 (by first | omega | (dsimp only; omega)))) ?_
        refine WL.yld rfl (blt rfl) rfl (Y.move rfl rfl) ?_
        refine WL.nil ?_
        rw [Bd.nodP_all (by omega), ← Bd.ndsN_next (show i < d.length from by omega)] at m7
        refine WK.roundS _ [(28, .int .i64 (((i + 1) : Nat) : Int))] ⟨rfl, rfl, rfl, rfl, rfl, rfl, rfl, trivial⟩ ?_ ⟨(i + 1), vb, rfl, rfl, xW, m7, m12, (by rw [Bd.edN_next (show i < d.length from by omega)]; unfold Bd.eDom; rw [show (Bd.ptsQ l d[i]!.id id at_).length = j from by omega]; exact ow_vb), r_vb_g3, r_vb_g8, (by omega)⟩
        show _ - (i + 1) < _ - i; omega
  ·
    have p18 := (dec_f h18)
    have hq5 : (Bd.nds d l id at_) = Bd.ndsN d l id at_ i ++ [] := by rw [Bd.ndsN_all (by omega), List.append_nil]
    refine WC.exit ?_
    refine WK.then_exit ?_
    refine WK.then_exit ?_
    refine WK.in_exit ?_
    refine WK.then_normal (k13 _ _ ?_)
    refine WC.sub [(1, _), (9, _)] ⟨rfl, rfl, trivial⟩ ?_
    refine WC.seq (fun K178 k178 => ?_)
    refine WC.seq (fun K179 k179 => ?_)
    refine WC.region rfl ?_
    refine WL.yld rfl (blt rfl) rfl (Y.move rfl rfl) ?_
    refine WL.yld rfl (blt rfl) rfl (Y.lenSl rfl rfl rfl Try.underlying23 rfl) ?_
    refine WL.yld rfl (blt rfl) rfl (Y.move rfl rfl) ?_
    refine WL.nil ?_
    refine WK.then_normal (k179 _ _ ?_)
    refine WC.sub [(9, _), (103, _), (104, _), (105, _)] ⟨rfl, rfl, rfl, rfl, trivial⟩ ?_
    refine WC.block ?_
    refine WC.sub [(105, _), (9, _), (103, _), (104, _)] ⟨rfl, rfl, rfl, rfl, trivial⟩ ?_
    refine WC.loopS 1 (fun mz Ed W' => ∃ q : Nat, ∃ vd : Value, mz = n_l - q ∧ Ed = [(105, .int .i64 ((q : Nat) : Int))] ∧ Ext w W' ∧ MpP W' g3 (Bd.numF 0 (Bd.ndsN d l id at_ i)) ∧ Blk W' g8 85 [.map (some g3), vd] ∧ OwnL W' w.heap.size 92 Bd.Ed.c 3 vd (Bd.edN d l id at_ i ++ (l.take q).flatMap (Bd.eSnap (Bd.nds d l id at_))) ∧ vd.ownBlock ≠ some g3 ∧ vd.ownBlock ≠ some g8 ∧ (q ≤ n_l)) _ ⟨0, _, rfl, rfl, xW, m7, m12, (by rw [List.take_zero, List.flatMap_nil, List.append_nil]; exact ow_va), r_va_g3, r_va_g8, (Nat.zero_le _)⟩ ?_
    rintro _ _ w180 ⟨q, vd, rfl, rfl, xW, m7, m12, ow_vd, r_vd_g3, r_vd_g8, le_q⟩
    refine WC.sub [(105, _), (9, _), (103, _), (104, _)] ⟨rfl, rfl, rfl, rfl, trivial⟩ ?_
    refine WC.seq (fun K181 k181 => ?_)
    refine WC.region rfl ?_
    refine WL.yld rfl (blt rfl) rfl (Y.lss rfl rfl rfl) ?_
    refine WL.nil ?_
    refine WK.then_normal (k181 _ _ ?_)
    refine WC.seq (fun K182 k182 => ?_)
    refine WC.cond rfl (fun h183 => ?_) (fun h183 => ?_)
    ·
      have p183 := (dec_t h183)
      refine WC.skip ?_
      refine WK.then_normal (k182 _ _ ?_)
      refine WC.sub [(9, _), (103, _), (104, _), (105, _)] ⟨rfl, rfl, rfl, rfl, trivial⟩ ?_
      refine WC.seq (fun K184 k184 => ?_)
      refine WC.block ?_
      refine WC.seq (fun K185 k185 => ?_)
      refine WC.region rfl ?_
      have b186 : q < n_l := by omega
      refine WL.yld rfl (blt rfl) rfl (Y.indexLs q (h_l.ext xW) rfl Try.underlying23 ti42 rfl rfl rfl b186) ?_
      refine WL.yld rfl (blt rfl) rfl (Y.loadS (cs := [_, _, _, _, _]) rfl Try.underlying42 rfl ti42 rfl (Ls.part_eq (h_l.ext xW) b186 rfl)) ?_
      refine WL.alloc rfl (blt rfl) rfl rfl ti42 rfl ?_
      intro g187 w188 e189 x190 m191
      have n_g3_g187 := ne_newMP m7 e189
      have n_g8_g187 := ne_new m12 e189
      have r_vd_g187 := ne_newO ow_vd e189
      have o_g187 := own_new xW e189
      have m7 := m7.ext x190
      have m12 := m12.ext x190
      have ow_vd := ow_vd.ext x190
      have xW := Ext.trans xW x190
      refine WL.store (cs' := [_, _, _, _, _]) rfl rfl rfl rfl rfl rfl ti42 m191 (ble rfl) rfl rfl (fun w192 on193 m194 => ?_)
      have m7 := m7.only n_g3_g187 on193
      have m12 := m12.only n_g8_g187 on193
      have ow_vd := ow_vd.only r_vd_g187 on193
      have xW := Ext.only xW on193 o_g187
      refine WL.nil ?_
      refine WK.then_normal (k185 _ _ ?_)
      refine WC.sub [(9, _), (21, _), (103, _), (104, _), (105, _)] ⟨rfl, rfl, rfl, rfl, rfl, trivial⟩ ?_
      refine WC.seq (fun K195 k195 => ?_)
      refine WC.region rfl ?_
      refine WL.yld rfl (blt rfl) rfl (Y.move rfl rfl) ?_
      refine WL.yld rfl (blt rfl) rfl (Y.fieldAddr rfl Try.underlying42 rfl ti3 (by decide) rfl) ?_
      refine WL.yld rfl (blt rfl) rfl (Y.load1 rfl Try.underlying3 rfl rfl (Blk.at_eq m194 rfl)) ?_
      refine WL.yld rfl (blt rfl) rfl (Y.fieldAddr rfl Try.underlying42 rfl ti3 (by decide) rfl) ?_
      refine WL.yld rfl (blt rfl) rfl (Y.load1 rfl Try.underlying3 rfl rfl (Blk.at_eq m194 rfl)) ?_
      refine WL.call rfl (blt rfl) rfl rfl rfl has27 rfl (number_in _ _ _ _ (Bd.nds d l id at_) _ _ _ _ m12 m7 hq5 (Bd.snap_in gd (show q < l.length from by omega) (show d.length ≤ i from by omega)).1) ?_
      rintro _ w196 ⟨rfl, x197⟩
      refine ⟨_, rfl, ?_⟩
      have m7 := m7.ext x197
      have m12 := m12.ext x197
      have ow_vd := ow_vd.ext x197
      have m194 := m194.ext x197
      have xW := Ext.trans xW x197
      refine WL.yld rfl (blt rfl) rfl (Y.assign rfl rfl) ?_
      refine WL.nil ?_
      refine WK.then_normal (k195 _ _ ?_)
      refine WC.sub [(9, _), (21, _), (22, _), (103, _), (104, _), (105, _)] ⟨rfl, rfl, rfl, rfl, rfl, rfl, trivial⟩ ?_
      obtain ⟨A198, n199, c200, rfl, hl201⟩ := OwnL.opened ow_vd (fun _ => rfl) (by decide)
      have e_n199 := hl201.len
      try simp only [List.length_append, List.length_cons, List.length_nil, List.length_reverse, List.length_drop, List.length_take, List.length_map, List.length_replicate, List.length_set] at e_n199
      have z_n199 := hl201.nle
      refine WC.regionX (fun W' => Ext w W' ∧ MpP W' g3 _ ∧ Blk W' g187 42 _) (.load 0 (.load 1 (.load 2 (.load 3 (.load 5 (.load 6 (.load 7 (.load 8 (.load 9 (.load 10 (.load 11 (.load 14 (.load 15 (.load 16 (.load 17 (.load 18 (.load 19 (.load 21 (.alt 4 (.alt 12 (.load 13 (.alt 20 (.load 22 (.alt 23 (.alt 24 (.load 25 (.load 26 (.alt 27 (.fin) (.none)))) (.none)) (.none))) (.none))) (.none)) (.alt 12 (.load 13 (.alt 4 (.alt 20 (.load 22 (.alt 23 (.alt 24 (.load 25 (.load 26 (.alt 27 (.fin) (.none)))) (.none)) (.none))) (.none)) (.alt 20 (.load 22 (.alt 4 (.alt 23 (.alt 24 (.load 25 (.load 26 (.alt 27 (.fin) (.none)))) (.none)) (.none)) (.alt 23 (.alt 4 (.alt 24 (.load 25 (.load 26 (.alt 27 (.fin) (.none)))) (.none)) (.none)) (.none)))) (.none)))) (.none))))))))))))))))))))) ⟨xW, m7, m194⟩ (by kernel_rfl) (by kernel_rfl) (fun w202 x203 => ?_)
      have m7 := m7.ext x203
      have m12 := m12.ext x203
      have ow_vd := ow_vd.ext x203
      have hl201 := hl201.ext x203
      have m194 := m194.ext x203
      have xW := Ext.trans xW x203
      refine WX.yld rfl rfl (blt rfl) rfl (Y.move rfl rfl) ?_
      refine WX.yld rfl rfl (blt rfl) rfl (Y.move rfl rfl) ?_
      refine WX.yld rfl rfl (blt rfl) rfl (Y.nilCheck rfl rfl) ?_
      refine WX.yld rfl rfl (blt rfl) rfl (Y.fieldAddr rfl Try.underlying85 rfl ti83 (by decide) rfl) ?_
      refine WX.yld rfl rfl (blt rfl) rfl (Y.move rfl rfl) ?_
      refine WX.yld rfl rfl (blt rfl) rfl (Y.move rfl rfl) ?_
      refine WX.yld rfl rfl (blt rfl) rfl (Y.fieldAddr rfl Try.underlying42 rfl ti3 (by decide) rfl) ?_
      refine WX.yld rfl rfl (blt rfl) rfl (Y.load1 rfl Try.underlying3 rfl rfl (Blk.at_c (fun _ h => h.2.2) rfl)) ?_
      refine WX.yld rfl rfl (blt rfl) rfl (Y.fieldAddr rfl Try.underlying42 rfl ti29 (by decide) rfl) ?_
      refine WX.yld rfl rfl (blt rfl) rfl (Y.fieldAddr rfl Try.underlying29 rfl ti3 (by decide) rfl) ?_
      refine WX.yld rfl rfl (blt rfl) rfl (Y.load1 rfl Try.underlying3 rfl rfl (Blk.at_c (fun _ h => h.2.2) rfl)) ?_
      refine WX.yld rfl rfl (blt rfl) rfl (Y.move rfl rfl) ?_
      refine WX.yld rfl rfl (blt rfl) rfl (Y.fieldAddr rfl Try.underlying42 rfl ti3 (by decide) rfl) ?_
      refine WX.yld rfl rfl (blt rfl) rfl (Y.load1 rfl Try.underlying3 rfl rfl (Blk.at_c (fun _ h => h.2.2) rfl)) ?_
      refine WX.yld rfl rfl (blt rfl) rfl (Y.fieldAddr rfl Try.underlying42 rfl ti29 (by decide) rfl) ?_
      refine WX.yld rfl rfl (blt rfl) rfl (Y.fieldAddr rfl Try.underlying29 rfl ti3 (by decide) rfl) ?_
      refine WX.yld rfl rfl (blt rfl) rfl (Y.load1 rfl Try.underlying3 rfl rfl (Blk.at_c (fun _ h => h.2.2) rfl)) ?_
      refine WX.yld rfl rfl (blt rfl) rfl (Y.move rfl rfl) ?_
      refine WX.alt ?_ ?_
      ·
        refine WX.yldL rfl rfl (blt rfl) rfl ⟨xW, m7, m194⟩ (Y.load1 rfl Try.underlying83 rfl rfl (Blk.at_eq m12 rfl)) ?_
        refine WX.call rfl rfl (blt rfl) rfl rfl rfl has27 rfl ⟨xW, m7, m194⟩ (number_in _ _ _ _ (Bd.nds d l id at_) _ _ _ _ m12 m7 hq5 (Bd.snap_in gd (show q < l.length from by omega) (show d.length ≤ i from by omega)).2.1) ?_
        rintro _ w204 ⟨rfl, x205⟩
        refine ⟨_, rfl, ?_⟩
        have m7 := m7.ext x205
        have m12 := m12.ext x205
        have ow_vd := ow_vd.ext x205
        have hl201 := hl201.ext x205
        have m194 := m194.ext x205
        have xW := Ext.trans xW x205
        refine WX.yld rfl rfl (blt rfl) rfl (Y.build (cells := [_, _, _]) rfl pl92 rfl rfl) ?_
        refine WX.call rfl rfl (blt rfl) rfl rfl rfl has27 rfl ⟨xW, m7, m194⟩ (number_in _ _ _ _ (Bd.nds d l id at_) _ _ _ _ m12 m7 hq5 (Bd.snap_in gd (show q < l.length from by omega) (show d.length ≤ i from by omega)).2.2) ?_
        rintro _ w206 ⟨rfl, x207⟩
        refine ⟨_, rfl, ?_⟩
        have m7 := m7.ext x207
        have m12 := m12.ext x207
        have ow_vd := ow_vd.ext x207
        have hl201 := hl201.ext x207
        have m194 := m194.ext x207
        have xW := Ext.trans xW x207
        refine WX.yld rfl rfl (blt rfl) rfl (Y.build (cells := [_, _, _]) rfl pl92 rfl rfl) ?_
        refine WX.run rfl rfl (blt rfl) rfl ⟨xW, m7, m194⟩ (Run.bslice (zs := [.int .i64 0, .int .i64 0, .int .i64 0, .int .i64 0, .int .i64 0, .int .i64 0]) (cs := [_, _, _, _, _, _]) rfl Try.underlying83 ti92 rfl (ble rfl) (by kernel_rfl) rfl rfl) ?_
        rintro _ w209 ⟨g208, rfl, e210, x211, m212⟩
        have n_g3_g208 := ne_newMP m7 e210
        have n_g8_g208 := ne_new m12 e210
        have r_vd_g208 := ne_newO ow_vd e210
        have n_g187_g208 := ne_new m194 e210
        have o_g208 := own_new xW e210
        have m7 := m7.ext x211
        have m12 := m12.ext x211
        have ow_vd := ow_vd.ext x211
        have hl201 := hl201.ext x211
        have m194 := m194.ext x211
        have xW := Ext.trans xW x211
        refine WX.run rfl rfl (blt rfl) rfl ⟨xW, m7, m194⟩ (Run.appendB (f := Bd.Ed.c) (news := Bd.eSnap (Bd.nds d l id at_) l[q]!) rfl rfl rfl Try.underlying83 ti92 rfl (by decide) rfl ow_vd (fun _ => rfl) Bd.Ed.one m212 rfl xW.size (by have q0 := Bd.edN_len (d := d) (l := l) (id := id) (at_ := at_) (i := i) (B := 34) (by omega) gd.few; have q1 := Bd.snaps_len (n := (Bd.nds d l id at_)) (m := l.take q); have q2 := List.length_take_le q l; have q3 := (show (Bd.eSnap (Bd.nds d l id at_) l[q]!).length = 2 from rfl); first | omega | (simp only [List.length_append, List.length_cons, List.length_nil, List.length_take, List.length_drop, List.length_reverse]; omega)) (Nat.le_trans (show _ ≤ 140737488355328 from by have q0 := Bd.edN_len (d := d) (l := l) (id := id) (at_ := at_) (i := i) (B := 34) (by omega) gd.few; have q1 := Bd.snaps_len (n := (Bd.nds d l id at_)) (m := l.take q); have q2 := List.length_take_le q l; have q3 := (show (Bd.eSnap (Bd.nds d l id at_) l[q]!).length = 2 from rfl); first | omega | (simp only [List.length_append, List.length_cons, List.length_nil, List.length_take, List.length_drop, List.length_reverse]; omega)) (by decide)) ) ?_
        rintro v213 w214 ⟨ow215, gr216, nb217⟩
        have r_v213_g3 := ne_appMP nb217 r_vd_g3 m7
        have m7 := m7.grown gr216 r_vd_g3
        have r_v213_g8 := ne_app nb217 r_vd_g8 m12
        have m12 := m12.grown gr216 r_vd_g8
        have r_v213_g187 := ne_app nb217 r_vd_g187 m194
        have m194 := m194.grown gr216 r_vd_g187
        have r_v213_g208 := ne_app nb217 r_vd_g208 m212
        have m212 := m212.grown gr216 r_vd_g208
        have xW := Ext.grown xW gr216 (fun b hb => (OwnL.lt ow_vd hb).1)
        refine WX.yld rfl rfl (blt rfl) rfl (Y.nilCheck rfl rfl) ?_
        refine WX.yld rfl rfl (blt rfl) rfl (Y.fieldAddr rfl Try.underlying85 rfl ti83 (by decide) rfl) ?_
        obtain ⟨A218, n219, c220, rfl, hl221⟩ := OwnL.opened ow215 (fun _ => rfl) (by decide)
        have e_n219 := hl221.len
        try simp only [List.length_append, List.length_cons, List.length_nil, List.length_reverse, List.length_drop, List.length_take, List.length_map, List.length_replicate, List.length_set] at e_n219
        have z_n219 := hl221.nle
        refine WX.storeB (cs' := [_, _]) rfl ⟨xW, m7, m194⟩ rfl rfl rfl rfl rfl rfl ti83 m12 (ble rfl) rfl rfl (fun w222 on223 m224 => ?_)
        have m7 := m7.only n_g3_g8 on223
        have m194 := m194.only n_g8_g187.symm on223
        have m212 := m212.only n_g8_g208.symm on223
        have ow215 := ow215.only r_v213_g8 on223
        have hl221 := OwnL.ls ow215 (fun _ => rfl) (by decide)
        have xW := Ext.only xW on223 o_g8
        refine WX.nil ⟨xW, m7, m194⟩ ?_
        refine WK.in_normal ?_
        refine WK.then_normal (k184 _ _ ?_)
        refine WC.sub [(9, _), (103, _), (104, _), (105, _)] ⟨rfl, rfl, rfl, rfl, trivial⟩ ?_
        refine WC.region rfl ?_
        refine WL.yld rfl (blt rfl) rfl (Y.add rfl rfl rfl (wrap_i64 (by first | omega | (dsimp only; omega)))) ?_
        refine WL.yld rfl (blt rfl) rfl (Y.move rfl rfl) ?_
        refine WL.nil ?_
        refine WK.roundS _ [(105, .int .i64 (((q + 1) : Nat) : Int))] ⟨rfl, rfl, rfl, rfl, trivial⟩ ?_ ⟨(q + 1), (.slice A218 n219 c220), rfl, rfl, xW, m7, m224, (by rw [take_bang (show q < l.length from by omega), List.flatMap_append, ← List.append_assoc]; exact ow215), r_v213_g3, r_v213_g8, (by omega)⟩
        show _ - (q + 1) < _ - q; omega
      refine WX.call rfl rfl (blt rfl) rfl rfl rfl has27 rfl ⟨xW, m7, m194⟩ (number_in _ _ _ _ (Bd.nds d l id at_) _ _ _ _ m12 m7 hq5 (Bd.snap_in gd (show q < l.length from by omega) (show d.length ≤ i from by omega)).2.1) ?_
      rintro _ w225 ⟨rfl, x226⟩
      refine ⟨_, rfl, ?_⟩
      have m7 := m7.ext x226
      have m12 := m12.ext x226
      have ow_vd := ow_vd.ext x226
      have hl201 := hl201.ext x226
      have m194 := m194.ext x226
      have xW := Ext.trans xW x226
      refine WX.yld rfl rfl (blt rfl) rfl (Y.build (cells := [_, _, _]) rfl pl92 rfl rfl) ?_
      refine WX.alt ?_ ?_
      ·
        refine WX.yldL rfl rfl (blt rfl) rfl ⟨xW, m7, m194⟩ (Y.load1 rfl Try.underlying83 rfl rfl (Blk.at_eq m12 rfl)) ?_
        refine WX.call rfl rfl (blt rfl) rfl rfl rfl has27 rfl ⟨xW, m7, m194⟩ (number_in _ _ _ _ (Bd.nds d l id at_) _ _ _ _ m12 m7 hq5 (Bd.snap_in gd (show q < l.length from by omega) (show d.length ≤ i from by omega)).2.2) ?_
        rintro _ w227 ⟨rfl, x228⟩
        refine ⟨_, rfl, ?_⟩
        have m7 := m7.ext x228
        have m12 := m12.ext x228
        have ow_vd := ow_vd.ext x228
        have hl201 := hl201.ext x228
        have m194 := m194.ext x228
        have xW := Ext.trans xW x228
        refine WX.yld rfl rfl (blt rfl) rfl (Y.build (cells := [_, _, _]) rfl pl92 rfl rfl) ?_
        refine WX.run rfl rfl (blt rfl) rfl ⟨xW, m7, m194⟩ (Run.bslice (zs := [.int .i64 0, .int .i64 0, .int .i64 0, .int .i64 0, .int .i64 0, .int .i64 0]) (cs := [_, _, _, _, _, _]) rfl Try.underlying83 ti92 rfl (ble rfl) (by kernel_rfl) rfl rfl) ?_
        rintro _ w230 ⟨g229, rfl, e231, x232, m233⟩
        have n_g3_g229 := ne_newMP m7 e231
        have n_g8_g229 := ne_new m12 e231
        have r_vd_g229 := ne_newO ow_vd e231
        have n_g187_g229 := ne_new m194 e231
        have o_g229 := own_new xW e231
        have m7 := m7.ext x232
        have m12 := m12.ext x232
        have ow_vd := ow_vd.ext x232
        have hl201 := hl201.ext x232
        have m194 := m194.ext x232
        have xW := Ext.trans xW x232
        refine WX.run rfl rfl (blt rfl) rfl ⟨xW, m7, m194⟩ (Run.appendB (f := Bd.Ed.c) (news := Bd.eSnap (Bd.nds d l id at_) l[q]!) rfl rfl rfl Try.underlying83 ti92 rfl (by decide) rfl ow_vd (fun _ => rfl) Bd.Ed.one m233 rfl xW.size (by have q0 := Bd.edN_len (d := d) (l := l) (id := id) (at_ := at_) (i := i) (B := 34) (by omega) gd.few; have q1 := Bd.snaps_len (n := (Bd.nds d l id at_)) (m := l.take q); have q2 := List.length_take_le q l; have q3 := (show (Bd.eSnap (Bd.nds d l id at_) l[q]!).length = 2 from rfl); first | omega | (simp only [List.length_append, List.length_cons, List.length_nil, List.length_take, List.length_drop, List.length_reverse]; omega)) (Nat.le_trans (show _ ≤ 140737488355328 from by have q0 := Bd.edN_len (d := d) (l := l) (id := id) (at_ := at_) (i := i) (B := 34) (by omega) gd.few; have q1 := Bd.snaps_len (n := (Bd.nds d l id at_)) (m := l.take q); have q2 := List.length_take_le q l; have q3 := (show (Bd.eSnap (Bd.nds d l id at_) l[q]!).length = 2 from rfl); first | omega | (simp only [List.length_append, List.length_cons, List.length_nil, List.length_take, List.length_drop, List.length_reverse]; omega)) (by decide)) ) ?_
        rintro v234 w235 ⟨ow236, gr237, nb238⟩
        have r_v234_g3 := ne_appMP nb238 r_vd_g3 m7
        have m7 := m7.grown gr237 r_vd_g3
        have r_v234_g8 := ne_app nb238 r_vd_g8 m12
        have m12 := m12.grown gr237 r_vd_g8
        have r_v234_g187 := ne_app nb238 r_vd_g187 m194
        have m194 := m194.grown gr237 r_vd_g187
        have r_v234_g229 := ne_app nb238 r_vd_g229 m233
        have m233 := m233.grown gr237 r_vd_g229
        have xW := Ext.grown xW gr237 (fun b hb => (OwnL.lt ow_vd hb).1)
        refine WX.yld rfl rfl (blt rfl) rfl (Y.nilCheck rfl rfl) ?_
        refine WX.yld rfl rfl (blt rfl) rfl (Y.fieldAddr rfl Try.underlying85 rfl ti83 (by decide) rfl) ?_
        obtain ⟨A239, n240, c241, rfl, hl242⟩ := OwnL.opened ow236 (fun _ => rfl) (by decide)
        have e_n240 := hl242.len
        try simp only [List.length_append, List.length_cons, List.length_nil, List.length_reverse, List.length_drop, List.length_take, List.length_map, List.length_replicate, List.length_set] at e_n240
        have z_n240 := hl242.nle
        refine WX.storeB (cs' := [_, _]) rfl ⟨xW, m7, m194⟩ rfl rfl rfl rfl rfl rfl ti83 m12 (ble rfl) rfl rfl (fun w243 on244 m245 => ?_)
        have m7 := m7.only n_g3_g8 on244
        have m194 := m194.only n_g8_g187.symm on244
        have m233 := m233.only n_g8_g229.symm on244
        have ow236 := ow236.only r_v234_g8 on244
        have hl242 := OwnL.ls ow236 (fun _ => rfl) (by decide)
        have xW := Ext.only xW on244 o_g8
        refine WX.nil ⟨xW, m7, m194⟩ ?_
        refine WK.in_normal ?_
        refine WK.then_normal (k184 _ _ ?_)
        refine WC.sub [(9, _), (103, _), (104, _), (105, _)] ⟨rfl, rfl, rfl, rfl, trivial⟩ ?_
        refine WC.region rfl ?_
        refine WL.yld rfl (blt rfl) rfl (Y.add rfl rfl rfl (wrap_i64 (by first | omega | (dsimp only; omega)))) ?_
        refine WL.yld rfl (blt rfl) rfl (Y.move rfl rfl) ?_
        refine WL.nil ?_
        refine WK.roundS _ [(105, .int .i64 (((q + 1) : Nat) : Int))] ⟨rfl, rfl, rfl, rfl, trivial⟩ ?_ ⟨(q + 1), (.slice A239 n240 c241), rfl, rfl, xW, m7, m245, (by rw [take_bang (show q < l.length from by omega), List.flatMap_append, ← List.append_assoc]; exact ow236), r_v234_g3, r_v234_g8, (by omega)⟩
        show _ - (q + 1) < _ - q; omega
      refine WX.call rfl rfl (blt rfl) rfl rfl rfl has27 rfl ⟨xW, m7, m194⟩ (number_in _ _ _ _ (Bd.nds d l id at_) _ _ _ _ m12 m7 hq5 (Bd.snap_in gd (show q < l.length from by omega) (show d.length ≤ i from by omega)).2.2) ?_
      rintro _ w246 ⟨rfl, x247⟩
      refine ⟨_, rfl, ?_⟩
      have m7 := m7.ext x247
      have m12 := m12.ext x247
      have ow_vd := ow_vd.ext x247
      have hl201 := hl201.ext x247
      have m194 := m194.ext x247
      have xW := Ext.trans xW x247
      refine WX.yld rfl rfl (blt rfl) rfl (Y.build (cells := [_, _, _]) rfl pl92 rfl rfl) ?_
      refine WX.alt ?_ ?_
      ·
        refine WX.yldL rfl rfl (blt rfl) rfl ⟨xW, m7, m194⟩ (Y.load1 rfl Try.underlying83 rfl rfl (Blk.at_eq m12 rfl)) ?_
        refine WX.run rfl rfl (blt rfl) rfl ⟨xW, m7, m194⟩ (Run.bslice (zs := [.int .i64 0, .int .i64 0, .int .i64 0, .int .i64 0, .int .i64 0, .int .i64 0]) (cs := [_, _, _, _, _, _]) rfl Try.underlying83 ti92 rfl (ble rfl) (by kernel_rfl) rfl rfl) ?_
        rintro _ w249 ⟨g248, rfl, e250, x251, m252⟩
        have n_g3_g248 := ne_newMP m7 e250
        have n_g8_g248 := ne_new m12 e250
        have r_vd_g248 := ne_newO ow_vd e250
        have n_g187_g248 := ne_new m194 e250
        have o_g248 := own_new xW e250
        have m7 := m7.ext x251
        have m12 := m12.ext x251
        have ow_vd := ow_vd.ext x251
        have hl201 := hl201.ext x251
        have m194 := m194.ext x251
        have xW := Ext.trans xW x251
        refine WX.run rfl rfl (blt rfl) rfl ⟨xW, m7, m194⟩ (Run.appendB (f := Bd.Ed.c) (news := Bd.eSnap (Bd.nds d l id at_) l[q]!) rfl rfl rfl Try.underlying83 ti92 rfl (by decide) rfl ow_vd (fun _ => rfl) Bd.Ed.one m252 rfl xW.size (by have q0 := Bd.edN_len (d := d) (l := l) (id := id) (at_ := at_) (i := i) (B := 34) (by omega) gd.few; have q1 := Bd.snaps_len (n := (Bd.nds d l id at_)) (m := l.take q); have q2 := List.length_take_le q l; have q3 := (show (Bd.eSnap (Bd.nds d l id at_) l[q]!).length = 2 from rfl); first | omega | (simp only [List.length_append, List.length_cons, List.length_nil, List.length_take, List.length_drop, List.length_reverse]; omega)) (Nat.le_trans (show _ ≤ 140737488355328 from by have q0 := Bd.edN_len (d := d) (l := l) (id := id) (at_ := at_) (i := i) (B := 34) (by omega) gd.few; have q1 := Bd.snaps_len (n := (Bd.nds d l id at_)) (m := l.take q); have q2 := List.length_take_le q l; have q3 := (show (Bd.eSnap (Bd.nds d l id at_) l[q]!).length = 2 from rfl); first | omega | (simp only [List.length_append, List.length_cons, List.length_nil, List.length_take, List.length_drop, List.length_reverse]; omega)) (by decide)) ) ?_
        rintro v253 w254 ⟨ow255, gr256, nb257⟩
        have r_v253_g3 := ne_appMP nb257 r_vd_g3 m7
        have m7 := m7.grown gr256 r_vd_g3
        have r_v253_g8 := ne_app nb257 r_vd_g8 m12
        have m12 := m12.grown gr256 r_vd_g8
        have r_v253_g187 := ne_app nb257 r_vd_g187 m194
        have m194 := m194.grown gr256 r_vd_g187
        have r_v253_g248 := ne_app nb257 r_vd_g248 m252
        have m252 := m252.grown gr256 r_vd_g248
        have xW := Ext.grown xW gr256 (fun b hb => (OwnL.lt ow_vd hb).1)
        refine WX.yld rfl rfl (blt rfl) rfl (Y.nilCheck rfl rfl) ?_
        refine WX.yld rfl rfl (blt rfl) rfl (Y.fieldAddr rfl Try.underlying85 rfl ti83 (by decide) rfl) ?_
        obtain ⟨A258, n259, c260, rfl, hl261⟩ := OwnL.opened ow255 (fun _ => rfl) (by decide)
        have e_n259 := hl261.len
        try simp only [List.length_append, List.length_cons, List.length_nil, List.length_reverse, List.length_drop, List.length_take, List.length_map, List.length_replicate, List.length_set] at e_n259
        have z_n259 := hl261.nle
        refine WX.storeB (cs' := [_, _]) rfl ⟨xW, m7, m194⟩ rfl rfl rfl rfl rfl rfl ti83 m12 (ble rfl) rfl rfl (fun w262 on263 m264 => ?_)
        have m7 := m7.only n_g3_g8 on263
        have m194 := m194.only n_g8_g187.symm on263
        have m252 := m252.only n_g8_g248.symm on263
        have ow255 := ow255.only r_v253_g8 on263
        have hl261 := OwnL.ls ow255 (fun _ => rfl) (by decide)
        have xW := Ext.only xW on263 o_g8
        refine WX.nil ⟨xW, m7, m194⟩ ?_
        refine WK.in_normal ?_
        refine WK.then_normal (k184 _ _ ?_)
        refine WC.sub [(9, _), (103, _), (104, _), (105, _)] ⟨rfl, rfl, rfl, rfl, trivial⟩ ?_
        refine WC.region rfl ?_
        refine WL.yld rfl (blt rfl) rfl (Y.add rfl rfl rfl (wrap_i64 (by first | omega | (dsimp only; omega)))) ?_
        refine WL.yld rfl (blt rfl) rfl (Y.move rfl rfl) ?_
        refine WL.nil ?_
        refine WK.roundS _ [(105, .int .i64 (((q + 1) : Nat) : Int))] ⟨rfl, rfl, rfl, rfl, trivial⟩ ?_ ⟨(q + 1), (.slice A258 n259 c260), rfl, rfl, xW, m7, m264, (by rw [take_bang (show q < l.length from by omega), List.flatMap_append, ← List.append_assoc]; exact ow255), r_v253_g3, r_v253_g8, (by omega)⟩
        show _ - (q + 1) < _ - q; omega
      refine WX.run rfl rfl (blt rfl) rfl ⟨xW, m7, m194⟩ (Run.bslice (zs := [.int .i64 0, .int .i64 0, .int .i64 0, .int .i64 0, .int .i64 0, .int .i64 0]) (cs := [_, _, _, _, _, _]) rfl Try.underlying83 ti92 rfl (ble rfl) (by kernel_rfl) rfl rfl) ?_
      rintro _ w266 ⟨g265, rfl, e267, x268, m269⟩
      have n_g3_g265 := ne_newMP m7 e267
      have n_g8_g265 := ne_new m12 e267
      have r_vd_g265 := ne_newO ow_vd e267
      have n_g187_g265 := ne_new m194 e267
      have o_g265 := own_new xW e267
      have m7 := m7.ext x268
      have m12 := m12.ext x268
      have ow_vd := ow_vd.ext x268
      have hl201 := hl201.ext x268
      have m194 := m194.ext x268
      have xW := Ext.trans xW x268
      refine WX.yldL rfl rfl (blt rfl) rfl ⟨xW, m7, m194⟩ (Y.load1 rfl Try.underlying83 rfl rfl (Blk.at_eq m12 rfl)) ?_
      refine WX.run rfl rfl (blt rfl) rfl ⟨xW, m7, m194⟩ (Run.appendB (f := Bd.Ed.c) (news := Bd.eSnap (Bd.nds d l id at_) l[q]!) rfl rfl rfl Try.underlying83 ti92 rfl (by decide) rfl ow_vd (fun _ => rfl) Bd.Ed.one m269 rfl xW.size (by have q0 := Bd.edN_len (d := d) (l := l) (id := id) (at_ := at_) (i := i) (B := 34) (by omega) gd.few; have q1 := Bd.snaps_len (n := (Bd.nds d l id at_)) (m := l.take q); have q2 := List.length_take_le q l; have q3 := (show (Bd.eSnap (Bd.nds d l id at_) l[q]!).length = 2 from rfl); first | omega | (simp only [List.length_append, List.length_cons, List.length_nil, List.length_take, List.length_drop, List.length_reverse]; omega)) (Nat.le_trans (show _ ≤ 140737488355328 from by have q0 := Bd.edN_len (d := d) (l := l) (id := id) (at_ := at_) (i := i) (B := 34) (by omega) gd.few; have q1 := Bd.snaps_len (n := (Bd.nds d l id at_)) (m := l.take q); have q2 := List.length_take_le q l; have q3 := (show (Bd.eSnap (Bd.nds d l id at_) l[q]!).length = 2 from rfl); first | omega | (simp only [List.length_append, List.length_cons, List.length_nil, List.length_take, List.length_drop, List.length_reverse]; omega)) (by decide)) ) ?_
      rintro v270 w271 ⟨ow272, gr273, nb274⟩
      have r_v270_g3 := ne_appMP nb274 r_vd_g3 m7
      have m7 := m7.grown gr273 r_vd_g3
      have r_v270_g8 := ne_app nb274 r_vd_g8 m12
      have m12 := m12.grown gr273 r_vd_g8
      have r_v270_g187 := ne_app nb274 r_vd_g187 m194
      have m194 := m194.grown gr273 r_vd_g187
      have r_v270_g265 := ne_app nb274 r_vd_g265 m269
      have m269 := m269.grown gr273 r_vd_g265
      have xW := Ext.grown xW gr273 (fun b hb => (OwnL.lt ow_vd hb).1)
      refine WX.yld rfl rfl (blt rfl) rfl (Y.nilCheck rfl rfl) ?_
      refine WX.yld rfl rfl (blt rfl) rfl (Y.fieldAddr rfl Try.underlying85 rfl ti83 (by decide) rfl) ?_
      obtain ⟨A275, n276, c277, rfl, hl278⟩ := OwnL.opened ow272 (fun _ => rfl) (by decide)
      have e_n276 := hl278.len
      try simp only [List.length_append, List.length_cons, List.length_nil, List.length_reverse, List.length_drop, List.length_take, List.length_map, List.length_replicate, List.length_set] at e_n276
      have z_n276 := hl278.nle
      refine WX.storeB (cs' := [_, _]) rfl ⟨xW, m7, m194⟩ rfl rfl rfl rfl rfl rfl ti83 m12 (ble rfl) rfl rfl (fun w279 on280 m281 => ?_)
      have m7 := m7.only n_g3_g8 on280
      have m194 := m194.only n_g8_g187.symm on280
      have m269 := m269.only n_g8_g265.symm on280
      have ow272 := ow272.only r_v270_g8 on280
      have hl278 := OwnL.ls ow272 (fun _ => rfl) (by decide)
      have xW := Ext.only xW on280 o_g8
      refine WX.nil ⟨xW, m7, m194⟩ ?_
      refine WK.in_normal ?_
      refine WK.then_normal (k184 _ _ ?_)
      refine WC.sub [(9, _), (103, _), (104, _), (105, _)] ⟨rfl, rfl, rfl, rfl, trivial⟩ ?_
      refine WC.region rfl ?_
      refine WL.yld rfl (blt rfl) rfl (Y.add rfl rfl rfl (wrap_i64 (by first | omega | (dsimp only; omega)))) ?_
      refine WL.yld rfl (blt rfl) rfl (Y.move rfl rfl) ?_
      refine WL.nil ?_
      refine WK.roundS _ [(105, .int .i64 (((q + 1) : Nat) : Int))] ⟨rfl, rfl, rfl, rfl, trivial⟩ ?_ ⟨(q + 1), (.slice A275 n276 c277), rfl, rfl, xW, m7, m281, (by rw [take_bang (show q < l.length from by omega), List.flatMap_append, ← List.append_assoc]; exact ow272), r_v270_g3, r_v270_g8, (by omega)⟩
      show _ - (q + 1) < _ - q; omega
    ·
      have p183 := (dec_f h183)
      refine WC.exit ?_
      refine WK.then_exit ?_
      refine WK.then_exit ?_
      refine WK.in_exit ?_
      refine WK.then_normal (k178 _ _ ?_)
      refine WC.sub [(9, _)] ⟨rfl, trivial⟩ ?_
      refine WC.seq (fun K282 k282 => ?_)
      refine WC.region rfl ?_
      refine WL.yld rfl (blt rfl) rfl (Y.move rfl rfl) ?_
      refine WL.yld rfl (blt rfl) rfl (Y.assign rfl rfl) ?_
      refine WL.nil ?_
      refine WK.then_normal (k282 _ _ ?_)
      refine WC.sub [(8, _)] ⟨rfl, trivial⟩ ?_
      refine WC.ret ?_
      clear k1 k2 k13 k14 k16 k17 k178 k179 k181 k182 k282
      refine WK.ret [_] rfl ⟨rfl, trivial⟩ ?_
      rw [Bd.ndsN_all (show d.length ≤ i from by omega)] at m7
      have ee : Bd.edN d l id at_ i = d.flatMap (Bd.eDom (Bd.nds d l id at_) l id at_) := by unfold Bd.edN; rw [List.take_of_length_le (by omega)]
      rw [List.take_of_length_le (show l.length ≤ q from by omega), ee] at ow_vd
      exact ⟨g8, g3, _, rfl, m12, m7, ow_vd, o_g8, o_g3, n_g3_g8, r_vd_g8, r_vd_g3, xW⟩
end B
end BdW

end Go.Proofs.Ytaglpampidlbmaa
