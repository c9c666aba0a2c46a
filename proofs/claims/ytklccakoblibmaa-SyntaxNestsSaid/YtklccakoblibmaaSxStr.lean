/- Contracts: the reference of steps. Conditions: what each theorem states. -/
import Derived.Test.YtklccakoblibmaaSxStq
namespace Go.Proofs.Ytklccakoblibmaa
open Go Go.Eng Go.RowKit
set_option linter.unusedVariables false
set_option linter.unusedSimpArgs false
namespace SxW
open B C D E G S
namespace T
theorem ti3 : TI Try.prog 3 (.int .i64 0) 1 8 := TI.mk (by kernel_rfl)
theorem ti9 : TI Try.prog 9 (.string ⟨#[]⟩) 1 16 := TI.mk (by kernel_rfl)
theorem ti28 : TI Try.prog 28 (.agg #[.int .i64 0, .string ⟨#[]⟩, .int .i64 0, .int .i64 0, .string ⟨#[]⟩, .slice none 0 0]) 6 80 := TI.mk (by kernel_rfl)
theorem ti34 : TI Try.prog 34 (.slice none 0 0) 1 24 := TI.mk (by kernel_rfl)
theorem ti36 : TI Try.prog 36 (.int .i64 0) 1 8 := TI.mk (by kernel_rfl)
theorem ti37 : TI Try.prog 37 (.slice none 0 0) 1 24 := TI.mk (by kernel_rfl)
theorem ti38 : TI Try.prog 38 (.slice none 0 0) 1 24 := TI.mk (by kernel_rfl)
theorem ti39 : TI Try.prog 39 (.slice none 0 0) 1 24 := TI.mk (by kernel_rfl)
theorem ti41 : TI Try.prog 41 (.agg #[.int .i64 0, .int .i64 0, .string ⟨#[]⟩, .int .i64 0, .int .i64 0, .string ⟨#[]⟩, .slice none 0 0, .slice none 0 0, .slice none 0 0, .slice none 0 0, .slice none 0 0, .int .i64 0, .string ⟨#[]⟩]) 13 208 := TI.mk (by kernel_rfl)
theorem ti55 : TI Try.prog 55 (.agg #[.string ⟨#[]⟩, .string ⟨#[]⟩, .string ⟨#[]⟩]) 3 48 := TI.mk (by kernel_rfl)
theorem has12 : Has Try.prog 12 := ⟨_, Try.func12, rfl, by kernel_rfl⟩
theorem has41 : Has Try.prog 41 := ⟨_, Try.func41, rfl, by kernel_rfl⟩
theorem has42 : Has Try.prog 42 := ⟨_, Try.func42, rfl, by kernel_rfl⟩
theorem has43 : Has Try.prog 43 := ⟨_, Try.func43, rfl, by kernel_rfl⟩
theorem has44 : Has Try.prog 44 := ⟨_, Try.func44, rfl, by kernel_rfl⟩
theorem has45 : Has Try.prog 45 := ⟨_, Try.func45, rfl, by kernel_rfl⟩
theorem has46 : Has Try.prog 46 := ⟨_, Try.func46, rfl, by kernel_rfl⟩
theorem has47 : Has Try.prog 47 := ⟨_, Try.func47, rfl, by kernel_rfl⟩
theorem groups_any (d_s : Nat) (s : Sx.St) (w : World) (g_s : Sx.GoodS d_s w s) (f_s : Sx.FewS s) :
    Calls Try.prog 45 #[.agg #[.int .i64 s.op, .int .i64 s.cd.op, .string s.cd.nm, .int .i64 s.cd.vk, .int .i64 s.cd.vn, .string s.cd.vs, .slice s.cd.A s.cd.n s.cd.c, .slice s.iA s.iN s.iC, .slice s.cA s.cN s.cC, .slice s.aA s.aN s.aC, .slice s.sA s.sN s.sC, .int .i64 s.N, .string s.tb]] w fun e w' => e = .returned (.int .i64 (Sx.gxE s s.al.length)) ∧ Ext w w' := by
  have xW := Ext.refl w
  have e_il := g_s.il.len
  have e_cl := g_s.cl.len
  have e_al := g_s.al.len
  have e_sl := g_s.sl.len
  have b_il := f_s.il
  have b_cl := f_s.cl
  have b_al := f_s.al
  have b_sl := f_s.sl
  refine calls_of_WC (args := [.agg #[.int .i64 s.op, .int .i64 s.cd.op, .string s.cd.nm, .int .i64 s.cd.vk, .int .i64 s.cd.vn, .string s.cd.vs, .slice s.cd.A s.cd.n s.cd.c, .slice s.iA s.iN s.iC, .slice s.cA s.cN s.cC, .slice s.aA s.aN s.aC, .slice s.sA s.sN s.sC, .int .i64 s.N, .string s.tb]]) Try.func45 rfl rfl (ble rfl) ?_
  refine WC.seq (fun K1 k1 => ?_)
  refine WC.region rfl ?_
  refine WL.box rfl (blt rfl) rfl rfl rfl rfl ?_
  intro g2 w3 e4 x5 m6
  have o_g2 := own_new xW e4
  have xW := Ext.trans xW x5
  refine WL.yld rfl (blt rfl) rfl (Y.assign rfl rfl) ?_
  refine WL.nil ?_
  refine WK.then_normal (k1 _ _ ?_)
  refine WC.sub [(1, _)] ⟨rfl, trivial⟩ ?_
  refine WC.seq (fun K7 k7 => ?_)
  refine WC.region rfl ?_
  refine WL.yld rfl (blt rfl) rfl (Y.fieldAddr rfl Try.underlying41 rfl ti34 (by decide) rfl) ?_
  refine WL.yld rfl (blt rfl) rfl (Y.load1 rfl Try.underlying34 rfl rfl (Blk.at_eq m6 rfl)) ?_
  refine WL.call rfl (blt rfl) rfl rfl rfl has46 rfl (names_any _ _ _ _ _ (g_s.cl.ext xW) f_s.cs) ?_
  rintro _ w8 ⟨rfl, x9⟩
  refine ⟨_, rfl, ?_⟩
  have m6 := m6.ext x9
  have xW := Ext.trans xW x9
  refine WL.yld rfl (blt rfl) rfl (Y.assign rfl rfl) ?_
  refine WL.nil ?_
  refine WK.then_normal (k7 _ _ ?_)
  refine WC.sub [(1, _), (3, _)] ⟨rfl, rfl, trivial⟩ ?_
  refine WC.seq (fun K10 k10 => ?_)
  refine WC.region rfl ?_
  refine WL.bslice0 rfl (blt rfl) rfl rfl Try.underlying34 ti9 ?_
  intro g11 w12 e13 x14 m15
  have n_g2_g11 := ne_new m6 e13
  have o_g11 := own_new xW e13
  have m6 := m6.ext x14
  have xW := Ext.trans xW x14
  refine WL.yld rfl (blt rfl) rfl (Y.fieldAddr rfl Try.underlying41 rfl ti34 (by decide) rfl) ?_
  refine WL.yld rfl (blt rfl) rfl (Y.load1 rfl Try.underlying34 rfl rfl (Blk.at_eq m6 rfl)) ?_
  have ob16 := Blk.own (sz := 1) (f := Sx.sc) (l := ([] : List ByteArray)) (base := w.heap.size) m15 o_g11 (fun _ => rfl) rfl (by decide) rfl
  refine WL.appendL (f := Sx.sc) rfl (blt rfl) rfl rfl rfl rfl Try.underlying34 ti9 rfl (by decide) rfl ob16 (fun _ => rfl) Sx.sc_one (g_s.cl.ext xW) xW.size (by first | omega | (simp only [List.length_append, List.length_cons, List.length_nil, List.length_take, List.length_drop, List.length_reverse]; omega)) (Nat.le_trans (show _ ≤ 140737488355328 from by first | omega | (simp only [List.length_append, List.length_cons, List.length_nil, List.length_take, List.length_drop, List.length_reverse]; omega)) (by decide)) (fun v17 w18 ow19 gr20 nb21 => ?_)
  have r_v17_g2 := ne_app nb21 (ne_blk n_g2_g11) m6
  have m6 := m6.grown gr20 (ne_blk n_g2_g11)
  have xW := Ext.grown xW gr20 (fun b hb => (OwnL.lt ob16 hb).1)
  refine WL.yld rfl (blt rfl) rfl (Y.assign rfl rfl) ?_
  refine WL.nil ?_
  refine WK.then_normal (k10 _ _ ?_)
  refine WC.sub [(1, _), (3, _), (4, _)] ⟨rfl, rfl, rfl, trivial⟩ ?_
  refine WC.seq (fun K22 k22 => ?_)
  refine WC.seq (fun K23 k23 => ?_)
  refine WC.region rfl ?_
  refine WL.yld rfl (blt rfl) rfl (Y.assign rfl rfl) ?_
  refine WL.nil ?_
  refine WK.then_normal (k23 _ _ ?_)
  refine WC.block ?_
  refine WC.sub [(5, _), (3, _), (4, _), (1, _)] ⟨rfl, rfl, rfl, rfl, trivial⟩ ?_
  refine WC.loopS 3 (fun mz Ed W' => ∃ i : Nat, ∃ z : Int, ∃ v : Value, mz = s.aN - i ∧ Ed = [(5, .int .i64 ((i : Nat) : Int)), (3, .int .i64 z), (4, v)] ∧ Ext w W' ∧ Blk W' g2 41 _ ∧ OwnL W' w.heap.size 9 Sx.sc 1 v (s.cl ++ (s.al.take i).map Sx.Ag.as_) ∧ v.ownBlock ≠ some g2 ∧ (i ≤ s.aN) ∧ (z = Sx.gxE s i) ∧ (z = 0 → Sx.allE [] (s.cl ++ (s.al.take i).map Sx.Ag.as_) = 0)) _ ⟨0, _, _, rfl, rfl, xW, m6, (by have q := ow19; rw [List.nil_append] at q; rw [List.take_zero, List.map_nil, List.append_nil]; exact q), r_v17_g2, (Nat.zero_le _), (Sx.gx_zero s), (fun z => by rw [List.take_zero, List.map_nil, List.append_nil]; exact z)⟩ ?_
  rintro _ _ w24 ⟨i, z, v, rfl, rfl, xW, m6, ow_v, r_v_g2, le_i, zi, az⟩
  refine WC.sub [(5, _), (3, _), (4, _), (1, _)] ⟨rfl, rfl, rfl, rfl, trivial⟩ ?_
  have tk := Sx.map_len (f := Sx.Ag.as_) (l := s.al) (i := i) (by omega)
  refine WC.seq (fun K25 k25 => ?_)
  refine WC.seq (fun K26 k26 => ?_)
  refine WC.region rfl ?_
  refine WL.yld rfl (blt rfl) rfl (Y.move rfl rfl) ?_
  refine WL.yld rfl (blt rfl) rfl (Y.fieldAddr rfl Try.underlying41 rfl ti38 (by decide) rfl) ?_
  refine WL.yld rfl (blt rfl) rfl (Y.load1 rfl Try.underlying38 rfl rfl (Blk.at_eq m6 rfl)) ?_
  refine WL.yld rfl (blt rfl) rfl (Y.lenSl rfl rfl rfl Try.underlying38 rfl) ?_
  refine WL.yld rfl (blt rfl) rfl (Y.lss rfl rfl rfl) ?_
  refine WL.yld rfl (blt rfl) rfl (Y.move rfl rfl) ?_
  refine WL.yldG rfl (blt rfl) rfl rfl rfl (fun hb => Y.move rfl rfl) ?_
  refine WL.yldG rfl (blt rfl) rfl rfl rfl (fun hb => Y.eql rfl (evg rfl hb) rfl) ?_
  refine WL.yld rfl (blt rfl) rfl (Y.and rfl rfl rfl rfl) ?_
  refine WL.nil ?_
  refine WK.then_normal (k26 _ _ ?_)
  refine WC.sub [(1, _), (3, _), (4, _), (5, _), (23, _)] ⟨rfl, rfl, rfl, rfl, rfl, trivial⟩ ?_
  refine WC.cond rfl (fun h27 => ?_) (fun h27 => ?_)
  ·
    have p27 := (And.intro (dec_t (and_t h27).1) (eq_t (and_t h27).2))
    have hb : i < s.aN ∧ z = 0 := by have q := h27; simp only [Bool.and_eq_true, Bool.or_eq_true, Bool.not_eq_true', Bool.and_eq_false_iff, Bool.or_eq_false_iff, Bool.not_eq_false', decide_eq_true_eq, decide_eq_false_iff_not, beq_iff_eq, beq_eq_false_iff_ne, ne_eq] at q; omega
    have hz0 : Sx.gxE s i = 0 := by rw [← zi]; exact hb.2
    have az0 := az hb.2
    have fa := f_s.as_ _ (bang_mem (show i < s.al.length from by omega))
    refine WC.skip ?_
    refine WK.then_normal (k25 _ _ ?_)
    refine WC.sub [(1, _), (4, _), (5, _)] ⟨rfl, rfl, rfl, trivial⟩ ?_
    refine WC.seq (fun K28 k28 => ?_)
    refine WC.block ?_
    refine WC.seq (fun K29 k29 => ?_)
    refine WC.region rfl ?_
    refine WL.yld rfl (blt rfl) rfl (Y.fieldAddr rfl Try.underlying41 rfl ti38 (by decide) rfl) ?_
    refine WL.yld rfl (blt rfl) rfl (Y.load1 rfl Try.underlying38 rfl rfl (Blk.at_eq m6 rfl)) ?_
    refine WL.yld rfl (blt rfl) rfl (Y.move rfl rfl) ?_
    have b30 : i < s.aN := by omega
    refine WL.yld rfl (blt rfl) rfl (Y.indexLs i (g_s.al.ext xW) rfl Try.underlying38 ti55 rfl rfl rfl b30) ?_
    refine WL.yld rfl (blt rfl) rfl (Y.loadS (cs := [_, _, _]) rfl Try.underlying55 rfl ti55 rfl (Ls.part_eq (g_s.al.ext xW) b30 rfl)) ?_
    refine WL.alloc rfl (blt rfl) rfl rfl ti55 rfl ?_
    intro g31 w32 e33 x34 m35
    have n_g2_g31 := ne_new m6 e33
    have r_v_g31 := ne_newO ow_v e33
    have o_g31 := own_new xW e33
    have m6 := m6.ext x34
    have ow_v := ow_v.ext x34
    have xW := Ext.trans xW x34
    refine WL.store (cs' := [_, _, _]) rfl rfl rfl rfl rfl rfl ti55 m35 (ble rfl) rfl rfl (fun w36 on37 m38 => ?_)
    have m6 := m6.only n_g2_g31 on37
    have ow_v := ow_v.only r_v_g31 on37
    have xW := Ext.only xW on37 o_g31
    refine WL.nil ?_
    refine WK.then_normal (k29 _ _ ?_)
    refine WC.sub [(1, _), (4, _), (5, _), (6, _)] ⟨rfl, rfl, rfl, rfl, trivial⟩ ?_
    refine WC.seq (fun K39 k39 => ?_)
    refine WC.region rfl ?_
    refine WL.yld rfl (blt rfl) rfl (Y.fieldAddr rfl Try.underlying55 rfl ti9 (by decide) rfl) ?_
    refine WL.yld rfl (blt rfl) rfl (Y.load1 rfl Try.underlying9 rfl rfl (Blk.at_eq m38 rfl)) ?_
    refine WL.yld rfl (blt rfl) rfl (Y.eqlStr rfl rfl rfl) ?_
    refine WL.yld rfl (blt rfl) rfl (Y.move rfl rfl) ?_
    refine WL.yldG rfl (blt rfl) rfl rfl rfl (fun hb => Y.fieldAddr rfl Try.underlying55 rfl ti9 (by decide) rfl) ?_
    refine WL.yldG rfl (blt rfl) rfl rfl rfl (fun hb => Y.load1 rfl Try.underlying9 rfl (evg rfl hb) (Blk.at_eq m38 rfl)) ?_
    refine WL.yldG rfl (blt rfl) rfl rfl rfl (fun hb => Y.eqlStr rfl (evg rfl hb) rfl) ?_
    refine WL.yld rfl (blt rfl) rfl (Y.or rfl rfl rfl rfl) ?_
    refine WL.yld rfl (blt rfl) rfl (Y.move rfl rfl) ?_
    refine WL.yldG rfl (blt rfl) rfl rfl rfl (fun hb => Y.fieldAddr rfl Try.underlying55 rfl ti9 (by decide) rfl) ?_
    refine WL.yldG rfl (blt rfl) rfl rfl rfl (fun hb => Y.load1 rfl Try.underlying9 rfl (evg rfl hb) (Blk.at_eq m38 rfl)) ?_
    refine WL.yldG rfl (blt rfl) rfl rfl rfl (fun hb => Y.eqlStr rfl (evg rfl hb) rfl) ?_
    refine WL.yld rfl (blt rfl) rfl (Y.or rfl rfl rfl rfl) ?_
    refine WL.yld rfl (blt rfl) rfl (Y.move rfl rfl) ?_
    refine WL.yldG rfl (blt rfl) rfl rfl rfl (fun hb => Y.fieldAddr rfl Try.underlying55 rfl ti9 (by decide) rfl) ?_
    refine WL.yldG rfl (blt rfl) rfl rfl rfl (fun hb => Y.load1 rfl Try.underlying9 rfl (evg rfl hb) (Blk.at_eq m38 rfl)) ?_
    refine WL.yldG rfl (blt rfl) rfl rfl rfl (fun hb => Y.eqlStr rfl (evg rfl hb) rfl) ?_
    refine WL.yld rfl (blt rfl) rfl (Y.or rfl rfl rfl rfl) ?_
    refine WL.yld rfl (blt rfl) rfl (Y.assign rfl rfl) ?_
    refine WL.nil ?_
    refine WK.then_normal (k39 _ _ ?_)
    refine WC.sub [(1, _), (4, _), (5, _), (6, _), (7, _)] ⟨rfl, rfl, rfl, rfl, rfl, trivial⟩ ?_
    refine WC.seq (fun K40 k40 => ?_)
    refine WC.seq (fun K41 k41 => ?_)
    refine WC.region rfl ?_
    refine WL.yld rfl (blt rfl) rfl (Y.fieldAddr rfl Try.underlying55 rfl ti9 (by decide) rfl) ?_
    refine WL.yld rfl (blt rfl) rfl (Y.load1 rfl Try.underlying9 rfl rfl (Blk.at_eq m38 rfl)) ?_
    refine WL.yld rfl (blt rfl) rfl (Y.neqStr rfl rfl rfl) ?_
    refine WL.yld rfl (blt rfl) rfl (Y.move rfl rfl) ?_
    refine WL.yldG rfl (blt rfl) rfl rfl rfl (fun hb => Y.fieldAddr rfl Try.underlying55 rfl ti9 (by decide) rfl) ?_
    refine WL.yldG rfl (blt rfl) rfl rfl rfl (fun hb => Y.load1 rfl Try.underlying9 rfl (evg rfl hb) (Blk.at_eq m38 rfl)) ?_
    refine WL.yldG rfl (blt rfl) rfl rfl rfl (fun hb => Y.neqStr rfl (evg rfl hb) rfl) ?_
    refine WL.yld rfl (blt rfl) rfl (Y.or rfl rfl rfl rfl) ?_
    refine WL.yld rfl (blt rfl) rfl (Y.move rfl rfl) ?_
    refine WL.yldG rfl (blt rfl) rfl rfl rfl (fun hb => Y.move rfl rfl) ?_
    refine WL.yldG rfl (blt rfl) rfl rfl rfl (fun hb => Y.not rfl (evg rfl hb)) ?_
    refine WL.yldG rfl (blt rfl) rfl rfl rfl (fun hb => Y.move rfl (evg rfl hb)) ?_
    refine WL.yldGs [(_, _)] rfl (blt rfl) rfl rfl rfl (fun hb => Y.fieldAddr rfl Try.underlying55 rfl ti9 (by decide) rfl) ?_
    refine WL.yldGs [(_, _)] rfl (blt rfl) rfl rfl rfl (fun hb => Y.load1 rfl Try.underlying9 rfl (evg (evg rfl hb.1) hb.2.1) (Blk.at_eq m38 rfl)) ?_
    refine WL.yldGs [(_, _)] rfl (blt rfl) rfl rfl rfl (fun hb => Y.eqlStr rfl (evg (evg rfl hb.1) hb.2.1) rfl) ?_
    refine WL.yldG rfl (blt rfl) rfl rfl rfl (fun hb => Y.or rfl (evg rfl hb) rfl (evg rfl hb)) ?_
    refine WL.yld rfl (blt rfl) rfl (Y.and rfl rfl rfl rfl) ?_
    refine WL.nil ?_
    refine WK.then_normal (k41 _ _ ?_)
    refine WC.sub [(1, _), (4, _), (5, _), (6, _), (65, _)] ⟨rfl, rfl, rfl, rfl, rfl, trivial⟩ ?_
    refine WC.cond rfl (fun h42 => ?_) (fun h42 => ?_)
    ·
      refine WC.seq (fun K43 k43 => ?_)
      refine WC.region rfl ?_
      refine WL.yld rfl (blt rfl) rfl (Y.assign rfl rfl) ?_
      refine WL.nil ?_
      refine WK.then_normal (k43 _ _ ?_)
      refine WC.sub [(2, _)] ⟨rfl, trivial⟩ ?_
      refine WC.ret ?_
      refine WK.then_ret ?_
      refine WK.in_ret ?_
      refine WK.then_ret ?_
      refine WK.then_ret ?_
      refine WK.in_ret ?_
      refine WK.then_ret ?_
      clear k1 k7 k10 k22 k23 k25 k26 k28 k29 k39 k40 k41 k43
      refine WK.ret [_] rfl ⟨rfl, trivial⟩ ?_
      exact ⟨ret1 (vi (Sx.gx_hit hz0 (show i < s.al.length from by omega) (Sx.agg_5 (Sx.bad_r Sx.known_r h42)) (by decide)).symm), xW⟩
    ·
      have zb : Sx.badA s.al[i]! = false := Sx.bad_r Sx.known_r h42
      refine WC.skip ?_
      refine WK.then_normal (k40 _ _ ?_)
      refine WC.sub [(1, _), (4, _), (5, _), (6, _)] ⟨rfl, rfl, rfl, rfl, trivial⟩ ?_
      refine WC.seq (fun K44 k44 => ?_)
      refine WC.seq (fun K45 k45 => ?_)
      refine WC.region rfl ?_
      refine WL.yld rfl (blt rfl) rfl (Y.fieldAddr rfl Try.underlying55 rfl ti9 (by decide) rfl) ?_
      refine WL.yld rfl (blt rfl) rfl (Y.load1 rfl Try.underlying9 rfl rfl (Blk.at_eq m38 rfl)) ?_
      refine WL.yld rfl (blt rfl) rfl (Y.neqStr rfl rfl rfl) ?_
      refine WL.yld rfl (blt rfl) rfl (Y.move rfl rfl) ?_
      refine WL.yldG rfl (blt rfl) rfl rfl rfl (fun hb => Y.fieldAddr rfl Try.underlying55 rfl ti9 (by decide) rfl) ?_
      refine WL.yldG rfl (blt rfl) rfl rfl rfl (fun hb => Y.load1 rfl Try.underlying9 rfl (evg rfl hb) (Blk.at_eq m38 rfl)) ?_
      refine WL.callG rfl (blt rfl) rfl rfl rfl rfl rfl has42 (fun hb => (evs_cons (evg rfl hb) evs_nil)) (fun hb => rident_any _ _ (by omega)) (fun w46 x47 => ?_)
      have m6 := m6.ext x47
      have ow_v := ow_v.ext x47
      have m38 := m38.ext x47
      have xW := Ext.trans xW x47
      refine WL.yldG rfl (blt rfl) rfl rfl rfl (fun hb => Y.not rfl (evg rfl hb)) ?_
      refine WL.yld rfl (blt rfl) rfl (Y.and rfl rfl rfl rfl) ?_
      refine WL.nil ?_
      refine WK.then_normal (k45 _ _ ?_)
      refine WC.sub [(1, _), (4, _), (5, _), (6, _), (74, _)] ⟨rfl, rfl, rfl, rfl, rfl, trivial⟩ ?_
      refine WC.cond rfl (fun h48 => ?_) (fun h48 => ?_)
      ·
        refine WC.seq (fun K49 k49 => ?_)
        refine WC.region rfl ?_
        refine WL.yld rfl (blt rfl) rfl (Y.assign rfl rfl) ?_
        refine WL.nil ?_
        refine WK.then_normal (k49 _ _ ?_)
        refine WC.sub [(2, _)] ⟨rfl, trivial⟩ ?_
        refine WC.ret ?_
        refine WK.then_ret ?_
        refine WK.in_ret ?_
        refine WK.then_ret ?_
        refine WK.then_ret ?_
        refine WK.in_ret ?_
        refine WK.then_ret ?_
        clear k1 k7 k10 k22 k23 k25 k26 k28 k29 k39 k40 k41 k44 k45 k49
        refine WK.ret [_] rfl ⟨rfl, trivial⟩ ?_
        exact ⟨ret1 (vi (Sx.gx_hit hz0 (show i < s.al.length from by omega) (Sx.agg_3 zb h48) (by decide)).symm), xW⟩
      ·
        have zc := h48
        refine WC.skip ?_
        refine WK.then_normal (k44 _ _ ?_)
        refine WC.sub [(1, _), (4, _), (5, _), (6, _)] ⟨rfl, rfl, rfl, rfl, trivial⟩ ?_
        refine WC.seq (fun K50 k50 => ?_)
        refine WC.region rfl ?_
        refine WL.yld rfl (blt rfl) rfl (Y.move rfl rfl) ?_
        refine WL.yld rfl (blt rfl) rfl (Y.fieldAddr rfl Try.underlying55 rfl ti9 (by decide) rfl) ?_
        refine WL.yld rfl (blt rfl) rfl (Y.load1 rfl Try.underlying9 rfl rfl (Blk.at_eq m38 rfl)) ?_
        refine WL.bslice (zs := [.string ⟨#[]⟩]) (cs := [_]) rfl (blt rfl) rfl rfl Try.underlying34 ti9 rfl (ble rfl) (by kernel_rfl) rfl rfl ?_
        intro g51 w52 e53 x54 m55
        have n_g2_g51 := ne_new m6 e53
        have r_v_g51 := ne_newO ow_v e53
        have n_g31_g51 := ne_new m38 e53
        have o_g51 := own_new xW e53
        have m6 := m6.ext x54
        have ow_v := ow_v.ext x54
        have m38 := m38.ext x54
        have xW := Ext.trans xW x54
        refine WL.appendB (f := Sx.sc) (news := [s.al[i]!.as_]) rfl (blt rfl) rfl rfl rfl rfl Try.underlying34 ti9 rfl (by decide) rfl ow_v (fun _ => rfl) Sx.sc_one m55 rfl xW.size (by have q0 := tk; first | omega | (simp only [List.length_append, List.length_cons, List.length_nil, List.length_take, List.length_drop, List.length_reverse]; omega)) (Nat.le_trans (show _ ≤ 140737488355328 from by have q0 := tk; first | omega | (simp only [List.length_append, List.length_cons, List.length_nil, List.length_take, List.length_drop, List.length_reverse]; omega)) (by decide)) (fun v56 w57 ow58 gr59 nb60 => ?_)
        have r_v56_g2 := ne_app nb60 r_v_g2 m6
        have m6 := m6.grown gr59 r_v_g2
        have r_v56_g31 := ne_app nb60 r_v_g31 m38
        have m38 := m38.grown gr59 r_v_g31
        have r_v56_g51 := ne_app nb60 r_v_g51 m55
        have m55 := m55.grown gr59 r_v_g51
        have xW := Ext.grown xW gr59 (fun b hb => (OwnL.lt ow_v hb).1)
        refine WL.yld rfl (blt rfl) rfl (Y.assign rfl rfl) ?_
        refine WL.nil ?_
        refine WK.then_normal (k50 _ _ ?_)
        refine WC.sub [(1, _), (4, _), (5, _)] ⟨rfl, rfl, rfl, trivial⟩ ?_
        refine WC.region rfl ?_
        refine WL.yld rfl (blt rfl) rfl (Y.move rfl rfl) ?_
        obtain ⟨A61, n62, c63, rfl, hl64⟩ := OwnL.opened ow58 (fun _ => rfl) (by decide)
        have e_n62 := hl64.len
        try simp only [List.length_append, List.length_cons, List.length_nil, List.length_reverse, List.length_drop, List.length_take, List.length_map, List.length_replicate, List.length_set] at e_n62
        have z_n62 := hl64.nle
        refine WL.call rfl (blt rfl) rfl rfl rfl has46 rfl (names_any _ _ _ _ _ hl64 (Sx.shortN_app f_s.cs (Sx.short_map (f := Sx.Ag.as_) (m := 300) (fun x hx => (f_s.as_ x hx).2) (by decide) (show i < s.al.length from by omega)))) ?_
        rintro _ w65 ⟨rfl, x66⟩
        refine ⟨_, rfl, ?_⟩
        have m6 := m6.ext x66
        have ow58 := ow58.ext x66
        have hl64 := hl64.ext x66
        have xW := Ext.trans xW x66
        refine WL.yld rfl (blt rfl) rfl (Y.assign rfl rfl) ?_
        refine WL.nil ?_
        refine WK.in_normal ?_
        refine WK.then_normal (k28 _ _ ?_)
        refine WC.sub [(1, _), (3, _), (4, _), (5, _)] ⟨rfl, rfl, rfl, rfl, trivial⟩ ?_
        refine WC.region rfl ?_
        refine WL.yld rfl (blt rfl) rfl (Y.move rfl rfl) ?_
        refine WL.yld rfl (blt rfl) rfl (Y.add rfl rfl rfl (wrap_i64 (by first | omega | (dsimp only; omega)))) ?_
        refine WL.yld rfl (blt rfl) rfl (Y.assign rfl rfl) ?_
        refine WL.nil ?_
        refine WK.roundS _ [(5, .int .i64 (((i + 1) : Nat) : Int)), (3, .int .i64 _), (4, (.slice A61 n62 c63))] ⟨rfl, rfl, rfl, rfl, trivial⟩ ?_ ⟨(i + 1), _, (.slice A61 n62 c63), rfl, rfl, xW, m6, (by rw [Sx.map_next (show i < s.al.length from by omega), ← List.append_assoc]; exact ow58), r_v56_g2, (by omega), (by rw [Sx.all_snoc az0, ← Sx.agg_add zb zc]; exact Sx.gx_step hz0), (fun q => by rw [Sx.map_next (show i < s.al.length from by omega), ← List.append_assoc]; exact q)⟩
        show _ - (i + 1) < _ - i; omega
  ·
    have p27 := ((and_f h27).imp (fun h => (dec_f h)) (fun h => (eq_f h)))
    refine WC.exit ?_
    refine WK.then_exit ?_
    refine WK.then_exit ?_
    refine WK.in_exit ?_
    refine WK.then_normal (k22 _ _ ?_)
    refine WC.sub [(3, _)] ⟨rfl, trivial⟩ ?_
    refine WC.seq (fun K67 k67 => ?_)
    refine WC.region rfl ?_
    refine WL.yld rfl (blt rfl) rfl (Y.move rfl rfl) ?_
    refine WL.yld rfl (blt rfl) rfl (Y.assign rfl rfl) ?_
    refine WL.nil ?_
    refine WK.then_normal (k67 _ _ ?_)
    refine WC.sub [(2, _)] ⟨rfl, trivial⟩ ?_
    refine WC.ret ?_
    clear k1 k7 k10 k22 k23 k25 k26 k67
    refine WK.ret [_] rfl ⟨rfl, trivial⟩ ?_
    refine ⟨ret1 (vi ?_), xW⟩
    rw [zi]
    exact Sx.gx_end (by omega) (by have q := h27; simp only [Bool.and_eq_true, Bool.or_eq_true, Bool.not_eq_true', Bool.and_eq_false_iff, Bool.or_eq_false_iff, Bool.not_eq_false', decide_eq_true_eq, decide_eq_false_iff_not, beq_iff_eq, beq_eq_false_iff_ne, ne_eq] at q; rw [zi] at q; omega)
theorem rstep_any (d_s : Nat) (s : Sx.St) (w : World) (g_s : Sx.GoodS d_s w s) (f_s : Sx.FewS s) :
    Calls Try.prog 18 #[.agg #[.int .i64 s.op, .int .i64 s.cd.op, .string s.cd.nm, .int .i64 s.cd.vk, .int .i64 s.cd.vn, .string s.cd.vs, .slice s.cd.A s.cd.n s.cd.c, .slice s.iA s.iN s.iC, .slice s.cA s.cN s.cC, .slice s.aA s.aN s.aC, .slice s.sA s.sN s.sC, .int .i64 s.N, .string s.tb]] w fun e w' => e = .returned (.int .i64 (Sx.rstpE s)) ∧ Ext w w' := by
  have xW := Ext.refl w
  have e_il := g_s.il.len
  have e_cl := g_s.cl.len
  have e_al := g_s.al.len
  have e_sl := g_s.sl.len
  have b_il := f_s.il
  have b_cl := f_s.cl
  have b_al := f_s.al
  have b_sl := f_s.sl
  have tbs := f_s.tb
  refine calls_of_WC (args := [.agg #[.int .i64 s.op, .int .i64 s.cd.op, .string s.cd.nm, .int .i64 s.cd.vk, .int .i64 s.cd.vn, .string s.cd.vs, .slice s.cd.A s.cd.n s.cd.c, .slice s.iA s.iN s.iC, .slice s.cA s.cN s.cC, .slice s.aA s.aN s.aC, .slice s.sA s.sN s.sC, .int .i64 s.N, .string s.tb]]) Try.func18 rfl rfl (ble rfl) ?_
  refine WC.seq (fun K1 k1 => ?_)
  refine WC.region rfl ?_
  refine WL.box rfl (blt rfl) rfl rfl rfl rfl ?_
  intro g2 w3 e4 x5 m6
  have o_g2 := own_new xW e4
  have xW := Ext.trans xW x5
  refine WL.yld rfl (blt rfl) rfl (Y.assign rfl rfl) ?_
  refine WL.nil ?_
  refine WK.then_normal (k1 _ _ ?_)
  refine WC.sub [(1, _)] ⟨rfl, trivial⟩ ?_
  refine WC.seq (fun K7 k7 => ?_)
  refine WC.seq (fun K8 k8 => ?_)
  refine WC.region rfl ?_
  refine WL.yld rfl (blt rfl) rfl (Y.fieldAddr rfl Try.underlying41 rfl ti36 (by decide) rfl) ?_
  refine WL.yld rfl (blt rfl) rfl (Y.load1 rfl Try.underlying36 rfl rfl (Blk.at_eq m6 rfl)) ?_
  refine WL.yld rfl (blt rfl) rfl (Y.lss rfl rfl rfl) ?_
  refine WL.yld rfl (blt rfl) rfl (Y.move rfl rfl) ?_
  refine WL.yldG rfl (blt rfl) rfl rfl rfl (fun hb => Y.fieldAddr rfl Try.underlying41 rfl ti36 (by decide) rfl) ?_
  refine WL.yldG rfl (blt rfl) rfl rfl rfl (fun hb => Y.load1 rfl Try.underlying36 rfl (evg rfl hb) (Blk.at_eq m6 rfl)) ?_
  refine WL.yldG rfl (blt rfl) rfl rfl rfl (fun hb => Y.gtr rfl (evg rfl hb) rfl) ?_
  refine WL.yld rfl (blt rfl) rfl (Y.or rfl rfl rfl rfl) ?_
  refine WL.yld rfl (blt rfl) rfl (Y.move rfl rfl) ?_
  refine WL.yldG rfl (blt rfl) rfl rfl rfl (fun hb => Y.loadS rfl Try.underlying41 rfl ti41 rfl (Blk.row_eq m6)) ?_
  refine WL.callG rfl (blt rfl) rfl rfl rfl rfl rfl has41 (fun hb => (evs_cons (evg rfl hb) evs_nil)) (fun hb => unused_any _ _ _ (g_s.ext xW) f_s) (fun w9 x10 => ?_)
  have m6 := m6.ext x10
  have xW := Ext.trans xW x10
  refine WL.yldG rfl (blt rfl) rfl rfl rfl (fun hb => Y.not rfl (evg rfl hb)) ?_
  refine WL.yld rfl (blt rfl) rfl (Y.or rfl rfl rfl rfl) ?_
  refine WL.nil ?_
  refine WK.then_normal (k8 _ _ ?_)
  refine WC.sub [(1, _), (17, _)] ⟨rfl, rfl, trivial⟩ ?_
  refine WC.cond rfl (fun h11 => ?_) (fun h11 => ?_)
  ·
    have p11 := ((or_t h11).imp (fun h => ((or_t h).imp (fun h => (dec_t h)) (fun h => (dec_t h)))) (fun h => h))
    refine WC.seq (fun K12 k12 => ?_)
    refine WC.region rfl ?_
    refine WL.yld rfl (blt rfl) rfl (Y.assign rfl rfl) ?_
    refine WL.nil ?_
    refine WK.then_normal (k12 _ _ ?_)
    refine WC.sub [(2, _)] ⟨rfl, trivial⟩ ?_
    refine WC.ret ?_
    refine WK.then_ret ?_
    clear k1 k7 k8 k12
    refine WK.ret [_] rfl ⟨rfl, trivial⟩ ?_
    refine ⟨ret1 (vi ?_), xW⟩
    first | (exfalso; revert h11; simp; done) | (have q0 := h11; (try simp only [Sx.emp_iff] at q0); (try simp only [Bool.and_eq_true, Bool.or_eq_true, Bool.not_eq_true', Bool.and_eq_false_iff, Bool.or_eq_false_iff, Bool.not_eq_false', decide_eq_true_eq, decide_eq_false_iff_not, beq_iff_eq, beq_eq_false_iff_ne, ne_eq, Sx.idF, Sx.idT, Sx.inI, List.any_cons, List.any_nil, Bool.or_false, Sx.zerT, Sx.zerF, Bool.not_false, Bool.not_true, Bool.and_true, Bool.and_false, Bool.true_and, Bool.false_and, Bool.false_or, Sx.unT, Sx.unF] at q0); unfold Sx.rstpE; (repeat (first | rw [if_pos (by omega)] | rw [if_neg (by omega)])); (try rfl); done)
  ·
    have p11 := (And.intro (dec_f (or_f (or_f h11).1).1) (dec_f (or_f (or_f h11).1).2))
    refine WC.skip ?_
    refine WK.then_normal (k7 _ _ ?_)
    refine WC.sub [(1, _)] ⟨rfl, trivial⟩ ?_
    refine WC.seq (fun K13 k13 => ?_)
    refine WC.region rfl ?_
    refine WL.yld rfl (blt rfl) rfl (Y.fieldAddr rfl Try.underlying41 rfl ti36 (by decide) rfl) ?_
    refine WL.yld rfl (blt rfl) rfl (Y.load1 rfl Try.underlying36 rfl rfl (Blk.at_eq m6 rfl)) ?_
    refine WL.yld rfl (blt rfl) rfl (Y.eql rfl rfl rfl) ?_
    refine WL.yld rfl (blt rfl) rfl (Y.move rfl rfl) ?_
    refine WL.yldG rfl (blt rfl) rfl rfl rfl (fun hb => Y.fieldAddr rfl Try.underlying41 rfl ti36 (by decide) rfl) ?_
    refine WL.yldG rfl (blt rfl) rfl rfl rfl (fun hb => Y.load1 rfl Try.underlying36 rfl (evg rfl hb) (Blk.at_eq m6 rfl)) ?_
    refine WL.yldG rfl (blt rfl) rfl rfl rfl (fun hb => Y.eql rfl (evg rfl hb) rfl) ?_
    refine WL.yld rfl (blt rfl) rfl (Y.or rfl rfl rfl rfl) ?_
    refine WL.yld rfl (blt rfl) rfl (Y.move rfl rfl) ?_
    refine WL.yldG rfl (blt rfl) rfl rfl rfl (fun hb => Y.fieldAddr rfl Try.underlying41 rfl ti36 (by decide) rfl) ?_
    refine WL.yldG rfl (blt rfl) rfl rfl rfl (fun hb => Y.load1 rfl Try.underlying36 rfl (evg rfl hb) (Blk.at_eq m6 rfl)) ?_
    refine WL.yldG rfl (blt rfl) rfl rfl rfl (fun hb => Y.eql rfl (evg rfl hb) rfl) ?_
    refine WL.yld rfl (blt rfl) rfl (Y.or rfl rfl rfl rfl) ?_
    refine WL.yld rfl (blt rfl) rfl (Y.assign rfl rfl) ?_
    refine WL.nil ?_
    refine WK.then_normal (k13 _ _ ?_)
    refine WC.sub [(1, _), (3, _)] ⟨rfl, rfl, trivial⟩ ?_
    refine WC.seq (fun K14 k14 => ?_)
    refine WC.seq (fun K15 k15 => ?_)
    refine WC.region rfl ?_
    refine WL.yld rfl (blt rfl) rfl (Y.move rfl rfl) ?_
    refine WL.yld rfl (blt rfl) rfl (Y.move rfl rfl) ?_
    refine WL.yldG rfl (blt rfl) rfl rfl rfl (fun hb => Y.fieldAddr rfl Try.underlying41 rfl ti9 (by decide) rfl) ?_
    refine WL.yldG rfl (blt rfl) rfl rfl rfl (fun hb => Y.load1 rfl Try.underlying9 rfl (evg rfl hb) (Blk.at_eq m6 rfl)) ?_
    refine WL.callG rfl (blt rfl) rfl rfl rfl rfl rfl has42 (fun hb => (evs_cons (evg rfl hb) evs_nil)) (fun hb => rident_any _ _ (by omega)) (fun w16 x17 => ?_)
    have m6 := m6.ext x17
    have xW := Ext.trans xW x17
    refine WL.yldG rfl (blt rfl) rfl rfl rfl (fun hb => Y.not rfl (evg rfl hb)) ?_
    refine WL.yld rfl (blt rfl) rfl (Y.and rfl rfl rfl rfl) ?_
    refine WL.nil ?_
    refine WK.then_normal (k15 _ _ ?_)
    refine WC.sub [(1, _), (37, _)] ⟨rfl, rfl, trivial⟩ ?_
    refine WC.cond rfl (fun h18 => ?_) (fun h18 => ?_)
    ·
      have p18 := ((or_t (and_t h18).1).imp (fun h => ((or_t h).imp (fun h => (eq_t h)) (fun h => (eq_t h)))) (fun h => (eq_t h)))
      refine WC.seq (fun K19 k19 => ?_)
      refine WC.region rfl ?_
      refine WL.yld rfl (blt rfl) rfl (Y.assign rfl rfl) ?_
      refine WL.nil ?_
      refine WK.then_normal (k19 _ _ ?_)
      refine WC.sub [(2, _)] ⟨rfl, trivial⟩ ?_
      refine WC.ret ?_
      refine WK.then_ret ?_
      clear k1 k7 k8 k13 k14 k15 k19
      refine WK.ret [_] rfl ⟨rfl, trivial⟩ ?_
      refine ⟨ret1 (vi ?_), xW⟩
      first | (exfalso; revert h11; simp; done) | (exfalso; revert h18; simp; done) | (have q0 := h11; (try simp only [Sx.emp_iff] at q0); (try simp only [Bool.and_eq_true, Bool.or_eq_true, Bool.not_eq_true', Bool.and_eq_false_iff, Bool.or_eq_false_iff, Bool.not_eq_false', decide_eq_true_eq, decide_eq_false_iff_not, beq_iff_eq, beq_eq_false_iff_ne, ne_eq, Sx.idF, Sx.idT, Sx.inI, List.any_cons, List.any_nil, Bool.or_false, Sx.zerT, Sx.zerF, Bool.not_false, Bool.not_true, Bool.and_true, Bool.and_false, Bool.true_and, Bool.false_and, Bool.false_or, Sx.unT, Sx.unF] at q0); have q1 := h18; (try simp only [Sx.emp_iff] at q1); (try simp only [Bool.and_eq_true, Bool.or_eq_true, Bool.not_eq_true', Bool.and_eq_false_iff, Bool.or_eq_false_iff, Bool.not_eq_false', decide_eq_true_eq, decide_eq_false_iff_not, beq_iff_eq, beq_eq_false_iff_ne, ne_eq, Sx.idF, Sx.idT, Sx.inI, List.any_cons, List.any_nil, Bool.or_false, Sx.zerT, Sx.zerF, Bool.not_false, Bool.not_true, Bool.and_true, Bool.and_false, Bool.true_and, Bool.false_and, Bool.false_or, Sx.unT, Sx.unF] at q1); unfold Sx.rstpE; (repeat (first | rw [if_pos (by omega)] | rw [if_neg (by omega)])); (try rfl); done)
    ·
      have p18 := ((and_f h18).imp (fun h => (And.intro (And.intro (eq_f (or_f (or_f h).1).1) (eq_f (or_f (or_f h).1).2)) (eq_f (or_f h).2))) (fun h => h))
      refine WC.skip ?_
      refine WK.then_normal (k14 _ _ ?_)
      refine WC.sub [(1, _)] ⟨rfl, trivial⟩ ?_
      refine WC.seq (fun K20 k20 => ?_)
      refine WC.region rfl ?_
      refine WL.yld rfl (blt rfl) rfl (Y.loadS rfl Try.underlying41 rfl ti41 rfl (Blk.row_eq m6)) ?_
      refine WL.call rfl (blt rfl) rfl rfl rfl has43 rfl (sizes_any _ _ _ (g_s.ext xW) f_s) ?_
      rintro _ w21 ⟨rfl, x22⟩
      refine ⟨_, rfl, ?_⟩
      have m6 := m6.ext x22
      have xW := Ext.trans xW x22
      refine WL.yld rfl (blt rfl) rfl (Y.assign rfl rfl) ?_
      refine WL.nil ?_
      refine WK.then_normal (k20 _ _ ?_)
      refine WC.sub [(1, _), (4, _)] ⟨rfl, rfl, trivial⟩ ?_
      refine WC.seq (fun K23 k23 => ?_)
      refine WC.seq (fun K24 k24 => ?_)
      refine WC.region rfl ?_
      refine WL.yld rfl (blt rfl) rfl (Y.move rfl rfl) ?_
      refine WL.yld rfl (blt rfl) rfl (Y.neq rfl rfl rfl) ?_
      refine WL.nil ?_
      refine WK.then_normal (k24 _ _ ?_)
      refine WC.sub [(1, _), (4, _), (41, _)] ⟨rfl, rfl, rfl, trivial⟩ ?_
      refine WC.cond rfl (fun h25 => ?_) (fun h25 => ?_)
      ·
        have p25 := (eq_f (not_t h25))
        refine WC.seq (fun K26 k26 => ?_)
        refine WC.region rfl ?_
        refine WL.yld rfl (blt rfl) rfl (Y.move rfl rfl) ?_
        refine WL.yld rfl (blt rfl) rfl (Y.assign rfl rfl) ?_
        refine WL.nil ?_
        refine WK.then_normal (k26 _ _ ?_)
        refine WC.sub [(2, _)] ⟨rfl, trivial⟩ ?_
        refine WC.ret ?_
        refine WK.then_ret ?_
        clear k1 k7 k8 k13 k14 k15 k20 k23 k24 k26
        refine WK.ret [_] rfl ⟨rfl, trivial⟩ ?_
        refine ⟨ret1 (vi ?_), xW⟩
        first | (exfalso; revert h11; simp; done) | (exfalso; revert h18; simp; done) | (exfalso; revert h25; simp; done) | (have q0 := h11; (try simp only [Sx.emp_iff] at q0); (try simp only [Bool.and_eq_true, Bool.or_eq_true, Bool.not_eq_true', Bool.and_eq_false_iff, Bool.or_eq_false_iff, Bool.not_eq_false', decide_eq_true_eq, decide_eq_false_iff_not, beq_iff_eq, beq_eq_false_iff_ne, ne_eq, Sx.idF, Sx.idT, Sx.inI, List.any_cons, List.any_nil, Bool.or_false, Sx.zerT, Sx.zerF, Bool.not_false, Bool.not_true, Bool.and_true, Bool.and_false, Bool.true_and, Bool.false_and, Bool.false_or, Sx.unT, Sx.unF] at q0); have q1 := h18; (try simp only [Sx.emp_iff] at q1); (try simp only [Bool.and_eq_true, Bool.or_eq_true, Bool.not_eq_true', Bool.and_eq_false_iff, Bool.or_eq_false_iff, Bool.not_eq_false', decide_eq_true_eq, decide_eq_false_iff_not, beq_iff_eq, beq_eq_false_iff_ne, ne_eq, Sx.idF, Sx.idT, Sx.inI, List.any_cons, List.any_nil, Bool.or_false, Sx.zerT, Sx.zerF, Bool.not_false, Bool.not_true, Bool.and_true, Bool.and_false, Bool.true_and, Bool.false_and, Bool.false_or, Sx.unT, Sx.unF] at q1); have q2 := h25; (try simp only [Sx.emp_iff] at q2); (try simp only [Bool.and_eq_true, Bool.or_eq_true, Bool.not_eq_true', Bool.and_eq_false_iff, Bool.or_eq_false_iff, Bool.not_eq_false', decide_eq_true_eq, decide_eq_false_iff_not, beq_iff_eq, beq_eq_false_iff_ne, ne_eq, Sx.idF, Sx.idT, Sx.inI, List.any_cons, List.any_nil, Bool.or_false, Sx.zerT, Sx.zerF, Bool.not_false, Bool.not_true, Bool.and_true, Bool.and_false, Bool.true_and, Bool.false_and, Bool.false_or, Sx.unT, Sx.unF] at q2); unfold Sx.rstpE; (repeat (first | rw [if_pos (by omega)] | rw [if_neg (by omega)])); (try rfl); done)
      ·
        have p25 := (eq_t (not_f h25))
        refine WC.skip ?_
        refine WK.then_normal (k23 _ _ ?_)
        refine WC.sub [(1, _)] ⟨rfl, trivial⟩ ?_
        refine WC.seq (fun K27 k27 => ?_)
        refine WC.seq (fun K28 k28 => ?_)
        refine WC.region rfl ?_
        refine WL.yld rfl (blt rfl) rfl (Y.fieldAddr rfl Try.underlying41 rfl ti36 (by decide) rfl) ?_
        refine WL.yld rfl (blt rfl) rfl (Y.load1 rfl Try.underlying36 rfl rfl (Blk.at_eq m6 rfl)) ?_
        refine WL.nil ?_
        refine WK.then_normal (k28 _ _ ?_)
        refine WC.sub [(1, _), (44, _)] ⟨rfl, rfl, trivial⟩ ?_
        refine WC.block ?_
        refine WC.seq (fun K29 k29 => ?_)
        refine WC.region rfl ?_
        refine WL.yld rfl (blt rfl) rfl (Y.eql rfl rfl rfl) ?_
        refine WL.yld rfl (blt rfl) rfl (Y.assign rfl rfl) ?_
        refine WL.nil ?_
        refine WK.then_normal (k29 _ _ ?_)
        refine WC.sub [(1, _), (44, _), (45, _)] ⟨rfl, rfl, rfl, trivial⟩ ?_
        refine WC.cond rfl (fun h30 => ?_) (fun h30 => ?_)
        ·
          have p30 := (eq_t h30)
          refine WC.seq (fun K31 k31 => ?_)
          refine WC.region rfl ?_
          refine WL.yld rfl (blt rfl) rfl (Y.fieldAddr rfl Try.underlying41 rfl ti28 (by decide) rfl) ?_
          refine WL.yld rfl (blt rfl) rfl (Y.loadS (cs := [_, _, _, _, _, _]) rfl Try.underlying28 rfl ti28 rfl (Blk.part_eq m6 rfl)) ?_
          refine WL.call rfl (blt rfl) rfl rfl rfl has12 rfl (rexpr_any _ _ _ (g_s.cd.ext xW) f_s.cd.1 f_s.cd.2) ?_
          rintro _ w32 ⟨rfl, x33⟩
          refine ⟨_, rfl, ?_⟩
          have m6 := m6.ext x33
          have xW := Ext.trans xW x33
          refine WL.yld rfl (blt rfl) rfl (Y.assign rfl rfl) ?_
          refine WL.nil ?_
          refine WK.then_normal (k31 _ _ ?_)
          refine WC.sub [(2, _)] ⟨rfl, trivial⟩ ?_
          refine WC.ret ?_
          refine WK.in_ret ?_
          refine WK.then_ret ?_
          clear k1 k7 k8 k13 k14 k15 k20 k23 k24 k27 k28 k29 k31
          refine WK.ret [_] rfl ⟨rfl, trivial⟩ ?_
          refine ⟨ret1 (vi ?_), xW⟩
          first | (exfalso; revert h11; simp; done) | (exfalso; revert h18; simp; done) | (exfalso; revert h25; simp; done) | (exfalso; revert h30; simp; done) | (have q0 := h11; (try simp only [Sx.emp_iff] at q0); (try simp only [Bool.and_eq_true, Bool.or_eq_true, Bool.not_eq_true', Bool.and_eq_false_iff, Bool.or_eq_false_iff, Bool.not_eq_false', decide_eq_true_eq, decide_eq_false_iff_not, beq_iff_eq, beq_eq_false_iff_ne, ne_eq, Sx.idF, Sx.idT, Sx.inI, List.any_cons, List.any_nil, Bool.or_false, Sx.zerT, Sx.zerF, Bool.not_false, Bool.not_true, Bool.and_true, Bool.and_false, Bool.true_and, Bool.false_and, Bool.false_or, Sx.unT, Sx.unF] at q0); have q1 := h18; (try simp only [Sx.emp_iff] at q1); (try simp only [Bool.and_eq_true, Bool.or_eq_true, Bool.not_eq_true', Bool.and_eq_false_iff, Bool.or_eq_false_iff, Bool.not_eq_false', decide_eq_true_eq, decide_eq_false_iff_not, beq_iff_eq, beq_eq_false_iff_ne, ne_eq, Sx.idF, Sx.idT, Sx.inI, List.any_cons, List.any_nil, Bool.or_false, Sx.zerT, Sx.zerF, Bool.not_false, Bool.not_true, Bool.and_true, Bool.and_false, Bool.true_and, Bool.false_and, Bool.false_or, Sx.unT, Sx.unF] at q1); have q2 := h25; (try simp only [Sx.emp_iff] at q2); (try simp only [Bool.and_eq_true, Bool.or_eq_true, Bool.not_eq_true', Bool.and_eq_false_iff, Bool.or_eq_false_iff, Bool.not_eq_false', decide_eq_true_eq, decide_eq_false_iff_not, beq_iff_eq, beq_eq_false_iff_ne, ne_eq, Sx.idF, Sx.idT, Sx.inI, List.any_cons, List.any_nil, Bool.or_false, Sx.zerT, Sx.zerF, Bool.not_false, Bool.not_true, Bool.and_true, Bool.and_false, Bool.true_and, Bool.false_and, Bool.false_or, Sx.unT, Sx.unF] at q2); have q3 := h30; (try simp only [Sx.emp_iff] at q3); (try simp only [Bool.and_eq_true, Bool.or_eq_true, Bool.not_eq_true', Bool.and_eq_false_iff, Bool.or_eq_false_iff, Bool.not_eq_false', decide_eq_true_eq, decide_eq_false_iff_not, beq_iff_eq, beq_eq_false_iff_ne, ne_eq, Sx.idF, Sx.idT, Sx.inI, List.any_cons, List.any_nil, Bool.or_false, Sx.zerT, Sx.zerF, Bool.not_false, Bool.not_true, Bool.and_true, Bool.and_false, Bool.true_and, Bool.false_and, Bool.false_or, Sx.unT, Sx.unF] at q3); unfold Sx.rstpE; (repeat (first | rw [if_pos (by omega)] | rw [if_neg (by omega)])); (try rfl); done)
        ·
          have p30 := (eq_f h30)
          refine WC.seq (fun K34 k34 => ?_)
          refine WC.region rfl ?_
          refine WL.yld rfl (blt rfl) rfl (Y.eql rfl rfl rfl) ?_
          refine WL.yld rfl (blt rfl) rfl (Y.assign rfl rfl) ?_
          refine WL.nil ?_
          refine WK.then_normal (k34 _ _ ?_)
          refine WC.sub [(1, _), (44, _), (50, _)] ⟨rfl, rfl, rfl, trivial⟩ ?_
          refine WC.cond rfl (fun h35 => ?_) (fun h35 => ?_)
          ·
            have p35 := (eq_t h35)
            refine WC.seq (fun K36 k36 => ?_)
            refine WC.region rfl ?_
            refine WL.yld rfl (blt rfl) rfl (Y.fieldAddr rfl Try.underlying41 rfl ti37 (by decide) rfl) ?_
            refine WL.yld rfl (blt rfl) rfl (Y.load1 rfl Try.underlying37 rfl rfl (Blk.at_eq m6 rfl)) ?_
            refine WL.call rfl (blt rfl) rfl rfl rfl has44 rfl (selects_any _ _ _ _ _ _ (g_s.il.ext xW) (fun x hx => (g_s.ie x hx).ext xW) f_s.ie (by omega)) ?_
            rintro _ w37 ⟨rfl, x38⟩
            refine ⟨_, rfl, ?_⟩
            have m6 := m6.ext x38
            have xW := Ext.trans xW x38
            refine WL.yld rfl (blt rfl) rfl (Y.assign rfl rfl) ?_
            refine WL.nil ?_
            refine WK.then_normal (k36 _ _ ?_)
            refine WC.sub [(2, _)] ⟨rfl, trivial⟩ ?_
            refine WC.ret ?_
            refine WK.in_ret ?_
            refine WK.then_ret ?_
            clear k1 k7 k8 k13 k14 k15 k20 k23 k24 k27 k28 k29 k34 k36
            refine WK.ret [_] rfl ⟨rfl, trivial⟩ ?_
            refine ⟨ret1 (vi ?_), xW⟩
            first | (exfalso; revert h11; simp; done) | (exfalso; revert h18; simp; done) | (exfalso; revert h25; simp; done) | (exfalso; revert h30; simp; done) | (exfalso; revert h35; simp; done) | (have q0 := h11; (try simp only [Sx.emp_iff] at q0); (try simp only [Bool.and_eq_true, Bool.or_eq_true, Bool.not_eq_true', Bool.and_eq_false_iff, Bool.or_eq_false_iff, Bool.not_eq_false', decide_eq_true_eq, decide_eq_false_iff_not, beq_iff_eq, beq_eq_false_iff_ne, ne_eq, Sx.idF, Sx.idT, Sx.inI, List.any_cons, List.any_nil, Bool.or_false, Sx.zerT, Sx.zerF, Bool.not_false, Bool.not_true, Bool.and_true, Bool.and_false, Bool.true_and, Bool.false_and, Bool.false_or, Sx.unT, Sx.unF] at q0); have q1 := h18; (try simp only [Sx.emp_iff] at q1); (try simp only [Bool.and_eq_true, Bool.or_eq_true, Bool.not_eq_true', Bool.and_eq_false_iff, Bool.or_eq_false_iff, Bool.not_eq_false', decide_eq_true_eq, decide_eq_false_iff_not, beq_iff_eq, beq_eq_false_iff_ne, ne_eq, Sx.idF, Sx.idT, Sx.inI, List.any_cons, List.any_nil, Bool.or_false, Sx.zerT, Sx.zerF, Bool.not_false, Bool.not_true, Bool.and_true, Bool.and_false, Bool.true_and, Bool.false_and, Bool.false_or, Sx.unT, Sx.unF] at q1); have q2 := h25; (try simp only [Sx.emp_iff] at q2); (try simp only [Bool.and_eq_true, Bool.or_eq_true, Bool.not_eq_true', Bool.and_eq_false_iff, Bool.or_eq_false_iff, Bool.not_eq_false', decide_eq_true_eq, decide_eq_false_iff_not, beq_iff_eq, beq_eq_false_iff_ne, ne_eq, Sx.idF, Sx.idT, Sx.inI, List.any_cons, List.any_nil, Bool.or_false, Sx.zerT, Sx.zerF, Bool.not_false, Bool.not_true, Bool.and_true, Bool.and_false, Bool.true_and, Bool.false_and, Bool.false_or, Sx.unT, Sx.unF] at q2); have q3 := h30; (try simp only [Sx.emp_iff] at q3); (try simp only [Bool.and_eq_true, Bool.or_eq_true, Bool.not_eq_true', Bool.and_eq_false_iff, Bool.or_eq_false_iff, Bool.not_eq_false', decide_eq_true_eq, decide_eq_false_iff_not, beq_iff_eq, beq_eq_false_iff_ne, ne_eq, Sx.idF, Sx.idT, Sx.inI, List.any_cons, List.any_nil, Bool.or_false, Sx.zerT, Sx.zerF, Bool.not_false, Bool.not_true, Bool.and_true, Bool.and_false, Bool.true_and, Bool.false_and, Bool.false_or, Sx.unT, Sx.unF] at q3); have q4 := h35; (try simp only [Sx.emp_iff] at q4); (try simp only [Bool.and_eq_true, Bool.or_eq_true, Bool.not_eq_true', Bool.and_eq_false_iff, Bool.or_eq_false_iff, Bool.not_eq_false', decide_eq_true_eq, decide_eq_false_iff_not, beq_iff_eq, beq_eq_false_iff_ne, ne_eq, Sx.idF, Sx.idT, Sx.inI, List.any_cons, List.any_nil, Bool.or_false, Sx.zerT, Sx.zerF, Bool.not_false, Bool.not_true, Bool.and_true, Bool.and_false, Bool.true_and, Bool.false_and, Bool.false_or, Sx.unT, Sx.unF] at q4); unfold Sx.rstpE; (repeat (first | rw [if_pos (by omega)] | rw [if_neg (by omega)])); (try rfl); done)
          ·
            have p35 := (eq_f h35)
            refine WC.seq (fun K39 k39 => ?_)
            refine WC.region rfl ?_
            refine WL.yld rfl (blt rfl) rfl (Y.eql rfl rfl rfl) ?_
            refine WL.yld rfl (blt rfl) rfl (Y.assign rfl rfl) ?_
            refine WL.nil ?_
            refine WK.then_normal (k39 _ _ ?_)
            refine WC.sub [(1, _), (44, _), (55, _)] ⟨rfl, rfl, rfl, trivial⟩ ?_
            refine WC.cond rfl (fun h40 => ?_) (fun h40 => ?_)
            ·
              have p40 := (eq_t h40)
              refine WC.seq (fun K41 k41 => ?_)
              refine WC.region rfl ?_
              refine WL.yld rfl (blt rfl) rfl (Y.loadS rfl Try.underlying41 rfl ti41 rfl (Blk.row_eq m6)) ?_
              refine WL.call rfl (blt rfl) rfl rfl rfl has45 rfl (groups_any _ _ _ (g_s.ext xW) f_s) ?_
              rintro _ w42 ⟨rfl, x43⟩
              refine ⟨_, rfl, ?_⟩
              have m6 := m6.ext x43
              have xW := Ext.trans xW x43
              refine WL.yld rfl (blt rfl) rfl (Y.assign rfl rfl) ?_
              refine WL.nil ?_
              refine WK.then_normal (k41 _ _ ?_)
              refine WC.sub [(2, _)] ⟨rfl, trivial⟩ ?_
              refine WC.ret ?_
              refine WK.in_ret ?_
              refine WK.then_ret ?_
              clear k1 k7 k8 k13 k14 k15 k20 k23 k24 k27 k28 k29 k34 k39 k41
              refine WK.ret [_] rfl ⟨rfl, trivial⟩ ?_
              refine ⟨ret1 (vi ?_), xW⟩
              first | (exfalso; revert h11; simp; done) | (exfalso; revert h18; simp; done) | (exfalso; revert h25; simp; done) | (exfalso; revert h30; simp; done) | (exfalso; revert h35; simp; done) | (exfalso; revert h40; simp; done) | (have q0 := h11; (try simp only [Sx.emp_iff] at q0); (try simp only [Bool.and_eq_true, Bool.or_eq_true, Bool.not_eq_true', Bool.and_eq_false_iff, Bool.or_eq_false_iff, Bool.not_eq_false', decide_eq_true_eq, decide_eq_false_iff_not, beq_iff_eq, beq_eq_false_iff_ne, ne_eq, Sx.idF, Sx.idT, Sx.inI, List.any_cons, List.any_nil, Bool.or_false, Sx.zerT, Sx.zerF, Bool.not_false, Bool.not_true, Bool.and_true, Bool.and_false, Bool.true_and, Bool.false_and, Bool.false_or, Sx.unT, Sx.unF] at q0); have q1 := h18; (try simp only [Sx.emp_iff] at q1); (try simp only [Bool.and_eq_true, Bool.or_eq_true, Bool.not_eq_true', Bool.and_eq_false_iff, Bool.or_eq_false_iff, Bool.not_eq_false', decide_eq_true_eq, decide_eq_false_iff_not, beq_iff_eq, beq_eq_false_iff_ne, ne_eq, Sx.idF, Sx.idT, Sx.inI, List.any_cons, List.any_nil, Bool.or_false, Sx.zerT, Sx.zerF, Bool.not_false, Bool.not_true, Bool.and_true, Bool.and_false, Bool.true_and, Bool.false_and, Bool.false_or, Sx.unT, Sx.unF] at q1); have q2 := h25; (try simp only [Sx.emp_iff] at q2); (try simp only [Bool.and_eq_true, Bool.or_eq_true, Bool.not_eq_true', Bool.and_eq_false_iff, Bool.or_eq_false_iff, Bool.not_eq_false', decide_eq_true_eq, decide_eq_false_iff_not, beq_iff_eq, beq_eq_false_iff_ne, ne_eq, Sx.idF, Sx.idT, Sx.inI, List.any_cons, List.any_nil, Bool.or_false, Sx.zerT, Sx.zerF, Bool.not_false, Bool.not_true, Bool.and_true, Bool.and_false, Bool.true_and, Bool.false_and, Bool.false_or, Sx.unT, Sx.unF] at q2); have q3 := h30; (try simp only [Sx.emp_iff] at q3); (try simp only [Bool.and_eq_true, Bool.or_eq_true, Bool.not_eq_true', Bool.and_eq_false_iff, Bool.or_eq_false_iff, Bool.not_eq_false', decide_eq_true_eq, decide_eq_false_iff_not, beq_iff_eq, beq_eq_false_iff_ne, ne_eq, Sx.idF, Sx.idT, Sx.inI, List.any_cons, List.any_nil, Bool.or_false, Sx.zerT, Sx.zerF, Bool.not_false, Bool.not_true, Bool.and_true, Bool.and_false, Bool.true_and, Bool.false_and, Bool.false_or, Sx.unT, Sx.unF] at q3); have q4 := h35; (try simp only [Sx.emp_iff] at q4); (try simp only [Bool.and_eq_true, Bool.or_eq_true, Bool.not_eq_true', Bool.and_eq_false_iff, Bool.or_eq_false_iff, Bool.not_eq_false', decide_eq_true_eq, decide_eq_false_iff_not, beq_iff_eq, beq_eq_false_iff_ne, ne_eq, Sx.idF, Sx.idT, Sx.inI, List.any_cons, List.any_nil, Bool.or_false, Sx.zerT, Sx.zerF, Bool.not_false, Bool.not_true, Bool.and_true, Bool.and_false, Bool.true_and, Bool.false_and, Bool.false_or, Sx.unT, Sx.unF] at q4); have q5 := h40; (try simp only [Sx.emp_iff] at q5); (try simp only [Bool.and_eq_true, Bool.or_eq_true, Bool.not_eq_true', Bool.and_eq_false_iff, Bool.or_eq_false_iff, Bool.not_eq_false', decide_eq_true_eq, decide_eq_false_iff_not, beq_iff_eq, beq_eq_false_iff_ne, ne_eq, Sx.idF, Sx.idT, Sx.inI, List.any_cons, List.any_nil, Bool.or_false, Sx.zerT, Sx.zerF, Bool.not_false, Bool.not_true, Bool.and_true, Bool.and_false, Bool.true_and, Bool.false_and, Bool.false_or, Sx.unT, Sx.unF] at q5); unfold Sx.rstpE; (repeat (first | rw [if_pos (by omega)] | rw [if_neg (by omega)])); (try rfl); done)
            ·
              have p40 := (eq_f h40)
              refine WC.seq (fun K44 k44 => ?_)
              refine WC.region rfl ?_
              refine WL.yld rfl (blt rfl) rfl (Y.eql rfl rfl rfl) ?_
              refine WL.yld rfl (blt rfl) rfl (Y.assign rfl rfl) ?_
              refine WL.nil ?_
              refine WK.then_normal (k44 _ _ ?_)
              refine WC.sub [(1, _), (44, _), (59, _)] ⟨rfl, rfl, rfl, trivial⟩ ?_
              refine WC.cond rfl (fun h45 => ?_) (fun h45 => ?_)
              ·
                have p45 := (eq_t h45)
                refine WC.seq (fun K46 k46 => ?_)
                refine WC.region rfl ?_
                refine WL.yld rfl (blt rfl) rfl (Y.fieldAddr rfl Try.underlying41 rfl ti39 (by decide) rfl) ?_
                refine WL.yld rfl (blt rfl) rfl (Y.load1 rfl Try.underlying39 rfl rfl (Blk.at_eq m6 rfl)) ?_
                refine WL.call rfl (blt rfl) rfl rfl rfl has47 rfl (sorts_any _ _ _ _ _ (g_s.sl.ext xW) (by omega)) ?_
                rintro _ w47 ⟨v49, rfl, ow50, x48⟩
                refine ⟨_, rfl, ?_⟩
                have r_v49_g2 := ne_res ow50 m6
                have ow50 := OwnL.base_le ow50 xW.size
                have m6 := m6.ext x48
                have xW := Ext.trans xW x48
                obtain ⟨A51, n52, c53, rfl, hl54⟩ := OwnL.opened ow50 (fun _ => rfl) (by decide)
                have e_n52 := hl54.len
                try simp only [List.length_append, List.length_cons, List.length_nil, List.length_reverse, List.length_drop, List.length_take, List.length_map, List.length_replicate, List.length_set] at e_n52
                have z_n52 := hl54.nle
                refine WL.call rfl (blt rfl) rfl rfl rfl has46 rfl (names_any _ _ _ _ _ hl54 (Sx.shortN_srt f_s.ss)) ?_
                rintro _ w55 ⟨rfl, x56⟩
                refine ⟨_, rfl, ?_⟩
                have m6 := m6.ext x56
                have ow50 := ow50.ext x56
                have hl54 := hl54.ext x56
                have xW := Ext.trans xW x56
                refine WL.yld rfl (blt rfl) rfl (Y.assign rfl rfl) ?_
                refine WL.nil ?_
                refine WK.then_normal (k46 _ _ ?_)
                refine WC.sub [(2, _)] ⟨rfl, trivial⟩ ?_
                refine WC.ret ?_
                refine WK.in_ret ?_
                refine WK.then_ret ?_
                clear k1 k7 k8 k13 k14 k15 k20 k23 k24 k27 k28 k29 k34 k39 k44 k46
                refine WK.ret [_] rfl ⟨rfl, trivial⟩ ?_
                refine ⟨ret1 (vi ?_), xW⟩
                first | (exfalso; revert h11; simp; done) | (exfalso; revert h18; simp; done) | (exfalso; revert h25; simp; done) | (exfalso; revert h30; simp; done) | (exfalso; revert h35; simp; done) | (exfalso; revert h40; simp; done) | (exfalso; revert h45; simp; done) | (have q0 := h11; (try simp only [Sx.emp_iff] at q0); (try simp only [Bool.and_eq_true, Bool.or_eq_true, Bool.not_eq_true', Bool.and_eq_false_iff, Bool.or_eq_false_iff, Bool.not_eq_false', decide_eq_true_eq, decide_eq_false_iff_not, beq_iff_eq, beq_eq_false_iff_ne, ne_eq, Sx.idF, Sx.idT, Sx.inI, List.any_cons, List.any_nil, Bool.or_false, Sx.zerT, Sx.zerF, Bool.not_false, Bool.not_true, Bool.and_true, Bool.and_false, Bool.true_and, Bool.false_and, Bool.false_or, Sx.unT, Sx.unF] at q0); have q1 := h18; (try simp only [Sx.emp_iff] at q1); (try simp only [Bool.and_eq_true, Bool.or_eq_true, Bool.not_eq_true', Bool.and_eq_false_iff, Bool.or_eq_false_iff, Bool.not_eq_false', decide_eq_true_eq, decide_eq_false_iff_not, beq_iff_eq, beq_eq_false_iff_ne, ne_eq, Sx.idF, Sx.idT, Sx.inI, List.any_cons, List.any_nil, Bool.or_false, Sx.zerT, Sx.zerF, Bool.not_false, Bool.not_true, Bool.and_true, Bool.and_false, Bool.true_and, Bool.false_and, Bool.false_or, Sx.unT, Sx.unF] at q1); have q2 := h25; (try simp only [Sx.emp_iff] at q2); (try simp only [Bool.and_eq_true, Bool.or_eq_true, Bool.not_eq_true', Bool.and_eq_false_iff, Bool.or_eq_false_iff, Bool.not_eq_false', decide_eq_true_eq, decide_eq_false_iff_not, beq_iff_eq, beq_eq_false_iff_ne, ne_eq, Sx.idF, Sx.idT, Sx.inI, List.any_cons, List.any_nil, Bool.or_false, Sx.zerT, Sx.zerF, Bool.not_false, Bool.not_true, Bool.and_true, Bool.and_false, Bool.true_and, Bool.false_and, Bool.false_or, Sx.unT, Sx.unF] at q2); have q3 := h30; (try simp only [Sx.emp_iff] at q3); (try simp only [Bool.and_eq_true, Bool.or_eq_true, Bool.not_eq_true', Bool.and_eq_false_iff, Bool.or_eq_false_iff, Bool.not_eq_false', decide_eq_true_eq, decide_eq_false_iff_not, beq_iff_eq, beq_eq_false_iff_ne, ne_eq, Sx.idF, Sx.idT, Sx.inI, List.any_cons, List.any_nil, Bool.or_false, Sx.zerT, Sx.zerF, Bool.not_false, Bool.not_true, Bool.and_true, Bool.and_false, Bool.true_and, Bool.false_and, Bool.false_or, Sx.unT, Sx.unF] at q3); have q4 := h35; (try simp only [Sx.emp_iff] at q4); (try simp only [Bool.and_eq_true, Bool.or_eq_true, Bool.not_eq_true', Bool.and_eq_false_iff, Bool.or_eq_false_iff, Bool.not_eq_false', decide_eq_true_eq, decide_eq_false_iff_not, beq_iff_eq, beq_eq_false_iff_ne, ne_eq, Sx.idF, Sx.idT, Sx.inI, List.any_cons, List.any_nil, Bool.or_false, Sx.zerT, Sx.zerF, Bool.not_false, Bool.not_true, Bool.and_true, Bool.and_false, Bool.true_and, Bool.false_and, Bool.false_or, Sx.unT, Sx.unF] at q4); have q5 := h40; (try simp only [Sx.emp_iff] at q5); (try simp only [Bool.and_eq_true, Bool.or_eq_true, Bool.not_eq_true', Bool.and_eq_false_iff, Bool.or_eq_false_iff, Bool.not_eq_false', decide_eq_true_eq, decide_eq_false_iff_not, beq_iff_eq, beq_eq_false_iff_ne, ne_eq, Sx.idF, Sx.idT, Sx.inI, List.any_cons, List.any_nil, Bool.or_false, Sx.zerT, Sx.zerF, Bool.not_false, Bool.not_true, Bool.and_true, Bool.and_false, Bool.true_and, Bool.false_and, Bool.false_or, Sx.unT, Sx.unF] at q5); have q6 := h45; (try simp only [Sx.emp_iff] at q6); (try simp only [Bool.and_eq_true, Bool.or_eq_true, Bool.not_eq_true', Bool.and_eq_false_iff, Bool.or_eq_false_iff, Bool.not_eq_false', decide_eq_true_eq, decide_eq_false_iff_not, beq_iff_eq, beq_eq_false_iff_ne, ne_eq, Sx.idF, Sx.idT, Sx.inI, List.any_cons, List.any_nil, Bool.or_false, Sx.zerT, Sx.zerF, Bool.not_false, Bool.not_true, Bool.and_true, Bool.and_false, Bool.true_and, Bool.false_and, Bool.false_or, Sx.unT, Sx.unF] at q6); unfold Sx.rstpE; (repeat (first | rw [if_pos (by omega)] | rw [if_neg (by omega)])); (try rfl); done)
              ·
                have p45 := (eq_f h45)
                refine WC.seq (fun K57 k57 => ?_)
                refine WC.region rfl ?_
                refine WL.yld rfl (blt rfl) rfl (Y.eql rfl rfl rfl) ?_
                refine WL.yld rfl (blt rfl) rfl (Y.assign rfl rfl) ?_
                refine WL.nil ?_
                refine WK.then_normal (k57 _ _ ?_)
                refine WC.sub [(1, _), (65, _)] ⟨rfl, rfl, trivial⟩ ?_
                refine WC.cond rfl (fun h58 => ?_) (fun h58 => ?_)
                ·
                  have p58 := (eq_t h58)
                  refine WC.seq (fun K59 k59 => ?_)
                  refine WC.seq (fun K60 k60 => ?_)
                  refine WC.region rfl ?_
                  refine WL.yld rfl (blt rfl) rfl (Y.fieldAddr rfl Try.underlying41 rfl ti3 (by decide) rfl) ?_
                  refine WL.yld rfl (blt rfl) rfl (Y.load1 rfl Try.underlying3 rfl rfl (Blk.at_eq m6 rfl)) ?_
                  refine WL.yld rfl (blt rfl) rfl (Y.lss rfl rfl rfl) ?_
                  refine WL.yld rfl (blt rfl) rfl (Y.move rfl rfl) ?_
                  refine WL.yldG rfl (blt rfl) rfl rfl rfl (fun hb => Y.fieldAddr rfl Try.underlying41 rfl ti3 (by decide) rfl) ?_
                  refine WL.yldG rfl (blt rfl) rfl rfl rfl (fun hb => Y.load1 rfl Try.underlying3 rfl (evg rfl hb) (Blk.at_eq m6 rfl)) ?_
                  refine WL.yldG rfl (blt rfl) rfl rfl rfl (fun hb => Y.gtr rfl (evg rfl hb) rfl) ?_
                  refine WL.yld rfl (blt rfl) rfl (Y.or rfl rfl rfl rfl) ?_
                  refine WL.nil ?_
                  refine WK.then_normal (k60 _ _ ?_)
                  refine WC.sub [(74, _)] ⟨rfl, trivial⟩ ?_
                  refine WC.cond rfl (fun h61 => ?_) (fun h61 => ?_)
                  ·
                    have p61 := ((or_t h61).imp (fun h => (dec_t h)) (fun h => (dec_t h)))
                    refine WC.seq (fun K62 k62 => ?_)
                    refine WC.region rfl ?_
                    refine WL.yld rfl (blt rfl) rfl (Y.assign rfl rfl) ?_
                    refine WL.nil ?_
                    refine WK.then_normal (k62 _ _ ?_)
                    refine WC.sub [(2, _)] ⟨rfl, trivial⟩ ?_
                    refine WC.ret ?_
                    refine WK.then_ret ?_
                    refine WK.in_ret ?_
                    refine WK.then_ret ?_
                    clear k1 k7 k8 k13 k14 k15 k20 k23 k24 k27 k28 k29 k34 k39 k44 k57 k59 k60 k62
                    refine WK.ret [_] rfl ⟨rfl, trivial⟩ ?_
                    refine ⟨ret1 (vi ?_), xW⟩
                    first | (exfalso; revert h11; simp; done) | (exfalso; revert h18; simp; done) | (exfalso; revert h25; simp; done) | (exfalso; revert h30; simp; done) | (exfalso; revert h35; simp; done) | (exfalso; revert h40; simp; done) | (exfalso; revert h45; simp; done) | (exfalso; revert h58; simp; done) | (exfalso; revert h61; simp; done) | (have q0 := h11; (try simp only [Sx.emp_iff] at q0); (try simp only [Bool.and_eq_true, Bool.or_eq_true, Bool.not_eq_true', Bool.and_eq_false_iff, Bool.or_eq_false_iff, Bool.not_eq_false', decide_eq_true_eq, decide_eq_false_iff_not, beq_iff_eq, beq_eq_false_iff_ne, ne_eq, Sx.idF, Sx.idT, Sx.inI, List.any_cons, List.any_nil, Bool.or_false, Sx.zerT, Sx.zerF, Bool.not_false, Bool.not_true, Bool.and_true, Bool.and_false, Bool.true_and, Bool.false_and, Bool.false_or, Sx.unT, Sx.unF] at q0); have q1 := h18; (try simp only [Sx.emp_iff] at q1); (try simp only [Bool.and_eq_true, Bool.or_eq_true, Bool.not_eq_true', Bool.and_eq_false_iff, Bool.or_eq_false_iff, Bool.not_eq_false', decide_eq_true_eq, decide_eq_false_iff_not, beq_iff_eq, beq_eq_false_iff_ne, ne_eq, Sx.idF, Sx.idT, Sx.inI, List.any_cons, List.any_nil, Bool.or_false, Sx.zerT, Sx.zerF, Bool.not_false, Bool.not_true, Bool.and_true, Bool.and_false, Bool.true_and, Bool.false_and, Bool.false_or, Sx.unT, Sx.unF] at q1); have q2 := h25; (try simp only [Sx.emp_iff] at q2); (try simp only [Bool.and_eq_true, Bool.or_eq_true, Bool.not_eq_true', Bool.and_eq_false_iff, Bool.or_eq_false_iff, Bool.not_eq_false', decide_eq_true_eq, decide_eq_false_iff_not, beq_iff_eq, beq_eq_false_iff_ne, ne_eq, Sx.idF, Sx.idT, Sx.inI, List.any_cons, List.any_nil, Bool.or_false, Sx.zerT, Sx.zerF, Bool.not_false, Bool.not_true, Bool.and_true, Bool.and_false, Bool.true_and, Bool.false_and, Bool.false_or, Sx.unT, Sx.unF] at q2); have q3 := h30; (try simp only [Sx.emp_iff] at q3); (try simp only [Bool.and_eq_true, Bool.or_eq_true, Bool.not_eq_true', Bool.and_eq_false_iff, Bool.or_eq_false_iff, Bool.not_eq_false', decide_eq_true_eq, decide_eq_false_iff_not, beq_iff_eq, beq_eq_false_iff_ne, ne_eq, Sx.idF, Sx.idT, Sx.inI, List.any_cons, List.any_nil, Bool.or_false, Sx.zerT, Sx.zerF, Bool.not_false, Bool.not_true, Bool.and_true, Bool.and_false, Bool.true_and, Bool.false_and, Bool.false_or, Sx.unT, Sx.unF] at q3); have q4 := h35; (try simp only [Sx.emp_iff] at q4); (try simp only [Bool.and_eq_true, Bool.or_eq_true, Bool.not_eq_true', Bool.and_eq_false_iff, Bool.or_eq_false_iff, Bool.not_eq_false', decide_eq_true_eq, decide_eq_false_iff_not, beq_iff_eq, beq_eq_false_iff_ne, ne_eq, Sx.idF, Sx.idT, Sx.inI, List.any_cons, List.any_nil, Bool.or_false, Sx.zerT, Sx.zerF, Bool.not_false, Bool.not_true, Bool.and_true, Bool.and_false, Bool.true_and, Bool.false_and, Bool.false_or, Sx.unT, Sx.unF] at q4); have q5 := h40; (try simp only [Sx.emp_iff] at q5); (try simp only [Bool.and_eq_true, Bool.or_eq_true, Bool.not_eq_true', Bool.and_eq_false_iff, Bool.or_eq_false_iff, Bool.not_eq_false', decide_eq_true_eq, decide_eq_false_iff_not, beq_iff_eq, beq_eq_false_iff_ne, ne_eq, Sx.idF, Sx.idT, Sx.inI, List.any_cons, List.any_nil, Bool.or_false, Sx.zerT, Sx.zerF, Bool.not_false, Bool.not_true, Bool.and_true, Bool.and_false, Bool.true_and, Bool.false_and, Bool.false_or, Sx.unT, Sx.unF] at q5); have q6 := h45; (try simp only [Sx.emp_iff] at q6); (try simp only [Bool.and_eq_true, Bool.or_eq_true, Bool.not_eq_true', Bool.and_eq_false_iff, Bool.or_eq_false_iff, Bool.not_eq_false', decide_eq_true_eq, decide_eq_false_iff_not, beq_iff_eq, beq_eq_false_iff_ne, ne_eq, Sx.idF, Sx.idT, Sx.inI, List.any_cons, List.any_nil, Bool.or_false, Sx.zerT, Sx.zerF, Bool.not_false, Bool.not_true, Bool.and_true, Bool.and_false, Bool.true_and, Bool.false_and, Bool.false_or, Sx.unT, Sx.unF] at q6); have q7 := h58; (try simp only [Sx.emp_iff] at q7); (try simp only [Bool.and_eq_true, Bool.or_eq_true, Bool.not_eq_true', Bool.and_eq_false_iff, Bool.or_eq_false_iff, Bool.not_eq_false', decide_eq_true_eq, decide_eq_false_iff_not, beq_iff_eq, beq_eq_false_iff_ne, ne_eq, Sx.idF, Sx.idT, Sx.inI, List.any_cons, List.any_nil, Bool.or_false, Sx.zerT, Sx.zerF, Bool.not_false, Bool.not_true, Bool.and_true, Bool.and_false, Bool.true_and, Bool.false_and, Bool.false_or, Sx.unT, Sx.unF] at q7); have q8 := h61; (try simp only [Sx.emp_iff] at q8); (try simp only [Bool.and_eq_true, Bool.or_eq_true, Bool.not_eq_true', Bool.and_eq_false_iff, Bool.or_eq_false_iff, Bool.not_eq_false', decide_eq_true_eq, decide_eq_false_iff_not, beq_iff_eq, beq_eq_false_iff_ne, ne_eq, Sx.idF, Sx.idT, Sx.inI, List.any_cons, List.any_nil, Bool.or_false, Sx.zerT, Sx.zerF, Bool.not_false, Bool.not_true, Bool.and_true, Bool.and_false, Bool.true_and, Bool.false_and, Bool.false_or, Sx.unT, Sx.unF] at q8); unfold Sx.rstpE; (repeat (first | rw [if_pos (by omega)] | rw [if_neg (by omega)])); (try rfl); done)
                  ·
                    have p61 := (And.intro (dec_f (or_f h61).1) (dec_f (or_f h61).2))
                    refine WC.skip ?_
                    refine WK.then_normal (k59 _ _ ?_)
                    refine WC.sub [] trivial ?_
                    refine WC.seq (fun K63 k63 => ?_)
                    refine WC.region rfl ?_
                    refine WL.yld rfl (blt rfl) rfl (Y.assign rfl rfl) ?_
                    refine WL.nil ?_
                    refine WK.then_normal (k63 _ _ ?_)
                    refine WC.ret ?_
                    refine WK.in_ret ?_
                    refine WK.then_ret ?_
                    clear k1 k7 k8 k13 k14 k15 k20 k23 k24 k27 k28 k29 k34 k39 k44 k57 k59 k60 k63
                    refine WK.ret [_] rfl ⟨rfl, trivial⟩ ?_
                    refine ⟨ret1 (vi ?_), xW⟩
                    first | (exfalso; revert h11; simp; done) | (exfalso; revert h18; simp; done) | (exfalso; revert h25; simp; done) | (exfalso; revert h30; simp; done) | (exfalso; revert h35; simp; done) | (exfalso; revert h40; simp; done) | (exfalso; revert h45; simp; done) | (exfalso; revert h58; simp; done) | (exfalso; revert h61; simp; done) | (have q0 := h11; (try simp only [Sx.emp_iff] at q0); (try simp only [Bool.and_eq_true, Bool.or_eq_true, Bool.not_eq_true', Bool.and_eq_false_iff, Bool.or_eq_false_iff, Bool.not_eq_false', decide_eq_true_eq, decide_eq_false_iff_not, beq_iff_eq, beq_eq_false_iff_ne, ne_eq, Sx.idF, Sx.idT, Sx.inI, List.any_cons, List.any_nil, Bool.or_false, Sx.zerT, Sx.zerF, Bool.not_false, Bool.not_true, Bool.and_true, Bool.and_false, Bool.true_and, Bool.false_and, Bool.false_or, Sx.unT, Sx.unF] at q0); have q1 := h18; (try simp only [Sx.emp_iff] at q1); (try simp only [Bool.and_eq_true, Bool.or_eq_true, Bool.not_eq_true', Bool.and_eq_false_iff, Bool.or_eq_false_iff, Bool.not_eq_false', decide_eq_true_eq, decide_eq_false_iff_not, beq_iff_eq, beq_eq_false_iff_ne, ne_eq, Sx.idF, Sx.idT, Sx.inI, List.any_cons, List.any_nil, Bool.or_false, Sx.zerT, Sx.zerF, Bool.not_false, Bool.not_true, Bool.and_true, Bool.and_false, Bool.true_and, Bool.false_and, Bool.false_or, Sx.unT, Sx.unF] at q1); have q2 := h25; (try simp only [Sx.emp_iff] at q2); (try simp only [Bool.and_eq_true, Bool.or_eq_true, Bool.not_eq_true', Bool.and_eq_false_iff, Bool.or_eq_false_iff, Bool.not_eq_false', decide_eq_true_eq, decide_eq_false_iff_not, beq_iff_eq, beq_eq_false_iff_ne, ne_eq, Sx.idF, Sx.idT, Sx.inI, List.any_cons, List.any_nil, Bool.or_false, Sx.zerT, Sx.zerF, Bool.not_false, Bool.not_true, Bool.and_true, Bool.and_false, Bool.true_and, Bool.false_and, Bool.false_or, Sx.unT, Sx.unF] at q2); have q3 := h30; (try simp only [Sx.emp_iff] at q3); (try simp only [Bool.and_eq_true, Bool.or_eq_true, Bool.not_eq_true', Bool.and_eq_false_iff, Bool.or_eq_false_iff, Bool.not_eq_false', decide_eq_true_eq, decide_eq_false_iff_not, beq_iff_eq, beq_eq_false_iff_ne, ne_eq, Sx.idF, Sx.idT, Sx.inI, List.any_cons, List.any_nil, Bool.or_false, Sx.zerT, Sx.zerF, Bool.not_false, Bool.not_true, Bool.and_true, Bool.and_false, Bool.true_and, Bool.false_and, Bool.false_or, Sx.unT, Sx.unF] at q3); have q4 := h35; (try simp only [Sx.emp_iff] at q4); (try simp only [Bool.and_eq_true, Bool.or_eq_true, Bool.not_eq_true', Bool.and_eq_false_iff, Bool.or_eq_false_iff, Bool.not_eq_false', decide_eq_true_eq, decide_eq_false_iff_not, beq_iff_eq, beq_eq_false_iff_ne, ne_eq, Sx.idF, Sx.idT, Sx.inI, List.any_cons, List.any_nil, Bool.or_false, Sx.zerT, Sx.zerF, Bool.not_false, Bool.not_true, Bool.and_true, Bool.and_false, Bool.true_and, Bool.false_and, Bool.false_or, Sx.unT, Sx.unF] at q4); have q5 := h40; (try simp only [Sx.emp_iff] at q5); (try simp only [Bool.and_eq_true, Bool.or_eq_true, Bool.not_eq_true', Bool.and_eq_false_iff, Bool.or_eq_false_iff, Bool.not_eq_false', decide_eq_true_eq, decide_eq_false_iff_not, beq_iff_eq, beq_eq_false_iff_ne, ne_eq, Sx.idF, Sx.idT, Sx.inI, List.any_cons, List.any_nil, Bool.or_false, Sx.zerT, Sx.zerF, Bool.not_false, Bool.not_true, Bool.and_true, Bool.and_false, Bool.true_and, Bool.false_and, Bool.false_or, Sx.unT, Sx.unF] at q5); have q6 := h45; (try simp only [Sx.emp_iff] at q6); (try simp only [Bool.and_eq_true, Bool.or_eq_true, Bool.not_eq_true', Bool.and_eq_false_iff, Bool.or_eq_false_iff, Bool.not_eq_false', decide_eq_true_eq, decide_eq_false_iff_not, beq_iff_eq, beq_eq_false_iff_ne, ne_eq, Sx.idF, Sx.idT, Sx.inI, List.any_cons, List.any_nil, Bool.or_false, Sx.zerT, Sx.zerF, Bool.not_false, Bool.not_true, Bool.and_true, Bool.and_false, Bool.true_and, Bool.false_and, Bool.false_or, Sx.unT, Sx.unF] at q6); have q7 := h58; (try simp only [Sx.emp_iff] at q7); (try simp only [Bool.and_eq_true, Bool.or_eq_true, Bool.not_eq_true', Bool.and_eq_false_iff, Bool.or_eq_false_iff, Bool.not_eq_false', decide_eq_true_eq, decide_eq_false_iff_not, beq_iff_eq, beq_eq_false_iff_ne, ne_eq, Sx.idF, Sx.idT, Sx.inI, List.any_cons, List.any_nil, Bool.or_false, Sx.zerT, Sx.zerF, Bool.not_false, Bool.not_true, Bool.and_true, Bool.and_false, Bool.true_and, Bool.false_and, Bool.false_or, Sx.unT, Sx.unF] at q7); have q8 := h61; (try simp only [Sx.emp_iff] at q8); (try simp only [Bool.and_eq_true, Bool.or_eq_true, Bool.not_eq_true', Bool.and_eq_false_iff, Bool.or_eq_false_iff, Bool.not_eq_false', decide_eq_true_eq, decide_eq_false_iff_not, beq_iff_eq, beq_eq_false_iff_ne, ne_eq, Sx.idF, Sx.idT, Sx.inI, List.any_cons, List.any_nil, Bool.or_false, Sx.zerT, Sx.zerF, Bool.not_false, Bool.not_true, Bool.and_true, Bool.and_false, Bool.true_and, Bool.false_and, Bool.false_or, Sx.unT, Sx.unF] at q8); unfold Sx.rstpE; (repeat (first | rw [if_pos (by omega)] | rw [if_neg (by omega)])); (try rfl); done)
                ·
                  have p58 := (eq_f h58)
                  refine WC.skip ?_
                  refine WK.in_normal ?_
                  refine WK.then_normal (k27 _ _ ?_)
                  refine WC.sub [(1, _)] ⟨rfl, trivial⟩ ?_
                  refine WC.seq (fun K64 k64 => ?_)
                  refine WC.region rfl ?_
                  refine WL.yld rfl (blt rfl) rfl (Y.fieldAddr rfl Try.underlying41 rfl ti34 (by decide) rfl) ?_
                  refine WL.yld rfl (blt rfl) rfl (Y.load1 rfl Try.underlying34 rfl rfl (Blk.at_eq m6 rfl)) ?_
                  refine WL.call rfl (blt rfl) rfl rfl rfl has46 rfl (names_any _ _ _ _ _ (g_s.cl.ext xW) f_s.cs) ?_
                  rintro _ w65 ⟨rfl, x66⟩
                  refine ⟨_, rfl, ?_⟩
                  have m6 := m6.ext x66
                  have xW := Ext.trans xW x66
                  refine WL.yld rfl (blt rfl) rfl (Y.assign rfl rfl) ?_
                  refine WL.nil ?_
                  refine WK.then_normal (k64 _ _ ?_)
                  refine WC.sub [(2, _)] ⟨rfl, trivial⟩ ?_
                  refine WC.ret ?_
                  clear k1 k7 k8 k13 k14 k15 k20 k23 k24 k27 k28 k29 k34 k39 k44 k57 k64
                  refine WK.ret [_] rfl ⟨rfl, trivial⟩ ?_
                  refine ⟨ret1 (vi ?_), xW⟩
                  first | (exfalso; revert h11; simp; done) | (exfalso; revert h18; simp; done) | (exfalso; revert h25; simp; done) | (exfalso; revert h30; simp; done) | (exfalso; revert h35; simp; done) | (exfalso; revert h40; simp; done) | (exfalso; revert h45; simp; done) | (exfalso; revert h58; simp; done) | (have q0 := h11; (try simp only [Sx.emp_iff] at q0); (try simp only [Bool.and_eq_true, Bool.or_eq_true, Bool.not_eq_true', Bool.and_eq_false_iff, Bool.or_eq_false_iff, Bool.not_eq_false', decide_eq_true_eq, decide_eq_false_iff_not, beq_iff_eq, beq_eq_false_iff_ne, ne_eq, Sx.idF, Sx.idT, Sx.inI, List.any_cons, List.any_nil, Bool.or_false, Sx.zerT, Sx.zerF, Bool.not_false, Bool.not_true, Bool.and_true, Bool.and_false, Bool.true_and, Bool.false_and, Bool.false_or, Sx.unT, Sx.unF] at q0); have q1 := h18; (try simp only [Sx.emp_iff] at q1); (try simp only [Bool.and_eq_true, Bool.or_eq_true, Bool.not_eq_true', Bool.and_eq_false_iff, Bool.or_eq_false_iff, Bool.not_eq_false', decide_eq_true_eq, decide_eq_false_iff_not, beq_iff_eq, beq_eq_false_iff_ne, ne_eq, Sx.idF, Sx.idT, Sx.inI, List.any_cons, List.any_nil, Bool.or_false, Sx.zerT, Sx.zerF, Bool.not_false, Bool.not_true, Bool.and_true, Bool.and_false, Bool.true_and, Bool.false_and, Bool.false_or, Sx.unT, Sx.unF] at q1); have q2 := h25; (try simp only [Sx.emp_iff] at q2); (try simp only [Bool.and_eq_true, Bool.or_eq_true, Bool.not_eq_true', Bool.and_eq_false_iff, Bool.or_eq_false_iff, Bool.not_eq_false', decide_eq_true_eq, decide_eq_false_iff_not, beq_iff_eq, beq_eq_false_iff_ne, ne_eq, Sx.idF, Sx.idT, Sx.inI, List.any_cons, List.any_nil, Bool.or_false, Sx.zerT, Sx.zerF, Bool.not_false, Bool.not_true, Bool.and_true, Bool.and_false, Bool.true_and, Bool.false_and, Bool.false_or, Sx.unT, Sx.unF] at q2); have q3 := h30; (try simp only [Sx.emp_iff] at q3); (try simp only [Bool.and_eq_true, Bool.or_eq_true, Bool.not_eq_true', Bool.and_eq_false_iff, Bool.or_eq_false_iff, Bool.not_eq_false', decide_eq_true_eq, decide_eq_false_iff_not, beq_iff_eq, beq_eq_false_iff_ne, ne_eq, Sx.idF, Sx.idT, Sx.inI, List.any_cons, List.any_nil, Bool.or_false, Sx.zerT, Sx.zerF, Bool.not_false, Bool.not_true, Bool.and_true, Bool.and_false, Bool.true_and, Bool.false_and, Bool.false_or, Sx.unT, Sx.unF] at q3); have q4 := h35; (try simp only [Sx.emp_iff] at q4); (try simp only [Bool.and_eq_true, Bool.or_eq_true, Bool.not_eq_true', Bool.and_eq_false_iff, Bool.or_eq_false_iff, Bool.not_eq_false', decide_eq_true_eq, decide_eq_false_iff_not, beq_iff_eq, beq_eq_false_iff_ne, ne_eq, Sx.idF, Sx.idT, Sx.inI, List.any_cons, List.any_nil, Bool.or_false, Sx.zerT, Sx.zerF, Bool.not_false, Bool.not_true, Bool.and_true, Bool.and_false, Bool.true_and, Bool.false_and, Bool.false_or, Sx.unT, Sx.unF] at q4); have q5 := h40; (try simp only [Sx.emp_iff] at q5); (try simp only [Bool.and_eq_true, Bool.or_eq_true, Bool.not_eq_true', Bool.and_eq_false_iff, Bool.or_eq_false_iff, Bool.not_eq_false', decide_eq_true_eq, decide_eq_false_iff_not, beq_iff_eq, beq_eq_false_iff_ne, ne_eq, Sx.idF, Sx.idT, Sx.inI, List.any_cons, List.any_nil, Bool.or_false, Sx.zerT, Sx.zerF, Bool.not_false, Bool.not_true, Bool.and_true, Bool.and_false, Bool.true_and, Bool.false_and, Bool.false_or, Sx.unT, Sx.unF] at q5); have q6 := h45; (try simp only [Sx.emp_iff] at q6); (try simp only [Bool.and_eq_true, Bool.or_eq_true, Bool.not_eq_true', Bool.and_eq_false_iff, Bool.or_eq_false_iff, Bool.not_eq_false', decide_eq_true_eq, decide_eq_false_iff_not, beq_iff_eq, beq_eq_false_iff_ne, ne_eq, Sx.idF, Sx.idT, Sx.inI, List.any_cons, List.any_nil, Bool.or_false, Sx.zerT, Sx.zerF, Bool.not_false, Bool.not_true, Bool.and_true, Bool.and_false, Bool.true_and, Bool.false_and, Bool.false_or, Sx.unT, Sx.unF] at q6); have q7 := h58; (try simp only [Sx.emp_iff] at q7); (try simp only [Bool.and_eq_true, Bool.or_eq_true, Bool.not_eq_true', Bool.and_eq_false_iff, Bool.or_eq_false_iff, Bool.not_eq_false', decide_eq_true_eq, decide_eq_false_iff_not, beq_iff_eq, beq_eq_false_iff_ne, ne_eq, Sx.idF, Sx.idT, Sx.inI, List.any_cons, List.any_nil, Bool.or_false, Sx.zerT, Sx.zerF, Bool.not_false, Bool.not_true, Bool.and_true, Bool.and_false, Bool.true_and, Bool.false_and, Bool.false_or, Sx.unT, Sx.unF] at q7); unfold Sx.rstpE; (repeat (first | rw [if_pos (by omega)] | rw [if_neg (by omega)])); (try rfl); done)
end T
end SxW

end Go.Proofs.Ytklccakoblibmaa
