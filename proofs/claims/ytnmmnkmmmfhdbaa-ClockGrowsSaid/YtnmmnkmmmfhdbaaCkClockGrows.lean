/- The walk of the law. Conditions: what each theorem states. -/
import Derived.Test.YtnmmnkmmmfhdbaaCkRPts
namespace Go.Proofs.Ytnmmnkmmmfhdbaa
open Go Go.Eng Go.RowKit
set_option linter.unusedVariables false
namespace CkW
open R P K V RP
namespace LClockGrows
theorem ti37 : TI Try.prog 37 (.agg #[.int .i64 0, .int .i64 0, .int .i64 0, .int .i64 0, .int .i64 0]) 5 40 := TI.mk (by kernel_rfl)
theorem has10 : Has Try.prog 10 := ⟨_, Try.func10, rfl, by kernel_rfl⟩
theorem has11 : Has Try.prog 11 := ⟨_, Try.func11, rfl, by kernel_rfl⟩
theorem has13 : Has Try.prog 13 := ⟨_, Try.func13, rfl, by kernel_rfl⟩
theorem has16 : Has Try.prog 16 := ⟨_, Try.func16, rfl, by kernel_rfl⟩
theorem ClockGrows_any (A_d : Option Addr) (n_d c_d : Nat) (d : List Ck.Dom) (A_l : Option Addr) (n_l c_l : Nat) (l : List Ck.Snap) (x : Ck.Snap) (w : World) (h_d : Ls w A_d n_d c_d Ck.Dom.c 2 d) (h_l : Ls w A_l n_l c_l Ck.Snap.c 5 l) :
    Calls Try.prog 7 #[.slice A_d n_d c_d, .slice A_l n_l c_l, .agg #[.int .i64 x.a, .int .i64 x.ata, .int .i64 x.b, .int .i64 x.lo, .int .i64 x.hi]] w fun e w' => e = .returned (.bool true) ∧ Ext w w' := by
  have xW := Ext.refl w
  have e_d := h_d.len
  have z_d := h_d.nle
  have e_l := h_l.len
  have z_l := h_l.nle
  refine calls_of_WC (args := [.slice A_d n_d c_d, .slice A_l n_l c_l, .agg #[.int .i64 x.a, .int .i64 x.ata, .int .i64 x.b, .int .i64 x.lo, .int .i64 x.hi]]) Try.func7 rfl rfl (ble rfl) ?_
  refine WC.seq (fun K1 k1 => ?_)
  refine WC.region rfl ?_
  refine WL.box rfl (blt rfl) rfl rfl rfl rfl ?_
  intro g2 w3 e4 x5 m6
  have o_g2 := own_new xW e4
  have xW := Ext.trans xW x5
  refine WL.yld rfl (blt rfl) rfl (Y.assign rfl rfl) ?_
  refine WL.nil ?_
  refine WK.then_normal (k1 _ _ ?_)
  refine WC.sub [(0, _), (1, _), (5, _)] ⟨rfl, rfl, rfl, trivial⟩ ?_
  refine WC.seq (fun K7 k7 => ?_)
  refine WC.seq (fun K8 k8 => ?_)
  refine WC.region rfl ?_
  refine WL.yld rfl (blt rfl) rfl (Y.move rfl rfl) ?_
  refine WL.yld rfl (blt rfl) rfl (Y.move rfl rfl) ?_
  refine WL.call rfl (blt rfl) rfl rfl rfl has10 rfl (few_any _ _ _ _ _ _ _ _ _ (h_d.ext xW) (h_l.ext xW)) ?_
  rintro _ w9 ⟨rfl, x10⟩
  refine ⟨_, rfl, ?_⟩
  have m6 := m6.ext x10
  have xW := Ext.trans xW x10
  refine WL.yld rfl (blt rfl) rfl (Y.not rfl rfl) ?_
  refine WL.nil ?_
  refine WK.then_normal (k8 _ _ ?_)
  refine WC.sub [(0, _), (1, _), (5, _), (15, _)] ⟨rfl, rfl, rfl, rfl, trivial⟩ ?_
  refine WC.cond rfl (fun h11 => ?_) (fun h11 => ?_)
  ·
    have p11 := ((and_f (not_t h11)).imp (fun h => (dec_f h)) (fun h => (dec_f h)))
    refine WC.seq (fun K12 k12 => ?_)
    refine WC.region rfl ?_
    refine WL.call rfl (blt rfl) rfl rfl rfl has11 rfl (lives_any _ ) ?_
    rintro _ w13 ⟨rfl, x14⟩
    refine ⟨_, rfl, ?_⟩
    have m6 := m6.ext x14
    have xW := Ext.trans xW x14
    refine WL.yld rfl (blt rfl) rfl (Y.assign rfl rfl) ?_
    refine WL.nil ?_
    refine WK.then_normal (k12 _ _ ?_)
    refine WC.sub [(6, _)] ⟨rfl, trivial⟩ ?_
    refine WC.ret ?_
    refine WK.then_ret ?_
    clear k1 k7 k8 k12
    refine WK.ret [_] rfl ⟨rfl, trivial⟩ ?_
    exact ⟨ret1 (vb rfl), xW⟩
  ·
    have p11 := (And.intro (dec_t (and_t (not_f h11)).1) (dec_t (and_t (not_f h11)).2))
    refine WC.skip ?_
    refine WK.then_normal (k7 _ _ ?_)
    refine WC.sub [(0, _), (1, _), (5, _)] ⟨rfl, rfl, rfl, trivial⟩ ?_
    refine WC.seq (fun K15 k15 => ?_)
    refine WC.cut [(0, _), (1, _)] (fun W' => Ext w W' ∧ Blk W' g2 37 _) (fun Eo W' => ∃ v18 : Value, Eo = [(7, v18)] ∧ OwnL W' w.heap.size 37 Ck.Snap.c 5 v18 ((([] ++ l) ++ [x])) ∧ v18.ownBlock ≠ some g2) ⟨rfl, rfl, trivial⟩ ⟨xW, m6⟩ ?_ ?_
    rotate_left
    · rintro _ w19 ⟨v18, rfl, ow_v18, r_v18_g2⟩ ⟨xW, m6⟩
      refine WK.then_normal (k15 _ _ ?_)
      refine WC.seq (fun K20 k20 => ?_)
      refine WC.region rfl ?_
      refine WL.yld rfl (blt rfl) rfl (Y.assign rfl rfl) ?_
      refine WL.nil ?_
      refine WK.then_normal (k20 _ _ ?_)
      refine WC.seq (fun K21 k21 => ?_)
      refine WC.seq (fun K22 k22 => ?_)
      refine WC.region rfl ?_
      refine WL.yld rfl (blt rfl) rfl (Y.move rfl rfl) ?_
      obtain ⟨A23, n24, c25, rfl, hl26⟩ := OwnL.opened ow_v18 (fun _ => rfl) (by decide)
      have e_n24 := hl26.len
      try simp only [List.length_append, List.length_cons, List.length_nil, List.length_reverse, List.length_drop, List.length_take] at e_n24
      have z_n24 := hl26.nle
      refine WL.yld rfl (blt rfl) rfl (Y.lenSl rfl rfl rfl Try.underlying23 rfl) ?_
      refine WL.yld rfl (blt rfl) rfl (Y.sub rfl rfl rfl (wrap_i64 (by first | omega | (dsimp only; omega)))) ?_
      refine WL.yld rfl (blt rfl) rfl (Y.assign rfl rfl) ?_
      refine WL.nil ?_
      refine WK.then_normal (k22 _ _ ?_)
      refine WC.sub [(0, _), (1, _), (7, _), (8, _), (9, _)] ⟨rfl, rfl, rfl, rfl, rfl, trivial⟩ ?_
      refine WC.block ?_
      refine WC.sub [(9, _), (8, _), (0, _), (1, _), (7, _)] ⟨rfl, rfl, rfl, rfl, rfl, trivial⟩ ?_
      refine WC.loopS 2 (fun mz Ed W' => ∃ z : Int, ∃ b : Value, mz = (z + 1).toNat ∧ Ed = [(9, .int .i64 z), (8, b)] ∧ Ext w W' ∧ OwnL W' w.heap.size 37 Ck.Snap.c 5 (.slice A23 n24 c25) _ ∧ OwnL W' w.heap.size 37 Ck.Snap.c 5 b (((([] ++ l) ++ [x]).drop (z + 1).toNat).reverse) ∧ Apart b (.slice A23 n24 c25) ∧ (-1 ≤ z ∧ z < n24)) _ ⟨_, _, rfl, rfl, xW, ow_v18, (by rw [List.drop_of_length_le (by simp only [List.length_append, List.length_cons, List.length_nil]; omega)]; exact OwnL.nil_), Apart.nil_l, (by omega)⟩ ?_
      rintro _ _ w27 ⟨z, b, rfl, rfl, xW, ow_v18, ow_b, d_b_v18, le_z⟩
      refine WC.sub [(9, _), (8, _), (0, _), (1, _), (7, _)] ⟨rfl, rfl, rfl, rfl, rfl, trivial⟩ ?_
      have hl26 := OwnL.ls ow_v18 (fun _ => rfl) (by decide)
      refine WC.seq (fun K28 k28 => ?_)
      refine WC.seq (fun K29 k29 => ?_)
      refine WC.region rfl ?_
      refine WL.yld rfl (blt rfl) rfl (Y.move rfl rfl) ?_
      refine WL.yld rfl (blt rfl) rfl (Y.geq rfl rfl rfl) ?_
      refine WL.nil ?_
      refine WK.then_normal (k29 _ _ ?_)
      refine WC.sub [(0, _), (1, _), (7, _), (8, _), (9, _), (27, _)] ⟨rfl, rfl, rfl, rfl, rfl, rfl, trivial⟩ ?_
      refine WC.cond rfl (fun h30 => ?_) (fun h30 => ?_)
      ·
        have p30 := (dec_t h30)
        refine WC.skip ?_
        refine WK.then_normal (k28 _ _ ?_)
        refine WC.sub [(0, _), (1, _), (7, _), (8, _), (9, _)] ⟨rfl, rfl, rfl, rfl, rfl, trivial⟩ ?_
        refine WC.seq (fun K31 k31 => ?_)
        refine WC.block ?_
        refine WC.region rfl ?_
        refine WL.yld rfl (blt rfl) rfl (Y.move rfl rfl) ?_
        refine WL.yld rfl (blt rfl) rfl (Y.move rfl rfl) ?_
        refine WL.yld rfl (blt rfl) rfl (Y.move rfl rfl) ?_
        have b32 : z.toNat < n24 := by omega
        refine WL.yld rfl (blt rfl) rfl (Y.indexLs z.toNat hl26 rfl Try.underlying23 ti37 rfl rfl (by omega) b32) ?_
        refine WL.yld rfl (blt rfl) rfl (Y.loadS (cs := [_, _, _, _, _]) rfl Try.underlying37 rfl ti37 rfl (Ls.part_eq hl26 b32 rfl)) ?_
        refine WL.bslice (zs := [.int .i64 0, .int .i64 0, .int .i64 0, .int .i64 0, .int .i64 0]) (cs := [_, _, _, _, _]) rfl (blt rfl) rfl rfl Try.underlying23 ti37 rfl (ble rfl) (by kernel_rfl) rfl rfl ?_
        intro g33 w34 e35 x36 m37
        have r_v18_g33 := ne_newO ow_v18 e35
        have r_b_g33 := ne_newO ow_b e35
        have o_g33 := own_new xW e35
        have ow_v18 := ow_v18.ext x36
        have hl26 := hl26.ext x36
        have ow_b := ow_b.ext x36
        have xW := Ext.trans xW x36
        refine WL.appendB (f := Ck.Snap.c) (news := [(([] ++ l) ++ [x])[z.toNat]!]) rfl (blt rfl) rfl rfl rfl rfl Try.underlying23 ti37 rfl (by decide) rfl ow_b (fun _ => rfl) Ck.Snap.one m37 rfl xW.size (by have q0 := h_l.len; first | omega | (simp only [List.length_append, List.length_cons, List.length_nil, List.length_take, List.length_drop, List.length_reverse]; omega)) (Nat.le_trans (show _ ≤ 140737488355328 from by have q0 := h_l.len; first | omega | (simp only [List.length_append, List.length_cons, List.length_nil, List.length_take, List.length_drop, List.length_reverse]; omega)) (by decide)) (fun v38 w39 ow40 gr41 nb42 => ?_)
        have d_v18_v38 := (Apart.app d_b_v18 nb42 ow_v18).symm
        have ow_v18 := OwnL.grown ow_v18 gr41 d_b_v18
        have hl26 := OwnL.ls ow_v18 (fun _ => rfl) (by decide)
        have r_v38_g33 := ne_app nb42 r_b_g33 m37
        have m37 := m37.grown gr41 r_b_g33
        have xW := Ext.grown xW gr41 (fun b hb => (OwnL.lt ow_b hb).1)
        refine WL.yld rfl (blt rfl) rfl (Y.assign rfl rfl) ?_
        refine WL.nil ?_
        refine WK.in_normal ?_
        refine WK.then_normal (k31 _ _ ?_)
        refine WC.sub [(0, _), (1, _), (7, _), (8, _), (9, _)] ⟨rfl, rfl, rfl, rfl, rfl, trivial⟩ ?_
        refine WC.region rfl ?_
        refine WL.yld rfl (blt rfl) rfl (Y.move rfl rfl) ?_
        refine WL.yld rfl (blt rfl) rfl (Y.sub rfl rfl rfl (wrap_i64 (by first | omega | (dsimp only; omega)))) ?_
        refine WL.yld rfl (blt rfl) rfl (Y.assign rfl rfl) ?_
        refine WL.nil ?_
        refine WK.roundS _ [(9, .int .i64 _), (8, v38)] ⟨rfl, rfl, rfl, rfl, rfl, trivial⟩ ?_ ⟨_, v38, rfl, rfl, xW, ow_v18, (by rw [Ck.back_step (by omega) (by simp only [List.length_append, List.length_cons, List.length_nil]; omega)]; exact ow40), d_v18_v38.symm, (by omega)⟩
        show (_ - 1 + 1 : Int).toNat < (_ + 1 : Int).toNat; omega
      ·
        have p30 := (dec_f h30)
        refine WC.exit ?_
        refine WK.then_exit ?_
        refine WK.then_exit ?_
        refine WK.in_exit ?_
        refine WK.then_normal (k21 _ _ ?_)
        refine WC.sub [(0, _), (1, _), (7, _), (8, _)] ⟨rfl, rfl, rfl, rfl, trivial⟩ ?_
        refine WC.seq (fun K43 k43 => ?_)
        refine WC.seq (fun K44 k44 => ?_)
        refine WC.region rfl ?_
        refine WL.yld rfl (blt rfl) rfl (Y.move rfl rfl) ?_
        refine WL.yld rfl (blt rfl) rfl (Y.move rfl rfl) ?_
        refine WL.call rfl (blt rfl) rfl rfl rfl has13 rfl (rcheck_any _ _ _ _ _ _ _ _ _ (h_d.ext xW) hl26) ?_
        rintro _ w45 ⟨rfl, x46⟩
        refine ⟨_, rfl, ?_⟩
        have ow_v18 := ow_v18.ext x46
        have hl26 := hl26.ext x46
        have ow_b := ow_b.ext x46
        have xW := Ext.trans xW x46
        refine WL.yld rfl (blt rfl) rfl (Y.neq rfl rfl rfl) ?_
        refine WL.nil ?_
        refine WK.then_normal (k44 _ _ ?_)
        refine WC.sub [(0, _), (1, _), (7, _), (8, _), (40, _)] ⟨rfl, rfl, rfl, rfl, rfl, trivial⟩ ?_
        refine WC.cond rfl (fun h47 => ?_) (fun h47 => ?_)
        ·
          have p47 := (eq_f (not_t h47))
          refine WC.seq (fun K48 k48 => ?_)
          refine WC.region rfl ?_
          refine WL.call rfl (blt rfl) rfl rfl rfl has11 rfl (lives_any _ ) ?_
          rintro _ w49 ⟨rfl, x50⟩
          refine ⟨_, rfl, ?_⟩
          have ow_v18 := ow_v18.ext x50
          have hl26 := hl26.ext x50
          have ow_b := ow_b.ext x50
          have xW := Ext.trans xW x50
          refine WL.yld rfl (blt rfl) rfl (Y.assign rfl rfl) ?_
          refine WL.nil ?_
          refine WK.then_normal (k48 _ _ ?_)
          refine WC.sub [(6, _)] ⟨rfl, trivial⟩ ?_
          refine WC.ret ?_
          refine WK.then_ret ?_
          clear k1 k7 k8 k15 k20 k21 k22 k28 k29 k43 k44 k48
          refine WK.ret [_] rfl ⟨rfl, trivial⟩ ?_
          exact ⟨ret1 (vb rfl), xW⟩
        ·
          have p47 := (eq_t (not_f h47))
          have okM := eq_t (not_f h47)
          have zneg := h47
          refine WC.skip ?_
          refine WK.then_normal (k43 _ _ ?_)
          refine WC.sub [(0, _), (1, _), (7, _), (8, _)] ⟨rfl, rfl, rfl, rfl, trivial⟩ ?_
          refine WC.seq (fun K51 k51 => ?_)
          refine WC.seq (fun K52 k52 => ?_)
          refine WC.region rfl ?_
          refine WL.yld rfl (blt rfl) rfl (Y.assign rfl rfl) ?_
          refine WL.nil ?_
          refine WK.then_normal (k52 _ _ ?_)
          refine WC.block ?_
          refine WC.sub [(10, _), (0, _), (1, _), (7, _), (8, _)] ⟨rfl, rfl, rfl, rfl, rfl, trivial⟩ ?_
          refine WC.loopS 1 (fun mz Ed W' => ∃ i : Nat, mz = 8 - i ∧ Ed = [(10, .int .i64 ((i : Nat) : Int))] ∧ Ext w W' ∧ OwnL W' w.heap.size 37 Ck.Snap.c 5 (.slice A23 n24 c25) _ ∧ OwnL W' w.heap.size 37 Ck.Snap.c 5 b _ ∧ (i ≤ 8) ∧ (True)) _ ⟨0, rfl, rfl, xW, ow_v18, ow_b, (Nat.zero_le _), trivial⟩ ?_
          rintro _ _ w53 ⟨i, rfl, rfl, xW, ow_v18, ow_b, le_i, inv_i⟩
          refine WC.sub [(10, _), (0, _), (1, _), (7, _), (8, _)] ⟨rfl, rfl, rfl, rfl, rfl, trivial⟩ ?_
          have hl26 := OwnL.ls ow_v18 (fun _ => rfl) (by decide)
          refine WC.seq (fun K54 k54 => ?_)
          refine WC.seq (fun K55 k55 => ?_)
          refine WC.region rfl ?_
          refine WL.yld rfl (blt rfl) rfl (Y.move rfl rfl) ?_
          refine WL.yld rfl (blt rfl) rfl (Y.lss rfl rfl rfl) ?_
          refine WL.nil ?_
          refine WK.then_normal (k55 _ _ ?_)
          refine WC.sub [(0, _), (1, _), (7, _), (8, _), (10, _), (43, _)] ⟨rfl, rfl, rfl, rfl, rfl, rfl, trivial⟩ ?_
          refine WC.cond rfl (fun h56 => ?_) (fun h56 => ?_)
          ·
            have p56 := (dec_t h56)
            refine WC.skip ?_
            refine WK.then_normal (k54 _ _ ?_)
            refine WC.sub [(0, _), (1, _), (7, _), (8, _), (10, _)] ⟨rfl, rfl, rfl, rfl, rfl, trivial⟩ ?_
            refine WC.seq (fun K57 k57 => ?_)
            refine WC.block ?_
            refine WC.seq (fun K58 k58 => ?_)
            refine WC.region rfl ?_
            refine WL.yld rfl (blt rfl) rfl (Y.move rfl rfl) ?_
            refine WL.yld rfl (blt rfl) rfl (Y.move rfl rfl) ?_
            refine WL.yld rfl (blt rfl) rfl (Y.move rfl rfl) ?_
            refine WL.call rfl (blt rfl) rfl rfl rfl has16 rfl (linked_any _ _ _ _ _ _ _ _ _ _ (h_d.ext xW) hl26 (by omega)) ?_
            rintro _ w59 ⟨rfl, x60⟩
            refine ⟨_, rfl, ?_⟩
            have ow_v18 := ow_v18.ext x60
            have hl26 := hl26.ext x60
            have ow_b := ow_b.ext x60
            have xW := Ext.trans xW x60
            refine WL.yld rfl (blt rfl) rfl (Y.assign rfl rfl) ?_
            refine WL.nil ?_
            refine WK.then_normal (k58 _ _ ?_)
            refine WC.sub [(0, _), (1, _), (7, _), (8, _), (10, _), (11, _)] ⟨rfl, rfl, rfl, rfl, rfl, rfl, trivial⟩ ?_
            refine WC.seq (fun K61 k61 => ?_)
            refine WC.region rfl ?_
            refine WL.yld rfl (blt rfl) rfl (Y.move rfl rfl) ?_
            refine WL.yld rfl (blt rfl) rfl (Y.move rfl rfl) ?_
            refine WL.yld rfl (blt rfl) rfl (Y.move rfl rfl) ?_
            refine WL.call rfl (blt rfl) rfl rfl rfl has16 rfl (linked_any _ _ _ _ _ _ _ _ _ _ (h_d.ext xW) (h_l.ext xW) (by omega)) ?_
            rintro _ w62 ⟨rfl, x63⟩
            refine ⟨_, rfl, ?_⟩
            have ow_v18 := ow_v18.ext x63
            have hl26 := hl26.ext x63
            have ow_b := ow_b.ext x63
            have xW := Ext.trans xW x63
            refine WL.yld rfl (blt rfl) rfl (Y.move rfl rfl) ?_
            refine WL.yldG rfl (blt rfl) rfl rfl rfl (fun hb => Y.move rfl rfl) ?_
            refine WL.yldG rfl (blt rfl) rfl rfl rfl (fun hb => Y.not rfl (evg rfl hb)) ?_
            refine WL.yld rfl (blt rfl) rfl (Y.and rfl rfl rfl rfl) ?_
            refine WL.yld rfl (blt rfl) rfl (Y.move rfl rfl) ?_
            refine WL.yldG rfl (blt rfl) rfl rfl rfl (fun hb => Y.move rfl rfl) ?_
            refine WL.yldG rfl (blt rfl) rfl rfl rfl (fun hb => Y.move rfl rfl) ?_
            refine WL.yldG rfl (blt rfl) rfl rfl rfl (fun hb => Y.move rfl rfl) ?_
            obtain ⟨A64, n65, c66, rfl, hl67⟩ := OwnL.opened ow_b (fun _ => rfl) (by decide)
            have e_n65 := hl67.len
            try simp only [List.length_append, List.length_cons, List.length_nil, List.length_reverse, List.length_drop, List.length_take] at e_n65
            have z_n65 := hl67.nle
            refine WL.callG rfl (blt rfl) rfl rfl rfl rfl rfl has16 (fun hb => (evs_cons (evg rfl hb) (evs_cons (evg rfl hb) (evs_cons (evg rfl hb) evs_nil)))) (fun hb => linked_any _ _ _ _ _ _ _ _ _ _ (h_d.ext xW) hl67 (by omega)) (fun w68 x69 => ?_)
            have ow_v18 := ow_v18.ext x69
            have hl26 := hl26.ext x69
            have ow_b := ow_b.ext x69
            have hl67 := hl67.ext x69
            have xW := Ext.trans xW x69
            refine WL.yldG rfl (blt rfl) rfl rfl rfl (fun hb => Y.move rfl rfl) ?_
            refine WL.yldG rfl (blt rfl) rfl rfl rfl (fun hb => Y.neqB rfl Try.underlying4 (evg rfl hb) (evg rfl hb)) ?_
            refine WL.yld rfl (blt rfl) rfl (Y.or rfl rfl rfl rfl) ?_
            refine WL.nil ?_
            refine WK.then_normal (k61 _ _ ?_)
            refine WC.sub [(0, _), (1, _), (7, _), (8, _), (10, _), (65, _)] ⟨rfl, rfl, rfl, rfl, rfl, rfl, trivial⟩ ?_
            refine WC.cond rfl (fun h70 => ?_) (fun h70 => ?_)
            ·
              clear k1 k7 k8 k15 k20 k21 k22 k28 k29 k43 k44 k51 k52 k54 k55 k57 k58 k61
              exact (Ck.grows_no (Ck.grows_le okM) (Ck.grows_rev (by omega) okM) h70).elim
            ·
              refine WC.skip ?_
              refine WK.in_normal ?_
              refine WK.then_normal (k57 _ _ ?_)
              refine WC.sub [(0, _), (1, _), (7, _), (8, _), (10, _)] ⟨rfl, rfl, rfl, rfl, rfl, trivial⟩ ?_
              refine WC.region rfl ?_
              refine WL.yld rfl (blt rfl) rfl (Y.move rfl rfl) ?_
              refine WL.yld rfl (blt rfl) rfl (Y.add rfl rfl rfl (wrap_i64 (by first | omega | (dsimp only; omega)))) ?_
              refine WL.yld rfl (blt rfl) rfl (Y.assign rfl rfl) ?_
              refine WL.nil ?_
              refine WK.roundS _ [(10, .int .i64 (((i + 1) : Nat) : Int))] ⟨rfl, rfl, rfl, rfl, rfl, trivial⟩ ?_ ⟨(i + 1), rfl, rfl, xW, ow_v18, ow_b, (by omega), trivial⟩
              show _ - (i + 1) < _ - i; omega
          ·
            have p56 := (dec_f h56)
            refine WC.exit ?_
            refine WK.then_exit ?_
            refine WK.then_exit ?_
            refine WK.in_exit ?_
            refine WK.then_normal (k51 _ _ ?_)
            refine WC.sub [] trivial ?_
            refine WC.seq (fun K71 k71 => ?_)
            refine WC.region rfl ?_
            refine WL.call rfl (blt rfl) rfl rfl rfl has11 rfl (lives_any _ ) ?_
            rintro _ w72 ⟨rfl, x73⟩
            refine ⟨_, rfl, ?_⟩
            have xW := Ext.trans xW x73
            refine WL.yld rfl (blt rfl) rfl (Y.assign rfl rfl) ?_
            refine WL.nil ?_
            refine WK.then_normal (k71 _ _ ?_)
            refine WC.sub [(6, _)] ⟨rfl, trivial⟩ ?_
            refine WC.ret ?_
            clear k1 k7 k8 k15 k20 k21 k22 k28 k29 k43 k44 k51 k52 k54 k55 k71
            refine WK.ret [_] rfl ⟨rfl, trivial⟩ ?_
            exact ⟨ret1 (vb rfl), xW⟩
    refine WC.regionX (fun W' => Ext w W' ∧ Blk W' g2 37 _) (.load 1 (.load 3 (.alt 0 (.alt 2 (.alt 4 (.alt 5 (.load 6 (.fin)) (.none)) (.none)) (.alt 4 (.alt 2 (.alt 5 (.load 6 (.fin)) (.none)) (.none)) (.none))) (.alt 4 (.alt 0 (.alt 2 (.alt 5 (.load 6 (.fin)) (.none)) (.none)) (.none)) (.none))))) ⟨xW, m6⟩ (by kernel_rfl) (by kernel_rfl) (fun w16 x17 => ?_)
    have m6 := m6.ext x17
    have xW := Ext.trans xW x17
    refine WX.yld rfl rfl (blt rfl) rfl (Y.move rfl rfl) ?_
    refine WX.yld rfl rfl (blt rfl) rfl (Y.loadS rfl Try.underlying37 rfl ti37 rfl (Blk.row_c (fun _ h => h.2))) ?_
    refine WX.alt ?_ ?_
    ·
      refine WX.run rfl rfl (blt rfl) rfl ⟨xW, m6⟩ (Run.bslice0 rfl Try.underlying23 ti37) ?_
      rintro _ w75 ⟨g74, rfl, e76, x77, m78⟩
      have n_g2_g74 := ne_new m6 e76
      have o_g74 := own_new xW e76
      have m6 := m6.ext x77
      have xW := Ext.trans xW x77
      refine WX.alt ?_ ?_
      ·
        have ob79 := Blk.own (sz := 5) (f := Ck.Snap.c) (l := ([] : List Ck.Snap)) (base := w.heap.size) m78 o_g74 (fun _ => rfl) rfl (by decide) rfl
        refine WX.run rfl rfl (blt rfl) rfl ⟨xW, m6⟩ (Run.appendL (f := Ck.Snap.c) rfl rfl rfl Try.underlying23 ti37 rfl (by decide) rfl ob79 (fun _ => rfl) Ck.Snap.one (h_l.ext xW) xW.size (by have q0 := h_l.len; first | omega | (simp only [List.length_append, List.length_cons, List.length_nil, List.length_take, List.length_drop, List.length_reverse]; omega)) (Nat.le_trans (show _ ≤ 140737488355328 from by have q0 := h_l.len; first | omega | (simp only [List.length_append, List.length_cons, List.length_nil, List.length_take, List.length_drop, List.length_reverse]; omega)) (by decide)) ) ?_
        rintro v80 w81 ⟨ow82, gr83, nb84⟩
        have r_v80_g2 := ne_app nb84 (ne_blk n_g2_g74) m6
        have m6 := m6.grown gr83 (ne_blk n_g2_g74)
        have xW := Ext.grown xW gr83 (fun b hb => (OwnL.lt ob79 hb).1)
        refine WX.run rfl rfl (blt rfl) rfl ⟨xW, m6⟩ (Run.bslice (zs := [.int .i64 0, .int .i64 0, .int .i64 0, .int .i64 0, .int .i64 0]) (cs := [_, _, _, _, _]) rfl Try.underlying23 ti37 rfl (ble rfl) (by kernel_rfl) rfl rfl) ?_
        rintro _ w86 ⟨g85, rfl, e87, x88, m89⟩
        have n_g2_g85 := ne_new m6 e87
        have r_v80_g85 := ne_newO ow82 e87
        have o_g85 := own_new xW e87
        have m6 := m6.ext x88
        have ow82 := ow82.ext x88
        have xW := Ext.trans xW x88
        refine WX.run rfl rfl (blt rfl) rfl ⟨xW, m6⟩ (Run.appendB (f := Ck.Snap.c) (news := [x]) rfl rfl rfl Try.underlying23 ti37 rfl (by decide) rfl ow82 (fun _ => rfl) Ck.Snap.one m89 rfl xW.size (by have q0 := h_l.len; first | omega | (simp only [List.length_append, List.length_cons, List.length_nil, List.length_take, List.length_drop, List.length_reverse]; omega)) (Nat.le_trans (show _ ≤ 140737488355328 from by have q0 := h_l.len; first | omega | (simp only [List.length_append, List.length_cons, List.length_nil, List.length_take, List.length_drop, List.length_reverse]; omega)) (by decide)) ) ?_
        rintro v90 w91 ⟨ow92, gr93, nb94⟩
        have r_v90_g2 := ne_app nb94 r_v80_g2 m6
        have m6 := m6.grown gr93 r_v80_g2
        have r_v90_g85 := ne_app nb94 r_v80_g85 m89
        have m89 := m89.grown gr93 r_v80_g85
        have xW := Ext.grown xW gr93 (fun b hb => (OwnL.lt ow82 hb).1)
        refine WX.yld rfl rfl (blt rfl) rfl (Y.assign rfl rfl) ?_
        refine WX.nil ⟨xW, m6⟩ ?_
        exact WK.cut [(7, _)] ⟨rfl, rfl, rfl, trivial⟩ ⟨_, rfl, ow92, r_v90_g2⟩ ⟨xW, m6⟩
      refine WX.run rfl rfl (blt rfl) rfl ⟨xW, m6⟩ (Run.bslice (zs := [.int .i64 0, .int .i64 0, .int .i64 0, .int .i64 0, .int .i64 0]) (cs := [_, _, _, _, _]) rfl Try.underlying23 ti37 rfl (ble rfl) (by kernel_rfl) rfl rfl) ?_
      rintro _ w96 ⟨g95, rfl, e97, x98, m99⟩
      have n_g2_g95 := ne_new m6 e97
      have n_g74_g95 := ne_new m78 e97
      have o_g95 := own_new xW e97
      have m6 := m6.ext x98
      have m78 := m78.ext x98
      have xW := Ext.trans xW x98
      have ob100 := Blk.own (sz := 5) (f := Ck.Snap.c) (l := ([] : List Ck.Snap)) (base := w.heap.size) m78 o_g74 (fun _ => rfl) rfl (by decide) rfl
      refine WX.run rfl rfl (blt rfl) rfl ⟨xW, m6⟩ (Run.appendL (f := Ck.Snap.c) rfl rfl rfl Try.underlying23 ti37 rfl (by decide) rfl ob100 (fun _ => rfl) Ck.Snap.one (h_l.ext xW) xW.size (by have q0 := h_l.len; first | omega | (simp only [List.length_append, List.length_cons, List.length_nil, List.length_take, List.length_drop, List.length_reverse]; omega)) (Nat.le_trans (show _ ≤ 140737488355328 from by have q0 := h_l.len; first | omega | (simp only [List.length_append, List.length_cons, List.length_nil, List.length_take, List.length_drop, List.length_reverse]; omega)) (by decide)) ) ?_
      rintro v101 w102 ⟨ow103, gr104, nb105⟩
      have r_v101_g2 := ne_app nb105 (ne_blk n_g2_g74) m6
      have m6 := m6.grown gr104 (ne_blk n_g2_g74)
      have r_v101_g95 := ne_app nb105 (ne_blk n_g74_g95.symm) m99
      have m99 := m99.grown gr104 (ne_blk n_g74_g95.symm)
      have xW := Ext.grown xW gr104 (fun b hb => (OwnL.lt ob100 hb).1)
      refine WX.run rfl rfl (blt rfl) rfl ⟨xW, m6⟩ (Run.appendB (f := Ck.Snap.c) (news := [x]) rfl rfl rfl Try.underlying23 ti37 rfl (by decide) rfl ow103 (fun _ => rfl) Ck.Snap.one m99 rfl xW.size (by have q0 := h_l.len; first | omega | (simp only [List.length_append, List.length_cons, List.length_nil, List.length_take, List.length_drop, List.length_reverse]; omega)) (Nat.le_trans (show _ ≤ 140737488355328 from by have q0 := h_l.len; first | omega | (simp only [List.length_append, List.length_cons, List.length_nil, List.length_take, List.length_drop, List.length_reverse]; omega)) (by decide)) ) ?_
      rintro v106 w107 ⟨ow108, gr109, nb110⟩
      have r_v106_g2 := ne_app nb110 r_v101_g2 m6
      have m6 := m6.grown gr109 r_v101_g2
      have r_v106_g95 := ne_app nb110 r_v101_g95 m99
      have m99 := m99.grown gr109 r_v101_g95
      have xW := Ext.grown xW gr109 (fun b hb => (OwnL.lt ow103 hb).1)
      refine WX.yld rfl rfl (blt rfl) rfl (Y.assign rfl rfl) ?_
      refine WX.nil ⟨xW, m6⟩ ?_
      exact WK.cut [(7, _)] ⟨rfl, rfl, rfl, trivial⟩ ⟨_, rfl, ow108, r_v106_g2⟩ ⟨xW, m6⟩
    refine WX.run rfl rfl (blt rfl) rfl ⟨xW, m6⟩ (Run.bslice (zs := [.int .i64 0, .int .i64 0, .int .i64 0, .int .i64 0, .int .i64 0]) (cs := [_, _, _, _, _]) rfl Try.underlying23 ti37 rfl (ble rfl) (by kernel_rfl) rfl rfl) ?_
    rintro _ w112 ⟨g111, rfl, e113, x114, m115⟩
    have n_g2_g111 := ne_new m6 e113
    have o_g111 := own_new xW e113
    have m6 := m6.ext x114
    have xW := Ext.trans xW x114
    refine WX.run rfl rfl (blt rfl) rfl ⟨xW, m6⟩ (Run.bslice0 rfl Try.underlying23 ti37) ?_
    rintro _ w117 ⟨g116, rfl, e118, x119, m120⟩
    have n_g2_g116 := ne_new m6 e118
    have n_g111_g116 := ne_new m115 e118
    have o_g116 := own_new xW e118
    have m6 := m6.ext x119
    have m115 := m115.ext x119
    have xW := Ext.trans xW x119
    have ob121 := Blk.own (sz := 5) (f := Ck.Snap.c) (l := ([] : List Ck.Snap)) (base := w.heap.size) m120 o_g116 (fun _ => rfl) rfl (by decide) rfl
    refine WX.run rfl rfl (blt rfl) rfl ⟨xW, m6⟩ (Run.appendL (f := Ck.Snap.c) rfl rfl rfl Try.underlying23 ti37 rfl (by decide) rfl ob121 (fun _ => rfl) Ck.Snap.one (h_l.ext xW) xW.size (by have q0 := h_l.len; first | omega | (simp only [List.length_append, List.length_cons, List.length_nil, List.length_take, List.length_drop, List.length_reverse]; omega)) (Nat.le_trans (show _ ≤ 140737488355328 from by have q0 := h_l.len; first | omega | (simp only [List.length_append, List.length_cons, List.length_nil, List.length_take, List.length_drop, List.length_reverse]; omega)) (by decide)) ) ?_
    rintro v122 w123 ⟨ow124, gr125, nb126⟩
    have r_v122_g2 := ne_app nb126 (ne_blk n_g2_g116) m6
    have m6 := m6.grown gr125 (ne_blk n_g2_g116)
    have r_v122_g111 := ne_app nb126 (ne_blk n_g111_g116) m115
    have m115 := m115.grown gr125 (ne_blk n_g111_g116)
    have xW := Ext.grown xW gr125 (fun b hb => (OwnL.lt ob121 hb).1)
    refine WX.run rfl rfl (blt rfl) rfl ⟨xW, m6⟩ (Run.appendB (f := Ck.Snap.c) (news := [x]) rfl rfl rfl Try.underlying23 ti37 rfl (by decide) rfl ow124 (fun _ => rfl) Ck.Snap.one m115 rfl xW.size (by have q0 := h_l.len; first | omega | (simp only [List.length_append, List.length_cons, List.length_nil, List.length_take, List.length_drop, List.length_reverse]; omega)) (Nat.le_trans (show _ ≤ 140737488355328 from by have q0 := h_l.len; first | omega | (simp only [List.length_append, List.length_cons, List.length_nil, List.length_take, List.length_drop, List.length_reverse]; omega)) (by decide)) ) ?_
    rintro v127 w128 ⟨ow129, gr130, nb131⟩
    have r_v127_g2 := ne_app nb131 r_v122_g2 m6
    have m6 := m6.grown gr130 r_v122_g2
    have r_v127_g111 := ne_app nb131 r_v122_g111 m115
    have m115 := m115.grown gr130 r_v122_g111
    have xW := Ext.grown xW gr130 (fun b hb => (OwnL.lt ow124 hb).1)
    refine WX.yld rfl rfl (blt rfl) rfl (Y.assign rfl rfl) ?_
    refine WX.nil ⟨xW, m6⟩ ?_
    exact WK.cut [(7, _)] ⟨rfl, rfl, rfl, trivial⟩ ⟨_, rfl, ow129, r_v127_g2⟩ ⟨xW, m6⟩
end LClockGrows
end CkW

end Go.Proofs.Ytnmmnkmmmfhdbaa
