/- The walk of the law. Conditions: what each theorem states. -/
import Derived.Test.YtnmmnkmmmfhdbaaCkRPts
namespace Go.Proofs.Ytnmmnkmmmfhdbaa
open Go Go.Eng Go.RowKit
set_option linter.unusedVariables false
namespace CkW
open R P K V RP
namespace LClockUnites
theorem ti3 : TI Try.prog 3 (.int .i64 0) 1 8 := TI.mk (by kernel_rfl)
theorem ti37 : TI Try.prog 37 (.agg #[.int .i64 0, .int .i64 0, .int .i64 0, .int .i64 0, .int .i64 0]) 5 40 := TI.mk (by kernel_rfl)
theorem has10 : Has Try.prog 10 := ⟨_, Try.func10, rfl, by kernel_rfl⟩
theorem has11 : Has Try.prog 11 := ⟨_, Try.func11, rfl, by kernel_rfl⟩
theorem has18 : Has Try.prog 18 := ⟨_, Try.func18, rfl, by kernel_rfl⟩
theorem has21 : Has Try.prog 21 := ⟨_, Try.func21, rfl, by kernel_rfl⟩
theorem ClockUnites_any (A_a : Option Addr) (n_a c_a : Nat) (a : List Ck.Snap) (A_b : Option Addr) (n_b c_b : Nat) (b : List Ck.Snap) (id : Int) (w : World) (h_a : Ls w A_a n_a c_a Ck.Snap.c 5 a) (h_b : Ls w A_b n_b c_b Ck.Snap.c 5 b) :
    Calls Try.prog 9 #[.slice A_a n_a c_a, .slice A_b n_b c_b, .int .i64 id] w fun e w' => e = .returned (.bool true) ∧ Ext w w' := by
  have xW := Ext.refl w
  have e_a := h_a.len
  have z_a := h_a.nle
  have e_b := h_b.len
  have z_b := h_b.nle
  have lx := Ck.pts_len a id
  have ly := Ck.pts_len b id
  refine calls_of_WC (args := [.slice A_a n_a c_a, .slice A_b n_b c_b, .int .i64 id]) Try.func9 rfl rfl (ble rfl) ?_
  refine WC.seq (fun K1 k1 => ?_)
  refine WC.region rfl ?_
  refine WL.yld rfl (blt rfl) rfl (Y.assign rfl rfl) ?_
  refine WL.nil ?_
  refine WK.then_normal (k1 _ _ ?_)
  refine WC.sub [(0, _), (1, _), (2, _)] ⟨rfl, rfl, rfl, trivial⟩ ?_
  refine WC.seq (fun K2 k2 => ?_)
  refine WC.seq (fun K3 k3 => ?_)
  refine WC.region rfl ?_
  refine WL.yld rfl (blt rfl) rfl (Y.move rfl rfl) ?_
  refine WL.call rfl (blt rfl) rfl rfl rfl has10 rfl (few_any _ _ _ _ _ _ _ _ _ (Ls.nil (by decide)) (h_a.ext xW)) ?_
  rintro _ w4 ⟨rfl, x5⟩
  refine ⟨_, rfl, ?_⟩
  have xW := Ext.trans xW x5
  refine WL.yld rfl (blt rfl) rfl (Y.not rfl rfl) ?_
  refine WL.yld rfl (blt rfl) rfl (Y.move rfl rfl) ?_
  refine WL.yldG rfl (blt rfl) rfl rfl rfl (fun hb => Y.move rfl rfl) ?_
  refine WL.callG rfl (blt rfl) rfl rfl rfl rfl rfl has10 (fun hb => (evs_cons rfl (evs_cons (evg rfl hb) evs_nil))) (fun hb => few_any _ _ _ _ _ _ _ _ _ (Ls.nil (by decide)) (h_b.ext xW)) (fun w6 x7 => ?_)
  have xW := Ext.trans xW x7
  refine WL.yldG rfl (blt rfl) rfl rfl rfl (fun hb => Y.not rfl (evg rfl hb)) ?_
  refine WL.yld rfl (blt rfl) rfl (Y.or rfl rfl rfl rfl) ?_
  refine WL.nil ?_
  refine WK.then_normal (k3 _ _ ?_)
  refine WC.sub [(0, _), (1, _), (2, _), (19, _)] ⟨rfl, rfl, rfl, rfl, trivial⟩ ?_
  refine WC.cond rfl (fun h8 => ?_) (fun h8 => ?_)
  ·
    have p8 := ((or_t h8).imp (fun h => ((and_f (not_t h)).imp (fun h => (dec_f h)) (fun h => (dec_f h)))) (fun h => ((and_f (not_t h)).imp (fun h => (dec_f h)) (fun h => (dec_f h)))))
    refine WC.seq (fun K9 k9 => ?_)
    refine WC.region rfl ?_
    refine WL.call rfl (blt rfl) rfl rfl rfl has11 rfl (lives_any _ ) ?_
    rintro _ w10 ⟨rfl, x11⟩
    refine ⟨_, rfl, ?_⟩
    have xW := Ext.trans xW x11
    refine WL.yld rfl (blt rfl) rfl (Y.assign rfl rfl) ?_
    refine WL.nil ?_
    refine WK.then_normal (k9 _ _ ?_)
    refine WC.sub [(6, _)] ⟨rfl, trivial⟩ ?_
    refine WC.ret ?_
    refine WK.then_ret ?_
    clear k1 k2 k3 k9
    refine WK.ret [_] rfl ⟨rfl, trivial⟩ ?_
    exact ⟨ret1 (vb rfl), xW⟩
  ·
    have p8 := (And.intro (And.intro (dec_t (and_t (not_f (or_f h8).1)).1) (dec_t (and_t (not_f (or_f h8).1)).2)) (And.intro (dec_t (and_t (not_f (or_f h8).2)).1) (dec_t (and_t (not_f (or_f h8).2)).2)))
    refine WC.skip ?_
    refine WK.then_normal (k2 _ _ ?_)
    refine WC.sub [(0, _), (1, _), (2, _)] ⟨rfl, rfl, rfl, trivial⟩ ?_
    refine WC.seq (fun K12 k12 => ?_)
    refine WC.region rfl ?_
    refine WL.yld rfl (blt rfl) rfl (Y.move rfl rfl) ?_
    refine WL.yld rfl (blt rfl) rfl (Y.move rfl rfl) ?_
    refine WL.call rfl (blt rfl) rfl rfl rfl has18 rfl (points_any _ _ _ _ _ _ (h_a.ext xW) (by omega)) ?_
    rintro _ w13 ⟨v15, rfl, ow16, x14⟩
    refine ⟨_, rfl, ?_⟩
    have ow16 := OwnL.base_le ow16 xW.size
    have xW := Ext.trans xW x14
    refine WL.yld rfl (blt rfl) rfl (Y.move rfl rfl) ?_
    refine WL.yld rfl (blt rfl) rfl (Y.move rfl rfl) ?_
    refine WL.call rfl (blt rfl) rfl rfl rfl has18 rfl (points_any _ _ _ _ _ _ (h_b.ext xW) (by omega)) ?_
    rintro _ w17 ⟨v19, rfl, ow20, x18⟩
    refine ⟨_, rfl, ?_⟩
    have d_v15_v19 := (Apart.res ow20 ow16).symm
    have ow20 := OwnL.base_le ow20 xW.size
    have ow16 := ow16.ext x18
    have xW := Ext.trans xW x18
    refine WL.yld rfl (blt rfl) rfl (Y.assign rfl rfl) ?_
    refine WL.yld rfl (blt rfl) rfl (Y.assign rfl rfl) ?_
    refine WL.nil ?_
    refine WK.then_normal (k12 _ _ ?_)
    refine WC.sub [(0, _), (1, _), (2, _), (7, _), (8, _)] ⟨rfl, rfl, rfl, rfl, rfl, trivial⟩ ?_
    refine WC.seq (fun K21 k21 => ?_)
    refine WC.region rfl ?_
    refine WL.bslice0 rfl (blt rfl) rfl rfl Try.underlying23 ti37 ?_
    intro g22 w23 e24 x25 m26
    have r_v15_g22 := ne_newO ow16 e24
    have r_v19_g22 := ne_newO ow20 e24
    have o_g22 := own_new xW e24
    have ow16 := ow16.ext x25
    have ow20 := ow20.ext x25
    have xW := Ext.trans xW x25
    refine WL.yld rfl (blt rfl) rfl (Y.move rfl rfl) ?_
    have ob27 := Blk.own (sz := 5) (f := Ck.Snap.c) (l := ([] : List Ck.Snap)) (base := w.heap.size) m26 o_g22 (fun _ => rfl) rfl (by decide) rfl
    refine WL.appendL (f := Ck.Snap.c) rfl (blt rfl) rfl rfl rfl rfl Try.underlying23 ti37 rfl (by decide) rfl ob27 (fun _ => rfl) Ck.Snap.one (h_a.ext xW) xW.size (by have q0 := h_a.len; first | omega | (simp only [List.length_append, List.length_cons, List.length_nil, List.length_take, List.length_drop, List.length_reverse]; omega)) (Nat.le_trans (show _ ≤ 140737488355328 from by have q0 := h_a.len; first | omega | (simp only [List.length_append, List.length_cons, List.length_nil, List.length_take, List.length_drop, List.length_reverse]; omega)) (by decide)) (fun v28 w29 ow30 gr31 nb32 => ?_)
    have d_v15_v28 := (Apart.app (Apart.blk r_v15_g22) nb32 ow16).symm
    have ow16 := OwnL.grown ow16 gr31 (Apart.blk r_v15_g22)
    have d_v19_v28 := (Apart.app (Apart.blk r_v19_g22) nb32 ow20).symm
    have ow20 := OwnL.grown ow20 gr31 (Apart.blk r_v19_g22)
    have xW := Ext.grown xW gr31 (fun b hb => (OwnL.lt ob27 hb).1)
    refine WL.yld rfl (blt rfl) rfl (Y.move rfl rfl) ?_
    refine WL.appendL (f := Ck.Snap.c) rfl (blt rfl) rfl rfl rfl rfl Try.underlying23 ti37 rfl (by decide) rfl ow30 (fun _ => rfl) Ck.Snap.one (h_b.ext xW) xW.size (by have q0 := h_a.len; have q1 := h_b.len; first | omega | (simp only [List.length_append, List.length_cons, List.length_nil, List.length_take, List.length_drop, List.length_reverse]; omega)) (Nat.le_trans (show _ ≤ 140737488355328 from by have q0 := h_a.len; have q1 := h_b.len; first | omega | (simp only [List.length_append, List.length_cons, List.length_nil, List.length_take, List.length_drop, List.length_reverse]; omega)) (by decide)) (fun v33 w34 ow35 gr36 nb37 => ?_)
    have d_v15_v33 := (Apart.app d_v15_v28.symm nb37 ow16).symm
    have ow16 := OwnL.grown ow16 gr36 d_v15_v28.symm
    have d_v19_v33 := (Apart.app d_v19_v28.symm nb37 ow20).symm
    have ow20 := OwnL.grown ow20 gr36 d_v19_v28.symm
    have xW := Ext.grown xW gr36 (fun b hb => (OwnL.lt ow30 hb).1)
    refine WL.yld rfl (blt rfl) rfl (Y.move rfl rfl) ?_
    obtain ⟨A38, n39, c40, rfl, hl41⟩ := OwnL.opened ow35 (fun _ => rfl) (by decide)
    have e_n39 := hl41.len
    try simp only [List.length_append, List.length_cons, List.length_nil, List.length_reverse, List.length_drop, List.length_take] at e_n39
    have z_n39 := hl41.nle
    refine WL.call rfl (blt rfl) rfl rfl rfl has18 rfl (points_any _ _ _ _ _ _ hl41 (by omega)) ?_
    rintro _ w42 ⟨v44, rfl, ow45, x43⟩
    refine ⟨_, rfl, ?_⟩
    have d_v15_v44 := (Apart.res ow45 ow16).symm
    have d_v19_v44 := (Apart.res ow45 ow20).symm
    have d_v33_v44 := (Apart.res ow45 ow35).symm
    have ow45 := OwnL.base_le ow45 xW.size
    have ow16 := ow16.ext x43
    have ow20 := ow20.ext x43
    have ow35 := ow35.ext x43
    have hl41 := hl41.ext x43
    have xW := Ext.trans xW x43
    refine WL.yld rfl (blt rfl) rfl (Y.assign rfl rfl) ?_
    refine WL.nil ?_
    refine WK.then_normal (k21 _ _ ?_)
    refine WC.sub [(7, _), (8, _), (9, _)] ⟨rfl, rfl, rfl, trivial⟩ ?_
    refine WC.seq (fun K46 k46 => ?_)
    refine WC.seq (fun K47 k47 => ?_)
    refine WC.region rfl ?_
    refine WL.yld rfl (blt rfl) rfl (Y.assign rfl rfl) ?_
    refine WL.nil ?_
    refine WK.then_normal (k47 _ _ ?_)
    refine WC.block ?_
    refine WC.sub [(10, _), (7, _), (8, _), (9, _)] ⟨rfl, rfl, rfl, rfl, trivial⟩ ?_
    refine WC.loopS 1 (fun mz Ed W' => ∃ i : Nat, mz = (Ck.pts (([] ++ a) ++ b) id).length - i ∧ Ed = [(10, .int .i64 ((i : Nat) : Int))] ∧ Ext w W' ∧ OwnL W' w.heap.size 3 Ck.ic 1 v15 _ ∧ OwnL W' w.heap.size 3 Ck.ic 1 v19 _ ∧ OwnL W' w.heap.size 3 Ck.ic 1 v44 _ ∧ (i ≤ (Ck.pts (([] ++ a) ++ b) id).length) ∧ (True)) _ ⟨0, rfl, rfl, xW, ow16, ow20, ow45, (Nat.zero_le _), trivial⟩ ?_
    rintro _ _ w48 ⟨i, rfl, rfl, xW, ow16, ow20, ow45, le_i, inv_i⟩
    refine WC.sub [(10, _), (7, _), (8, _), (9, _)] ⟨rfl, rfl, rfl, rfl, trivial⟩ ?_
    refine WC.seq (fun K49 k49 => ?_)
    refine WC.seq (fun K50 k50 => ?_)
    refine WC.region rfl ?_
    refine WL.yld rfl (blt rfl) rfl (Y.move rfl rfl) ?_
    refine WL.yld rfl (blt rfl) rfl (Y.move rfl rfl) ?_
    obtain ⟨A51, n52, c53, rfl, hl54⟩ := OwnL.opened ow45 (fun _ => rfl) (by decide)
    have e_n52 := hl54.len
    try simp only [List.length_append, List.length_cons, List.length_nil, List.length_reverse, List.length_drop, List.length_take] at e_n52
    have z_n52 := hl54.nle
    refine WL.yld rfl (blt rfl) rfl (Y.lenSl rfl rfl rfl Try.underlying39 rfl) ?_
    refine WL.yld rfl (blt rfl) rfl (Y.lss rfl rfl rfl) ?_
    refine WL.nil ?_
    refine WK.then_normal (k50 _ _ ?_)
    refine WC.sub [(7, _), (8, _), (9, _), (10, _), (37, _)] ⟨rfl, rfl, rfl, rfl, rfl, trivial⟩ ?_
    refine WC.cond rfl (fun h55 => ?_) (fun h55 => ?_)
    ·
      have p55 := (dec_t h55)
      refine WC.skip ?_
      refine WK.then_normal (k49 _ _ ?_)
      refine WC.sub [(7, _), (8, _), (9, _), (10, _)] ⟨rfl, rfl, rfl, rfl, trivial⟩ ?_
      refine WC.seq (fun K56 k56 => ?_)
      refine WC.block ?_
      refine WC.seq (fun K57 k57 => ?_)
      refine WC.region rfl ?_
      refine WL.yld rfl (blt rfl) rfl (Y.move rfl rfl) ?_
      refine WL.yld rfl (blt rfl) rfl (Y.move rfl rfl) ?_
      refine WL.yld rfl (blt rfl) rfl (Y.move rfl rfl) ?_
      have b58 : i < n52 := by omega
      refine WL.yld rfl (blt rfl) rfl (Y.indexLs i hl54 rfl Try.underlying39 ti3 rfl rfl rfl b58) ?_
      refine WL.yld rfl (blt rfl) rfl (Y.load1 rfl Try.underlying3 rfl rfl (Ls.at_eq hl54 b58 rfl)) ?_
      obtain ⟨A59, n60, c61, rfl, hl62⟩ := OwnL.opened ow16 (fun _ => rfl) (by decide)
      have e_n60 := hl62.len
      try simp only [List.length_append, List.length_cons, List.length_nil, List.length_reverse, List.length_drop, List.length_take] at e_n60
      have z_n60 := hl62.nle
      refine WL.call rfl (blt rfl) rfl rfl rfl has21 rfl (has_any _ _ _ _ _ _ hl62) ?_
      rintro _ w63 ⟨rfl, x64⟩
      refine ⟨_, rfl, ?_⟩
      have ow16 := ow16.ext x64
      have hl62 := hl62.ext x64
      have ow20 := ow20.ext x64
      have ow45 := ow45.ext x64
      have hl54 := hl54.ext x64
      have xW := Ext.trans xW x64
      refine WL.yld rfl (blt rfl) rfl (Y.not rfl rfl) ?_
      refine WL.yld rfl (blt rfl) rfl (Y.move rfl rfl) ?_
      refine WL.yldG rfl (blt rfl) rfl rfl rfl (fun hb => Y.move rfl rfl) ?_
      refine WL.yldG rfl (blt rfl) rfl rfl rfl (fun hb => Y.move rfl rfl) ?_
      refine WL.yldG rfl (blt rfl) rfl rfl rfl (fun hb => Y.move rfl rfl) ?_
      refine WL.yldG rfl (blt rfl) rfl rfl rfl (fun hb => Y.indexLs i hl54 rfl Try.underlying39 ti3 (evg rfl hb) (evg rfl hb) rfl (by omega)) ?_
      refine WL.yldG rfl (blt rfl) rfl rfl rfl (fun hb => Y.load1 rfl Try.underlying3 rfl (evg rfl hb) (Ls.at_eq hl54 (by omega) rfl)) ?_
      obtain ⟨A65, n66, c67, rfl, hl68⟩ := OwnL.opened ow20 (fun _ => rfl) (by decide)
      have e_n66 := hl68.len
      try simp only [List.length_append, List.length_cons, List.length_nil, List.length_reverse, List.length_drop, List.length_take] at e_n66
      have z_n66 := hl68.nle
      refine WL.callG rfl (blt rfl) rfl rfl rfl rfl rfl has21 (fun hb => (evs_cons (evg rfl hb) (evs_cons (evg rfl hb) evs_nil))) (fun hb => has_any _ _ _ _ _ _ hl68) (fun w69 x70 => ?_)
      have ow16 := ow16.ext x70
      have hl62 := hl62.ext x70
      have ow20 := ow20.ext x70
      have hl68 := hl68.ext x70
      have ow45 := ow45.ext x70
      have hl54 := hl54.ext x70
      have xW := Ext.trans xW x70
      refine WL.yldG rfl (blt rfl) rfl rfl rfl (fun hb => Y.not rfl (evg rfl hb)) ?_
      refine WL.yld rfl (blt rfl) rfl (Y.and rfl rfl rfl rfl) ?_
      refine WL.nil ?_
      refine WK.then_normal (k57 _ _ ?_)
      refine WC.sub [(7, _), (8, _), (9, _), (10, _), (55, _)] ⟨rfl, rfl, rfl, rfl, rfl, trivial⟩ ?_
      refine WC.cond rfl (fun h71 => ?_) (fun h71 => ?_)
      ·
        clear k1 k2 k3 k12 k21 k46 k47 k49 k50 k56 k57
        exact (Ck.unite1 (bang_mem (by omega)) h71).elim
      ·
        refine WC.skip ?_
        refine WK.in_normal ?_
        refine WK.then_normal (k56 _ _ ?_)
        refine WC.sub [(7, _), (8, _), (9, _), (10, _)] ⟨rfl, rfl, rfl, rfl, trivial⟩ ?_
        refine WC.region rfl ?_
        refine WL.yld rfl (blt rfl) rfl (Y.move rfl rfl) ?_
        refine WL.yld rfl (blt rfl) rfl (Y.add rfl rfl rfl (wrap_i64 (by first | omega | (dsimp only; omega)))) ?_
        refine WL.yld rfl (blt rfl) rfl (Y.assign rfl rfl) ?_
        refine WL.nil ?_
        refine WK.roundS _ [(10, .int .i64 (((i + 1) : Nat) : Int))] ⟨rfl, rfl, rfl, rfl, trivial⟩ ?_ ⟨(i + 1), rfl, rfl, xW, ow16, ow20, ow45, (by omega), trivial⟩
        show _ - (i + 1) < _ - i; omega
    ·
      have p55 := (dec_f h55)
      refine WC.exit ?_
      refine WK.then_exit ?_
      refine WK.then_exit ?_
      refine WK.in_exit ?_
      refine WK.then_normal (k46 _ _ ?_)
      refine WC.sub [(7, _), (8, _), (9, _)] ⟨rfl, rfl, rfl, trivial⟩ ?_
      refine WC.seq (fun K72 k72 => ?_)
      refine WC.seq (fun K73 k73 => ?_)
      refine WC.region rfl ?_
      refine WL.yld rfl (blt rfl) rfl (Y.assign rfl rfl) ?_
      refine WL.nil ?_
      refine WK.then_normal (k73 _ _ ?_)
      refine WC.block ?_
      refine WC.sub [(11, _), (7, _), (8, _), (9, _)] ⟨rfl, rfl, rfl, rfl, trivial⟩ ?_
      refine WC.loopS 1 (fun mz Ed W' => ∃ k : Nat, mz = ((Ck.pts a id).length + (Ck.pts b id).length) - k ∧ Ed = [(11, .int .i64 ((k : Nat) : Int))] ∧ Ext w W' ∧ OwnL W' w.heap.size 3 Ck.ic 1 v15 _ ∧ OwnL W' w.heap.size 3 Ck.ic 1 v19 _ ∧ OwnL W' w.heap.size 3 Ck.ic 1 (.slice A51 n52 c53) _ ∧ (k ≤ ((Ck.pts a id).length + (Ck.pts b id).length)) ∧ (True)) _ ⟨0, rfl, rfl, xW, ow16, ow20, ow45, (Nat.zero_le _), trivial⟩ ?_
      rintro _ _ w74 ⟨k, rfl, rfl, xW, ow16, ow20, ow45, le_k, inv_k⟩
      refine WC.sub [(11, _), (7, _), (8, _), (9, _)] ⟨rfl, rfl, rfl, rfl, trivial⟩ ?_
      have hl54 := OwnL.ls ow45 (fun _ => rfl) (by decide)
      refine WC.seq (fun K75 k75 => ?_)
      refine WC.seq (fun K76 k76 => ?_)
      refine WC.region rfl ?_
      refine WL.yld rfl (blt rfl) rfl (Y.move rfl rfl) ?_
      refine WL.yld rfl (blt rfl) rfl (Y.move rfl rfl) ?_
      obtain ⟨A77, n78, c79, rfl, hl80⟩ := OwnL.opened ow16 (fun _ => rfl) (by decide)
      have e_n78 := hl80.len
      try simp only [List.length_append, List.length_cons, List.length_nil, List.length_reverse, List.length_drop, List.length_take] at e_n78
      have z_n78 := hl80.nle
      refine WL.yld rfl (blt rfl) rfl (Y.lenSl rfl rfl rfl Try.underlying39 rfl) ?_
      refine WL.yld rfl (blt rfl) rfl (Y.move rfl rfl) ?_
      obtain ⟨A81, n82, c83, rfl, hl84⟩ := OwnL.opened ow20 (fun _ => rfl) (by decide)
      have e_n82 := hl84.len
      try simp only [List.length_append, List.length_cons, List.length_nil, List.length_reverse, List.length_drop, List.length_take] at e_n82
      have z_n82 := hl84.nle
      refine WL.yld rfl (blt rfl) rfl (Y.lenSl rfl rfl rfl Try.underlying39 rfl) ?_
      refine WL.yld rfl (blt rfl) rfl (Y.add rfl rfl rfl (wrap_i64 (by first | omega | (dsimp only; omega)))) ?_
      refine WL.yld rfl (blt rfl) rfl (Y.lss rfl rfl rfl) ?_
      refine WL.nil ?_
      refine WK.then_normal (k76 _ _ ?_)
      refine WC.sub [(7, _), (8, _), (9, _), (11, _), (62, _)] ⟨rfl, rfl, rfl, rfl, rfl, trivial⟩ ?_
      refine WC.cond rfl (fun h85 => ?_) (fun h85 => ?_)
      ·
        have p85 := (dec_t h85)
        refine WC.skip ?_
        refine WK.then_normal (k75 _ _ ?_)
        refine WC.sub [(7, _), (8, _), (9, _), (11, _)] ⟨rfl, rfl, rfl, rfl, trivial⟩ ?_
        refine WC.seq (fun K86 k86 => ?_)
        refine WC.block ?_
        refine WC.seq (fun K87 k87 => ?_)
        refine WC.region rfl ?_
        refine WL.yld rfl (blt rfl) rfl (Y.move rfl rfl) ?_
        refine WL.yld rfl (blt rfl) rfl (Y.move rfl rfl) ?_
        refine WL.yld rfl (blt rfl) rfl (Y.lenSl rfl rfl rfl Try.underlying39 rfl) ?_
        refine WL.yld rfl (blt rfl) rfl (Y.lss rfl rfl rfl) ?_
        refine WL.yld rfl (blt rfl) rfl (Y.move rfl rfl) ?_
        refine WL.yldG rfl (blt rfl) rfl rfl rfl (fun hb => Y.move rfl rfl) ?_
        refine WL.yldG rfl (blt rfl) rfl rfl rfl (fun hb => Y.move rfl rfl) ?_
        refine WL.yldG rfl (blt rfl) rfl rfl rfl (fun hb => Y.move rfl rfl) ?_
        refine WL.yldG rfl (blt rfl) rfl rfl rfl (fun hb => Y.indexLs k hl80 rfl Try.underlying39 ti3 (evg rfl hb) (evg rfl hb) rfl (by have q0 := (dec_t hb); omega)) ?_
        refine WL.yldG rfl (blt rfl) rfl rfl rfl (fun hb => Y.load1 rfl Try.underlying3 rfl (evg rfl hb) (Ls.at_eq hl80 (by have q0 := (dec_t hb); omega) rfl)) ?_
        refine WL.callG rfl (blt rfl) rfl rfl rfl rfl rfl has21 (fun hb => (evs_cons (evg rfl hb) (evs_cons (evg rfl hb) evs_nil))) (fun hb => has_any _ _ _ _ _ _ hl54) (fun w88 x89 => ?_)
        have ow16 := ow16.ext x89
        have hl80 := hl80.ext x89
        have ow20 := ow20.ext x89
        have hl84 := hl84.ext x89
        have ow45 := ow45.ext x89
        have hl54 := hl54.ext x89
        have xW := Ext.trans xW x89
        refine WL.yldG rfl (blt rfl) rfl rfl rfl (fun hb => Y.not rfl (evg rfl hb)) ?_
        refine WL.yld rfl (blt rfl) rfl (Y.and rfl rfl rfl rfl) ?_
        refine WL.yld rfl (blt rfl) rfl (Y.move rfl rfl) ?_
        refine WL.yldG rfl (blt rfl) rfl rfl rfl (fun hb => Y.move rfl rfl) ?_
        refine WL.yldG rfl (blt rfl) rfl rfl rfl (fun hb => Y.move rfl rfl) ?_
        refine WL.yldG rfl (blt rfl) rfl rfl rfl (fun hb => Y.lenSl rfl rfl rfl Try.underlying39 (evs_cons (evg rfl hb) evs_nil)) ?_
        refine WL.yldG rfl (blt rfl) rfl rfl rfl (fun hb => Y.geq rfl (evg rfl hb) (evg rfl hb)) ?_
        refine WL.yldG rfl (blt rfl) rfl rfl rfl (fun hb => Y.move rfl (evg rfl hb)) ?_
        refine WL.yldGs [(_, _)] rfl (blt rfl) rfl rfl rfl (fun hb => Y.move rfl rfl) ?_
        refine WL.yldGs [(_, _)] rfl (blt rfl) rfl rfl rfl (fun hb => Y.move rfl rfl) ?_
        refine WL.yldGs [(_, _)] rfl (blt rfl) rfl rfl rfl (fun hb => Y.move rfl rfl) ?_
        refine WL.yldGs [(_, _)] rfl (blt rfl) rfl rfl rfl (fun hb => Y.move rfl rfl) ?_
        refine WL.yldGs [(_, _)] rfl (blt rfl) rfl rfl rfl (fun hb => Y.lenSl rfl rfl rfl Try.underlying39 (evs_cons (evg (evg rfl hb.1) hb.2.1) evs_nil)) ?_
        refine WL.yldGs [(_, _)] rfl (blt rfl) rfl rfl rfl (fun hb => Y.sub rfl (evg (evg rfl hb.1) hb.2.1) (evg (evg rfl hb.1) hb.2.1) (wrap_i64 (by have q0 := ((and_f hb.1).imp (fun h => (dec_f h)) (fun h => h)); have q1 := (dec_t hb.2.1); first | omega | (dsimp only; omega)))) ?_
        refine WL.yldGs [(_, _)] rfl (blt rfl) rfl rfl rfl (fun hb => Y.indexLs (k - n78) hl84 rfl Try.underlying39 ti3 (evg (evg rfl hb.1) hb.2.1) (evg (evg rfl hb.1) hb.2.1) (by have q0 := ((and_f hb.1).imp (fun h => (dec_f h)) (fun h => h)); have q1 := (dec_t hb.2.1); omega) (by have q0 := ((and_f hb.1).imp (fun h => (dec_f h)) (fun h => h)); have q1 := (dec_t hb.2.1); omega)) ?_
        refine WL.yldGs [(_, _)] rfl (blt rfl) rfl rfl rfl (fun hb => Y.load1 rfl Try.underlying3 rfl (evg (evg rfl hb.1) hb.2.1) (Ls.at_eq hl84 (by have q0 := ((and_f hb.1).imp (fun h => (dec_f h)) (fun h => h)); have q1 := (dec_t hb.2.1); omega) rfl)) ?_
        refine WL.callGs [(_, _)] rfl (blt rfl) rfl rfl rfl rfl rfl has21 (fun hb => (evs_cons (evg (evg rfl hb.1) hb.2.1) (evs_cons (evg (evg rfl hb.1) hb.2.1) evs_nil))) (fun hb => has_any _ _ _ _ _ _ hl54) (fun w90 x91 => ?_)
        have ow16 := ow16.ext x91
        have hl80 := hl80.ext x91
        have ow20 := ow20.ext x91
        have hl84 := hl84.ext x91
        have ow45 := ow45.ext x91
        have hl54 := hl54.ext x91
        have xW := Ext.trans xW x91
        refine WL.yldGs [(_, _)] rfl (blt rfl) rfl rfl rfl (fun hb => Y.not rfl (evg (evg rfl hb.1) hb.2.1)) ?_
        refine WL.yldG rfl (blt rfl) rfl rfl rfl (fun hb => Y.and rfl (evg rfl hb) (evg rfl hb) rfl) ?_
        refine WL.yld rfl (blt rfl) rfl (Y.or rfl rfl rfl rfl) ?_
        refine WL.nil ?_
        refine WK.then_normal (k87 _ _ ?_)
        refine WC.sub [(7, _), (8, _), (9, _), (11, _), (95, _)] ⟨rfl, rfl, rfl, rfl, rfl, trivial⟩ ?_
        refine WC.cond rfl (fun h92 => ?_) (fun h92 => ?_)
        ·
          clear k1 k2 k3 k12 k21 k46 k47 k49 k50 k72 k73 k75 k76 k86 k87
          rcases or_t h92 with q | q
          · have q1 := dec_t (and_t q).1
            exact (of_decide_eq_false (not_t (and_t q).2) (Ck.in_left (bang_mem (by omega)))).elim
          · have q1 := dec_t (and_t q).1
            exact (of_decide_eq_false (not_t (and_t q).2) (Ck.in_right (bang_mem (by omega)))).elim
        ·
          have p92 := (And.intro ((and_f (or_f h92).1).imp (fun h => (dec_f h)) (fun h => h)) ((and_f (or_f h92).2).imp (fun h => (dec_f h)) (fun h => h)))
          refine WC.skip ?_
          refine WK.in_normal ?_
          refine WK.then_normal (k86 _ _ ?_)
          refine WC.sub [(7, _), (8, _), (9, _), (11, _)] ⟨rfl, rfl, rfl, rfl, trivial⟩ ?_
          refine WC.region rfl ?_
          refine WL.yld rfl (blt rfl) rfl (Y.move rfl rfl) ?_
          refine WL.yld rfl (blt rfl) rfl (Y.add rfl rfl rfl (wrap_i64 (by first | omega | (dsimp only; omega)))) ?_
          refine WL.yld rfl (blt rfl) rfl (Y.assign rfl rfl) ?_
          refine WL.nil ?_
          refine WK.roundS _ [(11, .int .i64 (((k + 1) : Nat) : Int))] ⟨rfl, rfl, rfl, rfl, trivial⟩ ?_ ⟨(k + 1), rfl, rfl, xW, ow16, ow20, ow45, (by omega), trivial⟩
          show _ - (k + 1) < _ - k; omega
      ·
        have p85 := (dec_f h85)
        refine WC.exit ?_
        refine WK.then_exit ?_
        refine WK.then_exit ?_
        refine WK.in_exit ?_
        refine WK.then_normal (k72 _ _ ?_)
        refine WC.sub [] trivial ?_
        refine WC.seq (fun K93 k93 => ?_)
        refine WC.region rfl ?_
        refine WL.call rfl (blt rfl) rfl rfl rfl has11 rfl (lives_any _ ) ?_
        rintro _ w94 ⟨rfl, x95⟩
        refine ⟨_, rfl, ?_⟩
        have xW := Ext.trans xW x95
        refine WL.yld rfl (blt rfl) rfl (Y.assign rfl rfl) ?_
        refine WL.nil ?_
        refine WK.then_normal (k93 _ _ ?_)
        refine WC.sub [(6, _)] ⟨rfl, trivial⟩ ?_
        refine WC.ret ?_
        clear k1 k2 k3 k12 k21 k46 k47 k49 k50 k72 k73 k75 k76 k93
        refine WK.ret [_] rfl ⟨rfl, trivial⟩ ?_
        exact ⟨ret1 (vb rfl), xW⟩
end LClockUnites
end CkW

end Go.Proofs.Ytnmmnkmmmfhdbaa
