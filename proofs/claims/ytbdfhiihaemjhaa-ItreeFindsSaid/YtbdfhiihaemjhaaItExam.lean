/- Contracts: the search. Conditions: what each theorem states. -/
import Derived.Test.YtbdfhiihaemjhaaItVis
namespace Go.Proofs.Ytbdfhiihaemjhaa
open Go Go.Eng Go.RowKit
set_option linter.unusedVariables false
namespace ItW
open M O Vi
namespace X
theorem ti3 : TI Try.prog 3 (.int .i64 0) 1 8 := TI.mk (by kernel_rfl)
theorem ti22 : TI Try.prog 22 (.slice none 0 0) 1 24 := TI.mk (by kernel_rfl)
theorem ti24 : TI Try.prog 24 (.slice none 0 0) 1 24 := TI.mk (by kernel_rfl)
theorem ti26 : TI Try.prog 26 (.agg #[.slice none 0 0, .slice none 0 0]) 2 48 := TI.mk (by kernel_rfl)
theorem ti32 : TI Try.prog 32 (.agg #[.int .i64 0, .int .i64 0]) 2 16 := TI.mk (by kernel_rfl)
theorem has41 : Has Try.prog 41 := ⟨_, Try.func41, rfl, by kernel_rfl⟩
theorem has56 : Has Try.prog 56 := ⟨_, Try.func56, rfl, by kernel_rfl⟩
theorem examine_any (wb : World) (A_l : Option Addr) (n_l c_l : Nat) (l : List Sp.S) (A_p : Option Addr) (n_p c_p : Nat) (o : List Nat) (A_q : Option Addr) (n_q c_q : Nat) (q : List Int) (s : Sp.S) (N : Nat) (ho : ∀ j, j < N → o[j]! < n_l) (hN : o.length = N) (hQ : q.length = N) (hN2 : N ≤ 100000) (h_l : Ls wb A_l n_l c_l Sp.S.c 2 l) (h_p : Ls wb A_p n_p c_p Sp.ic 1 (o.map fun x : Nat => (x : Int))) (h_q : Ls wb A_q n_q c_q Sp.ic 1 q) (g0 : Nat) (o_g0 : wb.heap.size ≤ g0) : ∀ (D lo hi : Nat) (v : Value) (r : List Int) (c : Int) (w : World), hi - lo = D → lo ≤ hi → hi ≤ N → 0 ≤ c ∧ c + ((hi - lo : Nat) : Int) ≤ 1000000 → r.length + (hi - lo) ≤ 1000000 → Ext wb w → Blk w g0 49 [.slice A_l n_l c_l, .slice A_p n_p c_p, .slice A_q n_q c_q, .int .i64 s.f, .int .i64 s.t, v, .int .i64 c] → OwnL w wb.heap.size 3 Sp.ic 1 v r → v.ownBlock ≠ some g0 →
    Calls Try.prog 41 #[.pointer (some ⟨g0, 0, none⟩), .int .i64 ((lo : Nat) : Int), .int .i64 ((hi : Nat) : Int)] w fun e w' => ∃ v', e = .returned (.tuple #[]) ∧ Blk w' g0 49 [.slice A_l n_l c_l, .slice A_p n_p c_p, .slice A_q n_q c_q, .int .i64 s.f, .int .i64 s.t, v', .int .i64 (c + It.vis l o q s (hi - lo) lo hi)] ∧ OwnL w' wb.heap.size 3 Sp.ic 1 v' (r ++ It.exam l o q s (hi - lo) lo hi) ∧ v'.ownBlock ≠ some g0 ∧ Ext wb w' := by
  intro D
  induction D using Nat.strongRecOn
  rename_i D ih
  intro lo hi v r c w hD hlh hhN hc hr xW m0 ow_v r_v_g0
  have e_l := h_l.len
  have z_l := h_l.nle
  have e_p := h_p.len
  have e_q := h_q.len
  rw [List.length_map] at e_p
  refine calls_of_WC (args := [.pointer (some ⟨g0, 0, none⟩), .int .i64 ((lo : Nat) : Int), .int .i64 ((hi : Nat) : Int)]) Try.func41 rfl rfl (ble rfl) ?_
  refine WC.seq (fun K1 k1 => ?_)
  refine WC.region rfl ?_
  refine WL.yld rfl (blt rfl) rfl (Y.move rfl rfl) ?_
  refine WL.yld rfl (blt rfl) rfl (Y.move rfl rfl) ?_
  refine WL.yld rfl (blt rfl) rfl (Y.add rfl rfl rfl (wrap_i64 (by first | omega | (dsimp only; omega)))) ?_
  refine WL.yld rfl (blt rfl) rfl (Yld.cast (Y.quo rfl rfl rfl (by omega) (wrap_quo (by omega) (by omega) (by omega))) (vi (b := ((((lo + hi) / 2) : Nat) : Int)) (by omega))) ?_
  refine WL.yld rfl (blt rfl) rfl (Y.assign rfl rfl) ?_
  refine WL.nil ?_
  refine WK.then_normal (k1 _ _ ?_)
  refine WC.sub [(0, _), (1, _), (2, _), (6, _)] ⟨rfl, rfl, rfl, rfl, trivial⟩ ?_
  refine WC.seq (fun K2 k2 => ?_)
  refine WC.seq (fun K3 k3 => ?_)
  refine WC.regionDq (by kernel_rfl) (by kernel_rfl) rfl ?_
  refine WQ.yld rfl (blt rfl) rfl (Y.move rfl rfl) ?_
  refine WQ.yld rfl (blt rfl) rfl (Y.move rfl rfl) ?_
  refine WQ.yld rfl (blt rfl) rfl (Y.geq rfl rfl rfl) ?_
  refine WQ.yld rfl (blt rfl) rfl (Y.move rfl rfl) ?_
  refine WQ.yldG rfl (blt rfl) rfl rfl rfl (fun hb => Y.move rfl rfl) ?_
  refine WQ.yldG rfl (blt rfl) rfl rfl rfl (fun hb => Y.nilCheck rfl (evg rfl hb)) ?_
  refine WQ.yldG rfl (blt rfl) rfl rfl rfl (fun hb => Y.fieldAddr rfl Try.underlying49 rfl ti26 (by decide) (evg rfl hb)) ?_
  refine WQ.yldG rfl (blt rfl) rfl rfl rfl (fun hb => Y.fieldAddr rfl Try.underlying26 rfl ti24 (by decide) (evg rfl hb)) ?_
  refine WQ.yldG rfl (blt rfl) rfl rfl rfl (fun hb => Y.load1 rfl Try.underlying24 rfl (evg rfl hb) (Blk.at_ext m0 rfl)) ?_
  refine WQ.yldG rfl (blt rfl) rfl rfl rfl (fun hb => Y.move rfl rfl) ?_
  refine WQ.yldG rfl (blt rfl) rfl rfl rfl (fun hb => Y.indexLs ((lo + hi) / 2) (h_q.ext xW) rfl Try.underlying24 ti3 (evg rfl hb) (evg rfl hb) rfl (by have q0 := (dec_f hb); omega)) ?_
  refine WQ.yldG rfl (blt rfl) rfl rfl rfl (fun hb => Y.load1 rfl Try.underlying3 rfl (evg rfl hb) (Ls.at_ext (h_q.ext xW) (by have q0 := (dec_f hb); omega) rfl)) ?_
  refine WQ.yldG rfl (blt rfl) rfl rfl rfl (fun hb => Y.move rfl rfl) ?_
  refine WQ.yldG rfl (blt rfl) rfl rfl rfl (fun hb => Y.nilCheck rfl (evg rfl hb)) ?_
  refine WQ.yldG rfl (blt rfl) rfl rfl rfl (fun hb => Y.fieldAddr rfl Try.underlying49 rfl ti32 (by decide) (evg rfl hb)) ?_
  refine WQ.yldG rfl (blt rfl) rfl rfl rfl (fun hb => Y.fieldAddr rfl Try.underlying32 rfl ti3 (by decide) (evg rfl hb)) ?_
  refine WQ.yldG rfl (blt rfl) rfl rfl rfl (fun hb => Y.load1 rfl Try.underlying3 rfl (evg rfl hb) (Blk.at_ext m0 rfl)) ?_
  refine WQ.yldG rfl (blt rfl) rfl rfl rfl (fun hb => Y.leq rfl (evg rfl hb) (evg rfl hb)) ?_
  refine WQ.yld rfl (blt rfl) rfl (Y.or rfl rfl rfl rfl) ?_
  refine WQ.done (fun w4 x5 => ?_)
  have m0 := m0.ext x5
  have ow_v := ow_v.ext x5
  have xW := Ext.trans xW x5
  refine WK.then_normal (k3 _ _ ?_)
  refine WC.sub [(0, _), (1, _), (2, _), (6, _), (31, _)] ⟨rfl, rfl, rfl, rfl, rfl, trivial⟩ ?_
  refine WC.cond rfl (fun h6 => ?_) (fun h6 => ?_)
  ·
    have p6 := ((or_t h6).imp (fun h => (dec_t h)) (fun h => (dec_t h)))
    refine WC.ret ?_
    refine WK.then_ret ?_
    clear k1 k2 k3
    refine WK.ret [] rfl trivial ?_
    refine ⟨_, rfl, ?_, ?_, r_v_g0, xW⟩
    · rw [It.vis_cut (It.cut_t h6), Int.add_zero]; exact m0
    · rw [It.exam_cut (It.cut_t h6), List.append_nil]; exact ow_v
  ·
    have p6 := (And.intro (dec_f (or_f h6).1) (dec_f (or_f h6).2))
    have hom := ho ((lo + hi) / 2) (by have q := It.cut_f h6; omega)
    have r1 := It.vis_rng l o q s (((lo + hi) / 2) - lo) lo ((lo + hi) / 2) (Nat.le_refl _)
    have r2 := It.vis_rng l o q s (hi - (((lo + hi) / 2) + 1)) (((lo + hi) / 2) + 1) hi (Nat.le_refl _)
    have x1 := It.exam_len (l := l) (o := o) (ms := q) (s := s) (lo := lo) (hi := ((lo + hi) / 2))
    have hlt : lo < hi := by have q := It.cut_f h6; omega
    refine WC.skip ?_
    refine WK.then_normal (k2 _ _ ?_)
    refine WC.sub [(0, _), (1, _), (2, _), (6, _)] ⟨rfl, rfl, rfl, rfl, trivial⟩ ?_
    refine WC.seq (fun K7 k7 => ?_)
    refine WC.region rfl ?_
    refine WL.yld rfl (blt rfl) rfl (Y.move rfl rfl) ?_
    refine WL.yld rfl (blt rfl) rfl (Y.nilCheck rfl rfl) ?_
    refine WL.yld rfl (blt rfl) rfl (Y.fieldAddr rfl Try.underlying49 rfl ti3 (by decide) rfl) ?_
    refine WL.yld rfl (blt rfl) rfl (Y.load1 rfl Try.underlying3 rfl rfl (Blk.at_eq m0 rfl)) ?_
    refine WL.yld rfl (blt rfl) rfl (Y.add rfl rfl rfl (wrap_i64 (by first | omega | (dsimp only; omega)))) ?_
    refine WL.yld rfl (blt rfl) rfl (Y.nilCheck rfl rfl) ?_
    refine WL.yld rfl (blt rfl) rfl (Y.fieldAddr rfl Try.underlying49 rfl ti3 (by decide) rfl) ?_
    refine WL.store (cs' := [_, _, _, _, _, _, _]) rfl rfl rfl rfl rfl rfl ti3 m0 (ble rfl) rfl rfl (fun w8 on9 m10 => ?_)
    have ow_v := ow_v.only r_v_g0 on9
    have xW := Ext.only xW on9 o_g0
    refine WL.nil ?_
    refine WK.then_normal (k7 _ _ ?_)
    refine WC.sub [(0, _), (1, _), (2, _), (6, _)] ⟨rfl, rfl, rfl, rfl, trivial⟩ ?_
    refine WC.seq (fun K11 k11 => ?_)
    refine WC.region rfl ?_
    refine WL.yld rfl (blt rfl) rfl (Y.move rfl rfl) ?_
    refine WL.yld rfl (blt rfl) rfl (Y.move rfl rfl) ?_
    refine WL.yld rfl (blt rfl) rfl (Y.move rfl rfl) ?_
    refine WL.call rfl (blt rfl) rfl rfl rfl has41 rfl (ih _ (by omega) lo ((lo + hi) / 2) _ _ _ _ rfl (by omega) (by omega) (by omega) (by first | omega | (simp only [List.length_append, List.length_cons, List.length_nil]; omega)) xW m10 ow_v r_v_g0) ?_
    rintro _ w12 ⟨v14, rfl, m15, ow16, r_v14_g0, x13⟩
    refine ⟨_, rfl, ?_⟩
    have xW := x13
    refine WL.nil ?_
    refine WK.then_normal (k11 _ _ ?_)
    refine WC.sub [(0, _), (2, _), (6, _)] ⟨rfl, rfl, rfl, trivial⟩ ?_
    refine WC.seq (fun K18 k18 => ?_)
    refine WC.region rfl ?_
    refine WL.yld rfl (blt rfl) rfl (Y.move rfl rfl) ?_
    refine WL.yld rfl (blt rfl) rfl (Y.nilCheck rfl rfl) ?_
    refine WL.yld rfl (blt rfl) rfl (Y.fieldAddr rfl Try.underlying49 rfl ti26 (by decide) rfl) ?_
    refine WL.yld rfl (blt rfl) rfl (Y.fieldAddr rfl Try.underlying26 rfl ti24 (by decide) rfl) ?_
    refine WL.yld rfl (blt rfl) rfl (Y.load1 rfl Try.underlying24 rfl rfl (Blk.at_eq m15 rfl)) ?_
    refine WL.yld rfl (blt rfl) rfl (Y.move rfl rfl) ?_
    have b19 : ((lo + hi) / 2) < n_p := by omega
    refine WL.yld rfl (blt rfl) rfl (Y.indexLs ((lo + hi) / 2) (h_p.ext xW) rfl Try.underlying24 ti3 rfl rfl rfl b19) ?_
    refine WL.yld rfl (blt rfl) rfl (Yld.cast (Y.load1 rfl Try.underlying3 rfl rfl (Ls.at_eq (h_p.ext xW) b19 rfl)) (vi (It.map_bang (by omega)))) ?_
    refine WL.yld rfl (blt rfl) rfl (Y.assign rfl rfl) ?_
    refine WL.nil ?_
    refine WK.then_normal (k18 _ _ ?_)
    refine WC.sub [(0, _), (2, _), (6, _), (7, _)] ⟨rfl, rfl, rfl, rfl, trivial⟩ ?_
    refine WC.seq (fun K20 k20 => ?_)
    refine WC.region rfl ?_
    refine WL.yld rfl (blt rfl) rfl (Y.move rfl rfl) ?_
    refine WL.yld rfl (blt rfl) rfl (Y.nilCheck rfl rfl) ?_
    refine WL.yld rfl (blt rfl) rfl (Y.fieldAddr rfl Try.underlying49 rfl ti22 (by decide) rfl) ?_
    refine WL.yld rfl (blt rfl) rfl (Y.load1 rfl Try.underlying22 rfl rfl (Blk.at_eq m15 rfl)) ?_
    refine WL.yld rfl (blt rfl) rfl (Y.move rfl rfl) ?_
    have b21 : o[((lo + hi) / 2)]! < n_l := by omega
    refine WL.yld rfl (blt rfl) rfl (Y.indexLs o[((lo + hi) / 2)]! (h_l.ext xW) rfl Try.underlying22 ti32 rfl rfl rfl b21) ?_
    refine WL.yld rfl (blt rfl) rfl (Y.loadS (cs := [_, _]) rfl Try.underlying32 rfl ti32 rfl (Ls.part_eq (h_l.ext xW) b21 rfl)) ?_
    refine WL.alloc rfl (blt rfl) rfl rfl ti32 rfl ?_
    intro g22 w23 e24 x25 m26
    have n_g0_g22 := ne_new m15 e24
    have r_v14_g22 := ne_newO ow16 e24
    have o_g22 := own_new xW e24
    have m15 := m15.ext x25
    have ow16 := ow16.ext x25
    have xW := Ext.trans xW x25
    refine WL.store (cs' := [_, _]) rfl rfl rfl rfl rfl rfl ti32 m26 (ble rfl) rfl rfl (fun w27 on28 m29 => ?_)
    have m15 := m15.only n_g0_g22 on28
    have ow16 := ow16.only r_v14_g22 on28
    have xW := Ext.only xW on28 o_g22
    refine WL.nil ?_
    refine WK.then_normal (k20 _ _ ?_)
    refine WC.sub [(0, _), (2, _), (6, _), (7, _), (8, _)] ⟨rfl, rfl, rfl, rfl, rfl, trivial⟩ ?_
    refine WC.seq (fun K30 k30 => ?_)
    refine WC.seq (fun K31 k31 => ?_)
    refine WC.regionDq (by kernel_rfl) (by kernel_rfl) rfl ?_
    refine WQ.yld rfl (blt rfl) rfl (Y.fieldAddr rfl Try.underlying32 rfl ti3 (by decide) rfl) ?_
    refine WQ.yld rfl (blt rfl) rfl (Y.load1 rfl Try.underlying3 rfl rfl (Blk.at_ext m29 rfl)) ?_
    refine WQ.yld rfl (blt rfl) rfl (Y.move rfl rfl) ?_
    refine WQ.yld rfl (blt rfl) rfl (Y.nilCheck rfl rfl) ?_
    refine WQ.yld rfl (blt rfl) rfl (Y.fieldAddr rfl Try.underlying49 rfl ti32 (by decide) rfl) ?_
    refine WQ.yld rfl (blt rfl) rfl (Y.fieldAddr rfl Try.underlying32 rfl ti3 (by decide) rfl) ?_
    refine WQ.yld rfl (blt rfl) rfl (Y.load1 rfl Try.underlying3 rfl rfl (Blk.at_ext m15 rfl)) ?_
    refine WQ.yld rfl (blt rfl) rfl (Y.geq rfl rfl rfl) ?_
    refine WQ.done (fun w32 x33 => ?_)
    have m15 := m15.ext x33
    have ow16 := ow16.ext x33
    have m29 := m29.ext x33
    have xW := Ext.trans xW x33
    refine WK.then_normal (k31 _ _ ?_)
    refine WC.sub [(0, _), (2, _), (6, _), (7, _), (8, _), (65, _)] ⟨rfl, rfl, rfl, rfl, rfl, rfl, trivial⟩ ?_
    refine WC.cond rfl (fun h34 => ?_) (fun h34 => ?_)
    ·
      have p34 := (dec_t h34)
      refine WC.ret ?_
      refine WK.then_ret ?_
      clear k1 k2 k3 k7 k11 k18 k20 k30 k31
      refine WK.ret [] rfl trivial ?_
      refine ⟨_, rfl, ?_, ?_, r_v14_g0, xW⟩
      · rw [It.vis_step (It.cut_f h6), if_pos (dec_t h34), Int.add_zero, ← Int.add_assoc]; exact m15
      · rw [It.exam_step (It.cut_f h6), if_pos (dec_t h34), List.append_nil]; exact ow16
    ·
      have p34 := (dec_f h34)
      refine WC.skip ?_
      refine WK.then_normal (k30 _ _ ?_)
      refine WC.sub [(0, _), (2, _), (6, _), (7, _), (8, _)] ⟨rfl, rfl, rfl, rfl, rfl, trivial⟩ ?_
      refine WC.seq (fun K35 k35 => ?_)
      refine WC.seq (fun K36 k36 => ?_)
      refine WC.regionDq (by kernel_rfl) (by kernel_rfl) rfl ?_
      refine WQ.yld rfl (blt rfl) rfl (Y.loadS rfl Try.underlying32 rfl ti32 rfl (Blk.row_ext m29)) ?_
      refine WQ.call rfl (blt rfl) rfl rfl rfl has56 rfl (fun w hw => calls_ext hw (valid_any _ _ )) ?_
      refine WQ.yld rfl (blt rfl) rfl (Y.move rfl rfl) ?_
      refine WQ.yldG rfl (blt rfl) rfl rfl rfl (fun hb => Y.move rfl rfl) ?_
      refine WQ.yldG rfl (blt rfl) rfl rfl rfl (fun hb => Y.nilCheck rfl (evg rfl hb)) ?_
      refine WQ.yldG rfl (blt rfl) rfl rfl rfl (fun hb => Y.fieldAddr rfl Try.underlying49 rfl ti32 (by decide) (evg rfl hb)) ?_
      refine WQ.yldG rfl (blt rfl) rfl rfl rfl (fun hb => Y.loadS (cs := [_, _]) rfl Try.underlying32 rfl ti32 (evg rfl hb) (Blk.part_ext m15 rfl)) ?_
      refine WQ.callG rfl (blt rfl) rfl rfl rfl rfl rfl has56 (fun hb => (evs_cons (evg rfl hb) evs_nil)) (fun hb w hw => calls_ext hw (valid_any _ _ )) ?_
      refine WQ.yld rfl (blt rfl) rfl (Y.and rfl rfl rfl rfl) ?_
      refine WQ.yld rfl (blt rfl) rfl (Y.move rfl rfl) ?_
      refine WQ.yldG rfl (blt rfl) rfl rfl rfl (fun hb => Y.fieldAddr rfl Try.underlying32 rfl ti3 (by decide) rfl) ?_
      refine WQ.yldG rfl (blt rfl) rfl rfl rfl (fun hb => Y.load1 rfl Try.underlying3 rfl (evg rfl hb) (Blk.at_ext m29 rfl)) ?_
      refine WQ.yldG rfl (blt rfl) rfl rfl rfl (fun hb => Y.move rfl rfl) ?_
      refine WQ.yldG rfl (blt rfl) rfl rfl rfl (fun hb => Y.nilCheck rfl (evg rfl hb)) ?_
      refine WQ.yldG rfl (blt rfl) rfl rfl rfl (fun hb => Y.fieldAddr rfl Try.underlying49 rfl ti32 (by decide) (evg rfl hb)) ?_
      refine WQ.yldG rfl (blt rfl) rfl rfl rfl (fun hb => Y.fieldAddr rfl Try.underlying32 rfl ti3 (by decide) (evg rfl hb)) ?_
      refine WQ.yldG rfl (blt rfl) rfl rfl rfl (fun hb => Y.load1 rfl Try.underlying3 rfl (evg rfl hb) (Blk.at_ext m15 rfl)) ?_
      refine WQ.yldG rfl (blt rfl) rfl rfl rfl (fun hb => Y.gtr rfl (evg rfl hb) (evg rfl hb)) ?_
      refine WQ.yld rfl (blt rfl) rfl (Y.and rfl rfl rfl rfl) ?_
      refine WQ.done (fun w37 x38 => ?_)
      have m15 := m15.ext x38
      have ow16 := ow16.ext x38
      have m29 := m29.ext x38
      have xW := Ext.trans xW x38
      refine WK.then_normal (k36 _ _ ?_)
      refine WC.sub [(0, _), (2, _), (6, _), (7, _), (84, _)] ⟨rfl, rfl, rfl, rfl, rfl, trivial⟩ ?_
      refine WC.cond rfl (fun h39 => ?_) (fun h39 => ?_)
      ·
        have p39 := (dec_t (and_t h39).2)
        refine WC.region rfl ?_
        refine WL.yld rfl (blt rfl) rfl (Y.move rfl rfl) ?_
        refine WL.yld rfl (blt rfl) rfl (Y.move rfl rfl) ?_
        refine WL.yld rfl (blt rfl) rfl (Y.nilCheck rfl rfl) ?_
        refine WL.yld rfl (blt rfl) rfl (Y.fieldAddr rfl Try.underlying49 rfl ti24 (by decide) rfl) ?_
        refine WL.yld rfl (blt rfl) rfl (Y.load1 rfl Try.underlying24 rfl rfl (Blk.at_eq m15 rfl)) ?_
        refine WL.yld rfl (blt rfl) rfl (Y.move rfl rfl) ?_
        refine WL.bslice (zs := [.int .i64 0]) (cs := [_]) rfl (blt rfl) rfl rfl Try.underlying24 ti3 rfl (ble rfl) (by kernel_rfl) rfl rfl ?_
        intro g40 w41 e42 x43 m44
        have n_g0_g40 := ne_new m15 e42
        have r_v14_g40 := ne_newO ow16 e42
        have o_g40 := own_new xW e42
        have m15 := m15.ext x43
        have ow16 := ow16.ext x43
        have xW := Ext.trans xW x43
        refine WL.appendB (f := Sp.ic) (news := [((o[((lo + hi) / 2)]! : Nat) : Int)]) rfl (blt rfl) rfl rfl rfl rfl Try.underlying24 ti3 rfl (by decide) rfl ow16 (fun _ => rfl) Sp.ic_one m44 rfl xW.size (by have q0 := hr; first | omega | (simp only [List.length_append, List.length_cons, List.length_nil, List.length_take, List.length_drop, List.length_reverse]; omega)) (Nat.le_trans (show _ ≤ 140737488355328 from by have q0 := hr; first | omega | (simp only [List.length_append, List.length_cons, List.length_nil, List.length_take, List.length_drop, List.length_reverse]; omega)) (by decide)) (fun v45 w46 ow47 gr48 nb49 => ?_)
        have r_v45_g0 := ne_app nb49 r_v14_g0 m15
        have m15 := m15.grown gr48 r_v14_g0
        have r_v45_g40 := ne_app nb49 r_v14_g40 m44
        have m44 := m44.grown gr48 r_v14_g40
        have xW := Ext.grown xW gr48 (fun b hb => (OwnL.lt ow16 hb).1)
        refine WL.yld rfl (blt rfl) rfl (Y.nilCheck rfl rfl) ?_
        refine WL.yld rfl (blt rfl) rfl (Y.fieldAddr rfl Try.underlying49 rfl ti24 (by decide) rfl) ?_
        obtain ⟨A50, n51, c52, rfl, hl53⟩ := OwnL.opened ow47 (fun _ => rfl) (by decide)
        have e_n51 := hl53.len
        try simp only [List.length_append, List.length_cons, List.length_nil, List.length_reverse, List.length_drop, List.length_take, List.length_map, List.length_replicate] at e_n51
        have z_n51 := hl53.nle
        refine WL.store (cs' := [_, _, _, _, _, _, _]) rfl rfl rfl rfl rfl rfl ti24 m15 (ble rfl) rfl rfl (fun w54 on55 m56 => ?_)
        have m44 := m44.only n_g0_g40.symm on55
        have ow47 := ow47.only r_v45_g0 on55
        have hl53 := OwnL.ls ow47 (fun _ => rfl) (by decide)
        have xW := Ext.only xW on55 o_g0
        refine WL.nil ?_
        refine WK.then_normal (k35 _ _ ?_)
        refine WC.sub [(0, _), (2, _), (6, _)] ⟨rfl, rfl, rfl, trivial⟩ ?_
        refine WC.region rfl ?_
        refine WL.yld rfl (blt rfl) rfl (Y.move rfl rfl) ?_
        refine WL.yld rfl (blt rfl) rfl (Y.move rfl rfl) ?_
        refine WL.yld rfl (blt rfl) rfl (Y.add rfl rfl rfl (wrap_i64 (by first | omega | (dsimp only; omega)))) ?_
        refine WL.yld rfl (blt rfl) rfl (Y.move rfl rfl) ?_
        refine WL.call rfl (blt rfl) rfl rfl rfl has41 rfl (ih _ (by omega) (((lo + hi) / 2) + 1) hi _ _ _ _ rfl (by omega) (by omega) (by omega) (by first | omega | (simp only [List.length_append, List.length_cons, List.length_nil]; omega)) xW m56 ow47 r_v45_g0) ?_
        rintro _ w57 ⟨v59, rfl, m60, ow61, r_v59_g0, x58⟩
        refine ⟨_, rfl, ?_⟩
        have xW := x58
        refine WL.nil ?_
        clear k1 k2 k3 k7 k11 k18 k20 k30 k31 k35 k36
        refine WK.end_ [] rfl trivial ?_
        refine ⟨_, rfl, ?_, ?_, r_v59_g0, xW⟩
        · rw [It.vis_step (It.cut_f h6), if_neg (dec_f h34), ← Int.add_assoc, ← Int.add_assoc]; exact m60
        · rw [It.exam_step (It.cut_f h6), if_neg (dec_f h34), if_pos (show It.hit _ _ = true from h39)]
          simp only [List.append_assoc, List.nil_append] at ow61 ⊢
          exact ow61
      ·
        have p39 := ((and_f h39).imp (fun h => h) (fun h => (dec_f h)))
        refine WC.skip ?_
        refine WK.then_normal (k35 _ _ ?_)
        refine WC.sub [(0, _), (2, _), (6, _)] ⟨rfl, rfl, rfl, trivial⟩ ?_
        refine WC.region rfl ?_
        refine WL.yld rfl (blt rfl) rfl (Y.move rfl rfl) ?_
        refine WL.yld rfl (blt rfl) rfl (Y.move rfl rfl) ?_
        refine WL.yld rfl (blt rfl) rfl (Y.add rfl rfl rfl (wrap_i64 (by first | omega | (dsimp only; omega)))) ?_
        refine WL.yld rfl (blt rfl) rfl (Y.move rfl rfl) ?_
        refine WL.call rfl (blt rfl) rfl rfl rfl has41 rfl (ih _ (by omega) (((lo + hi) / 2) + 1) hi _ _ _ _ rfl (by omega) (by omega) (by omega) (by first | omega | (simp only [List.length_append, List.length_cons, List.length_nil]; omega)) xW m15 ow16 r_v14_g0) ?_
        rintro _ w63 ⟨v65, rfl, m66, ow67, r_v65_g0, x64⟩
        refine ⟨_, rfl, ?_⟩
        have xW := x64
        refine WL.nil ?_
        clear k1 k2 k3 k7 k11 k18 k20 k30 k31 k35 k36
        refine WK.end_ [] rfl trivial ?_
        refine ⟨_, rfl, ?_, ?_, r_v65_g0, xW⟩
        · rw [It.vis_step (It.cut_f h6), if_neg (dec_f h34), ← Int.add_assoc, ← Int.add_assoc]; exact m66
        · rw [It.exam_step (It.cut_f h6), if_neg (dec_f h34), if_neg (show ¬ It.hit _ _ = true from by unfold It.hit; rw [h39]; exact Bool.false_ne_true)]
          simp only [List.append_assoc, List.nil_append] at ow67 ⊢
          exact ow67
end X
end ItW

end Go.Proofs.Ytbdfhiihaemjhaa
