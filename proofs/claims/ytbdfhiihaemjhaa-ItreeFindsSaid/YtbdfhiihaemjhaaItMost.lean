/- Contracts: the greatest ends. Conditions: what each theorem states. -/
import Derived.Test.YtbdfhiihaemjhaaItSort
namespace Go.Proofs.Ytbdfhiihaemjhaa
open Go Go.Eng Go.RowKit
set_option linter.unusedVariables false
namespace ItW
namespace M
theorem ti3 : TI Try.prog 3 (.int .i64 0) 1 8 := TI.mk (by kernel_rfl)
theorem ti24 : TI Try.prog 24 (.slice none 0 0) 1 24 := TI.mk (by kernel_rfl)
theorem ti26 : TI Try.prog 26 (.agg #[.slice none 0 0, .slice none 0 0]) 2 48 := TI.mk (by kernel_rfl)
theorem ti32 : TI Try.prog 32 (.agg #[.int .i64 0, .int .i64 0]) 2 16 := TI.mk (by kernel_rfl)
theorem has27 : Has Try.prog 27 := ⟨_, Try.func27, rfl, by kernel_rfl⟩
theorem has29 : Has Try.prog 29 := ⟨_, Try.func29, rfl, by kernel_rfl⟩
theorem most_any (wb : World) (A_l : Option Addr) (n_l c_l : Nat) (l : List Sp.S) (h_l : Ls wb A_l n_l c_l Sp.S.c 2 l) (v_m v_o : Value) (o : List Nat) (N : Nat) (ho : ∀ j, j < N → o[j]! < n_l) (hN : o.length = N) (hN2 : N ≤ 100000) (d_v_m_v_o : Apart v_m v_o) : ∀ (D lo hi : Nat) (m : List Int) (w : World), hi - lo = D → lo ≤ hi → hi ≤ N → m.length = N → Ext wb w → OwnL w wb.heap.size 3 Sp.ic 1 v_m (m) → OwnL w wb.heap.size 3 Sp.ic 1 v_o (o.map fun x : Nat => (x : Int)) →
    Calls Try.prog 27 #[.slice A_l n_l c_l, .agg #[v_o, v_m], .int .i64 ((lo : Nat) : Int), .int .i64 ((hi : Nat) : Int)] w fun e w' => e = .returned (.int .i64 (It.mx (It.tv l o) (hi - lo) lo hi)) ∧ OwnL w' wb.heap.size 3 Sp.ic 1 v_m (It.fill (It.tv l o) (hi - lo) lo hi m) ∧ Gr w w' v_m.ownBlock := by
  intro D
  induction D using Nat.strongRecOn
  rename_i D ih
  intro lo hi m w hD hlh hhN hm xW ow_m ow_o
  have gW := Gr.refl w v_m.ownBlock
  have e_l := h_l.len
  have z_l := h_l.nle
  refine calls_of_WC (args := [.slice A_l n_l c_l, .agg #[v_o, v_m], .int .i64 ((lo : Nat) : Int), .int .i64 ((hi : Nat) : Int)]) Try.func27 rfl rfl (ble rfl) ?_
  refine WC.seq (fun K1 k1 => ?_)
  refine WC.region rfl ?_
  refine WL.box rfl (blt rfl) rfl rfl rfl rfl ?_
  intro g2 w3 e4 x5 m6
  have r_v_m_g2 := ne_newO ow_m e4
  have r_v_o_g2 := ne_newO ow_o e4
  have o_g2 := own_new xW e4
  have og_g2 := own_newG gW e4
  have ow_m := ow_m.ext x5
  have ow_o := ow_o.ext x5
  have xW := Ext.trans xW x5
  have gW := Gr.ext gW x5
  refine WL.yld rfl (blt rfl) rfl (Y.assign rfl rfl) ?_
  refine WL.nil ?_
  refine WK.then_normal (k1 _ _ ?_)
  refine WC.sub [(0, _), (2, _), (3, _), (5, _)] ⟨rfl, rfl, rfl, rfl, trivial⟩ ?_
  refine WC.seq (fun K7 k7 => ?_)
  refine WC.seq (fun K8 k8 => ?_)
  refine WC.region rfl ?_
  refine WL.yld rfl (blt rfl) rfl (Y.move rfl rfl) ?_
  refine WL.yld rfl (blt rfl) rfl (Y.move rfl rfl) ?_
  refine WL.yld rfl (blt rfl) rfl (Y.geq rfl rfl rfl) ?_
  refine WL.nil ?_
  refine WK.then_normal (k8 _ _ ?_)
  refine WC.sub [(0, _), (2, _), (3, _), (5, _), (12, _)] ⟨rfl, rfl, rfl, rfl, rfl, trivial⟩ ?_
  refine WC.cond rfl (fun h9 => ?_) (fun h9 => ?_)
  ·
    have p9 := (dec_t h9)
    refine WC.seq (fun K10 k10 => ?_)
    refine WC.region rfl ?_
    refine WL.yld rfl (blt rfl) rfl (Y.assign rfl rfl) ?_
    refine WL.nil ?_
    refine WK.then_normal (k10 _ _ ?_)
    refine WC.sub [(8, _)] ⟨rfl, trivial⟩ ?_
    refine WC.ret ?_
    refine WK.then_ret ?_
    clear k1 k7 k8 k10
    refine WK.ret [_] rfl ⟨rfl, trivial⟩ ?_
    exact ⟨ret1 (vi (It.mx_nil _ (by omega)).symm), (by rw [It.fill_nil _ (by omega)]; exact ow_m), gW⟩
  ·
    have p9 := (dec_f h9)
    have hom := ho ((lo + hi) / 2) (by omega)
    refine WC.skip ?_
    refine WK.then_normal (k7 _ _ ?_)
    refine WC.sub [(0, _), (2, _), (3, _), (5, _)] ⟨rfl, rfl, rfl, rfl, trivial⟩ ?_
    refine WC.seq (fun K11 k11 => ?_)
    refine WC.region rfl ?_
    refine WL.yld rfl (blt rfl) rfl (Y.move rfl rfl) ?_
    refine WL.yld rfl (blt rfl) rfl (Y.move rfl rfl) ?_
    refine WL.yld rfl (blt rfl) rfl (Y.add rfl rfl rfl (wrap_i64 (by first | omega | (dsimp only; omega)))) ?_
    refine WL.yld rfl (blt rfl) rfl (Yld.cast (Y.quo rfl rfl rfl (by omega) (wrap_quo (by omega) (by omega) (by omega))) (vi (b := ((((lo + hi) / 2) : Nat) : Int)) (by omega))) ?_
    refine WL.yld rfl (blt rfl) rfl (Y.assign rfl rfl) ?_
    refine WL.nil ?_
    refine WK.then_normal (k11 _ _ ?_)
    refine WC.sub [(0, _), (2, _), (3, _), (5, _), (9, _)] ⟨rfl, rfl, rfl, rfl, rfl, trivial⟩ ?_
    refine WC.seq (fun K12 k12 => ?_)
    obtain ⟨A13, n14, c15, rfl, hl16⟩ := OwnL.opened ow_o (fun _ => rfl) (by decide)
    have e_n14 := hl16.len
    try simp only [List.length_append, List.length_cons, List.length_nil, List.length_reverse, List.length_drop, List.length_take, List.length_map, List.length_replicate] at e_n14
    have z_n14 := hl16.nle
    obtain ⟨A17, n18, c19, rfl, hl20⟩ := OwnL.opened ow_m (fun _ => rfl) (by decide)
    have e_n18 := hl20.len
    try simp only [List.length_append, List.length_cons, List.length_nil, List.length_reverse, List.length_drop, List.length_take, List.length_map, List.length_replicate] at e_n18
    have z_n18 := hl20.nle
    refine WC.regionX (fun W' => Ext wb W' ∧ Ls W' A13 n14 c15 Sp.ic 1 _ ∧ Blk W' g2 26 _) (.load 0 (.load 1 (.load 2 (.load 3 (.load 4 (.load 5 (.load 6 (.load 7 (.load 8 (.load 9 (.load 10 (.load 11 (.load 12 (.load 13 (.load 14 (.load 15 (.load 17 (.load 18 (.load 19 (.load 20 (.load 21 (.alt 16 (.alt 22 (.load 23 (.load 24 (.alt 25 (.fin) (.none)))) (.none)) (.none))))))))))))))))))))))) ⟨xW, hl16, m6⟩ (by kernel_rfl) (by kernel_rfl) (fun w21 x22 => ?_)
    have ow_m := ow_m.ext x22
    have hl20 := hl20.ext x22
    have ow_o := ow_o.ext x22
    have hl16 := hl16.ext x22
    have m6 := m6.ext x22
    have xW := Ext.trans xW x22
    have gW := Gr.ext gW x22
    refine WX.yld rfl rfl (blt rfl) rfl (Y.fieldAddr rfl Try.underlying26 rfl ti24 (by decide) rfl) ?_
    refine WX.yld rfl rfl (blt rfl) rfl (Y.load1 rfl Try.underlying24 rfl rfl (Blk.at_c (fun _ h => h.2.2) rfl)) ?_
    refine WX.yld rfl rfl (blt rfl) rfl (Y.move rfl rfl) ?_
    refine WX.yld rfl rfl (blt rfl) rfl (Y.move rfl rfl) ?_
    refine WX.yld rfl rfl (blt rfl) rfl (Y.fieldAddr rfl Try.underlying26 rfl ti24 (by decide) rfl) ?_
    refine WX.yld rfl rfl (blt rfl) rfl (Y.load1 rfl Try.underlying24 rfl rfl (Blk.at_c (fun _ h => h.2.2) rfl)) ?_
    refine WX.yld rfl rfl (blt rfl) rfl (Y.move rfl rfl) ?_
    have b23 : ((lo + hi) / 2) < n14 := by omega
    refine WX.yld rfl rfl (blt rfl) rfl (Y.indexLs ((lo + hi) / 2) hl16 rfl Try.underlying24 ti3 rfl rfl rfl b23) ?_
    refine WX.yld rfl rfl (blt rfl) rfl (Yld.cast (Y.load1 rfl Try.underlying3 rfl rfl (Ls.at_c (fun _ h => h.2.1) b23 rfl)) (vi (It.map_bang (by omega)))) ?_
    have b24 : o[((lo + hi) / 2)]! < n_l := by omega
    refine WX.yld rfl rfl (blt rfl) rfl (Y.indexLs o[((lo + hi) / 2)]! (h_l.ext xW) rfl Try.underlying22 ti32 rfl rfl rfl b24) ?_
    refine WX.yld rfl rfl (blt rfl) rfl (Y.fieldE rfl Try.underlying32 rfl ti3 (by decide) rfl) ?_
    refine WX.yld rfl rfl (blt rfl) rfl (Y.load1 rfl Try.underlying3 rfl rfl (Ls.at_c (fun _ h => (h_l.ext (h.1))) b24 rfl)) ?_
    refine WX.yld rfl rfl (blt rfl) rfl (Y.move rfl rfl) ?_
    refine WX.yld rfl rfl (blt rfl) rfl (Y.loadS rfl Try.underlying26 rfl ti26 rfl (Blk.row_c (fun _ h => h.2.2))) ?_
    refine WX.yld rfl rfl (blt rfl) rfl (Y.move rfl rfl) ?_
    refine WX.yld rfl rfl (blt rfl) rfl (Y.move rfl rfl) ?_
    refine WX.yld rfl rfl (blt rfl) rfl (Y.move rfl rfl) ?_
    refine WX.yld rfl rfl (blt rfl) rfl (Y.loadS rfl Try.underlying26 rfl ti26 rfl (Blk.row_c (fun _ h => h.2.2))) ?_
    refine WX.yld rfl rfl (blt rfl) rfl (Y.move rfl rfl) ?_
    refine WX.yld rfl rfl (blt rfl) rfl (Y.add rfl rfl rfl (wrap_i64 (by first | omega | (dsimp only; omega)))) ?_
    refine WX.yld rfl rfl (blt rfl) rfl (Y.move rfl rfl) ?_
    refine WX.call rfl rfl (blt rfl) rfl rfl rfl has27 rfl ⟨xW, hl16, m6⟩ (ih _ (by omega) lo ((lo + hi) / 2) _ _ rfl (by omega) (by omega) (by first | exact hm | (simp only [It.fill_len, List.length_set]; exact hm)) xW ow_m ow_o) ?_
    rintro _ w25 ⟨rfl, ow27, gr28⟩
    refine ⟨_, rfl, ?_⟩
    have ow_o := OwnL.grown ow_o gr28 d_v_m_v_o
    have hl16 := OwnL.ls ow_o (fun _ => rfl) (by decide)
    have m6 := m6.grown gr28 r_v_m_g2
    have xW := Ext.grown xW gr28 (fun b hb => (OwnL.lt ow_m hb).1)
    have gW := Gr.trans gW gr28
    have hl20 := OwnL.ls ow27 (fun _ => rfl) (by decide)
    refine WX.call rfl rfl (blt rfl) rfl rfl rfl has27 rfl ⟨xW, hl16, m6⟩ (ih _ (by omega) (((lo + hi) / 2) + 1) hi _ _ rfl (by omega) (by omega) (by first | exact hm | (simp only [It.fill_len, List.length_set]; exact hm)) xW ow27 ow_o) ?_
    rintro _ w29 ⟨rfl, ow31, gr32⟩
    refine ⟨_, rfl, ?_⟩
    have ow_o := OwnL.grown ow_o gr32 d_v_m_v_o
    have hl16 := OwnL.ls ow_o (fun _ => rfl) (by decide)
    have m6 := m6.grown gr32 r_v_m_g2
    have xW := Ext.grown xW gr32 (fun b hb => (OwnL.lt ow27 hb).1)
    have gW := Gr.trans gW gr32
    have hl20 := OwnL.ls ow31 (fun _ => rfl) (by decide)
    refine WX.yld rfl rfl (blt rfl) rfl (Y.maxI3 rfl rfl rfl rfl) ?_
    have b33 : ((lo + hi) / 2) < n18 := by omega
    refine WX.yld rfl rfl (blt rfl) rfl (Y.indexLs ((lo + hi) / 2) hl20 rfl Try.underlying24 ti3 rfl rfl rfl b33) ?_
    refine WX.storeE (k := ((lo + hi) / 2)) (off := 0) (f := Sp.ic) _ rfl ⟨xW, hl16, m6⟩ rfl rfl rfl rfl rfl rfl ti3 ow31 (fun _ => rfl) b33 (ble rfl) rfl rfl (fun w34 ow35 gr36 => ?_)
    have ow_o := OwnL.grown ow_o gr36 d_v_m_v_o
    have hl16 := OwnL.ls ow_o (fun _ => rfl) (by decide)
    have m6 := m6.grown gr36 r_v_m_g2
    have xW := Ext.grown xW gr36 (fun b hb => (OwnL.lt ow31 hb).1)
    have gW := Gr.trans gW gr36
    have hl20 := OwnL.ls ow35 (fun _ => rfl) (by decide)
    refine WX.nil ⟨xW, hl16, m6⟩ ?_
    refine WK.then_normal (k12 _ _ ?_)
    refine WC.sub [(5, _), (9, _)] ⟨rfl, rfl, trivial⟩ ?_
    refine WC.seq (fun K37 k37 => ?_)
    refine WC.region rfl ?_
    refine WL.yld rfl (blt rfl) rfl (Y.fieldAddr rfl Try.underlying26 rfl ti24 (by decide) rfl) ?_
    refine WL.yld rfl (blt rfl) rfl (Y.load1 rfl Try.underlying24 rfl rfl (Blk.at_eq m6 rfl)) ?_
    refine WL.yld rfl (blt rfl) rfl (Y.move rfl rfl) ?_
    have b38 : ((lo + hi) / 2) < n18 := by omega
    refine WL.yld rfl (blt rfl) rfl (Y.indexLs ((lo + hi) / 2) hl20 rfl Try.underlying24 ti3 rfl rfl rfl b38) ?_
    refine WL.yld rfl (blt rfl) rfl (Y.load1 rfl Try.underlying3 rfl rfl (Ls.at_eq hl20 b38 rfl)) ?_
    refine WL.yld rfl (blt rfl) rfl (Y.assign rfl rfl) ?_
    refine WL.nil ?_
    refine WK.then_normal (k37 _ _ ?_)
    refine WC.sub [(8, _)] ⟨rfl, trivial⟩ ?_
    refine WC.ret ?_
    clear k1 k7 k8 k11 k12 k37
    refine WK.ret [_] rfl ⟨rfl, trivial⟩ ?_
    refine ⟨ret1 (vi ?_), ?_, gW⟩
    · rw [It.set_same (by simp only [It.fill_len]; omega), It.mx_step _ (show lo < hi from by omega)]; rfl
    · rw [It.fill_step _ (show lo < hi from by omega), It.mx_step _ (show lo < hi from by omega)]
      exact ow35
theorem greatest_any (wb : World) (A_l : Option Addr) (n_l c_l : Nat) (l : List Sp.S) (h_l : Ls wb A_l n_l c_l Sp.S.c 2 l) (v_m v_o : Value) (o : List Nat) (N : Nat) (ho : ∀ j, j < N → o[j]! < n_l) (hN : o.length = N) (hN2 : N ≤ 100000) (d_v_m_v_o : Apart v_m v_o) : ∀ (D lo hi : Nat) (m : List Int) (w : World), hi - lo = D → lo ≤ hi → hi ≤ N → m.length = N → Ext wb w → OwnL w wb.heap.size 3 Sp.ic 1 v_m (m) → OwnL w wb.heap.size 3 Sp.ic 1 v_o (o.map fun x : Nat => (x : Int)) →
    Calls Try.prog 29 #[.slice A_l n_l c_l, .agg #[v_o, v_m], .int .i64 ((lo : Nat) : Int), .int .i64 ((hi : Nat) : Int)] w fun e w' => e = .returned (.tuple #[]) ∧ OwnL w' wb.heap.size 3 Sp.ic 1 v_m (It.fillR (It.tv l o) (hi - lo) lo hi m) ∧ Gr w w' v_m.ownBlock := by
  intro D
  induction D using Nat.strongRecOn
  rename_i D ih
  intro lo hi m w hD hlh hhN hm xW ow_m ow_o
  have gW := Gr.refl w v_m.ownBlock
  have e_l := h_l.len
  have z_l := h_l.nle
  refine calls_of_WC (args := [.slice A_l n_l c_l, .agg #[v_o, v_m], .int .i64 ((lo : Nat) : Int), .int .i64 ((hi : Nat) : Int)]) Try.func29 rfl rfl (ble rfl) ?_
  refine WC.seq (fun K1 k1 => ?_)
  refine WC.region rfl ?_
  refine WL.box rfl (blt rfl) rfl rfl rfl rfl ?_
  intro g2 w3 e4 x5 m6
  have r_v_m_g2 := ne_newO ow_m e4
  have r_v_o_g2 := ne_newO ow_o e4
  have o_g2 := own_new xW e4
  have og_g2 := own_newG gW e4
  have ow_m := ow_m.ext x5
  have ow_o := ow_o.ext x5
  have xW := Ext.trans xW x5
  have gW := Gr.ext gW x5
  refine WL.nil ?_
  refine WK.then_normal (k1 _ _ ?_)
  refine WC.sub [(0, _), (2, _), (3, _), (5, _)] ⟨rfl, rfl, rfl, rfl, trivial⟩ ?_
  refine WC.seq (fun K7 k7 => ?_)
  refine WC.seq (fun K8 k8 => ?_)
  refine WC.region rfl ?_
  refine WL.yld rfl (blt rfl) rfl (Y.move rfl rfl) ?_
  refine WL.yld rfl (blt rfl) rfl (Y.move rfl rfl) ?_
  refine WL.yld rfl (blt rfl) rfl (Y.geq rfl rfl rfl) ?_
  refine WL.nil ?_
  refine WK.then_normal (k8 _ _ ?_)
  refine WC.sub [(0, _), (2, _), (3, _), (5, _), (13, _)] ⟨rfl, rfl, rfl, rfl, rfl, trivial⟩ ?_
  refine WC.cond rfl (fun h9 => ?_) (fun h9 => ?_)
  ·
    have p9 := (dec_t h9)
    refine WC.ret ?_
    refine WK.then_ret ?_
    clear k1 k7 k8
    refine WK.ret [] rfl trivial ?_
    exact ⟨rfl, (by rw [It.fillR_nil _ (by omega)]; exact ow_m), gW⟩
  ·
    have p9 := (dec_f h9)
    have hol := ho lo (by omega)
    refine WC.skip ?_
    refine WK.then_normal (k7 _ _ ?_)
    refine WC.sub [(0, _), (2, _), (3, _), (5, _)] ⟨rfl, rfl, rfl, rfl, trivial⟩ ?_
    refine WC.seq (fun K10 k10 => ?_)
    refine WC.region rfl ?_
    refine WL.yld rfl (blt rfl) rfl (Y.move rfl rfl) ?_
    refine WL.yld rfl (blt rfl) rfl (Y.move rfl rfl) ?_
    refine WL.yld rfl (blt rfl) rfl (Y.add rfl rfl rfl (wrap_i64 (by first | omega | (dsimp only; omega)))) ?_
    refine WL.yld rfl (blt rfl) rfl (Yld.cast (Y.quo rfl rfl rfl (by omega) (wrap_quo (by omega) (by omega) (by omega))) (vi (b := ((((lo + hi) / 2) : Nat) : Int)) (by omega))) ?_
    refine WL.yld rfl (blt rfl) rfl (Y.assign rfl rfl) ?_
    refine WL.nil ?_
    refine WK.then_normal (k10 _ _ ?_)
    refine WC.sub [(0, _), (2, _), (3, _), (5, _), (8, _)] ⟨rfl, rfl, rfl, rfl, rfl, trivial⟩ ?_
    refine WC.seq (fun K11 k11 => ?_)
    refine WC.region rfl ?_
    refine WL.yld rfl (blt rfl) rfl (Y.move rfl rfl) ?_
    refine WL.yld rfl (blt rfl) rfl (Y.fieldAddr rfl Try.underlying26 rfl ti24 (by decide) rfl) ?_
    refine WL.yld rfl (blt rfl) rfl (Y.load1 rfl Try.underlying24 rfl rfl (Blk.at_eq m6 rfl)) ?_
    refine WL.yld rfl (blt rfl) rfl (Y.move rfl rfl) ?_
    obtain ⟨A12, n13, c14, rfl, hl15⟩ := OwnL.opened ow_o (fun _ => rfl) (by decide)
    have e_n13 := hl15.len
    try simp only [List.length_append, List.length_cons, List.length_nil, List.length_reverse, List.length_drop, List.length_take, List.length_map, List.length_replicate] at e_n13
    have z_n13 := hl15.nle
    have b16 : lo < n13 := by omega
    refine WL.yld rfl (blt rfl) rfl (Y.indexLs lo hl15 rfl Try.underlying24 ti3 rfl rfl rfl b16) ?_
    refine WL.yld rfl (blt rfl) rfl (Yld.cast (Y.load1 rfl Try.underlying3 rfl rfl (Ls.at_eq hl15 b16 rfl)) (vi (It.map_bang (by omega)))) ?_
    have b17 : o[lo]! < n_l := by omega
    refine WL.yld rfl (blt rfl) rfl (Y.indexLs o[lo]! (h_l.ext xW) rfl Try.underlying22 ti32 rfl rfl rfl b17) ?_
    refine WL.yld rfl (blt rfl) rfl (Y.fieldE rfl Try.underlying32 rfl ti3 (by decide) rfl) ?_
    refine WL.yld rfl (blt rfl) rfl (Y.load1 rfl Try.underlying3 rfl rfl (Ls.at_eq (h_l.ext xW) b17 rfl)) ?_
    refine WL.yld rfl (blt rfl) rfl (Y.assign rfl rfl) ?_
    refine WL.nil ?_
    refine WK.then_normal (k11 _ _ ?_)
    refine WC.sub [(0, _), (2, _), (3, _), (5, _), (8, _), (9, _)] ⟨rfl, rfl, rfl, rfl, rfl, rfl, trivial⟩ ?_
    refine WC.seq (fun K18 k18 => ?_)
    refine WC.seq (fun K19 k19 => ?_)
    refine WC.region rfl ?_
    refine WL.yld rfl (blt rfl) rfl (Y.move rfl rfl) ?_
    refine WL.yld rfl (blt rfl) rfl (Y.assign rfl rfl) ?_
    refine WL.nil ?_
    refine WK.then_normal (k19 _ _ ?_)
    refine WC.sub [(0, _), (2, _), (3, _), (5, _), (8, _), (9, _), (10, _)] ⟨rfl, rfl, rfl, rfl, rfl, rfl, rfl, trivial⟩ ?_
    refine WC.block ?_
    refine WC.sub [(10, _), (9, _), (0, _), (2, _), (3, _), (5, _), (8, _)] ⟨rfl, rfl, rfl, rfl, rfl, rfl, rfl, trivial⟩ ?_
    refine WC.loopS 2 (fun mz Ed W' => ∃ p : Nat, ∃ z : Int, mz = hi - p ∧ Ed = [(10, .int .i64 ((p : Nat) : Int)), (9, .int .i64 z)] ∧ Ext wb W' ∧ Blk W' g2 26 _ ∧ OwnL W' wb.heap.size 3 Sp.ic 1 v_m _ ∧ OwnL W' wb.heap.size 3 Sp.ic 1 (.slice A12 n13 c14) _ ∧ Gr w W' v_m.ownBlock ∧ (lo ≤ p ∧ p ≤ hi) ∧ (z = It.gr (It.tv l o) lo (p - lo))) _ ⟨lo, _, rfl, rfl, xW, m6, ow_m, ow_o, gW, (by omega), (by rw [Nat.sub_self]; rfl)⟩ ?_
    rintro _ _ w20 ⟨p, z, rfl, rfl, xW, m6, ow_m, ow_o, gW, le_p, zi⟩
    refine WC.sub [(10, _), (9, _), (0, _), (2, _), (3, _), (5, _), (8, _)] ⟨rfl, rfl, rfl, rfl, rfl, rfl, rfl, trivial⟩ ?_
    have hl15 := OwnL.ls ow_o (fun _ => rfl) (by decide)
    refine WC.seq (fun K21 k21 => ?_)
    refine WC.seq (fun K22 k22 => ?_)
    refine WC.region rfl ?_
    refine WL.yld rfl (blt rfl) rfl (Y.move rfl rfl) ?_
    refine WL.yld rfl (blt rfl) rfl (Y.move rfl rfl) ?_
    refine WL.yld rfl (blt rfl) rfl (Y.lss rfl rfl rfl) ?_
    refine WL.nil ?_
    refine WK.then_normal (k22 _ _ ?_)
    refine WC.sub [(0, _), (2, _), (3, _), (5, _), (8, _), (9, _), (10, _), (30, _)] ⟨rfl, rfl, rfl, rfl, rfl, rfl, rfl, rfl, trivial⟩ ?_
    refine WC.cond rfl (fun h23 => ?_) (fun h23 => ?_)
    ·
      have p23 := (dec_t h23)
      have hop := ho p (by omega)
      refine WC.skip ?_
      refine WK.then_normal (k21 _ _ ?_)
      refine WC.sub [(0, _), (2, _), (3, _), (5, _), (8, _), (9, _), (10, _)] ⟨rfl, rfl, rfl, rfl, rfl, rfl, rfl, trivial⟩ ?_
      refine WC.seq (fun K24 k24 => ?_)
      refine WC.block ?_
      refine WC.region rfl ?_
      refine WL.yld rfl (blt rfl) rfl (Y.move rfl rfl) ?_
      refine WL.yld rfl (blt rfl) rfl (Y.move rfl rfl) ?_
      refine WL.yld rfl (blt rfl) rfl (Y.fieldAddr rfl Try.underlying26 rfl ti24 (by decide) rfl) ?_
      refine WL.yld rfl (blt rfl) rfl (Y.load1 rfl Try.underlying24 rfl rfl (Blk.at_eq m6 rfl)) ?_
      refine WL.yld rfl (blt rfl) rfl (Y.move rfl rfl) ?_
      have b25 : p < n13 := by omega
      refine WL.yld rfl (blt rfl) rfl (Y.indexLs p hl15 rfl Try.underlying24 ti3 rfl rfl rfl b25) ?_
      refine WL.yld rfl (blt rfl) rfl (Yld.cast (Y.load1 rfl Try.underlying3 rfl rfl (Ls.at_eq hl15 b25 rfl)) (vi (It.map_bang (by omega)))) ?_
      have b26 : o[p]! < n_l := by omega
      refine WL.yld rfl (blt rfl) rfl (Y.indexLs o[p]! (h_l.ext xW) rfl Try.underlying22 ti32 rfl rfl rfl b26) ?_
      refine WL.yld rfl (blt rfl) rfl (Y.fieldE rfl Try.underlying32 rfl ti3 (by decide) rfl) ?_
      refine WL.yld rfl (blt rfl) rfl (Y.load1 rfl Try.underlying3 rfl rfl (Ls.at_eq (h_l.ext xW) b26 rfl)) ?_
      refine WL.yld rfl (blt rfl) rfl (Y.maxI rfl rfl rfl rfl) ?_
      refine WL.yld rfl (blt rfl) rfl (Y.assign rfl rfl) ?_
      refine WL.nil ?_
      refine WK.in_normal ?_
      refine WK.then_normal (k24 _ _ ?_)
      refine WC.sub [(0, _), (2, _), (3, _), (5, _), (8, _), (9, _), (10, _)] ⟨rfl, rfl, rfl, rfl, rfl, rfl, rfl, trivial⟩ ?_
      refine WC.region rfl ?_
      refine WL.yld rfl (blt rfl) rfl (Y.move rfl rfl) ?_
      refine WL.yld rfl (blt rfl) rfl (Y.add rfl rfl rfl (wrap_i64 (by first | omega | (dsimp only; omega)))) ?_
      refine WL.yld rfl (blt rfl) rfl (Y.assign rfl rfl) ?_
      refine WL.nil ?_
      refine WK.roundS _ [(10, .int .i64 (((p + 1) : Nat) : Int)), (9, .int .i64 _)] ⟨rfl, rfl, rfl, rfl, rfl, rfl, rfl, trivial⟩ ?_ ⟨(p + 1), _, rfl, rfl, xW, m6, ow_m, ow_o, gW, (by omega), (by rw [It.gr_next _ le_p.1, ← zi]; rfl)⟩
      show _ - (p + 1) < _ - p; omega
    ·
      have p23 := (dec_f h23)
      have ez : z = It.gr (It.tv l o) lo (hi - lo) := by rw [zi, show p = hi from by omega]
      refine WC.exit ?_
      refine WK.then_exit ?_
      refine WK.then_exit ?_
      refine WK.in_exit ?_
      refine WK.then_normal (k18 _ _ ?_)
      refine WC.sub [(0, _), (2, _), (3, _), (5, _), (8, _), (9, _)] ⟨rfl, rfl, rfl, rfl, rfl, rfl, trivial⟩ ?_
      refine WC.seq (fun K27 k27 => ?_)
      refine WC.region rfl ?_
      refine WL.yld rfl (blt rfl) rfl (Y.fieldAddr rfl Try.underlying26 rfl ti24 (by decide) rfl) ?_
      refine WL.yld rfl (blt rfl) rfl (Y.load1 rfl Try.underlying24 rfl rfl (Blk.at_eq m6 rfl)) ?_
      refine WL.yld rfl (blt rfl) rfl (Y.move rfl rfl) ?_
      refine WL.yld rfl (blt rfl) rfl (Y.move rfl rfl) ?_
      obtain ⟨A28, n29, c30, rfl, hl31⟩ := OwnL.opened ow_m (fun _ => rfl) (by decide)
      have e_n29 := hl31.len
      try simp only [List.length_append, List.length_cons, List.length_nil, List.length_reverse, List.length_drop, List.length_take, List.length_map, List.length_replicate] at e_n29
      have z_n29 := hl31.nle
      have b32 : ((lo + hi) / 2) < n29 := by omega
      refine WL.yld rfl (blt rfl) rfl (Y.indexLs ((lo + hi) / 2) hl31 rfl Try.underlying24 ti3 rfl rfl rfl b32) ?_
      refine WL.storeE (k := ((lo + hi) / 2)) (off := 0) (f := Sp.ic) _ rfl rfl rfl rfl rfl rfl ti3 ow_m (fun _ => rfl) b32 (ble rfl) rfl rfl (fun w33 ow34 gr35 => ?_)
      have m6 := m6.grown gr35 r_v_m_g2
      have ow_o := OwnL.grown ow_o gr35 d_v_m_v_o
      have hl15 := OwnL.ls ow_o (fun _ => rfl) (by decide)
      have xW := Ext.grown xW gr35 (fun b hb => (OwnL.lt ow_m hb).1)
      have gW := Gr.trans gW gr35
      have hl31 := OwnL.ls ow34 (fun _ => rfl) (by decide)
      refine WL.nil ?_
      refine WK.then_normal (k27 _ _ ?_)
      refine WC.sub [(0, _), (2, _), (3, _), (5, _), (8, _)] ⟨rfl, rfl, rfl, rfl, rfl, trivial⟩ ?_
      refine WC.seq (fun K36 k36 => ?_)
      refine WC.region rfl ?_
      refine WL.yld rfl (blt rfl) rfl (Y.move rfl rfl) ?_
      refine WL.yld rfl (blt rfl) rfl (Y.loadS rfl Try.underlying26 rfl ti26 rfl (Blk.row_eq m6)) ?_
      refine WL.yld rfl (blt rfl) rfl (Y.move rfl rfl) ?_
      refine WL.yld rfl (blt rfl) rfl (Y.move rfl rfl) ?_
      refine WL.call rfl (blt rfl) rfl rfl rfl has29 rfl (ih _ (by omega) lo ((lo + hi) / 2) _ _ rfl (by omega) (by omega) (by first | exact hm | (simp only [It.fillR_len, List.length_set]; exact hm)) xW ow34 ow_o) ?_
      rintro _ w37 ⟨rfl, ow39, gr40⟩
      refine ⟨_, rfl, ?_⟩
      have m6 := m6.grown gr40 r_v_m_g2
      have ow_o := OwnL.grown ow_o gr40 d_v_m_v_o
      have hl15 := OwnL.ls ow_o (fun _ => rfl) (by decide)
      have xW := Ext.grown xW gr40 (fun b hb => (OwnL.lt ow34 hb).1)
      have gW := Gr.trans gW gr40
      have hl31 := OwnL.ls ow39 (fun _ => rfl) (by decide)
      refine WL.nil ?_
      refine WK.then_normal (k36 _ _ ?_)
      refine WC.sub [(0, _), (3, _), (5, _), (8, _)] ⟨rfl, rfl, rfl, rfl, trivial⟩ ?_
      refine WC.region rfl ?_
      refine WL.yld rfl (blt rfl) rfl (Y.move rfl rfl) ?_
      refine WL.yld rfl (blt rfl) rfl (Y.loadS rfl Try.underlying26 rfl ti26 rfl (Blk.row_eq m6)) ?_
      refine WL.yld rfl (blt rfl) rfl (Y.move rfl rfl) ?_
      refine WL.yld rfl (blt rfl) rfl (Y.add rfl rfl rfl (wrap_i64 (by first | omega | (dsimp only; omega)))) ?_
      refine WL.yld rfl (blt rfl) rfl (Y.move rfl rfl) ?_
      refine WL.call rfl (blt rfl) rfl rfl rfl has29 rfl (ih _ (by omega) (((lo + hi) / 2) + 1) hi _ _ rfl (by omega) (by omega) (by first | exact hm | (simp only [It.fillR_len, List.length_set]; exact hm)) xW ow39 ow_o) ?_
      rintro _ w41 ⟨rfl, ow43, gr44⟩
      refine ⟨_, rfl, ?_⟩
      have m6 := m6.grown gr44 r_v_m_g2
      have ow_o := OwnL.grown ow_o gr44 d_v_m_v_o
      have hl15 := OwnL.ls ow_o (fun _ => rfl) (by decide)
      have xW := Ext.grown xW gr44 (fun b hb => (OwnL.lt ow39 hb).1)
      have gW := Gr.trans gW gr44
      have hl31 := OwnL.ls ow43 (fun _ => rfl) (by decide)
      refine WL.nil ?_
      clear k1 k7 k8 k10 k11 k18 k19 k21 k22 k27 k36
      refine WK.end_ [] rfl trivial ?_
      refine ⟨rfl, ?_, gW⟩
      rw [It.fillR_step _ (show lo < hi from by omega), ← ez]
      exact ow43
end M
end ItW

end Go.Proofs.Ytbdfhiihaemjhaa
