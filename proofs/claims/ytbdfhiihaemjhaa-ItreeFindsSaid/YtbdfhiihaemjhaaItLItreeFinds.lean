/- The walk of the law. Conditions: what each theorem states. -/
import Derived.Test.YtbdfhiihaemjhaaItAwake
import Derived.Test.YtbdfhiihaemjhaaItLaw
import Derived.Test.YtbdfhiihaemjhaaItMeet
namespace Go.Proofs.Ytbdfhiihaemjhaa
open Go Go.Eng Go.RowKit
set_option linter.unusedVariables false
namespace ItW
open M O Vi X R A K
namespace LItreeFinds
theorem ti3 : TI Try.prog 3 (.int .i64 0) 1 8 := TI.mk (by kernel_rfl)
theorem ti26 : TI Try.prog 26 (.agg #[.slice none 0 0, .slice none 0 0]) 2 48 := TI.mk (by kernel_rfl)
theorem ti32 : TI Try.prog 32 (.agg #[.int .i64 0, .int .i64 0]) 2 16 := TI.mk (by kernel_rfl)
theorem has8 : Has Try.prog 8 := ⟨_, Try.func8, rfl, by kernel_rfl⟩
theorem has9 : Has Try.prog 9 := ⟨_, Try.func9, rfl, by kernel_rfl⟩
theorem has11 : Has Try.prog 11 := ⟨_, Try.func11, rfl, by kernel_rfl⟩
theorem has15 : Has Try.prog 15 := ⟨_, Try.func15, rfl, by kernel_rfl⟩
theorem has17 : Has Try.prog 17 := ⟨_, Try.func17, rfl, by kernel_rfl⟩
theorem has19 : Has Try.prog 19 := ⟨_, Try.func19, rfl, by kernel_rfl⟩
theorem has21 : Has Try.prog 21 := ⟨_, Try.func21, rfl, by kernel_rfl⟩
theorem has22 : Has Try.prog 22 := ⟨_, Try.func22, rfl, by kernel_rfl⟩
theorem ItreeFinds_any (A_l : Option Addr) (n_l c_l : Nat) (l : List Sp.S) (s : Sp.S) (t : Int) (w : World) (h_l : Ls w A_l n_l c_l Sp.S.c 2 l) (hv : ∀ x ∈ l, It.low ≤ x.t) :
    Calls Try.prog 7 #[.slice A_l n_l c_l, .agg #[.int .i64 s.f, .int .i64 s.t], .int .i64 t] w fun e w' => e = .returned (.bool true) ∧ Ext w w' := by
  have xW := Ext.refl w
  have e_l := h_l.len
  have z_l := h_l.nle
  refine calls_of_WC (args := [.slice A_l n_l c_l, .agg #[.int .i64 s.f, .int .i64 s.t], .int .i64 t]) Try.func7 rfl rfl (ble rfl) ?_
  refine WC.seq (fun K1 k1 => ?_)
  refine WC.region rfl ?_
  refine WL.box rfl (blt rfl) rfl rfl rfl rfl ?_
  intro g2 w3 e4 x5 m6
  have o_g2 := own_new xW e4
  have xW := Ext.trans xW x5
  refine WL.yld rfl (blt rfl) rfl (Y.assign rfl rfl) ?_
  refine WL.nil ?_
  refine WK.then_normal (k1 _ _ ?_)
  refine WC.sub [(0, _), (2, _), (4, _)] ⟨rfl, rfl, rfl, trivial⟩ ?_
  refine WC.seq (fun K7 k7 => ?_)
  refine WC.seq (fun K8 k8 => ?_)
  refine WC.region rfl ?_
  refine WL.yld rfl (blt rfl) rfl (Y.move rfl rfl) ?_
  refine WL.yld rfl (blt rfl) rfl (Y.lenSl rfl rfl rfl Try.underlying22 rfl) ?_
  refine WL.yld rfl (blt rfl) rfl (Y.gtr rfl rfl rfl) ?_
  refine WL.nil ?_
  refine WK.then_normal (k8 _ _ ?_)
  refine WC.sub [(0, _), (2, _), (4, _), (15, _)] ⟨rfl, rfl, rfl, rfl, trivial⟩ ?_
  refine WC.cond rfl (fun h9 => ?_) (fun h9 => ?_)
  ·
    have p9 := (dec_t h9)
    refine WC.seq (fun K10 k10 => ?_)
    refine WC.region rfl ?_
    refine WL.call rfl (blt rfl) rfl rfl rfl has8 rfl (awake_any _ ) ?_
    rintro _ w11 ⟨rfl, x12⟩
    refine ⟨_, rfl, ?_⟩
    have m6 := m6.ext x12
    have xW := Ext.trans xW x12
    refine WL.yld rfl (blt rfl) rfl (Y.assign rfl rfl) ?_
    refine WL.nil ?_
    refine WK.then_normal (k10 _ _ ?_)
    refine WC.sub [(6, _)] ⟨rfl, trivial⟩ ?_
    refine WC.ret ?_
    refine WK.then_ret ?_
    clear k1 k7 k8 k10
    refine WK.ret [_] rfl ⟨rfl, trivial⟩ ?_
    exact ⟨ret1 (vb rfl), xW⟩
  ·
    have p9 := (dec_f h9)
    refine WC.skip ?_
    refine WK.then_normal (k7 _ _ ?_)
    refine WC.sub [(0, _), (2, _), (4, _)] ⟨rfl, rfl, rfl, trivial⟩ ?_
    refine WC.seq (fun K13 k13 => ?_)
    refine WC.region rfl ?_
    refine WL.yld rfl (blt rfl) rfl (Y.move rfl rfl) ?_
    refine WL.call rfl (blt rfl) rfl rfl rfl has9 rfl (of_tree _ _ _ _ _ (h_l.ext xW) (by omega)) ?_
    rintro _ w14 ⟨v16, v17, rfl, ow18, ow19, d20, x15⟩
    refine ⟨_, rfl, ?_⟩
    have r_v16_g2 := ne_res ow18 m6
    have ow18 := OwnL.base_le ow18 xW.size
    have r_v17_g2 := ne_res ow19 m6
    have ow19 := OwnL.base_le ow19 xW.size
    have d_v16_v17 := d20.symm
    have m6 := m6.ext x15
    have xW := Ext.trans xW x15
    refine WL.alloc rfl (blt rfl) rfl rfl ti26 rfl ?_
    intro g21 w22 e23 x24 m25
    have n_g2_g21 := ne_new m6 e23
    have r_v16_g21 := ne_newO ow18 e23
    have r_v17_g21 := ne_newO ow19 e23
    have o_g21 := own_new xW e23
    have m6 := m6.ext x24
    have ow18 := ow18.ext x24
    have ow19 := ow19.ext x24
    have xW := Ext.trans xW x24
    obtain ⟨A26, n27, c28, rfl, hl29⟩ := OwnL.opened ow18 (fun _ => rfl) (by decide)
    have e_n27 := hl29.len
    try simp only [List.length_append, List.length_cons, List.length_nil, List.length_reverse, List.length_drop, List.length_take, List.length_map, List.length_replicate] at e_n27
    have z_n27 := hl29.nle
    obtain ⟨A30, n31, c32, rfl, hl33⟩ := OwnL.opened ow19 (fun _ => rfl) (by decide)
    have e_n31 := hl33.len
    try simp only [List.length_append, List.length_cons, List.length_nil, List.length_reverse, List.length_drop, List.length_take, List.length_map, List.length_replicate] at e_n31
    have z_n31 := hl33.nle
    refine WL.store (cs' := [_, _]) rfl rfl rfl rfl rfl rfl ti26 m25 (ble rfl) rfl rfl (fun w34 on35 m36 => ?_)
    have m6 := m6.only n_g2_g21 on35
    have ow18 := ow18.only r_v16_g21 on35
    have hl29 := OwnL.ls ow18 (fun _ => rfl) (by decide)
    have ow19 := ow19.only r_v17_g21 on35
    have hl33 := OwnL.ls ow19 (fun _ => rfl) (by decide)
    have xW := Ext.only xW on35 o_g21
    refine WL.nil ?_
    refine WK.then_normal (k13 _ _ ?_)
    refine WC.sub [(0, _), (2, _), (4, _), (7, _)] ⟨rfl, rfl, rfl, rfl, trivial⟩ ?_
    refine WC.seq (fun K37 k37 => ?_)
    refine WC.region rfl ?_
    refine WL.yld rfl (blt rfl) rfl (Y.move rfl rfl) ?_
    refine WL.yld rfl (blt rfl) rfl (Y.loadS rfl Try.underlying26 rfl ti26 rfl (Blk.row_eq m36)) ?_
    refine WL.yld rfl (blt rfl) rfl (Y.loadS rfl Try.underlying32 rfl ti32 rfl (Blk.row_eq m6)) ?_
    refine WL.call rfl (blt rfl) rfl rfl rfl has15 rfl (overlap_any _ _ _ _ _ _ _ _ _ _ _ _ _ _ (h_l.ext xW) hl29 hl33 (by omega)) ?_
    rintro _ w38 ⟨v40, rfl, ow41, x39⟩
    refine ⟨_, rfl, ?_⟩
    have r_v40_g2 := ne_res ow41 m6
    have d_v16_v40 := (Apart.res ow41 ow18).symm
    have d_v17_v40 := (Apart.res ow41 ow19).symm
    have r_v40_g21 := ne_res ow41 m36
    have ow41 := OwnL.base_le ow41 xW.size
    have m6 := m6.ext x39
    have ow18 := ow18.ext x39
    have hl29 := hl29.ext x39
    have ow19 := ow19.ext x39
    have hl33 := hl33.ext x39
    have m36 := m36.ext x39
    have xW := Ext.trans xW x39
    rw [It.overC_self] at ow41
    refine WL.yld rfl (blt rfl) rfl (Y.assign rfl rfl) ?_
    refine WL.nil ?_
    refine WK.then_normal (k37 _ _ ?_)
    refine WC.sub [(0, _), (2, _), (4, _), (7, _), (8, _)] ⟨rfl, rfl, rfl, rfl, rfl, trivial⟩ ?_
    refine WC.seq (fun K42 k42 => ?_)
    refine WC.region rfl ?_
    refine WL.yld rfl (blt rfl) rfl (Y.assign rfl rfl) ?_
    refine WL.nil ?_
    refine WK.then_normal (k42 _ _ ?_)
    refine WC.seq (fun K43 k43 => ?_)
    refine WC.seq (fun K44 k44 => ?_)
    refine WC.region rfl ?_
    refine WL.yld rfl (blt rfl) rfl (Y.assign rfl rfl) ?_
    refine WL.nil ?_
    refine WK.then_normal (k44 _ _ ?_)
    refine WC.block ?_
    refine WC.sub [(10, _), (9, _), (0, _), (2, _), (4, _), (7, _), (8, _)] ⟨rfl, rfl, rfl, rfl, rfl, rfl, rfl, trivial⟩ ?_
    refine WC.loopS 2 (fun mz Ed W' => ∃ i : Nat, ∃ k : Nat, mz = n_l - i ∧ Ed = [(10, .int .i64 ((i : Nat) : Int)), (9, .int .i64 ((k : Nat) : Int))] ∧ Ext w W' ∧ Blk W' g2 32 _ ∧ Blk W' g21 26 _ ∧ OwnL W' w.heap.size 3 Sp.ic 1 (.slice A26 n27 c28) _ ∧ OwnL W' w.heap.size 3 Sp.ic 1 (.slice A30 n31 c32) _ ∧ OwnL W' w.heap.size 3 Sp.ic 1 v40 _ ∧ (i ≤ n_l) ∧ (k = (It.over l s i).length)) _ ⟨0, 0, rfl, rfl, xW, m6, m36, ow18, ow19, ow41, (Nat.zero_le _), rfl⟩ ?_
    rintro _ _ w45 ⟨i, k, rfl, rfl, xW, m6, m36, ow18, ow19, ow41, le_i, ki⟩
    refine WC.sub [(10, _), (9, _), (0, _), (2, _), (4, _), (7, _), (8, _)] ⟨rfl, rfl, rfl, rfl, rfl, rfl, rfl, trivial⟩ ?_
    have hl29 := OwnL.ls ow18 (fun _ => rfl) (by decide)
    have hl33 := OwnL.ls ow19 (fun _ => rfl) (by decide)
    refine WC.seq (fun K46 k46 => ?_)
    refine WC.seq (fun K47 k47 => ?_)
    refine WC.region rfl ?_
    refine WL.yld rfl (blt rfl) rfl (Y.move rfl rfl) ?_
    refine WL.yld rfl (blt rfl) rfl (Y.move rfl rfl) ?_
    refine WL.yld rfl (blt rfl) rfl (Y.lenSl rfl rfl rfl Try.underlying22 rfl) ?_
    refine WL.yld rfl (blt rfl) rfl (Y.lss rfl rfl rfl) ?_
    refine WL.nil ?_
    refine WK.then_normal (k47 _ _ ?_)
    refine WC.sub [(0, _), (2, _), (4, _), (7, _), (8, _), (9, _), (10, _), (26, _)] ⟨rfl, rfl, rfl, rfl, rfl, rfl, rfl, rfl, trivial⟩ ?_
    refine WC.cond rfl (fun h48 => ?_) (fun h48 => ?_)
    ·
      have p48 := (dec_t h48)
      have ov := It.over_len l s i
      refine WC.skip ?_
      refine WK.then_normal (k46 _ _ ?_)
      refine WC.sub [(0, _), (2, _), (4, _), (7, _), (8, _), (9, _), (10, _)] ⟨rfl, rfl, rfl, rfl, rfl, rfl, rfl, trivial⟩ ?_
      refine WC.seq (fun K49 k49 => ?_)
      refine WC.block ?_
      refine WC.seq (fun K50 k50 => ?_)
      refine WC.seq (fun K51 k51 => ?_)
      obtain ⟨A52, n53, c54, rfl, hl55⟩ := OwnL.opened ow41 (fun _ => rfl) (by decide)
      have e_n53 := hl55.len
      try simp only [List.length_append, List.length_cons, List.length_nil, List.length_reverse, List.length_drop, List.length_take, List.length_map, List.length_replicate] at e_n53
      have z_n53 := hl55.nle
      refine WC.regionX (fun W' => Ext w W' ∧ Blk W' g2 32 _ ∧ Blk W' g21 26 _ ∧ Ls W' A26 n27 c28 Sp.ic 1 _ ∧ Ls W' A30 n31 c32 Sp.ic 1 _ ∧ Ls W' A52 n53 c54 Sp.ic 1 _) (.load 0 (.load 1 (.load 2 (.load 3 (.load 5 (.alt 4 (.alt 6 (.alt 7 (.load 8 (.load 9 (.fin))) (.none)) (.none)) (.alt 6 (.alt 4 (.alt 7 (.load 8 (.load 9 (.fin))) (.none)) (.none)) (.none)))))))) ⟨xW, m6, m36, hl29, hl33, hl55⟩ (by kernel_rfl) (by kernel_rfl) (fun w56 x57 => ?_)
      have m6 := m6.ext x57
      have m36 := m36.ext x57
      have ow18 := ow18.ext x57
      have hl29 := hl29.ext x57
      have ow19 := ow19.ext x57
      have hl33 := hl33.ext x57
      have ow41 := ow41.ext x57
      have hl55 := hl55.ext x57
      have xW := Ext.trans xW x57
      refine WX.yld rfl rfl (blt rfl) rfl (Y.move rfl rfl) ?_
      refine WX.yld rfl rfl (blt rfl) rfl (Y.move rfl rfl) ?_
      have b58 : i < n_l := by omega
      refine WX.yld rfl rfl (blt rfl) rfl (Y.indexLs i (h_l.ext xW) rfl Try.underlying22 ti32 rfl rfl rfl b58) ?_
      refine WX.yld rfl rfl (blt rfl) rfl (Y.loadS (cs := [_, _]) rfl Try.underlying32 rfl ti32 rfl (Ls.part_c (fun _ h => (h_l.ext (h.1))) b58 rfl)) ?_
      refine WX.yld rfl rfl (blt rfl) rfl (Y.loadS rfl Try.underlying32 rfl ti32 rfl (Blk.row_c (fun _ h => h.2.1))) ?_
      refine WX.alt ?_ ?_
      ·
        refine WX.run rfl rfl (blt rfl) rfl ⟨xW, m6, m36, hl29, hl33, hl55⟩ (Run.bslice (zs := [.int .i64 0, .int .i64 0]) (cs := [_, _]) rfl Try.underlying22 ti32 rfl (ble rfl) (by kernel_rfl) rfl rfl) ?_
        rintro _ w60 ⟨g59, rfl, e61, x62, m63⟩
        have n_g2_g59 := ne_new m6 e61
        have n_g21_g59 := ne_new m36 e61
        have r_v16_g59 := ne_newO ow18 e61
        have r_v17_g59 := ne_newO ow19 e61
        have r_v40_g59 := ne_newO ow41 e61
        have o_g59 := own_new xW e61
        have m6 := m6.ext x62
        have m36 := m36.ext x62
        have ow18 := ow18.ext x62
        have hl29 := hl29.ext x62
        have ow19 := ow19.ext x62
        have hl33 := hl33.ext x62
        have ow41 := ow41.ext x62
        have hl55 := hl55.ext x62
        have xW := Ext.trans xW x62
        refine WX.run rfl rfl (blt rfl) rfl ⟨xW, m6, m36, hl29, hl33, hl55⟩ (Run.bslice (zs := [.int .i64 0, .int .i64 0]) (cs := [_, _]) rfl Try.underlying22 ti32 rfl (ble rfl) (by kernel_rfl) rfl rfl) ?_
        rintro _ w65 ⟨g64, rfl, e66, x67, m68⟩
        have n_g2_g64 := ne_new m6 e66
        have n_g21_g64 := ne_new m36 e66
        have r_v16_g64 := ne_newO ow18 e66
        have r_v17_g64 := ne_newO ow19 e66
        have r_v40_g64 := ne_newO ow41 e66
        have n_g59_g64 := ne_new m63 e66
        have o_g64 := own_new xW e66
        have m6 := m6.ext x67
        have m36 := m36.ext x67
        have ow18 := ow18.ext x67
        have hl29 := hl29.ext x67
        have ow19 := ow19.ext x67
        have hl33 := hl33.ext x67
        have ow41 := ow41.ext x67
        have hl55 := hl55.ext x67
        have m63 := m63.ext x67
        have xW := Ext.trans xW x67
        refine WX.call rfl rfl (blt rfl) rfl rfl rfl has21 rfl ⟨xW, m6, m36, hl29, hl33, hl55⟩ (meet_any _ _ _ _ _ _ _ _ _ (Ls.lit (f := Sp.S.c) (sz := 2) (l := ([l[i]!] : List Sp.S)) m63 (fun _ => rfl) rfl (by decide) rfl) (Ls.lit (f := Sp.S.c) (sz := 2) (l := ([s] : List Sp.S)) m68 (fun _ => rfl) rfl (by decide) rfl) (by omega) (by omega)) ?_
        rintro _ w69 ⟨v71, rfl, ow72, x70⟩
        refine ⟨_, rfl, ?_⟩
        have r_v71_g2 := ne_res ow72 m6
        have r_v71_g21 := ne_res ow72 m36
        have d_v16_v71 := (Apart.res ow72 ow18).symm
        have d_v17_v71 := (Apart.res ow72 ow19).symm
        have d_v40_v71 := (Apart.res ow72 ow41).symm
        have r_v71_g59 := ne_res ow72 m63
        have r_v71_g64 := ne_res ow72 m68
        have ow72 := OwnL.base_le ow72 xW.size
        have m6 := m6.ext x70
        have m36 := m36.ext x70
        have ow18 := ow18.ext x70
        have hl29 := hl29.ext x70
        have ow19 := ow19.ext x70
        have hl33 := hl33.ext x70
        have ow41 := ow41.ext x70
        have hl55 := hl55.ext x70
        have m63 := m63.ext x70
        have m68 := m68.ext x70
        have xW := Ext.trans xW x70
        obtain ⟨A73, n74, c75, rfl, hl76⟩ := OwnL.opened ow72 (fun _ => rfl) (by decide)
        have e_n74 := hl76.len
        try simp only [List.length_append, List.length_cons, List.length_nil, List.length_reverse, List.length_drop, List.length_take, List.length_map, List.length_replicate] at e_n74
        have z_n74 := hl76.nle
        refine WX.yld rfl rfl (blt rfl) rfl (Y.lenSl rfl rfl rfl Try.underlying22 rfl) ?_
        refine WX.yld rfl rfl (blt rfl) rfl (Y.eql rfl rfl rfl) ?_
        refine WX.nil ⟨xW, m6, m36, hl29, hl33, hl55⟩ ?_
        refine WK.then_normal (k51 _ _ ?_)
        refine WC.sub [(0, _), (2, _), (4, _), (7, _), (8, _), (9, _), (10, _), (38, _)] ⟨rfl, rfl, rfl, rfl, rfl, rfl, rfl, rfl, trivial⟩ ?_
        refine WC.cond rfl (fun h77 => ?_) (fun h77 => ?_)
        ·
          have p77 := (eq_t h77)
          refine WC.exit ?_
          refine WK.then_exit ?_
          refine WK.in_exit ?_
          refine WK.then_normal (k49 _ _ ?_)
          refine WC.sub [(0, _), (2, _), (4, _), (7, _), (8, _), (9, _), (10, _)] ⟨rfl, rfl, rfl, rfl, rfl, rfl, rfl, trivial⟩ ?_
          refine WC.region rfl ?_
          refine WL.yld rfl (blt rfl) rfl (Y.move rfl rfl) ?_
          refine WL.yld rfl (blt rfl) rfl (Y.add rfl rfl rfl (wrap_i64 (by first | omega | (dsimp only; omega)))) ?_
          refine WL.yld rfl (blt rfl) rfl (Y.assign rfl rfl) ?_
          refine WL.nil ?_
          refine WK.roundS _ [(10, .int .i64 (((i + 1) : Nat) : Int)), (9, .int .i64 ((k : Nat) : Int))] ⟨rfl, rfl, rfl, rfl, rfl, rfl, rfl, trivial⟩ ?_ ⟨(i + 1), k, rfl, rfl, xW, m6, m36, ow18, ow19, ow41, (by omega), (by rw [It.over_no ((It.meet_one l[i]! s).1 (by omega))]; exact ki)⟩
          show _ - (i + 1) < _ - i; omega
        ·
          have p77 := (eq_f h77)
          have hc : It.cm l[i]! s = true := It.meet_cm (by omega)
          have hh := It.over_hit (show i < l.length by omega) hc
          refine WC.skip ?_
          refine WK.then_normal (k50 _ _ ?_)
          refine WC.sub [(0, _), (2, _), (4, _), (7, _), (8, _), (9, _), (10, _)] ⟨rfl, rfl, rfl, rfl, rfl, rfl, rfl, trivial⟩ ?_
          refine WC.seq (fun K78 k78 => ?_)
          refine WC.seq (fun K79 k79 => ?_)
          refine WC.region rfl ?_
          refine WL.yld rfl (blt rfl) rfl (Y.move rfl rfl) ?_
          refine WL.yld rfl (blt rfl) rfl (Y.move rfl rfl) ?_
          refine WL.yld rfl (blt rfl) rfl (Y.lenSl rfl rfl rfl Try.underlying24 rfl) ?_
          refine WL.yld rfl (blt rfl) rfl (Yld.cast (Y.geq rfl rfl rfl) (vb (b := false) (decide_eq_false (by omega)))) ?_
          refine WL.yld rfl (blt rfl) rfl (Y.move rfl rfl) ?_
          refine WL.yldW rfl (blt rfl) rfl rfl rfl (Y.move rfl rfl) ?_
          refine WL.yldW rfl (blt rfl) rfl rfl rfl (Y.move rfl rfl) ?_
          have b80 : k < n53 := by omega
          refine WL.yldW rfl (blt rfl) rfl rfl rfl (Y.indexLs k hl55 rfl Try.underlying24 ti3 rfl rfl rfl b80) ?_
          refine WL.yldW rfl (blt rfl) rfl rfl rfl (Y.load1 rfl Try.underlying3 rfl rfl (Ls.at_eq hl55 b80 rfl)) ?_
          refine WL.yldW rfl (blt rfl) rfl rfl rfl (Y.move rfl rfl) ?_
          refine WL.yldW rfl (blt rfl) rfl rfl rfl (Yld.cast (Y.neq rfl rfl rfl) (vb (b := false) (It.ne_no (by rw [ki]; exact hh.2)))) ?_
          refine WL.yld rfl (blt rfl) rfl (Y.pickF rfl rfl rfl) ?_
          refine WL.nil ?_
          refine WK.then_normal (k79 _ _ ?_)
          refine WC.sub [(0, _), (2, _), (4, _), (7, _), (8, _), (9, _), (10, _), (50, _)] ⟨rfl, rfl, rfl, rfl, rfl, rfl, rfl, rfl, trivial⟩ ?_
          refine WC.condF rfl ?_
          refine WC.skip ?_
          refine WK.then_normal (k78 _ _ ?_)
          refine WC.sub [(0, _), (2, _), (4, _), (7, _), (8, _), (9, _), (10, _)] ⟨rfl, rfl, rfl, rfl, rfl, rfl, rfl, trivial⟩ ?_
          refine WC.region rfl ?_
          refine WL.yld rfl (blt rfl) rfl (Y.move rfl rfl) ?_
          refine WL.yld rfl (blt rfl) rfl (Y.add rfl rfl rfl (wrap_i64 (by first | omega | (dsimp only; omega)))) ?_
          refine WL.yld rfl (blt rfl) rfl (Y.assign rfl rfl) ?_
          refine WL.nil ?_
          refine WK.in_normal ?_
          refine WK.then_normal (k49 _ _ ?_)
          refine WC.sub [(0, _), (2, _), (4, _), (7, _), (8, _), (9, _), (10, _)] ⟨rfl, rfl, rfl, rfl, rfl, rfl, rfl, trivial⟩ ?_
          refine WC.region rfl ?_
          refine WL.yld rfl (blt rfl) rfl (Y.move rfl rfl) ?_
          refine WL.yld rfl (blt rfl) rfl (Y.add rfl rfl rfl (wrap_i64 (by first | omega | (dsimp only; omega)))) ?_
          refine WL.yld rfl (blt rfl) rfl (Y.assign rfl rfl) ?_
          refine WL.nil ?_
          refine WK.roundS _ [(10, .int .i64 (((i + 1) : Nat) : Int)), (9, .int .i64 (((k + 1) : Nat) : Int))] ⟨rfl, rfl, rfl, rfl, rfl, rfl, rfl, trivial⟩ ?_ ⟨(i + 1), (k + 1), rfl, rfl, xW, m6, m36, ow18, ow19, ow41, (by omega), (by rw [It.over_yes hc, ← ki])⟩
          show _ - (i + 1) < _ - i; omega
      refine WX.run rfl rfl (blt rfl) rfl ⟨xW, m6, m36, hl29, hl33, hl55⟩ (Run.bslice (zs := [.int .i64 0, .int .i64 0]) (cs := [_, _]) rfl Try.underlying22 ti32 rfl (ble rfl) (by kernel_rfl) rfl rfl) ?_
      rintro _ w82 ⟨g81, rfl, e83, x84, m85⟩
      have n_g2_g81 := ne_new m6 e83
      have n_g21_g81 := ne_new m36 e83
      have r_v16_g81 := ne_newO ow18 e83
      have r_v17_g81 := ne_newO ow19 e83
      have r_v40_g81 := ne_newO ow41 e83
      have o_g81 := own_new xW e83
      have m6 := m6.ext x84
      have m36 := m36.ext x84
      have ow18 := ow18.ext x84
      have hl29 := hl29.ext x84
      have ow19 := ow19.ext x84
      have hl33 := hl33.ext x84
      have ow41 := ow41.ext x84
      have hl55 := hl55.ext x84
      have xW := Ext.trans xW x84
      refine WX.run rfl rfl (blt rfl) rfl ⟨xW, m6, m36, hl29, hl33, hl55⟩ (Run.bslice (zs := [.int .i64 0, .int .i64 0]) (cs := [_, _]) rfl Try.underlying22 ti32 rfl (ble rfl) (by kernel_rfl) rfl rfl) ?_
      rintro _ w87 ⟨g86, rfl, e88, x89, m90⟩
      have n_g2_g86 := ne_new m6 e88
      have n_g21_g86 := ne_new m36 e88
      have r_v16_g86 := ne_newO ow18 e88
      have r_v17_g86 := ne_newO ow19 e88
      have r_v40_g86 := ne_newO ow41 e88
      have n_g81_g86 := ne_new m85 e88
      have o_g86 := own_new xW e88
      have m6 := m6.ext x89
      have m36 := m36.ext x89
      have ow18 := ow18.ext x89
      have hl29 := hl29.ext x89
      have ow19 := ow19.ext x89
      have hl33 := hl33.ext x89
      have ow41 := ow41.ext x89
      have hl55 := hl55.ext x89
      have m85 := m85.ext x89
      have xW := Ext.trans xW x89
      refine WX.call rfl rfl (blt rfl) rfl rfl rfl has21 rfl ⟨xW, m6, m36, hl29, hl33, hl55⟩ (meet_any _ _ _ _ _ _ _ _ _ (Ls.lit (f := Sp.S.c) (sz := 2) (l := ([l[i]!] : List Sp.S)) m90 (fun _ => rfl) rfl (by decide) rfl) (Ls.lit (f := Sp.S.c) (sz := 2) (l := ([s] : List Sp.S)) m85 (fun _ => rfl) rfl (by decide) rfl) (by omega) (by omega)) ?_
      rintro _ w91 ⟨v93, rfl, ow94, x92⟩
      refine ⟨_, rfl, ?_⟩
      have r_v93_g2 := ne_res ow94 m6
      have r_v93_g21 := ne_res ow94 m36
      have d_v16_v93 := (Apart.res ow94 ow18).symm
      have d_v17_v93 := (Apart.res ow94 ow19).symm
      have d_v40_v93 := (Apart.res ow94 ow41).symm
      have r_v93_g81 := ne_res ow94 m85
      have r_v93_g86 := ne_res ow94 m90
      have ow94 := OwnL.base_le ow94 xW.size
      have m6 := m6.ext x92
      have m36 := m36.ext x92
      have ow18 := ow18.ext x92
      have hl29 := hl29.ext x92
      have ow19 := ow19.ext x92
      have hl33 := hl33.ext x92
      have ow41 := ow41.ext x92
      have hl55 := hl55.ext x92
      have m85 := m85.ext x92
      have m90 := m90.ext x92
      have xW := Ext.trans xW x92
      obtain ⟨A95, n96, c97, rfl, hl98⟩ := OwnL.opened ow94 (fun _ => rfl) (by decide)
      have e_n96 := hl98.len
      try simp only [List.length_append, List.length_cons, List.length_nil, List.length_reverse, List.length_drop, List.length_take, List.length_map, List.length_replicate] at e_n96
      have z_n96 := hl98.nle
      refine WX.yld rfl rfl (blt rfl) rfl (Y.lenSl rfl rfl rfl Try.underlying22 rfl) ?_
      refine WX.yld rfl rfl (blt rfl) rfl (Y.eql rfl rfl rfl) ?_
      refine WX.nil ⟨xW, m6, m36, hl29, hl33, hl55⟩ ?_
      refine WK.then_normal (k51 _ _ ?_)
      refine WC.sub [(0, _), (2, _), (4, _), (7, _), (8, _), (9, _), (10, _), (38, _)] ⟨rfl, rfl, rfl, rfl, rfl, rfl, rfl, rfl, trivial⟩ ?_
      refine WC.cond rfl (fun h99 => ?_) (fun h99 => ?_)
      ·
        have p99 := (eq_t h99)
        refine WC.exit ?_
        refine WK.then_exit ?_
        refine WK.in_exit ?_
        refine WK.then_normal (k49 _ _ ?_)
        refine WC.sub [(0, _), (2, _), (4, _), (7, _), (8, _), (9, _), (10, _)] ⟨rfl, rfl, rfl, rfl, rfl, rfl, rfl, trivial⟩ ?_
        refine WC.region rfl ?_
        refine WL.yld rfl (blt rfl) rfl (Y.move rfl rfl) ?_
        refine WL.yld rfl (blt rfl) rfl (Y.add rfl rfl rfl (wrap_i64 (by first | omega | (dsimp only; omega)))) ?_
        refine WL.yld rfl (blt rfl) rfl (Y.assign rfl rfl) ?_
        refine WL.nil ?_
        refine WK.roundS _ [(10, .int .i64 (((i + 1) : Nat) : Int)), (9, .int .i64 ((k : Nat) : Int))] ⟨rfl, rfl, rfl, rfl, rfl, rfl, rfl, trivial⟩ ?_ ⟨(i + 1), k, rfl, rfl, xW, m6, m36, ow18, ow19, ow41, (by omega), (by rw [It.over_no ((It.meet_one l[i]! s).1 (by omega))]; exact ki)⟩
        show _ - (i + 1) < _ - i; omega
      ·
        have p99 := (eq_f h99)
        have hc : It.cm l[i]! s = true := It.meet_cm (by omega)
        have hh := It.over_hit (show i < l.length by omega) hc
        refine WC.skip ?_
        refine WK.then_normal (k50 _ _ ?_)
        refine WC.sub [(0, _), (2, _), (4, _), (7, _), (8, _), (9, _), (10, _)] ⟨rfl, rfl, rfl, rfl, rfl, rfl, rfl, trivial⟩ ?_
        refine WC.seq (fun K100 k100 => ?_)
        refine WC.seq (fun K101 k101 => ?_)
        refine WC.region rfl ?_
        refine WL.yld rfl (blt rfl) rfl (Y.move rfl rfl) ?_
        refine WL.yld rfl (blt rfl) rfl (Y.move rfl rfl) ?_
        refine WL.yld rfl (blt rfl) rfl (Y.lenSl rfl rfl rfl Try.underlying24 rfl) ?_
        refine WL.yld rfl (blt rfl) rfl (Yld.cast (Y.geq rfl rfl rfl) (vb (b := false) (decide_eq_false (by omega)))) ?_
        refine WL.yld rfl (blt rfl) rfl (Y.move rfl rfl) ?_
        refine WL.yldW rfl (blt rfl) rfl rfl rfl (Y.move rfl rfl) ?_
        refine WL.yldW rfl (blt rfl) rfl rfl rfl (Y.move rfl rfl) ?_
        have b102 : k < n53 := by omega
        refine WL.yldW rfl (blt rfl) rfl rfl rfl (Y.indexLs k hl55 rfl Try.underlying24 ti3 rfl rfl rfl b102) ?_
        refine WL.yldW rfl (blt rfl) rfl rfl rfl (Y.load1 rfl Try.underlying3 rfl rfl (Ls.at_eq hl55 b102 rfl)) ?_
        refine WL.yldW rfl (blt rfl) rfl rfl rfl (Y.move rfl rfl) ?_
        refine WL.yldW rfl (blt rfl) rfl rfl rfl (Yld.cast (Y.neq rfl rfl rfl) (vb (b := false) (It.ne_no (by rw [ki]; exact hh.2)))) ?_
        refine WL.yld rfl (blt rfl) rfl (Y.pickF rfl rfl rfl) ?_
        refine WL.nil ?_
        refine WK.then_normal (k101 _ _ ?_)
        refine WC.sub [(0, _), (2, _), (4, _), (7, _), (8, _), (9, _), (10, _), (50, _)] ⟨rfl, rfl, rfl, rfl, rfl, rfl, rfl, rfl, trivial⟩ ?_
        refine WC.condF rfl ?_
        refine WC.skip ?_
        refine WK.then_normal (k100 _ _ ?_)
        refine WC.sub [(0, _), (2, _), (4, _), (7, _), (8, _), (9, _), (10, _)] ⟨rfl, rfl, rfl, rfl, rfl, rfl, rfl, trivial⟩ ?_
        refine WC.region rfl ?_
        refine WL.yld rfl (blt rfl) rfl (Y.move rfl rfl) ?_
        refine WL.yld rfl (blt rfl) rfl (Y.add rfl rfl rfl (wrap_i64 (by first | omega | (dsimp only; omega)))) ?_
        refine WL.yld rfl (blt rfl) rfl (Y.assign rfl rfl) ?_
        refine WL.nil ?_
        refine WK.in_normal ?_
        refine WK.then_normal (k49 _ _ ?_)
        refine WC.sub [(0, _), (2, _), (4, _), (7, _), (8, _), (9, _), (10, _)] ⟨rfl, rfl, rfl, rfl, rfl, rfl, rfl, trivial⟩ ?_
        refine WC.region rfl ?_
        refine WL.yld rfl (blt rfl) rfl (Y.move rfl rfl) ?_
        refine WL.yld rfl (blt rfl) rfl (Y.add rfl rfl rfl (wrap_i64 (by first | omega | (dsimp only; omega)))) ?_
        refine WL.yld rfl (blt rfl) rfl (Y.assign rfl rfl) ?_
        refine WL.nil ?_
        refine WK.roundS _ [(10, .int .i64 (((i + 1) : Nat) : Int)), (9, .int .i64 (((k + 1) : Nat) : Int))] ⟨rfl, rfl, rfl, rfl, rfl, rfl, rfl, trivial⟩ ?_ ⟨(i + 1), (k + 1), rfl, rfl, xW, m6, m36, ow18, ow19, ow41, (by omega), (by rw [It.over_yes hc, ← ki])⟩
        show _ - (i + 1) < _ - i; omega
    ·
      have p48 := (dec_f h48)
      have ki2 : k = (It.over l s l.length).length := by rw [ki, show i = l.length by omega]
      refine WC.exit ?_
      refine WK.then_exit ?_
      refine WK.then_exit ?_
      refine WK.in_exit ?_
      refine WK.then_normal (k43 _ _ ?_)
      refine WC.sub [(0, _), (2, _), (4, _), (7, _), (8, _), (9, _)] ⟨rfl, rfl, rfl, rfl, rfl, rfl, trivial⟩ ?_
      refine WC.seq (fun K103 k103 => ?_)
      refine WC.region rfl ?_
      refine WL.yld rfl (blt rfl) rfl (Y.move rfl rfl) ?_
      refine WL.yld rfl (blt rfl) rfl (Y.loadS rfl Try.underlying26 rfl ti26 rfl (Blk.row_eq m36)) ?_
      refine WL.yld rfl (blt rfl) rfl (Y.loadS rfl Try.underlying32 rfl ti32 rfl (Blk.row_eq m6)) ?_
      refine WL.call rfl (blt rfl) rfl rfl rfl has19 rfl (visits_any _ _ _ _ _ _ _ _ _ _ _ _ _ _ (h_l.ext xW) hl29 hl33 (by omega)) ?_
      rintro _ w104 ⟨rfl, x105⟩
      refine ⟨_, rfl, ?_⟩
      have m6 := m6.ext x105
      have m36 := m36.ext x105
      have ow18 := ow18.ext x105
      have hl29 := hl29.ext x105
      have ow19 := ow19.ext x105
      have hl33 := hl33.ext x105
      have ow41 := ow41.ext x105
      have xW := Ext.trans xW x105
      refine WL.yld rfl (blt rfl) rfl (Y.assign rfl rfl) ?_
      refine WL.nil ?_
      refine WK.then_normal (k103 _ _ ?_)
      refine WC.sub [(0, _), (2, _), (7, _), (8, _), (9, _), (11, _)] ⟨rfl, rfl, rfl, rfl, rfl, rfl, trivial⟩ ?_
      refine WC.seq (fun K106 k106 => ?_)
      refine WC.seq (fun K107 k107 => ?_)
      refine WC.region rfl ?_
      refine WL.yld rfl (blt rfl) rfl (Y.move rfl rfl) ?_
      refine WL.yld rfl (blt rfl) rfl (Y.move rfl rfl) ?_
      obtain ⟨A108, n109, c110, rfl, hl111⟩ := OwnL.opened ow41 (fun _ => rfl) (by decide)
      have e_n109 := hl111.len
      try simp only [List.length_append, List.length_cons, List.length_nil, List.length_reverse, List.length_drop, List.length_take, List.length_map, List.length_replicate] at e_n109
      have z_n109 := hl111.nle
      refine WL.yld rfl (blt rfl) rfl (Y.lenSl rfl rfl rfl Try.underlying24 rfl) ?_
      refine WL.yld rfl (blt rfl) rfl (Yld.cast (Y.neq rfl rfl rfl) (vb (b := false) (It.ne_no (by omega)))) ?_
      refine WL.yld rfl (blt rfl) rfl (Y.move rfl rfl) ?_
      refine WL.yldW rfl (blt rfl) rfl rfl rfl (Y.move rfl rfl) ?_
      refine WL.yldW rfl (blt rfl) rfl rfl rfl (Y.move rfl rfl) ?_
      refine WL.yldW rfl (blt rfl) rfl rfl rfl (Y.lenSl rfl rfl rfl Try.underlying22 rfl) ?_
      refine WL.yldW rfl (blt rfl) rfl rfl rfl (Yld.cast (Y.gtr rfl rfl rfl) (vb (b := false) (decide_eq_false (by have q := (It.visC_rng l s).2; omega)))) ?_
      refine WL.yld rfl (blt rfl) rfl (Y.pickF rfl rfl rfl) ?_
      refine WL.yld rfl (blt rfl) rfl (Y.move rfl rfl) ?_
      refine WL.yldW rfl (blt rfl) rfl rfl rfl (Y.move rfl rfl) ?_
      refine WL.yldW rfl (blt rfl) rfl rfl rfl (Y.move rfl rfl) ?_
      refine WL.yldW rfl (blt rfl) rfl rfl rfl (Y.lenSl rfl rfl rfl Try.underlying24 rfl) ?_
      refine WL.yldW rfl (blt rfl) rfl rfl rfl (Yld.cast (Y.lss rfl rfl rfl) (vb (b := false) (decide_eq_false (by have q := It.visC_found l s; omega)))) ?_
      refine WL.yld rfl (blt rfl) rfl (Y.pickF rfl rfl rfl) ?_
      refine WL.nil ?_
      refine WK.then_normal (k107 _ _ ?_)
      refine WC.sub [(0, _), (2, _), (7, _), (72, _)] ⟨rfl, rfl, rfl, rfl, trivial⟩ ?_
      refine WC.condF rfl ?_
      refine WC.skip ?_
      refine WK.then_normal (k106 _ _ ?_)
      refine WC.sub [(0, _), (2, _), (7, _)] ⟨rfl, rfl, rfl, trivial⟩ ?_
      refine WC.seq (fun K112 k112 => ?_)
      refine WC.regionX (fun W' => Ext w W' ∧ Blk W' g21 26 _ ∧ Ls W' A26 n27 c28 Sp.ic 1 _ ∧ Ls W' A30 n31 c32 Sp.ic 1 _) (.load 0 (.load 1 (.load 2 (.load 3 (.load 4 (.alt 5 (.alt 6 (.load 7 (.fin)) (.none)) (.none))))))) ⟨xW, m36, hl29, hl33⟩ (by kernel_rfl) (by kernel_rfl) (fun w113 x114 => ?_)
      have m36 := m36.ext x114
      have ow18 := ow18.ext x114
      have hl29 := hl29.ext x114
      have ow19 := ow19.ext x114
      have hl33 := hl33.ext x114
      have xW := Ext.trans xW x114
      refine WX.yld rfl rfl (blt rfl) rfl (Y.move rfl rfl) ?_
      refine WX.yld rfl rfl (blt rfl) rfl (Y.loadS rfl Try.underlying26 rfl ti26 rfl (Blk.row_c (fun _ h => h.2.1))) ?_
      refine WX.yld rfl rfl (blt rfl) rfl (Y.move rfl rfl) ?_
      refine WX.yld rfl rfl (blt rfl) rfl (Y.move rfl rfl) ?_
      refine WX.yld rfl rfl (blt rfl) rfl (Y.add rfl rfl rfl rfl) ?_
      refine WX.call rfl rfl (blt rfl) rfl rfl rfl has22 rfl ⟨xW, m36, hl29, hl33⟩ (of_any _ _ _ ) ?_
      rintro _ w115 ⟨rfl, x116⟩
      refine ⟨_, rfl, ?_⟩
      have m36 := m36.ext x116
      have ow18 := ow18.ext x116
      have hl29 := hl29.ext x116
      have ow19 := ow19.ext x116
      have hl33 := hl33.ext x116
      have xW := Ext.trans xW x116
      refine WX.call rfl rfl (blt rfl) rfl rfl rfl has15 rfl ⟨xW, m36, hl29, hl33⟩ (overlap_any _ _ _ _ _ _ _ _ _ _ _ _ ⟨t, IntKind.i64.wrap (t + 1)⟩ _ (h_l.ext xW) hl29 hl33 (by omega)) ?_
      rintro _ w117 ⟨v119, rfl, ow120, x118⟩
      refine ⟨_, rfl, ?_⟩
      have r_v119_g21 := ne_res ow120 m36
      have d_v119_v16 := Apart.res ow120 ow18
      have d_v119_v17 := Apart.res ow120 ow19
      have ow120 := OwnL.base_le ow120 xW.size
      have m36 := m36.ext x118
      have ow18 := ow18.ext x118
      have hl29 := hl29.ext x118
      have ow19 := ow19.ext x118
      have hl33 := hl33.ext x118
      have xW := Ext.trans xW x118
      refine WX.yld rfl rfl (blt rfl) rfl (Y.assign rfl rfl) ?_
      refine WX.nil ⟨xW, m36, hl29, hl33⟩ ?_
      refine WK.then_normal (k112 _ _ ?_)
      refine WC.sub [(0, _), (2, _), (7, _), (12, _)] ⟨rfl, rfl, rfl, rfl, trivial⟩ ?_
      refine WC.seq (fun K121 k121 => ?_)
      refine WC.seq (fun K122 k122 => ?_)
      refine WC.region rfl ?_
      refine WL.yld rfl (blt rfl) rfl (Y.move rfl rfl) ?_
      refine WL.yld rfl (blt rfl) rfl (Y.lss rfl rfl rfl) ?_
      refine WL.yld rfl (blt rfl) rfl (Y.move rfl rfl) ?_
      refine WL.yldG rfl (blt rfl) rfl rfl rfl (fun hb => Y.move rfl rfl) ?_
      refine WL.yldG rfl (blt rfl) rfl rfl rfl (fun hb => Y.geq rfl (evg rfl hb) rfl) ?_
      refine WL.yld rfl (blt rfl) rfl (Y.or rfl rfl rfl rfl) ?_
      refine WL.nil ?_
      refine WK.then_normal (k122 _ _ ?_)
      refine WC.sub [(0, _), (2, _), (7, _), (12, _), (85, _)] ⟨rfl, rfl, rfl, rfl, rfl, trivial⟩ ?_
      refine WC.cond rfl (fun h123 => ?_) (fun h123 => ?_)
      ·
        have p123 := ((or_t h123).imp (fun h => (dec_t h)) (fun h => (dec_t h)))
        refine WC.region rfl ?_
        refine WL.yld rfl (blt rfl) rfl (Y.assign rfl rfl) ?_
        refine WL.nil ?_
        refine WK.then_normal (k121 _ _ ?_)
        refine WC.sub [(0, _), (2, _), (7, _), (12, _)] ⟨rfl, rfl, rfl, rfl, trivial⟩ ?_
        refine WC.seq (fun K124 k124 => ?_)
        refine WC.region rfl ?_
        refine WL.yld rfl (blt rfl) rfl (Y.move rfl rfl) ?_
        refine WL.yld rfl (blt rfl) rfl (Y.loadS rfl Try.underlying26 rfl ti26 rfl (Blk.row_eq m36)) ?_
        refine WL.yld rfl (blt rfl) rfl (Y.move rfl rfl) ?_
        refine WL.call rfl (blt rfl) rfl rfl rfl has17 rfl (stab_any _ _ _ _ _ _ _ _ _ _ _ _ _ _ (h_l.ext xW) hl29 hl33 (by omega)) ?_
        rintro _ w125 ⟨v127, rfl, ow128, x126⟩
        refine ⟨_, rfl, ?_⟩
        have r_v127_g21 := ne_res ow128 m36
        have d_v127_v16 := Apart.res ow128 ow18
        have d_v127_v17 := Apart.res ow128 ow19
        have ow128 := OwnL.base_le ow128 xW.size
        have m36 := m36.ext x126
        have ow18 := ow18.ext x126
        have hl29 := hl29.ext x126
        have ow19 := ow19.ext x126
        have hl33 := hl33.ext x126
        have xW := Ext.trans xW x126
        refine WL.yld rfl (blt rfl) rfl (Y.move rfl rfl) ?_
        obtain ⟨A129, n130, c131, rfl, hl132⟩ := OwnL.opened ow128 (fun _ => rfl) (by decide)
        have e_n130 := hl132.len
        try simp only [List.length_append, List.length_cons, List.length_nil, List.length_reverse, List.length_drop, List.length_take, List.length_map, List.length_replicate] at e_n130
        have z_n130 := hl132.nle
        refine WL.call rfl (blt rfl) rfl rfl rfl has11 rfl (same_any _ _ _ _ _ _ _ _ _ hl132 (Ls.nil (by decide))) ?_
        rintro _ w133 ⟨rfl, x134⟩
        refine ⟨_, rfl, ?_⟩
        have m36 := m36.ext x134
        have ow18 := ow18.ext x134
        have hl29 := hl29.ext x134
        have ow19 := ow19.ext x134
        have hl33 := hl33.ext x134
        have ow128 := ow128.ext x134
        have hl132 := hl132.ext x134
        have xW := Ext.trans xW x134
        refine WL.yld rfl (blt rfl) rfl (Yld.cast (Y.move rfl rfl) (vb (b := true) (decide_eq_true (by rw [It.stabC_self, It.stab_none ((or_t h123).imp (fun z => dec_t z) (fun z => dec_t z))])))) ?_
        refine WL.callW rfl (blt rfl) rfl rfl rfl rfl rfl has8 rfl (awake_any _ ) ?_
        rintro _ w135 ⟨rfl, x136⟩
        refine ⟨_, rfl, ?_⟩
        have m36 := m36.ext x136
        have ow18 := ow18.ext x136
        have hl29 := hl29.ext x136
        have ow19 := ow19.ext x136
        have hl33 := hl33.ext x136
        have ow128 := ow128.ext x136
        have hl132 := hl132.ext x136
        have xW := Ext.trans xW x136
        refine WL.yld rfl (blt rfl) rfl (Y.pickT rfl rfl rfl) ?_
        refine WL.yld rfl (blt rfl) rfl (Y.assign rfl rfl) ?_
        refine WL.nil ?_
        refine WK.then_normal (k124 _ _ ?_)
        refine WC.sub [(6, _)] ⟨rfl, trivial⟩ ?_
        refine WC.ret ?_
        clear k1 k7 k8 k13 k37 k42 k43 k44 k46 k47 k103 k106 k107 k112 k121 k122 k124
        refine WK.ret [_] rfl ⟨rfl, trivial⟩ ?_
        exact ⟨ret1 (vb rfl), xW⟩
      ·
        have p123 := (And.intro (dec_f (or_f h123).1) (dec_f (or_f h123).2))
        refine WC.skip ?_
        refine WK.then_normal (k121 _ _ ?_)
        refine WC.sub [(0, _), (2, _), (7, _), (12, _)] ⟨rfl, rfl, rfl, rfl, trivial⟩ ?_
        refine WC.seq (fun K137 k137 => ?_)
        refine WC.region rfl ?_
        refine WL.yld rfl (blt rfl) rfl (Y.move rfl rfl) ?_
        refine WL.yld rfl (blt rfl) rfl (Y.loadS rfl Try.underlying26 rfl ti26 rfl (Blk.row_eq m36)) ?_
        refine WL.yld rfl (blt rfl) rfl (Y.move rfl rfl) ?_
        refine WL.call rfl (blt rfl) rfl rfl rfl has17 rfl (stab_any _ _ _ _ _ _ _ _ _ _ _ _ _ _ (h_l.ext xW) hl29 hl33 (by omega)) ?_
        rintro _ w138 ⟨v140, rfl, ow141, x139⟩
        refine ⟨_, rfl, ?_⟩
        have r_v140_g21 := ne_res ow141 m36
        have d_v140_v16 := Apart.res ow141 ow18
        have d_v140_v17 := Apart.res ow141 ow19
        have d_v119_v140 := (Apart.res ow141 ow120).symm
        have ow141 := OwnL.base_le ow141 xW.size
        have m36 := m36.ext x139
        have ow18 := ow18.ext x139
        have hl29 := hl29.ext x139
        have ow19 := ow19.ext x139
        have hl33 := hl33.ext x139
        have ow120 := ow120.ext x139
        have xW := Ext.trans xW x139
        refine WL.yld rfl (blt rfl) rfl (Y.move rfl rfl) ?_
        obtain ⟨A142, n143, c144, rfl, hl145⟩ := OwnL.opened ow141 (fun _ => rfl) (by decide)
        have e_n143 := hl145.len
        try simp only [List.length_append, List.length_cons, List.length_nil, List.length_reverse, List.length_drop, List.length_take, List.length_map, List.length_replicate] at e_n143
        have z_n143 := hl145.nle
        obtain ⟨A146, n147, c148, rfl, hl149⟩ := OwnL.opened ow120 (fun _ => rfl) (by decide)
        have e_n147 := hl149.len
        try simp only [List.length_append, List.length_cons, List.length_nil, List.length_reverse, List.length_drop, List.length_take, List.length_map, List.length_replicate] at e_n147
        have z_n147 := hl149.nle
        refine WL.call rfl (blt rfl) rfl rfl rfl has11 rfl (same_any _ _ _ _ _ _ _ _ _ hl145 hl149) ?_
        rintro _ w150 ⟨rfl, x151⟩
        refine ⟨_, rfl, ?_⟩
        have m36 := m36.ext x151
        have ow18 := ow18.ext x151
        have hl29 := hl29.ext x151
        have ow19 := ow19.ext x151
        have hl33 := hl33.ext x151
        have ow120 := ow120.ext x151
        have hl149 := hl149.ext x151
        have ow141 := ow141.ext x151
        have hl145 := hl145.ext x151
        have xW := Ext.trans xW x151
        refine WL.yld rfl (blt rfl) rfl (Yld.cast (Y.move rfl rfl) (vb (b := true) (decide_eq_true (It.stab_one (by have z := dec_f (or_f h123).1; omega) (by have z := dec_f (or_f h123).2; omega))))) ?_
        refine WL.callW rfl (blt rfl) rfl rfl rfl rfl rfl has8 rfl (awake_any _ ) ?_
        rintro _ w152 ⟨rfl, x153⟩
        refine ⟨_, rfl, ?_⟩
        have m36 := m36.ext x153
        have ow18 := ow18.ext x153
        have hl29 := hl29.ext x153
        have ow19 := ow19.ext x153
        have hl33 := hl33.ext x153
        have ow120 := ow120.ext x153
        have hl149 := hl149.ext x153
        have ow141 := ow141.ext x153
        have hl145 := hl145.ext x153
        have xW := Ext.trans xW x153
        refine WL.yld rfl (blt rfl) rfl (Y.pickT rfl rfl rfl) ?_
        refine WL.yld rfl (blt rfl) rfl (Y.assign rfl rfl) ?_
        refine WL.nil ?_
        refine WK.then_normal (k137 _ _ ?_)
        refine WC.sub [(6, _)] ⟨rfl, trivial⟩ ?_
        refine WC.ret ?_
        clear k1 k7 k8 k13 k37 k42 k43 k44 k46 k47 k103 k106 k107 k112 k121 k122 k137
        refine WK.ret [_] rfl ⟨rfl, trivial⟩ ?_
        exact ⟨ret1 (vb rfl), xW⟩
end LItreeFinds
end ItW

end Go.Proofs.Ytbdfhiihaemjhaa
