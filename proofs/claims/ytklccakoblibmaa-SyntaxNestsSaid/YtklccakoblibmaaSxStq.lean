/- Contracts: steps. Conditions: what each theorem states. -/
import Derived.Test.YtklccakoblibmaaSxUse
namespace Go.Proofs.Ytklccakoblibmaa
open Go Go.Eng Go.RowKit
set_option linter.unusedVariables false
set_option linter.unusedSimpArgs false
namespace SxW
open B C D E G
namespace S
theorem ti3 : TI Try.prog 3 (.int .i64 0) 1 8 := TI.mk (by kernel_rfl)
theorem ti9 : TI Try.prog 9 (.string ⟨#[]⟩) 1 16 := TI.mk (by kernel_rfl)
theorem ti28 : TI Try.prog 28 (.agg #[.int .i64 0, .string ⟨#[]⟩, .int .i64 0, .int .i64 0, .string ⟨#[]⟩, .slice none 0 0]) 6 80 := TI.mk (by kernel_rfl)
theorem ti34 : TI Try.prog 34 (.slice none 0 0) 1 24 := TI.mk (by kernel_rfl)
theorem ti36 : TI Try.prog 36 (.int .i64 0) 1 8 := TI.mk (by kernel_rfl)
theorem ti37 : TI Try.prog 37 (.slice none 0 0) 1 24 := TI.mk (by kernel_rfl)
theorem ti39 : TI Try.prog 39 (.slice none 0 0) 1 24 := TI.mk (by kernel_rfl)
theorem ti41 : TI Try.prog 41 (.agg #[.int .i64 0, .int .i64 0, .string ⟨#[]⟩, .int .i64 0, .int .i64 0, .string ⟨#[]⟩, .slice none 0 0, .slice none 0 0, .slice none 0 0, .slice none 0 0, .slice none 0 0, .int .i64 0, .string ⟨#[]⟩]) 13 208 := TI.mk (by kernel_rfl)
theorem ti65 : TI Try.prog 65 (.agg #[.int .i64 0, .string ⟨#[]⟩, .int .i64 0, .int .i64 0, .string ⟨#[]⟩, .slice none 0 0, .string ⟨#[]⟩]) 7 96 := TI.mk (by kernel_rfl)
theorem ti69 : TI Try.prog 69 (.agg #[.string ⟨#[]⟩, .bool false]) 2 24 := TI.mk (by kernel_rfl)
theorem has11 : Has Try.prog 11 := ⟨_, Try.func11, rfl, by kernel_rfl⟩
theorem has12 : Has Try.prog 12 := ⟨_, Try.func12, rfl, by kernel_rfl⟩
theorem has35 : Has Try.prog 35 := ⟨_, Try.func35, rfl, by kernel_rfl⟩
theorem has36 : Has Try.prog 36 := ⟨_, Try.func36, rfl, by kernel_rfl⟩
theorem has37 : Has Try.prog 37 := ⟨_, Try.func37, rfl, by kernel_rfl⟩
theorem has38 : Has Try.prog 38 := ⟨_, Try.func38, rfl, by kernel_rfl⟩
theorem has39 : Has Try.prog 39 := ⟨_, Try.func39, rfl, by kernel_rfl⟩
theorem has40 : Has Try.prog 40 := ⟨_, Try.func40, rfl, by kernel_rfl⟩
theorem has46 : Has Try.prog 46 := ⟨_, Try.func46, rfl, by kernel_rfl⟩
theorem selects_any (A_l : Option Addr) (n_l c_l : Nat) (l : List Sx.It) (d_l : Nat) (w : World) (h_l : Ls w A_l n_l c_l Sx.It.v 7 l) (gi_l : ∀ x ∈ l, Sx.Good d_l w x.e) (fi_l : ∀ x ∈ l, Sx.short x.e = true ∧ Sx.cnt x.e ≤ 300 ∧ x.as_.size ≤ 300) (hl : n_l ≤ 30) :
    Calls Try.prog 44 #[.slice A_l n_l c_l] w fun e w' => e = .returned (.int .i64 (Sx.itmE l)) ∧ Ext w w' := by
  have xW := Ext.refl w
  have e_l := h_l.len
  have z_l := h_l.nle
  refine calls_of_WC (args := [.slice A_l n_l c_l]) Try.func44 rfl rfl (ble rfl) ?_
  refine WC.seq (fun K1 k1 => ?_)
  refine WC.region rfl ?_
  refine WL.yld rfl (blt rfl) rfl (Y.assign rfl rfl) ?_
  refine WL.nil ?_
  refine WK.then_normal (k1 _ _ ?_)
  refine WC.sub [(0, _)] ⟨rfl, trivial⟩ ?_
  refine WC.seq (fun K2 k2 => ?_)
  refine WC.region rfl ?_
  refine WL.yld rfl (blt rfl) rfl (Y.assign rfl rfl) ?_
  refine WL.nil ?_
  refine WK.then_normal (k2 _ _ ?_)
  refine WC.seq (fun K3 k3 => ?_)
  refine WC.seq (fun K4 k4 => ?_)
  refine WC.region rfl ?_
  refine WL.yld rfl (blt rfl) rfl (Y.assign rfl rfl) ?_
  refine WL.nil ?_
  refine WK.then_normal (k4 _ _ ?_)
  refine WC.block ?_
  refine WC.sub [(4, _), (3, _), (0, _)] ⟨rfl, rfl, rfl, trivial⟩ ?_
  refine WC.loopS 2 (fun mz Ed W' => ∃ i : Nat, ∃ v : Value, mz = n_l - i ∧ Ed = [(4, .int .i64 ((i : Nat) : Int)), (3, v)] ∧ Ext w W' ∧ OwnL W' w.heap.size 9 Sx.sc 1 v ((l.take i).map Sx.It.as_) ∧ (i ≤ n_l) ∧ (∀ j, j < i → Sx.itm1 l j = 0) ∧ (Sx.allE [] ((l.take i).map Sx.It.as_) = 0)) _ ⟨0, _, rfl, rfl, xW, OwnL.nil_, (Nat.zero_le _), (fun j hj => absurd hj (Nat.not_lt_zero j)), rfl⟩ ?_
  rintro _ _ w5 ⟨i, v, rfl, rfl, xW, ow_v, le_i, inv_i, az⟩
  refine WC.sub [(4, _), (3, _), (0, _)] ⟨rfl, rfl, rfl, trivial⟩ ?_
  have tk := Sx.map_len (f := Sx.It.as_) (l := l) (i := i) (by omega)
  refine WC.seq (fun K6 k6 => ?_)
  refine WC.seq (fun K7 k7 => ?_)
  refine WC.region rfl ?_
  refine WL.yld rfl (blt rfl) rfl (Y.move rfl rfl) ?_
  refine WL.yld rfl (blt rfl) rfl (Y.move rfl rfl) ?_
  refine WL.yld rfl (blt rfl) rfl (Y.lenSl rfl rfl rfl Try.underlying37 rfl) ?_
  refine WL.yld rfl (blt rfl) rfl (Y.lss rfl rfl rfl) ?_
  refine WL.nil ?_
  refine WK.then_normal (k7 _ _ ?_)
  refine WC.sub [(0, _), (3, _), (4, _), (9, _)] ⟨rfl, rfl, rfl, rfl, trivial⟩ ?_
  refine WC.cond rfl (fun h8 => ?_) (fun h8 => ?_)
  ·
    have p8 := (dec_t h8)
    refine WC.skip ?_
    refine WK.then_normal (k6 _ _ ?_)
    refine WC.sub [(0, _), (3, _), (4, _)] ⟨rfl, rfl, rfl, trivial⟩ ?_
    refine WC.seq (fun K9 k9 => ?_)
    refine WC.block ?_
    refine WC.seq (fun K10 k10 => ?_)
    refine WC.region rfl ?_
    refine WL.yld rfl (blt rfl) rfl (Y.move rfl rfl) ?_
    refine WL.yld rfl (blt rfl) rfl (Y.move rfl rfl) ?_
    have b11 : i < n_l := by omega
    refine WL.yld rfl (blt rfl) rfl (Y.indexLs i (h_l.ext xW) rfl Try.underlying37 ti65 rfl rfl rfl b11) ?_
    refine WL.yld rfl (blt rfl) rfl (Y.fieldE rfl Try.underlying65 rfl ti28 (by decide) rfl) ?_
    refine WL.yld rfl (blt rfl) rfl (Y.loadS (cs := [_, _, _, _, _, _]) rfl Try.underlying28 rfl ti28 rfl (Ls.part_eq (h_l.ext xW) b11 rfl)) ?_
    refine WL.call rfl (blt rfl) rfl rfl rfl has12 rfl (rexpr_any _ _ _ ((gi_l _ (bang_mem (show i < l.length from by omega))).ext xW) (fi_l _ (bang_mem (show i < l.length from by omega))).1 (fi_l _ (bang_mem (show i < l.length from by omega))).2.1) ?_
    rintro _ w12 ⟨rfl, x13⟩
    refine ⟨_, rfl, ?_⟩
    have ow_v := ow_v.ext x13
    have xW := Ext.trans xW x13
    refine WL.yld rfl (blt rfl) rfl (Y.assign rfl rfl) ?_
    refine WL.nil ?_
    refine WK.then_normal (k10 _ _ ?_)
    refine WC.sub [(0, _), (3, _), (4, _), (5, _)] ⟨rfl, rfl, rfl, rfl, trivial⟩ ?_
    refine WC.seq (fun K14 k14 => ?_)
    refine WC.region rfl ?_
    refine WL.yld rfl (blt rfl) rfl (Y.move rfl rfl) ?_
    refine WL.yld rfl (blt rfl) rfl (Y.move rfl rfl) ?_
    refine WL.yld rfl (blt rfl) rfl (Y.move rfl rfl) ?_
    have b15 : i < n_l := by omega
    refine WL.yld rfl (blt rfl) rfl (Y.indexLs i (h_l.ext xW) rfl Try.underlying37 ti65 rfl rfl rfl b15) ?_
    refine WL.yld rfl (blt rfl) rfl (Y.fieldE rfl Try.underlying65 rfl ti9 (by decide) rfl) ?_
    refine WL.yld rfl (blt rfl) rfl (Y.load1 rfl Try.underlying9 rfl rfl (Ls.at_eq (h_l.ext xW) b15 rfl)) ?_
    refine WL.bslice (zs := [.string ⟨#[]⟩]) (cs := [_]) rfl (blt rfl) rfl rfl Try.underlying34 ti9 rfl (ble rfl) (by kernel_rfl) rfl rfl ?_
    intro g16 w17 e18 x19 m20
    have r_v_g16 := ne_newO ow_v e18
    have o_g16 := own_new xW e18
    have ow_v := ow_v.ext x19
    have xW := Ext.trans xW x19
    refine WL.appendB (f := Sx.sc) (news := [l[i]!.as_]) rfl (blt rfl) rfl rfl rfl rfl Try.underlying34 ti9 rfl (by decide) rfl ow_v (fun _ => rfl) Sx.sc_one m20 rfl xW.size (by have q0 := tk; first | omega | (simp only [List.length_append, List.length_cons, List.length_nil, List.length_take, List.length_drop, List.length_reverse]; omega)) (Nat.le_trans (show _ ≤ 140737488355328 from by have q0 := tk; first | omega | (simp only [List.length_append, List.length_cons, List.length_nil, List.length_take, List.length_drop, List.length_reverse]; omega)) (by decide)) (fun v21 w22 ow23 gr24 nb25 => ?_)
    have r_v21_g16 := ne_app nb25 r_v_g16 m20
    have m20 := m20.grown gr24 r_v_g16
    have xW := Ext.grown xW gr24 (fun b hb => (OwnL.lt ow_v hb).1)
    refine WL.yld rfl (blt rfl) rfl (Y.assign rfl rfl) ?_
    refine WL.nil ?_
    refine WK.then_normal (k14 _ _ ?_)
    refine WC.sub [(0, _), (3, _), (4, _), (5, _)] ⟨rfl, rfl, rfl, rfl, trivial⟩ ?_
    refine WC.seq (fun K26 k26 => ?_)
    refine WC.seq (fun K27 k27 => ?_)
    refine WC.region rfl ?_
    refine WL.yld rfl (blt rfl) rfl (Y.move rfl rfl) ?_
    refine WL.yld rfl (blt rfl) rfl (Y.eql rfl rfl rfl) ?_
    refine WL.nil ?_
    refine WK.then_normal (k27 _ _ ?_)
    refine WC.sub [(0, _), (3, _), (4, _), (5, _), (27, _)] ⟨rfl, rfl, rfl, rfl, rfl, trivial⟩ ?_
    refine WC.cond rfl (fun h28 => ?_) (fun h28 => ?_)
    ·
      have p28 := (eq_t h28)
      have ze : Sx.exE l[i]!.e = 0 := (by have q := h28; simp only [Bool.and_eq_true, Bool.or_eq_true, Bool.not_eq_true', Bool.and_eq_false_iff, Bool.or_eq_false_iff, Bool.not_eq_false', decide_eq_true_eq, decide_eq_false_iff_not, beq_iff_eq, beq_eq_false_iff_ne, ne_eq] at q; exact q)
      refine WC.region rfl ?_
      refine WL.yld rfl (blt rfl) rfl (Y.move rfl rfl) ?_
      obtain ⟨A29, n30, c31, rfl, hl32⟩ := OwnL.opened ow23 (fun _ => rfl) (by decide)
      have e_n30 := hl32.len
      try simp only [List.length_append, List.length_cons, List.length_nil, List.length_reverse, List.length_drop, List.length_take, List.length_map, List.length_replicate, List.length_set] at e_n30
      have z_n30 := hl32.nle
      refine WL.call rfl (blt rfl) rfl rfl rfl has46 rfl (names_any _ _ _ _ _ hl32 (Sx.short_map (f := Sx.It.as_) (m := 300) (fun x hx => (fi_l x hx).2.2) (by decide) (show i < l.length from by omega))) ?_
      rintro _ w33 ⟨rfl, x34⟩
      refine ⟨_, rfl, ?_⟩
      have ow23 := ow23.ext x34
      have hl32 := hl32.ext x34
      have xW := Ext.trans xW x34
      refine WL.yld rfl (blt rfl) rfl (Y.assign rfl rfl) ?_
      refine WL.nil ?_
      refine WK.then_normal (k26 _ _ ?_)
      refine WC.sub [(0, _), (3, _), (4, _), (5, _)] ⟨rfl, rfl, rfl, rfl, trivial⟩ ?_
      refine WC.seq (fun K35 k35 => ?_)
      refine WC.region rfl ?_
      refine WL.yld rfl (blt rfl) rfl (Y.move rfl rfl) ?_
      refine WL.yld rfl (blt rfl) rfl (Y.neq rfl rfl rfl) ?_
      refine WL.nil ?_
      refine WK.then_normal (k35 _ _ ?_)
      refine WC.sub [(0, _), (3, _), (4, _), (5, _), (31, _)] ⟨rfl, rfl, rfl, rfl, rfl, trivial⟩ ?_
      refine WC.cond rfl (fun h36 => ?_) (fun h36 => ?_)
      ·
        have p36 := (eq_f (not_t h36))
        refine WC.seq (fun K37 k37 => ?_)
        refine WC.region rfl ?_
        refine WL.yld rfl (blt rfl) rfl (Y.move rfl rfl) ?_
        refine WL.yld rfl (blt rfl) rfl (Y.assign rfl rfl) ?_
        refine WL.nil ?_
        refine WK.then_normal (k37 _ _ ?_)
        refine WC.sub [(2, _)] ⟨rfl, trivial⟩ ?_
        refine WC.ret ?_
        refine WK.in_ret ?_
        refine WK.then_ret ?_
        refine WK.then_ret ?_
        refine WK.in_ret ?_
        refine WK.then_ret ?_
        clear k1 k2 k3 k4 k6 k7 k9 k10 k14 k26 k27 k35 k37
        refine WK.ret [_] rfl ⟨rfl, trivial⟩ ?_
        have ne : ¬ Sx.allE [] (((l.take i).map Sx.It.as_) ++ [l[i]!.as_]) = 0 := (by have q := h36; simp only [Bool.and_eq_true, Bool.or_eq_true, Bool.not_eq_true', Bool.and_eq_false_iff, Bool.or_eq_false_iff, Bool.not_eq_false', decide_eq_true_eq, decide_eq_false_iff_not, beq_iff_eq, beq_eq_false_iff_ne, ne_eq] at q; exact q)
        exact ⟨ret1 (vi (Sx.itm_hit (show i < l.length from by omega) inv_i ((Sx.itm_add ze).trans (Sx.all_snoc az).symm) ne).symm), xW⟩
      ·
        have p36 := (eq_t (not_f h36))
        have z0 : Sx.allE [] (((l.take i).map Sx.It.as_) ++ [l[i]!.as_]) = 0 := (by have q := h36; simp only [Bool.and_eq_true, Bool.or_eq_true, Bool.not_eq_true', Bool.and_eq_false_iff, Bool.or_eq_false_iff, Bool.not_eq_false', decide_eq_true_eq, decide_eq_false_iff_not, beq_iff_eq, beq_eq_false_iff_ne, ne_eq] at q; exact q)
        refine WC.skip ?_
        refine WK.in_normal ?_
        refine WK.then_normal (k9 _ _ ?_)
        refine WC.sub [(0, _), (3, _), (4, _)] ⟨rfl, rfl, rfl, trivial⟩ ?_
        refine WC.region rfl ?_
        refine WL.yld rfl (blt rfl) rfl (Y.move rfl rfl) ?_
        refine WL.yld rfl (blt rfl) rfl (Y.add rfl rfl rfl (wrap_i64 (by first | omega | (dsimp only; omega)))) ?_
        refine WL.yld rfl (blt rfl) rfl (Y.assign rfl rfl) ?_
        refine WL.nil ?_
        refine WK.roundS _ [(4, .int .i64 (((i + 1) : Nat) : Int)), (3, (.slice A29 n30 c31))] ⟨rfl, rfl, rfl, trivial⟩ ?_ ⟨(i + 1), (.slice A29 n30 c31), rfl, rfl, xW, (by rw [Sx.map_next (show i < l.length from by omega)]; exact ow23), (by omega), (fun j hj => by rcases Nat.lt_succ_iff_lt_or_eq.1 hj with h | h; exact inv_i j h; rw [h]; exact ((Sx.itm_add ze).trans (by rw [← Sx.all_snoc az]; exact z0))), (by rw [Sx.map_next (show i < l.length from by omega)]; exact z0)⟩
        show _ - (i + 1) < _ - i; omega
    ·
      have p28 := (eq_f h28)
      refine WC.skip ?_
      refine WK.then_normal (k26 _ _ ?_)
      refine WC.sub [(0, _), (3, _), (4, _), (5, _)] ⟨rfl, rfl, rfl, rfl, trivial⟩ ?_
      refine WC.seq (fun K38 k38 => ?_)
      refine WC.region rfl ?_
      refine WL.yld rfl (blt rfl) rfl (Y.move rfl rfl) ?_
      refine WL.yld rfl (blt rfl) rfl (Y.neq rfl rfl rfl) ?_
      refine WL.nil ?_
      refine WK.then_normal (k38 _ _ ?_)
      refine WC.sub [(0, _), (3, _), (4, _), (5, _), (31, _)] ⟨rfl, rfl, rfl, rfl, rfl, trivial⟩ ?_
      refine WC.cond rfl (fun h39 => ?_) (fun h39 => ?_)
      ·
        have p39 := (eq_f (not_t h39))
        refine WC.seq (fun K40 k40 => ?_)
        refine WC.region rfl ?_
        refine WL.yld rfl (blt rfl) rfl (Y.move rfl rfl) ?_
        refine WL.yld rfl (blt rfl) rfl (Y.assign rfl rfl) ?_
        refine WL.nil ?_
        refine WK.then_normal (k40 _ _ ?_)
        refine WC.sub [(2, _)] ⟨rfl, trivial⟩ ?_
        refine WC.ret ?_
        refine WK.in_ret ?_
        refine WK.then_ret ?_
        refine WK.then_ret ?_
        refine WK.in_ret ?_
        refine WK.then_ret ?_
        clear k1 k2 k3 k4 k6 k7 k9 k10 k14 k26 k27 k38 k40
        refine WK.ret [_] rfl ⟨rfl, trivial⟩ ?_
        have ne : ¬ Sx.exE l[i]!.e = 0 := (by have q := h28; simp only [Bool.and_eq_true, Bool.or_eq_true, Bool.not_eq_true', Bool.and_eq_false_iff, Bool.or_eq_false_iff, Bool.not_eq_false', decide_eq_true_eq, decide_eq_false_iff_not, beq_iff_eq, beq_eq_false_iff_ne, ne_eq] at q; exact q)
        exact ⟨ret1 (vi (Sx.itm_hit (show i < l.length from by omega) inv_i (Sx.itm_ex ne) ne).symm), xW⟩
      ·
        clear k1 k2 k3 k4 k6 k7 k9 k10 k14 k26 k27 k38
        exact False.elim (by have q := h28; have q2 := h39; simp only [Bool.and_eq_true, Bool.or_eq_true, Bool.not_eq_true', Bool.and_eq_false_iff, Bool.or_eq_false_iff, Bool.not_eq_false', decide_eq_true_eq, decide_eq_false_iff_not, beq_iff_eq, beq_eq_false_iff_ne, ne_eq] at q q2; exact q q2)
  ·
    have p8 := (dec_f h8)
    refine WC.exit ?_
    refine WK.then_exit ?_
    refine WK.then_exit ?_
    refine WK.in_exit ?_
    refine WK.then_normal (k3 _ _ ?_)
    refine WC.sub [] trivial ?_
    refine WC.seq (fun K41 k41 => ?_)
    refine WC.region rfl ?_
    refine WL.yld rfl (blt rfl) rfl (Y.assign rfl rfl) ?_
    refine WL.nil ?_
    refine WK.then_normal (k41 _ _ ?_)
    refine WC.ret ?_
    clear k1 k2 k3 k4 k6 k7 k41
    refine WK.ret [_] rfl ⟨rfl, trivial⟩ ?_
    exact ⟨ret1 (vi (Sx.itm_ok fun j hj => inv_i j (by omega)).symm), xW⟩
theorem sorts_any (A_l : Option Addr) (n_l c_l : Nat) (l : List Sx.So) (w : World) (h_l : Ls w A_l n_l c_l Sx.So.v 2 l) (hl : n_l ≤ 30) :
    Calls Try.prog 47 #[.slice A_l n_l c_l] w fun e w' => ∃ v, e = .returned v ∧ OwnL w' w.heap.size 9 Sx.sc 1 v (Sx.srt l) ∧ Ext w w' := by
  have xW := Ext.refl w
  have e_l := h_l.len
  have z_l := h_l.nle
  refine calls_of_WC (args := [.slice A_l n_l c_l]) Try.func47 rfl rfl (ble rfl) ?_
  refine WC.seq (fun K1 k1 => ?_)
  refine WC.region rfl ?_
  refine WL.yld rfl (blt rfl) rfl (Y.assign rfl rfl) ?_
  refine WL.nil ?_
  refine WK.then_normal (k1 _ _ ?_)
  refine WC.sub [(0, _)] ⟨rfl, trivial⟩ ?_
  refine WC.seq (fun K2 k2 => ?_)
  refine WC.region rfl ?_
  refine WL.yld rfl (blt rfl) rfl (Y.assign rfl rfl) ?_
  refine WL.nil ?_
  refine WK.then_normal (k2 _ _ ?_)
  refine WC.seq (fun K3 k3 => ?_)
  refine WC.seq (fun K4 k4 => ?_)
  refine WC.region rfl ?_
  refine WL.yld rfl (blt rfl) rfl (Y.assign rfl rfl) ?_
  refine WL.nil ?_
  refine WK.then_normal (k4 _ _ ?_)
  refine WC.block ?_
  refine WC.sub [(4, _), (3, _), (0, _)] ⟨rfl, rfl, rfl, trivial⟩ ?_
  refine WC.loopS 2 (fun mz Ed W' => ∃ i : Nat, ∃ v : Value, mz = n_l - i ∧ Ed = [(4, .int .i64 ((i : Nat) : Int)), (3, v)] ∧ Ext w W' ∧ OwnL W' w.heap.size 9 Sx.sc 1 v ((l.take i).map Sx.So.col) ∧ (i ≤ n_l)) _ ⟨0, _, rfl, rfl, xW, OwnL.nil_, (Nat.zero_le _)⟩ ?_
  rintro _ _ w5 ⟨i, v, rfl, rfl, xW, ow_v, le_i⟩
  refine WC.sub [(4, _), (3, _), (0, _)] ⟨rfl, rfl, rfl, trivial⟩ ?_
  have tk := Sx.map_len (f := Sx.So.col) (l := l) (i := i) (by omega)
  refine WC.seq (fun K6 k6 => ?_)
  refine WC.seq (fun K7 k7 => ?_)
  refine WC.region rfl ?_
  refine WL.yld rfl (blt rfl) rfl (Y.move rfl rfl) ?_
  refine WL.yld rfl (blt rfl) rfl (Y.move rfl rfl) ?_
  refine WL.yld rfl (blt rfl) rfl (Y.lenSl rfl rfl rfl Try.underlying39 rfl) ?_
  refine WL.yld rfl (blt rfl) rfl (Y.lss rfl rfl rfl) ?_
  refine WL.nil ?_
  refine WK.then_normal (k7 _ _ ?_)
  refine WC.sub [(0, _), (3, _), (4, _), (8, _)] ⟨rfl, rfl, rfl, rfl, trivial⟩ ?_
  refine WC.cond rfl (fun h8 => ?_) (fun h8 => ?_)
  ·
    have p8 := (dec_t h8)
    refine WC.skip ?_
    refine WK.then_normal (k6 _ _ ?_)
    refine WC.sub [(0, _), (3, _), (4, _)] ⟨rfl, rfl, rfl, trivial⟩ ?_
    refine WC.seq (fun K9 k9 => ?_)
    refine WC.block ?_
    refine WC.region rfl ?_
    refine WL.yld rfl (blt rfl) rfl (Y.move rfl rfl) ?_
    refine WL.yld rfl (blt rfl) rfl (Y.move rfl rfl) ?_
    refine WL.yld rfl (blt rfl) rfl (Y.move rfl rfl) ?_
    have b10 : i < n_l := by omega
    refine WL.yld rfl (blt rfl) rfl (Y.indexLs i (h_l.ext xW) rfl Try.underlying39 ti69 rfl rfl rfl b10) ?_
    refine WL.yld rfl (blt rfl) rfl (Y.fieldE rfl Try.underlying69 rfl ti9 (by decide) rfl) ?_
    refine WL.yld rfl (blt rfl) rfl (Y.load1 rfl Try.underlying9 rfl rfl (Ls.at_eq (h_l.ext xW) b10 rfl)) ?_
    refine WL.bslice (zs := [.string ⟨#[]⟩]) (cs := [_]) rfl (blt rfl) rfl rfl Try.underlying34 ti9 rfl (ble rfl) (by kernel_rfl) rfl rfl ?_
    intro g11 w12 e13 x14 m15
    have r_v_g11 := ne_newO ow_v e13
    have o_g11 := own_new xW e13
    have ow_v := ow_v.ext x14
    have xW := Ext.trans xW x14
    refine WL.appendB (f := Sx.sc) (news := [l[i]!.col]) rfl (blt rfl) rfl rfl rfl rfl Try.underlying34 ti9 rfl (by decide) rfl ow_v (fun _ => rfl) Sx.sc_one m15 rfl xW.size (by have q0 := tk; first | omega | (simp only [List.length_append, List.length_cons, List.length_nil, List.length_take, List.length_drop, List.length_reverse]; omega)) (Nat.le_trans (show _ ≤ 140737488355328 from by have q0 := tk; first | omega | (simp only [List.length_append, List.length_cons, List.length_nil, List.length_take, List.length_drop, List.length_reverse]; omega)) (by decide)) (fun v16 w17 ow18 gr19 nb20 => ?_)
    have r_v16_g11 := ne_app nb20 r_v_g11 m15
    have m15 := m15.grown gr19 r_v_g11
    have xW := Ext.grown xW gr19 (fun b hb => (OwnL.lt ow_v hb).1)
    refine WL.yld rfl (blt rfl) rfl (Y.assign rfl rfl) ?_
    refine WL.nil ?_
    refine WK.in_normal ?_
    refine WK.then_normal (k9 _ _ ?_)
    refine WC.sub [(0, _), (3, _), (4, _)] ⟨rfl, rfl, rfl, trivial⟩ ?_
    refine WC.region rfl ?_
    refine WL.yld rfl (blt rfl) rfl (Y.move rfl rfl) ?_
    refine WL.yld rfl (blt rfl) rfl (Y.add rfl rfl rfl (wrap_i64 (by first | omega | (dsimp only; omega)))) ?_
    refine WL.yld rfl (blt rfl) rfl (Y.assign rfl rfl) ?_
    refine WL.nil ?_
    refine WK.roundS _ [(4, .int .i64 (((i + 1) : Nat) : Int)), (3, v16)] ⟨rfl, rfl, rfl, trivial⟩ ?_ ⟨(i + 1), v16, rfl, rfl, xW, (by rw [Sx.map_next (show i < l.length from by omega)]; exact ow18), (by omega)⟩
    show _ - (i + 1) < _ - i; omega
  ·
    have p8 := (dec_f h8)
    refine WC.exit ?_
    refine WK.then_exit ?_
    refine WK.then_exit ?_
    refine WK.in_exit ?_
    refine WK.then_normal (k3 _ _ ?_)
    refine WC.sub [(3, _)] ⟨rfl, trivial⟩ ?_
    refine WC.seq (fun K21 k21 => ?_)
    refine WC.region rfl ?_
    refine WL.yld rfl (blt rfl) rfl (Y.move rfl rfl) ?_
    refine WL.yld rfl (blt rfl) rfl (Y.assign rfl rfl) ?_
    refine WL.nil ?_
    refine WK.then_normal (k21 _ _ ?_)
    refine WC.sub [(2, _)] ⟨rfl, trivial⟩ ?_
    refine WC.ret ?_
    clear k1 k2 k3 k4 k6 k7 k21
    refine WK.ret [_] rfl ⟨rfl, trivial⟩ ?_
    have q := ow_v
    rw [List.take_of_length_le (by omega)] at q
    exact ⟨_, rfl, q, xW⟩
theorem step_any (d_s : Nat) (s : Sx.St) (w : World) (g_s : Sx.GoodS d_s w s) (f_s : Sx.FewS s) :
    Calls Try.prog 17 #[.agg #[.int .i64 s.op, .int .i64 s.cd.op, .string s.cd.nm, .int .i64 s.cd.vk, .int .i64 s.cd.vn, .string s.cd.vs, .slice s.cd.A s.cd.n s.cd.c, .slice s.iA s.iN s.iC, .slice s.cA s.cN s.cC, .slice s.aA s.aN s.aC, .slice s.sA s.sN s.sC, .int .i64 s.N, .string s.tb]] w fun e w' => e = .returned (.int .i64 (Sx.stpE s)) ∧ Ext w w' := by
  have xW := Ext.refl w
  have e_il := g_s.il.len
  have e_cl := g_s.cl.len
  have e_al := g_s.al.len
  have e_sl := g_s.sl.len
  have b_il := f_s.il
  have b_cl := f_s.cl
  have b_al := f_s.al
  have b_sl := f_s.sl
  refine calls_of_WC (args := [.agg #[.int .i64 s.op, .int .i64 s.cd.op, .string s.cd.nm, .int .i64 s.cd.vk, .int .i64 s.cd.vn, .string s.cd.vs, .slice s.cd.A s.cd.n s.cd.c, .slice s.iA s.iN s.iC, .slice s.cA s.cN s.cC, .slice s.aA s.aN s.aC, .slice s.sA s.sN s.sC, .int .i64 s.N, .string s.tb]]) Try.func17 rfl rfl (ble rfl) ?_
  refine WC.seq (fun K1 k1 => ?_)
  refine WC.region rfl ?_
  refine WL.box rfl (blt rfl) rfl rfl rfl rfl ?_
  intro g2 w3 e4 x5 m6
  have o_g2 := own_new xW e4
  have xW := Ext.trans xW x5
  refine WL.yld rfl (blt rfl) rfl (Y.assign rfl rfl) ?_
  refine WL.nil ?_
  refine WK.then_normal (k1 _ _ ?_)
  refine WC.sub [(1, _)] ⟨rfl, trivial⟩ ?_
  refine WC.seq (fun K7 k7 => ?_)
  refine WC.seq (fun K8 k8 => ?_)
  refine WC.region rfl ?_
  refine WL.yld rfl (blt rfl) rfl (Y.loadS rfl Try.underlying41 rfl ti41 rfl (Blk.row_eq m6)) ?_
  refine WL.call rfl (blt rfl) rfl rfl rfl has35 rfl (uses_any _ _ _ (g_s.ext xW) f_s) ?_
  rintro _ w9 ⟨rfl, x10⟩
  refine ⟨_, rfl, ?_⟩
  have m6 := m6.ext x10
  have xW := Ext.trans xW x10
  refine WL.yld rfl (blt rfl) rfl (Y.not rfl rfl) ?_
  refine WL.nil ?_
  refine WK.then_normal (k8 _ _ ?_)
  refine WC.sub [(1, _), (10, _)] ⟨rfl, rfl, trivial⟩ ?_
  refine WC.cond rfl (fun h11 => ?_) (fun h11 => ?_)
  ·
    refine WC.seq (fun K12 k12 => ?_)
    refine WC.region rfl ?_
    refine WL.yld rfl (blt rfl) rfl (Y.assign rfl rfl) ?_
    refine WL.nil ?_
    refine WK.then_normal (k12 _ _ ?_)
    refine WC.sub [(2, _)] ⟨rfl, trivial⟩ ?_
    refine WC.ret ?_
    refine WK.then_ret ?_
    clear k1 k7 k8 k12
    refine WK.ret [_] rfl ⟨rfl, trivial⟩ ?_
    refine ⟨ret1 (vi ?_), xW⟩
    unfold Sx.stpE
    rw [if_pos (by simpa using h11)]
  ·
    refine WC.skip ?_
    refine WK.then_normal (k7 _ _ ?_)
    refine WC.sub [(1, _)] ⟨rfl, trivial⟩ ?_
    refine WC.seq (fun K13 k13 => ?_)
    refine WC.seq (fun K14 k14 => ?_)
    refine WC.region rfl ?_
    refine WL.yld rfl (blt rfl) rfl (Y.fieldAddr rfl Try.underlying41 rfl ti36 (by decide) rfl) ?_
    refine WL.yld rfl (blt rfl) rfl (Y.load1 rfl Try.underlying36 rfl rfl (Blk.at_eq m6 rfl)) ?_
    refine WL.nil ?_
    refine WK.then_normal (k14 _ _ ?_)
    refine WC.sub [(1, _), (12, _)] ⟨rfl, rfl, trivial⟩ ?_
    refine WC.block ?_
    refine WC.seq (fun K15 k15 => ?_)
    refine WC.region rfl ?_
    refine WL.yld rfl (blt rfl) rfl (Y.eql rfl rfl rfl) ?_
    refine WL.yld rfl (blt rfl) rfl (Y.assign rfl rfl) ?_
    refine WL.nil ?_
    refine WK.then_normal (k15 _ _ ?_)
    refine WC.sub [(1, _), (12, _), (13, _)] ⟨rfl, rfl, rfl, trivial⟩ ?_
    refine WC.cond rfl (fun h16 => ?_) (fun h16 => ?_)
    ·
      have p16 := (eq_t h16)
      refine WC.seq (fun K17 k17 => ?_)
      refine WC.region rfl ?_
      refine WL.yld rfl (blt rfl) rfl (Y.fieldAddr rfl Try.underlying41 rfl ti28 (by decide) rfl) ?_
      refine WL.yld rfl (blt rfl) rfl (Y.loadS (cs := [_, _, _, _, _, _]) rfl Try.underlying28 rfl ti28 rfl (Blk.part_eq m6 rfl)) ?_
      refine WL.call rfl (blt rfl) rfl rfl rfl has11 rfl (expr_any _ _ _ (g_s.cd.ext xW) f_s.cd.1 f_s.cd.2) ?_
      rintro _ w18 ⟨rfl, x19⟩
      refine ⟨_, rfl, ?_⟩
      have m6 := m6.ext x19
      have xW := Ext.trans xW x19
      refine WL.yld rfl (blt rfl) rfl (Y.assign rfl rfl) ?_
      refine WL.nil ?_
      refine WK.then_normal (k17 _ _ ?_)
      refine WC.sub [(2, _)] ⟨rfl, trivial⟩ ?_
      refine WC.ret ?_
      refine WK.in_ret ?_
      refine WK.then_ret ?_
      clear k1 k7 k8 k13 k14 k15 k17
      refine WK.ret [_] rfl ⟨rfl, trivial⟩ ?_
      refine ⟨ret1 (vi ?_), xW⟩
      have hu : ¬ Sx.usB s = false := by have q := h11; simp at q; rw [q]; simp
      first | (exfalso; revert h11; simp; done) | (exfalso; revert h16; simp; done) | (have q1 := h16; (try simp only [Sx.emp_iff] at q1); (try simp only [Bool.and_eq_true, Bool.or_eq_true, Bool.not_eq_true', Bool.and_eq_false_iff, Bool.or_eq_false_iff, Bool.not_eq_false', decide_eq_true_eq, decide_eq_false_iff_not, beq_iff_eq, beq_eq_false_iff_ne, ne_eq, Sx.idF, Sx.idT, Sx.inI, List.any_cons, List.any_nil, Bool.or_false, Sx.zerT, Sx.zerF, Bool.not_false, Bool.not_true, Bool.and_true, Bool.and_false, Bool.true_and, Bool.false_and, Bool.false_or] at q1); (try rw [List.take_of_length_le (by omega)]); (try change Sx.colE (Sx.srt s.sl) 1 = _); unfold Sx.stpE; rw [if_neg hu]; (try simp only [Sx.idF, e_il, e_sl]); (repeat (first | rw [if_pos (by omega)] | rw [if_neg (by omega)])); (try rfl); done)
    ·
      have p16 := (eq_f h16)
      refine WC.seq (fun K20 k20 => ?_)
      refine WC.region rfl ?_
      refine WL.yld rfl (blt rfl) rfl (Y.eql rfl rfl rfl) ?_
      refine WL.yld rfl (blt rfl) rfl (Y.assign rfl rfl) ?_
      refine WL.nil ?_
      refine WK.then_normal (k20 _ _ ?_)
      refine WC.sub [(1, _), (12, _), (18, _)] ⟨rfl, rfl, rfl, trivial⟩ ?_
      refine WC.cond rfl (fun h21 => ?_) (fun h21 => ?_)
      ·
        have p21 := (eq_t h21)
        refine WC.seq (fun K22 k22 => ?_)
        refine WC.seq (fun K23 k23 => ?_)
        refine WC.region rfl ?_
        refine WL.yld rfl (blt rfl) rfl (Y.fieldAddr rfl Try.underlying41 rfl ti37 (by decide) rfl) ?_
        refine WL.yld rfl (blt rfl) rfl (Y.load1 rfl Try.underlying37 rfl rfl (Blk.at_eq m6 rfl)) ?_
        refine WL.yld rfl (blt rfl) rfl (Y.lenSl rfl rfl rfl Try.underlying37 rfl) ?_
        refine WL.call rfl (blt rfl) rfl rfl rfl has36 rfl (size_any _ _ _ ) ?_
        rintro _ w24 ⟨rfl, x25⟩
        refine ⟨_, rfl, ?_⟩
        have m6 := m6.ext x25
        have xW := Ext.trans xW x25
        refine WL.yld rfl (blt rfl) rfl (Y.assign rfl rfl) ?_
        refine WL.nil ?_
        refine WK.then_normal (k23 _ _ ?_)
        refine WC.sub [(1, _), (3, _)] ⟨rfl, rfl, trivial⟩ ?_
        refine WC.seq (fun K26 k26 => ?_)
        refine WC.region rfl ?_
        refine WL.yld rfl (blt rfl) rfl (Y.move rfl rfl) ?_
        refine WL.yld rfl (blt rfl) rfl (Y.neq rfl rfl rfl) ?_
        refine WL.nil ?_
        refine WK.then_normal (k26 _ _ ?_)
        refine WC.sub [(1, _), (3, _), (25, _)] ⟨rfl, rfl, rfl, trivial⟩ ?_
        refine WC.cond rfl (fun h27 => ?_) (fun h27 => ?_)
        ·
          have p27 := (eq_f (not_t h27))
          refine WC.seq (fun K28 k28 => ?_)
          refine WC.region rfl ?_
          refine WL.yld rfl (blt rfl) rfl (Y.move rfl rfl) ?_
          refine WL.yld rfl (blt rfl) rfl (Y.assign rfl rfl) ?_
          refine WL.nil ?_
          refine WK.then_normal (k28 _ _ ?_)
          refine WC.sub [(2, _)] ⟨rfl, trivial⟩ ?_
          refine WC.ret ?_
          refine WK.then_ret ?_
          refine WK.in_ret ?_
          refine WK.then_ret ?_
          clear k1 k7 k8 k13 k14 k15 k20 k22 k23 k26 k28
          refine WK.ret [_] rfl ⟨rfl, trivial⟩ ?_
          refine ⟨ret1 (vi ?_), xW⟩
          have hu : ¬ Sx.usB s = false := by have q := h11; simp at q; rw [q]; simp
          first | (exfalso; revert h11; simp; done) | (exfalso; revert h16; simp; done) | (exfalso; revert h21; simp; done) | (exfalso; revert h27; simp; done) | (have q1 := h16; (try simp only [Sx.emp_iff] at q1); (try simp only [Bool.and_eq_true, Bool.or_eq_true, Bool.not_eq_true', Bool.and_eq_false_iff, Bool.or_eq_false_iff, Bool.not_eq_false', decide_eq_true_eq, decide_eq_false_iff_not, beq_iff_eq, beq_eq_false_iff_ne, ne_eq, Sx.idF, Sx.idT, Sx.inI, List.any_cons, List.any_nil, Bool.or_false, Sx.zerT, Sx.zerF, Bool.not_false, Bool.not_true, Bool.and_true, Bool.and_false, Bool.true_and, Bool.false_and, Bool.false_or] at q1); have q2 := h21; (try simp only [Sx.emp_iff] at q2); (try simp only [Bool.and_eq_true, Bool.or_eq_true, Bool.not_eq_true', Bool.and_eq_false_iff, Bool.or_eq_false_iff, Bool.not_eq_false', decide_eq_true_eq, decide_eq_false_iff_not, beq_iff_eq, beq_eq_false_iff_ne, ne_eq, Sx.idF, Sx.idT, Sx.inI, List.any_cons, List.any_nil, Bool.or_false, Sx.zerT, Sx.zerF, Bool.not_false, Bool.not_true, Bool.and_true, Bool.and_false, Bool.true_and, Bool.false_and, Bool.false_or] at q2); have q3 := h27; (try simp only [Sx.emp_iff] at q3); (try simp only [Bool.and_eq_true, Bool.or_eq_true, Bool.not_eq_true', Bool.and_eq_false_iff, Bool.or_eq_false_iff, Bool.not_eq_false', decide_eq_true_eq, decide_eq_false_iff_not, beq_iff_eq, beq_eq_false_iff_ne, ne_eq, Sx.idF, Sx.idT, Sx.inI, List.any_cons, List.any_nil, Bool.or_false, Sx.zerT, Sx.zerF, Bool.not_false, Bool.not_true, Bool.and_true, Bool.and_false, Bool.true_and, Bool.false_and, Bool.false_or] at q3); (try rw [List.take_of_length_le (by omega)]); (try change Sx.colE (Sx.srt s.sl) 1 = _); unfold Sx.stpE; rw [if_neg hu]; (try simp only [Sx.idF, e_il, e_sl]); (repeat (first | rw [if_pos (by omega)] | rw [if_neg (by omega)])); (try rfl); done)
        ·
          have p27 := (eq_t (not_f h27))
          refine WC.skip ?_
          refine WK.then_normal (k22 _ _ ?_)
          refine WC.sub [(1, _)] ⟨rfl, trivial⟩ ?_
          refine WC.seq (fun K29 k29 => ?_)
          refine WC.region rfl ?_
          refine WL.yld rfl (blt rfl) rfl (Y.fieldAddr rfl Try.underlying41 rfl ti37 (by decide) rfl) ?_
          refine WL.yld rfl (blt rfl) rfl (Y.load1 rfl Try.underlying37 rfl rfl (Blk.at_eq m6 rfl)) ?_
          refine WL.call rfl (blt rfl) rfl rfl rfl has37 rfl (items_any _ _ _ _ _ _ (g_s.il.ext xW) (fun x hx => (g_s.ie x hx).ext xW) f_s.ie (by omega)) ?_
          rintro _ w30 ⟨rfl, x31⟩
          refine ⟨_, rfl, ?_⟩
          have m6 := m6.ext x31
          have xW := Ext.trans xW x31
          refine WL.yld rfl (blt rfl) rfl (Y.assign rfl rfl) ?_
          refine WL.nil ?_
          refine WK.then_normal (k29 _ _ ?_)
          refine WC.sub [(2, _)] ⟨rfl, trivial⟩ ?_
          refine WC.ret ?_
          refine WK.in_ret ?_
          refine WK.then_ret ?_
          clear k1 k7 k8 k13 k14 k15 k20 k22 k23 k26 k29
          refine WK.ret [_] rfl ⟨rfl, trivial⟩ ?_
          refine ⟨ret1 (vi ?_), xW⟩
          have hu : ¬ Sx.usB s = false := by have q := h11; simp at q; rw [q]; simp
          first | (exfalso; revert h11; simp; done) | (exfalso; revert h16; simp; done) | (exfalso; revert h21; simp; done) | (exfalso; revert h27; simp; done) | (have q1 := h16; (try simp only [Sx.emp_iff] at q1); (try simp only [Bool.and_eq_true, Bool.or_eq_true, Bool.not_eq_true', Bool.and_eq_false_iff, Bool.or_eq_false_iff, Bool.not_eq_false', decide_eq_true_eq, decide_eq_false_iff_not, beq_iff_eq, beq_eq_false_iff_ne, ne_eq, Sx.idF, Sx.idT, Sx.inI, List.any_cons, List.any_nil, Bool.or_false, Sx.zerT, Sx.zerF, Bool.not_false, Bool.not_true, Bool.and_true, Bool.and_false, Bool.true_and, Bool.false_and, Bool.false_or] at q1); have q2 := h21; (try simp only [Sx.emp_iff] at q2); (try simp only [Bool.and_eq_true, Bool.or_eq_true, Bool.not_eq_true', Bool.and_eq_false_iff, Bool.or_eq_false_iff, Bool.not_eq_false', decide_eq_true_eq, decide_eq_false_iff_not, beq_iff_eq, beq_eq_false_iff_ne, ne_eq, Sx.idF, Sx.idT, Sx.inI, List.any_cons, List.any_nil, Bool.or_false, Sx.zerT, Sx.zerF, Bool.not_false, Bool.not_true, Bool.and_true, Bool.and_false, Bool.true_and, Bool.false_and, Bool.false_or] at q2); have q3 := h27; (try simp only [Sx.emp_iff] at q3); (try simp only [Bool.and_eq_true, Bool.or_eq_true, Bool.not_eq_true', Bool.and_eq_false_iff, Bool.or_eq_false_iff, Bool.not_eq_false', decide_eq_true_eq, decide_eq_false_iff_not, beq_iff_eq, beq_eq_false_iff_ne, ne_eq, Sx.idF, Sx.idT, Sx.inI, List.any_cons, List.any_nil, Bool.or_false, Sx.zerT, Sx.zerF, Bool.not_false, Bool.not_true, Bool.and_true, Bool.and_false, Bool.true_and, Bool.false_and, Bool.false_or] at q3); (try rw [List.take_of_length_le (by omega)]); (try change Sx.colE (Sx.srt s.sl) 1 = _); unfold Sx.stpE; rw [if_neg hu]; (try simp only [Sx.idF, e_il, e_sl]); (repeat (first | rw [if_pos (by omega)] | rw [if_neg (by omega)])); (try rfl); done)
      ·
        have p21 := (eq_f h21)
        refine WC.seq (fun K32 k32 => ?_)
        refine WC.region rfl ?_
        refine WL.yld rfl (blt rfl) rfl (Y.eql rfl rfl rfl) ?_
        refine WL.yld rfl (blt rfl) rfl (Y.assign rfl rfl) ?_
        refine WL.nil ?_
        refine WK.then_normal (k32 _ _ ?_)
        refine WC.sub [(1, _), (12, _), (30, _)] ⟨rfl, rfl, rfl, trivial⟩ ?_
        refine WC.cond rfl (fun h33 => ?_) (fun h33 => ?_)
        ·
          have p33 := (eq_t h33)
          refine WC.seq (fun K34 k34 => ?_)
          refine WC.region rfl ?_
          refine WL.yld rfl (blt rfl) rfl (Y.loadS rfl Try.underlying41 rfl ti41 rfl (Blk.row_eq m6)) ?_
          refine WL.call rfl (blt rfl) rfl rfl rfl has38 rfl (group_any _ _ _ (g_s.ext xW) f_s) ?_
          rintro _ w35 ⟨rfl, x36⟩
          refine ⟨_, rfl, ?_⟩
          have m6 := m6.ext x36
          have xW := Ext.trans xW x36
          refine WL.yld rfl (blt rfl) rfl (Y.assign rfl rfl) ?_
          refine WL.nil ?_
          refine WK.then_normal (k34 _ _ ?_)
          refine WC.sub [(2, _)] ⟨rfl, trivial⟩ ?_
          refine WC.ret ?_
          refine WK.in_ret ?_
          refine WK.then_ret ?_
          clear k1 k7 k8 k13 k14 k15 k20 k32 k34
          refine WK.ret [_] rfl ⟨rfl, trivial⟩ ?_
          refine ⟨ret1 (vi ?_), xW⟩
          have hu : ¬ Sx.usB s = false := by have q := h11; simp at q; rw [q]; simp
          first | (exfalso; revert h11; simp; done) | (exfalso; revert h16; simp; done) | (exfalso; revert h21; simp; done) | (exfalso; revert h33; simp; done) | (have q1 := h16; (try simp only [Sx.emp_iff] at q1); (try simp only [Bool.and_eq_true, Bool.or_eq_true, Bool.not_eq_true', Bool.and_eq_false_iff, Bool.or_eq_false_iff, Bool.not_eq_false', decide_eq_true_eq, decide_eq_false_iff_not, beq_iff_eq, beq_eq_false_iff_ne, ne_eq, Sx.idF, Sx.idT, Sx.inI, List.any_cons, List.any_nil, Bool.or_false, Sx.zerT, Sx.zerF, Bool.not_false, Bool.not_true, Bool.and_true, Bool.and_false, Bool.true_and, Bool.false_and, Bool.false_or] at q1); have q2 := h21; (try simp only [Sx.emp_iff] at q2); (try simp only [Bool.and_eq_true, Bool.or_eq_true, Bool.not_eq_true', Bool.and_eq_false_iff, Bool.or_eq_false_iff, Bool.not_eq_false', decide_eq_true_eq, decide_eq_false_iff_not, beq_iff_eq, beq_eq_false_iff_ne, ne_eq, Sx.idF, Sx.idT, Sx.inI, List.any_cons, List.any_nil, Bool.or_false, Sx.zerT, Sx.zerF, Bool.not_false, Bool.not_true, Bool.and_true, Bool.and_false, Bool.true_and, Bool.false_and, Bool.false_or] at q2); have q3 := h33; (try simp only [Sx.emp_iff] at q3); (try simp only [Bool.and_eq_true, Bool.or_eq_true, Bool.not_eq_true', Bool.and_eq_false_iff, Bool.or_eq_false_iff, Bool.not_eq_false', decide_eq_true_eq, decide_eq_false_iff_not, beq_iff_eq, beq_eq_false_iff_ne, ne_eq, Sx.idF, Sx.idT, Sx.inI, List.any_cons, List.any_nil, Bool.or_false, Sx.zerT, Sx.zerF, Bool.not_false, Bool.not_true, Bool.and_true, Bool.and_false, Bool.true_and, Bool.false_and, Bool.false_or] at q3); (try rw [List.take_of_length_le (by omega)]); (try change Sx.colE (Sx.srt s.sl) 1 = _); unfold Sx.stpE; rw [if_neg hu]; (try simp only [Sx.idF, e_il, e_sl]); (repeat (first | rw [if_pos (by omega)] | rw [if_neg (by omega)])); (try rfl); done)
        ·
          have p33 := (eq_f h33)
          refine WC.seq (fun K37 k37 => ?_)
          refine WC.region rfl ?_
          refine WL.yld rfl (blt rfl) rfl (Y.eql rfl rfl rfl) ?_
          refine WL.yld rfl (blt rfl) rfl (Y.assign rfl rfl) ?_
          refine WL.nil ?_
          refine WK.then_normal (k37 _ _ ?_)
          refine WC.sub [(1, _), (12, _), (34, _)] ⟨rfl, rfl, rfl, trivial⟩ ?_
          refine WC.cond rfl (fun h38 => ?_) (fun h38 => ?_)
          ·
            have p38 := (eq_t h38)
            refine WC.seq (fun K39 k39 => ?_)
            refine WC.region rfl ?_
            refine WL.yld rfl (blt rfl) rfl (Y.assign rfl rfl) ?_
            refine WL.nil ?_
            refine WK.then_normal (k39 _ _ ?_)
            refine WC.sub [(1, _), (4, _)] ⟨rfl, rfl, trivial⟩ ?_
            refine WC.seq (fun K40 k40 => ?_)
            refine WC.seq (fun K41 k41 => ?_)
            refine WC.region rfl ?_
            refine WL.yld rfl (blt rfl) rfl (Y.fieldAddr rfl Try.underlying41 rfl ti39 (by decide) rfl) ?_
            refine WL.yld rfl (blt rfl) rfl (Y.load1 rfl Try.underlying39 rfl rfl (Blk.at_eq m6 rfl)) ?_
            refine WL.yld rfl (blt rfl) rfl (Y.lenSl rfl rfl rfl Try.underlying39 rfl) ?_
            refine WL.yld rfl (blt rfl) rfl (Y.move rfl rfl) ?_
            refine WL.nil ?_
            refine WK.then_normal (k41 _ _ ?_)
            refine WC.sub [(4, _), (37, _), (38, _), (39, _)] ⟨rfl, rfl, rfl, rfl, trivial⟩ ?_
            refine WC.block ?_
            refine WC.sub [(39, _), (4, _), (37, _), (38, _)] ⟨rfl, rfl, rfl, rfl, trivial⟩ ?_
            refine WC.loopS 2 (fun mz Ed W' => ∃ i : Nat, ∃ v : Value, mz = s.sN - i ∧ Ed = [(39, .int .i64 ((i : Nat) : Int)), (4, v)] ∧ Ext w W' ∧ OwnL W' w.heap.size 9 Sx.sc 1 v ((s.sl.take i).map Sx.So.col) ∧ (i ≤ s.sN)) _ ⟨0, _, rfl, rfl, xW, OwnL.nil_, (Nat.zero_le _)⟩ ?_
            rintro _ _ w42 ⟨i, v, rfl, rfl, xW, ow_v, le_i⟩
            refine WC.sub [(39, _), (4, _), (37, _), (38, _)] ⟨rfl, rfl, rfl, rfl, trivial⟩ ?_
            have tk := Sx.map_len (f := Sx.So.col) (l := s.sl) (i := i) (by omega)
            refine WC.seq (fun K43 k43 => ?_)
            refine WC.region rfl ?_
            refine WL.yld rfl (blt rfl) rfl (Y.lss rfl rfl rfl) ?_
            refine WL.nil ?_
            refine WK.then_normal (k43 _ _ ?_)
            refine WC.seq (fun K44 k44 => ?_)
            refine WC.cond rfl (fun h45 => ?_) (fun h45 => ?_)
            ·
              have p45 := (dec_t h45)
              refine WC.skip ?_
              refine WK.then_normal (k44 _ _ ?_)
              refine WC.sub [(4, _), (37, _), (38, _), (39, _)] ⟨rfl, rfl, rfl, rfl, trivial⟩ ?_
              refine WC.seq (fun K46 k46 => ?_)
              refine WC.block ?_
              refine WC.seq (fun K47 k47 => ?_)
              refine WC.region rfl ?_
              have b48 : i < s.sN := by omega
              refine WL.yld rfl (blt rfl) rfl (Y.indexLs i (g_s.sl.ext xW) rfl Try.underlying39 ti69 rfl rfl rfl b48) ?_
              refine WL.yld rfl (blt rfl) rfl (Y.loadS (cs := [_, _]) rfl Try.underlying69 rfl ti69 rfl (Ls.part_eq (g_s.sl.ext xW) b48 rfl)) ?_
              refine WL.alloc rfl (blt rfl) rfl rfl ti69 rfl ?_
              intro g49 w50 e51 x52 m53
              have r_v_g49 := ne_newO ow_v e51
              have o_g49 := own_new xW e51
              have ow_v := ow_v.ext x52
              have xW := Ext.trans xW x52
              refine WL.store (cs' := [_, _]) rfl rfl rfl rfl rfl rfl ti69 m53 (ble rfl) rfl rfl (fun w54 on55 m56 => ?_)
              have ow_v := ow_v.only r_v_g49 on55
              have xW := Ext.only xW on55 o_g49
              refine WL.nil ?_
              refine WK.then_normal (k47 _ _ ?_)
              refine WC.sub [(4, _), (6, _), (37, _), (38, _), (39, _)] ⟨rfl, rfl, rfl, rfl, rfl, trivial⟩ ?_
              refine WC.region rfl ?_
              refine WL.yld rfl (blt rfl) rfl (Y.move rfl rfl) ?_
              refine WL.yld rfl (blt rfl) rfl (Y.fieldAddr rfl Try.underlying69 rfl ti9 (by decide) rfl) ?_
              refine WL.yld rfl (blt rfl) rfl (Y.load1 rfl Try.underlying9 rfl rfl (Blk.at_eq m56 rfl)) ?_
              refine WL.bslice (zs := [.string ⟨#[]⟩]) (cs := [_]) rfl (blt rfl) rfl rfl Try.underlying34 ti9 rfl (ble rfl) (by kernel_rfl) rfl rfl ?_
              intro g57 w58 e59 x60 m61
              have r_v_g57 := ne_newO ow_v e59
              have n_g49_g57 := ne_new m56 e59
              have o_g57 := own_new xW e59
              have ow_v := ow_v.ext x60
              have m56 := m56.ext x60
              have xW := Ext.trans xW x60
              refine WL.appendB (f := Sx.sc) (news := [s.sl[i]!.col]) rfl (blt rfl) rfl rfl rfl rfl Try.underlying34 ti9 rfl (by decide) rfl ow_v (fun _ => rfl) Sx.sc_one m61 rfl xW.size (by have q0 := tk; first | omega | (simp only [List.length_append, List.length_cons, List.length_nil, List.length_take, List.length_drop, List.length_reverse]; omega)) (Nat.le_trans (show _ ≤ 140737488355328 from by have q0 := tk; first | omega | (simp only [List.length_append, List.length_cons, List.length_nil, List.length_take, List.length_drop, List.length_reverse]; omega)) (by decide)) (fun v62 w63 ow64 gr65 nb66 => ?_)
              have r_v62_g49 := ne_app nb66 r_v_g49 m56
              have m56 := m56.grown gr65 r_v_g49
              have r_v62_g57 := ne_app nb66 r_v_g57 m61
              have m61 := m61.grown gr65 r_v_g57
              have xW := Ext.grown xW gr65 (fun b hb => (OwnL.lt ow_v hb).1)
              refine WL.yld rfl (blt rfl) rfl (Y.assign rfl rfl) ?_
              refine WL.nil ?_
              refine WK.in_normal ?_
              refine WK.then_normal (k46 _ _ ?_)
              refine WC.sub [(4, _), (37, _), (38, _), (39, _)] ⟨rfl, rfl, rfl, rfl, trivial⟩ ?_
              refine WC.region rfl ?_
              refine WL.yld rfl (blt rfl) rfl (Y.add rfl rfl rfl (wrap_i64 (by first | omega | (dsimp only; omega)))) ?_
              refine WL.yld rfl (blt rfl) rfl (Y.move rfl rfl) ?_
              refine WL.nil ?_
              refine WK.roundS _ [(39, .int .i64 (((i + 1) : Nat) : Int)), (4, v62)] ⟨rfl, rfl, rfl, rfl, trivial⟩ ?_ ⟨(i + 1), v62, rfl, rfl, xW, (by rw [Sx.map_next (show i < s.sl.length from by omega)]; exact ow64), (by omega)⟩
              show _ - (i + 1) < _ - i; omega
            ·
              have p45 := (dec_f h45)
              refine WC.exit ?_
              refine WK.then_exit ?_
              refine WK.then_exit ?_
              refine WK.in_exit ?_
              refine WK.then_normal (k40 _ _ ?_)
              refine WC.sub [(4, _)] ⟨rfl, trivial⟩ ?_
              refine WC.seq (fun K67 k67 => ?_)
              refine WC.region rfl ?_
              refine WL.yld rfl (blt rfl) rfl (Y.move rfl rfl) ?_
              obtain ⟨A68, n69, c70, rfl, hl71⟩ := OwnL.opened ow_v (fun _ => rfl) (by decide)
              have e_n69 := hl71.len
              try simp only [List.length_append, List.length_cons, List.length_nil, List.length_reverse, List.length_drop, List.length_take, List.length_map, List.length_replicate, List.length_set] at e_n69
              have z_n69 := hl71.nle
              refine WL.call rfl (blt rfl) rfl rfl rfl has39 rfl (columns_any _ _ _ _ _ _ hl71) ?_
              rintro _ w72 ⟨rfl, x73⟩
              refine ⟨_, rfl, ?_⟩
              have ow_v := ow_v.ext x73
              have hl71 := hl71.ext x73
              have xW := Ext.trans xW x73
              refine WL.yld rfl (blt rfl) rfl (Y.assign rfl rfl) ?_
              refine WL.nil ?_
              refine WK.then_normal (k67 _ _ ?_)
              refine WC.sub [(2, _)] ⟨rfl, trivial⟩ ?_
              refine WC.ret ?_
              refine WK.in_ret ?_
              refine WK.then_ret ?_
              clear k1 k7 k8 k13 k14 k15 k20 k32 k37 k39 k40 k41 k43 k44 k67
              refine WK.ret [_] rfl ⟨rfl, trivial⟩ ?_
              refine ⟨ret1 (vi ?_), xW⟩
              have hu : ¬ Sx.usB s = false := by have q := h11; simp at q; rw [q]; simp
              first | (exfalso; revert h11; simp; done) | (exfalso; revert h16; simp; done) | (exfalso; revert h21; simp; done) | (exfalso; revert h33; simp; done) | (exfalso; revert h38; simp; done) | (exfalso; revert h45; simp; done) | (have q1 := h16; (try simp only [Sx.emp_iff] at q1); (try simp only [Bool.and_eq_true, Bool.or_eq_true, Bool.not_eq_true', Bool.and_eq_false_iff, Bool.or_eq_false_iff, Bool.not_eq_false', decide_eq_true_eq, decide_eq_false_iff_not, beq_iff_eq, beq_eq_false_iff_ne, ne_eq, Sx.idF, Sx.idT, Sx.inI, List.any_cons, List.any_nil, Bool.or_false, Sx.zerT, Sx.zerF, Bool.not_false, Bool.not_true, Bool.and_true, Bool.and_false, Bool.true_and, Bool.false_and, Bool.false_or] at q1); have q2 := h21; (try simp only [Sx.emp_iff] at q2); (try simp only [Bool.and_eq_true, Bool.or_eq_true, Bool.not_eq_true', Bool.and_eq_false_iff, Bool.or_eq_false_iff, Bool.not_eq_false', decide_eq_true_eq, decide_eq_false_iff_not, beq_iff_eq, beq_eq_false_iff_ne, ne_eq, Sx.idF, Sx.idT, Sx.inI, List.any_cons, List.any_nil, Bool.or_false, Sx.zerT, Sx.zerF, Bool.not_false, Bool.not_true, Bool.and_true, Bool.and_false, Bool.true_and, Bool.false_and, Bool.false_or] at q2); have q3 := h33; (try simp only [Sx.emp_iff] at q3); (try simp only [Bool.and_eq_true, Bool.or_eq_true, Bool.not_eq_true', Bool.and_eq_false_iff, Bool.or_eq_false_iff, Bool.not_eq_false', decide_eq_true_eq, decide_eq_false_iff_not, beq_iff_eq, beq_eq_false_iff_ne, ne_eq, Sx.idF, Sx.idT, Sx.inI, List.any_cons, List.any_nil, Bool.or_false, Sx.zerT, Sx.zerF, Bool.not_false, Bool.not_true, Bool.and_true, Bool.and_false, Bool.true_and, Bool.false_and, Bool.false_or] at q3); have q4 := h38; (try simp only [Sx.emp_iff] at q4); (try simp only [Bool.and_eq_true, Bool.or_eq_true, Bool.not_eq_true', Bool.and_eq_false_iff, Bool.or_eq_false_iff, Bool.not_eq_false', decide_eq_true_eq, decide_eq_false_iff_not, beq_iff_eq, beq_eq_false_iff_ne, ne_eq, Sx.idF, Sx.idT, Sx.inI, List.any_cons, List.any_nil, Bool.or_false, Sx.zerT, Sx.zerF, Bool.not_false, Bool.not_true, Bool.and_true, Bool.and_false, Bool.true_and, Bool.false_and, Bool.false_or] at q4); have q5 := h45; (try simp only [Sx.emp_iff] at q5); (try simp only [Bool.and_eq_true, Bool.or_eq_true, Bool.not_eq_true', Bool.and_eq_false_iff, Bool.or_eq_false_iff, Bool.not_eq_false', decide_eq_true_eq, decide_eq_false_iff_not, beq_iff_eq, beq_eq_false_iff_ne, ne_eq, Sx.idF, Sx.idT, Sx.inI, List.any_cons, List.any_nil, Bool.or_false, Sx.zerT, Sx.zerF, Bool.not_false, Bool.not_true, Bool.and_true, Bool.and_false, Bool.true_and, Bool.false_and, Bool.false_or] at q5); (try rw [List.take_of_length_le (by omega)]); (try change Sx.colE (Sx.srt s.sl) 1 = _); unfold Sx.stpE; rw [if_neg hu]; (try simp only [Sx.idF, e_il, e_sl]); (repeat (first | rw [if_pos (by omega)] | rw [if_neg (by omega)])); (try rfl); done)
          ·
            have p38 := (eq_f h38)
            refine WC.seq (fun K74 k74 => ?_)
            refine WC.region rfl ?_
            refine WL.yld rfl (blt rfl) rfl (Y.eql rfl rfl rfl) ?_
            refine WL.yld rfl (blt rfl) rfl (Y.assign rfl rfl) ?_
            refine WL.nil ?_
            refine WK.then_normal (k74 _ _ ?_)
            refine WC.sub [(1, _), (12, _), (51, _)] ⟨rfl, rfl, rfl, trivial⟩ ?_
            refine WC.cond rfl (fun h75 => ?_) (fun h75 => ?_)
            ·
              have p75 := (eq_t h75)
              refine WC.seq (fun K76 k76 => ?_)
              refine WC.seq (fun K77 k77 => ?_)
              refine WC.region rfl ?_
              refine WL.yld rfl (blt rfl) rfl (Y.fieldAddr rfl Try.underlying41 rfl ti3 (by decide) rfl) ?_
              refine WL.yld rfl (blt rfl) rfl (Y.load1 rfl Try.underlying3 rfl rfl (Blk.at_eq m6 rfl)) ?_
              refine WL.yld rfl (blt rfl) rfl (Y.lss rfl rfl rfl) ?_
              refine WL.yld rfl (blt rfl) rfl (Y.move rfl rfl) ?_
              refine WL.yldG rfl (blt rfl) rfl rfl rfl (fun hb => Y.fieldAddr rfl Try.underlying41 rfl ti3 (by decide) rfl) ?_
              refine WL.yldG rfl (blt rfl) rfl rfl rfl (fun hb => Y.load1 rfl Try.underlying3 rfl (evg rfl hb) (Blk.at_eq m6 rfl)) ?_
              refine WL.yldG rfl (blt rfl) rfl rfl rfl (fun hb => Y.gtr rfl (evg rfl hb) rfl) ?_
              refine WL.yld rfl (blt rfl) rfl (Y.or rfl rfl rfl rfl) ?_
              refine WL.nil ?_
              refine WK.then_normal (k77 _ _ ?_)
              refine WC.sub [(60, _)] ⟨rfl, trivial⟩ ?_
              refine WC.cond rfl (fun h78 => ?_) (fun h78 => ?_)
              ·
                have p78 := ((or_t h78).imp (fun h => (dec_t h)) (fun h => (dec_t h)))
                refine WC.seq (fun K79 k79 => ?_)
                refine WC.region rfl ?_
                refine WL.yld rfl (blt rfl) rfl (Y.assign rfl rfl) ?_
                refine WL.nil ?_
                refine WK.then_normal (k79 _ _ ?_)
                refine WC.sub [(2, _)] ⟨rfl, trivial⟩ ?_
                refine WC.ret ?_
                refine WK.then_ret ?_
                refine WK.in_ret ?_
                refine WK.then_ret ?_
                clear k1 k7 k8 k13 k14 k15 k20 k32 k37 k74 k76 k77 k79
                refine WK.ret [_] rfl ⟨rfl, trivial⟩ ?_
                refine ⟨ret1 (vi ?_), xW⟩
                have hu : ¬ Sx.usB s = false := by have q := h11; simp at q; rw [q]; simp
                first | (exfalso; revert h11; simp; done) | (exfalso; revert h16; simp; done) | (exfalso; revert h21; simp; done) | (exfalso; revert h33; simp; done) | (exfalso; revert h38; simp; done) | (exfalso; revert h75; simp; done) | (exfalso; revert h78; simp; done) | (have q1 := h16; (try simp only [Sx.emp_iff] at q1); (try simp only [Bool.and_eq_true, Bool.or_eq_true, Bool.not_eq_true', Bool.and_eq_false_iff, Bool.or_eq_false_iff, Bool.not_eq_false', decide_eq_true_eq, decide_eq_false_iff_not, beq_iff_eq, beq_eq_false_iff_ne, ne_eq, Sx.idF, Sx.idT, Sx.inI, List.any_cons, List.any_nil, Bool.or_false, Sx.zerT, Sx.zerF, Bool.not_false, Bool.not_true, Bool.and_true, Bool.and_false, Bool.true_and, Bool.false_and, Bool.false_or] at q1); have q2 := h21; (try simp only [Sx.emp_iff] at q2); (try simp only [Bool.and_eq_true, Bool.or_eq_true, Bool.not_eq_true', Bool.and_eq_false_iff, Bool.or_eq_false_iff, Bool.not_eq_false', decide_eq_true_eq, decide_eq_false_iff_not, beq_iff_eq, beq_eq_false_iff_ne, ne_eq, Sx.idF, Sx.idT, Sx.inI, List.any_cons, List.any_nil, Bool.or_false, Sx.zerT, Sx.zerF, Bool.not_false, Bool.not_true, Bool.and_true, Bool.and_false, Bool.true_and, Bool.false_and, Bool.false_or] at q2); have q3 := h33; (try simp only [Sx.emp_iff] at q3); (try simp only [Bool.and_eq_true, Bool.or_eq_true, Bool.not_eq_true', Bool.and_eq_false_iff, Bool.or_eq_false_iff, Bool.not_eq_false', decide_eq_true_eq, decide_eq_false_iff_not, beq_iff_eq, beq_eq_false_iff_ne, ne_eq, Sx.idF, Sx.idT, Sx.inI, List.any_cons, List.any_nil, Bool.or_false, Sx.zerT, Sx.zerF, Bool.not_false, Bool.not_true, Bool.and_true, Bool.and_false, Bool.true_and, Bool.false_and, Bool.false_or] at q3); have q4 := h38; (try simp only [Sx.emp_iff] at q4); (try simp only [Bool.and_eq_true, Bool.or_eq_true, Bool.not_eq_true', Bool.and_eq_false_iff, Bool.or_eq_false_iff, Bool.not_eq_false', decide_eq_true_eq, decide_eq_false_iff_not, beq_iff_eq, beq_eq_false_iff_ne, ne_eq, Sx.idF, Sx.idT, Sx.inI, List.any_cons, List.any_nil, Bool.or_false, Sx.zerT, Sx.zerF, Bool.not_false, Bool.not_true, Bool.and_true, Bool.and_false, Bool.true_and, Bool.false_and, Bool.false_or] at q4); have q5 := h75; (try simp only [Sx.emp_iff] at q5); (try simp only [Bool.and_eq_true, Bool.or_eq_true, Bool.not_eq_true', Bool.and_eq_false_iff, Bool.or_eq_false_iff, Bool.not_eq_false', decide_eq_true_eq, decide_eq_false_iff_not, beq_iff_eq, beq_eq_false_iff_ne, ne_eq, Sx.idF, Sx.idT, Sx.inI, List.any_cons, List.any_nil, Bool.or_false, Sx.zerT, Sx.zerF, Bool.not_false, Bool.not_true, Bool.and_true, Bool.and_false, Bool.true_and, Bool.false_and, Bool.false_or] at q5); have q6 := h78; (try simp only [Sx.emp_iff] at q6); (try simp only [Bool.and_eq_true, Bool.or_eq_true, Bool.not_eq_true', Bool.and_eq_false_iff, Bool.or_eq_false_iff, Bool.not_eq_false', decide_eq_true_eq, decide_eq_false_iff_not, beq_iff_eq, beq_eq_false_iff_ne, ne_eq, Sx.idF, Sx.idT, Sx.inI, List.any_cons, List.any_nil, Bool.or_false, Sx.zerT, Sx.zerF, Bool.not_false, Bool.not_true, Bool.and_true, Bool.and_false, Bool.true_and, Bool.false_and, Bool.false_or] at q6); (try rw [List.take_of_length_le (by omega)]); (try change Sx.colE (Sx.srt s.sl) 1 = _); unfold Sx.stpE; rw [if_neg hu]; (try simp only [Sx.idF, e_il, e_sl]); (repeat (first | rw [if_pos (by omega)] | rw [if_neg (by omega)])); (try rfl); done)
              ·
                have p78 := (And.intro (dec_f (or_f h78).1) (dec_f (or_f h78).2))
                refine WC.skip ?_
                refine WK.then_normal (k76 _ _ ?_)
                refine WC.sub [] trivial ?_
                refine WC.seq (fun K80 k80 => ?_)
                refine WC.region rfl ?_
                refine WL.yld rfl (blt rfl) rfl (Y.assign rfl rfl) ?_
                refine WL.nil ?_
                refine WK.then_normal (k80 _ _ ?_)
                refine WC.ret ?_
                refine WK.in_ret ?_
                refine WK.then_ret ?_
                clear k1 k7 k8 k13 k14 k15 k20 k32 k37 k74 k76 k77 k80
                refine WK.ret [_] rfl ⟨rfl, trivial⟩ ?_
                refine ⟨ret1 (vi ?_), xW⟩
                have hu : ¬ Sx.usB s = false := by have q := h11; simp at q; rw [q]; simp
                first | (exfalso; revert h11; simp; done) | (exfalso; revert h16; simp; done) | (exfalso; revert h21; simp; done) | (exfalso; revert h33; simp; done) | (exfalso; revert h38; simp; done) | (exfalso; revert h75; simp; done) | (exfalso; revert h78; simp; done) | (have q1 := h16; (try simp only [Sx.emp_iff] at q1); (try simp only [Bool.and_eq_true, Bool.or_eq_true, Bool.not_eq_true', Bool.and_eq_false_iff, Bool.or_eq_false_iff, Bool.not_eq_false', decide_eq_true_eq, decide_eq_false_iff_not, beq_iff_eq, beq_eq_false_iff_ne, ne_eq, Sx.idF, Sx.idT, Sx.inI, List.any_cons, List.any_nil, Bool.or_false, Sx.zerT, Sx.zerF, Bool.not_false, Bool.not_true, Bool.and_true, Bool.and_false, Bool.true_and, Bool.false_and, Bool.false_or] at q1); have q2 := h21; (try simp only [Sx.emp_iff] at q2); (try simp only [Bool.and_eq_true, Bool.or_eq_true, Bool.not_eq_true', Bool.and_eq_false_iff, Bool.or_eq_false_iff, Bool.not_eq_false', decide_eq_true_eq, decide_eq_false_iff_not, beq_iff_eq, beq_eq_false_iff_ne, ne_eq, Sx.idF, Sx.idT, Sx.inI, List.any_cons, List.any_nil, Bool.or_false, Sx.zerT, Sx.zerF, Bool.not_false, Bool.not_true, Bool.and_true, Bool.and_false, Bool.true_and, Bool.false_and, Bool.false_or] at q2); have q3 := h33; (try simp only [Sx.emp_iff] at q3); (try simp only [Bool.and_eq_true, Bool.or_eq_true, Bool.not_eq_true', Bool.and_eq_false_iff, Bool.or_eq_false_iff, Bool.not_eq_false', decide_eq_true_eq, decide_eq_false_iff_not, beq_iff_eq, beq_eq_false_iff_ne, ne_eq, Sx.idF, Sx.idT, Sx.inI, List.any_cons, List.any_nil, Bool.or_false, Sx.zerT, Sx.zerF, Bool.not_false, Bool.not_true, Bool.and_true, Bool.and_false, Bool.true_and, Bool.false_and, Bool.false_or] at q3); have q4 := h38; (try simp only [Sx.emp_iff] at q4); (try simp only [Bool.and_eq_true, Bool.or_eq_true, Bool.not_eq_true', Bool.and_eq_false_iff, Bool.or_eq_false_iff, Bool.not_eq_false', decide_eq_true_eq, decide_eq_false_iff_not, beq_iff_eq, beq_eq_false_iff_ne, ne_eq, Sx.idF, Sx.idT, Sx.inI, List.any_cons, List.any_nil, Bool.or_false, Sx.zerT, Sx.zerF, Bool.not_false, Bool.not_true, Bool.and_true, Bool.and_false, Bool.true_and, Bool.false_and, Bool.false_or] at q4); have q5 := h75; (try simp only [Sx.emp_iff] at q5); (try simp only [Bool.and_eq_true, Bool.or_eq_true, Bool.not_eq_true', Bool.and_eq_false_iff, Bool.or_eq_false_iff, Bool.not_eq_false', decide_eq_true_eq, decide_eq_false_iff_not, beq_iff_eq, beq_eq_false_iff_ne, ne_eq, Sx.idF, Sx.idT, Sx.inI, List.any_cons, List.any_nil, Bool.or_false, Sx.zerT, Sx.zerF, Bool.not_false, Bool.not_true, Bool.and_true, Bool.and_false, Bool.true_and, Bool.false_and, Bool.false_or] at q5); have q6 := h78; (try simp only [Sx.emp_iff] at q6); (try simp only [Bool.and_eq_true, Bool.or_eq_true, Bool.not_eq_true', Bool.and_eq_false_iff, Bool.or_eq_false_iff, Bool.not_eq_false', decide_eq_true_eq, decide_eq_false_iff_not, beq_iff_eq, beq_eq_false_iff_ne, ne_eq, Sx.idF, Sx.idT, Sx.inI, List.any_cons, List.any_nil, Bool.or_false, Sx.zerT, Sx.zerF, Bool.not_false, Bool.not_true, Bool.and_true, Bool.and_false, Bool.true_and, Bool.false_and, Bool.false_or] at q6); (try rw [List.take_of_length_le (by omega)]); (try change Sx.colE (Sx.srt s.sl) 1 = _); unfold Sx.stpE; rw [if_neg hu]; (try simp only [Sx.idF, e_il, e_sl]); (repeat (first | rw [if_pos (by omega)] | rw [if_neg (by omega)])); (try rfl); done)
            ·
              have p75 := (eq_f h75)
              refine WC.seq (fun K81 k81 => ?_)
              refine WC.region rfl ?_
              refine WL.yld rfl (blt rfl) rfl (Y.eql rfl rfl rfl) ?_
              refine WL.yld rfl (blt rfl) rfl (Y.assign rfl rfl) ?_
              refine WL.nil ?_
              refine WK.then_normal (k81 _ _ ?_)
              refine WC.sub [(1, _), (61, _)] ⟨rfl, rfl, trivial⟩ ?_
              refine WC.cond rfl (fun h82 => ?_) (fun h82 => ?_)
              ·
                have p82 := (eq_t h82)
                refine WC.seq (fun K83 k83 => ?_)
                refine WC.region rfl ?_
                refine WL.yld rfl (blt rfl) rfl (Y.fieldAddr rfl Try.underlying41 rfl ti34 (by decide) rfl) ?_
                refine WL.yld rfl (blt rfl) rfl (Y.load1 rfl Try.underlying34 rfl rfl (Blk.at_eq m6 rfl)) ?_
                refine WL.call rfl (blt rfl) rfl rfl rfl has39 rfl (columns_any _ _ _ _ _ _ (g_s.cl.ext xW)) ?_
                rintro _ w84 ⟨rfl, x85⟩
                refine ⟨_, rfl, ?_⟩
                have m6 := m6.ext x85
                have xW := Ext.trans xW x85
                refine WL.yld rfl (blt rfl) rfl (Y.assign rfl rfl) ?_
                refine WL.nil ?_
                refine WK.then_normal (k83 _ _ ?_)
                refine WC.sub [(2, _)] ⟨rfl, trivial⟩ ?_
                refine WC.ret ?_
                refine WK.in_ret ?_
                refine WK.then_ret ?_
                clear k1 k7 k8 k13 k14 k15 k20 k32 k37 k74 k81 k83
                refine WK.ret [_] rfl ⟨rfl, trivial⟩ ?_
                refine ⟨ret1 (vi ?_), xW⟩
                have hu : ¬ Sx.usB s = false := by have q := h11; simp at q; rw [q]; simp
                first | (exfalso; revert h11; simp; done) | (exfalso; revert h16; simp; done) | (exfalso; revert h21; simp; done) | (exfalso; revert h33; simp; done) | (exfalso; revert h38; simp; done) | (exfalso; revert h75; simp; done) | (exfalso; revert h82; simp; done) | (have q1 := h16; (try simp only [Sx.emp_iff] at q1); (try simp only [Bool.and_eq_true, Bool.or_eq_true, Bool.not_eq_true', Bool.and_eq_false_iff, Bool.or_eq_false_iff, Bool.not_eq_false', decide_eq_true_eq, decide_eq_false_iff_not, beq_iff_eq, beq_eq_false_iff_ne, ne_eq, Sx.idF, Sx.idT, Sx.inI, List.any_cons, List.any_nil, Bool.or_false, Sx.zerT, Sx.zerF, Bool.not_false, Bool.not_true, Bool.and_true, Bool.and_false, Bool.true_and, Bool.false_and, Bool.false_or] at q1); have q2 := h21; (try simp only [Sx.emp_iff] at q2); (try simp only [Bool.and_eq_true, Bool.or_eq_true, Bool.not_eq_true', Bool.and_eq_false_iff, Bool.or_eq_false_iff, Bool.not_eq_false', decide_eq_true_eq, decide_eq_false_iff_not, beq_iff_eq, beq_eq_false_iff_ne, ne_eq, Sx.idF, Sx.idT, Sx.inI, List.any_cons, List.any_nil, Bool.or_false, Sx.zerT, Sx.zerF, Bool.not_false, Bool.not_true, Bool.and_true, Bool.and_false, Bool.true_and, Bool.false_and, Bool.false_or] at q2); have q3 := h33; (try simp only [Sx.emp_iff] at q3); (try simp only [Bool.and_eq_true, Bool.or_eq_true, Bool.not_eq_true', Bool.and_eq_false_iff, Bool.or_eq_false_iff, Bool.not_eq_false', decide_eq_true_eq, decide_eq_false_iff_not, beq_iff_eq, beq_eq_false_iff_ne, ne_eq, Sx.idF, Sx.idT, Sx.inI, List.any_cons, List.any_nil, Bool.or_false, Sx.zerT, Sx.zerF, Bool.not_false, Bool.not_true, Bool.and_true, Bool.and_false, Bool.true_and, Bool.false_and, Bool.false_or] at q3); have q4 := h38; (try simp only [Sx.emp_iff] at q4); (try simp only [Bool.and_eq_true, Bool.or_eq_true, Bool.not_eq_true', Bool.and_eq_false_iff, Bool.or_eq_false_iff, Bool.not_eq_false', decide_eq_true_eq, decide_eq_false_iff_not, beq_iff_eq, beq_eq_false_iff_ne, ne_eq, Sx.idF, Sx.idT, Sx.inI, List.any_cons, List.any_nil, Bool.or_false, Sx.zerT, Sx.zerF, Bool.not_false, Bool.not_true, Bool.and_true, Bool.and_false, Bool.true_and, Bool.false_and, Bool.false_or] at q4); have q5 := h75; (try simp only [Sx.emp_iff] at q5); (try simp only [Bool.and_eq_true, Bool.or_eq_true, Bool.not_eq_true', Bool.and_eq_false_iff, Bool.or_eq_false_iff, Bool.not_eq_false', decide_eq_true_eq, decide_eq_false_iff_not, beq_iff_eq, beq_eq_false_iff_ne, ne_eq, Sx.idF, Sx.idT, Sx.inI, List.any_cons, List.any_nil, Bool.or_false, Sx.zerT, Sx.zerF, Bool.not_false, Bool.not_true, Bool.and_true, Bool.and_false, Bool.true_and, Bool.false_and, Bool.false_or] at q5); have q6 := h82; (try simp only [Sx.emp_iff] at q6); (try simp only [Bool.and_eq_true, Bool.or_eq_true, Bool.not_eq_true', Bool.and_eq_false_iff, Bool.or_eq_false_iff, Bool.not_eq_false', decide_eq_true_eq, decide_eq_false_iff_not, beq_iff_eq, beq_eq_false_iff_ne, ne_eq, Sx.idF, Sx.idT, Sx.inI, List.any_cons, List.any_nil, Bool.or_false, Sx.zerT, Sx.zerF, Bool.not_false, Bool.not_true, Bool.and_true, Bool.and_false, Bool.true_and, Bool.false_and, Bool.false_or] at q6); (try rw [List.take_of_length_le (by omega)]); (try change Sx.colE (Sx.srt s.sl) 1 = _); unfold Sx.stpE; rw [if_neg hu]; (try simp only [Sx.idF, e_il, e_sl]); (repeat (first | rw [if_pos (by omega)] | rw [if_neg (by omega)])); (try rfl); done)
              ·
                have p82 := (eq_f h82)
                refine WC.skip ?_
                refine WK.in_normal ?_
                refine WK.then_normal (k13 _ _ ?_)
                refine WC.sub [(1, _)] ⟨rfl, trivial⟩ ?_
                refine WC.seq (fun K86 k86 => ?_)
                refine WC.seq (fun K87 k87 => ?_)
                refine WC.region rfl ?_
                refine WL.yld rfl (blt rfl) rfl (Y.fieldAddr rfl Try.underlying41 rfl ti9 (by decide) rfl) ?_
                refine WL.yld rfl (blt rfl) rfl (Y.load1 rfl Try.underlying9 rfl rfl (Blk.at_eq m6 rfl)) ?_
                refine WL.call rfl (blt rfl) rfl rfl rfl has40 rfl (ident_any _ _ ) ?_
                rintro _ w88 ⟨rfl, x89⟩
                refine ⟨_, rfl, ?_⟩
                have m6 := m6.ext x89
                have xW := Ext.trans xW x89
                refine WL.yld rfl (blt rfl) rfl (Y.not rfl rfl) ?_
                refine WL.nil ?_
                refine WK.then_normal (k87 _ _ ?_)
                refine WC.sub [(1, _), (69, _)] ⟨rfl, rfl, trivial⟩ ?_
                refine WC.cond rfl (fun h90 => ?_) (fun h90 => ?_)
                ·
                  refine WC.seq (fun K91 k91 => ?_)
                  refine WC.region rfl ?_
                  refine WL.yld rfl (blt rfl) rfl (Y.assign rfl rfl) ?_
                  refine WL.nil ?_
                  refine WK.then_normal (k91 _ _ ?_)
                  refine WC.sub [(2, _)] ⟨rfl, trivial⟩ ?_
                  refine WC.ret ?_
                  refine WK.then_ret ?_
                  clear k1 k7 k8 k13 k14 k15 k20 k32 k37 k74 k81 k86 k87 k91
                  refine WK.ret [_] rfl ⟨rfl, trivial⟩ ?_
                  refine ⟨ret1 (vi ?_), xW⟩
                  have hu : ¬ Sx.usB s = false := by have q := h11; simp at q; rw [q]; simp
                  first | (exfalso; revert h11; simp; done) | (exfalso; revert h16; simp; done) | (exfalso; revert h21; simp; done) | (exfalso; revert h33; simp; done) | (exfalso; revert h38; simp; done) | (exfalso; revert h75; simp; done) | (exfalso; revert h82; simp; done) | (exfalso; revert h90; simp; done) | (have q1 := h16; (try simp only [Sx.emp_iff] at q1); (try simp only [Bool.and_eq_true, Bool.or_eq_true, Bool.not_eq_true', Bool.and_eq_false_iff, Bool.or_eq_false_iff, Bool.not_eq_false', decide_eq_true_eq, decide_eq_false_iff_not, beq_iff_eq, beq_eq_false_iff_ne, ne_eq, Sx.idF, Sx.idT, Sx.inI, List.any_cons, List.any_nil, Bool.or_false, Sx.zerT, Sx.zerF, Bool.not_false, Bool.not_true, Bool.and_true, Bool.and_false, Bool.true_and, Bool.false_and, Bool.false_or] at q1); have q2 := h21; (try simp only [Sx.emp_iff] at q2); (try simp only [Bool.and_eq_true, Bool.or_eq_true, Bool.not_eq_true', Bool.and_eq_false_iff, Bool.or_eq_false_iff, Bool.not_eq_false', decide_eq_true_eq, decide_eq_false_iff_not, beq_iff_eq, beq_eq_false_iff_ne, ne_eq, Sx.idF, Sx.idT, Sx.inI, List.any_cons, List.any_nil, Bool.or_false, Sx.zerT, Sx.zerF, Bool.not_false, Bool.not_true, Bool.and_true, Bool.and_false, Bool.true_and, Bool.false_and, Bool.false_or] at q2); have q3 := h33; (try simp only [Sx.emp_iff] at q3); (try simp only [Bool.and_eq_true, Bool.or_eq_true, Bool.not_eq_true', Bool.and_eq_false_iff, Bool.or_eq_false_iff, Bool.not_eq_false', decide_eq_true_eq, decide_eq_false_iff_not, beq_iff_eq, beq_eq_false_iff_ne, ne_eq, Sx.idF, Sx.idT, Sx.inI, List.any_cons, List.any_nil, Bool.or_false, Sx.zerT, Sx.zerF, Bool.not_false, Bool.not_true, Bool.and_true, Bool.and_false, Bool.true_and, Bool.false_and, Bool.false_or] at q3); have q4 := h38; (try simp only [Sx.emp_iff] at q4); (try simp only [Bool.and_eq_true, Bool.or_eq_true, Bool.not_eq_true', Bool.and_eq_false_iff, Bool.or_eq_false_iff, Bool.not_eq_false', decide_eq_true_eq, decide_eq_false_iff_not, beq_iff_eq, beq_eq_false_iff_ne, ne_eq, Sx.idF, Sx.idT, Sx.inI, List.any_cons, List.any_nil, Bool.or_false, Sx.zerT, Sx.zerF, Bool.not_false, Bool.not_true, Bool.and_true, Bool.and_false, Bool.true_and, Bool.false_and, Bool.false_or] at q4); have q5 := h75; (try simp only [Sx.emp_iff] at q5); (try simp only [Bool.and_eq_true, Bool.or_eq_true, Bool.not_eq_true', Bool.and_eq_false_iff, Bool.or_eq_false_iff, Bool.not_eq_false', decide_eq_true_eq, decide_eq_false_iff_not, beq_iff_eq, beq_eq_false_iff_ne, ne_eq, Sx.idF, Sx.idT, Sx.inI, List.any_cons, List.any_nil, Bool.or_false, Sx.zerT, Sx.zerF, Bool.not_false, Bool.not_true, Bool.and_true, Bool.and_false, Bool.true_and, Bool.false_and, Bool.false_or] at q5); have q6 := h82; (try simp only [Sx.emp_iff] at q6); (try simp only [Bool.and_eq_true, Bool.or_eq_true, Bool.not_eq_true', Bool.and_eq_false_iff, Bool.or_eq_false_iff, Bool.not_eq_false', decide_eq_true_eq, decide_eq_false_iff_not, beq_iff_eq, beq_eq_false_iff_ne, ne_eq, Sx.idF, Sx.idT, Sx.inI, List.any_cons, List.any_nil, Bool.or_false, Sx.zerT, Sx.zerF, Bool.not_false, Bool.not_true, Bool.and_true, Bool.and_false, Bool.true_and, Bool.false_and, Bool.false_or] at q6); have q7 := h90; (try simp only [Sx.emp_iff] at q7); (try simp only [Bool.and_eq_true, Bool.or_eq_true, Bool.not_eq_true', Bool.and_eq_false_iff, Bool.or_eq_false_iff, Bool.not_eq_false', decide_eq_true_eq, decide_eq_false_iff_not, beq_iff_eq, beq_eq_false_iff_ne, ne_eq, Sx.idF, Sx.idT, Sx.inI, List.any_cons, List.any_nil, Bool.or_false, Sx.zerT, Sx.zerF, Bool.not_false, Bool.not_true, Bool.and_true, Bool.and_false, Bool.true_and, Bool.false_and, Bool.false_or] at q7); (try rw [List.take_of_length_le (by omega)]); (try change Sx.colE (Sx.srt s.sl) 1 = _); unfold Sx.stpE; rw [if_neg hu]; (try simp only [Sx.idF, e_il, e_sl]); (repeat (first | rw [if_pos (by omega)] | rw [if_neg (by omega)])); (try rfl); done)
                ·
                  refine WC.skip ?_
                  refine WK.then_normal (k86 _ _ ?_)
                  refine WC.sub [(1, _)] ⟨rfl, trivial⟩ ?_
                  refine WC.seq (fun K92 k92 => ?_)
                  refine WC.region rfl ?_
                  refine WL.yld rfl (blt rfl) rfl (Y.assign rfl rfl) ?_
                  refine WL.nil ?_
                  refine WK.then_normal (k92 _ _ ?_)
                  refine WC.seq (fun K93 k93 => ?_)
                  refine WC.seq (fun K94 k94 => ?_)
                  refine WC.region rfl ?_
                  refine WL.yld rfl (blt rfl) rfl (Y.fieldAddr rfl Try.underlying41 rfl ti36 (by decide) rfl) ?_
                  refine WL.yld rfl (blt rfl) rfl (Y.load1 rfl Try.underlying36 rfl rfl (Blk.at_eq m6 rfl)) ?_
                  refine WL.yld rfl (blt rfl) rfl (Y.eql rfl rfl rfl) ?_
                  refine WL.nil ?_
                  refine WK.then_normal (k94 _ _ ?_)
                  refine WC.sub [(1, _), (7, _), (72, _)] ⟨rfl, rfl, rfl, trivial⟩ ?_
                  refine WC.cond rfl (fun h95 => ?_) (fun h95 => ?_)
                  ·
                    have p95 := (eq_t h95)
                    refine WC.region rfl ?_
                    refine WL.yld rfl (blt rfl) rfl (Y.assign rfl rfl) ?_
                    refine WL.nil ?_
                    refine WK.then_normal (k93 _ _ ?_)
                    refine WC.sub [(1, _), (7, _)] ⟨rfl, rfl, trivial⟩ ?_
                    refine WC.seq (fun K96 k96 => ?_)
                    refine WC.region rfl ?_
                    refine WL.yld rfl (blt rfl) rfl (Y.fieldAddr rfl Try.underlying41 rfl ti34 (by decide) rfl) ?_
                    refine WL.yld rfl (blt rfl) rfl (Y.load1 rfl Try.underlying34 rfl rfl (Blk.at_eq m6 rfl)) ?_
                    refine WL.yld rfl (blt rfl) rfl (Y.move rfl rfl) ?_
                    refine WL.call rfl (blt rfl) rfl rfl rfl has39 rfl (columns_any _ _ _ _ _ _ (g_s.cl.ext xW)) ?_
                    rintro _ w97 ⟨rfl, x98⟩
                    refine ⟨_, rfl, ?_⟩
                    have m6 := m6.ext x98
                    have xW := Ext.trans xW x98
                    refine WL.yld rfl (blt rfl) rfl (Y.assign rfl rfl) ?_
                    refine WL.nil ?_
                    refine WK.then_normal (k96 _ _ ?_)
                    refine WC.sub [(2, _)] ⟨rfl, trivial⟩ ?_
                    refine WC.ret ?_
                    clear k1 k7 k8 k13 k14 k15 k20 k32 k37 k74 k81 k86 k87 k92 k93 k94 k96
                    refine WK.ret [_] rfl ⟨rfl, trivial⟩ ?_
                    refine ⟨ret1 (vi ?_), xW⟩
                    have hu : ¬ Sx.usB s = false := by have q := h11; simp at q; rw [q]; simp
                    first | (exfalso; revert h11; simp; done) | (exfalso; revert h16; simp; done) | (exfalso; revert h21; simp; done) | (exfalso; revert h33; simp; done) | (exfalso; revert h38; simp; done) | (exfalso; revert h75; simp; done) | (exfalso; revert h82; simp; done) | (exfalso; revert h90; simp; done) | (exfalso; revert h95; simp; done) | (have q1 := h16; (try simp only [Sx.emp_iff] at q1); (try simp only [Bool.and_eq_true, Bool.or_eq_true, Bool.not_eq_true', Bool.and_eq_false_iff, Bool.or_eq_false_iff, Bool.not_eq_false', decide_eq_true_eq, decide_eq_false_iff_not, beq_iff_eq, beq_eq_false_iff_ne, ne_eq, Sx.idF, Sx.idT, Sx.inI, List.any_cons, List.any_nil, Bool.or_false, Sx.zerT, Sx.zerF, Bool.not_false, Bool.not_true, Bool.and_true, Bool.and_false, Bool.true_and, Bool.false_and, Bool.false_or] at q1); have q2 := h21; (try simp only [Sx.emp_iff] at q2); (try simp only [Bool.and_eq_true, Bool.or_eq_true, Bool.not_eq_true', Bool.and_eq_false_iff, Bool.or_eq_false_iff, Bool.not_eq_false', decide_eq_true_eq, decide_eq_false_iff_not, beq_iff_eq, beq_eq_false_iff_ne, ne_eq, Sx.idF, Sx.idT, Sx.inI, List.any_cons, List.any_nil, Bool.or_false, Sx.zerT, Sx.zerF, Bool.not_false, Bool.not_true, Bool.and_true, Bool.and_false, Bool.true_and, Bool.false_and, Bool.false_or] at q2); have q3 := h33; (try simp only [Sx.emp_iff] at q3); (try simp only [Bool.and_eq_true, Bool.or_eq_true, Bool.not_eq_true', Bool.and_eq_false_iff, Bool.or_eq_false_iff, Bool.not_eq_false', decide_eq_true_eq, decide_eq_false_iff_not, beq_iff_eq, beq_eq_false_iff_ne, ne_eq, Sx.idF, Sx.idT, Sx.inI, List.any_cons, List.any_nil, Bool.or_false, Sx.zerT, Sx.zerF, Bool.not_false, Bool.not_true, Bool.and_true, Bool.and_false, Bool.true_and, Bool.false_and, Bool.false_or] at q3); have q4 := h38; (try simp only [Sx.emp_iff] at q4); (try simp only [Bool.and_eq_true, Bool.or_eq_true, Bool.not_eq_true', Bool.and_eq_false_iff, Bool.or_eq_false_iff, Bool.not_eq_false', decide_eq_true_eq, decide_eq_false_iff_not, beq_iff_eq, beq_eq_false_iff_ne, ne_eq, Sx.idF, Sx.idT, Sx.inI, List.any_cons, List.any_nil, Bool.or_false, Sx.zerT, Sx.zerF, Bool.not_false, Bool.not_true, Bool.and_true, Bool.and_false, Bool.true_and, Bool.false_and, Bool.false_or] at q4); have q5 := h75; (try simp only [Sx.emp_iff] at q5); (try simp only [Bool.and_eq_true, Bool.or_eq_true, Bool.not_eq_true', Bool.and_eq_false_iff, Bool.or_eq_false_iff, Bool.not_eq_false', decide_eq_true_eq, decide_eq_false_iff_not, beq_iff_eq, beq_eq_false_iff_ne, ne_eq, Sx.idF, Sx.idT, Sx.inI, List.any_cons, List.any_nil, Bool.or_false, Sx.zerT, Sx.zerF, Bool.not_false, Bool.not_true, Bool.and_true, Bool.and_false, Bool.true_and, Bool.false_and, Bool.false_or] at q5); have q6 := h82; (try simp only [Sx.emp_iff] at q6); (try simp only [Bool.and_eq_true, Bool.or_eq_true, Bool.not_eq_true', Bool.and_eq_false_iff, Bool.or_eq_false_iff, Bool.not_eq_false', decide_eq_true_eq, decide_eq_false_iff_not, beq_iff_eq, beq_eq_false_iff_ne, ne_eq, Sx.idF, Sx.idT, Sx.inI, List.any_cons, List.any_nil, Bool.or_false, Sx.zerT, Sx.zerF, Bool.not_false, Bool.not_true, Bool.and_true, Bool.and_false, Bool.true_and, Bool.false_and, Bool.false_or] at q6); have q7 := h90; (try simp only [Sx.emp_iff] at q7); (try simp only [Bool.and_eq_true, Bool.or_eq_true, Bool.not_eq_true', Bool.and_eq_false_iff, Bool.or_eq_false_iff, Bool.not_eq_false', decide_eq_true_eq, decide_eq_false_iff_not, beq_iff_eq, beq_eq_false_iff_ne, ne_eq, Sx.idF, Sx.idT, Sx.inI, List.any_cons, List.any_nil, Bool.or_false, Sx.zerT, Sx.zerF, Bool.not_false, Bool.not_true, Bool.and_true, Bool.and_false, Bool.true_and, Bool.false_and, Bool.false_or] at q7); have q8 := h95; (try simp only [Sx.emp_iff] at q8); (try simp only [Bool.and_eq_true, Bool.or_eq_true, Bool.not_eq_true', Bool.and_eq_false_iff, Bool.or_eq_false_iff, Bool.not_eq_false', decide_eq_true_eq, decide_eq_false_iff_not, beq_iff_eq, beq_eq_false_iff_ne, ne_eq, Sx.idF, Sx.idT, Sx.inI, List.any_cons, List.any_nil, Bool.or_false, Sx.zerT, Sx.zerF, Bool.not_false, Bool.not_true, Bool.and_true, Bool.and_false, Bool.true_and, Bool.false_and, Bool.false_or] at q8); (try rw [List.take_of_length_le (by omega)]); (try change Sx.colE (Sx.srt s.sl) 1 = _); unfold Sx.stpE; rw [if_neg hu]; (try simp only [Sx.idF, e_il, e_sl]); (repeat (first | rw [if_pos (by omega)] | rw [if_neg (by omega)])); (try rfl); done)
                  ·
                    have p95 := (eq_f h95)
                    refine WC.skip ?_
                    refine WK.then_normal (k93 _ _ ?_)
                    refine WC.sub [(1, _), (7, _)] ⟨rfl, rfl, trivial⟩ ?_
                    refine WC.seq (fun K99 k99 => ?_)
                    refine WC.region rfl ?_
                    refine WL.yld rfl (blt rfl) rfl (Y.fieldAddr rfl Try.underlying41 rfl ti34 (by decide) rfl) ?_
                    refine WL.yld rfl (blt rfl) rfl (Y.load1 rfl Try.underlying34 rfl rfl (Blk.at_eq m6 rfl)) ?_
                    refine WL.yld rfl (blt rfl) rfl (Y.move rfl rfl) ?_
                    refine WL.call rfl (blt rfl) rfl rfl rfl has39 rfl (columns_any _ _ _ _ _ _ (g_s.cl.ext xW)) ?_
                    rintro _ w100 ⟨rfl, x101⟩
                    refine ⟨_, rfl, ?_⟩
                    have m6 := m6.ext x101
                    have xW := Ext.trans xW x101
                    refine WL.yld rfl (blt rfl) rfl (Y.assign rfl rfl) ?_
                    refine WL.nil ?_
                    refine WK.then_normal (k99 _ _ ?_)
                    refine WC.sub [(2, _)] ⟨rfl, trivial⟩ ?_
                    refine WC.ret ?_
                    clear k1 k7 k8 k13 k14 k15 k20 k32 k37 k74 k81 k86 k87 k92 k93 k94 k99
                    refine WK.ret [_] rfl ⟨rfl, trivial⟩ ?_
                    refine ⟨ret1 (vi ?_), xW⟩
                    have hu : ¬ Sx.usB s = false := by have q := h11; simp at q; rw [q]; simp
                    first | (exfalso; revert h11; simp; done) | (exfalso; revert h16; simp; done) | (exfalso; revert h21; simp; done) | (exfalso; revert h33; simp; done) | (exfalso; revert h38; simp; done) | (exfalso; revert h75; simp; done) | (exfalso; revert h82; simp; done) | (exfalso; revert h90; simp; done) | (exfalso; revert h95; simp; done) | (have q1 := h16; (try simp only [Sx.emp_iff] at q1); (try simp only [Bool.and_eq_true, Bool.or_eq_true, Bool.not_eq_true', Bool.and_eq_false_iff, Bool.or_eq_false_iff, Bool.not_eq_false', decide_eq_true_eq, decide_eq_false_iff_not, beq_iff_eq, beq_eq_false_iff_ne, ne_eq, Sx.idF, Sx.idT, Sx.inI, List.any_cons, List.any_nil, Bool.or_false, Sx.zerT, Sx.zerF, Bool.not_false, Bool.not_true, Bool.and_true, Bool.and_false, Bool.true_and, Bool.false_and, Bool.false_or] at q1); have q2 := h21; (try simp only [Sx.emp_iff] at q2); (try simp only [Bool.and_eq_true, Bool.or_eq_true, Bool.not_eq_true', Bool.and_eq_false_iff, Bool.or_eq_false_iff, Bool.not_eq_false', decide_eq_true_eq, decide_eq_false_iff_not, beq_iff_eq, beq_eq_false_iff_ne, ne_eq, Sx.idF, Sx.idT, Sx.inI, List.any_cons, List.any_nil, Bool.or_false, Sx.zerT, Sx.zerF, Bool.not_false, Bool.not_true, Bool.and_true, Bool.and_false, Bool.true_and, Bool.false_and, Bool.false_or] at q2); have q3 := h33; (try simp only [Sx.emp_iff] at q3); (try simp only [Bool.and_eq_true, Bool.or_eq_true, Bool.not_eq_true', Bool.and_eq_false_iff, Bool.or_eq_false_iff, Bool.not_eq_false', decide_eq_true_eq, decide_eq_false_iff_not, beq_iff_eq, beq_eq_false_iff_ne, ne_eq, Sx.idF, Sx.idT, Sx.inI, List.any_cons, List.any_nil, Bool.or_false, Sx.zerT, Sx.zerF, Bool.not_false, Bool.not_true, Bool.and_true, Bool.and_false, Bool.true_and, Bool.false_and, Bool.false_or] at q3); have q4 := h38; (try simp only [Sx.emp_iff] at q4); (try simp only [Bool.and_eq_true, Bool.or_eq_true, Bool.not_eq_true', Bool.and_eq_false_iff, Bool.or_eq_false_iff, Bool.not_eq_false', decide_eq_true_eq, decide_eq_false_iff_not, beq_iff_eq, beq_eq_false_iff_ne, ne_eq, Sx.idF, Sx.idT, Sx.inI, List.any_cons, List.any_nil, Bool.or_false, Sx.zerT, Sx.zerF, Bool.not_false, Bool.not_true, Bool.and_true, Bool.and_false, Bool.true_and, Bool.false_and, Bool.false_or] at q4); have q5 := h75; (try simp only [Sx.emp_iff] at q5); (try simp only [Bool.and_eq_true, Bool.or_eq_true, Bool.not_eq_true', Bool.and_eq_false_iff, Bool.or_eq_false_iff, Bool.not_eq_false', decide_eq_true_eq, decide_eq_false_iff_not, beq_iff_eq, beq_eq_false_iff_ne, ne_eq, Sx.idF, Sx.idT, Sx.inI, List.any_cons, List.any_nil, Bool.or_false, Sx.zerT, Sx.zerF, Bool.not_false, Bool.not_true, Bool.and_true, Bool.and_false, Bool.true_and, Bool.false_and, Bool.false_or] at q5); have q6 := h82; (try simp only [Sx.emp_iff] at q6); (try simp only [Bool.and_eq_true, Bool.or_eq_true, Bool.not_eq_true', Bool.and_eq_false_iff, Bool.or_eq_false_iff, Bool.not_eq_false', decide_eq_true_eq, decide_eq_false_iff_not, beq_iff_eq, beq_eq_false_iff_ne, ne_eq, Sx.idF, Sx.idT, Sx.inI, List.any_cons, List.any_nil, Bool.or_false, Sx.zerT, Sx.zerF, Bool.not_false, Bool.not_true, Bool.and_true, Bool.and_false, Bool.true_and, Bool.false_and, Bool.false_or] at q6); have q7 := h90; (try simp only [Sx.emp_iff] at q7); (try simp only [Bool.and_eq_true, Bool.or_eq_true, Bool.not_eq_true', Bool.and_eq_false_iff, Bool.or_eq_false_iff, Bool.not_eq_false', decide_eq_true_eq, decide_eq_false_iff_not, beq_iff_eq, beq_eq_false_iff_ne, ne_eq, Sx.idF, Sx.idT, Sx.inI, List.any_cons, List.any_nil, Bool.or_false, Sx.zerT, Sx.zerF, Bool.not_false, Bool.not_true, Bool.and_true, Bool.and_false, Bool.true_and, Bool.false_and, Bool.false_or] at q7); have q8 := h95; (try simp only [Sx.emp_iff] at q8); (try simp only [Bool.and_eq_true, Bool.or_eq_true, Bool.not_eq_true', Bool.and_eq_false_iff, Bool.or_eq_false_iff, Bool.not_eq_false', decide_eq_true_eq, decide_eq_false_iff_not, beq_iff_eq, beq_eq_false_iff_ne, ne_eq, Sx.idF, Sx.idT, Sx.inI, List.any_cons, List.any_nil, Bool.or_false, Sx.zerT, Sx.zerF, Bool.not_false, Bool.not_true, Bool.and_true, Bool.and_false, Bool.true_and, Bool.false_and, Bool.false_or] at q8); (try rw [List.take_of_length_le (by omega)]); (try change Sx.colE (Sx.srt s.sl) 1 = _); unfold Sx.stpE; rw [if_neg hu]; (try simp only [Sx.idF, e_il, e_sl]); (repeat (first | rw [if_pos (by omega)] | rw [if_neg (by omega)])); (try rfl); done)
end S
end SxW

end Go.Proofs.Ytklccakoblibmaa
