/- Contracts: parts of steps. Conditions: what each theorem states. -/
import Derived.Test.YtklccakoblibmaaSxName
import Derived.Test.YtklccakoblibmaaSxStep
namespace Go.Proofs.Ytklccakoblibmaa
open Go Go.Eng Go.RowKit
set_option linter.unusedVariables false
set_option linter.unusedSimpArgs false
namespace SxW
open B C D
namespace E
theorem ti9 : TI Try.prog 9 (.string ⟨#[]⟩) 1 16 := TI.mk (by kernel_rfl)
theorem ti28 : TI Try.prog 28 (.agg #[.int .i64 0, .string ⟨#[]⟩, .int .i64 0, .int .i64 0, .string ⟨#[]⟩, .slice none 0 0]) 6 80 := TI.mk (by kernel_rfl)
theorem ti34 : TI Try.prog 34 (.slice none 0 0) 1 24 := TI.mk (by kernel_rfl)
theorem ti38 : TI Try.prog 38 (.slice none 0 0) 1 24 := TI.mk (by kernel_rfl)
theorem ti55 : TI Try.prog 55 (.agg #[.string ⟨#[]⟩, .string ⟨#[]⟩, .string ⟨#[]⟩]) 3 48 := TI.mk (by kernel_rfl)
theorem ti65 : TI Try.prog 65 (.agg #[.int .i64 0, .string ⟨#[]⟩, .int .i64 0, .int .i64 0, .string ⟨#[]⟩, .slice none 0 0, .string ⟨#[]⟩]) 7 96 := TI.mk (by kernel_rfl)
theorem ti84 : TI Try.prog 84 (.agg #[.slice none 0 0]) 1 24 := TI.mk (by kernel_rfl)
theorem has11 : Has Try.prog 11 := ⟨_, Try.func11, rfl, by kernel_rfl⟩
theorem has36 : Has Try.prog 36 := ⟨_, Try.func36, rfl, by kernel_rfl⟩
theorem has40 : Has Try.prog 40 := ⟨_, Try.func40, rfl, by kernel_rfl⟩
theorem has59 : Has Try.prog 59 := ⟨_, Try.func59, rfl, by kernel_rfl⟩
theorem has60 : Has Try.prog 60 := ⟨_, Try.func60, rfl, by kernel_rfl⟩
theorem has61 : Has Try.prog 61 := ⟨_, Try.func61, rfl, by kernel_rfl⟩
theorem items_any (A_l : Option Addr) (n_l c_l : Nat) (l : List Sx.It) (d_l : Nat) (w : World) (h_l : Ls w A_l n_l c_l Sx.It.v 7 l) (gi_l : ∀ x ∈ l, Sx.Good d_l w x.e) (fi_l : ∀ x ∈ l, Sx.short x.e = true ∧ Sx.cnt x.e ≤ 300 ∧ x.as_.size ≤ 300) (hl : n_l ≤ 30) :
    Calls Try.prog 37 #[.slice A_l n_l c_l] w fun e w' => e = .returned (.int .i64 (Sx.itmE l)) ∧ Ext w w' := by
  have xW := Ext.refl w
  have e_l := h_l.len
  have z_l := h_l.nle
  refine calls_of_WC (args := [.slice A_l n_l c_l]) Try.func37 rfl rfl (ble rfl) ?_
  refine WC.seq (fun K1 k1 => ?_)
  refine WC.region rfl ?_
  refine WL.yld rfl (blt rfl) rfl (Y.assign rfl rfl) ?_
  refine WL.nil ?_
  refine WK.then_normal (k1 _ _ ?_)
  refine WC.sub [(0, _)] ⟨rfl, trivial⟩ ?_
  refine WC.seq (fun K2 k2 => ?_)
  refine WC.region rfl ?_
  refine WL.alloc rfl (blt rfl) rfl rfl ti84 rfl ?_
  intro g3 w4 e5 x6 m7
  have o_g3 := own_new xW e5
  have xW := Ext.trans xW x6
  refine WL.nil ?_
  refine WK.then_normal (k2 _ _ ?_)
  refine WC.seq (fun K8 k8 => ?_)
  refine WC.seq (fun K9 k9 => ?_)
  refine WC.region rfl ?_
  refine WL.yld rfl (blt rfl) rfl (Y.move rfl rfl) ?_
  refine WL.yld rfl (blt rfl) rfl (Y.lenSl rfl rfl rfl Try.underlying37 rfl) ?_
  refine WL.yld rfl (blt rfl) rfl (Y.move rfl rfl) ?_
  refine WL.nil ?_
  refine WK.then_normal (k9 _ _ ?_)
  refine WC.sub [(3, _), (8, _), (9, _), (10, _)] ⟨rfl, rfl, rfl, rfl, trivial⟩ ?_
  refine WC.block ?_
  refine WC.sub [(10, _), (3, _), (8, _), (9, _)] ⟨rfl, rfl, rfl, rfl, trivial⟩ ?_
  refine WC.loopS 1 (fun mz Ed W' => ∃ i : Nat, ∃ v1 : Value, mz = n_l - i ∧ Ed = [(10, .int .i64 ((i : Nat) : Int))] ∧ Ext w W' ∧ Blk W' g3 84 [v1] ∧ OwnL W' w.heap.size 9 Sx.sc 1 v1 ((l.take i).map Sx.It.as_) ∧ v1.ownBlock ≠ some g3 ∧ (i ≤ n_l) ∧ (∀ j, j < i → Sx.itm1 l j = 0)) _ ⟨0, (.slice none 0 0), rfl, rfl, xW, m7, OwnL.nil_, ne_nil, (Nat.zero_le _), (fun j hj => absurd hj (Nat.not_lt_zero j))⟩ ?_
  rintro _ _ w10 ⟨i, v1, rfl, rfl, xW, m7, ow_v1, r_v1_g3, le_i, inv_i⟩
  refine WC.sub [(10, _), (3, _), (8, _), (9, _)] ⟨rfl, rfl, rfl, rfl, trivial⟩ ?_
  have tk := Sx.map_len (f := Sx.It.as_) (l := l) (i := i) (by omega)
  refine WC.seq (fun K11 k11 => ?_)
  refine WC.region rfl ?_
  refine WL.yld rfl (blt rfl) rfl (Y.lss rfl rfl rfl) ?_
  refine WL.nil ?_
  refine WK.then_normal (k11 _ _ ?_)
  refine WC.seq (fun K12 k12 => ?_)
  refine WC.cond rfl (fun h13 => ?_) (fun h13 => ?_)
  ·
    have p13 := (dec_t h13)
    refine WC.skip ?_
    refine WK.then_normal (k12 _ _ ?_)
    refine WC.sub [(3, _), (8, _), (9, _), (10, _)] ⟨rfl, rfl, rfl, rfl, trivial⟩ ?_
    refine WC.seq (fun K14 k14 => ?_)
    refine WC.block ?_
    refine WC.seq (fun K15 k15 => ?_)
    refine WC.region rfl ?_
    have b16 : i < n_l := by omega
    refine WL.yld rfl (blt rfl) rfl (Y.indexLs i (h_l.ext xW) rfl Try.underlying37 ti65 rfl rfl rfl b16) ?_
    refine WL.yld rfl (blt rfl) rfl (Y.loadS (cs := [_, _, _, _, _, _, _]) rfl Try.underlying65 rfl ti65 rfl (Ls.part_eq (h_l.ext xW) b16 rfl)) ?_
    refine WL.alloc rfl (blt rfl) rfl rfl ti65 rfl ?_
    intro g17 w18 e19 x20 m21
    have n_g3_g17 := ne_new m7 e19
    have r_v1_g17 := ne_newO ow_v1 e19
    have o_g17 := own_new xW e19
    have m7 := m7.ext x20
    have ow_v1 := ow_v1.ext x20
    have xW := Ext.trans xW x20
    refine WL.store (cs' := [_, _, _, _, _, _, _]) rfl rfl rfl rfl rfl rfl ti65 m21 (ble rfl) rfl rfl (fun w22 on23 m24 => ?_)
    have m7 := m7.only n_g3_g17 on23
    have ow_v1 := ow_v1.only r_v1_g17 on23
    have xW := Ext.only xW on23 o_g17
    refine WL.nil ?_
    refine WK.then_normal (k15 _ _ ?_)
    refine WC.sub [(3, _), (5, _), (8, _), (9, _), (10, _)] ⟨rfl, rfl, rfl, rfl, rfl, trivial⟩ ?_
    refine WC.seq (fun K25 k25 => ?_)
    refine WC.seq (fun K26 k26 => ?_)
    refine WC.region rfl ?_
    refine WL.yld rfl (blt rfl) rfl (Y.fieldAddr rfl Try.underlying65 rfl ti28 (by decide) rfl) ?_
    refine WL.yld rfl (blt rfl) rfl (Y.loadS (cs := [_, _, _, _, _, _]) rfl Try.underlying28 rfl ti28 rfl (Blk.part_eq m24 rfl)) ?_
    refine WL.call rfl (blt rfl) rfl rfl rfl has11 rfl (expr_any _ _ _ ((gi_l _ (bang_mem (show i < l.length from by omega))).ext xW) (fi_l _ (bang_mem (show i < l.length from by omega))).1 (fi_l _ (bang_mem (show i < l.length from by omega))).2.1) ?_
    rintro _ w27 ⟨rfl, x28⟩
    refine ⟨_, rfl, ?_⟩
    have m7 := m7.ext x28
    have ow_v1 := ow_v1.ext x28
    have m24 := m24.ext x28
    have xW := Ext.trans xW x28
    refine WL.yld rfl (blt rfl) rfl (Y.assign rfl rfl) ?_
    refine WL.nil ?_
    refine WK.then_normal (k26 _ _ ?_)
    refine WC.sub [(3, _), (5, _), (6, _), (8, _), (9, _), (10, _)] ⟨rfl, rfl, rfl, rfl, rfl, rfl, trivial⟩ ?_
    refine WC.seq (fun K29 k29 => ?_)
    refine WC.region rfl ?_
    refine WL.yld rfl (blt rfl) rfl (Y.move rfl rfl) ?_
    refine WL.yld rfl (blt rfl) rfl (Y.neq rfl rfl rfl) ?_
    refine WL.nil ?_
    refine WK.then_normal (k29 _ _ ?_)
    refine WC.sub [(3, _), (5, _), (6, _), (8, _), (9, _), (10, _), (18, _)] ⟨rfl, rfl, rfl, rfl, rfl, rfl, rfl, trivial⟩ ?_
    refine WC.cond rfl (fun h30 => ?_) (fun h30 => ?_)
    ·
      have p30 := (eq_f (not_t h30))
      refine WC.seq (fun K31 k31 => ?_)
      refine WC.region rfl ?_
      refine WL.yld rfl (blt rfl) rfl (Y.move rfl rfl) ?_
      refine WL.yld rfl (blt rfl) rfl (Y.assign rfl rfl) ?_
      refine WL.nil ?_
      refine WK.then_normal (k31 _ _ ?_)
      refine WC.sub [(2, _)] ⟨rfl, trivial⟩ ?_
      refine WC.ret ?_
      refine WK.then_ret ?_
      refine WK.in_ret ?_
      refine WK.then_ret ?_
      refine WK.then_ret ?_
      refine WK.in_ret ?_
      refine WK.then_ret ?_
      clear k1 k2 k8 k9 k11 k12 k14 k15 k25 k26 k29 k31
      refine WK.ret [_] rfl ⟨rfl, trivial⟩ ?_
      have ne : ¬ Sx.exE l[i]!.e = 0 := (by have q := h30; simp only [Bool.and_eq_true, Bool.or_eq_true, Bool.not_eq_true', Bool.and_eq_false_iff, Bool.or_eq_false_iff, Bool.not_eq_false', decide_eq_true_eq, decide_eq_false_iff_not, beq_iff_eq, beq_eq_false_iff_ne, ne_eq] at q; exact q)
      exact ⟨ret1 (vi (Sx.itm_hit (show i < l.length from by omega) inv_i (Sx.itm_ex ne) ne).symm), xW⟩
    ·
      have p30 := (eq_t (not_f h30))
      have ze : Sx.exE l[i]!.e = 0 := (by have q := h30; simp only [Bool.and_eq_true, Bool.or_eq_true, Bool.not_eq_true', Bool.and_eq_false_iff, Bool.or_eq_false_iff, Bool.not_eq_false', decide_eq_true_eq, decide_eq_false_iff_not, beq_iff_eq, beq_eq_false_iff_ne, ne_eq] at q; exact q)
      refine WC.skip ?_
      refine WK.then_normal (k25 _ _ ?_)
      refine WC.sub [(3, _), (5, _), (8, _), (9, _), (10, _)] ⟨rfl, rfl, rfl, rfl, rfl, trivial⟩ ?_
      refine WC.seq (fun K32 k32 => ?_)
      refine WC.region rfl ?_
      refine WL.yld rfl (blt rfl) rfl (Y.fieldAddr rfl Try.underlying65 rfl ti9 (by decide) rfl) ?_
      refine WL.yld rfl (blt rfl) rfl (Y.load1 rfl Try.underlying9 rfl rfl (Blk.at_eq m24 rfl)) ?_
      refine WL.call rfl (blt rfl) rfl rfl rfl has59 rfl (add_any w g3 o_g3 _ _ _ _ xW m7 ow_v1 r_v1_g3 (by rw [tk]; omega)) ?_
      rintro _ w33 ⟨v35, rfl, m36, ow37, r_v35_g3, x34⟩
      refine ⟨_, rfl, ?_⟩
      have xW := x34
      refine WL.yld rfl (blt rfl) rfl (Y.assign rfl rfl) ?_
      refine WL.nil ?_
      refine WK.then_normal (k32 _ _ ?_)
      refine WC.sub [(3, _), (7, _), (8, _), (9, _), (10, _)] ⟨rfl, rfl, rfl, rfl, rfl, trivial⟩ ?_
      refine WC.seq (fun K38 k38 => ?_)
      refine WC.region rfl ?_
      refine WL.yld rfl (blt rfl) rfl (Y.move rfl rfl) ?_
      refine WL.yld rfl (blt rfl) rfl (Y.neq rfl rfl rfl) ?_
      refine WL.nil ?_
      refine WK.then_normal (k38 _ _ ?_)
      refine WC.sub [(3, _), (7, _), (8, _), (9, _), (10, _), (24, _)] ⟨rfl, rfl, rfl, rfl, rfl, rfl, trivial⟩ ?_
      refine WC.cond rfl (fun h39 => ?_) (fun h39 => ?_)
      ·
        have p39 := (eq_f (not_t h39))
        refine WC.seq (fun K40 k40 => ?_)
        refine WC.region rfl ?_
        refine WL.yld rfl (blt rfl) rfl (Y.move rfl rfl) ?_
        refine WL.yld rfl (blt rfl) rfl (Y.assign rfl rfl) ?_
        refine WL.nil ?_
        refine WK.then_normal (k40 _ _ ?_)
        refine WC.sub [(2, _)] ⟨rfl, trivial⟩ ?_
        refine WC.ret ?_
        refine WK.in_ret ?_
        refine WK.then_ret ?_
        refine WK.then_ret ?_
        refine WK.in_ret ?_
        refine WK.then_ret ?_
        clear k1 k2 k8 k9 k11 k12 k14 k15 k25 k26 k29 k32 k38 k40
        refine WK.ret [_] rfl ⟨rfl, trivial⟩ ?_
        have ne : ¬ Sx.addE ((l.take i).map Sx.It.as_) l[i]!.as_ = 0 := (by have q := h39; simp only [Bool.and_eq_true, Bool.or_eq_true, Bool.not_eq_true', Bool.and_eq_false_iff, Bool.or_eq_false_iff, Bool.not_eq_false', decide_eq_true_eq, decide_eq_false_iff_not, beq_iff_eq, beq_eq_false_iff_ne, ne_eq] at q; exact q)
        exact ⟨ret1 (vi (Sx.itm_hit (show i < l.length from by omega) inv_i (Sx.itm_add ze) ne).symm), xW⟩
      ·
        have p39 := (eq_t (not_f h39))
        have z0 : Sx.addE ((l.take i).map Sx.It.as_) l[i]!.as_ = 0 := (by have q := h39; simp only [Bool.and_eq_true, Bool.or_eq_true, Bool.not_eq_true', Bool.and_eq_false_iff, Bool.or_eq_false_iff, Bool.not_eq_false', decide_eq_true_eq, decide_eq_false_iff_not, beq_iff_eq, beq_eq_false_iff_ne, ne_eq] at q; exact q)
        refine WC.skip ?_
        refine WK.in_normal ?_
        refine WK.then_normal (k14 _ _ ?_)
        refine WC.sub [(3, _), (8, _), (9, _), (10, _)] ⟨rfl, rfl, rfl, rfl, trivial⟩ ?_
        refine WC.region rfl ?_
        refine WL.yld rfl (blt rfl) rfl (Y.add rfl rfl rfl (wrap_i64 (by first | omega | (dsimp only; omega)))) ?_
        refine WL.yld rfl (blt rfl) rfl (Y.move rfl rfl) ?_
        refine WL.nil ?_
        refine WK.roundS _ [(10, .int .i64 (((i + 1) : Nat) : Int))] ⟨rfl, rfl, rfl, rfl, trivial⟩ ?_ ⟨(i + 1), v35, rfl, rfl, xW, m36, (by have q := ow37; rw [if_pos z0] at q; rw [Sx.map_next (show i < l.length from by omega)]; exact q), r_v35_g3, (by omega), (fun j hj => by rcases Nat.lt_succ_iff_lt_or_eq.1 hj with h | h; exact inv_i j h; rw [h]; exact ((Sx.itm_add ze).trans z0))⟩
        show _ - (i + 1) < _ - i; omega
  ·
    have p13 := (dec_f h13)
    refine WC.exit ?_
    refine WK.then_exit ?_
    refine WK.then_exit ?_
    refine WK.in_exit ?_
    refine WK.then_normal (k8 _ _ ?_)
    refine WC.sub [] trivial ?_
    refine WC.seq (fun K41 k41 => ?_)
    refine WC.region rfl ?_
    refine WL.yld rfl (blt rfl) rfl (Y.assign rfl rfl) ?_
    refine WL.nil ?_
    refine WK.then_normal (k41 _ _ ?_)
    refine WC.ret ?_
    clear k1 k2 k8 k9 k11 k12 k41
    refine WK.ret [_] rfl ⟨rfl, trivial⟩ ?_
    exact ⟨ret1 (vi (Sx.itm_ok fun j hj => inv_i j (by omega)).symm), xW⟩
theorem columns_any (A_t : Option Addr) (n_t c_t : Nat) (t : List ByteArray) (k : Int) (w : World) (h_t : Ls w A_t n_t c_t Sx.sc 1 t) :
    Calls Try.prog 39 #[.slice A_t n_t c_t, .int .i64 k] w fun e w' => e = .returned (.int .i64 (Sx.colE t k)) ∧ Ext w w' := by
  have xW := Ext.refl w
  have e_t := h_t.len
  have z_t := h_t.nle
  refine calls_of_WC (args := [.slice A_t n_t c_t, .int .i64 k]) Try.func39 rfl rfl (ble rfl) ?_
  refine WC.seq (fun K1 k1 => ?_)
  refine WC.region rfl ?_
  refine WL.yld rfl (blt rfl) rfl (Y.assign rfl rfl) ?_
  refine WL.nil ?_
  refine WK.then_normal (k1 _ _ ?_)
  refine WC.sub [(0, _), (1, _)] ⟨rfl, rfl, trivial⟩ ?_
  refine WC.seq (fun K2 k2 => ?_)
  refine WC.seq (fun K3 k3 => ?_)
  refine WC.region rfl ?_
  refine WL.yld rfl (blt rfl) rfl (Y.move rfl rfl) ?_
  refine WL.yld rfl (blt rfl) rfl (Y.lenSl rfl rfl rfl Try.underlying34 rfl) ?_
  refine WL.yld rfl (blt rfl) rfl (Y.move rfl rfl) ?_
  refine WL.call rfl (blt rfl) rfl rfl rfl has36 rfl (size_any _ _ _ ) ?_
  rintro _ w4 ⟨rfl, x5⟩
  refine ⟨_, rfl, ?_⟩
  have xW := Ext.trans xW x5
  refine WL.yld rfl (blt rfl) rfl (Y.assign rfl rfl) ?_
  refine WL.nil ?_
  refine WK.then_normal (k3 _ _ ?_)
  refine WC.sub [(0, _), (5, _)] ⟨rfl, rfl, trivial⟩ ?_
  refine WC.seq (fun K6 k6 => ?_)
  refine WC.region rfl ?_
  refine WL.yld rfl (blt rfl) rfl (Y.move rfl rfl) ?_
  refine WL.yld rfl (blt rfl) rfl (Y.neq rfl rfl rfl) ?_
  refine WL.nil ?_
  refine WK.then_normal (k6 _ _ ?_)
  refine WC.sub [(0, _), (5, _), (12, _)] ⟨rfl, rfl, rfl, trivial⟩ ?_
  refine WC.cond rfl (fun h7 => ?_) (fun h7 => ?_)
  ·
    have p7 := (eq_f (not_t h7))
    refine WC.seq (fun K8 k8 => ?_)
    refine WC.region rfl ?_
    refine WL.yld rfl (blt rfl) rfl (Y.move rfl rfl) ?_
    refine WL.yld rfl (blt rfl) rfl (Y.assign rfl rfl) ?_
    refine WL.nil ?_
    refine WK.then_normal (k8 _ _ ?_)
    refine WC.sub [(4, _)] ⟨rfl, trivial⟩ ?_
    refine WC.ret ?_
    refine WK.then_ret ?_
    clear k1 k2 k3 k6 k8
    refine WK.ret [_] rfl ⟨rfl, trivial⟩ ?_
    refine ⟨ret1 (vi ?_), xW⟩
    rw [Sx.col_siz (by rw [e_t]; exact (by have q := h7; simp only [Bool.and_eq_true, Bool.or_eq_true, Bool.not_eq_true', Bool.and_eq_false_iff, Bool.or_eq_false_iff, Bool.not_eq_false', decide_eq_true_eq, decide_eq_false_iff_not, beq_iff_eq, beq_eq_false_iff_ne, ne_eq] at q; exact q)), e_t]
  ·
    have p7 := (eq_t (not_f h7))
    have zs : Sx.sizE (n_t : Int) k = 0 := (by have q := h7; simp only [Bool.and_eq_true, Bool.or_eq_true, Bool.not_eq_true', Bool.and_eq_false_iff, Bool.or_eq_false_iff, Bool.not_eq_false', decide_eq_true_eq, decide_eq_false_iff_not, beq_iff_eq, beq_eq_false_iff_ne, ne_eq] at q; exact q)
    have z16 := Sx.siz_le zs
    refine WC.skip ?_
    refine WK.then_normal (k2 _ _ ?_)
    refine WC.sub [(0, _)] ⟨rfl, trivial⟩ ?_
    refine WC.seq (fun K9 k9 => ?_)
    refine WC.region rfl ?_
    refine WL.alloc rfl (blt rfl) rfl rfl ti84 rfl ?_
    intro g10 w11 e12 x13 m14
    have o_g10 := own_new xW e12
    have xW := Ext.trans xW x13
    refine WL.nil ?_
    refine WK.then_normal (k9 _ _ ?_)
    refine WC.seq (fun K15 k15 => ?_)
    refine WC.region rfl ?_
    refine WL.yld rfl (blt rfl) rfl (Y.move rfl rfl) ?_
    refine WL.call rfl (blt rfl) rfl rfl rfl has60 rfl (all_any w g10 o_g10 _ _ _ _ h_t _ [] _ xW m14 OwnL.nil_ ne_nil (by decide) (by omega)) ?_
    rintro _ w16 ⟨v18, rfl, m19, ⟨u21, ow20, hall⟩, r_v18_g10, x17⟩
    refine ⟨_, rfl, ?_⟩
    have xW := x17
    refine WL.yld rfl (blt rfl) rfl (Y.assign rfl rfl) ?_
    refine WL.nil ?_
    refine WK.then_normal (k15 _ _ ?_)
    refine WC.sub [(4, _)] ⟨rfl, trivial⟩ ?_
    refine WC.ret ?_
    clear k1 k2 k3 k6 k9 k15
    refine WK.ret [_] rfl ⟨rfl, trivial⟩ ?_
    refine ⟨ret1 (vi ?_), xW⟩
    rw [Sx.col_all (by rw [e_t]; exact zs)]
theorem group_any (d_s : Nat) (s : Sx.St) (w : World) (g_s : Sx.GoodS d_s w s) (f_s : Sx.FewS s) :
    Calls Try.prog 38 #[.agg #[.int .i64 s.op, .int .i64 s.cd.op, .string s.cd.nm, .int .i64 s.cd.vk, .int .i64 s.cd.vn, .string s.cd.vs, .slice s.cd.A s.cd.n s.cd.c, .slice s.iA s.iN s.iC, .slice s.cA s.cN s.cC, .slice s.aA s.aN s.aC, .slice s.sA s.sN s.sC, .int .i64 s.N, .string s.tb]] w fun e w' => e = .returned (.int .i64 (Sx.grpE s)) ∧ Ext w w' := by
  have xW := Ext.refl w
  have e_il := g_s.il.len
  have e_cl := g_s.cl.len
  have e_al := g_s.al.len
  have e_sl := g_s.sl.len
  have b_il := f_s.il
  have b_cl := f_s.cl
  have b_al := f_s.al
  have b_sl := f_s.sl
  refine calls_of_WC (args := [.agg #[.int .i64 s.op, .int .i64 s.cd.op, .string s.cd.nm, .int .i64 s.cd.vk, .int .i64 s.cd.vn, .string s.cd.vs, .slice s.cd.A s.cd.n s.cd.c, .slice s.iA s.iN s.iC, .slice s.cA s.cN s.cC, .slice s.aA s.aN s.aC, .slice s.sA s.sN s.sC, .int .i64 s.N, .string s.tb]]) Try.func38 rfl rfl (ble rfl) ?_
  refine WC.seq (fun K1 k1 => ?_)
  refine WC.region rfl ?_
  refine WL.box rfl (blt rfl) rfl rfl rfl rfl ?_
  intro g2 w3 e4 x5 m6
  have o_g2 := own_new xW e4
  have xW := Ext.trans xW x5
  refine WL.yld rfl (blt rfl) rfl (Y.assign rfl rfl) ?_
  refine WL.nil ?_
  refine WK.then_normal (k1 _ _ ?_)
  refine WC.sub [(1, _)] ⟨rfl, trivial⟩ ?_
  refine WC.seq (fun K7 k7 => ?_)
  refine WC.block ?_
  refine WC.seq (fun K8 k8 => ?_)
  refine WC.region rfl ?_
  refine WL.yld rfl (blt rfl) rfl (Y.fieldAddr rfl Try.underlying41 rfl ti34 (by decide) rfl) ?_
  refine WL.yld rfl (blt rfl) rfl (Y.load1 rfl Try.underlying34 rfl rfl (Blk.at_eq m6 rfl)) ?_
  refine WL.yld rfl (blt rfl) rfl (Y.lenSl rfl rfl rfl Try.underlying34 rfl) ?_
  refine WL.yld rfl (blt rfl) rfl (Y.fieldAddr rfl Try.underlying41 rfl ti38 (by decide) rfl) ?_
  refine WL.yld rfl (blt rfl) rfl (Y.load1 rfl Try.underlying38 rfl rfl (Blk.at_eq m6 rfl)) ?_
  refine WL.yld rfl (blt rfl) rfl (Y.lenSl rfl rfl rfl Try.underlying38 rfl) ?_
  refine WL.yld rfl (blt rfl) rfl (Y.add rfl rfl rfl (wrap_i64 (by first | omega | (dsimp only; omega)))) ?_
  refine WL.yld rfl (blt rfl) rfl (Y.eql rfl rfl rfl) ?_
  refine WL.yld rfl (blt rfl) rfl (Y.assign rfl rfl) ?_
  refine WL.nil ?_
  refine WK.then_normal (k8 _ _ ?_)
  refine WC.sub [(1, _), (9, _)] ⟨rfl, rfl, trivial⟩ ?_
  refine WC.cond rfl (fun h9 => ?_) (fun h9 => ?_)
  ·
    have p9 := (eq_t h9)
    refine WC.seq (fun K10 k10 => ?_)
    refine WC.region rfl ?_
    refine WL.yld rfl (blt rfl) rfl (Y.assign rfl rfl) ?_
    refine WL.nil ?_
    refine WK.then_normal (k10 _ _ ?_)
    refine WC.sub [(2, _)] ⟨rfl, trivial⟩ ?_
    refine WC.ret ?_
    refine WK.in_ret ?_
    refine WK.then_ret ?_
    clear k1 k7 k8 k10
    refine WK.ret [_] rfl ⟨rfl, trivial⟩ ?_
    refine ⟨ret1 (vi ?_), xW⟩
    exact (Sx.grp_8 (by have q := h9; simp only [Bool.and_eq_true, Bool.or_eq_true, Bool.not_eq_true', Bool.and_eq_false_iff, Bool.or_eq_false_iff, Bool.not_eq_false', decide_eq_true_eq, decide_eq_false_iff_not, beq_iff_eq, beq_eq_false_iff_ne, ne_eq] at q; omega)).symm
  ·
    have p9 := (eq_f h9)
    refine WC.seq (fun K11 k11 => ?_)
    refine WC.region rfl ?_
    refine WL.yld rfl (blt rfl) rfl (Y.fieldAddr rfl Try.underlying41 rfl ti34 (by decide) rfl) ?_
    refine WL.yld rfl (blt rfl) rfl (Y.load1 rfl Try.underlying34 rfl rfl (Blk.at_eq m6 rfl)) ?_
    refine WL.yld rfl (blt rfl) rfl (Y.lenSl rfl rfl rfl Try.underlying34 rfl) ?_
    refine WL.yld rfl (blt rfl) rfl (Y.gtr rfl rfl rfl) ?_
    refine WL.yld rfl (blt rfl) rfl (Y.move rfl rfl) ?_
    refine WL.yldG rfl (blt rfl) rfl rfl rfl (fun hb => Y.fieldAddr rfl Try.underlying41 rfl ti38 (by decide) rfl) ?_
    refine WL.yldG rfl (blt rfl) rfl rfl rfl (fun hb => Y.load1 rfl Try.underlying38 rfl (evg rfl hb) (Blk.at_eq m6 rfl)) ?_
    refine WL.yldG rfl (blt rfl) rfl rfl rfl (fun hb => Y.lenSl rfl rfl rfl Try.underlying38 (evs_cons (evg rfl hb) evs_nil)) ?_
    refine WL.yldG rfl (blt rfl) rfl rfl rfl (fun hb => Y.gtr rfl (evg rfl hb) rfl) ?_
    refine WL.yld rfl (blt rfl) rfl (Y.or rfl rfl rfl rfl) ?_
    refine WL.yld rfl (blt rfl) rfl (Y.assign rfl rfl) ?_
    refine WL.nil ?_
    refine WK.then_normal (k11 _ _ ?_)
    refine WC.sub [(1, _), (18, _)] ⟨rfl, rfl, trivial⟩ ?_
    refine WC.cond rfl (fun h12 => ?_) (fun h12 => ?_)
    ·
      have p12 := ((or_t h12).imp (fun h => (dec_t h)) (fun h => (dec_t h)))
      refine WC.seq (fun K13 k13 => ?_)
      refine WC.region rfl ?_
      refine WL.yld rfl (blt rfl) rfl (Y.assign rfl rfl) ?_
      refine WL.nil ?_
      refine WK.then_normal (k13 _ _ ?_)
      refine WC.sub [(2, _)] ⟨rfl, trivial⟩ ?_
      refine WC.ret ?_
      refine WK.in_ret ?_
      refine WK.then_ret ?_
      clear k1 k7 k8 k11 k13
      refine WK.ret [_] rfl ⟨rfl, trivial⟩ ?_
      refine ⟨ret1 (vi ?_), xW⟩
      exact (Sx.grp_7 (by have q := h9; simp only [Bool.and_eq_true, Bool.or_eq_true, Bool.not_eq_true', Bool.and_eq_false_iff, Bool.or_eq_false_iff, Bool.not_eq_false', decide_eq_true_eq, decide_eq_false_iff_not, beq_iff_eq, beq_eq_false_iff_ne, ne_eq] at q; omega) (by have q := h12; simp only [Bool.and_eq_true, Bool.or_eq_true, Bool.not_eq_true', Bool.and_eq_false_iff, Bool.or_eq_false_iff, Bool.not_eq_false', decide_eq_true_eq, decide_eq_false_iff_not, beq_iff_eq, beq_eq_false_iff_ne, ne_eq] at q; omega)).symm
    ·
      have p12 := (And.intro (dec_f (or_f h12).1) (dec_f (or_f h12).2))
      have mB := m6
      have xB := xW
      refine WC.skip ?_
      refine WK.in_normal ?_
      refine WK.then_normal (k7 _ _ ?_)
      refine WC.sub [(1, _)] ⟨rfl, trivial⟩ ?_
      refine WC.seq (fun K14 k14 => ?_)
      refine WC.region rfl ?_
      refine WL.alloc rfl (blt rfl) rfl rfl ti84 rfl ?_
      intro g15 w16 e17 x18 m19
      have n_g2_g15 := ne_new m6 e17
      have o_g15 := own_new xW e17
      have m6 := m6.ext x18
      have xW := Ext.trans xW x18
      refine WL.nil ?_
      refine WK.then_normal (k14 _ _ ?_)
      refine WC.seq (fun K20 k20 => ?_)
      refine WC.seq (fun K21 k21 => ?_)
      refine WC.region rfl ?_
      refine WL.yld rfl (blt rfl) rfl (Y.fieldAddr rfl Try.underlying41 rfl ti34 (by decide) rfl) ?_
      refine WL.yld rfl (blt rfl) rfl (Y.load1 rfl Try.underlying34 rfl rfl (Blk.at_eq m6 rfl)) ?_
      refine WL.call rfl (blt rfl) rfl rfl rfl has60 rfl (all_any _ g15 (Nat.le_of_eq e17.symm) _ _ _ _ (g_s.cl.ext xB) _ [] _ x18 m19 OwnL.nil_ ne_nil (by decide) (by omega)) ?_
      rintro _ w22 ⟨v24, rfl, m25, ⟨u27, ow26, hall⟩, r_v24_g15, x23⟩
      refine ⟨_, rfl, ?_⟩
      have owB := ow26
      have ow26 := OwnL.base_le ow26 xB.size
      have m6 := mB.ext x23
      have xW := Ext.trans xB x23
      have r_v24_g2 : v24.ownBlock ≠ some g2 := fun z => by have q := OwnL.lt owB z; have q2 := mB.lt; omega
      refine WL.yld rfl (blt rfl) rfl (Y.assign rfl rfl) ?_
      refine WL.nil ?_
      refine WK.then_normal (k21 _ _ ?_)
      refine WC.sub [(1, _), (3, _), (4, _)] ⟨rfl, rfl, rfl, trivial⟩ ?_
      refine WC.seq (fun K28 k28 => ?_)
      refine WC.region rfl ?_
      refine WL.yld rfl (blt rfl) rfl (Y.move rfl rfl) ?_
      refine WL.yld rfl (blt rfl) rfl (Y.neq rfl rfl rfl) ?_
      refine WL.nil ?_
      refine WK.then_normal (k28 _ _ ?_)
      refine WC.sub [(1, _), (3, _), (4, _), (33, _)] ⟨rfl, rfl, rfl, rfl, trivial⟩ ?_
      refine WC.cond rfl (fun h29 => ?_) (fun h29 => ?_)
      ·
        have p29 := (eq_f (not_t h29))
        refine WC.seq (fun K30 k30 => ?_)
        refine WC.region rfl ?_
        refine WL.yld rfl (blt rfl) rfl (Y.move rfl rfl) ?_
        refine WL.yld rfl (blt rfl) rfl (Y.assign rfl rfl) ?_
        refine WL.nil ?_
        refine WK.then_normal (k30 _ _ ?_)
        refine WC.sub [(2, _)] ⟨rfl, trivial⟩ ?_
        refine WC.ret ?_
        refine WK.then_ret ?_
        clear k1 k7 k8 k11 k14 k20 k21 k28 k30
        refine WK.ret [_] rfl ⟨rfl, trivial⟩ ?_
        refine ⟨ret1 (vi ?_), xW⟩
        exact (Sx.grp_all (by have q := h9; simp only [Bool.and_eq_true, Bool.or_eq_true, Bool.not_eq_true', Bool.and_eq_false_iff, Bool.or_eq_false_iff, Bool.not_eq_false', decide_eq_true_eq, decide_eq_false_iff_not, beq_iff_eq, beq_eq_false_iff_ne, ne_eq] at q; omega) (by have q := h12; simp only [Bool.and_eq_true, Bool.or_eq_true, Bool.not_eq_true', Bool.and_eq_false_iff, Bool.or_eq_false_iff, Bool.not_eq_false', decide_eq_true_eq, decide_eq_false_iff_not, beq_iff_eq, beq_eq_false_iff_ne, ne_eq] at q; omega) (by have q := h29; simp only [Bool.and_eq_true, Bool.or_eq_true, Bool.not_eq_true', Bool.and_eq_false_iff, Bool.or_eq_false_iff, Bool.not_eq_false', decide_eq_true_eq, decide_eq_false_iff_not, beq_iff_eq, beq_eq_false_iff_ne, ne_eq] at q; exact q)).symm
      ·
        have p29 := (eq_t (not_f h29))
        have z0a : Sx.allE [] s.cl = 0 := (by have q := h29; simp only [Bool.and_eq_true, Bool.or_eq_true, Bool.not_eq_true', Bool.and_eq_false_iff, Bool.or_eq_false_iff, Bool.not_eq_false', decide_eq_true_eq, decide_eq_false_iff_not, beq_iff_eq, beq_eq_false_iff_ne, ne_eq] at q; exact q)
        refine WC.skip ?_
        refine WK.then_normal (k20 _ _ ?_)
        refine WC.sub [(1, _), (3, _)] ⟨rfl, rfl, trivial⟩ ?_
        refine WC.seq (fun K31 k31 => ?_)
        refine WC.seq (fun K32 k32 => ?_)
        refine WC.region rfl ?_
        refine WL.yld rfl (blt rfl) rfl (Y.fieldAddr rfl Try.underlying41 rfl ti38 (by decide) rfl) ?_
        refine WL.yld rfl (blt rfl) rfl (Y.load1 rfl Try.underlying38 rfl rfl (Blk.at_eq m6 rfl)) ?_
        refine WL.yld rfl (blt rfl) rfl (Y.lenSl rfl rfl rfl Try.underlying38 rfl) ?_
        refine WL.yld rfl (blt rfl) rfl (Y.move rfl rfl) ?_
        refine WL.nil ?_
        refine WK.then_normal (k32 _ _ ?_)
        refine WC.sub [(3, _), (36, _), (37, _), (38, _)] ⟨rfl, rfl, rfl, rfl, trivial⟩ ?_
        refine WC.block ?_
        refine WC.sub [(38, _), (3, _), (36, _), (37, _)] ⟨rfl, rfl, rfl, rfl, trivial⟩ ?_
        refine WC.loopS 1 (fun mz Ed W' => ∃ i : Nat, ∃ v1 : Value, mz = s.aN - i ∧ Ed = [(38, .int .i64 ((i : Nat) : Int))] ∧ Ext w W' ∧ Blk W' g15 84 [v1] ∧ OwnL W' w.heap.size 9 Sx.sc 1 v1 (s.cl ++ (s.al.take i).map Sx.Ag.as_) ∧ v1.ownBlock ≠ some g15 ∧ (i ≤ s.aN) ∧ (∀ j, j < i → Sx.agg1 s.cl s.al j = 0)) _ ⟨0, _, rfl, rfl, xW, m25, (by have q := ow26; rw [hall z0a, List.nil_append] at q; rw [List.take_zero, List.map_nil, List.append_nil]; exact q), r_v24_g15, (Nat.zero_le _), (fun j hj => absurd hj (Nat.not_lt_zero j))⟩ ?_
        rintro _ _ w33 ⟨i, v1, rfl, rfl, xW, m25, ow_v1, r_v1_g15, le_i, inv_i⟩
        refine WC.sub [(38, _), (3, _), (36, _), (37, _)] ⟨rfl, rfl, rfl, rfl, trivial⟩ ?_
        have tk := Sx.map_len (f := Sx.Ag.as_) (l := s.al) (i := i) (by omega)
        refine WC.seq (fun K34 k34 => ?_)
        refine WC.region rfl ?_
        refine WL.yld rfl (blt rfl) rfl (Y.lss rfl rfl rfl) ?_
        refine WL.nil ?_
        refine WK.then_normal (k34 _ _ ?_)
        refine WC.seq (fun K35 k35 => ?_)
        refine WC.cond rfl (fun h36 => ?_) (fun h36 => ?_)
        ·
          have p36 := (dec_t h36)
          refine WC.skip ?_
          refine WK.then_normal (k35 _ _ ?_)
          refine WC.sub [(3, _), (36, _), (37, _), (38, _)] ⟨rfl, rfl, rfl, rfl, trivial⟩ ?_
          refine WC.seq (fun K37 k37 => ?_)
          refine WC.block ?_
          refine WC.seq (fun K38 k38 => ?_)
          refine WC.region rfl ?_
          have b39 : i < s.aN := by omega
          refine WL.yld rfl (blt rfl) rfl (Y.indexLs i (g_s.al.ext xW) rfl Try.underlying38 ti55 rfl rfl rfl b39) ?_
          refine WL.yld rfl (blt rfl) rfl (Y.loadS (cs := [_, _, _]) rfl Try.underlying55 rfl ti55 rfl (Ls.part_eq (g_s.al.ext xW) b39 rfl)) ?_
          refine WL.alloc rfl (blt rfl) rfl rfl ti55 rfl ?_
          intro g40 w41 e42 x43 m44
          have n_g15_g40 := ne_new m25 e42
          have r_v1_g40 := ne_newO ow_v1 e42
          have o_g40 := own_new xW e42
          have m25 := m25.ext x43
          have ow_v1 := ow_v1.ext x43
          have xW := Ext.trans xW x43
          refine WL.store (cs' := [_, _, _]) rfl rfl rfl rfl rfl rfl ti55 m44 (ble rfl) rfl rfl (fun w45 on46 m47 => ?_)
          have m25 := m25.only n_g15_g40 on46
          have ow_v1 := ow_v1.only r_v1_g40 on46
          have xW := Ext.only xW on46 o_g40
          refine WL.nil ?_
          refine WK.then_normal (k38 _ _ ?_)
          refine WC.sub [(3, _), (6, _), (36, _), (37, _), (38, _)] ⟨rfl, rfl, rfl, rfl, rfl, trivial⟩ ?_
          refine WC.seq (fun K48 k48 => ?_)
          refine WC.region rfl ?_
          refine WL.yld rfl (blt rfl) rfl (Y.fieldAddr rfl Try.underlying55 rfl ti9 (by decide) rfl) ?_
          refine WL.yld rfl (blt rfl) rfl (Y.load1 rfl Try.underlying9 rfl rfl (Blk.at_eq m47 rfl)) ?_
          refine WL.yld rfl (blt rfl) rfl (Y.eqlStr rfl rfl rfl) ?_
          refine WL.yld rfl (blt rfl) rfl (Y.assign rfl rfl) ?_
          refine WL.nil ?_
          refine WK.then_normal (k48 _ _ ?_)
          refine WC.sub [(3, _), (6, _), (7, _), (36, _), (37, _), (38, _)] ⟨rfl, rfl, rfl, rfl, rfl, rfl, trivial⟩ ?_
          refine WC.seq (fun K49 k49 => ?_)
          refine WC.seq (fun K50 k50 => ?_)
          refine WC.region rfl ?_
          refine WL.yld rfl (blt rfl) rfl (Y.move rfl rfl) ?_
          refine WL.yld rfl (blt rfl) rfl (Y.not rfl rfl) ?_
          refine WL.yld rfl (blt rfl) rfl (Y.move rfl rfl) ?_
          refine WL.split (t := 47) rfl (fun h51 => ?_) (fun h51 => ?_)
          ·
            refine WL.guarded rfl rfl rfl ?_
            refine WL.bslice (zs := [.string ⟨#[]⟩, .string ⟨#[]⟩, .string ⟨#[]⟩, .string ⟨#[]⟩]) (cs := [_, _, _, _]) rfl (blt rfl) rfl rfl Try.underlying34 ti9 rfl (ble rfl) (by kernel_rfl) rfl rfl ?_
            intro g52 w53 e54 x55 m56
            have n_g15_g52 := ne_new m25 e54
            have r_v1_g52 := ne_newO ow_v1 e54
            have n_g40_g52 := ne_new m47 e54
            have o_g52 := own_new xW e54
            have m25 := m25.ext x55
            have ow_v1 := ow_v1.ext x55
            have m47 := m47.ext x55
            have xW := Ext.trans xW x55
            refine WL.yldW rfl (blt rfl) rfl rfl rfl (Y.fieldAddr rfl Try.underlying55 rfl ti9 (by decide) rfl) ?_
            refine WL.yldW rfl (blt rfl) rfl rfl rfl (Y.load1 rfl Try.underlying9 rfl rfl (Blk.at_eq m47 rfl)) ?_
            refine WL.callW rfl (blt rfl) rfl rfl rfl rfl rfl has61 rfl (contains_any _ _ _ _ _ _ (Ls.lit (f := Sx.sc) (sz := 1) (l := Sx.known) m56 (fun _ => rfl) rfl (by decide) rfl)) ?_
            rintro _ w57 ⟨rfl, x58⟩
            refine ⟨_, rfl, ?_⟩
            have m25 := m25.ext x58
            have ow_v1 := ow_v1.ext x58
            have m47 := m47.ext x58
            have m56 := m56.ext x58
            have xW := Ext.trans xW x58
            refine WL.yldW rfl (blt rfl) rfl rfl rfl (Y.not rfl rfl) ?_
            refine WL.yld rfl (blt rfl) rfl (Y.pickT rfl rfl rfl) ?_
            refine WL.yld rfl (blt rfl) rfl (Y.move rfl rfl) ?_
            refine WL.yldG rfl (blt rfl) rfl rfl rfl (fun hb => Y.move rfl rfl) ?_
            refine WL.yldG rfl (blt rfl) rfl rfl rfl (fun hb => Y.fieldAddr rfl Try.underlying55 rfl ti9 (by decide) rfl) ?_
            refine WL.yldG rfl (blt rfl) rfl rfl rfl (fun hb => Y.load1 rfl Try.underlying9 rfl (evg rfl hb) (Blk.at_eq m47 rfl)) ?_
            refine WL.yldG rfl (blt rfl) rfl rfl rfl (fun hb => Y.neqStr rfl (evg rfl hb) rfl) ?_
            refine WL.yldG rfl (blt rfl) rfl rfl rfl (fun hb => Y.eqlB rfl Try.underlying4 (evg rfl hb) (evg rfl hb)) ?_
            refine WL.yld rfl (blt rfl) rfl (Y.or rfl rfl rfl rfl) ?_
            refine WL.nil ?_
            refine WK.then_normal (k50 _ _ ?_)
            refine WC.sub [(3, _), (6, _), (36, _), (37, _), (38, _), (60, _)] ⟨rfl, rfl, rfl, rfl, rfl, rfl, trivial⟩ ?_
            refine WC.cond rfl (fun h59 => ?_) (fun h59 => ?_)
            ·
              refine WC.seq (fun K60 k60 => ?_)
              refine WC.region rfl ?_
              refine WL.yld rfl (blt rfl) rfl (Y.assign rfl rfl) ?_
              refine WL.nil ?_
              refine WK.then_normal (k60 _ _ ?_)
              refine WC.sub [(2, _)] ⟨rfl, trivial⟩ ?_
              refine WC.ret ?_
              refine WK.then_ret ?_
              refine WK.in_ret ?_
              refine WK.then_ret ?_
              refine WK.then_ret ?_
              refine WK.in_ret ?_
              refine WK.then_ret ?_
              clear k1 k7 k8 k11 k14 k20 k21 k28 k31 k32 k34 k35 k37 k38 k48 k49 k50 k60
              refine WK.ret [_] rfl ⟨rfl, trivial⟩ ?_
              refine ⟨ret1 (vi ?_), xW⟩
              rw [Sx.grp_agg (by have q := h9; simp only [Bool.and_eq_true, Bool.or_eq_true, Bool.not_eq_true', Bool.and_eq_false_iff, Bool.or_eq_false_iff, Bool.not_eq_false', decide_eq_true_eq, decide_eq_false_iff_not, beq_iff_eq, beq_eq_false_iff_ne, ne_eq] at q; omega) (by have q := h12; simp only [Bool.and_eq_true, Bool.or_eq_true, Bool.not_eq_true', Bool.and_eq_false_iff, Bool.or_eq_false_iff, Bool.not_eq_false', decide_eq_true_eq, decide_eq_false_iff_not, beq_iff_eq, beq_eq_false_iff_ne, ne_eq] at q; omega) z0a]
              exact (Sx.agg_hit (show i < s.al.length from by omega) inv_i (Sx.agg_5 (Sx.bad_1 h51 h59)) (by decide)).symm
            ·
              have zb : Sx.badA s.al[i]! = false := Sx.bad_1 h51 h59
              refine WC.skip ?_
              refine WK.then_normal (k49 _ _ ?_)
              refine WC.sub [(3, _), (6, _), (36, _), (37, _), (38, _)] ⟨rfl, rfl, rfl, rfl, rfl, trivial⟩ ?_
              refine WC.seq (fun K61 k61 => ?_)
              refine WC.seq (fun K62 k62 => ?_)
              refine WC.region rfl ?_
              refine WL.yld rfl (blt rfl) rfl (Y.fieldAddr rfl Try.underlying55 rfl ti9 (by decide) rfl) ?_
              refine WL.yld rfl (blt rfl) rfl (Y.load1 rfl Try.underlying9 rfl rfl (Blk.at_eq m47 rfl)) ?_
              refine WL.yld rfl (blt rfl) rfl (Y.neqStr rfl rfl rfl) ?_
              refine WL.yld rfl (blt rfl) rfl (Y.move rfl rfl) ?_
              refine WL.yldG rfl (blt rfl) rfl rfl rfl (fun hb => Y.fieldAddr rfl Try.underlying55 rfl ti9 (by decide) rfl) ?_
              refine WL.yldG rfl (blt rfl) rfl rfl rfl (fun hb => Y.load1 rfl Try.underlying9 rfl (evg rfl hb) (Blk.at_eq m47 rfl)) ?_
              refine WL.callG rfl (blt rfl) rfl rfl rfl rfl rfl has40 (fun hb => (evs_cons (evg rfl hb) evs_nil)) (fun hb => ident_any _ _ ) (fun w63 x64 => ?_)
              have m25 := m25.ext x64
              have ow_v1 := ow_v1.ext x64
              have m47 := m47.ext x64
              have xW := Ext.trans xW x64
              refine WL.yldG rfl (blt rfl) rfl rfl rfl (fun hb => Y.not rfl (evg rfl hb)) ?_
              refine WL.yld rfl (blt rfl) rfl (Y.and rfl rfl rfl rfl) ?_
              refine WL.nil ?_
              refine WK.then_normal (k62 _ _ ?_)
              refine WC.sub [(3, _), (6, _), (36, _), (37, _), (38, _), (69, _)] ⟨rfl, rfl, rfl, rfl, rfl, rfl, trivial⟩ ?_
              refine WC.cond rfl (fun h65 => ?_) (fun h65 => ?_)
              ·
                refine WC.seq (fun K66 k66 => ?_)
                refine WC.region rfl ?_
                refine WL.yld rfl (blt rfl) rfl (Y.assign rfl rfl) ?_
                refine WL.nil ?_
                refine WK.then_normal (k66 _ _ ?_)
                refine WC.sub [(2, _)] ⟨rfl, trivial⟩ ?_
                refine WC.ret ?_
                refine WK.then_ret ?_
                refine WK.in_ret ?_
                refine WK.then_ret ?_
                refine WK.then_ret ?_
                refine WK.in_ret ?_
                refine WK.then_ret ?_
                clear k1 k7 k8 k11 k14 k20 k21 k28 k31 k32 k34 k35 k37 k38 k48 k49 k50 k61 k62 k66
                refine WK.ret [_] rfl ⟨rfl, trivial⟩ ?_
                refine ⟨ret1 (vi ?_), xW⟩
                rw [Sx.grp_agg (by have q := h9; simp only [Bool.and_eq_true, Bool.or_eq_true, Bool.not_eq_true', Bool.and_eq_false_iff, Bool.or_eq_false_iff, Bool.not_eq_false', decide_eq_true_eq, decide_eq_false_iff_not, beq_iff_eq, beq_eq_false_iff_ne, ne_eq] at q; omega) (by have q := h12; simp only [Bool.and_eq_true, Bool.or_eq_true, Bool.not_eq_true', Bool.and_eq_false_iff, Bool.or_eq_false_iff, Bool.not_eq_false', decide_eq_true_eq, decide_eq_false_iff_not, beq_iff_eq, beq_eq_false_iff_ne, ne_eq] at q; omega) z0a]
                exact (Sx.agg_hit (show i < s.al.length from by omega) inv_i (Sx.agg_3 zb h65) (by decide)).symm
              ·
                have zc := h65
                refine WC.skip ?_
                refine WK.then_normal (k61 _ _ ?_)
                refine WC.sub [(3, _), (6, _), (36, _), (37, _), (38, _)] ⟨rfl, rfl, rfl, rfl, rfl, trivial⟩ ?_
                refine WC.seq (fun K67 k67 => ?_)
                refine WC.region rfl ?_
                refine WL.yld rfl (blt rfl) rfl (Y.fieldAddr rfl Try.underlying55 rfl ti9 (by decide) rfl) ?_
                refine WL.yld rfl (blt rfl) rfl (Y.load1 rfl Try.underlying9 rfl rfl (Blk.at_eq m47 rfl)) ?_
                refine WL.call rfl (blt rfl) rfl rfl rfl has59 rfl (add_any w g15 o_g15 _ _ _ _ xW m25 ow_v1 r_v1_g15 (by rw [List.length_append, tk]; omega)) ?_
                rintro _ w68 ⟨v70, rfl, m71, ow72, r_v70_g15, x69⟩
                refine ⟨_, rfl, ?_⟩
                have xW := x69
                refine WL.yld rfl (blt rfl) rfl (Y.assign rfl rfl) ?_
                refine WL.nil ?_
                refine WK.then_normal (k67 _ _ ?_)
                refine WC.sub [(3, _), (8, _), (36, _), (37, _), (38, _)] ⟨rfl, rfl, rfl, rfl, rfl, trivial⟩ ?_
                refine WC.seq (fun K73 k73 => ?_)
                refine WC.region rfl ?_
                refine WL.yld rfl (blt rfl) rfl (Y.move rfl rfl) ?_
                refine WL.yld rfl (blt rfl) rfl (Y.neq rfl rfl rfl) ?_
                refine WL.nil ?_
                refine WK.then_normal (k73 _ _ ?_)
                refine WC.sub [(3, _), (8, _), (36, _), (37, _), (38, _), (74, _)] ⟨rfl, rfl, rfl, rfl, rfl, rfl, trivial⟩ ?_
                refine WC.cond rfl (fun h74 => ?_) (fun h74 => ?_)
                ·
                  have p74 := (eq_f (not_t h74))
                  refine WC.seq (fun K75 k75 => ?_)
                  refine WC.region rfl ?_
                  refine WL.yld rfl (blt rfl) rfl (Y.move rfl rfl) ?_
                  refine WL.yld rfl (blt rfl) rfl (Y.assign rfl rfl) ?_
                  refine WL.nil ?_
                  refine WK.then_normal (k75 _ _ ?_)
                  refine WC.sub [(2, _)] ⟨rfl, trivial⟩ ?_
                  refine WC.ret ?_
                  refine WK.in_ret ?_
                  refine WK.then_ret ?_
                  refine WK.then_ret ?_
                  refine WK.in_ret ?_
                  refine WK.then_ret ?_
                  clear k1 k7 k8 k11 k14 k20 k21 k28 k31 k32 k34 k35 k37 k38 k48 k49 k50 k61 k62 k67 k73 k75
                  refine WK.ret [_] rfl ⟨rfl, trivial⟩ ?_
                  refine ⟨ret1 (vi ?_), xW⟩
                  rw [Sx.grp_agg (by have q := h9; simp only [Bool.and_eq_true, Bool.or_eq_true, Bool.not_eq_true', Bool.and_eq_false_iff, Bool.or_eq_false_iff, Bool.not_eq_false', decide_eq_true_eq, decide_eq_false_iff_not, beq_iff_eq, beq_eq_false_iff_ne, ne_eq] at q; omega) (by have q := h12; simp only [Bool.and_eq_true, Bool.or_eq_true, Bool.not_eq_true', Bool.and_eq_false_iff, Bool.or_eq_false_iff, Bool.not_eq_false', decide_eq_true_eq, decide_eq_false_iff_not, beq_iff_eq, beq_eq_false_iff_ne, ne_eq] at q; omega) z0a]
                  exact (Sx.agg_hit (show i < s.al.length from by omega) inv_i (Sx.agg_add zb zc) (by have q := h74; simp only [Bool.and_eq_true, Bool.or_eq_true, Bool.not_eq_true', Bool.and_eq_false_iff, Bool.or_eq_false_iff, Bool.not_eq_false', decide_eq_true_eq, decide_eq_false_iff_not, beq_iff_eq, beq_eq_false_iff_ne, ne_eq] at q; exact q)).symm
                ·
                  have p74 := (eq_t (not_f h74))
                  have z0 : Sx.addE (s.cl ++ (s.al.take i).map Sx.Ag.as_) s.al[i]!.as_ = 0 := (by have q := h74; simp only [Bool.and_eq_true, Bool.or_eq_true, Bool.not_eq_true', Bool.and_eq_false_iff, Bool.or_eq_false_iff, Bool.not_eq_false', decide_eq_true_eq, decide_eq_false_iff_not, beq_iff_eq, beq_eq_false_iff_ne, ne_eq] at q; exact q)
                  refine WC.skip ?_
                  refine WK.in_normal ?_
                  refine WK.then_normal (k37 _ _ ?_)
                  refine WC.sub [(3, _), (36, _), (37, _), (38, _)] ⟨rfl, rfl, rfl, rfl, trivial⟩ ?_
                  refine WC.region rfl ?_
                  refine WL.yld rfl (blt rfl) rfl (Y.add rfl rfl rfl (wrap_i64 (by first | omega | (dsimp only; omega)))) ?_
                  refine WL.yld rfl (blt rfl) rfl (Y.move rfl rfl) ?_
                  refine WL.nil ?_
                  refine WK.roundS _ [(38, .int .i64 (((i + 1) : Nat) : Int))] ⟨rfl, rfl, rfl, rfl, trivial⟩ ?_ ⟨(i + 1), v70, rfl, rfl, xW, m71, (by have q := ow72; rw [if_pos z0] at q; rw [Sx.map_next (show i < s.al.length from by omega), ← List.append_assoc]; exact q), r_v70_g15, (by omega), (fun j hj => by rcases Nat.lt_succ_iff_lt_or_eq.1 hj with h | h; exact inv_i j h; rw [h]; exact ((Sx.agg_add zb zc).trans z0))⟩
                  show _ - (i + 1) < _ - i; omega
          ·
            refine WL.skip rfl (blt rfl) rfl rfl rfl rfl ?_
            refine WL.skip rfl (blt rfl) rfl rfl rfl rfl ?_
            refine WL.skip rfl (blt rfl) rfl rfl rfl rfl ?_
            refine WL.skip rfl (blt rfl) rfl rfl rfl rfl ?_
            refine WL.skip rfl (blt rfl) rfl rfl rfl rfl ?_
            refine WL.yld rfl (blt rfl) rfl (Y.pickF rfl rfl rfl) ?_
            refine WL.yld rfl (blt rfl) rfl (Y.move rfl rfl) ?_
            refine WL.yldW rfl (blt rfl) rfl rfl rfl (Y.move rfl rfl) ?_
            refine WL.yldW rfl (blt rfl) rfl rfl rfl (Y.fieldAddr rfl Try.underlying55 rfl ti9 (by decide) rfl) ?_
            refine WL.yldW rfl (blt rfl) rfl rfl rfl (Y.load1 rfl Try.underlying9 rfl rfl (Blk.at_eq m47 rfl)) ?_
            refine WL.yldW rfl (blt rfl) rfl rfl rfl (Y.neqStr rfl rfl rfl) ?_
            refine WL.yldW rfl (blt rfl) rfl rfl rfl (Y.eqlB rfl Try.underlying4 rfl rfl) ?_
            refine WL.yld rfl (blt rfl) rfl (Y.pickF rfl rfl rfl) ?_
            refine WL.nil ?_
            refine WK.then_normal (k50 _ _ ?_)
            refine WC.sub [(3, _), (6, _), (36, _), (37, _), (38, _), (60, _)] ⟨rfl, rfl, rfl, rfl, rfl, rfl, trivial⟩ ?_
            refine WC.cond rfl (fun h76 => ?_) (fun h76 => ?_)
            ·
              refine WC.seq (fun K77 k77 => ?_)
              refine WC.region rfl ?_
              refine WL.yld rfl (blt rfl) rfl (Y.assign rfl rfl) ?_
              refine WL.nil ?_
              refine WK.then_normal (k77 _ _ ?_)
              refine WC.sub [(2, _)] ⟨rfl, trivial⟩ ?_
              refine WC.ret ?_
              refine WK.then_ret ?_
              refine WK.in_ret ?_
              refine WK.then_ret ?_
              refine WK.then_ret ?_
              refine WK.in_ret ?_
              refine WK.then_ret ?_
              clear k1 k7 k8 k11 k14 k20 k21 k28 k31 k32 k34 k35 k37 k38 k48 k49 k50 k77
              refine WK.ret [_] rfl ⟨rfl, trivial⟩ ?_
              refine ⟨ret1 (vi ?_), xW⟩
              rw [Sx.grp_agg (by have q := h9; simp only [Bool.and_eq_true, Bool.or_eq_true, Bool.not_eq_true', Bool.and_eq_false_iff, Bool.or_eq_false_iff, Bool.not_eq_false', decide_eq_true_eq, decide_eq_false_iff_not, beq_iff_eq, beq_eq_false_iff_ne, ne_eq] at q; omega) (by have q := h12; simp only [Bool.and_eq_true, Bool.or_eq_true, Bool.not_eq_true', Bool.and_eq_false_iff, Bool.or_eq_false_iff, Bool.not_eq_false', decide_eq_true_eq, decide_eq_false_iff_not, beq_iff_eq, beq_eq_false_iff_ne, ne_eq] at q; omega) z0a]
              exact (Sx.agg_hit (show i < s.al.length from by omega) inv_i (Sx.agg_5 (Sx.bad_2 h51 h76)) (by decide)).symm
            ·
              have zb : Sx.badA s.al[i]! = false := Sx.bad_2 h51 h76
              refine WC.skip ?_
              refine WK.then_normal (k49 _ _ ?_)
              refine WC.sub [(3, _), (6, _), (36, _), (37, _), (38, _)] ⟨rfl, rfl, rfl, rfl, rfl, trivial⟩ ?_
              refine WC.seq (fun K78 k78 => ?_)
              refine WC.seq (fun K79 k79 => ?_)
              refine WC.region rfl ?_
              refine WL.yld rfl (blt rfl) rfl (Y.fieldAddr rfl Try.underlying55 rfl ti9 (by decide) rfl) ?_
              refine WL.yld rfl (blt rfl) rfl (Y.load1 rfl Try.underlying9 rfl rfl (Blk.at_eq m47 rfl)) ?_
              refine WL.yld rfl (blt rfl) rfl (Y.neqStr rfl rfl rfl) ?_
              refine WL.yld rfl (blt rfl) rfl (Y.move rfl rfl) ?_
              refine WL.yldG rfl (blt rfl) rfl rfl rfl (fun hb => Y.fieldAddr rfl Try.underlying55 rfl ti9 (by decide) rfl) ?_
              refine WL.yldG rfl (blt rfl) rfl rfl rfl (fun hb => Y.load1 rfl Try.underlying9 rfl (evg rfl hb) (Blk.at_eq m47 rfl)) ?_
              refine WL.callG rfl (blt rfl) rfl rfl rfl rfl rfl has40 (fun hb => (evs_cons (evg rfl hb) evs_nil)) (fun hb => ident_any _ _ ) (fun w80 x81 => ?_)
              have m25 := m25.ext x81
              have ow_v1 := ow_v1.ext x81
              have m47 := m47.ext x81
              have xW := Ext.trans xW x81
              refine WL.yldG rfl (blt rfl) rfl rfl rfl (fun hb => Y.not rfl (evg rfl hb)) ?_
              refine WL.yld rfl (blt rfl) rfl (Y.and rfl rfl rfl rfl) ?_
              refine WL.nil ?_
              refine WK.then_normal (k79 _ _ ?_)
              refine WC.sub [(3, _), (6, _), (36, _), (37, _), (38, _), (69, _)] ⟨rfl, rfl, rfl, rfl, rfl, rfl, trivial⟩ ?_
              refine WC.cond rfl (fun h82 => ?_) (fun h82 => ?_)
              ·
                refine WC.seq (fun K83 k83 => ?_)
                refine WC.region rfl ?_
                refine WL.yld rfl (blt rfl) rfl (Y.assign rfl rfl) ?_
                refine WL.nil ?_
                refine WK.then_normal (k83 _ _ ?_)
                refine WC.sub [(2, _)] ⟨rfl, trivial⟩ ?_
                refine WC.ret ?_
                refine WK.then_ret ?_
                refine WK.in_ret ?_
                refine WK.then_ret ?_
                refine WK.then_ret ?_
                refine WK.in_ret ?_
                refine WK.then_ret ?_
                clear k1 k7 k8 k11 k14 k20 k21 k28 k31 k32 k34 k35 k37 k38 k48 k49 k50 k78 k79 k83
                refine WK.ret [_] rfl ⟨rfl, trivial⟩ ?_
                refine ⟨ret1 (vi ?_), xW⟩
                rw [Sx.grp_agg (by have q := h9; simp only [Bool.and_eq_true, Bool.or_eq_true, Bool.not_eq_true', Bool.and_eq_false_iff, Bool.or_eq_false_iff, Bool.not_eq_false', decide_eq_true_eq, decide_eq_false_iff_not, beq_iff_eq, beq_eq_false_iff_ne, ne_eq] at q; omega) (by have q := h12; simp only [Bool.and_eq_true, Bool.or_eq_true, Bool.not_eq_true', Bool.and_eq_false_iff, Bool.or_eq_false_iff, Bool.not_eq_false', decide_eq_true_eq, decide_eq_false_iff_not, beq_iff_eq, beq_eq_false_iff_ne, ne_eq] at q; omega) z0a]
                exact (Sx.agg_hit (show i < s.al.length from by omega) inv_i (Sx.agg_3 zb h82) (by decide)).symm
              ·
                have zc := h82
                refine WC.skip ?_
                refine WK.then_normal (k78 _ _ ?_)
                refine WC.sub [(3, _), (6, _), (36, _), (37, _), (38, _)] ⟨rfl, rfl, rfl, rfl, rfl, trivial⟩ ?_
                refine WC.seq (fun K84 k84 => ?_)
                refine WC.region rfl ?_
                refine WL.yld rfl (blt rfl) rfl (Y.fieldAddr rfl Try.underlying55 rfl ti9 (by decide) rfl) ?_
                refine WL.yld rfl (blt rfl) rfl (Y.load1 rfl Try.underlying9 rfl rfl (Blk.at_eq m47 rfl)) ?_
                refine WL.call rfl (blt rfl) rfl rfl rfl has59 rfl (add_any w g15 o_g15 _ _ _ _ xW m25 ow_v1 r_v1_g15 (by rw [List.length_append, tk]; omega)) ?_
                rintro _ w85 ⟨v87, rfl, m88, ow89, r_v87_g15, x86⟩
                refine ⟨_, rfl, ?_⟩
                have xW := x86
                refine WL.yld rfl (blt rfl) rfl (Y.assign rfl rfl) ?_
                refine WL.nil ?_
                refine WK.then_normal (k84 _ _ ?_)
                refine WC.sub [(3, _), (8, _), (36, _), (37, _), (38, _)] ⟨rfl, rfl, rfl, rfl, rfl, trivial⟩ ?_
                refine WC.seq (fun K90 k90 => ?_)
                refine WC.region rfl ?_
                refine WL.yld rfl (blt rfl) rfl (Y.move rfl rfl) ?_
                refine WL.yld rfl (blt rfl) rfl (Y.neq rfl rfl rfl) ?_
                refine WL.nil ?_
                refine WK.then_normal (k90 _ _ ?_)
                refine WC.sub [(3, _), (8, _), (36, _), (37, _), (38, _), (74, _)] ⟨rfl, rfl, rfl, rfl, rfl, rfl, trivial⟩ ?_
                refine WC.cond rfl (fun h91 => ?_) (fun h91 => ?_)
                ·
                  have p91 := (eq_f (not_t h91))
                  refine WC.seq (fun K92 k92 => ?_)
                  refine WC.region rfl ?_
                  refine WL.yld rfl (blt rfl) rfl (Y.move rfl rfl) ?_
                  refine WL.yld rfl (blt rfl) rfl (Y.assign rfl rfl) ?_
                  refine WL.nil ?_
                  refine WK.then_normal (k92 _ _ ?_)
                  refine WC.sub [(2, _)] ⟨rfl, trivial⟩ ?_
                  refine WC.ret ?_
                  refine WK.in_ret ?_
                  refine WK.then_ret ?_
                  refine WK.then_ret ?_
                  refine WK.in_ret ?_
                  refine WK.then_ret ?_
                  clear k1 k7 k8 k11 k14 k20 k21 k28 k31 k32 k34 k35 k37 k38 k48 k49 k50 k78 k79 k84 k90 k92
                  refine WK.ret [_] rfl ⟨rfl, trivial⟩ ?_
                  refine ⟨ret1 (vi ?_), xW⟩
                  rw [Sx.grp_agg (by have q := h9; simp only [Bool.and_eq_true, Bool.or_eq_true, Bool.not_eq_true', Bool.and_eq_false_iff, Bool.or_eq_false_iff, Bool.not_eq_false', decide_eq_true_eq, decide_eq_false_iff_not, beq_iff_eq, beq_eq_false_iff_ne, ne_eq] at q; omega) (by have q := h12; simp only [Bool.and_eq_true, Bool.or_eq_true, Bool.not_eq_true', Bool.and_eq_false_iff, Bool.or_eq_false_iff, Bool.not_eq_false', decide_eq_true_eq, decide_eq_false_iff_not, beq_iff_eq, beq_eq_false_iff_ne, ne_eq] at q; omega) z0a]
                  exact (Sx.agg_hit (show i < s.al.length from by omega) inv_i (Sx.agg_add zb zc) (by have q := h91; simp only [Bool.and_eq_true, Bool.or_eq_true, Bool.not_eq_true', Bool.and_eq_false_iff, Bool.or_eq_false_iff, Bool.not_eq_false', decide_eq_true_eq, decide_eq_false_iff_not, beq_iff_eq, beq_eq_false_iff_ne, ne_eq] at q; exact q)).symm
                ·
                  have p91 := (eq_t (not_f h91))
                  have z0 : Sx.addE (s.cl ++ (s.al.take i).map Sx.Ag.as_) s.al[i]!.as_ = 0 := (by have q := h91; simp only [Bool.and_eq_true, Bool.or_eq_true, Bool.not_eq_true', Bool.and_eq_false_iff, Bool.or_eq_false_iff, Bool.not_eq_false', decide_eq_true_eq, decide_eq_false_iff_not, beq_iff_eq, beq_eq_false_iff_ne, ne_eq] at q; exact q)
                  refine WC.skip ?_
                  refine WK.in_normal ?_
                  refine WK.then_normal (k37 _ _ ?_)
                  refine WC.sub [(3, _), (36, _), (37, _), (38, _)] ⟨rfl, rfl, rfl, rfl, trivial⟩ ?_
                  refine WC.region rfl ?_
                  refine WL.yld rfl (blt rfl) rfl (Y.add rfl rfl rfl (wrap_i64 (by first | omega | (dsimp only; omega)))) ?_
                  refine WL.yld rfl (blt rfl) rfl (Y.move rfl rfl) ?_
                  refine WL.nil ?_
                  refine WK.roundS _ [(38, .int .i64 (((i + 1) : Nat) : Int))] ⟨rfl, rfl, rfl, rfl, trivial⟩ ?_ ⟨(i + 1), v87, rfl, rfl, xW, m88, (by have q := ow89; rw [if_pos z0] at q; rw [Sx.map_next (show i < s.al.length from by omega), ← List.append_assoc]; exact q), r_v87_g15, (by omega), (fun j hj => by rcases Nat.lt_succ_iff_lt_or_eq.1 hj with h | h; exact inv_i j h; rw [h]; exact ((Sx.agg_add zb zc).trans z0))⟩
                  show _ - (i + 1) < _ - i; omega
        ·
          have p36 := (dec_f h36)
          refine WC.exit ?_
          refine WK.then_exit ?_
          refine WK.then_exit ?_
          refine WK.in_exit ?_
          refine WK.then_normal (k31 _ _ ?_)
          refine WC.sub [] trivial ?_
          refine WC.seq (fun K93 k93 => ?_)
          refine WC.region rfl ?_
          refine WL.yld rfl (blt rfl) rfl (Y.assign rfl rfl) ?_
          refine WL.nil ?_
          refine WK.then_normal (k93 _ _ ?_)
          refine WC.ret ?_
          clear k1 k7 k8 k11 k14 k20 k21 k28 k31 k32 k34 k35 k93
          refine WK.ret [_] rfl ⟨rfl, trivial⟩ ?_
          refine ⟨ret1 (vi ?_), xW⟩
          rw [Sx.grp_agg (by have q := h9; simp only [Bool.and_eq_true, Bool.or_eq_true, Bool.not_eq_true', Bool.and_eq_false_iff, Bool.or_eq_false_iff, Bool.not_eq_false', decide_eq_true_eq, decide_eq_false_iff_not, beq_iff_eq, beq_eq_false_iff_ne, ne_eq] at q; omega) (by have q := h12; simp only [Bool.and_eq_true, Bool.or_eq_true, Bool.not_eq_true', Bool.and_eq_false_iff, Bool.or_eq_false_iff, Bool.not_eq_false', decide_eq_true_eq, decide_eq_false_iff_not, beq_iff_eq, beq_eq_false_iff_ne, ne_eq] at q; omega) z0a]
          exact (Sx.agg_ok fun j hj => inv_i j (by omega)).symm
end E
end SxW

end Go.Proofs.Ytklccakoblibmaa
