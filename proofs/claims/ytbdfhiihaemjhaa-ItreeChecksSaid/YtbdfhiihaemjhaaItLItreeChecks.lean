/- The walk of the law. Conditions: what each theorem states. -/
import Derived.Test.YtbdfhiihaemjhaaItAwake
namespace Go.Proofs.Ytbdfhiihaemjhaa
open Go Go.Eng Go.RowKit
set_option linter.unusedVariables false
namespace ItW
open M O Vi X R A
namespace LItreeChecks
theorem ti3 : TI Try.prog 3 (.int .i64 0) 1 8 := TI.mk (by kernel_rfl)
theorem ti26 : TI Try.prog 26 (.agg #[.slice none 0 0, .slice none 0 0]) 2 48 := TI.mk (by kernel_rfl)
theorem ti32 : TI Try.prog 32 (.agg #[.int .i64 0, .int .i64 0]) 2 16 := TI.mk (by kernel_rfl)
theorem has8 : Has Try.prog 8 := ⟨_, Try.func8, rfl, by kernel_rfl⟩
theorem has11 : Has Try.prog 11 := ⟨_, Try.func11, rfl, by kernel_rfl⟩
theorem has12 : Has Try.prog 12 := ⟨_, Try.func12, rfl, by kernel_rfl⟩
theorem has13 : Has Try.prog 13 := ⟨_, Try.func13, rfl, by kernel_rfl⟩
theorem has14 : Has Try.prog 14 := ⟨_, Try.func14, rfl, by kernel_rfl⟩
theorem has15 : Has Try.prog 15 := ⟨_, Try.func15, rfl, by kernel_rfl⟩
theorem has16 : Has Try.prog 16 := ⟨_, Try.func16, rfl, by kernel_rfl⟩
theorem has17 : Has Try.prog 17 := ⟨_, Try.func17, rfl, by kernel_rfl⟩
theorem has18 : Has Try.prog 18 := ⟨_, Try.func18, rfl, by kernel_rfl⟩
theorem has19 : Has Try.prog 19 := ⟨_, Try.func19, rfl, by kernel_rfl⟩
theorem has20 : Has Try.prog 20 := ⟨_, Try.func20, rfl, by kernel_rfl⟩
theorem ItreeChecks_any (A_l : Option Addr) (n_l c_l : Nat) (l : List Sp.S) (A_p : Option Addr) (n_p c_p : Nat) (p : List Int) (A_q : Option Addr) (n_q c_q : Nat) (q : List Int) (s : Sp.S) (w : World) (h_l : Ls w A_l n_l c_l Sp.S.c 2 l) (h_p : Ls w A_p n_p c_p Sp.ic 1 p) (h_q : Ls w A_q n_q c_q Sp.ic 1 q) (hv : ∀ x ∈ l, It.low ≤ x.t) :
    Calls Try.prog 4 #[.slice A_l n_l c_l, .agg #[.slice A_p n_p c_p, .slice A_q n_q c_q], .agg #[.int .i64 s.f, .int .i64 s.t]] w fun e w' => e = .returned (.bool true) ∧ Ext w w' := by
  have xW := Ext.refl w
  have e_l := h_l.len
  have z_l := h_l.nle
  have e_p := h_p.len
  have z_p := h_p.nle
  have e_q := h_q.len
  have z_q := h_q.nle
  refine calls_of_WC (args := [.slice A_l n_l c_l, .agg #[.slice A_p n_p c_p, .slice A_q n_q c_q], .agg #[.int .i64 s.f, .int .i64 s.t]]) Try.func4 rfl rfl (ble rfl) ?_
  refine WC.seq (fun K1 k1 => ?_)
  refine WC.region rfl ?_
  refine WL.box rfl (blt rfl) rfl rfl rfl rfl ?_
  intro g2 w3 e4 x5 m6
  have o_g2 := own_new xW e4
  have xW := Ext.trans xW x5
  refine WL.box rfl (blt rfl) rfl rfl rfl rfl ?_
  intro g7 w8 e9 x10 m11
  have n_g2_g7 := ne_new m6 e9
  have o_g7 := own_new xW e9
  have m6 := m6.ext x10
  have xW := Ext.trans xW x10
  refine WL.yld rfl (blt rfl) rfl (Y.assign rfl rfl) ?_
  refine WL.nil ?_
  refine WK.then_normal (k1 _ _ ?_)
  refine WC.sub [(0, _), (4, _), (5, _)] ⟨rfl, rfl, rfl, trivial⟩ ?_
  refine WC.seq (fun K12 k12 => ?_)
  refine WC.seq (fun K13 k13 => ?_)
  refine WC.region rfl ?_
  refine WL.yld rfl (blt rfl) rfl (Y.move rfl rfl) ?_
  refine WL.yld rfl (blt rfl) rfl (Y.loadS rfl Try.underlying26 rfl ti26 rfl (Blk.row_eq m6)) ?_
  refine WL.call rfl (blt rfl) rfl rfl rfl has13 rfl (few_any _ _ _ _ _ _ _ _ _ _ _ _ _ (h_l.ext xW) (h_p.ext xW) (h_q.ext xW)) ?_
  rintro _ w14 ⟨rfl, x15⟩
  refine ⟨_, rfl, ?_⟩
  have m6 := m6.ext x15
  have m11 := m11.ext x15
  have xW := Ext.trans xW x15
  refine WL.yld rfl (blt rfl) rfl (Y.not rfl rfl) ?_
  refine WL.nil ?_
  refine WK.then_normal (k13 _ _ ?_)
  refine WC.sub [(0, _), (4, _), (5, _), (10, _)] ⟨rfl, rfl, rfl, rfl, trivial⟩ ?_
  refine WC.cond rfl (fun h16 => ?_) (fun h16 => ?_)
  ·
    have p16 := ((and_f (not_t h16)).imp (fun h => ((and_f h).imp (fun h => (dec_f h)) (fun h => (dec_f h)))) (fun h => (dec_f h)))
    refine WC.seq (fun K17 k17 => ?_)
    refine WC.region rfl ?_
    refine WL.call rfl (blt rfl) rfl rfl rfl has8 rfl (awake_any _ ) ?_
    rintro _ w18 ⟨rfl, x19⟩
    refine ⟨_, rfl, ?_⟩
    have m6 := m6.ext x19
    have m11 := m11.ext x19
    have xW := Ext.trans xW x19
    refine WL.yld rfl (blt rfl) rfl (Y.assign rfl rfl) ?_
    refine WL.nil ?_
    refine WK.then_normal (k17 _ _ ?_)
    refine WC.sub [(6, _)] ⟨rfl, trivial⟩ ?_
    refine WC.ret ?_
    refine WK.then_ret ?_
    clear k1 k12 k13 k17
    refine WK.ret [_] rfl ⟨rfl, trivial⟩ ?_
    exact ⟨ret1 (vb rfl), xW⟩
  ·
    have p16 := (And.intro (And.intro (dec_t (and_t (and_t (not_f h16)).1).1) (dec_t (and_t (and_t (not_f h16)).1).2)) (dec_t (and_t (not_f h16)).2))
    refine WC.skip ?_
    refine WK.then_normal (k12 _ _ ?_)
    refine WC.sub [(0, _), (4, _), (5, _)] ⟨rfl, rfl, rfl, trivial⟩ ?_
    refine WC.seq (fun K20 k20 => ?_)
    refine WC.regionX (fun W' => Ext w W' ∧ Blk W' g2 26 _ ∧ Blk W' g7 32 _) (.load 0 (.load 1 (.load 3 (.load 4 (.alt 2 (.alt 5 (.load 6 (.load 7 (.load 8 (.load 9 (.load 10 (.load 12 (.load 13 (.load 14 (.alt 11 (.alt 15 (.alt 16 (.load 17 (.load 18 (.load 19 (.load 20 (.load 21 (.load 22 (.load 24 (.load 25 (.load 26 (.load 27 (.alt 23 (.alt 28 (.alt 29 (.load 30 (.load 31 (.load 32 (.load 33 (.load 34 (.load 36 (.load 37 (.load 38 (.alt 35 (.alt 39 (.load 40 (.load 41 (.load 42 (.alt 43 (.load 44 (.load 45 (.fin))) (.none))))) (.none)) (.none)))))))))) (.none)) (.none)) (.none)))))))))))) (.none)) (.none)) (.none)))))))))) (.none)) (.none)))))) ⟨xW, m6, m11⟩ (by kernel_rfl) (by kernel_rfl) (fun w21 x22 => ?_)
    have m6 := m6.ext x22
    have m11 := m11.ext x22
    have xW := Ext.trans xW x22
    refine WX.yld rfl rfl (blt rfl) rfl (Y.move rfl rfl) ?_
    refine WX.yld rfl rfl (blt rfl) rfl (Y.loadS rfl Try.underlying26 rfl ti26 rfl (Blk.row_c (fun _ h => h.2.1))) ?_
    refine WX.yld rfl rfl (blt rfl) rfl (Y.move rfl rfl) ?_
    refine WX.yld rfl rfl (blt rfl) rfl (Y.loadS rfl Try.underlying26 rfl ti26 rfl (Blk.row_c (fun _ h => h.2.1))) ?_
    refine WX.call rfl rfl (blt rfl) rfl rfl rfl has12 rfl ⟨xW, m6, m11⟩ (check_any _ _ _ _ _ _ _ _ _ _ _ _ _ (h_l.ext xW) (h_p.ext xW) (h_q.ext xW) (by omega)) ?_
    rintro _ w23 ⟨rfl, x24⟩
    refine ⟨_, rfl, ?_⟩
    have m6 := m6.ext x24
    have m11 := m11.ext x24
    have xW := Ext.trans xW x24
    refine WX.call rfl rfl (blt rfl) rfl rfl rfl has14 rfl ⟨xW, m6, m11⟩ (rcheck_any _ _ _ _ _ _ _ _ _ _ _ _ _ (h_l.ext xW) (h_p.ext xW) (h_q.ext xW) (by omega) hv) ?_
    rintro _ w25 ⟨rfl, x26⟩
    refine ⟨_, rfl, ?_⟩
    have m6 := m6.ext x26
    have m11 := m11.ext x26
    have xW := Ext.trans xW x26
    refine WX.yld rfl rfl (blt rfl) rfl (Y.eqlB rfl Try.underlying4 rfl rfl) ?_
    refine WX.yld rfl rfl (blt rfl) rfl (Yld.cast (Y.move rfl rfl) (vb (b := true) (beq_self_eq_true _))) ?_
    refine WX.yldW rfl rfl (blt rfl) rfl rfl rfl (Y.move rfl rfl) ?_
    refine WX.yldW rfl rfl (blt rfl) rfl rfl rfl (Y.loadS rfl Try.underlying26 rfl ti26 rfl (Blk.row_c (fun _ h => h.2.1))) ?_
    refine WX.yldW rfl rfl (blt rfl) rfl rfl rfl (Y.loadS rfl Try.underlying32 rfl ti32 rfl (Blk.row_c (fun _ h => h.2.2))) ?_
    refine WX.yldW rfl rfl (blt rfl) rfl rfl rfl (Y.move rfl rfl) ?_
    refine WX.yldW rfl rfl (blt rfl) rfl rfl rfl (Y.loadS rfl Try.underlying26 rfl ti26 rfl (Blk.row_c (fun _ h => h.2.1))) ?_
    refine WX.yldW rfl rfl (blt rfl) rfl rfl rfl (Y.loadS rfl Try.underlying32 rfl ti32 rfl (Blk.row_c (fun _ h => h.2.2))) ?_
    refine WX.callW rfl rfl (blt rfl) rfl rfl rfl rfl rfl has15 rfl ⟨xW, m6, m11⟩ (overlap_any _ _ _ _ _ _ _ _ _ _ _ _ _ _ (h_l.ext xW) (h_p.ext xW) (h_q.ext xW) (by omega)) ?_
    rintro _ w27 ⟨v29, rfl, ow30, x28⟩
    refine ⟨_, rfl, ?_⟩
    have r_v29_g2 := ne_res ow30 m6
    have r_v29_g7 := ne_res ow30 m11
    have ow30 := OwnL.base_le ow30 xW.size
    have m6 := m6.ext x28
    have m11 := m11.ext x28
    have xW := Ext.trans xW x28
    refine WX.callW rfl rfl (blt rfl) rfl rfl rfl rfl rfl has16 rfl ⟨xW, m6, m11⟩ (roverlap_any _ _ _ _ _ _ _ _ _ _ _ _ _ _ (h_l.ext xW) (h_p.ext xW) (h_q.ext xW) (by omega) hv) ?_
    rintro _ w31 ⟨v33, rfl, ow34, x32⟩
    refine ⟨_, rfl, ?_⟩
    have r_v33_g2 := ne_res ow34 m6
    have r_v33_g7 := ne_res ow34 m11
    have d_v29_v33 := (Apart.res ow34 ow30).symm
    have ow34 := OwnL.base_le ow34 xW.size
    have m6 := m6.ext x32
    have m11 := m11.ext x32
    have ow30 := ow30.ext x32
    have xW := Ext.trans xW x32
    obtain ⟨A35, n36, c37, rfl, hl38⟩ := OwnL.opened ow30 (fun _ => rfl) (by decide)
    have e_n36 := hl38.len
    try simp only [List.length_append, List.length_cons, List.length_nil, List.length_reverse, List.length_drop, List.length_take, List.length_map, List.length_replicate] at e_n36
    have z_n36 := hl38.nle
    obtain ⟨A39, n40, c41, rfl, hl42⟩ := OwnL.opened ow34 (fun _ => rfl) (by decide)
    have e_n40 := hl42.len
    try simp only [List.length_append, List.length_cons, List.length_nil, List.length_reverse, List.length_drop, List.length_take, List.length_map, List.length_replicate] at e_n40
    have z_n40 := hl42.nle
    refine WX.callW rfl rfl (blt rfl) rfl rfl rfl rfl rfl has11 rfl ⟨xW, m6, m11⟩ (same_any _ _ _ _ _ _ _ _ _ hl38 hl42) ?_
    rintro _ w43 ⟨rfl, x44⟩
    refine ⟨_, rfl, ?_⟩
    have m6 := m6.ext x44
    have m11 := m11.ext x44
    have ow30 := ow30.ext x44
    have hl38 := hl38.ext x44
    have ow34 := ow34.ext x44
    have hl42 := hl42.ext x44
    have xW := Ext.trans xW x44
    refine WX.yld rfl rfl (blt rfl) rfl (Yld.cast (Y.pickT rfl rfl rfl) (vb (b := true) (decide_eq_true rfl))) ?_
    refine WX.yld rfl rfl (blt rfl) rfl (Y.move rfl rfl) ?_
    refine WX.yldW rfl rfl (blt rfl) rfl rfl rfl (Y.move rfl rfl) ?_
    refine WX.yldW rfl rfl (blt rfl) rfl rfl rfl (Y.loadS rfl Try.underlying26 rfl ti26 rfl (Blk.row_c (fun _ h => h.2.1))) ?_
    refine WX.yldW rfl rfl (blt rfl) rfl rfl rfl (Y.fieldAddr rfl Try.underlying32 rfl ti3 (by decide) rfl) ?_
    refine WX.yldW rfl rfl (blt rfl) rfl rfl rfl (Y.load1 rfl Try.underlying3 rfl rfl (Blk.at_c (fun _ h => h.2.2) rfl)) ?_
    refine WX.yldW rfl rfl (blt rfl) rfl rfl rfl (Y.move rfl rfl) ?_
    refine WX.yldW rfl rfl (blt rfl) rfl rfl rfl (Y.loadS rfl Try.underlying26 rfl ti26 rfl (Blk.row_c (fun _ h => h.2.1))) ?_
    refine WX.yldW rfl rfl (blt rfl) rfl rfl rfl (Y.fieldAddr rfl Try.underlying32 rfl ti3 (by decide) rfl) ?_
    refine WX.yldW rfl rfl (blt rfl) rfl rfl rfl (Y.load1 rfl Try.underlying3 rfl rfl (Blk.at_c (fun _ h => h.2.2) rfl)) ?_
    refine WX.callW rfl rfl (blt rfl) rfl rfl rfl rfl rfl has17 rfl ⟨xW, m6, m11⟩ (stab_any _ _ _ _ _ _ _ _ _ _ _ _ _ _ (h_l.ext xW) (h_p.ext xW) (h_q.ext xW) (by omega)) ?_
    rintro _ w45 ⟨v47, rfl, ow48, x46⟩
    refine ⟨_, rfl, ?_⟩
    have r_v47_g2 := ne_res ow48 m6
    have r_v47_g7 := ne_res ow48 m11
    have d_v29_v47 := (Apart.res ow48 ow30).symm
    have d_v33_v47 := (Apart.res ow48 ow34).symm
    have ow48 := OwnL.base_le ow48 xW.size
    have m6 := m6.ext x46
    have m11 := m11.ext x46
    have ow30 := ow30.ext x46
    have hl38 := hl38.ext x46
    have ow34 := ow34.ext x46
    have hl42 := hl42.ext x46
    have xW := Ext.trans xW x46
    refine WX.callW rfl rfl (blt rfl) rfl rfl rfl rfl rfl has18 rfl ⟨xW, m6, m11⟩ (rstab_any _ _ _ _ _ _ _ _ _ _ _ _ _ _ (h_l.ext xW) (h_p.ext xW) (h_q.ext xW) (by omega) hv) ?_
    rintro _ w49 ⟨v51, rfl, ow52, x50⟩
    refine ⟨_, rfl, ?_⟩
    have r_v51_g2 := ne_res ow52 m6
    have r_v51_g7 := ne_res ow52 m11
    have d_v29_v51 := (Apart.res ow52 ow30).symm
    have d_v33_v51 := (Apart.res ow52 ow34).symm
    have d_v47_v51 := (Apart.res ow52 ow48).symm
    have ow52 := OwnL.base_le ow52 xW.size
    have m6 := m6.ext x50
    have m11 := m11.ext x50
    have ow30 := ow30.ext x50
    have hl38 := hl38.ext x50
    have ow34 := ow34.ext x50
    have hl42 := hl42.ext x50
    have ow48 := ow48.ext x50
    have xW := Ext.trans xW x50
    obtain ⟨A53, n54, c55, rfl, hl56⟩ := OwnL.opened ow48 (fun _ => rfl) (by decide)
    have e_n54 := hl56.len
    try simp only [List.length_append, List.length_cons, List.length_nil, List.length_reverse, List.length_drop, List.length_take, List.length_map, List.length_replicate] at e_n54
    have z_n54 := hl56.nle
    obtain ⟨A57, n58, c59, rfl, hl60⟩ := OwnL.opened ow52 (fun _ => rfl) (by decide)
    have e_n58 := hl60.len
    try simp only [List.length_append, List.length_cons, List.length_nil, List.length_reverse, List.length_drop, List.length_take, List.length_map, List.length_replicate] at e_n58
    have z_n58 := hl60.nle
    refine WX.callW rfl rfl (blt rfl) rfl rfl rfl rfl rfl has11 rfl ⟨xW, m6, m11⟩ (same_any _ _ _ _ _ _ _ _ _ hl56 hl60) ?_
    rintro _ w61 ⟨rfl, x62⟩
    refine ⟨_, rfl, ?_⟩
    have m6 := m6.ext x62
    have m11 := m11.ext x62
    have ow30 := ow30.ext x62
    have hl38 := hl38.ext x62
    have ow34 := ow34.ext x62
    have hl42 := hl42.ext x62
    have ow48 := ow48.ext x62
    have hl56 := hl56.ext x62
    have ow52 := ow52.ext x62
    have hl60 := hl60.ext x62
    have xW := Ext.trans xW x62
    refine WX.yld rfl rfl (blt rfl) rfl (Yld.cast (Y.pickT rfl rfl rfl) (vb (b := true) (decide_eq_true rfl))) ?_
    refine WX.yld rfl rfl (blt rfl) rfl (Y.move rfl rfl) ?_
    refine WX.yldW rfl rfl (blt rfl) rfl rfl rfl (Y.move rfl rfl) ?_
    refine WX.yldW rfl rfl (blt rfl) rfl rfl rfl (Y.loadS rfl Try.underlying26 rfl ti26 rfl (Blk.row_c (fun _ h => h.2.1))) ?_
    refine WX.yldW rfl rfl (blt rfl) rfl rfl rfl (Y.loadS rfl Try.underlying32 rfl ti32 rfl (Blk.row_c (fun _ h => h.2.2))) ?_
    refine WX.yldW rfl rfl (blt rfl) rfl rfl rfl (Y.move rfl rfl) ?_
    refine WX.yldW rfl rfl (blt rfl) rfl rfl rfl (Y.loadS rfl Try.underlying26 rfl ti26 rfl (Blk.row_c (fun _ h => h.2.1))) ?_
    refine WX.yldW rfl rfl (blt rfl) rfl rfl rfl (Y.loadS rfl Try.underlying32 rfl ti32 rfl (Blk.row_c (fun _ h => h.2.2))) ?_
    refine WX.callW rfl rfl (blt rfl) rfl rfl rfl rfl rfl has19 rfl ⟨xW, m6, m11⟩ (visits_any _ _ _ _ _ _ _ _ _ _ _ _ _ _ (h_l.ext xW) (h_p.ext xW) (h_q.ext xW) (by omega)) ?_
    rintro _ w63 ⟨rfl, x64⟩
    refine ⟨_, rfl, ?_⟩
    have m6 := m6.ext x64
    have m11 := m11.ext x64
    have ow30 := ow30.ext x64
    have hl38 := hl38.ext x64
    have ow34 := ow34.ext x64
    have hl42 := hl42.ext x64
    have ow48 := ow48.ext x64
    have hl56 := hl56.ext x64
    have ow52 := ow52.ext x64
    have hl60 := hl60.ext x64
    have xW := Ext.trans xW x64
    refine WX.callW rfl rfl (blt rfl) rfl rfl rfl rfl rfl has20 rfl ⟨xW, m6, m11⟩ (rvisitsC_any _ _ _ _ _ _ _ _ _ _ _ _ _ _ (h_l.ext xW) (h_p.ext xW) (h_q.ext xW) (by omega) hv) ?_
    rintro _ w65 ⟨rfl, x66⟩
    refine ⟨_, rfl, ?_⟩
    have m6 := m6.ext x66
    have m11 := m11.ext x66
    have ow30 := ow30.ext x66
    have hl38 := hl38.ext x66
    have ow34 := ow34.ext x66
    have hl42 := hl42.ext x66
    have ow48 := ow48.ext x66
    have hl56 := hl56.ext x66
    have ow52 := ow52.ext x66
    have hl60 := hl60.ext x66
    have xW := Ext.trans xW x66
    refine WX.yldW rfl rfl (blt rfl) rfl rfl rfl (Yld.cast (Y.eql rfl rfl rfl) (vb (b := true) (beq_self_eq_true _))) ?_
    refine WX.yld rfl rfl (blt rfl) rfl (Y.pickT rfl rfl rfl) ?_
    refine WX.yld rfl rfl (blt rfl) rfl (Y.move rfl rfl) ?_
    refine WX.callW rfl rfl (blt rfl) rfl rfl rfl rfl rfl has8 rfl ⟨xW, m6, m11⟩ (awake_any _ ) ?_
    rintro _ w67 ⟨rfl, x68⟩
    refine ⟨_, rfl, ?_⟩
    have m6 := m6.ext x68
    have m11 := m11.ext x68
    have ow30 := ow30.ext x68
    have hl38 := hl38.ext x68
    have ow34 := ow34.ext x68
    have hl42 := hl42.ext x68
    have ow48 := ow48.ext x68
    have hl56 := hl56.ext x68
    have ow52 := ow52.ext x68
    have hl60 := hl60.ext x68
    have xW := Ext.trans xW x68
    refine WX.yld rfl rfl (blt rfl) rfl (Y.pickT rfl rfl rfl) ?_
    refine WX.yld rfl rfl (blt rfl) rfl (Y.assign rfl rfl) ?_
    refine WX.nil ⟨xW, m6, m11⟩ ?_
    refine WK.then_normal (k20 _ _ ?_)
    refine WC.sub [(6, _)] ⟨rfl, trivial⟩ ?_
    refine WC.ret ?_
    clear k1 k12 k13 k20
    refine WK.ret [_] rfl ⟨rfl, trivial⟩ ?_
    exact ⟨ret1 (vb rfl), xW⟩
end LItreeChecks
end ItW

end Go.Proofs.Ytbdfhiihaemjhaa
