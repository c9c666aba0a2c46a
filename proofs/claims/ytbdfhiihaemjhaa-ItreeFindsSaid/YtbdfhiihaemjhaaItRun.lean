/- Contracts: overlapping spans. Conditions: what each theorem states. -/
import Derived.Test.YtbdfhiihaemjhaaItExam
namespace Go.Proofs.Ytbdfhiihaemjhaa
open Go Go.Eng Go.RowKit
set_option linter.unusedVariables false
namespace ItW
open M O Vi X
namespace R
theorem ti3 : TI Try.prog 3 (.int .i64 0) 1 8 := TI.mk (by kernel_rfl)
theorem ti24 : TI Try.prog 24 (.slice none 0 0) 1 24 := TI.mk (by kernel_rfl)
theorem ti26 : TI Try.prog 26 (.agg #[.slice none 0 0, .slice none 0 0]) 2 48 := TI.mk (by kernel_rfl)
theorem ti32 : TI Try.prog 32 (.agg #[.int .i64 0, .int .i64 0]) 2 16 := TI.mk (by kernel_rfl)
theorem ti49 : TI Try.prog 49 (.agg #[.slice none 0 0, .slice none 0 0, .slice none 0 0, .int .i64 0, .int .i64 0, .slice none 0 0, .int .i64 0]) 7 120 := TI.mk (by kernel_rfl)
theorem has12 : Has Try.prog 12 := ⟨_, Try.func12, rfl, by kernel_rfl⟩
theorem has14 : Has Try.prog 14 := ⟨_, Try.func14, rfl, by kernel_rfl⟩
theorem has15 : Has Try.prog 15 := ⟨_, Try.func15, rfl, by kernel_rfl⟩
theorem has31 : Has Try.prog 31 := ⟨_, Try.func31, rfl, by kernel_rfl⟩
theorem has32 : Has Try.prog 32 := ⟨_, Try.func32, rfl, by kernel_rfl⟩
theorem has33 : Has Try.prog 33 := ⟨_, Try.func33, rfl, by kernel_rfl⟩
theorem has41 : Has Try.prog 41 := ⟨_, Try.func41, rfl, by kernel_rfl⟩
theorem has42 : Has Try.prog 42 := ⟨_, Try.func42, rfl, by kernel_rfl⟩
theorem pl32 : PL Try.prog 32 [.int .i64 0, .int .i64 0] [(0, 1), (1, 1)] := PL.mk (zero := [.int .i64 0, .int .i64 0]) ti32 Try.underlying32 (by kernel_rfl)
theorem pl49 : PL Try.prog 49 [.slice none 0 0, .slice none 0 0, .slice none 0 0, .int .i64 0, .int .i64 0, .slice none 0 0, .int .i64 0] [(0, 1), (1, 2), (3, 2), (5, 1), (6, 1)] := PL.mk (zero := [.slice none 0 0, .slice none 0 0, .slice none 0 0, .int .i64 0, .int .i64 0, .slice none 0 0, .int .i64 0]) ti49 Try.underlying49 (by kernel_rfl)
theorem run_any (A_l : Option Addr) (n_l c_l : Nat) (l : List Sp.S) (A_p : Option Addr) (n_p c_p : Nat) (p : List Int) (A_q : Option Addr) (n_q c_q : Nat) (q : List Int) (s : Sp.S) (w : World) (h_l : Ls w A_l n_l c_l Sp.S.c 2 l) (h_p : Ls w A_p n_p c_p Sp.ic 1 p) (h_q : Ls w A_q n_q c_q Sp.ic 1 q) (hn : n_l ≤ 10000) :
    Calls Try.prog 31 #[.slice A_l n_l c_l, .agg #[.slice A_p n_p c_p, .slice A_q n_q c_q], .agg #[.int .i64 s.f, .int .i64 s.t]] w fun e w' => ∃ (g : Nat) (v : Value), e = .returned (.pointer (some ⟨g, 0, none⟩)) ∧ Blk w' g 49 [.slice A_l n_l c_l, .slice A_p n_p c_p, .slice A_q n_q c_q, .int .i64 s.f, .int .i64 s.t, v, .int .i64 (It.visC l p q s)] ∧ OwnL w' w.heap.size 3 Sp.ic 1 v (It.overC l p q s) ∧ Ext w w' := by
  have xW := Ext.refl w
  have e_l := h_l.len
  have z_l := h_l.nle
  have e_p := h_p.len
  have z_p := h_p.nle
  have e_q := h_q.len
  have z_q := h_q.nle
  refine calls_of_WC (args := [.slice A_l n_l c_l, .agg #[.slice A_p n_p c_p, .slice A_q n_q c_q], .agg #[.int .i64 s.f, .int .i64 s.t]]) Try.func31 rfl rfl (ble rfl) ?_
  refine WC.seq (fun K1 k1 => ?_)
  refine WC.region rfl ?_
  refine WL.box rfl (blt rfl) rfl rfl rfl rfl ?_
  intro g2 w3 e4 x5 m6
  have o_g2 := own_new xW e4
  have xW := Ext.trans xW x5
  refine WL.box rfl (blt rfl) rfl rfl rfl rfl ?_
  intro g7 w8 e9 x10 m11
  have n_g2_g7 := ne_new m6 e9
  have o_g7 := own_new xW e9
  have m6 := m6.ext x10
  have xW := Ext.trans xW x10
  refine WL.yld rfl (blt rfl) rfl (Y.assign rfl rfl) ?_
  refine WL.nil ?_
  refine WK.then_normal (k1 _ _ ?_)
  refine WC.sub [(0, _), (4, _), (5, _)] ⟨rfl, rfl, rfl, trivial⟩ ?_
  refine WC.seq (fun K12 k12 => ?_)
  refine WC.region rfl ?_
  refine WL.yld rfl (blt rfl) rfl (Y.move rfl rfl) ?_
  refine WL.yld rfl (blt rfl) rfl (Y.loadS rfl Try.underlying26 rfl ti26 rfl (Blk.row_eq m6)) ?_
  refine WL.yld rfl (blt rfl) rfl (Y.loadS rfl Try.underlying32 rfl ti32 rfl (Blk.row_eq m11)) ?_
  refine WL.yld rfl (blt rfl) rfl (Y.build (cells := [_, _, _, _, _, _, _]) rfl pl49 rfl rfl) ?_
  refine WL.box rfl (blt rfl) rfl rfl rfl rfl ?_
  intro g13 w14 e15 x16 m17
  have n_g2_g13 := ne_new m6 e15
  have n_g7_g13 := ne_new m11 e15
  have o_g13 := own_new xW e15
  have m6 := m6.ext x16
  have m11 := m11.ext x16
  have xW := Ext.trans xW x16
  refine WL.yld rfl (blt rfl) rfl (Y.assign rfl rfl) ?_
  refine WL.nil ?_
  refine WK.then_normal (k12 _ _ ?_)
  refine WC.sub [(0, _), (4, _), (7, _)] ⟨rfl, rfl, rfl, trivial⟩ ?_
  refine WC.seq (fun K18 k18 => ?_)
  refine WC.seq (fun K19 k19 => ?_)
  refine WC.region rfl ?_
  refine WL.yld rfl (blt rfl) rfl (Y.move rfl rfl) ?_
  refine WL.yld rfl (blt rfl) rfl (Y.loadS rfl Try.underlying26 rfl ti26 rfl (Blk.row_eq m6)) ?_
  refine WL.call rfl (blt rfl) rfl rfl rfl has12 rfl (check_any _ _ _ _ _ _ _ _ _ _ _ _ _ (h_l.ext xW) (h_p.ext xW) (h_q.ext xW) (by omega)) ?_
  rintro _ w20 ⟨rfl, x21⟩
  refine ⟨_, rfl, ?_⟩
  have m6 := m6.ext x21
  have m17 := m17.ext x21
  have xW := Ext.trans xW x21
  refine WL.nil ?_
  refine WK.then_normal (k19 _ _ ?_)
  refine WC.sub [(0, _), (7, _), (15, _)] ⟨rfl, rfl, rfl, trivial⟩ ?_
  refine WC.cond rfl (fun h22 => ?_) (fun h22 => ?_)
  ·
    obtain ⟨ep, eq⟩ := It.chk_yes h22
    subst ep; subst eq
    have ml := It.most_len l
    have ol := It.ord_len l l.length
    refine WC.region rfl ?_
    refine WL.yld rfl (blt rfl) rfl (Y.move rfl rfl) ?_
    refine WL.yld rfl (blt rfl) rfl (Y.move rfl rfl) ?_
    refine WL.yld rfl (blt rfl) rfl (Y.lenSl rfl rfl rfl Try.underlying22 rfl) ?_
    refine WL.call rfl (blt rfl) rfl rfl rfl has41 rfl (examine_any _ _ _ _ _ _ _ _ (It.ordN l l.length) _ _ _ _ s l.length (fun j hj => by have q := It.ordN_lt l hj; omega) (It.ordN_len l _) (It.most_len l) (by omega) h_l h_p h_q _ o_g13 _ 0 n_l _ _ _ _ rfl (by omega) (by omega) (by omega) (by simp only [List.length_nil]; omega) xW m17 OwnL.nil_ ne_nil) ?_
    rintro _ w23 ⟨v25, rfl, m26, ow27, r_v25_g13, x24⟩
    refine ⟨_, rfl, ?_⟩
    have xW := x24
    refine WL.nil ?_
    refine WK.then_normal (k18 _ _ ?_)
    refine WC.sub [(7, _)] ⟨rfl, trivial⟩ ?_
    refine WC.seq (fun K29 k29 => ?_)
    refine WC.region rfl ?_
    refine WL.yld rfl (blt rfl) rfl (Y.move rfl rfl) ?_
    refine WL.yld rfl (blt rfl) rfl (Y.nilCheck rfl rfl) ?_
    refine WL.yld rfl (blt rfl) rfl (Y.fieldAddr rfl Try.underlying49 rfl ti24 (by decide) rfl) ?_
    refine WL.yld rfl (blt rfl) rfl (Y.load1 rfl Try.underlying24 rfl rfl (Blk.at_eq m26 rfl)) ?_
    refine WL.call rfl (blt rfl) rfl rfl rfl has42 rfl (sort_row _ _ _ _ ow27 (by have q9 := It.exam_len (l := l) (o := It.ordN l l.length) (ms := It.most l) (s := s) (lo := 0) (hi := n_l); simp only [List.length_append, List.length_nil]; omega)) ?_
    rintro _ w30 ⟨rfl, ow32, gr33⟩
    refine ⟨_, rfl, ?_⟩
    have m26 := m26.grown gr33 r_v25_g13
    have xW := Ext.grown xW gr33 (fun b hb => (OwnL.lt ow27 hb).1)
    refine WL.nil ?_
    refine WK.then_normal (k29 _ _ ?_)
    refine WC.sub [(7, _)] ⟨rfl, trivial⟩ ?_
    refine WC.seq (fun K34 k34 => ?_)
    refine WC.region rfl ?_
    refine WL.yld rfl (blt rfl) rfl (Y.move rfl rfl) ?_
    refine WL.yld rfl (blt rfl) rfl (Y.assign rfl rfl) ?_
    refine WL.nil ?_
    refine WK.then_normal (k34 _ _ ?_)
    refine WC.sub [(6, _)] ⟨rfl, trivial⟩ ?_
    refine WC.ret ?_
    clear k1 k12 k18 k19 k29 k34
    refine WK.ret [_] rfl ⟨rfl, trivial⟩ ?_
    have cf : It.chk l (It.ord l l.length) (It.most l) = true := h22
    have e1 : It.visC l (It.ord l l.length) (It.most l) s = 0 + It.vis l (It.ordN l l.length) (It.most l) s (n_l - 0) 0 n_l := by unfold It.visC It.visits; rw [cf, if_pos rfl, e_l, Int.zero_add]; rfl
    have e2 : It.overC l (It.ord l l.length) (It.most l) s = It.over l s l.length := by unfold It.overC; rw [cf, if_pos rfl]
    have ef : It.exam l (It.ordN l l.length) (It.most l) s (n_l - 0) 0 n_l = It.found l s := by unfold It.found; rw [e_l]; rfl
    rw [List.nil_append, ef, It.srt_found] at ow32
    refine ⟨_, v25, rfl, ?_, ?_, xW⟩
    · rw [e1]; exact m26
    · rw [e2]; exact ow32
  ·
    refine WC.skip ?_
    refine WK.then_normal (k18 _ _ ?_)
    refine WC.sub [(7, _)] ⟨rfl, trivial⟩ ?_
    refine WC.seq (fun K35 k35 => ?_)
    refine WC.region rfl ?_
    refine WL.yld rfl (blt rfl) rfl (Y.move rfl rfl) ?_
    refine WL.yld rfl (blt rfl) rfl (Y.nilCheck rfl rfl) ?_
    refine WL.yld rfl (blt rfl) rfl (Y.fieldAddr rfl Try.underlying49 rfl ti24 (by decide) rfl) ?_
    refine WL.yld rfl (blt rfl) rfl (Y.load1 rfl Try.underlying24 rfl rfl (Blk.at_eq m17 rfl)) ?_
    refine WL.call rfl (blt rfl) rfl rfl rfl has42 rfl (sort_row _ _ _ _ (OwnL.nil_ (base := w.heap.size)) (by simp)) ?_
    rintro _ w36 ⟨rfl, ow38, gr39⟩
    refine ⟨_, rfl, ?_⟩
    have m17 := m17.grown gr39 ne_nil
    have xW := Ext.grown xW gr39 (fun b hb => absurd hb ne_nil)
    refine WL.nil ?_
    refine WK.then_normal (k35 _ _ ?_)
    refine WC.sub [(7, _)] ⟨rfl, trivial⟩ ?_
    refine WC.seq (fun K40 k40 => ?_)
    refine WC.region rfl ?_
    refine WL.yld rfl (blt rfl) rfl (Y.move rfl rfl) ?_
    refine WL.yld rfl (blt rfl) rfl (Y.assign rfl rfl) ?_
    refine WL.nil ?_
    refine WK.then_normal (k40 _ _ ?_)
    refine WC.sub [(6, _)] ⟨rfl, trivial⟩ ?_
    refine WC.ret ?_
    clear k1 k12 k18 k19 k35 k40
    refine WK.ret [_] rfl ⟨rfl, trivial⟩ ?_
    have cf : It.chk l p q = false := h22
    have e1 : It.visC l p q s = 0 := by unfold It.visC; rw [cf, if_neg Bool.false_ne_true]
    have e2 : It.overC l p q s = [] := by unfold It.overC; rw [cf, if_neg Bool.false_ne_true]
    refine ⟨_, .slice none 0 0, rfl, ?_, ?_, xW⟩
    · rw [e1]; exact m17
    · rw [e2]; exact OwnL.nil_
theorem overlap_any (A_l : Option Addr) (n_l c_l : Nat) (l : List Sp.S) (A_p : Option Addr) (n_p c_p : Nat) (p : List Int) (A_q : Option Addr) (n_q c_q : Nat) (q : List Int) (s : Sp.S) (w : World) (h_l : Ls w A_l n_l c_l Sp.S.c 2 l) (h_p : Ls w A_p n_p c_p Sp.ic 1 p) (h_q : Ls w A_q n_q c_q Sp.ic 1 q) (hn : n_l ≤ 10000) :
    Calls Try.prog 15 #[.slice A_l n_l c_l, .agg #[.slice A_p n_p c_p, .slice A_q n_q c_q], .agg #[.int .i64 s.f, .int .i64 s.t]] w fun e w' => ∃ v, e = .returned v ∧ OwnL w' w.heap.size 3 Sp.ic 1 v (It.overC l p q s) ∧ Ext w w' := by
  have xW := Ext.refl w
  have e_l := h_l.len
  have z_l := h_l.nle
  have e_p := h_p.len
  have z_p := h_p.nle
  have e_q := h_q.len
  have z_q := h_q.nle
  refine calls_of_WC (args := [.slice A_l n_l c_l, .agg #[.slice A_p n_p c_p, .slice A_q n_q c_q], .agg #[.int .i64 s.f, .int .i64 s.t]]) Try.func15 rfl rfl (ble rfl) ?_
  refine WC.seq (fun K1 k1 => ?_)
  refine WC.region rfl ?_
  refine WL.box rfl (blt rfl) rfl rfl rfl rfl ?_
  intro g2 w3 e4 x5 m6
  have o_g2 := own_new xW e4
  have xW := Ext.trans xW x5
  refine WL.box rfl (blt rfl) rfl rfl rfl rfl ?_
  intro g7 w8 e9 x10 m11
  have n_g2_g7 := ne_new m6 e9
  have o_g7 := own_new xW e9
  have m6 := m6.ext x10
  have xW := Ext.trans xW x10
  refine WL.yld rfl (blt rfl) rfl (Y.assign rfl rfl) ?_
  refine WL.nil ?_
  refine WK.then_normal (k1 _ _ ?_)
  refine WC.sub [(0, _), (4, _), (5, _)] ⟨rfl, rfl, rfl, trivial⟩ ?_
  refine WC.seq (fun K12 k12 => ?_)
  refine WC.region rfl ?_
  refine WL.yld rfl (blt rfl) rfl (Y.move rfl rfl) ?_
  refine WL.yld rfl (blt rfl) rfl (Y.loadS rfl Try.underlying26 rfl ti26 rfl (Blk.row_eq m6)) ?_
  refine WL.yld rfl (blt rfl) rfl (Y.loadS rfl Try.underlying32 rfl ti32 rfl (Blk.row_eq m11)) ?_
  refine WL.call rfl (blt rfl) rfl rfl rfl has31 rfl (run_any _ _ _ _ _ _ _ _ _ _ _ _ _ _ (h_l.ext xW) (h_p.ext xW) (h_q.ext xW) (by omega)) ?_
  rintro _ w13 ⟨g15, v16, rfl, m17, ow18, x14⟩
  refine ⟨_, rfl, ?_⟩
  have r_v16_g2 := ne_res ow18 m6
  have r_v16_g7 := ne_res ow18 m11
  have ow18 := OwnL.base_le ow18 xW.size
  have m6 := m6.ext x14
  have m11 := m11.ext x14
  have xW := Ext.trans xW x14
  refine WL.yld rfl (blt rfl) rfl (Y.nilCheck rfl rfl) ?_
  refine WL.yld rfl (blt rfl) rfl (Y.fieldAddr rfl Try.underlying49 rfl ti24 (by decide) rfl) ?_
  refine WL.yld rfl (blt rfl) rfl (Y.load1 rfl Try.underlying24 rfl rfl (Blk.at_eq m17 rfl)) ?_
  refine WL.yld rfl (blt rfl) rfl (Y.assign rfl rfl) ?_
  refine WL.nil ?_
  refine WK.then_normal (k12 _ _ ?_)
  refine WC.sub [(6, _)] ⟨rfl, trivial⟩ ?_
  refine WC.ret ?_
  clear k1 k12
  refine WK.ret [_] rfl ⟨rfl, trivial⟩ ?_
  refine ⟨_, rfl, ?_, xW⟩
  exact ow18
theorem visits_any (A_l : Option Addr) (n_l c_l : Nat) (l : List Sp.S) (A_p : Option Addr) (n_p c_p : Nat) (p : List Int) (A_q : Option Addr) (n_q c_q : Nat) (q : List Int) (s : Sp.S) (w : World) (h_l : Ls w A_l n_l c_l Sp.S.c 2 l) (h_p : Ls w A_p n_p c_p Sp.ic 1 p) (h_q : Ls w A_q n_q c_q Sp.ic 1 q) (hn : n_l ≤ 10000) :
    Calls Try.prog 19 #[.slice A_l n_l c_l, .agg #[.slice A_p n_p c_p, .slice A_q n_q c_q], .agg #[.int .i64 s.f, .int .i64 s.t]] w fun e w' => e = .returned (.int .i64 (It.visC l p q s)) ∧ Ext w w' := by
  have xW := Ext.refl w
  have e_l := h_l.len
  have z_l := h_l.nle
  have e_p := h_p.len
  have z_p := h_p.nle
  have e_q := h_q.len
  have z_q := h_q.nle
  refine calls_of_WC (args := [.slice A_l n_l c_l, .agg #[.slice A_p n_p c_p, .slice A_q n_q c_q], .agg #[.int .i64 s.f, .int .i64 s.t]]) Try.func19 rfl rfl (ble rfl) ?_
  refine WC.seq (fun K1 k1 => ?_)
  refine WC.region rfl ?_
  refine WL.box rfl (blt rfl) rfl rfl rfl rfl ?_
  intro g2 w3 e4 x5 m6
  have o_g2 := own_new xW e4
  have xW := Ext.trans xW x5
  refine WL.box rfl (blt rfl) rfl rfl rfl rfl ?_
  intro g7 w8 e9 x10 m11
  have n_g2_g7 := ne_new m6 e9
  have o_g7 := own_new xW e9
  have m6 := m6.ext x10
  have xW := Ext.trans xW x10
  refine WL.yld rfl (blt rfl) rfl (Y.assign rfl rfl) ?_
  refine WL.nil ?_
  refine WK.then_normal (k1 _ _ ?_)
  refine WC.sub [(0, _), (4, _), (5, _)] ⟨rfl, rfl, rfl, trivial⟩ ?_
  refine WC.seq (fun K12 k12 => ?_)
  refine WC.region rfl ?_
  refine WL.yld rfl (blt rfl) rfl (Y.move rfl rfl) ?_
  refine WL.yld rfl (blt rfl) rfl (Y.loadS rfl Try.underlying26 rfl ti26 rfl (Blk.row_eq m6)) ?_
  refine WL.yld rfl (blt rfl) rfl (Y.loadS rfl Try.underlying32 rfl ti32 rfl (Blk.row_eq m11)) ?_
  refine WL.call rfl (blt rfl) rfl rfl rfl has31 rfl (run_any _ _ _ _ _ _ _ _ _ _ _ _ _ _ (h_l.ext xW) (h_p.ext xW) (h_q.ext xW) (by omega)) ?_
  rintro _ w13 ⟨g15, v16, rfl, m17, ow18, x14⟩
  refine ⟨_, rfl, ?_⟩
  have r_v16_g2 := ne_res ow18 m6
  have r_v16_g7 := ne_res ow18 m11
  have ow18 := OwnL.base_le ow18 xW.size
  have m6 := m6.ext x14
  have m11 := m11.ext x14
  have xW := Ext.trans xW x14
  refine WL.yld rfl (blt rfl) rfl (Y.nilCheck rfl rfl) ?_
  refine WL.yld rfl (blt rfl) rfl (Y.fieldAddr rfl Try.underlying49 rfl ti3 (by decide) rfl) ?_
  refine WL.yld rfl (blt rfl) rfl (Y.load1 rfl Try.underlying3 rfl rfl (Blk.at_eq m17 rfl)) ?_
  refine WL.yld rfl (blt rfl) rfl (Y.assign rfl rfl) ?_
  refine WL.nil ?_
  refine WK.then_normal (k12 _ _ ?_)
  refine WC.sub [(6, _)] ⟨rfl, trivial⟩ ?_
  refine WC.ret ?_
  clear k1 k12
  refine WK.ret [_] rfl ⟨rfl, trivial⟩ ?_
  exact ⟨rfl, xW⟩
theorem stab_any (A_l : Option Addr) (n_l c_l : Nat) (l : List Sp.S) (A_p : Option Addr) (n_p c_p : Nat) (p : List Int) (A_q : Option Addr) (n_q c_q : Nat) (q : List Int) (t : Int) (w : World) (h_l : Ls w A_l n_l c_l Sp.S.c 2 l) (h_p : Ls w A_p n_p c_p Sp.ic 1 p) (h_q : Ls w A_q n_q c_q Sp.ic 1 q) (hn : n_l ≤ 10000) :
    Calls Try.prog 17 #[.slice A_l n_l c_l, .agg #[.slice A_p n_p c_p, .slice A_q n_q c_q], .int .i64 t] w fun e w' => ∃ v, e = .returned v ∧ OwnL w' w.heap.size 3 Sp.ic 1 v (It.stabC l p q t) ∧ Ext w w' := by
  have xW := Ext.refl w
  have e_l := h_l.len
  have z_l := h_l.nle
  have e_p := h_p.len
  have z_p := h_p.nle
  have e_q := h_q.len
  have z_q := h_q.nle
  refine calls_of_WC (args := [.slice A_l n_l c_l, .agg #[.slice A_p n_p c_p, .slice A_q n_q c_q], .int .i64 t]) Try.func17 rfl rfl (ble rfl) ?_
  refine WC.seq (fun K1 k1 => ?_)
  refine WC.region rfl ?_
  refine WL.box rfl (blt rfl) rfl rfl rfl rfl ?_
  intro g2 w3 e4 x5 m6
  have o_g2 := own_new xW e4
  have xW := Ext.trans xW x5
  refine WL.yld rfl (blt rfl) rfl (Y.assign rfl rfl) ?_
  refine WL.nil ?_
  refine WK.then_normal (k1 _ _ ?_)
  refine WC.sub [(0, _), (2, _), (4, _)] ⟨rfl, rfl, rfl, trivial⟩ ?_
  refine WC.seq (fun K7 k7 => ?_)
  refine WC.seq (fun K8 k8 => ?_)
  refine WC.region rfl ?_
  refine WL.yld rfl (blt rfl) rfl (Y.move rfl rfl) ?_
  refine WL.yld rfl (blt rfl) rfl (Y.lss rfl rfl rfl) ?_
  refine WL.yld rfl (blt rfl) rfl (Y.move rfl rfl) ?_
  refine WL.yldG rfl (blt rfl) rfl rfl rfl (fun hb => Y.move rfl rfl) ?_
  refine WL.yldG rfl (blt rfl) rfl rfl rfl (fun hb => Y.geq rfl (evg rfl hb) rfl) ?_
  refine WL.yld rfl (blt rfl) rfl (Y.or rfl rfl rfl rfl) ?_
  refine WL.nil ?_
  refine WK.then_normal (k8 _ _ ?_)
  refine WC.sub [(0, _), (2, _), (4, _), (12, _)] ⟨rfl, rfl, rfl, rfl, trivial⟩ ?_
  refine WC.cond rfl (fun h9 => ?_) (fun h9 => ?_)
  ·
    have p9 := ((or_t h9).imp (fun h => (dec_t h)) (fun h => (dec_t h)))
    refine WC.seq (fun K10 k10 => ?_)
    refine WC.region rfl ?_
    refine WL.yld rfl (blt rfl) rfl (Y.assign rfl rfl) ?_
    refine WL.nil ?_
    refine WK.then_normal (k10 _ _ ?_)
    refine WC.sub [(6, _)] ⟨rfl, trivial⟩ ?_
    refine WC.ret ?_
    refine WK.then_ret ?_
    clear k1 k7 k8 k10
    refine WK.ret [_] rfl ⟨rfl, trivial⟩ ?_
    refine ⟨_, rfl, ?_, xW⟩
    have e1 : It.stabC l p q t = [] := by unfold It.stabC; rw [It.stab_none ((or_t h9).imp (fun z => dec_t z) (fun z => dec_t z))]; split <;> rfl
    rw [e1]; exact OwnL.nil_
  ·
    have p9 := (And.intro (dec_f (or_f h9).1) (dec_f (or_f h9).2))
    refine WC.skip ?_
    refine WK.then_normal (k7 _ _ ?_)
    refine WC.sub [(0, _), (2, _), (4, _)] ⟨rfl, rfl, rfl, trivial⟩ ?_
    refine WC.seq (fun K11 k11 => ?_)
    refine WC.region rfl ?_
    refine WL.yld rfl (blt rfl) rfl (Y.move rfl rfl) ?_
    refine WL.yld rfl (blt rfl) rfl (Y.loadS rfl Try.underlying26 rfl ti26 rfl (Blk.row_eq m6)) ?_
    refine WL.yld rfl (blt rfl) rfl (Y.move rfl rfl) ?_
    refine WL.yld rfl (blt rfl) rfl (Y.move rfl rfl) ?_
    refine WL.yld rfl (blt rfl) rfl (Y.add rfl rfl rfl (wrap_i64 (by first | omega | (dsimp only; omega)))) ?_
    refine WL.yld rfl (blt rfl) rfl (Y.build (cells := [_, _]) rfl pl32 rfl rfl) ?_
    refine WL.call rfl (blt rfl) rfl rfl rfl has15 rfl (overlap_any _ _ _ _ _ _ _ _ _ _ _ _ ⟨t, t + 1⟩ _ (h_l.ext xW) (h_p.ext xW) (h_q.ext xW) (by omega)) ?_
    rintro _ w12 ⟨v14, rfl, ow15, x13⟩
    refine ⟨_, rfl, ?_⟩
    have r_v14_g2 := ne_res ow15 m6
    have ow15 := OwnL.base_le ow15 xW.size
    have m6 := m6.ext x13
    have xW := Ext.trans xW x13
    refine WL.yld rfl (blt rfl) rfl (Y.assign rfl rfl) ?_
    refine WL.nil ?_
    refine WK.then_normal (k11 _ _ ?_)
    refine WC.sub [(6, _)] ⟨rfl, trivial⟩ ?_
    refine WC.ret ?_
    clear k1 k7 k8 k11
    refine WK.ret [_] rfl ⟨rfl, trivial⟩ ?_
    refine ⟨_, rfl, ?_, xW⟩
    have e1 : It.stabC l p q t = It.overC l p q ⟨t, t + 1⟩ := by unfold It.stabC It.overC; rw [It.stab_over (by have z := dec_f (or_f h9).1; omega) (by have z := dec_f (or_f h9).2; omega)]
    rw [e1]; exact ow15
theorem roverlap_any (A_l : Option Addr) (n_l c_l : Nat) (l : List Sp.S) (A_p : Option Addr) (n_p c_p : Nat) (p : List Int) (A_q : Option Addr) (n_q c_q : Nat) (q : List Int) (s : Sp.S) (w : World) (h_l : Ls w A_l n_l c_l Sp.S.c 2 l) (h_p : Ls w A_p n_p c_p Sp.ic 1 p) (h_q : Ls w A_q n_q c_q Sp.ic 1 q) (hn : n_l ≤ 10000) (hv : ∀ x ∈ l, It.low ≤ x.t) :
    Calls Try.prog 16 #[.slice A_l n_l c_l, .agg #[.slice A_p n_p c_p, .slice A_q n_q c_q], .agg #[.int .i64 s.f, .int .i64 s.t]] w fun e w' => ∃ v, e = .returned v ∧ OwnL w' w.heap.size 3 Sp.ic 1 v (It.overC l p q s) ∧ Ext w w' := by
  have xW := Ext.refl w
  have e_l := h_l.len
  have z_l := h_l.nle
  have e_p := h_p.len
  have z_p := h_p.nle
  have e_q := h_q.len
  have z_q := h_q.nle
  refine calls_of_WC (args := [.slice A_l n_l c_l, .agg #[.slice A_p n_p c_p, .slice A_q n_q c_q], .agg #[.int .i64 s.f, .int .i64 s.t]]) Try.func16 rfl rfl (ble rfl) ?_
  refine WC.seq (fun K1 k1 => ?_)
  refine WC.region rfl ?_
  refine WL.box rfl (blt rfl) rfl rfl rfl rfl ?_
  intro g2 w3 e4 x5 m6
  have o_g2 := own_new xW e4
  have xW := Ext.trans xW x5
  refine WL.box rfl (blt rfl) rfl rfl rfl rfl ?_
  intro g7 w8 e9 x10 m11
  have n_g2_g7 := ne_new m6 e9
  have o_g7 := own_new xW e9
  have m6 := m6.ext x10
  have xW := Ext.trans xW x10
  refine WL.yld rfl (blt rfl) rfl (Y.assign rfl rfl) ?_
  refine WL.nil ?_
  refine WK.then_normal (k1 _ _ ?_)
  refine WC.sub [(0, _), (4, _), (5, _)] ⟨rfl, rfl, rfl, trivial⟩ ?_
  refine WC.seq (fun K12 k12 => ?_)
  refine WC.region rfl ?_
  refine WL.yld rfl (blt rfl) rfl (Y.assign rfl rfl) ?_
  refine WL.nil ?_
  refine WK.then_normal (k12 _ _ ?_)
  refine WC.seq (fun K13 k13 => ?_)
  refine WC.seq (fun K14 k14 => ?_)
  refine WC.region rfl ?_
  refine WL.yld rfl (blt rfl) rfl (Y.move rfl rfl) ?_
  refine WL.yld rfl (blt rfl) rfl (Y.loadS rfl Try.underlying26 rfl ti26 rfl (Blk.row_eq m6)) ?_
  refine WL.call rfl (blt rfl) rfl rfl rfl has14 rfl (rcheck_any _ _ _ _ _ _ _ _ _ _ _ _ _ (h_l.ext xW) (h_p.ext xW) (h_q.ext xW) (by omega) hv) ?_
  rintro _ w15 ⟨rfl, x16⟩
  refine ⟨_, rfl, ?_⟩
  have m6 := m6.ext x16
  have m11 := m11.ext x16
  have xW := Ext.trans xW x16
  refine WL.yld rfl (blt rfl) rfl (Y.not rfl rfl) ?_
  refine WL.nil ?_
  refine WK.then_normal (k14 _ _ ?_)
  refine WC.sub [(0, _), (5, _), (7, _), (12, _)] ⟨rfl, rfl, rfl, rfl, trivial⟩ ?_
  refine WC.cond rfl (fun h17 => ?_) (fun h17 => ?_)
  ·
    refine WC.seq (fun K18 k18 => ?_)
    refine WC.region rfl ?_
    refine WL.yld rfl (blt rfl) rfl (Y.move rfl rfl) ?_
    refine WL.yld rfl (blt rfl) rfl (Y.assign rfl rfl) ?_
    refine WL.nil ?_
    refine WK.then_normal (k18 _ _ ?_)
    refine WC.sub [(6, _)] ⟨rfl, trivial⟩ ?_
    refine WC.ret ?_
    refine WK.then_ret ?_
    clear k1 k12 k13 k14 k18
    refine WK.ret [_] rfl ⟨rfl, trivial⟩ ?_
    refine ⟨_, rfl, ?_, xW⟩
    have e1 : It.overC l p q s = [] := by unfold It.overC; rw [not_t h17, if_neg Bool.false_ne_true]
    rw [e1]; exact OwnL.nil_
  ·
    refine WC.skip ?_
    refine WK.then_normal (k13 _ _ ?_)
    refine WC.sub [(0, _), (5, _), (7, _)] ⟨rfl, rfl, rfl, trivial⟩ ?_
    refine WC.seq (fun K19 k19 => ?_)
    refine WC.seq (fun K20 k20 => ?_)
    refine WC.region rfl ?_
    refine WL.yld rfl (blt rfl) rfl (Y.assign rfl rfl) ?_
    refine WL.nil ?_
    refine WK.then_normal (k20 _ _ ?_)
    refine WC.block ?_
    refine WC.sub [(8, _), (7, _), (0, _), (5, _)] ⟨rfl, rfl, rfl, rfl, trivial⟩ ?_
    refine WC.loopS 2 (fun mz Ed W' => ∃ i : Nat, ∃ v : Value, mz = n_l - i ∧ Ed = [(8, .int .i64 ((i : Nat) : Int)), (7, v)] ∧ Ext w W' ∧ Blk W' g7 32 _ ∧ OwnL W' w.heap.size 3 Sp.ic 1 v (It.over l s i) ∧ v.ownBlock ≠ some g7 ∧ (i ≤ n_l)) _ ⟨0, _, rfl, rfl, xW, m11, OwnL.nil_, ne_nil, (Nat.zero_le _)⟩ ?_
    rintro _ _ w21 ⟨i, v, rfl, rfl, xW, m11, ow_v, r_v_g7, le_i⟩
    refine WC.sub [(8, _), (7, _), (0, _), (5, _)] ⟨rfl, rfl, rfl, rfl, trivial⟩ ?_
    refine WC.seq (fun K22 k22 => ?_)
    refine WC.seq (fun K23 k23 => ?_)
    refine WC.region rfl ?_
    refine WL.yld rfl (blt rfl) rfl (Y.move rfl rfl) ?_
    refine WL.yld rfl (blt rfl) rfl (Y.move rfl rfl) ?_
    refine WL.yld rfl (blt rfl) rfl (Y.lenSl rfl rfl rfl Try.underlying22 rfl) ?_
    refine WL.yld rfl (blt rfl) rfl (Y.lss rfl rfl rfl) ?_
    refine WL.nil ?_
    refine WK.then_normal (k23 _ _ ?_)
    refine WC.sub [(0, _), (5, _), (7, _), (8, _), (17, _)] ⟨rfl, rfl, rfl, rfl, rfl, trivial⟩ ?_
    refine WC.cond rfl (fun h24 => ?_) (fun h24 => ?_)
    ·
      have p24 := (dec_t h24)
      refine WC.skip ?_
      refine WK.then_normal (k22 _ _ ?_)
      refine WC.sub [(0, _), (5, _), (7, _), (8, _)] ⟨rfl, rfl, rfl, rfl, trivial⟩ ?_
      refine WC.seq (fun K25 k25 => ?_)
      refine WC.block ?_
      refine WC.seq (fun K26 k26 => ?_)
      refine WC.regionDq (by kernel_rfl) (by kernel_rfl) rfl ?_
      refine WQ.yld rfl (blt rfl) rfl (Y.move rfl rfl) ?_
      refine WQ.yld rfl (blt rfl) rfl (Y.move rfl rfl) ?_
      have b27 : i < n_l := by omega
      refine WQ.yld rfl (blt rfl) rfl (Y.indexLs i (h_l.ext xW) rfl Try.underlying22 ti32 rfl rfl rfl b27) ?_
      refine WQ.yld rfl (blt rfl) rfl (Y.loadS (cs := [_, _]) rfl Try.underlying32 rfl ti32 rfl (Ls.part_ext (h_l.ext xW) b27 rfl)) ?_
      refine WQ.yld rfl (blt rfl) rfl (Y.loadS rfl Try.underlying32 rfl ti32 rfl (Blk.row_ext m11)) ?_
      refine WQ.call rfl (blt rfl) rfl rfl rfl has32 rfl (fun w hw => calls_ext hw (common_any _ _ _ )) ?_
      refine WQ.done (fun w28 x29 => ?_)
      have m11 := m11.ext x29
      have ow_v := ow_v.ext x29
      have xW := Ext.trans xW x29
      refine WK.then_normal (k26 _ _ ?_)
      refine WC.sub [(0, _), (5, _), (7, _), (8, _), (25, _)] ⟨rfl, rfl, rfl, rfl, rfl, trivial⟩ ?_
      refine WC.cond rfl (fun h30 => ?_) (fun h30 => ?_)
      ·
        refine WC.region rfl ?_
        refine WL.yld rfl (blt rfl) rfl (Y.move rfl rfl) ?_
        refine WL.yld rfl (blt rfl) rfl (Y.move rfl rfl) ?_
        refine WL.bslice (zs := [.int .i64 0]) (cs := [_]) rfl (blt rfl) rfl rfl Try.underlying24 ti3 rfl (ble rfl) (by kernel_rfl) rfl rfl ?_
        intro g31 w32 e33 x34 m35
        have n_g7_g31 := ne_new m11 e33
        have r_v_g31 := ne_newO ow_v e33
        have o_g31 := own_new xW e33
        have m11 := m11.ext x34
        have ow_v := ow_v.ext x34
        have xW := Ext.trans xW x34
        refine WL.appendB (f := Sp.ic) (news := [((i : Nat) : Int)]) rfl (blt rfl) rfl rfl rfl rfl Try.underlying24 ti3 rfl (by decide) rfl ow_v (fun _ => rfl) Sp.ic_one m35 rfl xW.size (by have q0 := It.over_len l s i; first | omega | (simp only [List.length_append, List.length_cons, List.length_nil, List.length_take, List.length_drop, List.length_reverse]; omega)) (Nat.le_trans (show _ ≤ 140737488355328 from by have q0 := It.over_len l s i; first | omega | (simp only [List.length_append, List.length_cons, List.length_nil, List.length_take, List.length_drop, List.length_reverse]; omega)) (by decide)) (fun v36 w37 ow38 gr39 nb40 => ?_)
        have r_v36_g7 := ne_app nb40 r_v_g7 m11
        have m11 := m11.grown gr39 r_v_g7
        have r_v36_g31 := ne_app nb40 r_v_g31 m35
        have m35 := m35.grown gr39 r_v_g31
        have xW := Ext.grown xW gr39 (fun b hb => (OwnL.lt ow_v hb).1)
        refine WL.yld rfl (blt rfl) rfl (Y.assign rfl rfl) ?_
        refine WL.nil ?_
        refine WK.in_normal ?_
        refine WK.then_normal (k25 _ _ ?_)
        refine WC.sub [(0, _), (5, _), (7, _), (8, _)] ⟨rfl, rfl, rfl, rfl, trivial⟩ ?_
        refine WC.region rfl ?_
        refine WL.yld rfl (blt rfl) rfl (Y.move rfl rfl) ?_
        refine WL.yld rfl (blt rfl) rfl (Y.add rfl rfl rfl (wrap_i64 (by first | omega | (dsimp only; omega)))) ?_
        refine WL.yld rfl (blt rfl) rfl (Y.assign rfl rfl) ?_
        refine WL.nil ?_
        refine WK.roundS _ [(8, .int .i64 (((i + 1) : Nat) : Int)), (7, v36)] ⟨rfl, rfl, rfl, rfl, trivial⟩ ?_ ⟨(i + 1), v36, rfl, rfl, xW, m11, (by rw [It.over_succ, if_pos h30]; exact ow38), r_v36_g7, (by omega)⟩
        show _ - (i + 1) < _ - i; omega
      ·
        refine WC.skip ?_
        refine WK.in_normal ?_
        refine WK.then_normal (k25 _ _ ?_)
        refine WC.sub [(0, _), (5, _), (7, _), (8, _)] ⟨rfl, rfl, rfl, rfl, trivial⟩ ?_
        refine WC.region rfl ?_
        refine WL.yld rfl (blt rfl) rfl (Y.move rfl rfl) ?_
        refine WL.yld rfl (blt rfl) rfl (Y.add rfl rfl rfl (wrap_i64 (by first | omega | (dsimp only; omega)))) ?_
        refine WL.yld rfl (blt rfl) rfl (Y.assign rfl rfl) ?_
        refine WL.nil ?_
        refine WK.roundS _ [(8, .int .i64 (((i + 1) : Nat) : Int)), (7, v)] ⟨rfl, rfl, rfl, rfl, trivial⟩ ?_ ⟨(i + 1), v, rfl, rfl, xW, m11, (by rw [It.over_succ, if_neg (by rw [h30]; exact Bool.false_ne_true), List.append_nil]; exact ow_v), r_v_g7, (by omega)⟩
        show _ - (i + 1) < _ - i; omega
    ·
      have p24 := (dec_f h24)
      refine WC.exit ?_
      refine WK.then_exit ?_
      refine WK.then_exit ?_
      refine WK.in_exit ?_
      refine WK.then_normal (k19 _ _ ?_)
      refine WC.sub [(7, _)] ⟨rfl, trivial⟩ ?_
      refine WC.seq (fun K41 k41 => ?_)
      refine WC.region rfl ?_
      refine WL.yld rfl (blt rfl) rfl (Y.move rfl rfl) ?_
      refine WL.yld rfl (blt rfl) rfl (Y.assign rfl rfl) ?_
      refine WL.nil ?_
      refine WK.then_normal (k41 _ _ ?_)
      refine WC.sub [(6, _)] ⟨rfl, trivial⟩ ?_
      refine WC.ret ?_
      clear k1 k12 k13 k14 k19 k20 k22 k23 k41
      refine WK.ret [_] rfl ⟨rfl, trivial⟩ ?_
      refine ⟨_, rfl, ?_, xW⟩
      have e1 : It.overC l p q s = It.over l s l.length := by unfold It.overC; rw [not_f h17, if_pos rfl]
      rw [e1, e_l, ← show i = n_l from by omega]; exact ow_v
theorem rstab_any (A_l : Option Addr) (n_l c_l : Nat) (l : List Sp.S) (A_p : Option Addr) (n_p c_p : Nat) (p : List Int) (A_q : Option Addr) (n_q c_q : Nat) (q : List Int) (t : Int) (w : World) (h_l : Ls w A_l n_l c_l Sp.S.c 2 l) (h_p : Ls w A_p n_p c_p Sp.ic 1 p) (h_q : Ls w A_q n_q c_q Sp.ic 1 q) (hn : n_l ≤ 10000) (hv : ∀ x ∈ l, It.low ≤ x.t) :
    Calls Try.prog 18 #[.slice A_l n_l c_l, .agg #[.slice A_p n_p c_p, .slice A_q n_q c_q], .int .i64 t] w fun e w' => ∃ v, e = .returned v ∧ OwnL w' w.heap.size 3 Sp.ic 1 v (It.stabC l p q t) ∧ Ext w w' := by
  have xW := Ext.refl w
  have e_l := h_l.len
  have z_l := h_l.nle
  have e_p := h_p.len
  have z_p := h_p.nle
  have e_q := h_q.len
  have z_q := h_q.nle
  refine calls_of_WC (args := [.slice A_l n_l c_l, .agg #[.slice A_p n_p c_p, .slice A_q n_q c_q], .int .i64 t]) Try.func18 rfl rfl (ble rfl) ?_
  refine WC.seq (fun K1 k1 => ?_)
  refine WC.region rfl ?_
  refine WL.box rfl (blt rfl) rfl rfl rfl rfl ?_
  intro g2 w3 e4 x5 m6
  have o_g2 := own_new xW e4
  have xW := Ext.trans xW x5
  refine WL.yld rfl (blt rfl) rfl (Y.assign rfl rfl) ?_
  refine WL.nil ?_
  refine WK.then_normal (k1 _ _ ?_)
  refine WC.sub [(0, _), (2, _), (4, _)] ⟨rfl, rfl, rfl, trivial⟩ ?_
  refine WC.seq (fun K7 k7 => ?_)
  refine WC.region rfl ?_
  refine WL.yld rfl (blt rfl) rfl (Y.assign rfl rfl) ?_
  refine WL.nil ?_
  refine WK.then_normal (k7 _ _ ?_)
  refine WC.seq (fun K8 k8 => ?_)
  refine WC.seq (fun K9 k9 => ?_)
  refine WC.region rfl ?_
  refine WL.yld rfl (blt rfl) rfl (Y.move rfl rfl) ?_
  refine WL.yld rfl (blt rfl) rfl (Y.loadS rfl Try.underlying26 rfl ti26 rfl (Blk.row_eq m6)) ?_
  refine WL.call rfl (blt rfl) rfl rfl rfl has14 rfl (rcheck_any _ _ _ _ _ _ _ _ _ _ _ _ _ (h_l.ext xW) (h_p.ext xW) (h_q.ext xW) (by omega) hv) ?_
  rintro _ w10 ⟨rfl, x11⟩
  refine ⟨_, rfl, ?_⟩
  have m6 := m6.ext x11
  have xW := Ext.trans xW x11
  refine WL.yld rfl (blt rfl) rfl (Y.not rfl rfl) ?_
  refine WL.nil ?_
  refine WK.then_normal (k9 _ _ ?_)
  refine WC.sub [(0, _), (2, _), (7, _), (12, _)] ⟨rfl, rfl, rfl, rfl, trivial⟩ ?_
  refine WC.cond rfl (fun h12 => ?_) (fun h12 => ?_)
  ·
    refine WC.seq (fun K13 k13 => ?_)
    refine WC.region rfl ?_
    refine WL.yld rfl (blt rfl) rfl (Y.move rfl rfl) ?_
    refine WL.yld rfl (blt rfl) rfl (Y.assign rfl rfl) ?_
    refine WL.nil ?_
    refine WK.then_normal (k13 _ _ ?_)
    refine WC.sub [(6, _)] ⟨rfl, trivial⟩ ?_
    refine WC.ret ?_
    refine WK.then_ret ?_
    clear k1 k7 k8 k9 k13
    refine WK.ret [_] rfl ⟨rfl, trivial⟩ ?_
    refine ⟨_, rfl, ?_, xW⟩
    have e1 : It.stabC l p q t = [] := by unfold It.stabC; rw [not_t h12, if_neg Bool.false_ne_true]
    rw [e1]; exact OwnL.nil_
  ·
    refine WC.skip ?_
    refine WK.then_normal (k8 _ _ ?_)
    refine WC.sub [(0, _), (2, _), (7, _)] ⟨rfl, rfl, rfl, trivial⟩ ?_
    refine WC.seq (fun K14 k14 => ?_)
    refine WC.seq (fun K15 k15 => ?_)
    refine WC.region rfl ?_
    refine WL.yld rfl (blt rfl) rfl (Y.assign rfl rfl) ?_
    refine WL.nil ?_
    refine WK.then_normal (k15 _ _ ?_)
    refine WC.block ?_
    refine WC.sub [(8, _), (7, _), (0, _), (2, _)] ⟨rfl, rfl, rfl, rfl, trivial⟩ ?_
    refine WC.loopS 2 (fun mz Ed W' => ∃ i : Nat, ∃ v : Value, mz = n_l - i ∧ Ed = [(8, .int .i64 ((i : Nat) : Int)), (7, v)] ∧ Ext w W' ∧ OwnL W' w.heap.size 3 Sp.ic 1 v (It.stabU l t i) ∧ (i ≤ n_l)) _ ⟨0, _, rfl, rfl, xW, OwnL.nil_, (Nat.zero_le _)⟩ ?_
    rintro _ _ w16 ⟨i, v, rfl, rfl, xW, ow_v, le_i⟩
    refine WC.sub [(8, _), (7, _), (0, _), (2, _)] ⟨rfl, rfl, rfl, rfl, trivial⟩ ?_
    refine WC.seq (fun K17 k17 => ?_)
    refine WC.seq (fun K18 k18 => ?_)
    refine WC.region rfl ?_
    refine WL.yld rfl (blt rfl) rfl (Y.move rfl rfl) ?_
    refine WL.yld rfl (blt rfl) rfl (Y.move rfl rfl) ?_
    refine WL.yld rfl (blt rfl) rfl (Y.lenSl rfl rfl rfl Try.underlying22 rfl) ?_
    refine WL.yld rfl (blt rfl) rfl (Y.lss rfl rfl rfl) ?_
    refine WL.nil ?_
    refine WK.then_normal (k18 _ _ ?_)
    refine WC.sub [(0, _), (2, _), (7, _), (8, _), (17, _)] ⟨rfl, rfl, rfl, rfl, rfl, trivial⟩ ?_
    refine WC.cond rfl (fun h19 => ?_) (fun h19 => ?_)
    ·
      have p19 := (dec_t h19)
      refine WC.skip ?_
      refine WK.then_normal (k17 _ _ ?_)
      refine WC.sub [(0, _), (2, _), (7, _), (8, _)] ⟨rfl, rfl, rfl, rfl, trivial⟩ ?_
      refine WC.seq (fun K20 k20 => ?_)
      refine WC.block ?_
      refine WC.seq (fun K21 k21 => ?_)
      refine WC.region rfl ?_
      refine WL.yld rfl (blt rfl) rfl (Y.move rfl rfl) ?_
      refine WL.yld rfl (blt rfl) rfl (Y.move rfl rfl) ?_
      have b22 : i < n_l := by omega
      refine WL.yld rfl (blt rfl) rfl (Y.indexLs i (h_l.ext xW) rfl Try.underlying22 ti32 rfl rfl rfl b22) ?_
      refine WL.yld rfl (blt rfl) rfl (Y.loadS (cs := [_, _]) rfl Try.underlying32 rfl ti32 rfl (Ls.part_eq (h_l.ext xW) b22 rfl)) ?_
      refine WL.call rfl (blt rfl) rfl rfl rfl has33 rfl (rvalid_any _ _ ) ?_
      rintro _ w23 ⟨rfl, x24⟩
      refine ⟨_, rfl, ?_⟩
      have ow_v := ow_v.ext x24
      have xW := Ext.trans xW x24
      refine WL.yld rfl (blt rfl) rfl (Y.move rfl rfl) ?_
      refine WL.yldG rfl (blt rfl) rfl rfl rfl (fun hb => Y.move rfl rfl) ?_
      refine WL.yldG rfl (blt rfl) rfl rfl rfl (fun hb => Y.move rfl rfl) ?_
      refine WL.yldG rfl (blt rfl) rfl rfl rfl (fun hb => Y.indexLs i (h_l.ext xW) rfl Try.underlying22 ti32 (evg rfl hb) (evg rfl hb) rfl (by omega)) ?_
      refine WL.yldG rfl (blt rfl) rfl rfl rfl (fun hb => Y.fieldE rfl Try.underlying32 rfl ti3 (by decide) (evg rfl hb)) ?_
      refine WL.yldG rfl (blt rfl) rfl rfl rfl (fun hb => Y.load1 rfl Try.underlying3 rfl (evg rfl hb) (Ls.at_eq (h_l.ext xW) (by omega) rfl)) ?_
      refine WL.yldG rfl (blt rfl) rfl rfl rfl (fun hb => Y.move rfl rfl) ?_
      refine WL.yldG rfl (blt rfl) rfl rfl rfl (fun hb => Y.leq rfl (evg rfl hb) (evg rfl hb)) ?_
      refine WL.yld rfl (blt rfl) rfl (Y.and rfl rfl rfl rfl) ?_
      refine WL.yld rfl (blt rfl) rfl (Y.move rfl rfl) ?_
      refine WL.yldG rfl (blt rfl) rfl rfl rfl (fun hb => Y.move rfl rfl) ?_
      refine WL.yldG rfl (blt rfl) rfl rfl rfl (fun hb => Y.move rfl rfl) ?_
      refine WL.yldG rfl (blt rfl) rfl rfl rfl (fun hb => Y.move rfl rfl) ?_
      refine WL.yldG rfl (blt rfl) rfl rfl rfl (fun hb => Y.indexLs i (h_l.ext xW) rfl Try.underlying22 ti32 (evg rfl hb) (evg rfl hb) rfl (by have q0 := (dec_t (and_t hb).2); omega)) ?_
      refine WL.yldG rfl (blt rfl) rfl rfl rfl (fun hb => Y.fieldE rfl Try.underlying32 rfl ti3 (by decide) (evg rfl hb)) ?_
      refine WL.yldG rfl (blt rfl) rfl rfl rfl (fun hb => Y.load1 rfl Try.underlying3 rfl (evg rfl hb) (Ls.at_eq (h_l.ext xW) (by have q0 := (dec_t (and_t hb).2); omega) rfl)) ?_
      refine WL.yldG rfl (blt rfl) rfl rfl rfl (fun hb => Y.lss rfl (evg rfl hb) (evg rfl hb)) ?_
      refine WL.yld rfl (blt rfl) rfl (Y.and rfl rfl rfl rfl) ?_
      refine WL.nil ?_
      refine WK.then_normal (k21 _ _ ?_)
      refine WC.sub [(0, _), (2, _), (7, _), (8, _), (42, _)] ⟨rfl, rfl, rfl, rfl, rfl, trivial⟩ ?_
      refine WC.cond rfl (fun h25 => ?_) (fun h25 => ?_)
      ·
        have p25 := (And.intro (dec_t (and_t (and_t h25).1).2) (dec_t (and_t h25).2))
        refine WC.region rfl ?_
        refine WL.yld rfl (blt rfl) rfl (Y.move rfl rfl) ?_
        refine WL.yld rfl (blt rfl) rfl (Y.move rfl rfl) ?_
        refine WL.bslice (zs := [.int .i64 0]) (cs := [_]) rfl (blt rfl) rfl rfl Try.underlying24 ti3 rfl (ble rfl) (by kernel_rfl) rfl rfl ?_
        intro g26 w27 e28 x29 m30
        have r_v_g26 := ne_newO ow_v e28
        have o_g26 := own_new xW e28
        have ow_v := ow_v.ext x29
        have xW := Ext.trans xW x29
        refine WL.appendB (f := Sp.ic) (news := [((i : Nat) : Int)]) rfl (blt rfl) rfl rfl rfl rfl Try.underlying24 ti3 rfl (by decide) rfl ow_v (fun _ => rfl) Sp.ic_one m30 rfl xW.size (by have q0 := It.stabU_len l t i; first | omega | (simp only [List.length_append, List.length_cons, List.length_nil, List.length_take, List.length_drop, List.length_reverse]; omega)) (Nat.le_trans (show _ ≤ 140737488355328 from by have q0 := It.stabU_len l t i; first | omega | (simp only [List.length_append, List.length_cons, List.length_nil, List.length_take, List.length_drop, List.length_reverse]; omega)) (by decide)) (fun v31 w32 ow33 gr34 nb35 => ?_)
        have r_v31_g26 := ne_app nb35 r_v_g26 m30
        have m30 := m30.grown gr34 r_v_g26
        have xW := Ext.grown xW gr34 (fun b hb => (OwnL.lt ow_v hb).1)
        refine WL.yld rfl (blt rfl) rfl (Y.assign rfl rfl) ?_
        refine WL.nil ?_
        refine WK.in_normal ?_
        refine WK.then_normal (k20 _ _ ?_)
        refine WC.sub [(0, _), (2, _), (7, _), (8, _)] ⟨rfl, rfl, rfl, rfl, trivial⟩ ?_
        refine WC.region rfl ?_
        refine WL.yld rfl (blt rfl) rfl (Y.move rfl rfl) ?_
        refine WL.yld rfl (blt rfl) rfl (Y.add rfl rfl rfl (wrap_i64 (by first | omega | (dsimp only; omega)))) ?_
        refine WL.yld rfl (blt rfl) rfl (Y.assign rfl rfl) ?_
        refine WL.nil ?_
        refine WK.roundS _ [(8, .int .i64 (((i + 1) : Nat) : Int)), (7, v31)] ⟨rfl, rfl, rfl, rfl, trivial⟩ ?_ ⟨(i + 1), v31, rfl, rfl, xW, (by rw [It.stabU_succ, if_pos h25]; exact ow33), (by omega)⟩
        show _ - (i + 1) < _ - i; omega
      ·
        have p25 := ((and_f h25).imp (fun h => ((and_f h).imp (fun h => h) (fun h => (dec_f h)))) (fun h => (dec_f h)))
        refine WC.skip ?_
        refine WK.in_normal ?_
        refine WK.then_normal (k20 _ _ ?_)
        refine WC.sub [(0, _), (2, _), (7, _), (8, _)] ⟨rfl, rfl, rfl, rfl, trivial⟩ ?_
        refine WC.region rfl ?_
        refine WL.yld rfl (blt rfl) rfl (Y.move rfl rfl) ?_
        refine WL.yld rfl (blt rfl) rfl (Y.add rfl rfl rfl (wrap_i64 (by first | omega | (dsimp only; omega)))) ?_
        refine WL.yld rfl (blt rfl) rfl (Y.assign rfl rfl) ?_
        refine WL.nil ?_
        refine WK.roundS _ [(8, .int .i64 (((i + 1) : Nat) : Int)), (7, v)] ⟨rfl, rfl, rfl, rfl, trivial⟩ ?_ ⟨(i + 1), v, rfl, rfl, xW, (by rw [It.stabU_succ, if_neg (by rw [h25]; exact Bool.false_ne_true), List.append_nil]; exact ow_v), (by omega)⟩
        show _ - (i + 1) < _ - i; omega
    ·
      have p19 := (dec_f h19)
      refine WC.exit ?_
      refine WK.then_exit ?_
      refine WK.then_exit ?_
      refine WK.in_exit ?_
      refine WK.then_normal (k14 _ _ ?_)
      refine WC.sub [(7, _)] ⟨rfl, trivial⟩ ?_
      refine WC.seq (fun K36 k36 => ?_)
      refine WC.region rfl ?_
      refine WL.yld rfl (blt rfl) rfl (Y.move rfl rfl) ?_
      refine WL.yld rfl (blt rfl) rfl (Y.assign rfl rfl) ?_
      refine WL.nil ?_
      refine WK.then_normal (k36 _ _ ?_)
      refine WC.sub [(6, _)] ⟨rfl, trivial⟩ ?_
      refine WC.ret ?_
      clear k1 k7 k8 k9 k14 k15 k17 k18 k36
      refine WK.ret [_] rfl ⟨rfl, trivial⟩ ?_
      refine ⟨_, rfl, ?_, xW⟩
      have e1 : It.stabC l p q t = It.stabU l t l.length := by unfold It.stabC; rw [not_f h12, if_pos rfl]
      rw [e1, e_l, ← show i = n_l from by omega]; exact ow_v
theorem few_any (A_l : Option Addr) (n_l c_l : Nat) (l : List Sp.S) (A_p : Option Addr) (n_p c_p : Nat) (p : List Int) (A_q : Option Addr) (n_q c_q : Nat) (q : List Int) (w : World) (h_l : Ls w A_l n_l c_l Sp.S.c 2 l) (h_p : Ls w A_p n_p c_p Sp.ic 1 p) (h_q : Ls w A_q n_q c_q Sp.ic 1 q) :
    Calls Try.prog 13 #[.slice A_l n_l c_l, .agg #[.slice A_p n_p c_p, .slice A_q n_q c_q]] w fun e w' => e = .returned (.bool ((decide (((n_l : Nat) : Int) ≤ 200) && decide (((n_p : Nat) : Int) ≤ 300)) && decide (((n_q : Nat) : Int) ≤ 300))) ∧ Ext w w' := by
  have xW := Ext.refl w
  have e_l := h_l.len
  have z_l := h_l.nle
  have e_p := h_p.len
  have z_p := h_p.nle
  have e_q := h_q.len
  have z_q := h_q.nle
  refine calls_of_WC (args := [.slice A_l n_l c_l, .agg #[.slice A_p n_p c_p, .slice A_q n_q c_q]]) Try.func13 rfl rfl (ble rfl) ?_
  refine WC.seq (fun K1 k1 => ?_)
  refine WC.region rfl ?_
  refine WL.box rfl (blt rfl) rfl rfl rfl rfl ?_
  intro g2 w3 e4 x5 m6
  have o_g2 := own_new xW e4
  have xW := Ext.trans xW x5
  refine WL.yld rfl (blt rfl) rfl (Y.assign rfl rfl) ?_
  refine WL.nil ?_
  refine WK.then_normal (k1 _ _ ?_)
  refine WC.sub [(0, _), (3, _)] ⟨rfl, rfl, trivial⟩ ?_
  refine WC.seq (fun K7 k7 => ?_)
  refine WC.region rfl ?_
  refine WL.yld rfl (blt rfl) rfl (Y.move rfl rfl) ?_
  refine WL.yld rfl (blt rfl) rfl (Y.lenSl rfl rfl rfl Try.underlying22 rfl) ?_
  refine WL.yld rfl (blt rfl) rfl (Y.leq rfl rfl rfl) ?_
  refine WL.yld rfl (blt rfl) rfl (Y.move rfl rfl) ?_
  refine WL.yldG rfl (blt rfl) rfl rfl rfl (fun hb => Y.fieldAddr rfl Try.underlying26 rfl ti24 (by decide) rfl) ?_
  refine WL.yldG rfl (blt rfl) rfl rfl rfl (fun hb => Y.load1 rfl Try.underlying24 rfl (evg rfl hb) (Blk.at_eq m6 rfl)) ?_
  refine WL.yldG rfl (blt rfl) rfl rfl rfl (fun hb => Y.lenSl rfl rfl rfl Try.underlying24 (evs_cons (evg rfl hb) evs_nil)) ?_
  refine WL.yldG rfl (blt rfl) rfl rfl rfl (fun hb => Y.leq rfl (evg rfl hb) rfl) ?_
  refine WL.yld rfl (blt rfl) rfl (Y.and rfl rfl rfl rfl) ?_
  refine WL.yld rfl (blt rfl) rfl (Y.move rfl rfl) ?_
  refine WL.yldG rfl (blt rfl) rfl rfl rfl (fun hb => Y.fieldAddr rfl Try.underlying26 rfl ti24 (by decide) rfl) ?_
  refine WL.yldG rfl (blt rfl) rfl rfl rfl (fun hb => Y.load1 rfl Try.underlying24 rfl (evg rfl hb) (Blk.at_eq m6 rfl)) ?_
  refine WL.yldG rfl (blt rfl) rfl rfl rfl (fun hb => Y.lenSl rfl rfl rfl Try.underlying24 (evs_cons (evg rfl hb) evs_nil)) ?_
  refine WL.yldG rfl (blt rfl) rfl rfl rfl (fun hb => Y.leq rfl (evg rfl hb) rfl) ?_
  refine WL.yld rfl (blt rfl) rfl (Y.and rfl rfl rfl rfl) ?_
  refine WL.yld rfl (blt rfl) rfl (Y.assign rfl rfl) ?_
  refine WL.nil ?_
  refine WK.then_normal (k7 _ _ ?_)
  refine WC.sub [(4, _)] ⟨rfl, trivial⟩ ?_
  refine WC.ret ?_
  clear k1 k7
  refine WK.ret [_] rfl ⟨rfl, trivial⟩ ?_
  exact ⟨rfl, xW⟩
end R
end ItW

end Go.Proofs.Ytbdfhiihaemjhaa
