/- Contracts: the reference of columns, all of it. Conditions: what each theorem states. -/
import Derived.Test.YtklccakoblibmaaSxPu2
import Derived.Test.YtklccakoblibmaaSxPutA
namespace Go.Proofs.Ytklccakoblibmaa
open Go Go.Eng Go.RowKit
set_option linter.unusedVariables false
set_option linter.unusedSimpArgs false
namespace SxW
open B C D E G S T U V W X Y Z
namespace Z2
theorem ti9 : TI Try.prog 9 (.string ⟨#[]⟩) 1 16 := TI.mk (by kernel_rfl)
theorem ti22 : TI Try.prog 22 (.int .i64 0) 1 8 := TI.mk (by kernel_rfl)
theorem ti26 : TI Try.prog 26 (.slice none 0 0) 1 24 := TI.mk (by kernel_rfl)
theorem ti28 : TI Try.prog 28 (.agg #[.int .i64 0, .string ⟨#[]⟩, .int .i64 0, .int .i64 0, .string ⟨#[]⟩, .slice none 0 0]) 6 80 := TI.mk (by kernel_rfl)
theorem has12 : Has Try.prog 12 := ⟨_, Try.func12, rfl, by kernel_rfl⟩
theorem has34 : Has Try.prog 34 := ⟨_, Try.func34, rfl, by kernel_rfl⟩
theorem has55 : Has Try.prog 55 := ⟨_, Try.func55, rfl, by kernel_rfl⟩
theorem rfields_any : ∀ (d_x : Nat) (x : Sx.E) (A_l : Option Addr) (n_l c_l : Nat) (u : List ByteArray) (w : World), Sx.Good d_x w x → Sx.cnt x ≤ 300 → Ls w A_l n_l c_l Sx.sc 1 u → u.length + Sx.cnt x ≤ 900 →
    Calls Try.prog 34 #[.slice A_l n_l c_l, .agg #[.int .i64 x.op, .string x.nm, .int .i64 x.vk, .int .i64 x.vn, .string x.vs, .slice x.A x.n x.c]] w fun e w' => ∃ (A : Option Addr) (n c : Nat), e = .returned (.slice A n c) ∧ Ls w' A n c Sx.sc 1 (Sx.putA u (Sx.flds x)) ∧ Ext w w' := by
  intro d_x
  induction d_x using Nat.strongRecOn
  rename_i d_x ih
  intro x A_l n_l c_l u w g_x hc_x h_l hu
  have xW := Ext.refl w
  have e_l := h_l.len
  have z_l := h_l.nle
  have h_x := g_x.ls
  have e_x := h_x.len
  have z_x := h_x.nle
  have cn := Sx.cnt_eq x
  have lx := Sx.lev_eq x
  refine calls_of_WC (args := [.slice A_l n_l c_l, .agg #[.int .i64 x.op, .string x.nm, .int .i64 x.vk, .int .i64 x.vn, .string x.vs, .slice x.A x.n x.c]]) Try.func34 rfl rfl (ble rfl) ?_
  refine WC.seq (fun K1 k1 => ?_)
  refine WC.region rfl ?_
  refine WL.box rfl (blt rfl) rfl rfl rfl rfl ?_
  intro g2 w3 e4 x5 m6
  have o_g2 := own_new xW e4
  have h_l := h_l.ext x5
  have xW := Ext.trans xW x5
  refine WL.yld rfl (blt rfl) rfl (Y.assign rfl rfl) ?_
  refine WL.nil ?_
  refine WK.then_normal (k1 _ _ ?_)
  refine WC.sub [(0, _), (3, _)] ⟨rfl, rfl, trivial⟩ ?_
  refine WC.seq (fun K7 k7 => ?_)
  refine WC.seq (fun K8 k8 => ?_)
  refine WC.region rfl ?_
  refine WL.yld rfl (blt rfl) rfl (Y.fieldAddr rfl Try.underlying28 rfl ti22 (by decide) rfl) ?_
  refine WL.yld rfl (blt rfl) rfl (Y.load1 rfl Try.underlying22 rfl rfl (Blk.at_eq m6 rfl)) ?_
  refine WL.yld rfl (blt rfl) rfl (Y.eql rfl rfl rfl) ?_
  refine WL.nil ?_
  refine WK.then_normal (k8 _ _ ?_)
  refine WC.sub [(0, _), (3, _), (8, _)] ⟨rfl, rfl, rfl, trivial⟩ ?_
  refine WC.cond rfl (fun h9 => ?_) (fun h9 => ?_)
  ·
    have p9 := (eq_t h9)
    refine WC.region rfl ?_
    refine WL.yld rfl (blt rfl) rfl (Y.move rfl rfl) ?_
    refine WL.yld rfl (blt rfl) rfl (Y.fieldAddr rfl Try.underlying28 rfl ti9 (by decide) rfl) ?_
    refine WL.yld rfl (blt rfl) rfl (Y.load1 rfl Try.underlying9 rfl rfl (Blk.at_eq m6 rfl)) ?_
    refine WL.call rfl (blt rfl) rfl rfl rfl has55 rfl (put_any _ _ _ _ _ _ h_l (by omega)) ?_
    rintro _ w10 ⟨v12, rfl, ow13, x11⟩
    refine ⟨_, rfl, ?_⟩
    obtain ⟨A14, n15, c16, rfl, hl17⟩ := OwnL.opened ow13 (fun _ => rfl) (by decide)
    have e_n15 := hl17.len
    have h_l := h_l.ext x11
    have m6 := m6.ext x11
    have xW := Ext.trans xW x11
    refine WL.yld rfl (blt rfl) rfl (Y.assign rfl rfl) ?_
    refine WL.nil ?_
    refine WK.then_normal (k7 _ _ ?_)
    refine WC.sub [(0, _), (3, _)] ⟨rfl, rfl, trivial⟩ ?_
    refine WC.seq (fun K18 k18 => ?_)
    refine WC.seq (fun K19 k19 => ?_)
    refine WC.region rfl ?_
    refine WL.yld rfl (blt rfl) rfl (Y.assign rfl rfl) ?_
    refine WL.nil ?_
    refine WK.then_normal (k19 _ _ ?_)
    refine WC.block ?_
    refine WC.sub [(5, _), (0, _), (3, _)] ⟨rfl, rfl, rfl, trivial⟩ ?_
    refine WC.loopS 2 (fun mz Ed W' => ∃ i : Nat, ∃ A : Option Addr, ∃ m : Nat, ∃ c : Nat, mz = x.n - i ∧ Ed = [(5, .int .i64 ((i : Nat) : Int)), (0, .slice A m c)] ∧ Ext w W' ∧ Ls W' A_l n_l c_l Sx.sc 1 (u) ∧ Blk W' g2 28 _ ∧ Ls W' A14 n15 c16 Sx.sc 1 (Sx.putL x.nm u) ∧ (i ≤ x.n) ∧ (Ls W' A m c Sx.sc 1 (Sx.pcur x u i))) _ ⟨0, _, _, _, rfl, rfl, xW, h_l, m6, hl17, (Nat.zero_le _), (by rw [← Sx.pcur_yes (by have q := h9; simp only [Bool.and_eq_true, Bool.or_eq_true, Bool.not_eq_true', Bool.and_eq_false_iff, Bool.or_eq_false_iff, Bool.not_eq_false', decide_eq_true_eq, decide_eq_false_iff_not, beq_iff_eq, beq_eq_false_iff_ne, ne_eq] at q; exact q)]; exact hl17)⟩ ?_
    rintro _ _ w20 ⟨i, A, m, c, rfl, rfl, xW, h_l, m6, hl17, le_i, hv⟩
    refine WC.sub [(5, _), (0, _), (3, _)] ⟨rfl, rfl, rfl, trivial⟩ ?_
    have kl := Sx.cntL_le (l := x.kids) (i := i)
    refine WC.seq (fun K21 k21 => ?_)
    refine WC.seq (fun K22 k22 => ?_)
    refine WC.region rfl ?_
    refine WL.yld rfl (blt rfl) rfl (Y.move rfl rfl) ?_
    refine WL.yld rfl (blt rfl) rfl (Y.fieldAddr rfl Try.underlying28 rfl ti26 (by decide) rfl) ?_
    refine WL.yld rfl (blt rfl) rfl (Y.load1 rfl Try.underlying26 rfl rfl (Blk.at_eq m6 rfl)) ?_
    refine WL.yld rfl (blt rfl) rfl (Y.lenSl rfl rfl rfl Try.underlying26 rfl) ?_
    refine WL.yld rfl (blt rfl) rfl (Y.lss rfl rfl rfl) ?_
    refine WL.nil ?_
    refine WK.then_normal (k22 _ _ ?_)
    refine WC.sub [(0, _), (3, _), (5, _), (17, _)] ⟨rfl, rfl, rfl, rfl, trivial⟩ ?_
    refine WC.cond rfl (fun h23 => ?_) (fun h23 => ?_)
    ·
      have p23 := (dec_t h23)
      have ck := Sx.cnt_kid (m := 300) hc_x (bang_mem (show i < x.kids.length from by omega))
      have kc := Sx.cntL_next (l := x.kids) (show i < x.kids.length from by omega)
      have kl := Sx.cntL_le (l := x.kids) (i := i + 1)
      refine WC.skip ?_
      refine WK.then_normal (k21 _ _ ?_)
      refine WC.sub [(0, _), (3, _), (5, _)] ⟨rfl, rfl, rfl, trivial⟩ ?_
      refine WC.seq (fun K24 k24 => ?_)
      refine WC.block ?_
      refine WC.region rfl ?_
      refine WL.yld rfl (blt rfl) rfl (Y.move rfl rfl) ?_
      refine WL.yld rfl (blt rfl) rfl (Y.fieldAddr rfl Try.underlying28 rfl ti26 (by decide) rfl) ?_
      refine WL.yld rfl (blt rfl) rfl (Y.load1 rfl Try.underlying26 rfl rfl (Blk.at_eq m6 rfl)) ?_
      refine WL.yld rfl (blt rfl) rfl (Y.move rfl rfl) ?_
      have b25 : i < x.n := by omega
      refine WL.yld rfl (blt rfl) rfl (Y.indexLs i (g_x.ls.ext xW) rfl Try.underlying26 ti28 rfl rfl rfl b25) ?_
      refine WL.yld rfl (blt rfl) rfl (Y.loadS (cs := [_, _, _, _, _, _]) rfl Try.underlying28 rfl ti28 rfl (Ls.part_eq (g_x.ls.ext xW) b25 rfl)) ?_
      refine WL.call rfl (blt rfl) rfl rfl rfl has34 rfl (ih (d_x - 1) (by have := g_x.pos; omega) _ _ _ _ _ _ ((g_x.kid (bang_mem (show i < x.kids.length from by omega))).ext xW) (Sx.cnt_kid hc_x (bang_mem (show i < x.kids.length from by omega))) hv (by have := Sx.pcur_len (x := x) (u := u) (i := i); omega)) ?_
      rintro _ w26 ⟨A28, n29, c30, rfl, hl31, x27⟩
      refine ⟨_, rfl, ?_⟩
      have e_n29 := hl31.len
      have h_l := h_l.ext x27
      have m6 := m6.ext x27
      have hl17 := hl17.ext x27
      have hv := hv.ext x27
      have xW := Ext.trans xW x27
      refine WL.yld rfl (blt rfl) rfl (Y.assign rfl rfl) ?_
      refine WL.nil ?_
      refine WK.in_normal ?_
      refine WK.then_normal (k24 _ _ ?_)
      refine WC.sub [(0, _), (3, _), (5, _)] ⟨rfl, rfl, rfl, trivial⟩ ?_
      refine WC.region rfl ?_
      refine WL.yld rfl (blt rfl) rfl (Y.move rfl rfl) ?_
      refine WL.yld rfl (blt rfl) rfl (Y.add rfl rfl rfl (wrap_i64 (by first | omega | (dsimp only; omega)))) ?_
      refine WL.yld rfl (blt rfl) rfl (Y.assign rfl rfl) ?_
      refine WL.nil ?_
      refine WK.roundS _ [(5, .int .i64 (((i + 1) : Nat) : Int)), (0, .slice _ _ _)] ⟨rfl, rfl, rfl, trivial⟩ ?_ ⟨(i + 1), _, _, _, rfl, rfl, xW, h_l, m6, hl17, (by omega), (by rw [← Sx.pcur_next (show i < x.kids.length from by omega)]; exact hl31)⟩
      show _ - (i + 1) < _ - i; omega
    ·
      have p23 := (dec_f h23)
      refine WC.exit ?_
      refine WK.then_exit ?_
      refine WK.then_exit ?_
      refine WK.in_exit ?_
      refine WK.then_normal (k18 _ _ ?_)
      refine WC.sub [(0, _)] ⟨rfl, trivial⟩ ?_
      refine WC.seq (fun K32 k32 => ?_)
      refine WC.region rfl ?_
      refine WL.yld rfl (blt rfl) rfl (Y.move rfl rfl) ?_
      refine WL.yld rfl (blt rfl) rfl (Y.assign rfl rfl) ?_
      refine WL.nil ?_
      refine WK.then_normal (k32 _ _ ?_)
      refine WC.sub [(4, _)] ⟨rfl, trivial⟩ ?_
      refine WC.ret ?_
      clear k1 k7 k8 k18 k19 k21 k22 k32
      refine WK.ret [_] rfl ⟨rfl, trivial⟩ ?_
      have q := hv
      rw [Sx.pcur_end (by omega)] at q
      exact ⟨_, _, _, rfl, q, xW⟩
  ·
    have p9 := (eq_f h9)
    refine WC.skip ?_
    refine WK.then_normal (k7 _ _ ?_)
    refine WC.sub [(0, _), (3, _)] ⟨rfl, rfl, trivial⟩ ?_
    refine WC.seq (fun K33 k33 => ?_)
    refine WC.seq (fun K34 k34 => ?_)
    refine WC.region rfl ?_
    refine WL.yld rfl (blt rfl) rfl (Y.assign rfl rfl) ?_
    refine WL.nil ?_
    refine WK.then_normal (k34 _ _ ?_)
    refine WC.block ?_
    refine WC.sub [(5, _), (0, _), (3, _)] ⟨rfl, rfl, rfl, trivial⟩ ?_
    refine WC.loopS 2 (fun mz Ed W' => ∃ i : Nat, ∃ A : Option Addr, ∃ m : Nat, ∃ c : Nat, mz = x.n - i ∧ Ed = [(5, .int .i64 ((i : Nat) : Int)), (0, .slice A m c)] ∧ Ext w W' ∧ Ls W' A_l n_l c_l Sx.sc 1 (u) ∧ Blk W' g2 28 _ ∧ (i ≤ x.n) ∧ (Ls W' A m c Sx.sc 1 (Sx.pcur x u i))) _ ⟨0, _, _, _, rfl, rfl, xW, h_l, m6, (Nat.zero_le _), (by rw [← Sx.pcur_no (by have q := h9; simp only [Bool.and_eq_true, Bool.or_eq_true, Bool.not_eq_true', Bool.and_eq_false_iff, Bool.or_eq_false_iff, Bool.not_eq_false', decide_eq_true_eq, decide_eq_false_iff_not, beq_iff_eq, beq_eq_false_iff_ne, ne_eq] at q; exact q)]; exact h_l)⟩ ?_
    rintro _ _ w35 ⟨i, A, m, c, rfl, rfl, xW, h_l, m6, le_i, hv⟩
    refine WC.sub [(5, _), (0, _), (3, _)] ⟨rfl, rfl, rfl, trivial⟩ ?_
    have kl := Sx.cntL_le (l := x.kids) (i := i)
    refine WC.seq (fun K36 k36 => ?_)
    refine WC.seq (fun K37 k37 => ?_)
    refine WC.region rfl ?_
    refine WL.yld rfl (blt rfl) rfl (Y.move rfl rfl) ?_
    refine WL.yld rfl (blt rfl) rfl (Y.fieldAddr rfl Try.underlying28 rfl ti26 (by decide) rfl) ?_
    refine WL.yld rfl (blt rfl) rfl (Y.load1 rfl Try.underlying26 rfl rfl (Blk.at_eq m6 rfl)) ?_
    refine WL.yld rfl (blt rfl) rfl (Y.lenSl rfl rfl rfl Try.underlying26 rfl) ?_
    refine WL.yld rfl (blt rfl) rfl (Y.lss rfl rfl rfl) ?_
    refine WL.nil ?_
    refine WK.then_normal (k37 _ _ ?_)
    refine WC.sub [(0, _), (3, _), (5, _), (17, _)] ⟨rfl, rfl, rfl, rfl, trivial⟩ ?_
    refine WC.cond rfl (fun h38 => ?_) (fun h38 => ?_)
    ·
      have p38 := (dec_t h38)
      have ck := Sx.cnt_kid (m := 300) hc_x (bang_mem (show i < x.kids.length from by omega))
      have kc := Sx.cntL_next (l := x.kids) (show i < x.kids.length from by omega)
      have kl := Sx.cntL_le (l := x.kids) (i := i + 1)
      refine WC.skip ?_
      refine WK.then_normal (k36 _ _ ?_)
      refine WC.sub [(0, _), (3, _), (5, _)] ⟨rfl, rfl, rfl, trivial⟩ ?_
      refine WC.seq (fun K39 k39 => ?_)
      refine WC.block ?_
      refine WC.region rfl ?_
      refine WL.yld rfl (blt rfl) rfl (Y.move rfl rfl) ?_
      refine WL.yld rfl (blt rfl) rfl (Y.fieldAddr rfl Try.underlying28 rfl ti26 (by decide) rfl) ?_
      refine WL.yld rfl (blt rfl) rfl (Y.load1 rfl Try.underlying26 rfl rfl (Blk.at_eq m6 rfl)) ?_
      refine WL.yld rfl (blt rfl) rfl (Y.move rfl rfl) ?_
      have b40 : i < x.n := by omega
      refine WL.yld rfl (blt rfl) rfl (Y.indexLs i (g_x.ls.ext xW) rfl Try.underlying26 ti28 rfl rfl rfl b40) ?_
      refine WL.yld rfl (blt rfl) rfl (Y.loadS (cs := [_, _, _, _, _, _]) rfl Try.underlying28 rfl ti28 rfl (Ls.part_eq (g_x.ls.ext xW) b40 rfl)) ?_
      refine WL.call rfl (blt rfl) rfl rfl rfl has34 rfl (ih (d_x - 1) (by have := g_x.pos; omega) _ _ _ _ _ _ ((g_x.kid (bang_mem (show i < x.kids.length from by omega))).ext xW) (Sx.cnt_kid hc_x (bang_mem (show i < x.kids.length from by omega))) hv (by have := Sx.pcur_len (x := x) (u := u) (i := i); omega)) ?_
      rintro _ w41 ⟨A43, n44, c45, rfl, hl46, x42⟩
      refine ⟨_, rfl, ?_⟩
      have e_n44 := hl46.len
      have h_l := h_l.ext x42
      have m6 := m6.ext x42
      have hv := hv.ext x42
      have xW := Ext.trans xW x42
      refine WL.yld rfl (blt rfl) rfl (Y.assign rfl rfl) ?_
      refine WL.nil ?_
      refine WK.in_normal ?_
      refine WK.then_normal (k39 _ _ ?_)
      refine WC.sub [(0, _), (3, _), (5, _)] ⟨rfl, rfl, rfl, trivial⟩ ?_
      refine WC.region rfl ?_
      refine WL.yld rfl (blt rfl) rfl (Y.move rfl rfl) ?_
      refine WL.yld rfl (blt rfl) rfl (Y.add rfl rfl rfl (wrap_i64 (by first | omega | (dsimp only; omega)))) ?_
      refine WL.yld rfl (blt rfl) rfl (Y.assign rfl rfl) ?_
      refine WL.nil ?_
      refine WK.roundS _ [(5, .int .i64 (((i + 1) : Nat) : Int)), (0, .slice _ _ _)] ⟨rfl, rfl, rfl, trivial⟩ ?_ ⟨(i + 1), _, _, _, rfl, rfl, xW, h_l, m6, (by omega), (by rw [← Sx.pcur_next (show i < x.kids.length from by omega)]; exact hl46)⟩
      show _ - (i + 1) < _ - i; omega
    ·
      have p38 := (dec_f h38)
      refine WC.exit ?_
      refine WK.then_exit ?_
      refine WK.then_exit ?_
      refine WK.in_exit ?_
      refine WK.then_normal (k33 _ _ ?_)
      refine WC.sub [(0, _)] ⟨rfl, trivial⟩ ?_
      refine WC.seq (fun K47 k47 => ?_)
      refine WC.region rfl ?_
      refine WL.yld rfl (blt rfl) rfl (Y.move rfl rfl) ?_
      refine WL.yld rfl (blt rfl) rfl (Y.assign rfl rfl) ?_
      refine WL.nil ?_
      refine WK.then_normal (k47 _ _ ?_)
      refine WC.sub [(4, _)] ⟨rfl, trivial⟩ ?_
      refine WC.ret ?_
      clear k1 k7 k8 k33 k34 k36 k37 k47
      refine WK.ret [_] rfl ⟨rfl, trivial⟩ ?_
      have q := hv
      rw [Sx.pcur_end (by omega)] at q
      exact ⟨_, _, _, rfl, q, xW⟩
theorem rcolumns_any (d_x : Nat) (x : Sx.E) (w : World) (g_x : Sx.Good d_x w x) (sh_x : Sx.short x = true) (hc_x : Sx.cnt x ≤ 300) :
    Calls Try.prog 15 #[.agg #[.int .i64 x.op, .string x.nm, .int .i64 x.vk, .int .i64 x.vn, .string x.vs, .slice x.A x.n x.c]] w fun e w' => ∃ (A : Option Addr) (n c : Nat), e = .returned (.slice A n c) ∧ Ls w' A n c Sx.sc 1 (Sx.colP x) ∧ Ext w w' := by
  have xW := Ext.refl w
  have h_x := g_x.ls
  have e_x := h_x.len
  have z_x := h_x.nle
  refine calls_of_WC (args := [.agg #[.int .i64 x.op, .string x.nm, .int .i64 x.vk, .int .i64 x.vn, .string x.vs, .slice x.A x.n x.c]]) Try.func15 rfl rfl (ble rfl) ?_
  refine WC.seq (fun K1 k1 => ?_)
  refine WC.region rfl ?_
  refine WL.box rfl (blt rfl) rfl rfl rfl rfl ?_
  intro g2 w3 e4 x5 m6
  have o_g2 := own_new xW e4
  have xW := Ext.trans xW x5
  refine WL.yld rfl (blt rfl) rfl (Y.assign rfl rfl) ?_
  refine WL.nil ?_
  refine WK.then_normal (k1 _ _ ?_)
  refine WC.sub [(1, _)] ⟨rfl, trivial⟩ ?_
  refine WC.seq (fun K7 k7 => ?_)
  refine WC.seq (fun K8 k8 => ?_)
  refine WC.region rfl ?_
  refine WL.yld rfl (blt rfl) rfl (Y.loadS rfl Try.underlying28 rfl ti28 rfl (Blk.row_eq m6)) ?_
  refine WL.call rfl (blt rfl) rfl rfl rfl has12 rfl (rexpr_any _ _ _ (g_x.ext xW) sh_x hc_x) ?_
  rintro _ w9 ⟨rfl, x10⟩
  refine ⟨_, rfl, ?_⟩
  have m6 := m6.ext x10
  have xW := Ext.trans xW x10
  refine WL.yld rfl (blt rfl) rfl (Y.neq rfl rfl rfl) ?_
  refine WL.nil ?_
  refine WK.then_normal (k8 _ _ ?_)
  refine WC.sub [(1, _), (5, _)] ⟨rfl, rfl, trivial⟩ ?_
  refine WC.cond rfl (fun h11 => ?_) (fun h11 => ?_)
  ·
    have p11 := (eq_f (not_t h11))
    refine WC.seq (fun K12 k12 => ?_)
    refine WC.region rfl ?_
    refine WL.yld rfl (blt rfl) rfl (Y.assign rfl rfl) ?_
    refine WL.nil ?_
    refine WK.then_normal (k12 _ _ ?_)
    refine WC.sub [(2, _)] ⟨rfl, trivial⟩ ?_
    refine WC.ret ?_
    refine WK.then_ret ?_
    clear k1 k7 k8 k12
    refine WK.ret [_] rfl ⟨rfl, trivial⟩ ?_
    exact ⟨_, _, _, rfl, (by rw [Sx.colP_no (by have q := h11; simp only [Bool.and_eq_true, Bool.or_eq_true, Bool.not_eq_true', Bool.and_eq_false_iff, Bool.or_eq_false_iff, Bool.not_eq_false', decide_eq_true_eq, decide_eq_false_iff_not, beq_iff_eq, beq_eq_false_iff_ne, ne_eq] at q; exact q)]; exact Ls.nil (by decide)), xW⟩
  ·
    have p11 := (eq_t (not_f h11))
    refine WC.skip ?_
    refine WK.then_normal (k7 _ _ ?_)
    refine WC.sub [(1, _)] ⟨rfl, trivial⟩ ?_
    refine WC.seq (fun K13 k13 => ?_)
    refine WC.region rfl ?_
    refine WL.yld rfl (blt rfl) rfl (Y.loadS rfl Try.underlying28 rfl ti28 rfl (Blk.row_eq m6)) ?_
    refine WL.call rfl (blt rfl) rfl rfl rfl has34 rfl (rfields_any _ _ _ _ _ [] _ (g_x.ext xW) hc_x (Ls.nil (by decide)) (by rw [List.length_nil]; omega)) ?_
    rintro _ w14 ⟨A16, n17, c18, rfl, hl19, x15⟩
    refine ⟨_, rfl, ?_⟩
    have e_n17 := hl19.len
    have m6 := m6.ext x15
    have xW := Ext.trans xW x15
    refine WL.yld rfl (blt rfl) rfl (Y.assign rfl rfl) ?_
    refine WL.nil ?_
    refine WK.then_normal (k13 _ _ ?_)
    refine WC.sub [(2, _)] ⟨rfl, trivial⟩ ?_
    refine WC.ret ?_
    clear k1 k7 k8 k13
    refine WK.ret [_] rfl ⟨rfl, trivial⟩ ?_
    exact ⟨_, _, _, rfl, (by rw [Sx.colP_ok (by have q := h11; simp only [Bool.and_eq_true, Bool.or_eq_true, Bool.not_eq_true', Bool.and_eq_false_iff, Bool.or_eq_false_iff, Bool.not_eq_false', decide_eq_true_eq, decide_eq_false_iff_not, beq_iff_eq, beq_eq_false_iff_ne, ne_eq] at q; exact q)]; exact hl19), xW⟩
end Z2
end SxW

end Go.Proofs.Ytklccakoblibmaa
