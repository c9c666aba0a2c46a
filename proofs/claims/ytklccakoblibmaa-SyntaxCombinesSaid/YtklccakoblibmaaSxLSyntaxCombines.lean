/- The walk of SyntaxCombines. Conditions: what each theorem states. -/
import Derived.Test.YtklccakoblibmaaSxCal
import Derived.Test.YtklccakoblibmaaSxLw
namespace Go.Proofs.Ytklccakoblibmaa
open Go Go.Eng Go.RowKit
set_option linter.unusedVariables false
set_option linter.unusedSimpArgs false
namespace SxW
open B C D E G S T U V W X Y Z Z2 AA AB
namespace SyntaxCombines
theorem ti9 : TI Try.prog 9 (.string ⟨#[]⟩) 1 16 := TI.mk (by kernel_rfl)
theorem ti26 : TI Try.prog 26 (.slice none 0 0) 1 24 := TI.mk (by kernel_rfl)
theorem ti28 : TI Try.prog 28 (.agg #[.int .i64 0, .string ⟨#[]⟩, .int .i64 0, .int .i64 0, .string ⟨#[]⟩, .slice none 0 0]) 6 80 := TI.mk (by kernel_rfl)
theorem has9 : Has Try.prog 9 := ⟨_, Try.func9, rfl, by kernel_rfl⟩
theorem has11 : Has Try.prog 11 := ⟨_, Try.func11, rfl, by kernel_rfl⟩
theorem has14 : Has Try.prog 14 := ⟨_, Try.func14, rfl, by kernel_rfl⟩
theorem has22 : Has Try.prog 22 := ⟨_, Try.func22, rfl, by kernel_rfl⟩
theorem pl28 : PL Try.prog 28 [.int .i64 0, .string ⟨#[]⟩, .int .i64 0, .int .i64 0, .string ⟨#[]⟩, .slice none 0 0] [(0, 1), (1, 1), (2, 3), (5, 1)] := PL.mk (zero := [.int .i64 0, .string ⟨#[]⟩, .int .i64 0, .int .i64 0, .string ⟨#[]⟩, .slice none 0 0]) ti28 Try.underlying28 (by kernel_rfl)
theorem SyntaxCombines_any (d_x : Nat) (x : Sx.E) (d_y : Nat) (y : Sx.E) (n : Int) (w : World) (g_x : Sx.Good d_x w x) (g_y : Sx.Good d_y w y) (r_n : 0 ≤ n ∧ n ≤ 255) :
    Calls Try.prog 6 #[.agg #[.int .i64 x.op, .string x.nm, .int .i64 x.vk, .int .i64 x.vn, .string x.vs, .slice x.A x.n x.c], .agg #[.int .i64 y.op, .string y.nm, .int .i64 y.vk, .int .i64 y.vn, .string y.vs, .slice y.A y.n y.c], .int .u8 n] w fun e w' => e = .returned (.bool true) ∧ Ext w w' := by
  have xW := Ext.refl w
  have h_x := g_x.ls
  have e_x := h_x.len
  have z_x := h_x.nle
  have h_y := g_y.ls
  have e_y := h_y.len
  have z_y := h_y.nle
  refine calls_of_WC (args := [.agg #[.int .i64 x.op, .string x.nm, .int .i64 x.vk, .int .i64 x.vn, .string x.vs, .slice x.A x.n x.c], .agg #[.int .i64 y.op, .string y.nm, .int .i64 y.vk, .int .i64 y.vn, .string y.vs, .slice y.A y.n y.c], .int .u8 n]) Try.func6 rfl rfl (ble rfl) ?_
  refine WC.seq (fun K1 k1 => ?_)
  refine WC.region rfl ?_
  refine WL.box rfl (blt rfl) rfl rfl rfl rfl ?_
  intro g2 w3 e4 x5 m6
  have o_g2 := own_new xW e4
  have xW := Ext.trans xW x5
  refine WL.box rfl (blt rfl) rfl rfl rfl rfl ?_
  intro g7 w8 e9 x10 m11
  have n_g2_g7 := ne_new m6 e9
  have o_g7 := own_new xW e9
  have m6 := m6.ext x10
  have xW := Ext.trans xW x10
  refine WL.yld rfl (blt rfl) rfl (Y.assign rfl rfl) ?_
  refine WL.nil ?_
  refine WK.then_normal (k1 _ _ ?_)
  refine WC.sub [(2, _), (3, _), (4, _)] ⟨rfl, rfl, rfl, trivial⟩ ?_
  refine WC.seq (fun K12 k12 => ?_)
  refine WC.seq (fun K13 k13 => ?_)
  refine WC.region rfl ?_
  refine WL.call rfl (blt rfl) rfl rfl rfl has9 rfl (awake_any _) ?_
  rintro _ w14 ⟨rfl, x15⟩
  refine ⟨_, rfl, ?_⟩
  have m6 := m6.ext x15
  have m11 := m11.ext x15
  have xW := Ext.trans xW x15
  refine WL.yld rfl (blt rfl) rfl (Y.not rfl rfl) ?_
  refine WL.yld rfl (blt rfl) rfl (Y.move rfl rfl) ?_
  refine WL.yldW rfl (blt rfl) rfl rfl rfl (Y.loadS rfl Try.underlying28 rfl ti28 rfl (Blk.row_eq m6)) ?_
  refine WL.callW rfl (blt rfl) rfl rfl rfl rfl rfl has22 rfl (deep_any _ x 15 99 _ (g_x.ext xW) (by omega) (by omega)) ?_
  rintro _ w16 ⟨a18, rfl, hdx, hdbx, x17⟩
  refine ⟨_, rfl, ?_⟩
  have m6 := m6.ext x17
  have m11 := m11.ext x17
  have xW := Ext.trans xW x17
  refine WL.yldW rfl (blt rfl) rfl rfl rfl (Y.lss rfl rfl rfl) ?_
  refine WL.yld rfl (blt rfl) rfl (Y.pickF rfl rfl rfl) ?_
  refine WL.yld rfl (blt rfl) rfl (Y.move rfl rfl) ?_
  refine WL.split (t := 23) rfl (fun h19 => ?_) (fun h19 => ?_)
  ·
    have p19 := (dec_t h19)
    refine WL.skip rfl (blt rfl) rfl rfl rfl rfl ?_
    refine WL.skip rfl (blt rfl) rfl rfl rfl rfl ?_
    refine WL.skip rfl (blt rfl) rfl rfl rfl rfl ?_
    refine WL.yld rfl (blt rfl) rfl (Y.pickT rfl rfl rfl) ?_
    refine WL.yld rfl (blt rfl) rfl (Y.move rfl rfl) ?_
    refine WL.skip rfl (blt rfl) rfl rfl rfl rfl ?_
    refine WL.skip rfl (blt rfl) rfl rfl rfl rfl ?_
    refine WL.skip rfl (blt rfl) rfl rfl rfl rfl ?_
    refine WL.yld rfl (blt rfl) rfl (Y.pickT rfl rfl rfl) ?_
    refine WL.yld rfl (blt rfl) rfl (Y.move rfl rfl) ?_
    refine WL.skip rfl (blt rfl) rfl rfl rfl rfl ?_
    refine WL.skip rfl (blt rfl) rfl rfl rfl rfl ?_
    refine WL.skip rfl (blt rfl) rfl rfl rfl rfl ?_
    refine WL.yld rfl (blt rfl) rfl (Y.pickT rfl rfl rfl) ?_
    refine WL.nil ?_
    refine WK.then_normal (k13 _ _ ?_)
    refine WC.sub [(2, _), (3, _), (4, _), (37, _)] ⟨rfl, rfl, rfl, rfl, trivial⟩ ?_
    refine WC.condT rfl ?_
    refine WC.seq (fun K20 k20 => ?_)
    refine WC.region rfl ?_
    refine WL.call rfl (blt rfl) rfl rfl rfl has9 rfl (awake_any _) ?_
    rintro _ w21 ⟨rfl, x22⟩
    refine ⟨_, rfl, ?_⟩
    have m6 := m6.ext x22
    have m11 := m11.ext x22
    have xW := Ext.trans xW x22
    refine WL.yld rfl (blt rfl) rfl (Y.assign rfl rfl) ?_
    refine WL.nil ?_
    refine WK.then_normal (k20 _ _ ?_)
    refine WC.sub [(6, _)] ⟨rfl, trivial⟩ ?_
    refine WC.ret ?_
    refine WK.then_ret ?_
    clear k1 k12 k13 k20
    refine WK.ret [_] rfl ⟨rfl, trivial⟩ ?_
    exact ⟨rfl, xW⟩
  ·
    have p19 := (dec_f h19)
    refine WL.yldW rfl (blt rfl) rfl rfl rfl (Y.loadS rfl Try.underlying28 rfl ti28 rfl (Blk.row_eq m11)) ?_
    refine WL.callW rfl (blt rfl) rfl rfl rfl rfl rfl has22 rfl (deep_any _ y 15 99 _ (g_y.ext xW) (by omega) (by omega)) ?_
    rintro _ w23 ⟨a25, rfl, hdy, hdby, x24⟩
    refine ⟨_, rfl, ?_⟩
    have m6 := m6.ext x24
    have m11 := m11.ext x24
    have xW := Ext.trans xW x24
    refine WL.yldW rfl (blt rfl) rfl rfl rfl (Y.lss rfl rfl rfl) ?_
    refine WL.yld rfl (blt rfl) rfl (Y.pickF rfl rfl rfl) ?_
    refine WL.yld rfl (blt rfl) rfl (Y.move rfl rfl) ?_
    refine WL.split (t := 28) rfl (fun h26 => ?_) (fun h26 => ?_)
    ·
      have p26 := (dec_t h26)
      refine WL.skip rfl (blt rfl) rfl rfl rfl rfl ?_
      refine WL.skip rfl (blt rfl) rfl rfl rfl rfl ?_
      refine WL.skip rfl (blt rfl) rfl rfl rfl rfl ?_
      refine WL.yld rfl (blt rfl) rfl (Y.pickT rfl rfl rfl) ?_
      refine WL.yld rfl (blt rfl) rfl (Y.move rfl rfl) ?_
      refine WL.skip rfl (blt rfl) rfl rfl rfl rfl ?_
      refine WL.skip rfl (blt rfl) rfl rfl rfl rfl ?_
      refine WL.skip rfl (blt rfl) rfl rfl rfl rfl ?_
      refine WL.yld rfl (blt rfl) rfl (Y.pickT rfl rfl rfl) ?_
      refine WL.nil ?_
      refine WK.then_normal (k13 _ _ ?_)
      refine WC.sub [(2, _), (3, _), (4, _), (37, _)] ⟨rfl, rfl, rfl, rfl, trivial⟩ ?_
      refine WC.condT rfl ?_
      refine WC.seq (fun K27 k27 => ?_)
      refine WC.region rfl ?_
      refine WL.call rfl (blt rfl) rfl rfl rfl has9 rfl (awake_any _) ?_
      rintro _ w28 ⟨rfl, x29⟩
      refine ⟨_, rfl, ?_⟩
      have m6 := m6.ext x29
      have m11 := m11.ext x29
      have xW := Ext.trans xW x29
      refine WL.yld rfl (blt rfl) rfl (Y.assign rfl rfl) ?_
      refine WL.nil ?_
      refine WK.then_normal (k27 _ _ ?_)
      refine WC.sub [(6, _)] ⟨rfl, trivial⟩ ?_
      refine WC.ret ?_
      refine WK.then_ret ?_
      clear k1 k12 k13 k27
      refine WK.ret [_] rfl ⟨rfl, trivial⟩ ?_
      exact ⟨rfl, xW⟩
    ·
      have p26 := (dec_f h26)
      refine WL.yldW rfl (blt rfl) rfl rfl rfl (Y.loadS rfl Try.underlying28 rfl ti28 rfl (Blk.row_eq m6)) ?_
      have hx := hdx (by have q := dec_f h19; omega)
      have hy := hdy (by have q := dec_f h26; omega)
      have sh_x := hx.1
      have cx_x : Sx.cnt x ≤ 99 := by omega
      have hc_x : Sx.cnt x ≤ 300 := by omega
      have sh_y := hy.1
      have cx_y : Sx.cnt y ≤ 99 := by omega
      have hc_y : Sx.cnt y ≤ 300 := by omega
      refine WL.callW rfl (blt rfl) rfl rfl rfl rfl rfl has11 rfl (expr_any _ _ _ (g_x.ext xW) sh_x hc_x) ?_
      rintro _ w30 ⟨rfl, x31⟩
      refine ⟨_, rfl, ?_⟩
      have m6 := m6.ext x31
      have m11 := m11.ext x31
      have xW := Ext.trans xW x31
      refine WL.yldW rfl (blt rfl) rfl rfl rfl (Y.neq rfl rfl rfl) ?_
      refine WL.yld rfl (blt rfl) rfl (Y.pickF rfl rfl rfl) ?_
      refine WL.yld rfl (blt rfl) rfl (Y.move rfl rfl) ?_
      refine WL.split (t := 33) rfl (fun h32 => ?_) (fun h32 => ?_)
      ·
        have p32 := (eq_f (not_t h32))
        refine WL.skip rfl (blt rfl) rfl rfl rfl rfl ?_
        refine WL.skip rfl (blt rfl) rfl rfl rfl rfl ?_
        refine WL.skip rfl (blt rfl) rfl rfl rfl rfl ?_
        refine WL.yld rfl (blt rfl) rfl (Y.pickT rfl rfl rfl) ?_
        refine WL.nil ?_
        refine WK.then_normal (k13 _ _ ?_)
        refine WC.sub [(2, _), (3, _), (4, _), (37, _)] ⟨rfl, rfl, rfl, rfl, trivial⟩ ?_
        refine WC.condT rfl ?_
        refine WC.seq (fun K33 k33 => ?_)
        refine WC.region rfl ?_
        refine WL.call rfl (blt rfl) rfl rfl rfl has9 rfl (awake_any _) ?_
        rintro _ w34 ⟨rfl, x35⟩
        refine ⟨_, rfl, ?_⟩
        have m6 := m6.ext x35
        have m11 := m11.ext x35
        have xW := Ext.trans xW x35
        refine WL.yld rfl (blt rfl) rfl (Y.assign rfl rfl) ?_
        refine WL.nil ?_
        refine WK.then_normal (k33 _ _ ?_)
        refine WC.sub [(6, _)] ⟨rfl, trivial⟩ ?_
        refine WC.ret ?_
        refine WK.then_ret ?_
        clear k1 k12 k13 k33
        refine WK.ret [_] rfl ⟨rfl, trivial⟩ ?_
        exact ⟨rfl, xW⟩
      ·
        have p32 := (eq_t (not_f h32))
        refine WL.yldW rfl (blt rfl) rfl rfl rfl (Y.loadS rfl Try.underlying28 rfl ti28 rfl (Blk.row_eq m11)) ?_
        refine WL.callW rfl (blt rfl) rfl rfl rfl rfl rfl has11 rfl (expr_any _ _ _ (g_y.ext xW) sh_y hc_y) ?_
        rintro _ w36 ⟨rfl, x37⟩
        refine ⟨_, rfl, ?_⟩
        have m6 := m6.ext x37
        have m11 := m11.ext x37
        have xW := Ext.trans xW x37
        refine WL.yldW rfl (blt rfl) rfl rfl rfl (Y.neq rfl rfl rfl) ?_
        refine WL.yld rfl (blt rfl) rfl (Y.pickF rfl rfl rfl) ?_
        refine WL.nil ?_
        refine WK.then_normal (k13 _ _ ?_)
        refine WC.sub [(2, _), (3, _), (4, _), (37, _)] ⟨rfl, rfl, rfl, rfl, trivial⟩ ?_
        refine WC.cond rfl (fun h38 => ?_) (fun h38 => ?_)
        ·
          have p38 := (eq_f (not_t h38))
          refine WC.seq (fun K39 k39 => ?_)
          refine WC.region rfl ?_
          refine WL.call rfl (blt rfl) rfl rfl rfl has9 rfl (awake_any _) ?_
          rintro _ w40 ⟨rfl, x41⟩
          refine ⟨_, rfl, ?_⟩
          have m6 := m6.ext x41
          have m11 := m11.ext x41
          have xW := Ext.trans xW x41
          refine WL.yld rfl (blt rfl) rfl (Y.assign rfl rfl) ?_
          refine WL.nil ?_
          refine WK.then_normal (k39 _ _ ?_)
          refine WC.sub [(6, _)] ⟨rfl, trivial⟩ ?_
          refine WC.ret ?_
          refine WK.then_ret ?_
          clear k1 k12 k13 k39
          refine WK.ret [_] rfl ⟨rfl, trivial⟩ ?_
          exact ⟨rfl, xW⟩
        ·
          have p38 := (eq_t (not_f h38))
          have zx : Sx.exE x = 0 := (by have q := h32; simp only [Bool.and_eq_true, Bool.or_eq_true, Bool.not_eq_true', Bool.and_eq_false_iff, Bool.or_eq_false_iff, Bool.not_eq_false', decide_eq_true_eq, decide_eq_false_iff_not, beq_iff_eq, beq_eq_false_iff_ne, ne_eq] at q; exact q)
          have zy : Sx.exE y = 0 := (by have q := h38; simp only [Bool.and_eq_true, Bool.or_eq_true, Bool.not_eq_true', Bool.and_eq_false_iff, Bool.or_eq_false_iff, Bool.not_eq_false', decide_eq_true_eq, decide_eq_false_iff_not, beq_iff_eq, beq_eq_false_iff_ne, ne_eq] at q; exact q)
          have lcx := Sx.colR_len zx
          have lcy := Sx.colR_len zy
          refine WC.skip ?_
          refine WK.then_normal (k12 _ _ ?_)
          refine WC.sub [(2, _), (3, _), (4, _)] ⟨rfl, rfl, rfl, trivial⟩ ?_
          refine WC.seq (fun K42 k42 => ?_)
          refine WC.seq (fun K43 k43 => ?_)
          refine WC.region rfl ?_
          refine WL.yld rfl (blt rfl) rfl (Y.assign rfl rfl) ?_
          refine WL.nil ?_
          refine WK.then_normal (k43 _ _ ?_)
          refine WC.block ?_
          refine WC.sub [(7, _), (2, _), (3, _), (4, _)] ⟨rfl, rfl, rfl, rfl, trivial⟩ ?_
          refine WC.loopS 1 (fun mz Ed W' => ∃ i : Nat, mz = x.n - i ∧ Ed = [(7, .int .i64 ((i : Nat) : Int))] ∧ Ext w W' ∧ Blk W' g2 28 _ ∧ Blk W' g7 28 _ ∧ (i ≤ x.n)) _ ⟨0, rfl, rfl, xW, m6, m11, (Nat.zero_le _)⟩ ?_
          rintro _ _ w44 ⟨i, rfl, rfl, xW, m6, m11, le_i⟩
          refine WC.sub [(7, _), (2, _), (3, _), (4, _)] ⟨rfl, rfl, rfl, rfl, trivial⟩ ?_
          refine WC.seq (fun K45 k45 => ?_)
          refine WC.seq (fun K46 k46 => ?_)
          refine WC.region rfl ?_
          refine WL.yld rfl (blt rfl) rfl (Y.move rfl rfl) ?_
          refine WL.yld rfl (blt rfl) rfl (Y.fieldAddr rfl Try.underlying28 rfl ti26 (by decide) rfl) ?_
          refine WL.yld rfl (blt rfl) rfl (Y.load1 rfl Try.underlying26 rfl rfl (Blk.at_eq m6 rfl)) ?_
          refine WL.yld rfl (blt rfl) rfl (Y.lenSl rfl rfl rfl Try.underlying26 rfl) ?_
          refine WL.yld rfl (blt rfl) rfl (Y.lss rfl rfl rfl) ?_
          refine WL.nil ?_
          refine WK.then_normal (k46 _ _ ?_)
          refine WC.sub [(2, _), (3, _), (4, _), (7, _), (43, _)] ⟨rfl, rfl, rfl, rfl, rfl, trivial⟩ ?_
          refine WC.cond rfl (fun h47 => ?_) (fun h47 => ?_)
          ·
            have p47 := (dec_t h47)
            refine WC.skip ?_
            refine WK.then_normal (k45 _ _ ?_)
            refine WC.sub [(2, _), (3, _), (4, _), (7, _)] ⟨rfl, rfl, rfl, rfl, trivial⟩ ?_
            refine WC.seq (fun K48 k48 => ?_)
            refine WC.block ?_
            refine WC.seq (fun K49 k49 => ?_)
            refine WC.region rfl ?_
            refine WL.yld rfl (blt rfl) rfl (Y.fieldAddr rfl Try.underlying28 rfl ti26 (by decide) rfl) ?_
            refine WL.yld rfl (blt rfl) rfl (Y.load1 rfl Try.underlying26 rfl rfl (Blk.at_eq m6 rfl)) ?_
            refine WL.yld rfl (blt rfl) rfl (Y.move rfl rfl) ?_
            have b50 : i < x.n := by omega
            refine WL.yld rfl (blt rfl) rfl (Y.indexLs i (g_x.ls.ext xW) rfl Try.underlying26 ti28 rfl rfl rfl b50) ?_
            refine WL.yld rfl (blt rfl) rfl (Y.loadS (cs := [_, _, _, _, _, _]) rfl Try.underlying28 rfl ti28 rfl (Ls.part_eq (g_x.ls.ext xW) b50 rfl)) ?_
            refine WL.call rfl (blt rfl) rfl rfl rfl has11 rfl (expr_any _ _ _ ((g_x.kid (bang_mem (show i < x.kids.length from by omega))).ext xW) (Sx.short_kid sh_x (bang_mem (show i < x.kids.length from by omega))) (Sx.cnt_kid hc_x (bang_mem (show i < x.kids.length from by omega)))) ?_
            rintro _ w51 ⟨rfl, x52⟩
            refine ⟨_, rfl, ?_⟩
            have m6 := m6.ext x52
            have m11 := m11.ext x52
            have xW := Ext.trans xW x52
            refine WL.yld rfl (blt rfl) rfl (Y.neq rfl rfl rfl) ?_
            refine WL.nil ?_
            refine WK.then_normal (k49 _ _ ?_)
            refine WC.sub [(2, _), (3, _), (4, _), (7, _), (52, _)] ⟨rfl, rfl, rfl, rfl, rfl, trivial⟩ ?_
            refine WC.cond rfl (fun h53 => ?_) (fun h53 => ?_)
            ·
              clear k1 k12 k13 k42 k43 k45 k46 k48 k49
              exact False.elim (by have q := h53; rw [Sx.ex_kid zx (bang_mem (show i < x.kids.length from by omega))] at q; simp at q)
            ·
              have p53 := (eq_t (not_f h53))
              refine WC.skip ?_
              refine WK.in_normal ?_
              refine WK.then_normal (k48 _ _ ?_)
              refine WC.sub [(2, _), (3, _), (4, _), (7, _)] ⟨rfl, rfl, rfl, rfl, trivial⟩ ?_
              refine WC.region rfl ?_
              refine WL.yld rfl (blt rfl) rfl (Y.move rfl rfl) ?_
              refine WL.yld rfl (blt rfl) rfl (Y.add rfl rfl rfl (wrap_i64 (by first | omega | (dsimp only; omega)))) ?_
              refine WL.yld rfl (blt rfl) rfl (Y.assign rfl rfl) ?_
              refine WL.nil ?_
              refine WK.roundS _ [(7, .int .i64 (((i + 1) : Nat) : Int))] ⟨rfl, rfl, rfl, rfl, trivial⟩ ?_ ⟨(i + 1), rfl, rfl, xW, m6, m11, (by omega)⟩
              show _ - (i + 1) < _ - i; omega
          ·
            have p47 := (dec_f h47)
            refine WC.exit ?_
            refine WK.then_exit ?_
            refine WK.then_exit ?_
            refine WK.in_exit ?_
            refine WK.then_normal (k42 _ _ ?_)
            refine WC.sub [(2, _), (3, _), (4, _)] ⟨rfl, rfl, rfl, trivial⟩ ?_
            refine WC.seq (fun K54 k54 => ?_)
            refine WC.region rfl ?_
            refine WL.yld rfl (blt rfl) rfl (Y.move rfl rfl) ?_
            refine WL.yld rfl (blt rfl) rfl (Y.rem rfl rfl rfl (by omega) (rem_pos (by omega))) ?_
            refine WL.yld rfl (blt rfl) rfl (Y.convInt rfl Try.underlying5 Try.underlying22 rfl (wrap_i64 (by first | omega | (dsimp only; omega)))) ?_
            refine WL.yld rfl (blt rfl) rfl (Y.add rfl rfl rfl (wrap_i64 (by first | omega | (dsimp only; omega)))) ?_
            refine WL.yld rfl (blt rfl) rfl (Y.loadS rfl Try.underlying28 rfl ti28 rfl (Blk.row_eq m6)) ?_
            refine WL.yld rfl (blt rfl) rfl (Y.loadS rfl Try.underlying28 rfl ti28 rfl (Blk.row_eq m11)) ?_
            refine WL.bslice (zs := [.int .i64 0, .string ⟨#[]⟩, .int .i64 0, .int .i64 0, .string ⟨#[]⟩, .slice none 0 0, .int .i64 0, .string ⟨#[]⟩, .int .i64 0, .int .i64 0, .string ⟨#[]⟩, .slice none 0 0]) (cs := [_, _, _, _, _, _, _, _, _, _, _, _]) rfl (blt rfl) rfl rfl Try.underlying26 ti28 rfl (ble rfl) (by kernel_rfl) rfl rfl ?_
            intro g55 w56 e57 x58 m59
            have n_g2_g55 := ne_new m6 e57
            have n_g7_g55 := ne_new m11 e57
            have o_g55 := own_new xW e57
            have m6 := m6.ext x58
            have m11 := m11.ext x58
            have xW := Ext.trans xW x58
            refine WL.yld rfl (blt rfl) rfl (Y.build (cells := [_, _, _, _, _, _]) rfl pl28 rfl rfl) ?_
            refine WL.alloc rfl (blt rfl) rfl rfl ti28 rfl ?_
            intro g60 w61 e62 x63 m64
            have n_g2_g60 := ne_new m6 e62
            have n_g7_g60 := ne_new m11 e62
            have n_g55_g60 := ne_new m59 e62
            have o_g60 := own_new xW e62
            have m6 := m6.ext x63
            have m11 := m11.ext x63
            have m59 := m59.ext x63
            have xW := Ext.trans xW x63
            refine WL.store (cs' := [_, _, _, _, _, _]) rfl rfl rfl rfl rfl rfl ti28 m64 (ble rfl) rfl rfl (fun w65 on66 m67 => ?_)
            have m6 := m6.only n_g2_g60 on66
            have m11 := m11.only n_g7_g60 on66
            have m59 := m59.only n_g55_g60 on66
            have xW := Ext.only xW on66 o_g60
            refine WL.nil ?_
            refine WK.then_normal (k54 _ _ ?_)
            refine WC.sub [(3, _), (4, _), (8, _)] ⟨rfl, rfl, rfl, trivial⟩ ?_
            refine WC.seq (fun K68 k68 => ?_)
            refine WC.seq (fun K69 k69 => ?_)
            refine WC.region rfl ?_
            refine WL.yld rfl (blt rfl) rfl (Y.loadS rfl Try.underlying28 rfl ti28 rfl (Blk.row_eq m67)) ?_
            have zb : Sx.exE (Sx.both n g55 x y) = 0 := Sx.both_ex zx zy (by omega) (by omega) (by omega)
            refine WL.call rfl (blt rfl) rfl rfl rfl has11 rfl (calls_cast (by rw [Sx.both_ex zx zy (by omega) (by omega) (by omega)]) (expr_any _ (Sx.both n g55 x y) _ (Sx.both_good (g_x.ext xW) (g_y.ext xW) (Ls.lit (f := Sx.E.v) (sz := 6) (l := [x, y]) m59 (fun _ => rfl) rfl (by decide) rfl)) (Sx.both_sh sh_x sh_y) (by rw [Sx.both_ct]; omega))) ?_
            rintro _ w70 ⟨rfl, x71⟩
            refine ⟨_, rfl, ?_⟩
            have m6 := m6.ext x71
            have m11 := m11.ext x71
            have m59 := m59.ext x71
            have m67 := m67.ext x71
            have xW := Ext.trans xW x71
            refine WL.yld rfl (blt rfl) rfl (Yld.cast (Y.neq rfl rfl rfl) (vb rfl)) ?_
            refine WL.nil ?_
            refine WK.then_normal (k69 _ _ ?_)
            refine WC.sub [(3, _), (4, _), (8, _), (63, _)] ⟨rfl, rfl, rfl, rfl, trivial⟩ ?_
            refine WC.condF rfl ?_
            refine WC.skip ?_
            refine WK.then_normal (k68 _ _ ?_)
            refine WC.sub [(3, _), (4, _), (8, _)] ⟨rfl, rfl, rfl, trivial⟩ ?_
            refine WC.seq (fun K72 k72 => ?_)
            refine WC.regionX (fun W' => Ext w W' ∧ Blk W' g2 28 _ ∧ Blk W' g7 28 _ ∧ Blk W' g55 28 _ ∧ Blk W' g60 28 _) (.load 0 (.load 2 (.load 4 (.alt 1 (.alt 3 (.alt 5 (.load 6 (.load 7 (.load 8 (.fin)))) (.none)) (.none)) (.none))))) ⟨xW, m6, m11, m59, m67⟩ (by kernel_rfl) (by kernel_rfl) (fun w73 x74 => ?_)
            have m6 := m6.ext x74
            have m11 := m11.ext x74
            have m59 := m59.ext x74
            have m67 := m67.ext x74
            have xW := Ext.trans xW x74
            refine WX.yld rfl rfl (blt rfl) rfl (Y.loadS rfl Try.underlying28 rfl ti28 rfl (Blk.row_c (fun _ h => h.2.1))) ?_
            refine WX.yld rfl rfl (blt rfl) rfl (Y.loadS rfl Try.underlying28 rfl ti28 rfl (Blk.row_c (fun _ h => h.2.2.1))) ?_
            refine WX.yld rfl rfl (blt rfl) rfl (Y.loadS rfl Try.underlying28 rfl ti28 rfl (Blk.row_c (fun _ h => h.2.2.2.2))) ?_
            refine WX.call rfl rfl (blt rfl) rfl rfl rfl has14 rfl ⟨xW, m6, m11, m59, m67⟩ (columnsE_any _ _ _ (g_x.ext xW) sh_x hc_x) ?_
            rintro _ w75 ⟨v77, rfl, ow78, x76⟩
            refine ⟨_, rfl, ?_⟩
            have r_v77_g2 := ne_res ow78 m6
            have r_v77_g7 := ne_res ow78 m11
            have r_v77_g55 := ne_res ow78 m59
            have r_v77_g60 := ne_res ow78 m67
            have ow78 := OwnL.base_le ow78 xW.size
            have m6 := m6.ext x76
            have m11 := m11.ext x76
            have m59 := m59.ext x76
            have m67 := m67.ext x76
            have xW := Ext.trans xW x76
            refine WX.call rfl rfl (blt rfl) rfl rfl rfl has14 rfl ⟨xW, m6, m11, m59, m67⟩ (columnsE_any _ _ _ (g_y.ext xW) sh_y hc_y) ?_
            rintro _ w79 ⟨v81, rfl, ow82, x80⟩
            refine ⟨_, rfl, ?_⟩
            have r_v81_g2 := ne_res ow82 m6
            have r_v81_g7 := ne_res ow82 m11
            have r_v81_g55 := ne_res ow82 m59
            have r_v81_g60 := ne_res ow82 m67
            have d_v77_v81 := (Apart.res ow82 ow78).symm
            have ow82 := OwnL.base_le ow82 xW.size
            have m6 := m6.ext x80
            have m11 := m11.ext x80
            have m59 := m59.ext x80
            have m67 := m67.ext x80
            have ow78 := ow78.ext x80
            have xW := Ext.trans xW x80
            refine WX.call rfl rfl (blt rfl) rfl rfl rfl has14 rfl ⟨xW, m6, m11, m59, m67⟩ (columnsE_any _ (Sx.both n g55 x y) _ (Sx.both_good (g_x.ext xW) (g_y.ext xW) (Ls.lit (f := Sx.E.v) (sz := 6) (l := [x, y]) m59 (fun _ => rfl) rfl (by decide) rfl)) (Sx.both_sh sh_x sh_y) (by rw [Sx.both_ct]; omega)) ?_
            rintro _ w83 ⟨v85, rfl, ow86, x84⟩
            refine ⟨_, rfl, ?_⟩
            have r_v85_g2 := ne_res ow86 m6
            have r_v85_g7 := ne_res ow86 m11
            have r_v85_g55 := ne_res ow86 m59
            have r_v85_g60 := ne_res ow86 m67
            have d_v77_v85 := (Apart.res ow86 ow78).symm
            have d_v81_v85 := (Apart.res ow86 ow82).symm
            have ow86 := OwnL.base_le ow86 xW.size
            have m6 := m6.ext x84
            have m11 := m11.ext x84
            have m59 := m59.ext x84
            have m67 := m67.ext x84
            have ow78 := ow78.ext x84
            have ow82 := ow82.ext x84
            have xW := Ext.trans xW x84
            refine WX.yld rfl rfl (blt rfl) rfl (Y.assign rfl rfl) ?_
            refine WX.yld rfl rfl (blt rfl) rfl (Y.assign rfl rfl) ?_
            refine WX.yld rfl rfl (blt rfl) rfl (Y.assign rfl rfl) ?_
            refine WX.nil ⟨xW, m6, m11, m59, m67⟩ ?_
            refine WK.then_normal (k72 _ _ ?_)
            refine WC.sub [(9, _), (10, _), (11, _)] ⟨rfl, rfl, rfl, trivial⟩ ?_
            refine WC.seq (fun K87 k87 => ?_)
            refine WC.seq (fun K88 k88 => ?_)
            refine WC.region rfl ?_
            refine WL.yld rfl (blt rfl) rfl (Y.assign rfl rfl) ?_
            refine WL.nil ?_
            refine WK.then_normal (k88 _ _ ?_)
            refine WC.block ?_
            refine WC.sub [(12, _), (9, _), (10, _), (11, _)] ⟨rfl, rfl, rfl, rfl, trivial⟩ ?_
            refine WC.loopS 1 (fun mz Ed W' => ∃ i : Nat, mz = (Sx.colR (Sx.both n g55 x y)).length - i ∧ Ed = [(12, .int .i64 ((i : Nat) : Int))] ∧ Ext w W' ∧ OwnL W' w.heap.size 9 Sx.sc 1 v77 _ ∧ OwnL W' w.heap.size 9 Sx.sc 1 v81 _ ∧ OwnL W' w.heap.size 9 Sx.sc 1 v85 _ ∧ (i ≤ (Sx.colR (Sx.both n g55 x y)).length)) _ ⟨0, rfl, rfl, xW, ow78, ow82, ow86, (Nat.zero_le _)⟩ ?_
            rintro _ _ w89 ⟨i, rfl, rfl, xW, ow78, ow82, ow86, le_i⟩
            refine WC.sub [(12, _), (9, _), (10, _), (11, _)] ⟨rfl, rfl, rfl, rfl, trivial⟩ ?_
            refine WC.seq (fun K90 k90 => ?_)
            refine WC.seq (fun K91 k91 => ?_)
            refine WC.region rfl ?_
            refine WL.yld rfl (blt rfl) rfl (Y.move rfl rfl) ?_
            refine WL.yld rfl (blt rfl) rfl (Y.move rfl rfl) ?_
            obtain ⟨A92, n93, c94, rfl, hl95⟩ := OwnL.opened ow86 (fun _ => rfl) (by decide)
            have e_n93 := hl95.len
            try simp only [List.length_append, List.length_cons, List.length_nil, List.length_reverse, List.length_drop, List.length_take, List.length_map, List.length_replicate, List.length_set] at e_n93
            have z_n93 := hl95.nle
            refine WL.yld rfl (blt rfl) rfl (Y.lenSl rfl rfl rfl Try.underlying34 rfl) ?_
            refine WL.yld rfl (blt rfl) rfl (Y.lss rfl rfl rfl) ?_
            refine WL.nil ?_
            refine WK.then_normal (k91 _ _ ?_)
            refine WC.sub [(9, _), (10, _), (11, _), (12, _), (73, _)] ⟨rfl, rfl, rfl, rfl, rfl, trivial⟩ ?_
            refine WC.cond rfl (fun h96 => ?_) (fun h96 => ?_)
            ·
              have p96 := (dec_t h96)
              refine WC.skip ?_
              refine WK.then_normal (k90 _ _ ?_)
              refine WC.sub [(9, _), (10, _), (11, _), (12, _)] ⟨rfl, rfl, rfl, rfl, trivial⟩ ?_
              refine WC.seq (fun K97 k97 => ?_)
              refine WC.block ?_
              refine WC.seq (fun K98 k98 => ?_)
              refine WC.region rfl ?_
              refine WL.yld rfl (blt rfl) rfl (Y.assign rfl rfl) ?_
              refine WL.nil ?_
              refine WK.then_normal (k98 _ _ ?_)
              refine WC.seq (fun K99 k99 => ?_)
              refine WC.seq (fun K100 k100 => ?_)
              refine WC.region rfl ?_
              refine WL.yld rfl (blt rfl) rfl (Y.assign rfl rfl) ?_
              refine WL.nil ?_
              refine WK.then_normal (k100 _ _ ?_)
              refine WC.block ?_
              refine WC.sub [(14, _), (13, _), (9, _), (10, _), (11, _), (12, _)] ⟨rfl, rfl, rfl, rfl, rfl, rfl, trivial⟩ ?_
              refine WC.loopS 2 (fun mz Ed W' => ∃ k : Nat, ∃ b : Bool, mz = (Sx.colR x).length - k ∧ Ed = [(14, .int .i64 ((k : Nat) : Int)), (13, .bool b)] ∧ Ext w W' ∧ OwnL W' w.heap.size 9 Sx.sc 1 v77 _ ∧ OwnL W' w.heap.size 9 Sx.sc 1 v81 _ ∧ OwnL W' w.heap.size 9 Sx.sc 1 (.slice A92 n93 c94) _ ∧ (k ≤ (Sx.colR x).length) ∧ (∀ j, j < k → ((Sx.colR x)[j]! == (Sx.colR (Sx.both n g55 x y))[i]!) = true → b = true)) _ ⟨0, false, rfl, rfl, xW, ow78, ow82, ow86, (Nat.zero_le _), (fun j hj => absurd hj (Nat.not_lt_zero j))⟩ ?_
              rintro _ _ w101 ⟨k, b, rfl, rfl, xW, ow78, ow82, ow86, le_k, ib⟩
              refine WC.sub [(14, _), (13, _), (9, _), (10, _), (11, _), (12, _)] ⟨rfl, rfl, rfl, rfl, rfl, rfl, trivial⟩ ?_
              have hl95 := OwnL.ls ow86 (fun _ => rfl) (by decide)
              refine WC.seq (fun K102 k102 => ?_)
              refine WC.seq (fun K103 k103 => ?_)
              refine WC.region rfl ?_
              refine WL.yld rfl (blt rfl) rfl (Y.move rfl rfl) ?_
              refine WL.yld rfl (blt rfl) rfl (Y.move rfl rfl) ?_
              obtain ⟨A104, n105, c106, rfl, hl107⟩ := OwnL.opened ow78 (fun _ => rfl) (by decide)
              have e_n105 := hl107.len
              try simp only [List.length_append, List.length_cons, List.length_nil, List.length_reverse, List.length_drop, List.length_take, List.length_map, List.length_replicate, List.length_set] at e_n105
              have z_n105 := hl107.nle
              refine WL.yld rfl (blt rfl) rfl (Y.lenSl rfl rfl rfl Try.underlying34 rfl) ?_
              refine WL.yld rfl (blt rfl) rfl (Y.lss rfl rfl rfl) ?_
              refine WL.nil ?_
              refine WK.then_normal (k103 _ _ ?_)
              refine WC.sub [(9, _), (10, _), (11, _), (12, _), (13, _), (14, _), (79, _)] ⟨rfl, rfl, rfl, rfl, rfl, rfl, rfl, trivial⟩ ?_
              refine WC.cond rfl (fun h108 => ?_) (fun h108 => ?_)
              ·
                have p108 := (dec_t h108)
                refine WC.skip ?_
                refine WK.then_normal (k102 _ _ ?_)
                refine WC.sub [(9, _), (10, _), (11, _), (12, _), (13, _), (14, _)] ⟨rfl, rfl, rfl, rfl, rfl, rfl, trivial⟩ ?_
                refine WC.seq (fun K109 k109 => ?_)
                refine WC.block ?_
                refine WC.regionDq (by kernel_rfl) (by kernel_rfl) rfl ?_
                refine WQ.yld rfl (blt rfl) rfl (Y.move rfl rfl) ?_
                refine WQ.yld rfl (blt rfl) rfl (Y.move rfl rfl) ?_
                refine WQ.yldG rfl (blt rfl) rfl rfl rfl (fun hb => Y.move rfl rfl) ?_
                refine WQ.yldG rfl (blt rfl) rfl rfl rfl (fun hb => Y.move rfl rfl) ?_
                refine WQ.yldG rfl (blt rfl) rfl rfl rfl (fun hb => Y.indexLs k hl107 rfl Try.underlying34 ti9 (evg rfl hb) (evg rfl hb) rfl (by omega)) ?_
                refine WQ.yldG rfl (blt rfl) rfl rfl rfl (fun hb => Y.load1 rfl Try.underlying9 rfl (evg rfl hb) (Ls.at_ext hl107 (by omega) rfl)) ?_
                refine WQ.yldG rfl (blt rfl) rfl rfl rfl (fun hb => Y.move rfl rfl) ?_
                refine WQ.yldG rfl (blt rfl) rfl rfl rfl (fun hb => Y.move rfl rfl) ?_
                refine WQ.yldG rfl (blt rfl) rfl rfl rfl (fun hb => Y.indexLs i hl95 rfl Try.underlying34 ti9 (evg rfl hb) (evg rfl hb) rfl (by omega)) ?_
                refine WQ.yldG rfl (blt rfl) rfl rfl rfl (fun hb => Y.load1 rfl Try.underlying9 rfl (evg rfl hb) (Ls.at_ext hl95 (by omega) rfl)) ?_
                refine WQ.yldG rfl (blt rfl) rfl rfl rfl (fun hb => Y.eqlStr rfl (evg rfl hb) (evg rfl hb)) ?_
                refine WQ.yld rfl (blt rfl) rfl (Y.or rfl rfl rfl rfl) ?_
                refine WQ.yld rfl (blt rfl) rfl (Y.assign rfl rfl) ?_
                refine WQ.done (fun w110 x111 => ?_)
                have ow78 := ow78.ext x111
                have hl107 := hl107.ext x111
                have ow82 := ow82.ext x111
                have ow86 := ow86.ext x111
                have hl95 := hl95.ext x111
                have xW := Ext.trans xW x111
                refine WK.in_normal ?_
                refine WK.then_normal (k109 _ _ ?_)
                refine WC.sub [(9, _), (10, _), (11, _), (12, _), (13, _), (14, _)] ⟨rfl, rfl, rfl, rfl, rfl, rfl, trivial⟩ ?_
                refine WC.region rfl ?_
                refine WL.yld rfl (blt rfl) rfl (Y.move rfl rfl) ?_
                refine WL.yld rfl (blt rfl) rfl (Y.add rfl rfl rfl (wrap_i64 (by first | omega | (dsimp only; omega)))) ?_
                refine WL.yld rfl (blt rfl) rfl (Y.assign rfl rfl) ?_
                refine WL.nil ?_
                refine WK.roundS _ [(14, .int .i64 (((k + 1) : Nat) : Int)), (13, .bool _)] ⟨rfl, rfl, rfl, rfl, rfl, rfl, trivial⟩ ?_ ⟨(k + 1), _, rfl, rfl, xW, ow78, ow82, ow86, (by omega), (fun j hj z => by rcases Nat.lt_succ_iff_lt_or_eq.1 hj with h | h; rw [ib j h z]; rfl; subst h; rw [z, Bool.or_true])⟩
                show _ - (k + 1) < _ - k; omega
              ·
                have p108 := (dec_f h108)
                refine WC.exit ?_
                refine WK.then_exit ?_
                refine WK.then_exit ?_
                refine WK.in_exit ?_
                refine WK.then_normal (k99 _ _ ?_)
                refine WC.sub [(9, _), (10, _), (11, _), (12, _), (13, _)] ⟨rfl, rfl, rfl, rfl, rfl, trivial⟩ ?_
                refine WC.seq (fun K112 k112 => ?_)
                refine WC.seq (fun K113 k113 => ?_)
                refine WC.region rfl ?_
                refine WL.yld rfl (blt rfl) rfl (Y.assign rfl rfl) ?_
                refine WL.nil ?_
                refine WK.then_normal (k113 _ _ ?_)
                refine WC.block ?_
                refine WC.sub [(15, _), (13, _), (9, _), (10, _), (11, _), (12, _)] ⟨rfl, rfl, rfl, rfl, rfl, rfl, trivial⟩ ?_
                refine WC.loopS 2 (fun mz Ed W' => ∃ k : Nat, ∃ c : Bool, mz = (Sx.colR y).length - k ∧ Ed = [(15, .int .i64 ((k : Nat) : Int)), (13, .bool c)] ∧ Ext w W' ∧ OwnL W' w.heap.size 9 Sx.sc 1 (.slice A104 n105 c106) _ ∧ OwnL W' w.heap.size 9 Sx.sc 1 v81 _ ∧ OwnL W' w.heap.size 9 Sx.sc 1 (.slice A92 n93 c94) _ ∧ (k ≤ (Sx.colR y).length) ∧ (∀ j, j < (Sx.colR x).length → ((Sx.colR x)[j]! == (Sx.colR (Sx.both n g55 x y))[i]!) = true → c = true) ∧ (∀ j, j < k → ((Sx.colR y)[j]! == (Sx.colR (Sx.both n g55 x y))[i]!) = true → c = true)) _ ⟨0, _, rfl, rfl, xW, ow78, ow82, ow86, (Nat.zero_le _), (fun j hj z => ib j (by omega) z), (fun j hj => absurd hj (Nat.not_lt_zero j))⟩ ?_
                rintro _ _ w114 ⟨k, c, rfl, rfl, xW, ow78, ow82, ow86, le_k2, ic0, ic⟩
                refine WC.sub [(15, _), (13, _), (9, _), (10, _), (11, _), (12, _)] ⟨rfl, rfl, rfl, rfl, rfl, rfl, trivial⟩ ?_
                have hl107 := OwnL.ls ow78 (fun _ => rfl) (by decide)
                have hl95 := OwnL.ls ow86 (fun _ => rfl) (by decide)
                refine WC.seq (fun K115 k115 => ?_)
                refine WC.seq (fun K116 k116 => ?_)
                refine WC.region rfl ?_
                refine WL.yld rfl (blt rfl) rfl (Y.move rfl rfl) ?_
                refine WL.yld rfl (blt rfl) rfl (Y.move rfl rfl) ?_
                obtain ⟨A117, n118, c119, rfl, hl120⟩ := OwnL.opened ow82 (fun _ => rfl) (by decide)
                have e_n118 := hl120.len
                try simp only [List.length_append, List.length_cons, List.length_nil, List.length_reverse, List.length_drop, List.length_take, List.length_map, List.length_replicate, List.length_set] at e_n118
                have z_n118 := hl120.nle
                refine WL.yld rfl (blt rfl) rfl (Y.lenSl rfl rfl rfl Try.underlying34 rfl) ?_
                refine WL.yld rfl (blt rfl) rfl (Y.lss rfl rfl rfl) ?_
                refine WL.nil ?_
                refine WK.then_normal (k116 _ _ ?_)
                refine WC.sub [(9, _), (10, _), (11, _), (12, _), (13, _), (15, _), (97, _)] ⟨rfl, rfl, rfl, rfl, rfl, rfl, rfl, trivial⟩ ?_
                refine WC.cond rfl (fun h121 => ?_) (fun h121 => ?_)
                ·
                  have p121 := (dec_t h121)
                  refine WC.skip ?_
                  refine WK.then_normal (k115 _ _ ?_)
                  refine WC.sub [(9, _), (10, _), (11, _), (12, _), (13, _), (15, _)] ⟨rfl, rfl, rfl, rfl, rfl, rfl, trivial⟩ ?_
                  refine WC.seq (fun K122 k122 => ?_)
                  refine WC.block ?_
                  refine WC.regionDq (by kernel_rfl) (by kernel_rfl) rfl ?_
                  refine WQ.yld rfl (blt rfl) rfl (Y.move rfl rfl) ?_
                  refine WQ.yld rfl (blt rfl) rfl (Y.move rfl rfl) ?_
                  refine WQ.yldG rfl (blt rfl) rfl rfl rfl (fun hb => Y.move rfl rfl) ?_
                  refine WQ.yldG rfl (blt rfl) rfl rfl rfl (fun hb => Y.move rfl rfl) ?_
                  refine WQ.yldG rfl (blt rfl) rfl rfl rfl (fun hb => Y.indexLs k hl120 rfl Try.underlying34 ti9 (evg rfl hb) (evg rfl hb) rfl (by omega)) ?_
                  refine WQ.yldG rfl (blt rfl) rfl rfl rfl (fun hb => Y.load1 rfl Try.underlying9 rfl (evg rfl hb) (Ls.at_ext hl120 (by omega) rfl)) ?_
                  refine WQ.yldG rfl (blt rfl) rfl rfl rfl (fun hb => Y.move rfl rfl) ?_
                  refine WQ.yldG rfl (blt rfl) rfl rfl rfl (fun hb => Y.move rfl rfl) ?_
                  refine WQ.yldG rfl (blt rfl) rfl rfl rfl (fun hb => Y.indexLs i hl95 rfl Try.underlying34 ti9 (evg rfl hb) (evg rfl hb) rfl (by omega)) ?_
                  refine WQ.yldG rfl (blt rfl) rfl rfl rfl (fun hb => Y.load1 rfl Try.underlying9 rfl (evg rfl hb) (Ls.at_ext hl95 (by omega) rfl)) ?_
                  refine WQ.yldG rfl (blt rfl) rfl rfl rfl (fun hb => Y.eqlStr rfl (evg rfl hb) (evg rfl hb)) ?_
                  refine WQ.yld rfl (blt rfl) rfl (Y.or rfl rfl rfl rfl) ?_
                  refine WQ.yld rfl (blt rfl) rfl (Y.assign rfl rfl) ?_
                  refine WQ.done (fun w123 x124 => ?_)
                  have ow78 := ow78.ext x124
                  have hl107 := hl107.ext x124
                  have ow82 := ow82.ext x124
                  have hl120 := hl120.ext x124
                  have ow86 := ow86.ext x124
                  have hl95 := hl95.ext x124
                  have xW := Ext.trans xW x124
                  refine WK.in_normal ?_
                  refine WK.then_normal (k122 _ _ ?_)
                  refine WC.sub [(9, _), (10, _), (11, _), (12, _), (13, _), (15, _)] ⟨rfl, rfl, rfl, rfl, rfl, rfl, trivial⟩ ?_
                  refine WC.region rfl ?_
                  refine WL.yld rfl (blt rfl) rfl (Y.move rfl rfl) ?_
                  refine WL.yld rfl (blt rfl) rfl (Y.add rfl rfl rfl (wrap_i64 (by first | omega | (dsimp only; omega)))) ?_
                  refine WL.yld rfl (blt rfl) rfl (Y.assign rfl rfl) ?_
                  refine WL.nil ?_
                  refine WK.roundS _ [(15, .int .i64 (((k + 1) : Nat) : Int)), (13, .bool _)] ⟨rfl, rfl, rfl, rfl, rfl, rfl, trivial⟩ ?_ ⟨(k + 1), _, rfl, rfl, xW, ow78, ow82, ow86, (by omega), (fun j hj z => by rw [ic0 j hj z]; rfl), (fun j hj z => by rcases Nat.lt_succ_iff_lt_or_eq.1 hj with h | h; rw [ic j h z]; rfl; subst h; rw [z, Bool.or_true])⟩
                  show _ - (k + 1) < _ - k; omega
                ·
                  have p121 := (dec_f h121)
                  refine WC.exit ?_
                  refine WK.then_exit ?_
                  refine WK.then_exit ?_
                  refine WK.in_exit ?_
                  refine WK.then_normal (k112 _ _ ?_)
                  refine WC.sub [(9, _), (10, _), (11, _), (12, _), (13, _)] ⟨rfl, rfl, rfl, rfl, rfl, trivial⟩ ?_
                  refine WC.seq (fun K125 k125 => ?_)
                  refine WC.regionDq (by kernel_rfl) (by kernel_rfl) rfl ?_
                  refine WQ.yld rfl (blt rfl) rfl (Y.move rfl rfl) ?_
                  refine WQ.yld rfl (blt rfl) rfl (Y.not rfl rfl) ?_
                  refine WQ.yld rfl (blt rfl) rfl (Y.move rfl rfl) ?_
                  refine WQ.yldG rfl (blt rfl) rfl rfl rfl (fun hb => Y.move rfl rfl) ?_
                  refine WQ.yldG rfl (blt rfl) rfl rfl rfl (fun hb => Y.gtr rfl (evg rfl hb) rfl) ?_
                  refine WQ.yldG rfl (blt rfl) rfl rfl rfl (fun hb => Y.move rfl (evg rfl hb)) ?_
                  refine WQ.yldGs [(_, _)] rfl (blt rfl) rfl rfl rfl (fun hb => Y.move rfl rfl) ?_
                  refine WQ.yldGs [(_, _)] rfl (blt rfl) rfl rfl rfl (fun hb => Y.move rfl rfl) ?_
                  refine WQ.yldGs [(_, _)] rfl (blt rfl) rfl rfl rfl (fun hb => Y.sub rfl (evg (evg rfl hb.1) hb.2.1) rfl (wrap_i64 (by have q1 := (dec_t hb.2.1); first | omega | (dsimp only; omega)))) ?_
                  refine WQ.yldGs [(_, _)] rfl (blt rfl) rfl rfl rfl (fun hb => Y.indexLs (i - 1) hl95 rfl Try.underlying34 ti9 (evg (evg rfl hb.1) hb.2.1) (evg (evg rfl hb.1) hb.2.1) (by have q1 := (dec_t hb.2.1); omega) (by have q1 := (dec_t hb.2.1); omega)) ?_
                  refine WQ.yldGs [(_, _)] rfl (blt rfl) rfl rfl rfl (fun hb => Y.load1 rfl Try.underlying9 rfl (evg (evg rfl hb.1) hb.2.1) (Ls.at_ext hl95 (by have q1 := (dec_t hb.2.1); omega) rfl)) ?_
                  refine WQ.yldGs [(_, _)] rfl (blt rfl) rfl rfl rfl (fun hb => Y.move rfl rfl) ?_
                  refine WQ.yldGs [(_, _)] rfl (blt rfl) rfl rfl rfl (fun hb => Y.move rfl rfl) ?_
                  refine WQ.yldGs [(_, _)] rfl (blt rfl) rfl rfl rfl (fun hb => Y.indexLs i hl95 rfl Try.underlying34 ti9 (evg (evg rfl hb.1) hb.2.1) (evg (evg rfl hb.1) hb.2.1) rfl (by have q1 := (dec_t hb.2.1); omega)) ?_
                  refine WQ.yldGs [(_, _)] rfl (blt rfl) rfl rfl rfl (fun hb => Y.load1 rfl Try.underlying9 rfl (evg (evg rfl hb.1) hb.2.1) (Ls.at_ext hl95 (by have q1 := (dec_t hb.2.1); omega) rfl)) ?_
                  refine WQ.yldGs [(_, _)] rfl (blt rfl) rfl rfl rfl (fun hb => Y.geqStr rfl (evg (evg rfl hb.1) hb.2.1) (evg (evg rfl hb.1) hb.2.1)) ?_
                  refine WQ.yldG rfl (blt rfl) rfl rfl rfl (fun hb => Y.and rfl (evg rfl hb) (evg rfl hb) rfl) ?_
                  refine WQ.yld rfl (blt rfl) rfl (Y.or rfl rfl rfl rfl) ?_
                  refine WQ.done (fun w126 x127 => ?_)
                  have ow78 := ow78.ext x127
                  have hl107 := hl107.ext x127
                  have ow82 := ow82.ext x127
                  have hl120 := hl120.ext x127
                  have ow86 := ow86.ext x127
                  have hl95 := hl95.ext x127
                  have xW := Ext.trans xW x127
                  refine WK.then_normal (k125 _ _ ?_)
                  refine WC.sub [(9, _), (10, _), (11, _), (12, _), (129, _)] ⟨rfl, rfl, rfl, rfl, rfl, trivial⟩ ?_
                  refine WC.cond rfl (fun h128 => ?_) (fun h128 => ?_)
                  ·
                    clear k1 k12 k13 k42 k43 k45 k46 k54 k68 k69 k72 k87 k88 k90 k91 k97 k98 k99 k100 k102 k103 k112 k113 k115 k116 k125
                    exact False.elim (by have q := h128; rw [Sx.both_found zx zy zb (show i < (Sx.colR (Sx.both n g55 x y)).length from by omega) ic0 (fun j hj z => ic j (by omega) z)] at q; simp only [Bool.not_true, Bool.false_or, Bool.and_eq_true, decide_eq_true_eq, Bool.not_eq_true'] at q; rw [Sx.colR_lt (show i - 1 < i from by omega) (by omega)] at q; cases q.2)
                  ·
                    have p128 := ((and_f (or_f h128).2).imp (fun h => (dec_f h)) (fun h => h))
                    refine WC.skip ?_
                    refine WK.in_normal ?_
                    refine WK.then_normal (k97 _ _ ?_)
                    refine WC.sub [(9, _), (10, _), (11, _), (12, _)] ⟨rfl, rfl, rfl, rfl, trivial⟩ ?_
                    refine WC.region rfl ?_
                    refine WL.yld rfl (blt rfl) rfl (Y.move rfl rfl) ?_
                    refine WL.yld rfl (blt rfl) rfl (Y.add rfl rfl rfl (wrap_i64 (by first | omega | (dsimp only; omega)))) ?_
                    refine WL.yld rfl (blt rfl) rfl (Y.assign rfl rfl) ?_
                    refine WL.nil ?_
                    refine WK.roundS _ [(12, .int .i64 (((i + 1) : Nat) : Int))] ⟨rfl, rfl, rfl, rfl, trivial⟩ ?_ ⟨(i + 1), rfl, rfl, xW, ow78, ow82, ow86, (by omega)⟩
                    show _ - (i + 1) < _ - i; omega
            ·
              have p96 := (dec_f h96)
              refine WC.exit ?_
              refine WK.then_exit ?_
              refine WK.then_exit ?_
              refine WK.in_exit ?_
              refine WK.then_normal (k87 _ _ ?_)
              refine WC.sub [(9, _), (10, _), (11, _)] ⟨rfl, rfl, rfl, trivial⟩ ?_
              refine WC.seq (fun K129 k129 => ?_)
              refine WC.region rfl ?_
              refine WL.yld rfl (blt rfl) rfl (Y.move rfl rfl) ?_
              refine WL.yld rfl (blt rfl) rfl (Y.lenSl rfl rfl rfl Try.underlying34 rfl) ?_
              refine WL.yld rfl (blt rfl) rfl (Y.move rfl rfl) ?_
              obtain ⟨A130, n131, c132, rfl, hl133⟩ := OwnL.opened ow78 (fun _ => rfl) (by decide)
              have e_n131 := hl133.len
              try simp only [List.length_append, List.length_cons, List.length_nil, List.length_reverse, List.length_drop, List.length_take, List.length_map, List.length_replicate, List.length_set] at e_n131
              have z_n131 := hl133.nle
              refine WL.yld rfl (blt rfl) rfl (Y.lenSl rfl rfl rfl Try.underlying34 rfl) ?_
              refine WL.yld rfl (blt rfl) rfl (Y.move rfl rfl) ?_
              obtain ⟨A134, n135, c136, rfl, hl137⟩ := OwnL.opened ow82 (fun _ => rfl) (by decide)
              have e_n135 := hl137.len
              try simp only [List.length_append, List.length_cons, List.length_nil, List.length_reverse, List.length_drop, List.length_take, List.length_map, List.length_replicate, List.length_set] at e_n135
              have z_n135 := hl137.nle
              refine WL.yld rfl (blt rfl) rfl (Y.lenSl rfl rfl rfl Try.underlying34 rfl) ?_
              refine WL.yld rfl (blt rfl) rfl (Y.maxI rfl rfl rfl rfl) ?_
              refine WL.yld rfl (blt rfl) rfl (Y.geq rfl rfl rfl) ?_
              refine WL.yld rfl (blt rfl) rfl (Y.move rfl rfl) ?_
              refine WL.yldG rfl (blt rfl) rfl rfl rfl (fun hb => Y.move rfl rfl) ?_
              refine WL.yldG rfl (blt rfl) rfl rfl rfl (fun hb => Y.lenSl rfl rfl rfl Try.underlying34 (evs_cons (evg rfl hb) evs_nil)) ?_
              refine WL.yldG rfl (blt rfl) rfl rfl rfl (fun hb => Y.move rfl rfl) ?_
              refine WL.yldG rfl (blt rfl) rfl rfl rfl (fun hb => Y.lenSl rfl rfl rfl Try.underlying34 (evs_cons (evg rfl hb) evs_nil)) ?_
              refine WL.yldG rfl (blt rfl) rfl rfl rfl (fun hb => Y.move rfl rfl) ?_
              refine WL.yldG rfl (blt rfl) rfl rfl rfl (fun hb => Y.lenSl rfl rfl rfl Try.underlying34 (evs_cons (evg rfl hb) evs_nil)) ?_
              refine WL.yldG rfl (blt rfl) rfl rfl rfl (fun hb => Y.add rfl (evg rfl hb) (evg rfl hb) (wrap_i64 (by have q0 := (dec_t hb); first | omega | (dsimp only; omega)))) ?_
              refine WL.yldG rfl (blt rfl) rfl rfl rfl (fun hb => Y.leq rfl (evg rfl hb) (evg rfl hb)) ?_
              refine WL.yld rfl (blt rfl) rfl (Y.and rfl rfl rfl rfl) ?_
              refine WL.yld rfl (blt rfl) rfl (Y.assign rfl rfl) ?_
              refine WL.nil ?_
              refine WK.then_normal (k129 _ _ ?_)
              refine WC.sub [(6, _)] ⟨rfl, trivial⟩ ?_
              refine WC.ret ?_
              clear k1 k12 k13 k42 k43 k45 k46 k54 k68 k69 k72 k87 k88 k90 k91 k129
              refine WK.ret [_] rfl ⟨rfl, trivial⟩ ?_
              have bl := Sx.both_len zx zy zb
              refine ⟨ret1 (vb ?_), xW⟩
              simp only [Bool.and_eq_true, decide_eq_true_eq]
              omega
end SyntaxCombines
end SxW

end Go.Proofs.Ytklccakoblibmaa
