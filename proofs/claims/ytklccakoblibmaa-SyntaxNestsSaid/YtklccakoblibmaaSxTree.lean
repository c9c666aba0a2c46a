/- Contracts: walks over expressions. Conditions: what each theorem states. -/
import Derived.Test.YtklccakoblibmaaSxNode
namespace Go.Proofs.Ytklccakoblibmaa
open Go Go.Eng Go.RowKit
set_option linter.unusedVariables false
set_option linter.unusedSimpArgs false
namespace SxW
open B
namespace C
theorem ti9 : TI Try.prog 9 (.string ⟨#[]⟩) 1 16 := TI.mk (by kernel_rfl)
theorem ti25 : TI Try.prog 25 (.agg #[.int .i64 0, .int .i64 0, .string ⟨#[]⟩]) 3 32 := TI.mk (by kernel_rfl)
theorem ti26 : TI Try.prog 26 (.slice none 0 0) 1 24 := TI.mk (by kernel_rfl)
theorem ti28 : TI Try.prog 28 (.agg #[.int .i64 0, .string ⟨#[]⟩, .int .i64 0, .int .i64 0, .string ⟨#[]⟩, .slice none 0 0]) 6 80 := TI.mk (by kernel_rfl)
theorem has22 : Has Try.prog 22 := ⟨_, Try.func22, rfl, by kernel_rfl⟩
theorem has26 : Has Try.prog 26 := ⟨_, Try.func26, rfl, by kernel_rfl⟩
theorem has27 : Has Try.prog 27 := ⟨_, Try.func27, rfl, by kernel_rfl⟩
theorem has28 : Has Try.prog 28 := ⟨_, Try.func28, rfl, by kernel_rfl⟩
theorem has29 : Has Try.prog 29 := ⟨_, Try.func29, rfl, by kernel_rfl⟩
theorem has30 : Has Try.prog 30 := ⟨_, Try.func30, rfl, by kernel_rfl⟩
theorem has51 : Has Try.prog 51 := ⟨_, Try.func51, rfl, by kernel_rfl⟩
theorem has52 : Has Try.prog 52 := ⟨_, Try.func52, rfl, by kernel_rfl⟩
theorem nodes_any : ∀ (d_x : Nat) (x : Sx.E)  (w : World), Sx.Good d_x w x → Sx.short x = true → 
    Calls Try.prog 27 #[.agg #[.int .i64 x.op, .string x.nm, .int .i64 x.vk, .int .i64 x.vn, .string x.vs, .slice x.A x.n x.c]] w fun e w' => e = .returned (.int .i64 (Sx.ndE x)) ∧ Ext w w' := by
  intro d_x
  induction d_x using Nat.strongRecOn
  rename_i d_x ih
  intro x  w g_x sh_x
  have xW := Ext.refl w
  have h_x := g_x.ls
  have e_x := h_x.len
  have z_x := h_x.nle
  refine calls_of_WC (args := [.agg #[.int .i64 x.op, .string x.nm, .int .i64 x.vk, .int .i64 x.vn, .string x.vs, .slice x.A x.n x.c]]) Try.func27 rfl rfl (ble rfl) ?_
  refine WC.seq (fun K1 k1 => ?_)
  refine WC.region rfl ?_
  refine WL.box rfl (blt rfl) rfl rfl rfl rfl ?_
  intro g2 w3 e4 x5 m6
  have o_g2 := own_new xW e4
  have xW := Ext.trans xW x5
  refine WL.yld rfl (blt rfl) rfl (Y.assign rfl rfl) ?_
  refine WL.nil ?_
  refine WK.then_normal (k1 _ _ ?_)
  refine WC.sub [(1, _)] ⟨rfl, trivial⟩ ?_
  refine WC.seq (fun K7 k7 => ?_)
  refine WC.seq (fun K8 k8 => ?_)
  refine WC.region rfl ?_
  refine WL.yld rfl (blt rfl) rfl (Y.loadS rfl Try.underlying28 rfl ti28 rfl (Blk.row_eq m6)) ?_
  refine WL.call rfl (blt rfl) rfl rfl rfl has51 rfl (node_any _ _ _ (g_x.ext xW) sh_x) ?_
  rintro _ w9 ⟨rfl, x10⟩
  refine ⟨_, rfl, ?_⟩
  have m6 := m6.ext x10
  have xW := Ext.trans xW x10
  refine WL.yld rfl (blt rfl) rfl (Y.assign rfl rfl) ?_
  refine WL.nil ?_
  refine WK.then_normal (k8 _ _ ?_)
  refine WC.sub [(1, _), (3, _)] ⟨rfl, rfl, trivial⟩ ?_
  refine WC.seq (fun K11 k11 => ?_)
  refine WC.region rfl ?_
  refine WL.yld rfl (blt rfl) rfl (Y.move rfl rfl) ?_
  refine WL.yld rfl (blt rfl) rfl (Y.neq rfl rfl rfl) ?_
  refine WL.nil ?_
  refine WK.then_normal (k11 _ _ ?_)
  refine WC.sub [(1, _), (3, _), (10, _)] ⟨rfl, rfl, rfl, trivial⟩ ?_
  refine WC.cond rfl (fun h12 => ?_) (fun h12 => ?_)
  ·
    have p12 := (eq_f (not_t h12))
    refine WC.seq (fun K13 k13 => ?_)
    refine WC.region rfl ?_
    refine WL.yld rfl (blt rfl) rfl (Y.move rfl rfl) ?_
    refine WL.yld rfl (blt rfl) rfl (Y.assign rfl rfl) ?_
    refine WL.nil ?_
    refine WK.then_normal (k13 _ _ ?_)
    refine WC.sub [(2, _)] ⟨rfl, trivial⟩ ?_
    refine WC.ret ?_
    refine WK.then_ret ?_
    clear k1 k7 k8 k11 k13
    refine WK.ret [_] rfl ⟨rfl, trivial⟩ ?_
    exact ⟨ret1 (vi (Sx.ndE_node (by simpa using h12)).symm), xW⟩
  ·
    have p12 := (eq_t (not_f h12))
    refine WC.skip ?_
    refine WK.then_normal (k7 _ _ ?_)
    refine WC.sub [(1, _)] ⟨rfl, trivial⟩ ?_
    refine WC.seq (fun K14 k14 => ?_)
    refine WC.seq (fun K15 k15 => ?_)
    refine WC.region rfl ?_
    refine WL.yld rfl (blt rfl) rfl (Y.fieldAddr rfl Try.underlying28 rfl ti26 (by decide) rfl) ?_
    refine WL.yld rfl (blt rfl) rfl (Y.load1 rfl Try.underlying26 rfl rfl (Blk.at_eq m6 rfl)) ?_
    refine WL.yld rfl (blt rfl) rfl (Y.lenSl rfl rfl rfl Try.underlying26 rfl) ?_
    refine WL.yld rfl (blt rfl) rfl (Y.move rfl rfl) ?_
    refine WL.nil ?_
    refine WK.then_normal (k15 _ _ ?_)
    refine WC.sub [(13, _), (14, _), (15, _)] ⟨rfl, rfl, rfl, trivial⟩ ?_
    refine WC.block ?_
    refine WC.sub [(15, _), (13, _), (14, _)] ⟨rfl, rfl, rfl, trivial⟩ ?_
    refine WC.loopS 1 (fun mz Ed W' => ∃ i : Nat, mz = x.n - i ∧ Ed = [(15, .int .i64 ((i : Nat) : Int))] ∧ Ext w W' ∧ (i ≤ x.n) ∧ (Sx.ndL (x.kids.take i) = 0)) _ ⟨0, rfl, rfl, xW, (Nat.zero_le _), rfl⟩ ?_
    rintro _ _ w16 ⟨i, rfl, rfl, xW, le_i, inv_i⟩
    refine WC.sub [(15, _), (13, _), (14, _)] ⟨rfl, rfl, rfl, trivial⟩ ?_
    refine WC.seq (fun K17 k17 => ?_)
    refine WC.region rfl ?_
    refine WL.yld rfl (blt rfl) rfl (Y.lss rfl rfl rfl) ?_
    refine WL.nil ?_
    refine WK.then_normal (k17 _ _ ?_)
    refine WC.seq (fun K18 k18 => ?_)
    refine WC.cond rfl (fun h19 => ?_) (fun h19 => ?_)
    ·
      have p19 := (dec_t h19)
      refine WC.skip ?_
      refine WK.then_normal (k18 _ _ ?_)
      refine WC.sub [(13, _), (14, _), (15, _)] ⟨rfl, rfl, rfl, trivial⟩ ?_
      refine WC.seq (fun K20 k20 => ?_)
      refine WC.block ?_
      refine WC.seq (fun K21 k21 => ?_)
      refine WC.region rfl ?_
      have b22 : i < x.n := by omega
      refine WL.yld rfl (blt rfl) rfl (Y.indexLs i (g_x.ls.ext xW) rfl Try.underlying26 ti28 rfl rfl rfl b22) ?_
      refine WL.yld rfl (blt rfl) rfl (Y.loadS (cs := [_, _, _, _, _, _]) rfl Try.underlying28 rfl ti28 rfl (Ls.part_eq (g_x.ls.ext xW) b22 rfl)) ?_
      refine WL.alloc rfl (blt rfl) rfl rfl ti28 rfl ?_
      intro g23 w24 e25 x26 m27
      have o_g23 := own_new xW e25
      have xW := Ext.trans xW x26
      refine WL.store (cs' := [_, _, _, _, _, _]) rfl rfl rfl rfl rfl rfl ti28 m27 (ble rfl) rfl rfl (fun w28 on29 m30 => ?_)
      have xW := Ext.only xW on29 o_g23
      refine WL.nil ?_
      refine WK.then_normal (k21 _ _ ?_)
      refine WC.sub [(5, _), (13, _), (14, _), (15, _)] ⟨rfl, rfl, rfl, rfl, trivial⟩ ?_
      refine WC.seq (fun K31 k31 => ?_)
      refine WC.region rfl ?_
      refine WL.yld rfl (blt rfl) rfl (Y.loadS rfl Try.underlying28 rfl ti28 rfl (Blk.row_eq m30)) ?_
      refine WL.call rfl (blt rfl) rfl rfl rfl has27 rfl (ih (d_x - 1) (by have := g_x.pos; omega) _ _ ((g_x.kid (bang_mem (show i < x.kids.length from by omega))).ext xW) (Sx.short_kid sh_x (bang_mem (show i < x.kids.length from by omega)))) ?_
      rintro _ w32 ⟨rfl, x33⟩
      refine ⟨_, rfl, ?_⟩
      have m30 := m30.ext x33
      have xW := Ext.trans xW x33
      refine WL.yld rfl (blt rfl) rfl (Y.assign rfl rfl) ?_
      refine WL.nil ?_
      refine WK.then_normal (k31 _ _ ?_)
      refine WC.sub [(6, _), (13, _), (14, _), (15, _)] ⟨rfl, rfl, rfl, rfl, trivial⟩ ?_
      refine WC.seq (fun K34 k34 => ?_)
      refine WC.region rfl ?_
      refine WL.yld rfl (blt rfl) rfl (Y.move rfl rfl) ?_
      refine WL.yld rfl (blt rfl) rfl (Y.neq rfl rfl rfl) ?_
      refine WL.nil ?_
      refine WK.then_normal (k34 _ _ ?_)
      refine WC.sub [(6, _), (13, _), (14, _), (15, _), (22, _)] ⟨rfl, rfl, rfl, rfl, rfl, trivial⟩ ?_
      refine WC.cond rfl (fun h35 => ?_) (fun h35 => ?_)
      ·
        have p35 := (eq_f (not_t h35))
        refine WC.seq (fun K36 k36 => ?_)
        refine WC.region rfl ?_
        refine WL.yld rfl (blt rfl) rfl (Y.move rfl rfl) ?_
        refine WL.yld rfl (blt rfl) rfl (Y.assign rfl rfl) ?_
        refine WL.nil ?_
        refine WK.then_normal (k36 _ _ ?_)
        refine WC.sub [(2, _)] ⟨rfl, trivial⟩ ?_
        refine WC.ret ?_
        refine WK.in_ret ?_
        refine WK.then_ret ?_
        refine WK.then_ret ?_
        refine WK.in_ret ?_
        refine WK.then_ret ?_
        clear k1 k7 k8 k11 k14 k15 k17 k18 k20 k21 k31 k34 k36
        refine WK.ret [_] rfl ⟨rfl, trivial⟩ ?_
        exact ⟨ret1 (vi ((Sx.ndE_kids (by simpa using h12)).trans (Sx.ndL_hit (show i < x.kids.length from by omega) inv_i (by simpa using h35))).symm), xW⟩
      ·
        have p35 := (eq_t (not_f h35))
        refine WC.skip ?_
        refine WK.in_normal ?_
        refine WK.then_normal (k20 _ _ ?_)
        refine WC.sub [(13, _), (14, _), (15, _)] ⟨rfl, rfl, rfl, trivial⟩ ?_
        refine WC.region rfl ?_
        refine WL.yld rfl (blt rfl) rfl (Y.add rfl rfl rfl (wrap_i64 (by first | omega | (dsimp only; omega)))) ?_
        refine WL.yld rfl (blt rfl) rfl (Y.move rfl rfl) ?_
        refine WL.nil ?_
        refine WK.roundS _ [(15, .int .i64 (((i + 1) : Nat) : Int))] ⟨rfl, rfl, rfl, trivial⟩ ?_ ⟨(i + 1), rfl, rfl, xW, (by omega), (by rw [Sx.ndL_next (by omega) inv_i]; exact (by simpa using h35))⟩
        show _ - (i + 1) < _ - i; omega
    ·
      have p19 := (dec_f h19)
      refine WC.exit ?_
      refine WK.then_exit ?_
      refine WK.then_exit ?_
      refine WK.in_exit ?_
      refine WK.then_normal (k14 _ _ ?_)
      refine WC.sub [] trivial ?_
      refine WC.seq (fun K37 k37 => ?_)
      refine WC.region rfl ?_
      refine WL.yld rfl (blt rfl) rfl (Y.assign rfl rfl) ?_
      refine WL.nil ?_
      refine WK.then_normal (k37 _ _ ?_)
      refine WC.ret ?_
      clear k1 k7 k8 k11 k14 k15 k17 k18 k37
      refine WK.ret [_] rfl ⟨rfl, trivial⟩ ?_
      refine ⟨ret1 (vi ?_), xW⟩
      rw [List.take_of_length_le (by omega)] at inv_i
      rw [Sx.ndE_kids (by simpa using h12), inv_i]
theorem rnodes_any : ∀ (d_x : Nat) (x : Sx.E)  (w : World), Sx.Good d_x w x → Sx.short x = true → 
    Calls Try.prog 30 #[.agg #[.int .i64 x.op, .string x.nm, .int .i64 x.vk, .int .i64 x.vn, .string x.vs, .slice x.A x.n x.c]] w fun e w' => e = .returned (.int .i64 (Sx.ndE x)) ∧ Ext w w' := by
  intro d_x
  induction d_x using Nat.strongRecOn
  rename_i d_x ih
  intro x  w g_x sh_x
  have xW := Ext.refl w
  have h_x := g_x.ls
  have e_x := h_x.len
  have z_x := h_x.nle
  refine calls_of_WC (args := [.agg #[.int .i64 x.op, .string x.nm, .int .i64 x.vk, .int .i64 x.vn, .string x.vs, .slice x.A x.n x.c]]) Try.func30 rfl rfl (ble rfl) ?_
  refine WC.seq (fun K1 k1 => ?_)
  refine WC.region rfl ?_
  refine WL.box rfl (blt rfl) rfl rfl rfl rfl ?_
  intro g2 w3 e4 x5 m6
  have o_g2 := own_new xW e4
  have xW := Ext.trans xW x5
  refine WL.yld rfl (blt rfl) rfl (Y.assign rfl rfl) ?_
  refine WL.nil ?_
  refine WK.then_normal (k1 _ _ ?_)
  refine WC.sub [(1, _)] ⟨rfl, trivial⟩ ?_
  refine WC.seq (fun K7 k7 => ?_)
  refine WC.region rfl ?_
  refine WL.yld rfl (blt rfl) rfl (Y.loadS rfl Try.underlying28 rfl ti28 rfl (Blk.row_eq m6)) ?_
  refine WL.call rfl (blt rfl) rfl rfl rfl has52 rfl (rnode_any _ _ _ (g_x.ext xW) sh_x) ?_
  rintro _ w8 ⟨rfl, x9⟩
  refine ⟨_, rfl, ?_⟩
  have m6 := m6.ext x9
  have xW := Ext.trans xW x9
  refine WL.yld rfl (blt rfl) rfl (Y.assign rfl rfl) ?_
  refine WL.nil ?_
  refine WK.then_normal (k7 _ _ ?_)
  refine WC.sub [(1, _), (3, _)] ⟨rfl, rfl, trivial⟩ ?_
  refine WC.seq (fun K10 k10 => ?_)
  refine WC.seq (fun K11 k11 => ?_)
  refine WC.region rfl ?_
  refine WL.yld rfl (blt rfl) rfl (Y.assign rfl rfl) ?_
  refine WL.nil ?_
  refine WK.then_normal (k11 _ _ ?_)
  refine WC.block ?_
  refine WC.sub [(4, _), (3, _), (1, _)] ⟨rfl, rfl, rfl, trivial⟩ ?_
  refine WC.loopS 2 (fun mz Ed W' => ∃ i : Nat, ∃ z : Int, mz = x.n - i ∧ Ed = [(4, .int .i64 ((i : Nat) : Int)), (3, .int .i64 z)] ∧ Ext w W' ∧ Blk W' g2 28 _ ∧ (i ≤ x.n) ∧ (z = Sx.nx x i)) _ ⟨0, _, rfl, rfl, xW, m6, (Nat.zero_le _), (Sx.nx_zero x)⟩ ?_
  rintro _ _ w12 ⟨i, z, rfl, rfl, xW, m6, le_i, zi⟩
  refine WC.sub [(4, _), (3, _), (1, _)] ⟨rfl, rfl, rfl, trivial⟩ ?_
  refine WC.seq (fun K13 k13 => ?_)
  refine WC.seq (fun K14 k14 => ?_)
  refine WC.region rfl ?_
  refine WL.yld rfl (blt rfl) rfl (Y.move rfl rfl) ?_
  refine WL.yld rfl (blt rfl) rfl (Y.fieldAddr rfl Try.underlying28 rfl ti26 (by decide) rfl) ?_
  refine WL.yld rfl (blt rfl) rfl (Y.load1 rfl Try.underlying26 rfl rfl (Blk.at_eq m6 rfl)) ?_
  refine WL.yld rfl (blt rfl) rfl (Y.lenSl rfl rfl rfl Try.underlying26 rfl) ?_
  refine WL.yld rfl (blt rfl) rfl (Y.lss rfl rfl rfl) ?_
  refine WL.yld rfl (blt rfl) rfl (Y.move rfl rfl) ?_
  refine WL.yldG rfl (blt rfl) rfl rfl rfl (fun hb => Y.move rfl rfl) ?_
  refine WL.yldG rfl (blt rfl) rfl rfl rfl (fun hb => Y.eql rfl (evg rfl hb) rfl) ?_
  refine WL.yld rfl (blt rfl) rfl (Y.and rfl rfl rfl rfl) ?_
  refine WL.nil ?_
  refine WK.then_normal (k14 _ _ ?_)
  refine WC.sub [(1, _), (3, _), (4, _), (15, _)] ⟨rfl, rfl, rfl, rfl, trivial⟩ ?_
  refine WC.cond rfl (fun h15 => ?_) (fun h15 => ?_)
  ·
    have p15 := (And.intro (dec_t (and_t h15).1) (eq_t (and_t h15).2))
    have hb : i < x.n ∧ z = 0 := by have q := h15; simp only [Bool.and_eq_true, Bool.or_eq_true, Bool.not_eq_true', Bool.and_eq_false_iff, Bool.or_eq_false_iff, Bool.not_eq_false', decide_eq_true_eq, decide_eq_false_iff_not, beq_iff_eq, beq_eq_false_iff_ne, ne_eq] at q; omega
    have hz0 : Sx.nx x i = 0 := by rw [← zi]; exact hb.2
    refine WC.skip ?_
    refine WK.then_normal (k13 _ _ ?_)
    refine WC.sub [(1, _), (4, _)] ⟨rfl, rfl, trivial⟩ ?_
    refine WC.seq (fun K16 k16 => ?_)
    refine WC.block ?_
    refine WC.region rfl ?_
    refine WL.yld rfl (blt rfl) rfl (Y.fieldAddr rfl Try.underlying28 rfl ti26 (by decide) rfl) ?_
    refine WL.yld rfl (blt rfl) rfl (Y.load1 rfl Try.underlying26 rfl rfl (Blk.at_eq m6 rfl)) ?_
    refine WL.yld rfl (blt rfl) rfl (Y.move rfl rfl) ?_
    have b17 : i < x.n := by omega
    refine WL.yld rfl (blt rfl) rfl (Y.indexLs i (g_x.ls.ext xW) rfl Try.underlying26 ti28 rfl rfl rfl b17) ?_
    refine WL.yld rfl (blt rfl) rfl (Y.loadS (cs := [_, _, _, _, _, _]) rfl Try.underlying28 rfl ti28 rfl (Ls.part_eq (g_x.ls.ext xW) b17 rfl)) ?_
    refine WL.call rfl (blt rfl) rfl rfl rfl has30 rfl (ih (d_x - 1) (by have := g_x.pos; omega) _ _ ((g_x.kid (bang_mem (show i < x.kids.length from by omega))).ext xW) (Sx.short_kid sh_x (bang_mem (show i < x.kids.length from by omega)))) ?_
    rintro _ w18 ⟨rfl, x19⟩
    refine ⟨_, rfl, ?_⟩
    have m6 := m6.ext x19
    have xW := Ext.trans xW x19
    refine WL.yld rfl (blt rfl) rfl (Y.assign rfl rfl) ?_
    refine WL.nil ?_
    refine WK.in_normal ?_
    refine WK.then_normal (k16 _ _ ?_)
    refine WC.sub [(1, _), (3, _), (4, _)] ⟨rfl, rfl, rfl, trivial⟩ ?_
    refine WC.region rfl ?_
    refine WL.yld rfl (blt rfl) rfl (Y.move rfl rfl) ?_
    refine WL.yld rfl (blt rfl) rfl (Y.add rfl rfl rfl (wrap_i64 (by first | omega | (dsimp only; omega)))) ?_
    refine WL.yld rfl (blt rfl) rfl (Y.assign rfl rfl) ?_
    refine WL.nil ?_
    refine WK.roundS _ [(4, .int .i64 (((i + 1) : Nat) : Int)), (3, .int .i64 _)] ⟨rfl, rfl, rfl, trivial⟩ ?_ ⟨(i + 1), _, rfl, rfl, xW, m6, (by omega), (Sx.nx_step hz0 (by omega))⟩
    show _ - (i + 1) < _ - i; omega
  ·
    have p15 := ((and_f h15).imp (fun h => (dec_f h)) (fun h => (eq_f h)))
    refine WC.exit ?_
    refine WK.then_exit ?_
    refine WK.then_exit ?_
    refine WK.in_exit ?_
    refine WK.then_normal (k10 _ _ ?_)
    refine WC.sub [(3, _)] ⟨rfl, trivial⟩ ?_
    refine WC.seq (fun K20 k20 => ?_)
    refine WC.region rfl ?_
    refine WL.yld rfl (blt rfl) rfl (Y.move rfl rfl) ?_
    refine WL.yld rfl (blt rfl) rfl (Y.assign rfl rfl) ?_
    refine WL.nil ?_
    refine WK.then_normal (k20 _ _ ?_)
    refine WC.sub [(2, _)] ⟨rfl, trivial⟩ ?_
    refine WC.ret ?_
    clear k1 k7 k10 k11 k13 k14 k20
    refine WK.ret [_] rfl ⟨rfl, trivial⟩ ?_
    refine ⟨ret1 (vi ?_), xW⟩
    rw [zi]
    exact Sx.nx_end (by have q := h15; simp only [Bool.and_eq_true, Bool.or_eq_true, Bool.not_eq_true', Bool.and_eq_false_iff, Bool.or_eq_false_iff, Bool.not_eq_false', decide_eq_true_eq, decide_eq_false_iff_not, beq_iff_eq, beq_eq_false_iff_ne, ne_eq] at q; rw [zi] at q; omega)
theorem meas_any : ∀ (d_x : Nat) (x : Sx.E) (m : Int) (w : World), Sx.Good d_x w x → Sx.cnt x ≤ 300 → 0 ≤ m ∧ m ≤ 600 → 
    Calls Try.prog 26 #[.agg #[.int .i64 x.op, .string x.nm, .int .i64 x.vk, .int .i64 x.vn, .string x.vs, .slice x.A x.n x.c], .int .i64 m] w fun e w' => ∃ a b : Int, e = .returned (.tuple #[.int .i64 a, .int .i64 b]) ∧ Sx.Mea x m a b ∧ Ext w w' := by
  intro d_x
  induction d_x using Nat.strongRecOn
  rename_i d_x ih
  intro x m w g_x hc_x hm
  have xW := Ext.refl w
  have h_x := g_x.ls
  have e_x := h_x.len
  have z_x := h_x.nle
  have cn := Sx.cnt_eq x
  have lx := Sx.lev_eq x
  have ll := Sx.lev_cnt x
  refine calls_of_WC (args := [.agg #[.int .i64 x.op, .string x.nm, .int .i64 x.vk, .int .i64 x.vn, .string x.vs, .slice x.A x.n x.c], .int .i64 m]) Try.func26 rfl rfl (ble rfl) ?_
  refine WC.seq (fun K1 k1 => ?_)
  refine WC.region rfl ?_
  refine WL.box rfl (blt rfl) rfl rfl rfl rfl ?_
  intro g2 w3 e4 x5 m6
  have o_g2 := own_new xW e4
  have xW := Ext.trans xW x5
  refine WL.yld rfl (blt rfl) rfl (Y.assign rfl rfl) ?_
  refine WL.yld rfl (blt rfl) rfl (Y.assign rfl rfl) ?_
  refine WL.nil ?_
  refine WK.then_normal (k1 _ _ ?_)
  refine WC.sub [(1, _), (2, _)] ⟨rfl, rfl, trivial⟩ ?_
  refine WC.seq (fun K7 k7 => ?_)
  refine WC.region rfl ?_
  refine WL.yld rfl (blt rfl) rfl (Y.move rfl rfl) ?_
  refine WL.yld rfl (blt rfl) rfl (Y.add rfl rfl rfl (wrap_i64 (by first | omega | (dsimp only; omega)))) ?_
  refine WL.yld rfl (blt rfl) rfl (Y.assign rfl rfl) ?_
  refine WL.nil ?_
  refine WK.then_normal (k7 _ _ ?_)
  refine WC.sub [(1, _), (2, _)] ⟨rfl, rfl, trivial⟩ ?_
  refine WC.seq (fun K8 k8 => ?_)
  refine WC.region rfl ?_
  refine WL.yld rfl (blt rfl) rfl (Y.assign rfl rfl) ?_
  refine WL.nil ?_
  refine WK.then_normal (k8 _ _ ?_)
  refine WC.seq (fun K9 k9 => ?_)
  refine WC.seq (fun K10 k10 => ?_)
  refine WC.region rfl ?_
  refine WL.yld rfl (blt rfl) rfl (Y.fieldAddr rfl Try.underlying28 rfl ti26 (by decide) rfl) ?_
  refine WL.yld rfl (blt rfl) rfl (Y.load1 rfl Try.underlying26 rfl rfl (Blk.at_eq m6 rfl)) ?_
  refine WL.yld rfl (blt rfl) rfl (Y.lenSl rfl rfl rfl Try.underlying26 rfl) ?_
  refine WL.yld rfl (blt rfl) rfl (Y.move rfl rfl) ?_
  refine WL.nil ?_
  refine WK.then_normal (k10 _ _ ?_)
  refine WC.sub [(1, _), (6, _), (13, _), (14, _), (15, _)] ⟨rfl, rfl, rfl, rfl, rfl, trivial⟩ ?_
  refine WC.block ?_
  refine WC.sub [(15, _), (1, _), (6, _), (13, _), (14, _)] ⟨rfl, rfl, rfl, rfl, rfl, trivial⟩ ?_
  refine WC.loopS 3 (fun mz Ed W' => ∃ i : Nat, ∃ a : Int, ∃ b : Int, mz = x.n - i ∧ Ed = [(15, .int .i64 ((i : Nat) : Int)), (1, .int .i64 a), (6, .int .i64 b)] ∧ Ext w W' ∧ (i ≤ x.n) ∧ (Sx.MeaL x i m a b)) _ ⟨0, _, 0, rfl, rfl, xW, (Nat.zero_le _), (Sx.mea_zero x m)⟩ ?_
  rintro _ _ w11 ⟨i, a, b, rfl, rfl, xW, le_i, me⟩
  refine WC.sub [(15, _), (1, _), (6, _), (13, _), (14, _)] ⟨rfl, rfl, rfl, rfl, rfl, trivial⟩ ?_
  have me3 := me.2.2
  have kl := Sx.cntL_le (l := x.kids) (i := i)
  have lv := Sx.levL_le (l := x.kids) (i := i)
  refine WC.seq (fun K12 k12 => ?_)
  refine WC.region rfl ?_
  refine WL.yld rfl (blt rfl) rfl (Y.lss rfl rfl rfl) ?_
  refine WL.nil ?_
  refine WK.then_normal (k12 _ _ ?_)
  refine WC.seq (fun K13 k13 => ?_)
  refine WC.cond rfl (fun h14 => ?_) (fun h14 => ?_)
  ·
    have p14 := (dec_t h14)
    refine WC.skip ?_
    refine WK.then_normal (k13 _ _ ?_)
    refine WC.sub [(1, _), (6, _), (13, _), (14, _), (15, _)] ⟨rfl, rfl, rfl, rfl, rfl, trivial⟩ ?_
    refine WC.seq (fun K15 k15 => ?_)
    refine WC.block ?_
    refine WC.seq (fun K16 k16 => ?_)
    refine WC.region rfl ?_
    have b17 : i < x.n := by omega
    refine WL.yld rfl (blt rfl) rfl (Y.indexLs i (g_x.ls.ext xW) rfl Try.underlying26 ti28 rfl rfl rfl b17) ?_
    refine WL.yld rfl (blt rfl) rfl (Y.loadS (cs := [_, _, _, _, _, _]) rfl Try.underlying28 rfl ti28 rfl (Ls.part_eq (g_x.ls.ext xW) b17 rfl)) ?_
    refine WL.alloc rfl (blt rfl) rfl rfl ti28 rfl ?_
    intro g18 w19 e20 x21 m22
    have o_g18 := own_new xW e20
    have xW := Ext.trans xW x21
    refine WL.store (cs' := [_, _, _, _, _, _]) rfl rfl rfl rfl rfl rfl ti28 m22 (ble rfl) rfl rfl (fun w23 on24 m25 => ?_)
    have xW := Ext.only xW on24 o_g18
    refine WL.nil ?_
    refine WK.then_normal (k16 _ _ ?_)
    refine WC.sub [(1, _), (6, _), (8, _), (13, _), (14, _), (15, _)] ⟨rfl, rfl, rfl, rfl, rfl, rfl, trivial⟩ ?_
    refine WC.seq (fun K26 k26 => ?_)
    refine WC.seq (fun K27 k27 => ?_)
    refine WC.region rfl ?_
    refine WL.yld rfl (blt rfl) rfl (Y.move rfl rfl) ?_
    refine WL.yld rfl (blt rfl) rfl (Y.gtr rfl rfl rfl) ?_
    refine WL.nil ?_
    refine WK.then_normal (k27 _ _ ?_)
    refine WC.sub [(1, _), (6, _), (8, _), (13, _), (14, _), (15, _), (20, _)] ⟨rfl, rfl, rfl, rfl, rfl, rfl, rfl, trivial⟩ ?_
    refine WC.cond rfl (fun h28 => ?_) (fun h28 => ?_)
    ·
      have p28 := (dec_t h28)
      refine WC.exit ?_
      refine WK.then_exit ?_
      refine WK.in_other rfl ?_
      refine WK.then_exit ?_
      refine WK.then_exit ?_
      refine WK.in_exit ?_
      refine WK.then_normal (k9 _ _ ?_)
      refine WC.sub [(1, _), (6, _)] ⟨rfl, rfl, trivial⟩ ?_
      refine WC.seq (fun K29 k29 => ?_)
      refine WC.region rfl ?_
      refine WL.yld rfl (blt rfl) rfl (Y.move rfl rfl) ?_
      refine WL.yld rfl (blt rfl) rfl (Y.move rfl rfl) ?_
      refine WL.yld rfl (blt rfl) rfl (Y.add rfl rfl rfl (wrap_i64 (by first | omega | (dsimp only; omega)))) ?_
      refine WL.yld rfl (blt rfl) rfl (Y.assign rfl rfl) ?_
      refine WL.yld rfl (blt rfl) rfl (Y.assign rfl rfl) ?_
      refine WL.nil ?_
      refine WK.then_normal (k29 _ _ ?_)
      refine WC.sub [(4, _), (5, _)] ⟨rfl, rfl, trivial⟩ ?_
      refine WC.ret ?_
      clear k1 k7 k8 k9 k10 k12 k13 k15 k16 k26 k27 k29
      refine WK.ret [_, _] rfl ⟨rfl, rfl, trivial⟩ ?_
      refine ⟨_, _, rfl, Sx.mea_end me (.inr (dec_t h28)), xW⟩
    ·
      have p28 := (dec_f h28)
      have ck := Sx.cnt_kid (m := 300) hc_x (bang_mem (show i < x.kids.length from by omega))
      have kc := Sx.cntL_next (l := x.kids) (show i < x.kids.length from by omega)
      have kl := Sx.cntL_le (l := x.kids) (i := i + 1)
      refine WC.skip ?_
      refine WK.then_normal (k26 _ _ ?_)
      refine WC.sub [(1, _), (6, _), (8, _), (13, _), (14, _), (15, _)] ⟨rfl, rfl, rfl, rfl, rfl, rfl, trivial⟩ ?_
      refine WC.seq (fun K30 k30 => ?_)
      refine WC.region rfl ?_
      refine WL.yld rfl (blt rfl) rfl (Y.assign rfl rfl) ?_
      refine WL.nil ?_
      refine WK.then_normal (k30 _ _ ?_)
      refine WC.sub [(1, _), (6, _), (8, _), (13, _), (14, _), (15, _)] ⟨rfl, rfl, rfl, rfl, rfl, rfl, trivial⟩ ?_
      refine WC.seq (fun K31 k31 => ?_)
      refine WC.region rfl ?_
      refine WL.yld rfl (blt rfl) rfl (Y.loadS rfl Try.underlying28 rfl ti28 rfl (Blk.row_eq m25)) ?_
      refine WL.yld rfl (blt rfl) rfl (Y.move rfl rfl) ?_
      refine WL.call rfl (blt rfl) rfl rfl rfl has26 rfl (ih (d_x - 1) (by have := g_x.pos; omega) _ _ _ ((g_x.kid (bang_mem (show i < x.kids.length from by omega))).ext xW) (Sx.cnt_kid hc_x (bang_mem (show i < x.kids.length from by omega))) (by omega)) ?_
      rintro _ w32 ⟨a34, b35, rfl, hme, x33⟩
      refine ⟨_, rfl, ?_⟩
      have m25 := m25.ext x33
      have xW := Ext.trans xW x33
      refine WL.yld rfl (blt rfl) rfl (Y.move rfl rfl) ?_
      refine WL.yld rfl (blt rfl) rfl (Y.extract rfl rfl rfl) ?_
      refine WL.yld rfl (blt rfl) rfl (Y.extract rfl rfl rfl) ?_
      refine WL.yld rfl (blt rfl) rfl (Y.assign rfl rfl) ?_
      refine WL.yld rfl (blt rfl) rfl (Y.assign rfl rfl) ?_
      refine WL.nil ?_
      refine WK.then_normal (k31 _ _ ?_)
      refine WC.sub [(1, _), (6, _), (9, _), (13, _), (14, _), (15, _)] ⟨rfl, rfl, rfl, rfl, rfl, rfl, trivial⟩ ?_
      refine WC.region rfl ?_
      refine WL.yld rfl (blt rfl) rfl (Y.move rfl rfl) ?_
      refine WL.yld rfl (blt rfl) rfl (Y.move rfl rfl) ?_
      refine WL.yld rfl (blt rfl) rfl (Y.maxI rfl rfl rfl rfl) ?_
      refine WL.yld rfl (blt rfl) rfl (Y.assign rfl rfl) ?_
      refine WL.nil ?_
      refine WK.in_normal ?_
      refine WK.then_normal (k15 _ _ ?_)
      refine WC.sub [(1, _), (6, _), (13, _), (14, _), (15, _)] ⟨rfl, rfl, rfl, rfl, rfl, trivial⟩ ?_
      refine WC.region rfl ?_
      refine WL.yld rfl (blt rfl) rfl (Y.add rfl rfl rfl (wrap_i64 (by first | omega | (dsimp only; omega)))) ?_
      refine WL.yld rfl (blt rfl) rfl (Y.move rfl rfl) ?_
      refine WL.nil ?_
      refine WK.roundS _ [(15, .int .i64 (((i + 1) : Nat) : Int)), (1, .int .i64 _), (6, .int .i64 _)] ⟨rfl, rfl, rfl, rfl, rfl, trivial⟩ ?_ ⟨(i + 1), _, _, rfl, rfl, xW, (by omega), (Sx.mea_step me (by omega) (dec_f h28) hme)⟩
      show _ - (i + 1) < _ - i; omega
  ·
    have p14 := (dec_f h14)
    refine WC.exit ?_
    refine WK.then_exit ?_
    refine WK.then_exit ?_
    refine WK.in_exit ?_
    refine WK.then_normal (k9 _ _ ?_)
    refine WC.sub [(1, _), (6, _)] ⟨rfl, rfl, trivial⟩ ?_
    refine WC.seq (fun K36 k36 => ?_)
    refine WC.region rfl ?_
    refine WL.yld rfl (blt rfl) rfl (Y.move rfl rfl) ?_
    refine WL.yld rfl (blt rfl) rfl (Y.move rfl rfl) ?_
    refine WL.yld rfl (blt rfl) rfl (Y.add rfl rfl rfl (wrap_i64 (by first | omega | (dsimp only; omega)))) ?_
    refine WL.yld rfl (blt rfl) rfl (Y.assign rfl rfl) ?_
    refine WL.yld rfl (blt rfl) rfl (Y.assign rfl rfl) ?_
    refine WL.nil ?_
    refine WK.then_normal (k36 _ _ ?_)
    refine WC.sub [(4, _), (5, _)] ⟨rfl, rfl, trivial⟩ ?_
    refine WC.ret ?_
    clear k1 k7 k8 k9 k10 k12 k13 k36
    refine WK.ret [_, _] rfl ⟨rfl, rfl, trivial⟩ ?_
    refine ⟨_, _, rfl, Sx.mea_end me (.inl (by omega)), xW⟩
theorem count_any : ∀ (d_x : Nat) (x : Sx.E) (m : Int) (w : World), Sx.Good d_x w x → Sx.cnt x ≤ 300 → -1000 ≤ m ∧ m ≤ 1000 → 
    Calls Try.prog 28 #[.agg #[.int .i64 x.op, .string x.nm, .int .i64 x.vk, .int .i64 x.vn, .string x.vs, .slice x.A x.n x.c], .int .i64 m] w fun e w' => ∃ a : Int, e = .returned (.int .i64 a) ∧ Sx.Cou x m a ∧ Ext w w' := by
  intro d_x
  induction d_x using Nat.strongRecOn
  rename_i d_x ih
  intro x m w g_x hc_x hm
  have xW := Ext.refl w
  have h_x := g_x.ls
  have e_x := h_x.len
  have z_x := h_x.nle
  have cn := Sx.cnt_eq x
  have lx := Sx.lev_eq x
  refine calls_of_WC (args := [.agg #[.int .i64 x.op, .string x.nm, .int .i64 x.vk, .int .i64 x.vn, .string x.vs, .slice x.A x.n x.c], .int .i64 m]) Try.func28 rfl rfl (ble rfl) ?_
  refine WC.seq (fun K1 k1 => ?_)
  refine WC.region rfl ?_
  refine WL.box rfl (blt rfl) rfl rfl rfl rfl ?_
  intro g2 w3 e4 x5 m6
  have o_g2 := own_new xW e4
  have xW := Ext.trans xW x5
  refine WL.yld rfl (blt rfl) rfl (Y.assign rfl rfl) ?_
  refine WL.nil ?_
  refine WK.then_normal (k1 _ _ ?_)
  refine WC.sub [(1, _), (2, _)] ⟨rfl, rfl, trivial⟩ ?_
  refine WC.seq (fun K7 k7 => ?_)
  refine WC.region rfl ?_
  refine WL.yld rfl (blt rfl) rfl (Y.assign rfl rfl) ?_
  refine WL.nil ?_
  refine WK.then_normal (k7 _ _ ?_)
  refine WC.seq (fun K8 k8 => ?_)
  refine WC.seq (fun K9 k9 => ?_)
  refine WC.region rfl ?_
  refine WL.yld rfl (blt rfl) rfl (Y.assign rfl rfl) ?_
  refine WL.nil ?_
  refine WK.then_normal (k9 _ _ ?_)
  refine WC.block ?_
  refine WC.sub [(6, _), (5, _), (1, _), (2, _)] ⟨rfl, rfl, rfl, rfl, trivial⟩ ?_
  refine WC.loopS 2 (fun mz Ed W' => ∃ i : Nat, ∃ a : Int, mz = x.n - i ∧ Ed = [(6, .int .i64 ((i : Nat) : Int)), (5, .int .i64 a)] ∧ Ext w W' ∧ Blk W' g2 28 _ ∧ (i ≤ x.n) ∧ (Sx.CouL x i m a)) _ ⟨0, 1, rfl, rfl, xW, m6, (Nat.zero_le _), (Sx.cou_zero x m)⟩ ?_
  rintro _ _ w10 ⟨i, a, rfl, rfl, xW, m6, le_i, co⟩
  refine WC.sub [(6, _), (5, _), (1, _), (2, _)] ⟨rfl, rfl, rfl, rfl, trivial⟩ ?_
  have co3 := co.2.2
  have kl := Sx.cntL_le (l := x.kids) (i := i)
  refine WC.seq (fun K11 k11 => ?_)
  refine WC.seq (fun K12 k12 => ?_)
  refine WC.region rfl ?_
  refine WL.yld rfl (blt rfl) rfl (Y.move rfl rfl) ?_
  refine WL.yld rfl (blt rfl) rfl (Y.fieldAddr rfl Try.underlying28 rfl ti26 (by decide) rfl) ?_
  refine WL.yld rfl (blt rfl) rfl (Y.load1 rfl Try.underlying26 rfl rfl (Blk.at_eq m6 rfl)) ?_
  refine WL.yld rfl (blt rfl) rfl (Y.lenSl rfl rfl rfl Try.underlying26 rfl) ?_
  refine WL.yld rfl (blt rfl) rfl (Y.lss rfl rfl rfl) ?_
  refine WL.yld rfl (blt rfl) rfl (Y.move rfl rfl) ?_
  refine WL.yldG rfl (blt rfl) rfl rfl rfl (fun hb => Y.move rfl rfl) ?_
  refine WL.yldG rfl (blt rfl) rfl rfl rfl (fun hb => Y.move rfl rfl) ?_
  refine WL.yldG rfl (blt rfl) rfl rfl rfl (fun hb => Y.leq rfl (evg rfl hb) (evg rfl hb)) ?_
  refine WL.yld rfl (blt rfl) rfl (Y.and rfl rfl rfl rfl) ?_
  refine WL.nil ?_
  refine WK.then_normal (k12 _ _ ?_)
  refine WC.sub [(1, _), (2, _), (5, _), (6, _), (16, _)] ⟨rfl, rfl, rfl, rfl, rfl, trivial⟩ ?_
  refine WC.cond rfl (fun h13 => ?_) (fun h13 => ?_)
  ·
    have p13 := (And.intro (dec_t (and_t h13).1) (dec_t (and_t h13).2))
    have hb : i < x.n ∧ a ≤ m := by have q := h13; simp only [Bool.and_eq_true, Bool.or_eq_true, Bool.not_eq_true', Bool.and_eq_false_iff, Bool.or_eq_false_iff, Bool.not_eq_false', decide_eq_true_eq, decide_eq_false_iff_not, beq_iff_eq, beq_eq_false_iff_ne, ne_eq] at q; omega
    have ck := Sx.cnt_kid (m := 300) hc_x (bang_mem (show i < x.kids.length from by omega))
    have kc := Sx.cntL_next (l := x.kids) (show i < x.kids.length from by omega)
    have kl := Sx.cntL_le (l := x.kids) (i := i + 1)
    refine WC.skip ?_
    refine WK.then_normal (k11 _ _ ?_)
    refine WC.sub [(1, _), (2, _), (5, _), (6, _)] ⟨rfl, rfl, rfl, rfl, trivial⟩ ?_
    refine WC.seq (fun K14 k14 => ?_)
    refine WC.block ?_
    refine WC.region rfl ?_
    refine WL.yld rfl (blt rfl) rfl (Y.move rfl rfl) ?_
    refine WL.yld rfl (blt rfl) rfl (Y.fieldAddr rfl Try.underlying28 rfl ti26 (by decide) rfl) ?_
    refine WL.yld rfl (blt rfl) rfl (Y.load1 rfl Try.underlying26 rfl rfl (Blk.at_eq m6 rfl)) ?_
    refine WL.yld rfl (blt rfl) rfl (Y.move rfl rfl) ?_
    have b15 : i < x.n := by omega
    refine WL.yld rfl (blt rfl) rfl (Y.indexLs i (g_x.ls.ext xW) rfl Try.underlying26 ti28 rfl rfl rfl b15) ?_
    refine WL.yld rfl (blt rfl) rfl (Y.loadS (cs := [_, _, _, _, _, _]) rfl Try.underlying28 rfl ti28 rfl (Ls.part_eq (g_x.ls.ext xW) b15 rfl)) ?_
    refine WL.yld rfl (blt rfl) rfl (Y.move rfl rfl) ?_
    refine WL.yld rfl (blt rfl) rfl (Y.move rfl rfl) ?_
    refine WL.yld rfl (blt rfl) rfl (Y.sub rfl rfl rfl (wrap_i64 (by first | omega | (dsimp only; omega)))) ?_
    refine WL.call rfl (blt rfl) rfl rfl rfl has28 rfl (ih (d_x - 1) (by have := g_x.pos; omega) _ _ _ ((g_x.kid (bang_mem (show i < x.kids.length from by omega))).ext xW) (Sx.cnt_kid hc_x (bang_mem (show i < x.kids.length from by omega))) (by omega)) ?_
    rintro _ w16 ⟨a18, rfl, hco, x17⟩
    refine ⟨_, rfl, ?_⟩
    have hco3 := hco.2.2
    have m6 := m6.ext x17
    have xW := Ext.trans xW x17
    refine WL.yld rfl (blt rfl) rfl (Y.add rfl rfl rfl (wrap_i64 (by first | omega | (dsimp only; omega)))) ?_
    refine WL.yld rfl (blt rfl) rfl (Y.assign rfl rfl) ?_
    refine WL.nil ?_
    refine WK.in_normal ?_
    refine WK.then_normal (k14 _ _ ?_)
    refine WC.sub [(1, _), (2, _), (5, _), (6, _)] ⟨rfl, rfl, rfl, rfl, trivial⟩ ?_
    refine WC.region rfl ?_
    refine WL.yld rfl (blt rfl) rfl (Y.move rfl rfl) ?_
    refine WL.yld rfl (blt rfl) rfl (Y.add rfl rfl rfl (wrap_i64 (by first | omega | (dsimp only; omega)))) ?_
    refine WL.yld rfl (blt rfl) rfl (Y.assign rfl rfl) ?_
    refine WL.nil ?_
    refine WK.roundS _ [(6, .int .i64 (((i + 1) : Nat) : Int)), (5, .int .i64 _)] ⟨rfl, rfl, rfl, rfl, trivial⟩ ?_ ⟨(i + 1), _, rfl, rfl, xW, m6, (by omega), (Sx.cou_step co (by omega) hb.2 hco)⟩
    show _ - (i + 1) < _ - i; omega
  ·
    have p13 := ((and_f h13).imp (fun h => (dec_f h)) (fun h => (dec_f h)))
    refine WC.exit ?_
    refine WK.then_exit ?_
    refine WK.then_exit ?_
    refine WK.in_exit ?_
    refine WK.then_normal (k8 _ _ ?_)
    refine WC.sub [(5, _)] ⟨rfl, trivial⟩ ?_
    refine WC.seq (fun K19 k19 => ?_)
    refine WC.region rfl ?_
    refine WL.yld rfl (blt rfl) rfl (Y.move rfl rfl) ?_
    refine WL.yld rfl (blt rfl) rfl (Y.assign rfl rfl) ?_
    refine WL.nil ?_
    refine WK.then_normal (k19 _ _ ?_)
    refine WC.sub [(4, _)] ⟨rfl, trivial⟩ ?_
    refine WC.ret ?_
    clear k1 k7 k8 k9 k11 k12 k19
    refine WK.ret [_] rfl ⟨rfl, trivial⟩ ?_
    refine ⟨_, rfl, Sx.cou_end co (by have q := h13; simp only [Bool.and_eq_true, Bool.or_eq_true, Bool.not_eq_true', Bool.and_eq_false_iff, Bool.or_eq_false_iff, Bool.not_eq_false', decide_eq_true_eq, decide_eq_false_iff_not, beq_iff_eq, beq_eq_false_iff_ne, ne_eq] at q; omega), xW⟩
theorem levels_any : ∀ (d_x : Nat) (x : Sx.E)  (w : World), Sx.Good d_x w x → Sx.cnt x ≤ 300 → 
    Calls Try.prog 29 #[.agg #[.int .i64 x.op, .string x.nm, .int .i64 x.vk, .int .i64 x.vn, .string x.vs, .slice x.A x.n x.c]] w fun e w' => e = .returned (.int .i64 ((Sx.lev x : Nat) : Int)) ∧ Ext w w' := by
  intro d_x
  induction d_x using Nat.strongRecOn
  rename_i d_x ih
  intro x  w g_x hc_x
  have xW := Ext.refl w
  have h_x := g_x.ls
  have e_x := h_x.len
  have z_x := h_x.nle
  have cn := Sx.cnt_eq x
  have lx := Sx.lev_eq x
  have ll := Sx.lev_cnt x
  refine calls_of_WC (args := [.agg #[.int .i64 x.op, .string x.nm, .int .i64 x.vk, .int .i64 x.vn, .string x.vs, .slice x.A x.n x.c]]) Try.func29 rfl rfl (ble rfl) ?_
  refine WC.seq (fun K1 k1 => ?_)
  refine WC.region rfl ?_
  refine WL.box rfl (blt rfl) rfl rfl rfl rfl ?_
  intro g2 w3 e4 x5 m6
  have o_g2 := own_new xW e4
  have xW := Ext.trans xW x5
  refine WL.yld rfl (blt rfl) rfl (Y.assign rfl rfl) ?_
  refine WL.nil ?_
  refine WK.then_normal (k1 _ _ ?_)
  refine WC.sub [(1, _)] ⟨rfl, trivial⟩ ?_
  refine WC.seq (fun K7 k7 => ?_)
  refine WC.region rfl ?_
  refine WL.yld rfl (blt rfl) rfl (Y.assign rfl rfl) ?_
  refine WL.nil ?_
  refine WK.then_normal (k7 _ _ ?_)
  refine WC.seq (fun K8 k8 => ?_)
  refine WC.seq (fun K9 k9 => ?_)
  refine WC.region rfl ?_
  refine WL.yld rfl (blt rfl) rfl (Y.assign rfl rfl) ?_
  refine WL.nil ?_
  refine WK.then_normal (k9 _ _ ?_)
  refine WC.block ?_
  refine WC.sub [(4, _), (3, _), (1, _)] ⟨rfl, rfl, rfl, trivial⟩ ?_
  refine WC.loopS 2 (fun mz Ed W' => ∃ i : Nat, ∃ a : Int, mz = x.n - i ∧ Ed = [(4, .int .i64 ((i : Nat) : Int)), (3, .int .i64 a)] ∧ Ext w W' ∧ Blk W' g2 28 _ ∧ (i ≤ x.n) ∧ (a = ((Sx.levL (x.kids.take i) : Nat) : Int))) _ ⟨0, 0, rfl, rfl, xW, m6, (Nat.zero_le _), rfl⟩ ?_
  rintro _ _ w10 ⟨i, a, rfl, rfl, xW, m6, le_i, le⟩
  refine WC.sub [(4, _), (3, _), (1, _)] ⟨rfl, rfl, rfl, trivial⟩ ?_
  have lv := Sx.levL_le (l := x.kids) (i := i)
  refine WC.seq (fun K11 k11 => ?_)
  refine WC.seq (fun K12 k12 => ?_)
  refine WC.region rfl ?_
  refine WL.yld rfl (blt rfl) rfl (Y.move rfl rfl) ?_
  refine WL.yld rfl (blt rfl) rfl (Y.fieldAddr rfl Try.underlying28 rfl ti26 (by decide) rfl) ?_
  refine WL.yld rfl (blt rfl) rfl (Y.load1 rfl Try.underlying26 rfl rfl (Blk.at_eq m6 rfl)) ?_
  refine WL.yld rfl (blt rfl) rfl (Y.lenSl rfl rfl rfl Try.underlying26 rfl) ?_
  refine WL.yld rfl (blt rfl) rfl (Y.lss rfl rfl rfl) ?_
  refine WL.nil ?_
  refine WK.then_normal (k12 _ _ ?_)
  refine WC.sub [(1, _), (3, _), (4, _), (9, _)] ⟨rfl, rfl, rfl, rfl, trivial⟩ ?_
  refine WC.cond rfl (fun h13 => ?_) (fun h13 => ?_)
  ·
    have p13 := (dec_t h13)
    refine WC.skip ?_
    refine WK.then_normal (k11 _ _ ?_)
    refine WC.sub [(1, _), (3, _), (4, _)] ⟨rfl, rfl, rfl, trivial⟩ ?_
    refine WC.seq (fun K14 k14 => ?_)
    refine WC.block ?_
    refine WC.region rfl ?_
    refine WL.yld rfl (blt rfl) rfl (Y.move rfl rfl) ?_
    refine WL.yld rfl (blt rfl) rfl (Y.fieldAddr rfl Try.underlying28 rfl ti26 (by decide) rfl) ?_
    refine WL.yld rfl (blt rfl) rfl (Y.load1 rfl Try.underlying26 rfl rfl (Blk.at_eq m6 rfl)) ?_
    refine WL.yld rfl (blt rfl) rfl (Y.move rfl rfl) ?_
    have b15 : i < x.n := by omega
    refine WL.yld rfl (blt rfl) rfl (Y.indexLs i (g_x.ls.ext xW) rfl Try.underlying26 ti28 rfl rfl rfl b15) ?_
    refine WL.yld rfl (blt rfl) rfl (Y.loadS (cs := [_, _, _, _, _, _]) rfl Try.underlying28 rfl ti28 rfl (Ls.part_eq (g_x.ls.ext xW) b15 rfl)) ?_
    refine WL.call rfl (blt rfl) rfl rfl rfl has29 rfl (ih (d_x - 1) (by have := g_x.pos; omega) _ _ ((g_x.kid (bang_mem (show i < x.kids.length from by omega))).ext xW) (Sx.cnt_kid hc_x (bang_mem (show i < x.kids.length from by omega)))) ?_
    rintro _ w16 ⟨rfl, x17⟩
    refine ⟨_, rfl, ?_⟩
    have m6 := m6.ext x17
    have xW := Ext.trans xW x17
    refine WL.yld rfl (blt rfl) rfl (Y.maxI rfl rfl rfl rfl) ?_
    refine WL.yld rfl (blt rfl) rfl (Y.assign rfl rfl) ?_
    refine WL.nil ?_
    refine WK.in_normal ?_
    refine WK.then_normal (k14 _ _ ?_)
    refine WC.sub [(1, _), (3, _), (4, _)] ⟨rfl, rfl, rfl, trivial⟩ ?_
    refine WC.region rfl ?_
    refine WL.yld rfl (blt rfl) rfl (Y.move rfl rfl) ?_
    refine WL.yld rfl (blt rfl) rfl (Y.add rfl rfl rfl (wrap_i64 (by first | omega | (dsimp only; omega)))) ?_
    refine WL.yld rfl (blt rfl) rfl (Y.assign rfl rfl) ?_
    refine WL.nil ?_
    refine WK.roundS _ [(4, .int .i64 (((i + 1) : Nat) : Int)), (3, .int .i64 _)] ⟨rfl, rfl, rfl, trivial⟩ ?_ ⟨(i + 1), _, rfl, rfl, xW, m6, (by omega), (by rw [Sx.levL_next (by omega), le]; omega)⟩
    show _ - (i + 1) < _ - i; omega
  ·
    have p13 := (dec_f h13)
    refine WC.exit ?_
    refine WK.then_exit ?_
    refine WK.then_exit ?_
    refine WK.in_exit ?_
    refine WK.then_normal (k8 _ _ ?_)
    refine WC.sub [(3, _)] ⟨rfl, trivial⟩ ?_
    refine WC.seq (fun K18 k18 => ?_)
    refine WC.region rfl ?_
    refine WL.yld rfl (blt rfl) rfl (Y.move rfl rfl) ?_
    refine WL.yld rfl (blt rfl) rfl (Y.add rfl rfl rfl (wrap_i64 (by first | omega | (dsimp only; omega)))) ?_
    refine WL.yld rfl (blt rfl) rfl (Y.assign rfl rfl) ?_
    refine WL.nil ?_
    refine WK.then_normal (k18 _ _ ?_)
    refine WC.sub [(2, _)] ⟨rfl, trivial⟩ ?_
    refine WC.ret ?_
    clear k1 k7 k8 k9 k11 k12 k18
    refine WK.ret [_] rfl ⟨rfl, trivial⟩ ?_
    refine ⟨ret1 (vi ?_), xW⟩
    rw [List.take_of_length_le (by omega)] at le
    omega
theorem deep_any : ∀ (d_x : Nat) (x : Sx.E) (v : Int) (f : Int) (w : World), Sx.Good d_x w x → -1000 ≤ v ∧ v ≤ 1000 → -1000 ≤ f ∧ f ≤ 1000 → 
    Calls Try.prog 22 #[.agg #[.int .i64 x.op, .string x.nm, .int .i64 x.vk, .int .i64 x.vn, .string x.vs, .slice x.A x.n x.c], .int .i64 v, .int .i64 f] w fun e w' => ∃ a : Int, e = .returned (.int .i64 a) ∧ Sx.Dee x v f a ∧ (-1 ≤ a ∧ a ≤ 1000) ∧ Ext w w' := by
  intro d_x
  induction d_x using Nat.strongRecOn
  rename_i d_x ih
  intro x v f w g_x hv hf
  have xW := Ext.refl w
  have h_x := g_x.ls
  have e_x := h_x.len
  have z_x := h_x.nle
  refine calls_of_WC (args := [.agg #[.int .i64 x.op, .string x.nm, .int .i64 x.vk, .int .i64 x.vn, .string x.vs, .slice x.A x.n x.c], .int .i64 v, .int .i64 f]) Try.func22 rfl rfl (ble rfl) ?_
  refine WC.seq (fun K1 k1 => ?_)
  refine WC.region rfl ?_
  refine WL.box rfl (blt rfl) rfl rfl rfl rfl ?_
  intro g2 w3 e4 x5 m6
  have o_g2 := own_new xW e4
  have xW := Ext.trans xW x5
  refine WL.yld rfl (blt rfl) rfl (Y.assign rfl rfl) ?_
  refine WL.nil ?_
  refine WK.then_normal (k1 _ _ ?_)
  refine WC.sub [(1, _), (2, _), (3, _)] ⟨rfl, rfl, rfl, trivial⟩ ?_
  refine WC.seq (fun K7 k7 => ?_)
  refine WC.region rfl ?_
  refine WL.yld rfl (blt rfl) rfl (Y.move rfl rfl) ?_
  refine WL.yld rfl (blt rfl) rfl (Y.sub rfl rfl rfl (wrap_i64 (by first | omega | (dsimp only; omega)))) ?_
  refine WL.yld rfl (blt rfl) rfl (Y.assign rfl rfl) ?_
  refine WL.nil ?_
  refine WK.then_normal (k7 _ _ ?_)
  refine WC.sub [(1, _), (2, _), (3, _)] ⟨rfl, rfl, rfl, trivial⟩ ?_
  refine WC.seq (fun K8 k8 => ?_)
  refine WC.seq (fun K9 k9 => ?_)
  refine WC.region rfl ?_
  refine WL.yld rfl (blt rfl) rfl (Y.move rfl rfl) ?_
  refine WL.yld rfl (blt rfl) rfl (Y.lss rfl rfl rfl) ?_
  refine WL.yld rfl (blt rfl) rfl (Y.move rfl rfl) ?_
  refine WL.yldG rfl (blt rfl) rfl rfl rfl (fun hb => Y.move rfl rfl) ?_
  refine WL.yldG rfl (blt rfl) rfl rfl rfl (fun hb => Y.lss rfl (evg rfl hb) rfl) ?_
  refine WL.yld rfl (blt rfl) rfl (Y.or rfl rfl rfl rfl) ?_
  refine WL.yld rfl (blt rfl) rfl (Y.move rfl rfl) ?_
  refine WL.yldG rfl (blt rfl) rfl rfl rfl (fun hb => Y.fieldAddr rfl Try.underlying28 rfl ti9 (by decide) rfl) ?_
  refine WL.yldG rfl (blt rfl) rfl rfl rfl (fun hb => Y.load1 rfl Try.underlying9 rfl (evg rfl hb) (Blk.at_eq m6 rfl)) ?_
  refine WL.yldG rfl (blt rfl) rfl rfl rfl (fun hb => Y.lenStr rfl rfl rfl Try.underlying9 (evs_cons (evg rfl hb) evs_nil)) ?_
  refine WL.yldG rfl (blt rfl) rfl rfl rfl (fun hb => Y.gtr rfl (evg rfl hb) rfl) ?_
  refine WL.yld rfl (blt rfl) rfl (Y.or rfl rfl rfl rfl) ?_
  refine WL.yld rfl (blt rfl) rfl (Y.move rfl rfl) ?_
  refine WL.yldG rfl (blt rfl) rfl rfl rfl (fun hb => Y.fieldAddr rfl Try.underlying28 rfl ti25 (by decide) rfl) ?_
  refine WL.yldG rfl (blt rfl) rfl rfl rfl (fun hb => Y.fieldAddr rfl Try.underlying25 rfl ti9 (by decide) (evg rfl hb)) ?_
  refine WL.yldG rfl (blt rfl) rfl rfl rfl (fun hb => Y.load1 rfl Try.underlying9 rfl (evg rfl hb) (Blk.at_eq m6 rfl)) ?_
  refine WL.yldG rfl (blt rfl) rfl rfl rfl (fun hb => Y.lenStr rfl rfl rfl Try.underlying9 (evs_cons (evg rfl hb) evs_nil)) ?_
  refine WL.yldG rfl (blt rfl) rfl rfl rfl (fun hb => Y.gtr rfl (evg rfl hb) rfl) ?_
  refine WL.yld rfl (blt rfl) rfl (Y.or rfl rfl rfl rfl) ?_
  refine WL.nil ?_
  refine WK.then_normal (k9 _ _ ?_)
  refine WC.sub [(1, _), (2, _), (3, _), (28, _)] ⟨rfl, rfl, rfl, rfl, trivial⟩ ?_
  refine WC.cond rfl (fun h10 => ?_) (fun h10 => ?_)
  ·
    have p10 := ((or_t h10).imp (fun h => ((or_t h).imp (fun h => ((or_t h).imp (fun h => (dec_t h)) (fun h => (dec_t h)))) (fun h => (dec_t h)))) (fun h => (dec_t h)))
    refine WC.seq (fun K11 k11 => ?_)
    refine WC.region rfl ?_
    refine WL.yld rfl (blt rfl) rfl (Y.assign rfl rfl) ?_
    refine WL.nil ?_
    refine WK.then_normal (k11 _ _ ?_)
    refine WC.sub [(6, _)] ⟨rfl, trivial⟩ ?_
    refine WC.ret ?_
    refine WK.then_ret ?_
    clear k1 k7 k8 k9 k11
    refine WK.ret [_] rfl ⟨rfl, trivial⟩ ?_
    refine ⟨-1, rfl, (fun z => absurd z (by decide)), (by omega), xW⟩
  ·
    have p10 := (And.intro (And.intro (And.intro (dec_f (or_f (or_f (or_f h10).1).1).1) (dec_f (or_f (or_f (or_f h10).1).1).2)) (dec_f (or_f (or_f h10).1).2)) (dec_f (or_f h10).2))
    have hq : 1 ≤ v ∧ 1 ≤ f ∧ x.nm.size ≤ 300 ∧ x.vs.size ≤ 300 := by have q := h10; simp only [Bool.and_eq_true, Bool.or_eq_true, Bool.not_eq_true', Bool.and_eq_false_iff, Bool.or_eq_false_iff, Bool.not_eq_false', decide_eq_true_eq, decide_eq_false_iff_not, beq_iff_eq, beq_eq_false_iff_ne, ne_eq] at q; omega
    refine WC.skip ?_
    refine WK.then_normal (k8 _ _ ?_)
    refine WC.sub [(1, _), (2, _), (3, _)] ⟨rfl, rfl, rfl, trivial⟩ ?_
    refine WC.seq (fun K12 k12 => ?_)
    refine WC.seq (fun K13 k13 => ?_)
    refine WC.region rfl ?_
    refine WL.yld rfl (blt rfl) rfl (Y.assign rfl rfl) ?_
    refine WL.nil ?_
    refine WK.then_normal (k13 _ _ ?_)
    refine WC.block ?_
    refine WC.sub [(7, _), (2, _), (1, _), (3, _)] ⟨rfl, rfl, rfl, rfl, trivial⟩ ?_
    refine WC.loopS 2 (fun mz Ed W' => ∃ i : Nat, ∃ a : Int, mz = x.n - i ∧ Ed = [(7, .int .i64 ((i : Nat) : Int)), (2, .int .i64 a)] ∧ Ext w W' ∧ Blk W' g2 28 _ ∧ (i ≤ x.n) ∧ (Sx.DeeL x i v f a)) _ ⟨0, _, rfl, rfl, xW, m6, (Nat.zero_le _), (Sx.dee_zero (by omega) (by omega))⟩ ?_
    rintro _ _ w14 ⟨i, a, rfl, rfl, xW, m6, le_i, de⟩
    refine WC.sub [(7, _), (2, _), (1, _), (3, _)] ⟨rfl, rfl, rfl, rfl, trivial⟩ ?_
    have de1 := de.1
    have de4 := de.2.2.2
    refine WC.seq (fun K15 k15 => ?_)
    refine WC.seq (fun K16 k16 => ?_)
    refine WC.region rfl ?_
    refine WL.yld rfl (blt rfl) rfl (Y.move rfl rfl) ?_
    refine WL.yld rfl (blt rfl) rfl (Y.fieldAddr rfl Try.underlying28 rfl ti26 (by decide) rfl) ?_
    refine WL.yld rfl (blt rfl) rfl (Y.load1 rfl Try.underlying26 rfl rfl (Blk.at_eq m6 rfl)) ?_
    refine WL.yld rfl (blt rfl) rfl (Y.lenSl rfl rfl rfl Try.underlying26 rfl) ?_
    refine WL.yld rfl (blt rfl) rfl (Y.lss rfl rfl rfl) ?_
    refine WL.nil ?_
    refine WK.then_normal (k16 _ _ ?_)
    refine WC.sub [(1, _), (2, _), (3, _), (7, _), (33, _)] ⟨rfl, rfl, rfl, rfl, rfl, trivial⟩ ?_
    refine WC.cond rfl (fun h17 => ?_) (fun h17 => ?_)
    ·
      have p17 := (dec_t h17)
      refine WC.skip ?_
      refine WK.then_normal (k15 _ _ ?_)
      refine WC.sub [(1, _), (2, _), (3, _), (7, _)] ⟨rfl, rfl, rfl, rfl, trivial⟩ ?_
      refine WC.seq (fun K18 k18 => ?_)
      refine WC.block ?_
      refine WC.seq (fun K19 k19 => ?_)
      refine WC.region rfl ?_
      refine WL.yld rfl (blt rfl) rfl (Y.fieldAddr rfl Try.underlying28 rfl ti26 (by decide) rfl) ?_
      refine WL.yld rfl (blt rfl) rfl (Y.load1 rfl Try.underlying26 rfl rfl (Blk.at_eq m6 rfl)) ?_
      refine WL.yld rfl (blt rfl) rfl (Y.move rfl rfl) ?_
      have b20 : i < x.n := by omega
      refine WL.yld rfl (blt rfl) rfl (Y.indexLs i (g_x.ls.ext xW) rfl Try.underlying26 ti28 rfl rfl rfl b20) ?_
      refine WL.yld rfl (blt rfl) rfl (Y.loadS (cs := [_, _, _, _, _, _]) rfl Try.underlying28 rfl ti28 rfl (Ls.part_eq (g_x.ls.ext xW) b20 rfl)) ?_
      refine WL.yld rfl (blt rfl) rfl (Y.move rfl rfl) ?_
      refine WL.yld rfl (blt rfl) rfl (Y.sub rfl rfl rfl (wrap_i64 (by first | omega | (dsimp only; omega)))) ?_
      refine WL.yld rfl (blt rfl) rfl (Y.move rfl rfl) ?_
      refine WL.call rfl (blt rfl) rfl rfl rfl has22 rfl (ih (d_x - 1) (by have := g_x.pos; omega) _ _ _ _ ((g_x.kid (bang_mem (show i < x.kids.length from by omega))).ext xW) (by omega) (by omega)) ?_
      rintro _ w21 ⟨a23, rfl, hde, hdb, x22⟩
      refine ⟨_, rfl, ?_⟩
      have m6 := m6.ext x22
      have xW := Ext.trans xW x22
      refine WL.yld rfl (blt rfl) rfl (Y.assign rfl rfl) ?_
      refine WL.nil ?_
      refine WK.then_normal (k19 _ _ ?_)
      refine WC.sub [(1, _), (2, _), (3, _), (7, _)] ⟨rfl, rfl, rfl, rfl, trivial⟩ ?_
      refine WC.seq (fun K24 k24 => ?_)
      refine WC.region rfl ?_
      refine WL.yld rfl (blt rfl) rfl (Y.move rfl rfl) ?_
      refine WL.yld rfl (blt rfl) rfl (Y.lss rfl rfl rfl) ?_
      refine WL.nil ?_
      refine WK.then_normal (k24 _ _ ?_)
      refine WC.sub [(1, _), (2, _), (3, _), (7, _), (46, _)] ⟨rfl, rfl, rfl, rfl, rfl, trivial⟩ ?_
      refine WC.cond rfl (fun h25 => ?_) (fun h25 => ?_)
      ·
        have p25 := (dec_t h25)
        refine WC.seq (fun K26 k26 => ?_)
        refine WC.region rfl ?_
        refine WL.yld rfl (blt rfl) rfl (Y.assign rfl rfl) ?_
        refine WL.nil ?_
        refine WK.then_normal (k26 _ _ ?_)
        refine WC.sub [(6, _)] ⟨rfl, trivial⟩ ?_
        refine WC.ret ?_
        refine WK.in_ret ?_
        refine WK.then_ret ?_
        refine WK.then_ret ?_
        refine WK.in_ret ?_
        refine WK.then_ret ?_
        clear k1 k7 k8 k9 k12 k13 k15 k16 k18 k19 k24 k26
        refine WK.ret [_] rfl ⟨rfl, trivial⟩ ?_
        refine ⟨-1, rfl, (fun z => absurd z (by decide)), (by omega), xW⟩
      ·
        have p25 := (dec_f h25)
        refine WC.skip ?_
        refine WK.in_normal ?_
        refine WK.then_normal (k18 _ _ ?_)
        refine WC.sub [(1, _), (2, _), (3, _), (7, _)] ⟨rfl, rfl, rfl, rfl, trivial⟩ ?_
        refine WC.region rfl ?_
        refine WL.yld rfl (blt rfl) rfl (Y.move rfl rfl) ?_
        refine WL.yld rfl (blt rfl) rfl (Y.add rfl rfl rfl (wrap_i64 (by first | omega | (dsimp only; omega)))) ?_
        refine WL.yld rfl (blt rfl) rfl (Y.assign rfl rfl) ?_
        refine WL.nil ?_
        refine WK.roundS _ [(7, .int .i64 (((i + 1) : Nat) : Int)), (2, .int .i64 _)] ⟨rfl, rfl, rfl, rfl, trivial⟩ ?_ ⟨(i + 1), _, rfl, rfl, xW, m6, (by omega), (Sx.dee_step de (by omega) hde (by have q := dec_f h25; omega))⟩
        show _ - (i + 1) < _ - i; omega
    ·
      have p17 := (dec_f h17)
      refine WC.exit ?_
      refine WK.then_exit ?_
      refine WK.then_exit ?_
      refine WK.in_exit ?_
      refine WK.then_normal (k12 _ _ ?_)
      refine WC.sub [(2, _)] ⟨rfl, trivial⟩ ?_
      refine WC.seq (fun K27 k27 => ?_)
      refine WC.region rfl ?_
      refine WL.yld rfl (blt rfl) rfl (Y.move rfl rfl) ?_
      refine WL.yld rfl (blt rfl) rfl (Y.assign rfl rfl) ?_
      refine WL.nil ?_
      refine WK.then_normal (k27 _ _ ?_)
      refine WC.sub [(6, _)] ⟨rfl, trivial⟩ ?_
      refine WC.ret ?_
      clear k1 k7 k8 k9 k12 k13 k15 k16 k27
      refine WK.ret [_] rfl ⟨rfl, trivial⟩ ?_
      refine ⟨_, rfl, Sx.dee_end de (by omega) hq.2.2, (by omega), xW⟩
theorem small_any (d_x : Nat) (x : Sx.E) (w : World) (g_x : Sx.Good d_x w x) :
    Calls Try.prog 10 #[.agg #[.int .i64 x.op, .string x.nm, .int .i64 x.vk, .int .i64 x.vn, .string x.vs, .slice x.A x.n x.c]] w fun e w' => ∃ b : Bool, e = .returned (.bool b) ∧ (b = true → Sx.short x = true ∧ Sx.lev x ≤ 40 ∧ Sx.cnt x ≤ 300) ∧ Ext w w' := by
  have xW := Ext.refl w
  have h_x := g_x.ls
  have e_x := h_x.len
  have z_x := h_x.nle
  refine calls_of_WC (args := [.agg #[.int .i64 x.op, .string x.nm, .int .i64 x.vk, .int .i64 x.vn, .string x.vs, .slice x.A x.n x.c]]) Try.func10 rfl rfl (ble rfl) ?_
  refine WC.seq (fun K1 k1 => ?_)
  refine WC.region rfl ?_
  refine WL.box rfl (blt rfl) rfl rfl rfl rfl ?_
  intro g2 w3 e4 x5 m6
  have o_g2 := own_new xW e4
  have xW := Ext.trans xW x5
  refine WL.yld rfl (blt rfl) rfl (Y.assign rfl rfl) ?_
  refine WL.nil ?_
  refine WK.then_normal (k1 _ _ ?_)
  refine WC.sub [(1, _)] ⟨rfl, trivial⟩ ?_
  refine WC.seq (fun K7 k7 => ?_)
  refine WC.region rfl ?_
  refine WL.yld rfl (blt rfl) rfl (Y.loadS rfl Try.underlying28 rfl ti28 rfl (Blk.row_eq m6)) ?_
  refine WL.call rfl (blt rfl) rfl rfl rfl has22 rfl (deep_any _ _ _ _ _ (g_x.ext xW) (by omega) (by omega)) ?_
  rintro _ w8 ⟨a10, rfl, hde, hdb, x9⟩
  refine ⟨_, rfl, ?_⟩
  have m6 := m6.ext x9
  have xW := Ext.trans xW x9
  refine WL.yld rfl (blt rfl) rfl (Y.geq rfl rfl rfl) ?_
  refine WL.yld rfl (blt rfl) rfl (Y.assign rfl rfl) ?_
  refine WL.nil ?_
  refine WK.then_normal (k7 _ _ ?_)
  refine WC.sub [(2, _)] ⟨rfl, trivial⟩ ?_
  refine WC.ret ?_
  clear k1 k7
  refine WK.ret [_] rfl ⟨rfl, trivial⟩ ?_
  refine ⟨_, ret1 rfl, (fun z => by have z1 := dec_t z; have q := hde z1; exact ⟨q.1, by omega, by omega⟩), xW⟩
theorem expr_any (d_x : Nat) (x : Sx.E) (w : World) (g_x : Sx.Good d_x w x) (sh_x : Sx.short x = true) (hc_x : Sx.cnt x ≤ 300) :
    Calls Try.prog 11 #[.agg #[.int .i64 x.op, .string x.nm, .int .i64 x.vk, .int .i64 x.vn, .string x.vs, .slice x.A x.n x.c]] w fun e w' => e = .returned (.int .i64 (Sx.exE x)) ∧ Ext w w' := by
  have xW := Ext.refl w
  have h_x := g_x.ls
  have e_x := h_x.len
  have z_x := h_x.nle
  refine calls_of_WC (args := [.agg #[.int .i64 x.op, .string x.nm, .int .i64 x.vk, .int .i64 x.vn, .string x.vs, .slice x.A x.n x.c]]) Try.func11 rfl rfl (ble rfl) ?_
  refine WC.seq (fun K1 k1 => ?_)
  refine WC.region rfl ?_
  refine WL.box rfl (blt rfl) rfl rfl rfl rfl ?_
  intro g2 w3 e4 x5 m6
  have o_g2 := own_new xW e4
  have xW := Ext.trans xW x5
  refine WL.yld rfl (blt rfl) rfl (Y.assign rfl rfl) ?_
  refine WL.nil ?_
  refine WK.then_normal (k1 _ _ ?_)
  refine WC.sub [(1, _)] ⟨rfl, trivial⟩ ?_
  refine WC.seq (fun K7 k7 => ?_)
  refine WC.region rfl ?_
  refine WL.yld rfl (blt rfl) rfl (Y.loadS rfl Try.underlying28 rfl ti28 rfl (Blk.row_eq m6)) ?_
  refine WL.call rfl (blt rfl) rfl rfl rfl has26 rfl (meas_any _ _ _ _ (g_x.ext xW) hc_x (by omega)) ?_
  rintro _ w8 ⟨a10, b11, rfl, hme, x9⟩
  refine ⟨_, rfl, ?_⟩
  have m6 := m6.ext x9
  have xW := Ext.trans xW x9
  refine WL.yld rfl (blt rfl) rfl (Y.move rfl rfl) ?_
  refine WL.yld rfl (blt rfl) rfl (Y.extract rfl rfl rfl) ?_
  refine WL.yld rfl (blt rfl) rfl (Y.extract rfl rfl rfl) ?_
  refine WL.yld rfl (blt rfl) rfl (Y.assign rfl rfl) ?_
  refine WL.yld rfl (blt rfl) rfl (Y.assign rfl rfl) ?_
  refine WL.nil ?_
  refine WK.then_normal (k7 _ _ ?_)
  refine WC.sub [(1, _), (3, _), (4, _)] ⟨rfl, rfl, rfl, trivial⟩ ?_
  refine WC.seq (fun K12 k12 => ?_)
  refine WC.block ?_
  refine WC.seq (fun K13 k13 => ?_)
  refine WC.region rfl ?_
  refine WL.yld rfl (blt rfl) rfl (Y.move rfl rfl) ?_
  refine WL.yld rfl (blt rfl) rfl (Y.gtr rfl rfl rfl) ?_
  refine WL.yld rfl (blt rfl) rfl (Y.assign rfl rfl) ?_
  refine WL.nil ?_
  refine WK.then_normal (k13 _ _ ?_)
  refine WC.sub [(1, _), (4, _), (10, _)] ⟨rfl, rfl, rfl, trivial⟩ ?_
  refine WC.cond rfl (fun h14 => ?_) (fun h14 => ?_)
  ·
    have p14 := (dec_t h14)
    refine WC.seq (fun K15 k15 => ?_)
    refine WC.region rfl ?_
    refine WL.yld rfl (blt rfl) rfl (Y.assign rfl rfl) ?_
    refine WL.nil ?_
    refine WK.then_normal (k15 _ _ ?_)
    refine WC.sub [(2, _)] ⟨rfl, trivial⟩ ?_
    refine WC.ret ?_
    refine WK.in_ret ?_
    refine WK.then_ret ?_
    clear k1 k7 k12 k13 k15
    refine WK.ret [_] rfl ⟨rfl, trivial⟩ ?_
    refine ⟨ret1 (vi (Sx.ex_7 ?_).symm), xW⟩
    have q := dec_t h14; have q2 := hme; unfold Sx.Mea at q2; omega
  ·
    have p14 := (dec_f h14)
    refine WC.seq (fun K16 k16 => ?_)
    refine WC.region rfl ?_
    refine WL.yld rfl (blt rfl) rfl (Y.move rfl rfl) ?_
    refine WL.yld rfl (blt rfl) rfl (Y.gtr rfl rfl rfl) ?_
    refine WL.yld rfl (blt rfl) rfl (Y.assign rfl rfl) ?_
    refine WL.nil ?_
    refine WK.then_normal (k16 _ _ ?_)
    refine WC.sub [(1, _), (13, _)] ⟨rfl, rfl, trivial⟩ ?_
    refine WC.cond rfl (fun h17 => ?_) (fun h17 => ?_)
    ·
      have p17 := (dec_t h17)
      refine WC.seq (fun K18 k18 => ?_)
      refine WC.region rfl ?_
      refine WL.yld rfl (blt rfl) rfl (Y.assign rfl rfl) ?_
      refine WL.nil ?_
      refine WK.then_normal (k18 _ _ ?_)
      refine WC.sub [(2, _)] ⟨rfl, trivial⟩ ?_
      refine WC.ret ?_
      refine WK.in_ret ?_
      refine WK.then_ret ?_
      clear k1 k7 k12 k13 k16 k18
      refine WK.ret [_] rfl ⟨rfl, trivial⟩ ?_
      refine ⟨ret1 (vi ?_), xW⟩
      have q0 : ¬ 200 < Sx.cnt x := by have q := dec_f h14; have q2 := hme; unfold Sx.Mea at q2; omega
      exact (Sx.ex_20 q0 (by have q := dec_t h17; have q2 := hme; unfold Sx.Mea at q2; omega)).symm
    ·
      have p17 := (dec_f h17)
      refine WC.skip ?_
      refine WK.in_normal ?_
      refine WK.then_normal (k12 _ _ ?_)
      refine WC.sub [(1, _)] ⟨rfl, trivial⟩ ?_
      refine WC.seq (fun K19 k19 => ?_)
      refine WC.region rfl ?_
      refine WL.yld rfl (blt rfl) rfl (Y.loadS rfl Try.underlying28 rfl ti28 rfl (Blk.row_eq m6)) ?_
      refine WL.call rfl (blt rfl) rfl rfl rfl has27 rfl (nodes_any _ _ _ (g_x.ext xW) sh_x) ?_
      rintro _ w20 ⟨rfl, x21⟩
      refine ⟨_, rfl, ?_⟩
      have m6 := m6.ext x21
      have xW := Ext.trans xW x21
      refine WL.yld rfl (blt rfl) rfl (Y.assign rfl rfl) ?_
      refine WL.nil ?_
      refine WK.then_normal (k19 _ _ ?_)
      refine WC.sub [(2, _)] ⟨rfl, trivial⟩ ?_
      refine WC.ret ?_
      clear k1 k7 k12 k13 k16 k19
      refine WK.ret [_] rfl ⟨rfl, trivial⟩ ?_
      refine ⟨ret1 (vi ?_), xW⟩
      have q0 : ¬ 200 < Sx.cnt x := by have q := dec_f h14; have q2 := hme; unfold Sx.Mea at q2; omega
      exact (Sx.ex_nd q0 (by have q := dec_f h17; have q2 := hme; unfold Sx.Mea at q2; omega)).symm
theorem rexpr_any (d_x : Nat) (x : Sx.E) (w : World) (g_x : Sx.Good d_x w x) (sh_x : Sx.short x = true) (hc_x : Sx.cnt x ≤ 300) :
    Calls Try.prog 12 #[.agg #[.int .i64 x.op, .string x.nm, .int .i64 x.vk, .int .i64 x.vn, .string x.vs, .slice x.A x.n x.c]] w fun e w' => e = .returned (.int .i64 (Sx.exE x)) ∧ Ext w w' := by
  have xW := Ext.refl w
  have h_x := g_x.ls
  have e_x := h_x.len
  have z_x := h_x.nle
  refine calls_of_WC (args := [.agg #[.int .i64 x.op, .string x.nm, .int .i64 x.vk, .int .i64 x.vn, .string x.vs, .slice x.A x.n x.c]]) Try.func12 rfl rfl (ble rfl) ?_
  refine WC.seq (fun K1 k1 => ?_)
  refine WC.region rfl ?_
  refine WL.box rfl (blt rfl) rfl rfl rfl rfl ?_
  intro g2 w3 e4 x5 m6
  have o_g2 := own_new xW e4
  have xW := Ext.trans xW x5
  refine WL.yld rfl (blt rfl) rfl (Y.assign rfl rfl) ?_
  refine WL.nil ?_
  refine WK.then_normal (k1 _ _ ?_)
  refine WC.sub [(1, _)] ⟨rfl, trivial⟩ ?_
  refine WC.seq (fun K7 k7 => ?_)
  refine WC.seq (fun K8 k8 => ?_)
  refine WC.region rfl ?_
  refine WL.yld rfl (blt rfl) rfl (Y.loadS rfl Try.underlying28 rfl ti28 rfl (Blk.row_eq m6)) ?_
  refine WL.call rfl (blt rfl) rfl rfl rfl has28 rfl (count_any _ _ _ _ (g_x.ext xW) hc_x (by omega)) ?_
  rintro _ w9 ⟨a11, rfl, hco, x10⟩
  refine ⟨_, rfl, ?_⟩
  have hco3 := hco.2.2
  have m6 := m6.ext x10
  have xW := Ext.trans xW x10
  refine WL.yld rfl (blt rfl) rfl (Y.gtr rfl rfl rfl) ?_
  refine WL.nil ?_
  refine WK.then_normal (k8 _ _ ?_)
  refine WC.sub [(1, _), (5, _)] ⟨rfl, rfl, trivial⟩ ?_
  refine WC.cond rfl (fun h12 => ?_) (fun h12 => ?_)
  ·
    have p12 := (dec_t h12)
    refine WC.seq (fun K13 k13 => ?_)
    refine WC.region rfl ?_
    refine WL.yld rfl (blt rfl) rfl (Y.assign rfl rfl) ?_
    refine WL.nil ?_
    refine WK.then_normal (k13 _ _ ?_)
    refine WC.sub [(2, _)] ⟨rfl, trivial⟩ ?_
    refine WC.ret ?_
    refine WK.then_ret ?_
    clear k1 k7 k8 k13
    refine WK.ret [_] rfl ⟨rfl, trivial⟩ ?_
    refine ⟨ret1 (vi (Sx.ex_7 ?_).symm), xW⟩
    have q := dec_t h12; have q2 := hco; unfold Sx.Cou at q2; omega
  ·
    have p12 := (dec_f h12)
    refine WC.skip ?_
    refine WK.then_normal (k7 _ _ ?_)
    refine WC.sub [(1, _)] ⟨rfl, trivial⟩ ?_
    refine WC.seq (fun K14 k14 => ?_)
    refine WC.seq (fun K15 k15 => ?_)
    refine WC.region rfl ?_
    refine WL.yld rfl (blt rfl) rfl (Y.loadS rfl Try.underlying28 rfl ti28 rfl (Blk.row_eq m6)) ?_
    refine WL.call rfl (blt rfl) rfl rfl rfl has29 rfl (levels_any _ _ _ (g_x.ext xW) hc_x) ?_
    rintro _ w16 ⟨rfl, x17⟩
    refine ⟨_, rfl, ?_⟩
    have m6 := m6.ext x17
    have xW := Ext.trans xW x17
    refine WL.yld rfl (blt rfl) rfl (Y.gtr rfl rfl rfl) ?_
    refine WL.nil ?_
    refine WK.then_normal (k15 _ _ ?_)
    refine WC.sub [(1, _), (8, _)] ⟨rfl, rfl, trivial⟩ ?_
    refine WC.cond rfl (fun h18 => ?_) (fun h18 => ?_)
    ·
      have p18 := (dec_t h18)
      refine WC.seq (fun K19 k19 => ?_)
      refine WC.region rfl ?_
      refine WL.yld rfl (blt rfl) rfl (Y.assign rfl rfl) ?_
      refine WL.nil ?_
      refine WK.then_normal (k19 _ _ ?_)
      refine WC.sub [(2, _)] ⟨rfl, trivial⟩ ?_
      refine WC.ret ?_
      refine WK.then_ret ?_
      clear k1 k7 k8 k14 k15 k19
      refine WK.ret [_] rfl ⟨rfl, trivial⟩ ?_
      refine ⟨ret1 (vi ?_), xW⟩
      have q0 : ¬ 200 < Sx.cnt x := by have q := dec_f h12; have q2 := hco; unfold Sx.Cou at q2; omega
      exact (Sx.ex_20 q0 (by have q := dec_t h18; omega)).symm
    ·
      have p18 := (dec_f h18)
      refine WC.skip ?_
      refine WK.then_normal (k14 _ _ ?_)
      refine WC.sub [(1, _)] ⟨rfl, trivial⟩ ?_
      refine WC.seq (fun K20 k20 => ?_)
      refine WC.region rfl ?_
      refine WL.yld rfl (blt rfl) rfl (Y.loadS rfl Try.underlying28 rfl ti28 rfl (Blk.row_eq m6)) ?_
      refine WL.call rfl (blt rfl) rfl rfl rfl has30 rfl (rnodes_any _ _ _ (g_x.ext xW) sh_x) ?_
      rintro _ w21 ⟨rfl, x22⟩
      refine ⟨_, rfl, ?_⟩
      have m6 := m6.ext x22
      have xW := Ext.trans xW x22
      refine WL.yld rfl (blt rfl) rfl (Y.assign rfl rfl) ?_
      refine WL.nil ?_
      refine WK.then_normal (k20 _ _ ?_)
      refine WC.sub [(2, _)] ⟨rfl, trivial⟩ ?_
      refine WC.ret ?_
      clear k1 k7 k8 k14 k15 k20
      refine WK.ret [_] rfl ⟨rfl, trivial⟩ ?_
      refine ⟨ret1 (vi ?_), xW⟩
      have q0 : ¬ 200 < Sx.cnt x := by have q := dec_f h12; have q2 := hco; unfold Sx.Cou at q2; omega
      exact (Sx.ex_nd q0 (by have q := dec_f h18; omega)).symm
end C
end SxW

end Go.Proofs.Ytklccakoblibmaa
