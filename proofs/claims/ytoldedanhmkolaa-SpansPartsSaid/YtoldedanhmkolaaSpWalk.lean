/- Contracts of package spans: single spans, covers. Conditions: what each theorem states. -/
import Derived.Test.YtoldedanhmkolaaSpSpecB
import Derived.Test.YtoldedanhmkolaaRows
namespace Go.Proofs.Ytoldedanhmkolaa
open Go Go.Eng Go.RowKit
set_option linter.unusedVariables false
namespace SpW
theorem ti3 : TI Try.prog 3 (.int .i64 0) 1 8 := TI.mk (by kernel_rfl)
theorem ti27 : TI Try.prog 27 (.agg #[.int .i64 0, .int .i64 0]) 2 16 := TI.mk (by kernel_rfl)
theorem has11 : Has Try.prog 11 := ⟨_, Try.func11, rfl, by kernel_rfl⟩
theorem has12 : Has Try.prog 12 := ⟨_, Try.func12, rfl, by kernel_rfl⟩
theorem has36 : Has Try.prog 36 := ⟨_, Try.func36, rfl, by kernel_rfl⟩
theorem has37 : Has Try.prog 37 := ⟨_, Try.func37, rfl, by kernel_rfl⟩
theorem has46 : Has Try.prog 46 := ⟨_, Try.func46, rfl, by kernel_rfl⟩
theorem eqg27 : Try.prog.eqGuardType Try.prog.depth 27 = false := by kernel_rfl
theorem eq27 (a0 : Int) (a1 : Int) (b0 : Int) (b1 : Int) (w : World) : (Op.equalIn 10000 27 (.agg #[.int .i64 a0, .int .i64 a1]) (.agg #[.int .i64 b0, .int .i64 b1])).run Try.prog w = .ok ((a0 == b0) && (a1 == b1)) w := by
  go_simp
  (repeat' split) <;> simp_all
theorem valid_any (x : Sp.S) (w : World) :
    Calls Try.prog 11 #[.agg #[.int .i64 x.f, .int .i64 x.t]] w fun e w' => e = .returned (.bool (Sp.ok x)) ∧ Ext w w' := by
  have xW := Ext.refl w
  refine calls_of_WC (args := [.agg #[.int .i64 x.f, .int .i64 x.t]]) Try.func11 rfl rfl (ble rfl) ?_
  refine WC.seq (fun K1 k1 => ?_)
  refine WC.region rfl ?_
  refine WL.box rfl (blt rfl) rfl rfl rfl rfl ?_
  intro g2 w3 e4 x5 m6
  have o_g2 := own_new xW e4
  have xW := Ext.trans xW x5
  refine WL.yld rfl (blt rfl) rfl (Y.assign rfl rfl) ?_
  refine WL.nil ?_
  refine WK.then_normal (k1 _ _ ?_)
  refine WC.sub [(1, _)] ⟨rfl, trivial⟩ ?_
  refine WC.seq (fun K7 k7 => ?_)
  refine WC.region rfl ?_
  refine WL.yld rfl (blt rfl) rfl (Y.fieldAddr rfl Try.underlying27 rfl ti3 (by decide) rfl) ?_
  refine WL.yld rfl (blt rfl) rfl (Y.load1 rfl Try.underlying3 rfl rfl (Blk.at_eq m6 rfl)) ?_
  refine WL.yld rfl (blt rfl) rfl (Y.geq rfl rfl rfl) ?_
  refine WL.yld rfl (blt rfl) rfl (Y.move rfl rfl) ?_
  refine WL.yldG rfl (blt rfl) rfl rfl rfl (fun hb => Y.fieldAddr rfl Try.underlying27 rfl ti3 (by decide) rfl) ?_
  refine WL.yldG rfl (blt rfl) rfl rfl rfl (fun hb => Y.load1 rfl Try.underlying3 rfl (evg rfl hb) (Blk.at_eq m6 rfl)) ?_
  refine WL.yldG rfl (blt rfl) rfl rfl rfl (fun hb => Y.fieldAddr rfl Try.underlying27 rfl ti3 (by decide) rfl) ?_
  refine WL.yldG rfl (blt rfl) rfl rfl rfl (fun hb => Y.load1 rfl Try.underlying3 rfl (evg rfl hb) (Blk.at_eq m6 rfl)) ?_
  refine WL.yldG rfl (blt rfl) rfl rfl rfl (fun hb => Y.lss rfl (evg rfl hb) (evg rfl hb)) ?_
  refine WL.yld rfl (blt rfl) rfl (Y.and rfl rfl rfl rfl) ?_
  refine WL.yld rfl (blt rfl) rfl (Y.move rfl rfl) ?_
  refine WL.yldG rfl (blt rfl) rfl rfl rfl (fun hb => Y.fieldAddr rfl Try.underlying27 rfl ti3 (by decide) rfl) ?_
  refine WL.yldG rfl (blt rfl) rfl rfl rfl (fun hb => Y.load1 rfl Try.underlying3 rfl (evg rfl hb) (Blk.at_eq m6 rfl)) ?_
  refine WL.yldG rfl (blt rfl) rfl rfl rfl (fun hb => Y.leq rfl (evg rfl hb) rfl) ?_
  refine WL.yld rfl (blt rfl) rfl (Y.and rfl rfl rfl rfl) ?_
  refine WL.yld rfl (blt rfl) rfl (Y.assign rfl rfl) ?_
  refine WL.nil ?_
  refine WK.then_normal (k7 _ _ ?_)
  refine WC.sub [(2, _)] ⟨rfl, trivial⟩ ?_
  refine WC.ret ?_
  clear k1 k7
  refine WK.ret [_] rfl ⟨rfl, trivial⟩ ?_
  exact ⟨rfl, xW⟩
theorem rvalid_any (x : Sp.S) (w : World) :
    Calls Try.prog 12 #[.agg #[.int .i64 x.f, .int .i64 x.t]] w fun e w' => e = .returned (.bool (Sp.ok x)) ∧ Ext w w' := by
  have xW := Ext.refl w
  refine calls_of_WC (args := [.agg #[.int .i64 x.f, .int .i64 x.t]]) Try.func12 rfl rfl (ble rfl) ?_
  refine WC.seq (fun K1 k1 => ?_)
  refine WC.region rfl ?_
  refine WL.box rfl (blt rfl) rfl rfl rfl rfl ?_
  intro g2 w3 e4 x5 m6
  have o_g2 := own_new xW e4
  have xW := Ext.trans xW x5
  refine WL.yld rfl (blt rfl) rfl (Y.assign rfl rfl) ?_
  refine WL.nil ?_
  refine WK.then_normal (k1 _ _ ?_)
  refine WC.sub [(1, _)] ⟨rfl, trivial⟩ ?_
  refine WC.seq (fun K7 k7 => ?_)
  refine WC.region rfl ?_
  refine WL.yld rfl (blt rfl) rfl (Y.fieldAddr rfl Try.underlying27 rfl ti3 (by decide) rfl) ?_
  refine WL.yld rfl (blt rfl) rfl (Y.load1 rfl Try.underlying3 rfl rfl (Blk.at_eq m6 rfl)) ?_
  refine WL.yld rfl (blt rfl) rfl (Y.geq rfl rfl rfl) ?_
  refine WL.yld rfl (blt rfl) rfl (Y.move rfl rfl) ?_
  refine WL.yldG rfl (blt rfl) rfl rfl rfl (fun hb => Y.fieldAddr rfl Try.underlying27 rfl ti3 (by decide) rfl) ?_
  refine WL.yldG rfl (blt rfl) rfl rfl rfl (fun hb => Y.load1 rfl Try.underlying3 rfl (evg rfl hb) (Blk.at_eq m6 rfl)) ?_
  refine WL.yldG rfl (blt rfl) rfl rfl rfl (fun hb => Y.fieldAddr rfl Try.underlying27 rfl ti3 (by decide) rfl) ?_
  refine WL.yldG rfl (blt rfl) rfl rfl rfl (fun hb => Y.load1 rfl Try.underlying3 rfl (evg rfl hb) (Blk.at_eq m6 rfl)) ?_
  refine WL.yldG rfl (blt rfl) rfl rfl rfl (fun hb => Y.lss rfl (evg rfl hb) (evg rfl hb)) ?_
  refine WL.yld rfl (blt rfl) rfl (Y.and rfl rfl rfl rfl) ?_
  refine WL.yld rfl (blt rfl) rfl (Y.move rfl rfl) ?_
  refine WL.yldG rfl (blt rfl) rfl rfl rfl (fun hb => Y.fieldAddr rfl Try.underlying27 rfl ti3 (by decide) rfl) ?_
  refine WL.yldG rfl (blt rfl) rfl rfl rfl (fun hb => Y.load1 rfl Try.underlying3 rfl (evg rfl hb) (Blk.at_eq m6 rfl)) ?_
  refine WL.yldG rfl (blt rfl) rfl rfl rfl (fun hb => Y.leq rfl (evg rfl hb) rfl) ?_
  refine WL.yld rfl (blt rfl) rfl (Y.and rfl rfl rfl rfl) ?_
  refine WL.yld rfl (blt rfl) rfl (Y.assign rfl rfl) ?_
  refine WL.nil ?_
  refine WK.then_normal (k7 _ _ ?_)
  refine WC.sub [(2, _)] ⟨rfl, trivial⟩ ?_
  refine WC.ret ?_
  clear k1 k7
  refine WK.ret [_] rfl ⟨rfl, trivial⟩ ?_
  exact ⟨rfl, xW⟩
theorem coversc_any (x : Sp.S) (g0 : Nat) (q : Int) (w : World) (m0 : Blk w g0 3 [.int .i64 q]) :
    Calls Try.prog 37 #[.agg #[.int .i64 x.f, .int .i64 x.t], .pointer (some ⟨g0, 0, none⟩)] w fun e w' => e = .returned (.bool (Sp.inn x q)) ∧ Ext w w' := by
  have xW := Ext.refl w
  refine calls_of_WC (args := [.agg #[.int .i64 x.f, .int .i64 x.t], .pointer (some ⟨g0, 0, none⟩)]) Try.func37 rfl rfl (ble rfl) ?_
  refine WC.seq (fun K1 k1 => ?_)
  refine WC.region rfl ?_
  refine WL.box rfl (blt rfl) rfl rfl rfl rfl ?_
  intro g2 w3 e4 x5 m6
  have n_g0_g2 := ne_new m0 e4
  have o_g2 := own_new xW e4
  have m0 := m0.ext x5
  have xW := Ext.trans xW x5
  refine WL.yld rfl (blt rfl) rfl (Y.assign rfl rfl) ?_
  refine WL.nil ?_
  refine WK.then_normal (k1 _ _ ?_)
  refine WC.sub [(1, _), (2, _)] ⟨rfl, rfl, trivial⟩ ?_
  refine WC.seq (fun K7 k7 => ?_)
  refine WC.region rfl ?_
  refine WL.yld rfl (blt rfl) rfl (Y.loadS rfl Try.underlying27 rfl ti27 rfl (Blk.row_eq m6)) ?_
  refine WL.call rfl (blt rfl) rfl rfl rfl has11 rfl (valid_any _ _ ) ?_
  rintro _ w8 ⟨rfl, x9⟩
  refine ⟨_, rfl, ?_⟩
  have m0 := m0.ext x9
  have m6 := m6.ext x9
  have xW := Ext.trans xW x9
  refine WL.yld rfl (blt rfl) rfl (Y.move rfl rfl) ?_
  refine WL.yldG rfl (blt rfl) rfl rfl rfl (fun hb => Y.fieldAddr rfl Try.underlying27 rfl ti3 (by decide) rfl) ?_
  refine WL.yldG rfl (blt rfl) rfl rfl rfl (fun hb => Y.load1 rfl Try.underlying3 rfl (evg rfl hb) (Blk.at_eq m6 rfl)) ?_
  refine WL.yldG rfl (blt rfl) rfl rfl rfl (fun hb => Y.load1 rfl Try.underlying3 rfl rfl (Blk.at_eq m0 rfl)) ?_
  refine WL.yldG rfl (blt rfl) rfl rfl rfl (fun hb => Y.leq rfl (evg rfl hb) (evg rfl hb)) ?_
  refine WL.yld rfl (blt rfl) rfl (Y.and rfl rfl rfl rfl) ?_
  refine WL.yld rfl (blt rfl) rfl (Y.move rfl rfl) ?_
  refine WL.yldG rfl (blt rfl) rfl rfl rfl (fun hb => Y.load1 rfl Try.underlying3 rfl rfl (Blk.at_eq m0 rfl)) ?_
  refine WL.yldG rfl (blt rfl) rfl rfl rfl (fun hb => Y.fieldAddr rfl Try.underlying27 rfl ti3 (by decide) rfl) ?_
  refine WL.yldG rfl (blt rfl) rfl rfl rfl (fun hb => Y.load1 rfl Try.underlying3 rfl (evg rfl hb) (Blk.at_eq m6 rfl)) ?_
  refine WL.yldG rfl (blt rfl) rfl rfl rfl (fun hb => Y.lss rfl (evg rfl hb) (evg rfl hb)) ?_
  refine WL.yld rfl (blt rfl) rfl (Y.and rfl rfl rfl rfl) ?_
  refine WL.yld rfl (blt rfl) rfl (Y.assign rfl rfl) ?_
  refine WL.nil ?_
  refine WK.then_normal (k7 _ _ ?_)
  refine WC.sub [(3, _)] ⟨rfl, trivial⟩ ?_
  refine WC.ret ?_
  clear k1 k7
  refine WK.ret [_] rfl ⟨rfl, trivial⟩ ?_
  exact ⟨rfl, xW⟩
theorem index_any (A_l : Option Addr) (n_l c_l : Nat) (l : List Sp.S) (g0 : Nat) (q : Int) (w : World) (h_l : Ls w A_l n_l c_l Sp.S.c 2 l) (m0 : Blk w g0 3 [.int .i64 q]) :
    Calls Try.prog 46 #[.slice A_l n_l c_l, .func (.func 37) #[] #[.pointer (some ⟨g0, 0, none⟩)]] w fun e w' => e = .returned (.int .i64 (idxF (fun x => Sp.inn x q) l)) ∧ Ext w w' := by
  have xW := Ext.refl w
  have e_l := h_l.len
  have z_l := h_l.nle
  refine calls_of_WC (args := [.slice A_l n_l c_l, .func (.func 37) #[] #[.pointer (some ⟨g0, 0, none⟩)]]) Try.func46 rfl rfl (ble rfl) ?_
  refine WC.seq (fun K1 k1 => ?_)
  refine WC.region rfl ?_
  refine WL.yld rfl (blt rfl) rfl (Y.assign rfl rfl) ?_
  refine WL.nil ?_
  refine WK.then_normal (k1 _ _ ?_)
  refine WC.sub [(0, _), (1, _)] ⟨rfl, rfl, trivial⟩ ?_
  refine WC.seq (fun K2 k2 => ?_)
  refine WC.seq (fun K3 k3 => ?_)
  refine WC.region rfl ?_
  refine WL.yld rfl (blt rfl) rfl (Y.move rfl rfl) ?_
  refine WL.yld rfl (blt rfl) rfl (Y.lenSl rfl rfl rfl Try.underlying22 rfl) ?_
  refine WL.yld rfl (blt rfl) rfl (Y.move rfl rfl) ?_
  refine WL.nil ?_
  refine WK.then_normal (k3 _ _ ?_)
  refine WC.sub [(0, _), (1, _), (7, _), (8, _)] ⟨rfl, rfl, rfl, rfl, trivial⟩ ?_
  refine WC.block ?_
  refine WC.sub [(8, _), (0, _), (1, _), (7, _)] ⟨rfl, rfl, rfl, rfl, trivial⟩ ?_
  refine WC.loopS 1 (fun mz Ed W' => ∃ i : Nat, mz = n_l - i ∧ Ed = [(8, .int .i64 ((i : Nat) : Int))] ∧ Ext w W' ∧ Blk W' g0 3 _ ∧ (i ≤ n_l) ∧ (∀ j, j < i → Sp.inn l[j]! q = false)) _ ⟨0, rfl, rfl, xW, m0, (Nat.zero_le _), (fun j hj => absurd hj (Nat.not_lt_zero j))⟩ ?_
  rintro _ _ w4 ⟨i, rfl, rfl, xW, m0, le_i, inv_i⟩
  refine WC.sub [(8, _), (0, _), (1, _), (7, _)] ⟨rfl, rfl, rfl, rfl, trivial⟩ ?_
  refine WC.seq (fun K5 k5 => ?_)
  refine WC.region rfl ?_
  refine WL.yld rfl (blt rfl) rfl (Y.lss rfl rfl rfl) ?_
  refine WL.nil ?_
  refine WK.then_normal (k5 _ _ ?_)
  refine WC.seq (fun K6 k6 => ?_)
  refine WC.cond rfl (fun h7 => ?_) (fun h7 => ?_)
  ·
    have p7 := (dec_t h7)
    refine WC.skip ?_
    refine WK.then_normal (k6 _ _ ?_)
    refine WC.sub [(0, _), (1, _), (7, _), (8, _)] ⟨rfl, rfl, rfl, rfl, trivial⟩ ?_
    refine WC.seq (fun K8 k8 => ?_)
    refine WC.block ?_
    refine WC.seq (fun K9 k9 => ?_)
    refine WC.region rfl ?_
    refine WL.yld rfl (blt rfl) rfl (Y.move rfl rfl) ?_
    refine WL.yld rfl (blt rfl) rfl (Y.assign rfl rfl) ?_
    refine WL.nil ?_
    refine WK.then_normal (k9 _ _ ?_)
    refine WC.sub [(0, _), (1, _), (5, _), (7, _), (8, _)] ⟨rfl, rfl, rfl, rfl, rfl, trivial⟩ ?_
    refine WC.seq (fun K10 k10 => ?_)
    refine WC.region rfl ?_
    refine WL.yld rfl (blt rfl) rfl (Y.move rfl rfl) ?_
    refine WL.yld rfl (blt rfl) rfl (Y.move rfl rfl) ?_
    refine WL.yld rfl (blt rfl) rfl (Y.move rfl rfl) ?_
    have b11 : i < n_l := by omega
    refine WL.yld rfl (blt rfl) rfl (Y.indexLs i (h_l.ext xW) rfl Try.underlying22 ti27 rfl rfl rfl b11) ?_
    refine WL.yld rfl (blt rfl) rfl (Y.loadS (cs := [_, _]) rfl Try.underlying27 rfl ti27 rfl (Ls.part_eq (h_l.ext xW) b11 rfl)) ?_
    refine WL.callF rfl (blt rfl) rfl rfl rfl rfl has37 rfl (coversc_any _ _ _ _ m0) ?_
    rintro _ w12 ⟨rfl, x13⟩
    refine ⟨_, rfl, ?_⟩
    have m0 := m0.ext x13
    have xW := Ext.trans xW x13
    refine WL.nil ?_
    refine WK.then_normal (k10 _ _ ?_)
    refine WC.sub [(0, _), (1, _), (5, _), (7, _), (8, _), (16, _)] ⟨rfl, rfl, rfl, rfl, rfl, rfl, trivial⟩ ?_
    refine WC.cond rfl (fun h14 => ?_) (fun h14 => ?_)
    ·
      refine WC.seq (fun K15 k15 => ?_)
      refine WC.region rfl ?_
      refine WL.yld rfl (blt rfl) rfl (Y.move rfl rfl) ?_
      refine WL.yld rfl (blt rfl) rfl (Y.assign rfl rfl) ?_
      refine WL.nil ?_
      refine WK.then_normal (k15 _ _ ?_)
      refine WC.sub [(4, _)] ⟨rfl, trivial⟩ ?_
      refine WC.ret ?_
      refine WK.in_ret ?_
      refine WK.then_ret ?_
      refine WK.then_ret ?_
      refine WK.in_ret ?_
      refine WK.then_ret ?_
      clear k1 k2 k3 k5 k6 k8 k9 k10 k15
      refine WK.ret [_] rfl ⟨rfl, trivial⟩ ?_
      exact ⟨ret1 (vi (idxF_hit (p := fun x => Sp.inn x q) (show i < l.length from by omega) h14 inv_i).symm), xW⟩
    ·
      refine WC.skip ?_
      refine WK.in_normal ?_
      refine WK.then_normal (k8 _ _ ?_)
      refine WC.sub [(0, _), (1, _), (7, _), (8, _)] ⟨rfl, rfl, rfl, rfl, trivial⟩ ?_
      refine WC.region rfl ?_
      refine WL.yld rfl (blt rfl) rfl (Y.add rfl rfl rfl (wrap_i64 (by first | omega | (dsimp only; omega)))) ?_
      refine WL.yld rfl (blt rfl) rfl (Y.move rfl rfl) ?_
      refine WL.nil ?_
      refine WK.roundS _ [(8, .int .i64 (((i + 1) : Nat) : Int))] ⟨rfl, rfl, rfl, rfl, trivial⟩ ?_ ⟨(i + 1), rfl, rfl, xW, m0, (by omega), (fun j hj => by rcases Nat.lt_succ_iff_lt_or_eq.1 hj with h | h; exact inv_i j h; subst h; exact h14)⟩
      show _ - (i + 1) < _ - i; omega
  ·
    have p7 := (dec_f h7)
    refine WC.exit ?_
    refine WK.then_exit ?_
    refine WK.then_exit ?_
    refine WK.in_exit ?_
    refine WK.then_normal (k2 _ _ ?_)
    refine WC.sub [] trivial ?_
    refine WC.seq (fun K16 k16 => ?_)
    refine WC.region rfl ?_
    refine WL.yld rfl (blt rfl) rfl (Y.assign rfl rfl) ?_
    refine WL.nil ?_
    refine WK.then_normal (k16 _ _ ?_)
    refine WC.ret ?_
    clear k1 k2 k3 k5 k6 k16
    refine WK.ret [_] rfl ⟨rfl, trivial⟩ ?_
    exact ⟨ret1 (vi (idxF_none fun j hj => inv_i j (by omega)).symm), xW⟩
theorem contains_any (A_l : Option Addr) (n_l c_l : Nat) (l : List Sp.S) (g0 : Nat) (q : Int) (w : World) (h_l : Ls w A_l n_l c_l Sp.S.c 2 l) (m0 : Blk w g0 3 [.int .i64 q]) :
    Calls Try.prog 36 #[.slice A_l n_l c_l, .func (.func 37) #[] #[.pointer (some ⟨g0, 0, none⟩)]] w fun e w' => e = .returned (.bool (Sp.cov l q)) ∧ Ext w w' := by
  have xW := Ext.refl w
  have e_l := h_l.len
  have z_l := h_l.nle
  refine calls_of_WC (args := [.slice A_l n_l c_l, .func (.func 37) #[] #[.pointer (some ⟨g0, 0, none⟩)]]) Try.func36 rfl rfl (ble rfl) ?_
  refine WC.seq (fun K1 k1 => ?_)
  refine WC.region rfl ?_
  refine WL.yld rfl (blt rfl) rfl (Y.assign rfl rfl) ?_
  refine WL.nil ?_
  refine WK.then_normal (k1 _ _ ?_)
  refine WC.sub [(0, _), (1, _)] ⟨rfl, rfl, trivial⟩ ?_
  refine WC.seq (fun K2 k2 => ?_)
  refine WC.region rfl ?_
  refine WL.yld rfl (blt rfl) rfl (Y.move rfl rfl) ?_
  refine WL.yld rfl (blt rfl) rfl (Y.move rfl rfl) ?_
  refine WL.call rfl (blt rfl) rfl rfl rfl has46 rfl (index_any _ _ _ _ _ _ _ (h_l.ext xW) m0) ?_
  rintro _ w3 ⟨rfl, x4⟩
  refine ⟨_, rfl, ?_⟩
  have m0 := m0.ext x4
  have xW := Ext.trans xW x4
  refine WL.yld rfl (blt rfl) rfl (Y.geq rfl rfl rfl) ?_
  refine WL.yld rfl (blt rfl) rfl (Y.assign rfl rfl) ?_
  refine WL.nil ?_
  refine WK.then_normal (k2 _ _ ?_)
  refine WC.sub [(4, _)] ⟨rfl, trivial⟩ ?_
  refine WC.ret ?_
  clear k1 k2
  refine WK.ret [_] rfl ⟨rfl, trivial⟩ ?_
  exact ⟨ret1 (vb (idxF_any _ _)), xW⟩
theorem covers_any (A_l : Option Addr) (n_l c_l : Nat) (l : List Sp.S) (q : Int) (w : World) (h_l : Ls w A_l n_l c_l Sp.S.c 2 l) :
    Calls Try.prog 26 #[.slice A_l n_l c_l, .int .i64 q] w fun e w' => e = .returned (.bool (Sp.cov l q)) ∧ Ext w w' := by
  have xW := Ext.refl w
  have e_l := h_l.len
  have z_l := h_l.nle
  refine calls_of_WC (args := [.slice A_l n_l c_l, .int .i64 q]) Try.func26 rfl rfl (ble rfl) ?_
  refine WC.seq (fun K1 k1 => ?_)
  refine WC.region rfl ?_
  refine WL.box rfl (blt rfl) rfl rfl rfl rfl ?_
  intro g2 w3 e4 x5 m6
  have o_g2 := own_new xW e4
  have xW := Ext.trans xW x5
  refine WL.yld rfl (blt rfl) rfl (Y.assign rfl rfl) ?_
  refine WL.nil ?_
  refine WK.then_normal (k1 _ _ ?_)
  refine WC.sub [(0, _), (3, _)] ⟨rfl, rfl, trivial⟩ ?_
  refine WC.seq (fun K7 k7 => ?_)
  refine WC.region rfl ?_
  refine WL.yld rfl (blt rfl) rfl (Y.move rfl rfl) ?_
  refine WL.yld rfl (blt rfl) rfl (Y.func rfl rfl rfl) ?_
  refine WL.call rfl (blt rfl) rfl rfl rfl has36 rfl (contains_any _ _ _ _ _ _ _ (h_l.ext xW) m6) ?_
  rintro _ w8 ⟨rfl, x9⟩
  refine ⟨_, rfl, ?_⟩
  have m6 := m6.ext x9
  have xW := Ext.trans xW x9
  refine WL.yld rfl (blt rfl) rfl (Y.assign rfl rfl) ?_
  refine WL.nil ?_
  refine WK.then_normal (k7 _ _ ?_)
  refine WC.sub [(4, _)] ⟨rfl, trivial⟩ ?_
  refine WC.ret ?_
  clear k1 k7
  refine WK.ret [_] rfl ⟨rfl, trivial⟩ ?_
  exact ⟨rfl, xW⟩
theorem rcovers_any (A_l : Option Addr) (n_l c_l : Nat) (l : List Sp.S) (q : Int) (w : World) (h_l : Ls w A_l n_l c_l Sp.S.c 2 l) :
    Calls Try.prog 27 #[.slice A_l n_l c_l, .int .i64 q] w fun e w' => e = .returned (.bool (Sp.cov l q)) ∧ Ext w w' := by
  have xW := Ext.refl w
  have e_l := h_l.len
  have z_l := h_l.nle
  refine calls_of_WC (args := [.slice A_l n_l c_l, .int .i64 q]) Try.func27 rfl rfl (ble rfl) ?_
  refine WC.seq (fun K1 k1 => ?_)
  refine WC.region rfl ?_
  refine WL.yld rfl (blt rfl) rfl (Y.assign rfl rfl) ?_
  refine WL.nil ?_
  refine WK.then_normal (k1 _ _ ?_)
  refine WC.sub [(0, _), (1, _)] ⟨rfl, rfl, trivial⟩ ?_
  refine WC.seq (fun K2 k2 => ?_)
  refine WC.seq (fun K3 k3 => ?_)
  refine WC.region rfl ?_
  refine WL.yld rfl (blt rfl) rfl (Y.assign rfl rfl) ?_
  refine WL.nil ?_
  refine WK.then_normal (k3 _ _ ?_)
  refine WC.block ?_
  refine WC.sub [(5, _), (0, _), (1, _)] ⟨rfl, rfl, rfl, trivial⟩ ?_
  refine WC.loopS 1 (fun mz Ed W' => ∃ i : Nat, mz = n_l - i ∧ Ed = [(5, .int .i64 ((i : Nat) : Int))] ∧ Ext w W' ∧ (i ≤ n_l) ∧ (∀ j, j < i → Sp.inn l[j]! q = false)) _ ⟨0, rfl, rfl, xW, (Nat.zero_le _), (fun j hj => absurd hj (Nat.not_lt_zero j))⟩ ?_
  rintro _ _ w4 ⟨i, rfl, rfl, xW, le_i, inv_i⟩
  refine WC.sub [(5, _), (0, _), (1, _)] ⟨rfl, rfl, rfl, trivial⟩ ?_
  refine WC.seq (fun K5 k5 => ?_)
  refine WC.seq (fun K6 k6 => ?_)
  refine WC.region rfl ?_
  refine WL.yld rfl (blt rfl) rfl (Y.move rfl rfl) ?_
  refine WL.yld rfl (blt rfl) rfl (Y.move rfl rfl) ?_
  refine WL.yld rfl (blt rfl) rfl (Y.lenSl rfl rfl rfl Try.underlying22 rfl) ?_
  refine WL.yld rfl (blt rfl) rfl (Y.lss rfl rfl rfl) ?_
  refine WL.nil ?_
  refine WK.then_normal (k6 _ _ ?_)
  refine WC.sub [(0, _), (1, _), (5, _), (9, _)] ⟨rfl, rfl, rfl, rfl, trivial⟩ ?_
  refine WC.cond rfl (fun h7 => ?_) (fun h7 => ?_)
  ·
    have p7 := (dec_t h7)
    refine WC.skip ?_
    refine WK.then_normal (k5 _ _ ?_)
    refine WC.sub [(0, _), (1, _), (5, _)] ⟨rfl, rfl, rfl, trivial⟩ ?_
    refine WC.seq (fun K8 k8 => ?_)
    refine WC.block ?_
    refine WC.seq (fun K9 k9 => ?_)
    refine WC.region rfl ?_
    refine WL.yld rfl (blt rfl) rfl (Y.move rfl rfl) ?_
    refine WL.yld rfl (blt rfl) rfl (Y.move rfl rfl) ?_
    have b10 : i < n_l := by omega
    refine WL.yld rfl (blt rfl) rfl (Y.indexLs i (h_l.ext xW) rfl Try.underlying22 ti27 rfl rfl rfl b10) ?_
    refine WL.yld rfl (blt rfl) rfl (Y.loadS (cs := [_, _]) rfl Try.underlying27 rfl ti27 rfl (Ls.part_eq (h_l.ext xW) b10 rfl)) ?_
    refine WL.call rfl (blt rfl) rfl rfl rfl has12 rfl (rvalid_any _ _ ) ?_
    rintro _ w11 ⟨rfl, x12⟩
    refine ⟨_, rfl, ?_⟩
    have xW := Ext.trans xW x12
    refine WL.yld rfl (blt rfl) rfl (Y.move rfl rfl) ?_
    refine WL.yldG rfl (blt rfl) rfl rfl rfl (fun hb => Y.move rfl rfl) ?_
    refine WL.yldG rfl (blt rfl) rfl rfl rfl (fun hb => Y.move rfl rfl) ?_
    refine WL.yldG rfl (blt rfl) rfl rfl rfl (fun hb => Y.indexLs i (h_l.ext xW) rfl Try.underlying22 ti27 (evg rfl hb) (evg rfl hb) rfl (by omega)) ?_
    refine WL.yldG rfl (blt rfl) rfl rfl rfl (fun hb => Y.fieldE rfl Try.underlying27 rfl ti3 (by decide) (evg rfl hb)) ?_
    refine WL.yldG rfl (blt rfl) rfl rfl rfl (fun hb => Y.load1 rfl Try.underlying3 rfl (evg rfl hb) (Ls.at_eq (h_l.ext xW) (by omega) rfl)) ?_
    refine WL.yldG rfl (blt rfl) rfl rfl rfl (fun hb => Y.move rfl rfl) ?_
    refine WL.yldG rfl (blt rfl) rfl rfl rfl (fun hb => Y.leq rfl (evg rfl hb) (evg rfl hb)) ?_
    refine WL.yld rfl (blt rfl) rfl (Y.and rfl rfl rfl rfl) ?_
    refine WL.yld rfl (blt rfl) rfl (Y.move rfl rfl) ?_
    refine WL.yldG rfl (blt rfl) rfl rfl rfl (fun hb => Y.move rfl rfl) ?_
    refine WL.yldG rfl (blt rfl) rfl rfl rfl (fun hb => Y.move rfl rfl) ?_
    refine WL.yldG rfl (blt rfl) rfl rfl rfl (fun hb => Y.move rfl rfl) ?_
    refine WL.yldG rfl (blt rfl) rfl rfl rfl (fun hb => Y.indexLs i (h_l.ext xW) rfl Try.underlying22 ti27 (evg rfl hb) (evg rfl hb) rfl (by have q0 := (dec_t (and_t hb).2); omega)) ?_
    refine WL.yldG rfl (blt rfl) rfl rfl rfl (fun hb => Y.fieldE rfl Try.underlying27 rfl ti3 (by decide) (evg rfl hb)) ?_
    refine WL.yldG rfl (blt rfl) rfl rfl rfl (fun hb => Y.load1 rfl Try.underlying3 rfl (evg rfl hb) (Ls.at_eq (h_l.ext xW) (by have q0 := (dec_t (and_t hb).2); omega) rfl)) ?_
    refine WL.yldG rfl (blt rfl) rfl rfl rfl (fun hb => Y.lss rfl (evg rfl hb) (evg rfl hb)) ?_
    refine WL.yld rfl (blt rfl) rfl (Y.and rfl rfl rfl rfl) ?_
    refine WL.nil ?_
    refine WK.then_normal (k9 _ _ ?_)
    refine WC.sub [(0, _), (1, _), (5, _), (34, _)] ⟨rfl, rfl, rfl, rfl, trivial⟩ ?_
    refine WC.cond rfl (fun h13 => ?_) (fun h13 => ?_)
    ·
      have p13 := (And.intro (dec_t (and_t (and_t h13).1).2) (dec_t (and_t h13).2))
      refine WC.seq (fun K14 k14 => ?_)
      refine WC.region rfl ?_
      refine WL.yld rfl (blt rfl) rfl (Y.assign rfl rfl) ?_
      refine WL.nil ?_
      refine WK.then_normal (k14 _ _ ?_)
      refine WC.sub [(4, _)] ⟨rfl, trivial⟩ ?_
      refine WC.ret ?_
      refine WK.in_ret ?_
      refine WK.then_ret ?_
      refine WK.then_ret ?_
      refine WK.in_ret ?_
      refine WK.then_ret ?_
      clear k1 k2 k3 k5 k6 k8 k9 k14
      refine WK.ret [_] rfl ⟨rfl, trivial⟩ ?_
      exact ⟨ret1 (vb (Sp.cov_hit (show i < l.length from by omega) h13).symm), xW⟩
    ·
      have p13 := ((and_f h13).imp (fun h => ((and_f h).imp (fun h => h) (fun h => (dec_f h)))) (fun h => (dec_f h)))
      refine WC.skip ?_
      refine WK.in_normal ?_
      refine WK.then_normal (k8 _ _ ?_)
      refine WC.sub [(0, _), (1, _), (5, _)] ⟨rfl, rfl, rfl, trivial⟩ ?_
      refine WC.region rfl ?_
      refine WL.yld rfl (blt rfl) rfl (Y.move rfl rfl) ?_
      refine WL.yld rfl (blt rfl) rfl (Y.add rfl rfl rfl (wrap_i64 (by first | omega | (dsimp only; omega)))) ?_
      refine WL.yld rfl (blt rfl) rfl (Y.assign rfl rfl) ?_
      refine WL.nil ?_
      refine WK.roundS _ [(5, .int .i64 (((i + 1) : Nat) : Int))] ⟨rfl, rfl, rfl, trivial⟩ ?_ ⟨(i + 1), rfl, rfl, xW, (by omega), (fun j hj => by rcases Nat.lt_succ_iff_lt_or_eq.1 hj with h | h; exact inv_i j h; subst h; exact h13)⟩
      show _ - (i + 1) < _ - i; omega
  ·
    have p7 := (dec_f h7)
    refine WC.exit ?_
    refine WK.then_exit ?_
    refine WK.then_exit ?_
    refine WK.in_exit ?_
    refine WK.then_normal (k2 _ _ ?_)
    refine WC.sub [] trivial ?_
    refine WC.seq (fun K15 k15 => ?_)
    refine WC.region rfl ?_
    refine WL.yld rfl (blt rfl) rfl (Y.assign rfl rfl) ?_
    refine WL.nil ?_
    refine WK.then_normal (k15 _ _ ?_)
    refine WC.ret ?_
    clear k1 k2 k3 k5 k6 k15
    refine WK.ret [_] rfl ⟨rfl, trivial⟩ ?_
    exact ⟨ret1 (vb (Sp.cov_miss fun j hj => inv_i j (by omega)).symm), xW⟩
theorem isnormal_any (A_l : Option Addr) (n_l c_l : Nat) (l : List Sp.S) (w : World) (h_l : Ls w A_l n_l c_l Sp.S.c 2 l) :
    Calls Try.prog 16 #[.slice A_l n_l c_l] w fun e w' => e = .returned (.bool (Sp.isNorm l)) ∧ Ext w w' := by
  have xW := Ext.refl w
  have e_l := h_l.len
  have z_l := h_l.nle
  refine calls_of_WC (args := [.slice A_l n_l c_l]) Try.func16 rfl rfl (ble rfl) ?_
  refine WC.seq (fun K1 k1 => ?_)
  refine WC.region rfl ?_
  refine WL.yld rfl (blt rfl) rfl (Y.assign rfl rfl) ?_
  refine WL.nil ?_
  refine WK.then_normal (k1 _ _ ?_)
  refine WC.sub [(0, _)] ⟨rfl, trivial⟩ ?_
  refine WC.seq (fun K2 k2 => ?_)
  refine WC.seq (fun K3 k3 => ?_)
  refine WC.region rfl ?_
  refine WL.yld rfl (blt rfl) rfl (Y.move rfl rfl) ?_
  refine WL.yld rfl (blt rfl) rfl (Y.lenSl rfl rfl rfl Try.underlying22 rfl) ?_
  refine WL.yld rfl (blt rfl) rfl (Y.move rfl rfl) ?_
  refine WL.nil ?_
  refine WK.then_normal (k3 _ _ ?_)
  refine WC.block ?_
  refine WC.sub [(7, _), (0, _), (5, _), (6, _)] ⟨rfl, rfl, rfl, rfl, trivial⟩ ?_
  refine WC.loopS 1 (fun mz Ed W' => ∃ i : Nat, mz = n_l - i ∧ Ed = [(7, .int .i64 ((i : Nat) : Int))] ∧ Ext w W' ∧ (i ≤ n_l) ∧ (∀ j, j < i → Sp.ok l[j]! = true ∧ (0 < j → l[j - 1]!.t < l[j]!.f))) _ ⟨0, rfl, rfl, xW, (Nat.zero_le _), (fun j hj => absurd hj (Nat.not_lt_zero j))⟩ ?_
  rintro _ _ w4 ⟨i, rfl, rfl, xW, le_i, inv_i⟩
  refine WC.sub [(7, _), (0, _), (5, _), (6, _)] ⟨rfl, rfl, rfl, rfl, trivial⟩ ?_
  refine WC.seq (fun K5 k5 => ?_)
  refine WC.region rfl ?_
  refine WL.yld rfl (blt rfl) rfl (Y.lss rfl rfl rfl) ?_
  refine WL.nil ?_
  refine WK.then_normal (k5 _ _ ?_)
  refine WC.seq (fun K6 k6 => ?_)
  refine WC.cond rfl (fun h7 => ?_) (fun h7 => ?_)
  ·
    have p7 := (dec_t h7)
    refine WC.skip ?_
    refine WK.then_normal (k6 _ _ ?_)
    refine WC.sub [(0, _), (5, _), (6, _), (7, _)] ⟨rfl, rfl, rfl, rfl, trivial⟩ ?_
    refine WC.seq (fun K8 k8 => ?_)
    refine WC.block ?_
    refine WC.seq (fun K9 k9 => ?_)
    refine WC.region rfl ?_
    refine WL.yld rfl (blt rfl) rfl (Y.move rfl rfl) ?_
    have b10 : i < n_l := by omega
    refine WL.yld rfl (blt rfl) rfl (Y.indexLs i (h_l.ext xW) rfl Try.underlying22 ti27 rfl rfl rfl b10) ?_
    refine WL.yld rfl (blt rfl) rfl (Y.loadS (cs := [_, _]) rfl Try.underlying27 rfl ti27 rfl (Ls.part_eq (h_l.ext xW) b10 rfl)) ?_
    refine WL.alloc rfl (blt rfl) rfl rfl ti27 rfl ?_
    intro g11 w12 e13 x14 m15
    have o_g11 := own_new xW e13
    have xW := Ext.trans xW x14
    refine WL.yld rfl (blt rfl) rfl (Y.assign rfl rfl) ?_
    refine WL.store (cs' := [_, _]) rfl rfl rfl rfl rfl rfl ti27 m15 (ble rfl) rfl rfl (fun w16 on17 m18 => ?_)
    have xW := Ext.only xW on17 o_g11
    refine WL.nil ?_
    refine WK.then_normal (k9 _ _ ?_)
    refine WC.sub [(0, _), (3, _), (4, _), (5, _), (6, _), (7, _)] ⟨rfl, rfl, rfl, rfl, rfl, rfl, trivial⟩ ?_
    refine WC.seq (fun K19 k19 => ?_)
    refine WC.regionDq (by kernel_rfl) (by kernel_rfl) rfl ?_
    refine WQ.yld rfl (blt rfl) rfl (Y.loadS rfl Try.underlying27 rfl ti27 rfl (Blk.row_ext m18)) ?_
    refine WQ.call rfl (blt rfl) rfl rfl rfl has11 rfl (fun w hw => calls_ext hw (valid_any _ _ )) ?_
    refine WQ.yld rfl (blt rfl) rfl (Y.not rfl rfl) ?_
    refine WQ.yld rfl (blt rfl) rfl (Y.move rfl rfl) ?_
    refine WQ.yldG rfl (blt rfl) rfl rfl rfl (fun hb => Y.move rfl rfl) ?_
    refine WQ.yldG rfl (blt rfl) rfl rfl rfl (fun hb => Y.gtr rfl (evg rfl hb) rfl) ?_
    refine WQ.yldG rfl (blt rfl) rfl rfl rfl (fun hb => Y.move rfl (evg rfl hb)) ?_
    refine WQ.yldGs [(_, _)] rfl (blt rfl) rfl rfl rfl (fun hb => Y.move rfl rfl) ?_
    refine WQ.yldGs [(_, _)] rfl (blt rfl) rfl rfl rfl (fun hb => Y.move rfl rfl) ?_
    refine WQ.yldGs [(_, _)] rfl (blt rfl) rfl rfl rfl (fun hb => Y.sub rfl (evg (evg rfl hb.1) hb.2.1) rfl (wrap_i64 (by have q1 := (dec_t hb.2.1); first | omega | (dsimp only; omega)))) ?_
    refine WQ.yldGs [(_, _)] rfl (blt rfl) rfl rfl rfl (fun hb => Y.indexLs (i - 1) (h_l.ext xW) rfl Try.underlying22 ti27 (evg (evg rfl hb.1) hb.2.1) (evg (evg rfl hb.1) hb.2.1) (by have q1 := (dec_t hb.2.1); omega) (by have q1 := (dec_t hb.2.1); omega)) ?_
    refine WQ.yldGs [(_, _)] rfl (blt rfl) rfl rfl rfl (fun hb => Y.fieldE rfl Try.underlying27 rfl ti3 (by decide) (evg (evg rfl hb.1) hb.2.1)) ?_
    refine WQ.yldGs [(_, _)] rfl (blt rfl) rfl rfl rfl (fun hb => Y.load1 rfl Try.underlying3 rfl (evg (evg rfl hb.1) hb.2.1) (Ls.at_ext (h_l.ext xW) (by have q1 := (dec_t hb.2.1); omega) rfl)) ?_
    refine WQ.yldGs [(_, _)] rfl (blt rfl) rfl rfl rfl (fun hb => Y.fieldAddr rfl Try.underlying27 rfl ti3 (by decide) rfl) ?_
    refine WQ.yldGs [(_, _)] rfl (blt rfl) rfl rfl rfl (fun hb => Y.load1 rfl Try.underlying3 rfl (evg (evg rfl hb.1) hb.2.1) (Blk.at_ext m18 rfl)) ?_
    refine WQ.yldGs [(_, _)] rfl (blt rfl) rfl rfl rfl (fun hb => Y.geq rfl (evg (evg rfl hb.1) hb.2.1) (evg (evg rfl hb.1) hb.2.1)) ?_
    refine WQ.yldG rfl (blt rfl) rfl rfl rfl (fun hb => Y.and rfl (evg rfl hb) (evg rfl hb) rfl) ?_
    refine WQ.yld rfl (blt rfl) rfl (Y.or rfl rfl rfl rfl) ?_
    refine WQ.done (fun w20 x21 => ?_)
    have m18 := m18.ext x21
    have xW := Ext.trans xW x21
    refine WK.then_normal (k19 _ _ ?_)
    refine WC.sub [(0, _), (5, _), (6, _), (7, _), (29, _)] ⟨rfl, rfl, rfl, rfl, rfl, trivial⟩ ?_
    refine WC.cond rfl (fun h22 => ?_) (fun h22 => ?_)
    ·
      have p22 := ((or_t h22).imp (fun h => h) (fun h => (And.intro (dec_t (and_t h).1) (dec_t (and_t h).2))))
      refine WC.seq (fun K23 k23 => ?_)
      refine WC.region rfl ?_
      refine WL.yld rfl (blt rfl) rfl (Y.assign rfl rfl) ?_
      refine WL.nil ?_
      refine WK.then_normal (k23 _ _ ?_)
      refine WC.sub [(2, _)] ⟨rfl, trivial⟩ ?_
      refine WC.ret ?_
      refine WK.in_ret ?_
      refine WK.then_ret ?_
      refine WK.then_ret ?_
      refine WK.in_ret ?_
      refine WK.then_ret ?_
      clear k1 k2 k3 k5 k6 k8 k9 k19 k23
      refine WK.ret [_] rfl ⟨rfl, trivial⟩ ?_
      exact ⟨ret1 (vb (Sp.isNorm_no (show i < l.length from by omega) (Sp.isN_not h22)).symm), xW⟩
    ·
      have p22 := ((and_f (or_f h22).2).imp (fun h => (dec_f h)) (fun h => (dec_f h)))
      refine WC.skip ?_
      refine WK.in_normal ?_
      refine WK.then_normal (k8 _ _ ?_)
      refine WC.sub [(0, _), (5, _), (6, _), (7, _)] ⟨rfl, rfl, rfl, rfl, trivial⟩ ?_
      refine WC.region rfl ?_
      refine WL.yld rfl (blt rfl) rfl (Y.add rfl rfl rfl (wrap_i64 (by first | omega | (dsimp only; omega)))) ?_
      refine WL.yld rfl (blt rfl) rfl (Y.move rfl rfl) ?_
      refine WL.nil ?_
      refine WK.roundS _ [(7, .int .i64 (((i + 1) : Nat) : Int))] ⟨rfl, rfl, rfl, rfl, trivial⟩ ?_ ⟨(i + 1), rfl, rfl, xW, (by omega), (fun j hj => by rcases Nat.lt_succ_iff_lt_or_eq.1 hj with h | h; exact inv_i j h; subst h; exact Sp.isN_yes h22)⟩
      show _ - (i + 1) < _ - i; omega
  ·
    have p7 := (dec_f h7)
    refine WC.exit ?_
    refine WK.then_exit ?_
    refine WK.then_exit ?_
    refine WK.in_exit ?_
    refine WK.then_normal (k2 _ _ ?_)
    refine WC.sub [] trivial ?_
    refine WC.seq (fun K24 k24 => ?_)
    refine WC.region rfl ?_
    refine WL.yld rfl (blt rfl) rfl (Y.assign rfl rfl) ?_
    refine WL.nil ?_
    refine WK.then_normal (k24 _ _ ?_)
    refine WC.ret ?_
    clear k1 k2 k3 k5 k6 k24
    refine WK.ret [_] rfl ⟨rfl, trivial⟩ ?_
    exact ⟨ret1 (vb (Sp.isNorm_up fun j hj => inv_i j (by omega)).symm), xW⟩
theorem risnormal_any (A_l : Option Addr) (n_l c_l : Nat) (l : List Sp.S) (w : World) (h_l : Ls w A_l n_l c_l Sp.S.c 2 l) :
    Calls Try.prog 17 #[.slice A_l n_l c_l] w fun e w' => e = .returned (.bool (Sp.isNorm l)) ∧ Ext w w' := by
  have xW := Ext.refl w
  have e_l := h_l.len
  have z_l := h_l.nle
  refine calls_of_WC (args := [.slice A_l n_l c_l]) Try.func17 rfl rfl (ble rfl) ?_
  refine WC.seq (fun K1 k1 => ?_)
  refine WC.region rfl ?_
  refine WL.yld rfl (blt rfl) rfl (Y.assign rfl rfl) ?_
  refine WL.nil ?_
  refine WK.then_normal (k1 _ _ ?_)
  refine WC.sub [(0, _)] ⟨rfl, trivial⟩ ?_
  refine WC.seq (fun K2 k2 => ?_)
  refine WC.seq (fun K3 k3 => ?_)
  refine WC.region rfl ?_
  refine WL.yld rfl (blt rfl) rfl (Y.assign rfl rfl) ?_
  refine WL.nil ?_
  refine WK.then_normal (k3 _ _ ?_)
  refine WC.block ?_
  refine WC.sub [(3, _), (0, _)] ⟨rfl, rfl, trivial⟩ ?_
  refine WC.loopS 1 (fun mz Ed W' => ∃ i : Nat, mz = n_l - i ∧ Ed = [(3, .int .i64 ((i : Nat) : Int))] ∧ Ext w W' ∧ (i ≤ n_l) ∧ (∀ j, j < i → Sp.ok l[j]! = true ∧ (0 < j → l[j - 1]!.t < l[j]!.f))) _ ⟨0, rfl, rfl, xW, (Nat.zero_le _), (fun j hj => absurd hj (Nat.not_lt_zero j))⟩ ?_
  rintro _ _ w4 ⟨i, rfl, rfl, xW, le_i, inv_i⟩
  refine WC.sub [(3, _), (0, _)] ⟨rfl, rfl, trivial⟩ ?_
  refine WC.seq (fun K5 k5 => ?_)
  refine WC.seq (fun K6 k6 => ?_)
  refine WC.region rfl ?_
  refine WL.yld rfl (blt rfl) rfl (Y.move rfl rfl) ?_
  refine WL.yld rfl (blt rfl) rfl (Y.move rfl rfl) ?_
  refine WL.yld rfl (blt rfl) rfl (Y.lenSl rfl rfl rfl Try.underlying22 rfl) ?_
  refine WL.yld rfl (blt rfl) rfl (Y.lss rfl rfl rfl) ?_
  refine WL.nil ?_
  refine WK.then_normal (k6 _ _ ?_)
  refine WC.sub [(0, _), (3, _), (7, _)] ⟨rfl, rfl, rfl, trivial⟩ ?_
  refine WC.cond rfl (fun h7 => ?_) (fun h7 => ?_)
  ·
    have p7 := (dec_t h7)
    refine WC.skip ?_
    refine WK.then_normal (k5 _ _ ?_)
    refine WC.sub [(0, _), (3, _)] ⟨rfl, rfl, trivial⟩ ?_
    refine WC.seq (fun K8 k8 => ?_)
    refine WC.block ?_
    refine WC.seq (fun K9 k9 => ?_)
    refine WC.regionDq (by kernel_rfl) (by kernel_rfl) rfl ?_
    refine WQ.yld rfl (blt rfl) rfl (Y.move rfl rfl) ?_
    refine WQ.yld rfl (blt rfl) rfl (Y.move rfl rfl) ?_
    have b10 : i < n_l := by omega
    refine WQ.yld rfl (blt rfl) rfl (Y.indexLs i (h_l.ext xW) rfl Try.underlying22 ti27 rfl rfl rfl b10) ?_
    refine WQ.yld rfl (blt rfl) rfl (Y.loadS (cs := [_, _]) rfl Try.underlying27 rfl ti27 rfl (Ls.part_ext (h_l.ext xW) b10 rfl)) ?_
    refine WQ.call rfl (blt rfl) rfl rfl rfl has12 rfl (fun w hw => calls_ext hw (rvalid_any _ _ )) ?_
    refine WQ.yld rfl (blt rfl) rfl (Y.not rfl rfl) ?_
    refine WQ.yld rfl (blt rfl) rfl (Y.move rfl rfl) ?_
    refine WQ.yldG rfl (blt rfl) rfl rfl rfl (fun hb => Y.move rfl rfl) ?_
    refine WQ.yldG rfl (blt rfl) rfl rfl rfl (fun hb => Y.gtr rfl (evg rfl hb) rfl) ?_
    refine WQ.yldG rfl (blt rfl) rfl rfl rfl (fun hb => Y.move rfl (evg rfl hb)) ?_
    refine WQ.yldGs [(_, _)] rfl (blt rfl) rfl rfl rfl (fun hb => Y.move rfl rfl) ?_
    refine WQ.yldGs [(_, _)] rfl (blt rfl) rfl rfl rfl (fun hb => Y.move rfl rfl) ?_
    refine WQ.yldGs [(_, _)] rfl (blt rfl) rfl rfl rfl (fun hb => Y.sub rfl (evg (evg rfl hb.1) hb.2.1) rfl (wrap_i64 (by have q1 := (dec_t hb.2.1); first | omega | (dsimp only; omega)))) ?_
    refine WQ.yldGs [(_, _)] rfl (blt rfl) rfl rfl rfl (fun hb => Y.indexLs (i - 1) (h_l.ext xW) rfl Try.underlying22 ti27 (evg (evg rfl hb.1) hb.2.1) (evg (evg rfl hb.1) hb.2.1) (by have q1 := (dec_t hb.2.1); omega) (by have q1 := (dec_t hb.2.1); omega)) ?_
    refine WQ.yldGs [(_, _)] rfl (blt rfl) rfl rfl rfl (fun hb => Y.fieldE rfl Try.underlying27 rfl ti3 (by decide) (evg (evg rfl hb.1) hb.2.1)) ?_
    refine WQ.yldGs [(_, _)] rfl (blt rfl) rfl rfl rfl (fun hb => Y.load1 rfl Try.underlying3 rfl (evg (evg rfl hb.1) hb.2.1) (Ls.at_ext (h_l.ext xW) (by have q1 := (dec_t hb.2.1); omega) rfl)) ?_
    refine WQ.yldGs [(_, _)] rfl (blt rfl) rfl rfl rfl (fun hb => Y.move rfl rfl) ?_
    refine WQ.yldGs [(_, _)] rfl (blt rfl) rfl rfl rfl (fun hb => Y.move rfl rfl) ?_
    refine WQ.yldGs [(_, _)] rfl (blt rfl) rfl rfl rfl (fun hb => Y.indexLs i (h_l.ext xW) rfl Try.underlying22 ti27 (evg (evg rfl hb.1) hb.2.1) (evg (evg rfl hb.1) hb.2.1) rfl (by have q1 := (dec_t hb.2.1); omega)) ?_
    refine WQ.yldGs [(_, _)] rfl (blt rfl) rfl rfl rfl (fun hb => Y.fieldE rfl Try.underlying27 rfl ti3 (by decide) (evg (evg rfl hb.1) hb.2.1)) ?_
    refine WQ.yldGs [(_, _)] rfl (blt rfl) rfl rfl rfl (fun hb => Y.load1 rfl Try.underlying3 rfl (evg (evg rfl hb.1) hb.2.1) (Ls.at_ext (h_l.ext xW) (by have q1 := (dec_t hb.2.1); omega) rfl)) ?_
    refine WQ.yldGs [(_, _)] rfl (blt rfl) rfl rfl rfl (fun hb => Y.geq rfl (evg (evg rfl hb.1) hb.2.1) (evg (evg rfl hb.1) hb.2.1)) ?_
    refine WQ.yldG rfl (blt rfl) rfl rfl rfl (fun hb => Y.and rfl (evg rfl hb) (evg rfl hb) rfl) ?_
    refine WQ.yld rfl (blt rfl) rfl (Y.or rfl rfl rfl rfl) ?_
    refine WQ.done (fun w11 x12 => ?_)
    have xW := Ext.trans xW x12
    refine WK.then_normal (k9 _ _ ?_)
    refine WC.sub [(0, _), (3, _), (33, _)] ⟨rfl, rfl, rfl, trivial⟩ ?_
    refine WC.cond rfl (fun h13 => ?_) (fun h13 => ?_)
    ·
      have p13 := ((or_t h13).imp (fun h => h) (fun h => (And.intro (dec_t (and_t h).1) (dec_t (and_t h).2))))
      refine WC.seq (fun K14 k14 => ?_)
      refine WC.region rfl ?_
      refine WL.yld rfl (blt rfl) rfl (Y.assign rfl rfl) ?_
      refine WL.nil ?_
      refine WK.then_normal (k14 _ _ ?_)
      refine WC.sub [(2, _)] ⟨rfl, trivial⟩ ?_
      refine WC.ret ?_
      refine WK.in_ret ?_
      refine WK.then_ret ?_
      refine WK.then_ret ?_
      refine WK.in_ret ?_
      refine WK.then_ret ?_
      clear k1 k2 k3 k5 k6 k8 k9 k14
      refine WK.ret [_] rfl ⟨rfl, trivial⟩ ?_
      exact ⟨ret1 (vb (Sp.isNorm_no (show i < l.length from by omega) (Sp.isN_not h13)).symm), xW⟩
    ·
      have p13 := ((and_f (or_f h13).2).imp (fun h => (dec_f h)) (fun h => (dec_f h)))
      refine WC.skip ?_
      refine WK.in_normal ?_
      refine WK.then_normal (k8 _ _ ?_)
      refine WC.sub [(0, _), (3, _)] ⟨rfl, rfl, trivial⟩ ?_
      refine WC.region rfl ?_
      refine WL.yld rfl (blt rfl) rfl (Y.move rfl rfl) ?_
      refine WL.yld rfl (blt rfl) rfl (Y.add rfl rfl rfl (wrap_i64 (by first | omega | (dsimp only; omega)))) ?_
      refine WL.yld rfl (blt rfl) rfl (Y.assign rfl rfl) ?_
      refine WL.nil ?_
      refine WK.roundS _ [(3, .int .i64 (((i + 1) : Nat) : Int))] ⟨rfl, rfl, trivial⟩ ?_ ⟨(i + 1), rfl, rfl, xW, (by omega), (fun j hj => by rcases Nat.lt_succ_iff_lt_or_eq.1 hj with h | h; exact inv_i j h; subst h; exact Sp.isN_yes h13)⟩
      show _ - (i + 1) < _ - i; omega
  ·
    have p7 := (dec_f h7)
    refine WC.exit ?_
    refine WK.then_exit ?_
    refine WK.then_exit ?_
    refine WK.in_exit ?_
    refine WK.then_normal (k2 _ _ ?_)
    refine WC.sub [] trivial ?_
    refine WC.seq (fun K15 k15 => ?_)
    refine WC.region rfl ?_
    refine WL.yld rfl (blt rfl) rfl (Y.assign rfl rfl) ?_
    refine WL.nil ?_
    refine WK.then_normal (k15 _ _ ?_)
    refine WC.ret ?_
    clear k1 k2 k3 k5 k6 k15
    refine WK.ret [_] rfl ⟨rfl, trivial⟩ ?_
    exact ⟨ret1 (vb (Sp.isNorm_up fun j hj => inv_i j (by omega)).symm), xW⟩
theorem same_any (A_a : Option Addr) (n_a c_a : Nat) (a : List Sp.S) (A_b : Option Addr) (n_b c_b : Nat) (b : List Sp.S) (w : World) (h_a : Ls w A_a n_a c_a Sp.S.c 2 a) (h_b : Ls w A_b n_b c_b Sp.S.c 2 b) :
    Calls Try.prog 13 #[.slice A_a n_a c_a, .slice A_b n_b c_b] w fun e w' => e = .returned (.bool (decide (a = b))) ∧ Ext w w' := by
  have xW := Ext.refl w
  have e_a := h_a.len
  have z_a := h_a.nle
  have e_b := h_b.len
  have z_b := h_b.nle
  refine calls_of_WC (args := [.slice A_a n_a c_a, .slice A_b n_b c_b]) Try.func13 rfl rfl (ble rfl) ?_
  refine WC.seq (fun K1 k1 => ?_)
  refine WC.region rfl ?_
  refine WL.yld rfl (blt rfl) rfl (Y.assign rfl rfl) ?_
  refine WL.nil ?_
  refine WK.then_normal (k1 _ _ ?_)
  refine WC.sub [(0, _), (1, _)] ⟨rfl, rfl, trivial⟩ ?_
  refine WC.seq (fun K2 k2 => ?_)
  refine WC.seq (fun K3 k3 => ?_)
  refine WC.region rfl ?_
  refine WL.yld rfl (blt rfl) rfl (Y.move rfl rfl) ?_
  refine WL.yld rfl (blt rfl) rfl (Y.lenSl rfl rfl rfl Try.underlying22 rfl) ?_
  refine WL.yld rfl (blt rfl) rfl (Y.move rfl rfl) ?_
  refine WL.yld rfl (blt rfl) rfl (Y.lenSl rfl rfl rfl Try.underlying22 rfl) ?_
  refine WL.yld rfl (blt rfl) rfl (Y.neq rfl rfl rfl) ?_
  refine WL.nil ?_
  refine WK.then_normal (k3 _ _ ?_)
  refine WC.sub [(0, _), (1, _), (10, _)] ⟨rfl, rfl, rfl, trivial⟩ ?_
  refine WC.cond rfl (fun h4 => ?_) (fun h4 => ?_)
  ·
    have p4 := (eq_f (not_t h4))
    refine WC.seq (fun K5 k5 => ?_)
    refine WC.region rfl ?_
    refine WL.yld rfl (blt rfl) rfl (Y.assign rfl rfl) ?_
    refine WL.nil ?_
    refine WK.then_normal (k5 _ _ ?_)
    refine WC.sub [(4, _)] ⟨rfl, trivial⟩ ?_
    refine WC.ret ?_
    refine WK.then_ret ?_
    clear k1 k2 k3 k5
    refine WK.ret [_] rfl ⟨rfl, trivial⟩ ?_
    refine ⟨ret1 (vb (Sp.same_no (by omega)).symm), xW⟩
  ·
    have p4 := (eq_t (not_f h4))
    refine WC.skip ?_
    refine WK.then_normal (k2 _ _ ?_)
    refine WC.sub [(0, _), (1, _)] ⟨rfl, rfl, trivial⟩ ?_
    refine WC.seq (fun K6 k6 => ?_)
    refine WC.seq (fun K7 k7 => ?_)
    refine WC.region rfl ?_
    refine WL.yld rfl (blt rfl) rfl (Y.assign rfl rfl) ?_
    refine WL.nil ?_
    refine WK.then_normal (k7 _ _ ?_)
    refine WC.block ?_
    refine WC.sub [(5, _), (0, _), (1, _)] ⟨rfl, rfl, rfl, trivial⟩ ?_
    refine WC.loopS 1 (fun mz Ed W' => ∃ i : Nat, mz = n_a - i ∧ Ed = [(5, .int .i64 ((i : Nat) : Int))] ∧ Ext w W' ∧ (i ≤ n_a) ∧ (∀ j, j < i → a[j]! = b[j]!)) _ ⟨0, rfl, rfl, xW, (Nat.zero_le _), (fun j hj => absurd hj (Nat.not_lt_zero j))⟩ ?_
    rintro _ _ w8 ⟨i, rfl, rfl, xW, le_i, inv_i⟩
    refine WC.sub [(5, _), (0, _), (1, _)] ⟨rfl, rfl, rfl, trivial⟩ ?_
    refine WC.seq (fun K9 k9 => ?_)
    refine WC.seq (fun K10 k10 => ?_)
    refine WC.region rfl ?_
    refine WL.yld rfl (blt rfl) rfl (Y.move rfl rfl) ?_
    refine WL.yld rfl (blt rfl) rfl (Y.move rfl rfl) ?_
    refine WL.yld rfl (blt rfl) rfl (Y.lenSl rfl rfl rfl Try.underlying22 rfl) ?_
    refine WL.yld rfl (blt rfl) rfl (Y.lss rfl rfl rfl) ?_
    refine WL.nil ?_
    refine WK.then_normal (k10 _ _ ?_)
    refine WC.sub [(0, _), (1, _), (5, _), (14, _)] ⟨rfl, rfl, rfl, rfl, trivial⟩ ?_
    refine WC.cond rfl (fun h11 => ?_) (fun h11 => ?_)
    ·
      have p11 := (dec_t h11)
      refine WC.skip ?_
      refine WK.then_normal (k9 _ _ ?_)
      refine WC.sub [(0, _), (1, _), (5, _)] ⟨rfl, rfl, rfl, trivial⟩ ?_
      refine WC.seq (fun K12 k12 => ?_)
      refine WC.block ?_
      refine WC.seq (fun K13 k13 => ?_)
      refine WC.regionDq (by kernel_rfl) (by kernel_rfl) rfl ?_
      refine WQ.yld rfl (blt rfl) rfl (Y.move rfl rfl) ?_
      refine WQ.yld rfl (blt rfl) rfl (Y.move rfl rfl) ?_
      have b14 : i < n_a := by omega
      refine WQ.yld rfl (blt rfl) rfl (Y.indexLs i (h_a.ext xW) rfl Try.underlying22 ti27 rfl rfl rfl b14) ?_
      refine WQ.yld rfl (blt rfl) rfl (Y.loadS (cs := [_, _]) rfl Try.underlying27 rfl ti27 rfl (Ls.part_ext (h_a.ext xW) b14 rfl)) ?_
      refine WQ.yld rfl (blt rfl) rfl (Y.move rfl rfl) ?_
      refine WQ.yld rfl (blt rfl) rfl (Y.move rfl rfl) ?_
      have b15 : i < n_b := by omega
      refine WQ.yld rfl (blt rfl) rfl (Y.indexLs i (h_b.ext xW) rfl Try.underlying22 ti27 rfl rfl rfl b15) ?_
      refine WQ.yld rfl (blt rfl) rfl (Y.loadS (cs := [_, _]) rfl Try.underlying27 rfl ti27 rfl (Ls.part_ext (h_b.ext xW) b15 rfl)) ?_
      refine WQ.yld rfl (blt rfl) rfl (Y.neqS rfl eqg27 (eq27 _ _ _ _) rfl rfl) ?_
      refine WQ.done (fun w16 x17 => ?_)
      have xW := Ext.trans xW x17
      refine WK.then_normal (k13 _ _ ?_)
      refine WC.sub [(0, _), (1, _), (5, _), (25, _)] ⟨rfl, rfl, rfl, rfl, trivial⟩ ?_
      refine WC.cond rfl (fun h18 => ?_) (fun h18 => ?_)
      ·
        refine WC.seq (fun K19 k19 => ?_)
        refine WC.region rfl ?_
        refine WL.yld rfl (blt rfl) rfl (Y.assign rfl rfl) ?_
        refine WL.nil ?_
        refine WK.then_normal (k19 _ _ ?_)
        refine WC.sub [(4, _)] ⟨rfl, trivial⟩ ?_
        refine WC.ret ?_
        refine WK.in_ret ?_
        refine WK.then_ret ?_
        refine WK.then_ret ?_
        refine WK.in_ret ?_
        refine WK.then_ret ?_
        clear k1 k2 k3 k6 k7 k9 k10 k12 k13 k19
        refine WK.ret [_] rfl ⟨rfl, trivial⟩ ?_
        refine ⟨ret1 (vb (Sp.same_at (Sp.ne_of_eqS h18)).symm), xW⟩
      ·
        refine WC.skip ?_
        refine WK.in_normal ?_
        refine WK.then_normal (k12 _ _ ?_)
        refine WC.sub [(0, _), (1, _), (5, _)] ⟨rfl, rfl, rfl, trivial⟩ ?_
        refine WC.region rfl ?_
        refine WL.yld rfl (blt rfl) rfl (Y.move rfl rfl) ?_
        refine WL.yld rfl (blt rfl) rfl (Y.add rfl rfl rfl (wrap_i64 (by first | omega | (dsimp only; omega)))) ?_
        refine WL.yld rfl (blt rfl) rfl (Y.assign rfl rfl) ?_
        refine WL.nil ?_
        refine WK.roundS _ [(5, .int .i64 (((i + 1) : Nat) : Int))] ⟨rfl, rfl, rfl, trivial⟩ ?_ ⟨(i + 1), rfl, rfl, xW, (by omega), (fun j hj => by rcases Nat.lt_succ_iff_lt_or_eq.1 hj with h | h; exact inv_i j h; subst h; exact (Sp.eq_of_eqS h18))⟩
        show _ - (i + 1) < _ - i; omega
    ·
      have p11 := (dec_f h11)
      refine WC.exit ?_
      refine WK.then_exit ?_
      refine WK.then_exit ?_
      refine WK.in_exit ?_
      refine WK.then_normal (k6 _ _ ?_)
      refine WC.sub [] trivial ?_
      refine WC.seq (fun K20 k20 => ?_)
      refine WC.region rfl ?_
      refine WL.yld rfl (blt rfl) rfl (Y.assign rfl rfl) ?_
      refine WL.nil ?_
      refine WK.then_normal (k20 _ _ ?_)
      refine WC.ret ?_
      clear k1 k2 k3 k6 k7 k9 k10 k20
      refine WK.ret [_] rfl ⟨rfl, trivial⟩ ?_
      refine ⟨ret1 (vb (decide_eq_true (Sp.bang_ext (by omega) (fun j hj => inv_i j (by omega)))).symm), xW⟩
theorem few_any (A_a : Option Addr) (n_a c_a : Nat) (a : List Sp.S) (A_b : Option Addr) (n_b c_b : Nat) (b : List Sp.S) (w : World) (h_a : Ls w A_a n_a c_a Sp.S.c 2 a) (h_b : Ls w A_b n_b c_b Sp.S.c 2 b) :
    Calls Try.prog 9 #[.slice A_a n_a c_a, .slice A_b n_b c_b] w fun e w' => e = .returned (.bool (decide (((n_a : Nat) : Int) ≤ 25) && decide (((n_b : Nat) : Int) ≤ 25))) ∧ Ext w w' := by
  have xW := Ext.refl w
  have e_a := h_a.len
  have z_a := h_a.nle
  have e_b := h_b.len
  have z_b := h_b.nle
  refine calls_of_WC (args := [.slice A_a n_a c_a, .slice A_b n_b c_b]) Try.func9 rfl rfl (ble rfl) ?_
  refine WC.seq (fun K1 k1 => ?_)
  refine WC.region rfl ?_
  refine WL.yld rfl (blt rfl) rfl (Y.assign rfl rfl) ?_
  refine WL.nil ?_
  refine WK.then_normal (k1 _ _ ?_)
  refine WC.sub [(0, _), (1, _)] ⟨rfl, rfl, trivial⟩ ?_
  refine WC.seq (fun K2 k2 => ?_)
  refine WC.region rfl ?_
  refine WL.yld rfl (blt rfl) rfl (Y.move rfl rfl) ?_
  refine WL.yld rfl (blt rfl) rfl (Y.lenSl rfl rfl rfl Try.underlying22 rfl) ?_
  refine WL.yld rfl (blt rfl) rfl (Y.leq rfl rfl rfl) ?_
  refine WL.yld rfl (blt rfl) rfl (Y.move rfl rfl) ?_
  refine WL.yldG rfl (blt rfl) rfl rfl rfl (fun hb => Y.move rfl rfl) ?_
  refine WL.yldG rfl (blt rfl) rfl rfl rfl (fun hb => Y.lenSl rfl rfl rfl Try.underlying22 (evs_cons (evg rfl hb) evs_nil)) ?_
  refine WL.yldG rfl (blt rfl) rfl rfl rfl (fun hb => Y.leq rfl (evg rfl hb) rfl) ?_
  refine WL.yld rfl (blt rfl) rfl (Y.and rfl rfl rfl rfl) ?_
  refine WL.yld rfl (blt rfl) rfl (Y.assign rfl rfl) ?_
  refine WL.nil ?_
  refine WK.then_normal (k2 _ _ ?_)
  refine WC.sub [(4, _)] ⟨rfl, trivial⟩ ?_
  refine WC.ret ?_
  clear k1 k2
  refine WK.ret [_] rfl ⟨rfl, trivial⟩ ?_
  exact ⟨rfl, xW⟩
end SpW

end Go.Proofs.Ytoldedanhmkolaa
