/- Contracts of package clock's functions. Conditions: what each theorem states. -/
import Derived.Test.YtaglpampidlbmaaCkM1
import Derived.Test.YtaglpampidlbmaaIn
import Derived.Test.YtaglpampidlbmaaRows
namespace Go.Proofs.Ytaglpampidlbmaa
open Go Go.Eng Go.RowKit
set_option linter.unusedVariables false
set_option linter.unusedSimpArgs false
namespace CkW
theorem ti3 : TI Try.prog 3 (.int .i64 0) 1 8 := TI.mk (by kernel_rfl)
theorem ti29 : TI Try.prog 29 (.agg #[.int .i64 0, .int .i64 0]) 2 16 := TI.mk (by kernel_rfl)
theorem ti42 : TI Try.prog 42 (.agg #[.int .i64 0, .int .i64 0, .int .i64 0, .int .i64 0, .int .i64 0]) 5 40 := TI.mk (by kernel_rfl)
theorem ti59 : TI Try.prog 59 (.agg #[.int .i64 0, .int .i64 0]) 2 16 := TI.mk (by kernel_rfl)
theorem has17 : Has Try.prog 17 := ⟨_, Try.func17, rfl, by kernel_rfl⟩
theorem has37 : Has Try.prog 37 := ⟨_, Try.func37, rfl, by kernel_rfl⟩
theorem has38 : Has Try.prog 38 := ⟨_, Try.func38, rfl, by kernel_rfl⟩
theorem has39 : Has Try.prog 39 := ⟨_, Try.func39, rfl, by kernel_rfl⟩
theorem has44 : Has Try.prog 44 := ⟨_, Try.func44, rfl, by kernel_rfl⟩
theorem has59 : Has Try.prog 59 := ⟨_, Try.func59, rfl, by kernel_rfl⟩
theorem has60 : Has Try.prog 60 := ⟨_, Try.func60, rfl, by kernel_rfl⟩
theorem pl59 : PL Try.prog 59 [.int .i64 0, .int .i64 0] [(0, 1), (1, 1)] := PL.mk (zero := [.int .i64 0, .int .i64 0]) ti59 Try.underlying59 (by kernel_rfl)
theorem eqg59 : Try.prog.eqGuardType Try.prog.depth 59 = false := by kernel_rfl
theorem eq59 (a0 : Int) (a1 : Int) (b0 : Int) (b1 : Int) (w : World) : (Op.equalIn 10000 59 (.agg #[.int .i64 a0, .int .i64 a1]) (.agg #[.int .i64 b0, .int .i64 b1])).run Try.prog w = .ok ((a0 == b0) && (a1 == b1)) w := by
  go_simp
  (repeat' split) <;> simp_all
theorem index1_any (x : Ck.Dom) (g : Nat) (i : Int) (w : World) (hg : Blk w g 3 [.int .i64 i]) :
    Calls Try.prog 60 #[.agg #[.int .i64 x.id, .int .i64 x.ppm], .pointer (some ⟨g, 0, none⟩)] w fun e w' => e = .returned (.bool (x.id == i)) ∧ Ext w w' := by
  have xW := Ext.refl w
  refine calls_of_WC (args := [.agg #[.int .i64 x.id, .int .i64 x.ppm], .pointer (some ⟨g, 0, none⟩)]) Try.func60 rfl rfl (ble rfl) ?_
  refine WC.seq (fun K1 k1 => ?_)
  refine WC.region rfl ?_
  refine WL.box rfl (blt rfl) rfl rfl rfl rfl ?_
  intro g2 w3 e4 x5 m6
  have o_g2 := own_new xW e4
  have xW := Ext.trans xW x5
  refine WL.yld rfl (blt rfl) rfl (Y.assign rfl rfl) ?_
  refine WL.nil ?_
  refine WK.then_normal (k1 _ _ ?_)
  refine WC.sub [(1, _), (2, _)] ⟨rfl, rfl, trivial⟩ ?_
  refine WC.seq (fun K7 k7 => ?_)
  refine WC.region rfl ?_
  refine WL.yld rfl (blt rfl) rfl (Y.fieldAddr rfl Try.underlying59 rfl ti3 (by decide) rfl) ?_
  refine WL.yld rfl (blt rfl) rfl (Y.load1 rfl Try.underlying3 rfl rfl (Blk.at_eq m6 rfl)) ?_
  refine WL.yld rfl (blt rfl) rfl (Y.load1 rfl Try.underlying3 rfl rfl (Blk.at_eq (hg.ext xW) rfl)) ?_
  refine WL.yld rfl (blt rfl) rfl (Y.eql rfl rfl rfl) ?_
  refine WL.yld rfl (blt rfl) rfl (Y.assign rfl rfl) ?_
  refine WL.nil ?_
  refine WK.then_normal (k7 _ _ ?_)
  refine WC.sub [(3, _)] ⟨rfl, trivial⟩ ?_
  refine WC.ret ?_
  clear k1 k7
  refine WK.ret [_] rfl ⟨rfl, trivial⟩ ?_
  exact ⟨rfl, xW⟩
theorem indexFunc_any (A_d : Option Addr) (n_d c_d : Nat) (d : List Ck.Dom) (id : Int) (g : Nat) (w : World) (h_d : Ls w A_d n_d c_d Ck.Dom.c 2 d) (hg : Blk w g 3 [.int .i64 id]) :
    Calls Try.prog 44 #[.slice A_d n_d c_d, .func (.func 60) #[] #[.pointer (some ⟨g, 0, none⟩)]] w fun e w' => e = .returned (.int .i64 (Ck.idx d id 0)) ∧ Ext w w' := by
  have xW := Ext.refl w
  have e_d := h_d.len
  have z_d := h_d.nle
  refine calls_of_WC (args := [.slice A_d n_d c_d, .func (.func 60) #[] #[.pointer (some ⟨g, 0, none⟩)]]) Try.func44 rfl rfl (ble rfl) ?_
  refine WC.seq (fun K1 k1 => ?_)
  refine WC.region rfl ?_
  refine WL.yld rfl (blt rfl) rfl (Y.assign rfl rfl) ?_
  refine WL.nil ?_
  refine WK.then_normal (k1 _ _ ?_)
  refine WC.sub [(0, _), (1, _)] ⟨rfl, rfl, trivial⟩ ?_
  refine WC.seq (fun K2 k2 => ?_)
  refine WC.seq (fun K3 k3 => ?_)
  refine WC.region rfl ?_
  refine WL.yld rfl (blt rfl) rfl (Y.move rfl rfl) ?_
  refine WL.yld rfl (blt rfl) rfl (Y.lenSl rfl rfl rfl Try.underlying22 rfl) ?_
  refine WL.yld rfl (blt rfl) rfl (Y.move rfl rfl) ?_
  refine WL.nil ?_
  refine WK.then_normal (k3 _ _ ?_)
  refine WC.sub [(0, _), (1, _), (7, _), (8, _)] ⟨rfl, rfl, rfl, rfl, trivial⟩ ?_
  refine WC.block ?_
  refine WC.sub [(8, _), (0, _), (1, _), (7, _)] ⟨rfl, rfl, rfl, rfl, trivial⟩ ?_
  refine WC.loopS 1 (fun mz Ed W' => ∃ i : Nat, mz = n_d - i ∧ Ed = [(8, .int .i64 ((i : Nat) : Int))] ∧ Ext w W' ∧ (i ≤ n_d) ∧ (Ck.idx (d.drop i) id i = Ck.idx d id 0)) _ ⟨0, rfl, rfl, xW, (Nat.zero_le _), rfl⟩ ?_
  rintro _ _ w4 ⟨i, rfl, rfl, xW, le_i, inv_i⟩
  refine WC.sub [(8, _), (0, _), (1, _), (7, _)] ⟨rfl, rfl, rfl, rfl, trivial⟩ ?_
  refine WC.seq (fun K5 k5 => ?_)
  refine WC.region rfl ?_
  refine WL.yld rfl (blt rfl) rfl (Y.lss rfl rfl rfl) ?_
  refine WL.nil ?_
  refine WK.then_normal (k5 _ _ ?_)
  refine WC.seq (fun K6 k6 => ?_)
  refine WC.cond rfl (fun h7 => ?_) (fun h7 => ?_)
  ·
    have p7 := (dec_t h7)
    refine WC.skip ?_
    refine WK.then_normal (k6 _ _ ?_)
    refine WC.sub [(0, _), (1, _), (7, _), (8, _)] ⟨rfl, rfl, rfl, rfl, trivial⟩ ?_
    refine WC.seq (fun K8 k8 => ?_)
    refine WC.block ?_
    refine WC.seq (fun K9 k9 => ?_)
    refine WC.region rfl ?_
    refine WL.yld rfl (blt rfl) rfl (Y.move rfl rfl) ?_
    refine WL.yld rfl (blt rfl) rfl (Y.assign rfl rfl) ?_
    refine WL.nil ?_
    refine WK.then_normal (k9 _ _ ?_)
    refine WC.sub [(0, _), (1, _), (5, _), (7, _), (8, _)] ⟨rfl, rfl, rfl, rfl, rfl, trivial⟩ ?_
    refine WC.seq (fun K10 k10 => ?_)
    refine WC.region rfl ?_
    refine WL.yld rfl (blt rfl) rfl (Y.move rfl rfl) ?_
    refine WL.yld rfl (blt rfl) rfl (Y.move rfl rfl) ?_
    refine WL.yld rfl (blt rfl) rfl (Y.move rfl rfl) ?_
    have b11 : i < n_d := by omega
    refine WL.yld rfl (blt rfl) rfl (Y.indexLs i (h_d.ext xW) rfl Try.underlying22 ti59 rfl rfl rfl b11) ?_
    refine WL.yld rfl (blt rfl) rfl (Y.loadS (cs := [_, _]) rfl Try.underlying59 rfl ti59 rfl (Ls.part_eq (h_d.ext xW) b11 rfl)) ?_
    refine WL.callV (f := 60) rfl (blt rfl) rfl rfl rfl rfl has60 rfl (index1_any _ _ _ _ (hg.ext xW)) ?_
    rintro _ w12 ⟨rfl, x13⟩
    refine ⟨_, rfl, ?_⟩
    have xW := Ext.trans xW x13
    refine WL.nil ?_
    refine WK.then_normal (k10 _ _ ?_)
    refine WC.sub [(0, _), (1, _), (5, _), (7, _), (8, _), (16, _)] ⟨rfl, rfl, rfl, rfl, rfl, rfl, trivial⟩ ?_
    refine WC.cond rfl (fun h14 => ?_) (fun h14 => ?_)
    ·
      refine WC.seq (fun K15 k15 => ?_)
      refine WC.region rfl ?_
      refine WL.yld rfl (blt rfl) rfl (Y.move rfl rfl) ?_
      refine WL.yld rfl (blt rfl) rfl (Y.assign rfl rfl) ?_
      refine WL.nil ?_
      refine WK.then_normal (k15 _ _ ?_)
      refine WC.sub [(4, _)] ⟨rfl, trivial⟩ ?_
      refine WC.ret ?_
      refine WK.in_ret ?_
      refine WK.then_ret ?_
      refine WK.then_ret ?_
      refine WK.in_ret ?_
      refine WK.then_ret ?_
      clear k1 k2 k3 k5 k6 k8 k9 k10 k15
      refine WK.ret [_] rfl ⟨rfl, trivial⟩ ?_
      refine ⟨ret1 (vi ?_), xW⟩
      rw [← inv_i, drop_bang (show i < d.length from by omega)]
      simp only [Ck.idx, h14, if_true]
    ·
      refine WC.skip ?_
      refine WK.in_normal ?_
      refine WK.then_normal (k8 _ _ ?_)
      refine WC.sub [(0, _), (1, _), (7, _), (8, _)] ⟨rfl, rfl, rfl, rfl, trivial⟩ ?_
      refine WC.region rfl ?_
      refine WL.yld rfl (blt rfl) rfl (Y.add rfl rfl rfl (wrap_i64 (by first | omega | (dsimp only; omega)))) ?_
      refine WL.yld rfl (blt rfl) rfl (Y.move rfl rfl) ?_
      refine WL.nil ?_
      refine WK.roundS _ [(8, .int .i64 (((i + 1) : Nat) : Int))] ⟨rfl, rfl, rfl, rfl, trivial⟩ ?_ ⟨(i + 1), rfl, rfl, xW, (by omega), (by rw [← inv_i, drop_bang (show i < d.length from by omega)]; simp only [Ck.idx, h14, Bool.false_eq_true, if_false])⟩
      show _ - (i + 1) < _ - i; omega
  ·
    have p7 := (dec_f h7)
    refine WC.exit ?_
    refine WK.then_exit ?_
    refine WK.then_exit ?_
    refine WK.in_exit ?_
    refine WK.then_normal (k2 _ _ ?_)
    refine WC.sub [] trivial ?_
    refine WC.seq (fun K16 k16 => ?_)
    refine WC.region rfl ?_
    refine WL.yld rfl (blt rfl) rfl (Y.assign rfl rfl) ?_
    refine WL.nil ?_
    refine WK.then_normal (k16 _ _ ?_)
    refine WC.ret ?_
    clear k1 k2 k3 k5 k6 k16
    refine WK.ret [_] rfl ⟨rfl, trivial⟩ ?_
    refine ⟨ret1 (vi ?_), xW⟩
    rw [← inv_i, List.drop_of_length_le (by omega)]; rfl
theorem index_any (A_d : Option Addr) (n_d c_d : Nat) (d : List Ck.Dom) (id : Int) (w : World) (h_d : Ls w A_d n_d c_d Ck.Dom.c 2 d) :
    Calls Try.prog 39 #[.slice A_d n_d c_d, .int .i64 id] w fun e w' => e = .returned (.int .i64 (Ck.idx d id 0)) ∧ Ext w w' := by
  have xW := Ext.refl w
  have e_d := h_d.len
  have z_d := h_d.nle
  refine calls_of_WC (args := [.slice A_d n_d c_d, .int .i64 id]) Try.func39 rfl rfl (ble rfl) ?_
  refine WC.seq (fun K1 k1 => ?_)
  refine WC.region rfl ?_
  refine WL.box rfl (blt rfl) rfl rfl rfl rfl ?_
  intro g2 w3 e4 x5 m6
  have o_g2 := own_new xW e4
  have xW := Ext.trans xW x5
  refine WL.yld rfl (blt rfl) rfl (Y.assign rfl rfl) ?_
  refine WL.nil ?_
  refine WK.then_normal (k1 _ _ ?_)
  refine WC.sub [(0, _), (3, _)] ⟨rfl, rfl, trivial⟩ ?_
  refine WC.seq (fun K7 k7 => ?_)
  refine WC.region rfl ?_
  refine WL.yld rfl (blt rfl) rfl (Y.move rfl rfl) ?_
  refine WL.yld rfl (blt rfl) rfl (Y.func rfl rfl rfl) ?_
  refine WL.call rfl (blt rfl) rfl rfl rfl has44 rfl (indexFunc_any _ _ _ _ _ _ _ (h_d.ext xW) m6) ?_
  rintro _ w8 ⟨rfl, x9⟩
  refine ⟨_, rfl, ?_⟩
  have m6 := m6.ext x9
  have xW := Ext.trans xW x9
  refine WL.yld rfl (blt rfl) rfl (Y.assign rfl rfl) ?_
  refine WL.nil ?_
  refine WK.then_normal (k7 _ _ ?_)
  refine WC.sub [(4, _)] ⟨rfl, trivial⟩ ?_
  refine WC.ret ?_
  clear k1 k7
  refine WK.ret [_] rfl ⟨rfl, trivial⟩ ?_
  exact ⟨rfl, xW⟩
theorem reading_any (n : Int) (w : World) :
    Calls Try.prog 59 #[.int .i64 n] w fun e w' => e = .returned (.bool (Ck.readB n)) ∧ Ext w w' := by
  have xW := Ext.refl w
  refine calls_of_WC (args := [.int .i64 n]) Try.func59 rfl rfl (ble rfl) ?_
  refine WC.seq (fun K1 k1 => ?_)
  refine WC.region rfl ?_
  refine WL.yld rfl (blt rfl) rfl (Y.assign rfl rfl) ?_
  refine WL.nil ?_
  refine WK.then_normal (k1 _ _ ?_)
  refine WC.sub [(0, _)] ⟨rfl, trivial⟩ ?_
  refine WC.seq (fun K2 k2 => ?_)
  refine WC.region rfl ?_
  refine WL.yld rfl (blt rfl) rfl (Y.move rfl rfl) ?_
  refine WL.yld rfl (blt rfl) rfl (Y.geq rfl rfl rfl) ?_
  refine WL.yld rfl (blt rfl) rfl (Y.move rfl rfl) ?_
  refine WL.yldG rfl (blt rfl) rfl rfl rfl (fun hb => Y.move rfl rfl) ?_
  refine WL.yldG rfl (blt rfl) rfl rfl rfl (fun hb => Y.leq rfl (evg rfl hb) rfl) ?_
  refine WL.yld rfl (blt rfl) rfl (Y.and rfl rfl rfl rfl) ?_
  refine WL.yld rfl (blt rfl) rfl (Y.assign rfl rfl) ?_
  refine WL.nil ?_
  refine WK.then_normal (k2 _ _ ?_)
  refine WC.sub [(2, _)] ⟨rfl, trivial⟩ ?_
  refine WC.ret ?_
  clear k1 k2
  refine WK.ret [_] rfl ⟨rfl, trivial⟩ ?_
  exact ⟨rfl, xW⟩
theorem domains_any (A_d : Option Addr) (n_d c_d : Nat) (d : List Ck.Dom) (w : World) (h_d : Ls w A_d n_d c_d Ck.Dom.c 2 d) :
    Calls Try.prog 37 #[.slice A_d n_d c_d] w fun e w' => e = .returned (.int .i64 (Ck.doms d d 0)) ∧ Ext w w' := by
  have xW := Ext.refl w
  have e_d := h_d.len
  have z_d := h_d.nle
  refine calls_of_WC (args := [.slice A_d n_d c_d]) Try.func37 rfl rfl (ble rfl) ?_
  refine WC.seq (fun K1 k1 => ?_)
  refine WC.region rfl ?_
  refine WL.yld rfl (blt rfl) rfl (Y.assign rfl rfl) ?_
  refine WL.nil ?_
  refine WK.then_normal (k1 _ _ ?_)
  refine WC.sub [(0, _)] ⟨rfl, trivial⟩ ?_
  refine WC.seq (fun K2 k2 => ?_)
  refine WC.seq (fun K3 k3 => ?_)
  refine WC.region rfl ?_
  refine WL.yld rfl (blt rfl) rfl (Y.move rfl rfl) ?_
  refine WL.yld rfl (blt rfl) rfl (Y.lenSl rfl rfl rfl Try.underlying22 rfl) ?_
  refine WL.yld rfl (blt rfl) rfl (Y.move rfl rfl) ?_
  refine WL.nil ?_
  refine WK.then_normal (k3 _ _ ?_)
  refine WC.block ?_
  refine WC.sub [(7, _), (0, _), (5, _), (6, _)] ⟨rfl, rfl, rfl, rfl, trivial⟩ ?_
  refine WC.loopS 1 (fun mz Ed W' => ∃ i : Nat, mz = n_d - i ∧ Ed = [(7, .int .i64 ((i : Nat) : Int))] ∧ Ext w W' ∧ (i ≤ n_d) ∧ (Ck.doms d (d.drop i) i = Ck.doms d d 0)) _ ⟨0, rfl, rfl, xW, (Nat.zero_le _), rfl⟩ ?_
  rintro _ _ w4 ⟨i, rfl, rfl, xW, le_i, inv_i⟩
  refine WC.sub [(7, _), (0, _), (5, _), (6, _)] ⟨rfl, rfl, rfl, rfl, trivial⟩ ?_
  refine WC.seq (fun K5 k5 => ?_)
  refine WC.region rfl ?_
  refine WL.yld rfl (blt rfl) rfl (Y.lss rfl rfl rfl) ?_
  refine WL.nil ?_
  refine WK.then_normal (k5 _ _ ?_)
  refine WC.seq (fun K6 k6 => ?_)
  refine WC.cond rfl (fun h7 => ?_) (fun h7 => ?_)
  ·
    have p7 := (dec_t h7)
    refine WC.skip ?_
    refine WK.then_normal (k6 _ _ ?_)
    refine WC.sub [(0, _), (5, _), (6, _), (7, _)] ⟨rfl, rfl, rfl, rfl, trivial⟩ ?_
    refine WC.seq (fun K8 k8 => ?_)
    refine WC.block ?_
    refine WC.seq (fun K9 k9 => ?_)
    refine WC.region rfl ?_
    refine WL.yld rfl (blt rfl) rfl (Y.move rfl rfl) ?_
    have b10 : i < n_d := by omega
    refine WL.yld rfl (blt rfl) rfl (Y.indexLs i (h_d.ext xW) rfl Try.underlying22 ti59 rfl rfl rfl b10) ?_
    refine WL.yld rfl (blt rfl) rfl (Y.loadS (cs := [_, _]) rfl Try.underlying59 rfl ti59 rfl (Ls.part_eq (h_d.ext xW) b10 rfl)) ?_
    refine WL.alloc rfl (blt rfl) rfl rfl ti59 rfl ?_
    intro g11 w12 e13 x14 m15
    have o_g11 := own_new xW e13
    have xW := Ext.trans xW x14
    refine WL.yld rfl (blt rfl) rfl (Y.assign rfl rfl) ?_
    refine WL.store (cs' := [_, _]) rfl rfl rfl rfl rfl rfl ti59 m15 (ble rfl) rfl rfl (fun w16 on17 m18 => ?_)
    have xW := Ext.only xW on17 o_g11
    refine WL.nil ?_
    refine WK.then_normal (k9 _ _ ?_)
    refine WC.sub [(0, _), (3, _), (4, _), (5, _), (6, _), (7, _)] ⟨rfl, rfl, rfl, rfl, rfl, rfl, trivial⟩ ?_
    refine WC.seq (fun K19 k19 => ?_)
    refine WC.seq (fun K20 k20 => ?_)
    refine WC.region rfl ?_
    refine WL.yld rfl (blt rfl) rfl (Y.fieldAddr rfl Try.underlying59 rfl ti3 (by decide) rfl) ?_
    refine WL.yld rfl (blt rfl) rfl (Y.load1 rfl Try.underlying3 rfl rfl (Blk.at_eq m18 rfl)) ?_
    refine WL.yld rfl (blt rfl) rfl (Y.lss rfl rfl rfl) ?_
    refine WL.yld rfl (blt rfl) rfl (Y.move rfl rfl) ?_
    refine WL.yldG rfl (blt rfl) rfl rfl rfl (fun hb => Y.fieldAddr rfl Try.underlying59 rfl ti3 (by decide) rfl) ?_
    refine WL.yldG rfl (blt rfl) rfl rfl rfl (fun hb => Y.load1 rfl Try.underlying3 rfl (evg rfl hb) (Blk.at_eq m18 rfl)) ?_
    refine WL.yldG rfl (blt rfl) rfl rfl rfl (fun hb => Y.geq rfl (evg rfl hb) rfl) ?_
    refine WL.yld rfl (blt rfl) rfl (Y.or rfl rfl rfl rfl) ?_
    refine WL.yld rfl (blt rfl) rfl (Y.move rfl rfl) ?_
    refine WL.yldG rfl (blt rfl) rfl rfl rfl (fun hb => Y.fieldAddr rfl Try.underlying59 rfl ti3 (by decide) rfl) ?_
    refine WL.yldG rfl (blt rfl) rfl rfl rfl (fun hb => Y.load1 rfl Try.underlying3 rfl (evg rfl hb) (Blk.at_eq m18 rfl)) ?_
    refine WL.yldG rfl (blt rfl) rfl rfl rfl (fun hb => Y.lss rfl (evg rfl hb) rfl) ?_
    refine WL.yld rfl (blt rfl) rfl (Y.or rfl rfl rfl rfl) ?_
    refine WL.yld rfl (blt rfl) rfl (Y.move rfl rfl) ?_
    refine WL.yldG rfl (blt rfl) rfl rfl rfl (fun hb => Y.fieldAddr rfl Try.underlying59 rfl ti3 (by decide) rfl) ?_
    refine WL.yldG rfl (blt rfl) rfl rfl rfl (fun hb => Y.load1 rfl Try.underlying3 rfl (evg rfl hb) (Blk.at_eq m18 rfl)) ?_
    refine WL.yldG rfl (blt rfl) rfl rfl rfl (fun hb => Y.gtr rfl (evg rfl hb) rfl) ?_
    refine WL.yld rfl (blt rfl) rfl (Y.or rfl rfl rfl rfl) ?_
    refine WL.nil ?_
    refine WK.then_normal (k20 _ _ ?_)
    refine WC.sub [(0, _), (3, _), (4, _), (5, _), (6, _), (7, _), (29, _)] ⟨rfl, rfl, rfl, rfl, rfl, rfl, rfl, trivial⟩ ?_
    refine WC.cond rfl (fun h21 => ?_) (fun h21 => ?_)
    ·
      have p21 := ((or_t h21).imp (fun h => ((or_t h).imp (fun h => ((or_t h).imp (fun h => (dec_t h)) (fun h => (dec_t h)))) (fun h => (dec_t h)))) (fun h => (dec_t h)))
      refine WC.seq (fun K22 k22 => ?_)
      refine WC.region rfl ?_
      refine WL.yld rfl (blt rfl) rfl (Y.assign rfl rfl) ?_
      refine WL.nil ?_
      refine WK.then_normal (k22 _ _ ?_)
      refine WC.sub [(2, _)] ⟨rfl, trivial⟩ ?_
      refine WC.ret ?_
      refine WK.then_ret ?_
      refine WK.in_ret ?_
      refine WK.then_ret ?_
      refine WK.then_ret ?_
      refine WK.in_ret ?_
      refine WK.then_ret ?_
      clear k1 k2 k3 k5 k6 k8 k9 k19 k20 k22
      refine WK.ret [_] rfl ⟨rfl, trivial⟩ ?_
      refine ⟨ret1 (vi ?_), xW⟩
      rw [← inv_i, drop_bang (show i < d.length from by omega)]
      rw [Ck.doms, if_pos (by unfold Ck.badDom; exact h21)]
    ·
      have p21 := (And.intro (And.intro (And.intro (dec_f (or_f (or_f (or_f h21).1).1).1) (dec_f (or_f (or_f (or_f h21).1).1).2)) (dec_f (or_f (or_f h21).1).2)) (dec_f (or_f h21).2))
      refine WC.skip ?_
      refine WK.then_normal (k19 _ _ ?_)
      refine WC.sub [(0, _), (3, _), (4, _), (5, _), (6, _), (7, _)] ⟨rfl, rfl, rfl, rfl, rfl, rfl, trivial⟩ ?_
      refine WC.seq (fun K23 k23 => ?_)
      refine WC.regionDq (by kernel_rfl) (by kernel_rfl) rfl ?_
      refine WQ.yld rfl (blt rfl) rfl (Y.move rfl rfl) ?_
      refine WQ.yld rfl (blt rfl) rfl (Y.move rfl rfl) ?_
      have b24 : i ≤ n_d := by omega
      refine WQ.yld rfl (blt rfl) rfl (Y.sliceH i rfl Try.underlying22 ti59 rfl rfl rfl (Nat.le_trans b24 (h_d.ext xW).le)) ?_
      refine WQ.yld rfl (blt rfl) rfl (Y.fieldAddr rfl Try.underlying59 rfl ti3 (by decide) rfl) ?_
      refine WQ.yld rfl (blt rfl) rfl (Y.load1 rfl Try.underlying3 rfl rfl (Blk.at_ext m18 rfl)) ?_
      refine WQ.call rfl (blt rfl) rfl rfl rfl has39 rfl (fun w hw => calls_ext hw (index_any _ _ _ _ _ _ (Ls.ext ((h_d.ext xW).take b24) hw))) ?_
      refine WQ.yld rfl (blt rfl) rfl (Y.geq rfl rfl rfl) ?_
      refine WQ.done (fun w25 x26 => ?_)
      have m18 := m18.ext x26
      have xW := Ext.trans xW x26
      refine WK.then_normal (k23 _ _ ?_)
      refine WC.sub [(0, _), (5, _), (6, _), (7, _), (36, _)] ⟨rfl, rfl, rfl, rfl, rfl, trivial⟩ ?_
      refine WC.cond rfl (fun h27 => ?_) (fun h27 => ?_)
      ·
        have p27 := (dec_t h27)
        refine WC.seq (fun K28 k28 => ?_)
        refine WC.region rfl ?_
        refine WL.yld rfl (blt rfl) rfl (Y.assign rfl rfl) ?_
        refine WL.nil ?_
        refine WK.then_normal (k28 _ _ ?_)
        refine WC.sub [(2, _)] ⟨rfl, trivial⟩ ?_
        refine WC.ret ?_
        refine WK.in_ret ?_
        refine WK.then_ret ?_
        refine WK.then_ret ?_
        refine WK.in_ret ?_
        refine WK.then_ret ?_
        clear k1 k2 k3 k5 k6 k8 k9 k19 k20 k23 k28
        refine WK.ret [_] rfl ⟨rfl, trivial⟩ ?_
        refine ⟨ret1 (vi ?_), xW⟩
        rw [← inv_i, drop_bang (show i < d.length from by omega)]
        rw [Ck.doms, if_neg (by unfold Ck.badDom; rw [h21]; exact Bool.false_ne_true), if_pos p27]
      ·
        have p27 := (dec_f h27)
        refine WC.skip ?_
        refine WK.in_normal ?_
        refine WK.then_normal (k8 _ _ ?_)
        refine WC.sub [(0, _), (5, _), (6, _), (7, _)] ⟨rfl, rfl, rfl, rfl, trivial⟩ ?_
        refine WC.region rfl ?_
        refine WL.yld rfl (blt rfl) rfl (Y.add rfl rfl rfl (wrap_i64 (by first | omega | (dsimp only; omega)))) ?_
        refine WL.yld rfl (blt rfl) rfl (Y.move rfl rfl) ?_
        refine WL.nil ?_
        refine WK.roundS _ [(7, .int .i64 (((i + 1) : Nat) : Int))] ⟨rfl, rfl, rfl, rfl, trivial⟩ ?_ ⟨(i + 1), rfl, rfl, xW, (by omega), (by rw [← inv_i, drop_bang (show i < d.length from by omega)]; rw [Ck.doms, if_neg (by unfold Ck.badDom; rw [h21]; exact Bool.false_ne_true), if_neg p27])⟩
        show _ - (i + 1) < _ - i; omega
  ·
    have p7 := (dec_f h7)
    refine WC.exit ?_
    refine WK.then_exit ?_
    refine WK.then_exit ?_
    refine WK.in_exit ?_
    refine WK.then_normal (k2 _ _ ?_)
    refine WC.sub [] trivial ?_
    refine WC.seq (fun K29 k29 => ?_)
    refine WC.region rfl ?_
    refine WL.yld rfl (blt rfl) rfl (Y.assign rfl rfl) ?_
    refine WL.nil ?_
    refine WK.then_normal (k29 _ _ ?_)
    refine WC.ret ?_
    clear k1 k2 k3 k5 k6 k29
    refine WK.ret [_] rfl ⟨rfl, trivial⟩ ?_
    refine ⟨ret1 (vi ?_), xW⟩
    rw [← inv_i, List.drop_of_length_le (by omega)]; rfl
theorem snap_any (A_d : Option Addr) (n_d c_d : Nat) (d : List Ck.Dom) (x : Ck.Snap) (w : World) (h_d : Ls w A_d n_d c_d Ck.Dom.c 2 d) :
    Calls Try.prog 38 #[.slice A_d n_d c_d, .agg #[.int .i64 x.a, .int .i64 x.ata, .int .i64 x.b, .int .i64 x.lo, .int .i64 x.hi]] w fun e w' => e = .returned (.int .i64 (Ck.snapF d x)) ∧ Ext w w' := by
  have xW := Ext.refl w
  have e_d := h_d.len
  have z_d := h_d.nle
  refine calls_of_WC (args := [.slice A_d n_d c_d, .agg #[.int .i64 x.a, .int .i64 x.ata, .int .i64 x.b, .int .i64 x.lo, .int .i64 x.hi]]) Try.func38 rfl rfl (ble rfl) ?_
  refine WC.seq (fun K1 k1 => ?_)
  refine WC.region rfl ?_
  refine WL.box rfl (blt rfl) rfl rfl rfl rfl ?_
  intro g2 w3 e4 x5 m6
  have o_g2 := own_new xW e4
  have xW := Ext.trans xW x5
  refine WL.yld rfl (blt rfl) rfl (Y.assign rfl rfl) ?_
  refine WL.nil ?_
  refine WK.then_normal (k1 _ _ ?_)
  refine WC.sub [(0, _), (3, _)] ⟨rfl, rfl, trivial⟩ ?_
  refine WC.seq (fun K7 k7 => ?_)
  refine WC.block ?_
  refine WC.seq (fun K8 k8 => ?_)
  refine WC.seq (fun K9 k9 => ?_)
  refine WC.region rfl ?_
  refine WL.yld rfl (blt rfl) rfl (Y.move rfl rfl) ?_
  refine WL.yld rfl (blt rfl) rfl (Y.fieldAddr rfl Try.underlying42 rfl ti3 (by decide) rfl) ?_
  refine WL.yld rfl (blt rfl) rfl (Y.load1 rfl Try.underlying3 rfl rfl (Blk.at_eq m6 rfl)) ?_
  refine WL.call rfl (blt rfl) rfl rfl rfl has39 rfl (index_any _ _ _ _ _ _ (h_d.ext xW)) ?_
  rintro _ w10 ⟨rfl, x11⟩
  refine ⟨_, rfl, ?_⟩
  have m6 := m6.ext x11
  have xW := Ext.trans xW x11
  refine WL.yld rfl (blt rfl) rfl (Y.lss rfl rfl rfl) ?_
  refine WL.yld rfl (blt rfl) rfl (Y.assign rfl rfl) ?_
  refine WL.nil ?_
  refine WK.then_normal (k9 _ _ ?_)
  refine WC.sub [(0, _), (3, _), (5, _)] ⟨rfl, rfl, rfl, trivial⟩ ?_
  refine WC.cond rfl (fun h12 => ?_) (fun h12 => ?_)
  ·
    have p12 := (dec_t h12)
    refine WC.skip ?_
    refine WK.then_normal (k8 _ _ ?_)
    refine WC.sub [(3, _), (5, .bool true)] ⟨rfl, kn h12, trivial⟩ ?_
    refine WC.condT rfl ?_
    refine WC.seq (fun K13 k13 => ?_)
    refine WC.region rfl ?_
    refine WL.yld rfl (blt rfl) rfl (Y.assign rfl rfl) ?_
    refine WL.nil ?_
    refine WK.then_normal (k13 _ _ ?_)
    refine WC.sub [(4, _)] ⟨rfl, trivial⟩ ?_
    refine WC.ret ?_
    refine WK.in_ret ?_
    refine WK.then_ret ?_
    clear k1 k7 k8 k9 k13
    refine WK.ret [_] rfl ⟨rfl, trivial⟩ ?_
    refine ⟨ret1 (vi ?_), xW⟩
    unfold Ck.snapF
    simp only [h12, Bool.or_false, Bool.false_or, Bool.or_true, Bool.true_or, Bool.false_eq_true, if_true, if_false]
  ·
    have p12 := (dec_f h12)
    refine WC.region rfl ?_
    refine WL.yld rfl (blt rfl) rfl (Y.move rfl rfl) ?_
    refine WL.yld rfl (blt rfl) rfl (Y.fieldAddr rfl Try.underlying42 rfl ti3 (by decide) rfl) ?_
    refine WL.yld rfl (blt rfl) rfl (Y.load1 rfl Try.underlying3 rfl rfl (Blk.at_eq m6 rfl)) ?_
    refine WL.call rfl (blt rfl) rfl rfl rfl has39 rfl (index_any _ _ _ _ _ _ (h_d.ext xW)) ?_
    rintro _ w14 ⟨rfl, x15⟩
    refine ⟨_, rfl, ?_⟩
    have m6 := m6.ext x15
    have xW := Ext.trans xW x15
    refine WL.yld rfl (blt rfl) rfl (Y.lss rfl rfl rfl) ?_
    refine WL.yld rfl (blt rfl) rfl (Y.assign rfl rfl) ?_
    refine WL.nil ?_
    refine WK.then_normal (k8 _ _ ?_)
    refine WC.sub [(3, _), (5, _)] ⟨rfl, rfl, trivial⟩ ?_
    refine WC.cond rfl (fun h16 => ?_) (fun h16 => ?_)
    ·
      have p16 := (dec_t h16)
      refine WC.seq (fun K17 k17 => ?_)
      refine WC.region rfl ?_
      refine WL.yld rfl (blt rfl) rfl (Y.assign rfl rfl) ?_
      refine WL.nil ?_
      refine WK.then_normal (k17 _ _ ?_)
      refine WC.sub [(4, _)] ⟨rfl, trivial⟩ ?_
      refine WC.ret ?_
      refine WK.in_ret ?_
      refine WK.then_ret ?_
      clear k1 k7 k8 k9 k17
      refine WK.ret [_] rfl ⟨rfl, trivial⟩ ?_
      refine ⟨ret1 (vi ?_), xW⟩
      unfold Ck.snapF
      simp only [h12, h16, Bool.or_false, Bool.false_or, Bool.or_true, Bool.true_or, Bool.false_eq_true, if_true, if_false]
    ·
      have p16 := (dec_f h16)
      refine WC.seq (fun K18 k18 => ?_)
      refine WC.region rfl ?_
      refine WL.yld rfl (blt rfl) rfl (Y.fieldAddr rfl Try.underlying42 rfl ti3 (by decide) rfl) ?_
      refine WL.yld rfl (blt rfl) rfl (Y.load1 rfl Try.underlying3 rfl rfl (Blk.at_eq m6 rfl)) ?_
      refine WL.yld rfl (blt rfl) rfl (Y.fieldAddr rfl Try.underlying42 rfl ti3 (by decide) rfl) ?_
      refine WL.yld rfl (blt rfl) rfl (Y.load1 rfl Try.underlying3 rfl rfl (Blk.at_eq m6 rfl)) ?_
      refine WL.yld rfl (blt rfl) rfl (Y.eql rfl rfl rfl) ?_
      refine WL.yld rfl (blt rfl) rfl (Y.assign rfl rfl) ?_
      refine WL.nil ?_
      refine WK.then_normal (k18 _ _ ?_)
      refine WC.sub [(3, _), (16, _)] ⟨rfl, rfl, trivial⟩ ?_
      refine WC.cond rfl (fun h19 => ?_) (fun h19 => ?_)
      ·
        have p19 := (eq_t h19)
        refine WC.seq (fun K20 k20 => ?_)
        refine WC.region rfl ?_
        refine WL.yld rfl (blt rfl) rfl (Y.assign rfl rfl) ?_
        refine WL.nil ?_
        refine WK.then_normal (k20 _ _ ?_)
        refine WC.sub [(4, _)] ⟨rfl, trivial⟩ ?_
        refine WC.ret ?_
        refine WK.in_ret ?_
        refine WK.then_ret ?_
        clear k1 k7 k8 k9 k18 k20
        refine WK.ret [_] rfl ⟨rfl, trivial⟩ ?_
        refine ⟨ret1 (vi ?_), xW⟩
        unfold Ck.snapF
        simp only [h12, h16, h19, Bool.or_false, Bool.false_or, Bool.or_true, Bool.true_or, Bool.false_eq_true, if_true, if_false]
      ·
        have p19 := (eq_f h19)
        refine WC.seq (fun K21 k21 => ?_)
        refine WC.seq (fun K22 k22 => ?_)
        refine WC.region rfl ?_
        refine WL.yld rfl (blt rfl) rfl (Y.fieldAddr rfl Try.underlying42 rfl ti3 (by decide) rfl) ?_
        refine WL.yld rfl (blt rfl) rfl (Y.load1 rfl Try.underlying3 rfl rfl (Blk.at_eq m6 rfl)) ?_
        refine WL.call rfl (blt rfl) rfl rfl rfl has59 rfl (reading_any _ _ ) ?_
        rintro _ w23 ⟨rfl, x24⟩
        refine ⟨_, rfl, ?_⟩
        have m6 := m6.ext x24
        have xW := Ext.trans xW x24
        refine WL.yld rfl (blt rfl) rfl (Y.not rfl rfl) ?_
        refine WL.yld rfl (blt rfl) rfl (Y.assign rfl rfl) ?_
        refine WL.nil ?_
        refine WK.then_normal (k22 _ _ ?_)
        refine WC.sub [(3, _), (22, _)] ⟨rfl, rfl, trivial⟩ ?_
        refine WC.cond rfl (fun h25 => ?_) (fun h25 => ?_)
        ·
          refine WC.skip ?_
          refine WK.then_normal (k21 _ _ ?_)
          refine WC.sub [(22, .bool true)] ⟨kn h25, trivial⟩ ?_
          refine WC.condT rfl ?_
          refine WC.seq (fun K26 k26 => ?_)
          refine WC.region rfl ?_
          refine WL.yld rfl (blt rfl) rfl (Y.assign rfl rfl) ?_
          refine WL.nil ?_
          refine WK.then_normal (k26 _ _ ?_)
          refine WC.sub [(4, _)] ⟨rfl, trivial⟩ ?_
          refine WC.ret ?_
          refine WK.in_ret ?_
          refine WK.then_ret ?_
          clear k1 k7 k8 k9 k18 k21 k22 k26
          refine WK.ret [_] rfl ⟨rfl, trivial⟩ ?_
          refine ⟨ret1 (vi ?_), xW⟩
          unfold Ck.snapF
          simp only [h12, h16, h19, h25, Bool.or_false, Bool.false_or, Bool.or_true, Bool.true_or, Bool.false_eq_true, if_true, if_false]
        ·
          refine WC.seq (fun K27 k27 => ?_)
          refine WC.region rfl ?_
          refine WL.yld rfl (blt rfl) rfl (Y.fieldAddr rfl Try.underlying42 rfl ti29 (by decide) rfl) ?_
          refine WL.yld rfl (blt rfl) rfl (Y.fieldAddr rfl Try.underlying29 rfl ti3 (by decide) rfl) ?_
          refine WL.yld rfl (blt rfl) rfl (Y.load1 rfl Try.underlying3 rfl rfl (Blk.at_eq m6 rfl)) ?_
          refine WL.call rfl (blt rfl) rfl rfl rfl has59 rfl (reading_any _ _ ) ?_
          rintro _ w28 ⟨rfl, x29⟩
          refine ⟨_, rfl, ?_⟩
          have m6 := m6.ext x29
          have xW := Ext.trans xW x29
          refine WL.yld rfl (blt rfl) rfl (Y.not rfl rfl) ?_
          refine WL.yld rfl (blt rfl) rfl (Y.assign rfl rfl) ?_
          refine WL.nil ?_
          refine WK.then_normal (k27 _ _ ?_)
          refine WC.sub [(3, _), (22, _)] ⟨rfl, rfl, trivial⟩ ?_
          refine WC.cond rfl (fun h30 => ?_) (fun h30 => ?_)
          ·
            refine WC.skip ?_
            refine WK.then_normal (k21 _ _ ?_)
            refine WC.sub [(22, .bool true)] ⟨kn h30, trivial⟩ ?_
            refine WC.condT rfl ?_
            refine WC.seq (fun K31 k31 => ?_)
            refine WC.region rfl ?_
            refine WL.yld rfl (blt rfl) rfl (Y.assign rfl rfl) ?_
            refine WL.nil ?_
            refine WK.then_normal (k31 _ _ ?_)
            refine WC.sub [(4, _)] ⟨rfl, trivial⟩ ?_
            refine WC.ret ?_
            refine WK.in_ret ?_
            refine WK.then_ret ?_
            clear k1 k7 k8 k9 k18 k21 k22 k27 k31
            refine WK.ret [_] rfl ⟨rfl, trivial⟩ ?_
            refine ⟨ret1 (vi ?_), xW⟩
            unfold Ck.snapF
            simp only [h12, h16, h19, h25, h30, Bool.or_false, Bool.false_or, Bool.or_true, Bool.true_or, Bool.false_eq_true, if_true, if_false]
          ·
            refine WC.seq (fun K32 k32 => ?_)
            refine WC.region rfl ?_
            refine WL.yld rfl (blt rfl) rfl (Y.fieldAddr rfl Try.underlying42 rfl ti29 (by decide) rfl) ?_
            refine WL.yld rfl (blt rfl) rfl (Y.fieldAddr rfl Try.underlying29 rfl ti3 (by decide) rfl) ?_
            refine WL.yld rfl (blt rfl) rfl (Y.load1 rfl Try.underlying3 rfl rfl (Blk.at_eq m6 rfl)) ?_
            refine WL.call rfl (blt rfl) rfl rfl rfl has59 rfl (reading_any _ _ ) ?_
            rintro _ w33 ⟨rfl, x34⟩
            refine ⟨_, rfl, ?_⟩
            have m6 := m6.ext x34
            have xW := Ext.trans xW x34
            refine WL.yld rfl (blt rfl) rfl (Y.not rfl rfl) ?_
            refine WL.yld rfl (blt rfl) rfl (Y.assign rfl rfl) ?_
            refine WL.nil ?_
            refine WK.then_normal (k32 _ _ ?_)
            refine WC.sub [(3, _), (22, _)] ⟨rfl, rfl, trivial⟩ ?_
            refine WC.cond rfl (fun h35 => ?_) (fun h35 => ?_)
            ·
              refine WC.skip ?_
              refine WK.then_normal (k21 _ _ ?_)
              refine WC.sub [(22, .bool true)] ⟨kn h35, trivial⟩ ?_
              refine WC.condT rfl ?_
              refine WC.seq (fun K36 k36 => ?_)
              refine WC.region rfl ?_
              refine WL.yld rfl (blt rfl) rfl (Y.assign rfl rfl) ?_
              refine WL.nil ?_
              refine WK.then_normal (k36 _ _ ?_)
              refine WC.sub [(4, _)] ⟨rfl, trivial⟩ ?_
              refine WC.ret ?_
              refine WK.in_ret ?_
              refine WK.then_ret ?_
              clear k1 k7 k8 k9 k18 k21 k22 k27 k32 k36
              refine WK.ret [_] rfl ⟨rfl, trivial⟩ ?_
              refine ⟨ret1 (vi ?_), xW⟩
              unfold Ck.snapF
              simp only [h12, h16, h19, h25, h30, h35, Bool.or_false, Bool.false_or, Bool.or_true, Bool.true_or, Bool.false_eq_true, if_true, if_false]
            ·
              refine WC.region rfl ?_
              refine WL.yld rfl (blt rfl) rfl (Y.fieldAddr rfl Try.underlying42 rfl ti29 (by decide) rfl) ?_
              refine WL.yld rfl (blt rfl) rfl (Y.fieldAddr rfl Try.underlying29 rfl ti3 (by decide) rfl) ?_
              refine WL.yld rfl (blt rfl) rfl (Y.load1 rfl Try.underlying3 rfl rfl (Blk.at_eq m6 rfl)) ?_
              refine WL.yld rfl (blt rfl) rfl (Y.fieldAddr rfl Try.underlying42 rfl ti29 (by decide) rfl) ?_
              refine WL.yld rfl (blt rfl) rfl (Y.fieldAddr rfl Try.underlying29 rfl ti3 (by decide) rfl) ?_
              refine WL.yld rfl (blt rfl) rfl (Y.load1 rfl Try.underlying3 rfl rfl (Blk.at_eq m6 rfl)) ?_
              refine WL.yld rfl (blt rfl) rfl (Y.gtr rfl rfl rfl) ?_
              refine WL.yld rfl (blt rfl) rfl (Y.assign rfl rfl) ?_
              refine WL.nil ?_
              refine WK.then_normal (k21 _ _ ?_)
              refine WC.sub [(22, _)] ⟨rfl, trivial⟩ ?_
              refine WC.cond rfl (fun h37 => ?_) (fun h37 => ?_)
              ·
                have p37 := (dec_t h37)
                refine WC.seq (fun K38 k38 => ?_)
                refine WC.region rfl ?_
                refine WL.yld rfl (blt rfl) rfl (Y.assign rfl rfl) ?_
                refine WL.nil ?_
                refine WK.then_normal (k38 _ _ ?_)
                refine WC.sub [(4, _)] ⟨rfl, trivial⟩ ?_
                refine WC.ret ?_
                refine WK.in_ret ?_
                refine WK.then_ret ?_
                clear k1 k7 k8 k9 k18 k21 k22 k27 k32 k38
                refine WK.ret [_] rfl ⟨rfl, trivial⟩ ?_
                refine ⟨ret1 (vi ?_), xW⟩
                unfold Ck.snapF
                simp only [h12, h16, h19, h25, h30, h35, h37, Bool.or_false, Bool.false_or, Bool.or_true, Bool.true_or, Bool.false_eq_true, if_true, if_false]
              ·
                have p37 := (dec_f h37)
                refine WC.skip ?_
                refine WK.in_normal ?_
                refine WK.then_normal (k7 _ _ ?_)
                refine WC.sub [] trivial ?_
                refine WC.seq (fun K39 k39 => ?_)
                refine WC.region rfl ?_
                refine WL.yld rfl (blt rfl) rfl (Y.assign rfl rfl) ?_
                refine WL.nil ?_
                refine WK.then_normal (k39 _ _ ?_)
                refine WC.ret ?_
                clear k1 k7 k8 k9 k18 k21 k22 k27 k32 k39
                refine WK.ret [_] rfl ⟨rfl, trivial⟩ ?_
                refine ⟨ret1 (vi ?_), xW⟩
                unfold Ck.snapF
                simp only [h12, h16, h19, h25, h30, h35, h37, Bool.or_false, Bool.false_or, Bool.or_true, Bool.true_or, Bool.false_eq_true, if_true, if_false]
theorem check_any (A_d : Option Addr) (n_d c_d : Nat) (d : List Ck.Dom) (A_l : Option Addr) (n_l c_l : Nat) (l : List Ck.Snap) (w : World) (h_d : Ls w A_d n_d c_d Ck.Dom.c 2 d) (h_l : Ls w A_l n_l c_l Ck.Snap.c 5 l) :
    Calls Try.prog 17 #[.slice A_d n_d c_d, .slice A_l n_l c_l] w fun e w' => e = .returned (.int .i64 (Ck.checkF d l)) ∧ Ext w w' := by
  have xW := Ext.refl w
  have e_d := h_d.len
  have z_d := h_d.nle
  have e_l := h_l.len
  have z_l := h_l.nle
  refine calls_of_WC (args := [.slice A_d n_d c_d, .slice A_l n_l c_l]) Try.func17 rfl rfl (ble rfl) ?_
  refine WC.seq (fun K1 k1 => ?_)
  refine WC.region rfl ?_
  refine WL.yld rfl (blt rfl) rfl (Y.assign rfl rfl) ?_
  refine WL.nil ?_
  refine WK.then_normal (k1 _ _ ?_)
  refine WC.sub [(0, _), (1, _)] ⟨rfl, rfl, trivial⟩ ?_
  refine WC.seq (fun K2 k2 => ?_)
  refine WC.seq (fun K3 k3 => ?_)
  refine WC.region rfl ?_
  refine WL.yld rfl (blt rfl) rfl (Y.move rfl rfl) ?_
  refine WL.yld rfl (blt rfl) rfl (Y.lenSl rfl rfl rfl Try.underlying22 rfl) ?_
  refine WL.yld rfl (blt rfl) rfl (Y.eql rfl rfl rfl) ?_
  refine WL.nil ?_
  refine WK.then_normal (k3 _ _ ?_)
  refine WC.sub [(0, _), (1, _), (11, _)] ⟨rfl, rfl, rfl, trivial⟩ ?_
  refine WC.cond rfl (fun h4 => ?_) (fun h4 => ?_)
  ·
    have p4 := (eq_t h4)
    refine WC.seq (fun K5 k5 => ?_)
    refine WC.region rfl ?_
    refine WL.yld rfl (blt rfl) rfl (Y.assign rfl rfl) ?_
    refine WL.nil ?_
    refine WK.then_normal (k5 _ _ ?_)
    refine WC.sub [(4, _)] ⟨rfl, trivial⟩ ?_
    refine WC.ret ?_
    refine WK.then_ret ?_
    clear k1 k2 k3 k5
    refine WK.ret [_] rfl ⟨rfl, trivial⟩ ?_
    refine ⟨ret1 (vi ?_), xW⟩
    unfold Ck.checkF
    rw [if_pos (by omega)]
  ·
    have p4 := (eq_f h4)
    refine WC.skip ?_
    refine WK.then_normal (k2 _ _ ?_)
    refine WC.sub [(0, _), (1, _)] ⟨rfl, rfl, trivial⟩ ?_
    refine WC.seq (fun K6 k6 => ?_)
    refine WC.seq (fun K7 k7 => ?_)
    refine WC.region rfl ?_
    refine WL.yld rfl (blt rfl) rfl (Y.move rfl rfl) ?_
    refine WL.yld rfl (blt rfl) rfl (Y.lenSl rfl rfl rfl Try.underlying22 rfl) ?_
    refine WL.yld rfl (blt rfl) rfl (Y.gtr rfl rfl rfl) ?_
    refine WL.yld rfl (blt rfl) rfl (Y.move rfl rfl) ?_
    refine WL.yldG rfl (blt rfl) rfl rfl rfl (fun hb => Y.move rfl rfl) ?_
    refine WL.yldG rfl (blt rfl) rfl rfl rfl (fun hb => Y.lenSl rfl rfl rfl Try.underlying23 (evs_cons (evg rfl hb) evs_nil)) ?_
    refine WL.yldG rfl (blt rfl) rfl rfl rfl (fun hb => Y.gtr rfl (evg rfl hb) rfl) ?_
    refine WL.yld rfl (blt rfl) rfl (Y.or rfl rfl rfl rfl) ?_
    refine WL.nil ?_
    refine WK.then_normal (k7 _ _ ?_)
    refine WC.sub [(0, _), (1, _), (19, _)] ⟨rfl, rfl, rfl, trivial⟩ ?_
    refine WC.cond rfl (fun h8 => ?_) (fun h8 => ?_)
    ·
      have p8 := ((or_t h8).imp (fun h => (dec_t h)) (fun h => (dec_t h)))
      refine WC.seq (fun K9 k9 => ?_)
      refine WC.region rfl ?_
      refine WL.yld rfl (blt rfl) rfl (Y.assign rfl rfl) ?_
      refine WL.nil ?_
      refine WK.then_normal (k9 _ _ ?_)
      refine WC.sub [(4, _)] ⟨rfl, trivial⟩ ?_
      refine WC.ret ?_
      refine WK.then_ret ?_
      clear k1 k2 k3 k6 k7 k9
      refine WK.ret [_] rfl ⟨rfl, trivial⟩ ?_
      refine ⟨ret1 (vi ?_), xW⟩
      unfold Ck.checkF
      rw [if_neg (by omega)]
      rw [if_pos (by omega)]
    ·
      have p8 := (And.intro (dec_f (or_f h8).1) (dec_f (or_f h8).2))
      refine WC.skip ?_
      refine WK.then_normal (k6 _ _ ?_)
      refine WC.sub [(0, _), (1, _)] ⟨rfl, rfl, trivial⟩ ?_
      refine WC.seq (fun K10 k10 => ?_)
      refine WC.seq (fun K11 k11 => ?_)
      refine WC.region rfl ?_
      refine WL.yld rfl (blt rfl) rfl (Y.move rfl rfl) ?_
      have b12 : 0 < n_d := by omega
      refine WL.yld rfl (blt rfl) rfl (Y.indexLs 0 (h_d.ext xW) rfl Try.underlying22 ti59 rfl rfl rfl b12) ?_
      refine WL.yld rfl (blt rfl) rfl (Y.loadS (cs := [_, _]) rfl Try.underlying59 rfl ti59 rfl (Ls.part_eq (h_d.ext xW) b12 rfl)) ?_
      refine WL.yld rfl (blt rfl) rfl (Y.build (cells := [_, _]) rfl pl59 rfl rfl) ?_
      refine WL.yld rfl (blt rfl) rfl (Y.neqS rfl eqg59 (eq59 _ _ _ _) rfl rfl) ?_
      refine WL.nil ?_
      refine WK.then_normal (k11 _ _ ?_)
      refine WC.sub [(0, _), (1, _), (24, _)] ⟨rfl, rfl, rfl, trivial⟩ ?_
      refine WC.cond rfl (fun h13 => ?_) (fun h13 => ?_)
      ·
        refine WC.seq (fun K14 k14 => ?_)
        refine WC.region rfl ?_
        refine WL.yld rfl (blt rfl) rfl (Y.assign rfl rfl) ?_
        refine WL.nil ?_
        refine WK.then_normal (k14 _ _ ?_)
        refine WC.sub [(4, _)] ⟨rfl, trivial⟩ ?_
        refine WC.ret ?_
        refine WK.then_ret ?_
        clear k1 k2 k3 k6 k7 k10 k11 k14
        refine WK.ret [_] rfl ⟨rfl, trivial⟩ ?_
        refine ⟨ret1 (vi ?_), xW⟩
        unfold Ck.checkF
        rw [if_neg (by omega)]
        rw [if_neg (by omega)]
        rw [if_neg (by rw [not_t h13]; exact Bool.false_ne_true)]
      ·
        refine WC.skip ?_
        refine WK.then_normal (k10 _ _ ?_)
        refine WC.sub [(0, _), (1, _)] ⟨rfl, rfl, trivial⟩ ?_
        refine WC.seq (fun K15 k15 => ?_)
        refine WC.seq (fun K16 k16 => ?_)
        refine WC.region rfl ?_
        refine WL.yld rfl (blt rfl) rfl (Y.move rfl rfl) ?_
        refine WL.call rfl (blt rfl) rfl rfl rfl has37 rfl (domains_any _ _ _ _ _ (h_d.ext xW)) ?_
        rintro _ w17 ⟨rfl, x18⟩
        refine ⟨_, rfl, ?_⟩
        have xW := Ext.trans xW x18
        refine WL.yld rfl (blt rfl) rfl (Y.assign rfl rfl) ?_
        refine WL.nil ?_
        refine WK.then_normal (k16 _ _ ?_)
        refine WC.sub [(0, _), (1, _), (5, _)] ⟨rfl, rfl, rfl, trivial⟩ ?_
        refine WC.seq (fun K19 k19 => ?_)
        refine WC.region rfl ?_
        refine WL.yld rfl (blt rfl) rfl (Y.move rfl rfl) ?_
        refine WL.yld rfl (blt rfl) rfl (Y.neq rfl rfl rfl) ?_
        refine WL.nil ?_
        refine WK.then_normal (k19 _ _ ?_)
        refine WC.sub [(0, _), (1, _), (5, _), (28, _)] ⟨rfl, rfl, rfl, rfl, trivial⟩ ?_
        refine WC.cond rfl (fun h20 => ?_) (fun h20 => ?_)
        ·
          have p20 := (eq_f (not_t h20))
          refine WC.seq (fun K21 k21 => ?_)
          refine WC.region rfl ?_
          refine WL.yld rfl (blt rfl) rfl (Y.move rfl rfl) ?_
          refine WL.yld rfl (blt rfl) rfl (Y.assign rfl rfl) ?_
          refine WL.nil ?_
          refine WK.then_normal (k21 _ _ ?_)
          refine WC.sub [(4, _)] ⟨rfl, trivial⟩ ?_
          refine WC.ret ?_
          refine WK.then_ret ?_
          clear k1 k2 k3 k6 k7 k10 k11 k15 k16 k19 k21
          refine WK.ret [_] rfl ⟨rfl, trivial⟩ ?_
          refine ⟨ret1 (vi ?_), xW⟩
          unfold Ck.checkF
          rw [if_neg (by omega)]
          rw [if_neg (by omega)]
          rw [if_pos (not_f h13)]
          rw [if_neg (by rw [ne_f_of h20]; exact Bool.false_ne_true)]
        ·
          have p20 := (eq_t (not_f h20))
          refine WC.skip ?_
          refine WK.then_normal (k15 _ _ ?_)
          refine WC.sub [(0, _), (1, _)] ⟨rfl, rfl, trivial⟩ ?_
          refine WC.seq (fun K22 k22 => ?_)
          refine WC.seq (fun K23 k23 => ?_)
          refine WC.region rfl ?_
          refine WL.yld rfl (blt rfl) rfl (Y.move rfl rfl) ?_
          refine WL.yld rfl (blt rfl) rfl (Y.lenSl rfl rfl rfl Try.underlying23 rfl) ?_
          refine WL.yld rfl (blt rfl) rfl (Y.move rfl rfl) ?_
          refine WL.nil ?_
          refine WK.then_normal (k23 _ _ ?_)
          refine WC.sub [(0, _), (30, _), (31, _), (32, _)] ⟨rfl, rfl, rfl, rfl, trivial⟩ ?_
          refine WC.block ?_
          refine WC.sub [(32, _), (0, _), (30, _), (31, _)] ⟨rfl, rfl, rfl, rfl, trivial⟩ ?_
          refine WC.loopS 1 (fun mz Ed W' => ∃ i : Nat, mz = n_l - i ∧ Ed = [(32, .int .i64 ((i : Nat) : Int))] ∧ Ext w W' ∧ (i ≤ n_l) ∧ (Ck.snaps d (l.drop i) = Ck.snaps d l)) _ ⟨0, rfl, rfl, xW, (Nat.zero_le _), rfl⟩ ?_
          rintro _ _ w24 ⟨i, rfl, rfl, xW, le_i, inv_i⟩
          refine WC.sub [(32, _), (0, _), (30, _), (31, _)] ⟨rfl, rfl, rfl, rfl, trivial⟩ ?_
          refine WC.seq (fun K25 k25 => ?_)
          refine WC.region rfl ?_
          refine WL.yld rfl (blt rfl) rfl (Y.lss rfl rfl rfl) ?_
          refine WL.nil ?_
          refine WK.then_normal (k25 _ _ ?_)
          refine WC.seq (fun K26 k26 => ?_)
          refine WC.cond rfl (fun h27 => ?_) (fun h27 => ?_)
          ·
            have p27 := (dec_t h27)
            refine WC.skip ?_
            refine WK.then_normal (k26 _ _ ?_)
            refine WC.sub [(0, _), (30, _), (31, _), (32, _)] ⟨rfl, rfl, rfl, rfl, trivial⟩ ?_
            refine WC.seq (fun K28 k28 => ?_)
            refine WC.block ?_
            refine WC.seq (fun K29 k29 => ?_)
            refine WC.region rfl ?_
            have b30 : i < n_l := by omega
            refine WL.yld rfl (blt rfl) rfl (Y.indexLs i (h_l.ext xW) rfl Try.underlying23 ti42 rfl rfl rfl b30) ?_
            refine WL.yld rfl (blt rfl) rfl (Y.loadS (cs := [_, _, _, _, _]) rfl Try.underlying42 rfl ti42 rfl (Ls.part_eq (h_l.ext xW) b30 rfl)) ?_
            refine WL.alloc rfl (blt rfl) rfl rfl ti42 rfl ?_
            intro g31 w32 e33 x34 m35
            have o_g31 := own_new xW e33
            have xW := Ext.trans xW x34
            refine WL.store (cs' := [_, _, _, _, _]) rfl rfl rfl rfl rfl rfl ti42 m35 (ble rfl) rfl rfl (fun w36 on37 m38 => ?_)
            have xW := Ext.only xW on37 o_g31
            refine WL.nil ?_
            refine WK.then_normal (k29 _ _ ?_)
            refine WC.sub [(0, _), (7, _), (30, _), (31, _), (32, _)] ⟨rfl, rfl, rfl, rfl, rfl, trivial⟩ ?_
            refine WC.seq (fun K39 k39 => ?_)
            refine WC.region rfl ?_
            refine WL.yld rfl (blt rfl) rfl (Y.move rfl rfl) ?_
            refine WL.yld rfl (blt rfl) rfl (Y.loadS rfl Try.underlying42 rfl ti42 rfl (Blk.row_eq m38)) ?_
            refine WL.call rfl (blt rfl) rfl rfl rfl has38 rfl (snap_any _ _ _ _ _ _ (h_d.ext xW)) ?_
            rintro _ w40 ⟨rfl, x41⟩
            refine ⟨_, rfl, ?_⟩
            have m38 := m38.ext x41
            have xW := Ext.trans xW x41
            refine WL.yld rfl (blt rfl) rfl (Y.assign rfl rfl) ?_
            refine WL.nil ?_
            refine WK.then_normal (k39 _ _ ?_)
            refine WC.sub [(0, _), (8, _), (30, _), (31, _), (32, _)] ⟨rfl, rfl, rfl, rfl, rfl, trivial⟩ ?_
            refine WC.seq (fun K42 k42 => ?_)
            refine WC.region rfl ?_
            refine WL.yld rfl (blt rfl) rfl (Y.move rfl rfl) ?_
            refine WL.yld rfl (blt rfl) rfl (Y.neq rfl rfl rfl) ?_
            refine WL.nil ?_
            refine WK.then_normal (k42 _ _ ?_)
            refine WC.sub [(0, _), (8, _), (30, _), (31, _), (32, _), (40, _)] ⟨rfl, rfl, rfl, rfl, rfl, rfl, trivial⟩ ?_
            refine WC.cond rfl (fun h43 => ?_) (fun h43 => ?_)
            ·
              have p43 := (eq_f (not_t h43))
              refine WC.seq (fun K44 k44 => ?_)
              refine WC.region rfl ?_
              refine WL.yld rfl (blt rfl) rfl (Y.move rfl rfl) ?_
              refine WL.yld rfl (blt rfl) rfl (Y.assign rfl rfl) ?_
              refine WL.nil ?_
              refine WK.then_normal (k44 _ _ ?_)
              refine WC.sub [(4, _)] ⟨rfl, trivial⟩ ?_
              refine WC.ret ?_
              refine WK.in_ret ?_
              refine WK.then_ret ?_
              refine WK.then_ret ?_
              refine WK.in_ret ?_
              refine WK.then_ret ?_
              clear k1 k2 k3 k6 k7 k10 k11 k15 k16 k19 k22 k23 k25 k26 k28 k29 k39 k42 k44
              refine WK.ret [_] rfl ⟨rfl, trivial⟩ ?_
              refine ⟨ret1 (vi ?_), xW⟩
              unfold Ck.checkF
              rw [if_neg (by omega)]
              rw [if_neg (by omega)]
              rw [if_pos (not_f h13)]
              rw [if_pos (not_f_ne h20)]
              rw [← inv_i, drop_bang (show i < l.length from by omega)]
              rw [Ck.snaps, if_neg (by rw [ne_f_of h43]; exact Bool.false_ne_true)]
            ·
              have p43 := (eq_t (not_f h43))
              refine WC.skip ?_
              refine WK.in_normal ?_
              refine WK.then_normal (k28 _ _ ?_)
              refine WC.sub [(0, _), (30, _), (31, _), (32, _)] ⟨rfl, rfl, rfl, rfl, trivial⟩ ?_
              refine WC.region rfl ?_
              refine WL.yld rfl (blt rfl) rfl (Y.add rfl rfl rfl (wrap_i64 (by first | omega | (dsimp only; omega)))) ?_
              refine WL.yld rfl (blt rfl) rfl (Y.move rfl rfl) ?_
              refine WL.nil ?_
              refine WK.roundS _ [(32, .int .i64 (((i + 1) : Nat) : Int))] ⟨rfl, rfl, rfl, rfl, trivial⟩ ?_ ⟨(i + 1), rfl, rfl, xW, (by omega), (by rw [← inv_i, drop_bang (show i < l.length from by omega)]; simp only [Ck.snaps, not_f_ne h43, if_true])⟩
              show _ - (i + 1) < _ - i; omega
          ·
            have p27 := (dec_f h27)
            refine WC.exit ?_
            refine WK.then_exit ?_
            refine WK.then_exit ?_
            refine WK.in_exit ?_
            refine WK.then_normal (k22 _ _ ?_)
            refine WC.sub [] trivial ?_
            refine WC.seq (fun K45 k45 => ?_)
            refine WC.region rfl ?_
            refine WL.yld rfl (blt rfl) rfl (Y.assign rfl rfl) ?_
            refine WL.nil ?_
            refine WK.then_normal (k45 _ _ ?_)
            refine WC.ret ?_
            clear k1 k2 k3 k6 k7 k10 k11 k15 k16 k19 k22 k23 k25 k26 k45
            refine WK.ret [_] rfl ⟨rfl, trivial⟩ ?_
            refine ⟨ret1 (vi ?_), xW⟩
            unfold Ck.checkF
            rw [if_neg (by omega)]
            rw [if_neg (by omega)]
            rw [if_pos (not_f h13)]
            rw [if_pos (not_f_ne h20)]
            rw [← inv_i, List.drop_of_length_le (by omega)]; rfl
theorem ppm_any (A_d : Option Addr) (n_d c_d : Nat) (d : List Ck.Dom) (id : Int) (w : World) (h_d : Ls w A_d n_d c_d Ck.Dom.c 2 d) :
    Calls Try.prog 21 #[.slice A_d n_d c_d, .int .i64 id] w fun e w' => e = .returned (.tuple #[.int .i64 (Ck.ppmF d id).1, .bool (Ck.ppmF d id).2]) ∧ Ext w w' := by
  have xW := Ext.refl w
  have e_d := h_d.len
  have z_d := h_d.nle
  have hi := Ck.idx_lt d id 0
  refine calls_of_WC (args := [.slice A_d n_d c_d, .int .i64 id]) Try.func21 rfl rfl (ble rfl) ?_
  refine WC.seq (fun K1 k1 => ?_)
  refine WC.region rfl ?_
  refine WL.yld rfl (blt rfl) rfl (Y.assign rfl rfl) ?_
  refine WL.yld rfl (blt rfl) rfl (Y.assign rfl rfl) ?_
  refine WL.nil ?_
  refine WK.then_normal (k1 _ _ ?_)
  refine WC.sub [(0, _), (1, _)] ⟨rfl, rfl, trivial⟩ ?_
  refine WC.seq (fun K2 k2 => ?_)
  refine WC.region rfl ?_
  refine WL.yld rfl (blt rfl) rfl (Y.move rfl rfl) ?_
  refine WL.yld rfl (blt rfl) rfl (Y.move rfl rfl) ?_
  refine WL.call rfl (blt rfl) rfl rfl rfl has39 rfl (index_any _ _ _ _ _ _ (h_d.ext xW)) ?_
  rintro _ w3 ⟨rfl, x4⟩
  refine ⟨_, rfl, ?_⟩
  have xW := Ext.trans xW x4
  refine WL.yld rfl (blt rfl) rfl (Y.assign rfl rfl) ?_
  refine WL.nil ?_
  refine WK.then_normal (k2 _ _ ?_)
  refine WC.sub [(0, _), (6, _)] ⟨rfl, rfl, trivial⟩ ?_
  refine WC.seq (fun K5 k5 => ?_)
  refine WC.seq (fun K6 k6 => ?_)
  refine WC.region rfl ?_
  refine WL.yld rfl (blt rfl) rfl (Y.move rfl rfl) ?_
  refine WL.call rfl (blt rfl) rfl rfl rfl has17 rfl (check_any _ _ _ _ _ _ _ _ _ (h_d.ext xW) (Ls.nil (by decide))) ?_
  rintro _ w7 ⟨rfl, x8⟩
  refine ⟨_, rfl, ?_⟩
  have xW := Ext.trans xW x8
  refine WL.yld rfl (blt rfl) rfl (Y.neq rfl rfl rfl) ?_
  refine WL.yld rfl (blt rfl) rfl (Y.move rfl rfl) ?_
  refine WL.yldG rfl (blt rfl) rfl rfl rfl (fun hb => Y.move rfl rfl) ?_
  refine WL.yldG rfl (blt rfl) rfl rfl rfl (fun hb => Y.lss rfl (evg rfl hb) rfl) ?_
  refine WL.yld rfl (blt rfl) rfl (Y.or rfl rfl rfl rfl) ?_
  refine WL.nil ?_
  refine WK.then_normal (k6 _ _ ?_)
  refine WC.sub [(0, _), (6, _), (16, _)] ⟨rfl, rfl, rfl, trivial⟩ ?_
  refine WC.cond rfl (fun h9 => ?_) (fun h9 => ?_)
  ·
    have p9 := ((or_t h9).imp (fun h => (eq_f (not_t h))) (fun h => (dec_t h)))
    refine WC.seq (fun K10 k10 => ?_)
    refine WC.region rfl ?_
    refine WL.yld rfl (blt rfl) rfl (Y.assign rfl rfl) ?_
    refine WL.yld rfl (blt rfl) rfl (Y.assign rfl rfl) ?_
    refine WL.nil ?_
    refine WK.then_normal (k10 _ _ ?_)
    refine WC.sub [(4, _), (5, _)] ⟨rfl, rfl, trivial⟩ ?_
    refine WC.ret ?_
    refine WK.then_ret ?_
    clear k1 k2 k5 k6 k10
    refine WK.ret [_, _] rfl ⟨rfl, rfl, trivial⟩ ?_
    refine ⟨ret2 (vi ?_) (vb ?_), xW⟩
    · unfold Ck.ppmF
      first
        | (rw [Ck.ppm_no h9])
        | (rw [Ck.ppm_yes h9])
    · unfold Ck.ppmF
      first
        | (rw [Ck.ppm_no h9])
        | (rw [Ck.ppm_yes h9])
  ·
    have p9 := (And.intro (eq_t (not_f (or_f h9).1)) (dec_f (or_f h9).2))
    refine WC.skip ?_
    refine WK.then_normal (k5 _ _ ?_)
    refine WC.sub [(0, _), (6, _)] ⟨rfl, rfl, trivial⟩ ?_
    refine WC.seq (fun K11 k11 => ?_)
    refine WC.region rfl ?_
    refine WL.yld rfl (blt rfl) rfl (Y.move rfl rfl) ?_
    refine WL.yld rfl (blt rfl) rfl (Y.move rfl rfl) ?_
    have b12 : (Ck.idx d id 0).toNat < n_d := by omega
    refine WL.yld rfl (blt rfl) rfl (Y.indexLs (Ck.idx d id 0).toNat (h_d.ext xW) rfl Try.underlying22 ti59 rfl rfl (by omega) b12) ?_
    refine WL.yld rfl (blt rfl) rfl (Y.fieldE rfl Try.underlying59 rfl ti3 (by decide) rfl) ?_
    refine WL.yld rfl (blt rfl) rfl (Y.load1 rfl Try.underlying3 rfl rfl (Ls.at_eq (h_d.ext xW) b12 rfl)) ?_
    refine WL.yld rfl (blt rfl) rfl (Y.assign rfl rfl) ?_
    refine WL.yld rfl (blt rfl) rfl (Y.assign rfl rfl) ?_
    refine WL.nil ?_
    refine WK.then_normal (k11 _ _ ?_)
    refine WC.sub [(4, _), (5, _)] ⟨rfl, rfl, trivial⟩ ?_
    refine WC.ret ?_
    clear k1 k2 k5 k6 k11
    refine WK.ret [_, _] rfl ⟨rfl, rfl, trivial⟩ ?_
    refine ⟨ret2 (vi ?_) (vb ?_), xW⟩
    · unfold Ck.ppmF
      first
        | (rw [Ck.ppm_no h9])
        | (rw [Ck.ppm_yes h9])
    · unfold Ck.ppmF
      first
        | (rw [Ck.ppm_no h9])
        | (rw [Ck.ppm_yes h9])
end CkW

end Go.Proofs.Ytaglpampidlbmaa
