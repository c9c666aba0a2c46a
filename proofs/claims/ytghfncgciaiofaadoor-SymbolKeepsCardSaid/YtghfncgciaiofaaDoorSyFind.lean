/- Contracts: the search for an address. Conditions: what each theorem states. -/
import Derived.Test.YtghfncgciaiofaaDoorSyHex
import Derived.Test.YtghfncgciaiofaaDoorSyBack
import Derived.Test.YtghfncgciaiofaaDoorRng
namespace Go.Proofs.YtghfncgciaiofaaDoor
open Go Go.Eng Go.RowKit
set_option linter.unusedVariables false
open Go.Shelf Go.Proofs
namespace SyW
open R X
namespace F
theorem ti3 : TI Tryd.prog 3 (.int .i64 0) 1 8 := TI.mk (by kernel_rfl)
theorem ti4 : TI Tryd.prog 4 (.bool false) 1 1 := TI.mk (by kernel_rfl)
theorem ti9 : TI Tryd.prog 9 (.string ⟨#[]⟩) 1 16 := TI.mk (by kernel_rfl)
theorem ti32 : TI Tryd.prog 32 (.slice none 0 0) 1 24 := TI.mk (by kernel_rfl)
theorem ti34 : TI Tryd.prog 34 (.agg #[.string ⟨#[]⟩, .int .i64 0, .int .i64 0, .slice none 0 0]) 4 56 := TI.mk (by kernel_rfl)
theorem ti36 : TI Tryd.prog 36 (.agg #[.int .i64 0, .string ⟨#[]⟩]) 2 24 := TI.mk (by kernel_rfl)
theorem has36 : Has Tryd.prog 36 := ⟨_, Tryd.func36, rfl, by kernel_rfl⟩
theorem has37 : Has Tryd.prog 37 := ⟨_, Tryd.func37, rfl, by kernel_rfl⟩
theorem has38 : Has Tryd.prog 38 := ⟨_, Tryd.func38, rfl, by kernel_rfl⟩
theorem in_any (m : Sy.M) (g0 : Nat) (q : Int) (w : World) (m0 : Blk w g0 3 [.int .i64 q]) (hr : 0 ≤ m.b ∧ m.b ≤ 1000000000000000 ∧ 1 ≤ m.s ∧ m.s ≤ 1000000000000000 ∧ m.b + m.s ≤ 1000000000000000) :
    Calls Tryd.prog 37 #[.agg #[.string m.nm, .int .i64 m.b, .int .i64 m.s, .slice m.A m.n m.c], .pointer (some ⟨g0, 0, none⟩)] w fun e w' => e = .returned (.bool (Sy.inM m q)) ∧ Ext w w' := by
  have xW := Ext.refl w
  refine calls_of_WC (args := [.agg #[.string m.nm, .int .i64 m.b, .int .i64 m.s, .slice m.A m.n m.c], .pointer (some ⟨g0, 0, none⟩)]) Tryd.func37 rfl rfl (ble rfl) ?_
  refine WC.seq (fun K1 k1 => ?_)
  refine WC.region rfl ?_
  refine WL.box rfl (blt rfl) rfl rfl rfl rfl ?_
  intro g2 w3 e4 x5 m6
  have n_g0_g2 := ne_new m0 e4
  have o_g2 := own_new xW e4
  have m0 := m0.ext x5
  have xW := Ext.trans xW x5
  refine WL.yld rfl (blt rfl) rfl (Y.assign rfl rfl) ?_
  refine WL.nil ?_
  refine WK.then_normal (k1 _ _ ?_)
  refine WC.sub [(1, _), (2, _)] ⟨rfl, rfl, trivial⟩ ?_
  refine WC.seq (fun K7 k7 => ?_)
  refine WC.region rfl ?_
  refine WL.yld rfl (blt rfl) rfl (Y.fieldAddr rfl Tryd.underlying34 rfl ti3 (by decide) rfl) ?_
  refine WL.yld rfl (blt rfl) rfl (Y.load1 rfl Tryd.underlying3 rfl rfl (Blk.at_eq m6 rfl)) ?_
  refine WL.yld rfl (blt rfl) rfl (Y.load1 rfl Tryd.underlying3 rfl rfl (Blk.at_eq m0 rfl)) ?_
  refine WL.yld rfl (blt rfl) rfl (Y.leq rfl rfl rfl) ?_
  refine WL.yld rfl (blt rfl) rfl (Y.move rfl rfl) ?_
  refine WL.yldG rfl (blt rfl) rfl rfl rfl (fun hb => Y.load1 rfl Tryd.underlying3 rfl rfl (Blk.at_eq m0 rfl)) ?_
  refine WL.yldG rfl (blt rfl) rfl rfl rfl (fun hb => Y.fieldAddr rfl Tryd.underlying34 rfl ti3 (by decide) rfl) ?_
  refine WL.yldG rfl (blt rfl) rfl rfl rfl (fun hb => Y.load1 rfl Tryd.underlying3 rfl (evg rfl hb) (Blk.at_eq m6 rfl)) ?_
  refine WL.yldG rfl (blt rfl) rfl rfl rfl (fun hb => Y.fieldAddr rfl Tryd.underlying34 rfl ti3 (by decide) rfl) ?_
  refine WL.yldG rfl (blt rfl) rfl rfl rfl (fun hb => Y.load1 rfl Tryd.underlying3 rfl (evg rfl hb) (Blk.at_eq m6 rfl)) ?_
  refine WL.yldG rfl (blt rfl) rfl rfl rfl (fun hb => Y.add rfl (evg rfl hb) (evg rfl hb) (wrap_i64 (by have q0 := (dec_t hb); first | omega | (dsimp only; omega)))) ?_
  refine WL.yldG rfl (blt rfl) rfl rfl rfl (fun hb => Y.lss rfl (evg rfl hb) (evg rfl hb)) ?_
  refine WL.yld rfl (blt rfl) rfl (Y.and rfl rfl rfl rfl) ?_
  refine WL.yld rfl (blt rfl) rfl (Y.assign rfl rfl) ?_
  refine WL.nil ?_
  refine WK.then_normal (k7 _ _ ?_)
  refine WC.sub [(3, _)] ⟨rfl, trivial⟩ ?_
  refine WC.ret ?_
  clear k1 k7
  refine WK.ret [_] rfl ⟨rfl, trivial⟩ ?_
  exact ⟨rfl, xW⟩
theorem index_any (A_l : Option Addr) (n_l c_l : Nat) (l : List Sy.M) (g0 : Nat) (q : Int) (w : World) (h_l : Ls w A_l n_l c_l Sy.M.v 4 l) (m0 : Blk w g0 3 [.int .i64 q]) (g_l : Sy.Good w l) (hV : Sy.Vals l) :
    Calls Tryd.prog 36 #[.slice A_l n_l c_l, .func (.func 37) #[] #[.pointer (some ⟨g0, 0, none⟩)]] w fun e w' => e = .returned (.int .i64 (idxF (fun x => Sy.inM x q) l)) ∧ Ext w w' := by
  have xW := Ext.refl w
  have e_l := h_l.len
  have z_l := h_l.nle
  refine calls_of_WC (args := [.slice A_l n_l c_l, .func (.func 37) #[] #[.pointer (some ⟨g0, 0, none⟩)]]) Tryd.func36 rfl rfl (ble rfl) ?_
  refine WC.seq (fun K1 k1 => ?_)
  refine WC.region rfl ?_
  refine WL.yld rfl (blt rfl) rfl (Y.assign rfl rfl) ?_
  refine WL.nil ?_
  refine WK.then_normal (k1 _ _ ?_)
  refine WC.sub [(0, _), (1, _)] ⟨rfl, rfl, trivial⟩ ?_
  refine WC.seq (fun K2 k2 => ?_)
  refine WC.seq (fun K3 k3 => ?_)
  refine WC.region rfl ?_
  refine WL.yld rfl (blt rfl) rfl (Y.move rfl rfl) ?_
  refine WL.yld rfl (blt rfl) rfl (Y.lenSl rfl rfl rfl Tryd.underlying22 rfl) ?_
  refine WL.yld rfl (blt rfl) rfl (Y.move rfl rfl) ?_
  refine WL.nil ?_
  refine WK.then_normal (k3 _ _ ?_)
  refine WC.sub [(0, _), (1, _), (7, _), (8, _)] ⟨rfl, rfl, rfl, rfl, trivial⟩ ?_
  refine WC.block ?_
  refine WC.sub [(8, _), (0, _), (1, _), (7, _)] ⟨rfl, rfl, rfl, rfl, trivial⟩ ?_
  refine WC.loopS 1 (fun mz Ed W' => ∃ i : Nat, mz = n_l - i ∧ Ed = [(8, .int .i64 ((i : Nat) : Int))] ∧ Ext w W' ∧ Blk W' g0 3 _ ∧ (i ≤ n_l) ∧ (∀ j, j < i → Sy.inM l[j]! q = false)) _ ⟨0, rfl, rfl, xW, m0, (Nat.zero_le _), (fun j hj => absurd hj (Nat.not_lt_zero j))⟩ ?_
  rintro _ _ w4 ⟨i, rfl, rfl, xW, m0, le_i, inv_i⟩
  refine WC.sub [(8, _), (0, _), (1, _), (7, _)] ⟨rfl, rfl, rfl, rfl, trivial⟩ ?_
  refine WC.seq (fun K5 k5 => ?_)
  refine WC.region rfl ?_
  refine WL.yld rfl (blt rfl) rfl (Y.lss rfl rfl rfl) ?_
  refine WL.nil ?_
  refine WK.then_normal (k5 _ _ ?_)
  refine WC.seq (fun K6 k6 => ?_)
  refine WC.cond rfl (fun h7 => ?_) (fun h7 => ?_)
  ·
    have p7 := (dec_t h7)
    refine WC.skip ?_
    refine WK.then_normal (k6 _ _ ?_)
    refine WC.sub [(0, _), (1, _), (7, _), (8, _)] ⟨rfl, rfl, rfl, rfl, trivial⟩ ?_
    refine WC.seq (fun K8 k8 => ?_)
    refine WC.block ?_
    refine WC.seq (fun K9 k9 => ?_)
    refine WC.region rfl ?_
    refine WL.yld rfl (blt rfl) rfl (Y.move rfl rfl) ?_
    refine WL.yld rfl (blt rfl) rfl (Y.assign rfl rfl) ?_
    refine WL.nil ?_
    refine WK.then_normal (k9 _ _ ?_)
    refine WC.sub [(0, _), (1, _), (5, _), (7, _), (8, _)] ⟨rfl, rfl, rfl, rfl, rfl, trivial⟩ ?_
    refine WC.seq (fun K10 k10 => ?_)
    refine WC.region rfl ?_
    refine WL.yld rfl (blt rfl) rfl (Y.move rfl rfl) ?_
    refine WL.yld rfl (blt rfl) rfl (Y.move rfl rfl) ?_
    refine WL.yld rfl (blt rfl) rfl (Y.move rfl rfl) ?_
    have b11 : i < n_l := by omega
    refine WL.yld rfl (blt rfl) rfl (Y.indexLs i (h_l.ext xW) rfl Tryd.underlying22 ti34 rfl rfl rfl b11) ?_
    refine WL.yld rfl (blt rfl) rfl (Y.loadS (cs := [_, _, _, _]) rfl Tryd.underlying34 rfl ti34 rfl (Ls.part_eq (h_l.ext xW) b11 rfl)) ?_
    refine WL.callF rfl (blt rfl) rfl rfl rfl rfl has37 rfl (in_any _ _ _ _ m0 (hV i (by omega)).rng) ?_
    rintro _ w12 ⟨rfl, x13⟩
    refine ⟨_, rfl, ?_⟩
    have m0 := m0.ext x13
    have xW := Ext.trans xW x13
    refine WL.nil ?_
    refine WK.then_normal (k10 _ _ ?_)
    refine WC.sub [(0, _), (1, _), (5, _), (7, _), (8, _), (16, _)] ⟨rfl, rfl, rfl, rfl, rfl, rfl, trivial⟩ ?_
    refine WC.cond rfl (fun h14 => ?_) (fun h14 => ?_)
    ·
      refine WC.seq (fun K15 k15 => ?_)
      refine WC.region rfl ?_
      refine WL.yld rfl (blt rfl) rfl (Y.move rfl rfl) ?_
      refine WL.yld rfl (blt rfl) rfl (Y.assign rfl rfl) ?_
      refine WL.nil ?_
      refine WK.then_normal (k15 _ _ ?_)
      refine WC.sub [(4, _)] ⟨rfl, trivial⟩ ?_
      refine WC.ret ?_
      refine WK.in_ret ?_
      refine WK.then_ret ?_
      refine WK.then_ret ?_
      refine WK.in_ret ?_
      refine WK.then_ret ?_
      clear k1 k2 k3 k5 k6 k8 k9 k10 k15
      refine WK.ret [_] rfl ⟨rfl, trivial⟩ ?_
      exact ⟨ret1 (vi (idxF_hit (p := fun x => Sy.inM x q) (show i < l.length from by omega) h14 inv_i).symm), xW⟩
    ·
      refine WC.skip ?_
      refine WK.in_normal ?_
      refine WK.then_normal (k8 _ _ ?_)
      refine WC.sub [(0, _), (1, _), (7, _), (8, _)] ⟨rfl, rfl, rfl, rfl, trivial⟩ ?_
      refine WC.region rfl ?_
      refine WL.yld rfl (blt rfl) rfl (Y.add rfl rfl rfl (wrap_i64 (by first | omega | (dsimp only; omega)))) ?_
      refine WL.yld rfl (blt rfl) rfl (Y.move rfl rfl) ?_
      refine WL.nil ?_
      refine WK.roundS _ [(8, .int .i64 (((i + 1) : Nat) : Int))] ⟨rfl, rfl, rfl, rfl, trivial⟩ ?_ ⟨(i + 1), rfl, rfl, xW, m0, (by omega), (fun j hj => by rcases Nat.lt_succ_iff_lt_or_eq.1 hj with h | h; exact inv_i j h; subst h; exact h14)⟩
      show _ - (i + 1) < _ - i; omega
  ·
    have p7 := (dec_f h7)
    refine WC.exit ?_
    refine WK.then_exit ?_
    refine WK.then_exit ?_
    refine WK.in_exit ?_
    refine WK.then_normal (k2 _ _ ?_)
    refine WC.sub [] trivial ?_
    refine WC.seq (fun K16 k16 => ?_)
    refine WC.region rfl ?_
    refine WL.yld rfl (blt rfl) rfl (Y.assign rfl rfl) ?_
    refine WL.nil ?_
    refine WK.then_normal (k16 _ _ ?_)
    refine WC.ret ?_
    clear k1 k2 k3 k5 k6 k16
    refine WK.ret [_] rfl ⟨rfl, trivial⟩ ?_
    exact ⟨ret1 (vi (idxF_none (p := fun x => Sy.inM x q) fun j hj => inv_i j (by omega)).symm), xW⟩
theorem find_any (A_l : Option Addr) (n_l c_l : Nat) (l : List Sy.M) (q : Int) (w : World) (h_l : Ls w A_l n_l c_l Sy.M.v 4 l) (g_l : Sy.Good w l) (hF : Sy.Few l) (hV : Sy.Vals l) (r_q : -9223372036854775808 ≤ q ∧ q ≤ 9223372036854775807) :
    Calls Tryd.prog 22 #[.slice A_l n_l c_l, .int .i64 q] w fun e w' => e = .returned (.tuple #[.string (Sy.fr q (Sy.modT l q l.length)).1, .int .i64 (Sy.fr q (Sy.modT l q l.length)).2.1, .bool (Sy.fr q (Sy.modT l q l.length)).2.2]) ∧ Ext w w' := by
  have xW := Ext.refl w
  have e_l := h_l.len
  have z_l := h_l.nle
  refine calls_of_WCm (m := 3) (args := [.slice A_l n_l c_l, .int .i64 q]) Tryd.func22 rfl rfl (ble rfl) ?_
  refine WC.seq (fun K1 k1 => ?_)
  refine WC.region rfl ?_
  refine WL.box rfl (blt rfl) rfl rfl rfl rfl ?_
  intro g2 w3 e4 x5 m6
  have o_g2 := own_new xW e4
  have xW := Ext.trans xW x5
  refine WL.box rfl (blt rfl) rfl rfl rfl rfl ?_
  intro g7 w8 e9 x10 m11
  have n_g2_g7 := ne_new m6 e9
  have o_g7 := own_new xW e9
  have m6 := m6.ext x10
  have xW := Ext.trans xW x10
  refine WL.alloc rfl (blt rfl) rfl rfl ti9 rfl ?_
  intro g12 w13 e14 x15 m16
  have n_g2_g12 := ne_new m6 e14
  have n_g7_g12 := ne_new m11 e14
  have o_g12 := own_new xW e14
  have m6 := m6.ext x15
  have m11 := m11.ext x15
  have xW := Ext.trans xW x15
  refine WL.alloc rfl (blt rfl) rfl rfl ti3 rfl ?_
  intro g17 w18 e19 x20 m21
  have n_g2_g17 := ne_new m6 e19
  have n_g7_g17 := ne_new m11 e19
  have n_g12_g17 := ne_new m16 e19
  have o_g17 := own_new xW e19
  have m6 := m6.ext x20
  have m11 := m11.ext x20
  have m16 := m16.ext x20
  have xW := Ext.trans xW x20
  refine WL.alloc rfl (blt rfl) rfl rfl ti4 rfl ?_
  intro g22 w23 e24 x25 m26
  have n_g2_g22 := ne_new m6 e24
  have n_g7_g22 := ne_new m11 e24
  have n_g12_g22 := ne_new m16 e24
  have n_g17_g22 := ne_new m21 e24
  have o_g22 := own_new xW e24
  have m6 := m6.ext x25
  have m11 := m11.ext x25
  have m16 := m16.ext x25
  have m21 := m21.ext x25
  have xW := Ext.trans xW x25
  refine WL.nil ?_
  refine WK.then_normal (k1 _ _ ?_)
  refine WC.sub [(2, _), (3, _), (4, _), (5, _), (6, _)] ⟨rfl, rfl, rfl, rfl, rfl, trivial⟩ ?_
  refine WC.seq (fun K27 k27 => ?_)
  refine WC.region rfl ?_
  refine WL.yld rfl (blt rfl) rfl (Y.load1 rfl Tryd.underlying22 rfl rfl (Blk.at_eq m6 rfl)) ?_
  refine WL.yld rfl (blt rfl) rfl (Y.func rfl rfl rfl) ?_
  refine WL.call rfl (blt rfl) rfl rfl rfl has36 rfl (index_any _ _ _ _ _ _ _ (h_l.ext xW) m11 (Sy.Good.ext g_l xW) hV) ?_
  rintro _ w28 ⟨rfl, x29⟩
  refine ⟨_, rfl, ?_⟩
  have m6 := m6.ext x29
  have m11 := m11.ext x29
  have m16 := m16.ext x29
  have m21 := m21.ext x29
  have m26 := m26.ext x29
  have xW := Ext.trans xW x29
  refine WL.alloc rfl (blt rfl) rfl rfl ti3 rfl ?_
  intro g30 w31 e32 x33 m34
  have n_g2_g30 := ne_new m6 e32
  have n_g7_g30 := ne_new m11 e32
  have n_g12_g30 := ne_new m16 e32
  have n_g17_g30 := ne_new m21 e32
  have n_g22_g30 := ne_new m26 e32
  have o_g30 := own_new xW e32
  have m6 := m6.ext x33
  have m11 := m11.ext x33
  have m16 := m16.ext x33
  have m21 := m21.ext x33
  have m26 := m26.ext x33
  have xW := Ext.trans xW x33
  refine WL.store (cs' := [_]) rfl rfl rfl rfl rfl rfl ti3 m34 (ble rfl) rfl rfl (fun w35 on36 m37 => ?_)
  have m6 := m6.only n_g2_g30 on36
  have m11 := m11.only n_g7_g30 on36
  have m16 := m16.only n_g12_g30 on36
  have m21 := m21.only n_g17_g30 on36
  have m26 := m26.only n_g22_g30 on36
  have xW := Ext.only xW on36 o_g30
  refine WL.nil ?_
  refine WK.then_normal (k27 _ _ ?_)
  refine WC.sub [(2, _), (3, _), (4, _), (5, _), (6, _), (7, _)] ⟨rfl, rfl, rfl, rfl, rfl, rfl, trivial⟩ ?_
  refine WC.seq (fun K38 k38 => ?_)
  refine WC.seq (fun K39 k39 => ?_)
  refine WC.region rfl ?_
  refine WL.yld rfl (blt rfl) rfl (Y.load1 rfl Tryd.underlying3 rfl rfl (Blk.at_eq m37 rfl)) ?_
  refine WL.yld rfl (blt rfl) rfl (Y.lss rfl rfl rfl) ?_
  refine WL.nil ?_
  refine WK.then_normal (k39 _ _ ?_)
  refine WC.sub [(2, _), (3, _), (4, _), (5, _), (6, _), (7, _), (15, _)] ⟨rfl, rfl, rfl, rfl, rfl, rfl, rfl, trivial⟩ ?_
  refine WC.cond rfl (fun h40 => ?_) (fun h40 => ?_)
  ·
    have p40 := (dec_t h40)
    refine WC.seq (fun K41 k41 => ?_)
    refine WC.region rfl ?_
    refine WL.store (cs' := [_]) rfl rfl rfl rfl rfl rfl ti9 m16 (ble rfl) rfl rfl (fun w42 on43 m44 => ?_)
    have m6 := m6.only n_g2_g12 on43
    have m11 := m11.only n_g7_g12 on43
    have m21 := m21.only n_g12_g17.symm on43
    have m26 := m26.only n_g12_g22.symm on43
    have m37 := m37.only n_g12_g30.symm on43
    have xW := Ext.only xW on43 o_g12
    refine WL.store (cs' := [_]) rfl rfl rfl rfl rfl rfl ti3 m21 (ble rfl) rfl rfl (fun w45 on46 m47 => ?_)
    have m6 := m6.only n_g2_g17 on46
    have m11 := m11.only n_g7_g17 on46
    have m44 := m44.only n_g12_g17 on46
    have m26 := m26.only n_g17_g22.symm on46
    have m37 := m37.only n_g17_g30.symm on46
    have xW := Ext.only xW on46 o_g17
    refine WL.store (cs' := [_]) rfl rfl rfl rfl rfl rfl ti4 m26 (ble rfl) rfl rfl (fun w48 on49 m50 => ?_)
    have m6 := m6.only n_g2_g22 on49
    have m11 := m11.only n_g7_g22 on49
    have m44 := m44.only n_g12_g22 on49
    have m47 := m47.only n_g17_g22 on49
    have m37 := m37.only n_g22_g30.symm on49
    have xW := Ext.only xW on49 o_g22
    refine WL.nil ?_
    refine WK.then_normal (k41 _ _ ?_)
    refine WC.sub [(4, _), (5, _), (6, _)] ⟨rfl, rfl, rfl, trivial⟩ ?_
    refine WC.ret ?_
    refine WK.then_ret ?_
    clear k1 k27 k38 k39 k41
    refine WK.retM [_, _, _] rfl ⟨⟨_, rfl, run_loadVar_one Tryd.underlying9 rfl (Blk.at_eq m44 rfl _ rfl)⟩, ⟨_, rfl, run_loadVar_one Tryd.underlying3 rfl (Blk.at_eq m47 rfl _ rfl)⟩, ⟨_, rfl, run_loadVar_one Tryd.underlying4 rfl (Blk.at_eq m50 rfl _ rfl)⟩, trivial⟩ ?_
    refine ⟨?_, xW⟩
    rw [Sy.fr_none (dec_t h40)]; rfl
  ·
    have p40 := (dec_f h40)
    obtain ⟨i, hi, hin, ei⟩ := Sy.idx_at (dec_f h40)
    rw [ei] at m37
    have hq : l[i]!.b ≤ q ∧ q < l[i]!.b + l[i]!.s := by unfold Sy.inM at hin; simpa using hin
    have va := (hV i hi).rng
    have mb := hF.m _ (bang_mem hi)
    refine WC.skip ?_
    refine WK.then_normal (k38 _ _ ?_)
    refine WC.sub [(2, _), (3, _), (4, _), (5, _), (6, _), (7, _)] ⟨rfl, rfl, rfl, rfl, rfl, rfl, trivial⟩ ?_
    refine WC.seq (fun K51 k51 => ?_)
    refine WC.regionX (fun W' => Ext w W' ∧ Blk W' g2 22 _ ∧ Blk W' g7 3 _ ∧ Blk W' g12 9 _ ∧ Blk W' g17 3 _ ∧ Blk W' g22 4 _ ∧ Blk W' g30 3 _) (.load 0 (.load 1 (.load 2 (.load 3 (.load 4 (.load 5 (.load 6 (.alt 7 (.alt 8 (.fin) (.none)) (.none))))))))) ⟨xW, m6, m11, m16, m21, m26, m37⟩ (by kernel_rfl) (by kernel_rfl) (fun w52 x53 => ?_)
    have m6 := m6.ext x53
    have m11 := m11.ext x53
    have m16 := m16.ext x53
    have m21 := m21.ext x53
    have m26 := m26.ext x53
    have m37 := m37.ext x53
    have xW := Ext.trans xW x53
    refine WX.yld rfl rfl (blt rfl) rfl (Y.load1 rfl Tryd.underlying3 rfl rfl (Blk.at_c (fun _ h => h.2.2.1) rfl)) ?_
    refine WX.yld rfl rfl (blt rfl) rfl (Y.load1 rfl Tryd.underlying22 rfl rfl (Blk.at_c (fun _ h => h.2.1) rfl)) ?_
    refine WX.yld rfl rfl (blt rfl) rfl (Y.load1 rfl Tryd.underlying3 rfl rfl (Blk.at_c (fun _ h => h.2.2.2.2.2.2) rfl)) ?_
    have b54 : i < n_l := by omega
    refine WX.yld rfl rfl (blt rfl) rfl (Y.indexLs i (h_l.ext xW) rfl Tryd.underlying22 ti34 rfl rfl rfl b54) ?_
    refine WX.yld rfl rfl (blt rfl) rfl (Y.fieldE rfl Tryd.underlying34 rfl ti3 (by decide) rfl) ?_
    refine WX.yld rfl rfl (blt rfl) rfl (Y.load1 rfl Tryd.underlying3 rfl rfl (Ls.at_c (fun _ h => (h_l.ext (h.1))) b54 rfl)) ?_
    refine WX.yld rfl rfl (blt rfl) rfl (Y.sub rfl rfl rfl (wrap_i64 (by first | omega | (dsimp only; omega)))) ?_
    refine WX.run rfl rfl (blt rfl) rfl ⟨xW, m6, m11, m16, m21, m26, m37⟩ (Run.alloc rfl ti3 rfl) ?_
    rintro _ w56 ⟨g55, rfl, e57, x58, m59⟩
    have n_g2_g55 := ne_new m6 e57
    have n_g7_g55 := ne_new m11 e57
    have n_g12_g55 := ne_new m16 e57
    have n_g17_g55 := ne_new m21 e57
    have n_g22_g55 := ne_new m26 e57
    have n_g30_g55 := ne_new m37 e57
    have o_g55 := own_new xW e57
    have m6 := m6.ext x58
    have m11 := m11.ext x58
    have m16 := m16.ext x58
    have m21 := m21.ext x58
    have m26 := m26.ext x58
    have m37 := m37.ext x58
    have xW := Ext.trans xW x58
    refine WX.storeB (cs' := [_]) rfl ⟨xW, m6, m11, m16, m21, m26, m37⟩ rfl rfl rfl rfl rfl rfl ti3 m59 (ble rfl) rfl rfl (fun w60 on61 m62 => ?_)
    have m6 := m6.only n_g2_g55 on61
    have m11 := m11.only n_g7_g55 on61
    have m16 := m16.only n_g12_g55 on61
    have m21 := m21.only n_g17_g55 on61
    have m26 := m26.only n_g22_g55 on61
    have m37 := m37.only n_g30_g55 on61
    have xW := Ext.only xW on61 o_g55
    refine WX.nil ⟨xW, m6, m11, m16, m21, m26, m37⟩ ?_
    refine WK.then_normal (k51 _ _ ?_)
    refine WC.sub [(2, _), (4, _), (5, _), (6, _), (7, _), (8, _)] ⟨rfl, rfl, rfl, rfl, rfl, rfl, trivial⟩ ?_
    refine WC.seqT ?_
    refine WC.seq (fun K63 k63 => ?_)
    refine WC.region rfl ?_
    refine WL.yld rfl (blt rfl) rfl (Y.load1 rfl Tryd.underlying22 rfl rfl (Blk.at_eq m6 rfl)) ?_
    refine WL.yld rfl (blt rfl) rfl (Y.load1 rfl Tryd.underlying3 rfl rfl (Blk.at_eq m37 rfl)) ?_
    have b64 : i < n_l := by omega
    refine WL.yld rfl (blt rfl) rfl (Y.indexLs i (h_l.ext xW) rfl Tryd.underlying22 ti34 rfl rfl rfl b64) ?_
    refine WL.yld rfl (blt rfl) rfl (Y.fieldE rfl Tryd.underlying34 rfl ti32 (by decide) rfl) ?_
    refine WL.yld rfl (blt rfl) rfl (Y.load1 rfl Tryd.underlying32 rfl rfl (Ls.at_eq (h_l.ext xW) b64 rfl)) ?_
    refine WL.call rfl (blt rfl) rfl rfl rfl has38 rfl (backward_any _ _ _ _) ?_
    rintro _ w65 ⟨g67, rfl, m68, hg69, x66⟩
    refine ⟨_, rfl, ?_⟩
    have o_g67 := Nat.le_trans xW.size hg69
    have n_g2_g67 : g2 ≠ g67 := Nat.ne_of_lt (Nat.lt_of_lt_of_le m6.lt hg69)
    have n_g12_g67 : g12 ≠ g67 := Nat.ne_of_lt (Nat.lt_of_lt_of_le m16.lt hg69)
    have n_g17_g67 : g17 ≠ g67 := Nat.ne_of_lt (Nat.lt_of_lt_of_le m21.lt hg69)
    have n_g22_g67 : g22 ≠ g67 := Nat.ne_of_lt (Nat.lt_of_lt_of_le m26.lt hg69)
    have n_g30_g67 : g30 ≠ g67 := Nat.ne_of_lt (Nat.lt_of_lt_of_le m37.lt hg69)
    have n_g55_g67 : g55 ≠ g67 := Nat.ne_of_lt (Nat.lt_of_lt_of_le m62.lt hg69)
    have m6 := m6.ext x66
    have m16 := m16.ext x66
    have m21 := m21.ext x66
    have m26 := m26.ext x66
    have m37 := m37.ext x66
    have m62 := m62.ext x66
    have xW := Ext.trans xW x66
    refine WL.nil ?_
    refine WK.then_normal (k63 _ _ ?_)
    refine WC.sub [(2, _), (4, _), (5, _), (6, _), (7, _), (8, _), (28, _)] ⟨rfl, rfl, rfl, rfl, rfl, rfl, rfl, trivial⟩ ?_
    refine WC.sub [(2, .pointer (some ⟨g2, 0, none⟩)), (4, .pointer (some ⟨g12, 0, none⟩)), (5, .pointer (some ⟨g17, 0, none⟩)), (6, .pointer (some ⟨g22, 0, none⟩)), (7, .pointer (some ⟨g30, 0, none⟩)), (8, .pointer (some ⟨g55, 0, none⟩)), (28, .func (.func 44) #[] #[.pointer (some ⟨g67, 0, none⟩)])] ⟨rfl, rfl, rfl, rfl, rfl, rfl, rfl, trivial⟩ ?_
    refine WC.range2 rfl (enters_of Tryd.func44 (by kernel_rfl) rfl) (blt rfl) (blt rfl) (SyB.stops Fence.wide 2 trivial rfl (by decide) g67 _ _ _ l[i]!.l (by omega) _ m68 ((g_l _ (bang_mem hi)).ext xW))
      (fun pre W => Ext w65 W ∧ ∀ k ∈ pre, ¬ l[i]!.l[k]!.o ≤ (q - l[i]!.b))
      (fun xs W => ∃ pre x, xs = pre ++ [x] ∧ (∀ k ∈ pre, ¬ l[i]!.l[k]!.o ≤ (q - l[i]!.b)) ∧ l[i]!.l[x]!.o ≤ (q - l[i]!.b) ∧ Ext w W ∧ Blk W g12 9 [.string (l[i]!.nm ++ ⟨#[58]⟩ ++ l[i]!.l[x]!.nm)] ∧ Blk W g17 3 [.int .i64 ((q - l[i]!.b) - l[i]!.l[x]!.o)] ∧ Blk W g22 4 [.bool true])
      (fun x E' W => ∃ gb : Nat, w65.heap.size ≤ gb ∧ E' = [(10, .pointer (some ⟨gb, 0, none⟩)), (2, .pointer (some ⟨g2, 0, none⟩)), (4, .pointer (some ⟨g12, 0, none⟩)), (5, .pointer (some ⟨g17, 0, none⟩)), (6, .pointer (some ⟨g22, 0, none⟩)), (7, .pointer (some ⟨g30, 0, none⟩)), (8, .pointer (some ⟨g55, 0, none⟩)), (28, .func (.func 44) #[] #[.pointer (some ⟨g67, 0, none⟩)])] ∧ Blk W gb 36 [.int .i64 l[i]!.l[x]!.o, .string l[i]!.l[x]!.nm])
      (fun _ _ _ _ hs hg hr => ⟨own_ext (Nat.le_refl _) hs.1 hg hr, hs.2⟩)
      (fun _ _ _ _ hs hg hr => by obtain ⟨pre, x, h1, h2, h3, h4, h5, h6, h7⟩ := hs; exact ⟨pre, x, h1, h2, h3, own_ext xW.size h4 hg hr, own_blk h5 hg hr, own_blk h6 hg hr, own_blk h7 hg hr⟩)
      (fun _ _ _ _ _ _ hs hg hr => by obtain ⟨gb, h1, h2, h3⟩ := hs; exact ⟨gb, h1, h2, own_blk h3 hg hr⟩)
      ⟨Ext.refl _, by simp⟩ (fun _ _ h => h.1.size) (fun _ _ _ h x => ⟨h.1.trans x, h.2⟩) ?_ ?_ ?_ ?_
    ·
      clear k1 k27 k38 k39 k51 k63
      intro lr pre x W hi0
      obtain ⟨xI, hn⟩ := hi0
      have m6 := m6.ext xI
      have m16 := m16.ext xI
      have m21 := m21.ext xI
      have m26 := m26.ext xI
      have m37 := m37.ext xI
      have m62 := m62.ext xI
      have m68 := m68.ext xI
      have xW := Ext.trans xW xI
      have xR := Ext.refl W
      show WCi lr _ _ _ _ [(30, .agg #[.int .i64 l[i]!.l[x]!.o, .string l[i]!.l[x]!.nm]), (29, .int .i64 ((x : Nat) : Int)), (2, .pointer (some ⟨g2, 0, none⟩)), (4, .pointer (some ⟨g12, 0, none⟩)), (5, .pointer (some ⟨g17, 0, none⟩)), (6, .pointer (some ⟨g22, 0, none⟩)), (7, .pointer (some ⟨g30, 0, none⟩)), (8, .pointer (some ⟨g55, 0, none⟩)), (28, .func (.func 44) #[] #[.pointer (some ⟨g67, 0, none⟩)])] W
      refine WCi.region (fun _ _ h => h) rfl rfl ?_
      refine WL.alloc rfl (blt rfl) rfl rfl ti36 rfl ?_
      intro g70 w71 e72 x73 m74
      have n_g2_g70 := ne_new m6 e72
      have n_g12_g70 := ne_new m16 e72
      have n_g17_g70 := ne_new m21 e72
      have n_g22_g70 := ne_new m26 e72
      have n_g30_g70 := ne_new m37 e72
      have n_g55_g70 := ne_new m62 e72
      have n_g67_g70 := ne_new m68 e72
      have o_g70 := own_new xW e72
      have o2_g70 := own_new xR e72
      have m6 := m6.ext x73
      have m16 := m16.ext x73
      have m21 := m21.ext x73
      have m26 := m26.ext x73
      have m37 := m37.ext x73
      have m62 := m62.ext x73
      have m68 := m68.ext x73
      have xW := Ext.trans xW x73
      have xR := Ext.trans xR x73
      refine WL.store (cs' := [_, _]) rfl rfl rfl rfl rfl rfl ti36 m74 (ble rfl) rfl rfl (fun w75 on76 m77 => ?_)
      have xR := Ext.only xR on76 o2_g70
      have m6 := m6.only n_g2_g70 on76
      have m16 := m16.only n_g12_g70 on76
      have m21 := m21.only n_g17_g70 on76
      have m26 := m26.only n_g22_g70 on76
      have m37 := m37.only n_g30_g70 on76
      have m62 := m62.only n_g55_g70 on76
      have m68 := m68.only n_g67_g70 on76
      have xW := Ext.only xW on76 o_g70
      refine WL.nil ?_
      refine WK.then_normal ?_
      exact WK.assigned [(10, _), (2, _), (4, _), (5, _), (6, _), (7, _), (8, _), (28, _)] ⟨rfl, rfl, rfl, rfl, rfl, rfl, rfl, rfl, trivial⟩ ⟨g70, Nat.le_trans xI.size o2_g70, rfl, m77⟩ xR
    ·
      clear k1 k27 k38 k39 k51 k63
      intro lr pre x E' W hi0 hR0 hlt
      obtain ⟨xI, hn⟩ := hi0
      obtain ⟨g78, ob, rfl, m79⟩ := hR0
      have n_g2_g78 : g2 ≠ g78 := Nat.ne_of_lt (Nat.lt_of_lt_of_le m6.lt ob)
      have n_g12_g78 : g12 ≠ g78 := Nat.ne_of_lt (Nat.lt_of_lt_of_le m16.lt ob)
      have n_g17_g78 : g17 ≠ g78 := Nat.ne_of_lt (Nat.lt_of_lt_of_le m21.lt ob)
      have n_g22_g78 : g22 ≠ g78 := Nat.ne_of_lt (Nat.lt_of_lt_of_le m26.lt ob)
      have n_g30_g78 : g30 ≠ g78 := Nat.ne_of_lt (Nat.lt_of_lt_of_le m37.lt ob)
      have n_g55_g78 : g55 ≠ g78 := Nat.ne_of_lt (Nat.lt_of_lt_of_le m62.lt ob)
      have n_g67_g78 : g67 ≠ g78 := Nat.ne_of_lt (Nat.lt_of_lt_of_le m68.lt ob)
      have o_g78 := Nat.le_trans xW.size ob
      have m6 := m6.ext xI
      have m16 := m16.ext xI
      have m21 := m21.ext xI
      have m26 := m26.ext xI
      have m37 := m37.ext xI
      have m62 := m62.ext xI
      have m68 := m68.ext xI
      have xW := Ext.trans xW xI
      have xR := Ext.refl W
      have kW := KeepsOthers.refl W
      have sr := Sy.sym_rng hV hi x
      have s1 := Sy.app_size l[i]!.nm ⟨#[58]⟩
      have s2 : (ByteArray.mk #[58]).size = 1 := rfl
      refine WCi.block ?_
      refine WCi.seq (fun K80 k80 => ?_)
      refine WCi.region (fun _ _ h => h) rfl rfl ?_
      refine WL.yld rfl (blt rfl) rfl (Y.fieldAddr rfl Tryd.underlying36 rfl ti3 (by decide) rfl) ?_
      refine WL.yld rfl (blt rfl) rfl (Y.load1 rfl Tryd.underlying3 rfl rfl (Blk.at_eq m79 rfl)) ?_
      refine WL.yld rfl (blt rfl) rfl (Y.load1 rfl Tryd.underlying3 rfl rfl (Blk.at_eq m62 rfl)) ?_
      refine WL.yld rfl (blt rfl) rfl (Y.leq rfl rfl rfl) ?_
      refine WL.nil ?_
      refine WK.then_normal (k80 _ _ ?_)
      refine WCi.sub [(2, _), (4, _), (5, _), (6, _), (7, _), (8, _), (10, _), (28, _), (34, _)] ⟨rfl, rfl, rfl, rfl, rfl, rfl, rfl, rfl, rfl, trivial⟩ ?_
      refine WCi.cond rfl (fun h81 => ?_) (fun h81 => ?_)
      ·
        have p81 := (dec_t h81)
        refine WCi.seq (fun K82 k82 => ?_)
        refine WCi.regionX (fun _ _ h => h) rfl (fun W' => Ext w W' ∧ Blk W' g2 22 _ ∧ Blk W' g30 3 _ ∧ Blk W' g55 3 _ ∧ Blk W' g67 32 _ ∧ Blk W' g78 36 _) (.load 0 (.load 1 (.load 2 (.load 3 (.load 4 (.load 5 (.load 6 (.load 7 (.load 8 (.load 9 (.load 10 (.load 11 (.load 12 (.alt 13 (.alt 14 (.alt 15 (.fin) (.none)) (.none)) (.none))))))))))))))) ⟨xW, m6, m37, m62, m68, m79⟩ (by kernel_rfl) (by kernel_rfl) (fun w83 x84 => ?_)
        have m6 := m6.ext x84
        have m16 := m16.ext x84
        have m21 := m21.ext x84
        have m26 := m26.ext x84
        have m37 := m37.ext x84
        have m62 := m62.ext x84
        have m68 := m68.ext x84
        have m79 := m79.ext x84
        have xW := Ext.trans xW x84
        have xR := Ext.trans xR x84
        have kW := KeepsOthers.trans kW (Ext.others x84)
        refine WX.yld rfl rfl (blt rfl) rfl (Y.load1 rfl Tryd.underlying22 rfl rfl (Blk.at_c (fun _ h => h.2.1) rfl)) ?_
        refine WX.yld rfl rfl (blt rfl) rfl (Y.load1 rfl Tryd.underlying3 rfl rfl (Blk.at_c (fun _ h => h.2.2.1) rfl)) ?_
        have b85 : i < n_l := by omega
        refine WX.yld rfl rfl (blt rfl) rfl (Y.indexLs i (h_l.ext xW) rfl Tryd.underlying22 ti34 rfl rfl rfl b85) ?_
        refine WX.yld rfl rfl (blt rfl) rfl (Y.fieldE rfl Tryd.underlying34 rfl ti9 (by decide) rfl) ?_
        refine WX.yld rfl rfl (blt rfl) rfl (Y.load1 rfl Tryd.underlying9 rfl rfl (Ls.at_c (fun _ h => (h_l.ext (h.1))) b85 rfl)) ?_
        refine WX.yld rfl rfl (blt rfl) rfl (Y.addStr rfl rfl rfl (by omega)) ?_
        refine WX.yld rfl rfl (blt rfl) rfl (Y.fieldAddr rfl Tryd.underlying36 rfl ti9 (by decide) rfl) ?_
        refine WX.yld rfl rfl (blt rfl) rfl (Y.load1 rfl Tryd.underlying9 rfl rfl (Blk.at_c (fun _ h => h.2.2.2.2.2) rfl)) ?_
        refine WX.yld rfl rfl (blt rfl) rfl (Y.addStr rfl rfl rfl (by omega)) ?_
        refine WX.yld rfl rfl (blt rfl) rfl (Y.load1 rfl Tryd.underlying3 rfl rfl (Blk.at_c (fun _ h => h.2.2.2.1) rfl)) ?_
        refine WX.yld rfl rfl (blt rfl) rfl (Y.fieldAddr rfl Tryd.underlying36 rfl ti3 (by decide) rfl) ?_
        refine WX.yld rfl rfl (blt rfl) rfl (Y.load1 rfl Tryd.underlying3 rfl rfl (Blk.at_c (fun _ h => h.2.2.2.2.2) rfl)) ?_
        refine WX.yld rfl rfl (blt rfl) rfl (Y.sub rfl rfl rfl (wrap_i64 (by first | omega | (dsimp only; omega)))) ?_
        refine WX.storeB (cs' := [_]) rfl ⟨xW, m6, m37, m62, m68, m79⟩ rfl rfl rfl rfl rfl rfl ti9 m16 (ble rfl) rfl rfl (fun w86 on87 m88 => ?_)
        have kW := KeepsOthers.trans kW (Only.others on87 m16)
        have m6 := m6.only n_g2_g12 on87
        have m21 := m21.only n_g12_g17.symm on87
        have m26 := m26.only n_g12_g22.symm on87
        have m37 := m37.only n_g12_g30.symm on87
        have m62 := m62.only n_g12_g55.symm on87
        have m68 := m68.only n_g12_g67.symm on87
        have m79 := m79.only n_g12_g78.symm on87
        have xW := Ext.only xW on87 o_g12
        refine WX.storeB (cs' := [_]) rfl ⟨xW, m6, m37, m62, m68, m79⟩ rfl rfl rfl rfl rfl rfl ti3 m21 (ble rfl) rfl rfl (fun w89 on90 m91 => ?_)
        have kW := KeepsOthers.trans kW (Only.others on90 m21)
        have m6 := m6.only n_g2_g17 on90
        have m88 := m88.only n_g12_g17 on90
        have m26 := m26.only n_g17_g22.symm on90
        have m37 := m37.only n_g17_g30.symm on90
        have m62 := m62.only n_g17_g55.symm on90
        have m68 := m68.only n_g17_g67.symm on90
        have m79 := m79.only n_g17_g78.symm on90
        have xW := Ext.only xW on90 o_g17
        refine WX.storeB (cs' := [_]) rfl ⟨xW, m6, m37, m62, m68, m79⟩ rfl rfl rfl rfl rfl rfl ti4 m26 (ble rfl) rfl rfl (fun w92 on93 m94 => ?_)
        have kW := KeepsOthers.trans kW (Only.others on93 m26)
        have m6 := m6.only n_g2_g22 on93
        have m88 := m88.only n_g12_g22 on93
        have m91 := m91.only n_g17_g22 on93
        have m37 := m37.only n_g22_g30.symm on93
        have m62 := m62.only n_g22_g55.symm on93
        have m68 := m68.only n_g22_g67.symm on93
        have m79 := m79.only n_g22_g78.symm on93
        have xW := Ext.only xW on93 o_g22
        refine WX.nil ⟨xW, m6, m37, m62, m68, m79⟩ ?_
        refine WK.then_normal (k82 _ _ ?_)
        refine WCi.sub [(2, _), (4, _), (5, _), (6, _), (7, _), (8, _), (10, _), (28, _)] ⟨rfl, rfl, rfl, rfl, rfl, rfl, rfl, rfl, trivial⟩ ?_
        refine WCi.ret ?_
        refine WK.in_ret ?_
        exact WK.rnd_ret kW ⟨pre, x, rfl, hn, dec_t h81, xW, m88, m91, m94⟩
      ·
        have p81 := (dec_f h81)
        refine WCi.skip ?_
        refine WK.in_normal ?_
        exact WK.rnd_normal xR ⟨xI.trans xR, no_snoc hn (dec_f h81)⟩
    ·
      have xL := xW.size
      rintro D ys W hD rfl ⟨xI, hn⟩ hd
      have m6 := m6.ext xI
      have m16 := m16.ext xI
      have m21 := m21.ext xI
      have m26 := m26.ext xI
      have m37 := m37.ext xI
      have m62 := m62.ext xI
      have m68 := m68.ext xI
      have xW := Ext.trans xW xI
      have nn := SyB.last_none hn
      show ∀ a, Ok _ _ a → _
      refine wp_tail_ret rfl rfl ?_
      refine WL.store (cs' := [_]) rfl rfl rfl rfl rfl rfl ti9 m16 (ble rfl) rfl rfl (fun w95 on96 m97 => ?_)
      have m6 := m6.only n_g2_g12 on96
      have m21 := m21.only n_g12_g17.symm on96
      have m26 := m26.only n_g12_g22.symm on96
      have m37 := m37.only n_g12_g30.symm on96
      have m62 := m62.only n_g12_g55.symm on96
      have m68 := m68.only n_g12_g67.symm on96
      have hd := obj_only hd m16 on96
      have xW := Ext.only xW on96 o_g12
      refine WL.store (cs' := [_]) rfl rfl rfl rfl rfl rfl ti3 m21 (ble rfl) rfl rfl (fun w98 on99 m100 => ?_)
      have m6 := m6.only n_g2_g17 on99
      have m97 := m97.only n_g12_g17 on99
      have m26 := m26.only n_g17_g22.symm on99
      have m37 := m37.only n_g17_g30.symm on99
      have m62 := m62.only n_g17_g55.symm on99
      have m68 := m68.only n_g17_g67.symm on99
      have hd := obj_only hd m21 on99
      have xW := Ext.only xW on99 o_g17
      refine WL.store (cs' := [_]) rfl rfl rfl rfl rfl rfl ti4 m26 (ble rfl) rfl rfl (fun w101 on102 m103 => ?_)
      have m6 := m6.only n_g2_g22 on102
      have m97 := m97.only n_g12_g22 on102
      have m100 := m100.only n_g17_g22 on102
      have m37 := m37.only n_g22_g30.symm on102
      have m62 := m62.only n_g22_g55.symm on102
      have m68 := m68.only n_g22_g67.symm on102
      have hd := obj_only hd m26 on102
      have xW := Ext.only xW on102 o_g22
      refine WL.nil ?_
      intro a ha
      refine wp_ret ?_
      show LeavesInM Fence.wide _ _ _ _ _ (mrk D) _ _
      refine leave_mark (a := a) [.string ⟨#[]⟩, .int .i64 0, .bool false] hd rfl ha ?_ ?_
      exact ⟨⟨_, rfl, run_loadVar_one Tryd.underlying9 rfl (Blk.at_eq (i := 0) (Blk.put_ m97 hd) rfl _ rfl)⟩, ⟨_, rfl, run_loadVar_one Tryd.underlying3 rfl (Blk.at_eq (i := 0) (Blk.put_ m100 hd) rfl _ rfl)⟩, ⟨_, rfl, run_loadVar_one Tryd.underlying4 rfl (Blk.at_eq (i := 0) (Blk.put_ m103 hd) rfl _ rfl)⟩, trivial⟩
      exact ⟨(by rw [Sy.fr_miss hV hi hin nn]; rfl), Ext.put_ xW (Nat.le_trans xL hD)⟩
    ·
      have xL := xW.size
      rintro D xs W hD ⟨k, hk, e0⟩ ⟨pre, x, rfl, hn, hx, xW, m4, m5, m6⟩ hd a ha
      obtain ⟨hxl, ls⟩ := SyB.last_some hk e0 hn hx
      show LeavesInM Fence.wide _ _ _ _ _ (mrk D) _ _
      refine leave_mark (a := a) [.string (l[i]!.nm ++ ⟨#[58]⟩ ++ l[i]!.l[x]!.nm), .int .i64 ((q - l[i]!.b) - l[i]!.l[x]!.o), .bool true] hd rfl ha ?_ ?_
      exact ⟨⟨_, rfl, run_loadVar_one Tryd.underlying9 rfl (Blk.at_eq (i := 0) (Blk.put_ m4 hd) rfl _ rfl)⟩, ⟨_, rfl, run_loadVar_one Tryd.underlying3 rfl (Blk.at_eq (i := 0) (Blk.put_ m5 hd) rfl _ rfl)⟩, ⟨_, rfl, run_loadVar_one Tryd.underlying4 rfl (Blk.at_eq (i := 0) (Blk.put_ m6 hd) rfl _ rfl)⟩, trivial⟩
      exact ⟨(by rw [Sy.fr_hit hV hi hin ls]; rfl), Ext.put_ xW (Nat.le_trans xL hD)⟩
end F
end SyW

end Go.Proofs.YtghfncgciaiofaaDoor
