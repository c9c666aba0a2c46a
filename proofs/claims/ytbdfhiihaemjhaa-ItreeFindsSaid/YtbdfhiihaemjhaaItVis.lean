/- Contracts: checks, visits. Conditions: what each theorem states. -/
import Derived.Test.YtbdfhiihaemjhaaItOf
namespace Go.Proofs.Ytbdfhiihaemjhaa
open Go Go.Eng Go.RowKit
set_option linter.unusedVariables false
namespace ItW
open M O
namespace Vi
theorem ti3 : TI Try.prog 3 (.int .i64 0) 1 8 := TI.mk (by kernel_rfl)
theorem ti24 : TI Try.prog 24 (.slice none 0 0) 1 24 := TI.mk (by kernel_rfl)
theorem ti26 : TI Try.prog 26 (.agg #[.slice none 0 0, .slice none 0 0]) 2 48 := TI.mk (by kernel_rfl)
theorem ti32 : TI Try.prog 32 (.agg #[.int .i64 0, .int .i64 0]) 2 16 := TI.mk (by kernel_rfl)
theorem has9 : Has Try.prog 9 := ⟨_, Try.func9, rfl, by kernel_rfl⟩
theorem has10 : Has Try.prog 10 := ⟨_, Try.func10, rfl, by kernel_rfl⟩
theorem has11 : Has Try.prog 11 := ⟨_, Try.func11, rfl, by kernel_rfl⟩
theorem has14 : Has Try.prog 14 := ⟨_, Try.func14, rfl, by kernel_rfl⟩
theorem has30 : Has Try.prog 30 := ⟨_, Try.func30, rfl, by kernel_rfl⟩
theorem has34 : Has Try.prog 34 := ⟨_, Try.func34, rfl, by kernel_rfl⟩
theorem check_any (A_l : Option Addr) (n_l c_l : Nat) (l : List Sp.S) (A_p : Option Addr) (n_p c_p : Nat) (p : List Int) (A_q : Option Addr) (n_q c_q : Nat) (q : List Int) (w : World) (h_l : Ls w A_l n_l c_l Sp.S.c 2 l) (h_p : Ls w A_p n_p c_p Sp.ic 1 p) (h_q : Ls w A_q n_q c_q Sp.ic 1 q) (hn : n_l ≤ 10000) :
    Calls Try.prog 12 #[.slice A_l n_l c_l, .agg #[.slice A_p n_p c_p, .slice A_q n_q c_q]] w fun e w' => e = .returned (.bool (It.chk l p q)) ∧ Ext w w' := by
  have xW := Ext.refl w
  have e_l := h_l.len
  have z_l := h_l.nle
  have e_p := h_p.len
  have z_p := h_p.nle
  have e_q := h_q.len
  have z_q := h_q.nle
  refine calls_of_WC (args := [.slice A_l n_l c_l, .agg #[.slice A_p n_p c_p, .slice A_q n_q c_q]]) Try.func12 rfl rfl (ble rfl) ?_
  refine WC.seq (fun K1 k1 => ?_)
  refine WC.region rfl ?_
  refine WL.box rfl (blt rfl) rfl rfl rfl rfl ?_
  intro g2 w3 e4 x5 m6
  have o_g2 := own_new xW e4
  have xW := Ext.trans xW x5
  refine WL.yld rfl (blt rfl) rfl (Y.assign rfl rfl) ?_
  refine WL.nil ?_
  refine WK.then_normal (k1 _ _ ?_)
  refine WC.sub [(0, _), (3, _)] ⟨rfl, rfl, trivial⟩ ?_
  refine WC.seq (fun K7 k7 => ?_)
  refine WC.region rfl ?_
  refine WL.yld rfl (blt rfl) rfl (Y.move rfl rfl) ?_
  refine WL.call rfl (blt rfl) rfl rfl rfl has9 rfl (of_tree _ _ _ _ _ (h_l.ext xW) (by omega)) ?_
  rintro _ w8 ⟨v10, v11, rfl, ow12, ow13, d14, x9⟩
  refine ⟨_, rfl, ?_⟩
  have r_v10_g2 := ne_res ow12 m6
  have ow12 := OwnL.base_le ow12 xW.size
  have r_v11_g2 := ne_res ow13 m6
  have ow13 := OwnL.base_le ow13 xW.size
  have d_v10_v11 := d14.symm
  have m6 := m6.ext x9
  have xW := Ext.trans xW x9
  refine WL.alloc rfl (blt rfl) rfl rfl ti26 rfl ?_
  intro g15 w16 e17 x18 m19
  have n_g2_g15 := ne_new m6 e17
  have r_v10_g15 := ne_newO ow12 e17
  have r_v11_g15 := ne_newO ow13 e17
  have o_g15 := own_new xW e17
  have m6 := m6.ext x18
  have ow12 := ow12.ext x18
  have ow13 := ow13.ext x18
  have xW := Ext.trans xW x18
  obtain ⟨A20, n21, c22, rfl, hl23⟩ := OwnL.opened ow12 (fun _ => rfl) (by decide)
  have e_n21 := hl23.len
  try simp only [List.length_append, List.length_cons, List.length_nil, List.length_reverse, List.length_drop, List.length_take, List.length_map, List.length_replicate] at e_n21
  have z_n21 := hl23.nle
  obtain ⟨A24, n25, c26, rfl, hl27⟩ := OwnL.opened ow13 (fun _ => rfl) (by decide)
  have e_n25 := hl27.len
  try simp only [List.length_append, List.length_cons, List.length_nil, List.length_reverse, List.length_drop, List.length_take, List.length_map, List.length_replicate] at e_n25
  have z_n25 := hl27.nle
  refine WL.store (cs' := [_, _]) rfl rfl rfl rfl rfl rfl ti26 m19 (ble rfl) rfl rfl (fun w28 on29 m30 => ?_)
  have m6 := m6.only n_g2_g15 on29
  have ow12 := ow12.only r_v10_g15 on29
  have hl23 := OwnL.ls ow12 (fun _ => rfl) (by decide)
  have ow13 := ow13.only r_v11_g15 on29
  have hl27 := OwnL.ls ow13 (fun _ => rfl) (by decide)
  have xW := Ext.only xW on29 o_g15
  refine WL.nil ?_
  refine WK.then_normal (k7 _ _ ?_)
  refine WC.sub [(3, _), (5, _)] ⟨rfl, rfl, trivial⟩ ?_
  refine WC.seq (fun K31 k31 => ?_)
  refine WC.region rfl ?_
  refine WL.yld rfl (blt rfl) rfl (Y.fieldAddr rfl Try.underlying26 rfl ti24 (by decide) rfl) ?_
  refine WL.yld rfl (blt rfl) rfl (Y.load1 rfl Try.underlying24 rfl rfl (Blk.at_eq m30 rfl)) ?_
  refine WL.yld rfl (blt rfl) rfl (Y.fieldAddr rfl Try.underlying26 rfl ti24 (by decide) rfl) ?_
  refine WL.yld rfl (blt rfl) rfl (Y.load1 rfl Try.underlying24 rfl rfl (Blk.at_eq m6 rfl)) ?_
  refine WL.call rfl (blt rfl) rfl rfl rfl has30 rfl (equal_any _ _ _ _ _ _ _ _ _ hl23 (h_p.ext xW)) ?_
  rintro _ w32 ⟨rfl, x33⟩
  refine ⟨_, rfl, ?_⟩
  have m6 := m6.ext x33
  have ow12 := ow12.ext x33
  have hl23 := hl23.ext x33
  have ow13 := ow13.ext x33
  have hl27 := hl27.ext x33
  have m30 := m30.ext x33
  have xW := Ext.trans xW x33
  refine WL.yld rfl (blt rfl) rfl (Y.move rfl rfl) ?_
  refine WL.yldG rfl (blt rfl) rfl rfl rfl (fun hb => Y.fieldAddr rfl Try.underlying26 rfl ti24 (by decide) rfl) ?_
  refine WL.yldG rfl (blt rfl) rfl rfl rfl (fun hb => Y.load1 rfl Try.underlying24 rfl (evg rfl hb) (Blk.at_eq m30 rfl)) ?_
  refine WL.yldG rfl (blt rfl) rfl rfl rfl (fun hb => Y.fieldAddr rfl Try.underlying26 rfl ti24 (by decide) rfl) ?_
  refine WL.yldG rfl (blt rfl) rfl rfl rfl (fun hb => Y.load1 rfl Try.underlying24 rfl (evg rfl hb) (Blk.at_eq m6 rfl)) ?_
  refine WL.callG rfl (blt rfl) rfl rfl rfl rfl rfl has30 (fun hb => (evs_cons (evg rfl hb) (evs_cons (evg rfl hb) evs_nil))) (fun hb => equal_any _ _ _ _ _ _ _ _ _ hl27 (h_q.ext xW)) (fun w34 x35 => ?_)
  have m6 := m6.ext x35
  have ow12 := ow12.ext x35
  have hl23 := hl23.ext x35
  have ow13 := ow13.ext x35
  have hl27 := hl27.ext x35
  have m30 := m30.ext x35
  have xW := Ext.trans xW x35
  refine WL.yld rfl (blt rfl) rfl (Y.and rfl rfl rfl rfl) ?_
  refine WL.yld rfl (blt rfl) rfl (Y.assign rfl rfl) ?_
  refine WL.nil ?_
  refine WK.then_normal (k31 _ _ ?_)
  refine WC.sub [(4, _)] ⟨rfl, trivial⟩ ?_
  refine WC.ret ?_
  clear k1 k7 k31
  refine WK.ret [_] rfl ⟨rfl, trivial⟩ ?_
  exact ⟨rfl, xW⟩
theorem rcheck_any (A_l : Option Addr) (n_l c_l : Nat) (l : List Sp.S) (A_p : Option Addr) (n_p c_p : Nat) (p : List Int) (A_q : Option Addr) (n_q c_q : Nat) (q : List Int) (w : World) (h_l : Ls w A_l n_l c_l Sp.S.c 2 l) (h_p : Ls w A_p n_p c_p Sp.ic 1 p) (h_q : Ls w A_q n_q c_q Sp.ic 1 q) (hn : n_l ≤ 10000) (hv : ∀ x ∈ l, It.low ≤ x.t) :
    Calls Try.prog 14 #[.slice A_l n_l c_l, .agg #[.slice A_p n_p c_p, .slice A_q n_q c_q]] w fun e w' => e = .returned (.bool (It.chk l p q)) ∧ Ext w w' := by
  have xW := Ext.refl w
  have e_l := h_l.len
  have z_l := h_l.nle
  have e_p := h_p.len
  have z_p := h_p.nle
  have e_q := h_q.len
  have z_q := h_q.nle
  refine calls_of_WC (args := [.slice A_l n_l c_l, .agg #[.slice A_p n_p c_p, .slice A_q n_q c_q]]) Try.func14 rfl rfl (ble rfl) ?_
  refine WC.seq (fun K1 k1 => ?_)
  refine WC.region rfl ?_
  refine WL.box rfl (blt rfl) rfl rfl rfl rfl ?_
  intro g2 w3 e4 x5 m6
  have o_g2 := own_new xW e4
  have xW := Ext.trans xW x5
  refine WL.yld rfl (blt rfl) rfl (Y.assign rfl rfl) ?_
  refine WL.nil ?_
  refine WK.then_normal (k1 _ _ ?_)
  refine WC.sub [(0, _), (3, _)] ⟨rfl, rfl, trivial⟩ ?_
  refine WC.seq (fun K7 k7 => ?_)
  refine WC.region rfl ?_
  refine WL.yld rfl (blt rfl) rfl (Y.move rfl rfl) ?_
  refine WL.call rfl (blt rfl) rfl rfl rfl has10 rfl (rof_tree _ _ _ _ _ (h_l.ext xW) (by omega)) ?_
  rintro _ w8 ⟨v10, v11, rfl, ow12, ow13, d14, x9⟩
  refine ⟨_, rfl, ?_⟩
  have r_v10_g2 := ne_res ow12 m6
  have ow12 := OwnL.base_le ow12 xW.size
  have r_v11_g2 := ne_res ow13 m6
  have ow13 := OwnL.base_le ow13 xW.size
  have d_v10_v11 := d14.symm
  have m6 := m6.ext x9
  have xW := Ext.trans xW x9
  refine WL.alloc rfl (blt rfl) rfl rfl ti26 rfl ?_
  intro g15 w16 e17 x18 m19
  have n_g2_g15 := ne_new m6 e17
  have r_v10_g15 := ne_newO ow12 e17
  have r_v11_g15 := ne_newO ow13 e17
  have o_g15 := own_new xW e17
  have m6 := m6.ext x18
  have ow12 := ow12.ext x18
  have ow13 := ow13.ext x18
  have xW := Ext.trans xW x18
  obtain ⟨A20, n21, c22, rfl, hl23⟩ := OwnL.opened ow12 (fun _ => rfl) (by decide)
  have e_n21 := hl23.len
  try simp only [List.length_append, List.length_cons, List.length_nil, List.length_reverse, List.length_drop, List.length_take, List.length_map, List.length_replicate] at e_n21
  have z_n21 := hl23.nle
  obtain ⟨A24, n25, c26, rfl, hl27⟩ := OwnL.opened ow13 (fun _ => rfl) (by decide)
  have e_n25 := hl27.len
  try simp only [List.length_append, List.length_cons, List.length_nil, List.length_reverse, List.length_drop, List.length_take, List.length_map, List.length_replicate] at e_n25
  have z_n25 := hl27.nle
  refine WL.store (cs' := [_, _]) rfl rfl rfl rfl rfl rfl ti26 m19 (ble rfl) rfl rfl (fun w28 on29 m30 => ?_)
  have m6 := m6.only n_g2_g15 on29
  have ow12 := ow12.only r_v10_g15 on29
  have hl23 := OwnL.ls ow12 (fun _ => rfl) (by decide)
  have ow13 := ow13.only r_v11_g15 on29
  have hl27 := OwnL.ls ow13 (fun _ => rfl) (by decide)
  have xW := Ext.only xW on29 o_g15
  refine WL.nil ?_
  refine WK.then_normal (k7 _ _ ?_)
  refine WC.sub [(3, _), (5, _)] ⟨rfl, rfl, trivial⟩ ?_
  refine WC.seq (fun K31 k31 => ?_)
  refine WC.region rfl ?_
  refine WL.yld rfl (blt rfl) rfl (Y.fieldAddr rfl Try.underlying26 rfl ti24 (by decide) rfl) ?_
  refine WL.yld rfl (blt rfl) rfl (Y.load1 rfl Try.underlying24 rfl rfl (Blk.at_eq m6 rfl)) ?_
  refine WL.yld rfl (blt rfl) rfl (Y.fieldAddr rfl Try.underlying26 rfl ti24 (by decide) rfl) ?_
  refine WL.yld rfl (blt rfl) rfl (Y.load1 rfl Try.underlying24 rfl rfl (Blk.at_eq m30 rfl)) ?_
  refine WL.call rfl (blt rfl) rfl rfl rfl has11 rfl (same_any _ _ _ _ _ _ _ _ _ (h_p.ext xW) hl23) ?_
  rintro _ w32 ⟨rfl, x33⟩
  refine ⟨_, rfl, ?_⟩
  have m6 := m6.ext x33
  have ow12 := ow12.ext x33
  have hl23 := hl23.ext x33
  have ow13 := ow13.ext x33
  have hl27 := hl27.ext x33
  have m30 := m30.ext x33
  have xW := Ext.trans xW x33
  refine WL.yld rfl (blt rfl) rfl (Y.move rfl rfl) ?_
  refine WL.yldG rfl (blt rfl) rfl rfl rfl (fun hb => Y.fieldAddr rfl Try.underlying26 rfl ti24 (by decide) rfl) ?_
  refine WL.yldG rfl (blt rfl) rfl rfl rfl (fun hb => Y.load1 rfl Try.underlying24 rfl (evg rfl hb) (Blk.at_eq m6 rfl)) ?_
  refine WL.yldG rfl (blt rfl) rfl rfl rfl (fun hb => Y.fieldAddr rfl Try.underlying26 rfl ti24 (by decide) rfl) ?_
  refine WL.yldG rfl (blt rfl) rfl rfl rfl (fun hb => Y.load1 rfl Try.underlying24 rfl (evg rfl hb) (Blk.at_eq m30 rfl)) ?_
  refine WL.callG rfl (blt rfl) rfl rfl rfl rfl rfl has11 (fun hb => (evs_cons (evg rfl hb) (evs_cons (evg rfl hb) evs_nil))) (fun hb => same_any _ _ _ _ _ _ _ _ _ (h_q.ext xW) hl27) (fun w34 x35 => ?_)
  have m6 := m6.ext x35
  have ow12 := ow12.ext x35
  have hl23 := hl23.ext x35
  have ow13 := ow13.ext x35
  have hl27 := hl27.ext x35
  have m30 := m30.ext x35
  have xW := Ext.trans xW x35
  refine WL.yld rfl (blt rfl) rfl (Y.and rfl rfl rfl rfl) ?_
  refine WL.yld rfl (blt rfl) rfl (Y.assign rfl rfl) ?_
  refine WL.nil ?_
  refine WK.then_normal (k31 _ _ ?_)
  refine WC.sub [(4, _)] ⟨rfl, trivial⟩ ?_
  refine WC.ret ?_
  clear k1 k7 k31
  refine WK.ret [_] rfl ⟨rfl, trivial⟩ ?_
  refine ⟨ret1 (vb ?_), xW⟩
  rw [It.mostR_eq hv]; exact It.chkR l p q
theorem rvisits_any (A_l : Option Addr) (n_l c_l : Nat) (l : List Sp.S) (A_p : Option Addr) (n_p c_p : Nat) (o : List Nat) (A_q : Option Addr) (n_q c_q : Nat) (q : List Int) (s : Sp.S) (N : Nat) (ho : ∀ j, j < N → o[j]! < n_l) (hN : o.length = N) (hQ : q.length = N) (hN2 : N ≤ 100000) : ∀ (D lo hi : Nat) (w : World), hi - lo = D → lo ≤ hi → hi ≤ N → Ls w A_l n_l c_l Sp.S.c 2 l → Ls w A_p n_p c_p Sp.ic 1 (o.map fun x : Nat => (x : Int)) → Ls w A_q n_q c_q Sp.ic 1 q →
    Calls Try.prog 34 #[.slice A_l n_l c_l, .agg #[.slice A_p n_p c_p, .slice A_q n_q c_q], .agg #[.int .i64 s.f, .int .i64 s.t], .int .i64 ((lo : Nat) : Int), .int .i64 ((hi : Nat) : Int)] w fun e w' => e = .returned (.int .i64 (It.vis l o q s (hi - lo) lo hi)) ∧ Ext w w' := by
  intro D
  induction D using Nat.strongRecOn
  rename_i D ih
  intro lo hi w hD hlh hhN h_l h_p h_q
  have xW := Ext.refl w
  have e_l := h_l.len
  have z_l := h_l.nle
  have e_p := h_p.len
  have e_q := h_q.len
  rw [List.length_map] at e_p
  refine calls_of_WC (args := [.slice A_l n_l c_l, .agg #[.slice A_p n_p c_p, .slice A_q n_q c_q], .agg #[.int .i64 s.f, .int .i64 s.t], .int .i64 ((lo : Nat) : Int), .int .i64 ((hi : Nat) : Int)]) Try.func34 rfl rfl (ble rfl) ?_
  refine WC.seq (fun K1 k1 => ?_)
  refine WC.region rfl ?_
  refine WL.box rfl (blt rfl) rfl rfl rfl rfl ?_
  intro g2 w3 e4 x5 m6
  have o_g2 := own_new xW e4
  have xW := Ext.trans xW x5
  refine WL.box rfl (blt rfl) rfl rfl rfl rfl ?_
  intro g7 w8 e9 x10 m11
  have n_g2_g7 := ne_new m6 e9
  have o_g7 := own_new xW e9
  have m6 := m6.ext x10
  have xW := Ext.trans xW x10
  refine WL.yld rfl (blt rfl) rfl (Y.assign rfl rfl) ?_
  refine WL.nil ?_
  refine WK.then_normal (k1 _ _ ?_)
  refine WC.sub [(0, _), (3, _), (4, _), (6, _), (7, _)] ⟨rfl, rfl, rfl, rfl, rfl, trivial⟩ ?_
  refine WC.seq (fun K12 k12 => ?_)
  refine WC.region rfl ?_
  refine WL.yld rfl (blt rfl) rfl (Y.move rfl rfl) ?_
  refine WL.yld rfl (blt rfl) rfl (Y.move rfl rfl) ?_
  refine WL.yld rfl (blt rfl) rfl (Y.add rfl rfl rfl (wrap_i64 (by first | omega | (dsimp only; omega)))) ?_
  refine WL.yld rfl (blt rfl) rfl (Yld.cast (Y.quo rfl rfl rfl (by omega) (wrap_quo (by omega) (by omega) (by omega))) (vi (b := ((((lo + hi) / 2) : Nat) : Int)) (by omega))) ?_
  refine WL.yld rfl (blt rfl) rfl (Y.assign rfl rfl) ?_
  refine WL.nil ?_
  refine WK.then_normal (k12 _ _ ?_)
  refine WC.sub [(0, _), (3, _), (4, _), (6, _), (7, _), (11, _)] ⟨rfl, rfl, rfl, rfl, rfl, rfl, trivial⟩ ?_
  refine WC.seq (fun K13 k13 => ?_)
  refine WC.seq (fun K14 k14 => ?_)
  refine WC.regionDq (by kernel_rfl) (by kernel_rfl) rfl ?_
  refine WQ.yld rfl (blt rfl) rfl (Y.move rfl rfl) ?_
  refine WQ.yld rfl (blt rfl) rfl (Y.move rfl rfl) ?_
  refine WQ.yld rfl (blt rfl) rfl (Y.geq rfl rfl rfl) ?_
  refine WQ.yld rfl (blt rfl) rfl (Y.move rfl rfl) ?_
  refine WQ.yldG rfl (blt rfl) rfl rfl rfl (fun hb => Y.fieldAddr rfl Try.underlying26 rfl ti24 (by decide) rfl) ?_
  refine WQ.yldG rfl (blt rfl) rfl rfl rfl (fun hb => Y.load1 rfl Try.underlying24 rfl (evg rfl hb) (Blk.at_ext m6 rfl)) ?_
  refine WQ.yldG rfl (blt rfl) rfl rfl rfl (fun hb => Y.move rfl rfl) ?_
  refine WQ.yldG rfl (blt rfl) rfl rfl rfl (fun hb => Y.indexLs ((lo + hi) / 2) (h_q.ext xW) rfl Try.underlying24 ti3 (evg rfl hb) (evg rfl hb) rfl (by have q0 := (dec_f hb); omega)) ?_
  refine WQ.yldG rfl (blt rfl) rfl rfl rfl (fun hb => Y.load1 rfl Try.underlying3 rfl (evg rfl hb) (Ls.at_ext (h_q.ext xW) (by have q0 := (dec_f hb); omega) rfl)) ?_
  refine WQ.yldG rfl (blt rfl) rfl rfl rfl (fun hb => Y.fieldAddr rfl Try.underlying32 rfl ti3 (by decide) rfl) ?_
  refine WQ.yldG rfl (blt rfl) rfl rfl rfl (fun hb => Y.load1 rfl Try.underlying3 rfl (evg rfl hb) (Blk.at_ext m11 rfl)) ?_
  refine WQ.yldG rfl (blt rfl) rfl rfl rfl (fun hb => Y.leq rfl (evg rfl hb) (evg rfl hb)) ?_
  refine WQ.yld rfl (blt rfl) rfl (Y.or rfl rfl rfl rfl) ?_
  refine WQ.done (fun w15 x16 => ?_)
  have m6 := m6.ext x16
  have m11 := m11.ext x16
  have xW := Ext.trans xW x16
  refine WK.then_normal (k14 _ _ ?_)
  refine WC.sub [(0, _), (3, _), (4, _), (6, _), (7, _), (11, _), (29, _)] ⟨rfl, rfl, rfl, rfl, rfl, rfl, rfl, trivial⟩ ?_
  refine WC.cond rfl (fun h17 => ?_) (fun h17 => ?_)
  ·
    have p17 := ((or_t h17).imp (fun h => (dec_t h)) (fun h => (dec_t h)))
    refine WC.seq (fun K18 k18 => ?_)
    refine WC.region rfl ?_
    refine WL.yld rfl (blt rfl) rfl (Y.assign rfl rfl) ?_
    refine WL.nil ?_
    refine WK.then_normal (k18 _ _ ?_)
    refine WC.sub [(10, _)] ⟨rfl, trivial⟩ ?_
    refine WC.ret ?_
    refine WK.then_ret ?_
    clear k1 k12 k13 k14 k18
    refine WK.ret [_] rfl ⟨rfl, trivial⟩ ?_
    exact ⟨ret1 (vi (It.vis_cut (It.cut_t h17)).symm), xW⟩
  ·
    have p17 := (And.intro (dec_f (or_f h17).1) (dec_f (or_f h17).2))
    have hom := ho ((lo + hi) / 2) (by have q := It.cut_f h17; omega)
    have r1 := It.vis_rng l o q s (((lo + hi) / 2) - lo) lo ((lo + hi) / 2) (Nat.le_refl _)
    have r2 := It.vis_rng l o q s (hi - (((lo + hi) / 2) + 1)) (((lo + hi) / 2) + 1) hi (Nat.le_refl _)
    have hlt : lo < hi := by have q := It.cut_f h17; omega
    refine WC.skip ?_
    refine WK.then_normal (k13 _ _ ?_)
    refine WC.sub [(0, _), (3, _), (4, _), (6, _), (7, _), (11, _)] ⟨rfl, rfl, rfl, rfl, rfl, rfl, trivial⟩ ?_
    refine WC.seq (fun K19 k19 => ?_)
    refine WC.region rfl ?_
    refine WL.yld rfl (blt rfl) rfl (Y.move rfl rfl) ?_
    refine WL.yld rfl (blt rfl) rfl (Y.loadS rfl Try.underlying26 rfl ti26 rfl (Blk.row_eq m6)) ?_
    refine WL.yld rfl (blt rfl) rfl (Y.loadS rfl Try.underlying32 rfl ti32 rfl (Blk.row_eq m11)) ?_
    refine WL.yld rfl (blt rfl) rfl (Y.move rfl rfl) ?_
    refine WL.yld rfl (blt rfl) rfl (Y.move rfl rfl) ?_
    refine WL.call rfl (blt rfl) rfl rfl rfl has34 rfl (ih _ (by omega) lo ((lo + hi) / 2) _ rfl (by omega) (by omega) (h_l.ext xW) (h_p.ext xW) (h_q.ext xW)) ?_
    rintro _ w20 ⟨rfl, x21⟩
    refine ⟨_, rfl, ?_⟩
    have m6 := m6.ext x21
    have m11 := m11.ext x21
    have xW := Ext.trans xW x21
    refine WL.yld rfl (blt rfl) rfl (Y.add rfl rfl rfl (wrap_i64 (by first | omega | (dsimp only; omega)))) ?_
    refine WL.yld rfl (blt rfl) rfl (Y.assign rfl rfl) ?_
    refine WL.nil ?_
    refine WK.then_normal (k19 _ _ ?_)
    refine WC.sub [(0, _), (4, _), (6, _), (7, _), (11, _), (12, _)] ⟨rfl, rfl, rfl, rfl, rfl, rfl, trivial⟩ ?_
    refine WC.seq (fun K22 k22 => ?_)
    refine WC.seq (fun K23 k23 => ?_)
    refine WC.regionDq (by kernel_rfl) (by kernel_rfl) rfl ?_
    refine WQ.yld rfl (blt rfl) rfl (Y.move rfl rfl) ?_
    refine WQ.yld rfl (blt rfl) rfl (Y.fieldAddr rfl Try.underlying26 rfl ti24 (by decide) rfl) ?_
    refine WQ.yld rfl (blt rfl) rfl (Y.load1 rfl Try.underlying24 rfl rfl (Blk.at_ext m6 rfl)) ?_
    refine WQ.yld rfl (blt rfl) rfl (Y.move rfl rfl) ?_
    have b24 : ((lo + hi) / 2) < n_p := by omega
    refine WQ.yld rfl (blt rfl) rfl (Y.indexLs ((lo + hi) / 2) (h_p.ext xW) rfl Try.underlying24 ti3 rfl rfl rfl b24) ?_
    refine WQ.yld rfl (blt rfl) rfl (Yld.cast (Y.load1 rfl Try.underlying3 rfl rfl (Ls.at_ext (h_p.ext xW) b24 rfl)) (vi (It.map_bang (by omega)))) ?_
    have b25 : o[((lo + hi) / 2)]! < n_l := by omega
    refine WQ.yld rfl (blt rfl) rfl (Y.indexLs o[((lo + hi) / 2)]! (h_l.ext xW) rfl Try.underlying22 ti32 rfl rfl rfl b25) ?_
    refine WQ.yld rfl (blt rfl) rfl (Y.fieldE rfl Try.underlying32 rfl ti3 (by decide) rfl) ?_
    refine WQ.yld rfl (blt rfl) rfl (Y.load1 rfl Try.underlying3 rfl rfl (Ls.at_ext (h_l.ext xW) b25 rfl)) ?_
    refine WQ.yld rfl (blt rfl) rfl (Y.fieldAddr rfl Try.underlying32 rfl ti3 (by decide) rfl) ?_
    refine WQ.yld rfl (blt rfl) rfl (Y.load1 rfl Try.underlying3 rfl rfl (Blk.at_ext m11 rfl)) ?_
    refine WQ.yld rfl (blt rfl) rfl (Y.lss rfl rfl rfl) ?_
    refine WQ.done (fun w26 x27 => ?_)
    have m6 := m6.ext x27
    have m11 := m11.ext x27
    have xW := Ext.trans xW x27
    refine WK.then_normal (k23 _ _ ?_)
    refine WC.sub [(0, _), (4, _), (6, _), (7, _), (11, _), (12, _), (48, _)] ⟨rfl, rfl, rfl, rfl, rfl, rfl, rfl, trivial⟩ ?_
    refine WC.cond rfl (fun h28 => ?_) (fun h28 => ?_)
    ·
      have p28 := (dec_t h28)
      refine WC.region rfl ?_
      refine WL.yld rfl (blt rfl) rfl (Y.move rfl rfl) ?_
      refine WL.yld rfl (blt rfl) rfl (Y.move rfl rfl) ?_
      refine WL.yld rfl (blt rfl) rfl (Y.loadS rfl Try.underlying26 rfl ti26 rfl (Blk.row_eq m6)) ?_
      refine WL.yld rfl (blt rfl) rfl (Y.loadS rfl Try.underlying32 rfl ti32 rfl (Blk.row_eq m11)) ?_
      refine WL.yld rfl (blt rfl) rfl (Y.move rfl rfl) ?_
      refine WL.yld rfl (blt rfl) rfl (Y.add rfl rfl rfl (wrap_i64 (by first | omega | (dsimp only; omega)))) ?_
      refine WL.yld rfl (blt rfl) rfl (Y.move rfl rfl) ?_
      refine WL.call rfl (blt rfl) rfl rfl rfl has34 rfl (ih _ (by omega) (((lo + hi) / 2) + 1) hi _ rfl (by omega) (by omega) (h_l.ext xW) (h_p.ext xW) (h_q.ext xW)) ?_
      rintro _ w29 ⟨rfl, x30⟩
      refine ⟨_, rfl, ?_⟩
      have m6 := m6.ext x30
      have m11 := m11.ext x30
      have xW := Ext.trans xW x30
      refine WL.yld rfl (blt rfl) rfl (Y.add rfl rfl rfl (wrap_i64 (by first | omega | (dsimp only; omega)))) ?_
      refine WL.yld rfl (blt rfl) rfl (Y.assign rfl rfl) ?_
      refine WL.nil ?_
      refine WK.then_normal (k22 _ _ ?_)
      refine WC.sub [(12, _)] ⟨rfl, trivial⟩ ?_
      refine WC.seq (fun K31 k31 => ?_)
      refine WC.region rfl ?_
      refine WL.yld rfl (blt rfl) rfl (Y.move rfl rfl) ?_
      refine WL.yld rfl (blt rfl) rfl (Y.assign rfl rfl) ?_
      refine WL.nil ?_
      refine WK.then_normal (k31 _ _ ?_)
      refine WC.sub [(10, _)] ⟨rfl, trivial⟩ ?_
      refine WC.ret ?_
      clear k1 k12 k13 k14 k19 k22 k23 k31
      refine WK.ret [_] rfl ⟨rfl, trivial⟩ ?_
      refine ⟨ret1 (vi ?_), xW⟩
      rw [It.vis_step (It.cut_f h17)]
      rw [if_neg (by have q := dec_t h28; omega)]
    ·
      have p28 := (dec_f h28)
      refine WC.skip ?_
      refine WK.then_normal (k22 _ _ ?_)
      refine WC.sub [(12, _)] ⟨rfl, trivial⟩ ?_
      refine WC.seq (fun K32 k32 => ?_)
      refine WC.region rfl ?_
      refine WL.yld rfl (blt rfl) rfl (Y.move rfl rfl) ?_
      refine WL.yld rfl (blt rfl) rfl (Y.assign rfl rfl) ?_
      refine WL.nil ?_
      refine WK.then_normal (k32 _ _ ?_)
      refine WC.sub [(10, _)] ⟨rfl, trivial⟩ ?_
      refine WC.ret ?_
      clear k1 k12 k13 k14 k19 k22 k23 k32
      refine WK.ret [_] rfl ⟨rfl, trivial⟩ ?_
      refine ⟨ret1 (vi ?_), xW⟩
      rw [It.vis_step (It.cut_f h17)]
      rw [if_pos (by have q := dec_f h28; omega)]; omega
theorem rvisitsC_any (A_l : Option Addr) (n_l c_l : Nat) (l : List Sp.S) (A_p : Option Addr) (n_p c_p : Nat) (p : List Int) (A_q : Option Addr) (n_q c_q : Nat) (q : List Int) (s : Sp.S) (w : World) (h_l : Ls w A_l n_l c_l Sp.S.c 2 l) (h_p : Ls w A_p n_p c_p Sp.ic 1 p) (h_q : Ls w A_q n_q c_q Sp.ic 1 q) (hn : n_l ≤ 10000) (hv : ∀ x ∈ l, It.low ≤ x.t) :
    Calls Try.prog 20 #[.slice A_l n_l c_l, .agg #[.slice A_p n_p c_p, .slice A_q n_q c_q], .agg #[.int .i64 s.f, .int .i64 s.t]] w fun e w' => e = .returned (.int .i64 (It.visC l p q s)) ∧ Ext w w' := by
  have xW := Ext.refl w
  have e_l := h_l.len
  have z_l := h_l.nle
  have e_p := h_p.len
  have z_p := h_p.nle
  have e_q := h_q.len
  have z_q := h_q.nle
  refine calls_of_WC (args := [.slice A_l n_l c_l, .agg #[.slice A_p n_p c_p, .slice A_q n_q c_q], .agg #[.int .i64 s.f, .int .i64 s.t]]) Try.func20 rfl rfl (ble rfl) ?_
  refine WC.seq (fun K1 k1 => ?_)
  refine WC.region rfl ?_
  refine WL.box rfl (blt rfl) rfl rfl rfl rfl ?_
  intro g2 w3 e4 x5 m6
  have o_g2 := own_new xW e4
  have xW := Ext.trans xW x5
  refine WL.box rfl (blt rfl) rfl rfl rfl rfl ?_
  intro g7 w8 e9 x10 m11
  have n_g2_g7 := ne_new m6 e9
  have o_g7 := own_new xW e9
  have m6 := m6.ext x10
  have xW := Ext.trans xW x10
  refine WL.yld rfl (blt rfl) rfl (Y.assign rfl rfl) ?_
  refine WL.nil ?_
  refine WK.then_normal (k1 _ _ ?_)
  refine WC.sub [(0, _), (4, _), (5, _)] ⟨rfl, rfl, rfl, trivial⟩ ?_
  refine WC.seq (fun K12 k12 => ?_)
  refine WC.seq (fun K13 k13 => ?_)
  refine WC.region rfl ?_
  refine WL.yld rfl (blt rfl) rfl (Y.move rfl rfl) ?_
  refine WL.yld rfl (blt rfl) rfl (Y.loadS rfl Try.underlying26 rfl ti26 rfl (Blk.row_eq m6)) ?_
  refine WL.call rfl (blt rfl) rfl rfl rfl has14 rfl (rcheck_any _ _ _ _ _ _ _ _ _ _ _ _ _ (h_l.ext xW) (h_p.ext xW) (h_q.ext xW) (by omega) hv) ?_
  rintro _ w14 ⟨rfl, x15⟩
  refine ⟨_, rfl, ?_⟩
  have m6 := m6.ext x15
  have m11 := m11.ext x15
  have xW := Ext.trans xW x15
  refine WL.yld rfl (blt rfl) rfl (Y.not rfl rfl) ?_
  refine WL.nil ?_
  refine WK.then_normal (k13 _ _ ?_)
  refine WC.sub [(0, _), (4, _), (5, _), (10, _)] ⟨rfl, rfl, rfl, rfl, trivial⟩ ?_
  refine WC.cond rfl (fun h16 => ?_) (fun h16 => ?_)
  ·
    refine WC.seq (fun K17 k17 => ?_)
    refine WC.region rfl ?_
    refine WL.yld rfl (blt rfl) rfl (Y.assign rfl rfl) ?_
    refine WL.nil ?_
    refine WK.then_normal (k17 _ _ ?_)
    refine WC.sub [(6, _)] ⟨rfl, trivial⟩ ?_
    refine WC.ret ?_
    refine WK.then_ret ?_
    clear k1 k12 k13 k17
    refine WK.ret [_] rfl ⟨rfl, trivial⟩ ?_
    refine ⟨ret1 (vi ?_), xW⟩
    unfold It.visC; rw [if_neg (by rw [not_t h16]; exact Bool.false_ne_true)]
  ·
    have hck := not_f h16
    obtain ⟨ep, eq⟩ := It.chk_yes hck
    subst ep; subst eq
    have ml := It.most_len l
    have ol := It.ord_len l l.length
    refine WC.skip ?_
    refine WK.then_normal (k12 _ _ ?_)
    refine WC.sub [(0, _), (4, _), (5, _)] ⟨rfl, rfl, rfl, trivial⟩ ?_
    refine WC.seq (fun K18 k18 => ?_)
    refine WC.region rfl ?_
    refine WL.yld rfl (blt rfl) rfl (Y.move rfl rfl) ?_
    refine WL.yld rfl (blt rfl) rfl (Y.loadS rfl Try.underlying26 rfl ti26 rfl (Blk.row_eq m6)) ?_
    refine WL.yld rfl (blt rfl) rfl (Y.loadS rfl Try.underlying32 rfl ti32 rfl (Blk.row_eq m11)) ?_
    refine WL.yld rfl (blt rfl) rfl (Y.move rfl rfl) ?_
    refine WL.yld rfl (blt rfl) rfl (Y.lenSl rfl rfl rfl Try.underlying22 rfl) ?_
    refine WL.call rfl (blt rfl) rfl rfl rfl has34 rfl (rvisits_any _ _ _ _ _ _ _ (It.ordN l l.length) _ _ _ _ _ l.length (fun j hj => by have q := It.ordN_lt l hj; omega) (It.ordN_len l _) (It.most_len l) (by omega) _ 0 n_l _ rfl (by omega) (by omega) (h_l.ext xW) (h_p.ext xW) (h_q.ext xW)) ?_
    rintro _ w19 ⟨rfl, x20⟩
    refine ⟨_, rfl, ?_⟩
    have m6 := m6.ext x20
    have m11 := m11.ext x20
    have xW := Ext.trans xW x20
    refine WL.yld rfl (blt rfl) rfl (Y.assign rfl rfl) ?_
    refine WL.nil ?_
    refine WK.then_normal (k18 _ _ ?_)
    refine WC.sub [(6, _)] ⟨rfl, trivial⟩ ?_
    refine WC.ret ?_
    clear k1 k12 k13 k18
    refine WK.ret [_] rfl ⟨rfl, trivial⟩ ?_
    refine ⟨ret1 (vi ?_), xW⟩
    unfold It.visC; rw [if_pos (not_f h16)]; unfold It.visits; rw [e_l]; rfl
end Vi
end ItW

end Go.Proofs.Ytbdfhiihaemjhaa
