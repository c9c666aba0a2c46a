/- Contracts of the reference: edges. Conditions: what each theorem states.
   Contracts of the reference: improved. Conditions: what each theorem states.
   Contracts of the reference: lengths, contradicts. Conditions: what each theorem states. -/
import Derived.Test.YtaglpampidlbmaaBdRPt
namespace Go.Proofs.Ytaglpampidlbmaa
open Go Go.Eng Go.RowKit
set_option linter.unusedVariables false
set_option linter.unusedSimpArgs false
namespace BdW
open N RL NumF LB GR CkW CkW.P CkW.K CkW.R CkW.RP B OF MY RP_
namespace RE
theorem ti3 : TI Try.prog 3 (.int .i64 0) 1 8 := TI.mk (by kernel_rfl)
theorem ti29 : TI Try.prog 29 (.agg #[.int .i64 0, .int .i64 0]) 2 16 := TI.mk (by kernel_rfl)
theorem ti42 : TI Try.prog 42 (.agg #[.int .i64 0, .int .i64 0, .int .i64 0, .int .i64 0, .int .i64 0]) 5 40 := TI.mk (by kernel_rfl)
theorem ti49 : TI Try.prog 49 (.agg #[.int .i64 0, .int .i64 0]) 2 16 := TI.mk (by kernel_rfl)
theorem ti75 : TI Try.prog 75 (.agg #[.int .i64 0, .int .i64 0, .int .i64 0]) 3 24 := TI.mk (by kernel_rfl)
theorem has30 : Has Try.prog 30 := ⟨_, Try.func30, rfl, by kernel_rfl⟩
theorem has35 : Has Try.prog 35 := ⟨_, Try.func35, rfl, by kernel_rfl⟩
theorem has55 : Has Try.prog 55 := ⟨_, Try.func55, rfl, by kernel_rfl⟩
theorem pl49 : PL Try.prog 49 [.int .i64 0, .int .i64 0] [(0, 1), (1, 1)] := PL.mk (zero := [.int .i64 0, .int .i64 0]) ti49 Try.underlying49 (by kernel_rfl)
theorem pl75 : PL Try.prog 75 [.int .i64 0, .int .i64 0, .int .i64 0] [(0, 1), (1, 1), (2, 1)] := PL.mk (zero := [.int .i64 0, .int .i64 0, .int .i64 0]) ti75 Try.underlying75 (by kernel_rfl)
theorem redges_any (A_d : Option Addr) (n_d c_d : Nat) (d : List Ck.Dom) (A_l : Option Addr) (n_l c_l : Nat) (l : List Ck.Snap) (A_p : Option Addr) (n_p c_p : Nat) (p : List Bd.Key) (w : World) (h_d : Ls w A_d n_d c_d Ck.Dom.c 2 d) (h_l : Ls w A_l n_l c_l Ck.Snap.c 5 l) (h_p : Ls w A_p n_p c_p Bd.kc 2 p) (hd : n_d ≤ 12) (hl : n_l ≤ 10) (hn : n_p ≤ 400) (hp : ∀ x ∈ p, 0 ≤ x.2 ∧ x.2 ≤ 1000000000000) :
    Calls Try.prog 32 #[.slice A_d n_d c_d, .slice A_l n_l c_l, .slice A_p n_p c_p] w fun e w' => ∃ v, e = .returned v ∧ OwnL w' w.heap.size 75 Bd.Ed.c 3 v (Bd.rEdges d l p) ∧ Ext w w' := by
  have xW := Ext.refl w
  have e_d := h_d.len
  have z_d := h_d.nle
  have e_l := h_l.len
  have z_l := h_l.nle
  have e_p := h_p.len
  have z_p := h_p.nle
  refine calls_of_WC (args := [.slice A_d n_d c_d, .slice A_l n_l c_l, .slice A_p n_p c_p]) Try.func32 rfl rfl (ble rfl) ?_
  refine WC.seq (fun K1 k1 => ?_)
  refine WC.region rfl ?_
  refine WL.yld rfl (blt rfl) rfl (Y.assign rfl rfl) ?_
  refine WL.nil ?_
  refine WK.then_normal (k1 _ _ ?_)
  refine WC.sub [(0, _), (1, _), (2, _)] ⟨rfl, rfl, rfl, trivial⟩ ?_
  refine WC.seq (fun K2 k2 => ?_)
  refine WC.region rfl ?_
  refine WL.yld rfl (blt rfl) rfl (Y.assign rfl rfl) ?_
  refine WL.nil ?_
  refine WK.then_normal (k2 _ _ ?_)
  refine WC.seq (fun K3 k3 => ?_)
  refine WC.seq (fun K4 k4 => ?_)
  refine WC.region rfl ?_
  refine WL.yld rfl (blt rfl) rfl (Y.assign rfl rfl) ?_
  refine WL.nil ?_
  refine WK.then_normal (k4 _ _ ?_)
  refine WC.block ?_
  refine WC.sub [(8, _), (7, _), (0, _), (1, _), (2, _)] ⟨rfl, rfl, rfl, rfl, rfl, trivial⟩ ?_
  refine WC.loopS 2 (fun mz Ed W' => ∃ i : Nat, ∃ va : Value, mz = n_p - i ∧ Ed = [(8, .int .i64 ((i : Nat) : Int)), (7, va)] ∧ Ext w W' ∧ OwnL W' w.heap.size 75 Bd.Ed.c 3 va (Bd.rRows d p i) ∧ (1 ≤ i ∧ (i ≤ n_p ∨ i = 1))) _ ⟨1, _, rfl, rfl, xW, OwnL.nil_, (by omega)⟩ ?_
  rintro _ _ w5 ⟨i, va, rfl, rfl, xW, ow_va, le_i⟩
  refine WC.sub [(8, _), (7, _), (0, _), (1, _), (2, _)] ⟨rfl, rfl, rfl, rfl, rfl, trivial⟩ ?_
  refine WC.seq (fun K6 k6 => ?_)
  refine WC.seq (fun K7 k7 => ?_)
  refine WC.region rfl ?_
  refine WL.yld rfl (blt rfl) rfl (Y.move rfl rfl) ?_
  refine WL.yld rfl (blt rfl) rfl (Y.move rfl rfl) ?_
  refine WL.yld rfl (blt rfl) rfl (Y.lenSl rfl rfl rfl Try.underlying45 rfl) ?_
  refine WL.yld rfl (blt rfl) rfl (Y.lss rfl rfl rfl) ?_
  refine WL.nil ?_
  refine WK.then_normal (k7 _ _ ?_)
  refine WC.sub [(0, _), (1, _), (2, _), (7, _), (8, _), (21, _)] ⟨rfl, rfl, rfl, rfl, rfl, rfl, trivial⟩ ?_
  refine WC.cond rfl (fun h8 => ?_) (fun h8 => ?_)
  ·
    have p8 := (dec_t h8)
    have pi := hp _ (bang_mem (show i < p.length from by omega))
    refine WC.skip ?_
    refine WK.then_normal (k6 _ _ ?_)
    refine WC.sub [(0, _), (1, _), (2, _), (7, _), (8, _)] ⟨rfl, rfl, rfl, rfl, rfl, trivial⟩ ?_
    refine WC.seq (fun K9 k9 => ?_)
    refine WC.block ?_
    refine WC.seq (fun K10 k10 => ?_)
    refine WC.seq (fun K11 k11 => ?_)
    refine WC.region rfl ?_
    refine WL.yld rfl (blt rfl) rfl (Y.move rfl rfl) ?_
    refine WL.yld rfl (blt rfl) rfl (Y.move rfl rfl) ?_
    have b12 : i < n_p := by omega
    refine WL.yld rfl (blt rfl) rfl (Y.indexLs i (h_p.ext xW) rfl Try.underlying45 ti49 rfl rfl rfl b12) ?_
    refine WL.yld rfl (blt rfl) rfl (Y.fieldE rfl Try.underlying49 rfl ti3 (by decide) rfl) ?_
    refine WL.yld rfl (blt rfl) rfl (Y.load1 rfl Try.underlying3 rfl rfl (Ls.at_eq (h_p.ext xW) b12 rfl)) ?_
    refine WL.yld rfl (blt rfl) rfl (Y.eql rfl rfl rfl) ?_
    refine WL.nil ?_
    refine WK.then_normal (k11 _ _ ?_)
    refine WC.sub [(0, _), (1, _), (2, _), (7, _), (8, _), (29, _)] ⟨rfl, rfl, rfl, rfl, rfl, rfl, trivial⟩ ?_
    refine WC.cond rfl (fun h13 => ?_) (fun h13 => ?_)
    ·
      have p13 := (eq_t h13)
      obtain ⟨A14, n15, c16, rfl, hl17⟩ := OwnL.opened ow_va (fun _ => rfl) (by decide)
      have e_n15 := hl17.len
      try simp only [List.length_append, List.length_cons, List.length_nil, List.length_reverse, List.length_drop, List.length_take, List.length_map, List.length_replicate, List.length_set] at e_n15
      have z_n15 := hl17.nle
      refine WC.regionX (fun W' => Ext w W') (.load 0 (.load 1 (.load 2 (.load 3 (.load 4 (.load 5 (.load 6 (.load 7 (.load 8 (.load 9 (.load 10 (.load 11 (.load 12 (.load 13 (.load 14 (.load 15 (.alt 16 (.alt 17 (.load 18 (.fin)) (.none)) (.none)))))))))))))))))) xW (by kernel_rfl) (by kernel_rfl) (fun w18 x19 => ?_)
      have ow_va := ow_va.ext x19
      have hl17 := hl17.ext x19
      have xW := Ext.trans xW x19
      refine WX.yld rfl rfl (blt rfl) rfl (Y.move rfl rfl) ?_
      refine WX.yld rfl rfl (blt rfl) rfl (Y.move rfl rfl) ?_
      refine WX.yld rfl rfl (blt rfl) rfl (Y.move rfl rfl) ?_
      refine WX.yld rfl rfl (blt rfl) rfl (Y.move rfl rfl) ?_
      have b20 : i < n_p := by omega
      refine WX.yld rfl rfl (blt rfl) rfl (Y.indexLs i (h_p.ext xW) rfl Try.underlying45 ti49 rfl rfl rfl b20) ?_
      refine WX.yld rfl rfl (blt rfl) rfl (Y.fieldE rfl Try.underlying49 rfl ti3 (by decide) rfl) ?_
      refine WX.yld rfl rfl (blt rfl) rfl (Y.load1 rfl Try.underlying3 rfl rfl (Ls.at_c (fun _ h => (h_p.ext (h))) b20 rfl)) ?_
      refine WX.yld rfl rfl (blt rfl) rfl (Y.build (cells := [_, _, _]) rfl pl75 rfl rfl) ?_
      refine WX.yld rfl rfl (blt rfl) rfl (Y.move rfl rfl) ?_
      refine WX.yld rfl rfl (blt rfl) rfl (Y.move rfl rfl) ?_
      refine WX.yld rfl rfl (blt rfl) rfl (Y.move rfl rfl) ?_
      have b21 : i < n_p := by omega
      refine WX.yld rfl rfl (blt rfl) rfl (Y.indexLs i (h_p.ext xW) rfl Try.underlying45 ti49 rfl rfl rfl b21) ?_
      refine WX.yld rfl rfl (blt rfl) rfl (Y.fieldE rfl Try.underlying49 rfl ti3 (by decide) rfl) ?_
      refine WX.yld rfl rfl (blt rfl) rfl (Y.load1 rfl Try.underlying3 rfl rfl (Ls.at_c (fun _ h => (h_p.ext (h))) b21 rfl)) ?_
      refine WX.yld rfl rfl (blt rfl) rfl (Y.neg rfl rfl (wrap_i64 (by first | omega | (dsimp only; omega)))) ?_
      refine WX.yld rfl rfl (blt rfl) rfl (Y.build (cells := [_, _, _]) rfl pl75 rfl rfl) ?_
      refine WX.run rfl rfl (blt rfl) rfl xW (Run.bslice (zs := [.int .i64 0, .int .i64 0, .int .i64 0, .int .i64 0, .int .i64 0, .int .i64 0]) (cs := [_, _, _, _, _, _]) rfl Try.underlying67 ti75 rfl (ble rfl) (by kernel_rfl) rfl rfl) ?_
      rintro _ w23 ⟨g22, rfl, e24, x25, m26⟩
      have r_va_g22 := ne_newO ow_va e24
      have o_g22 := own_new xW e24
      have ow_va := ow_va.ext x25
      have hl17 := hl17.ext x25
      have xW := Ext.trans xW x25
      refine WX.run rfl rfl (blt rfl) rfl xW (Run.appendB (f := Bd.Ed.c) (news := [⟨0, i, p[i]!.2⟩, ⟨i, 0, -p[i]!.2⟩]) rfl rfl rfl Try.underlying67 ti75 rfl (by decide) rfl ow_va (fun _ => rfl) Bd.Ed.one m26 rfl xW.size (by have q0 := Bd.rRows_len (d := d) (p := p) (i := i) (B := 400) (by omega) (by omega) (by omega); first | omega | (simp only [List.length_append, List.length_cons, List.length_nil, List.length_take, List.length_drop, List.length_reverse]; omega)) (Nat.le_trans (show _ ≤ 140737488355328 from by have q0 := Bd.rRows_len (d := d) (p := p) (i := i) (B := 400) (by omega) (by omega) (by omega); first | omega | (simp only [List.length_append, List.length_cons, List.length_nil, List.length_take, List.length_drop, List.length_reverse]; omega)) (by decide)) ) ?_
      rintro v27 w28 ⟨ow29, gr30, nb31⟩
      have r_v27_g22 := ne_app nb31 r_va_g22 m26
      have m26 := m26.grown gr30 r_va_g22
      have xW := Ext.grown xW gr30 (fun b hb => (OwnL.lt ow_va hb).1)
      refine WX.yld rfl rfl (blt rfl) rfl (Y.assign rfl rfl) ?_
      refine WX.nil xW ?_
      refine WK.then_normal (k10 _ _ ?_)
      refine WC.sub [(0, _), (1, _), (2, _), (7, _), (8, _)] ⟨rfl, rfl, rfl, rfl, rfl, trivial⟩ ?_
      refine WC.seq (fun K32 k32 => ?_)
      refine WC.region rfl ?_
      refine WL.yld rfl (blt rfl) rfl (Y.move rfl rfl) ?_
      refine WL.yld rfl (blt rfl) rfl (Y.move rfl rfl) ?_
      refine WL.yld rfl (blt rfl) rfl (Y.move rfl rfl) ?_
      have b33 : i < n_p := by omega
      refine WL.yld rfl (blt rfl) rfl (Y.indexLs i (h_p.ext xW) rfl Try.underlying45 ti49 rfl rfl rfl b33) ?_
      refine WL.yld rfl (blt rfl) rfl (Y.fieldE rfl Try.underlying49 rfl ti3 (by decide) rfl) ?_
      refine WL.yld rfl (blt rfl) rfl (Y.load1 rfl Try.underlying3 rfl rfl (Ls.at_eq (h_p.ext xW) b33 rfl)) ?_
      refine WL.call rfl (blt rfl) rfl rfl rfl has30 rfl (rppm_any _ _ _ _ _ _ (h_d.ext xW)) ?_
      rintro _ w34 ⟨rfl, x35⟩
      refine ⟨_, rfl, ?_⟩
      have ow29 := ow29.ext x35
      have xW := Ext.trans xW x35
      refine WL.yld rfl (blt rfl) rfl (Y.move rfl rfl) ?_
      refine WL.yld rfl (blt rfl) rfl (Y.extract rfl rfl rfl) ?_
      refine WL.yld rfl (blt rfl) rfl (Y.extract rfl rfl rfl) ?_
      refine WL.yld rfl (blt rfl) rfl (Y.assign rfl rfl) ?_
      refine WL.yld rfl (blt rfl) rfl (Y.assign rfl rfl) ?_
      refine WL.nil ?_
      refine WK.then_normal (k32 _ _ ?_)
      refine WC.sub [(0, _), (1, _), (2, _), (7, _), (8, _), (9, _)] ⟨rfl, rfl, rfl, rfl, rfl, rfl, trivial⟩ ?_
      refine WC.seq (fun K36 k36 => ?_)
      refine WC.region rfl ?_
      refine WL.yld rfl (blt rfl) rfl (Y.assign rfl rfl) ?_
      refine WL.nil ?_
      refine WK.then_normal (k36 _ _ ?_)
      refine WC.block ?_
      refine WC.sub [(11, _), (7, _), (0, _), (1, _), (2, _), (8, _), (9, _)] ⟨rfl, rfl, rfl, rfl, rfl, rfl, rfl, trivial⟩ ?_
      refine WC.loopS 2 (fun mz Ed W' => ∃ k : Nat, ∃ vb : Value, mz = n_p - k ∧ Ed = [(11, .int .i64 ((k : Nat) : Int)), (7, vb)] ∧ Ext w W' ∧ OwnL W' w.heap.size 75 Bd.Ed.c 3 vb (Bd.rRows d p i ++ Bd.rRow d p i k) ∧ (1 ≤ k ∧ k ≤ n_p)) _ ⟨1, _, rfl, rfl, xW, (by rw [Bd.rRow_yes h13]; exact ow29), (by omega)⟩ ?_
      rintro _ _ w37 ⟨k, vb, rfl, rfl, xW, ow_vb, le_k⟩
      refine WC.sub [(11, _), (7, _), (0, _), (1, _), (2, _), (8, _), (9, _)] ⟨rfl, rfl, rfl, rfl, rfl, rfl, rfl, trivial⟩ ?_
      refine WC.seq (fun K38 k38 => ?_)
      refine WC.seq (fun K39 k39 => ?_)
      refine WC.region rfl ?_
      refine WL.yld rfl (blt rfl) rfl (Y.move rfl rfl) ?_
      refine WL.yld rfl (blt rfl) rfl (Y.move rfl rfl) ?_
      refine WL.yld rfl (blt rfl) rfl (Y.lenSl rfl rfl rfl Try.underlying45 rfl) ?_
      refine WL.yld rfl (blt rfl) rfl (Y.lss rfl rfl rfl) ?_
      refine WL.nil ?_
      refine WK.then_normal (k39 _ _ ?_)
      refine WC.sub [(0, _), (1, _), (2, _), (7, _), (8, _), (9, _), (11, _), (61, _)] ⟨rfl, rfl, rfl, rfl, rfl, rfl, rfl, rfl, trivial⟩ ?_
      refine WC.cond rfl (fun h40 => ?_) (fun h40 => ?_)
      ·
        have p40 := (dec_t h40)
        have pk := hp _ (bang_mem (show k < p.length from by omega))
        refine WC.skip ?_
        refine WK.then_normal (k38 _ _ ?_)
        refine WC.sub [(0, _), (1, _), (2, _), (7, _), (8, _), (9, _), (11, _)] ⟨rfl, rfl, rfl, rfl, rfl, rfl, rfl, trivial⟩ ?_
        refine WC.seq (fun K41 k41 => ?_)
        refine WC.block ?_
        refine WC.seq (fun K42 k42 => ?_)
        refine WC.regionDq (by kernel_rfl) (by kernel_rfl) rfl ?_
        refine WQ.yld rfl (blt rfl) rfl (Y.move rfl rfl) ?_
        refine WQ.yld rfl (blt rfl) rfl (Y.move rfl rfl) ?_
        refine WQ.yld rfl (blt rfl) rfl (Y.neq rfl rfl rfl) ?_
        refine WQ.yld rfl (blt rfl) rfl (Y.move rfl rfl) ?_
        refine WQ.yldG rfl (blt rfl) rfl rfl rfl (fun hb => Y.move rfl rfl) ?_
        refine WQ.yldG rfl (blt rfl) rfl rfl rfl (fun hb => Y.move rfl rfl) ?_
        refine WQ.yldG rfl (blt rfl) rfl rfl rfl (fun hb => Y.indexLs k (h_p.ext xW) rfl Try.underlying45 ti49 (evg rfl hb) (evg rfl hb) rfl (by have q0 := (eq_f (not_t hb)); omega)) ?_
        refine WQ.yldG rfl (blt rfl) rfl rfl rfl (fun hb => Y.fieldE rfl Try.underlying49 rfl ti3 (by decide) (evg rfl hb)) ?_
        refine WQ.yldG rfl (blt rfl) rfl rfl rfl (fun hb => Y.load1 rfl Try.underlying3 rfl (evg rfl hb) (Ls.at_ext (h_p.ext xW) (by have q0 := (eq_f (not_t hb)); omega) rfl)) ?_
        refine WQ.yldG rfl (blt rfl) rfl rfl rfl (fun hb => Y.move rfl rfl) ?_
        refine WQ.yldG rfl (blt rfl) rfl rfl rfl (fun hb => Y.move rfl rfl) ?_
        refine WQ.yldG rfl (blt rfl) rfl rfl rfl (fun hb => Y.indexLs i (h_p.ext xW) rfl Try.underlying45 ti49 (evg rfl hb) (evg rfl hb) rfl (by have q0 := (eq_f (not_t hb)); omega)) ?_
        refine WQ.yldG rfl (blt rfl) rfl rfl rfl (fun hb => Y.fieldE rfl Try.underlying49 rfl ti3 (by decide) (evg rfl hb)) ?_
        refine WQ.yldG rfl (blt rfl) rfl rfl rfl (fun hb => Y.load1 rfl Try.underlying3 rfl (evg rfl hb) (Ls.at_ext (h_p.ext xW) (by have q0 := (eq_f (not_t hb)); omega) rfl)) ?_
        refine WQ.yldG rfl (blt rfl) rfl rfl rfl (fun hb => Y.eql rfl (evg rfl hb) (evg rfl hb)) ?_
        refine WQ.yld rfl (blt rfl) rfl (Y.and rfl rfl rfl rfl) ?_
        refine WQ.yld rfl (blt rfl) rfl (Y.move rfl rfl) ?_
        refine WQ.yldG rfl (blt rfl) rfl rfl rfl (fun hb => Y.move rfl rfl) ?_
        refine WQ.yldG rfl (blt rfl) rfl rfl rfl (fun hb => Y.move rfl rfl) ?_
        refine WQ.yldG rfl (blt rfl) rfl rfl rfl (fun hb => Y.indexLs i (h_p.ext xW) rfl Try.underlying45 ti49 (evg rfl hb) (evg rfl hb) rfl (by have q0 := (And.intro (eq_f (not_t (and_t hb).1)) (eq_t (and_t hb).2)); omega)) ?_
        refine WQ.yldG rfl (blt rfl) rfl rfl rfl (fun hb => Y.fieldE rfl Try.underlying49 rfl ti3 (by decide) (evg rfl hb)) ?_
        refine WQ.yldG rfl (blt rfl) rfl rfl rfl (fun hb => Y.load1 rfl Try.underlying3 rfl (evg rfl hb) (Ls.at_ext (h_p.ext xW) (by have q0 := (And.intro (eq_f (not_t (and_t hb).1)) (eq_t (and_t hb).2)); omega) rfl)) ?_
        refine WQ.yldG rfl (blt rfl) rfl rfl rfl (fun hb => Y.move rfl rfl) ?_
        refine WQ.yldG rfl (blt rfl) rfl rfl rfl (fun hb => Y.move rfl rfl) ?_
        refine WQ.yldG rfl (blt rfl) rfl rfl rfl (fun hb => Y.indexLs k (h_p.ext xW) rfl Try.underlying45 ti49 (evg rfl hb) (evg rfl hb) rfl (by have q0 := (And.intro (eq_f (not_t (and_t hb).1)) (eq_t (and_t hb).2)); omega)) ?_
        refine WQ.yldG rfl (blt rfl) rfl rfl rfl (fun hb => Y.fieldE rfl Try.underlying49 rfl ti3 (by decide) (evg rfl hb)) ?_
        refine WQ.yldG rfl (blt rfl) rfl rfl rfl (fun hb => Y.load1 rfl Try.underlying3 rfl (evg rfl hb) (Ls.at_ext (h_p.ext xW) (by have q0 := (And.intro (eq_f (not_t (and_t hb).1)) (eq_t (and_t hb).2)); omega) rfl)) ?_
        refine WQ.yldG rfl (blt rfl) rfl rfl rfl (fun hb => Y.leq rfl (evg rfl hb) (evg rfl hb)) ?_
        refine WQ.yld rfl (blt rfl) rfl (Y.and rfl rfl rfl rfl) ?_
        refine WQ.done (fun w43 x44 => ?_)
        have ow_vb := ow_vb.ext x44
        have xW := Ext.trans xW x44
        refine WK.then_normal (k42 _ _ ?_)
        refine WC.sub [(0, _), (1, _), (2, _), (7, _), (8, _), (9, _), (11, _), (92, _)] ⟨rfl, rfl, rfl, rfl, rfl, rfl, rfl, rfl, trivial⟩ ?_
        refine WC.cond rfl (fun h45 => ?_) (fun h45 => ?_)
        ·
          have p45 := (And.intro (And.intro (eq_f (not_t (and_t (and_t h45).1).1)) (eq_t (and_t (and_t h45).1).2)) (dec_t (and_t h45).2))
          have sb := Iv.str_bound (p[k]!.2 - p[i]!.2) (Ck.ppmF d p[i]!.1).1
          refine WC.seq (fun K46 k46 => ?_)
          obtain ⟨A47, n48, c49, rfl, hl50⟩ := OwnL.opened ow_vb (fun _ => rfl) (by decide)
          have e_n48 := hl50.len
          try simp only [List.length_append, List.length_cons, List.length_nil, List.length_reverse, List.length_drop, List.length_take, List.length_map, List.length_replicate, List.length_set] at e_n48
          have z_n48 := hl50.nle
          refine WC.regionX (fun W' => Ext w W' ∧ Ls W' A47 n48 c49 Bd.Ed.c 3 _) (.load 0 (.load 1 (.load 2 (.load 3 (.load 4 (.load 5 (.load 6 (.load 7 (.load 8 (.load 9 (.load 10 (.load 11 (.alt 12 (.load 13 (.load 14 (.load 15 (.alt 16 (.alt 17 (.load 18 (.fin)) (.none)) (.none))))) (.alt 16 (.alt 12 (.load 13 (.load 14 (.load 15 (.alt 17 (.load 18 (.fin)) (.none))))) (.none)) (.none))))))))))))))) ⟨xW, hl50⟩ (by kernel_rfl) (by kernel_rfl) (fun w51 x52 => ?_)
          have ow_vb := ow_vb.ext x52
          have hl50 := hl50.ext x52
          have xW := Ext.trans xW x52
          refine WX.yld rfl rfl (blt rfl) rfl (Y.move rfl rfl) ?_
          refine WX.yld rfl rfl (blt rfl) rfl (Y.move rfl rfl) ?_
          have b53 : k < n_p := by omega
          refine WX.yld rfl rfl (blt rfl) rfl (Y.indexLs k (h_p.ext xW) rfl Try.underlying45 ti49 rfl rfl rfl b53) ?_
          refine WX.yld rfl rfl (blt rfl) rfl (Y.fieldE rfl Try.underlying49 rfl ti3 (by decide) rfl) ?_
          refine WX.yld rfl rfl (blt rfl) rfl (Y.load1 rfl Try.underlying3 rfl rfl (Ls.at_c (fun _ h => (h_p.ext (h.1))) b53 rfl)) ?_
          refine WX.yld rfl rfl (blt rfl) rfl (Y.move rfl rfl) ?_
          refine WX.yld rfl rfl (blt rfl) rfl (Y.move rfl rfl) ?_
          have b54 : i < n_p := by omega
          refine WX.yld rfl rfl (blt rfl) rfl (Y.indexLs i (h_p.ext xW) rfl Try.underlying45 ti49 rfl rfl rfl b54) ?_
          refine WX.yld rfl rfl (blt rfl) rfl (Y.fieldE rfl Try.underlying49 rfl ti3 (by decide) rfl) ?_
          refine WX.yld rfl rfl (blt rfl) rfl (Y.load1 rfl Try.underlying3 rfl rfl (Ls.at_c (fun _ h => (h_p.ext (h.1))) b54 rfl)) ?_
          refine WX.yld rfl rfl (blt rfl) rfl (Y.sub rfl rfl rfl (wrap_i64 (by first | omega | (dsimp only; omega)))) ?_
          refine WX.yld rfl rfl (blt rfl) rfl (Y.move rfl rfl) ?_
          refine WX.alt ?_ ?_
          ·
            refine WX.call rfl rfl (blt rfl) rfl rfl rfl has55 rfl ⟨xW, hl50⟩ (rstretch_any _ _ _) ?_
            rintro _ w55 ⟨rfl, x56⟩
            refine ⟨_, rfl, ?_⟩
            have ow_vb := ow_vb.ext x56
            have hl50 := hl50.ext x56
            have xW := Ext.trans xW x56
            refine WX.yld rfl rfl (blt rfl) rfl (Y.move rfl rfl) ?_
            refine WX.yld rfl rfl (blt rfl) rfl (Y.extract rfl rfl rfl) ?_
            refine WX.yld rfl rfl (blt rfl) rfl (Y.extract rfl rfl rfl) ?_
            refine WX.run rfl rfl (blt rfl) rfl ⟨xW, hl50⟩ (Run.alloc rfl ti29 rfl) ?_
            rintro _ w58 ⟨g57, rfl, e59, x60, m61⟩
            have r_vb_g57 := ne_newO ow_vb e59
            have o_g57 := own_new xW e59
            have ow_vb := ow_vb.ext x60
            have hl50 := hl50.ext x60
            have xW := Ext.trans xW x60
            refine WX.storeB (cs' := [_, _]) rfl ⟨xW, hl50⟩ rfl rfl rfl rfl rfl rfl ti29 m61 (ble rfl) rfl rfl (fun w62 on63 m64 => ?_)
            have ow_vb := ow_vb.only r_vb_g57 on63
            have hl50 := OwnL.ls ow_vb (fun _ => rfl) (by decide)
            have xW := Ext.only xW on63 o_g57
            refine WX.yld rfl rfl (blt rfl) rfl (Y.assign rfl rfl) ?_
            refine WX.nil ⟨xW, hl50⟩ ?_
            refine WK.then_normal (k46 _ _ ?_)
            refine WC.sub [(0, _), (1, _), (2, _), (7, _), (8, _), (9, _), (11, _), (12, _)] ⟨rfl, rfl, rfl, rfl, rfl, rfl, rfl, rfl, trivial⟩ ?_
            refine WC.region rfl ?_
            refine WL.yld rfl (blt rfl) rfl (Y.move rfl rfl) ?_
            refine WL.yld rfl (blt rfl) rfl (Y.move rfl rfl) ?_
            refine WL.yld rfl (blt rfl) rfl (Y.move rfl rfl) ?_
            refine WL.yld rfl (blt rfl) rfl (Y.fieldAddr rfl Try.underlying29 rfl ti3 (by decide) rfl) ?_
            refine WL.yld rfl (blt rfl) rfl (Y.load1 rfl Try.underlying3 rfl rfl (Blk.at_eq m64 rfl)) ?_
            refine WL.yld rfl (blt rfl) rfl (Y.build (cells := [_, _, _]) rfl pl75 rfl rfl) ?_
            refine WL.yld rfl (blt rfl) rfl (Y.move rfl rfl) ?_
            refine WL.yld rfl (blt rfl) rfl (Y.move rfl rfl) ?_
            refine WL.yld rfl (blt rfl) rfl (Y.fieldAddr rfl Try.underlying29 rfl ti3 (by decide) rfl) ?_
            refine WL.yld rfl (blt rfl) rfl (Y.load1 rfl Try.underlying3 rfl rfl (Blk.at_eq m64 rfl)) ?_
            refine WL.yld rfl (blt rfl) rfl (Y.neg rfl rfl (wrap_i64 (by first | omega | (dsimp only; omega)))) ?_
            refine WL.yld rfl (blt rfl) rfl (Y.build (cells := [_, _, _]) rfl pl75 rfl rfl) ?_
            refine WL.bslice (zs := [.int .i64 0, .int .i64 0, .int .i64 0, .int .i64 0, .int .i64 0, .int .i64 0]) (cs := [_, _, _, _, _, _]) rfl (blt rfl) rfl rfl Try.underlying67 ti75 rfl (ble rfl) (by kernel_rfl) rfl rfl ?_
            intro g65 w66 e67 x68 m69
            have r_vb_g65 := ne_newO ow_vb e67
            have n_g57_g65 := ne_new m64 e67
            have o_g65 := own_new xW e67
            have ow_vb := ow_vb.ext x68
            have hl50 := hl50.ext x68
            have m64 := m64.ext x68
            have xW := Ext.trans xW x68
            refine WL.appendB (f := Bd.Ed.c) (news := [⟨i, k, (Iv.stretchF (p[k]!.2 - p[i]!.2) (Ck.ppmF d p[i]!.1).1).1.2⟩, ⟨k, i, -(Iv.stretchF (p[k]!.2 - p[i]!.2) (Ck.ppmF d p[i]!.1).1).1.1⟩]) rfl (blt rfl) rfl rfl rfl rfl Try.underlying67 ti75 rfl (by decide) rfl ow_vb (fun _ => rfl) Bd.Ed.one m69 rfl xW.size (by have q0 := Bd.rRows_len (d := d) (p := p) (i := i) (B := 400) (by omega) (by omega) (by omega); have q1 := Bd.rRow_len (d := d) (p := p) (i := i) (k := k) (B := 400) (by omega) (by omega); first | omega | (simp only [List.length_append, List.length_cons, List.length_nil, List.length_take, List.length_drop, List.length_reverse]; omega)) (Nat.le_trans (show _ ≤ 140737488355328 from by have q0 := Bd.rRows_len (d := d) (p := p) (i := i) (B := 400) (by omega) (by omega) (by omega); have q1 := Bd.rRow_len (d := d) (p := p) (i := i) (k := k) (B := 400) (by omega) (by omega); first | omega | (simp only [List.length_append, List.length_cons, List.length_nil, List.length_take, List.length_drop, List.length_reverse]; omega)) (by decide)) (fun v70 w71 ow72 gr73 nb74 => ?_)
            have r_v70_g57 := ne_app nb74 r_vb_g57 m64
            have m64 := m64.grown gr73 r_vb_g57
            have r_v70_g65 := ne_app nb74 r_vb_g65 m69
            have m69 := m69.grown gr73 r_vb_g65
            have xW := Ext.grown xW gr73 (fun b hb => (OwnL.lt ow_vb hb).1)
            refine WL.yld rfl (blt rfl) rfl (Y.assign rfl rfl) ?_
            refine WL.nil ?_
            refine WK.in_normal ?_
            refine WK.then_normal (k41 _ _ ?_)
            refine WC.sub [(0, _), (1, _), (2, _), (7, _), (8, _), (9, _), (11, _)] ⟨rfl, rfl, rfl, rfl, rfl, rfl, rfl, trivial⟩ ?_
            refine WC.region rfl ?_
            refine WL.yld rfl (blt rfl) rfl (Y.move rfl rfl) ?_
            refine WL.yld rfl (blt rfl) rfl (Y.add rfl rfl rfl (wrap_i64 (by first | omega | (dsimp only; omega)))) ?_
            refine WL.yld rfl (blt rfl) rfl (Y.assign rfl rfl) ?_
            refine WL.nil ?_
            refine WK.roundS _ [(11, .int .i64 (((k + 1) : Nat) : Int)), (7, v70)] ⟨rfl, rfl, rfl, rfl, rfl, rfl, rfl, trivial⟩ ?_ ⟨(k + 1), v70, rfl, rfl, xW, (by rw [Bd.rRow_next (show 1 ≤ k from by omega), Bd.rPair_yes h45, ← List.append_assoc]; exact ow72), (by omega)⟩
            show _ - (k + 1) < _ - k; omega
          refine WX.run rfl rfl (blt rfl) rfl ⟨xW, hl50⟩ (Run.alloc rfl ti29 rfl) ?_
          rintro _ w76 ⟨g75, rfl, e77, x78, m79⟩
          have r_vb_g75 := ne_newO ow_vb e77
          have o_g75 := own_new xW e77
          have ow_vb := ow_vb.ext x78
          have hl50 := hl50.ext x78
          have xW := Ext.trans xW x78
          refine WX.call rfl rfl (blt rfl) rfl rfl rfl has55 rfl ⟨xW, hl50⟩ (rstretch_any _ _ _) ?_
          rintro _ w80 ⟨rfl, x81⟩
          refine ⟨_, rfl, ?_⟩
          have ow_vb := ow_vb.ext x81
          have hl50 := hl50.ext x81
          have m79 := m79.ext x81
          have xW := Ext.trans xW x81
          refine WX.yld rfl rfl (blt rfl) rfl (Y.move rfl rfl) ?_
          refine WX.yld rfl rfl (blt rfl) rfl (Y.extract rfl rfl rfl) ?_
          refine WX.yld rfl rfl (blt rfl) rfl (Y.extract rfl rfl rfl) ?_
          refine WX.storeB (cs' := [_, _]) rfl ⟨xW, hl50⟩ rfl rfl rfl rfl rfl rfl ti29 m79 (ble rfl) rfl rfl (fun w82 on83 m84 => ?_)
          have ow_vb := ow_vb.only r_vb_g75 on83
          have hl50 := OwnL.ls ow_vb (fun _ => rfl) (by decide)
          have xW := Ext.only xW on83 o_g75
          refine WX.yld rfl rfl (blt rfl) rfl (Y.assign rfl rfl) ?_
          refine WX.nil ⟨xW, hl50⟩ ?_
          refine WK.then_normal (k46 _ _ ?_)
          refine WC.sub [(0, _), (1, _), (2, _), (7, _), (8, _), (9, _), (11, _), (12, _)] ⟨rfl, rfl, rfl, rfl, rfl, rfl, rfl, rfl, trivial⟩ ?_
          refine WC.region rfl ?_
          refine WL.yld rfl (blt rfl) rfl (Y.move rfl rfl) ?_
          refine WL.yld rfl (blt rfl) rfl (Y.move rfl rfl) ?_
          refine WL.yld rfl (blt rfl) rfl (Y.move rfl rfl) ?_
          refine WL.yld rfl (blt rfl) rfl (Y.fieldAddr rfl Try.underlying29 rfl ti3 (by decide) rfl) ?_
          refine WL.yld rfl (blt rfl) rfl (Y.load1 rfl Try.underlying3 rfl rfl (Blk.at_eq m84 rfl)) ?_
          refine WL.yld rfl (blt rfl) rfl (Y.build (cells := [_, _, _]) rfl pl75 rfl rfl) ?_
          refine WL.yld rfl (blt rfl) rfl (Y.move rfl rfl) ?_
          refine WL.yld rfl (blt rfl) rfl (Y.move rfl rfl) ?_
          refine WL.yld rfl (blt rfl) rfl (Y.fieldAddr rfl Try.underlying29 rfl ti3 (by decide) rfl) ?_
          refine WL.yld rfl (blt rfl) rfl (Y.load1 rfl Try.underlying3 rfl rfl (Blk.at_eq m84 rfl)) ?_
          refine WL.yld rfl (blt rfl) rfl (Y.neg rfl rfl (wrap_i64 (by first | omega | (dsimp only; omega)))) ?_
          refine WL.yld rfl (blt rfl) rfl (Y.build (cells := [_, _, _]) rfl pl75 rfl rfl) ?_
          refine WL.bslice (zs := [.int .i64 0, .int .i64 0, .int .i64 0, .int .i64 0, .int .i64 0, .int .i64 0]) (cs := [_, _, _, _, _, _]) rfl (blt rfl) rfl rfl Try.underlying67 ti75 rfl (ble rfl) (by kernel_rfl) rfl rfl ?_
          intro g85 w86 e87 x88 m89
          have r_vb_g85 := ne_newO ow_vb e87
          have n_g75_g85 := ne_new m84 e87
          have o_g85 := own_new xW e87
          have ow_vb := ow_vb.ext x88
          have hl50 := hl50.ext x88
          have m84 := m84.ext x88
          have xW := Ext.trans xW x88
          refine WL.appendB (f := Bd.Ed.c) (news := [⟨i, k, (Iv.stretchF (p[k]!.2 - p[i]!.2) (Ck.ppmF d p[i]!.1).1).1.2⟩, ⟨k, i, -(Iv.stretchF (p[k]!.2 - p[i]!.2) (Ck.ppmF d p[i]!.1).1).1.1⟩]) rfl (blt rfl) rfl rfl rfl rfl Try.underlying67 ti75 rfl (by decide) rfl ow_vb (fun _ => rfl) Bd.Ed.one m89 rfl xW.size (by have q0 := Bd.rRows_len (d := d) (p := p) (i := i) (B := 400) (by omega) (by omega) (by omega); have q1 := Bd.rRow_len (d := d) (p := p) (i := i) (k := k) (B := 400) (by omega) (by omega); first | omega | (simp only [List.length_append, List.length_cons, List.length_nil, List.length_take, List.length_drop, List.length_reverse]; omega)) (Nat.le_trans (show _ ≤ 140737488355328 from by have q0 := Bd.rRows_len (d := d) (p := p) (i := i) (B := 400) (by omega) (by omega) (by omega); have q1 := Bd.rRow_len (d := d) (p := p) (i := i) (k := k) (B := 400) (by omega) (by omega); first | omega | (simp only [List.length_append, List.length_cons, List.length_nil, List.length_take, List.length_drop, List.length_reverse]; omega)) (by decide)) (fun v90 w91 ow92 gr93 nb94 => ?_)
          have r_v90_g75 := ne_app nb94 r_vb_g75 m84
          have m84 := m84.grown gr93 r_vb_g75
          have r_v90_g85 := ne_app nb94 r_vb_g85 m89
          have m89 := m89.grown gr93 r_vb_g85
          have xW := Ext.grown xW gr93 (fun b hb => (OwnL.lt ow_vb hb).1)
          refine WL.yld rfl (blt rfl) rfl (Y.assign rfl rfl) ?_
          refine WL.nil ?_
          refine WK.in_normal ?_
          refine WK.then_normal (k41 _ _ ?_)
          refine WC.sub [(0, _), (1, _), (2, _), (7, _), (8, _), (9, _), (11, _)] ⟨rfl, rfl, rfl, rfl, rfl, rfl, rfl, trivial⟩ ?_
          refine WC.region rfl ?_
          refine WL.yld rfl (blt rfl) rfl (Y.move rfl rfl) ?_
          refine WL.yld rfl (blt rfl) rfl (Y.add rfl rfl rfl (wrap_i64 (by first | omega | (dsimp only; omega)))) ?_
          refine WL.yld rfl (blt rfl) rfl (Y.assign rfl rfl) ?_
          refine WL.nil ?_
          refine WK.roundS _ [(11, .int .i64 (((k + 1) : Nat) : Int)), (7, v90)] ⟨rfl, rfl, rfl, rfl, rfl, rfl, rfl, trivial⟩ ?_ ⟨(k + 1), v90, rfl, rfl, xW, (by rw [Bd.rRow_next (show 1 ≤ k from by omega), Bd.rPair_yes h45, ← List.append_assoc]; exact ow92), (by omega)⟩
          show _ - (k + 1) < _ - k; omega
        ·
          have p45 := ((and_f h45).imp (fun h => ((and_f h).imp (fun h => (eq_t (not_f h))) (fun h => (eq_f h)))) (fun h => (dec_f h)))
          refine WC.skip ?_
          refine WK.in_normal ?_
          refine WK.then_normal (k41 _ _ ?_)
          refine WC.sub [(0, _), (1, _), (2, _), (7, _), (8, _), (9, _), (11, _)] ⟨rfl, rfl, rfl, rfl, rfl, rfl, rfl, trivial⟩ ?_
          refine WC.region rfl ?_
          refine WL.yld rfl (blt rfl) rfl (Y.move rfl rfl) ?_
          refine WL.yld rfl (blt rfl) rfl (Y.add rfl rfl rfl (wrap_i64 (by first | omega | (dsimp only; omega)))) ?_
          refine WL.yld rfl (blt rfl) rfl (Y.assign rfl rfl) ?_
          refine WL.nil ?_
          refine WK.roundS _ [(11, .int .i64 (((k + 1) : Nat) : Int)), (7, vb)] ⟨rfl, rfl, rfl, rfl, rfl, rfl, rfl, trivial⟩ ?_ ⟨(k + 1), vb, rfl, rfl, xW, (by rw [Bd.rRow_next (show 1 ≤ k from by omega), Bd.rPair_no h45, List.append_nil]; exact ow_vb), (by omega)⟩
          show _ - (k + 1) < _ - k; omega
      ·
        have p40 := (dec_f h40)
        refine WC.exit ?_
        refine WK.then_exit ?_
        refine WK.then_exit ?_
        refine WK.in_exit ?_
        refine WK.in_normal ?_
        refine WK.then_normal (k9 _ _ ?_)
        refine WC.sub [(0, _), (1, _), (2, _), (7, _), (8, _)] ⟨rfl, rfl, rfl, rfl, rfl, trivial⟩ ?_
        refine WC.region rfl ?_
        refine WL.yld rfl (blt rfl) rfl (Y.move rfl rfl) ?_
        refine WL.yld rfl (blt rfl) rfl (Y.add rfl rfl rfl (wrap_i64 (by first | omega | (dsimp only; omega)))) ?_
        refine WL.yld rfl (blt rfl) rfl (Y.assign rfl rfl) ?_
        refine WL.nil ?_
        refine WK.roundS _ [(8, .int .i64 (((i + 1) : Nat) : Int)), (7, vb)] ⟨rfl, rfl, rfl, rfl, rfl, trivial⟩ ?_ ⟨(i + 1), vb, rfl, rfl, xW, (by rw [Bd.rRows_next (show 1 ≤ i from by omega), show p.length = k from by omega]; exact ow_vb), (by omega)⟩
        show _ - (i + 1) < _ - i; omega
    ·
      have p13 := (eq_f h13)
      refine WC.skip ?_
      refine WK.then_normal (k10 _ _ ?_)
      refine WC.sub [(0, _), (1, _), (2, _), (7, _), (8, _)] ⟨rfl, rfl, rfl, rfl, rfl, trivial⟩ ?_
      refine WC.seq (fun K95 k95 => ?_)
      refine WC.region rfl ?_
      refine WL.yld rfl (blt rfl) rfl (Y.move rfl rfl) ?_
      refine WL.yld rfl (blt rfl) rfl (Y.move rfl rfl) ?_
      refine WL.yld rfl (blt rfl) rfl (Y.move rfl rfl) ?_
      have b96 : i < n_p := by omega
      refine WL.yld rfl (blt rfl) rfl (Y.indexLs i (h_p.ext xW) rfl Try.underlying45 ti49 rfl rfl rfl b96) ?_
      refine WL.yld rfl (blt rfl) rfl (Y.fieldE rfl Try.underlying49 rfl ti3 (by decide) rfl) ?_
      refine WL.yld rfl (blt rfl) rfl (Y.load1 rfl Try.underlying3 rfl rfl (Ls.at_eq (h_p.ext xW) b96 rfl)) ?_
      refine WL.call rfl (blt rfl) rfl rfl rfl has30 rfl (rppm_any _ _ _ _ _ _ (h_d.ext xW)) ?_
      rintro _ w97 ⟨rfl, x98⟩
      refine ⟨_, rfl, ?_⟩
      have ow_va := ow_va.ext x98
      have xW := Ext.trans xW x98
      refine WL.yld rfl (blt rfl) rfl (Y.move rfl rfl) ?_
      refine WL.yld rfl (blt rfl) rfl (Y.extract rfl rfl rfl) ?_
      refine WL.yld rfl (blt rfl) rfl (Y.extract rfl rfl rfl) ?_
      refine WL.yld rfl (blt rfl) rfl (Y.assign rfl rfl) ?_
      refine WL.yld rfl (blt rfl) rfl (Y.assign rfl rfl) ?_
      refine WL.nil ?_
      refine WK.then_normal (k95 _ _ ?_)
      refine WC.sub [(0, _), (1, _), (2, _), (7, _), (8, _), (9, _)] ⟨rfl, rfl, rfl, rfl, rfl, rfl, trivial⟩ ?_
      refine WC.seq (fun K99 k99 => ?_)
      refine WC.region rfl ?_
      refine WL.yld rfl (blt rfl) rfl (Y.assign rfl rfl) ?_
      refine WL.nil ?_
      refine WK.then_normal (k99 _ _ ?_)
      refine WC.block ?_
      refine WC.sub [(11, _), (7, _), (0, _), (1, _), (2, _), (8, _), (9, _)] ⟨rfl, rfl, rfl, rfl, rfl, rfl, rfl, trivial⟩ ?_
      refine WC.loopS 2 (fun mz Ed W' => ∃ k : Nat, ∃ vb : Value, mz = n_p - k ∧ Ed = [(11, .int .i64 ((k : Nat) : Int)), (7, vb)] ∧ Ext w W' ∧ OwnL W' w.heap.size 75 Bd.Ed.c 3 vb (Bd.rRows d p i ++ Bd.rRow d p i k) ∧ (1 ≤ k ∧ k ≤ n_p)) _ ⟨1, _, rfl, rfl, xW, (by rw [Bd.rRow_no h13]; rw [List.append_nil]; exact ow_va), (by omega)⟩ ?_
      rintro _ _ w100 ⟨k, vb, rfl, rfl, xW, ow_vb, le_k⟩
      refine WC.sub [(11, _), (7, _), (0, _), (1, _), (2, _), (8, _), (9, _)] ⟨rfl, rfl, rfl, rfl, rfl, rfl, rfl, trivial⟩ ?_
      refine WC.seq (fun K101 k101 => ?_)
      refine WC.seq (fun K102 k102 => ?_)
      refine WC.region rfl ?_
      refine WL.yld rfl (blt rfl) rfl (Y.move rfl rfl) ?_
      refine WL.yld rfl (blt rfl) rfl (Y.move rfl rfl) ?_
      refine WL.yld rfl (blt rfl) rfl (Y.lenSl rfl rfl rfl Try.underlying45 rfl) ?_
      refine WL.yld rfl (blt rfl) rfl (Y.lss rfl rfl rfl) ?_
      refine WL.nil ?_
      refine WK.then_normal (k102 _ _ ?_)
      refine WC.sub [(0, _), (1, _), (2, _), (7, _), (8, _), (9, _), (11, _), (61, _)] ⟨rfl, rfl, rfl, rfl, rfl, rfl, rfl, rfl, trivial⟩ ?_
      refine WC.cond rfl (fun h103 => ?_) (fun h103 => ?_)
      ·
        have p103 := (dec_t h103)
        have pk := hp _ (bang_mem (show k < p.length from by omega))
        refine WC.skip ?_
        refine WK.then_normal (k101 _ _ ?_)
        refine WC.sub [(0, _), (1, _), (2, _), (7, _), (8, _), (9, _), (11, _)] ⟨rfl, rfl, rfl, rfl, rfl, rfl, rfl, trivial⟩ ?_
        refine WC.seq (fun K104 k104 => ?_)
        refine WC.block ?_
        refine WC.seq (fun K105 k105 => ?_)
        refine WC.regionDq (by kernel_rfl) (by kernel_rfl) rfl ?_
        refine WQ.yld rfl (blt rfl) rfl (Y.move rfl rfl) ?_
        refine WQ.yld rfl (blt rfl) rfl (Y.move rfl rfl) ?_
        refine WQ.yld rfl (blt rfl) rfl (Y.neq rfl rfl rfl) ?_
        refine WQ.yld rfl (blt rfl) rfl (Y.move rfl rfl) ?_
        refine WQ.yldG rfl (blt rfl) rfl rfl rfl (fun hb => Y.move rfl rfl) ?_
        refine WQ.yldG rfl (blt rfl) rfl rfl rfl (fun hb => Y.move rfl rfl) ?_
        refine WQ.yldG rfl (blt rfl) rfl rfl rfl (fun hb => Y.indexLs k (h_p.ext xW) rfl Try.underlying45 ti49 (evg rfl hb) (evg rfl hb) rfl (by have q0 := (eq_f (not_t hb)); omega)) ?_
        refine WQ.yldG rfl (blt rfl) rfl rfl rfl (fun hb => Y.fieldE rfl Try.underlying49 rfl ti3 (by decide) (evg rfl hb)) ?_
        refine WQ.yldG rfl (blt rfl) rfl rfl rfl (fun hb => Y.load1 rfl Try.underlying3 rfl (evg rfl hb) (Ls.at_ext (h_p.ext xW) (by have q0 := (eq_f (not_t hb)); omega) rfl)) ?_
        refine WQ.yldG rfl (blt rfl) rfl rfl rfl (fun hb => Y.move rfl rfl) ?_
        refine WQ.yldG rfl (blt rfl) rfl rfl rfl (fun hb => Y.move rfl rfl) ?_
        refine WQ.yldG rfl (blt rfl) rfl rfl rfl (fun hb => Y.indexLs i (h_p.ext xW) rfl Try.underlying45 ti49 (evg rfl hb) (evg rfl hb) rfl (by have q0 := (eq_f (not_t hb)); omega)) ?_
        refine WQ.yldG rfl (blt rfl) rfl rfl rfl (fun hb => Y.fieldE rfl Try.underlying49 rfl ti3 (by decide) (evg rfl hb)) ?_
        refine WQ.yldG rfl (blt rfl) rfl rfl rfl (fun hb => Y.load1 rfl Try.underlying3 rfl (evg rfl hb) (Ls.at_ext (h_p.ext xW) (by have q0 := (eq_f (not_t hb)); omega) rfl)) ?_
        refine WQ.yldG rfl (blt rfl) rfl rfl rfl (fun hb => Y.eql rfl (evg rfl hb) (evg rfl hb)) ?_
        refine WQ.yld rfl (blt rfl) rfl (Y.and rfl rfl rfl rfl) ?_
        refine WQ.yld rfl (blt rfl) rfl (Y.move rfl rfl) ?_
        refine WQ.yldG rfl (blt rfl) rfl rfl rfl (fun hb => Y.move rfl rfl) ?_
        refine WQ.yldG rfl (blt rfl) rfl rfl rfl (fun hb => Y.move rfl rfl) ?_
        refine WQ.yldG rfl (blt rfl) rfl rfl rfl (fun hb => Y.indexLs i (h_p.ext xW) rfl Try.underlying45 ti49 (evg rfl hb) (evg rfl hb) rfl (by have q0 := (And.intro (eq_f (not_t (and_t hb).1)) (eq_t (and_t hb).2)); omega)) ?_
        refine WQ.yldG rfl (blt rfl) rfl rfl rfl (fun hb => Y.fieldE rfl Try.underlying49 rfl ti3 (by decide) (evg rfl hb)) ?_
        refine WQ.yldG rfl (blt rfl) rfl rfl rfl (fun hb => Y.load1 rfl Try.underlying3 rfl (evg rfl hb) (Ls.at_ext (h_p.ext xW) (by have q0 := (And.intro (eq_f (not_t (and_t hb).1)) (eq_t (and_t hb).2)); omega) rfl)) ?_
        refine WQ.yldG rfl (blt rfl) rfl rfl rfl (fun hb => Y.move rfl rfl) ?_
        refine WQ.yldG rfl (blt rfl) rfl rfl rfl (fun hb => Y.move rfl rfl) ?_
        refine WQ.yldG rfl (blt rfl) rfl rfl rfl (fun hb => Y.indexLs k (h_p.ext xW) rfl Try.underlying45 ti49 (evg rfl hb) (evg rfl hb) rfl (by have q0 := (And.intro (eq_f (not_t (and_t hb).1)) (eq_t (and_t hb).2)); omega)) ?_
        refine WQ.yldG rfl (blt rfl) rfl rfl rfl (fun hb => Y.fieldE rfl Try.underlying49 rfl ti3 (by decide) (evg rfl hb)) ?_
        refine WQ.yldG rfl (blt rfl) rfl rfl rfl (fun hb => Y.load1 rfl Try.underlying3 rfl (evg rfl hb) (Ls.at_ext (h_p.ext xW) (by have q0 := (And.intro (eq_f (not_t (and_t hb).1)) (eq_t (and_t hb).2)); omega) rfl)) ?_
        refine WQ.yldG rfl (blt rfl) rfl rfl rfl (fun hb => Y.leq rfl (evg rfl hb) (evg rfl hb)) ?_
        refine WQ.yld rfl (blt rfl) rfl (Y.and rfl rfl rfl rfl) ?_
        refine WQ.done (fun w106 x107 => ?_)
        have ow_vb := ow_vb.ext x107
        have xW := Ext.trans xW x107
        refine WK.then_normal (k105 _ _ ?_)
        refine WC.sub [(0, _), (1, _), (2, _), (7, _), (8, _), (9, _), (11, _), (92, _)] ⟨rfl, rfl, rfl, rfl, rfl, rfl, rfl, rfl, trivial⟩ ?_
        refine WC.cond rfl (fun h108 => ?_) (fun h108 => ?_)
        ·
          have p108 := (And.intro (And.intro (eq_f (not_t (and_t (and_t h108).1).1)) (eq_t (and_t (and_t h108).1).2)) (dec_t (and_t h108).2))
          have sb := Iv.str_bound (p[k]!.2 - p[i]!.2) (Ck.ppmF d p[i]!.1).1
          refine WC.seq (fun K109 k109 => ?_)
          obtain ⟨A110, n111, c112, rfl, hl113⟩ := OwnL.opened ow_vb (fun _ => rfl) (by decide)
          have e_n111 := hl113.len
          try simp only [List.length_append, List.length_cons, List.length_nil, List.length_reverse, List.length_drop, List.length_take, List.length_map, List.length_replicate, List.length_set] at e_n111
          have z_n111 := hl113.nle
          refine WC.regionX (fun W' => Ext w W' ∧ Ls W' A110 n111 c112 Bd.Ed.c 3 _) (.load 0 (.load 1 (.load 2 (.load 3 (.load 4 (.load 5 (.load 6 (.load 7 (.load 8 (.load 9 (.load 10 (.load 11 (.alt 12 (.load 13 (.load 14 (.load 15 (.alt 16 (.alt 17 (.load 18 (.fin)) (.none)) (.none))))) (.alt 16 (.alt 12 (.load 13 (.load 14 (.load 15 (.alt 17 (.load 18 (.fin)) (.none))))) (.none)) (.none))))))))))))))) ⟨xW, hl113⟩ (by kernel_rfl) (by kernel_rfl) (fun w114 x115 => ?_)
          have ow_vb := ow_vb.ext x115
          have hl113 := hl113.ext x115
          have xW := Ext.trans xW x115
          refine WX.yld rfl rfl (blt rfl) rfl (Y.move rfl rfl) ?_
          refine WX.yld rfl rfl (blt rfl) rfl (Y.move rfl rfl) ?_
          have b116 : k < n_p := by omega
          refine WX.yld rfl rfl (blt rfl) rfl (Y.indexLs k (h_p.ext xW) rfl Try.underlying45 ti49 rfl rfl rfl b116) ?_
          refine WX.yld rfl rfl (blt rfl) rfl (Y.fieldE rfl Try.underlying49 rfl ti3 (by decide) rfl) ?_
          refine WX.yld rfl rfl (blt rfl) rfl (Y.load1 rfl Try.underlying3 rfl rfl (Ls.at_c (fun _ h => (h_p.ext (h.1))) b116 rfl)) ?_
          refine WX.yld rfl rfl (blt rfl) rfl (Y.move rfl rfl) ?_
          refine WX.yld rfl rfl (blt rfl) rfl (Y.move rfl rfl) ?_
          have b117 : i < n_p := by omega
          refine WX.yld rfl rfl (blt rfl) rfl (Y.indexLs i (h_p.ext xW) rfl Try.underlying45 ti49 rfl rfl rfl b117) ?_
          refine WX.yld rfl rfl (blt rfl) rfl (Y.fieldE rfl Try.underlying49 rfl ti3 (by decide) rfl) ?_
          refine WX.yld rfl rfl (blt rfl) rfl (Y.load1 rfl Try.underlying3 rfl rfl (Ls.at_c (fun _ h => (h_p.ext (h.1))) b117 rfl)) ?_
          refine WX.yld rfl rfl (blt rfl) rfl (Y.sub rfl rfl rfl (wrap_i64 (by first | omega | (dsimp only; omega)))) ?_
          refine WX.yld rfl rfl (blt rfl) rfl (Y.move rfl rfl) ?_
          refine WX.alt ?_ ?_
          ·
            refine WX.call rfl rfl (blt rfl) rfl rfl rfl has55 rfl ⟨xW, hl113⟩ (rstretch_any _ _ _) ?_
            rintro _ w118 ⟨rfl, x119⟩
            refine ⟨_, rfl, ?_⟩
            have ow_vb := ow_vb.ext x119
            have hl113 := hl113.ext x119
            have xW := Ext.trans xW x119
            refine WX.yld rfl rfl (blt rfl) rfl (Y.move rfl rfl) ?_
            refine WX.yld rfl rfl (blt rfl) rfl (Y.extract rfl rfl rfl) ?_
            refine WX.yld rfl rfl (blt rfl) rfl (Y.extract rfl rfl rfl) ?_
            refine WX.run rfl rfl (blt rfl) rfl ⟨xW, hl113⟩ (Run.alloc rfl ti29 rfl) ?_
            rintro _ w121 ⟨g120, rfl, e122, x123, m124⟩
            have r_vb_g120 := ne_newO ow_vb e122
            have o_g120 := own_new xW e122
            have ow_vb := ow_vb.ext x123
            have hl113 := hl113.ext x123
            have xW := Ext.trans xW x123
            refine WX.storeB (cs' := [_, _]) rfl ⟨xW, hl113⟩ rfl rfl rfl rfl rfl rfl ti29 m124 (ble rfl) rfl rfl (fun w125 on126 m127 => ?_)
            have ow_vb := ow_vb.only r_vb_g120 on126
            have hl113 := OwnL.ls ow_vb (fun _ => rfl) (by decide)
            have xW := Ext.only xW on126 o_g120
            refine WX.yld rfl rfl (blt rfl) rfl (Y.assign rfl rfl) ?_
            refine WX.nil ⟨xW, hl113⟩ ?_
            refine WK.then_normal (k109 _ _ ?_)
            refine WC.sub [(0, _), (1, _), (2, _), (7, _), (8, _), (9, _), (11, _), (12, _)] ⟨rfl, rfl, rfl, rfl, rfl, rfl, rfl, rfl, trivial⟩ ?_
            refine WC.region rfl ?_
            refine WL.yld rfl (blt rfl) rfl (Y.move rfl rfl) ?_
            refine WL.yld rfl (blt rfl) rfl (Y.move rfl rfl) ?_
            refine WL.yld rfl (blt rfl) rfl (Y.move rfl rfl) ?_
            refine WL.yld rfl (blt rfl) rfl (Y.fieldAddr rfl Try.underlying29 rfl ti3 (by decide) rfl) ?_
            refine WL.yld rfl (blt rfl) rfl (Y.load1 rfl Try.underlying3 rfl rfl (Blk.at_eq m127 rfl)) ?_
            refine WL.yld rfl (blt rfl) rfl (Y.build (cells := [_, _, _]) rfl pl75 rfl rfl) ?_
            refine WL.yld rfl (blt rfl) rfl (Y.move rfl rfl) ?_
            refine WL.yld rfl (blt rfl) rfl (Y.move rfl rfl) ?_
            refine WL.yld rfl (blt rfl) rfl (Y.fieldAddr rfl Try.underlying29 rfl ti3 (by decide) rfl) ?_
            refine WL.yld rfl (blt rfl) rfl (Y.load1 rfl Try.underlying3 rfl rfl (Blk.at_eq m127 rfl)) ?_
            refine WL.yld rfl (blt rfl) rfl (Y.neg rfl rfl (wrap_i64 (by first | omega | (dsimp only; omega)))) ?_
            refine WL.yld rfl (blt rfl) rfl (Y.build (cells := [_, _, _]) rfl pl75 rfl rfl) ?_
            refine WL.bslice (zs := [.int .i64 0, .int .i64 0, .int .i64 0, .int .i64 0, .int .i64 0, .int .i64 0]) (cs := [_, _, _, _, _, _]) rfl (blt rfl) rfl rfl Try.underlying67 ti75 rfl (ble rfl) (by kernel_rfl) rfl rfl ?_
            intro g128 w129 e130 x131 m132
            have r_vb_g128 := ne_newO ow_vb e130
            have n_g120_g128 := ne_new m127 e130
            have o_g128 := own_new xW e130
            have ow_vb := ow_vb.ext x131
            have hl113 := hl113.ext x131
            have m127 := m127.ext x131
            have xW := Ext.trans xW x131
            refine WL.appendB (f := Bd.Ed.c) (news := [⟨i, k, (Iv.stretchF (p[k]!.2 - p[i]!.2) (Ck.ppmF d p[i]!.1).1).1.2⟩, ⟨k, i, -(Iv.stretchF (p[k]!.2 - p[i]!.2) (Ck.ppmF d p[i]!.1).1).1.1⟩]) rfl (blt rfl) rfl rfl rfl rfl Try.underlying67 ti75 rfl (by decide) rfl ow_vb (fun _ => rfl) Bd.Ed.one m132 rfl xW.size (by have q0 := Bd.rRows_len (d := d) (p := p) (i := i) (B := 400) (by omega) (by omega) (by omega); have q1 := Bd.rRow_len (d := d) (p := p) (i := i) (k := k) (B := 400) (by omega) (by omega); first | omega | (simp only [List.length_append, List.length_cons, List.length_nil, List.length_take, List.length_drop, List.length_reverse]; omega)) (Nat.le_trans (show _ ≤ 140737488355328 from by have q0 := Bd.rRows_len (d := d) (p := p) (i := i) (B := 400) (by omega) (by omega) (by omega); have q1 := Bd.rRow_len (d := d) (p := p) (i := i) (k := k) (B := 400) (by omega) (by omega); first | omega | (simp only [List.length_append, List.length_cons, List.length_nil, List.length_take, List.length_drop, List.length_reverse]; omega)) (by decide)) (fun v133 w134 ow135 gr136 nb137 => ?_)
            have r_v133_g120 := ne_app nb137 r_vb_g120 m127
            have m127 := m127.grown gr136 r_vb_g120
            have r_v133_g128 := ne_app nb137 r_vb_g128 m132
            have m132 := m132.grown gr136 r_vb_g128
            have xW := Ext.grown xW gr136 (fun b hb => (OwnL.lt ow_vb hb).1)
            refine WL.yld rfl (blt rfl) rfl (Y.assign rfl rfl) ?_
            refine WL.nil ?_
            refine WK.in_normal ?_
            refine WK.then_normal (k104 _ _ ?_)
            refine WC.sub [(0, _), (1, _), (2, _), (7, _), (8, _), (9, _), (11, _)] ⟨rfl, rfl, rfl, rfl, rfl, rfl, rfl, trivial⟩ ?_
            refine WC.region rfl ?_
            refine WL.yld rfl (blt rfl) rfl (Y.move rfl rfl) ?_
            refine WL.yld rfl (blt rfl) rfl (Y.add rfl rfl rfl (wrap_i64 (by first | omega | (dsimp only; omega)))) ?_
            refine WL.yld rfl (blt rfl) rfl (Y.assign rfl rfl) ?_
            refine WL.nil ?_
            refine WK.roundS _ [(11, .int .i64 (((k + 1) : Nat) : Int)), (7, v133)] ⟨rfl, rfl, rfl, rfl, rfl, rfl, rfl, trivial⟩ ?_ ⟨(k + 1), v133, rfl, rfl, xW, (by rw [Bd.rRow_next (show 1 ≤ k from by omega), Bd.rPair_yes h108, ← List.append_assoc]; exact ow135), (by omega)⟩
            show _ - (k + 1) < _ - k; omega
          refine WX.run rfl rfl (blt rfl) rfl ⟨xW, hl113⟩ (Run.alloc rfl ti29 rfl) ?_
          rintro _ w139 ⟨g138, rfl, e140, x141, m142⟩
          have r_vb_g138 := ne_newO ow_vb e140
          have o_g138 := own_new xW e140
          have ow_vb := ow_vb.ext x141
          have hl113 := hl113.ext x141
          have xW := Ext.trans xW x141
          refine WX.call rfl rfl (blt rfl) rfl rfl rfl has55 rfl ⟨xW, hl113⟩ (rstretch_any _ _ _) ?_
          rintro _ w143 ⟨rfl, x144⟩
          refine ⟨_, rfl, ?_⟩
          have ow_vb := ow_vb.ext x144
          have hl113 := hl113.ext x144
          have m142 := m142.ext x144
          have xW := Ext.trans xW x144
          refine WX.yld rfl rfl (blt rfl) rfl (Y.move rfl rfl) ?_
          refine WX.yld rfl rfl (blt rfl) rfl (Y.extract rfl rfl rfl) ?_
          refine WX.yld rfl rfl (blt rfl) rfl (Y.extract rfl rfl rfl) ?_
          refine WX.storeB (cs' := [_, _]) rfl ⟨xW, hl113⟩ rfl rfl rfl rfl rfl rfl ti29 m142 (ble rfl) rfl rfl (fun w145 on146 m147 => ?_)
          have ow_vb := ow_vb.only r_vb_g138 on146
          have hl113 := OwnL.ls ow_vb (fun _ => rfl) (by decide)
          have xW := Ext.only xW on146 o_g138
          refine WX.yld rfl rfl (blt rfl) rfl (Y.assign rfl rfl) ?_
          refine WX.nil ⟨xW, hl113⟩ ?_
          refine WK.then_normal (k109 _ _ ?_)
          refine WC.sub [(0, _), (1, _), (2, _), (7, _), (8, _), (9, _), (11, _), (12, _)] ⟨rfl, rfl, rfl, rfl, rfl, rfl, rfl, rfl, trivial⟩ ?_
          refine WC.region rfl ?_
          refine WL.yld rfl (blt rfl) rfl (Y.move rfl rfl) ?_
          refine WL.yld rfl (blt rfl) rfl (Y.move rfl rfl) ?_
          refine WL.yld rfl (blt rfl) rfl (Y.move rfl rfl) ?_
          refine WL.yld rfl (blt rfl) rfl (Y.fieldAddr rfl Try.underlying29 rfl ti3 (by decide) rfl) ?_
          refine WL.yld rfl (blt rfl) rfl (Y.load1 rfl Try.underlying3 rfl rfl (Blk.at_eq m147 rfl)) ?_
          refine WL.yld rfl (blt rfl) rfl (Y.build (cells := [_, _, _]) rfl pl75 rfl rfl) ?_
          refine WL.yld rfl (blt rfl) rfl (Y.move rfl rfl) ?_
          refine WL.yld rfl (blt rfl) rfl (Y.move rfl rfl) ?_
          refine WL.yld rfl (blt rfl) rfl (Y.fieldAddr rfl Try.underlying29 rfl ti3 (by decide) rfl) ?_
          refine WL.yld rfl (blt rfl) rfl (Y.load1 rfl Try.underlying3 rfl rfl (Blk.at_eq m147 rfl)) ?_
          refine WL.yld rfl (blt rfl) rfl (Y.neg rfl rfl (wrap_i64 (by first | omega | (dsimp only; omega)))) ?_
          refine WL.yld rfl (blt rfl) rfl (Y.build (cells := [_, _, _]) rfl pl75 rfl rfl) ?_
          refine WL.bslice (zs := [.int .i64 0, .int .i64 0, .int .i64 0, .int .i64 0, .int .i64 0, .int .i64 0]) (cs := [_, _, _, _, _, _]) rfl (blt rfl) rfl rfl Try.underlying67 ti75 rfl (ble rfl) (by kernel_rfl) rfl rfl ?_
          intro g148 w149 e150 x151 m152
          have r_vb_g148 := ne_newO ow_vb e150
          have n_g138_g148 := ne_new m147 e150
          have o_g148 := own_new xW e150
          have ow_vb := ow_vb.ext x151
          have hl113 := hl113.ext x151
          have m147 := m147.ext x151
          have xW := Ext.trans xW x151
          refine WL.appendB (f := Bd.Ed.c) (news := [⟨i, k, (Iv.stretchF (p[k]!.2 - p[i]!.2) (Ck.ppmF d p[i]!.1).1).1.2⟩, ⟨k, i, -(Iv.stretchF (p[k]!.2 - p[i]!.2) (Ck.ppmF d p[i]!.1).1).1.1⟩]) rfl (blt rfl) rfl rfl rfl rfl Try.underlying67 ti75 rfl (by decide) rfl ow_vb (fun _ => rfl) Bd.Ed.one m152 rfl xW.size (by have q0 := Bd.rRows_len (d := d) (p := p) (i := i) (B := 400) (by omega) (by omega) (by omega); have q1 := Bd.rRow_len (d := d) (p := p) (i := i) (k := k) (B := 400) (by omega) (by omega); first | omega | (simp only [List.length_append, List.length_cons, List.length_nil, List.length_take, List.length_drop, List.length_reverse]; omega)) (Nat.le_trans (show _ ≤ 140737488355328 from by have q0 := Bd.rRows_len (d := d) (p := p) (i := i) (B := 400) (by omega) (by omega) (by omega); have q1 := Bd.rRow_len (d := d) (p := p) (i := i) (k := k) (B := 400) (by omega) (by omega); first | omega | (simp only [List.length_append, List.length_cons, List.length_nil, List.length_take, List.length_drop, List.length_reverse]; omega)) (by decide)) (fun v153 w154 ow155 gr156 nb157 => ?_)
          have r_v153_g138 := ne_app nb157 r_vb_g138 m147
          have m147 := m147.grown gr156 r_vb_g138
          have r_v153_g148 := ne_app nb157 r_vb_g148 m152
          have m152 := m152.grown gr156 r_vb_g148
          have xW := Ext.grown xW gr156 (fun b hb => (OwnL.lt ow_vb hb).1)
          refine WL.yld rfl (blt rfl) rfl (Y.assign rfl rfl) ?_
          refine WL.nil ?_
          refine WK.in_normal ?_
          refine WK.then_normal (k104 _ _ ?_)
          refine WC.sub [(0, _), (1, _), (2, _), (7, _), (8, _), (9, _), (11, _)] ⟨rfl, rfl, rfl, rfl, rfl, rfl, rfl, trivial⟩ ?_
          refine WC.region rfl ?_
          refine WL.yld rfl (blt rfl) rfl (Y.move rfl rfl) ?_
          refine WL.yld rfl (blt rfl) rfl (Y.add rfl rfl rfl (wrap_i64 (by first | omega | (dsimp only; omega)))) ?_
          refine WL.yld rfl (blt rfl) rfl (Y.assign rfl rfl) ?_
          refine WL.nil ?_
          refine WK.roundS _ [(11, .int .i64 (((k + 1) : Nat) : Int)), (7, v153)] ⟨rfl, rfl, rfl, rfl, rfl, rfl, rfl, trivial⟩ ?_ ⟨(k + 1), v153, rfl, rfl, xW, (by rw [Bd.rRow_next (show 1 ≤ k from by omega), Bd.rPair_yes h108, ← List.append_assoc]; exact ow155), (by omega)⟩
          show _ - (k + 1) < _ - k; omega
        ·
          have p108 := ((and_f h108).imp (fun h => ((and_f h).imp (fun h => (eq_t (not_f h))) (fun h => (eq_f h)))) (fun h => (dec_f h)))
          refine WC.skip ?_
          refine WK.in_normal ?_
          refine WK.then_normal (k104 _ _ ?_)
          refine WC.sub [(0, _), (1, _), (2, _), (7, _), (8, _), (9, _), (11, _)] ⟨rfl, rfl, rfl, rfl, rfl, rfl, rfl, trivial⟩ ?_
          refine WC.region rfl ?_
          refine WL.yld rfl (blt rfl) rfl (Y.move rfl rfl) ?_
          refine WL.yld rfl (blt rfl) rfl (Y.add rfl rfl rfl (wrap_i64 (by first | omega | (dsimp only; omega)))) ?_
          refine WL.yld rfl (blt rfl) rfl (Y.assign rfl rfl) ?_
          refine WL.nil ?_
          refine WK.roundS _ [(11, .int .i64 (((k + 1) : Nat) : Int)), (7, vb)] ⟨rfl, rfl, rfl, rfl, rfl, rfl, rfl, trivial⟩ ?_ ⟨(k + 1), vb, rfl, rfl, xW, (by rw [Bd.rRow_next (show 1 ≤ k from by omega), Bd.rPair_no h108, List.append_nil]; exact ow_vb), (by omega)⟩
          show _ - (k + 1) < _ - k; omega
      ·
        have p103 := (dec_f h103)
        refine WC.exit ?_
        refine WK.then_exit ?_
        refine WK.then_exit ?_
        refine WK.in_exit ?_
        refine WK.in_normal ?_
        refine WK.then_normal (k9 _ _ ?_)
        refine WC.sub [(0, _), (1, _), (2, _), (7, _), (8, _)] ⟨rfl, rfl, rfl, rfl, rfl, trivial⟩ ?_
        refine WC.region rfl ?_
        refine WL.yld rfl (blt rfl) rfl (Y.move rfl rfl) ?_
        refine WL.yld rfl (blt rfl) rfl (Y.add rfl rfl rfl (wrap_i64 (by first | omega | (dsimp only; omega)))) ?_
        refine WL.yld rfl (blt rfl) rfl (Y.assign rfl rfl) ?_
        refine WL.nil ?_
        refine WK.roundS _ [(8, .int .i64 (((i + 1) : Nat) : Int)), (7, vb)] ⟨rfl, rfl, rfl, rfl, rfl, trivial⟩ ?_ ⟨(i + 1), vb, rfl, rfl, xW, (by rw [Bd.rRows_next (show 1 ≤ i from by omega), show p.length = k from by omega]; exact ow_vb), (by omega)⟩
        show _ - (i + 1) < _ - i; omega
  ·
    have p8 := (dec_f h8)
    refine WC.exit ?_
    refine WK.then_exit ?_
    refine WK.then_exit ?_
    refine WK.in_exit ?_
    refine WK.then_normal (k3 _ _ ?_)
    refine WC.sub [(1, _), (2, _), (7, _)] ⟨rfl, rfl, rfl, trivial⟩ ?_
    refine WC.seq (fun K158 k158 => ?_)
    refine WC.seq (fun K159 k159 => ?_)
    refine WC.region rfl ?_
    refine WL.yld rfl (blt rfl) rfl (Y.assign rfl rfl) ?_
    refine WL.nil ?_
    refine WK.then_normal (k159 _ _ ?_)
    refine WC.block ?_
    refine WC.sub [(14, _), (7, _), (1, _), (2, _)] ⟨rfl, rfl, rfl, rfl, trivial⟩ ?_
    refine WC.loopS 2 (fun mz Ed W' => ∃ q : Nat, ∃ vd : Value, mz = n_l - q ∧ Ed = [(14, .int .i64 ((q : Nat) : Int)), (7, vd)] ∧ Ext w W' ∧ OwnL W' w.heap.size 75 Bd.Ed.c 3 vd (Bd.rRows d p i ++ (l.take q).flatMap (Bd.rSnap p)) ∧ (q ≤ n_l)) _ ⟨0, _, rfl, rfl, xW, (by rw [List.take_zero, List.flatMap_nil, List.append_nil]; exact ow_va), (Nat.zero_le _)⟩ ?_
    rintro _ _ w160 ⟨q, vd, rfl, rfl, xW, ow_vd, le_q⟩
    refine WC.sub [(14, _), (7, _), (1, _), (2, _)] ⟨rfl, rfl, rfl, rfl, trivial⟩ ?_
    refine WC.seq (fun K161 k161 => ?_)
    refine WC.seq (fun K162 k162 => ?_)
    refine WC.region rfl ?_
    refine WL.yld rfl (blt rfl) rfl (Y.move rfl rfl) ?_
    refine WL.yld rfl (blt rfl) rfl (Y.move rfl rfl) ?_
    refine WL.yld rfl (blt rfl) rfl (Y.lenSl rfl rfl rfl Try.underlying23 rfl) ?_
    refine WL.yld rfl (blt rfl) rfl (Y.lss rfl rfl rfl) ?_
    refine WL.nil ?_
    refine WK.then_normal (k162 _ _ ?_)
    refine WC.sub [(1, _), (2, _), (7, _), (14, _), (126, _)] ⟨rfl, rfl, rfl, rfl, rfl, trivial⟩ ?_
    refine WC.cond rfl (fun h163 => ?_) (fun h163 => ?_)
    ·
      have p163 := (dec_t h163)
      refine WC.skip ?_
      refine WK.then_normal (k161 _ _ ?_)
      refine WC.sub [(1, _), (2, _), (7, _), (14, _)] ⟨rfl, rfl, rfl, rfl, trivial⟩ ?_
      refine WC.seq (fun K164 k164 => ?_)
      refine WC.block ?_
      refine WC.seq (fun K165 k165 => ?_)
      refine WC.regionDq (by kernel_rfl) (by kernel_rfl) rfl ?_
      refine WQ.yld rfl (blt rfl) rfl (Y.move rfl rfl) ?_
      refine WQ.yld rfl (blt rfl) rfl (Y.move rfl rfl) ?_
      refine WQ.yld rfl (blt rfl) rfl (Y.move rfl rfl) ?_
      have b166 : q < n_l := by omega
      refine WQ.yld rfl (blt rfl) rfl (Y.indexLs q (h_l.ext xW) rfl Try.underlying23 ti42 rfl rfl rfl b166) ?_
      refine WQ.yld rfl (blt rfl) rfl (Y.fieldE rfl Try.underlying42 rfl ti3 (by decide) rfl) ?_
      refine WQ.yld rfl (blt rfl) rfl (Y.load1 rfl Try.underlying3 rfl rfl (Ls.at_ext (h_l.ext xW) b166 rfl)) ?_
      refine WQ.yld rfl (blt rfl) rfl (Y.move rfl rfl) ?_
      refine WQ.yld rfl (blt rfl) rfl (Y.move rfl rfl) ?_
      have b167 : q < n_l := by omega
      refine WQ.yld rfl (blt rfl) rfl (Y.indexLs q (h_l.ext xW) rfl Try.underlying23 ti42 rfl rfl rfl b167) ?_
      refine WQ.yld rfl (blt rfl) rfl (Y.fieldE rfl Try.underlying42 rfl ti3 (by decide) rfl) ?_
      refine WQ.yld rfl (blt rfl) rfl (Y.load1 rfl Try.underlying3 rfl rfl (Ls.at_ext (h_l.ext xW) b167 rfl)) ?_
      refine WQ.yld rfl (blt rfl) rfl (Y.build (cells := [_, _]) rfl pl49 rfl rfl) ?_
      refine WQ.call rfl (blt rfl) rfl rfl rfl has35 rfl (fun w hw => calls_ext hw (find_any _ _ _ _ (l[q]!.a, l[q]!.ata) _ (Ls.ext (h_p.ext xW) hw))) ?_
      refine WQ.yld rfl (blt rfl) rfl (Y.assign rfl rfl) ?_
      refine WQ.done (fun w168 x169 => ?_)
      have ow_vd := ow_vd.ext x169
      have xW := Ext.trans xW x169
      refine WK.then_normal (k165 _ _ ?_)
      refine WC.sub [(1, _), (2, _), (7, _), (14, _), (15, _)] ⟨rfl, rfl, rfl, rfl, rfl, trivial⟩ ?_
      refine WC.seq (fun K170 k170 => ?_)
      refine WC.regionDq (by kernel_rfl) (by kernel_rfl) rfl ?_
      refine WQ.yld rfl (blt rfl) rfl (Y.move rfl rfl) ?_
      refine WQ.yld rfl (blt rfl) rfl (Y.move rfl rfl) ?_
      refine WQ.yld rfl (blt rfl) rfl (Y.move rfl rfl) ?_
      have b171 : q < n_l := by omega
      refine WQ.yld rfl (blt rfl) rfl (Y.indexLs q (h_l.ext xW) rfl Try.underlying23 ti42 rfl rfl rfl b171) ?_
      refine WQ.yld rfl (blt rfl) rfl (Y.fieldE rfl Try.underlying42 rfl ti3 (by decide) rfl) ?_
      refine WQ.yld rfl (blt rfl) rfl (Y.load1 rfl Try.underlying3 rfl rfl (Ls.at_ext (h_l.ext xW) b171 rfl)) ?_
      refine WQ.yld rfl (blt rfl) rfl (Y.move rfl rfl) ?_
      refine WQ.yld rfl (blt rfl) rfl (Y.move rfl rfl) ?_
      have b172 : q < n_l := by omega
      refine WQ.yld rfl (blt rfl) rfl (Y.indexLs q (h_l.ext xW) rfl Try.underlying23 ti42 rfl rfl rfl b172) ?_
      refine WQ.yld rfl (blt rfl) rfl (Y.fieldE rfl Try.underlying42 rfl ti29 (by decide) rfl) ?_
      refine WQ.yld rfl (blt rfl) rfl (Y.fieldE rfl Try.underlying29 rfl ti3 (by decide) rfl) ?_
      refine WQ.yld rfl (blt rfl) rfl (Y.load1 rfl Try.underlying3 rfl rfl (Ls.at_ext (h_l.ext xW) b172 rfl)) ?_
      refine WQ.yld rfl (blt rfl) rfl (Y.build (cells := [_, _]) rfl pl49 rfl rfl) ?_
      refine WQ.call rfl (blt rfl) rfl rfl rfl has35 rfl (fun w hw => calls_ext hw (find_any _ _ _ _ (l[q]!.b, l[q]!.lo) _ (Ls.ext (h_p.ext xW) hw))) ?_
      refine WQ.yld rfl (blt rfl) rfl (Y.assign rfl rfl) ?_
      refine WQ.done (fun w173 x174 => ?_)
      have ow_vd := ow_vd.ext x174
      have xW := Ext.trans xW x174
      refine WK.then_normal (k170 _ _ ?_)
      refine WC.sub [(1, _), (2, _), (7, _), (14, _), (15, _), (16, _)] ⟨rfl, rfl, rfl, rfl, rfl, rfl, trivial⟩ ?_
      refine WC.seq (fun K175 k175 => ?_)
      refine WC.regionDq (by kernel_rfl) (by kernel_rfl) rfl ?_
      refine WQ.yld rfl (blt rfl) rfl (Y.move rfl rfl) ?_
      refine WQ.yld rfl (blt rfl) rfl (Y.move rfl rfl) ?_
      refine WQ.yld rfl (blt rfl) rfl (Y.move rfl rfl) ?_
      have b176 : q < n_l := by omega
      refine WQ.yld rfl (blt rfl) rfl (Y.indexLs q (h_l.ext xW) rfl Try.underlying23 ti42 rfl rfl rfl b176) ?_
      refine WQ.yld rfl (blt rfl) rfl (Y.fieldE rfl Try.underlying42 rfl ti3 (by decide) rfl) ?_
      refine WQ.yld rfl (blt rfl) rfl (Y.load1 rfl Try.underlying3 rfl rfl (Ls.at_ext (h_l.ext xW) b176 rfl)) ?_
      refine WQ.yld rfl (blt rfl) rfl (Y.move rfl rfl) ?_
      refine WQ.yld rfl (blt rfl) rfl (Y.move rfl rfl) ?_
      have b177 : q < n_l := by omega
      refine WQ.yld rfl (blt rfl) rfl (Y.indexLs q (h_l.ext xW) rfl Try.underlying23 ti42 rfl rfl rfl b177) ?_
      refine WQ.yld rfl (blt rfl) rfl (Y.fieldE rfl Try.underlying42 rfl ti29 (by decide) rfl) ?_
      refine WQ.yld rfl (blt rfl) rfl (Y.fieldE rfl Try.underlying29 rfl ti3 (by decide) rfl) ?_
      refine WQ.yld rfl (blt rfl) rfl (Y.load1 rfl Try.underlying3 rfl rfl (Ls.at_ext (h_l.ext xW) b177 rfl)) ?_
      refine WQ.yld rfl (blt rfl) rfl (Y.build (cells := [_, _]) rfl pl49 rfl rfl) ?_
      refine WQ.call rfl (blt rfl) rfl rfl rfl has35 rfl (fun w hw => calls_ext hw (find_any _ _ _ _ (l[q]!.b, l[q]!.hi) _ (Ls.ext (h_p.ext xW) hw))) ?_
      refine WQ.yld rfl (blt rfl) rfl (Y.assign rfl rfl) ?_
      refine WQ.done (fun w178 x179 => ?_)
      have ow_vd := ow_vd.ext x179
      have xW := Ext.trans xW x179
      refine WK.then_normal (k175 _ _ ?_)
      refine WC.sub [(1, _), (2, _), (7, _), (14, _), (15, _), (16, _), (17, _)] ⟨rfl, rfl, rfl, rfl, rfl, rfl, rfl, trivial⟩ ?_
      refine WC.region rfl ?_
      refine WL.yld rfl (blt rfl) rfl (Y.move rfl rfl) ?_
      refine WL.yld rfl (blt rfl) rfl (Y.move rfl rfl) ?_
      refine WL.yld rfl (blt rfl) rfl (Y.move rfl rfl) ?_
      refine WL.yld rfl (blt rfl) rfl (Y.build (cells := [_, _, _]) rfl pl75 rfl rfl) ?_
      refine WL.yld rfl (blt rfl) rfl (Y.move rfl rfl) ?_
      refine WL.yld rfl (blt rfl) rfl (Y.move rfl rfl) ?_
      refine WL.yld rfl (blt rfl) rfl (Y.build (cells := [_, _, _]) rfl pl75 rfl rfl) ?_
      refine WL.bslice (zs := [.int .i64 0, .int .i64 0, .int .i64 0, .int .i64 0, .int .i64 0, .int .i64 0]) (cs := [_, _, _, _, _, _]) rfl (blt rfl) rfl rfl Try.underlying67 ti75 rfl (ble rfl) (by kernel_rfl) rfl rfl ?_
      intro g180 w181 e182 x183 m184
      have r_vd_g180 := ne_newO ow_vd e182
      have o_g180 := own_new xW e182
      have ow_vd := ow_vd.ext x183
      have xW := Ext.trans xW x183
      refine WL.appendB (f := Bd.Ed.c) (news := Bd.rSnap p l[q]!) rfl (blt rfl) rfl rfl rfl rfl Try.underlying67 ti75 rfl (by decide) rfl ow_vd (fun _ => rfl) Bd.Ed.one m184 rfl xW.size (by have q0 := Bd.rRows_len (d := d) (p := p) (i := i) (B := 400) (by omega) (by omega) (by omega); have q1 := Bd.rSnaps_len (p := p) (m := l.take q); have q2 := List.length_take_le q l; have q3 := (show (Bd.rSnap p l[q]!).length = 2 from rfl); first | omega | (simp only [List.length_append, List.length_cons, List.length_nil, List.length_take, List.length_drop, List.length_reverse]; omega)) (Nat.le_trans (show _ ≤ 140737488355328 from by have q0 := Bd.rRows_len (d := d) (p := p) (i := i) (B := 400) (by omega) (by omega) (by omega); have q1 := Bd.rSnaps_len (p := p) (m := l.take q); have q2 := List.length_take_le q l; have q3 := (show (Bd.rSnap p l[q]!).length = 2 from rfl); first | omega | (simp only [List.length_append, List.length_cons, List.length_nil, List.length_take, List.length_drop, List.length_reverse]; omega)) (by decide)) (fun v185 w186 ow187 gr188 nb189 => ?_)
      have r_v185_g180 := ne_app nb189 r_vd_g180 m184
      have m184 := m184.grown gr188 r_vd_g180
      have xW := Ext.grown xW gr188 (fun b hb => (OwnL.lt ow_vd hb).1)
      refine WL.yld rfl (blt rfl) rfl (Y.assign rfl rfl) ?_
      refine WL.nil ?_
      refine WK.in_normal ?_
      refine WK.then_normal (k164 _ _ ?_)
      refine WC.sub [(1, _), (2, _), (7, _), (14, _)] ⟨rfl, rfl, rfl, rfl, trivial⟩ ?_
      refine WC.region rfl ?_
      refine WL.yld rfl (blt rfl) rfl (Y.move rfl rfl) ?_
      refine WL.yld rfl (blt rfl) rfl (Y.add rfl rfl rfl (wrap_i64 (by first | omega | (dsimp only; omega)))) ?_
      refine WL.yld rfl (blt rfl) rfl (Y.assign rfl rfl) ?_
      refine WL.nil ?_
      refine WK.roundS _ [(14, .int .i64 (((q + 1) : Nat) : Int)), (7, v185)] ⟨rfl, rfl, rfl, rfl, trivial⟩ ?_ ⟨(q + 1), v185, rfl, rfl, xW, (by rw [take_bang (show q < l.length from by omega), List.flatMap_append, ← List.append_assoc]; exact ow187), (by omega)⟩
      show _ - (q + 1) < _ - q; omega
    ·
      have p163 := (dec_f h163)
      refine WC.exit ?_
      refine WK.then_exit ?_
      refine WK.then_exit ?_
      refine WK.in_exit ?_
      refine WK.then_normal (k158 _ _ ?_)
      refine WC.sub [(7, _)] ⟨rfl, trivial⟩ ?_
      refine WC.seq (fun K190 k190 => ?_)
      refine WC.region rfl ?_
      refine WL.yld rfl (blt rfl) rfl (Y.move rfl rfl) ?_
      refine WL.yld rfl (blt rfl) rfl (Y.assign rfl rfl) ?_
      refine WL.nil ?_
      refine WK.then_normal (k190 _ _ ?_)
      refine WC.sub [(6, _)] ⟨rfl, trivial⟩ ?_
      refine WC.ret ?_
      clear k1 k2 k3 k4 k6 k7 k158 k159 k161 k162 k190
      refine WK.ret [_] rfl ⟨rfl, trivial⟩ ?_
      have hq := ow_vd
      rw [List.take_of_length_le (show l.length ≤ q from by omega), Bd.rRows_end (d := d) (show p.length ≤ i from by omega) (by omega)] at hq
      exact ⟨_, rfl, hq, xW⟩
end RE
end BdW

end Go.Proofs.Ytaglpampidlbmaa

namespace Go.Proofs.Ytaglpampidlbmaa
open Go Go.Eng Go.RowKit
set_option linter.unusedVariables false
set_option linter.unusedSimpArgs false
namespace BdW
open N RL NumF LB GR CkW CkW.P CkW.K CkW.R CkW.RP B OF MY RP_ RE
namespace RI
theorem ti3 : TI Try.prog 3 (.int .i64 0) 1 8 := TI.mk (by kernel_rfl)
theorem ti75 : TI Try.prog 75 (.agg #[.int .i64 0, .int .i64 0, .int .i64 0]) 3 24 := TI.mk (by kernel_rfl)
theorem improved_any (A_es : Option Addr) (n_es c_es : Nat) (es : List Bd.Ed) (A_dl : Option Addr) (n_dl c_dl : Nat) (dl : List Int) (w : World) (h_es : Ls w A_es n_es c_es Bd.Ed.c 3 es) (h_dl : Ls w A_dl n_dl c_dl Ck.ic 1 dl) (W : Int) (M : Int) (N : Nat) (Bc : Int) (hW : 0 ≤ W) (hM : M = (es.length : Int) * W) (hM0 : 0 ≤ M) (hok : ∀ e ∈ es, Bd.EdOK N W e) (hN : dl.length = N) (hb : Bd.Bnd Bd.rF Bc dl) (hB0 : 0 ≤ Bc) (hroom : Bc + M + W < Bd.rF) (hN2 : N ≤ 1000) :
    Calls Try.prog 58 #[.slice A_es n_es c_es, .slice A_dl n_dl c_dl] w fun e w' => ∃ v, e = .returned (.tuple #[v, .bool (!(Bd.round Bd.rF es dl).2)]) ∧ OwnL w' w.heap.size 3 Ck.ic 1 v (Bd.round Bd.rF es dl).1 ∧ Ext w w' := by
  have xW := Ext.refl w
  have e_es := h_es.len
  have z_es := h_es.nle
  have e_dl := h_dl.len
  have z_dl := h_dl.nle
  have hfar : Bd.rF = 1152921504606846976 := rfl
  refine calls_of_WC (args := [.slice A_es n_es c_es, .slice A_dl n_dl c_dl]) Try.func58 rfl rfl (ble rfl) ?_
  refine WC.seq (fun K1 k1 => ?_)
  refine WC.region rfl ?_
  refine WL.yld rfl (blt rfl) rfl (Y.assign rfl rfl) ?_
  refine WL.yld rfl (blt rfl) rfl (Y.assign rfl rfl) ?_
  refine WL.nil ?_
  refine WK.then_normal (k1 _ _ ?_)
  refine WC.sub [(0, _), (1, _)] ⟨rfl, rfl, trivial⟩ ?_
  refine WC.seq (fun K2 k2 => ?_)
  refine WC.region rfl ?_
  refine WL.bslice0 rfl (blt rfl) rfl rfl Try.underlying35 ti3 ?_
  intro g3 w4 e5 x6 m7
  have o_g3 := own_new xW e5
  have xW := Ext.trans xW x6
  refine WL.yld rfl (blt rfl) rfl (Y.move rfl rfl) ?_
  have ob8 := Blk.own (sz := 1) (f := Ck.ic) (l := ([] : List Int)) (base := w.heap.size) m7 o_g3 (fun _ => rfl) rfl (by decide) rfl
  refine WL.appendL (f := Ck.ic) rfl (blt rfl) rfl rfl rfl rfl Try.underlying35 ti3 rfl (by decide) rfl ob8 (fun _ => rfl) Ck.ic_one (h_dl.ext xW) xW.size (by first | omega | (simp only [List.length_append, List.length_cons, List.length_nil, List.length_take, List.length_drop, List.length_reverse]; omega)) (Nat.le_trans (show _ ≤ 140737488355328 from by first | omega | (simp only [List.length_append, List.length_cons, List.length_nil, List.length_take, List.length_drop, List.length_reverse]; omega)) (by decide)) (fun v9 w10 ow11 gr12 nb13 => ?_)
  have xW := Ext.grown xW gr12 (fun b hb => (OwnL.lt ob8 hb).1)
  refine WL.yld rfl (blt rfl) rfl (Y.assign rfl rfl) ?_
  refine WL.nil ?_
  refine WK.then_normal (k2 _ _ ?_)
  refine WC.sub [(0, _), (6, _)] ⟨rfl, rfl, trivial⟩ ?_
  refine WC.seq (fun K14 k14 => ?_)
  refine WC.region rfl ?_
  refine WL.yld rfl (blt rfl) rfl (Y.assign rfl rfl) ?_
  refine WL.nil ?_
  refine WK.then_normal (k14 _ _ ?_)
  refine WC.seq (fun K15 k15 => ?_)
  refine WC.seq (fun K16 k16 => ?_)
  refine WC.region rfl ?_
  refine WL.yld rfl (blt rfl) rfl (Y.assign rfl rfl) ?_
  refine WL.nil ?_
  refine WK.then_normal (k16 _ _ ?_)
  refine WC.block ?_
  refine WC.sub [(8, _), (7, _), (6, _), (0, _)] ⟨rfl, rfl, rfl, rfl, trivial⟩ ?_
  refine WC.loopS 3 (fun mz Ed W' => ∃ j : Nat, ∃ c2 : List Int, ∃ b2 : Bool, ∃ Bj : Int, ∃ vr : Value, mz = n_es - j ∧ Ed = [(8, .int .i64 ((j : Nat) : Int)), (7, .bool (!b2)), (6, vr)] ∧ Ext w W' ∧ OwnL W' w.heap.size 3 Ck.ic 1 vr (c2) ∧ (j ≤ n_es) ∧ (c2.length = N) ∧ (Bd.Bnd Bd.rF Bj c2) ∧ (0 ≤ Bj) ∧ (Bj + ((n_es - j : Nat) : Int) * W ≤ Bc + M) ∧ ((es.take j).foldl (Bd.relax1 Bd.rF) (dl, true) = (c2, b2))) _ ⟨0, dl, true, Bc, _, rfl, rfl, xW, (by have q := ow11; rw [List.nil_append] at q; exact q), (by omega), hN, hb, hB0, (by rw [Nat.sub_zero, hM, e_es]; exact Int.le_refl _), rfl⟩ ?_
  rintro _ _ w17 ⟨j, c2, b2, Bj, vr, rfl, rfl, xW, ow_vr, le_j, cl2, bj, bj0, roomj, inv_j⟩
  refine WC.sub [(8, _), (7, _), (6, _), (0, _)] ⟨rfl, rfl, rfl, rfl, trivial⟩ ?_
  refine WC.seq (fun K18 k18 => ?_)
  refine WC.seq (fun K19 k19 => ?_)
  refine WC.region rfl ?_
  refine WL.yld rfl (blt rfl) rfl (Y.move rfl rfl) ?_
  refine WL.yld rfl (blt rfl) rfl (Y.move rfl rfl) ?_
  refine WL.yld rfl (blt rfl) rfl (Y.lenSl rfl rfl rfl Try.underlying67 rfl) ?_
  refine WL.yld rfl (blt rfl) rfl (Y.lss rfl rfl rfl) ?_
  refine WL.nil ?_
  refine WK.then_normal (k19 _ _ ?_)
  refine WC.sub [(0, _), (6, _), (7, _), (8, _), (16, _)] ⟨rfl, rfl, rfl, rfl, rfl, trivial⟩ ?_
  refine WC.cond rfl (fun h20 => ?_) (fun h20 => ?_)
  ·
    have p20 := (dec_t h20)
    have hjj := Bd.mulS (K := n_es) (k := j) hW (by omega)
    obtain ⟨hj1, hj2, hj3, hj4, hj5, hj6⟩ := hok _ (bang_mem (show j < es.length by omega))
    have huu := Bd.at_nat bj cl2 hj1 hj2
    have hvv := Bd.at_nat bj cl2 hj3 hj4
    refine WC.skip ?_
    refine WK.then_normal (k18 _ _ ?_)
    refine WC.sub [(0, _), (6, _), (7, _), (8, _)] ⟨rfl, rfl, rfl, rfl, trivial⟩ ?_
    refine WC.seq (fun K21 k21 => ?_)
    refine WC.block ?_
    refine WC.seq (fun K22 k22 => ?_)
    refine WC.regionDq (by kernel_rfl) (by kernel_rfl) rfl ?_
    refine WQ.yld rfl (blt rfl) rfl (Y.move rfl rfl) ?_
    refine WQ.yld rfl (blt rfl) rfl (Y.move rfl rfl) ?_
    refine WQ.yld rfl (blt rfl) rfl (Y.move rfl rfl) ?_
    have b23 : j < n_es := by omega
    refine WQ.yld rfl (blt rfl) rfl (Y.indexLs j (h_es.ext xW) rfl Try.underlying67 ti75 rfl rfl rfl b23) ?_
    refine WQ.yld rfl (blt rfl) rfl (Y.fieldE rfl Try.underlying75 rfl ti3 (by decide) rfl) ?_
    refine WQ.yld rfl (blt rfl) rfl (Y.load1 rfl Try.underlying3 rfl rfl (Ls.at_ext (h_es.ext xW) b23 rfl)) ?_
    obtain ⟨A24, n25, c26, rfl, hl27⟩ := OwnL.opened ow_vr (fun _ => rfl) (by decide)
    have e_n25 := hl27.len
    try simp only [List.length_append, List.length_cons, List.length_nil, List.length_reverse, List.length_drop, List.length_take, List.length_map, List.length_replicate, List.length_set] at e_n25
    have z_n25 := hl27.nle
    have b28 : es[j]!.u.toNat < n25 := by omega
    refine WQ.yld rfl (blt rfl) rfl (Y.indexLs es[j]!.u.toNat hl27 rfl Try.underlying35 ti3 rfl rfl (by omega) b28) ?_
    refine WQ.yld rfl (blt rfl) rfl (Y.load1 rfl Try.underlying3 rfl rfl (Ls.at_ext hl27 b28 rfl)) ?_
    refine WQ.yld rfl (blt rfl) rfl (Y.move rfl rfl) ?_
    refine WQ.yld rfl (blt rfl) rfl (Y.move rfl rfl) ?_
    have b29 : j < n_es := by omega
    refine WQ.yld rfl (blt rfl) rfl (Y.indexLs j (h_es.ext xW) rfl Try.underlying67 ti75 rfl rfl rfl b29) ?_
    refine WQ.yld rfl (blt rfl) rfl (Y.fieldE rfl Try.underlying75 rfl ti3 (by decide) rfl) ?_
    refine WQ.yld rfl (blt rfl) rfl (Y.load1 rfl Try.underlying3 rfl rfl (Ls.at_ext (h_es.ext xW) b29 rfl)) ?_
    refine WQ.yld rfl (blt rfl) rfl (Y.add rfl rfl rfl (wrap_i64 (by first | omega | (dsimp only; omega)))) ?_
    refine WQ.yld rfl (blt rfl) rfl (Y.assign rfl rfl) ?_
    refine WQ.done (fun w30 x31 => ?_)
    have ow_vr := ow_vr.ext x31
    have hl27 := hl27.ext x31
    have xW := Ext.trans xW x31
    refine WK.then_normal (k22 _ _ ?_)
    refine WC.sub [(0, _), (6, _), (7, _), (8, _), (9, _)] ⟨rfl, rfl, rfl, rfl, rfl, trivial⟩ ?_
    refine WC.seq (fun K32 k32 => ?_)
    refine WC.region rfl ?_
    refine WL.yld rfl (blt rfl) rfl (Y.move rfl rfl) ?_
    refine WL.yld rfl (blt rfl) rfl (Y.move rfl rfl) ?_
    refine WL.yld rfl (blt rfl) rfl (Y.move rfl rfl) ?_
    have b33 : j < n_es := by omega
    refine WL.yld rfl (blt rfl) rfl (Y.indexLs j (h_es.ext xW) rfl Try.underlying67 ti75 rfl rfl rfl b33) ?_
    refine WL.yld rfl (blt rfl) rfl (Y.fieldE rfl Try.underlying75 rfl ti3 (by decide) rfl) ?_
    refine WL.yld rfl (blt rfl) rfl (Y.load1 rfl Try.underlying3 rfl rfl (Ls.at_eq (h_es.ext xW) b33 rfl)) ?_
    have b34 : es[j]!.u.toNat < n25 := by omega
    refine WL.yld rfl (blt rfl) rfl (Y.indexLs es[j]!.u.toNat hl27 rfl Try.underlying35 ti3 rfl rfl (by omega) b34) ?_
    refine WL.yld rfl (blt rfl) rfl (Y.load1 rfl Try.underlying3 rfl rfl (Ls.at_eq hl27 b34 rfl)) ?_
    refine WL.yld rfl (blt rfl) rfl (Y.lss rfl rfl rfl) ?_
    refine WL.yld rfl (blt rfl) rfl (Y.move rfl rfl) ?_
    refine WL.yldG rfl (blt rfl) rfl rfl rfl (fun hb => Y.move rfl rfl) ?_
    refine WL.yldG rfl (blt rfl) rfl rfl rfl (fun hb => Y.move rfl rfl) ?_
    refine WL.yldG rfl (blt rfl) rfl rfl rfl (fun hb => Y.move rfl rfl) ?_
    refine WL.yldG rfl (blt rfl) rfl rfl rfl (fun hb => Y.move rfl rfl) ?_
    refine WL.yldG rfl (blt rfl) rfl rfl rfl (fun hb => Y.indexLs j (h_es.ext xW) rfl Try.underlying67 ti75 (evg rfl hb) (evg rfl hb) rfl (by have q0 := (dec_t hb); omega)) ?_
    refine WL.yldG rfl (blt rfl) rfl rfl rfl (fun hb => Y.fieldE rfl Try.underlying75 rfl ti3 (by decide) (evg rfl hb)) ?_
    refine WL.yldG rfl (blt rfl) rfl rfl rfl (fun hb => Y.load1 rfl Try.underlying3 rfl (evg rfl hb) (Ls.at_eq (h_es.ext xW) (by have q0 := (dec_t hb); omega) rfl)) ?_
    refine WL.yldG rfl (blt rfl) rfl rfl rfl (fun hb => Y.indexLs es[j]!.v.toNat hl27 rfl Try.underlying35 ti3 (evg rfl hb) (evg rfl hb) (by omega) (by have q0 := (dec_t hb); omega)) ?_
    refine WL.yldG rfl (blt rfl) rfl rfl rfl (fun hb => Y.load1 rfl Try.underlying3 rfl (evg rfl hb) (Ls.at_eq hl27 (by have q0 := (dec_t hb); omega) rfl)) ?_
    refine WL.yldG rfl (blt rfl) rfl rfl rfl (fun hb => Y.lss rfl (evg rfl hb) (evg rfl hb)) ?_
    refine WL.yld rfl (blt rfl) rfl (Y.and rfl rfl rfl rfl) ?_
    refine WL.nil ?_
    refine WK.then_normal (k32 _ _ ?_)
    refine WC.sub [(0, _), (6, _), (7, _), (8, _), (9, _), (53, _)] ⟨rfl, rfl, rfl, rfl, rfl, rfl, trivial⟩ ?_
    refine WC.cond rfl (fun h35 => ?_) (fun h35 => ?_)
    ·
      have p35 := (And.intro (dec_t (and_t h35).1) (dec_t (and_t h35).2))
      refine WC.seq (fun K36 k36 => ?_)
      refine WC.region rfl ?_
      refine WL.yld rfl (blt rfl) rfl (Y.move rfl rfl) ?_
      refine WL.yld rfl (blt rfl) rfl (Y.move rfl rfl) ?_
      refine WL.yld rfl (blt rfl) rfl (Y.move rfl rfl) ?_
      have b37 : j < n_es := by omega
      refine WL.yld rfl (blt rfl) rfl (Y.indexLs j (h_es.ext xW) rfl Try.underlying67 ti75 rfl rfl rfl b37) ?_
      refine WL.yld rfl (blt rfl) rfl (Y.fieldE rfl Try.underlying75 rfl ti3 (by decide) rfl) ?_
      refine WL.yld rfl (blt rfl) rfl (Y.load1 rfl Try.underlying3 rfl rfl (Ls.at_eq (h_es.ext xW) b37 rfl)) ?_
      refine WL.yld rfl (blt rfl) rfl (Y.move rfl rfl) ?_
      have b38 : es[j]!.v.toNat < n25 := by omega
      refine WL.yld rfl (blt rfl) rfl (Y.indexLs es[j]!.v.toNat hl27 rfl Try.underlying35 ti3 rfl rfl (by omega) b38) ?_
      refine WL.storeE (k := es[j]!.v.toNat) (off := 0) (f := Ck.ic) _ rfl rfl rfl rfl rfl rfl ti3 ow_vr (fun _ => rfl) b38 (ble rfl) rfl rfl (fun w39 ow40 gr41 => ?_)
      have xW := Ext.grown xW gr41 (fun b hb => (OwnL.lt ow_vr hb).1)
      have hl27 := OwnL.ls ow40 (fun _ => rfl) (by decide)
      refine WL.nil ?_
      refine WK.then_normal (k36 _ _ ?_)
      refine WC.sub [(0, _), (6, _), (8, _)] ⟨rfl, rfl, rfl, trivial⟩ ?_
      refine WC.region rfl ?_
      refine WL.yld rfl (blt rfl) rfl (Y.assign rfl rfl) ?_
      refine WL.nil ?_
      refine WK.in_normal ?_
      refine WK.then_normal (k21 _ _ ?_)
      refine WC.region rfl ?_
      refine WL.yld rfl (blt rfl) rfl (Y.move rfl rfl) ?_
      refine WL.yld rfl (blt rfl) rfl (Y.add rfl rfl rfl (wrap_i64 (by first | omega | (dsimp only; omega)))) ?_
      refine WL.yld rfl (blt rfl) rfl (Y.assign rfl rfl) ?_
      refine WL.nil ?_
      have nx := Bd.fold_take (F := Bd.rF) (es := es) (s := (dl, true)) (show j < es.length by omega)
      rw [inv_j] at nx
      have st := Bd.relax2_yes (F := Bd.rF) (c := c2) (b := b2) (e := es[j]!) h35
      have bn := Bd.bnd_relax1 st cl2 (hok _ (bang_mem (show j < es.length by omega))) bj (by omega) hW
      rw [st] at nx
      refine WK.roundS _ [(8, .int .i64 (((j + 1) : Nat) : Int)), (7, .bool (!false)), (6, (.slice A24 n25 c26))] ⟨rfl, rfl, rfl, rfl, trivial⟩ ?_ ⟨(j + 1), _, false, (Bj + W), (.slice A24 n25 c26), rfl, rfl, xW, ow40, (by omega), bn.2, bn.1, (by omega), (by omega), nx⟩
      show _ - (j + 1) < _ - j; omega
    ·
      have p35 := ((and_f h35).imp (fun h => (dec_f h)) (fun h => (dec_f h)))
      refine WC.skip ?_
      refine WK.in_normal ?_
      refine WK.then_normal (k21 _ _ ?_)
      refine WC.sub [(0, _), (6, _), (7, _), (8, _)] ⟨rfl, rfl, rfl, rfl, trivial⟩ ?_
      refine WC.region rfl ?_
      refine WL.yld rfl (blt rfl) rfl (Y.move rfl rfl) ?_
      refine WL.yld rfl (blt rfl) rfl (Y.add rfl rfl rfl (wrap_i64 (by first | omega | (dsimp only; omega)))) ?_
      refine WL.yld rfl (blt rfl) rfl (Y.assign rfl rfl) ?_
      refine WL.nil ?_
      have nx := Bd.fold_take (F := Bd.rF) (es := es) (s := (dl, true)) (show j < es.length by omega)
      rw [inv_j] at nx
      have st := Bd.relax2_no (F := Bd.rF) (c := c2) (b := b2) (e := es[j]!) h35
      have bn := Bd.bnd_relax1 st cl2 (hok _ (bang_mem (show j < es.length by omega))) bj (by omega) hW
      rw [st] at nx
      refine WK.roundS _ [(8, .int .i64 (((j + 1) : Nat) : Int)), (7, .bool (!_)), (6, (.slice A24 n25 c26))] ⟨rfl, rfl, rfl, rfl, trivial⟩ ?_ ⟨(j + 1), _, _, (Bj + W), (.slice A24 n25 c26), rfl, rfl, xW, ow_vr, (by omega), bn.2, bn.1, (by omega), (by omega), nx⟩
      show _ - (j + 1) < _ - j; omega
  ·
    have p20 := (dec_f h20)
    refine WC.exit ?_
    refine WK.then_exit ?_
    refine WK.then_exit ?_
    refine WK.in_exit ?_
    refine WK.then_normal (k15 _ _ ?_)
    refine WC.sub [(6, _), (7, _)] ⟨rfl, rfl, trivial⟩ ?_
    refine WC.seq (fun K42 k42 => ?_)
    refine WC.region rfl ?_
    refine WL.yld rfl (blt rfl) rfl (Y.move rfl rfl) ?_
    refine WL.yld rfl (blt rfl) rfl (Y.move rfl rfl) ?_
    refine WL.yld rfl (blt rfl) rfl (Y.assign rfl rfl) ?_
    refine WL.yld rfl (blt rfl) rfl (Y.assign rfl rfl) ?_
    refine WL.nil ?_
    refine WK.then_normal (k42 _ _ ?_)
    refine WC.sub [(4, _), (5, _)] ⟨rfl, rfl, trivial⟩ ?_
    refine WC.ret ?_
    clear k1 k2 k14 k15 k16 k18 k19 k42
    refine WK.ret [_, _] rfl ⟨rfl, rfl, trivial⟩ ?_
    have rd : Bd.round Bd.rF es dl = (c2, b2) := by rw [List.take_of_length_le (by omega)] at inv_j; exact inv_j
    rw [rd]
    exact ⟨_, rfl, ow_vr, xW⟩
end RI
end BdW

end Go.Proofs.Ytaglpampidlbmaa

namespace Go.Proofs.Ytaglpampidlbmaa
open Go Go.Eng Go.RowKit
set_option linter.unusedVariables false
set_option linter.unusedSimpArgs false
namespace BdW
open N RL NumF LB GR CkW CkW.P CkW.K CkW.R CkW.RP B OF MY RP_ RE RI
namespace RL_
theorem ti3 : TI Try.prog 3 (.int .i64 0) 1 8 := TI.mk (by kernel_rfl)
theorem has58 : Has Try.prog 58 := ⟨_, Try.func58, rfl, by kernel_rfl⟩
theorem lengths_any (A_es : Option Addr) (n_es c_es : Nat) (es : List Bd.Ed) (n : Nat) (fr : Int) (w : World) (h_es : Ls w A_es n_es c_es Bd.Ed.c 3 es) (W : Int) (M : Int) (hW : 0 ≤ W) (hM : M = (es.length : Int) * W) (hM0 : 0 ≤ M) (hok : ∀ e ∈ es, Bd.EdOK n W e) (hroom : ((n + 1 : Nat) : Int) * M + W < Bd.rF) (hn : n ≤ 1000) (hfr : 0 ≤ fr ∧ fr < (n : Int)) :
    Calls Try.prog 36 #[.slice A_es n_es c_es, .int .i64 ((n : Nat) : Int), .int .i64 fr] w fun e w' => ∃ v, e = .returned v ∧ OwnL w' w.heap.size 3 Ck.ic 1 v (Bd.iter Bd.rF es n (Bd.fromD Bd.rF n fr)) ∧ Ext w w' := by
  have xW := Ext.refl w
  have e_es := h_es.len
  have z_es := h_es.nle
  have hfar : Bd.rF = 1152921504606846976 := rfl
  refine calls_of_WC (args := [.slice A_es n_es c_es, .int .i64 ((n : Nat) : Int), .int .i64 fr]) Try.func36 rfl rfl (ble rfl) ?_
  refine WC.seq (fun K1 k1 => ?_)
  refine WC.region rfl ?_
  refine WL.yld rfl (blt rfl) rfl (Y.assign rfl rfl) ?_
  refine WL.nil ?_
  refine WK.then_normal (k1 _ _ ?_)
  refine WC.sub [(0, _), (1, _), (2, _)] ⟨rfl, rfl, rfl, trivial⟩ ?_
  refine WC.seq (fun K2 k2 => ?_)
  refine WC.region rfl ?_
  refine WL.yld rfl (blt rfl) rfl (Y.assign rfl rfl) ?_
  refine WL.nil ?_
  refine WK.then_normal (k2 _ _ ?_)
  refine WC.seq (fun K3 k3 => ?_)
  refine WC.seq (fun K4 k4 => ?_)
  refine WC.region rfl ?_
  refine WL.yld rfl (blt rfl) rfl (Y.assign rfl rfl) ?_
  refine WL.nil ?_
  refine WK.then_normal (k4 _ _ ?_)
  refine WC.block ?_
  refine WC.sub [(8, _), (7, _), (0, _), (1, _), (2, _)] ⟨rfl, rfl, rfl, rfl, rfl, trivial⟩ ?_
  refine WC.loopS 2 (fun mz Ed W' => ∃ i : Nat, ∃ va : Value, mz = n - i ∧ Ed = [(8, .int .i64 ((i : Nat) : Int)), (7, va)] ∧ Ext w W' ∧ OwnL W' w.heap.size 3 Ck.ic 1 va (List.replicate i Bd.rF) ∧ (i ≤ n)) _ ⟨0, _, rfl, rfl, xW, OwnL.nil_, (Nat.zero_le _)⟩ ?_
  rintro _ _ w5 ⟨i, va, rfl, rfl, xW, ow_va, le_i⟩
  refine WC.sub [(8, _), (7, _), (0, _), (1, _), (2, _)] ⟨rfl, rfl, rfl, rfl, rfl, trivial⟩ ?_
  refine WC.seq (fun K6 k6 => ?_)
  refine WC.seq (fun K7 k7 => ?_)
  refine WC.region rfl ?_
  refine WL.yld rfl (blt rfl) rfl (Y.move rfl rfl) ?_
  refine WL.yld rfl (blt rfl) rfl (Y.move rfl rfl) ?_
  refine WL.yld rfl (blt rfl) rfl (Y.lss rfl rfl rfl) ?_
  refine WL.nil ?_
  refine WK.then_normal (k7 _ _ ?_)
  refine WC.sub [(0, _), (1, _), (2, _), (7, _), (8, _), (12, _)] ⟨rfl, rfl, rfl, rfl, rfl, rfl, trivial⟩ ?_
  refine WC.cond rfl (fun h8 => ?_) (fun h8 => ?_)
  ·
    have p8 := (dec_t h8)
    refine WC.skip ?_
    refine WK.then_normal (k6 _ _ ?_)
    refine WC.sub [(0, _), (1, _), (2, _), (7, _), (8, _)] ⟨rfl, rfl, rfl, rfl, rfl, trivial⟩ ?_
    refine WC.seq (fun K9 k9 => ?_)
    refine WC.block ?_
    refine WC.region rfl ?_
    refine WL.yld rfl (blt rfl) rfl (Y.move rfl rfl) ?_
    refine WL.bslice (zs := [.int .i64 0]) (cs := [_]) rfl (blt rfl) rfl rfl Try.underlying35 ti3 rfl (ble rfl) (by kernel_rfl) rfl rfl ?_
    intro g10 w11 e12 x13 m14
    have r_va_g10 := ne_newO ow_va e12
    have o_g10 := own_new xW e12
    have ow_va := ow_va.ext x13
    have xW := Ext.trans xW x13
    refine WL.appendB (f := Ck.ic) (news := [Bd.rF]) rfl (blt rfl) rfl rfl rfl rfl Try.underlying35 ti3 rfl (by decide) rfl ow_va (fun _ => rfl) Ck.ic_one m14 rfl xW.size (by have q0 := (show (List.replicate i Bd.rF).length = i from List.length_replicate); first | omega | (simp only [List.length_append, List.length_cons, List.length_nil, List.length_take, List.length_drop, List.length_reverse]; omega)) (Nat.le_trans (show _ ≤ 140737488355328 from by have q0 := (show (List.replicate i Bd.rF).length = i from List.length_replicate); first | omega | (simp only [List.length_append, List.length_cons, List.length_nil, List.length_take, List.length_drop, List.length_reverse]; omega)) (by decide)) (fun v15 w16 ow17 gr18 nb19 => ?_)
    have r_v15_g10 := ne_app nb19 r_va_g10 m14
    have m14 := m14.grown gr18 r_va_g10
    have xW := Ext.grown xW gr18 (fun b hb => (OwnL.lt ow_va hb).1)
    refine WL.yld rfl (blt rfl) rfl (Y.assign rfl rfl) ?_
    refine WL.nil ?_
    refine WK.in_normal ?_
    refine WK.then_normal (k9 _ _ ?_)
    refine WC.sub [(0, _), (1, _), (2, _), (7, _), (8, _)] ⟨rfl, rfl, rfl, rfl, rfl, trivial⟩ ?_
    refine WC.region rfl ?_
    refine WL.yld rfl (blt rfl) rfl (Y.move rfl rfl) ?_
    refine WL.yld rfl (blt rfl) rfl (Y.add rfl rfl rfl (wrap_i64 (by first | omega | (dsimp only; omega)))) ?_
    refine WL.yld rfl (blt rfl) rfl (Y.assign rfl rfl) ?_
    refine WL.nil ?_
    refine WK.roundS _ [(8, .int .i64 (((i + 1) : Nat) : Int)), (7, v15)] ⟨rfl, rfl, rfl, rfl, rfl, trivial⟩ ?_ ⟨(i + 1), v15, rfl, rfl, xW, (by rw [List.replicate_succ']; exact ow17), (by omega)⟩
    show _ - (i + 1) < _ - i; omega
  ·
    have p8 := (dec_f h8)
    refine WC.exit ?_
    refine WK.then_exit ?_
    refine WK.then_exit ?_
    refine WK.in_exit ?_
    refine WK.then_normal (k3 _ _ ?_)
    refine WC.sub [(0, _), (1, _), (2, _), (7, _)] ⟨rfl, rfl, rfl, rfl, trivial⟩ ?_
    refine WC.seq (fun K20 k20 => ?_)
    refine WC.region rfl ?_
    refine WL.yld rfl (blt rfl) rfl (Y.move rfl rfl) ?_
    refine WL.yld rfl (blt rfl) rfl (Y.move rfl rfl) ?_
    obtain ⟨A21, n22, c23, rfl, hl24⟩ := OwnL.opened ow_va (fun _ => rfl) (by decide)
    have e_n22 := hl24.len
    try simp only [List.length_append, List.length_cons, List.length_nil, List.length_reverse, List.length_drop, List.length_take, List.length_map, List.length_replicate, List.length_set] at e_n22
    have z_n22 := hl24.nle
    have b25 : fr.toNat < n22 := by omega
    refine WL.yld rfl (blt rfl) rfl (Y.indexLs fr.toNat hl24 rfl Try.underlying35 ti3 rfl rfl (by omega) b25) ?_
    refine WL.storeE (k := fr.toNat) (off := 0) (f := Ck.ic) 0 rfl rfl rfl rfl rfl rfl ti3 ow_va (fun _ => rfl) b25 (ble rfl) rfl rfl (fun w26 ow27 gr28 => ?_)
    have xW := Ext.grown xW gr28 (fun b hb => (OwnL.lt ow_va hb).1)
    have hl24 := OwnL.ls ow27 (fun _ => rfl) (by decide)
    refine WL.nil ?_
    refine WK.then_normal (k20 _ _ ?_)
    refine WC.sub [(0, _), (1, _), (7, _)] ⟨rfl, rfl, rfl, trivial⟩ ?_
    refine WC.seq (fun K29 k29 => ?_)
    refine WC.seq (fun K30 k30 => ?_)
    refine WC.region rfl ?_
    refine WL.yld rfl (blt rfl) rfl (Y.assign rfl rfl) ?_
    refine WL.nil ?_
    refine WK.then_normal (k30 _ _ ?_)
    refine WC.block ?_
    refine WC.sub [(9, _), (7, _), (0, _), (1, _)] ⟨rfl, rfl, rfl, rfl, trivial⟩ ?_
    refine WC.loopS 2 (fun mz Ed W' => ∃ k : Nat, ∃ Bc : Int, ∃ vb : Value, mz = n - k ∧ Ed = [(9, .int .i64 ((k : Nat) : Int)), (7, vb)] ∧ Ext w W' ∧ OwnL W' w.heap.size 3 Ck.ic 1 vb (Bd.iter Bd.rF es k (Bd.fromD Bd.rF n fr)) ∧ (k ≤ n) ∧ (0 ≤ Bc) ∧ (Bc + ((n + 1 - k : Nat) : Int) * M + W < Bd.rF) ∧ ((Bd.iter Bd.rF es k (Bd.fromD Bd.rF n fr)).length = n) ∧ (Bd.Bnd Bd.rF Bc (Bd.iter Bd.rF es k (Bd.fromD Bd.rF n fr)))) _ ⟨0, 0, _, rfl, rfl, xW, (by have hq := ow27; rw [show (List.replicate i Bd.rF).set fr.toNat 0 = Bd.fromD Bd.rF n fr from by rw [show i = n from by omega]; rfl] at hq; exact hq), (Nat.zero_le _), (Int.le_refl 0), (by rw [Nat.sub_zero]; omega), (by show ((List.replicate n Bd.rF).set fr.toNat 0).length = n; simp), (Bd.bnd_fromR _ _)⟩ ?_
    rintro _ _ w31 ⟨k, Bc, vb, rfl, rfl, xW, ow_vb, le_k, b0, room, cl, bc⟩
    refine WC.sub [(9, _), (7, _), (0, _), (1, _)] ⟨rfl, rfl, rfl, rfl, trivial⟩ ?_
    refine WC.seq (fun K32 k32 => ?_)
    refine WC.seq (fun K33 k33 => ?_)
    refine WC.region rfl ?_
    refine WL.yld rfl (blt rfl) rfl (Y.move rfl rfl) ?_
    refine WL.yld rfl (blt rfl) rfl (Y.move rfl rfl) ?_
    refine WL.yld rfl (blt rfl) rfl (Y.lss rfl rfl rfl) ?_
    refine WL.nil ?_
    refine WK.then_normal (k33 _ _ ?_)
    refine WC.sub [(0, _), (1, _), (7, _), (9, _), (23, _)] ⟨rfl, rfl, rfl, rfl, rfl, trivial⟩ ?_
    refine WC.cond rfl (fun h34 => ?_) (fun h34 => ?_)
    ·
      have p34 := (dec_t h34)
      have hii := Bd.mulS (K := n + 1) (k := k) hM0 (by omega)
      have hij := Int.mul_nonneg (show (0 : Int) ≤ ((n + 1 - (k + 1) : Nat) : Int) from by omega) hM0
      refine WC.skip ?_
      refine WK.then_normal (k32 _ _ ?_)
      refine WC.sub [(0, _), (1, _), (7, _), (9, _)] ⟨rfl, rfl, rfl, rfl, trivial⟩ ?_
      refine WC.seq (fun K35 k35 => ?_)
      refine WC.block ?_
      refine WC.region rfl ?_
      refine WL.yld rfl (blt rfl) rfl (Y.move rfl rfl) ?_
      refine WL.yld rfl (blt rfl) rfl (Y.move rfl rfl) ?_
      obtain ⟨A36, n37, c38, rfl, hl39⟩ := OwnL.opened ow_vb (fun _ => rfl) (by decide)
      have e_n37 := hl39.len
      try simp only [List.length_append, List.length_cons, List.length_nil, List.length_reverse, List.length_drop, List.length_take, List.length_map, List.length_replicate, List.length_set] at e_n37
      have z_n37 := hl39.nle
      refine WL.call rfl (blt rfl) rfl rfl rfl has58 rfl (improved_any _ _ _ _ _ _ _ _ _ (h_es.ext xW) hl39 W M n Bc hW hM hM0 hok cl bc b0 (by omega) (by omega)) ?_
      rintro _ w40 ⟨v42, rfl, ow43, x41⟩
      refine ⟨_, rfl, ?_⟩
      have d_v42_vb := Apart.res ow43 ow_vb
      have ow43 := OwnL.base_le ow43 xW.size
      have ow_vb := ow_vb.ext x41
      have hl39 := hl39.ext x41
      have xW := Ext.trans xW x41
      refine WL.yld rfl (blt rfl) rfl (Y.move rfl rfl) ?_
      refine WL.yld rfl (blt rfl) rfl (Y.extract rfl rfl rfl) ?_
      refine WL.yld rfl (blt rfl) rfl (Y.extract rfl rfl rfl) ?_
      refine WL.yld rfl (blt rfl) rfl (Y.assign rfl rfl) ?_
      refine WL.nil ?_
      refine WK.in_normal ?_
      refine WK.then_normal (k35 _ _ ?_)
      refine WC.sub [(0, _), (1, _), (7, _), (9, _)] ⟨rfl, rfl, rfl, rfl, trivial⟩ ?_
      refine WC.region rfl ?_
      refine WL.yld rfl (blt rfl) rfl (Y.move rfl rfl) ?_
      refine WL.yld rfl (blt rfl) rfl (Y.add rfl rfl rfl (wrap_i64 (by first | omega | (dsimp only; omega)))) ?_
      refine WL.yld rfl (blt rfl) rfl (Y.assign rfl rfl) ?_
      refine WL.nil ?_
      have rn := Bd.rnd_of hW b0 hok cl bc (by rw [← hM]; omega)
      rw [← Bd.iter_next, ← hM] at rn
      refine WK.roundS _ [(9, .int .i64 (((k + 1) : Nat) : Int)), (7, v42)] ⟨rfl, rfl, rfl, rfl, trivial⟩ ?_ ⟨(k + 1), (Bc + M), v42, rfl, rfl, xW, (by rw [Bd.iter_next]; exact ow43), (by omega), (by omega), (by omega), rn.1, rn.2⟩
      show _ - (k + 1) < _ - k; omega
    ·
      have p34 := (dec_f h34)
      refine WC.exit ?_
      refine WK.then_exit ?_
      refine WK.then_exit ?_
      refine WK.in_exit ?_
      refine WK.then_normal (k29 _ _ ?_)
      refine WC.sub [(7, _)] ⟨rfl, trivial⟩ ?_
      refine WC.seq (fun K44 k44 => ?_)
      refine WC.region rfl ?_
      refine WL.yld rfl (blt rfl) rfl (Y.move rfl rfl) ?_
      refine WL.yld rfl (blt rfl) rfl (Y.assign rfl rfl) ?_
      refine WL.nil ?_
      refine WK.then_normal (k44 _ _ ?_)
      refine WC.sub [(6, _)] ⟨rfl, trivial⟩ ?_
      refine WC.ret ?_
      clear k1 k2 k3 k4 k6 k7 k20 k29 k30 k32 k33 k44
      refine WK.ret [_] rfl ⟨rfl, trivial⟩ ?_
      have hkn : k = n := by omega
      exact ⟨_, rfl, (hkn ▸ ow_vb), xW⟩
theorem contra_any (A_es : Option Addr) (n_es c_es : Nat) (es : List Bd.Ed) (n : Nat) (w : World) (h_es : Ls w A_es n_es c_es Bd.Ed.c 3 es) (W : Int) (M : Int) (hW : 0 ≤ W) (hM : M = (es.length : Int) * W) (hM0 : 0 ≤ M) (hok : ∀ e ∈ es, Bd.EdOK n W e) (hroom : ((n + 1 : Nat) : Int) * M + W < Bd.rF) (hn : n ≤ 1000) :
    Calls Try.prog 34 #[.slice A_es n_es c_es, .int .i64 ((n : Nat) : Int)] w fun e w' => e = .returned (.bool (!(Bd.rConF es n))) ∧ Ext w w' := by
  have xW := Ext.refl w
  have e_es := h_es.len
  have z_es := h_es.nle
  have hfar : Bd.rF = 1152921504606846976 := rfl
  refine calls_of_WC (args := [.slice A_es n_es c_es, .int .i64 ((n : Nat) : Int)]) Try.func34 rfl rfl (ble rfl) ?_
  refine WC.seq (fun K1 k1 => ?_)
  refine WC.region rfl ?_
  refine WL.yld rfl (blt rfl) rfl (Y.assign rfl rfl) ?_
  refine WL.nil ?_
  refine WK.then_normal (k1 _ _ ?_)
  refine WC.sub [(0, _), (1, _)] ⟨rfl, rfl, trivial⟩ ?_
  refine WC.seq (fun K2 k2 => ?_)
  refine WC.region rfl ?_
  refine WL.yld rfl (blt rfl) rfl (Y.move rfl rfl) ?_
  refine WL.makeS (f := Ck.ic) (m := n) 0 rfl (blt rfl) rfl rfl rfl rfl Try.underlying35 ti3 rfl (fun _ => rfl) (by decide) (by omega) (by omega) (fun v3 w4 ow5 x6 => ?_)
  have ow5 := OwnL.base_le ow5 xW.size
  have xW := Ext.trans xW x6
  refine WL.yld rfl (blt rfl) rfl (Y.assign rfl rfl) ?_
  refine WL.nil ?_
  refine WK.then_normal (k2 _ _ ?_)
  refine WC.sub [(0, _), (1, _), (5, _)] ⟨rfl, rfl, rfl, trivial⟩ ?_
  refine WC.seq (fun K7 k7 => ?_)
  refine WC.region rfl ?_
  refine WL.yld rfl (blt rfl) rfl (Y.assign rfl rfl) ?_
  refine WL.nil ?_
  refine WK.then_normal (k7 _ _ ?_)
  refine WC.seq (fun K8 k8 => ?_)
  refine WC.seq (fun K9 k9 => ?_)
  refine WC.region rfl ?_
  refine WL.yld rfl (blt rfl) rfl (Y.assign rfl rfl) ?_
  refine WL.nil ?_
  refine WK.then_normal (k9 _ _ ?_)
  refine WC.block ?_
  refine WC.sub [(7, _), (6, _), (5, _), (0, _), (1, _)] ⟨rfl, rfl, rfl, rfl, rfl, trivial⟩ ?_
  refine WC.loopS 3 (fun mz Ed W' => ∃ i : Nat, ∃ cur : List Int, ∃ bl : Bool, ∃ Bc : Int, ∃ vk : Value, mz = n + 1 - i ∧ Ed = [(7, .int .i64 ((i : Nat) : Int)), (6, .bool bl), (5, vk)] ∧ Ext w W' ∧ OwnL W' w.heap.size 3 Ck.ic 1 vk (cur) ∧ (i ≤ n + 1) ∧ (0 ≤ Bc) ∧ (Bc + ((n + 1 - i : Nat) : Int) * M + W < Bd.rF) ∧ (cur.length = n) ∧ (Bd.Bnd Bd.rF Bc cur) ∧ ((bl = true → Bd.relaxN Bd.rF es (n + 1 - i) cur = Bd.relaxN Bd.rF es (n + 1) (Bd.zeros n)) ∧ (bl = false → (Bd.relaxN Bd.rF es (n + 1) (Bd.zeros n)).2 = true))) _ ⟨0, Bd.zeros n, true, 0, _, rfl, rfl, xW, ow5, (Nat.zero_le _), (Int.le_refl 0), (by rw [Nat.sub_zero]; omega), (by simp [Bd.zeros]), (Bd.bnd_zeros _ _), ⟨fun _ => rfl, fun h => by cases h⟩⟩ ?_
  rintro _ _ w10 ⟨i, cur, bl, Bc, vk, rfl, rfl, xW, ow_vk, le_i, b0, room, cl, bc, same⟩
  refine WC.sub [(7, _), (6, _), (5, _), (0, _), (1, _)] ⟨rfl, rfl, rfl, rfl, rfl, trivial⟩ ?_
  refine WC.seq (fun K11 k11 => ?_)
  refine WC.seq (fun K12 k12 => ?_)
  refine WC.region rfl ?_
  refine WL.yld rfl (blt rfl) rfl (Y.move rfl rfl) ?_
  refine WL.yld rfl (blt rfl) rfl (Y.move rfl rfl) ?_
  refine WL.yld rfl (blt rfl) rfl (Y.leq rfl rfl rfl) ?_
  refine WL.yld rfl (blt rfl) rfl (Y.move rfl rfl) ?_
  refine WL.yldG rfl (blt rfl) rfl rfl rfl (fun hb => Y.move rfl rfl) ?_
  refine WL.yld rfl (blt rfl) rfl (Y.and rfl rfl rfl rfl) ?_
  refine WL.nil ?_
  refine WK.then_normal (k12 _ _ ?_)
  refine WC.sub [(0, _), (1, _), (5, _), (6, _), (7, _), (15, _)] ⟨rfl, rfl, rfl, rfl, rfl, rfl, trivial⟩ ?_
  refine WC.cond rfl (fun h13 => ?_) (fun h13 => ?_)
  ·
    have p13 := (dec_t (and_t h13).1)
    have hcc : i ≤ n ∧ bl = true := by have := h13; simp only [Bool.and_eq_true, decide_eq_true_eq] at this; exact ⟨by omega, this.2⟩
    have hii := Bd.mulS (K := n + 1) (k := i) hM0 (by omega)
    refine WC.skip ?_
    refine WK.then_normal (k11 _ _ ?_)
    refine WC.sub [(0, _), (1, _), (5, _), (7, _)] ⟨rfl, rfl, rfl, rfl, trivial⟩ ?_
    refine WC.seq (fun K14 k14 => ?_)
    refine WC.block ?_
    refine WC.region rfl ?_
    refine WL.yld rfl (blt rfl) rfl (Y.move rfl rfl) ?_
    refine WL.yld rfl (blt rfl) rfl (Y.move rfl rfl) ?_
    obtain ⟨A15, n16, c17, rfl, hl18⟩ := OwnL.opened ow_vk (fun _ => rfl) (by decide)
    have e_n16 := hl18.len
    try simp only [List.length_append, List.length_cons, List.length_nil, List.length_reverse, List.length_drop, List.length_take, List.length_map, List.length_replicate, List.length_set] at e_n16
    have z_n16 := hl18.nle
    refine WL.call rfl (blt rfl) rfl rfl rfl has58 rfl (improved_any _ _ _ _ _ _ _ _ _ (h_es.ext xW) hl18 W M n Bc hW hM hM0 hok cl bc b0 (by omega) (by omega)) ?_
    rintro _ w19 ⟨v21, rfl, ow22, x20⟩
    refine ⟨_, rfl, ?_⟩
    have d_v21_vk := Apart.res ow22 ow_vk
    have ow22 := OwnL.base_le ow22 xW.size
    have ow_vk := ow_vk.ext x20
    have hl18 := hl18.ext x20
    have xW := Ext.trans xW x20
    refine WL.yld rfl (blt rfl) rfl (Y.move rfl rfl) ?_
    refine WL.yld rfl (blt rfl) rfl (Y.extract rfl rfl rfl) ?_
    refine WL.yld rfl (blt rfl) rfl (Y.extract rfl rfl rfl) ?_
    refine WL.yld rfl (blt rfl) rfl (Y.assign rfl rfl) ?_
    refine WL.yld rfl (blt rfl) rfl (Y.assign rfl rfl) ?_
    refine WL.nil ?_
    refine WK.in_normal ?_
    refine WK.then_normal (k14 _ _ ?_)
    refine WC.sub [(0, _), (1, _), (5, _), (6, _), (7, _)] ⟨rfl, rfl, rfl, rfl, rfl, trivial⟩ ?_
    refine WC.region rfl ?_
    refine WL.yld rfl (blt rfl) rfl (Y.move rfl rfl) ?_
    refine WL.yld rfl (blt rfl) rfl (Y.add rfl rfl rfl (wrap_i64 (by first | omega | (dsimp only; omega)))) ?_
    refine WL.yld rfl (blt rfl) rfl (Y.assign rfl rfl) ?_
    refine WL.nil ?_
    have rn := Bd.rnd_of hW b0 hok cl bc (by rw [← hM]; omega)
    rw [← hM] at rn
    have sm := Bd.contr_step (same.1 hcc.2) (show 0 < n + 1 - i from by omega)
    rw [show n + 1 - i - 1 = n + 1 - (i + 1) from by omega] at sm
    refine WK.roundS _ [(7, .int .i64 (((i + 1) : Nat) : Int)), (6, .bool _), (5, v21)] ⟨rfl, rfl, rfl, rfl, rfl, trivial⟩ ?_ ⟨(i + 1), _, _, (Bc + M), v21, rfl, rfl, xW, ow22, (by omega), (by omega), (by omega), rn.1, rn.2, sm⟩
    show _ - (i + 1) < _ - i; omega
  ·
    have p13 := ((and_f h13).imp (fun h => (dec_f h)) (fun h => h))
    refine WC.exit ?_
    refine WK.then_exit ?_
    refine WK.then_exit ?_
    refine WK.in_exit ?_
    refine WK.then_normal (k8 _ _ ?_)
    refine WC.sub [(6, _)] ⟨rfl, trivial⟩ ?_
    refine WC.seq (fun K23 k23 => ?_)
    refine WC.region rfl ?_
    refine WL.yld rfl (blt rfl) rfl (Y.move rfl rfl) ?_
    refine WL.yld rfl (blt rfl) rfl (Y.assign rfl rfl) ?_
    refine WL.nil ?_
    refine WK.then_normal (k23 _ _ ?_)
    refine WC.sub [(4, _)] ⟨rfl, trivial⟩ ?_
    refine WC.ret ?_
    clear k1 k2 k7 k8 k9 k11 k12 k23
    refine WK.ret [_] rfl ⟨rfl, trivial⟩ ?_
    refine ⟨ret1 (vb ?_), xW⟩
    exact Bd.contr_end same (by have := h13; simp only [Bool.and_eq_false_iff, decide_eq_false_iff_not] at this; rcases this with q | q; exact .inl (by omega); exact .inr q)
end RL_
end BdW

end Go.Proofs.Ytaglpampidlbmaa
