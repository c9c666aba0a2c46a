/- Contracts: shortening of distances. Conditions: what each theorem states.
   Contracts: library functions. Conditions: what each theorem states.
   Contracts: consistent, from. Conditions: what each theorem states. -/
import Derived.Test.YtaglpampidlbmaaBdNum
import Derived.Test.YtaglpampidlbmaaBdM1
import Derived.Test.YtaglpampidlbmaaNilS
namespace Go.Proofs.Ytaglpampidlbmaa
open Go Go.Eng Go.RowKit
set_option linter.unusedVariables false
set_option linter.unusedSimpArgs false
namespace BdW
open N
namespace RL
theorem ti3 : TI Try.prog 3 (.int .i64 0) 1 8 := TI.mk (by kernel_rfl)
theorem ti83 : TI Try.prog 83 (.slice none 0 0) 1 24 := TI.mk (by kernel_rfl)
theorem ti92 : TI Try.prog 92 (.agg #[.int .i64 0, .int .i64 0, .int .i64 0]) 3 24 := TI.mk (by kernel_rfl)
theorem relax_any (wb : World) (g0 : Nat) (x : Value) (A_es : Option Addr) (n_es c_es : Nat) (es : List Bd.Ed) (h_es : Ls wb A_es n_es c_es Bd.Ed.c 3 es) (m0 : Blk wb g0 85 [x, .slice A_es n_es c_es]) (W M : Int) (N : Nat) (hW : 0 ≤ W) (hM : M = (es.length : Int) * W) (hM0 : 0 ≤ M) (hok : ∀ e ∈ es, Bd.EdOK N W e) (hroom : ((N + 1 : Nat) : Int) * M + W < Bd.far) (hN2 : N ≤ 100000) : ∀ (v : Value) (dl : List Int) (back : Bool) (w : World), Ext wb w → OwnL w wb.heap.size 3 Ck.ic 1 v dl → dl.length = N → Bd.Bnd Bd.far 0 dl →
    Calls Try.prog 50 #[.pointer (some ⟨g0, 0, none⟩), v, .bool back] w fun e w' => e = .returned (.bool (Bd.relaxN Bd.far (Bd.turn back es) (N + 1) dl).2) ∧ OwnL w' wb.heap.size 3 Ck.ic 1 v (Bd.relaxN Bd.far (Bd.turn back es) (N + 1) dl).1 ∧ Gr w w' v.ownBlock := by
  intro v dl back w xW ow_v hN hb
  have hfar : Bd.far = 9223372036854775807 := rfl
  have e_es := h_es.len
  have z_es := h_es.nle
  have gW := Gr.refl w v.ownBlock
  refine calls_of_WC (args := [.pointer (some ⟨g0, 0, none⟩), v, .bool back]) Try.func50 rfl rfl (ble rfl) ?_
  refine WC.seq (fun K1 k1 => ?_)
  refine WC.region rfl ?_
  refine WL.yld rfl (blt rfl) rfl (Y.assign rfl rfl) ?_
  refine WL.nil ?_
  refine WK.then_normal (k1 _ _ ?_)
  refine WC.sub [(0, _), (1, _), (2, _)] ⟨rfl, rfl, rfl, trivial⟩ ?_
  refine WC.seq (fun K2 k2 => ?_)
  refine WC.seq (fun K3 k3 => ?_)
  refine WC.region rfl ?_
  refine WL.yld rfl (blt rfl) rfl (Y.move rfl rfl) ?_
  obtain ⟨A4, n5, c6, rfl, hl7⟩ := OwnL.opened ow_v (fun _ => rfl) (by decide)
  have e_n5 := hl7.len
  try simp only [List.length_append, List.length_cons, List.length_nil, List.length_reverse, List.length_drop, List.length_take, List.length_map, List.length_replicate, List.length_set] at e_n5
  have z_n5 := hl7.nle
  refine WL.yld rfl (blt rfl) rfl (Y.lenSl rfl rfl rfl Try.underlying35 rfl) ?_
  refine WL.yld rfl (blt rfl) rfl (Y.add rfl rfl rfl (wrap_i64 (by first | omega | (dsimp only; omega)))) ?_
  refine WL.yld rfl (blt rfl) rfl (Y.move rfl rfl) ?_
  refine WL.nil ?_
  refine WK.then_normal (k3 _ _ ?_)
  refine WC.sub [(0, _), (1, _), (2, _), (14, _), (15, _)] ⟨rfl, rfl, rfl, rfl, rfl, trivial⟩ ?_
  refine WC.block ?_
  refine WC.sub [(15, _), (0, _), (1, _), (2, _), (14, _)] ⟨rfl, rfl, rfl, rfl, rfl, trivial⟩ ?_
  refine WC.loopS 1 (fun mz Ed W' => ∃ i : Nat, ∃ cur : List Int, ∃ Bc : Int, mz = N + 1 - i ∧ Ed = [(15, .int .i64 ((i : Nat) : Int))] ∧ Ext wb W' ∧ OwnL W' wb.heap.size 3 Ck.ic 1 (.slice A4 n5 c6) (cur) ∧ Gr w W' (Value.slice A4 n5 c6).ownBlock ∧ (i ≤ N + 1) ∧ (cur.length = N) ∧ (Bd.Bnd Bd.far Bc cur) ∧ (0 ≤ Bc) ∧ (Bc + ((N + 1 - i : Nat) : Int) * M + W < Bd.far) ∧ (Bd.relaxN Bd.far (Bd.turn back es) (N + 1 - i) cur = Bd.relaxN Bd.far (Bd.turn back es) (N + 1) dl)) _ ⟨0, dl, 0, rfl, rfl, xW, ow_v, gW, (by omega), hN, hb, (Int.le_refl 0), (by rw [Nat.sub_zero]; omega), rfl⟩ ?_
  rintro _ _ w8 ⟨i, cur, Bc, rfl, rfl, xW, ow_v, gW, le_i, cl, bc, b0, room, same⟩
  refine WC.sub [(15, _), (0, _), (1, _), (2, _), (14, _)] ⟨rfl, rfl, rfl, rfl, rfl, trivial⟩ ?_
  have hl7 := OwnL.ls ow_v (fun _ => rfl) (by decide)
  try rw [cl] at e_n0
  refine WC.seq (fun K9 k9 => ?_)
  refine WC.region rfl ?_
  refine WL.yld rfl (blt rfl) rfl (Y.lss rfl rfl rfl) ?_
  refine WL.nil ?_
  refine WK.then_normal (k9 _ _ ?_)
  refine WC.seq (fun K10 k10 => ?_)
  refine WC.cond rfl (fun h11 => ?_) (fun h11 => ?_)
  ·
    have p11 := (dec_t h11)
    have hii := Bd.mulS (K := N + 1) (k := i) hM0 (by omega)
    refine WC.skip ?_
    refine WK.then_normal (k10 _ _ ?_)
    refine WC.sub [(0, _), (1, _), (2, _), (14, _), (15, _)] ⟨rfl, rfl, rfl, rfl, rfl, trivial⟩ ?_
    refine WC.seq (fun K12 k12 => ?_)
    refine WC.block ?_
    refine WC.seq (fun K13 k13 => ?_)
    refine WC.region rfl ?_
    refine WL.yld rfl (blt rfl) rfl (Y.assign rfl rfl) ?_
    refine WL.nil ?_
    refine WK.then_normal (k13 _ _ ?_)
    refine WC.seq (fun K14 k14 => ?_)
    refine WC.seq (fun K15 k15 => ?_)
    refine WC.region rfl ?_
    refine WL.yld rfl (blt rfl) rfl (Y.move rfl rfl) ?_
    refine WL.yld rfl (blt rfl) rfl (Y.nilCheck rfl rfl) ?_
    refine WL.yld rfl (blt rfl) rfl (Y.fieldAddr rfl Try.underlying85 rfl ti83 (by decide) rfl) ?_
    refine WL.yld rfl (blt rfl) rfl (Y.load1 rfl Try.underlying83 rfl rfl (Blk.at_eq (m0.ext xW) rfl)) ?_
    refine WL.yld rfl (blt rfl) rfl (Y.lenSl rfl rfl rfl Try.underlying83 rfl) ?_
    refine WL.yld rfl (blt rfl) rfl (Y.move rfl rfl) ?_
    refine WL.nil ?_
    refine WK.then_normal (k15 _ _ ?_)
    refine WC.sub [(0, _), (1, _), (2, _), (7, _), (14, _), (15, _), (20, _), (21, _), (22, _)] ⟨rfl, rfl, rfl, rfl, rfl, rfl, rfl, rfl, rfl, trivial⟩ ?_
    refine WC.block ?_
    refine WC.sub [(22, _), (7, _), (0, _), (1, _), (2, _), (14, _), (15, _), (20, _), (21, _)] ⟨rfl, rfl, rfl, rfl, rfl, rfl, rfl, rfl, rfl, trivial⟩ ?_
    refine WC.loopS 2 (fun mz Ed W' => ∃ j : Nat, ∃ c2 : List Int, ∃ b2 : Bool, ∃ Bj : Int, mz = n_es - j ∧ Ed = [(22, .int .i64 ((j : Nat) : Int)), (7, .bool b2)] ∧ Ext wb W' ∧ OwnL W' wb.heap.size 3 Ck.ic 1 (.slice A4 n5 c6) (c2) ∧ Gr w W' (Value.slice A4 n5 c6).ownBlock ∧ (j ≤ n_es) ∧ (c2.length = N) ∧ (Bd.Bnd Bd.far Bj c2) ∧ (0 ≤ Bj) ∧ (Bj + ((n_es - j : Nat) : Int) * W ≤ Bc + M) ∧ (((Bd.turn back es).take j).foldl (Bd.relax1 Bd.far) (cur, true) = (c2, b2))) _ ⟨0, cur, true, Bc, rfl, rfl, xW, ow_v, gW, (by omega), cl, bc, b0, (by rw [Nat.sub_zero, hM, e_es]; exact Int.le_refl _), rfl⟩ ?_
    rintro _ _ w16 ⟨j, c2, b2, Bj, rfl, rfl, xW, ow_v, gW, le_j, cl2, bj, bj0, roomj, inv_j⟩
    refine WC.sub [(22, _), (7, _), (0, _), (1, _), (2, _), (14, _), (15, _), (20, _), (21, _)] ⟨rfl, rfl, rfl, rfl, rfl, rfl, rfl, rfl, rfl, trivial⟩ ?_
    have hl7 := OwnL.ls ow_v (fun _ => rfl) (by decide)
    refine WC.seq (fun K17 k17 => ?_)
    refine WC.region rfl ?_
    refine WL.yld rfl (blt rfl) rfl (Y.lss rfl rfl rfl) ?_
    refine WL.nil ?_
    refine WK.then_normal (k17 _ _ ?_)
    refine WC.seq (fun K18 k18 => ?_)
    refine WC.cond rfl (fun h19 => ?_) (fun h19 => ?_)
    ·
      have p19 := (dec_t h19)
      have hjj := Bd.mulS (K := n_es) (k := j) hW (by omega)
      have hej := hok _ (bang_mem (show j < es.length by omega))
      obtain ⟨hj1, hj2, hj3, hj4, hj5, hj6⟩ := hej
      have huu := Bd.at_nat bj cl2 hj1 hj2
      have hvv := Bd.at_nat bj cl2 hj3 hj4
      refine WC.skip ?_
      refine WK.then_normal (k18 _ _ ?_)
      refine WC.sub [(0, _), (1, _), (2, _), (7, _), (14, _), (15, _), (20, _), (21, _), (22, _)] ⟨rfl, rfl, rfl, rfl, rfl, rfl, rfl, rfl, rfl, trivial⟩ ?_
      refine WC.seq (fun K20 k20 => ?_)
      refine WC.block ?_
      refine WC.seq (fun K21 k21 => ?_)
      refine WC.region rfl ?_
      have b22 : j < n_es := by omega
      refine WL.yld rfl (blt rfl) rfl (Y.indexLs j (h_es.ext xW) rfl Try.underlying83 ti92 rfl rfl rfl b22) ?_
      refine WL.yld rfl (blt rfl) rfl (Y.loadS (cs := [_, _, _]) rfl Try.underlying92 rfl ti92 rfl (Ls.part_eq (h_es.ext xW) b22 rfl)) ?_
      refine WL.alloc rfl (blt rfl) rfl rfl ti92 rfl ?_
      intro g23 w24 e25 x26 m27
      have r_v_g23 := ne_newO ow_v e25
      have o_g23 := own_new xW e25
      have og_g23 := own_newG gW e25
      have ow_v := ow_v.ext x26
      have hl7 := hl7.ext x26
      have xW := Ext.trans xW x26
      have gW := Gr.ext gW x26
      refine WL.store (cs' := [_, _, _]) rfl rfl rfl rfl rfl rfl ti92 m27 (ble rfl) rfl rfl (fun w28 on29 m30 => ?_)
      have ow_v := ow_v.only r_v_g23 on29
      have hl7 := OwnL.ls ow_v (fun _ => rfl) (by decide)
      have xW := Ext.only xW on29 o_g23
      have gW := Gr.only gW on29 og_g23
      refine WL.nil ?_
      refine WK.then_normal (k21 _ _ ?_)
      refine WC.sub [(0, _), (1, _), (2, _), (7, _), (9, _), (14, _), (15, _), (20, _), (21, _), (22, _)] ⟨rfl, rfl, rfl, rfl, rfl, rfl, rfl, rfl, rfl, rfl, trivial⟩ ?_
      refine WC.seq (fun K31 k31 => ?_)
      refine WC.regionDq (by kernel_rfl) (by kernel_rfl) rfl ?_
      refine WQ.yld rfl (blt rfl) rfl (Y.fieldAddr rfl Try.underlying92 rfl ti3 (by decide) rfl) ?_
      refine WQ.yld rfl (blt rfl) rfl (Y.load1 rfl Try.underlying3 rfl rfl (Blk.at_ext m30 rfl)) ?_
      refine WQ.yld rfl (blt rfl) rfl (Y.fieldAddr rfl Try.underlying92 rfl ti3 (by decide) rfl) ?_
      refine WQ.yld rfl (blt rfl) rfl (Y.load1 rfl Try.underlying3 rfl rfl (Blk.at_ext m30 rfl)) ?_
      refine WQ.yld rfl (blt rfl) rfl (Y.assign rfl rfl) ?_
      refine WQ.yld rfl (blt rfl) rfl (Y.assign rfl rfl) ?_
      refine WQ.done (fun w32 x33 => ?_)
      have ow_v := ow_v.ext x33
      have hl7 := hl7.ext x33
      have m30 := m30.ext x33
      have xW := Ext.trans xW x33
      have gW := Gr.ext gW x33
      refine WK.then_normal (k31 _ _ ?_)
      refine WC.sub [(0, _), (1, _), (2, _), (7, _), (9, _), (10, _), (11, _), (14, _), (15, _), (20, _), (21, _), (22, _)] ⟨rfl, rfl, rfl, rfl, rfl, rfl, rfl, rfl, rfl, rfl, rfl, rfl, trivial⟩ ?_
      refine WC.seq (fun K34 k34 => ?_)
      refine WC.seq (fun K35 k35 => ?_)
      refine WC.region rfl ?_
      refine WL.yld rfl (blt rfl) rfl (Y.move rfl rfl) ?_
      refine WL.nil ?_
      refine WK.then_normal (k35 _ _ ?_)
      refine WC.cond rfl (fun h36 => ?_) (fun h36 => ?_)
      ·
        refine WC.region rfl ?_
        refine WL.yld rfl (blt rfl) rfl (Y.move rfl rfl) ?_
        refine WL.yld rfl (blt rfl) rfl (Y.move rfl rfl) ?_
        refine WL.yld rfl (blt rfl) rfl (Y.assign rfl rfl) ?_
        refine WL.yld rfl (blt rfl) rfl (Y.assign rfl rfl) ?_
        refine WL.nil ?_
        refine WK.then_normal (k34 _ _ ?_)
        refine WC.sub [(0, _), (1, _), (2, _), (7, _), (9, _), (10, _), (11, _), (14, _), (15, _), (20, _), (21, _), (22, _)] ⟨rfl, rfl, rfl, rfl, rfl, rfl, rfl, rfl, rfl, rfl, rfl, rfl, trivial⟩ ?_
        refine WC.seq (fun K37 k37 => ?_)
        refine WC.regionDq (by kernel_rfl) (by kernel_rfl) rfl ?_
        refine WQ.yld rfl (blt rfl) rfl (Y.move rfl rfl) ?_
        refine WQ.yld rfl (blt rfl) rfl (Y.move rfl rfl) ?_
        have b38 : es[j]!.v.toNat < n5 := by omega
        refine WQ.yld rfl (blt rfl) rfl (Y.indexLs es[j]!.v.toNat hl7 rfl Try.underlying35 ti3 rfl rfl (by omega) b38) ?_
        refine WQ.yld rfl (blt rfl) rfl (Y.load1 rfl Try.underlying3 rfl rfl (Ls.at_ext hl7 b38 rfl)) ?_
        refine WQ.yld rfl (blt rfl) rfl (Y.neq rfl rfl rfl) ?_
        refine WQ.yld rfl (blt rfl) rfl (Y.move rfl rfl) ?_
        refine WQ.yldG rfl (blt rfl) rfl rfl rfl (fun hb => Y.move rfl rfl) ?_
        refine WQ.yldG rfl (blt rfl) rfl rfl rfl (fun hb => Y.move rfl rfl) ?_
        refine WQ.yldG rfl (blt rfl) rfl rfl rfl (fun hb => Y.indexLs es[j]!.v.toNat hl7 rfl Try.underlying35 ti3 (evg rfl hb) (evg rfl hb) (by omega) (by have q0 := (eq_f (not_t hb)); omega)) ?_
        refine WQ.yldG rfl (blt rfl) rfl rfl rfl (fun hb => Y.load1 rfl Try.underlying3 rfl (evg rfl hb) (Ls.at_ext hl7 (by have q0 := (eq_f (not_t hb)); omega) rfl)) ?_
        refine WQ.yldG rfl (blt rfl) rfl rfl rfl (fun hb => Y.fieldAddr rfl Try.underlying92 rfl ti3 (by decide) rfl) ?_
        refine WQ.yldG rfl (blt rfl) rfl rfl rfl (fun hb => Y.load1 rfl Try.underlying3 rfl (evg rfl hb) (Blk.at_ext m30 rfl)) ?_
        refine WQ.yldG rfl (blt rfl) rfl rfl rfl (fun hb => Y.add rfl (evg rfl hb) (evg rfl hb) (wrap_i64 (by have q0 := (eq_f (not_t hb)); first | omega | (dsimp only; omega)))) ?_
        refine WQ.yldG rfl (blt rfl) rfl rfl rfl (fun hb => Y.move rfl rfl) ?_
        refine WQ.yldG rfl (blt rfl) rfl rfl rfl (fun hb => Y.move rfl rfl) ?_
        refine WQ.yldG rfl (blt rfl) rfl rfl rfl (fun hb => Y.indexLs es[j]!.u.toNat hl7 rfl Try.underlying35 ti3 (evg rfl hb) (evg rfl hb) (by omega) (by have q0 := (eq_f (not_t hb)); omega)) ?_
        refine WQ.yldG rfl (blt rfl) rfl rfl rfl (fun hb => Y.load1 rfl Try.underlying3 rfl (evg rfl hb) (Ls.at_ext hl7 (by have q0 := (eq_f (not_t hb)); omega) rfl)) ?_
        refine WQ.yldG rfl (blt rfl) rfl rfl rfl (fun hb => Y.lss rfl (evg rfl hb) (evg rfl hb)) ?_
        refine WQ.yld rfl (blt rfl) rfl (Y.and rfl rfl rfl rfl) ?_
        refine WQ.done (fun w39 x40 => ?_)
        have ow_v := ow_v.ext x40
        have hl7 := hl7.ext x40
        have m30 := m30.ext x40
        have xW := Ext.trans xW x40
        have gW := Gr.ext gW x40
        refine WK.then_normal (k37 _ _ ?_)
        refine WC.sub [(0, _), (1, _), (2, _), (7, _), (9, _), (10, _), (11, _), (14, _), (15, _), (20, _), (21, _), (22, _), (51, _)] ⟨rfl, rfl, rfl, rfl, rfl, rfl, rfl, rfl, rfl, rfl, rfl, rfl, rfl, trivial⟩ ?_
        refine WC.cond rfl (fun h41 => ?_) (fun h41 => ?_)
        ·
          have p41 := (And.intro (eq_f (not_t (and_t h41).1)) (dec_t (and_t h41).2))
          refine WC.seq (fun K42 k42 => ?_)
          refine WC.regionT 10 (by kernel_rfl) (by kernel_rfl) ?_
          refine WQ.yld rfl (blt rfl) rfl (Y.move rfl rfl) ?_
          refine WQ.yld rfl (blt rfl) rfl (Y.move rfl rfl) ?_
          refine WQ.yld rfl (blt rfl) rfl (Y.move rfl rfl) ?_
          refine WQ.yld rfl (blt rfl) rfl (Y.move rfl rfl) ?_
          have b43 : es[j]!.v.toNat < n5 := by omega
          refine WQ.yld rfl (blt rfl) rfl (Y.indexLs es[j]!.v.toNat hl7 rfl Try.underlying35 ti3 rfl rfl (by omega) b43) ?_
          refine WQ.yld rfl (blt rfl) rfl (Y.load1 rfl Try.underlying3 rfl rfl (Ls.at_ext hl7 b43 rfl)) ?_
          refine WQ.yld rfl (blt rfl) rfl (Y.fieldAddr rfl Try.underlying92 rfl ti3 (by decide) rfl) ?_
          refine WQ.yld rfl (blt rfl) rfl (Y.load1 rfl Try.underlying3 rfl rfl (Blk.at_ext m30 rfl)) ?_
          refine WQ.yld rfl (blt rfl) rfl (Y.add rfl rfl rfl (wrap_i64 (by first | omega | (dsimp only; omega)))) ?_
          have b44 : es[j]!.u.toNat < n5 := by omega
          refine WQ.yld rfl (blt rfl) rfl (Y.indexLs es[j]!.u.toNat hl7 rfl Try.underlying35 ti3 rfl rfl (by omega) b44) ?_
          refine WQ.tail (fun w45 x46 => ?_)
          have ow_v := ow_v.ext x46
          have hl7 := hl7.ext x46
          have m30 := m30.ext x46
          have xW := Ext.trans xW x46
          have gW := Gr.ext gW x46
          refine WL.storeE (k := es[j]!.u.toNat) (off := 0) (f := Ck.ic) _ rfl rfl rfl rfl rfl rfl ti3 ow_v (fun _ => rfl) b44 (ble rfl) rfl rfl (fun w47 ow48 gr49 => ?_)
          have m30 := m30.grown gr49 r_v_g23
          have xW := Ext.grown xW gr49 (fun b hb => (OwnL.lt ow_v hb).1)
          have gW := Gr.trans gW gr49
          have hl7 := OwnL.ls ow48 (fun _ => rfl) (by decide)
          refine WL.nil ?_
          refine WK.then_normal (k42 _ _ ?_)
          refine WC.sub [(0, _), (1, _), (2, _), (14, _), (15, _), (20, _), (21, _), (22, _)] ⟨rfl, rfl, rfl, rfl, rfl, rfl, rfl, rfl, trivial⟩ ?_
          refine WC.region rfl ?_
          refine WL.yld rfl (blt rfl) rfl (Y.assign rfl rfl) ?_
          refine WL.nil ?_
          refine WK.in_normal ?_
          refine WK.then_normal (k20 _ _ ?_)
          refine WC.region rfl ?_
          refine WL.yld rfl (blt rfl) rfl (Y.add rfl rfl rfl (wrap_i64 (by first | omega | (dsimp only; omega)))) ?_
          refine WL.yld rfl (blt rfl) rfl (Y.move rfl rfl) ?_
          refine WL.nil ?_
          have nx := Bd.fold_take (F := Bd.far) (es := Bd.turn back es) (s := (cur, true)) (show j < (Bd.turn back es).length by rw [Bd.turn_len]; omega)
          rw [inv_j, Bd.turn_at back (show j < es.length by omega), if_pos h36] at nx
          have st := Bd.relax1_yes (F := Bd.far) (c := c2) (b := b2) (e := (Bd.swap es[j]!)) h41 (by rcases hvv with q | q; exact .inl q; exact .inr (by show c2[es[j]!.v.toNat]! < Bd.far; omega))
          have bn := Bd.bnd_relax1 st cl2 (Bd.edok_swap1 (hok _ (bang_mem (show j < es.length by omega)))) bj (by omega) hW
          rw [st] at nx
          refine WK.roundS _ [(22, .int .i64 (((j + 1) : Nat) : Int)), (7, .bool _)] ⟨rfl, rfl, rfl, rfl, rfl, rfl, rfl, rfl, rfl, trivial⟩ ?_ ⟨(j + 1), _, _, (Bj + W), rfl, rfl, xW, ow48, gW, (by omega), bn.2, bn.1, (by omega), (by omega), nx⟩
          show _ - (j + 1) < _ - j; omega
        ·
          have p41 := ((and_f h41).imp (fun h => (eq_t (not_f h))) (fun h => (dec_f h)))
          refine WC.skip ?_
          refine WK.in_normal ?_
          refine WK.then_normal (k20 _ _ ?_)
          refine WC.sub [(0, _), (1, _), (2, _), (7, _), (14, _), (15, _), (20, _), (21, _), (22, _)] ⟨rfl, rfl, rfl, rfl, rfl, rfl, rfl, rfl, rfl, trivial⟩ ?_
          refine WC.region rfl ?_
          refine WL.yld rfl (blt rfl) rfl (Y.add rfl rfl rfl (wrap_i64 (by first | omega | (dsimp only; omega)))) ?_
          refine WL.yld rfl (blt rfl) rfl (Y.move rfl rfl) ?_
          refine WL.nil ?_
          have nx := Bd.fold_take (F := Bd.far) (es := Bd.turn back es) (s := (cur, true)) (show j < (Bd.turn back es).length by rw [Bd.turn_len]; omega)
          rw [inv_j, Bd.turn_at back (show j < es.length by omega), if_pos h36] at nx
          have st := Bd.relax1_no (F := Bd.far) (c := c2) (b := b2) (e := (Bd.swap es[j]!)) h41
          have bn := Bd.bnd_relax1 st cl2 (Bd.edok_swap1 (hok _ (bang_mem (show j < es.length by omega)))) bj (by omega) hW
          rw [st] at nx
          refine WK.roundS _ [(22, .int .i64 (((j + 1) : Nat) : Int)), (7, .bool _)] ⟨rfl, rfl, rfl, rfl, rfl, rfl, rfl, rfl, rfl, trivial⟩ ?_ ⟨(j + 1), _, _, (Bj + W), rfl, rfl, xW, ow_v, gW, (by omega), bn.2, bn.1, (by omega), (by omega), nx⟩
          show _ - (j + 1) < _ - j; omega
      ·
        refine WC.skip ?_
        refine WK.then_normal (k34 _ _ ?_)
        refine WC.sub [(0, _), (1, _), (2, _), (7, _), (9, _), (10, _), (11, _), (14, _), (15, _), (20, _), (21, _), (22, _)] ⟨rfl, rfl, rfl, rfl, rfl, rfl, rfl, rfl, rfl, rfl, rfl, rfl, trivial⟩ ?_
        refine WC.seq (fun K50 k50 => ?_)
        refine WC.regionDq (by kernel_rfl) (by kernel_rfl) rfl ?_
        refine WQ.yld rfl (blt rfl) rfl (Y.move rfl rfl) ?_
        refine WQ.yld rfl (blt rfl) rfl (Y.move rfl rfl) ?_
        have b51 : es[j]!.u.toNat < n5 := by omega
        refine WQ.yld rfl (blt rfl) rfl (Y.indexLs es[j]!.u.toNat hl7 rfl Try.underlying35 ti3 rfl rfl (by omega) b51) ?_
        refine WQ.yld rfl (blt rfl) rfl (Y.load1 rfl Try.underlying3 rfl rfl (Ls.at_ext hl7 b51 rfl)) ?_
        refine WQ.yld rfl (blt rfl) rfl (Y.neq rfl rfl rfl) ?_
        refine WQ.yld rfl (blt rfl) rfl (Y.move rfl rfl) ?_
        refine WQ.yldG rfl (blt rfl) rfl rfl rfl (fun hb => Y.move rfl rfl) ?_
        refine WQ.yldG rfl (blt rfl) rfl rfl rfl (fun hb => Y.move rfl rfl) ?_
        refine WQ.yldG rfl (blt rfl) rfl rfl rfl (fun hb => Y.indexLs es[j]!.u.toNat hl7 rfl Try.underlying35 ti3 (evg rfl hb) (evg rfl hb) (by omega) (by have q0 := (eq_f (not_t hb)); omega)) ?_
        refine WQ.yldG rfl (blt rfl) rfl rfl rfl (fun hb => Y.load1 rfl Try.underlying3 rfl (evg rfl hb) (Ls.at_ext hl7 (by have q0 := (eq_f (not_t hb)); omega) rfl)) ?_
        refine WQ.yldG rfl (blt rfl) rfl rfl rfl (fun hb => Y.fieldAddr rfl Try.underlying92 rfl ti3 (by decide) rfl) ?_
        refine WQ.yldG rfl (blt rfl) rfl rfl rfl (fun hb => Y.load1 rfl Try.underlying3 rfl (evg rfl hb) (Blk.at_ext m30 rfl)) ?_
        refine WQ.yldG rfl (blt rfl) rfl rfl rfl (fun hb => Y.add rfl (evg rfl hb) (evg rfl hb) (wrap_i64 (by have q0 := (eq_f (not_t hb)); first | omega | (dsimp only; omega)))) ?_
        refine WQ.yldG rfl (blt rfl) rfl rfl rfl (fun hb => Y.move rfl rfl) ?_
        refine WQ.yldG rfl (blt rfl) rfl rfl rfl (fun hb => Y.move rfl rfl) ?_
        refine WQ.yldG rfl (blt rfl) rfl rfl rfl (fun hb => Y.indexLs es[j]!.v.toNat hl7 rfl Try.underlying35 ti3 (evg rfl hb) (evg rfl hb) (by omega) (by have q0 := (eq_f (not_t hb)); omega)) ?_
        refine WQ.yldG rfl (blt rfl) rfl rfl rfl (fun hb => Y.load1 rfl Try.underlying3 rfl (evg rfl hb) (Ls.at_ext hl7 (by have q0 := (eq_f (not_t hb)); omega) rfl)) ?_
        refine WQ.yldG rfl (blt rfl) rfl rfl rfl (fun hb => Y.lss rfl (evg rfl hb) (evg rfl hb)) ?_
        refine WQ.yld rfl (blt rfl) rfl (Y.and rfl rfl rfl rfl) ?_
        refine WQ.done (fun w52 x53 => ?_)
        have ow_v := ow_v.ext x53
        have hl7 := hl7.ext x53
        have m30 := m30.ext x53
        have xW := Ext.trans xW x53
        have gW := Gr.ext gW x53
        refine WK.then_normal (k50 _ _ ?_)
        refine WC.sub [(0, _), (1, _), (2, _), (7, _), (9, _), (10, _), (11, _), (14, _), (15, _), (20, _), (21, _), (22, _), (51, _)] ⟨rfl, rfl, rfl, rfl, rfl, rfl, rfl, rfl, rfl, rfl, rfl, rfl, rfl, trivial⟩ ?_
        refine WC.cond rfl (fun h54 => ?_) (fun h54 => ?_)
        ·
          have p54 := (And.intro (eq_f (not_t (and_t h54).1)) (dec_t (and_t h54).2))
          refine WC.seq (fun K55 k55 => ?_)
          refine WC.regionT 10 (by kernel_rfl) (by kernel_rfl) ?_
          refine WQ.yld rfl (blt rfl) rfl (Y.move rfl rfl) ?_
          refine WQ.yld rfl (blt rfl) rfl (Y.move rfl rfl) ?_
          refine WQ.yld rfl (blt rfl) rfl (Y.move rfl rfl) ?_
          refine WQ.yld rfl (blt rfl) rfl (Y.move rfl rfl) ?_
          have b56 : es[j]!.u.toNat < n5 := by omega
          refine WQ.yld rfl (blt rfl) rfl (Y.indexLs es[j]!.u.toNat hl7 rfl Try.underlying35 ti3 rfl rfl (by omega) b56) ?_
          refine WQ.yld rfl (blt rfl) rfl (Y.load1 rfl Try.underlying3 rfl rfl (Ls.at_ext hl7 b56 rfl)) ?_
          refine WQ.yld rfl (blt rfl) rfl (Y.fieldAddr rfl Try.underlying92 rfl ti3 (by decide) rfl) ?_
          refine WQ.yld rfl (blt rfl) rfl (Y.load1 rfl Try.underlying3 rfl rfl (Blk.at_ext m30 rfl)) ?_
          refine WQ.yld rfl (blt rfl) rfl (Y.add rfl rfl rfl (wrap_i64 (by first | omega | (dsimp only; omega)))) ?_
          have b57 : es[j]!.v.toNat < n5 := by omega
          refine WQ.yld rfl (blt rfl) rfl (Y.indexLs es[j]!.v.toNat hl7 rfl Try.underlying35 ti3 rfl rfl (by omega) b57) ?_
          refine WQ.tail (fun w58 x59 => ?_)
          have ow_v := ow_v.ext x59
          have hl7 := hl7.ext x59
          have m30 := m30.ext x59
          have xW := Ext.trans xW x59
          have gW := Gr.ext gW x59
          refine WL.storeE (k := es[j]!.v.toNat) (off := 0) (f := Ck.ic) _ rfl rfl rfl rfl rfl rfl ti3 ow_v (fun _ => rfl) b57 (ble rfl) rfl rfl (fun w60 ow61 gr62 => ?_)
          have m30 := m30.grown gr62 r_v_g23
          have xW := Ext.grown xW gr62 (fun b hb => (OwnL.lt ow_v hb).1)
          have gW := Gr.trans gW gr62
          have hl7 := OwnL.ls ow61 (fun _ => rfl) (by decide)
          refine WL.nil ?_
          refine WK.then_normal (k55 _ _ ?_)
          refine WC.sub [(0, _), (1, _), (2, _), (14, _), (15, _), (20, _), (21, _), (22, _)] ⟨rfl, rfl, rfl, rfl, rfl, rfl, rfl, rfl, trivial⟩ ?_
          refine WC.region rfl ?_
          refine WL.yld rfl (blt rfl) rfl (Y.assign rfl rfl) ?_
          refine WL.nil ?_
          refine WK.in_normal ?_
          refine WK.then_normal (k20 _ _ ?_)
          refine WC.region rfl ?_
          refine WL.yld rfl (blt rfl) rfl (Y.add rfl rfl rfl (wrap_i64 (by first | omega | (dsimp only; omega)))) ?_
          refine WL.yld rfl (blt rfl) rfl (Y.move rfl rfl) ?_
          refine WL.nil ?_
          have nx := Bd.fold_take (F := Bd.far) (es := Bd.turn back es) (s := (cur, true)) (show j < (Bd.turn back es).length by rw [Bd.turn_len]; omega)
          rw [inv_j, Bd.turn_at back (show j < es.length by omega), if_neg (by rw [h36]; decide)] at nx
          have st := Bd.relax1_yes (F := Bd.far) (c := c2) (b := b2) (e := es[j]!) h54 (by rcases huu with q | q; exact .inl q; exact .inr (by show c2[es[j]!.u.toNat]! < Bd.far; omega))
          have bn := Bd.bnd_relax1 st cl2 (hok _ (bang_mem (show j < es.length by omega))) bj (by omega) hW
          rw [st] at nx
          refine WK.roundS _ [(22, .int .i64 (((j + 1) : Nat) : Int)), (7, .bool _)] ⟨rfl, rfl, rfl, rfl, rfl, rfl, rfl, rfl, rfl, trivial⟩ ?_ ⟨(j + 1), _, _, (Bj + W), rfl, rfl, xW, ow61, gW, (by omega), bn.2, bn.1, (by omega), (by omega), nx⟩
          show _ - (j + 1) < _ - j; omega
        ·
          have p54 := ((and_f h54).imp (fun h => (eq_t (not_f h))) (fun h => (dec_f h)))
          refine WC.skip ?_
          refine WK.in_normal ?_
          refine WK.then_normal (k20 _ _ ?_)
          refine WC.sub [(0, _), (1, _), (2, _), (7, _), (14, _), (15, _), (20, _), (21, _), (22, _)] ⟨rfl, rfl, rfl, rfl, rfl, rfl, rfl, rfl, rfl, trivial⟩ ?_
          refine WC.region rfl ?_
          refine WL.yld rfl (blt rfl) rfl (Y.add rfl rfl rfl (wrap_i64 (by first | omega | (dsimp only; omega)))) ?_
          refine WL.yld rfl (blt rfl) rfl (Y.move rfl rfl) ?_
          refine WL.nil ?_
          have nx := Bd.fold_take (F := Bd.far) (es := Bd.turn back es) (s := (cur, true)) (show j < (Bd.turn back es).length by rw [Bd.turn_len]; omega)
          rw [inv_j, Bd.turn_at back (show j < es.length by omega), if_neg (by rw [h36]; decide)] at nx
          have st := Bd.relax1_no (F := Bd.far) (c := c2) (b := b2) (e := es[j]!) h54
          have bn := Bd.bnd_relax1 st cl2 (hok _ (bang_mem (show j < es.length by omega))) bj (by omega) hW
          rw [st] at nx
          refine WK.roundS _ [(22, .int .i64 (((j + 1) : Nat) : Int)), (7, .bool _)] ⟨rfl, rfl, rfl, rfl, rfl, rfl, rfl, rfl, rfl, trivial⟩ ?_ ⟨(j + 1), _, _, (Bj + W), rfl, rfl, xW, ow_v, gW, (by omega), bn.2, bn.1, (by omega), (by omega), nx⟩
          show _ - (j + 1) < _ - j; omega
    ·
      have p19 := (dec_f h19)
      have hjj2 : Bj ≤ Bc + M := by rw [show n_es - j = 0 by omega] at roomj; omega
      refine WC.exit ?_
      refine WK.then_exit ?_
      refine WK.then_exit ?_
      refine WK.in_exit ?_
      refine WK.then_normal (k14 _ _ ?_)
      refine WC.sub [(0, _), (1, _), (2, _), (7, _), (14, _), (15, _)] ⟨rfl, rfl, rfl, rfl, rfl, rfl, trivial⟩ ?_
      refine WC.seq (fun K63 k63 => ?_)
      refine WC.region rfl ?_
      refine WL.yld rfl (blt rfl) rfl (Y.move rfl rfl) ?_
      refine WL.nil ?_
      refine WK.then_normal (k63 _ _ ?_)
      refine WC.sub [(0, _), (1, _), (2, _), (14, _), (15, _), (63, _)] ⟨rfl, rfl, rfl, rfl, rfl, rfl, trivial⟩ ?_
      refine WC.cond rfl (fun h64 => ?_) (fun h64 => ?_)
      ·
        refine WC.seq (fun K65 k65 => ?_)
        refine WC.region rfl ?_
        refine WL.yld rfl (blt rfl) rfl (Y.assign rfl rfl) ?_
        refine WL.nil ?_
        refine WK.then_normal (k65 _ _ ?_)
        refine WC.sub [(6, _)] ⟨rfl, trivial⟩ ?_
        refine WC.ret ?_
        refine WK.in_ret ?_
        refine WK.then_ret ?_
        refine WK.then_ret ?_
        refine WK.in_ret ?_
        refine WK.then_ret ?_
        clear k1 k2 k3 k9 k10 k12 k13 k14 k15 k17 k18 k63 k65
        refine WK.ret [_] rfl ⟨rfl, trivial⟩ ?_
        have rd := Bd.round_of inv_j (by omega)
        rw [h64] at rd
        have nx := Bd.relaxN_yes rd (show 0 < N + 1 - i from by omega)
        rw [same] at nx
        rw [nx]
        exact ⟨rfl, ow_v, gW⟩
      ·
        refine WC.skip ?_
        refine WK.in_normal ?_
        refine WK.then_normal (k12 _ _ ?_)
        refine WC.sub [(0, _), (1, _), (2, _), (14, _), (15, _)] ⟨rfl, rfl, rfl, rfl, rfl, trivial⟩ ?_
        refine WC.region rfl ?_
        refine WL.yld rfl (blt rfl) rfl (Y.add rfl rfl rfl (wrap_i64 (by first | omega | (dsimp only; omega)))) ?_
        refine WL.yld rfl (blt rfl) rfl (Y.move rfl rfl) ?_
        refine WL.nil ?_
        have rd := Bd.round_of inv_j (by omega)
        rw [h64] at rd
        have nx := Bd.relaxN_no rd (show 0 < N + 1 - i from by omega)
        rw [same, show N + 1 - i - 1 = N + 1 - (i + 1) from by omega] at nx
        refine WK.roundS _ [(15, .int .i64 (((i + 1) : Nat) : Int))] ⟨rfl, rfl, rfl, rfl, rfl, trivial⟩ ?_ ⟨(i + 1), c2, (Bc + M), rfl, rfl, xW, ow_v, gW, (by omega), cl2, (bj.mono (by have := hjj2; omega)), (by omega), (by omega), nx.symm⟩
        show _ - (i + 1) < _ - i; omega
  ·
    have p11 := (dec_f h11)
    refine WC.exit ?_
    refine WK.then_exit ?_
    refine WK.then_exit ?_
    refine WK.in_exit ?_
    refine WK.then_normal (k2 _ _ ?_)
    refine WC.sub [] trivial ?_
    refine WC.seq (fun K66 k66 => ?_)
    refine WC.region rfl ?_
    refine WL.yld rfl (blt rfl) rfl (Y.assign rfl rfl) ?_
    refine WL.nil ?_
    refine WK.then_normal (k66 _ _ ?_)
    refine WC.ret ?_
    clear k1 k2 k3 k9 k10 k66
    refine WK.ret [_] rfl ⟨rfl, trivial⟩ ?_
    have : N + 1 - i = 0 := by omega
    rw [this, show Bd.relaxN Bd.far (Bd.turn back es) 0 cur = (cur, false) from rfl] at same
    rw [← same]
    exact ⟨rfl, ow_v, gW⟩
end RL
end BdW

end Go.Proofs.Ytaglpampidlbmaa

namespace Go.Proofs.Ytaglpampidlbmaa
open Go Go.Eng Go.RowKit
set_option linter.unusedVariables false
set_option linter.unusedSimpArgs false
namespace BdW
open N RL NumF
namespace LB
theorem ti3 : TI Try.prog 3 (.int .i64 0) 1 8 := TI.mk (by kernel_rfl)
theorem has65 : Has Try.prog 65 := ⟨_, Try.func65, rfl, by kernel_rfl⟩
theorem has68 : Has Try.prog 68 := ⟨_, Try.func68, rfl, by kernel_rfl⟩
theorem has72 : Has Try.prog 72 := ⟨_, Try.func72, rfl, by kernel_rfl⟩
theorem index_int (A_l : Option Addr) (n_l c_l : Nat) (l : List Int) (v : Int) (w : World) (h_l : Ls w A_l n_l c_l Ck.ic 1 l) :
    Calls Try.prog 65 #[.slice A_l n_l c_l, .int .i64 v] w fun e w' => e = .returned (.int .i64 (Bd.idxI l v)) ∧ Ext w w' := by
  have xW := Ext.refl w
  have e_l := h_l.len
  have z_l := h_l.nle
  refine calls_of_WC (args := [.slice A_l n_l c_l, .int .i64 v]) Try.func65 rfl rfl (ble rfl) ?_
  refine WC.seq (fun K1 k1 => ?_)
  refine WC.region rfl ?_
  refine WL.yld rfl (blt rfl) rfl (Y.assign rfl rfl) ?_
  refine WL.nil ?_
  refine WK.then_normal (k1 _ _ ?_)
  refine WC.sub [(0, _), (1, _)] ⟨rfl, rfl, trivial⟩ ?_
  refine WC.seq (fun K2 k2 => ?_)
  refine WC.seq (fun K3 k3 => ?_)
  refine WC.region rfl ?_
  refine WL.yld rfl (blt rfl) rfl (Y.move rfl rfl) ?_
  refine WL.yld rfl (blt rfl) rfl (Y.lenSl rfl rfl rfl Try.underlying35 rfl) ?_
  refine WL.yld rfl (blt rfl) rfl (Y.move rfl rfl) ?_
  refine WL.nil ?_
  refine WK.then_normal (k3 _ _ ?_)
  refine WC.sub [(0, _), (1, _), (7, _), (8, _)] ⟨rfl, rfl, rfl, rfl, trivial⟩ ?_
  refine WC.block ?_
  refine WC.sub [(8, _), (0, _), (1, _), (7, _)] ⟨rfl, rfl, rfl, rfl, trivial⟩ ?_
  refine WC.loopS 1 (fun mz Ed W' => ∃ i : Nat, mz = n_l - i ∧ Ed = [(8, .int .i64 ((i : Nat) : Int))] ∧ Ext w W' ∧ (i ≤ n_l) ∧ (∀ j, j < i → l[j]! ≠ v)) _ ⟨0, rfl, rfl, xW, (Nat.zero_le _), (fun j hj => absurd hj (Nat.not_lt_zero j))⟩ ?_
  rintro _ _ w4 ⟨i, rfl, rfl, xW, le_i, inv_i⟩
  refine WC.sub [(8, _), (0, _), (1, _), (7, _)] ⟨rfl, rfl, rfl, rfl, trivial⟩ ?_
  refine WC.seq (fun K5 k5 => ?_)
  refine WC.region rfl ?_
  refine WL.yld rfl (blt rfl) rfl (Y.lss rfl rfl rfl) ?_
  refine WL.nil ?_
  refine WK.then_normal (k5 _ _ ?_)
  refine WC.seq (fun K6 k6 => ?_)
  refine WC.cond rfl (fun h7 => ?_) (fun h7 => ?_)
  ·
    have p7 := (dec_t h7)
    refine WC.skip ?_
    refine WK.then_normal (k6 _ _ ?_)
    refine WC.sub [(0, _), (1, _), (7, _), (8, _)] ⟨rfl, rfl, rfl, rfl, trivial⟩ ?_
    refine WC.seq (fun K8 k8 => ?_)
    refine WC.block ?_
    refine WC.seq (fun K9 k9 => ?_)
    refine WC.region rfl ?_
    refine WL.yld rfl (blt rfl) rfl (Y.move rfl rfl) ?_
    refine WL.yld rfl (blt rfl) rfl (Y.assign rfl rfl) ?_
    refine WL.nil ?_
    refine WK.then_normal (k9 _ _ ?_)
    refine WC.sub [(0, _), (1, _), (5, _), (7, _), (8, _)] ⟨rfl, rfl, rfl, rfl, rfl, trivial⟩ ?_
    refine WC.seq (fun K10 k10 => ?_)
    refine WC.region rfl ?_
    refine WL.yld rfl (blt rfl) rfl (Y.move rfl rfl) ?_
    refine WL.yld rfl (blt rfl) rfl (Y.move rfl rfl) ?_
    refine WL.yld rfl (blt rfl) rfl (Y.move rfl rfl) ?_
    have b11 : i < n_l := by omega
    refine WL.yld rfl (blt rfl) rfl (Y.indexLs i (h_l.ext xW) rfl Try.underlying35 ti3 rfl rfl rfl b11) ?_
    refine WL.yld rfl (blt rfl) rfl (Y.load1 rfl Try.underlying3 rfl rfl (Ls.at_eq (h_l.ext xW) b11 rfl)) ?_
    refine WL.yld rfl (blt rfl) rfl (Y.eql rfl rfl rfl) ?_
    refine WL.nil ?_
    refine WK.then_normal (k10 _ _ ?_)
    refine WC.sub [(0, _), (1, _), (5, _), (7, _), (8, _), (16, _)] ⟨rfl, rfl, rfl, rfl, rfl, rfl, trivial⟩ ?_
    refine WC.cond rfl (fun h12 => ?_) (fun h12 => ?_)
    ·
      have p12 := (eq_t h12)
      refine WC.seq (fun K13 k13 => ?_)
      refine WC.region rfl ?_
      refine WL.yld rfl (blt rfl) rfl (Y.move rfl rfl) ?_
      refine WL.yld rfl (blt rfl) rfl (Y.assign rfl rfl) ?_
      refine WL.nil ?_
      refine WK.then_normal (k13 _ _ ?_)
      refine WC.sub [(4, _)] ⟨rfl, trivial⟩ ?_
      refine WC.ret ?_
      refine WK.in_ret ?_
      refine WK.then_ret ?_
      refine WK.then_ret ?_
      refine WK.in_ret ?_
      refine WK.then_ret ?_
      clear k1 k2 k3 k5 k6 k8 k9 k10 k13
      refine WK.ret [_] rfl ⟨rfl, trivial⟩ ?_
      exact ⟨ret1 (vi (Bd.idxI_yes inv_i (by omega) (by have := h12; simpa using (eq_t this).symm)).symm), xW⟩
    ·
      have p12 := (eq_f h12)
      refine WC.skip ?_
      refine WK.in_normal ?_
      refine WK.then_normal (k8 _ _ ?_)
      refine WC.sub [(0, _), (1, _), (7, _), (8, _)] ⟨rfl, rfl, rfl, rfl, trivial⟩ ?_
      refine WC.region rfl ?_
      refine WL.yld rfl (blt rfl) rfl (Y.add rfl rfl rfl (wrap_i64 (by first | omega | (dsimp only; omega)))) ?_
      refine WL.yld rfl (blt rfl) rfl (Y.move rfl rfl) ?_
      refine WL.nil ?_
      refine WK.roundS _ [(8, .int .i64 (((i + 1) : Nat) : Int))] ⟨rfl, rfl, rfl, rfl, trivial⟩ ?_ ⟨(i + 1), rfl, rfl, xW, (by omega), (fun j hj => by rcases Nat.lt_succ_iff_lt_or_eq.1 hj with h | h; exact inv_i j h; rw [h]; exact fun e => by have := h12; simp [e] at this)⟩
      show _ - (i + 1) < _ - i; omega
  ·
    have p7 := (dec_f h7)
    refine WC.exit ?_
    refine WK.then_exit ?_
    refine WK.then_exit ?_
    refine WK.in_exit ?_
    refine WK.then_normal (k2 _ _ ?_)
    refine WC.sub [] trivial ?_
    refine WC.seq (fun K14 k14 => ?_)
    refine WC.region rfl ?_
    refine WL.yld rfl (blt rfl) rfl (Y.assign rfl rfl) ?_
    refine WL.nil ?_
    refine WK.then_normal (k14 _ _ ?_)
    refine WC.ret ?_
    clear k1 k2 k3 k5 k6 k14
    refine WK.ret [_] rfl ⟨rfl, trivial⟩ ?_
    exact ⟨ret1 (vi (Bd.idxI_no fun j hj => inv_i j (by omega)).symm), xW⟩
theorem contains_int (A_l : Option Addr) (n_l c_l : Nat) (l : List Int) (v : Int) (w : World) (h_l : Ls w A_l n_l c_l Ck.ic 1 l) :
    Calls Try.prog 46 #[.slice A_l n_l c_l, .int .i64 v] w fun e w' => e = .returned (.bool (decide (v ∈ l))) ∧ Ext w w' := by
  have xW := Ext.refl w
  have e_l := h_l.len
  have z_l := h_l.nle
  refine calls_of_WC (args := [.slice A_l n_l c_l, .int .i64 v]) Try.func46 rfl rfl (ble rfl) ?_
  refine WC.seq (fun K1 k1 => ?_)
  refine WC.region rfl ?_
  refine WL.yld rfl (blt rfl) rfl (Y.assign rfl rfl) ?_
  refine WL.nil ?_
  refine WK.then_normal (k1 _ _ ?_)
  refine WC.sub [(0, _), (1, _)] ⟨rfl, rfl, trivial⟩ ?_
  refine WC.seq (fun K2 k2 => ?_)
  refine WC.region rfl ?_
  refine WL.yld rfl (blt rfl) rfl (Y.move rfl rfl) ?_
  refine WL.yld rfl (blt rfl) rfl (Y.move rfl rfl) ?_
  refine WL.call rfl (blt rfl) rfl rfl rfl has65 rfl (index_int _ _ _ _ _ _ (h_l.ext xW)) ?_
  rintro _ w3 ⟨rfl, x4⟩
  refine ⟨_, rfl, ?_⟩
  have xW := Ext.trans xW x4
  refine WL.yld rfl (blt rfl) rfl (Y.geq rfl rfl rfl) ?_
  refine WL.yld rfl (blt rfl) rfl (Y.assign rfl rfl) ?_
  refine WL.nil ?_
  refine WK.then_normal (k2 _ _ ?_)
  refine WC.sub [(4, _)] ⟨rfl, trivial⟩ ?_
  refine WC.ret ?_
  clear k1 k2
  refine WK.ret [_] rfl ⟨rfl, trivial⟩ ?_
  exact ⟨ret1 (vb (Bd.idxI_mem l v)), xW⟩
theorem clone_int (A_l : Option Addr) (n_l c_l : Nat) (l : List Int) (w : World) (h_l : Ls w A_l n_l c_l Ck.ic 1 l) (hn : n_l ≤ 100000) :
    Calls Try.prog 47 #[.slice A_l n_l c_l] w fun e w' => ∃ v, e = .returned v ∧ OwnL w' w.heap.size 3 Ck.ic 1 v (l) ∧ Ext w w' := by
  have xW := Ext.refl w
  have e_l := h_l.len
  have z_l := h_l.nle
  refine calls_of_WC (args := [.slice A_l n_l c_l]) Try.func47 rfl rfl (ble rfl) ?_
  refine WC.seq (fun K1 k1 => ?_)
  refine WC.region rfl ?_
  refine WL.yld rfl (blt rfl) rfl (Y.assign rfl rfl) ?_
  refine WL.nil ?_
  refine WK.then_normal (k1 _ _ ?_)
  refine WC.sub [(0, _)] ⟨rfl, trivial⟩ ?_
  refine WC.seq (fun K2 k2 => ?_)
  refine WC.seq (fun K3 k3 => ?_)
  refine WC.region rfl ?_
  refine WL.yld rfl (blt rfl) rfl (Y.move rfl rfl) ?_
  refine WL.yld rfl (blt rfl) rfl (Y.eqlNilS rfl Try.underlying35 rfl) ?_
  refine WL.nil ?_
  refine WK.then_normal (k3 _ _ ?_)
  refine WC.sub [(0, _), (4, _)] ⟨rfl, rfl, trivial⟩ ?_
  refine WC.cond rfl (fun h4 => ?_) (fun h4 => ?_)
  ·
    refine WC.seq (fun K5 k5 => ?_)
    refine WC.region rfl ?_
    refine WL.yld rfl (blt rfl) rfl (Y.assign rfl rfl) ?_
    refine WL.nil ?_
    refine WK.then_normal (k5 _ _ ?_)
    refine WC.sub [(2, _)] ⟨rfl, trivial⟩ ?_
    refine WC.ret ?_
    refine WK.then_ret ?_
    clear k1 k2 k3 k5
    refine WK.ret [_] rfl ⟨rfl, trivial⟩ ?_
    have hA : A_l = none := by simpa using h4
    subst hA
    have hl := none_nil h_l
    subst hl
    exact ⟨_, rfl, OwnL.nil_, xW⟩
  ·
    refine WC.skip ?_
    refine WK.then_normal (k2 _ _ ?_)
    refine WC.sub [(0, _)] ⟨rfl, trivial⟩ ?_
    refine WC.seq (fun K6 k6 => ?_)
    refine WC.region rfl ?_
    refine WL.bslice0 rfl (blt rfl) rfl rfl Try.underlying35 ti3 ?_
    intro g7 w8 e9 x10 m11
    have o_g7 := own_new xW e9
    have xW := Ext.trans xW x10
    refine WL.yld rfl (blt rfl) rfl (Y.move rfl rfl) ?_
    have ob12 := Blk.own (sz := 1) (f := Ck.ic) (l := ([] : List Int)) (base := w.heap.size) m11 o_g7 (fun _ => rfl) rfl (by decide) rfl
    refine WL.appendL (f := Ck.ic) rfl (blt rfl) rfl rfl rfl rfl Try.underlying35 ti3 rfl (by decide) rfl ob12 (fun _ => rfl) Ck.ic_one (h_l.ext xW) xW.size (by have q0 := h_l.len; first | omega | (simp only [List.length_append, List.length_cons, List.length_nil, List.length_take, List.length_drop, List.length_reverse]; omega)) (Nat.le_trans (show _ ≤ 140737488355328 from by have q0 := h_l.len; first | omega | (simp only [List.length_append, List.length_cons, List.length_nil, List.length_take, List.length_drop, List.length_reverse]; omega)) (by decide)) (fun v13 w14 ow15 gr16 nb17 => ?_)
    have xW := Ext.grown xW gr16 (fun b hb => (OwnL.lt ob12 hb).1)
    refine WL.yld rfl (blt rfl) rfl (Y.assign rfl rfl) ?_
    refine WL.nil ?_
    refine WK.then_normal (k6 _ _ ?_)
    refine WC.sub [(2, _)] ⟨rfl, trivial⟩ ?_
    refine WC.ret ?_
    clear k1 k2 k3 k6
    refine WK.ret [_] rfl ⟨rfl, trivial⟩ ?_
    exact ⟨_, rfl, ow15, xW⟩
theorem mul_small (x y p : Int) (w : World) (h : x * y = p) (hx : 0 ≤ x ∧ x ≤ 18446744073709551615) (hy : 0 ≤ y ∧ y ≤ 18446744073709551615) (hp : 0 ≤ p ∧ p ≤ 18446744073709551615) :
    Calls Try.prog 68 #[.int .u64 x, .int .u64 y] w fun e w' => e = .returned (.tuple #[.int .u64 0, .int .u64 p]) ∧ Ext w w' := by
  have xW := Ext.refl w
  refine calls_of_WC (args := [.int .u64 x, .int .u64 y]) Try.func68 rfl rfl (ble rfl) ?_
  refine WC.seq (fun K1 k1 => ?_)
  refine WC.region rfl ?_
  refine WL.yld rfl (blt rfl) rfl (Y.assign rfl rfl) ?_
  refine WL.yld rfl (blt rfl) rfl (Y.assign rfl rfl) ?_
  refine WL.nil ?_
  refine WK.then_normal (k1 _ _ ?_)
  refine WC.sub [(0, _), (1, _)] ⟨rfl, rfl, trivial⟩ ?_
  refine WC.seq (fun K2 k2 => ?_)
  refine WC.condF rfl ?_
  refine WC.skip ?_
  refine WK.then_normal (k2 _ _ ?_)
  refine WC.seq (fun K3 k3 => ?_)
  refine WC.region rfl ?_
  refine WL.yld rfl (blt rfl) rfl (Y.move rfl rfl) ?_
  refine WL.yld rfl (blt rfl) rfl (Y.move rfl rfl) ?_
  refine WL.call rfl (blt rfl) rfl rfl rfl has72 rfl (mul64_small _ _ _ _ h hx hy hp) ?_
  rintro _ w4 ⟨rfl, x5⟩
  refine ⟨_, rfl, ?_⟩
  have xW := Ext.trans xW x5
  refine WL.yld rfl (blt rfl) rfl (Y.move rfl rfl) ?_
  refine WL.yld rfl (blt rfl) rfl (Y.extract rfl rfl rfl) ?_
  refine WL.yld rfl (blt rfl) rfl (Y.extract rfl rfl rfl) ?_
  refine WL.yld rfl (blt rfl) rfl (Y.assign rfl rfl) ?_
  refine WL.yld rfl (blt rfl) rfl (Y.assign rfl rfl) ?_
  refine WL.nil ?_
  refine WK.then_normal (k3 _ _ ?_)
  refine WC.sub [(8, _), (9, _)] ⟨rfl, rfl, trivial⟩ ?_
  refine WC.seq (fun K6 k6 => ?_)
  refine WC.region rfl ?_
  refine WL.yld rfl (blt rfl) rfl (Y.move rfl rfl) ?_
  refine WL.yld rfl (blt rfl) rfl (Y.move rfl rfl) ?_
  refine WL.yld rfl (blt rfl) rfl (Y.assign rfl rfl) ?_
  refine WL.yld rfl (blt rfl) rfl (Y.assign rfl rfl) ?_
  refine WL.nil ?_
  refine WK.then_normal (k6 _ _ ?_)
  refine WC.sub [(4, _), (5, _)] ⟨rfl, rfl, trivial⟩ ?_
  refine WC.ret ?_
  clear k1 k2 k3 k6
  refine WK.ret [_, _] rfl ⟨rfl, rfl, trivial⟩ ?_
  exact ⟨rfl, xW⟩
theorem repeat_int (A_l : Option Addr) (n_l c_l : Nat) (l : List Int) (n : Nat) (w : World) (h_l : Ls w A_l n_l c_l Ck.ic 1 l) (a : Int) (hl1 : l = [a]) (hn : 1 ≤ n ∧ n ≤ 100000) :
    Calls Try.prog 51 #[.slice A_l n_l c_l, .int .i64 ((n : Nat) : Int)] w fun e w' => ∃ v, e = .returned v ∧ OwnL w' w.heap.size 3 Ck.ic 1 v (List.replicate n a) ∧ Ext w w' := by
  have xW := Ext.refl w
  have e_l := h_l.len
  have z_l := h_l.nle
  have n1 : n_l = 1 := by rw [← e_l, hl1]; rfl
  refine calls_of_WC (args := [.slice A_l n_l c_l, .int .i64 ((n : Nat) : Int)]) Try.func51 rfl rfl (ble rfl) ?_
  refine WC.seq (fun K1 k1 => ?_)
  refine WC.region rfl ?_
  refine WL.yld rfl (blt rfl) rfl (Y.assign rfl rfl) ?_
  refine WL.nil ?_
  refine WK.then_normal (k1 _ _ ?_)
  refine WC.sub [(0, _), (1, _)] ⟨rfl, rfl, trivial⟩ ?_
  refine WC.seq (fun K2 k2 => ?_)
  refine WC.seq (fun K3 k3 => ?_)
  refine WC.region rfl ?_
  refine WL.yld rfl (blt rfl) rfl (Y.move rfl rfl) ?_
  refine WL.yld rfl (blt rfl) rfl (Yld.cast (Y.lss rfl rfl rfl) (bf (by omega))) ?_
  refine WL.nil ?_
  refine WK.then_normal (k3 _ _ ?_)
  refine WC.sub [(0, _), (1, _), (10, _)] ⟨rfl, rfl, rfl, trivial⟩ ?_
  refine WC.condF rfl ?_
  refine WC.skip ?_
  refine WK.then_normal (k2 _ _ ?_)
  refine WC.sub [(0, _), (1, _)] ⟨rfl, rfl, trivial⟩ ?_
  refine WC.seq (fun K4 k4 => ?_)
  refine WC.region rfl ?_
  refine WL.yld rfl (blt rfl) rfl (Y.move rfl rfl) ?_
  refine WL.yld rfl (blt rfl) rfl (Y.lenSl rfl rfl rfl Try.underlying35 rfl) ?_
  refine WL.yld rfl (blt rfl) rfl (Y.convInt rfl Try.underlying3 Try.underlying108 rfl (wrap_u64 (by first | omega | (dsimp only; omega)))) ?_
  refine WL.yld rfl (blt rfl) rfl (Y.move rfl rfl) ?_
  refine WL.yld rfl (blt rfl) rfl (Y.convInt rfl Try.underlying3 Try.underlying108 rfl (wrap_u64 (by first | omega | (dsimp only; omega)))) ?_
  refine WL.call rfl (blt rfl) rfl rfl rfl has68 rfl (mul_small _ _ ((n : Nat) : Int) _ (by rw [show n_l = 1 from by omega]; exact Int.one_mul _) (by omega) (by omega) (by omega)) ?_
  rintro _ w5 ⟨rfl, x6⟩
  refine ⟨_, rfl, ?_⟩
  have xW := Ext.trans xW x6
  refine WL.yld rfl (blt rfl) rfl (Y.move rfl rfl) ?_
  refine WL.yld rfl (blt rfl) rfl (Y.extract rfl rfl rfl) ?_
  refine WL.yld rfl (blt rfl) rfl (Y.extract rfl rfl rfl) ?_
  refine WL.yld rfl (blt rfl) rfl (Y.assign rfl rfl) ?_
  refine WL.yld rfl (blt rfl) rfl (Y.assign rfl rfl) ?_
  refine WL.nil ?_
  refine WK.then_normal (k4 _ _ ?_)
  refine WC.sub [(0, _), (5, _), (6, _)] ⟨rfl, rfl, rfl, trivial⟩ ?_
  refine WC.seq (fun K7 k7 => ?_)
  refine WC.seq (fun K8 k8 => ?_)
  refine WC.region rfl ?_
  refine WL.yld rfl (blt rfl) rfl (Y.move rfl rfl) ?_
  refine WL.yld rfl (blt rfl) rfl (Yld.cast (Y.gtr rfl rfl rfl) (bf (by omega))) ?_
  refine WL.yld rfl (blt rfl) rfl (Y.move rfl rfl) ?_
  refine WL.yldW rfl (blt rfl) rfl rfl rfl (Y.move rfl rfl) ?_
  refine WL.yldW rfl (blt rfl) rfl rfl rfl (Yld.cast (Y.gtr rfl rfl rfl) (bf (by omega))) ?_
  refine WL.yld rfl (blt rfl) rfl (Y.pickF rfl rfl rfl) ?_
  refine WL.nil ?_
  refine WK.then_normal (k8 _ _ ?_)
  refine WC.sub [(0, _), (6, _), (26, _)] ⟨rfl, rfl, rfl, trivial⟩ ?_
  refine WC.condF rfl ?_
  refine WC.skip ?_
  refine WK.then_normal (k7 _ _ ?_)
  refine WC.sub [(0, _), (6, _)] ⟨rfl, rfl, trivial⟩ ?_
  refine WC.seq (fun K9 k9 => ?_)
  refine WC.region rfl ?_
  refine WL.yld rfl (blt rfl) rfl (Y.move rfl rfl) ?_
  refine WL.yld rfl (blt rfl) rfl (Y.convInt rfl Try.underlying108 Try.underlying3 rfl (wrap_i64 (by first | omega | (dsimp only; omega)))) ?_
  refine WL.makeS (f := Ck.ic) (m := n) 0 rfl (blt rfl) rfl rfl rfl rfl Try.underlying35 ti3 rfl (fun _ => rfl) (by decide) (by omega) (by omega) (fun v10 w11 ow12 x13 => ?_)
  have ow12 := OwnL.base_le ow12 xW.size
  have xW := Ext.trans xW x13
  refine WL.yld rfl (blt rfl) rfl (Y.assign rfl rfl) ?_
  refine WL.nil ?_
  refine WK.then_normal (k9 _ _ ?_)
  refine WC.sub [(0, _), (7, _)] ⟨rfl, rfl, trivial⟩ ?_
  refine WC.seq (fun K14 k14 => ?_)
  refine WC.region rfl ?_
  refine WL.yld rfl (blt rfl) rfl (Y.move rfl rfl) ?_
  refine WL.yld rfl (blt rfl) rfl (Y.move rfl rfl) ?_
  obtain ⟨A15, n16, c17, rfl, hl18⟩ := OwnL.opened ow12 (fun _ => rfl) (by decide)
  have e_n16 := hl18.len
  try simp only [List.length_append, List.length_cons, List.length_nil, List.length_reverse, List.length_drop, List.length_take, List.length_map, List.length_replicate, List.length_set] at e_n16
  have z_n16 := hl18.nle
  refine WL.copy0 rfl (blt rfl) rfl rfl rfl rfl Try.underlying35 (by kernel_rfl) rfl ow12 (h_l.ext xW) (fun _ => rfl) Ck.ic_one (by omega) (by omega) (fun w19 ow20 gr21 => ?_)
  have xW := Ext.grown xW gr21 (fun b hb => (OwnL.lt ow12 hb).1)
  rw [Bd.rep_first hl1 (show min n_l n16 = 1 from by omega) (by omega)] at ow20
  have hl18 := OwnL.ls ow20 (fun _ => rfl) (by decide)
  refine WL.yld rfl (blt rfl) rfl (Y.assign rfl rfl) ?_
  refine WL.nil ?_
  refine WK.then_normal (k14 _ _ ?_)
  refine WC.sub [(7, _), (8, _)] ⟨rfl, rfl, trivial⟩ ?_
  refine WC.seq (fun K22 k22 => ?_)
  refine WC.block ?_
  refine WC.sub [(8, _), (7, _)] ⟨rfl, rfl, trivial⟩ ?_
  refine WC.loopS 1 (fun mz Ed W' => ∃ k : Nat, mz = n - k ∧ Ed = [(8, .int .i64 ((k : Nat) : Int))] ∧ Ext w W' ∧ OwnL W' w.heap.size 3 Ck.ic 1 (.slice A15 n16 c17) (List.replicate k a ++ List.replicate (n - k) (0 : Int)) ∧ (1 ≤ k ∧ k ≤ n)) _ ⟨(min n_l n16), rfl, rfl, xW, ow20, (by omega)⟩ ?_
  rintro _ _ w23 ⟨k, rfl, rfl, xW, ow20, le_k⟩
  refine WC.sub [(8, _), (7, _)] ⟨rfl, rfl, trivial⟩ ?_
  have hl18 := OwnL.ls ow20 (fun _ => rfl) (by decide)
  have lenk : (List.replicate k a ++ List.replicate (n - k) (0 : Int)).length = n := by rw [List.length_append, List.length_replicate, List.length_replicate]; omega
  refine WC.seq (fun K24 k24 => ?_)
  refine WC.seq (fun K25 k25 => ?_)
  refine WC.region rfl ?_
  refine WL.yld rfl (blt rfl) rfl (Y.move rfl rfl) ?_
  refine WL.yld rfl (blt rfl) rfl (Y.move rfl rfl) ?_
  refine WL.yld rfl (blt rfl) rfl (Y.lenSl rfl rfl rfl Try.underlying35 rfl) ?_
  refine WL.yld rfl (blt rfl) rfl (Y.lss rfl rfl rfl) ?_
  refine WL.nil ?_
  refine WK.then_normal (k25 _ _ ?_)
  refine WC.sub [(7, _), (8, _), (37, _)] ⟨rfl, rfl, rfl, trivial⟩ ?_
  refine WC.cond rfl (fun h26 => ?_) (fun h26 => ?_)
  ·
    have p26 := (dec_t h26)
    refine WC.skip ?_
    refine WK.then_normal (k24 _ _ ?_)
    refine WC.sub [(7, _), (8, _)] ⟨rfl, rfl, trivial⟩ ?_
    refine WC.block ?_
    refine WC.regionX (fun W' => Ext w W') (.load 0 (.load 1 (.load 2 (.load 3 (.load 4 (.load 5 (.load 6 (.alt 7 (.load 8 (.load 9 (.fin))) (.none))))))))) xW (by kernel_rfl) (by kernel_rfl) (fun w27 x28 => ?_)
    have ow20 := ow20.ext x28
    have hl18 := hl18.ext x28
    have xW := Ext.trans xW x28
    refine WX.yld rfl rfl (blt rfl) rfl (Y.move rfl rfl) ?_
    refine WX.yld rfl rfl (blt rfl) rfl (Y.move rfl rfl) ?_
    refine WX.yld rfl rfl (blt rfl) rfl (Y.move rfl rfl) ?_
    have b29 : k ≤ n16 := by omega
    refine WX.yld rfl rfl (blt rfl) rfl (Y.sliceL k rfl Try.underlying35 ti3 rfl rfl rfl b29) ?_
    refine WX.yld rfl rfl (blt rfl) rfl (Y.move rfl rfl) ?_
    refine WX.yld rfl rfl (blt rfl) rfl (Y.move rfl rfl) ?_
    have b30 : k ≤ n16 := by omega
    refine WX.yld rfl rfl (blt rfl) rfl (Y.sliceH k rfl Try.underlying35 ti3 rfl rfl rfl (Nat.le_trans b30 hl18.le)) ?_
    refine WX.run rfl rfl (blt rfl) rfl xW (Run.copyE (k := k) rfl rfl rfl Try.underlying35 (by kernel_rfl) rfl ow20 (hl18.take b30) (fun _ => rfl) Ck.ic_one (by omega) (by omega)) ?_
    rintro _ w31 ⟨rfl, ow32, gr33⟩
    have xW := Ext.grown xW gr33 (fun b hb => (OwnL.lt ow20 hb).1)
    rw [Bd.rep_copy (n := k) (N := n) (show min k (n16 - k) = min k (n - k) by omega) (by omega)] at ow32
    have hl18 := OwnL.ls ow32 (fun _ => rfl) (by decide)
    refine WX.yld rfl rfl (blt rfl) rfl (Y.add rfl rfl rfl (wrap_i64 (by first | omega | (dsimp only; omega)))) ?_
    refine WX.yld rfl rfl (blt rfl) rfl (Y.assign rfl rfl) ?_
    refine WX.nil xW ?_
    refine WK.in_normal ?_
    refine WK.roundS _ [(8, .int .i64 (((k + min k (n16 - k)) : Nat) : Int))] ⟨rfl, rfl, trivial⟩ ?_ ⟨(k + min k (n16 - k)), rfl, rfl, xW, ow32, (by omega)⟩
    show n - (k + min k (n16 - k)) < n - k; omega
  ·
    have p26 := (dec_f h26)
    refine WC.exit ?_
    refine WK.then_exit ?_
    refine WK.then_exit ?_
    refine WK.in_exit ?_
    refine WK.then_normal (k22 _ _ ?_)
    refine WC.sub [(7, _)] ⟨rfl, trivial⟩ ?_
    refine WC.seq (fun K34 k34 => ?_)
    refine WC.region rfl ?_
    refine WL.yld rfl (blt rfl) rfl (Y.move rfl rfl) ?_
    refine WL.yld rfl (blt rfl) rfl (Y.assign rfl rfl) ?_
    refine WL.nil ?_
    refine WK.then_normal (k34 _ _ ?_)
    refine WC.sub [(4, _)] ⟨rfl, trivial⟩ ?_
    refine WC.ret ?_
    clear k1 k2 k3 k4 k7 k8 k9 k14 k22 k24 k25 k34
    refine WK.ret [_] rfl ⟨rfl, trivial⟩ ?_
    have hk : k = n := by omega
    subst hk
    exact ⟨_, rfl, (by have q := ow20; rw [Nat.sub_self, List.replicate_zero, List.append_nil] at q; exact q), xW⟩
end LB
end BdW

end Go.Proofs.Ytaglpampidlbmaa

namespace Go.Proofs.Ytaglpampidlbmaa
open Go Go.Eng Go.RowKit
set_option linter.unusedVariables false
set_option linter.unusedSimpArgs false
namespace BdW
open N RL NumF LB
namespace GR
theorem ti3 : TI Try.prog 3 (.int .i64 0) 1 8 := TI.mk (by kernel_rfl)
theorem ti82 : TI Try.prog 82 (.map none) 1 8 := TI.mk (by kernel_rfl)
theorem has50 : Has Try.prog 50 := ⟨_, Try.func50, rfl, by kernel_rfl⟩
theorem has51 : Has Try.prog 51 := ⟨_, Try.func51, rfl, by kernel_rfl⟩
theorem consistent_any (g0 g1 : Nat) (m : PM) (A_es : Option Addr) (n_es c_es : Nat) (es : List Bd.Ed) (W : Int) (N : Nat) (w : World) (h_es : Ls w A_es n_es c_es Bd.Ed.c 3 es) (m0 : Blk w g0 85 [.map (some g1), .slice A_es n_es c_es]) (mm : MpP w g1 m) (hm : m.length + 1 = N) (rd : Bd.Ready Bd.far W N es) (hN2 : N ≤ 100000) :
    Calls Try.prog 26 #[.pointer (some ⟨g0, 0, none⟩)] w fun e w' => e = .returned (.bool (Bd.relaxN Bd.far es (N + 1) (Bd.zeros N)).2) ∧ Ext w w' := by
  have xW := Ext.refl w
  refine calls_of_WC (args := [.pointer (some ⟨g0, 0, none⟩)]) Try.func26 rfl rfl (ble rfl) ?_
  refine WC.seq (fun K1 k1 => ?_)
  refine WC.region rfl ?_
  refine WL.yld rfl (blt rfl) rfl (Y.assign rfl rfl) ?_
  refine WL.nil ?_
  refine WK.then_normal (k1 _ _ ?_)
  refine WC.sub [(0, _)] ⟨rfl, trivial⟩ ?_
  refine WC.seq (fun K2 k2 => ?_)
  refine WC.region rfl ?_
  refine WL.yld rfl (blt rfl) rfl (Y.move rfl rfl) ?_
  refine WL.yld rfl (blt rfl) rfl (Y.move rfl rfl) ?_
  refine WL.yld rfl (blt rfl) rfl (Y.nilCheck rfl rfl) ?_
  refine WL.yld rfl (blt rfl) rfl (Y.fieldAddr rfl Try.underlying85 rfl ti82 (by decide) rfl) ?_
  refine WL.yld rfl (blt rfl) rfl (Y.load1 rfl Try.underlying82 rfl rfl (Blk.at_eq (m0.ext xW) rfl)) ?_
  refine WL.yld rfl (blt rfl) rfl (Y.lenMapP rfl rfl rfl Try.underlying82 rfl (fun _ h => h ▸ (mm.ext xW))) ?_
  refine WL.yld rfl (blt rfl) rfl (Y.add rfl rfl rfl (wrap_i64 (by first | omega | (dsimp only; omega)))) ?_
  refine WL.makeS (f := Ck.ic) (m := (m.length + 1)) 0 rfl (blt rfl) rfl rfl rfl rfl Try.underlying35 ti3 rfl (fun _ => rfl) (by decide) (by omega) (by omega) (fun v3 w4 ow5 x6 => ?_)
  have ow5 := OwnL.base_le ow5 xW.size
  have xW := Ext.trans xW x6
  refine WL.call rfl (blt rfl) rfl rfl rfl has50 rfl (relax_any w _ _ _ _ _ _ h_es m0 W _ N rd.hW rfl (Int.mul_nonneg (by omega) rd.hW) rd.ok rd.room hN2 _ _ _ _ xW ow5 (by rw [List.length_replicate]; exact hm) (Bd.bnd_rep0 _)) ?_
  rintro _ w7 ⟨rfl, ow9, gr10⟩
  refine ⟨_, rfl, ?_⟩
  have xW := Ext.grown xW gr10 (fun b hb => (OwnL.lt ow5 hb).1)
  refine WL.yld rfl (blt rfl) rfl (Y.assign rfl rfl) ?_
  refine WL.nil ?_
  refine WK.then_normal (k2 _ _ ?_)
  refine WC.sub [(2, _)] ⟨rfl, trivial⟩ ?_
  refine WC.ret ?_
  clear k1 k2
  refine WK.ret [_] rfl ⟨rfl, trivial⟩ ?_
  subst hm
  exact ⟨rfl, xW⟩
theorem from_any (g0 g1 : Nat) (m : PM) (A_es : Option Addr) (n_es c_es : Nat) (es : List Bd.Ed) (W : Int) (N : Nat) (back : Bool) (w : World) (h_es : Ls w A_es n_es c_es Bd.Ed.c 3 es) (m0 : Blk w g0 85 [.map (some g1), .slice A_es n_es c_es]) (mm : MpP w g1 m) (hm : m.length + 1 = N) (rd : Bd.Ready Bd.far W N es) (hN2 : N ≤ 100000) :
    Calls Try.prog 28 #[.pointer (some ⟨g0, 0, none⟩), .bool back] w fun e w' => ∃ v, e = .returned v ∧ OwnL w' w.heap.size 3 Ck.ic 1 v (Bd.relaxN Bd.far (Bd.turn back es) (N + 1) (Bd.fromD Bd.far N 0)).1 ∧ Ext w w' := by
  have xW := Ext.refl w
  refine calls_of_WC (args := [.pointer (some ⟨g0, 0, none⟩), .bool back]) Try.func28 rfl rfl (ble rfl) ?_
  refine WC.seq (fun K1 k1 => ?_)
  refine WC.region rfl ?_
  refine WL.yld rfl (blt rfl) rfl (Y.assign rfl rfl) ?_
  refine WL.nil ?_
  refine WK.then_normal (k1 _ _ ?_)
  refine WC.sub [(0, _), (1, _)] ⟨rfl, rfl, trivial⟩ ?_
  refine WC.seq (fun K2 k2 => ?_)
  refine WC.region rfl ?_
  refine WL.bslice (zs := [.int .i64 0]) (cs := [_]) rfl (blt rfl) rfl rfl Try.underlying35 ti3 rfl (ble rfl) (by kernel_rfl) rfl rfl ?_
  intro g3 w4 e5 x6 m7
  have o_g3 := own_new xW e5
  have xW := Ext.trans xW x6
  refine WL.yld rfl (blt rfl) rfl (Y.move rfl rfl) ?_
  refine WL.yld rfl (blt rfl) rfl (Y.nilCheck rfl rfl) ?_
  refine WL.yld rfl (blt rfl) rfl (Y.fieldAddr rfl Try.underlying85 rfl ti82 (by decide) rfl) ?_
  refine WL.yld rfl (blt rfl) rfl (Y.load1 rfl Try.underlying82 rfl rfl (Blk.at_eq (m0.ext xW) rfl)) ?_
  refine WL.yld rfl (blt rfl) rfl (Y.lenMapP rfl rfl rfl Try.underlying82 rfl (fun _ h => h ▸ (mm.ext xW))) ?_
  refine WL.yld rfl (blt rfl) rfl (Y.add rfl rfl rfl (wrap_i64 (by first | omega | (dsimp only; omega)))) ?_
  refine WL.call rfl (blt rfl) rfl rfl rfl has51 rfl (repeat_int _ _ _ _ (m.length + 1) _ (Ls.lit (f := Ck.ic) (sz := 1) (l := [Bd.far]) m7 (fun _ => rfl) rfl (by first | decide | exact (show 1 ≤ maxLen by decide)) rfl) Bd.far rfl (by omega)) ?_
  rintro _ w8 ⟨v10, rfl, ow11, x9⟩
  refine ⟨_, rfl, ?_⟩
  have r_v10_g3 := ne_res ow11 m7
  have ow11 := OwnL.base_le ow11 xW.size
  have m7 := m7.ext x9
  have xW := Ext.trans xW x9
  refine WL.yld rfl (blt rfl) rfl (Y.assign rfl rfl) ?_
  refine WL.nil ?_
  refine WK.then_normal (k2 _ _ ?_)
  refine WC.sub [(0, _), (1, _), (5, _)] ⟨rfl, rfl, rfl, trivial⟩ ?_
  refine WC.seq (fun K12 k12 => ?_)
  refine WC.region rfl ?_
  refine WL.yld rfl (blt rfl) rfl (Y.move rfl rfl) ?_
  obtain ⟨A13, n14, c15, rfl, hl16⟩ := OwnL.opened ow11 (fun _ => rfl) (by decide)
  have e_n14 := hl16.len
  try simp only [List.length_append, List.length_cons, List.length_nil, List.length_reverse, List.length_drop, List.length_take, List.length_map, List.length_replicate, List.length_set] at e_n14
  have z_n14 := hl16.nle
  have b17 : 0 < n14 := by omega
  refine WL.yld rfl (blt rfl) rfl (Y.indexLs 0 hl16 rfl Try.underlying35 ti3 rfl rfl rfl b17) ?_
  refine WL.storeE (k := 0) (off := 0) (f := Ck.ic) 0 rfl rfl rfl rfl rfl rfl ti3 ow11 (fun _ => rfl) b17 (ble rfl) rfl rfl (fun w18 ow19 gr20 => ?_)
  have xW := Ext.grown xW gr20 (fun b hb => (OwnL.lt ow11 hb).1)
  have hl16 := OwnL.ls ow19 (fun _ => rfl) (by decide)
  refine WL.nil ?_
  refine WK.then_normal (k12 _ _ ?_)
  refine WC.sub [(0, _), (1, _), (5, _)] ⟨rfl, rfl, rfl, trivial⟩ ?_
  refine WC.seq (fun K21 k21 => ?_)
  refine WC.region rfl ?_
  refine WL.yld rfl (blt rfl) rfl (Y.move rfl rfl) ?_
  refine WL.yld rfl (blt rfl) rfl (Y.move rfl rfl) ?_
  refine WL.yld rfl (blt rfl) rfl (Y.move rfl rfl) ?_
  refine WL.call rfl (blt rfl) rfl rfl rfl has50 rfl (relax_any w _ _ _ _ _ _ h_es m0 W _ N rd.hW rfl (Int.mul_nonneg (by omega) rd.hW) rd.ok rd.room hN2 _ _ _ _ xW ow19 (by rw [List.length_set, List.length_replicate]; exact hm) (Bd.bnd_from _)) ?_
  rintro _ w22 ⟨rfl, ow24, gr25⟩
  refine ⟨_, rfl, ?_⟩
  have xW := Ext.grown xW gr25 (fun b hb => (OwnL.lt ow19 hb).1)
  have hl16 := OwnL.ls ow24 (fun _ => rfl) (by decide)
  refine WL.nil ?_
  refine WK.then_normal (k21 _ _ ?_)
  refine WC.sub [(5, _)] ⟨rfl, trivial⟩ ?_
  refine WC.seq (fun K26 k26 => ?_)
  refine WC.region rfl ?_
  refine WL.yld rfl (blt rfl) rfl (Y.move rfl rfl) ?_
  refine WL.yld rfl (blt rfl) rfl (Y.assign rfl rfl) ?_
  refine WL.nil ?_
  refine WK.then_normal (k26 _ _ ?_)
  refine WC.sub [(4, _)] ⟨rfl, trivial⟩ ?_
  refine WC.ret ?_
  clear k1 k2 k12 k21 k26
  refine WK.ret [_] rfl ⟨rfl, trivial⟩ ?_
  subst hm
  exact ⟨_, rfl, ow24, xW⟩
end GR
end BdW

end Go.Proofs.Ytaglpampidlbmaa
