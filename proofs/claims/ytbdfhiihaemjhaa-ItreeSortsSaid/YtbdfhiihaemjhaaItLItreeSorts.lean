/- The walk of the law. Conditions: what each theorem states. -/
import Derived.Test.YtbdfhiihaemjhaaItAwake
import Derived.Test.YtbdfhiihaemjhaaItLaw
namespace Go.Proofs.Ytbdfhiihaemjhaa
open Go Go.Eng Go.RowKit
set_option linter.unusedVariables false
namespace ItW
open M O Vi X R A
namespace LItreeSorts
theorem ti3 : TI Try.prog 3 (.int .i64 0) 1 8 := TI.mk (by kernel_rfl)
theorem ti4 : TI Try.prog 4 (.bool false) 1 1 := TI.mk (by kernel_rfl)
theorem ti24 : TI Try.prog 24 (.slice none 0 0) 1 24 := TI.mk (by kernel_rfl)
theorem ti26 : TI Try.prog 26 (.agg #[.slice none 0 0, .slice none 0 0]) 2 48 := TI.mk (by kernel_rfl)
theorem ti32 : TI Try.prog 32 (.agg #[.int .i64 0, .int .i64 0]) 2 16 := TI.mk (by kernel_rfl)
theorem has8 : Has Try.prog 8 := ⟨_, Try.func8, rfl, by kernel_rfl⟩
theorem has9 : Has Try.prog 9 := ⟨_, Try.func9, rfl, by kernel_rfl⟩
theorem eqg32 : Try.prog.eqGuardType Try.prog.depth 32 = false := by kernel_rfl
theorem eq32 (a0 : Int) (a1 : Int) (b0 : Int) (b1 : Int) (w : World) : (Op.equalIn 10000 32 (.agg #[.int .i64 a0, .int .i64 a1]) (.agg #[.int .i64 b0, .int .i64 b1])).run Try.prog w = .ok ((a0 == b0) && (a1 == b1)) w := by
  go_simp
  (repeat' split) <;> simp_all
theorem ItreeSorts_any (A_l : Option Addr) (n_l c_l : Nat) (l : List Sp.S) (w : World) (h_l : Ls w A_l n_l c_l Sp.S.c 2 l) (hv : ∀ x ∈ l, It.low ≤ x.t) :
    Calls Try.prog 5 #[.slice A_l n_l c_l] w fun e w' => e = .returned (.bool true) ∧ Ext w w' := by
  have xW := Ext.refl w
  have e_l := h_l.len
  have z_l := h_l.nle
  have ol := It.ord_len l l.length
  have ml := It.most_len l
  refine calls_of_WC (args := [.slice A_l n_l c_l]) Try.func5 rfl rfl (ble rfl) ?_
  refine WC.seq (fun K1 k1 => ?_)
  refine WC.region rfl ?_
  refine WL.yld rfl (blt rfl) rfl (Y.assign rfl rfl) ?_
  refine WL.nil ?_
  refine WK.then_normal (k1 _ _ ?_)
  refine WC.sub [(0, _)] ⟨rfl, trivial⟩ ?_
  refine WC.seq (fun K2 k2 => ?_)
  refine WC.seq (fun K3 k3 => ?_)
  refine WC.region rfl ?_
  refine WL.yld rfl (blt rfl) rfl (Y.move rfl rfl) ?_
  refine WL.yld rfl (blt rfl) rfl (Y.lenSl rfl rfl rfl Try.underlying22 rfl) ?_
  refine WL.yld rfl (blt rfl) rfl (Y.gtr rfl rfl rfl) ?_
  refine WL.nil ?_
  refine WK.then_normal (k3 _ _ ?_)
  refine WC.sub [(0, _), (11, _)] ⟨rfl, rfl, trivial⟩ ?_
  refine WC.cond rfl (fun h4 => ?_) (fun h4 => ?_)
  ·
    have p4 := (dec_t h4)
    refine WC.seq (fun K5 k5 => ?_)
    refine WC.region rfl ?_
    refine WL.call rfl (blt rfl) rfl rfl rfl has8 rfl (awake_any _ ) ?_
    rintro _ w6 ⟨rfl, x7⟩
    refine ⟨_, rfl, ?_⟩
    have xW := Ext.trans xW x7
    refine WL.yld rfl (blt rfl) rfl (Y.assign rfl rfl) ?_
    refine WL.nil ?_
    refine WK.then_normal (k5 _ _ ?_)
    refine WC.sub [(2, _)] ⟨rfl, trivial⟩ ?_
    refine WC.ret ?_
    refine WK.then_ret ?_
    clear k1 k2 k3 k5
    refine WK.ret [_] rfl ⟨rfl, trivial⟩ ?_
    exact ⟨ret1 (vb rfl), xW⟩
  ·
    have p4 := (dec_f h4)
    refine WC.skip ?_
    refine WK.then_normal (k2 _ _ ?_)
    refine WC.sub [(0, _)] ⟨rfl, trivial⟩ ?_
    refine WC.seq (fun K8 k8 => ?_)
    refine WC.region rfl ?_
    refine WL.yld rfl (blt rfl) rfl (Y.move rfl rfl) ?_
    refine WL.call rfl (blt rfl) rfl rfl rfl has9 rfl (of_tree _ _ _ _ _ (h_l.ext xW) (by omega)) ?_
    rintro _ w9 ⟨v11, v12, rfl, ow13, ow14, d15, x10⟩
    refine ⟨_, rfl, ?_⟩
    have ow13 := OwnL.base_le ow13 xW.size
    have ow14 := OwnL.base_le ow14 xW.size
    have d_v11_v12 := d15.symm
    have xW := Ext.trans xW x10
    refine WL.alloc rfl (blt rfl) rfl rfl ti26 rfl ?_
    intro g16 w17 e18 x19 m20
    have r_v11_g16 := ne_newO ow13 e18
    have r_v12_g16 := ne_newO ow14 e18
    have o_g16 := own_new xW e18
    have ow13 := ow13.ext x19
    have ow14 := ow14.ext x19
    have xW := Ext.trans xW x19
    obtain ⟨A21, n22, c23, rfl, hl24⟩ := OwnL.opened ow13 (fun _ => rfl) (by decide)
    have e_n22 := hl24.len
    try simp only [List.length_append, List.length_cons, List.length_nil, List.length_reverse, List.length_drop, List.length_take, List.length_map, List.length_replicate] at e_n22
    have z_n22 := hl24.nle
    obtain ⟨A25, n26, c27, rfl, hl28⟩ := OwnL.opened ow14 (fun _ => rfl) (by decide)
    have e_n26 := hl28.len
    try simp only [List.length_append, List.length_cons, List.length_nil, List.length_reverse, List.length_drop, List.length_take, List.length_map, List.length_replicate] at e_n26
    have z_n26 := hl28.nle
    refine WL.store (cs' := [_, _]) rfl rfl rfl rfl rfl rfl ti26 m20 (ble rfl) rfl rfl (fun w29 on30 m31 => ?_)
    have ow13 := ow13.only r_v11_g16 on30
    have hl24 := OwnL.ls ow13 (fun _ => rfl) (by decide)
    have ow14 := ow14.only r_v12_g16 on30
    have hl28 := OwnL.ls ow14 (fun _ => rfl) (by decide)
    have xW := Ext.only xW on30 o_g16
    refine WL.nil ?_
    refine WK.then_normal (k8 _ _ ?_)
    refine WC.sub [(0, _), (3, _)] ⟨rfl, rfl, trivial⟩ ?_
    refine WC.seq (fun K32 k32 => ?_)
    refine WC.seq (fun K33 k33 => ?_)
    refine WC.region rfl ?_
    refine WL.yld rfl (blt rfl) rfl (Y.fieldAddr rfl Try.underlying26 rfl ti24 (by decide) rfl) ?_
    refine WL.yld rfl (blt rfl) rfl (Y.load1 rfl Try.underlying24 rfl rfl (Blk.at_eq m31 rfl)) ?_
    refine WL.yld rfl (blt rfl) rfl (Y.lenSl rfl rfl rfl Try.underlying24 rfl) ?_
    refine WL.yld rfl (blt rfl) rfl (Y.move rfl rfl) ?_
    refine WL.yld rfl (blt rfl) rfl (Y.lenSl rfl rfl rfl Try.underlying22 rfl) ?_
    refine WL.yld rfl (blt rfl) rfl (Y.neq rfl rfl rfl) ?_
    refine WL.yld rfl (blt rfl) rfl (Y.move rfl rfl) ?_
    refine WL.yldG rfl (blt rfl) rfl rfl rfl (fun hb => Y.fieldAddr rfl Try.underlying26 rfl ti24 (by decide) rfl) ?_
    refine WL.yldG rfl (blt rfl) rfl rfl rfl (fun hb => Y.load1 rfl Try.underlying24 rfl (evg rfl hb) (Blk.at_eq m31 rfl)) ?_
    refine WL.yldG rfl (blt rfl) rfl rfl rfl (fun hb => Y.lenSl rfl rfl rfl Try.underlying24 (evs_cons (evg rfl hb) evs_nil)) ?_
    refine WL.yldG rfl (blt rfl) rfl rfl rfl (fun hb => Y.move rfl rfl) ?_
    refine WL.yldG rfl (blt rfl) rfl rfl rfl (fun hb => Y.lenSl rfl rfl rfl Try.underlying22 (evs_cons (evg rfl hb) evs_nil)) ?_
    refine WL.yldG rfl (blt rfl) rfl rfl rfl (fun hb => Y.neq rfl (evg rfl hb) (evg rfl hb)) ?_
    refine WL.yld rfl (blt rfl) rfl (Y.or rfl rfl rfl rfl) ?_
    refine WL.nil ?_
    refine WK.then_normal (k33 _ _ ?_)
    refine WC.sub [(0, _), (3, _), (28, _)] ⟨rfl, rfl, rfl, trivial⟩ ?_
    refine WC.cond rfl (fun h34 => ?_) (fun h34 => ?_)
    ·
      clear k1 k2 k3 k8 k32 k33
      exact False.elim (by have q := h34; simp at q; omega)
    ·
      have p34 := (And.intro (eq_t (not_f (or_f h34).1)) (eq_t (not_f (or_f h34).2)))
      refine WC.skip ?_
      refine WK.then_normal (k32 _ _ ?_)
      refine WC.sub [(0, _), (3, _)] ⟨rfl, rfl, trivial⟩ ?_
      refine WC.seq (fun K35 k35 => ?_)
      refine WC.region rfl ?_
      refine WL.yld rfl (blt rfl) rfl (Y.move rfl rfl) ?_
      refine WL.yld rfl (blt rfl) rfl (Y.lenSl rfl rfl rfl Try.underlying22 rfl) ?_
      refine WL.makeS (f := It.bc) (m := n_l) false rfl (blt rfl) rfl rfl rfl rfl Try.underlying37 ti4 rfl (fun _ => rfl) (by decide) (by omega) (by omega) (fun v36 w37 ow38 x39 => ?_)
      have d_v11_v36 := (Apart.res ow38 ow13).symm
      have d_v12_v36 := (Apart.res ow38 ow14).symm
      have r_v36_g16 := ne_res ow38 m31
      have ow38 := OwnL.base_le ow38 xW.size
      have ow13 := ow13.ext x39
      have hl24 := hl24.ext x39
      have ow14 := ow14.ext x39
      have hl28 := hl28.ext x39
      have m31 := m31.ext x39
      have xW := Ext.trans xW x39
      refine WL.yld rfl (blt rfl) rfl (Y.assign rfl rfl) ?_
      refine WL.nil ?_
      refine WK.then_normal (k35 _ _ ?_)
      refine WC.sub [(0, _), (3, _), (4, _)] ⟨rfl, rfl, rfl, trivial⟩ ?_
      refine WC.seq (fun K40 k40 => ?_)
      refine WC.seq (fun K41 k41 => ?_)
      refine WC.region rfl ?_
      refine WL.yld rfl (blt rfl) rfl (Y.assign rfl rfl) ?_
      refine WL.nil ?_
      refine WK.then_normal (k41 _ _ ?_)
      refine WC.block ?_
      refine WC.sub [(5, _), (4, _), (0, _), (3, _)] ⟨rfl, rfl, rfl, rfl, trivial⟩ ?_
      refine WC.loopS 2 (fun mz Ed W' => ∃ p : Nat, ∃ v : Value, mz = n_l - p ∧ Ed = [(5, .int .i64 ((p : Nat) : Int)), (4, v)] ∧ Ext w W' ∧ Blk W' g16 26 _ ∧ OwnL W' w.heap.size 3 Sp.ic 1 (.slice A21 n22 c23) _ ∧ OwnL W' w.heap.size 3 Sp.ic 1 (.slice A25 n26 c27) _ ∧ OwnL W' w.heap.size 4 It.bc 1 v (It.seenL l p) ∧ v.ownBlock ≠ some g16 ∧ Apart v (.slice A21 n22 c23) ∧ Apart v (.slice A25 n26 c27) ∧ (p ≤ n_l)) _ ⟨0, _, rfl, rfl, xW, m31, ow13, ow14, (by rw [It.seen_zero, e_l]; exact ow38), r_v36_g16, d_v11_v36.symm, d_v12_v36.symm, (Nat.zero_le _)⟩ ?_
      rintro _ _ w42 ⟨p, v, rfl, rfl, xW, m31, ow13, ow14, ow_v, r_v_g16, d_v_v11, d_v_v12, le_p⟩
      refine WC.sub [(5, _), (4, _), (0, _), (3, _)] ⟨rfl, rfl, rfl, rfl, trivial⟩ ?_
      have hl24 := OwnL.ls ow13 (fun _ => rfl) (by decide)
      have hl28 := OwnL.ls ow14 (fun _ => rfl) (by decide)
      have sl := It.seen_len l p
      refine WC.seq (fun K43 k43 => ?_)
      refine WC.seq (fun K44 k44 => ?_)
      refine WC.region rfl ?_
      refine WL.yld rfl (blt rfl) rfl (Y.move rfl rfl) ?_
      refine WL.yld rfl (blt rfl) rfl (Y.fieldAddr rfl Try.underlying26 rfl ti24 (by decide) rfl) ?_
      refine WL.yld rfl (blt rfl) rfl (Y.load1 rfl Try.underlying24 rfl rfl (Blk.at_eq m31 rfl)) ?_
      refine WL.yld rfl (blt rfl) rfl (Y.lenSl rfl rfl rfl Try.underlying24 rfl) ?_
      refine WL.yld rfl (blt rfl) rfl (Y.lss rfl rfl rfl) ?_
      refine WL.nil ?_
      refine WK.then_normal (k44 _ _ ?_)
      refine WC.sub [(0, _), (3, _), (4, _), (5, _), (36, _)] ⟨rfl, rfl, rfl, rfl, rfl, trivial⟩ ?_
      refine WC.cond rfl (fun h45 => ?_) (fun h45 => ?_)
      ·
        have p45 := (dec_t h45)
        have hop := It.ordN_lt l (n := l.length) (j := p) (by omega)
        refine WC.skip ?_
        refine WK.then_normal (k43 _ _ ?_)
        refine WC.sub [(0, _), (3, _), (4, _), (5, _)] ⟨rfl, rfl, rfl, rfl, trivial⟩ ?_
        refine WC.seq (fun K46 k46 => ?_)
        refine WC.block ?_
        refine WC.seq (fun K47 k47 => ?_)
        refine WC.region rfl ?_
        refine WL.yld rfl (blt rfl) rfl (Y.fieldAddr rfl Try.underlying26 rfl ti24 (by decide) rfl) ?_
        refine WL.yld rfl (blt rfl) rfl (Y.load1 rfl Try.underlying24 rfl rfl (Blk.at_eq m31 rfl)) ?_
        refine WL.yld rfl (blt rfl) rfl (Y.move rfl rfl) ?_
        have b48 : p < n22 := by omega
        refine WL.yld rfl (blt rfl) rfl (Y.indexLs p hl24 rfl Try.underlying24 ti3 rfl rfl rfl b48) ?_
        refine WL.yld rfl (blt rfl) rfl (Yld.cast (Y.load1 rfl Try.underlying3 rfl rfl (Ls.at_eq hl24 b48 rfl)) (vi (It.ord_at l (by omega)))) ?_
        refine WL.yld rfl (blt rfl) rfl (Y.assign rfl rfl) ?_
        refine WL.nil ?_
        refine WK.then_normal (k47 _ _ ?_)
        refine WC.sub [(0, _), (3, _), (4, _), (5, _), (6, _)] ⟨rfl, rfl, rfl, rfl, rfl, trivial⟩ ?_
        refine WC.seq (fun K49 k49 => ?_)
        refine WC.seq (fun K50 k50 => ?_)
        obtain ⟨A51, n52, c53, rfl, hl54⟩ := OwnL.opened ow_v (fun _ => rfl) (by decide)
        have e_n52 := hl54.len
        try simp only [List.length_append, List.length_cons, List.length_nil, List.length_reverse, List.length_drop, List.length_take, List.length_map, List.length_replicate] at e_n52
        have z_n52 := hl54.nle
        refine WC.regionX (fun W' => Ext w W' ∧ Blk W' g16 26 _ ∧ Ls W' A21 n22 c23 Sp.ic 1 _ ∧ Ls W' A25 n26 c27 Sp.ic 1 _ ∧ Ls W' A51 n52 c53 It.bc 1 _) (.load 0 (.load 1 (.load 2 (.load 3 (.load 4 (.load 5 (.load 6 (.load 7 (.load 8 (.load 9 (.load 10 (.load 11 (.load 12 (.load 13 (.load 14 (.load 15 (.load 16 (.load 17 (.load 18 (.load 19 (.load 20 (.load 21 (.load 22 (.load 23 (.load 24 (.load 25 (.load 26 (.load 27 (.load 28 (.load 29 (.load 30 (.load 31 (.load 32 (.load 33 (.load 34 (.load 35 (.load 36 (.load 37 (.load 38 (.load 39 (.load 40 (.load 41 (.fin))))))))))))))))))))))))))))))))))))))))))) ⟨xW, m31, hl24, hl28, hl54⟩ (by kernel_rfl) (by kernel_rfl) (fun w55 x56 => ?_)
        have m31 := m31.ext x56
        have ow13 := ow13.ext x56
        have hl24 := hl24.ext x56
        have ow14 := ow14.ext x56
        have hl28 := hl28.ext x56
        have ow_v := ow_v.ext x56
        have hl54 := hl54.ext x56
        have xW := Ext.trans xW x56
        refine WX.yld rfl rfl (blt rfl) rfl (Y.move rfl rfl) ?_
        refine WX.yld rfl rfl (blt rfl) rfl (Yld.cast (Y.lss rfl rfl rfl) (vb (b := false) (decide_eq_false (by omega)))) ?_
        refine WX.yld rfl rfl (blt rfl) rfl (Y.move rfl rfl) ?_
        refine WX.yldW rfl rfl (blt rfl) rfl rfl rfl (Y.move rfl rfl) ?_
        refine WX.yldW rfl rfl (blt rfl) rfl rfl rfl (Y.move rfl rfl) ?_
        refine WX.yldW rfl rfl (blt rfl) rfl rfl rfl (Y.lenSl rfl rfl rfl Try.underlying22 rfl) ?_
        refine WX.yldW rfl rfl (blt rfl) rfl rfl rfl (Yld.cast (Y.geq rfl rfl rfl) (vb (b := false) (decide_eq_false (by omega)))) ?_
        refine WX.yld rfl rfl (blt rfl) rfl (Y.pickF rfl rfl rfl) ?_
        refine WX.yld rfl rfl (blt rfl) rfl (Y.move rfl rfl) ?_
        refine WX.yldW rfl rfl (blt rfl) rfl rfl rfl (Y.move rfl rfl) ?_
        refine WX.yldW rfl rfl (blt rfl) rfl rfl rfl (Y.move rfl rfl) ?_
        have b57 : (It.ordN l l.length)[p]! < n52 := by omega
        refine WX.yldW rfl rfl (blt rfl) rfl rfl rfl (Y.indexLs (It.ordN l l.length)[p]! hl54 rfl Try.underlying37 ti4 rfl rfl rfl b57) ?_
        refine WX.yldW rfl rfl (blt rfl) rfl rfl rfl (Yld.cast (Y.load1 rfl Try.underlying4 rfl rfl (Ls.at_c (fun _ h => h.2.2.2.2) b57 rfl)) (vb (b := false) (It.seen_not (by omega)))) ?_
        refine WX.yld rfl rfl (blt rfl) rfl (Y.pickF rfl rfl rfl) ?_
        refine WX.yld rfl rfl (blt rfl) rfl (Y.move rfl rfl) ?_
        refine WX.yldW rfl rfl (blt rfl) rfl rfl rfl (Y.fieldAddr rfl Try.underlying26 rfl ti24 (by decide) rfl) ?_
        refine WX.yldW rfl rfl (blt rfl) rfl rfl rfl (Y.load1 rfl Try.underlying24 rfl rfl (Blk.at_c (fun _ h => h.2.1) rfl)) ?_
        refine WX.yldW rfl rfl (blt rfl) rfl rfl rfl (Y.move rfl rfl) ?_
        have b58 : p < n26 := by omega
        refine WX.yldW rfl rfl (blt rfl) rfl rfl rfl (Y.indexLs p hl28 rfl Try.underlying24 ti3 rfl rfl rfl b58) ?_
        refine WX.yldW rfl rfl (blt rfl) rfl rfl rfl (Y.load1 rfl Try.underlying3 rfl rfl (Ls.at_c (fun _ h => h.2.2.2.1) b58 rfl)) ?_
        refine WX.yldW rfl rfl (blt rfl) rfl rfl rfl (Y.move rfl rfl) ?_
        refine WX.yldW rfl rfl (blt rfl) rfl rfl rfl (Y.move rfl rfl) ?_
        have b59 : (It.ordN l l.length)[p]! < n_l := by omega
        refine WX.yldW rfl rfl (blt rfl) rfl rfl rfl (Y.indexLs (It.ordN l l.length)[p]! (h_l.ext xW) rfl Try.underlying22 ti32 rfl rfl rfl b59) ?_
        refine WX.yldW rfl rfl (blt rfl) rfl rfl rfl (Y.fieldE rfl Try.underlying32 rfl ti3 (by decide) rfl) ?_
        refine WX.yldW rfl rfl (blt rfl) rfl rfl rfl (Y.load1 rfl Try.underlying3 rfl rfl (Ls.at_c (fun _ h => (h_l.ext (h.1))) b59 rfl)) ?_
        refine WX.yldW rfl rfl (blt rfl) rfl rfl rfl (Yld.cast (Y.lss rfl rfl rfl) (vb (b := false) (decide_eq_false (by have q := It.most_ge (l := l) (p := p) (by omega); omega)))) ?_
        refine WX.yld rfl rfl (blt rfl) rfl (Y.pickF rfl rfl rfl) ?_
        refine WX.yld rfl rfl (blt rfl) rfl (Y.move rfl rfl) ?_
        refine WX.yldW rfl rfl (blt rfl) rfl rfl rfl (Y.fieldAddr rfl Try.underlying26 rfl ti24 (by decide) rfl) ?_
        refine WX.yldW rfl rfl (blt rfl) rfl rfl rfl (Y.load1 rfl Try.underlying24 rfl rfl (Blk.at_c (fun _ h => h.2.1) rfl)) ?_
        refine WX.yldW rfl rfl (blt rfl) rfl rfl rfl (Y.move rfl rfl) ?_
        have b60 : p < n26 := by omega
        refine WX.yldW rfl rfl (blt rfl) rfl rfl rfl (Y.indexLs p hl28 rfl Try.underlying24 ti3 rfl rfl rfl b60) ?_
        refine WX.yldW rfl rfl (blt rfl) rfl rfl rfl (Y.load1 rfl Try.underlying3 rfl rfl (Ls.at_c (fun _ h => h.2.2.2.1) b60 rfl)) ?_
        refine WX.yldW rfl rfl (blt rfl) rfl rfl rfl (Y.fieldAddr rfl Try.underlying26 rfl ti24 (by decide) rfl) ?_
        refine WX.yldW rfl rfl (blt rfl) rfl rfl rfl (Y.load1 rfl Try.underlying24 rfl rfl (Blk.at_c (fun _ h => h.2.1) rfl)) ?_
        refine WX.yldW rfl rfl (blt rfl) rfl rfl rfl (Y.move rfl rfl) ?_
        refine WX.yldW rfl rfl (blt rfl) rfl rfl rfl (Y.lenSl rfl rfl rfl Try.underlying22 rfl) ?_
        refine WX.yldW rfl rfl (blt rfl) rfl rfl rfl (Yld.cast (Y.quo rfl rfl rfl (by omega) (wrap_quo (by omega) (by omega) (by omega))) (vi (b := ((n_l / 2 : Nat) : Int)) (by omega))) ?_
        have b61 : (n_l / 2) < n26 := by omega
        refine WX.yldW rfl rfl (blt rfl) rfl rfl rfl (Y.indexLs (n_l / 2) hl28 rfl Try.underlying24 ti3 rfl rfl rfl b61) ?_
        refine WX.yldW rfl rfl (blt rfl) rfl rfl rfl (Y.load1 rfl Try.underlying3 rfl rfl (Ls.at_c (fun _ h => h.2.2.2.1) b61 rfl)) ?_
        refine WX.yldW rfl rfl (blt rfl) rfl rfl rfl (Yld.cast (Y.gtr rfl rfl rfl) (vb (b := false) (decide_eq_false (by have q := It.most_le (l := l) (p := p) (by omega); rw [e_l] at q; omega)))) ?_
        refine WX.yld rfl rfl (blt rfl) rfl (Y.pickF rfl rfl rfl) ?_
        refine WX.nil ⟨xW, m31, hl24, hl28, hl54⟩ ?_
        refine WK.then_normal (k50 _ _ ?_)
        refine WC.sub [(0, _), (3, _), (4, _), (5, _), (6, _), (85, _)] ⟨rfl, rfl, rfl, rfl, rfl, rfl, trivial⟩ ?_
        refine WC.condF rfl ?_
        refine WC.skip ?_
        refine WK.then_normal (k49 _ _ ?_)
        refine WC.sub [(0, _), (3, _), (4, _), (5, _), (6, _)] ⟨rfl, rfl, rfl, rfl, rfl, trivial⟩ ?_
        refine WC.seq (fun K62 k62 => ?_)
        refine WC.region rfl ?_
        refine WL.yld rfl (blt rfl) rfl (Y.move rfl rfl) ?_
        refine WL.yld rfl (blt rfl) rfl (Y.move rfl rfl) ?_
        have b63 : (It.ordN l l.length)[p]! < n52 := by omega
        refine WL.yld rfl (blt rfl) rfl (Y.indexLs (It.ordN l l.length)[p]! hl54 rfl Try.underlying37 ti4 rfl rfl rfl b63) ?_
        refine WL.storeE (k := (It.ordN l l.length)[p]!) (off := 0) (f := It.bc) true rfl rfl rfl rfl rfl rfl ti4 ow_v (fun _ => rfl) b63 (ble rfl) rfl rfl (fun w64 ow65 gr66 => ?_)
        have m31 := m31.grown gr66 r_v_g16
        have ow13 := OwnL.grown ow13 gr66 d_v_v11
        have hl24 := OwnL.ls ow13 (fun _ => rfl) (by decide)
        have ow14 := OwnL.grown ow14 gr66 d_v_v12
        have hl28 := OwnL.ls ow14 (fun _ => rfl) (by decide)
        have xW := Ext.grown xW gr66 (fun b hb => (OwnL.lt ow_v hb).1)
        have hl54 := OwnL.ls ow65 (fun _ => rfl) (by decide)
        refine WL.nil ?_
        refine WK.then_normal (k62 _ _ ?_)
        refine WC.sub [(0, _), (3, _), (4, _), (5, _), (6, _)] ⟨rfl, rfl, rfl, rfl, rfl, trivial⟩ ?_
        refine WC.seq (fun K67 k67 => ?_)
        refine WC.seq (fun K68 k68 => ?_)
        refine WC.region rfl ?_
        refine WL.yld rfl (blt rfl) rfl (Y.move rfl rfl) ?_
        refine WL.yld rfl (blt rfl) rfl (Y.eql rfl rfl rfl) ?_
        refine WL.nil ?_
        refine WK.then_normal (k68 _ _ ?_)
        refine WC.sub [(0, _), (3, _), (4, _), (5, _), (6, _), (90, _)] ⟨rfl, rfl, rfl, rfl, rfl, rfl, trivial⟩ ?_
        refine WC.cond rfl (fun h69 => ?_) (fun h69 => ?_)
        ·
          have p69 := (eq_t h69)
          refine WC.exit ?_
          refine WK.then_exit ?_
          refine WK.in_exit ?_
          refine WK.then_normal (k46 _ _ ?_)
          refine WC.sub [(0, _), (3, _), (4, _), (5, _)] ⟨rfl, rfl, rfl, rfl, trivial⟩ ?_
          refine WC.region rfl ?_
          refine WL.yld rfl (blt rfl) rfl (Y.move rfl rfl) ?_
          refine WL.yld rfl (blt rfl) rfl (Y.add rfl rfl rfl (wrap_i64 (by first | omega | (dsimp only; omega)))) ?_
          refine WL.yld rfl (blt rfl) rfl (Y.assign rfl rfl) ?_
          refine WL.nil ?_
          refine WK.roundS _ [(5, .int .i64 (((p + 1) : Nat) : Int)), (4, (.slice A51 n52 c53))] ⟨rfl, rfl, rfl, rfl, trivial⟩ ?_ ⟨(p + 1), (.slice A51 n52 c53), rfl, rfl, xW, m31, ow13, ow14, (by rw [← It.seen_next (show p < l.length by omega)]; exact ow65), r_v_g16, d_v_v11, d_v_v12, (by omega)⟩
          show _ - (p + 1) < _ - p; omega
        ·
          have p69 := (eq_f h69)
          have hoq := It.ordN_lt l (n := l.length) (j := p - 1) (by omega)
          have hbf := It.ord_bef (l := l) (p := p) (by omega) (by omega)
          refine WC.skip ?_
          refine WK.then_normal (k67 _ _ ?_)
          refine WC.sub [(0, _), (3, _), (4, _), (5, _), (6, _)] ⟨rfl, rfl, rfl, rfl, rfl, trivial⟩ ?_
          refine WC.seq (fun K70 k70 => ?_)
          refine WC.regionX (fun W' => Ext w W' ∧ Blk W' g16 26 _ ∧ Ls W' A21 n22 c23 Sp.ic 1 _ ∧ Ls W' A25 n26 c27 Sp.ic 1 _ ∧ Ls W' A51 n52 c53 It.bc 1 _) (.load 0 (.load 1 (.load 2 (.load 3 (.load 4 (.load 5 (.load 6 (.load 7 (.load 8 (.load 9 (.load 10 (.load 11 (.load 12 (.alt 13 (.alt 14 (.alt 15 (.alt 16 (.fin) (.none)) (.none)) (.none)) (.alt 14 (.alt 13 (.alt 15 (.alt 16 (.fin) (.none)) (.none)) (.none)) (.none)))))))))))))))) ⟨xW, m31, hl24, hl28, hl54⟩ (by kernel_rfl) (by kernel_rfl) (fun w71 x72 => ?_)
          have m31 := m31.ext x72
          have ow13 := ow13.ext x72
          have hl24 := hl24.ext x72
          have ow14 := ow14.ext x72
          have hl28 := hl28.ext x72
          have ow65 := ow65.ext x72
          have hl54 := hl54.ext x72
          have xW := Ext.trans xW x72
          refine WX.yld rfl rfl (blt rfl) rfl (Y.move rfl rfl) ?_
          refine WX.yld rfl rfl (blt rfl) rfl (Y.fieldAddr rfl Try.underlying26 rfl ti24 (by decide) rfl) ?_
          refine WX.yld rfl rfl (blt rfl) rfl (Y.load1 rfl Try.underlying24 rfl rfl (Blk.at_c (fun _ h => h.2.1) rfl)) ?_
          refine WX.yld rfl rfl (blt rfl) rfl (Y.move rfl rfl) ?_
          refine WX.yld rfl rfl (blt rfl) rfl (Yld.cast (Y.sub rfl rfl rfl (wrap_i64 (by first | omega | (dsimp only; omega)))) (vi (b := ((p - 1 : Nat) : Int)) (by omega))) ?_
          have b73 : (p - 1) < n22 := by omega
          refine WX.yld rfl rfl (blt rfl) rfl (Y.indexLs (p - 1) hl24 rfl Try.underlying24 ti3 rfl rfl (by omega) b73) ?_
          refine WX.yld rfl rfl (blt rfl) rfl (Yld.cast (Y.load1 rfl Try.underlying3 rfl rfl (Ls.at_c (fun _ h => h.2.2.1) b73 rfl)) (vi (It.ord_at l (by omega)))) ?_
          have b74 : (It.ordN l l.length)[p - 1]! < n_l := by omega
          refine WX.yld rfl rfl (blt rfl) rfl (Y.indexLs (It.ordN l l.length)[p - 1]! (h_l.ext xW) rfl Try.underlying22 ti32 rfl rfl (by omega) b74) ?_
          refine WX.yld rfl rfl (blt rfl) rfl (Y.loadS (cs := [_, _]) rfl Try.underlying32 rfl ti32 rfl (Ls.part_c (fun _ h => (h_l.ext (h.1))) b74 rfl)) ?_
          refine WX.yld rfl rfl (blt rfl) rfl (Y.move rfl rfl) ?_
          refine WX.yld rfl rfl (blt rfl) rfl (Y.move rfl rfl) ?_
          have b75 : (It.ordN l l.length)[p]! < n_l := by omega
          refine WX.yld rfl rfl (blt rfl) rfl (Y.indexLs (It.ordN l l.length)[p]! (h_l.ext xW) rfl Try.underlying22 ti32 rfl rfl rfl b75) ?_
          refine WX.yld rfl rfl (blt rfl) rfl (Y.loadS (cs := [_, _]) rfl Try.underlying32 rfl ti32 rfl (Ls.part_c (fun _ h => (h_l.ext (h.1))) b75 rfl)) ?_
          refine WX.alt ?_ ?_
          ·
            refine WX.run rfl rfl (blt rfl) rfl ⟨xW, m31, hl24, hl28, hl54⟩ (Run.alloc rfl ti32 rfl) ?_
            rintro _ w77 ⟨g76, rfl, e78, x79, m80⟩
            have n_g16_g76 := ne_new m31 e78
            have r_v11_g76 := ne_newO ow13 e78
            have r_v12_g76 := ne_newO ow14 e78
            have r_v_g76 := ne_newO ow65 e78
            have o_g76 := own_new xW e78
            have m31 := m31.ext x79
            have ow13 := ow13.ext x79
            have hl24 := hl24.ext x79
            have ow14 := ow14.ext x79
            have hl28 := hl28.ext x79
            have ow65 := ow65.ext x79
            have hl54 := hl54.ext x79
            have xW := Ext.trans xW x79
            refine WX.run rfl rfl (blt rfl) rfl ⟨xW, m31, hl24, hl28, hl54⟩ (Run.alloc rfl ti32 rfl) ?_
            rintro _ w82 ⟨g81, rfl, e83, x84, m85⟩
            have n_g16_g81 := ne_new m31 e83
            have r_v11_g81 := ne_newO ow13 e83
            have r_v12_g81 := ne_newO ow14 e83
            have r_v_g81 := ne_newO ow65 e83
            have n_g76_g81 := ne_new m80 e83
            have o_g81 := own_new xW e83
            have m31 := m31.ext x84
            have ow13 := ow13.ext x84
            have hl24 := hl24.ext x84
            have ow14 := ow14.ext x84
            have hl28 := hl28.ext x84
            have ow65 := ow65.ext x84
            have hl54 := hl54.ext x84
            have m80 := m80.ext x84
            have xW := Ext.trans xW x84
            refine WX.storeB (cs' := [_, _]) rfl ⟨xW, m31, hl24, hl28, hl54⟩ rfl rfl rfl rfl rfl rfl ti32 m80 (ble rfl) rfl rfl (fun w86 on87 m88 => ?_)
            have m31 := m31.only n_g16_g76 on87
            have ow13 := ow13.only r_v11_g76 on87
            have hl24 := OwnL.ls ow13 (fun _ => rfl) (by decide)
            have ow14 := ow14.only r_v12_g76 on87
            have hl28 := OwnL.ls ow14 (fun _ => rfl) (by decide)
            have ow65 := ow65.only r_v_g76 on87
            have hl54 := OwnL.ls ow65 (fun _ => rfl) (by decide)
            have m85 := m85.only n_g76_g81.symm on87
            have xW := Ext.only xW on87 o_g76
            refine WX.storeB (cs' := [_, _]) rfl ⟨xW, m31, hl24, hl28, hl54⟩ rfl rfl rfl rfl rfl rfl ti32 m85 (ble rfl) rfl rfl (fun w89 on90 m91 => ?_)
            have m31 := m31.only n_g16_g81 on90
            have ow13 := ow13.only r_v11_g81 on90
            have hl24 := OwnL.ls ow13 (fun _ => rfl) (by decide)
            have ow14 := ow14.only r_v12_g81 on90
            have hl28 := OwnL.ls ow14 (fun _ => rfl) (by decide)
            have ow65 := ow65.only r_v_g81 on90
            have hl54 := OwnL.ls ow65 (fun _ => rfl) (by decide)
            have m88 := m88.only n_g76_g81 on90
            have xW := Ext.only xW on90 o_g81
            refine WX.nil ⟨xW, m31, hl24, hl28, hl54⟩ ?_
            refine WK.then_normal (k70 _ _ ?_)
            refine WC.sub [(0, _), (3, _), (4, _), (5, _), (6, _), (7, _), (8, _)] ⟨rfl, rfl, rfl, rfl, rfl, rfl, rfl, trivial⟩ ?_
            refine WC.seq (fun K92 k92 => ?_)
            refine WC.region rfl ?_
            refine WL.yld rfl (blt rfl) rfl (Y.fieldAddr rfl Try.underlying32 rfl ti3 (by decide) rfl) ?_
            refine WL.yld rfl (blt rfl) rfl (Y.load1 rfl Try.underlying3 rfl rfl (Blk.at_eq m88 rfl)) ?_
            refine WL.yld rfl (blt rfl) rfl (Y.fieldAddr rfl Try.underlying32 rfl ti3 (by decide) rfl) ?_
            refine WL.yld rfl (blt rfl) rfl (Y.load1 rfl Try.underlying3 rfl rfl (Blk.at_eq m91 rfl)) ?_
            refine WL.yld rfl (blt rfl) rfl (Yld.cast (Y.gtr rfl rfl rfl) (vb (b := false) (decide_eq_false (by have q := It.bef_f hbf; omega)))) ?_
            refine WL.yld rfl (blt rfl) rfl (Y.move rfl rfl) ?_
            refine WL.yldW rfl (blt rfl) rfl rfl rfl (Y.fieldAddr rfl Try.underlying32 rfl ti3 (by decide) rfl) ?_
            refine WL.yldW rfl (blt rfl) rfl rfl rfl (Y.load1 rfl Try.underlying3 rfl rfl (Blk.at_eq m88 rfl)) ?_
            refine WL.yldW rfl (blt rfl) rfl rfl rfl (Y.fieldAddr rfl Try.underlying32 rfl ti3 (by decide) rfl) ?_
            refine WL.yldW rfl (blt rfl) rfl rfl rfl (Y.load1 rfl Try.underlying3 rfl rfl (Blk.at_eq m91 rfl)) ?_
            refine WL.yldW rfl (blt rfl) rfl rfl rfl (Y.eql rfl rfl rfl) ?_
            refine WL.yldW rfl (blt rfl) rfl rfl rfl (Y.move rfl rfl) ?_
            refine WL.yldG rfl (blt rfl) rfl rfl rfl (fun hb => Y.fieldAddr rfl Try.underlying32 rfl ti3 (by decide) rfl) ?_
            refine WL.yldG rfl (blt rfl) rfl rfl rfl (fun hb => Y.load1 rfl Try.underlying3 rfl (evg rfl hb) (Blk.at_eq m88 rfl)) ?_
            refine WL.yldG rfl (blt rfl) rfl rfl rfl (fun hb => Y.fieldAddr rfl Try.underlying32 rfl ti3 (by decide) rfl) ?_
            refine WL.yldG rfl (blt rfl) rfl rfl rfl (fun hb => Y.load1 rfl Try.underlying3 rfl (evg rfl hb) (Blk.at_eq m91 rfl)) ?_
            refine WL.yldG rfl (blt rfl) rfl rfl rfl (fun hb => Y.gtr rfl (evg rfl hb) (evg rfl hb)) ?_
            refine WL.yldW rfl (blt rfl) rfl rfl rfl (Y.and rfl rfl rfl rfl) ?_
            refine WL.yld rfl (blt rfl) rfl (Y.pickF rfl rfl rfl) ?_
            refine WL.yld rfl (blt rfl) rfl (Y.move rfl rfl) ?_
            refine WL.yldG rfl (blt rfl) rfl rfl rfl (fun hb => Y.loadS rfl Try.underlying32 rfl ti32 rfl (Blk.row_eq m88)) ?_
            refine WL.yldG rfl (blt rfl) rfl rfl rfl (fun hb => Y.loadS rfl Try.underlying32 rfl ti32 rfl (Blk.row_eq m91)) ?_
            refine WL.yldG rfl (blt rfl) rfl rfl rfl (fun hb => Y.eqlS rfl eqg32 (eq32 _ _ _ _) (evg rfl hb) (evg rfl hb)) ?_
            refine WL.yldG rfl (blt rfl) rfl rfl rfl (fun hb => Y.move rfl (evg rfl hb)) ?_
            refine WL.yldGs [(_, _)] rfl (blt rfl) rfl rfl rfl (fun hb => Y.fieldAddr rfl Try.underlying26 rfl ti24 (by decide) rfl) ?_
            refine WL.yldGs [(_, _)] rfl (blt rfl) rfl rfl rfl (fun hb => Y.load1 rfl Try.underlying24 rfl (evg (evg rfl hb.1) hb.2.1) (Blk.at_eq m31 rfl)) ?_
            refine WL.yldGs [(_, _)] rfl (blt rfl) rfl rfl rfl (fun hb => Y.move rfl rfl) ?_
            refine WL.yldGs [(_, _)] rfl (blt rfl) rfl rfl rfl (fun hb => Y.sub rfl (evg (evg rfl hb.1) hb.2.1) rfl (wrap_i64 (by have q0 := ((and_f hb.1).imp (fun h => (eq_f h)) (fun h => (dec_f h))); first | omega | (dsimp only; omega)))) ?_
            refine WL.yldGs [(_, _)] rfl (blt rfl) rfl rfl rfl (fun hb => Y.indexLs (p - 1) hl24 rfl Try.underlying24 ti3 (evg (evg rfl hb.1) hb.2.1) (evg (evg rfl hb.1) hb.2.1) (by have q0 := ((and_f hb.1).imp (fun h => (eq_f h)) (fun h => (dec_f h))); omega) (by have q0 := ((and_f hb.1).imp (fun h => (eq_f h)) (fun h => (dec_f h))); omega)) ?_
            refine WL.yldGs [(_, _)] rfl (blt rfl) rfl rfl rfl (fun hb => Y.load1 rfl Try.underlying3 rfl (evg (evg rfl hb.1) hb.2.1) (Ls.at_eq hl24 (by have q0 := ((and_f hb.1).imp (fun h => (eq_f h)) (fun h => (dec_f h))); omega) rfl)) ?_
            refine WL.yldGs [(_, _)] rfl (blt rfl) rfl rfl rfl (fun hb => Y.move rfl rfl) ?_
            refine WL.yldGs [(_, _)] rfl (blt rfl) rfl rfl rfl (fun hb => Y.gtr rfl (evg (evg rfl hb.1) hb.2.1) (evg (evg rfl hb.1) hb.2.1)) ?_
            refine WL.yldG rfl (blt rfl) rfl rfl rfl (fun hb => Y.and rfl (evg rfl hb) (evg rfl hb) rfl) ?_
            refine WL.yld rfl (blt rfl) rfl (Y.or rfl rfl rfl rfl) ?_
            refine WL.nil ?_
            refine WK.then_normal (k92 _ _ ?_)
            refine WC.sub [(0, _), (3, _), (4, _), (5, _), (137, _)] ⟨rfl, rfl, rfl, rfl, rfl, trivial⟩ ?_
            refine WC.cond rfl (fun h93 => ?_) (fun h93 => ?_)
            ·
              clear k1 k2 k3 k8 k32 k33 k35 k40 k41 k43 k44 k46 k47 k49 k50 k62 k67 k68 k70 k92
              exact False.elim (It.srt_dead (It.ord_at l (by omega)) hbf h93)
            ·
              have p93 := (And.intro ((and_f (or_f h93).1).imp (fun h => (eq_f h)) (fun h => (dec_f h))) ((and_f (or_f h93).2).imp (fun h => h) (fun h => (dec_f h))))
              refine WC.skip ?_
              refine WK.in_normal ?_
              refine WK.then_normal (k46 _ _ ?_)
              refine WC.sub [(0, _), (3, _), (4, _), (5, _)] ⟨rfl, rfl, rfl, rfl, trivial⟩ ?_
              refine WC.region rfl ?_
              refine WL.yld rfl (blt rfl) rfl (Y.move rfl rfl) ?_
              refine WL.yld rfl (blt rfl) rfl (Y.add rfl rfl rfl (wrap_i64 (by first | omega | (dsimp only; omega)))) ?_
              refine WL.yld rfl (blt rfl) rfl (Y.assign rfl rfl) ?_
              refine WL.nil ?_
              refine WK.roundS _ [(5, .int .i64 (((p + 1) : Nat) : Int)), (4, (.slice A51 n52 c53))] ⟨rfl, rfl, rfl, rfl, trivial⟩ ?_ ⟨(p + 1), (.slice A51 n52 c53), rfl, rfl, xW, m31, ow13, ow14, (by rw [← It.seen_next (show p < l.length by omega)]; exact ow65), r_v_g16, d_v_v11, d_v_v12, (by omega)⟩
              show _ - (p + 1) < _ - p; omega
          refine WX.run rfl rfl (blt rfl) rfl ⟨xW, m31, hl24, hl28, hl54⟩ (Run.alloc rfl ti32 rfl) ?_
          rintro _ w95 ⟨g94, rfl, e96, x97, m98⟩
          have n_g16_g94 := ne_new m31 e96
          have r_v11_g94 := ne_newO ow13 e96
          have r_v12_g94 := ne_newO ow14 e96
          have r_v_g94 := ne_newO ow65 e96
          have o_g94 := own_new xW e96
          have m31 := m31.ext x97
          have ow13 := ow13.ext x97
          have hl24 := hl24.ext x97
          have ow14 := ow14.ext x97
          have hl28 := hl28.ext x97
          have ow65 := ow65.ext x97
          have hl54 := hl54.ext x97
          have xW := Ext.trans xW x97
          refine WX.run rfl rfl (blt rfl) rfl ⟨xW, m31, hl24, hl28, hl54⟩ (Run.alloc rfl ti32 rfl) ?_
          rintro _ w100 ⟨g99, rfl, e101, x102, m103⟩
          have n_g16_g99 := ne_new m31 e101
          have r_v11_g99 := ne_newO ow13 e101
          have r_v12_g99 := ne_newO ow14 e101
          have r_v_g99 := ne_newO ow65 e101
          have n_g94_g99 := ne_new m98 e101
          have o_g99 := own_new xW e101
          have m31 := m31.ext x102
          have ow13 := ow13.ext x102
          have hl24 := hl24.ext x102
          have ow14 := ow14.ext x102
          have hl28 := hl28.ext x102
          have ow65 := ow65.ext x102
          have hl54 := hl54.ext x102
          have m98 := m98.ext x102
          have xW := Ext.trans xW x102
          refine WX.storeB (cs' := [_, _]) rfl ⟨xW, m31, hl24, hl28, hl54⟩ rfl rfl rfl rfl rfl rfl ti32 m103 (ble rfl) rfl rfl (fun w104 on105 m106 => ?_)
          have m31 := m31.only n_g16_g99 on105
          have ow13 := ow13.only r_v11_g99 on105
          have hl24 := OwnL.ls ow13 (fun _ => rfl) (by decide)
          have ow14 := ow14.only r_v12_g99 on105
          have hl28 := OwnL.ls ow14 (fun _ => rfl) (by decide)
          have ow65 := ow65.only r_v_g99 on105
          have hl54 := OwnL.ls ow65 (fun _ => rfl) (by decide)
          have m98 := m98.only n_g94_g99 on105
          have xW := Ext.only xW on105 o_g99
          refine WX.storeB (cs' := [_, _]) rfl ⟨xW, m31, hl24, hl28, hl54⟩ rfl rfl rfl rfl rfl rfl ti32 m98 (ble rfl) rfl rfl (fun w107 on108 m109 => ?_)
          have m31 := m31.only n_g16_g94 on108
          have ow13 := ow13.only r_v11_g94 on108
          have hl24 := OwnL.ls ow13 (fun _ => rfl) (by decide)
          have ow14 := ow14.only r_v12_g94 on108
          have hl28 := OwnL.ls ow14 (fun _ => rfl) (by decide)
          have ow65 := ow65.only r_v_g94 on108
          have hl54 := OwnL.ls ow65 (fun _ => rfl) (by decide)
          have m106 := m106.only n_g94_g99.symm on108
          have xW := Ext.only xW on108 o_g94
          refine WX.nil ⟨xW, m31, hl24, hl28, hl54⟩ ?_
          refine WK.then_normal (k70 _ _ ?_)
          refine WC.sub [(0, _), (3, _), (4, _), (5, _), (6, _), (7, _), (8, _)] ⟨rfl, rfl, rfl, rfl, rfl, rfl, rfl, trivial⟩ ?_
          refine WC.seq (fun K110 k110 => ?_)
          refine WC.region rfl ?_
          refine WL.yld rfl (blt rfl) rfl (Y.fieldAddr rfl Try.underlying32 rfl ti3 (by decide) rfl) ?_
          refine WL.yld rfl (blt rfl) rfl (Y.load1 rfl Try.underlying3 rfl rfl (Blk.at_eq m106 rfl)) ?_
          refine WL.yld rfl (blt rfl) rfl (Y.fieldAddr rfl Try.underlying32 rfl ti3 (by decide) rfl) ?_
          refine WL.yld rfl (blt rfl) rfl (Y.load1 rfl Try.underlying3 rfl rfl (Blk.at_eq m109 rfl)) ?_
          refine WL.yld rfl (blt rfl) rfl (Yld.cast (Y.gtr rfl rfl rfl) (vb (b := false) (decide_eq_false (by have q := It.bef_f hbf; omega)))) ?_
          refine WL.yld rfl (blt rfl) rfl (Y.move rfl rfl) ?_
          refine WL.yldW rfl (blt rfl) rfl rfl rfl (Y.fieldAddr rfl Try.underlying32 rfl ti3 (by decide) rfl) ?_
          refine WL.yldW rfl (blt rfl) rfl rfl rfl (Y.load1 rfl Try.underlying3 rfl rfl (Blk.at_eq m106 rfl)) ?_
          refine WL.yldW rfl (blt rfl) rfl rfl rfl (Y.fieldAddr rfl Try.underlying32 rfl ti3 (by decide) rfl) ?_
          refine WL.yldW rfl (blt rfl) rfl rfl rfl (Y.load1 rfl Try.underlying3 rfl rfl (Blk.at_eq m109 rfl)) ?_
          refine WL.yldW rfl (blt rfl) rfl rfl rfl (Y.eql rfl rfl rfl) ?_
          refine WL.yldW rfl (blt rfl) rfl rfl rfl (Y.move rfl rfl) ?_
          refine WL.yldG rfl (blt rfl) rfl rfl rfl (fun hb => Y.fieldAddr rfl Try.underlying32 rfl ti3 (by decide) rfl) ?_
          refine WL.yldG rfl (blt rfl) rfl rfl rfl (fun hb => Y.load1 rfl Try.underlying3 rfl (evg rfl hb) (Blk.at_eq m106 rfl)) ?_
          refine WL.yldG rfl (blt rfl) rfl rfl rfl (fun hb => Y.fieldAddr rfl Try.underlying32 rfl ti3 (by decide) rfl) ?_
          refine WL.yldG rfl (blt rfl) rfl rfl rfl (fun hb => Y.load1 rfl Try.underlying3 rfl (evg rfl hb) (Blk.at_eq m109 rfl)) ?_
          refine WL.yldG rfl (blt rfl) rfl rfl rfl (fun hb => Y.gtr rfl (evg rfl hb) (evg rfl hb)) ?_
          refine WL.yldW rfl (blt rfl) rfl rfl rfl (Y.and rfl rfl rfl rfl) ?_
          refine WL.yld rfl (blt rfl) rfl (Y.pickF rfl rfl rfl) ?_
          refine WL.yld rfl (blt rfl) rfl (Y.move rfl rfl) ?_
          refine WL.yldG rfl (blt rfl) rfl rfl rfl (fun hb => Y.loadS rfl Try.underlying32 rfl ti32 rfl (Blk.row_eq m106)) ?_
          refine WL.yldG rfl (blt rfl) rfl rfl rfl (fun hb => Y.loadS rfl Try.underlying32 rfl ti32 rfl (Blk.row_eq m109)) ?_
          refine WL.yldG rfl (blt rfl) rfl rfl rfl (fun hb => Y.eqlS rfl eqg32 (eq32 _ _ _ _) (evg rfl hb) (evg rfl hb)) ?_
          refine WL.yldG rfl (blt rfl) rfl rfl rfl (fun hb => Y.move rfl (evg rfl hb)) ?_
          refine WL.yldGs [(_, _)] rfl (blt rfl) rfl rfl rfl (fun hb => Y.fieldAddr rfl Try.underlying26 rfl ti24 (by decide) rfl) ?_
          refine WL.yldGs [(_, _)] rfl (blt rfl) rfl rfl rfl (fun hb => Y.load1 rfl Try.underlying24 rfl (evg (evg rfl hb.1) hb.2.1) (Blk.at_eq m31 rfl)) ?_
          refine WL.yldGs [(_, _)] rfl (blt rfl) rfl rfl rfl (fun hb => Y.move rfl rfl) ?_
          refine WL.yldGs [(_, _)] rfl (blt rfl) rfl rfl rfl (fun hb => Y.sub rfl (evg (evg rfl hb.1) hb.2.1) rfl (wrap_i64 (by have q0 := ((and_f hb.1).imp (fun h => (eq_f h)) (fun h => (dec_f h))); first | omega | (dsimp only; omega)))) ?_
          refine WL.yldGs [(_, _)] rfl (blt rfl) rfl rfl rfl (fun hb => Y.indexLs (p - 1) hl24 rfl Try.underlying24 ti3 (evg (evg rfl hb.1) hb.2.1) (evg (evg rfl hb.1) hb.2.1) (by have q0 := ((and_f hb.1).imp (fun h => (eq_f h)) (fun h => (dec_f h))); omega) (by have q0 := ((and_f hb.1).imp (fun h => (eq_f h)) (fun h => (dec_f h))); omega)) ?_
          refine WL.yldGs [(_, _)] rfl (blt rfl) rfl rfl rfl (fun hb => Y.load1 rfl Try.underlying3 rfl (evg (evg rfl hb.1) hb.2.1) (Ls.at_eq hl24 (by have q0 := ((and_f hb.1).imp (fun h => (eq_f h)) (fun h => (dec_f h))); omega) rfl)) ?_
          refine WL.yldGs [(_, _)] rfl (blt rfl) rfl rfl rfl (fun hb => Y.move rfl rfl) ?_
          refine WL.yldGs [(_, _)] rfl (blt rfl) rfl rfl rfl (fun hb => Y.gtr rfl (evg (evg rfl hb.1) hb.2.1) (evg (evg rfl hb.1) hb.2.1)) ?_
          refine WL.yldG rfl (blt rfl) rfl rfl rfl (fun hb => Y.and rfl (evg rfl hb) (evg rfl hb) rfl) ?_
          refine WL.yld rfl (blt rfl) rfl (Y.or rfl rfl rfl rfl) ?_
          refine WL.nil ?_
          refine WK.then_normal (k110 _ _ ?_)
          refine WC.sub [(0, _), (3, _), (4, _), (5, _), (137, _)] ⟨rfl, rfl, rfl, rfl, rfl, trivial⟩ ?_
          refine WC.cond rfl (fun h111 => ?_) (fun h111 => ?_)
          ·
            clear k1 k2 k3 k8 k32 k33 k35 k40 k41 k43 k44 k46 k47 k49 k50 k62 k67 k68 k70 k110
            exact False.elim (It.srt_dead (It.ord_at l (by omega)) hbf h111)
          ·
            have p111 := (And.intro ((and_f (or_f h111).1).imp (fun h => (eq_f h)) (fun h => (dec_f h))) ((and_f (or_f h111).2).imp (fun h => h) (fun h => (dec_f h))))
            refine WC.skip ?_
            refine WK.in_normal ?_
            refine WK.then_normal (k46 _ _ ?_)
            refine WC.sub [(0, _), (3, _), (4, _), (5, _)] ⟨rfl, rfl, rfl, rfl, trivial⟩ ?_
            refine WC.region rfl ?_
            refine WL.yld rfl (blt rfl) rfl (Y.move rfl rfl) ?_
            refine WL.yld rfl (blt rfl) rfl (Y.add rfl rfl rfl (wrap_i64 (by first | omega | (dsimp only; omega)))) ?_
            refine WL.yld rfl (blt rfl) rfl (Y.assign rfl rfl) ?_
            refine WL.nil ?_
            refine WK.roundS _ [(5, .int .i64 (((p + 1) : Nat) : Int)), (4, (.slice A51 n52 c53))] ⟨rfl, rfl, rfl, rfl, trivial⟩ ?_ ⟨(p + 1), (.slice A51 n52 c53), rfl, rfl, xW, m31, ow13, ow14, (by rw [← It.seen_next (show p < l.length by omega)]; exact ow65), r_v_g16, d_v_v11, d_v_v12, (by omega)⟩
            show _ - (p + 1) < _ - p; omega
      ·
        have p45 := (dec_f h45)
        refine WC.exit ?_
        refine WK.then_exit ?_
        refine WK.then_exit ?_
        refine WK.in_exit ?_
        refine WK.then_normal (k40 _ _ ?_)
        refine WC.sub [] trivial ?_
        refine WC.seq (fun K112 k112 => ?_)
        refine WC.region rfl ?_
        refine WL.call rfl (blt rfl) rfl rfl rfl has8 rfl (awake_any _ ) ?_
        rintro _ w113 ⟨rfl, x114⟩
        refine ⟨_, rfl, ?_⟩
        have xW := Ext.trans xW x114
        refine WL.yld rfl (blt rfl) rfl (Y.assign rfl rfl) ?_
        refine WL.nil ?_
        refine WK.then_normal (k112 _ _ ?_)
        refine WC.sub [(2, _)] ⟨rfl, trivial⟩ ?_
        refine WC.ret ?_
        clear k1 k2 k3 k8 k32 k33 k35 k40 k41 k43 k44 k112
        refine WK.ret [_] rfl ⟨rfl, trivial⟩ ?_
        exact ⟨ret1 (vb rfl), xW⟩
end LItreeSorts
end ItW

end Go.Proofs.Ytbdfhiihaemjhaa
