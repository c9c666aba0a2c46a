/- The walk of the law. Conditions: what each theorem states. -/
import Derived.Test.YtaglpampidlbmaaBdAw
import Derived.Test.YtaglpampidlbmaaBdM2
namespace Go.Proofs.Ytaglpampidlbmaa
open Go Go.Eng Go.RowKit
set_option linter.unusedVariables false
set_option linter.unusedSimpArgs false
namespace BdW
open N RL NumF LB GR CkW CkW.P CkW.K CkW.R CkW.RP B OF MY RP_ RE RI RL_ RO RS_ AW_
namespace LBoundMany
theorem ti3 : TI Try.prog 3 (.int .i64 0) 1 8 := TI.mk (by kernel_rfl)
theorem ti22 : TI Try.prog 22 (.slice none 0 0) 1 24 := TI.mk (by kernel_rfl)
theorem ti23 : TI Try.prog 23 (.slice none 0 0) 1 24 := TI.mk (by kernel_rfl)
theorem ti25 : TI Try.prog 25 (.agg #[.slice none 0 0, .slice none 0 0]) 2 48 := TI.mk (by kernel_rfl)
theorem ti29 : TI Try.prog 29 (.agg #[.int .i64 0, .int .i64 0]) 2 16 := TI.mk (by kernel_rfl)
theorem has9 : Has Try.prog 9 := ⟨_, Try.func9, rfl, by kernel_rfl⟩
theorem has10 : Has Try.prog 10 := ⟨_, Try.func10, rfl, by kernel_rfl⟩
theorem has11 : Has Try.prog 11 := ⟨_, Try.func11, rfl, by kernel_rfl⟩
theorem has15 : Has Try.prog 15 := ⟨_, Try.func15, rfl, by kernel_rfl⟩
theorem pl29 : PL Try.prog 29 [.int .i64 0, .int .i64 0] [(0, 1), (1, 1)] := PL.mk (zero := [.int .i64 0, .int .i64 0]) ti29 Try.underlying29 (by kernel_rfl)
theorem eqg29 : Try.prog.eqGuardType Try.prog.depth 29 = false := by kernel_rfl
theorem eq29 (a0 : Int) (a1 : Int) (b0 : Int) (b1 : Int) (w : World) : (Op.equalIn 10000 29 (.agg #[.int .i64 a0, .int .i64 a1]) (.agg #[.int .i64 b0, .int .i64 b1])).run Try.prog w = .ok ((a0 == b0) && (a1 == b1)) w := by
  go_simp
  (repeat' split) <;> simp_all
theorem BoundMany_any (A_d : Option Addr) (n_d c_d : Nat) (d : List Ck.Dom) (A_l : Option Addr) (n_l c_l : Nat) (l : List Ck.Snap) (id : Int) (A_ats : Option Addr) (n_ats c_ats : Nat) (ats : List Int) (w : World) (h_ats : Ls w A_ats n_ats c_ats Ck.ic 1 ats) (h_d : Ls w A_d n_d c_d Ck.Dom.c 2 d) (h_l : Ls w A_l n_l c_l Ck.Snap.c 5 l) :
    Calls Try.prog 4 #[.agg #[.slice A_d n_d c_d, .slice A_l n_l c_l], .int .i64 id, .slice A_ats n_ats c_ats] w fun e w' => e = .returned (.bool true) ∧ Ext w w' := by
  have xW := Ext.refl w
  have e_ats := h_ats.len
  have z_ats := h_ats.nle
  have e_d := h_d.len
  have z_d := h_d.nle
  have e_l := h_l.len
  have z_l := h_l.nle
  refine calls_of_WC (args := [.agg #[.slice A_d n_d c_d, .slice A_l n_l c_l], .int .i64 id, .slice A_ats n_ats c_ats]) Try.func4 rfl rfl (ble rfl) ?_
  refine WC.seq (fun K1 k1 => ?_)
  refine WC.region rfl ?_
  refine WL.box rfl (blt rfl) rfl rfl rfl rfl ?_
  intro g2 w3 e4 x5 m6
  have o_g2 := own_new xW e4
  have xW := Ext.trans xW x5
  refine WL.yld rfl (blt rfl) rfl (Y.assign rfl rfl) ?_
  refine WL.nil ?_
  refine WK.then_normal (k1 _ _ ?_)
  refine WC.sub [(1, _), (2, _), (3, _)] ⟨rfl, rfl, rfl, trivial⟩ ?_
  refine WC.seq (fun K7 k7 => ?_)
  refine WC.seq (fun K8 k8 => ?_)
  refine WC.region rfl ?_
  refine WL.yld rfl (blt rfl) rfl (Y.loadS rfl Try.underlying25 rfl ti25 rfl (Blk.row_eq m6)) ?_
  refine WL.call rfl (blt rfl) rfl rfl rfl has9 rfl (small_any _ _ _ d _ _ _ l _) ?_
  rintro _ w9 ⟨rfl, x10⟩
  refine ⟨_, rfl, ?_⟩
  have m6 := m6.ext x10
  have xW := Ext.trans xW x10
  refine WL.yld rfl (blt rfl) rfl (Y.not rfl rfl) ?_
  refine WL.yld rfl (blt rfl) rfl (Y.move rfl rfl) ?_
  refine WL.yldG rfl (blt rfl) rfl rfl rfl (fun hb => Y.move rfl rfl) ?_
  refine WL.yldG rfl (blt rfl) rfl rfl rfl (fun hb => Y.lenSl rfl rfl rfl Try.underlying35 (evs_cons (evg rfl hb) evs_nil)) ?_
  refine WL.yldG rfl (blt rfl) rfl rfl rfl (fun hb => Y.gtr rfl (evg rfl hb) rfl) ?_
  refine WL.yld rfl (blt rfl) rfl (Y.or rfl rfl rfl rfl) ?_
  refine WL.nil ?_
  refine WK.then_normal (k8 _ _ ?_)
  refine WC.sub [(1, _), (2, _), (3, _), (19, _)] ⟨rfl, rfl, rfl, rfl, trivial⟩ ?_
  refine WC.cond rfl (fun h11 => ?_) (fun h11 => ?_)
  ·
    have p11 := ((or_t h11).imp (fun h => ((and_f (not_t h)).imp (fun h => (dec_f h)) (fun h => (dec_f h)))) (fun h => (dec_t h)))
    refine WC.seq (fun K12 k12 => ?_)
    refine WC.region rfl ?_
    refine WL.call rfl (blt rfl) rfl rfl rfl has10 rfl (awake_any _ ) ?_
    rintro _ w13 ⟨rfl, x14⟩
    refine ⟨_, rfl, ?_⟩
    have m6 := m6.ext x14
    have xW := Ext.trans xW x14
    refine WL.yld rfl (blt rfl) rfl (Y.assign rfl rfl) ?_
    refine WL.nil ?_
    refine WK.then_normal (k12 _ _ ?_)
    refine WC.sub [(6, _)] ⟨rfl, trivial⟩ ?_
    refine WC.ret ?_
    refine WK.then_ret ?_
    clear k1 k7 k8 k12
    refine WK.ret [_] rfl ⟨rfl, trivial⟩ ?_
    exact ⟨ret1 (vb rfl), xW⟩
  ·
    have p11 := (And.intro (And.intro (dec_t (and_t (not_f (or_f h11).1)).1) (dec_t (and_t (not_f (or_f h11).1)).2)) (dec_f (or_f h11).2))
    refine WC.skip ?_
    refine WK.then_normal (k7 _ _ ?_)
    refine WC.sub [(1, _), (2, _), (3, _)] ⟨rfl, rfl, rfl, trivial⟩ ?_
    refine WC.seq (fun K15 k15 => ?_)
    refine WC.region rfl ?_
    refine WL.yld rfl (blt rfl) rfl (Y.fieldAddr rfl Try.underlying25 rfl ti22 (by decide) rfl) ?_
    refine WL.yld rfl (blt rfl) rfl (Y.load1 rfl Try.underlying22 rfl rfl (Blk.at_eq m6 rfl)) ?_
    refine WL.yld rfl (blt rfl) rfl (Y.fieldAddr rfl Try.underlying25 rfl ti23 (by decide) rfl) ?_
    refine WL.yld rfl (blt rfl) rfl (Y.load1 rfl Try.underlying23 rfl rfl (Blk.at_eq m6 rfl)) ?_
    refine WL.yld rfl (blt rfl) rfl (Y.move rfl rfl) ?_
    refine WL.yld rfl (blt rfl) rfl (Y.move rfl rfl) ?_
    refine WL.call rfl (blt rfl) rfl rfl rfl has15 rfl (many_any _ _ _ _ _ _ _ _ _ _ _ _ _ _ (h_d.ext xW) (h_l.ext xW) (h_ats.ext xW) (by omega) (by omega)) ?_
    rintro _ w16 ⟨v18, rfl, ow19, x17⟩
    refine ⟨_, rfl, ?_⟩
    have r_v18_g2 := ne_res ow19 m6
    have ow19 := OwnL.base_le ow19 xW.size
    have m6 := m6.ext x17
    have xW := Ext.trans xW x17
    refine WL.yld rfl (blt rfl) rfl (Y.move rfl rfl) ?_
    refine WL.yld rfl (blt rfl) rfl (Y.extract rfl rfl rfl) ?_
    refine WL.yld rfl (blt rfl) rfl (Y.extract rfl rfl rfl) ?_
    refine WL.yld rfl (blt rfl) rfl (Y.assign rfl rfl) ?_
    refine WL.yld rfl (blt rfl) rfl (Y.assign rfl rfl) ?_
    refine WL.nil ?_
    refine WK.then_normal (k15 _ _ ?_)
    refine WC.sub [(1, _), (2, _), (3, _), (7, _), (8, _)] ⟨rfl, rfl, rfl, rfl, rfl, trivial⟩ ?_
    refine WC.seq (fun K20 k20 => ?_)
    refine WC.seq (fun K21 k21 => ?_)
    refine WC.region rfl ?_
    refine WL.yld rfl (blt rfl) rfl (Y.assign rfl rfl) ?_
    refine WL.nil ?_
    refine WK.then_normal (k21 _ _ ?_)
    refine WC.block ?_
    obtain ⟨A22, n23, c24, rfl, hl25⟩ := OwnL.opened ow19 (fun _ => rfl) (by decide)
    have e_n23 := hl25.len
    try simp only [List.length_append, List.length_cons, List.length_nil, List.length_reverse, List.length_drop, List.length_take, List.length_map, List.length_replicate, List.length_set] at e_n23
    have z_n23 := hl25.nle
    have eml := hl25.len
    refine WC.sub [(9, _), (1, _), (2, _), (3, _), (7, _), (8, _)] ⟨rfl, rfl, rfl, rfl, rfl, rfl, trivial⟩ ?_
    refine WC.loopS 1 (fun mz Ed W' => ∃ i : Nat, mz = n_ats - i ∧ Ed = [(9, .int .i64 ((i : Nat) : Int))] ∧ Ext w W' ∧ Blk W' g2 25 _ ∧ OwnL W' w.heap.size 29 Bd.kc 2 (.slice A22 n23 c24) _ ∧ (i ≤ n_ats) ∧ (∀ j, j < i → ((Bd.ofF d l id) ats[j]!).2 = 0)) _ ⟨0, rfl, rfl, xW, m6, ow19, (Nat.zero_le _), (fun j hj => absurd hj (Nat.not_lt_zero j))⟩ ?_
    rintro _ _ w26 ⟨i, rfl, rfl, xW, m6, ow19, le_i, inv_i⟩
    refine WC.sub [(9, _), (1, _), (2, _), (3, _), (7, _), (8, _)] ⟨rfl, rfl, rfl, rfl, rfl, rfl, trivial⟩ ?_
    have hl25 := OwnL.ls ow19 (fun _ => rfl) (by decide)
    refine WC.seq (fun K27 k27 => ?_)
    refine WC.seq (fun K28 k28 => ?_)
    refine WC.region rfl ?_
    refine WL.yld rfl (blt rfl) rfl (Y.move rfl rfl) ?_
    refine WL.yld rfl (blt rfl) rfl (Y.move rfl rfl) ?_
    refine WL.yld rfl (blt rfl) rfl (Y.lenSl rfl rfl rfl Try.underlying35 rfl) ?_
    refine WL.yld rfl (blt rfl) rfl (Y.lss rfl rfl rfl) ?_
    refine WL.nil ?_
    refine WK.then_normal (k28 _ _ ?_)
    refine WC.sub [(1, _), (2, _), (3, _), (7, _), (8, _), (9, _), (34, _)] ⟨rfl, rfl, rfl, rfl, rfl, rfl, rfl, trivial⟩ ?_
    refine WC.cond rfl (fun h29 => ?_) (fun h29 => ?_)
    ·
      have p29 := (dec_t h29)
      refine WC.skip ?_
      refine WK.then_normal (k27 _ _ ?_)
      refine WC.sub [(1, _), (2, _), (3, _), (7, _), (8, _), (9, _)] ⟨rfl, rfl, rfl, rfl, rfl, rfl, trivial⟩ ?_
      refine WC.seq (fun K30 k30 => ?_)
      refine WC.block ?_
      refine WC.seq (fun K31 k31 => ?_)
      refine WC.regionX (fun W' => Ext w W' ∧ Blk W' g2 25 _ ∧ Ls W' A22 n23 c24 Bd.kc 2 _) (.load 0 (.load 1 (.load 2 (.load 3 (.load 4 (.load 5 (.load 6 (.load 7 (.load 8 (.alt 9 (.load 10 (.load 11 (.load 12 (.alt 13 (.alt 14 (.load 15 (.fin)) (.none)) (.none))))) (.alt 13 (.alt 9 (.load 10 (.load 11 (.load 12 (.alt 14 (.load 15 (.fin)) (.none))))) (.none)) (.none)))))))))))) ⟨xW, m6, hl25⟩ (by kernel_rfl) (by kernel_rfl) (fun w32 x33 => ?_)
      have m6 := m6.ext x33
      have ow19 := ow19.ext x33
      have hl25 := hl25.ext x33
      have xW := Ext.trans xW x33
      refine WX.yld rfl rfl (blt rfl) rfl (Y.fieldAddr rfl Try.underlying25 rfl ti22 (by decide) rfl) ?_
      refine WX.yld rfl rfl (blt rfl) rfl (Y.load1 rfl Try.underlying22 rfl rfl (Blk.at_c (fun _ h => h.2.1) rfl)) ?_
      refine WX.yld rfl rfl (blt rfl) rfl (Y.fieldAddr rfl Try.underlying25 rfl ti23 (by decide) rfl) ?_
      refine WX.yld rfl rfl (blt rfl) rfl (Y.load1 rfl Try.underlying23 rfl rfl (Blk.at_c (fun _ h => h.2.1) rfl)) ?_
      refine WX.yld rfl rfl (blt rfl) rfl (Y.move rfl rfl) ?_
      refine WX.yld rfl rfl (blt rfl) rfl (Y.move rfl rfl) ?_
      refine WX.yld rfl rfl (blt rfl) rfl (Y.move rfl rfl) ?_
      have b34 : i < n_ats := by omega
      refine WX.yld rfl rfl (blt rfl) rfl (Y.indexLs i (h_ats.ext xW) rfl Try.underlying35 ti3 rfl rfl rfl b34) ?_
      refine WX.yld rfl rfl (blt rfl) rfl (Y.load1 rfl Try.underlying3 rfl rfl (Ls.at_c (fun _ h => (h_ats.ext (h.1))) b34 rfl)) ?_
      refine WX.alt ?_ ?_
      ·
        refine WX.call rfl rfl (blt rfl) rfl rfl rfl has11 rfl ⟨xW, m6, hl25⟩ (of_any _ _ _ _ _ _ _ _ _ _ _ (h_d.ext xW) (h_l.ext xW) (by omega)) ?_
        rintro _ w35 ⟨rfl, x36⟩
        refine ⟨_, rfl, ?_⟩
        have m6 := m6.ext x36
        have ow19 := ow19.ext x36
        have hl25 := hl25.ext x36
        have xW := Ext.trans xW x36
        refine WX.yld rfl rfl (blt rfl) rfl (Y.move rfl rfl) ?_
        refine WX.yld rfl rfl (blt rfl) rfl (Y.extract rfl rfl rfl) ?_
        refine WX.yld rfl rfl (blt rfl) rfl (Y.extract rfl rfl rfl) ?_
        refine WX.run rfl rfl (blt rfl) rfl ⟨xW, m6, hl25⟩ (Run.alloc rfl ti29 rfl) ?_
        rintro _ w38 ⟨g37, rfl, e39, x40, m41⟩
        have n_g2_g37 := ne_new m6 e39
        have r_v18_g37 := ne_newO ow19 e39
        have o_g37 := own_new xW e39
        have m6 := m6.ext x40
        have ow19 := ow19.ext x40
        have hl25 := hl25.ext x40
        have xW := Ext.trans xW x40
        refine WX.storeB (cs' := [_, _]) rfl ⟨xW, m6, hl25⟩ rfl rfl rfl rfl rfl rfl ti29 m41 (ble rfl) rfl rfl (fun w42 on43 m44 => ?_)
        have m6 := m6.only n_g2_g37 on43
        have ow19 := ow19.only r_v18_g37 on43
        have hl25 := OwnL.ls ow19 (fun _ => rfl) (by decide)
        have xW := Ext.only xW on43 o_g37
        refine WX.yld rfl rfl (blt rfl) rfl (Y.assign rfl rfl) ?_
        refine WX.nil ⟨xW, m6, hl25⟩ ?_
        refine WK.then_normal (k31 _ _ ?_)
        refine WC.sub [(1, _), (2, _), (3, _), (7, _), (8, _), (9, _), (10, _), (11, _)] ⟨rfl, rfl, rfl, rfl, rfl, rfl, rfl, rfl, trivial⟩ ?_
        refine WC.seq (fun K45 k45 => ?_)
        refine WC.seq (fun K46 k46 => ?_)
        refine WC.region rfl ?_
        refine WL.yld rfl (blt rfl) rfl (Y.move rfl rfl) ?_
        refine WL.yld rfl (blt rfl) rfl (Y.neq rfl rfl rfl) ?_
        refine WL.nil ?_
        refine WK.then_normal (k46 _ _ ?_)
        refine WC.sub [(1, _), (2, _), (3, _), (7, _), (8, _), (9, _), (10, _), (11, _), (51, _)] ⟨rfl, rfl, rfl, rfl, rfl, rfl, rfl, rfl, rfl, trivial⟩ ?_
        refine WC.cond rfl (fun h47 => ?_) (fun h47 => ?_)
        ·
          have p47 := (eq_f (not_t h47))
          have hne : ((Bd.ofF d l id) ats[i]!).2 ≠ 0 := by simpa using h47
          have hh := Bd.manyE_hit (show i < ats.length from by omega) inv_i hne
          refine WC.seq (fun K48 k48 => ?_)
          refine WC.region rfl ?_
          refine WL.yld rfl (blt rfl) rfl (Y.move rfl rfl) ?_
          refine WL.yld rfl (blt rfl) rfl (Y.move rfl rfl) ?_
          refine WL.yld rfl (blt rfl) rfl (Yld.cast (Y.eql rfl rfl rfl) (vb (b := true) (by rw [hh]; simp))) ?_
          refine WL.yld rfl (blt rfl) rfl (Y.move rfl rfl) ?_
          refine WL.yldW rfl (blt rfl) rfl rfl rfl (Y.move rfl rfl) ?_
          refine WL.yldW rfl (blt rfl) rfl rfl rfl (Y.lenSl rfl rfl rfl Try.underlying36 rfl) ?_
          refine WL.yldW rfl (blt rfl) rfl rfl rfl (Yld.cast (Y.eql rfl rfl rfl) (vb (b := true) (Bd.many_nil (by rw [hh]; exact hne) eml))) ?_
          refine WL.yld rfl (blt rfl) rfl (Y.pickT rfl rfl rfl) ?_
          refine WL.yld rfl (blt rfl) rfl (Y.move rfl rfl) ?_
          refine WL.callW rfl (blt rfl) rfl rfl rfl rfl rfl has10 rfl (awake_any _ ) ?_
          rintro _ w49 ⟨rfl, x50⟩
          refine ⟨_, rfl, ?_⟩
          have m6 := m6.ext x50
          have ow19 := ow19.ext x50
          have hl25 := hl25.ext x50
          have m44 := m44.ext x50
          have xW := Ext.trans xW x50
          refine WL.yld rfl (blt rfl) rfl (Y.pickT rfl rfl rfl) ?_
          refine WL.yld rfl (blt rfl) rfl (Y.assign rfl rfl) ?_
          refine WL.nil ?_
          refine WK.then_normal (k48 _ _ ?_)
          refine WC.sub [(6, _)] ⟨rfl, trivial⟩ ?_
          refine WC.ret ?_
          refine WK.then_ret ?_
          refine WK.in_ret ?_
          refine WK.then_ret ?_
          refine WK.then_ret ?_
          refine WK.in_ret ?_
          refine WK.then_ret ?_
          clear k1 k7 k8 k15 k20 k21 k27 k28 k30 k31 k45 k46 k48
          refine WK.ret [_] rfl ⟨rfl, trivial⟩ ?_
          exact ⟨ret1 (vb rfl), xW⟩
        ·
          have p47 := (eq_t (not_f h47))
          have hx0 : ((Bd.ofF d l id) ats[i]!).2 = 0 := by simpa using h47
          refine WC.skip ?_
          refine WK.then_normal (k45 _ _ ?_)
          refine WC.sub [(1, _), (2, _), (3, _), (7, _), (8, _), (9, _), (10, _)] ⟨rfl, rfl, rfl, rfl, rfl, rfl, rfl, trivial⟩ ?_
          refine WC.seq (fun K51 k51 => ?_)
          refine WC.regionDq (by kernel_rfl) (by kernel_rfl) rfl ?_
          refine WQ.yld rfl (blt rfl) rfl (Y.move rfl rfl) ?_
          refine WQ.yld rfl (blt rfl) rfl (Y.eql rfl rfl rfl) ?_
          refine WQ.yld rfl (blt rfl) rfl (Y.move rfl rfl) ?_
          refine WQ.yldG rfl (blt rfl) rfl rfl rfl (fun hb => Y.move rfl rfl) ?_
          refine WQ.yldG rfl (blt rfl) rfl rfl rfl (fun hb => Y.move rfl rfl) ?_
          refine WQ.yldG rfl (blt rfl) rfl rfl rfl (fun hb => Y.lenSl rfl rfl rfl Try.underlying36 (evs_cons (evg rfl hb) evs_nil)) ?_
          refine WQ.yldG rfl (blt rfl) rfl rfl rfl (fun hb => Y.geq rfl (evg rfl hb) (evg rfl hb)) ?_
          refine WQ.yldG rfl (blt rfl) rfl rfl rfl (fun hb => Y.move rfl (evg rfl hb)) ?_
          refine WQ.yldGs [(_, _)] rfl (blt rfl) rfl rfl rfl (fun hb => Y.move rfl rfl) ?_
          refine WQ.yldGs [(_, _)] rfl (blt rfl) rfl rfl rfl (fun hb => Y.move rfl rfl) ?_
          refine WQ.yldGs [(_, _)] rfl (blt rfl) rfl rfl rfl (fun hb => Y.indexLs i hl25 rfl Try.underlying36 ti29 (evg (evg rfl hb.1) hb.2.1) (evg (evg rfl hb.1) hb.2.1) rfl (by have q0 := (eq_t hb.1); have q1 := (dec_f hb.2.1); omega)) ?_
          refine WQ.yldGs [(_, _)] rfl (blt rfl) rfl rfl rfl (fun hb => Y.loadS (cs := [_, _]) rfl Try.underlying29 rfl ti29 (evg (evg rfl hb.1) hb.2.1) (Ls.part_ext hl25 (by have q0 := (eq_t hb.1); have q1 := (dec_f hb.2.1); omega) rfl)) ?_
          refine WQ.yldGs [(_, _)] rfl (blt rfl) rfl rfl rfl (fun hb => Y.loadS rfl Try.underlying29 rfl ti29 rfl (Blk.row_ext m44)) ?_
          refine WQ.yldGs [(_, _)] rfl (blt rfl) rfl rfl rfl (fun hb => Y.neqS rfl eqg29 (eq29 _ _ _ _) (evg (evg rfl hb.1) hb.2.1) (evg (evg rfl hb.1) hb.2.1)) ?_
          refine WQ.yldG rfl (blt rfl) rfl rfl rfl (fun hb => Y.or rfl (evg rfl hb) rfl (evg rfl hb)) ?_
          refine WQ.yld rfl (blt rfl) rfl (Y.and rfl rfl rfl rfl) ?_
          refine WQ.yld rfl (blt rfl) rfl (Y.move rfl rfl) ?_
          refine WQ.yldG rfl (blt rfl) rfl rfl rfl (fun hb => Y.move rfl rfl) ?_
          refine WQ.yldG rfl (blt rfl) rfl rfl rfl (fun hb => Y.eql rfl (evg rfl hb) rfl) ?_
          refine WQ.yldG rfl (blt rfl) rfl rfl rfl (fun hb => Y.move rfl (evg rfl hb)) ?_
          refine WQ.yldGs [(_, _)] rfl (blt rfl) rfl rfl rfl (fun hb => Y.loadS rfl Try.underlying29 rfl ti29 rfl (Blk.row_ext m44)) ?_
          refine WQ.yldGs [(_, _)] rfl (blt rfl) rfl rfl rfl (fun hb => Y.move rfl rfl) ?_
          refine WQ.yldGs [(_, _)] rfl (blt rfl) rfl rfl rfl (fun hb => Y.move rfl rfl) ?_
          refine WQ.yldGs [(_, _)] rfl (blt rfl) rfl rfl rfl (fun hb => Y.indexLs i (h_ats.ext xW) rfl Try.underlying35 ti3 (evg (evg rfl hb.1) hb.2.1) (evg (evg rfl hb.1) hb.2.1) rfl (by have q0 := ((and_f hb.1).imp (fun h => (eq_f h)) (fun h => (dec_f (or_f h).1))); have q1 := (eq_t hb.2.1); omega)) ?_
          refine WQ.yldGs [(_, _)] rfl (blt rfl) rfl rfl rfl (fun hb => Y.load1 rfl Try.underlying3 rfl (evg (evg rfl hb.1) hb.2.1) (Ls.at_ext (h_ats.ext xW) (by have q0 := ((and_f hb.1).imp (fun h => (eq_f h)) (fun h => (dec_f (or_f h).1))); have q1 := (eq_t hb.2.1); omega) rfl)) ?_
          refine WQ.yldGs [(_, _)] rfl (blt rfl) rfl rfl rfl (fun hb => Y.move rfl rfl) ?_
          refine WQ.yldGs [(_, _)] rfl (blt rfl) rfl rfl rfl (fun hb => Y.move rfl rfl) ?_
          refine WQ.yldGs [(_, _)] rfl (blt rfl) rfl rfl rfl (fun hb => Y.indexLs i (h_ats.ext xW) rfl Try.underlying35 ti3 (evg (evg rfl hb.1) hb.2.1) (evg (evg rfl hb.1) hb.2.1) rfl (by have q0 := ((and_f hb.1).imp (fun h => (eq_f h)) (fun h => (dec_f (or_f h).1))); have q1 := (eq_t hb.2.1); omega)) ?_
          refine WQ.yldGs [(_, _)] rfl (blt rfl) rfl rfl rfl (fun hb => Y.load1 rfl Try.underlying3 rfl (evg (evg rfl hb.1) hb.2.1) (Ls.at_ext (h_ats.ext xW) (by have q0 := ((and_f hb.1).imp (fun h => (eq_f h)) (fun h => (dec_f (or_f h).1))); have q1 := (eq_t hb.2.1); omega) rfl)) ?_
          refine WQ.yldGs [(_, _)] rfl (blt rfl) rfl rfl rfl (fun hb => Y.build (cells := [_, _]) rfl pl29 (evp_cons (evg (evg rfl hb.1) hb.2.1) (evp_cons (evg (evg rfl hb.1) hb.2.1) evp_nil)) rfl) ?_
          refine WQ.yldGs [(_, _)] rfl (blt rfl) rfl rfl rfl (fun hb => Y.neqS rfl eqg29 (eq29 _ _ _ _) (evg (evg rfl hb.1) hb.2.1) (evg (evg rfl hb.1) hb.2.1)) ?_
          refine WQ.yldG rfl (blt rfl) rfl rfl rfl (fun hb => Y.and rfl (evg rfl hb) (evg rfl hb) rfl) ?_
          refine WQ.yld rfl (blt rfl) rfl (Y.or rfl rfl rfl rfl) ?_
          refine WQ.done (fun w52 x53 => ?_)
          have m6 := m6.ext x53
          have ow19 := ow19.ext x53
          have hl25 := hl25.ext x53
          have m44 := m44.ext x53
          have xW := Ext.trans xW x53
          refine WK.then_normal (k51 _ _ ?_)
          refine WC.sub [(1, _), (2, _), (3, _), (7, _), (8, _), (9, _), (95, _)] ⟨rfl, rfl, rfl, rfl, rfl, rfl, rfl, trivial⟩ ?_
          refine WC.cond rfl (fun h54 => ?_) (fun h54 => ?_)
          ·
            clear k1 k7 k8 k15 k20 k21 k27 k28 k30 k31 k45 k46 k51
            exact (Bd.many_dead (by omega) (by omega) hx0 eml h54).elim
          ·
            have p54 := (And.intro ((and_f (or_f h54).1).imp (fun h => (eq_f h)) (fun h => (dec_f (or_f h).1))) ((and_f (or_f h54).2).imp (fun h => (eq_f h)) (fun h => h)))
            refine WC.skip ?_
            refine WK.in_normal ?_
            refine WK.then_normal (k30 _ _ ?_)
            refine WC.sub [(1, _), (2, _), (3, _), (7, _), (8, _), (9, _)] ⟨rfl, rfl, rfl, rfl, rfl, rfl, trivial⟩ ?_
            refine WC.region rfl ?_
            refine WL.yld rfl (blt rfl) rfl (Y.move rfl rfl) ?_
            refine WL.yld rfl (blt rfl) rfl (Y.add rfl rfl rfl (wrap_i64 (by first | omega | (dsimp only; omega)))) ?_
            refine WL.yld rfl (blt rfl) rfl (Y.assign rfl rfl) ?_
            refine WL.nil ?_
            refine WK.roundS _ [(9, .int .i64 (((i + 1) : Nat) : Int))] ⟨rfl, rfl, rfl, rfl, rfl, rfl, trivial⟩ ?_ ⟨(i + 1), rfl, rfl, xW, m6, ow19, (by omega), (fun j hj => by rcases Nat.lt_succ_iff_lt_or_eq.1 hj with h | h; exact inv_i j h; rw [h]; exact hx0)⟩
            show _ - (i + 1) < _ - i; omega
      refine WX.run rfl rfl (blt rfl) rfl ⟨xW, m6, hl25⟩ (Run.alloc rfl ti29 rfl) ?_
      rintro _ w56 ⟨g55, rfl, e57, x58, m59⟩
      have n_g2_g55 := ne_new m6 e57
      have r_v18_g55 := ne_newO ow19 e57
      have o_g55 := own_new xW e57
      have m6 := m6.ext x58
      have ow19 := ow19.ext x58
      have hl25 := hl25.ext x58
      have xW := Ext.trans xW x58
      refine WX.call rfl rfl (blt rfl) rfl rfl rfl has11 rfl ⟨xW, m6, hl25⟩ (of_any _ _ _ _ _ _ _ _ _ _ _ (h_d.ext xW) (h_l.ext xW) (by omega)) ?_
      rintro _ w60 ⟨rfl, x61⟩
      refine ⟨_, rfl, ?_⟩
      have m6 := m6.ext x61
      have ow19 := ow19.ext x61
      have hl25 := hl25.ext x61
      have m59 := m59.ext x61
      have xW := Ext.trans xW x61
      refine WX.yld rfl rfl (blt rfl) rfl (Y.move rfl rfl) ?_
      refine WX.yld rfl rfl (blt rfl) rfl (Y.extract rfl rfl rfl) ?_
      refine WX.yld rfl rfl (blt rfl) rfl (Y.extract rfl rfl rfl) ?_
      refine WX.storeB (cs' := [_, _]) rfl ⟨xW, m6, hl25⟩ rfl rfl rfl rfl rfl rfl ti29 m59 (ble rfl) rfl rfl (fun w62 on63 m64 => ?_)
      have m6 := m6.only n_g2_g55 on63
      have ow19 := ow19.only r_v18_g55 on63
      have hl25 := OwnL.ls ow19 (fun _ => rfl) (by decide)
      have xW := Ext.only xW on63 o_g55
      refine WX.yld rfl rfl (blt rfl) rfl (Y.assign rfl rfl) ?_
      refine WX.nil ⟨xW, m6, hl25⟩ ?_
      refine WK.then_normal (k31 _ _ ?_)
      refine WC.sub [(1, _), (2, _), (3, _), (7, _), (8, _), (9, _), (10, _), (11, _)] ⟨rfl, rfl, rfl, rfl, rfl, rfl, rfl, rfl, trivial⟩ ?_
      refine WC.seq (fun K65 k65 => ?_)
      refine WC.seq (fun K66 k66 => ?_)
      refine WC.region rfl ?_
      refine WL.yld rfl (blt rfl) rfl (Y.move rfl rfl) ?_
      refine WL.yld rfl (blt rfl) rfl (Y.neq rfl rfl rfl) ?_
      refine WL.nil ?_
      refine WK.then_normal (k66 _ _ ?_)
      refine WC.sub [(1, _), (2, _), (3, _), (7, _), (8, _), (9, _), (10, _), (11, _), (51, _)] ⟨rfl, rfl, rfl, rfl, rfl, rfl, rfl, rfl, rfl, trivial⟩ ?_
      refine WC.cond rfl (fun h67 => ?_) (fun h67 => ?_)
      ·
        have p67 := (eq_f (not_t h67))
        have hne : ((Bd.ofF d l id) ats[i]!).2 ≠ 0 := by simpa using h67
        have hh := Bd.manyE_hit (show i < ats.length from by omega) inv_i hne
        refine WC.seq (fun K68 k68 => ?_)
        refine WC.region rfl ?_
        refine WL.yld rfl (blt rfl) rfl (Y.move rfl rfl) ?_
        refine WL.yld rfl (blt rfl) rfl (Y.move rfl rfl) ?_
        refine WL.yld rfl (blt rfl) rfl (Yld.cast (Y.eql rfl rfl rfl) (vb (b := true) (by rw [hh]; simp))) ?_
        refine WL.yld rfl (blt rfl) rfl (Y.move rfl rfl) ?_
        refine WL.yldW rfl (blt rfl) rfl rfl rfl (Y.move rfl rfl) ?_
        refine WL.yldW rfl (blt rfl) rfl rfl rfl (Y.lenSl rfl rfl rfl Try.underlying36 rfl) ?_
        refine WL.yldW rfl (blt rfl) rfl rfl rfl (Yld.cast (Y.eql rfl rfl rfl) (vb (b := true) (Bd.many_nil (by rw [hh]; exact hne) eml))) ?_
        refine WL.yld rfl (blt rfl) rfl (Y.pickT rfl rfl rfl) ?_
        refine WL.yld rfl (blt rfl) rfl (Y.move rfl rfl) ?_
        refine WL.callW rfl (blt rfl) rfl rfl rfl rfl rfl has10 rfl (awake_any _ ) ?_
        rintro _ w69 ⟨rfl, x70⟩
        refine ⟨_, rfl, ?_⟩
        have m6 := m6.ext x70
        have ow19 := ow19.ext x70
        have hl25 := hl25.ext x70
        have m64 := m64.ext x70
        have xW := Ext.trans xW x70
        refine WL.yld rfl (blt rfl) rfl (Y.pickT rfl rfl rfl) ?_
        refine WL.yld rfl (blt rfl) rfl (Y.assign rfl rfl) ?_
        refine WL.nil ?_
        refine WK.then_normal (k68 _ _ ?_)
        refine WC.sub [(6, _)] ⟨rfl, trivial⟩ ?_
        refine WC.ret ?_
        refine WK.then_ret ?_
        refine WK.in_ret ?_
        refine WK.then_ret ?_
        refine WK.then_ret ?_
        refine WK.in_ret ?_
        refine WK.then_ret ?_
        clear k1 k7 k8 k15 k20 k21 k27 k28 k30 k31 k65 k66 k68
        refine WK.ret [_] rfl ⟨rfl, trivial⟩ ?_
        exact ⟨ret1 (vb rfl), xW⟩
      ·
        have p67 := (eq_t (not_f h67))
        have hx0 : ((Bd.ofF d l id) ats[i]!).2 = 0 := by simpa using h67
        refine WC.skip ?_
        refine WK.then_normal (k65 _ _ ?_)
        refine WC.sub [(1, _), (2, _), (3, _), (7, _), (8, _), (9, _), (10, _)] ⟨rfl, rfl, rfl, rfl, rfl, rfl, rfl, trivial⟩ ?_
        refine WC.seq (fun K71 k71 => ?_)
        refine WC.regionDq (by kernel_rfl) (by kernel_rfl) rfl ?_
        refine WQ.yld rfl (blt rfl) rfl (Y.move rfl rfl) ?_
        refine WQ.yld rfl (blt rfl) rfl (Y.eql rfl rfl rfl) ?_
        refine WQ.yld rfl (blt rfl) rfl (Y.move rfl rfl) ?_
        refine WQ.yldG rfl (blt rfl) rfl rfl rfl (fun hb => Y.move rfl rfl) ?_
        refine WQ.yldG rfl (blt rfl) rfl rfl rfl (fun hb => Y.move rfl rfl) ?_
        refine WQ.yldG rfl (blt rfl) rfl rfl rfl (fun hb => Y.lenSl rfl rfl rfl Try.underlying36 (evs_cons (evg rfl hb) evs_nil)) ?_
        refine WQ.yldG rfl (blt rfl) rfl rfl rfl (fun hb => Y.geq rfl (evg rfl hb) (evg rfl hb)) ?_
        refine WQ.yldG rfl (blt rfl) rfl rfl rfl (fun hb => Y.move rfl (evg rfl hb)) ?_
        refine WQ.yldGs [(_, _)] rfl (blt rfl) rfl rfl rfl (fun hb => Y.move rfl rfl) ?_
        refine WQ.yldGs [(_, _)] rfl (blt rfl) rfl rfl rfl (fun hb => Y.move rfl rfl) ?_
        refine WQ.yldGs [(_, _)] rfl (blt rfl) rfl rfl rfl (fun hb => Y.indexLs i hl25 rfl Try.underlying36 ti29 (evg (evg rfl hb.1) hb.2.1) (evg (evg rfl hb.1) hb.2.1) rfl (by have q0 := (eq_t hb.1); have q1 := (dec_f hb.2.1); omega)) ?_
        refine WQ.yldGs [(_, _)] rfl (blt rfl) rfl rfl rfl (fun hb => Y.loadS (cs := [_, _]) rfl Try.underlying29 rfl ti29 (evg (evg rfl hb.1) hb.2.1) (Ls.part_ext hl25 (by have q0 := (eq_t hb.1); have q1 := (dec_f hb.2.1); omega) rfl)) ?_
        refine WQ.yldGs [(_, _)] rfl (blt rfl) rfl rfl rfl (fun hb => Y.loadS rfl Try.underlying29 rfl ti29 rfl (Blk.row_ext m64)) ?_
        refine WQ.yldGs [(_, _)] rfl (blt rfl) rfl rfl rfl (fun hb => Y.neqS rfl eqg29 (eq29 _ _ _ _) (evg (evg rfl hb.1) hb.2.1) (evg (evg rfl hb.1) hb.2.1)) ?_
        refine WQ.yldG rfl (blt rfl) rfl rfl rfl (fun hb => Y.or rfl (evg rfl hb) rfl (evg rfl hb)) ?_
        refine WQ.yld rfl (blt rfl) rfl (Y.and rfl rfl rfl rfl) ?_
        refine WQ.yld rfl (blt rfl) rfl (Y.move rfl rfl) ?_
        refine WQ.yldG rfl (blt rfl) rfl rfl rfl (fun hb => Y.move rfl rfl) ?_
        refine WQ.yldG rfl (blt rfl) rfl rfl rfl (fun hb => Y.eql rfl (evg rfl hb) rfl) ?_
        refine WQ.yldG rfl (blt rfl) rfl rfl rfl (fun hb => Y.move rfl (evg rfl hb)) ?_
        refine WQ.yldGs [(_, _)] rfl (blt rfl) rfl rfl rfl (fun hb => Y.loadS rfl Try.underlying29 rfl ti29 rfl (Blk.row_ext m64)) ?_
        refine WQ.yldGs [(_, _)] rfl (blt rfl) rfl rfl rfl (fun hb => Y.move rfl rfl) ?_
        refine WQ.yldGs [(_, _)] rfl (blt rfl) rfl rfl rfl (fun hb => Y.move rfl rfl) ?_
        refine WQ.yldGs [(_, _)] rfl (blt rfl) rfl rfl rfl (fun hb => Y.indexLs i (h_ats.ext xW) rfl Try.underlying35 ti3 (evg (evg rfl hb.1) hb.2.1) (evg (evg rfl hb.1) hb.2.1) rfl (by have q0 := ((and_f hb.1).imp (fun h => (eq_f h)) (fun h => (dec_f (or_f h).1))); have q1 := (eq_t hb.2.1); omega)) ?_
        refine WQ.yldGs [(_, _)] rfl (blt rfl) rfl rfl rfl (fun hb => Y.load1 rfl Try.underlying3 rfl (evg (evg rfl hb.1) hb.2.1) (Ls.at_ext (h_ats.ext xW) (by have q0 := ((and_f hb.1).imp (fun h => (eq_f h)) (fun h => (dec_f (or_f h).1))); have q1 := (eq_t hb.2.1); omega) rfl)) ?_
        refine WQ.yldGs [(_, _)] rfl (blt rfl) rfl rfl rfl (fun hb => Y.move rfl rfl) ?_
        refine WQ.yldGs [(_, _)] rfl (blt rfl) rfl rfl rfl (fun hb => Y.move rfl rfl) ?_
        refine WQ.yldGs [(_, _)] rfl (blt rfl) rfl rfl rfl (fun hb => Y.indexLs i (h_ats.ext xW) rfl Try.underlying35 ti3 (evg (evg rfl hb.1) hb.2.1) (evg (evg rfl hb.1) hb.2.1) rfl (by have q0 := ((and_f hb.1).imp (fun h => (eq_f h)) (fun h => (dec_f (or_f h).1))); have q1 := (eq_t hb.2.1); omega)) ?_
        refine WQ.yldGs [(_, _)] rfl (blt rfl) rfl rfl rfl (fun hb => Y.load1 rfl Try.underlying3 rfl (evg (evg rfl hb.1) hb.2.1) (Ls.at_ext (h_ats.ext xW) (by have q0 := ((and_f hb.1).imp (fun h => (eq_f h)) (fun h => (dec_f (or_f h).1))); have q1 := (eq_t hb.2.1); omega) rfl)) ?_
        refine WQ.yldGs [(_, _)] rfl (blt rfl) rfl rfl rfl (fun hb => Y.build (cells := [_, _]) rfl pl29 (evp_cons (evg (evg rfl hb.1) hb.2.1) (evp_cons (evg (evg rfl hb.1) hb.2.1) evp_nil)) rfl) ?_
        refine WQ.yldGs [(_, _)] rfl (blt rfl) rfl rfl rfl (fun hb => Y.neqS rfl eqg29 (eq29 _ _ _ _) (evg (evg rfl hb.1) hb.2.1) (evg (evg rfl hb.1) hb.2.1)) ?_
        refine WQ.yldG rfl (blt rfl) rfl rfl rfl (fun hb => Y.and rfl (evg rfl hb) (evg rfl hb) rfl) ?_
        refine WQ.yld rfl (blt rfl) rfl (Y.or rfl rfl rfl rfl) ?_
        refine WQ.done (fun w72 x73 => ?_)
        have m6 := m6.ext x73
        have ow19 := ow19.ext x73
        have hl25 := hl25.ext x73
        have m64 := m64.ext x73
        have xW := Ext.trans xW x73
        refine WK.then_normal (k71 _ _ ?_)
        refine WC.sub [(1, _), (2, _), (3, _), (7, _), (8, _), (9, _), (95, _)] ⟨rfl, rfl, rfl, rfl, rfl, rfl, rfl, trivial⟩ ?_
        refine WC.cond rfl (fun h74 => ?_) (fun h74 => ?_)
        ·
          clear k1 k7 k8 k15 k20 k21 k27 k28 k30 k31 k65 k66 k71
          exact (Bd.many_dead (by omega) (by omega) hx0 eml h74).elim
        ·
          have p74 := (And.intro ((and_f (or_f h74).1).imp (fun h => (eq_f h)) (fun h => (dec_f (or_f h).1))) ((and_f (or_f h74).2).imp (fun h => (eq_f h)) (fun h => h)))
          refine WC.skip ?_
          refine WK.in_normal ?_
          refine WK.then_normal (k30 _ _ ?_)
          refine WC.sub [(1, _), (2, _), (3, _), (7, _), (8, _), (9, _)] ⟨rfl, rfl, rfl, rfl, rfl, rfl, trivial⟩ ?_
          refine WC.region rfl ?_
          refine WL.yld rfl (blt rfl) rfl (Y.move rfl rfl) ?_
          refine WL.yld rfl (blt rfl) rfl (Y.add rfl rfl rfl (wrap_i64 (by first | omega | (dsimp only; omega)))) ?_
          refine WL.yld rfl (blt rfl) rfl (Y.assign rfl rfl) ?_
          refine WL.nil ?_
          refine WK.roundS _ [(9, .int .i64 (((i + 1) : Nat) : Int))] ⟨rfl, rfl, rfl, rfl, rfl, rfl, trivial⟩ ?_ ⟨(i + 1), rfl, rfl, xW, m6, ow19, (by omega), (fun j hj => by rcases Nat.lt_succ_iff_lt_or_eq.1 hj with h | h; exact inv_i j h; rw [h]; exact hx0)⟩
          show _ - (i + 1) < _ - i; omega
    ·
      have p29 := (dec_f h29)
      have hz : Bd.manyE (Bd.ofF d l id) ats = 0 := Bd.manyE_ok fun j hj => inv_i j (by omega)
      refine WC.exit ?_
      refine WK.then_exit ?_
      refine WK.then_exit ?_
      refine WK.in_exit ?_
      refine WK.then_normal (k20 _ _ ?_)
      refine WC.sub [(2, _), (7, _), (8, _)] ⟨rfl, rfl, rfl, trivial⟩ ?_
      refine WC.seq (fun K75 k75 => ?_)
      refine WC.region rfl ?_
      refine WL.yld rfl (blt rfl) rfl (Y.move rfl rfl) ?_
      refine WL.yld rfl (blt rfl) rfl (Yld.cast (Y.eql rfl rfl rfl) (vb (b := true) (by rw [hz]; rfl))) ?_
      refine WL.yld rfl (blt rfl) rfl (Y.move rfl rfl) ?_
      refine WL.yldW rfl (blt rfl) rfl rfl rfl (Y.move rfl rfl) ?_
      refine WL.yldW rfl (blt rfl) rfl rfl rfl (Y.lenSl rfl rfl rfl Try.underlying36 rfl) ?_
      refine WL.yldW rfl (blt rfl) rfl rfl rfl (Y.move rfl rfl) ?_
      refine WL.yldW rfl (blt rfl) rfl rfl rfl (Y.lenSl rfl rfl rfl Try.underlying35 rfl) ?_
      refine WL.yldW rfl (blt rfl) rfl rfl rfl (Yld.cast (Y.eql rfl rfl rfl) (vb (b := true) (Bd.many_len hz eml e_ats))) ?_
      refine WL.yld rfl (blt rfl) rfl (Y.pickT rfl rfl rfl) ?_
      refine WL.yld rfl (blt rfl) rfl (Y.move rfl rfl) ?_
      refine WL.callW rfl (blt rfl) rfl rfl rfl rfl rfl has10 rfl (awake_any _ ) ?_
      rintro _ w76 ⟨rfl, x77⟩
      refine ⟨_, rfl, ?_⟩
      have ow19 := ow19.ext x77
      have hl25 := hl25.ext x77
      have xW := Ext.trans xW x77
      refine WL.yld rfl (blt rfl) rfl (Y.pickT rfl rfl rfl) ?_
      refine WL.yld rfl (blt rfl) rfl (Y.assign rfl rfl) ?_
      refine WL.nil ?_
      refine WK.then_normal (k75 _ _ ?_)
      refine WC.sub [(6, _)] ⟨rfl, trivial⟩ ?_
      refine WC.ret ?_
      clear k1 k7 k8 k15 k20 k21 k27 k28 k75
      refine WK.ret [_] rfl ⟨rfl, trivial⟩ ?_
      exact ⟨ret1 (vb rfl), xW⟩
end LBoundMany
end BdW

end Go.Proofs.Ytaglpampidlbmaa
