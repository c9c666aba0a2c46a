/- The walk of the law. Conditions: what each theorem states. -/
import Derived.Test.YtaglpampidlbmaaBdAw
import Derived.Test.YtaglpampidlbmaaBdM2
namespace Go.Proofs.Ytaglpampidlbmaa
open Go Go.Eng Go.RowKit
set_option linter.unusedVariables false
set_option linter.unusedSimpArgs false
namespace BdW
open N RL NumF LB GR CkW CkW.P CkW.K CkW.R CkW.RP B OF MY RP_ RE RI RL_ RO RS_ AW_
namespace LBoundReached
theorem ti3 : TI Try.prog 3 (.int .i64 0) 1 8 := TI.mk (by kernel_rfl)
theorem ti22 : TI Try.prog 22 (.slice none 0 0) 1 24 := TI.mk (by kernel_rfl)
theorem ti23 : TI Try.prog 23 (.slice none 0 0) 1 24 := TI.mk (by kernel_rfl)
theorem ti25 : TI Try.prog 25 (.agg #[.slice none 0 0, .slice none 0 0]) 2 48 := TI.mk (by kernel_rfl)
theorem ti29 : TI Try.prog 29 (.agg #[.int .i64 0, .int .i64 0]) 2 16 := TI.mk (by kernel_rfl)
theorem has9 : Has Try.prog 9 := ⟨_, Try.func9, rfl, by kernel_rfl⟩
theorem has10 : Has Try.prog 10 := ⟨_, Try.func10, rfl, by kernel_rfl⟩
theorem has11 : Has Try.prog 11 := ⟨_, Try.func11, rfl, by kernel_rfl⟩
theorem has13 : Has Try.prog 13 := ⟨_, Try.func13, rfl, by kernel_rfl⟩
theorem has16 : Has Try.prog 16 := ⟨_, Try.func16, rfl, by kernel_rfl⟩
theorem pl29 : PL Try.prog 29 [.int .i64 0, .int .i64 0] [(0, 1), (1, 1)] := PL.mk (zero := [.int .i64 0, .int .i64 0]) ti29 Try.underlying29 (by kernel_rfl)
theorem eqg29 : Try.prog.eqGuardType Try.prog.depth 29 = false := by kernel_rfl
theorem eq29 (a0 : Int) (a1 : Int) (b0 : Int) (b1 : Int) (w : World) : (Op.equalIn 10000 29 (.agg #[.int .i64 a0, .int .i64 a1]) (.agg #[.int .i64 b0, .int .i64 b1])).run Try.prog w = .ok ((a0 == b0) && (a1 == b1)) w := by
  go_simp
  (repeat' split) <;> simp_all
theorem BoundReached_any (A_d : Option Addr) (n_d c_d : Nat) (d : List Ck.Dom) (A_l : Option Addr) (n_l c_l : Nat) (l : List Ck.Snap) (id : Int) (at_ : Int) (w : World) (h_d : Ls w A_d n_d c_d Ck.Dom.c 2 d) (h_l : Ls w A_l n_l c_l Ck.Snap.c 5 l) :
    Calls Try.prog 5 #[.agg #[.slice A_d n_d c_d, .slice A_l n_l c_l], .int .i64 id, .int .i64 at_] w fun e w' => e = .returned (.bool true) ∧ Ext w w' := by
  have xW := Ext.refl w
  have e_d := h_d.len
  have z_d := h_d.nle
  have e_l := h_l.len
  have z_l := h_l.nle
  refine calls_of_WC (args := [.agg #[.slice A_d n_d c_d, .slice A_l n_l c_l], .int .i64 id, .int .i64 at_]) Try.func5 rfl rfl (ble rfl) ?_
  refine WC.seq (fun K1 k1 => ?_)
  refine WC.region rfl ?_
  refine WL.box rfl (blt rfl) rfl rfl rfl rfl ?_
  intro g2 w3 e4 x5 m6
  have o_g2 := own_new xW e4
  have xW := Ext.trans xW x5
  refine WL.yld rfl (blt rfl) rfl (Y.assign rfl rfl) ?_
  refine WL.nil ?_
  refine WK.then_normal (k1 _ _ ?_)
  refine WC.sub [(1, _), (2, _), (3, _)] ⟨rfl, rfl, rfl, trivial⟩ ?_
  refine WC.seq (fun K7 k7 => ?_)
  refine WC.seq (fun K8 k8 => ?_)
  refine WC.region rfl ?_
  refine WL.yld rfl (blt rfl) rfl (Y.loadS rfl Try.underlying25 rfl ti25 rfl (Blk.row_eq m6)) ?_
  refine WL.call rfl (blt rfl) rfl rfl rfl has9 rfl (small_any _ _ _ d _ _ _ l _) ?_
  rintro _ w9 ⟨rfl, x10⟩
  refine ⟨_, rfl, ?_⟩
  have m6 := m6.ext x10
  have xW := Ext.trans xW x10
  refine WL.yld rfl (blt rfl) rfl (Y.not rfl rfl) ?_
  refine WL.yld rfl (blt rfl) rfl (Y.move rfl rfl) ?_
  refine WL.yldG rfl (blt rfl) rfl rfl rfl (fun hb => Y.move rfl rfl) ?_
  refine WL.yldG rfl (blt rfl) rfl rfl rfl (fun hb => Y.eql rfl (evg rfl hb) rfl) ?_
  refine WL.yld rfl (blt rfl) rfl (Y.or rfl rfl rfl rfl) ?_
  refine WL.nil ?_
  refine WK.then_normal (k8 _ _ ?_)
  refine WC.sub [(1, _), (2, _), (3, _), (17, _)] ⟨rfl, rfl, rfl, rfl, trivial⟩ ?_
  refine WC.cond rfl (fun h11 => ?_) (fun h11 => ?_)
  ·
    have p11 := ((or_t h11).imp (fun h => ((and_f (not_t h)).imp (fun h => (dec_f h)) (fun h => (dec_f h)))) (fun h => (eq_t h)))
    refine WC.seq (fun K12 k12 => ?_)
    refine WC.region rfl ?_
    refine WL.call rfl (blt rfl) rfl rfl rfl has10 rfl (awake_any _ ) ?_
    rintro _ w13 ⟨rfl, x14⟩
    refine ⟨_, rfl, ?_⟩
    have m6 := m6.ext x14
    have xW := Ext.trans xW x14
    refine WL.yld rfl (blt rfl) rfl (Y.assign rfl rfl) ?_
    refine WL.nil ?_
    refine WK.then_normal (k12 _ _ ?_)
    refine WC.sub [(6, _)] ⟨rfl, trivial⟩ ?_
    refine WC.ret ?_
    refine WK.then_ret ?_
    clear k1 k7 k8 k12
    refine WK.ret [_] rfl ⟨rfl, trivial⟩ ?_
    exact ⟨ret1 (vb rfl), xW⟩
  ·
    have p11 := (And.intro (And.intro (dec_t (and_t (not_f (or_f h11).1)).1) (dec_t (and_t (not_f (or_f h11).1)).2)) (eq_f (or_f h11).2))
    refine WC.skip ?_
    refine WK.then_normal (k7 _ _ ?_)
    refine WC.sub [(1, _), (2, _), (3, _)] ⟨rfl, rfl, rfl, trivial⟩ ?_
    refine WC.seq (fun K15 k15 => ?_)
    refine WC.region rfl ?_
    refine WL.yld rfl (blt rfl) rfl (Y.fieldAddr rfl Try.underlying25 rfl ti22 (by decide) rfl) ?_
    refine WL.yld rfl (blt rfl) rfl (Y.load1 rfl Try.underlying22 rfl rfl (Blk.at_eq m6 rfl)) ?_
    refine WL.yld rfl (blt rfl) rfl (Y.fieldAddr rfl Try.underlying25 rfl ti23 (by decide) rfl) ?_
    refine WL.yld rfl (blt rfl) rfl (Y.load1 rfl Try.underlying23 rfl rfl (Blk.at_eq m6 rfl)) ?_
    refine WL.yld rfl (blt rfl) rfl (Y.move rfl rfl) ?_
    refine WL.yld rfl (blt rfl) rfl (Y.move rfl rfl) ?_
    refine WL.call rfl (blt rfl) rfl rfl rfl has11 rfl (of_any _ _ _ _ _ _ _ _ _ _ _ (h_d.ext xW) (h_l.ext xW) (by omega)) ?_
    rintro _ w16 ⟨rfl, x17⟩
    refine ⟨_, rfl, ?_⟩
    have m6 := m6.ext x17
    have xW := Ext.trans xW x17
    refine WL.yld rfl (blt rfl) rfl (Y.move rfl rfl) ?_
    refine WL.yld rfl (blt rfl) rfl (Y.extract rfl rfl rfl) ?_
    refine WL.yld rfl (blt rfl) rfl (Y.extract rfl rfl rfl) ?_
    refine WL.alloc rfl (blt rfl) rfl rfl ti29 rfl ?_
    intro g18 w19 e20 x21 m22
    have n_g2_g18 := ne_new m6 e20
    have o_g18 := own_new xW e20
    have m6 := m6.ext x21
    have xW := Ext.trans xW x21
    refine WL.store (cs' := [_, _]) rfl rfl rfl rfl rfl rfl ti29 m22 (ble rfl) rfl rfl (fun w23 on24 m25 => ?_)
    have m6 := m6.only n_g2_g18 on24
    have xW := Ext.only xW on24 o_g18
    refine WL.yld rfl (blt rfl) rfl (Y.assign rfl rfl) ?_
    refine WL.nil ?_
    refine WK.then_normal (k15 _ _ ?_)
    refine WC.sub [(1, _), (2, _), (3, _), (7, _), (8, _)] ⟨rfl, rfl, rfl, rfl, rfl, trivial⟩ ?_
    refine WC.seq (fun K26 k26 => ?_)
    refine WC.seq (fun K27 k27 => ?_)
    refine WC.region rfl ?_
    refine WL.yld rfl (blt rfl) rfl (Y.move rfl rfl) ?_
    refine WL.yld rfl (blt rfl) rfl (Y.neq rfl rfl rfl) ?_
    refine WL.nil ?_
    refine WK.then_normal (k27 _ _ ?_)
    refine WC.sub [(1, _), (2, _), (3, _), (7, _), (30, _)] ⟨rfl, rfl, rfl, rfl, rfl, trivial⟩ ?_
    refine WC.cond rfl (fun h28 => ?_) (fun h28 => ?_)
    ·
      have p28 := (eq_f (not_t h28))
      have hne : (Bd.ofF d l id at_).2 ≠ 0 := by simpa using h28
      refine WC.seq (fun K29 k29 => ?_)
      refine WC.region rfl ?_
      refine WL.yld rfl (blt rfl) rfl (Y.loadS rfl Try.underlying29 rfl ti29 rfl (Blk.row_eq m25)) ?_
      refine WL.yld rfl (blt rfl) rfl (Y.build (cells := [_, _]) rfl pl29 rfl rfl) ?_
      refine WL.yld rfl (blt rfl) rfl (Yld.cast (Y.eqlS rfl eqg29 (eq29 _ _ _ _) rfl rfl) (vb (b := true) (by rw [Bd.of_zero hne]; rfl))) ?_
      refine WL.yld rfl (blt rfl) rfl (Y.move rfl rfl) ?_
      refine WL.callW rfl (blt rfl) rfl rfl rfl rfl rfl has10 rfl (awake_any _ ) ?_
      rintro _ w30 ⟨rfl, x31⟩
      refine ⟨_, rfl, ?_⟩
      have m6 := m6.ext x31
      have m25 := m25.ext x31
      have xW := Ext.trans xW x31
      refine WL.yld rfl (blt rfl) rfl (Y.pickT rfl rfl rfl) ?_
      refine WL.yld rfl (blt rfl) rfl (Y.assign rfl rfl) ?_
      refine WL.nil ?_
      refine WK.then_normal (k29 _ _ ?_)
      refine WC.sub [(6, _)] ⟨rfl, trivial⟩ ?_
      refine WC.ret ?_
      refine WK.then_ret ?_
      clear k1 k7 k8 k15 k26 k27 k29
      refine WK.ret [_] rfl ⟨rfl, trivial⟩ ?_
      exact ⟨ret1 (vb rfl), xW⟩
    ·
      have p28 := (eq_t (not_f h28))
      have hx0 : (Bd.ofF d l id at_).2 = 0 := by simpa using h28
      have hb := (Bd.of_ok (by omega) hx0).bd (by omega)
      refine WC.skip ?_
      refine WK.then_normal (k26 _ _ ?_)
      refine WC.sub [(1, _), (2, _), (3, _), (7, _)] ⟨rfl, rfl, rfl, rfl, trivial⟩ ?_
      refine WC.seq (fun K32 k32 => ?_)
      refine WC.seq (fun K33 k33 => ?_)
      refine WC.region rfl ?_
      refine WL.yld rfl (blt rfl) rfl (Y.fieldAddr rfl Try.underlying29 rfl ti3 (by decide) rfl) ?_
      refine WL.yld rfl (blt rfl) rfl (Y.load1 rfl Try.underlying3 rfl rfl (Blk.at_eq m25 rfl)) ?_
      refine WL.yld rfl (blt rfl) rfl (Y.fieldAddr rfl Try.underlying29 rfl ti3 (by decide) rfl) ?_
      refine WL.yld rfl (blt rfl) rfl (Y.load1 rfl Try.underlying3 rfl rfl (Blk.at_eq m25 rfl)) ?_
      refine WL.yld rfl (blt rfl) rfl (Y.gtr rfl rfl rfl) ?_
      refine WL.nil ?_
      refine WK.then_normal (k33 _ _ ?_)
      refine WC.sub [(1, _), (2, _), (3, _), (7, _), (41, _)] ⟨rfl, rfl, rfl, rfl, rfl, trivial⟩ ?_
      refine WC.cond rfl (fun h34 => ?_) (fun h34 => ?_)
      ·
        clear k1 k7 k8 k15 k26 k27 k32 k33
        have q := dec_t h34
        omega
      ·
        have p34 := (dec_f h34)
        refine WC.skip ?_
        refine WK.then_normal (k32 _ _ ?_)
        refine WC.sub [(1, _), (2, _), (3, _), (7, _)] ⟨rfl, rfl, rfl, rfl, trivial⟩ ?_
        refine WC.seq (fun K35 k35 => ?_)
        refine WC.seq (fun K36 k36 => ?_)
        refine WC.region rfl ?_
        refine WL.yld rfl (blt rfl) rfl (Y.assign rfl rfl) ?_
        refine WL.nil ?_
        refine WK.then_normal (k36 _ _ ?_)
        refine WC.block ?_
        refine WC.sub [(9, _), (1, _), (2, _), (3, _), (7, _)] ⟨rfl, rfl, rfl, rfl, rfl, trivial⟩ ?_
        refine WC.loopS 1 (fun mz Ed W' => ∃ i : Nat, mz = 4 - i ∧ Ed = [(9, .int .i64 ((i : Nat) : Int))] ∧ Ext w W' ∧ Blk W' g2 25 _ ∧ Blk W' g18 29 _ ∧ (i ≤ 4)) _ ⟨0, rfl, rfl, xW, m6, m25, (Nat.zero_le _)⟩ ?_
        rintro _ _ w37 ⟨i, rfl, rfl, xW, m6, m25, le_i⟩
        refine WC.sub [(9, _), (1, _), (2, _), (3, _), (7, _)] ⟨rfl, rfl, rfl, rfl, rfl, trivial⟩ ?_
        refine WC.seq (fun K38 k38 => ?_)
        refine WC.seq (fun K39 k39 => ?_)
        refine WC.region rfl ?_
        refine WL.yld rfl (blt rfl) rfl (Y.move rfl rfl) ?_
        refine WL.yld rfl (blt rfl) rfl (Y.lss rfl rfl rfl) ?_
        refine WL.nil ?_
        refine WK.then_normal (k39 _ _ ?_)
        refine WC.sub [(1, _), (2, _), (3, _), (7, _), (9, _), (43, _)] ⟨rfl, rfl, rfl, rfl, rfl, rfl, trivial⟩ ?_
        refine WC.cond rfl (fun h40 => ?_) (fun h40 => ?_)
        ·
          have p40 := (dec_t h40)
          refine WC.skip ?_
          refine WK.then_normal (k38 _ _ ?_)
          refine WC.sub [(1, _), (2, _), (3, _), (7, _), (9, _)] ⟨rfl, rfl, rfl, rfl, rfl, trivial⟩ ?_
          refine WC.seq (fun K41 k41 => ?_)
          refine WC.block ?_
          refine WC.seq (fun K42 k42 => ?_)
          refine WC.region rfl ?_
          refine WL.yld rfl (blt rfl) rfl (Y.fieldAddr rfl Try.underlying29 rfl ti3 (by decide) rfl) ?_
          refine WL.yld rfl (blt rfl) rfl (Y.load1 rfl Try.underlying3 rfl rfl (Blk.at_eq m25 rfl)) ?_
          refine WL.yld rfl (blt rfl) rfl (Y.sub rfl rfl rfl (wrap_i64 (by first | omega | (dsimp only; omega)))) ?_
          refine WL.yld rfl (blt rfl) rfl (Y.fieldAddr rfl Try.underlying29 rfl ti3 (by decide) rfl) ?_
          refine WL.yld rfl (blt rfl) rfl (Y.load1 rfl Try.underlying3 rfl rfl (Blk.at_eq m25 rfl)) ?_
          refine WL.yld rfl (blt rfl) rfl (Y.fieldAddr rfl Try.underlying29 rfl ti3 (by decide) rfl) ?_
          refine WL.yld rfl (blt rfl) rfl (Y.load1 rfl Try.underlying3 rfl rfl (Blk.at_eq m25 rfl)) ?_
          refine WL.yld rfl (blt rfl) rfl (Y.fieldAddr rfl Try.underlying29 rfl ti3 (by decide) rfl) ?_
          refine WL.yld rfl (blt rfl) rfl (Y.load1 rfl Try.underlying3 rfl rfl (Blk.at_eq m25 rfl)) ?_
          refine WL.yld rfl (blt rfl) rfl (Y.add rfl rfl rfl (wrap_i64 (by first | omega | (dsimp only; omega)))) ?_
          refine WL.bslice (zs := [.int .i64 0, .int .i64 0, .int .i64 0, .int .i64 0]) (cs := [_, _, _, _]) rfl (blt rfl) rfl rfl Try.underlying35 ti3 rfl (ble rfl) (by kernel_rfl) rfl rfl ?_
          intro g43 w44 e45 x46 m47
          have n_g2_g43 := ne_new m6 e45
          have n_g18_g43 := ne_new m25 e45
          have o_g43 := own_new xW e45
          have m6 := m6.ext x46
          have m25 := m25.ext x46
          have xW := Ext.trans xW x46
          refine WL.yld rfl (blt rfl) rfl (Y.move rfl rfl) ?_
          have b48 : i < 4 := by omega
          refine WL.yld rfl (blt rfl) rfl (Y.indexLs i (Ls.lit (f := Ck.ic) (sz := 1) (l := [(Bd.ofF d l id at_).1.1 - 1, (Bd.ofF d l id at_).1.1, (Bd.ofF d l id at_).1.2, (Bd.ofF d l id at_).1.2 + 1]) m47 (fun _ => rfl) rfl (by first | decide | exact (show 4 ≤ maxLen by decide)) rfl) rfl Try.underlying35 ti3 rfl rfl rfl b48) ?_
          refine WL.yld rfl (blt rfl) rfl (Y.load1 rfl Try.underlying3 rfl rfl (Ls.at_eq (Ls.lit (f := Ck.ic) (sz := 1) (l := [(Bd.ofF d l id at_).1.1 - 1, (Bd.ofF d l id at_).1.1, (Bd.ofF d l id at_).1.2, (Bd.ofF d l id at_).1.2 + 1]) m47 (fun _ => rfl) rfl (by first | decide | exact (show 4 ≤ maxLen by decide)) rfl) b48 rfl)) ?_
          refine WL.yld rfl (blt rfl) rfl (Y.assign rfl rfl) ?_
          refine WL.nil ?_
          refine WK.then_normal (k42 _ _ ?_)
          refine WC.sub [(1, _), (2, _), (3, _), (7, _), (9, _), (10, _)] ⟨rfl, rfl, rfl, rfl, rfl, rfl, trivial⟩ ?_
          refine WC.seq (fun K49 k49 => ?_)
          refine WC.regionX (fun W' => Ext w W' ∧ Blk W' g2 25 _ ∧ Blk W' g18 29 _) (.load 0 (.load 1 (.load 2 (.load 3 (.load 4 (.load 5 (.load 6 (.load 7 (.load 8 (.load 9 (.load 10 (.load 11 (.load 12 (.load 15 (.load 16 (.alt 13 (.alt 14 (.load 17 (.load 18 (.load 19 (.load 20 (.load 21 (.load 22 (.fin))))))) (.none)) (.none))))))))))))))))) ⟨xW, m6, m25⟩ (by kernel_rfl) (by kernel_rfl) (fun w50 x51 => ?_)
          have m6 := m6.ext x51
          have m25 := m25.ext x51
          have xW := Ext.trans xW x51
          refine WX.yld rfl rfl (blt rfl) rfl (Y.move rfl rfl) ?_
          refine WX.yld rfl rfl (blt rfl) rfl (Y.geq rfl rfl rfl) ?_
          refine WX.yld rfl rfl (blt rfl) rfl (Y.move rfl rfl) ?_
          refine WX.yldG rfl rfl (blt rfl) rfl rfl rfl (fun hb => Y.move rfl rfl) ?_
          refine WX.yldG rfl rfl (blt rfl) rfl rfl rfl (fun hb => Y.leq rfl (evg rfl hb) rfl) ?_
          refine WX.yld rfl rfl (blt rfl) rfl (Y.and rfl rfl rfl rfl) ?_
          refine WX.yld rfl rfl (blt rfl) rfl (Y.move rfl rfl) ?_
          refine WX.split (t := 66) rfl (fun h52 => ?_) (fun h52 => ?_)
          ·
            have p52 := (And.intro (dec_t (and_t h52).1) (dec_t (and_t h52).2))
            refine WX.yldW rfl rfl (blt rfl) rfl rfl rfl (Y.fieldAddr rfl Try.underlying25 rfl ti22 (by decide) rfl) ?_
            refine WX.yldW rfl rfl (blt rfl) rfl rfl rfl (Y.load1 rfl Try.underlying22 rfl rfl (Blk.at_c (fun _ h => h.2.1) rfl)) ?_
            refine WX.yldW rfl rfl (blt rfl) rfl rfl rfl (Y.loadS rfl Try.underlying25 rfl ti25 rfl (Blk.row_c (fun _ h => h.2.1))) ?_
            refine WX.yldW rfl rfl (blt rfl) rfl rfl rfl (Y.move rfl rfl) ?_
            refine WX.yldW rfl rfl (blt rfl) rfl rfl rfl (Y.move rfl rfl) ?_
            refine WX.yldW rfl rfl (blt rfl) rfl rfl rfl (Y.move rfl rfl) ?_
            refine WX.yldW rfl rfl (blt rfl) rfl rfl rfl (Y.move rfl rfl) ?_
            refine WX.yldW rfl rfl (blt rfl) rfl rfl rfl (Y.eql rfl rfl rfl) ?_
            refine WX.callW rfl rfl (blt rfl) rfl rfl rfl rfl rfl has16 rfl ⟨xW, m6, m25⟩ (more_any _ _ _ d _ _ _ l _ _ _ _ (h_l.ext xW) (by omega)) ?_
            rintro _ w53 ⟨v55, rfl, ow56, x54⟩
            refine ⟨_, rfl, ?_⟩
            have r_v55_g2 := ne_res ow56 m6
            have r_v55_g18 := ne_res ow56 m25
            have ow56 := OwnL.base_le ow56 xW.size
            have m6 := m6.ext x54
            have m25 := m25.ext x54
            have xW := Ext.trans xW x54
            obtain ⟨A57, n58, c59, rfl, hl60⟩ := OwnL.opened ow56 (fun _ => rfl) (by decide)
            have e_n58 := hl60.len
            try simp only [List.length_append, List.length_cons, List.length_nil, List.length_reverse, List.length_drop, List.length_take, List.length_map, List.length_replicate, List.length_set] at e_n58
            have z_n58 := hl60.nle
            refine WX.callW rfl rfl (blt rfl) rfl rfl rfl rfl rfl has13 rfl ⟨xW, m6, m25⟩ (consistentP_any _ _ _ _ _ _ _ _ _ (h_d.ext xW) hl60 (by omega)) ?_
            rintro _ w61 ⟨rfl, x62⟩
            refine ⟨_, rfl, ?_⟩
            have m6 := m6.ext x62
            have m25 := m25.ext x62
            have ow56 := ow56.ext x62
            have hl60 := hl60.ext x62
            have xW := Ext.trans xW x62
            refine WX.yldW rfl rfl (blt rfl) rfl rfl rfl (Y.move rfl rfl) ?_
            refine WX.yldG rfl rfl (blt rfl) rfl rfl rfl (fun hb => Y.move rfl rfl) ?_
            refine WX.yldG rfl rfl (blt rfl) rfl rfl rfl (fun hb => Y.eql rfl (evg rfl hb) rfl) ?_
            refine WX.yldW rfl rfl (blt rfl) rfl rfl rfl (Y.or rfl rfl rfl rfl) ?_
            refine WX.yldW rfl rfl (blt rfl) rfl rfl rfl (Y.neqB rfl Try.underlying4 rfl rfl) ?_
            refine WX.yld rfl rfl (blt rfl) rfl (Y.pickT rfl rfl rfl) ?_
            refine WX.nil ⟨xW, m6, m25⟩ ?_
            refine WK.then_normal (k49 _ _ ?_)
            refine WC.sub [(1, _), (2, _), (3, _), (7, _), (9, _), (82, _)] ⟨rfl, rfl, rfl, rfl, rfl, rfl, trivial⟩ ?_
            refine WC.cond rfl (fun h63 => ?_) (fun h63 => ?_)
            ·
              clear k1 k7 k8 k15 k26 k27 k32 k33 k35 k36 k38 k39 k41 k42 k49
              exact (Bd.reach_dead (by omega) (by have q := h11; simp only [Bool.or_eq_false_iff] at q; exact q.2) hx0 (show i < 4 from by omega) rfl h52 h63).elim
            ·
              refine WC.skip ?_
              refine WK.in_normal ?_
              refine WK.then_normal (k41 _ _ ?_)
              refine WC.sub [(1, _), (2, _), (3, _), (7, _), (9, _)] ⟨rfl, rfl, rfl, rfl, rfl, trivial⟩ ?_
              refine WC.region rfl ?_
              refine WL.yld rfl (blt rfl) rfl (Y.move rfl rfl) ?_
              refine WL.yld rfl (blt rfl) rfl (Y.add rfl rfl rfl (wrap_i64 (by first | omega | (dsimp only; omega)))) ?_
              refine WL.yld rfl (blt rfl) rfl (Y.assign rfl rfl) ?_
              refine WL.nil ?_
              refine WK.roundS _ [(9, .int .i64 (((i + 1) : Nat) : Int))] ⟨rfl, rfl, rfl, rfl, rfl, trivial⟩ ?_ ⟨(i + 1), rfl, rfl, xW, m6, m25, (by omega)⟩
              show _ - (i + 1) < _ - i; omega
          ·
            have p52 := ((and_f h52).imp (fun h => (dec_f h)) (fun h => (dec_f h)))
            refine WX.skip rfl rfl (blt rfl) rfl rfl rfl rfl ?_
            refine WX.skip rfl rfl (blt rfl) rfl rfl rfl rfl ?_
            refine WX.skip rfl rfl (blt rfl) rfl rfl rfl rfl ?_
            refine WX.skip rfl rfl (blt rfl) rfl rfl rfl rfl ?_
            refine WX.skip rfl rfl (blt rfl) rfl rfl rfl rfl ?_
            refine WX.skip rfl rfl (blt rfl) rfl rfl rfl rfl ?_
            refine WX.skip rfl rfl (blt rfl) rfl rfl rfl rfl ?_
            refine WX.skip rfl rfl (blt rfl) rfl rfl rfl rfl ?_
            refine WX.skipA rfl rfl (blt rfl) rfl rfl rfl rfl ⟨xW, m6, m25⟩ ?_
            refine WX.skipA rfl rfl (blt rfl) rfl rfl rfl rfl ⟨xW, m6, m25⟩ ?_
            refine WX.skip rfl rfl (blt rfl) rfl rfl rfl rfl ?_
            refine WX.skipU rfl rfl (blt rfl) rfl rfl rfl ?_
            refine WX.skipU rfl rfl (blt rfl) rfl rfl rfl ?_
            refine WX.skip rfl rfl (blt rfl) rfl rfl rfl rfl ?_
            refine WX.skip rfl rfl (blt rfl) rfl rfl rfl rfl ?_
            refine WX.yld rfl rfl (blt rfl) rfl (Y.pickF rfl rfl rfl) ?_
            refine WX.nil ⟨xW, m6, m25⟩ ?_
            refine WK.then_normal (k49 _ _ ?_)
            refine WC.sub [(1, _), (2, _), (3, _), (7, _), (9, _), (82, _)] ⟨rfl, rfl, rfl, rfl, rfl, rfl, trivial⟩ ?_
            refine WC.condF rfl ?_
            refine WC.skip ?_
            refine WK.in_normal ?_
            refine WK.then_normal (k41 _ _ ?_)
            refine WC.sub [(1, _), (2, _), (3, _), (7, _), (9, _)] ⟨rfl, rfl, rfl, rfl, rfl, trivial⟩ ?_
            refine WC.region rfl ?_
            refine WL.yld rfl (blt rfl) rfl (Y.move rfl rfl) ?_
            refine WL.yld rfl (blt rfl) rfl (Y.add rfl rfl rfl (wrap_i64 (by first | omega | (dsimp only; omega)))) ?_
            refine WL.yld rfl (blt rfl) rfl (Y.assign rfl rfl) ?_
            refine WL.nil ?_
            refine WK.roundS _ [(9, .int .i64 (((i + 1) : Nat) : Int))] ⟨rfl, rfl, rfl, rfl, rfl, trivial⟩ ?_ ⟨(i + 1), rfl, rfl, xW, m6, m25, (by omega)⟩
            show _ - (i + 1) < _ - i; omega
        ·
          have p40 := (dec_f h40)
          refine WC.exit ?_
          refine WK.then_exit ?_
          refine WK.then_exit ?_
          refine WK.in_exit ?_
          refine WK.then_normal (k35 _ _ ?_)
          refine WC.sub [] trivial ?_
          refine WC.seq (fun K64 k64 => ?_)
          refine WC.region rfl ?_
          refine WL.call rfl (blt rfl) rfl rfl rfl has10 rfl (awake_any _ ) ?_
          rintro _ w65 ⟨rfl, x66⟩
          refine ⟨_, rfl, ?_⟩
          have xW := Ext.trans xW x66
          refine WL.yld rfl (blt rfl) rfl (Y.assign rfl rfl) ?_
          refine WL.nil ?_
          refine WK.then_normal (k64 _ _ ?_)
          refine WC.sub [(6, _)] ⟨rfl, trivial⟩ ?_
          refine WC.ret ?_
          clear k1 k7 k8 k15 k26 k27 k32 k33 k35 k36 k38 k39 k64
          refine WK.ret [_] rfl ⟨rfl, trivial⟩ ?_
          exact ⟨ret1 (vb rfl), xW⟩
end LBoundReached
end BdW

end Go.Proofs.Ytaglpampidlbmaa
