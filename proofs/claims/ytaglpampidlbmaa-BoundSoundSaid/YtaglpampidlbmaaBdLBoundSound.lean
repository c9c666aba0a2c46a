/- The walk of the law. Conditions: what each theorem states. -/
import Derived.Test.YtaglpampidlbmaaBdAw
import Derived.Test.YtaglpampidlbmaaBdM2
namespace Go.Proofs.Ytaglpampidlbmaa
open Go Go.Eng Go.RowKit
set_option linter.unusedVariables false
set_option linter.unusedSimpArgs false
namespace BdW
open N RL NumF LB GR CkW CkW.P CkW.K CkW.R CkW.RP B OF MY RP_ RE RI RL_ RO RS_ AW_
namespace LBoundSound
theorem ti3 : TI Try.prog 3 (.int .i64 0) 1 8 := TI.mk (by kernel_rfl)
theorem ti22 : TI Try.prog 22 (.slice none 0 0) 1 24 := TI.mk (by kernel_rfl)
theorem ti23 : TI Try.prog 23 (.slice none 0 0) 1 24 := TI.mk (by kernel_rfl)
theorem ti25 : TI Try.prog 25 (.agg #[.slice none 0 0, .slice none 0 0]) 2 48 := TI.mk (by kernel_rfl)
theorem ti29 : TI Try.prog 29 (.agg #[.int .i64 0, .int .i64 0]) 2 16 := TI.mk (by kernel_rfl)
theorem ti49 : TI Try.prog 49 (.agg #[.int .i64 0, .int .i64 0]) 2 16 := TI.mk (by kernel_rfl)
theorem has9 : Has Try.prog 9 := ⟨_, Try.func9, rfl, by kernel_rfl⟩
theorem has10 : Has Try.prog 10 := ⟨_, Try.func10, rfl, by kernel_rfl⟩
theorem has11 : Has Try.prog 11 := ⟨_, Try.func11, rfl, by kernel_rfl⟩
theorem has13 : Has Try.prog 13 := ⟨_, Try.func13, rfl, by kernel_rfl⟩
theorem has17 : Has Try.prog 17 := ⟨_, Try.func17, rfl, by kernel_rfl⟩
theorem has18 : Has Try.prog 18 := ⟨_, Try.func18, rfl, by kernel_rfl⟩
theorem has19 : Has Try.prog 19 := ⟨_, Try.func19, rfl, by kernel_rfl⟩
theorem has20 : Has Try.prog 20 := ⟨_, Try.func20, rfl, by kernel_rfl⟩
theorem BoundSound_any (A_d : Option Addr) (n_d c_d : Nat) (d : List Ck.Dom) (A_l : Option Addr) (n_l c_l : Nat) (l : List Ck.Snap) (A_p : Option Addr) (n_p c_p : Nat) (p : List Bd.Key) (A_ts : Option Addr) (n_ts c_ts : Nat) (ts : List Int) (w : World) (h_p : Ls w A_p n_p c_p Bd.kc 2 p) (h_ts : Ls w A_ts n_ts c_ts Ck.ic 1 ts) (h_d : Ls w A_d n_d c_d Ck.Dom.c 2 d) (h_l : Ls w A_l n_l c_l Ck.Snap.c 5 l) :
    Calls Try.prog 7 #[.agg #[.slice A_d n_d c_d, .slice A_l n_l c_l], .slice A_p n_p c_p, .slice A_ts n_ts c_ts] w fun e w' => e = .returned (.bool true) ∧ Ext w w' := by
  have xW := Ext.refl w
  have e_p := h_p.len
  have z_p := h_p.nle
  have e_ts := h_ts.len
  have z_ts := h_ts.nle
  have e_d := h_d.len
  have z_d := h_d.nle
  have e_l := h_l.len
  have z_l := h_l.nle
  refine calls_of_WC (args := [.agg #[.slice A_d n_d c_d, .slice A_l n_l c_l], .slice A_p n_p c_p, .slice A_ts n_ts c_ts]) Try.func7 rfl rfl (ble rfl) ?_
  refine WC.seq (fun K1 k1 => ?_)
  refine WC.region rfl ?_
  refine WL.box rfl (blt rfl) rfl rfl rfl rfl ?_
  intro g2 w3 e4 x5 m6
  have o_g2 := own_new xW e4
  have xW := Ext.trans xW x5
  refine WL.yld rfl (blt rfl) rfl (Y.assign rfl rfl) ?_
  refine WL.nil ?_
  refine WK.then_normal (k1 _ _ ?_)
  refine WC.sub [(1, _), (2, _), (3, _)] ⟨rfl, rfl, rfl, trivial⟩ ?_
  refine WC.seq (fun K7 k7 => ?_)
  refine WC.seq (fun K8 k8 => ?_)
  refine WC.region rfl ?_
  refine WL.yld rfl (blt rfl) rfl (Y.loadS rfl Try.underlying25 rfl ti25 rfl (Blk.row_eq m6)) ?_
  refine WL.call rfl (blt rfl) rfl rfl rfl has9 rfl (small_any _ _ _ d _ _ _ l _) ?_
  rintro _ w9 ⟨rfl, x10⟩
  refine ⟨_, rfl, ?_⟩
  have m6 := m6.ext x10
  have xW := Ext.trans xW x10
  refine WL.yld rfl (blt rfl) rfl (Y.not rfl rfl) ?_
  refine WL.yld rfl (blt rfl) rfl (Y.move rfl rfl) ?_
  refine WL.yldG rfl (blt rfl) rfl rfl rfl (fun hb => Y.move rfl rfl) ?_
  refine WL.yldG rfl (blt rfl) rfl rfl rfl (fun hb => Y.lenSl rfl rfl rfl Try.underlying45 (evs_cons (evg rfl hb) evs_nil)) ?_
  refine WL.yldG rfl (blt rfl) rfl rfl rfl (fun hb => Y.gtr rfl (evg rfl hb) rfl) ?_
  refine WL.yld rfl (blt rfl) rfl (Y.or rfl rfl rfl rfl) ?_
  refine WL.yld rfl (blt rfl) rfl (Y.move rfl rfl) ?_
  refine WL.yldG rfl (blt rfl) rfl rfl rfl (fun hb => Y.fieldAddr rfl Try.underlying25 rfl ti22 (by decide) rfl) ?_
  refine WL.yldG rfl (blt rfl) rfl rfl rfl (fun hb => Y.load1 rfl Try.underlying22 rfl (evg rfl hb) (Blk.at_eq m6 rfl)) ?_
  refine WL.yldG rfl (blt rfl) rfl rfl rfl (fun hb => Y.fieldAddr rfl Try.underlying25 rfl ti23 (by decide) rfl) ?_
  refine WL.yldG rfl (blt rfl) rfl rfl rfl (fun hb => Y.load1 rfl Try.underlying23 rfl (evg rfl hb) (Blk.at_eq m6 rfl)) ?_
  refine WL.callG rfl (blt rfl) rfl rfl rfl rfl rfl has17 (fun hb => (evs_cons (evg rfl hb) (evs_cons (evg rfl hb) evs_nil))) (fun hb => check_any _ _ _ _ _ _ _ _ _ (h_d.ext xW) (h_l.ext xW)) (fun w11 x12 => ?_)
  have m6 := m6.ext x12
  have xW := Ext.trans xW x12
  refine WL.yldG rfl (blt rfl) rfl rfl rfl (fun hb => Y.neq rfl (evg rfl hb) rfl) ?_
  refine WL.yld rfl (blt rfl) rfl (Y.or rfl rfl rfl rfl) ?_
  refine WL.yld rfl (blt rfl) rfl (Y.move rfl rfl) ?_
  refine WL.split (t := 27) rfl (fun h13 => ?_) (fun h13 => ?_)
  ·
    have p13 := ((or_t h13).imp (fun h => ((or_t h).imp (fun h => ((and_f (not_t h)).imp (fun h => (dec_f h)) (fun h => (dec_f h)))) (fun h => (dec_t h)))) (fun h => (eq_f (not_t h))))
    refine WL.skip rfl (blt rfl) rfl rfl rfl rfl ?_
    refine WL.skip rfl (blt rfl) rfl rfl rfl rfl ?_
    refine WL.skip rfl (blt rfl) rfl rfl rfl rfl ?_
    refine WL.skip rfl (blt rfl) rfl rfl rfl rfl ?_
    refine WL.skip rfl (blt rfl) rfl rfl rfl rfl ?_
    refine WL.skip rfl (blt rfl) rfl rfl rfl rfl ?_
    refine WL.skip rfl (blt rfl) rfl rfl rfl rfl ?_
    refine WL.skip rfl (blt rfl) rfl rfl rfl rfl ?_
    refine WL.yld rfl (blt rfl) rfl (Y.pickT rfl rfl rfl) ?_
    refine WL.nil ?_
    refine WK.then_normal (k8 _ _ ?_)
    refine WC.sub [(1, _), (2, _), (3, _), (36, _)] ⟨rfl, rfl, rfl, rfl, trivial⟩ ?_
    refine WC.condT rfl ?_
    refine WC.seq (fun K14 k14 => ?_)
    refine WC.region rfl ?_
    refine WL.call rfl (blt rfl) rfl rfl rfl has10 rfl (awake_any _ ) ?_
    rintro _ w15 ⟨rfl, x16⟩
    refine ⟨_, rfl, ?_⟩
    have m6 := m6.ext x16
    have xW := Ext.trans xW x16
    refine WL.yld rfl (blt rfl) rfl (Y.assign rfl rfl) ?_
    refine WL.nil ?_
    refine WK.then_normal (k14 _ _ ?_)
    refine WC.sub [(6, _)] ⟨rfl, trivial⟩ ?_
    refine WC.ret ?_
    refine WK.then_ret ?_
    clear k1 k7 k8 k14
    refine WK.ret [_] rfl ⟨rfl, trivial⟩ ?_
    exact ⟨ret1 (vb rfl), xW⟩
  ·
    have p13 := (And.intro (And.intro (And.intro (dec_t (and_t (not_f (or_f (or_f h13).1).1)).1) (dec_t (and_t (not_f (or_f (or_f h13).1).1)).2)) (dec_f (or_f (or_f h13).1).2)) (eq_t (not_f (or_f h13).2)))
    refine WL.yldW rfl (blt rfl) rfl rfl rfl (Y.fieldAddr rfl Try.underlying25 rfl ti22 (by decide) rfl) ?_
    refine WL.yldW rfl (blt rfl) rfl rfl rfl (Y.load1 rfl Try.underlying22 rfl rfl (Blk.at_eq m6 rfl)) ?_
    refine WL.yldW rfl (blt rfl) rfl rfl rfl (Y.fieldAddr rfl Try.underlying25 rfl ti23 (by decide) rfl) ?_
    refine WL.yldW rfl (blt rfl) rfl rfl rfl (Y.load1 rfl Try.underlying23 rfl rfl (Blk.at_eq m6 rfl)) ?_
    refine WL.yldW rfl (blt rfl) rfl rfl rfl (Y.move rfl rfl) ?_
    refine WL.yldW rfl (blt rfl) rfl rfl rfl (Y.move rfl rfl) ?_
    refine WL.callW rfl (blt rfl) rfl rfl rfl rfl rfl has18 rfl (sat_any _ _ _ _ _ _ _ _ _ _ _ _ _ _ _ _ _ (h_d.ext xW) (h_l.ext xW) (h_p.ext xW) (h_ts.ext xW) (Bd.or_ck h13) (by omega) (by omega)) ?_
    rintro _ w17 ⟨b19, rfl, hs20, x18⟩
    refine ⟨_, rfl, ?_⟩
    have m6 := m6.ext x18
    have xW := Ext.trans xW x18
    refine WL.yldW rfl (blt rfl) rfl rfl rfl (Y.not rfl rfl) ?_
    refine WL.yld rfl (blt rfl) rfl (Y.pickF rfl rfl rfl) ?_
    refine WL.nil ?_
    refine WK.then_normal (k8 _ _ ?_)
    refine WC.sub [(1, _), (2, _), (3, _), (36, _)] ⟨rfl, rfl, rfl, rfl, trivial⟩ ?_
    refine WC.cond rfl (fun h21 => ?_) (fun h21 => ?_)
    ·
      refine WC.seq (fun K22 k22 => ?_)
      refine WC.region rfl ?_
      refine WL.call rfl (blt rfl) rfl rfl rfl has10 rfl (awake_any _ ) ?_
      rintro _ w23 ⟨rfl, x24⟩
      refine ⟨_, rfl, ?_⟩
      have m6 := m6.ext x24
      have xW := Ext.trans xW x24
      refine WL.yld rfl (blt rfl) rfl (Y.assign rfl rfl) ?_
      refine WL.nil ?_
      refine WK.then_normal (k22 _ _ ?_)
      refine WC.sub [(6, _)] ⟨rfl, trivial⟩ ?_
      refine WC.ret ?_
      refine WK.then_ret ?_
      clear k1 k7 k8 k22
      refine WK.ret [_] rfl ⟨rfl, trivial⟩ ?_
      exact ⟨ret1 (vb rfl), xW⟩
    ·
      have sp := hs20 (by simpa using h21)
      refine WC.skip ?_
      refine WK.then_normal (k7 _ _ ?_)
      refine WC.sub [(1, _), (2, _), (3, _)] ⟨rfl, rfl, rfl, trivial⟩ ?_
      refine WC.seq (fun K25 k25 => ?_)
      refine WC.seq (fun K26 k26 => ?_)
      refine WC.region rfl ?_
      refine WL.yld rfl (blt rfl) rfl (Y.fieldAddr rfl Try.underlying25 rfl ti22 (by decide) rfl) ?_
      refine WL.yld rfl (blt rfl) rfl (Y.load1 rfl Try.underlying22 rfl rfl (Blk.at_eq m6 rfl)) ?_
      refine WL.yld rfl (blt rfl) rfl (Y.fieldAddr rfl Try.underlying25 rfl ti23 (by decide) rfl) ?_
      refine WL.yld rfl (blt rfl) rfl (Y.load1 rfl Try.underlying23 rfl rfl (Blk.at_eq m6 rfl)) ?_
      refine WL.call rfl (blt rfl) rfl rfl rfl has13 rfl (consistentP_any _ _ _ _ _ _ _ _ _ (h_d.ext xW) (h_l.ext xW) (by omega)) ?_
      rintro _ w27 ⟨rfl, x28⟩
      refine ⟨_, rfl, ?_⟩
      have m6 := m6.ext x28
      have xW := Ext.trans xW x28
      refine WL.yld rfl (blt rfl) rfl (Y.not rfl rfl) ?_
      refine WL.nil ?_
      refine WK.then_normal (k26 _ _ ?_)
      refine WC.sub [(1, _), (2, _), (3, _), (43, _)] ⟨rfl, rfl, rfl, rfl, trivial⟩ ?_
      refine WC.cond rfl (fun h29 => ?_) (fun h29 => ?_)
      ·
        clear k1 k7 k8 k25 k26
        rw [(Bd.sound (by omega) sp).1] at h29
        cases h29
      ·
        refine WC.skip ?_
        refine WK.then_normal (k25 _ _ ?_)
        refine WC.sub [(1, _), (2, _), (3, _)] ⟨rfl, rfl, rfl, trivial⟩ ?_
        refine WC.seq (fun K30 k30 => ?_)
        refine WC.seq (fun K31 k31 => ?_)
        refine WC.region rfl ?_
        refine WL.yld rfl (blt rfl) rfl (Y.assign rfl rfl) ?_
        refine WL.nil ?_
        refine WK.then_normal (k31 _ _ ?_)
        refine WC.block ?_
        refine WC.sub [(7, _), (1, _), (2, _), (3, _)] ⟨rfl, rfl, rfl, rfl, trivial⟩ ?_
        refine WC.loopS 1 (fun mz Ed W' => ∃ i : Nat, mz = n_p - i ∧ Ed = [(7, .int .i64 ((i : Nat) : Int))] ∧ Ext w W' ∧ Blk W' g2 25 _ ∧ (1 ≤ i ∧ (i ≤ n_p ∨ i = 1))) _ ⟨1, rfl, rfl, xW, m6, (by omega)⟩ ?_
        rintro _ _ w32 ⟨i, rfl, rfl, xW, m6, le_i⟩
        refine WC.sub [(7, _), (1, _), (2, _), (3, _)] ⟨rfl, rfl, rfl, rfl, trivial⟩ ?_
        refine WC.seq (fun K33 k33 => ?_)
        refine WC.seq (fun K34 k34 => ?_)
        refine WC.region rfl ?_
        refine WL.yld rfl (blt rfl) rfl (Y.move rfl rfl) ?_
        refine WL.yld rfl (blt rfl) rfl (Y.move rfl rfl) ?_
        refine WL.yld rfl (blt rfl) rfl (Y.lenSl rfl rfl rfl Try.underlying45 rfl) ?_
        refine WL.yld rfl (blt rfl) rfl (Y.lss rfl rfl rfl) ?_
        refine WL.yld rfl (blt rfl) rfl (Y.move rfl rfl) ?_
        refine WL.yldG rfl (blt rfl) rfl rfl rfl (fun hb => Y.move rfl rfl) ?_
        refine WL.yldG rfl (blt rfl) rfl rfl rfl (fun hb => Y.move rfl rfl) ?_
        refine WL.yldG rfl (blt rfl) rfl rfl rfl (fun hb => Y.lenSl rfl rfl rfl Try.underlying35 (evs_cons (evg rfl hb) evs_nil)) ?_
        refine WL.yldG rfl (blt rfl) rfl rfl rfl (fun hb => Y.lss rfl (evg rfl hb) (evg rfl hb)) ?_
        refine WL.yld rfl (blt rfl) rfl (Y.and rfl rfl rfl rfl) ?_
        refine WL.nil ?_
        refine WK.then_normal (k34 _ _ ?_)
        refine WC.sub [(1, _), (2, _), (3, _), (7, _), (53, _)] ⟨rfl, rfl, rfl, rfl, rfl, trivial⟩ ?_
        refine WC.cond rfl (fun h35 => ?_) (fun h35 => ?_)
        ·
          have p35 := (And.intro (dec_t (and_t h35).1) (dec_t (and_t h35).2))
          have hil : i < n_p ∧ i < n_ts := by have q := h35; simp only [Bool.and_eq_true, decide_eq_true_eq] at q; omega
          refine WC.skip ?_
          refine WK.then_normal (k33 _ _ ?_)
          refine WC.sub [(1, _), (2, _), (3, _), (7, _)] ⟨rfl, rfl, rfl, rfl, trivial⟩ ?_
          refine WC.seq (fun K36 k36 => ?_)
          refine WC.block ?_
          refine WC.seq (fun K37 k37 => ?_)
          refine WC.regionX (fun W' => Ext w W' ∧ Blk W' g2 25 _) (.load 0 (.load 1 (.load 2 (.load 3 (.load 4 (.load 5 (.load 6 (.load 7 (.load 8 (.load 9 (.load 10 (.load 11 (.load 12 (.load 13 (.alt 14 (.load 15 (.load 16 (.load 17 (.alt 18 (.alt 19 (.load 20 (.fin)) (.none)) (.none))))) (.alt 18 (.alt 14 (.load 15 (.load 16 (.load 17 (.alt 19 (.load 20 (.fin)) (.none))))) (.none)) (.none))))))))))))))))) ⟨xW, m6⟩ (by kernel_rfl) (by kernel_rfl) (fun w38 x39 => ?_)
          have m6 := m6.ext x39
          have xW := Ext.trans xW x39
          refine WX.yld rfl rfl (blt rfl) rfl (Y.fieldAddr rfl Try.underlying25 rfl ti22 (by decide) rfl) ?_
          refine WX.yld rfl rfl (blt rfl) rfl (Y.load1 rfl Try.underlying22 rfl rfl (Blk.at_c (fun _ h => h.2) rfl)) ?_
          refine WX.yld rfl rfl (blt rfl) rfl (Y.fieldAddr rfl Try.underlying25 rfl ti23 (by decide) rfl) ?_
          refine WX.yld rfl rfl (blt rfl) rfl (Y.load1 rfl Try.underlying23 rfl rfl (Blk.at_c (fun _ h => h.2) rfl)) ?_
          refine WX.yld rfl rfl (blt rfl) rfl (Y.move rfl rfl) ?_
          refine WX.yld rfl rfl (blt rfl) rfl (Y.move rfl rfl) ?_
          have b40 : i < n_p := by omega
          refine WX.yld rfl rfl (blt rfl) rfl (Y.indexLs i (h_p.ext xW) rfl Try.underlying45 ti49 rfl rfl rfl b40) ?_
          refine WX.yld rfl rfl (blt rfl) rfl (Y.fieldE rfl Try.underlying49 rfl ti3 (by decide) rfl) ?_
          refine WX.yld rfl rfl (blt rfl) rfl (Y.load1 rfl Try.underlying3 rfl rfl (Ls.at_c (fun _ h => (h_p.ext (h.1))) b40 rfl)) ?_
          refine WX.yld rfl rfl (blt rfl) rfl (Y.move rfl rfl) ?_
          refine WX.yld rfl rfl (blt rfl) rfl (Y.move rfl rfl) ?_
          have b41 : i < n_p := by omega
          refine WX.yld rfl rfl (blt rfl) rfl (Y.indexLs i (h_p.ext xW) rfl Try.underlying45 ti49 rfl rfl rfl b41) ?_
          refine WX.yld rfl rfl (blt rfl) rfl (Y.fieldE rfl Try.underlying49 rfl ti3 (by decide) rfl) ?_
          refine WX.yld rfl rfl (blt rfl) rfl (Y.load1 rfl Try.underlying3 rfl rfl (Ls.at_c (fun _ h => (h_p.ext (h.1))) b41 rfl)) ?_
          refine WX.alt ?_ ?_
          ·
            refine WX.call rfl rfl (blt rfl) rfl rfl rfl has11 rfl ⟨xW, m6⟩ (of_any _ _ _ _ _ _ _ _ _ _ _ (h_d.ext xW) (h_l.ext xW) (by omega)) ?_
            rintro _ w42 ⟨rfl, x43⟩
            refine ⟨_, rfl, ?_⟩
            have m6 := m6.ext x43
            have xW := Ext.trans xW x43
            refine WX.yld rfl rfl (blt rfl) rfl (Y.move rfl rfl) ?_
            refine WX.yld rfl rfl (blt rfl) rfl (Y.extract rfl rfl rfl) ?_
            refine WX.yld rfl rfl (blt rfl) rfl (Y.extract rfl rfl rfl) ?_
            refine WX.run rfl rfl (blt rfl) rfl ⟨xW, m6⟩ (Run.alloc rfl ti29 rfl) ?_
            rintro _ w45 ⟨g44, rfl, e46, x47, m48⟩
            have n_g2_g44 := ne_new m6 e46
            have o_g44 := own_new xW e46
            have m6 := m6.ext x47
            have xW := Ext.trans xW x47
            refine WX.storeB (cs' := [_, _]) rfl ⟨xW, m6⟩ rfl rfl rfl rfl rfl rfl ti29 m48 (ble rfl) rfl rfl (fun w49 on50 m51 => ?_)
            have m6 := m6.only n_g2_g44 on50
            have xW := Ext.only xW on50 o_g44
            refine WX.yld rfl rfl (blt rfl) rfl (Y.assign rfl rfl) ?_
            refine WX.nil ⟨xW, m6⟩ ?_
            refine WK.then_normal (k37 _ _ ?_)
            refine WC.sub [(1, _), (2, _), (3, _), (7, _), (8, _), (9, _)] ⟨rfl, rfl, rfl, rfl, rfl, rfl, trivial⟩ ?_
            refine WC.seq (fun K52 k52 => ?_)
            refine WC.regionDq (by kernel_rfl) (by kernel_rfl) rfl ?_
            refine WQ.yld rfl (blt rfl) rfl (Y.fieldAddr rfl Try.underlying25 rfl ti22 (by decide) rfl) ?_
            refine WQ.yld rfl (blt rfl) rfl (Y.load1 rfl Try.underlying22 rfl rfl (Blk.at_ext m6 rfl)) ?_
            refine WQ.yld rfl (blt rfl) rfl (Y.fieldAddr rfl Try.underlying25 rfl ti23 (by decide) rfl) ?_
            refine WQ.yld rfl (blt rfl) rfl (Y.load1 rfl Try.underlying23 rfl rfl (Blk.at_ext m6 rfl)) ?_
            refine WQ.yld rfl (blt rfl) rfl (Y.move rfl rfl) ?_
            refine WQ.yld rfl (blt rfl) rfl (Y.move rfl rfl) ?_
            have b53 : i < n_p := by omega
            refine WQ.yld rfl (blt rfl) rfl (Y.indexLs i (h_p.ext xW) rfl Try.underlying45 ti49 rfl rfl rfl b53) ?_
            refine WQ.yld rfl (blt rfl) rfl (Y.fieldE rfl Try.underlying49 rfl ti3 (by decide) rfl) ?_
            refine WQ.yld rfl (blt rfl) rfl (Y.load1 rfl Try.underlying3 rfl rfl (Ls.at_ext (h_p.ext xW) b53 rfl)) ?_
            refine WQ.call rfl (blt rfl) rfl rfl rfl has19 rfl (fun w hw => calls_ext hw (linked_any _ _ _ _ _ _ _ _ _ _ (Ls.ext (h_d.ext xW) hw) (Ls.ext (h_l.ext xW) hw) (by omega))) ?_
            refine WQ.yld rfl (blt rfl) rfl (Y.assign rfl rfl) ?_
            refine WQ.done (fun w54 x55 => ?_)
            have m6 := m6.ext x55
            have m51 := m51.ext x55
            have xW := Ext.trans xW x55
            refine WK.then_normal (k52 _ _ ?_)
            refine WC.sub [(1, _), (2, _), (3, _), (7, _), (8, _), (9, _), (10, _)] ⟨rfl, rfl, rfl, rfl, rfl, rfl, rfl, trivial⟩ ?_
            refine WC.seq (fun K56 k56 => ?_)
            refine WC.regionDq (by kernel_rfl) (by kernel_rfl) rfl ?_
            refine WQ.yld rfl (blt rfl) rfl (Y.move rfl rfl) ?_
            refine WQ.yld rfl (blt rfl) rfl (Y.move rfl rfl) ?_
            refine WQ.yld rfl (blt rfl) rfl (Y.eql rfl rfl rfl) ?_
            refine WQ.yld rfl (blt rfl) rfl (Y.neqB rfl Try.underlying4 rfl rfl) ?_
            refine WQ.yld rfl (blt rfl) rfl (Y.move rfl rfl) ?_
            refine WQ.yldG rfl (blt rfl) rfl rfl rfl (fun hb => Y.move rfl rfl) ?_
            refine WQ.yldG rfl (blt rfl) rfl rfl rfl (fun hb => Y.move rfl (evg rfl hb)) ?_
            refine WQ.yldGs [(_, _)] rfl (blt rfl) rfl rfl rfl (fun hb => Y.loadS rfl Try.underlying29 rfl ti29 rfl (Blk.row_ext m51)) ?_
            refine WQ.yldGs [(_, _)] rfl (blt rfl) rfl rfl rfl (fun hb => Y.move rfl rfl) ?_
            refine WQ.yldGs [(_, _)] rfl (blt rfl) rfl rfl rfl (fun hb => Y.move rfl rfl) ?_
            refine WQ.yldGs [(_, _)] rfl (blt rfl) rfl rfl rfl (fun hb => Y.indexLs i (h_ts.ext xW) rfl Try.underlying35 ti3 (evg (evg rfl hb.1) hb.2.1) (evg (evg rfl hb.1) hb.2.1) rfl (by omega)) ?_
            refine WQ.yldGs [(_, _)] rfl (blt rfl) rfl rfl rfl (fun hb => Y.load1 rfl Try.underlying3 rfl (evg (evg rfl hb.1) hb.2.1) (Ls.at_ext (h_ts.ext xW) (by omega) rfl)) ?_
            refine WQ.callGs [(_, _)] rfl (blt rfl) rfl rfl rfl rfl rfl has20 (fun hb => (evs_cons (evg (evg rfl hb.1) hb.2.1) (evs_cons (evg (evg rfl hb.1) hb.2.1) evs_nil))) (fun hb w hw => calls_ext hw (within_any _ _ _ _)) ?_
            refine WQ.yldGs [(_, _)] rfl (blt rfl) rfl rfl rfl (fun hb => Y.not rfl (evg (evg rfl hb.1) hb.2.1)) ?_
            refine WQ.yldG rfl (blt rfl) rfl rfl rfl (fun hb => Y.and rfl (evg rfl hb) (evg rfl hb) rfl) ?_
            refine WQ.yld rfl (blt rfl) rfl (Y.or rfl rfl rfl rfl) ?_
            refine WQ.done (fun w57 x58 => ?_)
            have m6 := m6.ext x58
            have m51 := m51.ext x58
            have xW := Ext.trans xW x58
            refine WK.then_normal (k56 _ _ ?_)
            refine WC.sub [(1, _), (2, _), (3, _), (7, _), (99, _)] ⟨rfl, rfl, rfl, rfl, rfl, trivial⟩ ?_
            refine WC.cond rfl (fun h59 => ?_) (fun h59 => ?_)
            ·
              clear k1 k7 k8 k25 k26 k30 k31 k33 k34 k36 k37 k52 k56
              exact (Bd.sound_dead (by omega) sp (by omega) (by omega) h59).elim
            ·
              refine WC.skip ?_
              refine WK.in_normal ?_
              refine WK.then_normal (k36 _ _ ?_)
              refine WC.sub [(1, _), (2, _), (3, _), (7, _)] ⟨rfl, rfl, rfl, rfl, trivial⟩ ?_
              refine WC.region rfl ?_
              refine WL.yld rfl (blt rfl) rfl (Y.move rfl rfl) ?_
              refine WL.yld rfl (blt rfl) rfl (Y.add rfl rfl rfl (wrap_i64 (by first | omega | (dsimp only; omega)))) ?_
              refine WL.yld rfl (blt rfl) rfl (Y.assign rfl rfl) ?_
              refine WL.nil ?_
              refine WK.roundS _ [(7, .int .i64 (((i + 1) : Nat) : Int))] ⟨rfl, rfl, rfl, rfl, trivial⟩ ?_ ⟨(i + 1), rfl, rfl, xW, m6, (by omega)⟩
              show _ - (i + 1) < _ - i; omega
          refine WX.run rfl rfl (blt rfl) rfl ⟨xW, m6⟩ (Run.alloc rfl ti29 rfl) ?_
          rintro _ w61 ⟨g60, rfl, e62, x63, m64⟩
          have n_g2_g60 := ne_new m6 e62
          have o_g60 := own_new xW e62
          have m6 := m6.ext x63
          have xW := Ext.trans xW x63
          refine WX.call rfl rfl (blt rfl) rfl rfl rfl has11 rfl ⟨xW, m6⟩ (of_any _ _ _ _ _ _ _ _ _ _ _ (h_d.ext xW) (h_l.ext xW) (by omega)) ?_
          rintro _ w65 ⟨rfl, x66⟩
          refine ⟨_, rfl, ?_⟩
          have m6 := m6.ext x66
          have m64 := m64.ext x66
          have xW := Ext.trans xW x66
          refine WX.yld rfl rfl (blt rfl) rfl (Y.move rfl rfl) ?_
          refine WX.yld rfl rfl (blt rfl) rfl (Y.extract rfl rfl rfl) ?_
          refine WX.yld rfl rfl (blt rfl) rfl (Y.extract rfl rfl rfl) ?_
          refine WX.storeB (cs' := [_, _]) rfl ⟨xW, m6⟩ rfl rfl rfl rfl rfl rfl ti29 m64 (ble rfl) rfl rfl (fun w67 on68 m69 => ?_)
          have m6 := m6.only n_g2_g60 on68
          have xW := Ext.only xW on68 o_g60
          refine WX.yld rfl rfl (blt rfl) rfl (Y.assign rfl rfl) ?_
          refine WX.nil ⟨xW, m6⟩ ?_
          refine WK.then_normal (k37 _ _ ?_)
          refine WC.sub [(1, _), (2, _), (3, _), (7, _), (8, _), (9, _)] ⟨rfl, rfl, rfl, rfl, rfl, rfl, trivial⟩ ?_
          refine WC.seq (fun K70 k70 => ?_)
          refine WC.regionDq (by kernel_rfl) (by kernel_rfl) rfl ?_
          refine WQ.yld rfl (blt rfl) rfl (Y.fieldAddr rfl Try.underlying25 rfl ti22 (by decide) rfl) ?_
          refine WQ.yld rfl (blt rfl) rfl (Y.load1 rfl Try.underlying22 rfl rfl (Blk.at_ext m6 rfl)) ?_
          refine WQ.yld rfl (blt rfl) rfl (Y.fieldAddr rfl Try.underlying25 rfl ti23 (by decide) rfl) ?_
          refine WQ.yld rfl (blt rfl) rfl (Y.load1 rfl Try.underlying23 rfl rfl (Blk.at_ext m6 rfl)) ?_
          refine WQ.yld rfl (blt rfl) rfl (Y.move rfl rfl) ?_
          refine WQ.yld rfl (blt rfl) rfl (Y.move rfl rfl) ?_
          have b71 : i < n_p := by omega
          refine WQ.yld rfl (blt rfl) rfl (Y.indexLs i (h_p.ext xW) rfl Try.underlying45 ti49 rfl rfl rfl b71) ?_
          refine WQ.yld rfl (blt rfl) rfl (Y.fieldE rfl Try.underlying49 rfl ti3 (by decide) rfl) ?_
          refine WQ.yld rfl (blt rfl) rfl (Y.load1 rfl Try.underlying3 rfl rfl (Ls.at_ext (h_p.ext xW) b71 rfl)) ?_
          refine WQ.call rfl (blt rfl) rfl rfl rfl has19 rfl (fun w hw => calls_ext hw (linked_any _ _ _ _ _ _ _ _ _ _ (Ls.ext (h_d.ext xW) hw) (Ls.ext (h_l.ext xW) hw) (by omega))) ?_
          refine WQ.yld rfl (blt rfl) rfl (Y.assign rfl rfl) ?_
          refine WQ.done (fun w72 x73 => ?_)
          have m6 := m6.ext x73
          have m69 := m69.ext x73
          have xW := Ext.trans xW x73
          refine WK.then_normal (k70 _ _ ?_)
          refine WC.sub [(1, _), (2, _), (3, _), (7, _), (8, _), (9, _), (10, _)] ⟨rfl, rfl, rfl, rfl, rfl, rfl, rfl, trivial⟩ ?_
          refine WC.seq (fun K74 k74 => ?_)
          refine WC.regionDq (by kernel_rfl) (by kernel_rfl) rfl ?_
          refine WQ.yld rfl (blt rfl) rfl (Y.move rfl rfl) ?_
          refine WQ.yld rfl (blt rfl) rfl (Y.move rfl rfl) ?_
          refine WQ.yld rfl (blt rfl) rfl (Y.eql rfl rfl rfl) ?_
          refine WQ.yld rfl (blt rfl) rfl (Y.neqB rfl Try.underlying4 rfl rfl) ?_
          refine WQ.yld rfl (blt rfl) rfl (Y.move rfl rfl) ?_
          refine WQ.yldG rfl (blt rfl) rfl rfl rfl (fun hb => Y.move rfl rfl) ?_
          refine WQ.yldG rfl (blt rfl) rfl rfl rfl (fun hb => Y.move rfl (evg rfl hb)) ?_
          refine WQ.yldGs [(_, _)] rfl (blt rfl) rfl rfl rfl (fun hb => Y.loadS rfl Try.underlying29 rfl ti29 rfl (Blk.row_ext m69)) ?_
          refine WQ.yldGs [(_, _)] rfl (blt rfl) rfl rfl rfl (fun hb => Y.move rfl rfl) ?_
          refine WQ.yldGs [(_, _)] rfl (blt rfl) rfl rfl rfl (fun hb => Y.move rfl rfl) ?_
          refine WQ.yldGs [(_, _)] rfl (blt rfl) rfl rfl rfl (fun hb => Y.indexLs i (h_ts.ext xW) rfl Try.underlying35 ti3 (evg (evg rfl hb.1) hb.2.1) (evg (evg rfl hb.1) hb.2.1) rfl (by omega)) ?_
          refine WQ.yldGs [(_, _)] rfl (blt rfl) rfl rfl rfl (fun hb => Y.load1 rfl Try.underlying3 rfl (evg (evg rfl hb.1) hb.2.1) (Ls.at_ext (h_ts.ext xW) (by omega) rfl)) ?_
          refine WQ.callGs [(_, _)] rfl (blt rfl) rfl rfl rfl rfl rfl has20 (fun hb => (evs_cons (evg (evg rfl hb.1) hb.2.1) (evs_cons (evg (evg rfl hb.1) hb.2.1) evs_nil))) (fun hb w hw => calls_ext hw (within_any _ _ _ _)) ?_
          refine WQ.yldGs [(_, _)] rfl (blt rfl) rfl rfl rfl (fun hb => Y.not rfl (evg (evg rfl hb.1) hb.2.1)) ?_
          refine WQ.yldG rfl (blt rfl) rfl rfl rfl (fun hb => Y.and rfl (evg rfl hb) (evg rfl hb) rfl) ?_
          refine WQ.yld rfl (blt rfl) rfl (Y.or rfl rfl rfl rfl) ?_
          refine WQ.done (fun w75 x76 => ?_)
          have m6 := m6.ext x76
          have m69 := m69.ext x76
          have xW := Ext.trans xW x76
          refine WK.then_normal (k74 _ _ ?_)
          refine WC.sub [(1, _), (2, _), (3, _), (7, _), (99, _)] ⟨rfl, rfl, rfl, rfl, rfl, trivial⟩ ?_
          refine WC.cond rfl (fun h77 => ?_) (fun h77 => ?_)
          ·
            clear k1 k7 k8 k25 k26 k30 k31 k33 k34 k36 k37 k70 k74
            exact (Bd.sound_dead (by omega) sp (by omega) (by omega) h77).elim
          ·
            refine WC.skip ?_
            refine WK.in_normal ?_
            refine WK.then_normal (k36 _ _ ?_)
            refine WC.sub [(1, _), (2, _), (3, _), (7, _)] ⟨rfl, rfl, rfl, rfl, trivial⟩ ?_
            refine WC.region rfl ?_
            refine WL.yld rfl (blt rfl) rfl (Y.move rfl rfl) ?_
            refine WL.yld rfl (blt rfl) rfl (Y.add rfl rfl rfl (wrap_i64 (by first | omega | (dsimp only; omega)))) ?_
            refine WL.yld rfl (blt rfl) rfl (Y.assign rfl rfl) ?_
            refine WL.nil ?_
            refine WK.roundS _ [(7, .int .i64 (((i + 1) : Nat) : Int))] ⟨rfl, rfl, rfl, rfl, trivial⟩ ?_ ⟨(i + 1), rfl, rfl, xW, m6, (by omega)⟩
            show _ - (i + 1) < _ - i; omega
        ·
          have p35 := ((and_f h35).imp (fun h => (dec_f h)) (fun h => (dec_f h)))
          refine WC.exit ?_
          refine WK.then_exit ?_
          refine WK.then_exit ?_
          refine WK.in_exit ?_
          refine WK.then_normal (k30 _ _ ?_)
          refine WC.sub [] trivial ?_
          refine WC.seq (fun K78 k78 => ?_)
          refine WC.region rfl ?_
          refine WL.call rfl (blt rfl) rfl rfl rfl has10 rfl (awake_any _ ) ?_
          rintro _ w79 ⟨rfl, x80⟩
          refine ⟨_, rfl, ?_⟩
          have xW := Ext.trans xW x80
          refine WL.yld rfl (blt rfl) rfl (Y.assign rfl rfl) ?_
          refine WL.nil ?_
          refine WK.then_normal (k78 _ _ ?_)
          refine WC.sub [(6, _)] ⟨rfl, trivial⟩ ?_
          refine WC.ret ?_
          clear k1 k7 k8 k25 k26 k30 k31 k33 k34 k78
          refine WK.ret [_] rfl ⟨rfl, trivial⟩ ?_
          exact ⟨ret1 (vb rfl), xW⟩
end LBoundSound
end BdW

end Go.Proofs.Ytaglpampidlbmaa
