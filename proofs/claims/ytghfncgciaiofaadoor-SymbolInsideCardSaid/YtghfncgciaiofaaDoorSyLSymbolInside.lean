/- The walk of the law. Conditions: what each theorem states. -/
import Derived.Test.YtghfncgciaiofaaDoorSyAwake
import Derived.Test.YtghfncgciaiofaaDoorSyLaw
namespace Go.Proofs.YtghfncgciaiofaaDoor
open Go Go.Eng Go.RowKit
set_option linter.unusedVariables false
namespace SyW
open R X F Y A
namespace LSymbolInside
theorem ti3 : TI Tryd.prog 3 (.int .i64 0) 1 8 := TI.mk (by kernel_rfl)
theorem ti9 : TI Tryd.prog 9 (.string ⟨#[]⟩) 1 16 := TI.mk (by kernel_rfl)
theorem ti32 : TI Tryd.prog 32 (.slice none 0 0) 1 24 := TI.mk (by kernel_rfl)
theorem ti34 : TI Tryd.prog 34 (.agg #[.string ⟨#[]⟩, .int .i64 0, .int .i64 0, .slice none 0 0]) 4 56 := TI.mk (by kernel_rfl)
theorem ti36 : TI Tryd.prog 36 (.agg #[.int .i64 0, .string ⟨#[]⟩]) 2 24 := TI.mk (by kernel_rfl)
theorem has8 : Has Tryd.prog 8 := ⟨_, Tryd.func8, rfl, by kernel_rfl⟩
theorem has9 : Has Tryd.prog 9 := ⟨_, Tryd.func9, rfl, by kernel_rfl⟩
theorem has10 : Has Tryd.prog 10 := ⟨_, Tryd.func10, rfl, by kernel_rfl⟩
theorem has12 : Has Tryd.prog 12 := ⟨_, Tryd.func12, rfl, by kernel_rfl⟩
theorem SymbolInside_any (A_l : Option Addr) (n_l c_l : Nat) (l : List Sy.M) (n : Int) (w : World) (h_l : Ls w A_l n_l c_l Sy.M.v 4 l) (g_l : Sy.Good w l) (r_n : 0 ≤ n ∧ n ≤ 255) :
    Calls Tryd.prog 5 #[.slice A_l n_l c_l, .int .u8 n] w fun e w' => e = .returned (.bool true) ∧ Ext w w' := by
  have xW := Ext.refl w
  have e_l := h_l.len
  have z_l := h_l.nle
  refine calls_of_WC (args := [.slice A_l n_l c_l, .int .u8 n]) Tryd.func5 rfl rfl (ble rfl) ?_
  refine WC.seq (fun K1 k1 => ?_)
  refine WC.region rfl ?_
  refine WL.yld rfl (blt rfl) rfl (Y.assign rfl rfl) ?_
  refine WL.nil ?_
  refine WK.then_normal (k1 _ _ ?_)
  refine WC.sub [(0, _), (1, _)] ⟨rfl, rfl, trivial⟩ ?_
  refine WC.seq (fun K2 k2 => ?_)
  refine WC.seq (fun K3 k3 => ?_)
  refine WC.region rfl ?_
  refine WL.call rfl (blt rfl) rfl rfl rfl has8 rfl (awake_any _) ?_
  rintro _ w4 ⟨rfl, x5⟩
  refine ⟨_, rfl, ?_⟩
  have xW := Ext.trans xW x5
  refine WL.yld rfl (blt rfl) rfl (Y.not rfl rfl) ?_
  refine WL.yld rfl (blt rfl) rfl (Y.move rfl rfl) ?_
  refine WL.yldW rfl (blt rfl) rfl rfl rfl (Y.move rfl rfl) ?_
  refine WL.callW rfl (blt rfl) rfl rfl rfl rfl rfl has9 rfl (few_any _ _ _ _ _ (h_l.ext xW) (Sy.Good.ext g_l xW)) ?_
  rintro _ w6 ⟨bf8, rfl, hfw, x7⟩
  refine ⟨_, rfl, ?_⟩
  have xW := Ext.trans xW x7
  refine WL.yldW rfl (blt rfl) rfl rfl rfl (Y.not rfl rfl) ?_
  refine WL.yld rfl (blt rfl) rfl (Y.pickF rfl rfl rfl) ?_
  refine WL.yld rfl (blt rfl) rfl (Y.move rfl rfl) ?_
  refine WL.yldG rfl (blt rfl) rfl rfl rfl (fun hb => Y.move rfl rfl) ?_
  refine WL.callG rfl (blt rfl) rfl rfl rfl rfl rfl has12 (fun hb => (evs_cons (evg rfl hb) evs_nil)) (fun hb => check_any _ _ _ _ _ (h_l.ext xW) (Sy.Good.ext g_l xW) (hfw (by simpa using hb))) (fun w9 x10 => ?_)
  have xW := Ext.trans xW x10
  refine WL.yldG rfl (blt rfl) rfl rfl rfl (fun hb => Y.neq rfl (evg rfl hb) rfl) ?_
  refine WL.yld rfl (blt rfl) rfl (Y.or rfl rfl rfl rfl) ?_
  refine WL.nil ?_
  refine WK.then_normal (k3 _ _ ?_)
  refine WC.sub [(0, _), (1, _), (27, _)] ⟨rfl, rfl, rfl, trivial⟩ ?_
  refine WC.cond rfl (fun h11 => ?_) (fun h11 => ?_)
  ·
    have p11 := ((or_t h11).imp (fun h => h) (fun h => (eq_f (not_t h))))
    refine WC.seq (fun K12 k12 => ?_)
    refine WC.region rfl ?_
    refine WL.call rfl (blt rfl) rfl rfl rfl has8 rfl (awake_any _) ?_
    rintro _ w13 ⟨rfl, x14⟩
    refine ⟨_, rfl, ?_⟩
    have xW := Ext.trans xW x14
    refine WL.yld rfl (blt rfl) rfl (Y.assign rfl rfl) ?_
    refine WL.nil ?_
    refine WK.then_normal (k12 _ _ ?_)
    refine WC.sub [(4, _)] ⟨rfl, trivial⟩ ?_
    refine WC.ret ?_
    refine WK.then_ret ?_
    clear k1 k2 k3 k12
    refine WK.ret [_] rfl ⟨rfl, trivial⟩ ?_
    exact ⟨rfl, xW⟩
  ·
    have p11 := (eq_t (not_f (or_f h11).2))
    have hF := hfw (by have q := h11; simp at q; first | exact q | exact q.1)
    have hc0 : Sy.chkE l = 0 := by have q := h11; simp at q; exact q.2
    have hV := Sy.chk_vals hc0
    refine WC.skip ?_
    refine WK.then_normal (k2 _ _ ?_)
    refine WC.sub [(0, _), (1, _)] ⟨rfl, rfl, trivial⟩ ?_
    refine WC.seq (fun K15 k15 => ?_)
    refine WC.seq (fun K16 k16 => ?_)
    refine WC.region rfl ?_
    refine WL.yld rfl (blt rfl) rfl (Y.assign rfl rfl) ?_
    refine WL.nil ?_
    refine WK.then_normal (k16 _ _ ?_)
    refine WC.block ?_
    refine WC.sub [(5, _), (0, _), (1, _)] ⟨rfl, rfl, rfl, trivial⟩ ?_
    refine WC.loopS 1 (fun mz Ed W' => ∃ i : Nat, mz = n_l - i ∧ Ed = [(5, .int .i64 ((i : Nat) : Int))] ∧ Ext w W' ∧ (i ≤ n_l)) _ ⟨0, rfl, rfl, xW, (Nat.zero_le _)⟩ ?_
    rintro _ _ w17 ⟨i, rfl, rfl, xW, le_i⟩
    refine WC.sub [(5, _), (0, _), (1, _)] ⟨rfl, rfl, rfl, trivial⟩ ?_
    refine WC.seq (fun K18 k18 => ?_)
    refine WC.seq (fun K19 k19 => ?_)
    refine WC.region rfl ?_
    refine WL.yld rfl (blt rfl) rfl (Y.move rfl rfl) ?_
    refine WL.yld rfl (blt rfl) rfl (Y.move rfl rfl) ?_
    refine WL.yld rfl (blt rfl) rfl (Y.lenSl rfl rfl rfl Tryd.underlying22 rfl) ?_
    refine WL.yld rfl (blt rfl) rfl (Y.lss rfl rfl rfl) ?_
    refine WL.nil ?_
    refine WK.then_normal (k19 _ _ ?_)
    refine WC.sub [(0, _), (1, _), (5, _), (32, _)] ⟨rfl, rfl, rfl, rfl, trivial⟩ ?_
    refine WC.cond rfl (fun h20 => ?_) (fun h20 => ?_)
    ·
      have p20 := (dec_t h20)
      have va := (hV i (show i < l.length from by omega)).rng
      have mb := hF.m _ (bang_mem (show i < l.length from by omega))
      refine WC.skip ?_
      refine WK.then_normal (k18 _ _ ?_)
      refine WC.sub [(0, _), (1, _), (5, _)] ⟨rfl, rfl, rfl, trivial⟩ ?_
      refine WC.seq (fun K21 k21 => ?_)
      refine WC.block ?_
      refine WC.seq (fun K22 k22 => ?_)
      refine WC.region rfl ?_
      refine WL.yld rfl (blt rfl) rfl (Y.move rfl rfl) ?_
      refine WL.yld rfl (blt rfl) rfl (Y.move rfl rfl) ?_
      have b23 : i < n_l := by omega
      refine WL.yld rfl (blt rfl) rfl (Y.indexLs i (h_l.ext xW) rfl Tryd.underlying22 ti34 rfl rfl rfl b23) ?_
      refine WL.yld rfl (blt rfl) rfl (Y.loadS (cs := [_, _, _, _]) rfl Tryd.underlying34 rfl ti34 rfl (Ls.part_eq (h_l.ext xW) b23 rfl)) ?_
      refine WL.alloc rfl (blt rfl) rfl rfl ti34 rfl ?_
      intro g24 w25 e26 x27 m28
      have o_g24 := own_new xW e26
      have xW := Ext.trans xW x27
      refine WL.store (cs' := [_, _, _, _]) rfl rfl rfl rfl rfl rfl ti34 m28 (ble rfl) rfl rfl (fun w29 on30 m31 => ?_)
      have xW := Ext.only xW on30 o_g24
      refine WL.nil ?_
      refine WK.then_normal (k22 _ _ ?_)
      refine WC.sub [(0, _), (1, _), (5, _), (6, _)] ⟨rfl, rfl, rfl, rfl, trivial⟩ ?_
      refine WC.seq (fun K32 k32 => ?_)
      refine WC.seq (fun K33 k33 => ?_)
      refine WC.region rfl ?_
      refine WL.yld rfl (blt rfl) rfl (Y.assign rfl rfl) ?_
      refine WL.nil ?_
      refine WK.then_normal (k33 _ _ ?_)
      refine WC.block ?_
      refine WC.sub [(7, _), (0, _), (1, _), (5, _), (6, _)] ⟨rfl, rfl, rfl, rfl, rfl, trivial⟩ ?_
      refine WC.loopS 1 (fun mz Ed W' => ∃ k : Nat, mz = l[i]!.n - k ∧ Ed = [(7, .int .i64 ((k : Nat) : Int))] ∧ Ext w W' ∧ Blk W' g24 34 _ ∧ (k ≤ l[i]!.n)) _ ⟨0, rfl, rfl, xW, m31, (Nat.zero_le _)⟩ ?_
      rintro _ _ w34 ⟨k, rfl, rfl, xW, m31, le_k⟩
      refine WC.sub [(7, _), (0, _), (1, _), (5, _), (6, _)] ⟨rfl, rfl, rfl, rfl, rfl, trivial⟩ ?_
      refine WC.seq (fun K35 k35 => ?_)
      refine WC.seq (fun K36 k36 => ?_)
      refine WC.region rfl ?_
      refine WL.yld rfl (blt rfl) rfl (Y.move rfl rfl) ?_
      refine WL.yld rfl (blt rfl) rfl (Y.fieldAddr rfl Tryd.underlying34 rfl ti32 (by decide) rfl) ?_
      refine WL.yld rfl (blt rfl) rfl (Y.load1 rfl Tryd.underlying32 rfl rfl (Blk.at_eq m31 rfl)) ?_
      refine WL.yld rfl (blt rfl) rfl (Y.lenSl rfl rfl rfl Tryd.underlying32 rfl) ?_
      refine WL.yld rfl (blt rfl) rfl (Y.lss rfl rfl rfl) ?_
      refine WL.yld rfl (blt rfl) rfl (Y.move rfl rfl) ?_
      refine WL.yldG rfl (blt rfl) rfl rfl rfl (fun hb => Y.move rfl rfl) ?_
      refine WL.yldG rfl (blt rfl) rfl rfl rfl (fun hb => Y.lss rfl (evg rfl hb) rfl) ?_
      refine WL.yld rfl (blt rfl) rfl (Y.and rfl rfl rfl rfl) ?_
      refine WL.nil ?_
      refine WK.then_normal (k36 _ _ ?_)
      refine WC.sub [(0, _), (1, _), (5, _), (6, _), (7, _), (47, _)] ⟨rfl, rfl, rfl, rfl, rfl, rfl, trivial⟩ ?_
      refine WC.cond rfl (fun h37 => ?_) (fun h37 => ?_)
      ·
        have p37 := (And.intro (dec_t (and_t h37).1) (dec_t (and_t h37).2))
        have hkn : k < l[i]!.n := by have q := h37; simp only [Bool.and_eq_true, decide_eq_true_eq] at q; omega
        have sv := (hV i (show i < l.length from by omega)).sym k (by omega)
        have sr := Sy.sym_rng hV (show i < l.length from by omega) k
        have s1 := Sy.app_size l[i]!.nm ⟨#[58]⟩
        have s2 : (ByteArray.mk #[58]).size = 1 := rfl
        refine WC.skip ?_
        refine WK.then_normal (k35 _ _ ?_)
        refine WC.sub [(0, _), (1, _), (5, _), (6, _), (7, _)] ⟨rfl, rfl, rfl, rfl, rfl, trivial⟩ ?_
        refine WC.seq (fun K38 k38 => ?_)
        refine WC.block ?_
        refine WC.seq (fun K39 k39 => ?_)
        refine WC.region rfl ?_
        refine WL.yld rfl (blt rfl) rfl (Y.fieldAddr rfl Tryd.underlying34 rfl ti3 (by decide) rfl) ?_
        refine WL.yld rfl (blt rfl) rfl (Y.load1 rfl Tryd.underlying3 rfl rfl (Blk.at_eq m31 rfl)) ?_
        refine WL.yld rfl (blt rfl) rfl (Y.assign rfl rfl) ?_
        refine WL.nil ?_
        refine WK.then_normal (k39 _ _ ?_)
        refine WC.sub [(0, _), (1, _), (5, _), (6, _), (7, _), (8, _)] ⟨rfl, rfl, rfl, rfl, rfl, rfl, trivial⟩ ?_
        refine WC.seq (fun K40 k40 => ?_)
        refine WC.seq (fun K41 k41 => ?_)
        refine WC.region rfl ?_
        refine WL.yld rfl (blt rfl) rfl (Y.move rfl rfl) ?_
        refine WL.yld rfl (blt rfl) rfl (Y.add rfl rfl rfl (wrap_i64 (by first | omega | (dsimp only; omega)))) ?_
        refine WL.yld rfl (blt rfl) rfl (Y.fieldAddr rfl Tryd.underlying34 rfl ti32 (by decide) rfl) ?_
        refine WL.yld rfl (blt rfl) rfl (Y.load1 rfl Tryd.underlying32 rfl rfl (Blk.at_eq m31 rfl)) ?_
        refine WL.yld rfl (blt rfl) rfl (Y.lenSl rfl rfl rfl Tryd.underlying32 rfl) ?_
        refine WL.yld rfl (blt rfl) rfl (Y.lss rfl rfl rfl) ?_
        refine WL.nil ?_
        refine WK.then_normal (k41 _ _ ?_)
        refine WC.sub [(0, _), (1, _), (5, _), (6, _), (7, _), (8, _), (57, _)] ⟨rfl, rfl, rfl, rfl, rfl, rfl, rfl, trivial⟩ ?_
        refine WC.cond rfl (fun h42 => ?_) (fun h42 => ?_)
        ·
          have p42 := (dec_t h42)
          have sn := (hV i (show i < l.length from by omega)).sym (k + 1) (by omega)
          have sn2 := sn.2.2.2 (by omega)
          rw [Nat.add_sub_cancel] at sn2
          obtain ⟨f, hf⟩ : ∃ f, min n (l[i]!.l[k + 1]!.o - l[i]!.l[k]!.o - 1) = f := ⟨_, rfl⟩
          have ins := Sy.inside (q := l[i]!.b + l[i]!.l[k]!.o + f) (f := f) hV hc0 (show i < l.length from by omega) (k := k) (by omega) (by omega) (by omega) (fun _ => by omega) rfl
          refine WC.region rfl ?_
          refine WL.yld rfl (blt rfl) rfl (Y.fieldAddr rfl Tryd.underlying34 rfl ti32 (by decide) rfl) ?_
          refine WL.yld rfl (blt rfl) rfl (Y.load1 rfl Tryd.underlying32 rfl rfl (Blk.at_eq m31 rfl)) ?_
          refine WL.yld rfl (blt rfl) rfl (Y.move rfl rfl) ?_
          refine WL.yld rfl (blt rfl) rfl (Y.add rfl rfl rfl (wrap_i64 (by first | omega | (dsimp only; omega)))) ?_
          have b43 : (k + 1) < l[i]!.n := by omega
          refine WL.yld rfl (blt rfl) rfl (Y.indexLs (k + 1) ((g_l _ (bang_mem (show i < l.length from by omega))).ext xW) rfl Tryd.underlying32 ti36 rfl rfl rfl b43) ?_
          refine WL.yld rfl (blt rfl) rfl (Y.fieldE rfl Tryd.underlying36 rfl ti3 (by decide) rfl) ?_
          refine WL.yld rfl (blt rfl) rfl (Y.load1 rfl Tryd.underlying3 rfl rfl (Ls.at_eq ((g_l _ (bang_mem (show i < l.length from by omega))).ext xW) b43 rfl)) ?_
          refine WL.yld rfl (blt rfl) rfl (Y.assign rfl rfl) ?_
          refine WL.nil ?_
          refine WK.then_normal (k40 _ _ ?_)
          refine WC.sub [(0, _), (1, _), (5, _), (6, _), (7, _), (8, _)] ⟨rfl, rfl, rfl, rfl, rfl, rfl, trivial⟩ ?_
          refine WC.seq (fun K44 k44 => ?_)
          refine WC.region rfl ?_
          refine WL.yld rfl (blt rfl) rfl (Y.move rfl rfl) ?_
          refine WL.yld rfl (blt rfl) rfl (Y.convInt rfl Tryd.underlying5 Tryd.underlying3 rfl (wrap_i64 (by omega))) ?_
          refine WL.yld rfl (blt rfl) rfl (Y.move rfl rfl) ?_
          refine WL.yld rfl (blt rfl) rfl (Y.fieldAddr rfl Tryd.underlying34 rfl ti32 (by decide) rfl) ?_
          refine WL.yld rfl (blt rfl) rfl (Y.load1 rfl Tryd.underlying32 rfl rfl (Blk.at_eq m31 rfl)) ?_
          refine WL.yld rfl (blt rfl) rfl (Y.move rfl rfl) ?_
          have b45 : k < l[i]!.n := by omega
          refine WL.yld rfl (blt rfl) rfl (Y.indexLs k ((g_l _ (bang_mem (show i < l.length from by omega))).ext xW) rfl Tryd.underlying32 ti36 rfl rfl rfl b45) ?_
          refine WL.yld rfl (blt rfl) rfl (Y.fieldE rfl Tryd.underlying36 rfl ti3 (by decide) rfl) ?_
          refine WL.yld rfl (blt rfl) rfl (Y.load1 rfl Tryd.underlying3 rfl rfl (Ls.at_eq ((g_l _ (bang_mem (show i < l.length from by omega))).ext xW) b45 rfl)) ?_
          refine WL.yld rfl (blt rfl) rfl (Y.sub rfl rfl rfl (wrap_i64 (by first | omega | (dsimp only; omega)))) ?_
          refine WL.yld rfl (blt rfl) rfl (Y.sub rfl rfl rfl (wrap_i64 (by first | omega | (dsimp only; omega)))) ?_
          refine WL.yld rfl (blt rfl) rfl (Yld.cast (Y.minI rfl rfl rfl rfl) (vi hf)) ?_
          refine WL.yld rfl (blt rfl) rfl (Y.assign rfl rfl) ?_
          refine WL.nil ?_
          refine WK.then_normal (k44 _ _ ?_)
          refine WC.sub [(0, _), (1, _), (5, _), (6, _), (7, _), (9, _)] ⟨rfl, rfl, rfl, rfl, rfl, rfl, trivial⟩ ?_
          refine WC.seq (fun K46 k46 => ?_)
          refine WC.regionDq (by kernel_rfl) (by kernel_rfl) rfl ?_
          refine WQ.yld rfl (blt rfl) rfl (Y.move rfl rfl) ?_
          refine WQ.yld rfl (blt rfl) rfl (Y.fieldAddr rfl Tryd.underlying34 rfl ti3 (by decide) rfl) ?_
          refine WQ.yld rfl (blt rfl) rfl (Y.load1 rfl Tryd.underlying3 rfl rfl (Blk.at_ext m31 rfl)) ?_
          refine WQ.yld rfl (blt rfl) rfl (Y.fieldAddr rfl Tryd.underlying34 rfl ti32 (by decide) rfl) ?_
          refine WQ.yld rfl (blt rfl) rfl (Y.load1 rfl Tryd.underlying32 rfl rfl (Blk.at_ext m31 rfl)) ?_
          refine WQ.yld rfl (blt rfl) rfl (Y.move rfl rfl) ?_
          have b47 : k < l[i]!.n := by omega
          refine WQ.yld rfl (blt rfl) rfl (Y.indexLs k ((g_l _ (bang_mem (show i < l.length from by omega))).ext xW) rfl Tryd.underlying32 ti36 rfl rfl rfl b47) ?_
          refine WQ.yld rfl (blt rfl) rfl (Y.fieldE rfl Tryd.underlying36 rfl ti3 (by decide) rfl) ?_
          refine WQ.yld rfl (blt rfl) rfl (Y.load1 rfl Tryd.underlying3 rfl rfl (Ls.at_ext ((g_l _ (bang_mem (show i < l.length from by omega))).ext xW) b47 rfl)) ?_
          refine WQ.yld rfl (blt rfl) rfl (Y.add rfl rfl rfl (wrap_i64 (by first | omega | (dsimp only; omega)))) ?_
          refine WQ.yld rfl (blt rfl) rfl (Y.move rfl rfl) ?_
          refine WQ.yld rfl (blt rfl) rfl (Y.add rfl rfl rfl (wrap_i64 (by first | omega | (dsimp only; omega)))) ?_
          refine WQ.call rfl (blt rfl) rfl rfl rfl has10 rfl (fun w hw => calls_ext hw (Find_any _ _ _ _ _ _ (Ls.ext (h_l.ext xW) hw) (Sy.Good.ext g_l (Ext.trans xW hw)) hF (by omega))) ?_
          refine WQ.yld rfl (blt rfl) rfl (Y.move rfl rfl) ?_
          refine WQ.yld rfl (blt rfl) rfl (Y.extract rfl rfl rfl) ?_
          refine WQ.yld rfl (blt rfl) rfl (Y.extract rfl rfl rfl) ?_
          refine WQ.yld rfl (blt rfl) rfl (Y.extract rfl rfl rfl) ?_
          refine WQ.yld rfl (blt rfl) rfl (Y.assign rfl rfl) ?_
          refine WQ.yld rfl (blt rfl) rfl (Y.assign rfl rfl) ?_
          refine WQ.yld rfl (blt rfl) rfl (Y.assign rfl rfl) ?_
          refine WQ.done (fun w48 x49 => ?_)
          have m31 := m31.ext x49
          have xW := Ext.trans xW x49
          refine WK.then_normal (k46 _ _ ?_)
          refine WC.sub [(0, _), (1, _), (5, _), (6, _), (7, _), (9, _), (10, _), (11, _), (12, _)] ⟨rfl, rfl, rfl, rfl, rfl, rfl, rfl, rfl, rfl, trivial⟩ ?_
          refine WC.seq (fun K50 k50 => ?_)
          refine WC.regionDq (by kernel_rfl) (by kernel_rfl) rfl ?_
          refine WQ.yld rfl (blt rfl) rfl (Y.move rfl rfl) ?_
          refine WQ.yld rfl (blt rfl) rfl (Y.not rfl rfl) ?_
          refine WQ.yld rfl (blt rfl) rfl (Y.move rfl rfl) ?_
          refine WQ.yldG rfl (blt rfl) rfl rfl rfl (fun hb => Y.move rfl rfl) ?_
          refine WQ.yldG rfl (blt rfl) rfl rfl rfl (fun hb => Y.move rfl rfl) ?_
          refine WQ.yldG rfl (blt rfl) rfl rfl rfl (fun hb => Y.neq rfl (evg rfl hb) (evg rfl hb)) ?_
          refine WQ.yld rfl (blt rfl) rfl (Y.or rfl rfl rfl rfl) ?_
          refine WQ.yld rfl (blt rfl) rfl (Y.move rfl rfl) ?_
          refine WQ.yldG rfl (blt rfl) rfl rfl rfl (fun hb => Y.move rfl rfl) ?_
          refine WQ.yldG rfl (blt rfl) rfl rfl rfl (fun hb => Y.fieldAddr rfl Tryd.underlying34 rfl ti9 (by decide) rfl) ?_
          refine WQ.yldG rfl (blt rfl) rfl rfl rfl (fun hb => Y.load1 rfl Tryd.underlying9 rfl (evg rfl hb) (Blk.at_ext m31 rfl)) ?_
          refine WQ.yldG rfl (blt rfl) rfl rfl rfl (fun hb => Y.addStr rfl (evg rfl hb) rfl (by omega)) ?_
          refine WQ.yldG rfl (blt rfl) rfl rfl rfl (fun hb => Y.fieldAddr rfl Tryd.underlying34 rfl ti32 (by decide) rfl) ?_
          refine WQ.yldG rfl (blt rfl) rfl rfl rfl (fun hb => Y.load1 rfl Tryd.underlying32 rfl (evg rfl hb) (Blk.at_ext m31 rfl)) ?_
          refine WQ.yldG rfl (blt rfl) rfl rfl rfl (fun hb => Y.move rfl rfl) ?_
          refine WQ.yldG rfl (blt rfl) rfl rfl rfl (fun hb => Y.indexLs k ((g_l _ (bang_mem (show i < l.length from by omega))).ext xW) rfl Tryd.underlying32 ti36 (evg rfl hb) (evg rfl hb) rfl (by have q0 := (eq_t (not_f (or_f hb).2)); omega)) ?_
          refine WQ.yldG rfl (blt rfl) rfl rfl rfl (fun hb => Y.fieldE rfl Tryd.underlying36 rfl ti9 (by decide) (evg rfl hb)) ?_
          refine WQ.yldG rfl (blt rfl) rfl rfl rfl (fun hb => Y.load1 rfl Tryd.underlying9 rfl (evg rfl hb) (Ls.at_ext ((g_l _ (bang_mem (show i < l.length from by omega))).ext xW) (by have q0 := (eq_t (not_f (or_f hb).2)); omega) rfl)) ?_
          refine WQ.yldG rfl (blt rfl) rfl rfl rfl (fun hb => Y.addStr rfl (evg rfl hb) (evg rfl hb) (by omega)) ?_
          refine WQ.yldG rfl (blt rfl) rfl rfl rfl (fun hb => Y.neqStr rfl (evg rfl hb) (evg rfl hb)) ?_
          refine WQ.yld rfl (blt rfl) rfl (Y.or rfl rfl rfl rfl) ?_
          refine WQ.done (fun w51 x52 => ?_)
          have m31 := m31.ext x52
          have xW := Ext.trans xW x52
          refine WK.then_normal (k50 _ _ ?_)
          refine WC.sub [(0, _), (1, _), (5, _), (6, _), (7, _), (114, _)] ⟨rfl, rfl, rfl, rfl, rfl, rfl, trivial⟩ ?_
          refine WC.cond rfl (fun h53 => ?_) (fun h53 => ?_)
          ·
            clear k1 k2 k3 k15 k16 k18 k19 k21 k22 k32 k33 k35 k36 k38 k39 k40 k41 k44 k46 k50
            exact False.elim (by have q := h53; rw [ins] at q; simp [beqB_self] at q)
          ·
            have p53 := (eq_t (not_f (or_f (or_f h53).1).2))
            refine WC.skip ?_
            refine WK.in_normal ?_
            refine WK.then_normal (k38 _ _ ?_)
            refine WC.sub [(0, _), (1, _), (5, _), (6, _), (7, _)] ⟨rfl, rfl, rfl, rfl, rfl, trivial⟩ ?_
            refine WC.region rfl ?_
            refine WL.yld rfl (blt rfl) rfl (Y.move rfl rfl) ?_
            refine WL.yld rfl (blt rfl) rfl (Y.add rfl rfl rfl (wrap_i64 (by first | omega | (dsimp only; omega)))) ?_
            refine WL.yld rfl (blt rfl) rfl (Y.assign rfl rfl) ?_
            refine WL.nil ?_
            refine WK.roundS _ [(7, .int .i64 (((k + 1) : Nat) : Int))] ⟨rfl, rfl, rfl, rfl, rfl, trivial⟩ ?_ ⟨(k + 1), rfl, rfl, xW, m31, (by omega)⟩
            show _ - (k + 1) < _ - k; omega
        ·
          have p42 := (dec_f h42)
          obtain ⟨f, hf⟩ : ∃ f, min n (l[i]!.s - l[i]!.l[k]!.o - 1) = f := ⟨_, rfl⟩
          have ins := Sy.inside (q := l[i]!.b + l[i]!.l[k]!.o + f) (f := f) hV hc0 (show i < l.length from by omega) (k := k) (by omega) (by omega) (by omega) (fun _ => by omega) rfl
          refine WC.skip ?_
          refine WK.then_normal (k40 _ _ ?_)
          refine WC.sub [(0, _), (1, _), (5, _), (6, _), (7, _), (8, _)] ⟨rfl, rfl, rfl, rfl, rfl, rfl, trivial⟩ ?_
          refine WC.seq (fun K54 k54 => ?_)
          refine WC.region rfl ?_
          refine WL.yld rfl (blt rfl) rfl (Y.move rfl rfl) ?_
          refine WL.yld rfl (blt rfl) rfl (Y.convInt rfl Tryd.underlying5 Tryd.underlying3 rfl (wrap_i64 (by omega))) ?_
          refine WL.yld rfl (blt rfl) rfl (Y.move rfl rfl) ?_
          refine WL.yld rfl (blt rfl) rfl (Y.fieldAddr rfl Tryd.underlying34 rfl ti32 (by decide) rfl) ?_
          refine WL.yld rfl (blt rfl) rfl (Y.load1 rfl Tryd.underlying32 rfl rfl (Blk.at_eq m31 rfl)) ?_
          refine WL.yld rfl (blt rfl) rfl (Y.move rfl rfl) ?_
          have b55 : k < l[i]!.n := by omega
          refine WL.yld rfl (blt rfl) rfl (Y.indexLs k ((g_l _ (bang_mem (show i < l.length from by omega))).ext xW) rfl Tryd.underlying32 ti36 rfl rfl rfl b55) ?_
          refine WL.yld rfl (blt rfl) rfl (Y.fieldE rfl Tryd.underlying36 rfl ti3 (by decide) rfl) ?_
          refine WL.yld rfl (blt rfl) rfl (Y.load1 rfl Tryd.underlying3 rfl rfl (Ls.at_eq ((g_l _ (bang_mem (show i < l.length from by omega))).ext xW) b55 rfl)) ?_
          refine WL.yld rfl (blt rfl) rfl (Y.sub rfl rfl rfl (wrap_i64 (by first | omega | (dsimp only; omega)))) ?_
          refine WL.yld rfl (blt rfl) rfl (Y.sub rfl rfl rfl (wrap_i64 (by first | omega | (dsimp only; omega)))) ?_
          refine WL.yld rfl (blt rfl) rfl (Yld.cast (Y.minI rfl rfl rfl rfl) (vi hf)) ?_
          refine WL.yld rfl (blt rfl) rfl (Y.assign rfl rfl) ?_
          refine WL.nil ?_
          refine WK.then_normal (k54 _ _ ?_)
          refine WC.sub [(0, _), (1, _), (5, _), (6, _), (7, _), (9, _)] ⟨rfl, rfl, rfl, rfl, rfl, rfl, trivial⟩ ?_
          refine WC.seq (fun K56 k56 => ?_)
          refine WC.regionDq (by kernel_rfl) (by kernel_rfl) rfl ?_
          refine WQ.yld rfl (blt rfl) rfl (Y.move rfl rfl) ?_
          refine WQ.yld rfl (blt rfl) rfl (Y.fieldAddr rfl Tryd.underlying34 rfl ti3 (by decide) rfl) ?_
          refine WQ.yld rfl (blt rfl) rfl (Y.load1 rfl Tryd.underlying3 rfl rfl (Blk.at_ext m31 rfl)) ?_
          refine WQ.yld rfl (blt rfl) rfl (Y.fieldAddr rfl Tryd.underlying34 rfl ti32 (by decide) rfl) ?_
          refine WQ.yld rfl (blt rfl) rfl (Y.load1 rfl Tryd.underlying32 rfl rfl (Blk.at_ext m31 rfl)) ?_
          refine WQ.yld rfl (blt rfl) rfl (Y.move rfl rfl) ?_
          have b57 : k < l[i]!.n := by omega
          refine WQ.yld rfl (blt rfl) rfl (Y.indexLs k ((g_l _ (bang_mem (show i < l.length from by omega))).ext xW) rfl Tryd.underlying32 ti36 rfl rfl rfl b57) ?_
          refine WQ.yld rfl (blt rfl) rfl (Y.fieldE rfl Tryd.underlying36 rfl ti3 (by decide) rfl) ?_
          refine WQ.yld rfl (blt rfl) rfl (Y.load1 rfl Tryd.underlying3 rfl rfl (Ls.at_ext ((g_l _ (bang_mem (show i < l.length from by omega))).ext xW) b57 rfl)) ?_
          refine WQ.yld rfl (blt rfl) rfl (Y.add rfl rfl rfl (wrap_i64 (by first | omega | (dsimp only; omega)))) ?_
          refine WQ.yld rfl (blt rfl) rfl (Y.move rfl rfl) ?_
          refine WQ.yld rfl (blt rfl) rfl (Y.add rfl rfl rfl (wrap_i64 (by first | omega | (dsimp only; omega)))) ?_
          refine WQ.call rfl (blt rfl) rfl rfl rfl has10 rfl (fun w hw => calls_ext hw (Find_any _ _ _ _ _ _ (Ls.ext (h_l.ext xW) hw) (Sy.Good.ext g_l (Ext.trans xW hw)) hF (by omega))) ?_
          refine WQ.yld rfl (blt rfl) rfl (Y.move rfl rfl) ?_
          refine WQ.yld rfl (blt rfl) rfl (Y.extract rfl rfl rfl) ?_
          refine WQ.yld rfl (blt rfl) rfl (Y.extract rfl rfl rfl) ?_
          refine WQ.yld rfl (blt rfl) rfl (Y.extract rfl rfl rfl) ?_
          refine WQ.yld rfl (blt rfl) rfl (Y.assign rfl rfl) ?_
          refine WQ.yld rfl (blt rfl) rfl (Y.assign rfl rfl) ?_
          refine WQ.yld rfl (blt rfl) rfl (Y.assign rfl rfl) ?_
          refine WQ.done (fun w58 x59 => ?_)
          have m31 := m31.ext x59
          have xW := Ext.trans xW x59
          refine WK.then_normal (k56 _ _ ?_)
          refine WC.sub [(0, _), (1, _), (5, _), (6, _), (7, _), (9, _), (10, _), (11, _), (12, _)] ⟨rfl, rfl, rfl, rfl, rfl, rfl, rfl, rfl, rfl, trivial⟩ ?_
          refine WC.seq (fun K60 k60 => ?_)
          refine WC.regionDq (by kernel_rfl) (by kernel_rfl) rfl ?_
          refine WQ.yld rfl (blt rfl) rfl (Y.move rfl rfl) ?_
          refine WQ.yld rfl (blt rfl) rfl (Y.not rfl rfl) ?_
          refine WQ.yld rfl (blt rfl) rfl (Y.move rfl rfl) ?_
          refine WQ.yldG rfl (blt rfl) rfl rfl rfl (fun hb => Y.move rfl rfl) ?_
          refine WQ.yldG rfl (blt rfl) rfl rfl rfl (fun hb => Y.move rfl rfl) ?_
          refine WQ.yldG rfl (blt rfl) rfl rfl rfl (fun hb => Y.neq rfl (evg rfl hb) (evg rfl hb)) ?_
          refine WQ.yld rfl (blt rfl) rfl (Y.or rfl rfl rfl rfl) ?_
          refine WQ.yld rfl (blt rfl) rfl (Y.move rfl rfl) ?_
          refine WQ.yldG rfl (blt rfl) rfl rfl rfl (fun hb => Y.move rfl rfl) ?_
          refine WQ.yldG rfl (blt rfl) rfl rfl rfl (fun hb => Y.fieldAddr rfl Tryd.underlying34 rfl ti9 (by decide) rfl) ?_
          refine WQ.yldG rfl (blt rfl) rfl rfl rfl (fun hb => Y.load1 rfl Tryd.underlying9 rfl (evg rfl hb) (Blk.at_ext m31 rfl)) ?_
          refine WQ.yldG rfl (blt rfl) rfl rfl rfl (fun hb => Y.addStr rfl (evg rfl hb) rfl (by omega)) ?_
          refine WQ.yldG rfl (blt rfl) rfl rfl rfl (fun hb => Y.fieldAddr rfl Tryd.underlying34 rfl ti32 (by decide) rfl) ?_
          refine WQ.yldG rfl (blt rfl) rfl rfl rfl (fun hb => Y.load1 rfl Tryd.underlying32 rfl (evg rfl hb) (Blk.at_ext m31 rfl)) ?_
          refine WQ.yldG rfl (blt rfl) rfl rfl rfl (fun hb => Y.move rfl rfl) ?_
          refine WQ.yldG rfl (blt rfl) rfl rfl rfl (fun hb => Y.indexLs k ((g_l _ (bang_mem (show i < l.length from by omega))).ext xW) rfl Tryd.underlying32 ti36 (evg rfl hb) (evg rfl hb) rfl (by have q0 := (eq_t (not_f (or_f hb).2)); omega)) ?_
          refine WQ.yldG rfl (blt rfl) rfl rfl rfl (fun hb => Y.fieldE rfl Tryd.underlying36 rfl ti9 (by decide) (evg rfl hb)) ?_
          refine WQ.yldG rfl (blt rfl) rfl rfl rfl (fun hb => Y.load1 rfl Tryd.underlying9 rfl (evg rfl hb) (Ls.at_ext ((g_l _ (bang_mem (show i < l.length from by omega))).ext xW) (by have q0 := (eq_t (not_f (or_f hb).2)); omega) rfl)) ?_
          refine WQ.yldG rfl (blt rfl) rfl rfl rfl (fun hb => Y.addStr rfl (evg rfl hb) (evg rfl hb) (by omega)) ?_
          refine WQ.yldG rfl (blt rfl) rfl rfl rfl (fun hb => Y.neqStr rfl (evg rfl hb) (evg rfl hb)) ?_
          refine WQ.yld rfl (blt rfl) rfl (Y.or rfl rfl rfl rfl) ?_
          refine WQ.done (fun w61 x62 => ?_)
          have m31 := m31.ext x62
          have xW := Ext.trans xW x62
          refine WK.then_normal (k60 _ _ ?_)
          refine WC.sub [(0, _), (1, _), (5, _), (6, _), (7, _), (114, _)] ⟨rfl, rfl, rfl, rfl, rfl, rfl, trivial⟩ ?_
          refine WC.cond rfl (fun h63 => ?_) (fun h63 => ?_)
          ·
            clear k1 k2 k3 k15 k16 k18 k19 k21 k22 k32 k33 k35 k36 k38 k39 k40 k41 k54 k56 k60
            exact False.elim (by have q := h63; rw [ins] at q; simp [beqB_self] at q)
          ·
            have p63 := (eq_t (not_f (or_f (or_f h63).1).2))
            refine WC.skip ?_
            refine WK.in_normal ?_
            refine WK.then_normal (k38 _ _ ?_)
            refine WC.sub [(0, _), (1, _), (5, _), (6, _), (7, _)] ⟨rfl, rfl, rfl, rfl, rfl, trivial⟩ ?_
            refine WC.region rfl ?_
            refine WL.yld rfl (blt rfl) rfl (Y.move rfl rfl) ?_
            refine WL.yld rfl (blt rfl) rfl (Y.add rfl rfl rfl (wrap_i64 (by first | omega | (dsimp only; omega)))) ?_
            refine WL.yld rfl (blt rfl) rfl (Y.assign rfl rfl) ?_
            refine WL.nil ?_
            refine WK.roundS _ [(7, .int .i64 (((k + 1) : Nat) : Int))] ⟨rfl, rfl, rfl, rfl, rfl, trivial⟩ ?_ ⟨(k + 1), rfl, rfl, xW, m31, (by omega)⟩
            show _ - (k + 1) < _ - k; omega
      ·
        have p37 := ((and_f h37).imp (fun h => (dec_f h)) (fun h => (dec_f h)))
        have ab := Sy.at_base hV hc0 (show i < l.length from by omega) mb.2.2
        refine WC.exit ?_
        refine WK.then_exit ?_
        refine WK.then_exit ?_
        refine WK.in_exit ?_
        refine WK.then_normal (k32 _ _ ?_)
        refine WC.sub [(0, _), (1, _), (5, _), (6, _)] ⟨rfl, rfl, rfl, rfl, trivial⟩ ?_
        refine WC.seq (fun K64 k64 => ?_)
        refine WC.region rfl ?_
        refine WL.yld rfl (blt rfl) rfl (Y.move rfl rfl) ?_
        refine WL.yld rfl (blt rfl) rfl (Y.fieldAddr rfl Tryd.underlying34 rfl ti3 (by decide) rfl) ?_
        refine WL.yld rfl (blt rfl) rfl (Y.load1 rfl Tryd.underlying3 rfl rfl (Blk.at_eq m31 rfl)) ?_
        refine WL.call rfl (blt rfl) rfl rfl rfl has10 rfl (Find_any _ _ _ _ _ _ (h_l.ext xW) (Sy.Good.ext g_l xW) hF (by omega)) ?_
        rintro _ w65 ⟨rfl, x66⟩
        refine ⟨_, rfl, ?_⟩
        have m31 := m31.ext x66
        have xW := Ext.trans xW x66
        refine WL.yld rfl (blt rfl) rfl (Y.move rfl rfl) ?_
        refine WL.yld rfl (blt rfl) rfl (Y.extract rfl rfl rfl) ?_
        refine WL.yld rfl (blt rfl) rfl (Y.extract rfl rfl rfl) ?_
        refine WL.yld rfl (blt rfl) rfl (Y.extract rfl rfl rfl) ?_
        refine WL.yld rfl (blt rfl) rfl (Y.assign rfl rfl) ?_
        refine WL.yld rfl (blt rfl) rfl (Y.assign rfl rfl) ?_
        refine WL.yld rfl (blt rfl) rfl (Y.assign rfl rfl) ?_
        refine WL.nil ?_
        refine WK.then_normal (k64 _ _ ?_)
        refine WC.sub [(0, _), (1, _), (5, _), (6, _), (15, _)] ⟨rfl, rfl, rfl, rfl, rfl, trivial⟩ ?_
        refine WC.seq (fun K67 k67 => ?_)
        refine WC.region rfl ?_
        refine WL.yld rfl (blt rfl) rfl (Y.move rfl rfl) ?_
        refine WL.yld rfl (blt rfl) rfl (Y.fieldAddr rfl Tryd.underlying34 rfl ti32 (by decide) rfl) ?_
        refine WL.yld rfl (blt rfl) rfl (Y.load1 rfl Tryd.underlying32 rfl rfl (Blk.at_eq m31 rfl)) ?_
        refine WL.yld rfl (blt rfl) rfl (Y.lenSl rfl rfl rfl Tryd.underlying32 rfl) ?_
        refine WL.yld rfl (blt rfl) rfl (Y.gtr rfl rfl rfl) ?_
        refine WL.yld rfl (blt rfl) rfl (Y.move rfl rfl) ?_
        refine WL.yldG rfl (blt rfl) rfl rfl rfl (fun hb => Y.fieldAddr rfl Tryd.underlying34 rfl ti32 (by decide) rfl) ?_
        refine WL.yldG rfl (blt rfl) rfl rfl rfl (fun hb => Y.load1 rfl Tryd.underlying32 rfl (evg rfl hb) (Blk.at_eq m31 rfl)) ?_
        refine WL.yldG rfl (blt rfl) rfl rfl rfl (fun hb => Y.indexLs 0 ((g_l _ (bang_mem (show i < l.length from by omega))).ext xW) rfl Tryd.underlying32 ti36 (evg rfl hb) rfl rfl (by have q0 := (dec_t hb); omega)) ?_
        refine WL.yldG rfl (blt rfl) rfl rfl rfl (fun hb => Y.fieldE rfl Tryd.underlying36 rfl ti3 (by decide) (evg rfl hb)) ?_
        refine WL.yldG rfl (blt rfl) rfl rfl rfl (fun hb => Y.load1 rfl Tryd.underlying3 rfl (evg rfl hb) (Ls.at_eq ((g_l _ (bang_mem (show i < l.length from by omega))).ext xW) (by have q0 := (dec_t hb); omega) rfl)) ?_
        refine WL.yldG rfl (blt rfl) rfl rfl rfl (fun hb => Y.eql rfl (evg rfl hb) rfl) ?_
        refine WL.yld rfl (blt rfl) rfl (Y.and rfl rfl rfl rfl) ?_
        refine WL.yld rfl (blt rfl) rfl (Y.neqB rfl Tryd.underlying4 rfl rfl) ?_
        refine WL.nil ?_
        refine WK.then_normal (k67 _ _ ?_)
        refine WC.sub [(0, _), (1, _), (5, _), (136, _)] ⟨rfl, rfl, rfl, rfl, trivial⟩ ?_
        refine WC.cond rfl (fun h68 => ?_) (fun h68 => ?_)
        ·
          clear k1 k2 k3 k15 k16 k18 k19 k21 k22 k32 k33 k35 k36 k64 k67
          exact False.elim (by have q := h68; rw [ab] at q; simp at q)
        ·
          refine WC.skip ?_
          refine WK.in_normal ?_
          refine WK.then_normal (k21 _ _ ?_)
          refine WC.sub [(0, _), (1, _), (5, _)] ⟨rfl, rfl, rfl, trivial⟩ ?_
          refine WC.region rfl ?_
          refine WL.yld rfl (blt rfl) rfl (Y.move rfl rfl) ?_
          refine WL.yld rfl (blt rfl) rfl (Y.add rfl rfl rfl (wrap_i64 (by first | omega | (dsimp only; omega)))) ?_
          refine WL.yld rfl (blt rfl) rfl (Y.assign rfl rfl) ?_
          refine WL.nil ?_
          refine WK.roundS _ [(5, .int .i64 (((i + 1) : Nat) : Int))] ⟨rfl, rfl, rfl, trivial⟩ ?_ ⟨(i + 1), rfl, rfl, xW, (by omega)⟩
          show _ - (i + 1) < _ - i; omega
    ·
      have p20 := (dec_f h20)
      refine WC.exit ?_
      refine WK.then_exit ?_
      refine WK.then_exit ?_
      refine WK.in_exit ?_
      refine WK.then_normal (k15 _ _ ?_)
      refine WC.sub [] trivial ?_
      refine WC.seq (fun K69 k69 => ?_)
      refine WC.region rfl ?_
      refine WL.yld rfl (blt rfl) rfl (Y.assign rfl rfl) ?_
      refine WL.nil ?_
      refine WK.then_normal (k69 _ _ ?_)
      refine WC.ret ?_
      clear k1 k2 k3 k15 k16 k18 k19 k69
      refine WK.ret [_] rfl ⟨rfl, trivial⟩ ?_
      exact ⟨rfl, xW⟩
end LSymbolInside
end SyW

end Go.Proofs.YtghfncgciaiofaaDoor
