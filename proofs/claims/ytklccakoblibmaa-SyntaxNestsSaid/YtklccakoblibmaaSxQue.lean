/- Contracts: queries. Conditions: what each theorem states. -/
import Derived.Test.YtklccakoblibmaaSxStr
import Derived.Test.YtklccakoblibmaaSxQry
namespace Go.Proofs.Ytklccakoblibmaa
open Go Go.Eng Go.RowKit
set_option linter.unusedVariables false
set_option linter.unusedSimpArgs false
namespace SxW
open B C D E G S T
namespace U
theorem ti9 : TI Try.prog 9 (.string ⟨#[]⟩) 1 16 := TI.mk (by kernel_rfl)
theorem ti28 : TI Try.prog 28 (.agg #[.int .i64 0, .string ⟨#[]⟩, .int .i64 0, .int .i64 0, .string ⟨#[]⟩, .slice none 0 0]) 6 80 := TI.mk (by kernel_rfl)
theorem ti34 : TI Try.prog 34 (.slice none 0 0) 1 24 := TI.mk (by kernel_rfl)
theorem ti37 : TI Try.prog 37 (.slice none 0 0) 1 24 := TI.mk (by kernel_rfl)
theorem ti38 : TI Try.prog 38 (.slice none 0 0) 1 24 := TI.mk (by kernel_rfl)
theorem ti39 : TI Try.prog 39 (.slice none 0 0) 1 24 := TI.mk (by kernel_rfl)
theorem ti41 : TI Try.prog 41 (.agg #[.int .i64 0, .int .i64 0, .string ⟨#[]⟩, .int .i64 0, .int .i64 0, .string ⟨#[]⟩, .slice none 0 0, .slice none 0 0, .slice none 0 0, .slice none 0 0, .slice none 0 0, .int .i64 0, .string ⟨#[]⟩]) 13 208 := TI.mk (by kernel_rfl)
theorem ti44 : TI Try.prog 44 (.slice none 0 0) 1 24 := TI.mk (by kernel_rfl)
theorem ti55 : TI Try.prog 55 (.agg #[.string ⟨#[]⟩, .string ⟨#[]⟩, .string ⟨#[]⟩]) 3 48 := TI.mk (by kernel_rfl)
theorem ti65 : TI Try.prog 65 (.agg #[.int .i64 0, .string ⟨#[]⟩, .int .i64 0, .int .i64 0, .string ⟨#[]⟩, .slice none 0 0, .string ⟨#[]⟩]) 7 96 := TI.mk (by kernel_rfl)
theorem has10 : Has Try.prog 10 := ⟨_, Try.func10, rfl, by kernel_rfl⟩
theorem has16 : Has Try.prog 16 := ⟨_, Try.func16, rfl, by kernel_rfl⟩
theorem has17 : Has Try.prog 17 := ⟨_, Try.func17, rfl, by kernel_rfl⟩
theorem has18 : Has Try.prog 18 := ⟨_, Try.func18, rfl, by kernel_rfl⟩
theorem has40 : Has Try.prog 40 := ⟨_, Try.func40, rfl, by kernel_rfl⟩
theorem has42 : Has Try.prog 42 := ⟨_, Try.func42, rfl, by kernel_rfl⟩
theorem fews_any (d_s : Nat) (s : Sx.St) (w : World) (g_s : Sx.GoodS d_s w s) :
    Calls Try.prog 16 #[.agg #[.int .i64 s.op, .int .i64 s.cd.op, .string s.cd.nm, .int .i64 s.cd.vk, .int .i64 s.cd.vn, .string s.cd.vs, .slice s.cd.A s.cd.n s.cd.c, .slice s.iA s.iN s.iC, .slice s.cA s.cN s.cC, .slice s.aA s.aN s.aC, .slice s.sA s.sN s.sC, .int .i64 s.N, .string s.tb]] w fun e w' => ∃ b : Bool, e = .returned (.bool b) ∧ (b = true → Sx.FewS s) ∧ Ext w w' := by
  have xW := Ext.refl w
  have e_il := g_s.il.len
  have e_cl := g_s.cl.len
  have e_al := g_s.al.len
  have e_sl := g_s.sl.len
  refine calls_of_WC (args := [.agg #[.int .i64 s.op, .int .i64 s.cd.op, .string s.cd.nm, .int .i64 s.cd.vk, .int .i64 s.cd.vn, .string s.cd.vs, .slice s.cd.A s.cd.n s.cd.c, .slice s.iA s.iN s.iC, .slice s.cA s.cN s.cC, .slice s.aA s.aN s.aC, .slice s.sA s.sN s.sC, .int .i64 s.N, .string s.tb]]) Try.func16 rfl rfl (ble rfl) ?_
  refine WC.seq (fun K1 k1 => ?_)
  refine WC.region rfl ?_
  refine WL.box rfl (blt rfl) rfl rfl rfl rfl ?_
  intro g2 w3 e4 x5 m6
  have o_g2 := own_new xW e4
  have xW := Ext.trans xW x5
  refine WL.yld rfl (blt rfl) rfl (Y.assign rfl rfl) ?_
  refine WL.nil ?_
  refine WK.then_normal (k1 _ _ ?_)
  refine WC.sub [(1, _)] ⟨rfl, trivial⟩ ?_
  refine WC.seq (fun K7 k7 => ?_)
  refine WC.seq (fun K8 k8 => ?_)
  refine WC.region rfl ?_
  refine WL.yld rfl (blt rfl) rfl (Y.fieldAddr rfl Try.underlying41 rfl ti28 (by decide) rfl) ?_
  refine WL.yld rfl (blt rfl) rfl (Y.loadS (cs := [_, _, _, _, _, _]) rfl Try.underlying28 rfl ti28 rfl (Blk.part_eq m6 rfl)) ?_
  refine WL.call rfl (blt rfl) rfl rfl rfl has10 rfl (small_any _ _ _ (g_s.cd.ext xW)) ?_
  rintro _ w9 ⟨b11, rfl, hsa, x10⟩
  refine ⟨_, rfl, ?_⟩
  have m6 := m6.ext x10
  have xW := Ext.trans xW x10
  refine WL.yld rfl (blt rfl) rfl (Y.not rfl rfl) ?_
  refine WL.yld rfl (blt rfl) rfl (Y.move rfl rfl) ?_
  refine WL.yldG rfl (blt rfl) rfl rfl rfl (fun hb => Y.fieldAddr rfl Try.underlying41 rfl ti37 (by decide) rfl) ?_
  refine WL.yldG rfl (blt rfl) rfl rfl rfl (fun hb => Y.load1 rfl Try.underlying37 rfl (evg rfl hb) (Blk.at_eq m6 rfl)) ?_
  refine WL.yldG rfl (blt rfl) rfl rfl rfl (fun hb => Y.lenSl rfl rfl rfl Try.underlying37 (evs_cons (evg rfl hb) evs_nil)) ?_
  refine WL.yldG rfl (blt rfl) rfl rfl rfl (fun hb => Y.gtr rfl (evg rfl hb) rfl) ?_
  refine WL.yld rfl (blt rfl) rfl (Y.or rfl rfl rfl rfl) ?_
  refine WL.yld rfl (blt rfl) rfl (Y.move rfl rfl) ?_
  refine WL.yldG rfl (blt rfl) rfl rfl rfl (fun hb => Y.fieldAddr rfl Try.underlying41 rfl ti34 (by decide) rfl) ?_
  refine WL.yldG rfl (blt rfl) rfl rfl rfl (fun hb => Y.load1 rfl Try.underlying34 rfl (evg rfl hb) (Blk.at_eq m6 rfl)) ?_
  refine WL.yldG rfl (blt rfl) rfl rfl rfl (fun hb => Y.lenSl rfl rfl rfl Try.underlying34 (evs_cons (evg rfl hb) evs_nil)) ?_
  refine WL.yldG rfl (blt rfl) rfl rfl rfl (fun hb => Y.gtr rfl (evg rfl hb) rfl) ?_
  refine WL.yld rfl (blt rfl) rfl (Y.or rfl rfl rfl rfl) ?_
  refine WL.yld rfl (blt rfl) rfl (Y.move rfl rfl) ?_
  refine WL.yldG rfl (blt rfl) rfl rfl rfl (fun hb => Y.fieldAddr rfl Try.underlying41 rfl ti38 (by decide) rfl) ?_
  refine WL.yldG rfl (blt rfl) rfl rfl rfl (fun hb => Y.load1 rfl Try.underlying38 rfl (evg rfl hb) (Blk.at_eq m6 rfl)) ?_
  refine WL.yldG rfl (blt rfl) rfl rfl rfl (fun hb => Y.lenSl rfl rfl rfl Try.underlying38 (evs_cons (evg rfl hb) evs_nil)) ?_
  refine WL.yldG rfl (blt rfl) rfl rfl rfl (fun hb => Y.gtr rfl (evg rfl hb) rfl) ?_
  refine WL.yld rfl (blt rfl) rfl (Y.or rfl rfl rfl rfl) ?_
  refine WL.yld rfl (blt rfl) rfl (Y.move rfl rfl) ?_
  refine WL.yldG rfl (blt rfl) rfl rfl rfl (fun hb => Y.fieldAddr rfl Try.underlying41 rfl ti39 (by decide) rfl) ?_
  refine WL.yldG rfl (blt rfl) rfl rfl rfl (fun hb => Y.load1 rfl Try.underlying39 rfl (evg rfl hb) (Blk.at_eq m6 rfl)) ?_
  refine WL.yldG rfl (blt rfl) rfl rfl rfl (fun hb => Y.lenSl rfl rfl rfl Try.underlying39 (evs_cons (evg rfl hb) evs_nil)) ?_
  refine WL.yldG rfl (blt rfl) rfl rfl rfl (fun hb => Y.gtr rfl (evg rfl hb) rfl) ?_
  refine WL.yld rfl (blt rfl) rfl (Y.or rfl rfl rfl rfl) ?_
  refine WL.yld rfl (blt rfl) rfl (Y.move rfl rfl) ?_
  refine WL.yldG rfl (blt rfl) rfl rfl rfl (fun hb => Y.fieldAddr rfl Try.underlying41 rfl ti9 (by decide) rfl) ?_
  refine WL.yldG rfl (blt rfl) rfl rfl rfl (fun hb => Y.load1 rfl Try.underlying9 rfl (evg rfl hb) (Blk.at_eq m6 rfl)) ?_
  refine WL.yldG rfl (blt rfl) rfl rfl rfl (fun hb => Y.lenStr rfl rfl rfl Try.underlying9 (evs_cons (evg rfl hb) evs_nil)) ?_
  refine WL.yldG rfl (blt rfl) rfl rfl rfl (fun hb => Y.gtr rfl (evg rfl hb) rfl) ?_
  refine WL.yld rfl (blt rfl) rfl (Y.or rfl rfl rfl rfl) ?_
  refine WL.nil ?_
  refine WK.then_normal (k8 _ _ ?_)
  refine WC.sub [(1, _), (39, _)] ⟨rfl, rfl, trivial⟩ ?_
  refine WC.cond rfl (fun h12 => ?_) (fun h12 => ?_)
  ·
    have p12 := ((or_t h12).imp (fun h => ((or_t h).imp (fun h => ((or_t h).imp (fun h => ((or_t h).imp (fun h => ((or_t h).imp (fun h => h) (fun h => (dec_t h)))) (fun h => (dec_t h)))) (fun h => (dec_t h)))) (fun h => (dec_t h)))) (fun h => (dec_t h)))
    refine WC.seq (fun K13 k13 => ?_)
    refine WC.region rfl ?_
    refine WL.yld rfl (blt rfl) rfl (Y.assign rfl rfl) ?_
    refine WL.nil ?_
    refine WK.then_normal (k13 _ _ ?_)
    refine WC.sub [(2, _)] ⟨rfl, trivial⟩ ?_
    refine WC.ret ?_
    refine WK.then_ret ?_
    clear k1 k7 k8 k13
    refine WK.ret [_] rfl ⟨rfl, trivial⟩ ?_
    exact ⟨false, ret1 rfl, (by intro z; cases z), xW⟩
  ·
    have p12 := (And.intro (And.intro (And.intro (And.intro (dec_f (or_f (or_f (or_f (or_f (or_f h12).1).1).1).1).2) (dec_f (or_f (or_f (or_f (or_f h12).1).1).1).2)) (dec_f (or_f (or_f (or_f h12).1).1).2)) (dec_f (or_f (or_f h12).1).2)) (dec_f (or_f h12).2))
    have c39 := h12
    simp only [Bool.and_eq_true, Bool.or_eq_true, Bool.not_eq_true', Bool.and_eq_false_iff, Bool.or_eq_false_iff, Bool.not_eq_false', decide_eq_true_eq, decide_eq_false_iff_not, beq_iff_eq, beq_eq_false_iff_ne, ne_eq] at c39
    have hc1 := hsa c39.1.1.1.1.1
    refine WC.skip ?_
    refine WK.then_normal (k7 _ _ ?_)
    refine WC.sub [(1, _)] ⟨rfl, trivial⟩ ?_
    refine WC.seq (fun K14 k14 => ?_)
    refine WC.seq (fun K15 k15 => ?_)
    refine WC.region rfl ?_
    refine WL.yld rfl (blt rfl) rfl (Y.assign rfl rfl) ?_
    refine WL.nil ?_
    refine WK.then_normal (k15 _ _ ?_)
    refine WC.block ?_
    refine WC.sub [(3, _), (1, _)] ⟨rfl, rfl, trivial⟩ ?_
    refine WC.loopS 1 (fun mz Ed W' => ∃ i : Nat, mz = s.iN - i ∧ Ed = [(3, .int .i64 ((i : Nat) : Int))] ∧ Ext w W' ∧ Blk W' g2 41 _ ∧ (i ≤ s.iN) ∧ (∀ j, j < i → Sx.short s.il[j]!.e = true ∧ Sx.cnt s.il[j]!.e ≤ 300 ∧ s.il[j]!.as_.size ≤ 300)) _ ⟨0, rfl, rfl, xW, m6, (Nat.zero_le _), (fun j hj => absurd hj (Nat.not_lt_zero j))⟩ ?_
    rintro _ _ w16 ⟨i, rfl, rfl, xW, m6, le_i, inv_i⟩
    refine WC.sub [(3, _), (1, _)] ⟨rfl, rfl, trivial⟩ ?_
    refine WC.seq (fun K17 k17 => ?_)
    refine WC.seq (fun K18 k18 => ?_)
    refine WC.region rfl ?_
    refine WL.yld rfl (blt rfl) rfl (Y.move rfl rfl) ?_
    refine WL.yld rfl (blt rfl) rfl (Y.fieldAddr rfl Try.underlying41 rfl ti37 (by decide) rfl) ?_
    refine WL.yld rfl (blt rfl) rfl (Y.load1 rfl Try.underlying37 rfl rfl (Blk.at_eq m6 rfl)) ?_
    refine WL.yld rfl (blt rfl) rfl (Y.lenSl rfl rfl rfl Try.underlying37 rfl) ?_
    refine WL.yld rfl (blt rfl) rfl (Y.lss rfl rfl rfl) ?_
    refine WL.nil ?_
    refine WK.then_normal (k18 _ _ ?_)
    refine WC.sub [(1, _), (3, _), (44, _)] ⟨rfl, rfl, rfl, trivial⟩ ?_
    refine WC.cond rfl (fun h19 => ?_) (fun h19 => ?_)
    ·
      have p19 := (dec_t h19)
      refine WC.skip ?_
      refine WK.then_normal (k17 _ _ ?_)
      refine WC.sub [(1, _), (3, _)] ⟨rfl, rfl, trivial⟩ ?_
      refine WC.seq (fun K20 k20 => ?_)
      refine WC.block ?_
      refine WC.seq (fun K21 k21 => ?_)
      refine WC.region rfl ?_
      refine WL.yld rfl (blt rfl) rfl (Y.fieldAddr rfl Try.underlying41 rfl ti37 (by decide) rfl) ?_
      refine WL.yld rfl (blt rfl) rfl (Y.load1 rfl Try.underlying37 rfl rfl (Blk.at_eq m6 rfl)) ?_
      refine WL.yld rfl (blt rfl) rfl (Y.move rfl rfl) ?_
      have b22 : i < s.iN := by omega
      refine WL.yld rfl (blt rfl) rfl (Y.indexLs i (g_s.il.ext xW) rfl Try.underlying37 ti65 rfl rfl rfl b22) ?_
      refine WL.yld rfl (blt rfl) rfl (Y.fieldE rfl Try.underlying65 rfl ti28 (by decide) rfl) ?_
      refine WL.yld rfl (blt rfl) rfl (Y.loadS (cs := [_, _, _, _, _, _]) rfl Try.underlying28 rfl ti28 rfl (Ls.part_eq (g_s.il.ext xW) b22 rfl)) ?_
      refine WL.call rfl (blt rfl) rfl rfl rfl has10 rfl (small_any _ _ _ ((g_s.ie _ (bang_mem (show i < s.il.length from by omega))).ext xW)) ?_
      rintro _ w23 ⟨b25, rfl, hsa, x24⟩
      refine ⟨_, rfl, ?_⟩
      have m6 := m6.ext x24
      have xW := Ext.trans xW x24
      refine WL.yld rfl (blt rfl) rfl (Y.not rfl rfl) ?_
      refine WL.yld rfl (blt rfl) rfl (Y.move rfl rfl) ?_
      refine WL.yldG rfl (blt rfl) rfl rfl rfl (fun hb => Y.fieldAddr rfl Try.underlying41 rfl ti37 (by decide) rfl) ?_
      refine WL.yldG rfl (blt rfl) rfl rfl rfl (fun hb => Y.load1 rfl Try.underlying37 rfl (evg rfl hb) (Blk.at_eq m6 rfl)) ?_
      refine WL.yldG rfl (blt rfl) rfl rfl rfl (fun hb => Y.move rfl rfl) ?_
      refine WL.yldG rfl (blt rfl) rfl rfl rfl (fun hb => Y.indexLs i (g_s.il.ext xW) rfl Try.underlying37 ti65 (evg rfl hb) (evg rfl hb) rfl (by omega)) ?_
      refine WL.yldG rfl (blt rfl) rfl rfl rfl (fun hb => Y.fieldE rfl Try.underlying65 rfl ti9 (by decide) (evg rfl hb)) ?_
      refine WL.yldG rfl (blt rfl) rfl rfl rfl (fun hb => Y.load1 rfl Try.underlying9 rfl (evg rfl hb) (Ls.at_eq (g_s.il.ext xW) (by omega) rfl)) ?_
      refine WL.yldG rfl (blt rfl) rfl rfl rfl (fun hb => Y.lenStr rfl rfl rfl Try.underlying9 (evs_cons (evg rfl hb) evs_nil)) ?_
      refine WL.yldG rfl (blt rfl) rfl rfl rfl (fun hb => Y.gtr rfl (evg rfl hb) rfl) ?_
      refine WL.yld rfl (blt rfl) rfl (Y.or rfl rfl rfl rfl) ?_
      refine WL.nil ?_
      refine WK.then_normal (k21 _ _ ?_)
      refine WC.sub [(1, _), (3, _), (64, _)] ⟨rfl, rfl, rfl, trivial⟩ ?_
      refine WC.cond rfl (fun h26 => ?_) (fun h26 => ?_)
      ·
        have p26 := ((or_t h26).imp (fun h => h) (fun h => (dec_t h)))
        refine WC.seq (fun K27 k27 => ?_)
        refine WC.region rfl ?_
        refine WL.yld rfl (blt rfl) rfl (Y.assign rfl rfl) ?_
        refine WL.nil ?_
        refine WK.then_normal (k27 _ _ ?_)
        refine WC.sub [(2, _)] ⟨rfl, trivial⟩ ?_
        refine WC.ret ?_
        refine WK.in_ret ?_
        refine WK.then_ret ?_
        refine WK.then_ret ?_
        refine WK.in_ret ?_
        refine WK.then_ret ?_
        clear k1 k7 k8 k14 k15 k17 k18 k20 k21 k27
        refine WK.ret [_] rfl ⟨rfl, trivial⟩ ?_
        exact ⟨false, ret1 rfl, (by intro z; cases z), xW⟩
      ·
        have p26 := (dec_f (or_f h26).2)
        have c64 := h26
        simp only [Bool.and_eq_true, Bool.or_eq_true, Bool.not_eq_true', Bool.and_eq_false_iff, Bool.or_eq_false_iff, Bool.not_eq_false', decide_eq_true_eq, decide_eq_false_iff_not, beq_iff_eq, beq_eq_false_iff_ne, ne_eq] at c64
        have hc2 := hsa c64.1
        refine WC.skip ?_
        refine WK.in_normal ?_
        refine WK.then_normal (k20 _ _ ?_)
        refine WC.sub [(1, _), (3, _)] ⟨rfl, rfl, trivial⟩ ?_
        refine WC.region rfl ?_
        refine WL.yld rfl (blt rfl) rfl (Y.move rfl rfl) ?_
        refine WL.yld rfl (blt rfl) rfl (Y.add rfl rfl rfl (wrap_i64 (by first | omega | (dsimp only; omega)))) ?_
        refine WL.yld rfl (blt rfl) rfl (Y.assign rfl rfl) ?_
        refine WL.nil ?_
        refine WK.roundS _ [(3, .int .i64 (((i + 1) : Nat) : Int))] ⟨rfl, rfl, trivial⟩ ?_ ⟨(i + 1), rfl, rfl, xW, m6, (by omega), (fun j hj => by rcases Nat.lt_succ_iff_lt_or_eq.1 hj with h | h; exact inv_i j h; rw [h]; exact ⟨hc2.1, hc2.2.2, by omega⟩)⟩
        show _ - (i + 1) < _ - i; omega
    ·
      have p19 := (dec_f h19)
      refine WC.exit ?_
      refine WK.then_exit ?_
      refine WK.then_exit ?_
      refine WK.in_exit ?_
      refine WK.then_normal (k14 _ _ ?_)
      refine WC.sub [(1, _)] ⟨rfl, trivial⟩ ?_
      refine WC.seq (fun K28 k28 => ?_)
      refine WC.seq (fun K29 k29 => ?_)
      refine WC.region rfl ?_
      refine WL.yld rfl (blt rfl) rfl (Y.assign rfl rfl) ?_
      refine WL.nil ?_
      refine WK.then_normal (k29 _ _ ?_)
      refine WC.block ?_
      refine WC.sub [(4, _), (1, _)] ⟨rfl, rfl, trivial⟩ ?_
      refine WC.loopS 1 (fun mz Ed W' => ∃ k : Nat, mz = s.cN - k ∧ Ed = [(4, .int .i64 ((k : Nat) : Int))] ∧ Ext w W' ∧ Blk W' g2 41 _ ∧ (k ≤ s.cN) ∧ (∀ j, j < k → s.cl[j]!.size ≤ 300)) _ ⟨0, rfl, rfl, xW, m6, (Nat.zero_le _), (fun j hj => absurd hj (Nat.not_lt_zero j))⟩ ?_
      rintro _ _ w30 ⟨k, rfl, rfl, xW, m6, le_k, inv_k⟩
      refine WC.sub [(4, _), (1, _)] ⟨rfl, rfl, trivial⟩ ?_
      refine WC.seq (fun K31 k31 => ?_)
      refine WC.seq (fun K32 k32 => ?_)
      refine WC.region rfl ?_
      refine WL.yld rfl (blt rfl) rfl (Y.move rfl rfl) ?_
      refine WL.yld rfl (blt rfl) rfl (Y.fieldAddr rfl Try.underlying41 rfl ti34 (by decide) rfl) ?_
      refine WL.yld rfl (blt rfl) rfl (Y.load1 rfl Try.underlying34 rfl rfl (Blk.at_eq m6 rfl)) ?_
      refine WL.yld rfl (blt rfl) rfl (Y.lenSl rfl rfl rfl Try.underlying34 rfl) ?_
      refine WL.yld rfl (blt rfl) rfl (Y.lss rfl rfl rfl) ?_
      refine WL.nil ?_
      refine WK.then_normal (k32 _ _ ?_)
      refine WC.sub [(1, _), (4, _), (69, _)] ⟨rfl, rfl, rfl, trivial⟩ ?_
      refine WC.cond rfl (fun h33 => ?_) (fun h33 => ?_)
      ·
        have p33 := (dec_t h33)
        refine WC.skip ?_
        refine WK.then_normal (k31 _ _ ?_)
        refine WC.sub [(1, _), (4, _)] ⟨rfl, rfl, trivial⟩ ?_
        refine WC.seq (fun K34 k34 => ?_)
        refine WC.block ?_
        refine WC.seq (fun K35 k35 => ?_)
        refine WC.region rfl ?_
        refine WL.yld rfl (blt rfl) rfl (Y.fieldAddr rfl Try.underlying41 rfl ti34 (by decide) rfl) ?_
        refine WL.yld rfl (blt rfl) rfl (Y.load1 rfl Try.underlying34 rfl rfl (Blk.at_eq m6 rfl)) ?_
        refine WL.yld rfl (blt rfl) rfl (Y.move rfl rfl) ?_
        have b36 : k < s.cN := by omega
        refine WL.yld rfl (blt rfl) rfl (Y.indexLs k (g_s.cl.ext xW) rfl Try.underlying34 ti9 rfl rfl rfl b36) ?_
        refine WL.yld rfl (blt rfl) rfl (Y.load1 rfl Try.underlying9 rfl rfl (Ls.at_eq (g_s.cl.ext xW) b36 rfl)) ?_
        refine WL.yld rfl (blt rfl) rfl (Y.lenStr rfl rfl rfl Try.underlying9 rfl) ?_
        refine WL.yld rfl (blt rfl) rfl (Y.gtr rfl rfl rfl) ?_
        refine WL.nil ?_
        refine WK.then_normal (k35 _ _ ?_)
        refine WC.sub [(1, _), (4, _), (78, _)] ⟨rfl, rfl, rfl, trivial⟩ ?_
        refine WC.cond rfl (fun h37 => ?_) (fun h37 => ?_)
        ·
          have p37 := (dec_t h37)
          refine WC.seq (fun K38 k38 => ?_)
          refine WC.region rfl ?_
          refine WL.yld rfl (blt rfl) rfl (Y.assign rfl rfl) ?_
          refine WL.nil ?_
          refine WK.then_normal (k38 _ _ ?_)
          refine WC.sub [(2, _)] ⟨rfl, trivial⟩ ?_
          refine WC.ret ?_
          refine WK.in_ret ?_
          refine WK.then_ret ?_
          refine WK.then_ret ?_
          refine WK.in_ret ?_
          refine WK.then_ret ?_
          clear k1 k7 k8 k14 k15 k17 k18 k28 k29 k31 k32 k34 k35 k38
          refine WK.ret [_] rfl ⟨rfl, trivial⟩ ?_
          exact ⟨false, ret1 rfl, (by intro z; cases z), xW⟩
        ·
          have p37 := (dec_f h37)
          refine WC.skip ?_
          refine WK.in_normal ?_
          refine WK.then_normal (k34 _ _ ?_)
          refine WC.sub [(1, _), (4, _)] ⟨rfl, rfl, trivial⟩ ?_
          refine WC.region rfl ?_
          refine WL.yld rfl (blt rfl) rfl (Y.move rfl rfl) ?_
          refine WL.yld rfl (blt rfl) rfl (Y.add rfl rfl rfl (wrap_i64 (by first | omega | (dsimp only; omega)))) ?_
          refine WL.yld rfl (blt rfl) rfl (Y.assign rfl rfl) ?_
          refine WL.nil ?_
          refine WK.roundS _ [(4, .int .i64 (((k + 1) : Nat) : Int))] ⟨rfl, rfl, trivial⟩ ?_ ⟨(k + 1), rfl, rfl, xW, m6, (by omega), (fun j hj => by rcases Nat.lt_succ_iff_lt_or_eq.1 hj with h | h; exact inv_k j h; rw [h]; exact (by have q := dec_f h37; omega))⟩
          show _ - (k + 1) < _ - k; omega
      ·
        have p33 := (dec_f h33)
        refine WC.exit ?_
        refine WK.then_exit ?_
        refine WK.then_exit ?_
        refine WK.in_exit ?_
        refine WK.then_normal (k28 _ _ ?_)
        refine WC.sub [(1, _)] ⟨rfl, trivial⟩ ?_
        refine WC.seq (fun K39 k39 => ?_)
        refine WC.seq (fun K40 k40 => ?_)
        refine WC.region rfl ?_
        refine WL.yld rfl (blt rfl) rfl (Y.assign rfl rfl) ?_
        refine WL.nil ?_
        refine WK.then_normal (k40 _ _ ?_)
        refine WC.block ?_
        refine WC.sub [(5, _), (1, _)] ⟨rfl, rfl, trivial⟩ ?_
        refine WC.loopS 1 (fun mz Ed W' => ∃ m : Nat, mz = s.aN - m ∧ Ed = [(5, .int .i64 ((m : Nat) : Int))] ∧ Ext w W' ∧ Blk W' g2 41 _ ∧ (m ≤ s.aN) ∧ (∀ j, j < m → s.al[j]!.col.size ≤ 300 ∧ s.al[j]!.as_.size ≤ 300)) _ ⟨0, rfl, rfl, xW, m6, (Nat.zero_le _), (fun j hj => absurd hj (Nat.not_lt_zero j))⟩ ?_
        rintro _ _ w41 ⟨m, rfl, rfl, xW, m6, le_m, inv_m⟩
        refine WC.sub [(5, _), (1, _)] ⟨rfl, rfl, trivial⟩ ?_
        refine WC.seq (fun K42 k42 => ?_)
        refine WC.seq (fun K43 k43 => ?_)
        refine WC.region rfl ?_
        refine WL.yld rfl (blt rfl) rfl (Y.move rfl rfl) ?_
        refine WL.yld rfl (blt rfl) rfl (Y.fieldAddr rfl Try.underlying41 rfl ti38 (by decide) rfl) ?_
        refine WL.yld rfl (blt rfl) rfl (Y.load1 rfl Try.underlying38 rfl rfl (Blk.at_eq m6 rfl)) ?_
        refine WL.yld rfl (blt rfl) rfl (Y.lenSl rfl rfl rfl Try.underlying38 rfl) ?_
        refine WL.yld rfl (blt rfl) rfl (Y.lss rfl rfl rfl) ?_
        refine WL.nil ?_
        refine WK.then_normal (k43 _ _ ?_)
        refine WC.sub [(1, _), (5, _), (83, _)] ⟨rfl, rfl, rfl, trivial⟩ ?_
        refine WC.cond rfl (fun h44 => ?_) (fun h44 => ?_)
        ·
          have p44 := (dec_t h44)
          refine WC.skip ?_
          refine WK.then_normal (k42 _ _ ?_)
          refine WC.sub [(1, _), (5, _)] ⟨rfl, rfl, trivial⟩ ?_
          refine WC.seq (fun K45 k45 => ?_)
          refine WC.block ?_
          refine WC.seq (fun K46 k46 => ?_)
          refine WC.region rfl ?_
          refine WL.yld rfl (blt rfl) rfl (Y.fieldAddr rfl Try.underlying41 rfl ti38 (by decide) rfl) ?_
          refine WL.yld rfl (blt rfl) rfl (Y.load1 rfl Try.underlying38 rfl rfl (Blk.at_eq m6 rfl)) ?_
          refine WL.yld rfl (blt rfl) rfl (Y.move rfl rfl) ?_
          have b47 : m < s.aN := by omega
          refine WL.yld rfl (blt rfl) rfl (Y.indexLs m (g_s.al.ext xW) rfl Try.underlying38 ti55 rfl rfl rfl b47) ?_
          refine WL.yld rfl (blt rfl) rfl (Y.fieldE rfl Try.underlying55 rfl ti9 (by decide) rfl) ?_
          refine WL.yld rfl (blt rfl) rfl (Y.load1 rfl Try.underlying9 rfl rfl (Ls.at_eq (g_s.al.ext xW) b47 rfl)) ?_
          refine WL.yld rfl (blt rfl) rfl (Y.lenStr rfl rfl rfl Try.underlying9 rfl) ?_
          refine WL.yld rfl (blt rfl) rfl (Y.gtr rfl rfl rfl) ?_
          refine WL.yld rfl (blt rfl) rfl (Y.move rfl rfl) ?_
          refine WL.yldG rfl (blt rfl) rfl rfl rfl (fun hb => Y.fieldAddr rfl Try.underlying41 rfl ti38 (by decide) rfl) ?_
          refine WL.yldG rfl (blt rfl) rfl rfl rfl (fun hb => Y.load1 rfl Try.underlying38 rfl (evg rfl hb) (Blk.at_eq m6 rfl)) ?_
          refine WL.yldG rfl (blt rfl) rfl rfl rfl (fun hb => Y.move rfl rfl) ?_
          refine WL.yldG rfl (blt rfl) rfl rfl rfl (fun hb => Y.indexLs m (g_s.al.ext xW) rfl Try.underlying38 ti55 (evg rfl hb) (evg rfl hb) rfl (by have q0 := (dec_f hb); omega)) ?_
          refine WL.yldG rfl (blt rfl) rfl rfl rfl (fun hb => Y.fieldE rfl Try.underlying55 rfl ti9 (by decide) (evg rfl hb)) ?_
          refine WL.yldG rfl (blt rfl) rfl rfl rfl (fun hb => Y.load1 rfl Try.underlying9 rfl (evg rfl hb) (Ls.at_eq (g_s.al.ext xW) (by have q0 := (dec_f hb); omega) rfl)) ?_
          refine WL.yldG rfl (blt rfl) rfl rfl rfl (fun hb => Y.lenStr rfl rfl rfl Try.underlying9 (evs_cons (evg rfl hb) evs_nil)) ?_
          refine WL.yldG rfl (blt rfl) rfl rfl rfl (fun hb => Y.gtr rfl (evg rfl hb) rfl) ?_
          refine WL.yld rfl (blt rfl) rfl (Y.or rfl rfl rfl rfl) ?_
          refine WL.nil ?_
          refine WK.then_normal (k46 _ _ ?_)
          refine WC.sub [(1, _), (5, _), (103, _)] ⟨rfl, rfl, rfl, trivial⟩ ?_
          refine WC.cond rfl (fun h48 => ?_) (fun h48 => ?_)
          ·
            have p48 := ((or_t h48).imp (fun h => (dec_t h)) (fun h => (dec_t h)))
            refine WC.seq (fun K49 k49 => ?_)
            refine WC.region rfl ?_
            refine WL.yld rfl (blt rfl) rfl (Y.assign rfl rfl) ?_
            refine WL.nil ?_
            refine WK.then_normal (k49 _ _ ?_)
            refine WC.sub [(2, _)] ⟨rfl, trivial⟩ ?_
            refine WC.ret ?_
            refine WK.in_ret ?_
            refine WK.then_ret ?_
            refine WK.then_ret ?_
            refine WK.in_ret ?_
            refine WK.then_ret ?_
            clear k1 k7 k8 k14 k15 k17 k18 k28 k29 k31 k32 k39 k40 k42 k43 k45 k46 k49
            refine WK.ret [_] rfl ⟨rfl, trivial⟩ ?_
            exact ⟨false, ret1 rfl, (by intro z; cases z), xW⟩
          ·
            have p48 := (And.intro (dec_f (or_f h48).1) (dec_f (or_f h48).2))
            refine WC.skip ?_
            refine WK.in_normal ?_
            refine WK.then_normal (k45 _ _ ?_)
            refine WC.sub [(1, _), (5, _)] ⟨rfl, rfl, trivial⟩ ?_
            refine WC.region rfl ?_
            refine WL.yld rfl (blt rfl) rfl (Y.move rfl rfl) ?_
            refine WL.yld rfl (blt rfl) rfl (Y.add rfl rfl rfl (wrap_i64 (by first | omega | (dsimp only; omega)))) ?_
            refine WL.yld rfl (blt rfl) rfl (Y.assign rfl rfl) ?_
            refine WL.nil ?_
            refine WK.roundS _ [(5, .int .i64 (((m + 1) : Nat) : Int))] ⟨rfl, rfl, trivial⟩ ?_ ⟨(m + 1), rfl, rfl, xW, m6, (by omega), (fun j hj => by rcases Nat.lt_succ_iff_lt_or_eq.1 hj with h | h; exact inv_m j h; rw [h]; exact (by have q := h48; simp only [Bool.and_eq_true, Bool.or_eq_true, Bool.not_eq_true', Bool.and_eq_false_iff, Bool.or_eq_false_iff, Bool.not_eq_false', decide_eq_true_eq, decide_eq_false_iff_not, beq_iff_eq, beq_eq_false_iff_ne, ne_eq] at q; omega))⟩
            show _ - (m + 1) < _ - m; omega
        ·
          have p44 := (dec_f h44)
          refine WC.exit ?_
          refine WK.then_exit ?_
          refine WK.then_exit ?_
          refine WK.in_exit ?_
          refine WK.then_normal (k39 _ _ ?_)
          refine WC.sub [] trivial ?_
          refine WC.seq (fun K50 k50 => ?_)
          refine WC.region rfl ?_
          refine WL.yld rfl (blt rfl) rfl (Y.assign rfl rfl) ?_
          refine WL.nil ?_
          refine WK.then_normal (k50 _ _ ?_)
          refine WC.ret ?_
          clear k1 k7 k8 k14 k15 k17 k18 k28 k29 k31 k32 k39 k40 k42 k43 k50
          refine WK.ret [_] rfl ⟨rfl, trivial⟩ ?_
          refine ⟨true, ret1 rfl, (fun _ => ?_), xW⟩
          exact ⟨⟨hc1.1, hc1.2.2⟩, by omega, Sx.of_at (fun j hj => inv_i j (by omega)), by omega, Sx.of_at (fun j hj => Nat.le_trans (inv_k j (by omega)) (by decide)), by omega, Sx.of_at (fun j hj => inv_m j (by omega)), by omega, g_s.ss, by omega⟩
theorem fewq_any (d_q : Nat) (q : Sx.Q) (w : World) (g_q : Sx.GoodQ d_q w q) :
    Calls Try.prog 19 #[.agg #[.string q.fr, .slice q.A q.n q.c]] w fun e w' => ∃ b : Bool, e = .returned (.bool b) ∧ (b = true → Sx.FewQ q) ∧ Ext w w' := by
  have xW := Ext.refl w
  have e_q := g_q.l.len
  have z_q := g_q.l.nle
  refine calls_of_WC (args := [.agg #[.string q.fr, .slice q.A q.n q.c]]) Try.func19 rfl rfl (ble rfl) ?_
  refine WC.seq (fun K1 k1 => ?_)
  refine WC.region rfl ?_
  refine WL.box rfl (blt rfl) rfl rfl rfl rfl ?_
  intro g2 w3 e4 x5 m6
  have o_g2 := own_new xW e4
  have xW := Ext.trans xW x5
  refine WL.yld rfl (blt rfl) rfl (Y.assign rfl rfl) ?_
  refine WL.nil ?_
  refine WK.then_normal (k1 _ _ ?_)
  refine WC.sub [(1, _)] ⟨rfl, trivial⟩ ?_
  refine WC.seq (fun K7 k7 => ?_)
  refine WC.seq (fun K8 k8 => ?_)
  refine WC.region rfl ?_
  refine WL.yld rfl (blt rfl) rfl (Y.fieldAddr rfl Try.underlying46 rfl ti44 (by decide) rfl) ?_
  refine WL.yld rfl (blt rfl) rfl (Y.load1 rfl Try.underlying44 rfl rfl (Blk.at_eq m6 rfl)) ?_
  refine WL.yld rfl (blt rfl) rfl (Y.lenSl rfl rfl rfl Try.underlying44 rfl) ?_
  refine WL.yld rfl (blt rfl) rfl (Y.gtr rfl rfl rfl) ?_
  refine WL.yld rfl (blt rfl) rfl (Y.move rfl rfl) ?_
  refine WL.yldG rfl (blt rfl) rfl rfl rfl (fun hb => Y.fieldAddr rfl Try.underlying46 rfl ti9 (by decide) rfl) ?_
  refine WL.yldG rfl (blt rfl) rfl rfl rfl (fun hb => Y.load1 rfl Try.underlying9 rfl (evg rfl hb) (Blk.at_eq m6 rfl)) ?_
  refine WL.yldG rfl (blt rfl) rfl rfl rfl (fun hb => Y.lenStr rfl rfl rfl Try.underlying9 (evs_cons (evg rfl hb) evs_nil)) ?_
  refine WL.yldG rfl (blt rfl) rfl rfl rfl (fun hb => Y.gtr rfl (evg rfl hb) rfl) ?_
  refine WL.yld rfl (blt rfl) rfl (Y.or rfl rfl rfl rfl) ?_
  refine WL.nil ?_
  refine WK.then_normal (k8 _ _ ?_)
  refine WC.sub [(1, _), (13, _)] ⟨rfl, rfl, trivial⟩ ?_
  refine WC.cond rfl (fun h9 => ?_) (fun h9 => ?_)
  ·
    have p9 := ((or_t h9).imp (fun h => (dec_t h)) (fun h => (dec_t h)))
    refine WC.seq (fun K10 k10 => ?_)
    refine WC.region rfl ?_
    refine WL.yld rfl (blt rfl) rfl (Y.assign rfl rfl) ?_
    refine WL.nil ?_
    refine WK.then_normal (k10 _ _ ?_)
    refine WC.sub [(2, _)] ⟨rfl, trivial⟩ ?_
    refine WC.ret ?_
    refine WK.then_ret ?_
    clear k1 k7 k8 k10
    refine WK.ret [_] rfl ⟨rfl, trivial⟩ ?_
    exact ⟨false, ret1 rfl, (by intro z; cases z), xW⟩
  ·
    have p9 := (And.intro (dec_f (or_f h9).1) (dec_f (or_f h9).2))
    have c13 := h9
    simp only [Bool.and_eq_true, Bool.or_eq_true, Bool.not_eq_true', Bool.and_eq_false_iff, Bool.or_eq_false_iff, Bool.not_eq_false', decide_eq_true_eq, decide_eq_false_iff_not, beq_iff_eq, beq_eq_false_iff_ne, ne_eq] at c13
    refine WC.skip ?_
    refine WK.then_normal (k7 _ _ ?_)
    refine WC.sub [(1, _)] ⟨rfl, trivial⟩ ?_
    refine WC.seq (fun K11 k11 => ?_)
    refine WC.seq (fun K12 k12 => ?_)
    refine WC.region rfl ?_
    refine WL.yld rfl (blt rfl) rfl (Y.assign rfl rfl) ?_
    refine WL.nil ?_
    refine WK.then_normal (k12 _ _ ?_)
    refine WC.block ?_
    refine WC.sub [(3, _), (1, _)] ⟨rfl, rfl, trivial⟩ ?_
    refine WC.loopS 1 (fun mz Ed W' => ∃ i : Nat, mz = q.n - i ∧ Ed = [(3, .int .i64 ((i : Nat) : Int))] ∧ Ext w W' ∧ Blk W' g2 46 _ ∧ (i ≤ q.n) ∧ (∀ j, j < i → Sx.FewS q.l[j]!)) _ ⟨0, rfl, rfl, xW, m6, (Nat.zero_le _), (fun j hj => absurd hj (Nat.not_lt_zero j))⟩ ?_
    rintro _ _ w13 ⟨i, rfl, rfl, xW, m6, le_i, inv_i⟩
    refine WC.sub [(3, _), (1, _)] ⟨rfl, rfl, trivial⟩ ?_
    refine WC.seq (fun K14 k14 => ?_)
    refine WC.seq (fun K15 k15 => ?_)
    refine WC.region rfl ?_
    refine WL.yld rfl (blt rfl) rfl (Y.move rfl rfl) ?_
    refine WL.yld rfl (blt rfl) rfl (Y.fieldAddr rfl Try.underlying46 rfl ti44 (by decide) rfl) ?_
    refine WL.yld rfl (blt rfl) rfl (Y.load1 rfl Try.underlying44 rfl rfl (Blk.at_eq m6 rfl)) ?_
    refine WL.yld rfl (blt rfl) rfl (Y.lenSl rfl rfl rfl Try.underlying44 rfl) ?_
    refine WL.yld rfl (blt rfl) rfl (Y.lss rfl rfl rfl) ?_
    refine WL.nil ?_
    refine WK.then_normal (k15 _ _ ?_)
    refine WC.sub [(1, _), (3, _), (18, _)] ⟨rfl, rfl, rfl, trivial⟩ ?_
    refine WC.cond rfl (fun h16 => ?_) (fun h16 => ?_)
    ·
      have p16 := (dec_t h16)
      refine WC.skip ?_
      refine WK.then_normal (k14 _ _ ?_)
      refine WC.sub [(1, _), (3, _)] ⟨rfl, rfl, trivial⟩ ?_
      refine WC.seq (fun K17 k17 => ?_)
      refine WC.block ?_
      refine WC.seq (fun K18 k18 => ?_)
      refine WC.region rfl ?_
      refine WL.yld rfl (blt rfl) rfl (Y.fieldAddr rfl Try.underlying46 rfl ti44 (by decide) rfl) ?_
      refine WL.yld rfl (blt rfl) rfl (Y.load1 rfl Try.underlying44 rfl rfl (Blk.at_eq m6 rfl)) ?_
      refine WL.yld rfl (blt rfl) rfl (Y.move rfl rfl) ?_
      have b19 : i < q.n := by omega
      refine WL.yld rfl (blt rfl) rfl (Y.indexLs i (g_q.l.ext xW) rfl Try.underlying44 ti41 rfl rfl rfl b19) ?_
      refine WL.yld rfl (blt rfl) rfl (Y.loadS (cs := [_, _, _, _, _, _, _, _, _, _, _, _, _]) rfl Try.underlying41 rfl ti41 rfl (Ls.part_eq (g_q.l.ext xW) b19 rfl)) ?_
      refine WL.call rfl (blt rfl) rfl rfl rfl has16 rfl (fews_any _ _ _ ((g_q.s _ (bang_mem (show i < q.l.length from by omega))).ext xW)) ?_
      rintro _ w20 ⟨b22, rfl, hfs, x21⟩
      refine ⟨_, rfl, ?_⟩
      have m6 := m6.ext x21
      have xW := Ext.trans xW x21
      refine WL.yld rfl (blt rfl) rfl (Y.not rfl rfl) ?_
      refine WL.nil ?_
      refine WK.then_normal (k18 _ _ ?_)
      refine WC.sub [(1, _), (3, _), (27, _)] ⟨rfl, rfl, rfl, trivial⟩ ?_
      refine WC.cond rfl (fun h23 => ?_) (fun h23 => ?_)
      ·
        refine WC.seq (fun K24 k24 => ?_)
        refine WC.region rfl ?_
        refine WL.yld rfl (blt rfl) rfl (Y.assign rfl rfl) ?_
        refine WL.nil ?_
        refine WK.then_normal (k24 _ _ ?_)
        refine WC.sub [(2, _)] ⟨rfl, trivial⟩ ?_
        refine WC.ret ?_
        refine WK.in_ret ?_
        refine WK.then_ret ?_
        refine WK.then_ret ?_
        refine WK.in_ret ?_
        refine WK.then_ret ?_
        clear k1 k7 k8 k11 k12 k14 k15 k17 k18 k24
        refine WK.ret [_] rfl ⟨rfl, trivial⟩ ?_
        exact ⟨false, ret1 rfl, (by intro z; cases z), xW⟩
      ·
        refine WC.skip ?_
        refine WK.in_normal ?_
        refine WK.then_normal (k17 _ _ ?_)
        refine WC.sub [(1, _), (3, _)] ⟨rfl, rfl, trivial⟩ ?_
        refine WC.region rfl ?_
        refine WL.yld rfl (blt rfl) rfl (Y.move rfl rfl) ?_
        refine WL.yld rfl (blt rfl) rfl (Y.add rfl rfl rfl (wrap_i64 (by first | omega | (dsimp only; omega)))) ?_
        refine WL.yld rfl (blt rfl) rfl (Y.assign rfl rfl) ?_
        refine WL.nil ?_
        refine WK.roundS _ [(3, .int .i64 (((i + 1) : Nat) : Int))] ⟨rfl, rfl, trivial⟩ ?_ ⟨(i + 1), rfl, rfl, xW, m6, (by omega), (fun j hj => by rcases Nat.lt_succ_iff_lt_or_eq.1 hj with h | h; exact inv_i j h; rw [h]; exact (hfs (by simpa using h23)))⟩
        show _ - (i + 1) < _ - i; omega
    ·
      have p16 := (dec_f h16)
      refine WC.exit ?_
      refine WK.then_exit ?_
      refine WK.then_exit ?_
      refine WK.in_exit ?_
      refine WK.then_normal (k11 _ _ ?_)
      refine WC.sub [] trivial ?_
      refine WC.seq (fun K25 k25 => ?_)
      refine WC.region rfl ?_
      refine WL.yld rfl (blt rfl) rfl (Y.assign rfl rfl) ?_
      refine WL.nil ?_
      refine WK.then_normal (k25 _ _ ?_)
      refine WC.ret ?_
      clear k1 k7 k8 k11 k12 k14 k15 k25
      refine WK.ret [_] rfl ⟨rfl, trivial⟩ ?_
      refine ⟨true, ret1 rfl, (fun _ => ?_), xW⟩
      exact ⟨by omega, by omega, Sx.of_at (fun j hj => inv_i j (by omega))⟩
theorem rstep_eq (d_s : Nat) (s : Sx.St) (w : World) (g_s : Sx.GoodS d_s w s) (f_s : Sx.FewS s) : Calls Try.prog 18 #[.agg #[.int .i64 s.op, .int .i64 s.cd.op, .string s.cd.nm, .int .i64 s.cd.vk, .int .i64 s.cd.vn, .string s.cd.vs, .slice s.cd.A s.cd.n s.cd.c, .slice s.iA s.iN s.iC, .slice s.cA s.cN s.cC, .slice s.aA s.aN s.aC, .slice s.sA s.sN s.sC, .int .i64 s.N, .string s.tb]] w fun e w' => e = .returned (.int .i64 (Sx.stpE s)) ∧ Ext w w' := by
  rw [← Sx.rstp_eq]
  exact rstep_any d_s s w g_s f_s
theorem query_any (d_q : Nat) (q : Sx.Q) (w : World) (g_q : Sx.GoodQ d_q w q) (f_q : Sx.FewQ q) :
    Calls Try.prog 20 #[.agg #[.string q.fr, .slice q.A q.n q.c]] w fun e w' => e = .returned (.int .i64 (Sx.qryE q)) ∧ Ext w w' := by
  have xW := Ext.refl w
  have e_q := g_q.l.len
  have z_q := g_q.l.nle
  have ff := f_q.fr
  have fn := f_q.n
  refine calls_of_WC (args := [.agg #[.string q.fr, .slice q.A q.n q.c]]) Try.func20 rfl rfl (ble rfl) ?_
  refine WC.seq (fun K1 k1 => ?_)
  refine WC.region rfl ?_
  refine WL.box rfl (blt rfl) rfl rfl rfl rfl ?_
  intro g2 w3 e4 x5 m6
  have o_g2 := own_new xW e4
  have xW := Ext.trans xW x5
  refine WL.yld rfl (blt rfl) rfl (Y.assign rfl rfl) ?_
  refine WL.nil ?_
  refine WK.then_normal (k1 _ _ ?_)
  refine WC.sub [(1, _)] ⟨rfl, trivial⟩ ?_
  refine WC.seq (fun K7 k7 => ?_)
  refine WC.block ?_
  refine WC.seq (fun K8 k8 => ?_)
  refine WC.region rfl ?_
  refine WL.yld rfl (blt rfl) rfl (Y.fieldAddr rfl Try.underlying46 rfl ti9 (by decide) rfl) ?_
  refine WL.yld rfl (blt rfl) rfl (Y.load1 rfl Try.underlying9 rfl rfl (Blk.at_eq m6 rfl)) ?_
  refine WL.call rfl (blt rfl) rfl rfl rfl has40 rfl (ident_any _ _ ) ?_
  rintro _ w9 ⟨rfl, x10⟩
  refine ⟨_, rfl, ?_⟩
  have m6 := m6.ext x10
  have xW := Ext.trans xW x10
  refine WL.yld rfl (blt rfl) rfl (Y.not rfl rfl) ?_
  refine WL.yld rfl (blt rfl) rfl (Y.assign rfl rfl) ?_
  refine WL.nil ?_
  refine WK.then_normal (k8 _ _ ?_)
  refine WC.sub [(1, _), (6, _)] ⟨rfl, rfl, trivial⟩ ?_
  refine WC.cond rfl (fun h11 => ?_) (fun h11 => ?_)
  ·
    refine WC.seq (fun K12 k12 => ?_)
    refine WC.region rfl ?_
    refine WL.yld rfl (blt rfl) rfl (Y.assign rfl rfl) ?_
    refine WL.nil ?_
    refine WK.then_normal (k12 _ _ ?_)
    refine WC.sub [(2, _)] ⟨rfl, trivial⟩ ?_
    refine WC.ret ?_
    refine WK.in_ret ?_
    refine WK.then_ret ?_
    clear k1 k7 k8 k12
    refine WK.ret [_] rfl ⟨rfl, trivial⟩ ?_
    exact ⟨ret1 (vi (Sx.qry_3 (by simpa using h11)).symm), xW⟩
  ·
    refine WC.seq (fun K13 k13 => ?_)
    refine WC.region rfl ?_
    refine WL.yld rfl (blt rfl) rfl (Y.fieldAddr rfl Try.underlying46 rfl ti44 (by decide) rfl) ?_
    refine WL.yld rfl (blt rfl) rfl (Y.load1 rfl Try.underlying44 rfl rfl (Blk.at_eq m6 rfl)) ?_
    refine WL.yld rfl (blt rfl) rfl (Y.lenSl rfl rfl rfl Try.underlying44 rfl) ?_
    refine WL.yld rfl (blt rfl) rfl (Y.gtr rfl rfl rfl) ?_
    refine WL.yld rfl (blt rfl) rfl (Y.assign rfl rfl) ?_
    refine WL.nil ?_
    refine WK.then_normal (k13 _ _ ?_)
    refine WC.sub [(1, _), (11, _)] ⟨rfl, rfl, trivial⟩ ?_
    refine WC.cond rfl (fun h14 => ?_) (fun h14 => ?_)
    ·
      have p14 := (dec_t h14)
      refine WC.seq (fun K15 k15 => ?_)
      refine WC.region rfl ?_
      refine WL.yld rfl (blt rfl) rfl (Y.assign rfl rfl) ?_
      refine WL.nil ?_
      refine WK.then_normal (k15 _ _ ?_)
      refine WC.sub [(2, _)] ⟨rfl, trivial⟩ ?_
      refine WC.ret ?_
      refine WK.in_ret ?_
      refine WK.then_ret ?_
      clear k1 k7 k8 k13 k15
      refine WK.ret [_] rfl ⟨rfl, trivial⟩ ?_
      exact ⟨ret1 (vi (Sx.qry_7 (by simpa using h11) (by omega)).symm), xW⟩
    ·
      have p14 := (dec_f h14)
      refine WC.skip ?_
      refine WK.in_normal ?_
      refine WK.then_normal (k7 _ _ ?_)
      refine WC.sub [(1, _)] ⟨rfl, trivial⟩ ?_
      refine WC.seq (fun K16 k16 => ?_)
      refine WC.seq (fun K17 k17 => ?_)
      refine WC.region rfl ?_
      refine WL.yld rfl (blt rfl) rfl (Y.fieldAddr rfl Try.underlying46 rfl ti44 (by decide) rfl) ?_
      refine WL.yld rfl (blt rfl) rfl (Y.load1 rfl Try.underlying44 rfl rfl (Blk.at_eq m6 rfl)) ?_
      refine WL.yld rfl (blt rfl) rfl (Y.lenSl rfl rfl rfl Try.underlying44 rfl) ?_
      refine WL.yld rfl (blt rfl) rfl (Y.move rfl rfl) ?_
      refine WL.nil ?_
      refine WK.then_normal (k17 _ _ ?_)
      refine WC.sub [(17, _), (18, _), (19, _)] ⟨rfl, rfl, rfl, trivial⟩ ?_
      refine WC.block ?_
      refine WC.sub [(19, _), (17, _), (18, _)] ⟨rfl, rfl, rfl, trivial⟩ ?_
      refine WC.loopS 1 (fun mz Ed W' => ∃ i : Nat, mz = q.n - i ∧ Ed = [(19, .int .i64 ((i : Nat) : Int))] ∧ Ext w W' ∧ (i ≤ q.n) ∧ (∀ j, j < i → Sx.qst q.l j = 0)) _ ⟨0, rfl, rfl, xW, (Nat.zero_le _), (fun j hj => absurd hj (Nat.not_lt_zero j))⟩ ?_
      rintro _ _ w18 ⟨i, rfl, rfl, xW, le_i, inv_i⟩
      refine WC.sub [(19, _), (17, _), (18, _)] ⟨rfl, rfl, rfl, trivial⟩ ?_
      refine WC.seq (fun K19 k19 => ?_)
      refine WC.region rfl ?_
      refine WL.yld rfl (blt rfl) rfl (Y.lss rfl rfl rfl) ?_
      refine WL.nil ?_
      refine WK.then_normal (k19 _ _ ?_)
      refine WC.seq (fun K20 k20 => ?_)
      refine WC.cond rfl (fun h21 => ?_) (fun h21 => ?_)
      ·
        have p21 := (dec_t h21)
        refine WC.skip ?_
        refine WK.then_normal (k20 _ _ ?_)
        refine WC.sub [(17, _), (18, _), (19, _)] ⟨rfl, rfl, rfl, trivial⟩ ?_
        refine WC.seq (fun K22 k22 => ?_)
        refine WC.block ?_
        refine WC.seq (fun K23 k23 => ?_)
        refine WC.region rfl ?_
        have b24 : i < q.n := by omega
        refine WL.yld rfl (blt rfl) rfl (Y.indexLs i (g_q.l.ext xW) rfl Try.underlying44 ti41 rfl rfl rfl b24) ?_
        refine WL.yld rfl (blt rfl) rfl (Y.loadS (cs := [_, _, _, _, _, _, _, _, _, _, _, _, _]) rfl Try.underlying41 rfl ti41 rfl (Ls.part_eq (g_q.l.ext xW) b24 rfl)) ?_
        refine WL.alloc rfl (blt rfl) rfl rfl ti41 rfl ?_
        intro g25 w26 e27 x28 m29
        have o_g25 := own_new xW e27
        have xW := Ext.trans xW x28
        refine WL.store (cs' := [_, _, _, _, _, _, _, _, _, _, _, _, _]) rfl rfl rfl rfl rfl rfl ti41 m29 (ble rfl) rfl rfl (fun w30 on31 m32 => ?_)
        have xW := Ext.only xW on31 o_g25
        refine WL.nil ?_
        refine WK.then_normal (k23 _ _ ?_)
        refine WC.sub [(4, _), (17, _), (18, _), (19, _)] ⟨rfl, rfl, rfl, rfl, trivial⟩ ?_
        refine WC.seq (fun K33 k33 => ?_)
        refine WC.region rfl ?_
        refine WL.yld rfl (blt rfl) rfl (Y.loadS rfl Try.underlying41 rfl ti41 rfl (Blk.row_eq m32)) ?_
        refine WL.call rfl (blt rfl) rfl rfl rfl has17 rfl (step_any _ _ _ ((g_q.s _ (bang_mem (show i < q.l.length from by omega))).ext xW) (f_q.s _ (bang_mem (show i < q.l.length from by omega)))) ?_
        rintro _ w34 ⟨rfl, x35⟩
        refine ⟨_, rfl, ?_⟩
        have m32 := m32.ext x35
        have xW := Ext.trans xW x35
        refine WL.yld rfl (blt rfl) rfl (Y.assign rfl rfl) ?_
        refine WL.nil ?_
        refine WK.then_normal (k33 _ _ ?_)
        refine WC.sub [(5, _), (17, _), (18, _), (19, _)] ⟨rfl, rfl, rfl, rfl, trivial⟩ ?_
        refine WC.seq (fun K36 k36 => ?_)
        refine WC.region rfl ?_
        refine WL.yld rfl (blt rfl) rfl (Y.move rfl rfl) ?_
        refine WL.yld rfl (blt rfl) rfl (Y.neq rfl rfl rfl) ?_
        refine WL.nil ?_
        refine WK.then_normal (k36 _ _ ?_)
        refine WC.sub [(5, _), (17, _), (18, _), (19, _), (26, _)] ⟨rfl, rfl, rfl, rfl, rfl, trivial⟩ ?_
        refine WC.cond rfl (fun h37 => ?_) (fun h37 => ?_)
        ·
          have p37 := (eq_f (not_t h37))
          refine WC.seq (fun K38 k38 => ?_)
          refine WC.region rfl ?_
          refine WL.yld rfl (blt rfl) rfl (Y.move rfl rfl) ?_
          refine WL.yld rfl (blt rfl) rfl (Y.assign rfl rfl) ?_
          refine WL.nil ?_
          refine WK.then_normal (k38 _ _ ?_)
          refine WC.sub [(2, _)] ⟨rfl, trivial⟩ ?_
          refine WC.ret ?_
          refine WK.in_ret ?_
          refine WK.then_ret ?_
          refine WK.then_ret ?_
          refine WK.in_ret ?_
          refine WK.then_ret ?_
          clear k1 k7 k8 k13 k16 k17 k19 k20 k22 k23 k33 k36 k38
          refine WK.ret [_] rfl ⟨rfl, trivial⟩ ?_
          exact ⟨ret1 (vi (Sx.qry_hit (by simpa using h11) (by omega) (show i < q.l.length from by omega) inv_i (by have q := h37; simp only [Bool.and_eq_true, Bool.or_eq_true, Bool.not_eq_true', Bool.and_eq_false_iff, Bool.or_eq_false_iff, Bool.not_eq_false', decide_eq_true_eq, decide_eq_false_iff_not, beq_iff_eq, beq_eq_false_iff_ne, ne_eq] at q; exact q)).symm), xW⟩
        ·
          have p37 := (eq_t (not_f h37))
          refine WC.skip ?_
          refine WK.in_normal ?_
          refine WK.then_normal (k22 _ _ ?_)
          refine WC.sub [(17, _), (18, _), (19, _)] ⟨rfl, rfl, rfl, trivial⟩ ?_
          refine WC.region rfl ?_
          refine WL.yld rfl (blt rfl) rfl (Y.add rfl rfl rfl (wrap_i64 (by first | omega | (dsimp only; omega)))) ?_
          refine WL.yld rfl (blt rfl) rfl (Y.move rfl rfl) ?_
          refine WL.nil ?_
          refine WK.roundS _ [(19, .int .i64 (((i + 1) : Nat) : Int))] ⟨rfl, rfl, rfl, trivial⟩ ?_ ⟨(i + 1), rfl, rfl, xW, (by omega), (fun j hj => by rcases Nat.lt_succ_iff_lt_or_eq.1 hj with h | h; exact inv_i j h; rw [h]; exact (by have q := h37; simp only [Bool.and_eq_true, Bool.or_eq_true, Bool.not_eq_true', Bool.and_eq_false_iff, Bool.or_eq_false_iff, Bool.not_eq_false', decide_eq_true_eq, decide_eq_false_iff_not, beq_iff_eq, beq_eq_false_iff_ne, ne_eq] at q; exact q))⟩
          show _ - (i + 1) < _ - i; omega
      ·
        have p21 := (dec_f h21)
        refine WC.exit ?_
        refine WK.then_exit ?_
        refine WK.then_exit ?_
        refine WK.in_exit ?_
        refine WK.then_normal (k16 _ _ ?_)
        refine WC.sub [] trivial ?_
        refine WC.seq (fun K39 k39 => ?_)
        refine WC.region rfl ?_
        refine WL.yld rfl (blt rfl) rfl (Y.assign rfl rfl) ?_
        refine WL.nil ?_
        refine WK.then_normal (k39 _ _ ?_)
        refine WC.ret ?_
        clear k1 k7 k8 k13 k16 k17 k19 k20 k39
        refine WK.ret [_] rfl ⟨rfl, trivial⟩ ?_
        exact ⟨ret1 (vi (Sx.qry_ok (by simpa using h11) (by omega) fun j hj => inv_i j (by omega)).symm), xW⟩
theorem rquery_any (d_q : Nat) (q : Sx.Q) (w : World) (g_q : Sx.GoodQ d_q w q) (f_q : Sx.FewQ q) :
    Calls Try.prog 21 #[.agg #[.string q.fr, .slice q.A q.n q.c]] w fun e w' => e = .returned (.int .i64 (Sx.qryE q)) ∧ Ext w w' := by
  have xW := Ext.refl w
  have e_q := g_q.l.len
  have z_q := g_q.l.nle
  have ff := f_q.fr
  have fn := f_q.n
  refine calls_of_WC (args := [.agg #[.string q.fr, .slice q.A q.n q.c]]) Try.func21 rfl rfl (ble rfl) ?_
  refine WC.seq (fun K1 k1 => ?_)
  refine WC.region rfl ?_
  refine WL.box rfl (blt rfl) rfl rfl rfl rfl ?_
  intro g2 w3 e4 x5 m6
  have o_g2 := own_new xW e4
  have xW := Ext.trans xW x5
  refine WL.yld rfl (blt rfl) rfl (Y.assign rfl rfl) ?_
  refine WL.nil ?_
  refine WK.then_normal (k1 _ _ ?_)
  refine WC.sub [(1, _)] ⟨rfl, trivial⟩ ?_
  refine WC.seq (fun K7 k7 => ?_)
  refine WC.seq (fun K8 k8 => ?_)
  refine WC.region rfl ?_
  refine WL.yld rfl (blt rfl) rfl (Y.fieldAddr rfl Try.underlying46 rfl ti9 (by decide) rfl) ?_
  refine WL.yld rfl (blt rfl) rfl (Y.load1 rfl Try.underlying9 rfl rfl (Blk.at_eq m6 rfl)) ?_
  refine WL.call rfl (blt rfl) rfl rfl rfl has42 rfl (rident_any _ _ (by omega)) ?_
  rintro _ w9 ⟨rfl, x10⟩
  refine ⟨_, rfl, ?_⟩
  have m6 := m6.ext x10
  have xW := Ext.trans xW x10
  refine WL.yld rfl (blt rfl) rfl (Y.not rfl rfl) ?_
  refine WL.nil ?_
  refine WK.then_normal (k8 _ _ ?_)
  refine WC.sub [(1, _), (8, _)] ⟨rfl, rfl, trivial⟩ ?_
  refine WC.cond rfl (fun h11 => ?_) (fun h11 => ?_)
  ·
    refine WC.seq (fun K12 k12 => ?_)
    refine WC.region rfl ?_
    refine WL.yld rfl (blt rfl) rfl (Y.assign rfl rfl) ?_
    refine WL.nil ?_
    refine WK.then_normal (k12 _ _ ?_)
    refine WC.sub [(2, _)] ⟨rfl, trivial⟩ ?_
    refine WC.ret ?_
    refine WK.then_ret ?_
    clear k1 k7 k8 k12
    refine WK.ret [_] rfl ⟨rfl, trivial⟩ ?_
    exact ⟨ret1 (vi (Sx.qry_3 (by simpa using h11)).symm), xW⟩
  ·
    refine WC.skip ?_
    refine WK.then_normal (k7 _ _ ?_)
    refine WC.sub [(1, _)] ⟨rfl, trivial⟩ ?_
    refine WC.seq (fun K13 k13 => ?_)
    refine WC.seq (fun K14 k14 => ?_)
    refine WC.region rfl ?_
    refine WL.yld rfl (blt rfl) rfl (Y.fieldAddr rfl Try.underlying46 rfl ti44 (by decide) rfl) ?_
    refine WL.yld rfl (blt rfl) rfl (Y.load1 rfl Try.underlying44 rfl rfl (Blk.at_eq m6 rfl)) ?_
    refine WL.yld rfl (blt rfl) rfl (Y.lenSl rfl rfl rfl Try.underlying44 rfl) ?_
    refine WL.yld rfl (blt rfl) rfl (Y.gtr rfl rfl rfl) ?_
    refine WL.nil ?_
    refine WK.then_normal (k14 _ _ ?_)
    refine WC.sub [(1, _), (12, _)] ⟨rfl, rfl, trivial⟩ ?_
    refine WC.cond rfl (fun h15 => ?_) (fun h15 => ?_)
    ·
      have p15 := (dec_t h15)
      refine WC.seq (fun K16 k16 => ?_)
      refine WC.region rfl ?_
      refine WL.yld rfl (blt rfl) rfl (Y.assign rfl rfl) ?_
      refine WL.nil ?_
      refine WK.then_normal (k16 _ _ ?_)
      refine WC.sub [(2, _)] ⟨rfl, trivial⟩ ?_
      refine WC.ret ?_
      refine WK.then_ret ?_
      clear k1 k7 k8 k13 k14 k16
      refine WK.ret [_] rfl ⟨rfl, trivial⟩ ?_
      exact ⟨ret1 (vi (Sx.qry_7 (by simpa using h11) (by omega)).symm), xW⟩
    ·
      have p15 := (dec_f h15)
      refine WC.skip ?_
      refine WK.then_normal (k13 _ _ ?_)
      refine WC.sub [(1, _)] ⟨rfl, trivial⟩ ?_
      refine WC.seq (fun K17 k17 => ?_)
      refine WC.seq (fun K18 k18 => ?_)
      refine WC.region rfl ?_
      refine WL.yld rfl (blt rfl) rfl (Y.assign rfl rfl) ?_
      refine WL.nil ?_
      refine WK.then_normal (k18 _ _ ?_)
      refine WC.block ?_
      refine WC.sub [(3, _), (1, _)] ⟨rfl, rfl, trivial⟩ ?_
      refine WC.loopS 1 (fun mz Ed W' => ∃ i : Nat, mz = q.n - i ∧ Ed = [(3, .int .i64 ((i : Nat) : Int))] ∧ Ext w W' ∧ Blk W' g2 46 _ ∧ (i ≤ q.n) ∧ (∀ j, j < i → Sx.qst q.l j = 0)) _ ⟨0, rfl, rfl, xW, m6, (Nat.zero_le _), (fun j hj => absurd hj (Nat.not_lt_zero j))⟩ ?_
      rintro _ _ w19 ⟨i, rfl, rfl, xW, m6, le_i, inv_i⟩
      refine WC.sub [(3, _), (1, _)] ⟨rfl, rfl, trivial⟩ ?_
      refine WC.seq (fun K20 k20 => ?_)
      refine WC.seq (fun K21 k21 => ?_)
      refine WC.region rfl ?_
      refine WL.yld rfl (blt rfl) rfl (Y.move rfl rfl) ?_
      refine WL.yld rfl (blt rfl) rfl (Y.fieldAddr rfl Try.underlying46 rfl ti44 (by decide) rfl) ?_
      refine WL.yld rfl (blt rfl) rfl (Y.load1 rfl Try.underlying44 rfl rfl (Blk.at_eq m6 rfl)) ?_
      refine WL.yld rfl (blt rfl) rfl (Y.lenSl rfl rfl rfl Try.underlying44 rfl) ?_
      refine WL.yld rfl (blt rfl) rfl (Y.lss rfl rfl rfl) ?_
      refine WL.nil ?_
      refine WK.then_normal (k21 _ _ ?_)
      refine WC.sub [(1, _), (3, _), (17, _)] ⟨rfl, rfl, rfl, trivial⟩ ?_
      refine WC.cond rfl (fun h22 => ?_) (fun h22 => ?_)
      ·
        have p22 := (dec_t h22)
        refine WC.skip ?_
        refine WK.then_normal (k20 _ _ ?_)
        refine WC.sub [(1, _), (3, _)] ⟨rfl, rfl, trivial⟩ ?_
        refine WC.seq (fun K23 k23 => ?_)
        refine WC.block ?_
        refine WC.seq (fun K24 k24 => ?_)
        refine WC.region rfl ?_
        refine WL.yld rfl (blt rfl) rfl (Y.fieldAddr rfl Try.underlying46 rfl ti44 (by decide) rfl) ?_
        refine WL.yld rfl (blt rfl) rfl (Y.load1 rfl Try.underlying44 rfl rfl (Blk.at_eq m6 rfl)) ?_
        refine WL.yld rfl (blt rfl) rfl (Y.move rfl rfl) ?_
        have b25 : i < q.n := by omega
        refine WL.yld rfl (blt rfl) rfl (Y.indexLs i (g_q.l.ext xW) rfl Try.underlying44 ti41 rfl rfl rfl b25) ?_
        refine WL.yld rfl (blt rfl) rfl (Y.loadS (cs := [_, _, _, _, _, _, _, _, _, _, _, _, _]) rfl Try.underlying41 rfl ti41 rfl (Ls.part_eq (g_q.l.ext xW) b25 rfl)) ?_
        refine WL.call rfl (blt rfl) rfl rfl rfl has18 rfl (rstep_eq _ _ _ ((g_q.s _ (bang_mem (show i < q.l.length from by omega))).ext xW) (f_q.s _ (bang_mem (show i < q.l.length from by omega)))) ?_
        rintro _ w26 ⟨rfl, x27⟩
        refine ⟨_, rfl, ?_⟩
        have m6 := m6.ext x27
        have xW := Ext.trans xW x27
        refine WL.yld rfl (blt rfl) rfl (Y.assign rfl rfl) ?_
        refine WL.nil ?_
        refine WK.then_normal (k24 _ _ ?_)
        refine WC.sub [(1, _), (3, _), (4, _)] ⟨rfl, rfl, rfl, trivial⟩ ?_
        refine WC.seq (fun K28 k28 => ?_)
        refine WC.region rfl ?_
        refine WL.yld rfl (blt rfl) rfl (Y.move rfl rfl) ?_
        refine WL.yld rfl (blt rfl) rfl (Y.neq rfl rfl rfl) ?_
        refine WL.nil ?_
        refine WK.then_normal (k28 _ _ ?_)
        refine WC.sub [(1, _), (3, _), (4, _), (27, _)] ⟨rfl, rfl, rfl, rfl, trivial⟩ ?_
        refine WC.cond rfl (fun h29 => ?_) (fun h29 => ?_)
        ·
          have p29 := (eq_f (not_t h29))
          refine WC.seq (fun K30 k30 => ?_)
          refine WC.region rfl ?_
          refine WL.yld rfl (blt rfl) rfl (Y.move rfl rfl) ?_
          refine WL.yld rfl (blt rfl) rfl (Y.assign rfl rfl) ?_
          refine WL.nil ?_
          refine WK.then_normal (k30 _ _ ?_)
          refine WC.sub [(2, _)] ⟨rfl, trivial⟩ ?_
          refine WC.ret ?_
          refine WK.in_ret ?_
          refine WK.then_ret ?_
          refine WK.then_ret ?_
          refine WK.in_ret ?_
          refine WK.then_ret ?_
          clear k1 k7 k8 k13 k14 k17 k18 k20 k21 k23 k24 k28 k30
          refine WK.ret [_] rfl ⟨rfl, trivial⟩ ?_
          exact ⟨ret1 (vi (Sx.qry_hit (by simpa using h11) (by omega) (show i < q.l.length from by omega) inv_i (by have q := h29; simp only [Bool.and_eq_true, Bool.or_eq_true, Bool.not_eq_true', Bool.and_eq_false_iff, Bool.or_eq_false_iff, Bool.not_eq_false', decide_eq_true_eq, decide_eq_false_iff_not, beq_iff_eq, beq_eq_false_iff_ne, ne_eq] at q; exact q)).symm), xW⟩
        ·
          have p29 := (eq_t (not_f h29))
          refine WC.skip ?_
          refine WK.in_normal ?_
          refine WK.then_normal (k23 _ _ ?_)
          refine WC.sub [(1, _), (3, _)] ⟨rfl, rfl, trivial⟩ ?_
          refine WC.region rfl ?_
          refine WL.yld rfl (blt rfl) rfl (Y.move rfl rfl) ?_
          refine WL.yld rfl (blt rfl) rfl (Y.add rfl rfl rfl (wrap_i64 (by first | omega | (dsimp only; omega)))) ?_
          refine WL.yld rfl (blt rfl) rfl (Y.assign rfl rfl) ?_
          refine WL.nil ?_
          refine WK.roundS _ [(3, .int .i64 (((i + 1) : Nat) : Int))] ⟨rfl, rfl, trivial⟩ ?_ ⟨(i + 1), rfl, rfl, xW, m6, (by omega), (fun j hj => by rcases Nat.lt_succ_iff_lt_or_eq.1 hj with h | h; exact inv_i j h; rw [h]; exact (by have q := h29; simp only [Bool.and_eq_true, Bool.or_eq_true, Bool.not_eq_true', Bool.and_eq_false_iff, Bool.or_eq_false_iff, Bool.not_eq_false', decide_eq_true_eq, decide_eq_false_iff_not, beq_iff_eq, beq_eq_false_iff_ne, ne_eq] at q; exact q))⟩
          show _ - (i + 1) < _ - i; omega
      ·
        have p22 := (dec_f h22)
        refine WC.exit ?_
        refine WK.then_exit ?_
        refine WK.then_exit ?_
        refine WK.in_exit ?_
        refine WK.then_normal (k17 _ _ ?_)
        refine WC.sub [] trivial ?_
        refine WC.seq (fun K31 k31 => ?_)
        refine WC.region rfl ?_
        refine WL.yld rfl (blt rfl) rfl (Y.assign rfl rfl) ?_
        refine WL.nil ?_
        refine WK.then_normal (k31 _ _ ?_)
        refine WC.ret ?_
        clear k1 k7 k8 k13 k14 k17 k18 k20 k21 k31
        refine WK.ret [_] rfl ⟨rfl, trivial⟩ ?_
        exact ⟨ret1 (vi (Sx.qry_ok (by simpa using h11) (by omega) fun j hj => inv_i j (by omega)).symm), xW⟩
end U
end SxW

end Go.Proofs.Ytklccakoblibmaa
