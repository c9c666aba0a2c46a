/- Contracts: what a step uses. Conditions: what each theorem states. -/
import Derived.Test.YtklccakoblibmaaSxStp
namespace Go.Proofs.Ytklccakoblibmaa
open Go Go.Eng Go.RowKit
set_option linter.unusedVariables false
set_option linter.unusedSimpArgs false
namespace SxW
open B C D E
namespace G
theorem ti3 : TI Try.prog 3 (.int .i64 0) 1 8 := TI.mk (by kernel_rfl)
theorem ti9 : TI Try.prog 9 (.string ⟨#[]⟩) 1 16 := TI.mk (by kernel_rfl)
theorem ti28 : TI Try.prog 28 (.agg #[.int .i64 0, .string ⟨#[]⟩, .int .i64 0, .int .i64 0, .string ⟨#[]⟩, .slice none 0 0]) 6 80 := TI.mk (by kernel_rfl)
theorem ti34 : TI Try.prog 34 (.slice none 0 0) 1 24 := TI.mk (by kernel_rfl)
theorem ti36 : TI Try.prog 36 (.int .i64 0) 1 8 := TI.mk (by kernel_rfl)
theorem ti37 : TI Try.prog 37 (.slice none 0 0) 1 24 := TI.mk (by kernel_rfl)
theorem ti38 : TI Try.prog 38 (.slice none 0 0) 1 24 := TI.mk (by kernel_rfl)
theorem ti39 : TI Try.prog 39 (.slice none 0 0) 1 24 := TI.mk (by kernel_rfl)
theorem has56 : Has Try.prog 56 := ⟨_, Try.func56, rfl, by kernel_rfl⟩
theorem has57 : Has Try.prog 57 := ⟨_, Try.func57, rfl, by kernel_rfl⟩
theorem has58 : Has Try.prog 58 := ⟨_, Try.func58, rfl, by kernel_rfl⟩
theorem has62 : Has Try.prog 62 := ⟨_, Try.func62, rfl, by kernel_rfl⟩
theorem is_any (A_t : Option Addr) (n_t c_t : Nat) (t : List Int) (g0 : Nat) (s : Sx.St) (w : World) (h_t : Ls w A_t n_t c_t Sx.ic 1 t) (m0 : Blk w g0 41 [.int .i64 s.op, .int .i64 s.cd.op, .string s.cd.nm, .int .i64 s.cd.vk, .int .i64 s.cd.vn, .string s.cd.vs, .slice s.cd.A s.cd.n s.cd.c, .slice s.iA s.iN s.iC, .slice s.cA s.cN s.cC, .slice s.aA s.aN s.aC, .slice s.sA s.sN s.sC, .int .i64 s.N, .string s.tb]) :
    Calls Try.prog 56 #[.slice A_t n_t c_t, .pointer (some ⟨g0, 0, none⟩)] w fun e w' => e = .returned (.bool (Sx.inI t s.op)) ∧ Ext w w' := by
  have xW := Ext.refl w
  have e_t := h_t.len
  have z_t := h_t.nle
  refine calls_of_WC (args := [.slice A_t n_t c_t, .pointer (some ⟨g0, 0, none⟩)]) Try.func56 rfl rfl (ble rfl) ?_
  refine WC.seq (fun K1 k1 => ?_)
  refine WC.region rfl ?_
  refine WL.yld rfl (blt rfl) rfl (Y.assign rfl rfl) ?_
  refine WL.nil ?_
  refine WK.then_normal (k1 _ _ ?_)
  refine WC.sub [(0, _), (1, _)] ⟨rfl, rfl, trivial⟩ ?_
  refine WC.seq (fun K2 k2 => ?_)
  refine WC.region rfl ?_
  refine WL.yld rfl (blt rfl) rfl (Y.move rfl rfl) ?_
  refine WL.yld rfl (blt rfl) rfl (Y.fieldAddr rfl Try.underlying41 rfl ti36 (by decide) rfl) ?_
  refine WL.yld rfl (blt rfl) rfl (Y.load1 rfl Try.underlying36 rfl rfl (Blk.at_eq m0 rfl)) ?_
  refine WL.call rfl (blt rfl) rfl rfl rfl has57 rfl (containsI_any _ _ _ _ _ _ (h_t.ext xW)) ?_
  rintro _ w3 ⟨rfl, x4⟩
  refine ⟨_, rfl, ?_⟩
  have m0 := m0.ext x4
  have xW := Ext.trans xW x4
  refine WL.yld rfl (blt rfl) rfl (Y.assign rfl rfl) ?_
  refine WL.nil ?_
  refine WK.then_normal (k2 _ _ ?_)
  refine WC.sub [(3, _)] ⟨rfl, trivial⟩ ?_
  refine WC.ret ?_
  clear k1 k2
  refine WK.ret [_] rfl ⟨rfl, trivial⟩ ?_
  exact ⟨rfl, xW⟩
theorem uses_any (d_s : Nat) (s : Sx.St) (w : World) (g_s : Sx.GoodS d_s w s) (f_s : Sx.FewS s) :
    Calls Try.prog 35 #[.agg #[.int .i64 s.op, .int .i64 s.cd.op, .string s.cd.nm, .int .i64 s.cd.vk, .int .i64 s.cd.vn, .string s.cd.vs, .slice s.cd.A s.cd.n s.cd.c, .slice s.iA s.iN s.iC, .slice s.cA s.cN s.cC, .slice s.aA s.aN s.aC, .slice s.sA s.sN s.sC, .int .i64 s.N, .string s.tb]] w fun e w' => e = .returned (.bool (Sx.usB s)) ∧ Ext w w' := by
  have xW := Ext.refl w
  have e_il := g_s.il.len
  have e_cl := g_s.cl.len
  have e_al := g_s.al.len
  have e_sl := g_s.sl.len
  have b_il := f_s.il
  have b_cl := f_s.cl
  have b_al := f_s.al
  have b_sl := f_s.sl
  refine calls_of_WC (args := [.agg #[.int .i64 s.op, .int .i64 s.cd.op, .string s.cd.nm, .int .i64 s.cd.vk, .int .i64 s.cd.vn, .string s.cd.vs, .slice s.cd.A s.cd.n s.cd.c, .slice s.iA s.iN s.iC, .slice s.cA s.cN s.cC, .slice s.aA s.aN s.aC, .slice s.sA s.sN s.sC, .int .i64 s.N, .string s.tb]]) Try.func35 rfl rfl (ble rfl) ?_
  refine WC.seq (fun K1 k1 => ?_)
  refine WC.region rfl ?_
  refine WL.box rfl (blt rfl) rfl rfl rfl rfl ?_
  intro g2 w3 e4 x5 m6
  have o_g2 := own_new xW e4
  have xW := Ext.trans xW x5
  refine WL.yld rfl (blt rfl) rfl (Y.assign rfl rfl) ?_
  refine WL.nil ?_
  refine WK.then_normal (k1 _ _ ?_)
  refine WC.sub [(1, _)] ⟨rfl, trivial⟩ ?_
  refine WC.seq (fun K7 k7 => ?_)
  refine WC.region rfl ?_
  refine WL.yld rfl (blt rfl) rfl (Y.func rfl rfl rfl) ?_
  refine WL.yld rfl (blt rfl) rfl (Y.assign rfl rfl) ?_
  refine WL.nil ?_
  refine WK.then_normal (k7 _ _ ?_)
  refine WC.sub [(1, _), (3, _)] ⟨rfl, rfl, trivial⟩ ?_
  refine WC.seq (fun K8 k8 => ?_)
  refine WC.block ?_
  refine WC.seq (fun K9 k9 => ?_)
  refine WC.region rfl ?_
  refine WL.yld rfl (blt rfl) rfl (Y.fieldAddr rfl Try.underlying41 rfl ti36 (by decide) rfl) ?_
  refine WL.yld rfl (blt rfl) rfl (Y.load1 rfl Try.underlying36 rfl rfl (Blk.at_eq m6 rfl)) ?_
  refine WL.yld rfl (blt rfl) rfl (Y.lss rfl rfl rfl) ?_
  refine WL.yld rfl (blt rfl) rfl (Y.move rfl rfl) ?_
  refine WL.yldG rfl (blt rfl) rfl rfl rfl (fun hb => Y.fieldAddr rfl Try.underlying41 rfl ti36 (by decide) rfl) ?_
  refine WL.yldG rfl (blt rfl) rfl rfl rfl (fun hb => Y.load1 rfl Try.underlying36 rfl (evg rfl hb) (Blk.at_eq m6 rfl)) ?_
  refine WL.yldG rfl (blt rfl) rfl rfl rfl (fun hb => Y.gtr rfl (evg rfl hb) rfl) ?_
  refine WL.yld rfl (blt rfl) rfl (Y.or rfl rfl rfl rfl) ?_
  refine WL.yld rfl (blt rfl) rfl (Y.assign rfl rfl) ?_
  refine WL.nil ?_
  refine WK.then_normal (k9 _ _ ?_)
  refine WC.sub [(1, _), (3, _), (5, _)] ⟨rfl, rfl, rfl, trivial⟩ ?_
  refine WC.cond rfl (fun h10 => ?_) (fun h10 => ?_)
  ·
    have p10 := ((or_t h10).imp (fun h => (dec_t h)) (fun h => (dec_t h)))
    refine WC.seq (fun K11 k11 => ?_)
    refine WC.region rfl ?_
    refine WL.yld rfl (blt rfl) rfl (Y.assign rfl rfl) ?_
    refine WL.nil ?_
    refine WK.then_normal (k11 _ _ ?_)
    refine WC.sub [(2, _)] ⟨rfl, trivial⟩ ?_
    refine WC.ret ?_
    refine WK.in_ret ?_
    refine WK.then_ret ?_
    clear k1 k7 k8 k9 k11
    refine WK.ret [_] rfl ⟨rfl, trivial⟩ ?_
    refine ⟨ret1 (vb ?_), xW⟩
    first | (exfalso; revert h10; simp; done) | (have q0 := h10; (try simp only [Sx.emp_iff] at q0); (try simp only [Bool.and_eq_true, Bool.or_eq_true, Bool.not_eq_true', Bool.and_eq_false_iff, Bool.or_eq_false_iff, Bool.not_eq_false', decide_eq_true_eq, decide_eq_false_iff_not, beq_iff_eq, beq_eq_false_iff_ne, ne_eq, Sx.idF, Sx.idT, Sx.inI, List.any_cons, List.any_nil, Bool.or_false, Sx.zerT, Sx.zerF, Bool.not_false, Bool.not_true, Bool.and_true, Bool.and_false, Bool.true_and, Bool.false_and, Bool.false_or] at q0); refine Eq.symm ?_; unfold Sx.usB Sx.unB; rw [← Bool.decide_and]; rw [decide_eq_false_iff_not]; omega)
  ·
    have p10 := (And.intro (dec_f (or_f h10).1) (dec_f (or_f h10).2))
    refine WC.seq (fun K12 k12 => ?_)
    refine WC.seq (fun K13 k13 => ?_)
    refine WC.region rfl ?_
    refine WL.yld rfl (blt rfl) rfl (Y.move rfl rfl) ?_
    refine WL.bslice (zs := [.int .i64 0]) (cs := [_]) rfl (blt rfl) rfl rfl Try.underlying80 ti36 rfl (ble rfl) (by kernel_rfl) rfl rfl ?_
    intro g14 w15 e16 x17 m18
    have n_g2_g14 := ne_new m6 e16
    have o_g14 := own_new xW e16
    have m6 := m6.ext x17
    have xW := Ext.trans xW x17
    refine WL.callF rfl (blt rfl) rfl rfl rfl rfl has56 rfl (is_any _ _ _ _ _ _ _ (Ls.lit (f := Sx.ic) (sz := 1) (l := ([1] : List Int)) m18 (fun _ => rfl) rfl (by decide) rfl) m6) ?_
    rintro _ w19 ⟨rfl, x20⟩
    refine ⟨_, rfl, ?_⟩
    have m6 := m6.ext x20
    have m18 := m18.ext x20
    have xW := Ext.trans xW x20
    refine WL.yld rfl (blt rfl) rfl (Y.not rfl rfl) ?_
    refine WL.yld rfl (blt rfl) rfl (Y.move rfl rfl) ?_
    refine WL.yldG rfl (blt rfl) rfl rfl rfl (fun hb => Y.fieldAddr rfl Try.underlying41 rfl ti28 (by decide) rfl) ?_
    refine WL.yldG rfl (blt rfl) rfl rfl rfl (fun hb => Y.loadS (cs := [_, _, _, _, _, _]) rfl Try.underlying28 rfl ti28 (evg rfl hb) (Blk.part_eq m6 rfl)) ?_
    refine WL.callG rfl (blt rfl) rfl rfl rfl rfl rfl has58 (fun hb => (evs_cons (evg rfl hb) evs_nil)) (fun hb => zero_any _ _ _ (g_s.cd.ext xW)) (fun w21 x22 => ?_)
    have m6 := m6.ext x22
    have m18 := m18.ext x22
    have xW := Ext.trans xW x22
    refine WL.yldG rfl (blt rfl) rfl rfl rfl (fun hb => Y.not rfl (evg rfl hb)) ?_
    refine WL.yld rfl (blt rfl) rfl (Y.and rfl rfl rfl rfl) ?_
    refine WL.yld rfl (blt rfl) rfl (Y.assign rfl rfl) ?_
    refine WL.nil ?_
    refine WK.then_normal (k13 _ _ ?_)
    refine WC.sub [(1, _), (3, _), (14, _)] ⟨rfl, rfl, rfl, trivial⟩ ?_
    refine WC.cond rfl (fun h23 => ?_) (fun h23 => ?_)
    ·
      refine WC.skip ?_
      refine WK.then_normal (k12 _ _ ?_)
      refine WC.sub [(1, _), (3, _), (14, .bool true)] ⟨rfl, rfl, kn h23, trivial⟩ ?_
      refine WC.condT rfl ?_
      refine WC.seq (fun K24 k24 => ?_)
      refine WC.region rfl ?_
      refine WL.yld rfl (blt rfl) rfl (Y.assign rfl rfl) ?_
      refine WL.nil ?_
      refine WK.then_normal (k24 _ _ ?_)
      refine WC.sub [(2, _)] ⟨rfl, trivial⟩ ?_
      refine WC.ret ?_
      refine WK.in_ret ?_
      refine WK.then_ret ?_
      clear k1 k7 k8 k9 k12 k13 k24
      refine WK.ret [_] rfl ⟨rfl, trivial⟩ ?_
      refine ⟨ret1 (vb ?_), xW⟩
      first | (exfalso; revert h10; simp; done) | (exfalso; revert h23; simp; done) | (have q0 := h10; (try simp only [Sx.emp_iff] at q0); (try simp only [Bool.and_eq_true, Bool.or_eq_true, Bool.not_eq_true', Bool.and_eq_false_iff, Bool.or_eq_false_iff, Bool.not_eq_false', decide_eq_true_eq, decide_eq_false_iff_not, beq_iff_eq, beq_eq_false_iff_ne, ne_eq, Sx.idF, Sx.idT, Sx.inI, List.any_cons, List.any_nil, Bool.or_false, Sx.zerT, Sx.zerF, Bool.not_false, Bool.not_true, Bool.and_true, Bool.and_false, Bool.true_and, Bool.false_and, Bool.false_or] at q0); have q1 := h23; (try simp only [Sx.emp_iff] at q1); (try simp only [Bool.and_eq_true, Bool.or_eq_true, Bool.not_eq_true', Bool.and_eq_false_iff, Bool.or_eq_false_iff, Bool.not_eq_false', decide_eq_true_eq, decide_eq_false_iff_not, beq_iff_eq, beq_eq_false_iff_ne, ne_eq, Sx.idF, Sx.idT, Sx.inI, List.any_cons, List.any_nil, Bool.or_false, Sx.zerT, Sx.zerF, Bool.not_false, Bool.not_true, Bool.and_true, Bool.and_false, Bool.true_and, Bool.false_and, Bool.false_or] at q1); refine Eq.symm ?_; unfold Sx.usB Sx.unB; rw [← Bool.decide_and]; rw [decide_eq_false_iff_not]; omega)
    ·
      refine WC.seq (fun K25 k25 => ?_)
      refine WC.region rfl ?_
      refine WL.yld rfl (blt rfl) rfl (Y.move rfl rfl) ?_
      refine WL.bslice (zs := [.int .i64 0]) (cs := [_]) rfl (blt rfl) rfl rfl Try.underlying80 ti36 rfl (ble rfl) (by kernel_rfl) rfl rfl ?_
      intro g26 w27 e28 x29 m30
      have n_g2_g26 := ne_new m6 e28
      have o_g26 := own_new xW e28
      have m6 := m6.ext x29
      have xW := Ext.trans xW x29
      refine WL.callF rfl (blt rfl) rfl rfl rfl rfl has56 rfl (is_any _ _ _ _ _ _ _ (Ls.lit (f := Sx.ic) (sz := 1) (l := ([2] : List Int)) m30 (fun _ => rfl) rfl (by decide) rfl) m6) ?_
      rintro _ w31 ⟨rfl, x32⟩
      refine ⟨_, rfl, ?_⟩
      have m6 := m6.ext x32
      have m30 := m30.ext x32
      have xW := Ext.trans xW x32
      refine WL.yld rfl (blt rfl) rfl (Y.not rfl rfl) ?_
      refine WL.yld rfl (blt rfl) rfl (Y.move rfl rfl) ?_
      refine WL.yldG rfl (blt rfl) rfl rfl rfl (fun hb => Y.fieldAddr rfl Try.underlying41 rfl ti37 (by decide) rfl) ?_
      refine WL.yldG rfl (blt rfl) rfl rfl rfl (fun hb => Y.load1 rfl Try.underlying37 rfl (evg rfl hb) (Blk.at_eq m6 rfl)) ?_
      refine WL.yldG rfl (blt rfl) rfl rfl rfl (fun hb => Y.lenSl rfl rfl rfl Try.underlying37 (evs_cons (evg rfl hb) evs_nil)) ?_
      refine WL.yldG rfl (blt rfl) rfl rfl rfl (fun hb => Y.gtr rfl (evg rfl hb) rfl) ?_
      refine WL.yld rfl (blt rfl) rfl (Y.and rfl rfl rfl rfl) ?_
      refine WL.yld rfl (blt rfl) rfl (Y.assign rfl rfl) ?_
      refine WL.nil ?_
      refine WK.then_normal (k25 _ _ ?_)
      refine WC.sub [(1, _), (3, _), (14, _)] ⟨rfl, rfl, rfl, trivial⟩ ?_
      refine WC.cond rfl (fun h33 => ?_) (fun h33 => ?_)
      ·
        have p33 := (dec_t (and_t h33).2)
        refine WC.skip ?_
        refine WK.then_normal (k12 _ _ ?_)
        refine WC.sub [(1, _), (3, _), (14, .bool true)] ⟨rfl, rfl, kn h33, trivial⟩ ?_
        refine WC.condT rfl ?_
        refine WC.seq (fun K34 k34 => ?_)
        refine WC.region rfl ?_
        refine WL.yld rfl (blt rfl) rfl (Y.assign rfl rfl) ?_
        refine WL.nil ?_
        refine WK.then_normal (k34 _ _ ?_)
        refine WC.sub [(2, _)] ⟨rfl, trivial⟩ ?_
        refine WC.ret ?_
        refine WK.in_ret ?_
        refine WK.then_ret ?_
        clear k1 k7 k8 k9 k12 k13 k25 k34
        refine WK.ret [_] rfl ⟨rfl, trivial⟩ ?_
        refine ⟨ret1 (vb ?_), xW⟩
        first | (exfalso; revert h10; simp; done) | (exfalso; revert h23; simp; done) | (exfalso; revert h33; simp; done) | (have q0 := h10; (try simp only [Sx.emp_iff] at q0); (try simp only [Bool.and_eq_true, Bool.or_eq_true, Bool.not_eq_true', Bool.and_eq_false_iff, Bool.or_eq_false_iff, Bool.not_eq_false', decide_eq_true_eq, decide_eq_false_iff_not, beq_iff_eq, beq_eq_false_iff_ne, ne_eq, Sx.idF, Sx.idT, Sx.inI, List.any_cons, List.any_nil, Bool.or_false, Sx.zerT, Sx.zerF, Bool.not_false, Bool.not_true, Bool.and_true, Bool.and_false, Bool.true_and, Bool.false_and, Bool.false_or] at q0); have q1 := h23; (try simp only [Sx.emp_iff] at q1); (try simp only [Bool.and_eq_true, Bool.or_eq_true, Bool.not_eq_true', Bool.and_eq_false_iff, Bool.or_eq_false_iff, Bool.not_eq_false', decide_eq_true_eq, decide_eq_false_iff_not, beq_iff_eq, beq_eq_false_iff_ne, ne_eq, Sx.idF, Sx.idT, Sx.inI, List.any_cons, List.any_nil, Bool.or_false, Sx.zerT, Sx.zerF, Bool.not_false, Bool.not_true, Bool.and_true, Bool.and_false, Bool.true_and, Bool.false_and, Bool.false_or] at q1); have q2 := h33; (try simp only [Sx.emp_iff] at q2); (try simp only [Bool.and_eq_true, Bool.or_eq_true, Bool.not_eq_true', Bool.and_eq_false_iff, Bool.or_eq_false_iff, Bool.not_eq_false', decide_eq_true_eq, decide_eq_false_iff_not, beq_iff_eq, beq_eq_false_iff_ne, ne_eq, Sx.idF, Sx.idT, Sx.inI, List.any_cons, List.any_nil, Bool.or_false, Sx.zerT, Sx.zerF, Bool.not_false, Bool.not_true, Bool.and_true, Bool.and_false, Bool.true_and, Bool.false_and, Bool.false_or] at q2); refine Eq.symm ?_; unfold Sx.usB Sx.unB; rw [← Bool.decide_and]; rw [decide_eq_false_iff_not]; omega)
      ·
        have p33 := ((and_f h33).imp (fun h => h) (fun h => (dec_f h)))
        refine WC.seq (fun K35 k35 => ?_)
        refine WC.region rfl ?_
        refine WL.yld rfl (blt rfl) rfl (Y.move rfl rfl) ?_
        refine WL.bslice (zs := [.int .i64 0]) (cs := [_]) rfl (blt rfl) rfl rfl Try.underlying80 ti36 rfl (ble rfl) (by kernel_rfl) rfl rfl ?_
        intro g36 w37 e38 x39 m40
        have n_g2_g36 := ne_new m6 e38
        have o_g36 := own_new xW e38
        have m6 := m6.ext x39
        have xW := Ext.trans xW x39
        refine WL.callF rfl (blt rfl) rfl rfl rfl rfl has56 rfl (is_any _ _ _ _ _ _ _ (Ls.lit (f := Sx.ic) (sz := 1) (l := ([3] : List Int)) m40 (fun _ => rfl) rfl (by decide) rfl) m6) ?_
        rintro _ w41 ⟨rfl, x42⟩
        refine ⟨_, rfl, ?_⟩
        have m6 := m6.ext x42
        have m40 := m40.ext x42
        have xW := Ext.trans xW x42
        refine WL.yld rfl (blt rfl) rfl (Y.not rfl rfl) ?_
        refine WL.yld rfl (blt rfl) rfl (Y.move rfl rfl) ?_
        refine WL.yldG rfl (blt rfl) rfl rfl rfl (fun hb => Y.fieldAddr rfl Try.underlying41 rfl ti38 (by decide) rfl) ?_
        refine WL.yldG rfl (blt rfl) rfl rfl rfl (fun hb => Y.load1 rfl Try.underlying38 rfl (evg rfl hb) (Blk.at_eq m6 rfl)) ?_
        refine WL.yldG rfl (blt rfl) rfl rfl rfl (fun hb => Y.lenSl rfl rfl rfl Try.underlying38 (evs_cons (evg rfl hb) evs_nil)) ?_
        refine WL.yldG rfl (blt rfl) rfl rfl rfl (fun hb => Y.gtr rfl (evg rfl hb) rfl) ?_
        refine WL.yld rfl (blt rfl) rfl (Y.and rfl rfl rfl rfl) ?_
        refine WL.yld rfl (blt rfl) rfl (Y.assign rfl rfl) ?_
        refine WL.nil ?_
        refine WK.then_normal (k35 _ _ ?_)
        refine WC.sub [(1, _), (3, _), (14, _)] ⟨rfl, rfl, rfl, trivial⟩ ?_
        refine WC.cond rfl (fun h43 => ?_) (fun h43 => ?_)
        ·
          have p43 := (dec_t (and_t h43).2)
          refine WC.skip ?_
          refine WK.then_normal (k12 _ _ ?_)
          refine WC.sub [(1, _), (3, _), (14, .bool true)] ⟨rfl, rfl, kn h43, trivial⟩ ?_
          refine WC.condT rfl ?_
          refine WC.seq (fun K44 k44 => ?_)
          refine WC.region rfl ?_
          refine WL.yld rfl (blt rfl) rfl (Y.assign rfl rfl) ?_
          refine WL.nil ?_
          refine WK.then_normal (k44 _ _ ?_)
          refine WC.sub [(2, _)] ⟨rfl, trivial⟩ ?_
          refine WC.ret ?_
          refine WK.in_ret ?_
          refine WK.then_ret ?_
          clear k1 k7 k8 k9 k12 k13 k25 k35 k44
          refine WK.ret [_] rfl ⟨rfl, trivial⟩ ?_
          refine ⟨ret1 (vb ?_), xW⟩
          first | (exfalso; revert h10; simp; done) | (exfalso; revert h23; simp; done) | (exfalso; revert h33; simp; done) | (exfalso; revert h43; simp; done) | (have q0 := h10; (try simp only [Sx.emp_iff] at q0); (try simp only [Bool.and_eq_true, Bool.or_eq_true, Bool.not_eq_true', Bool.and_eq_false_iff, Bool.or_eq_false_iff, Bool.not_eq_false', decide_eq_true_eq, decide_eq_false_iff_not, beq_iff_eq, beq_eq_false_iff_ne, ne_eq, Sx.idF, Sx.idT, Sx.inI, List.any_cons, List.any_nil, Bool.or_false, Sx.zerT, Sx.zerF, Bool.not_false, Bool.not_true, Bool.and_true, Bool.and_false, Bool.true_and, Bool.false_and, Bool.false_or] at q0); have q1 := h23; (try simp only [Sx.emp_iff] at q1); (try simp only [Bool.and_eq_true, Bool.or_eq_true, Bool.not_eq_true', Bool.and_eq_false_iff, Bool.or_eq_false_iff, Bool.not_eq_false', decide_eq_true_eq, decide_eq_false_iff_not, beq_iff_eq, beq_eq_false_iff_ne, ne_eq, Sx.idF, Sx.idT, Sx.inI, List.any_cons, List.any_nil, Bool.or_false, Sx.zerT, Sx.zerF, Bool.not_false, Bool.not_true, Bool.and_true, Bool.and_false, Bool.true_and, Bool.false_and, Bool.false_or] at q1); have q2 := h33; (try simp only [Sx.emp_iff] at q2); (try simp only [Bool.and_eq_true, Bool.or_eq_true, Bool.not_eq_true', Bool.and_eq_false_iff, Bool.or_eq_false_iff, Bool.not_eq_false', decide_eq_true_eq, decide_eq_false_iff_not, beq_iff_eq, beq_eq_false_iff_ne, ne_eq, Sx.idF, Sx.idT, Sx.inI, List.any_cons, List.any_nil, Bool.or_false, Sx.zerT, Sx.zerF, Bool.not_false, Bool.not_true, Bool.and_true, Bool.and_false, Bool.true_and, Bool.false_and, Bool.false_or] at q2); have q3 := h43; (try simp only [Sx.emp_iff] at q3); (try simp only [Bool.and_eq_true, Bool.or_eq_true, Bool.not_eq_true', Bool.and_eq_false_iff, Bool.or_eq_false_iff, Bool.not_eq_false', decide_eq_true_eq, decide_eq_false_iff_not, beq_iff_eq, beq_eq_false_iff_ne, ne_eq, Sx.idF, Sx.idT, Sx.inI, List.any_cons, List.any_nil, Bool.or_false, Sx.zerT, Sx.zerF, Bool.not_false, Bool.not_true, Bool.and_true, Bool.and_false, Bool.true_and, Bool.false_and, Bool.false_or] at q3); refine Eq.symm ?_; unfold Sx.usB Sx.unB; rw [← Bool.decide_and]; rw [decide_eq_false_iff_not]; omega)
        ·
          have p43 := ((and_f h43).imp (fun h => h) (fun h => (dec_f h)))
          refine WC.seq (fun K45 k45 => ?_)
          refine WC.region rfl ?_
          refine WL.yld rfl (blt rfl) rfl (Y.move rfl rfl) ?_
          refine WL.bslice (zs := [.int .i64 0]) (cs := [_]) rfl (blt rfl) rfl rfl Try.underlying80 ti36 rfl (ble rfl) (by kernel_rfl) rfl rfl ?_
          intro g46 w47 e48 x49 m50
          have n_g2_g46 := ne_new m6 e48
          have o_g46 := own_new xW e48
          have m6 := m6.ext x49
          have xW := Ext.trans xW x49
          refine WL.callF rfl (blt rfl) rfl rfl rfl rfl has56 rfl (is_any _ _ _ _ _ _ _ (Ls.lit (f := Sx.ic) (sz := 1) (l := ([4] : List Int)) m50 (fun _ => rfl) rfl (by decide) rfl) m6) ?_
          rintro _ w51 ⟨rfl, x52⟩
          refine ⟨_, rfl, ?_⟩
          have m6 := m6.ext x52
          have m50 := m50.ext x52
          have xW := Ext.trans xW x52
          refine WL.yld rfl (blt rfl) rfl (Y.not rfl rfl) ?_
          refine WL.yld rfl (blt rfl) rfl (Y.move rfl rfl) ?_
          refine WL.yldG rfl (blt rfl) rfl rfl rfl (fun hb => Y.fieldAddr rfl Try.underlying41 rfl ti39 (by decide) rfl) ?_
          refine WL.yldG rfl (blt rfl) rfl rfl rfl (fun hb => Y.load1 rfl Try.underlying39 rfl (evg rfl hb) (Blk.at_eq m6 rfl)) ?_
          refine WL.yldG rfl (blt rfl) rfl rfl rfl (fun hb => Y.lenSl rfl rfl rfl Try.underlying39 (evs_cons (evg rfl hb) evs_nil)) ?_
          refine WL.yldG rfl (blt rfl) rfl rfl rfl (fun hb => Y.gtr rfl (evg rfl hb) rfl) ?_
          refine WL.yld rfl (blt rfl) rfl (Y.and rfl rfl rfl rfl) ?_
          refine WL.yld rfl (blt rfl) rfl (Y.assign rfl rfl) ?_
          refine WL.nil ?_
          refine WK.then_normal (k45 _ _ ?_)
          refine WC.sub [(1, _), (3, _), (14, _)] ⟨rfl, rfl, rfl, trivial⟩ ?_
          refine WC.cond rfl (fun h53 => ?_) (fun h53 => ?_)
          ·
            have p53 := (dec_t (and_t h53).2)
            refine WC.skip ?_
            refine WK.then_normal (k12 _ _ ?_)
            refine WC.sub [(1, _), (3, _), (14, .bool true)] ⟨rfl, rfl, kn h53, trivial⟩ ?_
            refine WC.condT rfl ?_
            refine WC.seq (fun K54 k54 => ?_)
            refine WC.region rfl ?_
            refine WL.yld rfl (blt rfl) rfl (Y.assign rfl rfl) ?_
            refine WL.nil ?_
            refine WK.then_normal (k54 _ _ ?_)
            refine WC.sub [(2, _)] ⟨rfl, trivial⟩ ?_
            refine WC.ret ?_
            refine WK.in_ret ?_
            refine WK.then_ret ?_
            clear k1 k7 k8 k9 k12 k13 k25 k35 k45 k54
            refine WK.ret [_] rfl ⟨rfl, trivial⟩ ?_
            refine ⟨ret1 (vb ?_), xW⟩
            first | (exfalso; revert h10; simp; done) | (exfalso; revert h23; simp; done) | (exfalso; revert h33; simp; done) | (exfalso; revert h43; simp; done) | (exfalso; revert h53; simp; done) | (have q0 := h10; (try simp only [Sx.emp_iff] at q0); (try simp only [Bool.and_eq_true, Bool.or_eq_true, Bool.not_eq_true', Bool.and_eq_false_iff, Bool.or_eq_false_iff, Bool.not_eq_false', decide_eq_true_eq, decide_eq_false_iff_not, beq_iff_eq, beq_eq_false_iff_ne, ne_eq, Sx.idF, Sx.idT, Sx.inI, List.any_cons, List.any_nil, Bool.or_false, Sx.zerT, Sx.zerF, Bool.not_false, Bool.not_true, Bool.and_true, Bool.and_false, Bool.true_and, Bool.false_and, Bool.false_or] at q0); have q1 := h23; (try simp only [Sx.emp_iff] at q1); (try simp only [Bool.and_eq_true, Bool.or_eq_true, Bool.not_eq_true', Bool.and_eq_false_iff, Bool.or_eq_false_iff, Bool.not_eq_false', decide_eq_true_eq, decide_eq_false_iff_not, beq_iff_eq, beq_eq_false_iff_ne, ne_eq, Sx.idF, Sx.idT, Sx.inI, List.any_cons, List.any_nil, Bool.or_false, Sx.zerT, Sx.zerF, Bool.not_false, Bool.not_true, Bool.and_true, Bool.and_false, Bool.true_and, Bool.false_and, Bool.false_or] at q1); have q2 := h33; (try simp only [Sx.emp_iff] at q2); (try simp only [Bool.and_eq_true, Bool.or_eq_true, Bool.not_eq_true', Bool.and_eq_false_iff, Bool.or_eq_false_iff, Bool.not_eq_false', decide_eq_true_eq, decide_eq_false_iff_not, beq_iff_eq, beq_eq_false_iff_ne, ne_eq, Sx.idF, Sx.idT, Sx.inI, List.any_cons, List.any_nil, Bool.or_false, Sx.zerT, Sx.zerF, Bool.not_false, Bool.not_true, Bool.and_true, Bool.and_false, Bool.true_and, Bool.false_and, Bool.false_or] at q2); have q3 := h43; (try simp only [Sx.emp_iff] at q3); (try simp only [Bool.and_eq_true, Bool.or_eq_true, Bool.not_eq_true', Bool.and_eq_false_iff, Bool.or_eq_false_iff, Bool.not_eq_false', decide_eq_true_eq, decide_eq_false_iff_not, beq_iff_eq, beq_eq_false_iff_ne, ne_eq, Sx.idF, Sx.idT, Sx.inI, List.any_cons, List.any_nil, Bool.or_false, Sx.zerT, Sx.zerF, Bool.not_false, Bool.not_true, Bool.and_true, Bool.and_false, Bool.true_and, Bool.false_and, Bool.false_or] at q3); have q4 := h53; (try simp only [Sx.emp_iff] at q4); (try simp only [Bool.and_eq_true, Bool.or_eq_true, Bool.not_eq_true', Bool.and_eq_false_iff, Bool.or_eq_false_iff, Bool.not_eq_false', decide_eq_true_eq, decide_eq_false_iff_not, beq_iff_eq, beq_eq_false_iff_ne, ne_eq, Sx.idF, Sx.idT, Sx.inI, List.any_cons, List.any_nil, Bool.or_false, Sx.zerT, Sx.zerF, Bool.not_false, Bool.not_true, Bool.and_true, Bool.and_false, Bool.true_and, Bool.false_and, Bool.false_or] at q4); refine Eq.symm ?_; unfold Sx.usB Sx.unB; rw [← Bool.decide_and]; rw [decide_eq_false_iff_not]; omega)
          ·
            have p53 := ((and_f h53).imp (fun h => h) (fun h => (dec_f h)))
            refine WC.region rfl ?_
            refine WL.yld rfl (blt rfl) rfl (Y.move rfl rfl) ?_
            refine WL.bslice (zs := [.int .i64 0]) (cs := [_]) rfl (blt rfl) rfl rfl Try.underlying80 ti36 rfl (ble rfl) (by kernel_rfl) rfl rfl ?_
            intro g55 w56 e57 x58 m59
            have n_g2_g55 := ne_new m6 e57
            have o_g55 := own_new xW e57
            have m6 := m6.ext x58
            have xW := Ext.trans xW x58
            refine WL.callF rfl (blt rfl) rfl rfl rfl rfl has56 rfl (is_any _ _ _ _ _ _ _ (Ls.lit (f := Sx.ic) (sz := 1) (l := ([5] : List Int)) m59 (fun _ => rfl) rfl (by decide) rfl) m6) ?_
            rintro _ w60 ⟨rfl, x61⟩
            refine ⟨_, rfl, ?_⟩
            have m6 := m6.ext x61
            have m59 := m59.ext x61
            have xW := Ext.trans xW x61
            refine WL.yld rfl (blt rfl) rfl (Y.not rfl rfl) ?_
            refine WL.yld rfl (blt rfl) rfl (Y.move rfl rfl) ?_
            refine WL.yldG rfl (blt rfl) rfl rfl rfl (fun hb => Y.fieldAddr rfl Try.underlying41 rfl ti3 (by decide) rfl) ?_
            refine WL.yldG rfl (blt rfl) rfl rfl rfl (fun hb => Y.load1 rfl Try.underlying3 rfl (evg rfl hb) (Blk.at_eq m6 rfl)) ?_
            refine WL.yldG rfl (blt rfl) rfl rfl rfl (fun hb => Y.neq rfl (evg rfl hb) rfl) ?_
            refine WL.yld rfl (blt rfl) rfl (Y.and rfl rfl rfl rfl) ?_
            refine WL.yld rfl (blt rfl) rfl (Y.assign rfl rfl) ?_
            refine WL.nil ?_
            refine WK.then_normal (k12 _ _ ?_)
            refine WC.sub [(1, _), (3, _), (14, _)] ⟨rfl, rfl, rfl, trivial⟩ ?_
            refine WC.cond rfl (fun h62 => ?_) (fun h62 => ?_)
            ·
              have p62 := (eq_f (not_t (and_t h62).2))
              refine WC.seq (fun K63 k63 => ?_)
              refine WC.region rfl ?_
              refine WL.yld rfl (blt rfl) rfl (Y.assign rfl rfl) ?_
              refine WL.nil ?_
              refine WK.then_normal (k63 _ _ ?_)
              refine WC.sub [(2, _)] ⟨rfl, trivial⟩ ?_
              refine WC.ret ?_
              refine WK.in_ret ?_
              refine WK.then_ret ?_
              clear k1 k7 k8 k9 k12 k13 k25 k35 k45 k63
              refine WK.ret [_] rfl ⟨rfl, trivial⟩ ?_
              refine ⟨ret1 (vb ?_), xW⟩
              first | (exfalso; revert h10; simp; done) | (exfalso; revert h23; simp; done) | (exfalso; revert h33; simp; done) | (exfalso; revert h43; simp; done) | (exfalso; revert h53; simp; done) | (exfalso; revert h62; simp; done) | (have q0 := h10; (try simp only [Sx.emp_iff] at q0); (try simp only [Bool.and_eq_true, Bool.or_eq_true, Bool.not_eq_true', Bool.and_eq_false_iff, Bool.or_eq_false_iff, Bool.not_eq_false', decide_eq_true_eq, decide_eq_false_iff_not, beq_iff_eq, beq_eq_false_iff_ne, ne_eq, Sx.idF, Sx.idT, Sx.inI, List.any_cons, List.any_nil, Bool.or_false, Sx.zerT, Sx.zerF, Bool.not_false, Bool.not_true, Bool.and_true, Bool.and_false, Bool.true_and, Bool.false_and, Bool.false_or] at q0); have q1 := h23; (try simp only [Sx.emp_iff] at q1); (try simp only [Bool.and_eq_true, Bool.or_eq_true, Bool.not_eq_true', Bool.and_eq_false_iff, Bool.or_eq_false_iff, Bool.not_eq_false', decide_eq_true_eq, decide_eq_false_iff_not, beq_iff_eq, beq_eq_false_iff_ne, ne_eq, Sx.idF, Sx.idT, Sx.inI, List.any_cons, List.any_nil, Bool.or_false, Sx.zerT, Sx.zerF, Bool.not_false, Bool.not_true, Bool.and_true, Bool.and_false, Bool.true_and, Bool.false_and, Bool.false_or] at q1); have q2 := h33; (try simp only [Sx.emp_iff] at q2); (try simp only [Bool.and_eq_true, Bool.or_eq_true, Bool.not_eq_true', Bool.and_eq_false_iff, Bool.or_eq_false_iff, Bool.not_eq_false', decide_eq_true_eq, decide_eq_false_iff_not, beq_iff_eq, beq_eq_false_iff_ne, ne_eq, Sx.idF, Sx.idT, Sx.inI, List.any_cons, List.any_nil, Bool.or_false, Sx.zerT, Sx.zerF, Bool.not_false, Bool.not_true, Bool.and_true, Bool.and_false, Bool.true_and, Bool.false_and, Bool.false_or] at q2); have q3 := h43; (try simp only [Sx.emp_iff] at q3); (try simp only [Bool.and_eq_true, Bool.or_eq_true, Bool.not_eq_true', Bool.and_eq_false_iff, Bool.or_eq_false_iff, Bool.not_eq_false', decide_eq_true_eq, decide_eq_false_iff_not, beq_iff_eq, beq_eq_false_iff_ne, ne_eq, Sx.idF, Sx.idT, Sx.inI, List.any_cons, List.any_nil, Bool.or_false, Sx.zerT, Sx.zerF, Bool.not_false, Bool.not_true, Bool.and_true, Bool.and_false, Bool.true_and, Bool.false_and, Bool.false_or] at q3); have q4 := h53; (try simp only [Sx.emp_iff] at q4); (try simp only [Bool.and_eq_true, Bool.or_eq_true, Bool.not_eq_true', Bool.and_eq_false_iff, Bool.or_eq_false_iff, Bool.not_eq_false', decide_eq_true_eq, decide_eq_false_iff_not, beq_iff_eq, beq_eq_false_iff_ne, ne_eq, Sx.idF, Sx.idT, Sx.inI, List.any_cons, List.any_nil, Bool.or_false, Sx.zerT, Sx.zerF, Bool.not_false, Bool.not_true, Bool.and_true, Bool.and_false, Bool.true_and, Bool.false_and, Bool.false_or] at q4); have q5 := h62; (try simp only [Sx.emp_iff] at q5); (try simp only [Bool.and_eq_true, Bool.or_eq_true, Bool.not_eq_true', Bool.and_eq_false_iff, Bool.or_eq_false_iff, Bool.not_eq_false', decide_eq_true_eq, decide_eq_false_iff_not, beq_iff_eq, beq_eq_false_iff_ne, ne_eq, Sx.idF, Sx.idT, Sx.inI, List.any_cons, List.any_nil, Bool.or_false, Sx.zerT, Sx.zerF, Bool.not_false, Bool.not_true, Bool.and_true, Bool.and_false, Bool.true_and, Bool.false_and, Bool.false_or] at q5); refine Eq.symm ?_; unfold Sx.usB Sx.unB; rw [← Bool.decide_and]; rw [decide_eq_false_iff_not]; omega)
            ·
              have p62 := ((and_f h62).imp (fun h => h) (fun h => (eq_t (not_f h))))
              refine WC.seq (fun K64 k64 => ?_)
              refine WC.region rfl ?_
              refine WL.yld rfl (blt rfl) rfl (Y.move rfl rfl) ?_
              refine WL.bslice (zs := [.int .i64 0, .int .i64 0, .int .i64 0]) (cs := [_, _, _]) rfl (blt rfl) rfl rfl Try.underlying80 ti36 rfl (ble rfl) (by kernel_rfl) rfl rfl ?_
              intro g65 w66 e67 x68 m69
              have n_g2_g65 := ne_new m6 e67
              have o_g65 := own_new xW e67
              have m6 := m6.ext x68
              have xW := Ext.trans xW x68
              refine WL.callF rfl (blt rfl) rfl rfl rfl rfl has56 rfl (is_any _ _ _ _ _ _ _ (Ls.lit (f := Sx.ic) (sz := 1) (l := ([6, 7, 8] : List Int)) m69 (fun _ => rfl) rfl (by decide) rfl) m6) ?_
              rintro _ w70 ⟨rfl, x71⟩
              refine ⟨_, rfl, ?_⟩
              have m6 := m6.ext x71
              have m69 := m69.ext x71
              have xW := Ext.trans xW x71
              refine WL.yld rfl (blt rfl) rfl (Y.not rfl rfl) ?_
              refine WL.yld rfl (blt rfl) rfl (Y.move rfl rfl) ?_
              refine WL.yldG rfl (blt rfl) rfl rfl rfl (fun hb => Y.fieldAddr rfl Try.underlying41 rfl ti9 (by decide) rfl) ?_
              refine WL.yldG rfl (blt rfl) rfl rfl rfl (fun hb => Y.load1 rfl Try.underlying9 rfl (evg rfl hb) (Blk.at_eq m6 rfl)) ?_
              refine WL.yldG rfl (blt rfl) rfl rfl rfl (fun hb => Y.neqStr rfl (evg rfl hb) rfl) ?_
              refine WL.yld rfl (blt rfl) rfl (Y.and rfl rfl rfl rfl) ?_
              refine WL.yld rfl (blt rfl) rfl (Y.assign rfl rfl) ?_
              refine WL.nil ?_
              refine WK.then_normal (k64 _ _ ?_)
              refine WC.sub [(1, _), (3, _), (64, _)] ⟨rfl, rfl, rfl, trivial⟩ ?_
              refine WC.cond rfl (fun h72 => ?_) (fun h72 => ?_)
              ·
                refine WC.seq (fun K73 k73 => ?_)
                refine WC.region rfl ?_
                refine WL.yld rfl (blt rfl) rfl (Y.assign rfl rfl) ?_
                refine WL.nil ?_
                refine WK.then_normal (k73 _ _ ?_)
                refine WC.sub [(2, _)] ⟨rfl, trivial⟩ ?_
                refine WC.ret ?_
                refine WK.in_ret ?_
                refine WK.then_ret ?_
                clear k1 k7 k8 k9 k12 k13 k25 k35 k45 k64 k73
                refine WK.ret [_] rfl ⟨rfl, trivial⟩ ?_
                refine ⟨ret1 (vb ?_), xW⟩
                first | (exfalso; revert h10; simp; done) | (exfalso; revert h23; simp; done) | (exfalso; revert h33; simp; done) | (exfalso; revert h43; simp; done) | (exfalso; revert h53; simp; done) | (exfalso; revert h62; simp; done) | (exfalso; revert h72; simp; done) | (have q0 := h10; (try simp only [Sx.emp_iff] at q0); (try simp only [Bool.and_eq_true, Bool.or_eq_true, Bool.not_eq_true', Bool.and_eq_false_iff, Bool.or_eq_false_iff, Bool.not_eq_false', decide_eq_true_eq, decide_eq_false_iff_not, beq_iff_eq, beq_eq_false_iff_ne, ne_eq, Sx.idF, Sx.idT, Sx.inI, List.any_cons, List.any_nil, Bool.or_false, Sx.zerT, Sx.zerF, Bool.not_false, Bool.not_true, Bool.and_true, Bool.and_false, Bool.true_and, Bool.false_and, Bool.false_or] at q0); have q1 := h23; (try simp only [Sx.emp_iff] at q1); (try simp only [Bool.and_eq_true, Bool.or_eq_true, Bool.not_eq_true', Bool.and_eq_false_iff, Bool.or_eq_false_iff, Bool.not_eq_false', decide_eq_true_eq, decide_eq_false_iff_not, beq_iff_eq, beq_eq_false_iff_ne, ne_eq, Sx.idF, Sx.idT, Sx.inI, List.any_cons, List.any_nil, Bool.or_false, Sx.zerT, Sx.zerF, Bool.not_false, Bool.not_true, Bool.and_true, Bool.and_false, Bool.true_and, Bool.false_and, Bool.false_or] at q1); have q2 := h33; (try simp only [Sx.emp_iff] at q2); (try simp only [Bool.and_eq_true, Bool.or_eq_true, Bool.not_eq_true', Bool.and_eq_false_iff, Bool.or_eq_false_iff, Bool.not_eq_false', decide_eq_true_eq, decide_eq_false_iff_not, beq_iff_eq, beq_eq_false_iff_ne, ne_eq, Sx.idF, Sx.idT, Sx.inI, List.any_cons, List.any_nil, Bool.or_false, Sx.zerT, Sx.zerF, Bool.not_false, Bool.not_true, Bool.and_true, Bool.and_false, Bool.true_and, Bool.false_and, Bool.false_or] at q2); have q3 := h43; (try simp only [Sx.emp_iff] at q3); (try simp only [Bool.and_eq_true, Bool.or_eq_true, Bool.not_eq_true', Bool.and_eq_false_iff, Bool.or_eq_false_iff, Bool.not_eq_false', decide_eq_true_eq, decide_eq_false_iff_not, beq_iff_eq, beq_eq_false_iff_ne, ne_eq, Sx.idF, Sx.idT, Sx.inI, List.any_cons, List.any_nil, Bool.or_false, Sx.zerT, Sx.zerF, Bool.not_false, Bool.not_true, Bool.and_true, Bool.and_false, Bool.true_and, Bool.false_and, Bool.false_or] at q3); have q4 := h53; (try simp only [Sx.emp_iff] at q4); (try simp only [Bool.and_eq_true, Bool.or_eq_true, Bool.not_eq_true', Bool.and_eq_false_iff, Bool.or_eq_false_iff, Bool.not_eq_false', decide_eq_true_eq, decide_eq_false_iff_not, beq_iff_eq, beq_eq_false_iff_ne, ne_eq, Sx.idF, Sx.idT, Sx.inI, List.any_cons, List.any_nil, Bool.or_false, Sx.zerT, Sx.zerF, Bool.not_false, Bool.not_true, Bool.and_true, Bool.and_false, Bool.true_and, Bool.false_and, Bool.false_or] at q4); have q5 := h62; (try simp only [Sx.emp_iff] at q5); (try simp only [Bool.and_eq_true, Bool.or_eq_true, Bool.not_eq_true', Bool.and_eq_false_iff, Bool.or_eq_false_iff, Bool.not_eq_false', decide_eq_true_eq, decide_eq_false_iff_not, beq_iff_eq, beq_eq_false_iff_ne, ne_eq, Sx.idF, Sx.idT, Sx.inI, List.any_cons, List.any_nil, Bool.or_false, Sx.zerT, Sx.zerF, Bool.not_false, Bool.not_true, Bool.and_true, Bool.and_false, Bool.true_and, Bool.false_and, Bool.false_or] at q5); have q6 := h72; (try simp only [Sx.emp_iff] at q6); (try simp only [Bool.and_eq_true, Bool.or_eq_true, Bool.not_eq_true', Bool.and_eq_false_iff, Bool.or_eq_false_iff, Bool.not_eq_false', decide_eq_true_eq, decide_eq_false_iff_not, beq_iff_eq, beq_eq_false_iff_ne, ne_eq, Sx.idF, Sx.idT, Sx.inI, List.any_cons, List.any_nil, Bool.or_false, Sx.zerT, Sx.zerF, Bool.not_false, Bool.not_true, Bool.and_true, Bool.and_false, Bool.true_and, Bool.false_and, Bool.false_or] at q6); refine Eq.symm ?_; unfold Sx.usB Sx.unB; rw [← Bool.decide_and]; rw [decide_eq_false_iff_not]; omega)
              ·
                refine WC.skip ?_
                refine WK.in_normal ?_
                refine WK.then_normal (k8 _ _ ?_)
                refine WC.sub [(1, _), (3, _)] ⟨rfl, rfl, trivial⟩ ?_
                refine WC.seq (fun K74 k74 => ?_)
                refine WC.region rfl ?_
                refine WL.yld rfl (blt rfl) rfl (Y.move rfl rfl) ?_
                refine WL.bslice (zs := [.int .i64 0, .int .i64 0, .int .i64 0, .int .i64 0, .int .i64 0]) (cs := [_, _, _, _, _]) rfl (blt rfl) rfl rfl Try.underlying80 ti36 rfl (ble rfl) (by kernel_rfl) rfl rfl ?_
                intro g75 w76 e77 x78 m79
                have n_g2_g75 := ne_new m6 e77
                have o_g75 := own_new xW e77
                have m6 := m6.ext x78
                have xW := Ext.trans xW x78
                refine WL.callF rfl (blt rfl) rfl rfl rfl rfl has56 rfl (is_any _ _ _ _ _ _ _ (Ls.lit (f := Sx.ic) (sz := 1) (l := ([3, 6, 7, 8, 9] : List Int)) m79 (fun _ => rfl) rfl (by decide) rfl) m6) ?_
                rintro _ w80 ⟨rfl, x81⟩
                refine ⟨_, rfl, ?_⟩
                have m6 := m6.ext x81
                have m79 := m79.ext x81
                have xW := Ext.trans xW x81
                refine WL.yld rfl (blt rfl) rfl (Y.move rfl rfl) ?_
                refine WL.yldG rfl (blt rfl) rfl rfl rfl (fun hb => Y.fieldAddr rfl Try.underlying41 rfl ti34 (by decide) rfl) ?_
                refine WL.yldG rfl (blt rfl) rfl rfl rfl (fun hb => Y.load1 rfl Try.underlying34 rfl (evg rfl hb) (Blk.at_eq m6 rfl)) ?_
                refine WL.yldG rfl (blt rfl) rfl rfl rfl (fun hb => Y.lenSl rfl rfl rfl Try.underlying34 (evs_cons (evg rfl hb) evs_nil)) ?_
                refine WL.yldG rfl (blt rfl) rfl rfl rfl (fun hb => Y.eql rfl (evg rfl hb) rfl) ?_
                refine WL.yld rfl (blt rfl) rfl (Y.or rfl rfl rfl rfl) ?_
                refine WL.yld rfl (blt rfl) rfl (Y.assign rfl rfl) ?_
                refine WL.nil ?_
                refine WK.then_normal (k74 _ _ ?_)
                refine WC.sub [(2, _)] ⟨rfl, trivial⟩ ?_
                refine WC.ret ?_
                clear k1 k7 k8 k9 k12 k13 k25 k35 k45 k64 k74
                refine WK.ret [_] rfl ⟨rfl, trivial⟩ ?_
                refine ⟨ret1 (vb ?_), xW⟩
                first | (exfalso; revert h10; simp; done) | (exfalso; revert h23; simp; done) | (exfalso; revert h33; simp; done) | (exfalso; revert h43; simp; done) | (exfalso; revert h53; simp; done) | (exfalso; revert h62; simp; done) | (exfalso; revert h72; simp; done) | (have q0 := h10; (try simp only [Sx.emp_iff] at q0); (try simp only [Bool.and_eq_true, Bool.or_eq_true, Bool.not_eq_true', Bool.and_eq_false_iff, Bool.or_eq_false_iff, Bool.not_eq_false', decide_eq_true_eq, decide_eq_false_iff_not, beq_iff_eq, beq_eq_false_iff_ne, ne_eq, Sx.idF, Sx.idT, Sx.inI, List.any_cons, List.any_nil, Bool.or_false, Sx.zerT, Sx.zerF, Bool.not_false, Bool.not_true, Bool.and_true, Bool.and_false, Bool.true_and, Bool.false_and, Bool.false_or] at q0); have q1 := h23; (try simp only [Sx.emp_iff] at q1); (try simp only [Bool.and_eq_true, Bool.or_eq_true, Bool.not_eq_true', Bool.and_eq_false_iff, Bool.or_eq_false_iff, Bool.not_eq_false', decide_eq_true_eq, decide_eq_false_iff_not, beq_iff_eq, beq_eq_false_iff_ne, ne_eq, Sx.idF, Sx.idT, Sx.inI, List.any_cons, List.any_nil, Bool.or_false, Sx.zerT, Sx.zerF, Bool.not_false, Bool.not_true, Bool.and_true, Bool.and_false, Bool.true_and, Bool.false_and, Bool.false_or] at q1); have q2 := h33; (try simp only [Sx.emp_iff] at q2); (try simp only [Bool.and_eq_true, Bool.or_eq_true, Bool.not_eq_true', Bool.and_eq_false_iff, Bool.or_eq_false_iff, Bool.not_eq_false', decide_eq_true_eq, decide_eq_false_iff_not, beq_iff_eq, beq_eq_false_iff_ne, ne_eq, Sx.idF, Sx.idT, Sx.inI, List.any_cons, List.any_nil, Bool.or_false, Sx.zerT, Sx.zerF, Bool.not_false, Bool.not_true, Bool.and_true, Bool.and_false, Bool.true_and, Bool.false_and, Bool.false_or] at q2); have q3 := h43; (try simp only [Sx.emp_iff] at q3); (try simp only [Bool.and_eq_true, Bool.or_eq_true, Bool.not_eq_true', Bool.and_eq_false_iff, Bool.or_eq_false_iff, Bool.not_eq_false', decide_eq_true_eq, decide_eq_false_iff_not, beq_iff_eq, beq_eq_false_iff_ne, ne_eq, Sx.idF, Sx.idT, Sx.inI, List.any_cons, List.any_nil, Bool.or_false, Sx.zerT, Sx.zerF, Bool.not_false, Bool.not_true, Bool.and_true, Bool.and_false, Bool.true_and, Bool.false_and, Bool.false_or] at q3); have q4 := h53; (try simp only [Sx.emp_iff] at q4); (try simp only [Bool.and_eq_true, Bool.or_eq_true, Bool.not_eq_true', Bool.and_eq_false_iff, Bool.or_eq_false_iff, Bool.not_eq_false', decide_eq_true_eq, decide_eq_false_iff_not, beq_iff_eq, beq_eq_false_iff_ne, ne_eq, Sx.idF, Sx.idT, Sx.inI, List.any_cons, List.any_nil, Bool.or_false, Sx.zerT, Sx.zerF, Bool.not_false, Bool.not_true, Bool.and_true, Bool.and_false, Bool.true_and, Bool.false_and, Bool.false_or] at q4); have q5 := h62; (try simp only [Sx.emp_iff] at q5); (try simp only [Bool.and_eq_true, Bool.or_eq_true, Bool.not_eq_true', Bool.and_eq_false_iff, Bool.or_eq_false_iff, Bool.not_eq_false', decide_eq_true_eq, decide_eq_false_iff_not, beq_iff_eq, beq_eq_false_iff_ne, ne_eq, Sx.idF, Sx.idT, Sx.inI, List.any_cons, List.any_nil, Bool.or_false, Sx.zerT, Sx.zerF, Bool.not_false, Bool.not_true, Bool.and_true, Bool.and_false, Bool.true_and, Bool.false_and, Bool.false_or] at q5); have q6 := h72; (try simp only [Sx.emp_iff] at q6); (try simp only [Bool.and_eq_true, Bool.or_eq_true, Bool.not_eq_true', Bool.and_eq_false_iff, Bool.or_eq_false_iff, Bool.not_eq_false', decide_eq_true_eq, decide_eq_false_iff_not, beq_iff_eq, beq_eq_false_iff_ne, ne_eq, Sx.idF, Sx.idT, Sx.inI, List.any_cons, List.any_nil, Bool.or_false, Sx.zerT, Sx.zerF, Bool.not_false, Bool.not_true, Bool.and_true, Bool.and_false, Bool.true_and, Bool.false_and, Bool.false_or] at q6); unfold Sx.usB Sx.unB; rw [← Bool.decide_and, Bool.eq_iff_iff]; simp only [Sx.emp_iff, Bool.and_eq_true, Bool.or_eq_true, Bool.not_eq_true', Bool.and_eq_false_iff, Bool.or_eq_false_iff, Bool.not_eq_false', decide_eq_true_eq, decide_eq_false_iff_not, beq_iff_eq, beq_eq_false_iff_ne, ne_eq, Sx.idF, Sx.idT, Sx.inI, List.any_cons, List.any_nil, Bool.or_false, Sx.zerT, Sx.zerF, Bool.not_false, Bool.not_true, Bool.and_true, Bool.and_false, Bool.true_and, Bool.false_and, Bool.false_or]; omega)
theorem unused_any (d_s : Nat) (s : Sx.St) (w : World) (g_s : Sx.GoodS d_s w s) (f_s : Sx.FewS s) :
    Calls Try.prog 41 #[.agg #[.int .i64 s.op, .int .i64 s.cd.op, .string s.cd.nm, .int .i64 s.cd.vk, .int .i64 s.cd.vn, .string s.cd.vs, .slice s.cd.A s.cd.n s.cd.c, .slice s.iA s.iN s.iC, .slice s.cA s.cN s.cC, .slice s.aA s.aN s.aC, .slice s.sA s.sN s.sC, .int .i64 s.N, .string s.tb]] w fun e w' => e = .returned (.bool (Sx.unB s)) ∧ Ext w w' := by
  have xW := Ext.refl w
  have e_il := g_s.il.len
  have e_cl := g_s.cl.len
  have e_al := g_s.al.len
  have e_sl := g_s.sl.len
  have b_il := f_s.il
  have b_cl := f_s.cl
  have b_al := f_s.al
  have b_sl := f_s.sl
  refine calls_of_WC (args := [.agg #[.int .i64 s.op, .int .i64 s.cd.op, .string s.cd.nm, .int .i64 s.cd.vk, .int .i64 s.cd.vn, .string s.cd.vs, .slice s.cd.A s.cd.n s.cd.c, .slice s.iA s.iN s.iC, .slice s.cA s.cN s.cC, .slice s.aA s.aN s.aC, .slice s.sA s.sN s.sC, .int .i64 s.N, .string s.tb]]) Try.func41 rfl rfl (ble rfl) ?_
  refine WC.seq (fun K1 k1 => ?_)
  refine WC.region rfl ?_
  refine WL.box rfl (blt rfl) rfl rfl rfl rfl ?_
  intro g2 w3 e4 x5 m6
  have o_g2 := own_new xW e4
  have xW := Ext.trans xW x5
  refine WL.yld rfl (blt rfl) rfl (Y.assign rfl rfl) ?_
  refine WL.nil ?_
  refine WK.then_normal (k1 _ _ ?_)
  refine WC.sub [(1, _)] ⟨rfl, trivial⟩ ?_
  refine WC.seq (fun K7 k7 => ?_)
  refine WC.region rfl ?_
  refine WL.yld rfl (blt rfl) rfl (Y.fieldAddr rfl Try.underlying41 rfl ti36 (by decide) rfl) ?_
  refine WL.yld rfl (blt rfl) rfl (Y.load1 rfl Try.underlying36 rfl rfl (Blk.at_eq m6 rfl)) ?_
  refine WL.yld rfl (blt rfl) rfl (Y.assign rfl rfl) ?_
  refine WL.nil ?_
  refine WK.then_normal (k7 _ _ ?_)
  refine WC.sub [(1, _), (3, _)] ⟨rfl, rfl, trivial⟩ ?_
  refine WC.seq (fun K8 k8 => ?_)
  refine WC.seq (fun K9 k9 => ?_)
  refine WC.region rfl ?_
  refine WL.yld rfl (blt rfl) rfl (Y.move rfl rfl) ?_
  refine WL.yld rfl (blt rfl) rfl (Y.neq rfl rfl rfl) ?_
  refine WL.yld rfl (blt rfl) rfl (Y.move rfl rfl) ?_
  refine WL.yldG rfl (blt rfl) rfl rfl rfl (fun hb => Y.fieldAddr rfl Try.underlying41 rfl ti28 (by decide) rfl) ?_
  refine WL.yldG rfl (blt rfl) rfl rfl rfl (fun hb => Y.loadS (cs := [_, _, _, _, _, _]) rfl Try.underlying28 rfl ti28 (evg rfl hb) (Blk.part_eq m6 rfl)) ?_
  refine WL.callG rfl (blt rfl) rfl rfl rfl rfl rfl has62 (fun hb => (evs_cons (evg rfl hb) evs_nil)) (fun hb => empty_any _ _ _ (g_s.cd.ext xW)) (fun w10 x11 => ?_)
  have m6 := m6.ext x11
  have xW := Ext.trans xW x11
  refine WL.yldG rfl (blt rfl) rfl rfl rfl (fun hb => Y.not rfl (evg rfl hb)) ?_
  refine WL.yld rfl (blt rfl) rfl (Y.and rfl rfl rfl rfl) ?_
  refine WL.yld rfl (blt rfl) rfl (Y.move rfl rfl) ?_
  refine WL.yldG rfl (blt rfl) rfl rfl rfl (fun hb => Y.move rfl rfl) ?_
  refine WL.yldG rfl (blt rfl) rfl rfl rfl (fun hb => Y.neq rfl (evg rfl hb) rfl) ?_
  refine WL.yldG rfl (blt rfl) rfl rfl rfl (fun hb => Y.move rfl (evg rfl hb)) ?_
  refine WL.yldGs [(_, _)] rfl (blt rfl) rfl rfl rfl (fun hb => Y.fieldAddr rfl Try.underlying41 rfl ti37 (by decide) rfl) ?_
  refine WL.yldGs [(_, _)] rfl (blt rfl) rfl rfl rfl (fun hb => Y.load1 rfl Try.underlying37 rfl (evg (evg rfl hb.1) hb.2.1) (Blk.at_eq m6 rfl)) ?_
  refine WL.yldGs [(_, _)] rfl (blt rfl) rfl rfl rfl (fun hb => Y.lenSl rfl rfl rfl Try.underlying37 (evs_cons (evg (evg rfl hb.1) hb.2.1) evs_nil)) ?_
  refine WL.yldGs [(_, _)] rfl (blt rfl) rfl rfl rfl (fun hb => Y.gtr rfl (evg (evg rfl hb.1) hb.2.1) rfl) ?_
  refine WL.yldG rfl (blt rfl) rfl rfl rfl (fun hb => Y.and rfl (evg rfl hb) (evg rfl hb) rfl) ?_
  refine WL.yld rfl (blt rfl) rfl (Y.or rfl rfl rfl rfl) ?_
  refine WL.yld rfl (blt rfl) rfl (Y.move rfl rfl) ?_
  refine WL.yldG rfl (blt rfl) rfl rfl rfl (fun hb => Y.move rfl rfl) ?_
  refine WL.yldG rfl (blt rfl) rfl rfl rfl (fun hb => Y.neq rfl (evg rfl hb) rfl) ?_
  refine WL.yldG rfl (blt rfl) rfl rfl rfl (fun hb => Y.move rfl (evg rfl hb)) ?_
  refine WL.yldGs [(_, _)] rfl (blt rfl) rfl rfl rfl (fun hb => Y.fieldAddr rfl Try.underlying41 rfl ti38 (by decide) rfl) ?_
  refine WL.yldGs [(_, _)] rfl (blt rfl) rfl rfl rfl (fun hb => Y.load1 rfl Try.underlying38 rfl (evg (evg rfl hb.1) hb.2.1) (Blk.at_eq m6 rfl)) ?_
  refine WL.yldGs [(_, _)] rfl (blt rfl) rfl rfl rfl (fun hb => Y.lenSl rfl rfl rfl Try.underlying38 (evs_cons (evg (evg rfl hb.1) hb.2.1) evs_nil)) ?_
  refine WL.yldGs [(_, _)] rfl (blt rfl) rfl rfl rfl (fun hb => Y.gtr rfl (evg (evg rfl hb.1) hb.2.1) rfl) ?_
  refine WL.yldG rfl (blt rfl) rfl rfl rfl (fun hb => Y.and rfl (evg rfl hb) (evg rfl hb) rfl) ?_
  refine WL.yld rfl (blt rfl) rfl (Y.or rfl rfl rfl rfl) ?_
  refine WL.nil ?_
  refine WK.then_normal (k9 _ _ ?_)
  refine WC.sub [(1, _), (3, _), (34, _)] ⟨rfl, rfl, rfl, trivial⟩ ?_
  refine WC.cond rfl (fun h12 => ?_) (fun h12 => ?_)
  ·
    have p12 := ((or_t h12).imp (fun h => ((or_t h).imp (fun h => (eq_f (not_t (and_t h).1))) (fun h => (And.intro (eq_f (not_t (and_t h).1)) (dec_t (and_t h).2))))) (fun h => (And.intro (eq_f (not_t (and_t h).1)) (dec_t (and_t h).2))))
    refine WC.seq (fun K13 k13 => ?_)
    refine WC.region rfl ?_
    refine WL.yld rfl (blt rfl) rfl (Y.assign rfl rfl) ?_
    refine WL.nil ?_
    refine WK.then_normal (k13 _ _ ?_)
    refine WC.sub [(2, _)] ⟨rfl, trivial⟩ ?_
    refine WC.ret ?_
    refine WK.then_ret ?_
    clear k1 k7 k8 k9 k13
    refine WK.ret [_] rfl ⟨rfl, trivial⟩ ?_
    refine ⟨ret1 (vb ?_), xW⟩
    first | (exfalso; revert h12; simp; done) | (have q0 := h12; (try simp only [Sx.emp_iff] at q0); (try simp only [Bool.and_eq_true, Bool.or_eq_true, Bool.not_eq_true', Bool.and_eq_false_iff, Bool.or_eq_false_iff, Bool.not_eq_false', decide_eq_true_eq, decide_eq_false_iff_not, beq_iff_eq, beq_eq_false_iff_ne, ne_eq, Sx.idF, Sx.idT, Sx.inI, List.any_cons, List.any_nil, Bool.or_false, Sx.zerT, Sx.zerF, Bool.not_false, Bool.not_true, Bool.and_true, Bool.and_false, Bool.true_and, Bool.false_and, Bool.false_or] at q0); refine Eq.symm ?_; unfold Sx.unB; rw [decide_eq_false_iff_not]; omega)
  ·
    have p12 := (And.intro (And.intro ((and_f (or_f (or_f h12).1).1).imp (fun h => (eq_t (not_f h))) (fun h => h)) ((and_f (or_f (or_f h12).1).2).imp (fun h => (eq_t (not_f h))) (fun h => (dec_f h)))) ((and_f (or_f h12).2).imp (fun h => (eq_t (not_f h))) (fun h => (dec_f h))))
    refine WC.skip ?_
    refine WK.then_normal (k8 _ _ ?_)
    refine WC.sub [(1, _), (3, _)] ⟨rfl, rfl, trivial⟩ ?_
    refine WC.seq (fun K14 k14 => ?_)
    refine WC.seq (fun K15 k15 => ?_)
    refine WC.region rfl ?_
    refine WL.yld rfl (blt rfl) rfl (Y.move rfl rfl) ?_
    refine WL.yld rfl (blt rfl) rfl (Y.neq rfl rfl rfl) ?_
    refine WL.yld rfl (blt rfl) rfl (Y.move rfl rfl) ?_
    refine WL.yldG rfl (blt rfl) rfl rfl rfl (fun hb => Y.fieldAddr rfl Try.underlying41 rfl ti39 (by decide) rfl) ?_
    refine WL.yldG rfl (blt rfl) rfl rfl rfl (fun hb => Y.load1 rfl Try.underlying39 rfl (evg rfl hb) (Blk.at_eq m6 rfl)) ?_
    refine WL.yldG rfl (blt rfl) rfl rfl rfl (fun hb => Y.lenSl rfl rfl rfl Try.underlying39 (evs_cons (evg rfl hb) evs_nil)) ?_
    refine WL.yldG rfl (blt rfl) rfl rfl rfl (fun hb => Y.gtr rfl (evg rfl hb) rfl) ?_
    refine WL.yld rfl (blt rfl) rfl (Y.and rfl rfl rfl rfl) ?_
    refine WL.yld rfl (blt rfl) rfl (Y.move rfl rfl) ?_
    refine WL.yldG rfl (blt rfl) rfl rfl rfl (fun hb => Y.move rfl rfl) ?_
    refine WL.yldG rfl (blt rfl) rfl rfl rfl (fun hb => Y.neq rfl (evg rfl hb) rfl) ?_
    refine WL.yldG rfl (blt rfl) rfl rfl rfl (fun hb => Y.move rfl (evg rfl hb)) ?_
    refine WL.yldGs [(_, _)] rfl (blt rfl) rfl rfl rfl (fun hb => Y.fieldAddr rfl Try.underlying41 rfl ti3 (by decide) rfl) ?_
    refine WL.yldGs [(_, _)] rfl (blt rfl) rfl rfl rfl (fun hb => Y.load1 rfl Try.underlying3 rfl (evg (evg rfl hb.1) hb.2.1) (Blk.at_eq m6 rfl)) ?_
    refine WL.yldGs [(_, _)] rfl (blt rfl) rfl rfl rfl (fun hb => Y.neq rfl (evg (evg rfl hb.1) hb.2.1) rfl) ?_
    refine WL.yldG rfl (blt rfl) rfl rfl rfl (fun hb => Y.and rfl (evg rfl hb) (evg rfl hb) rfl) ?_
    refine WL.yld rfl (blt rfl) rfl (Y.or rfl rfl rfl rfl) ?_
    refine WL.nil ?_
    refine WK.then_normal (k15 _ _ ?_)
    refine WC.sub [(1, _), (3, _), (51, _)] ⟨rfl, rfl, rfl, trivial⟩ ?_
    refine WC.cond rfl (fun h16 => ?_) (fun h16 => ?_)
    ·
      have p16 := ((or_t h16).imp (fun h => (And.intro (eq_f (not_t (and_t h).1)) (dec_t (and_t h).2))) (fun h => (And.intro (eq_f (not_t (and_t h).1)) (eq_f (not_t (and_t h).2)))))
      refine WC.seq (fun K17 k17 => ?_)
      refine WC.region rfl ?_
      refine WL.yld rfl (blt rfl) rfl (Y.assign rfl rfl) ?_
      refine WL.nil ?_
      refine WK.then_normal (k17 _ _ ?_)
      refine WC.sub [(2, _)] ⟨rfl, trivial⟩ ?_
      refine WC.ret ?_
      refine WK.then_ret ?_
      clear k1 k7 k8 k9 k14 k15 k17
      refine WK.ret [_] rfl ⟨rfl, trivial⟩ ?_
      refine ⟨ret1 (vb ?_), xW⟩
      first | (exfalso; revert h12; simp; done) | (exfalso; revert h16; simp; done) | (have q0 := h12; (try simp only [Sx.emp_iff] at q0); (try simp only [Bool.and_eq_true, Bool.or_eq_true, Bool.not_eq_true', Bool.and_eq_false_iff, Bool.or_eq_false_iff, Bool.not_eq_false', decide_eq_true_eq, decide_eq_false_iff_not, beq_iff_eq, beq_eq_false_iff_ne, ne_eq, Sx.idF, Sx.idT, Sx.inI, List.any_cons, List.any_nil, Bool.or_false, Sx.zerT, Sx.zerF, Bool.not_false, Bool.not_true, Bool.and_true, Bool.and_false, Bool.true_and, Bool.false_and, Bool.false_or] at q0); have q1 := h16; (try simp only [Sx.emp_iff] at q1); (try simp only [Bool.and_eq_true, Bool.or_eq_true, Bool.not_eq_true', Bool.and_eq_false_iff, Bool.or_eq_false_iff, Bool.not_eq_false', decide_eq_true_eq, decide_eq_false_iff_not, beq_iff_eq, beq_eq_false_iff_ne, ne_eq, Sx.idF, Sx.idT, Sx.inI, List.any_cons, List.any_nil, Bool.or_false, Sx.zerT, Sx.zerF, Bool.not_false, Bool.not_true, Bool.and_true, Bool.and_false, Bool.true_and, Bool.false_and, Bool.false_or] at q1); refine Eq.symm ?_; unfold Sx.unB; rw [decide_eq_false_iff_not]; omega)
    ·
      have p16 := (And.intro ((and_f (or_f h16).1).imp (fun h => (eq_t (not_f h))) (fun h => (dec_f h))) ((and_f (or_f h16).2).imp (fun h => (eq_t (not_f h))) (fun h => (eq_t (not_f h)))))
      refine WC.skip ?_
      refine WK.then_normal (k14 _ _ ?_)
      refine WC.sub [(1, _), (3, _)] ⟨rfl, rfl, trivial⟩ ?_
      refine WC.seq (fun K18 k18 => ?_)
      refine WC.region rfl ?_
      refine WL.yld rfl (blt rfl) rfl (Y.move rfl rfl) ?_
      refine WL.yld rfl (blt rfl) rfl (Y.eql rfl rfl rfl) ?_
      refine WL.yld rfl (blt rfl) rfl (Y.move rfl rfl) ?_
      refine WL.yldG rfl (blt rfl) rfl rfl rfl (fun hb => Y.move rfl rfl) ?_
      refine WL.yldG rfl (blt rfl) rfl rfl rfl (fun hb => Y.eql rfl (evg rfl hb) rfl) ?_
      refine WL.yld rfl (blt rfl) rfl (Y.or rfl rfl rfl rfl) ?_
      refine WL.yld rfl (blt rfl) rfl (Y.move rfl rfl) ?_
      refine WL.yldG rfl (blt rfl) rfl rfl rfl (fun hb => Y.move rfl rfl) ?_
      refine WL.yldG rfl (blt rfl) rfl rfl rfl (fun hb => Y.eql rfl (evg rfl hb) rfl) ?_
      refine WL.yld rfl (blt rfl) rfl (Y.or rfl rfl rfl rfl) ?_
      refine WL.yld rfl (blt rfl) rfl (Y.assign rfl rfl) ?_
      refine WL.nil ?_
      refine WK.then_normal (k18 _ _ ?_)
      refine WC.sub [(1, _), (3, _), (4, _)] ⟨rfl, rfl, rfl, trivial⟩ ?_
      refine WC.seq (fun K19 k19 => ?_)
      refine WC.region rfl ?_
      refine WL.yld rfl (blt rfl) rfl (Y.move rfl rfl) ?_
      refine WL.yld rfl (blt rfl) rfl (Y.move rfl rfl) ?_
      refine WL.yldG rfl (blt rfl) rfl rfl rfl (fun hb => Y.fieldAddr rfl Try.underlying41 rfl ti9 (by decide) rfl) ?_
      refine WL.yldG rfl (blt rfl) rfl rfl rfl (fun hb => Y.load1 rfl Try.underlying9 rfl (evg rfl hb) (Blk.at_eq m6 rfl)) ?_
      refine WL.yldG rfl (blt rfl) rfl rfl rfl (fun hb => Y.eqlStr rfl (evg rfl hb) rfl) ?_
      refine WL.yld rfl (blt rfl) rfl (Y.or rfl rfl rfl rfl) ?_
      refine WL.yld rfl (blt rfl) rfl (Y.move rfl rfl) ?_
      refine WL.yldG rfl (blt rfl) rfl rfl rfl (fun hb => Y.move rfl rfl) ?_
      refine WL.yldG rfl (blt rfl) rfl rfl rfl (fun hb => Y.move rfl (evg rfl hb)) ?_
      refine WL.yldGs [(_, _)] rfl (blt rfl) rfl rfl rfl (fun hb => Y.move rfl rfl) ?_
      refine WL.yldGs [(_, _)] rfl (blt rfl) rfl rfl rfl (fun hb => Y.eql rfl (evg (evg rfl hb.1) hb.2.1) rfl) ?_
      refine WL.yldG rfl (blt rfl) rfl rfl rfl (fun hb => Y.or rfl (evg rfl hb) rfl (evg rfl hb)) ?_
      refine WL.yldG rfl (blt rfl) rfl rfl rfl (fun hb => Y.move rfl (evg rfl hb)) ?_
      refine WL.yldGs [(_, _)] rfl (blt rfl) rfl rfl rfl (fun hb => Y.move rfl rfl) ?_
      refine WL.yldGs [(_, _)] rfl (blt rfl) rfl rfl rfl (fun hb => Y.eql rfl (evg (evg rfl hb.1) hb.2.1) rfl) ?_
      refine WL.yldG rfl (blt rfl) rfl rfl rfl (fun hb => Y.or rfl (evg rfl hb) rfl (evg rfl hb)) ?_
      refine WL.yldG rfl (blt rfl) rfl rfl rfl (fun hb => Y.move rfl (evg rfl hb)) ?_
      refine WL.yldGs [(_, _)] rfl (blt rfl) rfl rfl rfl (fun hb => Y.fieldAddr rfl Try.underlying41 rfl ti34 (by decide) rfl) ?_
      refine WL.yldGs [(_, _)] rfl (blt rfl) rfl rfl rfl (fun hb => Y.load1 rfl Try.underlying34 rfl (evg (evg rfl hb.1) hb.2.1) (Blk.at_eq m6 rfl)) ?_
      refine WL.yldGs [(_, _)] rfl (blt rfl) rfl rfl rfl (fun hb => Y.lenSl rfl rfl rfl Try.underlying34 (evs_cons (evg (evg rfl hb.1) hb.2.1) evs_nil)) ?_
      refine WL.yldGs [(_, _)] rfl (blt rfl) rfl rfl rfl (fun hb => Y.eql rfl (evg (evg rfl hb.1) hb.2.1) rfl) ?_
      refine WL.yldG rfl (blt rfl) rfl rfl rfl (fun hb => Y.or rfl (evg rfl hb) rfl (evg rfl hb)) ?_
      refine WL.yld rfl (blt rfl) rfl (Y.and rfl rfl rfl rfl) ?_
      refine WL.yld rfl (blt rfl) rfl (Y.assign rfl rfl) ?_
      refine WL.nil ?_
      refine WK.then_normal (k19 _ _ ?_)
      refine WC.sub [(2, _)] ⟨rfl, trivial⟩ ?_
      refine WC.ret ?_
      clear k1 k7 k8 k9 k14 k15 k18 k19
      refine WK.ret [_] rfl ⟨rfl, trivial⟩ ?_
      refine ⟨ret1 (vb ?_), xW⟩
      first | (exfalso; revert h12; simp; done) | (exfalso; revert h16; simp; done) | (have q0 := h12; (try simp only [Sx.emp_iff] at q0); (try simp only [Bool.and_eq_true, Bool.or_eq_true, Bool.not_eq_true', Bool.and_eq_false_iff, Bool.or_eq_false_iff, Bool.not_eq_false', decide_eq_true_eq, decide_eq_false_iff_not, beq_iff_eq, beq_eq_false_iff_ne, ne_eq, Sx.idF, Sx.idT, Sx.inI, List.any_cons, List.any_nil, Bool.or_false, Sx.zerT, Sx.zerF, Bool.not_false, Bool.not_true, Bool.and_true, Bool.and_false, Bool.true_and, Bool.false_and, Bool.false_or] at q0); have q1 := h16; (try simp only [Sx.emp_iff] at q1); (try simp only [Bool.and_eq_true, Bool.or_eq_true, Bool.not_eq_true', Bool.and_eq_false_iff, Bool.or_eq_false_iff, Bool.not_eq_false', decide_eq_true_eq, decide_eq_false_iff_not, beq_iff_eq, beq_eq_false_iff_ne, ne_eq, Sx.idF, Sx.idT, Sx.inI, List.any_cons, List.any_nil, Bool.or_false, Sx.zerT, Sx.zerF, Bool.not_false, Bool.not_true, Bool.and_true, Bool.and_false, Bool.true_and, Bool.false_and, Bool.false_or] at q1); unfold Sx.unB; rw [Bool.eq_iff_iff]; simp only [Sx.emp_iff, Bool.and_eq_true, Bool.or_eq_true, Bool.not_eq_true', Bool.and_eq_false_iff, Bool.or_eq_false_iff, Bool.not_eq_false', decide_eq_true_eq, decide_eq_false_iff_not, beq_iff_eq, beq_eq_false_iff_ne, ne_eq, Sx.idF, Sx.idT, Sx.inI, List.any_cons, List.any_nil, Bool.or_false, Sx.zerT, Sx.zerF, Bool.not_false, Bool.not_true, Bool.and_true, Bool.and_false, Bool.true_and, Bool.false_and, Bool.false_or]; omega)
theorem sizes_any (d_s : Nat) (s : Sx.St) (w : World) (g_s : Sx.GoodS d_s w s) (f_s : Sx.FewS s) :
    Calls Try.prog 43 #[.agg #[.int .i64 s.op, .int .i64 s.cd.op, .string s.cd.nm, .int .i64 s.cd.vk, .int .i64 s.cd.vn, .string s.cd.vs, .slice s.cd.A s.cd.n s.cd.c, .slice s.iA s.iN s.iC, .slice s.cA s.cN s.cC, .slice s.aA s.aN s.aC, .slice s.sA s.sN s.sC, .int .i64 s.N, .string s.tb]] w fun e w' => e = .returned (.int .i64 (Sx.szE s)) ∧ Ext w w' := by
  have xW := Ext.refl w
  have e_il := g_s.il.len
  have e_cl := g_s.cl.len
  have e_al := g_s.al.len
  have e_sl := g_s.sl.len
  have b_il := f_s.il
  have b_cl := f_s.cl
  have b_al := f_s.al
  have b_sl := f_s.sl
  refine calls_of_WC (args := [.agg #[.int .i64 s.op, .int .i64 s.cd.op, .string s.cd.nm, .int .i64 s.cd.vk, .int .i64 s.cd.vn, .string s.cd.vs, .slice s.cd.A s.cd.n s.cd.c, .slice s.iA s.iN s.iC, .slice s.cA s.cN s.cC, .slice s.aA s.aN s.aC, .slice s.sA s.sN s.sC, .int .i64 s.N, .string s.tb]]) Try.func43 rfl rfl (ble rfl) ?_
  refine WC.seq (fun K1 k1 => ?_)
  refine WC.region rfl ?_
  refine WL.box rfl (blt rfl) rfl rfl rfl rfl ?_
  intro g2 w3 e4 x5 m6
  have o_g2 := own_new xW e4
  have xW := Ext.trans xW x5
  refine WL.yld rfl (blt rfl) rfl (Y.assign rfl rfl) ?_
  refine WL.nil ?_
  refine WK.then_normal (k1 _ _ ?_)
  refine WC.sub [(1, _)] ⟨rfl, trivial⟩ ?_
  refine WC.seq (fun K7 k7 => ?_)
  refine WC.region rfl ?_
  refine WL.yld rfl (blt rfl) rfl (Y.fieldAddr rfl Try.underlying41 rfl ti36 (by decide) rfl) ?_
  refine WL.yld rfl (blt rfl) rfl (Y.load1 rfl Try.underlying36 rfl rfl (Blk.at_eq m6 rfl)) ?_
  refine WL.yld rfl (blt rfl) rfl (Y.eql rfl rfl rfl) ?_
  refine WL.yld rfl (blt rfl) rfl (Y.move rfl rfl) ?_
  refine WL.yldG rfl (blt rfl) rfl rfl rfl (fun hb => Y.fieldAddr rfl Try.underlying41 rfl ti37 (by decide) rfl) ?_
  refine WL.yldG rfl (blt rfl) rfl rfl rfl (fun hb => Y.load1 rfl Try.underlying37 rfl (evg rfl hb) (Blk.at_eq m6 rfl)) ?_
  refine WL.yldG rfl (blt rfl) rfl rfl rfl (fun hb => Y.lenSl rfl rfl rfl Try.underlying37 (evs_cons (evg rfl hb) evs_nil)) ?_
  refine WL.yldG rfl (blt rfl) rfl rfl rfl (fun hb => Y.eql rfl (evg rfl hb) rfl) ?_
  refine WL.yld rfl (blt rfl) rfl (Y.and rfl rfl rfl rfl) ?_
  refine WL.yld rfl (blt rfl) rfl (Y.move rfl rfl) ?_
  refine WL.yldG rfl (blt rfl) rfl rfl rfl (fun hb => Y.fieldAddr rfl Try.underlying41 rfl ti36 (by decide) rfl) ?_
  refine WL.yldG rfl (blt rfl) rfl rfl rfl (fun hb => Y.load1 rfl Try.underlying36 rfl (evg rfl hb) (Blk.at_eq m6 rfl)) ?_
  refine WL.yldG rfl (blt rfl) rfl rfl rfl (fun hb => Y.eql rfl (evg rfl hb) rfl) ?_
  refine WL.yldG rfl (blt rfl) rfl rfl rfl (fun hb => Y.move rfl (evg rfl hb)) ?_
  refine WL.yldGs [(_, _)] rfl (blt rfl) rfl rfl rfl (fun hb => Y.fieldAddr rfl Try.underlying41 rfl ti34 (by decide) rfl) ?_
  refine WL.yldGs [(_, _)] rfl (blt rfl) rfl rfl rfl (fun hb => Y.load1 rfl Try.underlying34 rfl (evg (evg rfl hb.1) hb.2.1) (Blk.at_eq m6 rfl)) ?_
  refine WL.yldGs [(_, _)] rfl (blt rfl) rfl rfl rfl (fun hb => Y.lenSl rfl rfl rfl Try.underlying34 (evs_cons (evg (evg rfl hb.1) hb.2.1) evs_nil)) ?_
  refine WL.yldGs [(_, _)] rfl (blt rfl) rfl rfl rfl (fun hb => Y.fieldAddr rfl Try.underlying41 rfl ti38 (by decide) rfl) ?_
  refine WL.yldGs [(_, _)] rfl (blt rfl) rfl rfl rfl (fun hb => Y.load1 rfl Try.underlying38 rfl (evg (evg rfl hb.1) hb.2.1) (Blk.at_eq m6 rfl)) ?_
  refine WL.yldGs [(_, _)] rfl (blt rfl) rfl rfl rfl (fun hb => Y.lenSl rfl rfl rfl Try.underlying38 (evs_cons (evg (evg rfl hb.1) hb.2.1) evs_nil)) ?_
  refine WL.yldGs [(_, _)] rfl (blt rfl) rfl rfl rfl (fun hb => Y.add rfl (evg (evg rfl hb.1) hb.2.1) (evg (evg rfl hb.1) hb.2.1) (wrap_i64 (by have q0 := ((and_f hb.1).imp (fun h => (eq_f h)) (fun h => (eq_f h))); have q1 := (eq_t hb.2.1); first | omega | (dsimp only; omega)))) ?_
  refine WL.yldGs [(_, _)] rfl (blt rfl) rfl rfl rfl (fun hb => Y.eql rfl (evg (evg rfl hb.1) hb.2.1) rfl) ?_
  refine WL.yldG rfl (blt rfl) rfl rfl rfl (fun hb => Y.and rfl (evg rfl hb) (evg rfl hb) rfl) ?_
  refine WL.yld rfl (blt rfl) rfl (Y.or rfl rfl rfl rfl) ?_
  refine WL.yld rfl (blt rfl) rfl (Y.move rfl rfl) ?_
  refine WL.yldG rfl (blt rfl) rfl rfl rfl (fun hb => Y.fieldAddr rfl Try.underlying41 rfl ti36 (by decide) rfl) ?_
  refine WL.yldG rfl (blt rfl) rfl rfl rfl (fun hb => Y.load1 rfl Try.underlying36 rfl (evg rfl hb) (Blk.at_eq m6 rfl)) ?_
  refine WL.yldG rfl (blt rfl) rfl rfl rfl (fun hb => Y.eql rfl (evg rfl hb) rfl) ?_
  refine WL.yldG rfl (blt rfl) rfl rfl rfl (fun hb => Y.move rfl (evg rfl hb)) ?_
  refine WL.yldGs [(_, _)] rfl (blt rfl) rfl rfl rfl (fun hb => Y.fieldAddr rfl Try.underlying41 rfl ti39 (by decide) rfl) ?_
  refine WL.yldGs [(_, _)] rfl (blt rfl) rfl rfl rfl (fun hb => Y.load1 rfl Try.underlying39 rfl (evg (evg rfl hb.1) hb.2.1) (Blk.at_eq m6 rfl)) ?_
  refine WL.yldGs [(_, _)] rfl (blt rfl) rfl rfl rfl (fun hb => Y.lenSl rfl rfl rfl Try.underlying39 (evs_cons (evg (evg rfl hb.1) hb.2.1) evs_nil)) ?_
  refine WL.yldGs [(_, _)] rfl (blt rfl) rfl rfl rfl (fun hb => Y.eql rfl (evg (evg rfl hb.1) hb.2.1) rfl) ?_
  refine WL.yldG rfl (blt rfl) rfl rfl rfl (fun hb => Y.and rfl (evg rfl hb) (evg rfl hb) rfl) ?_
  refine WL.yld rfl (blt rfl) rfl (Y.or rfl rfl rfl rfl) ?_
  refine WL.yld rfl (blt rfl) rfl (Y.move rfl rfl) ?_
  refine WL.yldG rfl (blt rfl) rfl rfl rfl (fun hb => Y.fieldAddr rfl Try.underlying41 rfl ti36 (by decide) rfl) ?_
  refine WL.yldG rfl (blt rfl) rfl rfl rfl (fun hb => Y.load1 rfl Try.underlying36 rfl (evg rfl hb) (Blk.at_eq m6 rfl)) ?_
  refine WL.yldG rfl (blt rfl) rfl rfl rfl (fun hb => Y.eql rfl (evg rfl hb) rfl) ?_
  refine WL.yldG rfl (blt rfl) rfl rfl rfl (fun hb => Y.move rfl (evg rfl hb)) ?_
  refine WL.yldGs [(_, _)] rfl (blt rfl) rfl rfl rfl (fun hb => Y.fieldAddr rfl Try.underlying41 rfl ti34 (by decide) rfl) ?_
  refine WL.yldGs [(_, _)] rfl (blt rfl) rfl rfl rfl (fun hb => Y.load1 rfl Try.underlying34 rfl (evg (evg rfl hb.1) hb.2.1) (Blk.at_eq m6 rfl)) ?_
  refine WL.yldGs [(_, _)] rfl (blt rfl) rfl rfl rfl (fun hb => Y.lenSl rfl rfl rfl Try.underlying34 (evs_cons (evg (evg rfl hb.1) hb.2.1) evs_nil)) ?_
  refine WL.yldGs [(_, _)] rfl (blt rfl) rfl rfl rfl (fun hb => Y.eql rfl (evg (evg rfl hb.1) hb.2.1) rfl) ?_
  refine WL.yldG rfl (blt rfl) rfl rfl rfl (fun hb => Y.and rfl (evg rfl hb) (evg rfl hb) rfl) ?_
  refine WL.yld rfl (blt rfl) rfl (Y.or rfl rfl rfl rfl) ?_
  refine WL.yld rfl (blt rfl) rfl (Y.assign rfl rfl) ?_
  refine WL.nil ?_
  refine WK.then_normal (k7 _ _ ?_)
  refine WC.sub [(1, _), (3, _)] ⟨rfl, rfl, trivial⟩ ?_
  refine WC.seq (fun K8 k8 => ?_)
  refine WC.seq (fun K9 k9 => ?_)
  refine WC.region rfl ?_
  refine WL.yld rfl (blt rfl) rfl (Y.move rfl rfl) ?_
  refine WL.nil ?_
  refine WK.then_normal (k9 _ _ ?_)
  refine WC.sub [(1, _), (50, _)] ⟨rfl, rfl, trivial⟩ ?_
  refine WC.cond rfl (fun h10 => ?_) (fun h10 => ?_)
  ·
    have p10 := ((or_t h10).imp (fun h => ((or_t h).imp (fun h => ((or_t h).imp (fun h => (And.intro (eq_t (and_t h).1) (eq_t (and_t h).2))) (fun h => (And.intro (eq_t (and_t h).1) (eq_t (and_t h).2))))) (fun h => (And.intro (eq_t (and_t h).1) (eq_t (and_t h).2))))) (fun h => (And.intro (eq_t (and_t h).1) (eq_t (and_t h).2))))
    refine WC.seq (fun K11 k11 => ?_)
    refine WC.region rfl ?_
    refine WL.yld rfl (blt rfl) rfl (Y.assign rfl rfl) ?_
    refine WL.nil ?_
    refine WK.then_normal (k11 _ _ ?_)
    refine WC.sub [(2, _)] ⟨rfl, trivial⟩ ?_
    refine WC.ret ?_
    refine WK.then_ret ?_
    clear k1 k7 k8 k9 k11
    refine WK.ret [_] rfl ⟨rfl, trivial⟩ ?_
    refine ⟨ret1 (vi ?_), xW⟩
    have q0 := h10
    (try simp only [Sx.emp_iff] at q0)
    (try simp only [Bool.and_eq_true, Bool.or_eq_true, Bool.not_eq_true', Bool.and_eq_false_iff, Bool.or_eq_false_iff, Bool.not_eq_false', decide_eq_true_eq, decide_eq_false_iff_not, beq_iff_eq, beq_eq_false_iff_ne, ne_eq, Sx.idF, Sx.idT, Sx.inI, List.any_cons, List.any_nil, Bool.or_false, Sx.zerT, Sx.zerF, Bool.not_false, Bool.not_true, Bool.and_true, Bool.and_false, Bool.true_and, Bool.false_and, Bool.false_or] at q0)
    unfold Sx.szE
    (repeat (first | rw [if_pos (by omega)] | rw [if_neg (by omega)]))
  ·
    have p10 := (And.intro (And.intro (And.intro ((and_f (or_f (or_f (or_f h10).1).1).1).imp (fun h => (eq_f h)) (fun h => (eq_f h))) ((and_f (or_f (or_f (or_f h10).1).1).2).imp (fun h => (eq_f h)) (fun h => (eq_f h)))) ((and_f (or_f (or_f h10).1).2).imp (fun h => (eq_f h)) (fun h => (eq_f h)))) ((and_f (or_f h10).2).imp (fun h => (eq_f h)) (fun h => (eq_f h))))
    refine WC.skip ?_
    refine WK.then_normal (k8 _ _ ?_)
    refine WC.sub [(1, _)] ⟨rfl, trivial⟩ ?_
    refine WC.seq (fun K12 k12 => ?_)
    refine WC.seq (fun K13 k13 => ?_)
    refine WC.region rfl ?_
    refine WL.yld rfl (blt rfl) rfl (Y.fieldAddr rfl Try.underlying41 rfl ti37 (by decide) rfl) ?_
    refine WL.yld rfl (blt rfl) rfl (Y.load1 rfl Try.underlying37 rfl rfl (Blk.at_eq m6 rfl)) ?_
    refine WL.yld rfl (blt rfl) rfl (Y.lenSl rfl rfl rfl Try.underlying37 rfl) ?_
    refine WL.yld rfl (blt rfl) rfl (Y.gtr rfl rfl rfl) ?_
    refine WL.yld rfl (blt rfl) rfl (Y.move rfl rfl) ?_
    refine WL.yldG rfl (blt rfl) rfl rfl rfl (fun hb => Y.fieldAddr rfl Try.underlying41 rfl ti34 (by decide) rfl) ?_
    refine WL.yldG rfl (blt rfl) rfl rfl rfl (fun hb => Y.load1 rfl Try.underlying34 rfl (evg rfl hb) (Blk.at_eq m6 rfl)) ?_
    refine WL.yldG rfl (blt rfl) rfl rfl rfl (fun hb => Y.lenSl rfl rfl rfl Try.underlying34 (evs_cons (evg rfl hb) evs_nil)) ?_
    refine WL.yldG rfl (blt rfl) rfl rfl rfl (fun hb => Y.gtr rfl (evg rfl hb) rfl) ?_
    refine WL.yld rfl (blt rfl) rfl (Y.or rfl rfl rfl rfl) ?_
    refine WL.yld rfl (blt rfl) rfl (Y.move rfl rfl) ?_
    refine WL.yldG rfl (blt rfl) rfl rfl rfl (fun hb => Y.fieldAddr rfl Try.underlying41 rfl ti38 (by decide) rfl) ?_
    refine WL.yldG rfl (blt rfl) rfl rfl rfl (fun hb => Y.load1 rfl Try.underlying38 rfl (evg rfl hb) (Blk.at_eq m6 rfl)) ?_
    refine WL.yldG rfl (blt rfl) rfl rfl rfl (fun hb => Y.lenSl rfl rfl rfl Try.underlying38 (evs_cons (evg rfl hb) evs_nil)) ?_
    refine WL.yldG rfl (blt rfl) rfl rfl rfl (fun hb => Y.gtr rfl (evg rfl hb) rfl) ?_
    refine WL.yld rfl (blt rfl) rfl (Y.or rfl rfl rfl rfl) ?_
    refine WL.yld rfl (blt rfl) rfl (Y.move rfl rfl) ?_
    refine WL.yldG rfl (blt rfl) rfl rfl rfl (fun hb => Y.fieldAddr rfl Try.underlying41 rfl ti39 (by decide) rfl) ?_
    refine WL.yldG rfl (blt rfl) rfl rfl rfl (fun hb => Y.load1 rfl Try.underlying39 rfl (evg rfl hb) (Blk.at_eq m6 rfl)) ?_
    refine WL.yldG rfl (blt rfl) rfl rfl rfl (fun hb => Y.lenSl rfl rfl rfl Try.underlying39 (evs_cons (evg rfl hb) evs_nil)) ?_
    refine WL.yldG rfl (blt rfl) rfl rfl rfl (fun hb => Y.gtr rfl (evg rfl hb) rfl) ?_
    refine WL.yld rfl (blt rfl) rfl (Y.or rfl rfl rfl rfl) ?_
    refine WL.nil ?_
    refine WK.then_normal (k13 _ _ ?_)
    refine WC.sub [(72, _)] ⟨rfl, trivial⟩ ?_
    refine WC.cond rfl (fun h14 => ?_) (fun h14 => ?_)
    ·
      have p14 := ((or_t h14).imp (fun h => ((or_t h).imp (fun h => ((or_t h).imp (fun h => (dec_t h)) (fun h => (dec_t h)))) (fun h => (dec_t h)))) (fun h => (dec_t h)))
      refine WC.seq (fun K15 k15 => ?_)
      refine WC.region rfl ?_
      refine WL.yld rfl (blt rfl) rfl (Y.assign rfl rfl) ?_
      refine WL.nil ?_
      refine WK.then_normal (k15 _ _ ?_)
      refine WC.sub [(2, _)] ⟨rfl, trivial⟩ ?_
      refine WC.ret ?_
      refine WK.then_ret ?_
      clear k1 k7 k8 k9 k12 k13 k15
      refine WK.ret [_] rfl ⟨rfl, trivial⟩ ?_
      refine ⟨ret1 (vi ?_), xW⟩
      have q0 := h10
      (try simp only [Sx.emp_iff] at q0)
      (try simp only [Bool.and_eq_true, Bool.or_eq_true, Bool.not_eq_true', Bool.and_eq_false_iff, Bool.or_eq_false_iff, Bool.not_eq_false', decide_eq_true_eq, decide_eq_false_iff_not, beq_iff_eq, beq_eq_false_iff_ne, ne_eq, Sx.idF, Sx.idT, Sx.inI, List.any_cons, List.any_nil, Bool.or_false, Sx.zerT, Sx.zerF, Bool.not_false, Bool.not_true, Bool.and_true, Bool.and_false, Bool.true_and, Bool.false_and, Bool.false_or] at q0)
      have q1 := h14
      (try simp only [Sx.emp_iff] at q1)
      (try simp only [Bool.and_eq_true, Bool.or_eq_true, Bool.not_eq_true', Bool.and_eq_false_iff, Bool.or_eq_false_iff, Bool.not_eq_false', decide_eq_true_eq, decide_eq_false_iff_not, beq_iff_eq, beq_eq_false_iff_ne, ne_eq, Sx.idF, Sx.idT, Sx.inI, List.any_cons, List.any_nil, Bool.or_false, Sx.zerT, Sx.zerF, Bool.not_false, Bool.not_true, Bool.and_true, Bool.and_false, Bool.true_and, Bool.false_and, Bool.false_or] at q1)
      unfold Sx.szE
      (repeat (first | rw [if_pos (by omega)] | rw [if_neg (by omega)]))
    ·
      have p14 := (And.intro (And.intro (And.intro (dec_f (or_f (or_f (or_f h14).1).1).1) (dec_f (or_f (or_f (or_f h14).1).1).2)) (dec_f (or_f (or_f h14).1).2)) (dec_f (or_f h14).2))
      refine WC.skip ?_
      refine WK.then_normal (k12 _ _ ?_)
      refine WC.sub [] trivial ?_
      refine WC.seq (fun K16 k16 => ?_)
      refine WC.region rfl ?_
      refine WL.yld rfl (blt rfl) rfl (Y.assign rfl rfl) ?_
      refine WL.nil ?_
      refine WK.then_normal (k16 _ _ ?_)
      refine WC.ret ?_
      clear k1 k7 k8 k9 k12 k13 k16
      refine WK.ret [_] rfl ⟨rfl, trivial⟩ ?_
      refine ⟨ret1 (vi ?_), xW⟩
      have q0 := h10
      (try simp only [Sx.emp_iff] at q0)
      (try simp only [Bool.and_eq_true, Bool.or_eq_true, Bool.not_eq_true', Bool.and_eq_false_iff, Bool.or_eq_false_iff, Bool.not_eq_false', decide_eq_true_eq, decide_eq_false_iff_not, beq_iff_eq, beq_eq_false_iff_ne, ne_eq, Sx.idF, Sx.idT, Sx.inI, List.any_cons, List.any_nil, Bool.or_false, Sx.zerT, Sx.zerF, Bool.not_false, Bool.not_true, Bool.and_true, Bool.and_false, Bool.true_and, Bool.false_and, Bool.false_or] at q0)
      have q1 := h14
      (try simp only [Sx.emp_iff] at q1)
      (try simp only [Bool.and_eq_true, Bool.or_eq_true, Bool.not_eq_true', Bool.and_eq_false_iff, Bool.or_eq_false_iff, Bool.not_eq_false', decide_eq_true_eq, decide_eq_false_iff_not, beq_iff_eq, beq_eq_false_iff_ne, ne_eq, Sx.idF, Sx.idT, Sx.inI, List.any_cons, List.any_nil, Bool.or_false, Sx.zerT, Sx.zerF, Bool.not_false, Bool.not_true, Bool.and_true, Bool.and_false, Bool.true_and, Bool.false_and, Bool.false_or] at q1)
      unfold Sx.szE
      (repeat (first | rw [if_pos (by omega)] | rw [if_neg (by omega)]))
end G
end SxW

end Go.Proofs.Ytklccakoblibmaa
