/- Contracts: nodes. Conditions: what each theorem states. -/
import Derived.Test.YtklccakoblibmaaSxWalk
namespace Go.Proofs.Ytklccakoblibmaa
open Go Go.Eng Go.RowKit
set_option linter.unusedVariables false
set_option linter.unusedSimpArgs false
namespace SxW
namespace B
theorem ti9 : TI Try.prog 9 (.string ⟨#[]⟩) 1 16 := TI.mk (by kernel_rfl)
theorem ti22 : TI Try.prog 22 (.int .i64 0) 1 8 := TI.mk (by kernel_rfl)
theorem ti25 : TI Try.prog 25 (.agg #[.int .i64 0, .int .i64 0, .string ⟨#[]⟩]) 3 32 := TI.mk (by kernel_rfl)
theorem ti26 : TI Try.prog 26 (.slice none 0 0) 1 24 := TI.mk (by kernel_rfl)
theorem ti28 : TI Try.prog 28 (.agg #[.int .i64 0, .string ⟨#[]⟩, .int .i64 0, .int .i64 0, .string ⟨#[]⟩, .slice none 0 0]) 6 80 := TI.mk (by kernel_rfl)
theorem has40 : Has Try.prog 40 := ⟨_, Try.func40, rfl, by kernel_rfl⟩
theorem has42 : Has Try.prog 42 := ⟨_, Try.func42, rfl, by kernel_rfl⟩
theorem has70 : Has Try.prog 70 := ⟨_, Try.func70, rfl, by kernel_rfl⟩
theorem has71 : Has Try.prog 71 := ⟨_, Try.func71, rfl, by kernel_rfl⟩
theorem has72 : Has Try.prog 72 := ⟨_, Try.func72, rfl, by kernel_rfl⟩
theorem has73 : Has Try.prog 73 := ⟨_, Try.func73, rfl, by kernel_rfl⟩
theorem has74 : Has Try.prog 74 := ⟨_, Try.func74, rfl, by kernel_rfl⟩
theorem pl25 : PL Try.prog 25 [.int .i64 0, .int .i64 0, .string ⟨#[]⟩] [(0, 1), (1, 1), (2, 1)] := PL.mk (zero := [.int .i64 0, .int .i64 0, .string ⟨#[]⟩]) ti25 Try.underlying25 (by kernel_rfl)
theorem eqg25 : Try.prog.eqGuardType Try.prog.depth 25 = false := by kernel_rfl
theorem eq25 (a0 : Int) (a1 : Int) (a2 : ByteArray) (b0 : Int) (b1 : Int) (b2 : ByteArray) (w : World) : (Op.equalIn 10000 25 (.agg #[.int .i64 a0, .int .i64 a1, .string a2]) (.agg #[.int .i64 b0, .int .i64 b1, .string b2])).run Try.prog w = .ok ((a0 == b0) && (a1 == b1) && (a2 == b2)) w := by
  go_simp
  (repeat' split) <;> simp_all [beq_toListBytes]
theorem arity_any (s : ByteArray) (w : World) :
    Calls Try.prog 71 #[.string s] w fun e w' => e = .returned (.int .i64 (Sx.ari s)) ∧ Ext w w' := by
  have xW := Ext.refl w
  refine calls_of_WC (args := [.string s]) Try.func71 rfl rfl (ble rfl) ?_
  refine WC.seq (fun K1 k1 => ?_)
  refine WC.region rfl ?_
  refine WL.yld rfl (blt rfl) rfl (Y.assign rfl rfl) ?_
  refine WL.nil ?_
  refine WK.then_normal (k1 _ _ ?_)
  refine WC.sub [(0, _)] ⟨rfl, trivial⟩ ?_
  refine WC.seq (fun K2 k2 => ?_)
  refine WC.seq (fun K3 k3 => ?_)
  refine WC.region rfl ?_
  refine WL.yld rfl (blt rfl) rfl (Y.move rfl rfl) ?_
  refine WL.nil ?_
  refine WK.then_normal (k3 _ _ ?_)
  refine WC.sub [(3, _)] ⟨rfl, trivial⟩ ?_
  refine WC.block ?_
  refine WC.seq (fun K4 k4 => ?_)
  refine WC.seq (fun K5 k5 => ?_)
  refine WC.region rfl ?_
  refine WL.yld rfl (blt rfl) rfl (Y.eqlStr rfl rfl rfl) ?_
  refine WL.yld rfl (blt rfl) rfl (Y.assign rfl rfl) ?_
  refine WL.nil ?_
  refine WK.then_normal (k5 _ _ ?_)
  refine WC.sub [(3, _), (4, _)] ⟨rfl, rfl, trivial⟩ ?_
  refine WC.cond rfl (fun h6 => ?_) (fun h6 => ?_)
  ·
    refine WC.skip ?_
    refine WK.then_normal (k4 _ _ ?_)
    refine WC.sub [(3, _), (4, .bool true)] ⟨rfl, kn h6, trivial⟩ ?_
    refine WC.condT rfl ?_
    refine WC.seq (fun K7 k7 => ?_)
    refine WC.region rfl ?_
    refine WL.yld rfl (blt rfl) rfl (Y.assign rfl rfl) ?_
    refine WL.nil ?_
    refine WK.then_normal (k7 _ _ ?_)
    refine WC.sub [(2, _)] ⟨rfl, trivial⟩ ?_
    refine WC.ret ?_
    refine WK.in_ret ?_
    refine WK.then_ret ?_
    clear k1 k2 k3 k4 k5 k7
    refine WK.ret [_] rfl ⟨rfl, trivial⟩ ?_
    exact ⟨ret1 (vi (Sx.ari_2 (.inl (beqB_eq.1 h6))).symm), xW⟩
  ·
    refine WC.seq (fun K8 k8 => ?_)
    refine WC.region rfl ?_
    refine WL.yld rfl (blt rfl) rfl (Y.eqlStr rfl rfl rfl) ?_
    refine WL.yld rfl (blt rfl) rfl (Y.assign rfl rfl) ?_
    refine WL.nil ?_
    refine WK.then_normal (k8 _ _ ?_)
    refine WC.sub [(3, _), (4, _)] ⟨rfl, rfl, trivial⟩ ?_
    refine WC.cond rfl (fun h9 => ?_) (fun h9 => ?_)
    ·
      refine WC.skip ?_
      refine WK.then_normal (k4 _ _ ?_)
      refine WC.sub [(3, _), (4, .bool true)] ⟨rfl, kn h9, trivial⟩ ?_
      refine WC.condT rfl ?_
      refine WC.seq (fun K10 k10 => ?_)
      refine WC.region rfl ?_
      refine WL.yld rfl (blt rfl) rfl (Y.assign rfl rfl) ?_
      refine WL.nil ?_
      refine WK.then_normal (k10 _ _ ?_)
      refine WC.sub [(2, _)] ⟨rfl, trivial⟩ ?_
      refine WC.ret ?_
      refine WK.in_ret ?_
      refine WK.then_ret ?_
      clear k1 k2 k3 k4 k5 k8 k10
      refine WK.ret [_] rfl ⟨rfl, trivial⟩ ?_
      exact ⟨ret1 (vi (Sx.ari_2 (.inr (.inl (beqB_eq.1 h9)))).symm), xW⟩
    ·
      refine WC.seq (fun K11 k11 => ?_)
      refine WC.region rfl ?_
      refine WL.yld rfl (blt rfl) rfl (Y.eqlStr rfl rfl rfl) ?_
      refine WL.yld rfl (blt rfl) rfl (Y.assign rfl rfl) ?_
      refine WL.nil ?_
      refine WK.then_normal (k11 _ _ ?_)
      refine WC.sub [(3, _), (4, _)] ⟨rfl, rfl, trivial⟩ ?_
      refine WC.cond rfl (fun h12 => ?_) (fun h12 => ?_)
      ·
        refine WC.skip ?_
        refine WK.then_normal (k4 _ _ ?_)
        refine WC.sub [(3, _), (4, .bool true)] ⟨rfl, kn h12, trivial⟩ ?_
        refine WC.condT rfl ?_
        refine WC.seq (fun K13 k13 => ?_)
        refine WC.region rfl ?_
        refine WL.yld rfl (blt rfl) rfl (Y.assign rfl rfl) ?_
        refine WL.nil ?_
        refine WK.then_normal (k13 _ _ ?_)
        refine WC.sub [(2, _)] ⟨rfl, trivial⟩ ?_
        refine WC.ret ?_
        refine WK.in_ret ?_
        refine WK.then_ret ?_
        clear k1 k2 k3 k4 k5 k8 k11 k13
        refine WK.ret [_] rfl ⟨rfl, trivial⟩ ?_
        exact ⟨ret1 (vi (Sx.ari_2 (.inr (.inr (.inl (beqB_eq.1 h12))))).symm), xW⟩
      ·
        refine WC.region rfl ?_
        refine WL.yld rfl (blt rfl) rfl (Y.eqlStr rfl rfl rfl) ?_
        refine WL.yld rfl (blt rfl) rfl (Y.assign rfl rfl) ?_
        refine WL.nil ?_
        refine WK.then_normal (k4 _ _ ?_)
        refine WC.sub [(3, _), (4, _)] ⟨rfl, rfl, trivial⟩ ?_
        refine WC.cond rfl (fun h14 => ?_) (fun h14 => ?_)
        ·
          refine WC.seq (fun K15 k15 => ?_)
          refine WC.region rfl ?_
          refine WL.yld rfl (blt rfl) rfl (Y.assign rfl rfl) ?_
          refine WL.nil ?_
          refine WK.then_normal (k15 _ _ ?_)
          refine WC.sub [(2, _)] ⟨rfl, trivial⟩ ?_
          refine WC.ret ?_
          refine WK.in_ret ?_
          refine WK.then_ret ?_
          clear k1 k2 k3 k4 k5 k8 k11 k15
          refine WK.ret [_] rfl ⟨rfl, trivial⟩ ?_
          exact ⟨ret1 (vi (Sx.ari_2 (.inr (.inr (.inr ((beqB_eq.1 h14)))))).symm), xW⟩
        ·
          refine WC.seq (fun K16 k16 => ?_)
          refine WC.seq (fun K17 k17 => ?_)
          refine WC.region rfl ?_
          refine WL.yld rfl (blt rfl) rfl (Y.eqlStr rfl rfl rfl) ?_
          refine WL.yld rfl (blt rfl) rfl (Y.assign rfl rfl) ?_
          refine WL.nil ?_
          refine WK.then_normal (k17 _ _ ?_)
          refine WC.sub [(3, _), (9, _)] ⟨rfl, rfl, trivial⟩ ?_
          refine WC.cond rfl (fun h18 => ?_) (fun h18 => ?_)
          ·
            refine WC.skip ?_
            refine WK.then_normal (k16 _ _ ?_)
            refine WC.sub [(9, .bool true)] ⟨kn h18, trivial⟩ ?_
            refine WC.condT rfl ?_
            refine WC.seq (fun K19 k19 => ?_)
            refine WC.region rfl ?_
            refine WL.yld rfl (blt rfl) rfl (Y.assign rfl rfl) ?_
            refine WL.nil ?_
            refine WK.then_normal (k19 _ _ ?_)
            refine WC.sub [(2, _)] ⟨rfl, trivial⟩ ?_
            refine WC.ret ?_
            refine WK.in_ret ?_
            refine WK.then_ret ?_
            clear k1 k2 k3 k4 k5 k8 k11 k16 k17 k19
            refine WK.ret [_] rfl ⟨rfl, trivial⟩ ?_
            exact ⟨ret1 (vi (Sx.ari_1 (.inl (beqB_eq.1 h18))).symm), xW⟩
          ·
            refine WC.region rfl ?_
            refine WL.yld rfl (blt rfl) rfl (Y.eqlStr rfl rfl rfl) ?_
            refine WL.yld rfl (blt rfl) rfl (Y.assign rfl rfl) ?_
            refine WL.nil ?_
            refine WK.then_normal (k16 _ _ ?_)
            refine WC.sub [(9, _)] ⟨rfl, trivial⟩ ?_
            refine WC.cond rfl (fun h20 => ?_) (fun h20 => ?_)
            ·
              refine WC.seq (fun K21 k21 => ?_)
              refine WC.region rfl ?_
              refine WL.yld rfl (blt rfl) rfl (Y.assign rfl rfl) ?_
              refine WL.nil ?_
              refine WK.then_normal (k21 _ _ ?_)
              refine WC.sub [(2, _)] ⟨rfl, trivial⟩ ?_
              refine WC.ret ?_
              refine WK.in_ret ?_
              refine WK.then_ret ?_
              clear k1 k2 k3 k4 k5 k8 k11 k16 k17 k21
              refine WK.ret [_] rfl ⟨rfl, trivial⟩ ?_
              exact ⟨ret1 (vi (Sx.ari_1 (.inr (beqB_eq.1 h20))).symm), xW⟩
            ·
              refine WC.skip ?_
              refine WK.in_normal ?_
              refine WK.then_normal (k2 _ _ ?_)
              refine WC.sub [] trivial ?_
              refine WC.seq (fun K22 k22 => ?_)
              refine WC.region rfl ?_
              refine WL.yld rfl (blt rfl) rfl (Y.assign rfl rfl) ?_
              refine WL.nil ?_
              refine WK.then_normal (k22 _ _ ?_)
              refine WC.ret ?_
              clear k1 k2 k3 k4 k5 k8 k11 k16 k17 k22
              refine WK.ret [_] rfl ⟨rfl, trivial⟩ ?_
              exact ⟨ret1 (vi (Sx.ari_0 (beqB_ne.1 h6) (beqB_ne.1 h9) (beqB_ne.1 h12) (beqB_ne.1 h14) (beqB_ne.1 h18) (beqB_ne.1 h20)).symm), xW⟩
theorem called_any (d_x : Nat) (x : Sx.E) (w : World) (g_x : Sx.Good d_x w x) (sh_x : Sx.short x = true) :
    Calls Try.prog 74 #[.agg #[.int .i64 x.op, .string x.nm, .int .i64 x.vk, .int .i64 x.vn, .string x.vs, .slice x.A x.n x.c]] w fun e w' => e = .returned (.int .i64 (Sx.callE x)) ∧ Ext w w' := by
  have xW := Ext.refl w
  have h_x := g_x.ls
  have e_x := h_x.len
  have z_x := h_x.nle
  have hn := Sx.short_at sh_x
  refine calls_of_WC (args := [.agg #[.int .i64 x.op, .string x.nm, .int .i64 x.vk, .int .i64 x.vn, .string x.vs, .slice x.A x.n x.c]]) Try.func74 rfl rfl (ble rfl) ?_
  refine WC.seq (fun K1 k1 => ?_)
  refine WC.region rfl ?_
  refine WL.box rfl (blt rfl) rfl rfl rfl rfl ?_
  intro g2 w3 e4 x5 m6
  have o_g2 := own_new xW e4
  have xW := Ext.trans xW x5
  refine WL.yld rfl (blt rfl) rfl (Y.assign rfl rfl) ?_
  refine WL.nil ?_
  refine WK.then_normal (k1 _ _ ?_)
  refine WC.sub [(1, _)] ⟨rfl, trivial⟩ ?_
  refine WC.seq (fun K7 k7 => ?_)
  refine WC.seq (fun K8 k8 => ?_)
  refine WC.region rfl ?_
  refine WL.yld rfl (blt rfl) rfl (Y.fieldAddr rfl Try.underlying28 rfl ti9 (by decide) rfl) ?_
  refine WL.yld rfl (blt rfl) rfl (Y.load1 rfl Try.underlying9 rfl rfl (Blk.at_eq m6 rfl)) ?_
  refine WL.call rfl (blt rfl) rfl rfl rfl has42 rfl (rident_any _ _ (by omega)) ?_
  rintro _ w9 ⟨rfl, x10⟩
  refine ⟨_, rfl, ?_⟩
  have m6 := m6.ext x10
  have xW := Ext.trans xW x10
  refine WL.yld rfl (blt rfl) rfl (Y.not rfl rfl) ?_
  refine WL.nil ?_
  refine WK.then_normal (k8 _ _ ?_)
  refine WC.sub [(1, _), (7, _)] ⟨rfl, rfl, trivial⟩ ?_
  refine WC.cond rfl (fun h11 => ?_) (fun h11 => ?_)
  ·
    refine WC.seq (fun K12 k12 => ?_)
    refine WC.region rfl ?_
    refine WL.yld rfl (blt rfl) rfl (Y.assign rfl rfl) ?_
    refine WL.nil ?_
    refine WK.then_normal (k12 _ _ ?_)
    refine WC.sub [(2, _)] ⟨rfl, trivial⟩ ?_
    refine WC.ret ?_
    refine WK.then_ret ?_
    clear k1 k7 k8 k12
    refine WK.ret [_] rfl ⟨rfl, trivial⟩ ?_
    refine ⟨ret1 (vi ?_), xW⟩
    unfold Sx.callE
    rw [if_pos (by simpa using h11)]
  ·
    refine WC.skip ?_
    refine WK.then_normal (k7 _ _ ?_)
    refine WC.sub [(1, _)] ⟨rfl, trivial⟩ ?_
    refine WC.seq (fun K13 k13 => ?_)
    refine WC.region rfl ?_
    refine WL.yld rfl (blt rfl) rfl (Y.assign rfl rfl) ?_
    refine WL.nil ?_
    refine WK.then_normal (k13 _ _ ?_)
    refine WC.seq (fun K14 k14 => ?_)
    refine WC.seq (fun K15 k15 => ?_)
    refine WC.region rfl ?_
    refine WL.yld rfl (blt rfl) rfl (Y.fieldAddr rfl Try.underlying28 rfl ti9 (by decide) rfl) ?_
    refine WL.yld rfl (blt rfl) rfl (Y.load1 rfl Try.underlying9 rfl rfl (Blk.at_eq m6 rfl)) ?_
    refine WL.yld rfl (blt rfl) rfl (Y.eqlStr rfl rfl rfl) ?_
    refine WL.yld rfl (blt rfl) rfl (Y.move rfl rfl) ?_
    refine WL.yldG rfl (blt rfl) rfl rfl rfl (fun hb => Y.fieldAddr rfl Try.underlying28 rfl ti9 (by decide) rfl) ?_
    refine WL.yldG rfl (blt rfl) rfl rfl rfl (fun hb => Y.load1 rfl Try.underlying9 rfl (evg rfl hb) (Blk.at_eq m6 rfl)) ?_
    refine WL.yldG rfl (blt rfl) rfl rfl rfl (fun hb => Y.eqlStr rfl (evg rfl hb) rfl) ?_
    refine WL.yld rfl (blt rfl) rfl (Y.or rfl rfl rfl rfl) ?_
    refine WL.yld rfl (blt rfl) rfl (Y.move rfl rfl) ?_
    refine WL.yldG rfl (blt rfl) rfl rfl rfl (fun hb => Y.fieldAddr rfl Try.underlying28 rfl ti9 (by decide) rfl) ?_
    refine WL.yldG rfl (blt rfl) rfl rfl rfl (fun hb => Y.load1 rfl Try.underlying9 rfl (evg rfl hb) (Blk.at_eq m6 rfl)) ?_
    refine WL.yldG rfl (blt rfl) rfl rfl rfl (fun hb => Y.eqlStr rfl (evg rfl hb) rfl) ?_
    refine WL.yld rfl (blt rfl) rfl (Y.or rfl rfl rfl rfl) ?_
    refine WL.yld rfl (blt rfl) rfl (Y.move rfl rfl) ?_
    refine WL.yldG rfl (blt rfl) rfl rfl rfl (fun hb => Y.fieldAddr rfl Try.underlying28 rfl ti9 (by decide) rfl) ?_
    refine WL.yldG rfl (blt rfl) rfl rfl rfl (fun hb => Y.load1 rfl Try.underlying9 rfl (evg rfl hb) (Blk.at_eq m6 rfl)) ?_
    refine WL.yldG rfl (blt rfl) rfl rfl rfl (fun hb => Y.eqlStr rfl (evg rfl hb) rfl) ?_
    refine WL.yld rfl (blt rfl) rfl (Y.or rfl rfl rfl rfl) ?_
    refine WL.nil ?_
    refine WK.then_normal (k15 _ _ ?_)
    refine WC.sub [(1, _), (3, _), (25, _)] ⟨rfl, rfl, rfl, trivial⟩ ?_
    refine WC.cond rfl (fun h16 => ?_) (fun h16 => ?_)
    ·
      refine WC.region rfl ?_
      refine WL.yld rfl (blt rfl) rfl (Y.assign rfl rfl) ?_
      refine WL.nil ?_
      refine WK.then_normal (k14 _ _ ?_)
      refine WC.sub [(1, _), (3, _)] ⟨rfl, rfl, trivial⟩ ?_
      refine WC.seq (fun K17 k17 => ?_)
      refine WC.seq (fun K18 k18 => ?_)
      refine WC.region rfl ?_
      refine WL.yld rfl (blt rfl) rfl (Y.fieldAddr rfl Try.underlying28 rfl ti9 (by decide) rfl) ?_
      refine WL.yld rfl (blt rfl) rfl (Y.load1 rfl Try.underlying9 rfl rfl (Blk.at_eq m6 rfl)) ?_
      refine WL.yld rfl (blt rfl) rfl (Y.eqlStr rfl rfl rfl) ?_
      refine WL.yld rfl (blt rfl) rfl (Y.move rfl rfl) ?_
      refine WL.yldG rfl (blt rfl) rfl rfl rfl (fun hb => Y.fieldAddr rfl Try.underlying28 rfl ti9 (by decide) rfl) ?_
      refine WL.yldG rfl (blt rfl) rfl rfl rfl (fun hb => Y.load1 rfl Try.underlying9 rfl (evg rfl hb) (Blk.at_eq m6 rfl)) ?_
      refine WL.yldG rfl (blt rfl) rfl rfl rfl (fun hb => Y.eqlStr rfl (evg rfl hb) rfl) ?_
      refine WL.yld rfl (blt rfl) rfl (Y.or rfl rfl rfl rfl) ?_
      refine WL.nil ?_
      refine WK.then_normal (k18 _ _ ?_)
      refine WC.sub [(1, _), (3, _), (33, _)] ⟨rfl, rfl, rfl, trivial⟩ ?_
      refine WC.cond rfl (fun h19 => ?_) (fun h19 => ?_)
      ·
        clear k1 k7 k8 k13 k14 k15 k17 k18
        exact False.elim (by have q1 := Sx.ari_a h16; have q2 := Sx.ari_b h19; rw [q1] at q2; cases q2)
      ·
        refine WC.skip ?_
        refine WK.then_normal (k17 _ _ ?_)
        refine WC.sub [(1, _), (3, _)] ⟨rfl, rfl, trivial⟩ ?_
        refine WC.seq (fun K20 k20 => ?_)
        refine WC.seq (fun K21 k21 => ?_)
        refine WC.region rfl ?_
        refine WL.yld rfl (blt rfl) rfl (Y.move rfl rfl) ?_
        refine WL.yld rfl (blt rfl) rfl (Y.eql rfl rfl rfl) ?_
        refine WL.nil ?_
        refine WK.then_normal (k21 _ _ ?_)
        refine WC.sub [(1, _), (3, _), (35, _)] ⟨rfl, rfl, rfl, trivial⟩ ?_
        refine WC.cond rfl (fun h22 => ?_) (fun h22 => ?_)
        ·
          have p22 := (eq_t h22)
          refine WC.seq (fun K23 k23 => ?_)
          refine WC.region rfl ?_
          refine WL.yld rfl (blt rfl) rfl (Y.assign rfl rfl) ?_
          refine WL.nil ?_
          refine WK.then_normal (k23 _ _ ?_)
          refine WC.sub [(2, _)] ⟨rfl, trivial⟩ ?_
          refine WC.ret ?_
          refine WK.then_ret ?_
          clear k1 k7 k8 k13 k14 k15 k17 k18 k20 k21 k23
          refine WK.ret [_] rfl ⟨rfl, trivial⟩ ?_
          refine ⟨ret1 (vi ?_), xW⟩
          first | (exfalso; revert h11; simp; done) | (exfalso; revert h16; simp; done) | (exfalso; revert h19; simp; done) | (exfalso; revert h22; simp; done) | (have hi : ¬ Sx.idB x.nm = false := (by have q := h11; simp at q; rw [q]; simp); unfold Sx.callE; rw [if_neg hi]; have ar := Sx.ari_a h16; rw [ar]; rw [if_neg (by decide), if_pos (by have q := h22; simp only [Bool.and_eq_true, Bool.or_eq_true, Bool.not_eq_true', Bool.and_eq_false_iff, Bool.or_eq_false_iff, Bool.not_eq_false', decide_eq_true_eq, decide_eq_false_iff_not, beq_iff_eq, beq_eq_false_iff_ne, ne_eq] at q; omega)])
        ·
          have p22 := (eq_f h22)
          refine WC.skip ?_
          refine WK.then_normal (k20 _ _ ?_)
          refine WC.sub [(1, _), (3, _)] ⟨rfl, rfl, trivial⟩ ?_
          refine WC.seq (fun K24 k24 => ?_)
          refine WC.seq (fun K25 k25 => ?_)
          refine WC.region rfl ?_
          refine WL.yld rfl (blt rfl) rfl (Y.fieldAddr rfl Try.underlying28 rfl ti26 (by decide) rfl) ?_
          refine WL.yld rfl (blt rfl) rfl (Y.load1 rfl Try.underlying26 rfl rfl (Blk.at_eq m6 rfl)) ?_
          refine WL.yld rfl (blt rfl) rfl (Y.lenSl rfl rfl rfl Try.underlying26 rfl) ?_
          refine WL.yld rfl (blt rfl) rfl (Y.move rfl rfl) ?_
          refine WL.yld rfl (blt rfl) rfl (Y.neq rfl rfl rfl) ?_
          refine WL.nil ?_
          refine WK.then_normal (k25 _ _ ?_)
          refine WC.sub [(40, _)] ⟨rfl, trivial⟩ ?_
          refine WC.cond rfl (fun h26 => ?_) (fun h26 => ?_)
          ·
            have p26 := (eq_f (not_t h26))
            refine WC.seq (fun K27 k27 => ?_)
            refine WC.region rfl ?_
            refine WL.yld rfl (blt rfl) rfl (Y.assign rfl rfl) ?_
            refine WL.nil ?_
            refine WK.then_normal (k27 _ _ ?_)
            refine WC.sub [(2, _)] ⟨rfl, trivial⟩ ?_
            refine WC.ret ?_
            refine WK.then_ret ?_
            clear k1 k7 k8 k13 k14 k15 k17 k18 k20 k21 k24 k25 k27
            refine WK.ret [_] rfl ⟨rfl, trivial⟩ ?_
            refine ⟨ret1 (vi ?_), xW⟩
            first | (exfalso; revert h11; simp; done) | (exfalso; revert h16; simp; done) | (exfalso; revert h19; simp; done) | (exfalso; revert h22; simp; done) | (exfalso; revert h26; simp; done) | (have hi : ¬ Sx.idB x.nm = false := (by have q := h11; simp at q; rw [q]; simp); unfold Sx.callE; rw [if_neg hi]; have ar := Sx.ari_a h16; rw [ar]; rw [if_neg (by decide), if_pos (by have q := h26; simp only [Bool.and_eq_true, Bool.or_eq_true, Bool.not_eq_true', Bool.and_eq_false_iff, Bool.or_eq_false_iff, Bool.not_eq_false', decide_eq_true_eq, decide_eq_false_iff_not, beq_iff_eq, beq_eq_false_iff_ne, ne_eq] at q; omega)])
          ·
            have p26 := (eq_t (not_f h26))
            refine WC.skip ?_
            refine WK.then_normal (k24 _ _ ?_)
            refine WC.sub [] trivial ?_
            refine WC.seq (fun K28 k28 => ?_)
            refine WC.region rfl ?_
            refine WL.yld rfl (blt rfl) rfl (Y.assign rfl rfl) ?_
            refine WL.nil ?_
            refine WK.then_normal (k28 _ _ ?_)
            refine WC.ret ?_
            clear k1 k7 k8 k13 k14 k15 k17 k18 k20 k21 k24 k25 k28
            refine WK.ret [_] rfl ⟨rfl, trivial⟩ ?_
            refine ⟨ret1 (vi ?_), xW⟩
            first | (exfalso; revert h11; simp; done) | (exfalso; revert h16; simp; done) | (exfalso; revert h19; simp; done) | (exfalso; revert h22; simp; done) | (exfalso; revert h26; simp; done) | (have hi : ¬ Sx.idB x.nm = false := (by have q := h11; simp at q; rw [q]; simp); unfold Sx.callE; rw [if_neg hi]; have ar := Sx.ari_a h16; rw [ar]; rw [if_neg (by decide), if_neg (by have q := h26; simp only [Bool.and_eq_true, Bool.or_eq_true, Bool.not_eq_true', Bool.and_eq_false_iff, Bool.or_eq_false_iff, Bool.not_eq_false', decide_eq_true_eq, decide_eq_false_iff_not, beq_iff_eq, beq_eq_false_iff_ne, ne_eq] at q; omega)])
    ·
      refine WC.skip ?_
      refine WK.then_normal (k14 _ _ ?_)
      refine WC.sub [(1, _), (3, _)] ⟨rfl, rfl, trivial⟩ ?_
      refine WC.seq (fun K29 k29 => ?_)
      refine WC.seq (fun K30 k30 => ?_)
      refine WC.region rfl ?_
      refine WL.yld rfl (blt rfl) rfl (Y.fieldAddr rfl Try.underlying28 rfl ti9 (by decide) rfl) ?_
      refine WL.yld rfl (blt rfl) rfl (Y.load1 rfl Try.underlying9 rfl rfl (Blk.at_eq m6 rfl)) ?_
      refine WL.yld rfl (blt rfl) rfl (Y.eqlStr rfl rfl rfl) ?_
      refine WL.yld rfl (blt rfl) rfl (Y.move rfl rfl) ?_
      refine WL.yldG rfl (blt rfl) rfl rfl rfl (fun hb => Y.fieldAddr rfl Try.underlying28 rfl ti9 (by decide) rfl) ?_
      refine WL.yldG rfl (blt rfl) rfl rfl rfl (fun hb => Y.load1 rfl Try.underlying9 rfl (evg rfl hb) (Blk.at_eq m6 rfl)) ?_
      refine WL.yldG rfl (blt rfl) rfl rfl rfl (fun hb => Y.eqlStr rfl (evg rfl hb) rfl) ?_
      refine WL.yld rfl (blt rfl) rfl (Y.or rfl rfl rfl rfl) ?_
      refine WL.nil ?_
      refine WK.then_normal (k30 _ _ ?_)
      refine WC.sub [(1, _), (3, _), (33, _)] ⟨rfl, rfl, rfl, trivial⟩ ?_
      refine WC.cond rfl (fun h31 => ?_) (fun h31 => ?_)
      ·
        refine WC.region rfl ?_
        refine WL.yld rfl (blt rfl) rfl (Y.assign rfl rfl) ?_
        refine WL.nil ?_
        refine WK.then_normal (k29 _ _ ?_)
        refine WC.sub [(1, _), (3, _)] ⟨rfl, rfl, trivial⟩ ?_
        refine WC.seq (fun K32 k32 => ?_)
        refine WC.seq (fun K33 k33 => ?_)
        refine WC.region rfl ?_
        refine WL.yld rfl (blt rfl) rfl (Y.move rfl rfl) ?_
        refine WL.yld rfl (blt rfl) rfl (Y.eql rfl rfl rfl) ?_
        refine WL.nil ?_
        refine WK.then_normal (k33 _ _ ?_)
        refine WC.sub [(1, _), (3, _), (35, _)] ⟨rfl, rfl, rfl, trivial⟩ ?_
        refine WC.cond rfl (fun h34 => ?_) (fun h34 => ?_)
        ·
          have p34 := (eq_t h34)
          refine WC.seq (fun K35 k35 => ?_)
          refine WC.region rfl ?_
          refine WL.yld rfl (blt rfl) rfl (Y.assign rfl rfl) ?_
          refine WL.nil ?_
          refine WK.then_normal (k35 _ _ ?_)
          refine WC.sub [(2, _)] ⟨rfl, trivial⟩ ?_
          refine WC.ret ?_
          refine WK.then_ret ?_
          clear k1 k7 k8 k13 k14 k15 k29 k30 k32 k33 k35
          refine WK.ret [_] rfl ⟨rfl, trivial⟩ ?_
          refine ⟨ret1 (vi ?_), xW⟩
          first | (exfalso; revert h11; simp; done) | (exfalso; revert h16; simp; done) | (exfalso; revert h31; simp; done) | (exfalso; revert h34; simp; done) | (have hi : ¬ Sx.idB x.nm = false := (by have q := h11; simp at q; rw [q]; simp); unfold Sx.callE; rw [if_neg hi]; have ar := Sx.ari_b h31; rw [ar]; rw [if_neg (by decide), if_pos (by have q := h34; simp only [Bool.and_eq_true, Bool.or_eq_true, Bool.not_eq_true', Bool.and_eq_false_iff, Bool.or_eq_false_iff, Bool.not_eq_false', decide_eq_true_eq, decide_eq_false_iff_not, beq_iff_eq, beq_eq_false_iff_ne, ne_eq] at q; omega)])
        ·
          have p34 := (eq_f h34)
          refine WC.skip ?_
          refine WK.then_normal (k32 _ _ ?_)
          refine WC.sub [(1, _), (3, _)] ⟨rfl, rfl, trivial⟩ ?_
          refine WC.seq (fun K36 k36 => ?_)
          refine WC.seq (fun K37 k37 => ?_)
          refine WC.region rfl ?_
          refine WL.yld rfl (blt rfl) rfl (Y.fieldAddr rfl Try.underlying28 rfl ti26 (by decide) rfl) ?_
          refine WL.yld rfl (blt rfl) rfl (Y.load1 rfl Try.underlying26 rfl rfl (Blk.at_eq m6 rfl)) ?_
          refine WL.yld rfl (blt rfl) rfl (Y.lenSl rfl rfl rfl Try.underlying26 rfl) ?_
          refine WL.yld rfl (blt rfl) rfl (Y.move rfl rfl) ?_
          refine WL.yld rfl (blt rfl) rfl (Y.neq rfl rfl rfl) ?_
          refine WL.nil ?_
          refine WK.then_normal (k37 _ _ ?_)
          refine WC.sub [(40, _)] ⟨rfl, trivial⟩ ?_
          refine WC.cond rfl (fun h38 => ?_) (fun h38 => ?_)
          ·
            have p38 := (eq_f (not_t h38))
            refine WC.seq (fun K39 k39 => ?_)
            refine WC.region rfl ?_
            refine WL.yld rfl (blt rfl) rfl (Y.assign rfl rfl) ?_
            refine WL.nil ?_
            refine WK.then_normal (k39 _ _ ?_)
            refine WC.sub [(2, _)] ⟨rfl, trivial⟩ ?_
            refine WC.ret ?_
            refine WK.then_ret ?_
            clear k1 k7 k8 k13 k14 k15 k29 k30 k32 k33 k36 k37 k39
            refine WK.ret [_] rfl ⟨rfl, trivial⟩ ?_
            refine ⟨ret1 (vi ?_), xW⟩
            first | (exfalso; revert h11; simp; done) | (exfalso; revert h16; simp; done) | (exfalso; revert h31; simp; done) | (exfalso; revert h34; simp; done) | (exfalso; revert h38; simp; done) | (have hi : ¬ Sx.idB x.nm = false := (by have q := h11; simp at q; rw [q]; simp); unfold Sx.callE; rw [if_neg hi]; have ar := Sx.ari_b h31; rw [ar]; rw [if_neg (by decide), if_pos (by have q := h38; simp only [Bool.and_eq_true, Bool.or_eq_true, Bool.not_eq_true', Bool.and_eq_false_iff, Bool.or_eq_false_iff, Bool.not_eq_false', decide_eq_true_eq, decide_eq_false_iff_not, beq_iff_eq, beq_eq_false_iff_ne, ne_eq] at q; omega)])
          ·
            have p38 := (eq_t (not_f h38))
            refine WC.skip ?_
            refine WK.then_normal (k36 _ _ ?_)
            refine WC.sub [] trivial ?_
            refine WC.seq (fun K40 k40 => ?_)
            refine WC.region rfl ?_
            refine WL.yld rfl (blt rfl) rfl (Y.assign rfl rfl) ?_
            refine WL.nil ?_
            refine WK.then_normal (k40 _ _ ?_)
            refine WC.ret ?_
            clear k1 k7 k8 k13 k14 k15 k29 k30 k32 k33 k36 k37 k40
            refine WK.ret [_] rfl ⟨rfl, trivial⟩ ?_
            refine ⟨ret1 (vi ?_), xW⟩
            first | (exfalso; revert h11; simp; done) | (exfalso; revert h16; simp; done) | (exfalso; revert h31; simp; done) | (exfalso; revert h34; simp; done) | (exfalso; revert h38; simp; done) | (have hi : ¬ Sx.idB x.nm = false := (by have q := h11; simp at q; rw [q]; simp); unfold Sx.callE; rw [if_neg hi]; have ar := Sx.ari_b h31; rw [ar]; rw [if_neg (by decide), if_neg (by have q := h38; simp only [Bool.and_eq_true, Bool.or_eq_true, Bool.not_eq_true', Bool.and_eq_false_iff, Bool.or_eq_false_iff, Bool.not_eq_false', decide_eq_true_eq, decide_eq_false_iff_not, beq_iff_eq, beq_eq_false_iff_ne, ne_eq] at q; omega)])
      ·
        refine WC.skip ?_
        refine WK.then_normal (k29 _ _ ?_)
        refine WC.sub [(1, _), (3, _)] ⟨rfl, rfl, trivial⟩ ?_
        refine WC.seq (fun K41 k41 => ?_)
        refine WC.seq (fun K42 k42 => ?_)
        refine WC.region rfl ?_
        refine WL.yld rfl (blt rfl) rfl (Y.move rfl rfl) ?_
        refine WL.yld rfl (blt rfl) rfl (Y.eql rfl rfl rfl) ?_
        refine WL.nil ?_
        refine WK.then_normal (k42 _ _ ?_)
        refine WC.sub [(1, _), (3, _), (35, _)] ⟨rfl, rfl, rfl, trivial⟩ ?_
        refine WC.cond rfl (fun h43 => ?_) (fun h43 => ?_)
        ·
          have p43 := (eq_t h43)
          refine WC.seq (fun K44 k44 => ?_)
          refine WC.region rfl ?_
          refine WL.yld rfl (blt rfl) rfl (Y.assign rfl rfl) ?_
          refine WL.nil ?_
          refine WK.then_normal (k44 _ _ ?_)
          refine WC.sub [(2, _)] ⟨rfl, trivial⟩ ?_
          refine WC.ret ?_
          refine WK.then_ret ?_
          clear k1 k7 k8 k13 k14 k15 k29 k30 k41 k42 k44
          refine WK.ret [_] rfl ⟨rfl, trivial⟩ ?_
          refine ⟨ret1 (vi ?_), xW⟩
          first | (exfalso; revert h11; simp; done) | (exfalso; revert h16; simp; done) | (exfalso; revert h31; simp; done) | (exfalso; revert h43; simp; done) | (have hi : ¬ Sx.idB x.nm = false := (by have q := h11; simp at q; rw [q]; simp); unfold Sx.callE; rw [if_neg hi]; have ar := Sx.ari_c h16 h31; rw [ar]; rfl)
        ·
          have p43 := (eq_f h43)
          refine WC.skip ?_
          refine WK.then_normal (k41 _ _ ?_)
          refine WC.sub [(1, _), (3, _)] ⟨rfl, rfl, trivial⟩ ?_
          refine WC.seq (fun K45 k45 => ?_)
          refine WC.seq (fun K46 k46 => ?_)
          refine WC.region rfl ?_
          refine WL.yld rfl (blt rfl) rfl (Y.fieldAddr rfl Try.underlying28 rfl ti26 (by decide) rfl) ?_
          refine WL.yld rfl (blt rfl) rfl (Y.load1 rfl Try.underlying26 rfl rfl (Blk.at_eq m6 rfl)) ?_
          refine WL.yld rfl (blt rfl) rfl (Y.lenSl rfl rfl rfl Try.underlying26 rfl) ?_
          refine WL.yld rfl (blt rfl) rfl (Y.move rfl rfl) ?_
          refine WL.yld rfl (blt rfl) rfl (Y.neq rfl rfl rfl) ?_
          refine WL.nil ?_
          refine WK.then_normal (k46 _ _ ?_)
          refine WC.sub [(40, _)] ⟨rfl, trivial⟩ ?_
          refine WC.cond rfl (fun h47 => ?_) (fun h47 => ?_)
          ·
            have p47 := (eq_f (not_t h47))
            refine WC.seq (fun K48 k48 => ?_)
            refine WC.region rfl ?_
            refine WL.yld rfl (blt rfl) rfl (Y.assign rfl rfl) ?_
            refine WL.nil ?_
            refine WK.then_normal (k48 _ _ ?_)
            refine WC.sub [(2, _)] ⟨rfl, trivial⟩ ?_
            refine WC.ret ?_
            refine WK.then_ret ?_
            clear k1 k7 k8 k13 k14 k15 k29 k30 k41 k42 k45 k46 k48
            refine WK.ret [_] rfl ⟨rfl, trivial⟩ ?_
            refine ⟨ret1 (vi ?_), xW⟩
            first | (exfalso; revert h11; simp; done) | (exfalso; revert h16; simp; done) | (exfalso; revert h31; simp; done) | (exfalso; revert h43; simp; done) | (exfalso; revert h47; simp; done) | (have hi : ¬ Sx.idB x.nm = false := (by have q := h11; simp at q; rw [q]; simp); unfold Sx.callE; rw [if_neg hi]; have ar := Sx.ari_c h16 h31; rw [ar]; rfl)
          ·
            have p47 := (eq_t (not_f h47))
            refine WC.skip ?_
            refine WK.then_normal (k45 _ _ ?_)
            refine WC.sub [] trivial ?_
            refine WC.seq (fun K49 k49 => ?_)
            refine WC.region rfl ?_
            refine WL.yld rfl (blt rfl) rfl (Y.assign rfl rfl) ?_
            refine WL.nil ?_
            refine WK.then_normal (k49 _ _ ?_)
            refine WC.ret ?_
            clear k1 k7 k8 k13 k14 k15 k29 k30 k41 k42 k45 k46 k49
            refine WK.ret [_] rfl ⟨rfl, trivial⟩ ?_
            refine ⟨ret1 (vi ?_), xW⟩
            first | (exfalso; revert h11; simp; done) | (exfalso; revert h16; simp; done) | (exfalso; revert h31; simp; done) | (exfalso; revert h43; simp; done) | (exfalso; revert h47; simp; done) | (have hi : ¬ Sx.idB x.nm = false := (by have q := h11; simp at q; rw [q]; simp); unfold Sx.callE; rw [if_neg hi]; have ar := Sx.ari_c h16 h31; rw [ar]; rfl)
theorem kids_any (op : Int) (w : World) :
    Calls Try.prog 72 #[.int .i64 op] w fun e w' => e = .returned (.int .i64 (Sx.kidR op)) ∧ Ext w w' := by
  have xW := Ext.refl w
  refine calls_of_WC (args := [.int .i64 op]) Try.func72 rfl rfl (ble rfl) ?_
  refine WC.seq (fun K1 k1 => ?_)
  refine WC.region rfl ?_
  refine WL.yld rfl (blt rfl) rfl (Y.assign rfl rfl) ?_
  refine WL.nil ?_
  refine WK.then_normal (k1 _ _ ?_)
  refine WC.sub [(0, _)] ⟨rfl, trivial⟩ ?_
  refine WC.seq (fun K2 k2 => ?_)
  refine WC.seq (fun K3 k3 => ?_)
  refine WC.region rfl ?_
  refine WL.yld rfl (blt rfl) rfl (Y.move rfl rfl) ?_
  refine WL.yld rfl (blt rfl) rfl (Y.eql rfl rfl rfl) ?_
  refine WL.yld rfl (blt rfl) rfl (Y.move rfl rfl) ?_
  refine WL.yldG rfl (blt rfl) rfl rfl rfl (fun hb => Y.move rfl rfl) ?_
  refine WL.yldG rfl (blt rfl) rfl rfl rfl (fun hb => Y.eql rfl (evg rfl hb) rfl) ?_
  refine WL.yld rfl (blt rfl) rfl (Y.or rfl rfl rfl rfl) ?_
  refine WL.nil ?_
  refine WK.then_normal (k3 _ _ ?_)
  refine WC.sub [(0, _), (8, _)] ⟨rfl, rfl, trivial⟩ ?_
  refine WC.cond rfl (fun h4 => ?_) (fun h4 => ?_)
  ·
    have p4 := ((or_t h4).imp (fun h => (eq_t h)) (fun h => (eq_t h)))
    refine WC.seq (fun K5 k5 => ?_)
    refine WC.region rfl ?_
    refine WL.yld rfl (blt rfl) rfl (Y.assign rfl rfl) ?_
    refine WL.nil ?_
    refine WK.then_normal (k5 _ _ ?_)
    refine WC.sub [(2, _)] ⟨rfl, trivial⟩ ?_
    refine WC.ret ?_
    refine WK.then_ret ?_
    clear k1 k2 k3 k5
    refine WK.ret [_] rfl ⟨rfl, trivial⟩ ?_
    exact ⟨ret1 (vi (Sx.kidR_0 (by have q := h4; simp only [Bool.and_eq_true, Bool.or_eq_true, Bool.not_eq_true', Bool.and_eq_false_iff, Bool.or_eq_false_iff, Bool.not_eq_false', decide_eq_true_eq, decide_eq_false_iff_not, beq_iff_eq, beq_eq_false_iff_ne, ne_eq] at q; omega)).symm), xW⟩
  ·
    have p4 := (And.intro (eq_f (or_f h4).1) (eq_f (or_f h4).2))
    refine WC.skip ?_
    refine WK.then_normal (k2 _ _ ?_)
    refine WC.sub [(0, _)] ⟨rfl, trivial⟩ ?_
    refine WC.seq (fun K6 k6 => ?_)
    refine WC.seq (fun K7 k7 => ?_)
    refine WC.region rfl ?_
    refine WL.yld rfl (blt rfl) rfl (Y.move rfl rfl) ?_
    refine WL.yld rfl (blt rfl) rfl (Y.eql rfl rfl rfl) ?_
    refine WL.yld rfl (blt rfl) rfl (Y.move rfl rfl) ?_
    refine WL.yldG rfl (blt rfl) rfl rfl rfl (fun hb => Y.move rfl rfl) ?_
    refine WL.yldG rfl (blt rfl) rfl rfl rfl (fun hb => Y.eql rfl (evg rfl hb) rfl) ?_
    refine WL.yld rfl (blt rfl) rfl (Y.or rfl rfl rfl rfl) ?_
    refine WL.nil ?_
    refine WK.then_normal (k7 _ _ ?_)
    refine WC.sub [(0, _), (14, _)] ⟨rfl, rfl, trivial⟩ ?_
    refine WC.cond rfl (fun h8 => ?_) (fun h8 => ?_)
    ·
      have p8 := ((or_t h8).imp (fun h => (eq_t h)) (fun h => (eq_t h)))
      refine WC.seq (fun K9 k9 => ?_)
      refine WC.region rfl ?_
      refine WL.yld rfl (blt rfl) rfl (Y.assign rfl rfl) ?_
      refine WL.nil ?_
      refine WK.then_normal (k9 _ _ ?_)
      refine WC.sub [(2, _)] ⟨rfl, trivial⟩ ?_
      refine WC.ret ?_
      refine WK.then_ret ?_
      clear k1 k2 k3 k6 k7 k9
      refine WK.ret [_] rfl ⟨rfl, trivial⟩ ?_
      exact ⟨ret1 (vi (Sx.kidR_1 (by have q := h8; simp only [Bool.and_eq_true, Bool.or_eq_true, Bool.not_eq_true', Bool.and_eq_false_iff, Bool.or_eq_false_iff, Bool.not_eq_false', decide_eq_true_eq, decide_eq_false_iff_not, beq_iff_eq, beq_eq_false_iff_ne, ne_eq] at q; omega)).symm), xW⟩
    ·
      have p8 := (And.intro (eq_f (or_f h8).1) (eq_f (or_f h8).2))
      refine WC.skip ?_
      refine WK.then_normal (k6 _ _ ?_)
      refine WC.sub [(0, _)] ⟨rfl, trivial⟩ ?_
      refine WC.seq (fun K10 k10 => ?_)
      refine WC.seq (fun K11 k11 => ?_)
      refine WC.region rfl ?_
      refine WL.yld rfl (blt rfl) rfl (Y.move rfl rfl) ?_
      refine WL.yld rfl (blt rfl) rfl (Y.eql rfl rfl rfl) ?_
      refine WL.nil ?_
      refine WK.then_normal (k11 _ _ ?_)
      refine WC.sub [(16, _)] ⟨rfl, trivial⟩ ?_
      refine WC.cond rfl (fun h12 => ?_) (fun h12 => ?_)
      ·
        have p12 := (eq_t h12)
        refine WC.seq (fun K13 k13 => ?_)
        refine WC.region rfl ?_
        refine WL.yld rfl (blt rfl) rfl (Y.assign rfl rfl) ?_
        refine WL.nil ?_
        refine WK.then_normal (k13 _ _ ?_)
        refine WC.sub [(2, _)] ⟨rfl, trivial⟩ ?_
        refine WC.ret ?_
        refine WK.then_ret ?_
        clear k1 k2 k3 k6 k7 k10 k11 k13
        refine WK.ret [_] rfl ⟨rfl, trivial⟩ ?_
        exact ⟨ret1 (vi (Sx.kidR_c (by have q := h12; simp only [Bool.and_eq_true, Bool.or_eq_true, Bool.not_eq_true', Bool.and_eq_false_iff, Bool.or_eq_false_iff, Bool.not_eq_false', decide_eq_true_eq, decide_eq_false_iff_not, beq_iff_eq, beq_eq_false_iff_ne, ne_eq] at q; omega)).symm), xW⟩
      ·
        have p12 := (eq_f h12)
        refine WC.skip ?_
        refine WK.then_normal (k10 _ _ ?_)
        refine WC.sub [] trivial ?_
        refine WC.seq (fun K14 k14 => ?_)
        refine WC.region rfl ?_
        refine WL.yld rfl (blt rfl) rfl (Y.assign rfl rfl) ?_
        refine WL.nil ?_
        refine WK.then_normal (k14 _ _ ?_)
        refine WC.ret ?_
        clear k1 k2 k3 k6 k7 k10 k11 k14
        refine WK.ret [_] rfl ⟨rfl, trivial⟩ ?_
        exact ⟨ret1 (vi (Sx.kidR_2 (by have q := h4; simp only [Bool.and_eq_true, Bool.or_eq_true, Bool.not_eq_true', Bool.and_eq_false_iff, Bool.or_eq_false_iff, Bool.not_eq_false', decide_eq_true_eq, decide_eq_false_iff_not, beq_iff_eq, beq_eq_false_iff_ne, ne_eq] at q; omega) (by have q := h8; simp only [Bool.and_eq_true, Bool.or_eq_true, Bool.not_eq_true', Bool.and_eq_false_iff, Bool.or_eq_false_iff, Bool.not_eq_false', decide_eq_true_eq, decide_eq_false_iff_not, beq_iff_eq, beq_eq_false_iff_ne, ne_eq] at q; omega) (by have q := h12; simp only [Bool.and_eq_true, Bool.or_eq_true, Bool.not_eq_true', Bool.and_eq_false_iff, Bool.or_eq_false_iff, Bool.not_eq_false', decide_eq_true_eq, decide_eq_false_iff_not, beq_iff_eq, beq_eq_false_iff_ne, ne_eq] at q; omega)).symm), xW⟩
theorem node_any (d_x : Nat) (x : Sx.E) (w : World) (g_x : Sx.Good d_x w x) (sh_x : Sx.short x = true) :
    Calls Try.prog 51 #[.agg #[.int .i64 x.op, .string x.nm, .int .i64 x.vk, .int .i64 x.vn, .string x.vs, .slice x.A x.n x.c]] w fun e w' => e = .returned (.int .i64 (Sx.nodE x)) ∧ Ext w w' := by
  have xW := Ext.refl w
  have h_x := g_x.ls
  have e_x := h_x.len
  have z_x := h_x.nle
  have hn := Sx.short_at sh_x
  refine calls_of_WC (args := [.agg #[.int .i64 x.op, .string x.nm, .int .i64 x.vk, .int .i64 x.vn, .string x.vs, .slice x.A x.n x.c]]) Try.func51 rfl rfl (ble rfl) ?_
  refine WC.seq (fun K1 k1 => ?_)
  refine WC.region rfl ?_
  refine WL.box rfl (blt rfl) rfl rfl rfl rfl ?_
  intro g2 w3 e4 x5 m6
  have o_g2 := own_new xW e4
  have xW := Ext.trans xW x5
  refine WL.yld rfl (blt rfl) rfl (Y.assign rfl rfl) ?_
  refine WL.nil ?_
  refine WK.then_normal (k1 _ _ ?_)
  refine WC.sub [(1, _)] ⟨rfl, trivial⟩ ?_
  refine WC.seq (fun K7 k7 => ?_)
  refine WC.region rfl ?_
  refine WL.yld rfl (blt rfl) rfl (Y.assign rfl rfl) ?_
  refine WL.yld rfl (blt rfl) rfl (Y.assign rfl rfl) ?_
  refine WL.yld rfl (blt rfl) rfl (Y.assign rfl rfl) ?_
  refine WL.nil ?_
  refine WK.then_normal (k7 _ _ ?_)
  refine WC.seq (fun K8 k8 => ?_)
  refine WC.block ?_
  refine WC.seq (fun K9 k9 => ?_)
  refine WC.region rfl ?_
  refine WL.yld rfl (blt rfl) rfl (Y.fieldAddr rfl Try.underlying28 rfl ti22 (by decide) rfl) ?_
  refine WL.yld rfl (blt rfl) rfl (Y.load1 rfl Try.underlying22 rfl rfl (Blk.at_eq m6 rfl)) ?_
  refine WL.yld rfl (blt rfl) rfl (Y.eql rfl rfl rfl) ?_
  refine WL.yld rfl (blt rfl) rfl (Y.assign rfl rfl) ?_
  refine WL.nil ?_
  refine WK.then_normal (k9 _ _ ?_)
  refine WC.sub [(1, _), (3, _), (4, _), (5, _), (6, _)] ⟨rfl, rfl, rfl, rfl, rfl, trivial⟩ ?_
  refine WC.cond rfl (fun h10 => ?_) (fun h10 => ?_)
  ·
    have p10 := (eq_t h10)
    refine WC.region rfl ?_
    refine WL.yld rfl (blt rfl) rfl (Y.assign rfl rfl) ?_
    refine WL.yld rfl (blt rfl) rfl (Y.assign rfl rfl) ?_
    refine WL.nil ?_
    refine WK.in_normal ?_
    refine WK.then_normal (k8 _ _ ?_)
    refine WC.sub [(1, _), (3, _), (4, _), (5, _)] ⟨rfl, rfl, rfl, rfl, trivial⟩ ?_
    refine WC.seq (fun K11 k11 => ?_)
    refine WC.block ?_
    refine WC.seq (fun K12 k12 => ?_)
    refine WC.seq (fun K13 k13 => ?_)
    refine WC.region rfl ?_
    refine WL.yld rfl (blt rfl) rfl (Y.fieldAddr rfl Try.underlying28 rfl ti26 (by decide) rfl) ?_
    refine WL.yld rfl (blt rfl) rfl (Y.load1 rfl Try.underlying26 rfl rfl (Blk.at_eq m6 rfl)) ?_
    refine WL.yld rfl (blt rfl) rfl (Y.lenSl rfl rfl rfl Try.underlying26 rfl) ?_
    refine WL.yld rfl (blt rfl) rfl (Y.move rfl rfl) ?_
    refine WL.yld rfl (blt rfl) rfl (Y.neq rfl rfl rfl) ?_
    refine WL.yld rfl (blt rfl) rfl (Y.assign rfl rfl) ?_
    refine WL.nil ?_
    refine WK.then_normal (k13 _ _ ?_)
    refine WC.sub [(1, _), (3, _), (4, _), (5, _), (39, _)] ⟨rfl, rfl, rfl, rfl, rfl, trivial⟩ ?_
    refine WC.cond rfl (fun h14 => ?_) (fun h14 => ?_)
    ·
      have p14 := (eq_f (not_t h14))
      refine WC.skip ?_
      refine WK.then_normal (k12 _ _ ?_)
      refine WC.sub [(1, _), (3, _), (4, _), (5, _), (39, .bool true)] ⟨rfl, rfl, rfl, rfl, kn h14, trivial⟩ ?_
      refine WC.condT rfl ?_
      refine WC.seq (fun K15 k15 => ?_)
      refine WC.region rfl ?_
      refine WL.yld rfl (blt rfl) rfl (Y.assign rfl rfl) ?_
      refine WL.nil ?_
      refine WK.then_normal (k15 _ _ ?_)
      refine WC.sub [(2, _)] ⟨rfl, trivial⟩ ?_
      refine WC.ret ?_
      refine WK.in_ret ?_
      refine WK.then_ret ?_
      clear k1 k7 k8 k9 k11 k12 k13 k15
      refine WK.ret [_] rfl ⟨rfl, trivial⟩ ?_
      refine ⟨ret1 (vi ?_), xW⟩
      first | (exfalso; revert h10; simp; done) | (exfalso; revert h14; simp; done) | (have q0 := h10; (try simp only [Sx.emp_iff] at q0); (try simp only [Bool.not_false, Bool.not_true, Bool.and_true, Bool.and_false, Bool.true_and, Bool.false_and, Bool.or_false, Bool.false_or, Bool.and_eq_true, Bool.or_eq_true, Bool.not_eq_true', Bool.and_eq_false_iff, Bool.or_eq_false_iff, Bool.not_eq_false', decide_eq_true_eq, decide_eq_false_iff_not, beq_iff_eq, beq_eq_false_iff_ne, ne_eq, Sx.idF, Sx.idT] at q0); have q1 := h14; (try simp only [Sx.emp_iff] at q1); (try simp only [Bool.not_false, Bool.not_true, Bool.and_true, Bool.and_false, Bool.true_and, Bool.false_and, Bool.or_false, Bool.false_or, Bool.and_eq_true, Bool.or_eq_true, Bool.not_eq_true', Bool.and_eq_false_iff, Bool.or_eq_false_iff, Bool.not_eq_false', decide_eq_true_eq, decide_eq_false_iff_not, beq_iff_eq, beq_eq_false_iff_ne, ne_eq, Sx.idF, Sx.idT] at q1); first | (exfalso; omega) | (have kn := Sx.kid_0 (n := x.kids.length) (op := x.op) (by omega); unfold Sx.nodE Sx.callE; ((try simp only [Sx.idF]); (repeat (first | rw [if_pos (by omega)] | rw [if_neg (by omega)]))); done))
    ·
      have p14 := (eq_t (not_f h14))
      refine WC.seq (fun K16 k16 => ?_)
      refine WC.region rfl ?_
      refine WL.yld rfl (blt rfl) rfl (Y.fieldAddr rfl Try.underlying28 rfl ti9 (by decide) rfl) ?_
      refine WL.yld rfl (blt rfl) rfl (Y.load1 rfl Try.underlying9 rfl rfl (Blk.at_eq m6 rfl)) ?_
      refine WL.yld rfl (blt rfl) rfl (Y.neqStr rfl rfl rfl) ?_
      refine WL.yld rfl (blt rfl) rfl (Y.move rfl rfl) ?_
      refine WL.yldG rfl (blt rfl) rfl rfl rfl (fun hb => Y.move rfl rfl) ?_
      refine WL.yldG rfl (blt rfl) rfl rfl rfl (fun hb => Y.not rfl (evg rfl hb)) ?_
      refine WL.yld rfl (blt rfl) rfl (Y.and rfl rfl rfl rfl) ?_
      refine WL.yld rfl (blt rfl) rfl (Y.assign rfl rfl) ?_
      refine WL.nil ?_
      refine WK.then_normal (k16 _ _ ?_)
      refine WC.sub [(1, _), (3, _), (4, _), (5, _), (39, _)] ⟨rfl, rfl, rfl, rfl, rfl, trivial⟩ ?_
      refine WC.cond rfl (fun h17 => ?_) (fun h17 => ?_)
      ·
        refine WC.skip ?_
        refine WK.then_normal (k12 _ _ ?_)
        refine WC.sub [(1, _), (3, _), (4, _), (5, _), (39, .bool true)] ⟨rfl, rfl, rfl, rfl, kn h17, trivial⟩ ?_
        refine WC.condT rfl ?_
        refine WC.seq (fun K18 k18 => ?_)
        refine WC.region rfl ?_
        refine WL.yld rfl (blt rfl) rfl (Y.assign rfl rfl) ?_
        refine WL.nil ?_
        refine WK.then_normal (k18 _ _ ?_)
        refine WC.sub [(2, _)] ⟨rfl, trivial⟩ ?_
        refine WC.ret ?_
        refine WK.in_ret ?_
        refine WK.then_ret ?_
        clear k1 k7 k8 k9 k11 k12 k13 k16 k18
        refine WK.ret [_] rfl ⟨rfl, trivial⟩ ?_
        refine ⟨ret1 (vi ?_), xW⟩
        first | (exfalso; revert h10; simp; done) | (exfalso; revert h14; simp; done) | (exfalso; revert h17; simp; done) | (have q0 := h10; (try simp only [Sx.emp_iff] at q0); (try simp only [Bool.not_false, Bool.not_true, Bool.and_true, Bool.and_false, Bool.true_and, Bool.false_and, Bool.or_false, Bool.false_or, Bool.and_eq_true, Bool.or_eq_true, Bool.not_eq_true', Bool.and_eq_false_iff, Bool.or_eq_false_iff, Bool.not_eq_false', decide_eq_true_eq, decide_eq_false_iff_not, beq_iff_eq, beq_eq_false_iff_ne, ne_eq, Sx.idF, Sx.idT] at q0); have q1 := h14; (try simp only [Sx.emp_iff] at q1); (try simp only [Bool.not_false, Bool.not_true, Bool.and_true, Bool.and_false, Bool.true_and, Bool.false_and, Bool.or_false, Bool.false_or, Bool.and_eq_true, Bool.or_eq_true, Bool.not_eq_true', Bool.and_eq_false_iff, Bool.or_eq_false_iff, Bool.not_eq_false', decide_eq_true_eq, decide_eq_false_iff_not, beq_iff_eq, beq_eq_false_iff_ne, ne_eq, Sx.idF, Sx.idT] at q1); have q2 := h17; (try simp only [Sx.emp_iff] at q2); (try simp only [Bool.not_false, Bool.not_true, Bool.and_true, Bool.and_false, Bool.true_and, Bool.false_and, Bool.or_false, Bool.false_or, Bool.and_eq_true, Bool.or_eq_true, Bool.not_eq_true', Bool.and_eq_false_iff, Bool.or_eq_false_iff, Bool.not_eq_false', decide_eq_true_eq, decide_eq_false_iff_not, beq_iff_eq, beq_eq_false_iff_ne, ne_eq, Sx.idF, Sx.idT] at q2); first | (exfalso; omega) | (have kn := Sx.kid_0 (n := x.kids.length) (op := x.op) (by omega); unfold Sx.nodE Sx.callE; ((try simp only [Sx.idF]); (repeat (first | rw [if_pos (by omega)] | rw [if_neg (by omega)]))); done))
      ·
        refine WC.region rfl ?_
        refine WL.yld rfl (blt rfl) rfl (Y.fieldAddr rfl Try.underlying28 rfl ti25 (by decide) rfl) ?_
        refine WL.yld rfl (blt rfl) rfl (Y.loadS (cs := [_, _, _]) rfl Try.underlying25 rfl ti25 rfl (Blk.part_eq m6 rfl)) ?_
        refine WL.yld rfl (blt rfl) rfl (Y.build (cells := [_, _, _]) rfl pl25 rfl rfl) ?_
        refine WL.yld rfl (blt rfl) rfl (Y.neqS rfl eqg25 (eq25 _ _ _ _ _ _) rfl rfl) ?_
        refine WL.yld rfl (blt rfl) rfl (Y.move rfl rfl) ?_
        refine WL.yldG rfl (blt rfl) rfl rfl rfl (fun hb => Y.move rfl rfl) ?_
        refine WL.yldG rfl (blt rfl) rfl rfl rfl (fun hb => Y.not rfl (evg rfl hb)) ?_
        refine WL.yld rfl (blt rfl) rfl (Y.and rfl rfl rfl rfl) ?_
        refine WL.yld rfl (blt rfl) rfl (Y.assign rfl rfl) ?_
        refine WL.nil ?_
        refine WK.then_normal (k12 _ _ ?_)
        refine WC.sub [(1, _), (3, _), (4, _), (5, _), (39, _)] ⟨rfl, rfl, rfl, rfl, rfl, trivial⟩ ?_
        refine WC.cond rfl (fun h19 => ?_) (fun h19 => ?_)
        ·
          refine WC.seq (fun K20 k20 => ?_)
          refine WC.region rfl ?_
          refine WL.yld rfl (blt rfl) rfl (Y.assign rfl rfl) ?_
          refine WL.nil ?_
          refine WK.then_normal (k20 _ _ ?_)
          refine WC.sub [(2, _)] ⟨rfl, trivial⟩ ?_
          refine WC.ret ?_
          refine WK.in_ret ?_
          refine WK.then_ret ?_
          clear k1 k7 k8 k9 k11 k12 k13 k16 k20
          refine WK.ret [_] rfl ⟨rfl, trivial⟩ ?_
          refine ⟨ret1 (vi ?_), xW⟩
          first | (exfalso; revert h10; simp; done) | (exfalso; revert h14; simp; done) | (exfalso; revert h17; simp; done) | (exfalso; revert h19; simp; done) | (have q0 := h10; (try simp only [Sx.emp_iff] at q0); (try simp only [Bool.not_false, Bool.not_true, Bool.and_true, Bool.and_false, Bool.true_and, Bool.false_and, Bool.or_false, Bool.false_or, Bool.and_eq_true, Bool.or_eq_true, Bool.not_eq_true', Bool.and_eq_false_iff, Bool.or_eq_false_iff, Bool.not_eq_false', decide_eq_true_eq, decide_eq_false_iff_not, beq_iff_eq, beq_eq_false_iff_ne, ne_eq, Sx.idF, Sx.idT] at q0); have q1 := h14; (try simp only [Sx.emp_iff] at q1); (try simp only [Bool.not_false, Bool.not_true, Bool.and_true, Bool.and_false, Bool.true_and, Bool.false_and, Bool.or_false, Bool.false_or, Bool.and_eq_true, Bool.or_eq_true, Bool.not_eq_true', Bool.and_eq_false_iff, Bool.or_eq_false_iff, Bool.not_eq_false', decide_eq_true_eq, decide_eq_false_iff_not, beq_iff_eq, beq_eq_false_iff_ne, ne_eq, Sx.idF, Sx.idT] at q1); have q2 := h17; (try simp only [Sx.emp_iff] at q2); (try simp only [Bool.not_false, Bool.not_true, Bool.and_true, Bool.and_false, Bool.true_and, Bool.false_and, Bool.or_false, Bool.false_or, Bool.and_eq_true, Bool.or_eq_true, Bool.not_eq_true', Bool.and_eq_false_iff, Bool.or_eq_false_iff, Bool.not_eq_false', decide_eq_true_eq, decide_eq_false_iff_not, beq_iff_eq, beq_eq_false_iff_ne, ne_eq, Sx.idF, Sx.idT] at q2); have q3 := h19; (try simp only [Sx.emp_iff] at q3); (try simp only [Bool.not_false, Bool.not_true, Bool.and_true, Bool.and_false, Bool.true_and, Bool.false_and, Bool.or_false, Bool.false_or, Bool.and_eq_true, Bool.or_eq_true, Bool.not_eq_true', Bool.and_eq_false_iff, Bool.or_eq_false_iff, Bool.not_eq_false', decide_eq_true_eq, decide_eq_false_iff_not, beq_iff_eq, beq_eq_false_iff_ne, ne_eq, Sx.idF, Sx.idT] at q3); first | (exfalso; omega) | (have kn := Sx.kid_0 (n := x.kids.length) (op := x.op) (by omega); unfold Sx.nodE Sx.callE; ((try simp only [Sx.idF]); (repeat (first | rw [if_pos (by omega)] | rw [if_neg (by omega)]))); done))
        ·
          refine WC.seq (fun K21 k21 => ?_)
          refine WC.region rfl ?_
          refine WL.yld rfl (blt rfl) rfl (Y.move rfl rfl) ?_
          refine WL.yld rfl (blt rfl) rfl (Y.assign rfl rfl) ?_
          refine WL.nil ?_
          refine WK.then_normal (k21 _ _ ?_)
          refine WC.sub [(1, _), (3, _), (4, _), (60, _)] ⟨rfl, rfl, rfl, rfl, trivial⟩ ?_
          refine WC.condT rfl ?_
          refine WC.seq (fun K22 k22 => ?_)
          refine WC.region rfl ?_
          refine WL.yld rfl (blt rfl) rfl (Y.fieldAddr rfl Try.underlying28 rfl ti25 (by decide) rfl) ?_
          refine WL.yld rfl (blt rfl) rfl (Y.loadS (cs := [_, _, _]) rfl Try.underlying25 rfl ti25 rfl (Blk.part_eq m6 rfl)) ?_
          refine WL.call rfl (blt rfl) rfl rfl rfl has70 rfl (const_any _ _ _ _ (by omega)) ?_
          rintro _ w23 ⟨rfl, x24⟩
          refine ⟨_, rfl, ?_⟩
          have m6 := m6.ext x24
          have xW := Ext.trans xW x24
          refine WL.yld rfl (blt rfl) rfl (Y.assign rfl rfl) ?_
          refine WL.nil ?_
          refine WK.then_normal (k22 _ _ ?_)
          refine WC.sub [(2, _)] ⟨rfl, trivial⟩ ?_
          refine WC.ret ?_
          refine WK.in_ret ?_
          refine WK.then_ret ?_
          clear k1 k7 k8 k9 k11 k12 k13 k16 k21 k22
          refine WK.ret [_] rfl ⟨rfl, trivial⟩ ?_
          refine ⟨ret1 (vi ?_), xW⟩
          first | (exfalso; revert h10; simp; done) | (exfalso; revert h14; simp; done) | (exfalso; revert h17; simp; done) | (exfalso; revert h19; simp; done) | (have q0 := h10; (try simp only [Sx.emp_iff] at q0); (try simp only [Bool.not_false, Bool.not_true, Bool.and_true, Bool.and_false, Bool.true_and, Bool.false_and, Bool.or_false, Bool.false_or, Bool.and_eq_true, Bool.or_eq_true, Bool.not_eq_true', Bool.and_eq_false_iff, Bool.or_eq_false_iff, Bool.not_eq_false', decide_eq_true_eq, decide_eq_false_iff_not, beq_iff_eq, beq_eq_false_iff_ne, ne_eq, Sx.idF, Sx.idT] at q0); have q1 := h14; (try simp only [Sx.emp_iff] at q1); (try simp only [Bool.not_false, Bool.not_true, Bool.and_true, Bool.and_false, Bool.true_and, Bool.false_and, Bool.or_false, Bool.false_or, Bool.and_eq_true, Bool.or_eq_true, Bool.not_eq_true', Bool.and_eq_false_iff, Bool.or_eq_false_iff, Bool.not_eq_false', decide_eq_true_eq, decide_eq_false_iff_not, beq_iff_eq, beq_eq_false_iff_ne, ne_eq, Sx.idF, Sx.idT] at q1); have q2 := h17; (try simp only [Sx.emp_iff] at q2); (try simp only [Bool.not_false, Bool.not_true, Bool.and_true, Bool.and_false, Bool.true_and, Bool.false_and, Bool.or_false, Bool.false_or, Bool.and_eq_true, Bool.or_eq_true, Bool.not_eq_true', Bool.and_eq_false_iff, Bool.or_eq_false_iff, Bool.not_eq_false', decide_eq_true_eq, decide_eq_false_iff_not, beq_iff_eq, beq_eq_false_iff_ne, ne_eq, Sx.idF, Sx.idT] at q2); have q3 := h19; (try simp only [Sx.emp_iff] at q3); (try simp only [Bool.not_false, Bool.not_true, Bool.and_true, Bool.and_false, Bool.true_and, Bool.false_and, Bool.or_false, Bool.false_or, Bool.and_eq_true, Bool.or_eq_true, Bool.not_eq_true', Bool.and_eq_false_iff, Bool.or_eq_false_iff, Bool.not_eq_false', decide_eq_true_eq, decide_eq_false_iff_not, beq_iff_eq, beq_eq_false_iff_ne, ne_eq, Sx.idF, Sx.idT] at q3); first | (exfalso; omega) | (have kn := Sx.kid_0 (n := x.kids.length) (op := x.op) (by omega); unfold Sx.nodE Sx.callE; ((try simp only [Sx.idF]); (repeat (first | rw [if_pos (by omega)] | rw [if_neg (by omega)]))); done))
  ·
    have p10 := (eq_f h10)
    refine WC.seq (fun K25 k25 => ?_)
    refine WC.region rfl ?_
    refine WL.yld rfl (blt rfl) rfl (Y.fieldAddr rfl Try.underlying28 rfl ti22 (by decide) rfl) ?_
    refine WL.yld rfl (blt rfl) rfl (Y.load1 rfl Try.underlying22 rfl rfl (Blk.at_eq m6 rfl)) ?_
    refine WL.yld rfl (blt rfl) rfl (Y.eql rfl rfl rfl) ?_
    refine WL.yld rfl (blt rfl) rfl (Y.assign rfl rfl) ?_
    refine WL.nil ?_
    refine WK.then_normal (k25 _ _ ?_)
    refine WC.sub [(1, _), (3, _), (4, _), (5, _), (10, _)] ⟨rfl, rfl, rfl, rfl, rfl, trivial⟩ ?_
    refine WC.cond rfl (fun h26 => ?_) (fun h26 => ?_)
    ·
      have p26 := (eq_t h26)
      refine WC.region rfl ?_
      refine WL.yld rfl (blt rfl) rfl (Y.assign rfl rfl) ?_
      refine WL.yld rfl (blt rfl) rfl (Y.assign rfl rfl) ?_
      refine WL.nil ?_
      refine WK.in_normal ?_
      refine WK.then_normal (k8 _ _ ?_)
      refine WC.sub [(1, _), (3, _), (4, _), (5, _)] ⟨rfl, rfl, rfl, rfl, trivial⟩ ?_
      refine WC.seq (fun K27 k27 => ?_)
      refine WC.block ?_
      refine WC.seq (fun K28 k28 => ?_)
      refine WC.seq (fun K29 k29 => ?_)
      refine WC.region rfl ?_
      refine WL.yld rfl (blt rfl) rfl (Y.fieldAddr rfl Try.underlying28 rfl ti26 (by decide) rfl) ?_
      refine WL.yld rfl (blt rfl) rfl (Y.load1 rfl Try.underlying26 rfl rfl (Blk.at_eq m6 rfl)) ?_
      refine WL.yld rfl (blt rfl) rfl (Y.lenSl rfl rfl rfl Try.underlying26 rfl) ?_
      refine WL.yld rfl (blt rfl) rfl (Y.move rfl rfl) ?_
      refine WL.yld rfl (blt rfl) rfl (Y.neq rfl rfl rfl) ?_
      refine WL.yld rfl (blt rfl) rfl (Y.assign rfl rfl) ?_
      refine WL.nil ?_
      refine WK.then_normal (k29 _ _ ?_)
      refine WC.sub [(1, _), (3, _), (4, _), (5, _), (39, _)] ⟨rfl, rfl, rfl, rfl, rfl, trivial⟩ ?_
      refine WC.cond rfl (fun h30 => ?_) (fun h30 => ?_)
      ·
        have p30 := (eq_f (not_t h30))
        refine WC.skip ?_
        refine WK.then_normal (k28 _ _ ?_)
        refine WC.sub [(1, _), (3, _), (4, _), (5, _), (39, .bool true)] ⟨rfl, rfl, rfl, rfl, kn h30, trivial⟩ ?_
        refine WC.condT rfl ?_
        refine WC.seq (fun K31 k31 => ?_)
        refine WC.region rfl ?_
        refine WL.yld rfl (blt rfl) rfl (Y.assign rfl rfl) ?_
        refine WL.nil ?_
        refine WK.then_normal (k31 _ _ ?_)
        refine WC.sub [(2, _)] ⟨rfl, trivial⟩ ?_
        refine WC.ret ?_
        refine WK.in_ret ?_
        refine WK.then_ret ?_
        clear k1 k7 k8 k9 k25 k27 k28 k29 k31
        refine WK.ret [_] rfl ⟨rfl, trivial⟩ ?_
        refine ⟨ret1 (vi ?_), xW⟩
        first | (exfalso; revert h10; simp; done) | (exfalso; revert h26; simp; done) | (exfalso; revert h30; simp; done) | (have q0 := h10; (try simp only [Sx.emp_iff] at q0); (try simp only [Bool.not_false, Bool.not_true, Bool.and_true, Bool.and_false, Bool.true_and, Bool.false_and, Bool.or_false, Bool.false_or, Bool.and_eq_true, Bool.or_eq_true, Bool.not_eq_true', Bool.and_eq_false_iff, Bool.or_eq_false_iff, Bool.not_eq_false', decide_eq_true_eq, decide_eq_false_iff_not, beq_iff_eq, beq_eq_false_iff_ne, ne_eq, Sx.idF, Sx.idT] at q0); have q1 := h26; (try simp only [Sx.emp_iff] at q1); (try simp only [Bool.not_false, Bool.not_true, Bool.and_true, Bool.and_false, Bool.true_and, Bool.false_and, Bool.or_false, Bool.false_or, Bool.and_eq_true, Bool.or_eq_true, Bool.not_eq_true', Bool.and_eq_false_iff, Bool.or_eq_false_iff, Bool.not_eq_false', decide_eq_true_eq, decide_eq_false_iff_not, beq_iff_eq, beq_eq_false_iff_ne, ne_eq, Sx.idF, Sx.idT] at q1); have q2 := h30; (try simp only [Sx.emp_iff] at q2); (try simp only [Bool.not_false, Bool.not_true, Bool.and_true, Bool.and_false, Bool.true_and, Bool.false_and, Bool.or_false, Bool.false_or, Bool.and_eq_true, Bool.or_eq_true, Bool.not_eq_true', Bool.and_eq_false_iff, Bool.or_eq_false_iff, Bool.not_eq_false', decide_eq_true_eq, decide_eq_false_iff_not, beq_iff_eq, beq_eq_false_iff_ne, ne_eq, Sx.idF, Sx.idT] at q2); first | (exfalso; omega) | (have kn := Sx.kid_0 (n := x.kids.length) (op := x.op) (by omega); unfold Sx.nodE Sx.callE; ((try simp only [Sx.idF]); (repeat (first | rw [if_pos (by omega)] | rw [if_neg (by omega)]))); done))
      ·
        have p30 := (eq_t (not_f h30))
        refine WC.seq (fun K32 k32 => ?_)
        refine WC.region rfl ?_
        refine WL.yld rfl (blt rfl) rfl (Y.fieldAddr rfl Try.underlying28 rfl ti9 (by decide) rfl) ?_
        refine WL.yld rfl (blt rfl) rfl (Y.load1 rfl Try.underlying9 rfl rfl (Blk.at_eq m6 rfl)) ?_
        refine WL.yld rfl (blt rfl) rfl (Y.neqStr rfl rfl rfl) ?_
        refine WL.yld rfl (blt rfl) rfl (Y.move rfl rfl) ?_
        refine WL.yldG rfl (blt rfl) rfl rfl rfl (fun hb => Y.move rfl rfl) ?_
        refine WL.yldG rfl (blt rfl) rfl rfl rfl (fun hb => Y.not rfl (evg rfl hb)) ?_
        refine WL.yld rfl (blt rfl) rfl (Y.and rfl rfl rfl rfl) ?_
        refine WL.yld rfl (blt rfl) rfl (Y.assign rfl rfl) ?_
        refine WL.nil ?_
        refine WK.then_normal (k32 _ _ ?_)
        refine WC.sub [(1, _), (3, _), (4, _), (5, _), (39, _)] ⟨rfl, rfl, rfl, rfl, rfl, trivial⟩ ?_
        refine WC.cond rfl (fun h33 => ?_) (fun h33 => ?_)
        ·
          refine WC.skip ?_
          refine WK.then_normal (k28 _ _ ?_)
          refine WC.sub [(1, _), (3, _), (4, _), (5, _), (39, .bool true)] ⟨rfl, rfl, rfl, rfl, kn h33, trivial⟩ ?_
          refine WC.condT rfl ?_
          refine WC.seq (fun K34 k34 => ?_)
          refine WC.region rfl ?_
          refine WL.yld rfl (blt rfl) rfl (Y.assign rfl rfl) ?_
          refine WL.nil ?_
          refine WK.then_normal (k34 _ _ ?_)
          refine WC.sub [(2, _)] ⟨rfl, trivial⟩ ?_
          refine WC.ret ?_
          refine WK.in_ret ?_
          refine WK.then_ret ?_
          clear k1 k7 k8 k9 k25 k27 k28 k29 k32 k34
          refine WK.ret [_] rfl ⟨rfl, trivial⟩ ?_
          refine ⟨ret1 (vi ?_), xW⟩
          first | (exfalso; revert h10; simp; done) | (exfalso; revert h26; simp; done) | (exfalso; revert h30; simp; done) | (exfalso; revert h33; simp; done) | (have q0 := h10; (try simp only [Sx.emp_iff] at q0); (try simp only [Bool.not_false, Bool.not_true, Bool.and_true, Bool.and_false, Bool.true_and, Bool.false_and, Bool.or_false, Bool.false_or, Bool.and_eq_true, Bool.or_eq_true, Bool.not_eq_true', Bool.and_eq_false_iff, Bool.or_eq_false_iff, Bool.not_eq_false', decide_eq_true_eq, decide_eq_false_iff_not, beq_iff_eq, beq_eq_false_iff_ne, ne_eq, Sx.idF, Sx.idT] at q0); have q1 := h26; (try simp only [Sx.emp_iff] at q1); (try simp only [Bool.not_false, Bool.not_true, Bool.and_true, Bool.and_false, Bool.true_and, Bool.false_and, Bool.or_false, Bool.false_or, Bool.and_eq_true, Bool.or_eq_true, Bool.not_eq_true', Bool.and_eq_false_iff, Bool.or_eq_false_iff, Bool.not_eq_false', decide_eq_true_eq, decide_eq_false_iff_not, beq_iff_eq, beq_eq_false_iff_ne, ne_eq, Sx.idF, Sx.idT] at q1); have q2 := h30; (try simp only [Sx.emp_iff] at q2); (try simp only [Bool.not_false, Bool.not_true, Bool.and_true, Bool.and_false, Bool.true_and, Bool.false_and, Bool.or_false, Bool.false_or, Bool.and_eq_true, Bool.or_eq_true, Bool.not_eq_true', Bool.and_eq_false_iff, Bool.or_eq_false_iff, Bool.not_eq_false', decide_eq_true_eq, decide_eq_false_iff_not, beq_iff_eq, beq_eq_false_iff_ne, ne_eq, Sx.idF, Sx.idT] at q2); have q3 := h33; (try simp only [Sx.emp_iff] at q3); (try simp only [Bool.not_false, Bool.not_true, Bool.and_true, Bool.and_false, Bool.true_and, Bool.false_and, Bool.or_false, Bool.false_or, Bool.and_eq_true, Bool.or_eq_true, Bool.not_eq_true', Bool.and_eq_false_iff, Bool.or_eq_false_iff, Bool.not_eq_false', decide_eq_true_eq, decide_eq_false_iff_not, beq_iff_eq, beq_eq_false_iff_ne, ne_eq, Sx.idF, Sx.idT] at q3); first | (exfalso; omega) | (have kn := Sx.kid_0 (n := x.kids.length) (op := x.op) (by omega); unfold Sx.nodE Sx.callE; ((try simp only [Sx.idF]); (repeat (first | rw [if_pos (by omega)] | rw [if_neg (by omega)]))); done))
        ·
          refine WC.region rfl ?_
          refine WL.yld rfl (blt rfl) rfl (Y.fieldAddr rfl Try.underlying28 rfl ti25 (by decide) rfl) ?_
          refine WL.yld rfl (blt rfl) rfl (Y.loadS (cs := [_, _, _]) rfl Try.underlying25 rfl ti25 rfl (Blk.part_eq m6 rfl)) ?_
          refine WL.yld rfl (blt rfl) rfl (Y.build (cells := [_, _, _]) rfl pl25 rfl rfl) ?_
          refine WL.yld rfl (blt rfl) rfl (Y.neqS rfl eqg25 (eq25 _ _ _ _ _ _) rfl rfl) ?_
          refine WL.yld rfl (blt rfl) rfl (Y.move rfl rfl) ?_
          refine WL.yldG rfl (blt rfl) rfl rfl rfl (fun hb => Y.move rfl rfl) ?_
          refine WL.yldG rfl (blt rfl) rfl rfl rfl (fun hb => Y.not rfl (evg rfl hb)) ?_
          refine WL.yld rfl (blt rfl) rfl (Y.and rfl rfl rfl rfl) ?_
          refine WL.yld rfl (blt rfl) rfl (Y.assign rfl rfl) ?_
          refine WL.nil ?_
          refine WK.then_normal (k28 _ _ ?_)
          refine WC.sub [(1, _), (3, _), (4, _), (5, _), (39, _)] ⟨rfl, rfl, rfl, rfl, rfl, trivial⟩ ?_
          refine WC.cond rfl (fun h35 => ?_) (fun h35 => ?_)
          ·
            refine WC.seq (fun K36 k36 => ?_)
            refine WC.region rfl ?_
            refine WL.yld rfl (blt rfl) rfl (Y.assign rfl rfl) ?_
            refine WL.nil ?_
            refine WK.then_normal (k36 _ _ ?_)
            refine WC.sub [(2, _)] ⟨rfl, trivial⟩ ?_
            refine WC.ret ?_
            refine WK.in_ret ?_
            refine WK.then_ret ?_
            clear k1 k7 k8 k9 k25 k27 k28 k29 k32 k36
            refine WK.ret [_] rfl ⟨rfl, trivial⟩ ?_
            refine ⟨ret1 (vi ?_), xW⟩
            first | (exfalso; revert h10; simp; done) | (exfalso; revert h26; simp; done) | (exfalso; revert h30; simp; done) | (exfalso; revert h33; simp; done) | (exfalso; revert h35; simp; done) | (have q0 := h10; (try simp only [Sx.emp_iff] at q0); (try simp only [Bool.not_false, Bool.not_true, Bool.and_true, Bool.and_false, Bool.true_and, Bool.false_and, Bool.or_false, Bool.false_or, Bool.and_eq_true, Bool.or_eq_true, Bool.not_eq_true', Bool.and_eq_false_iff, Bool.or_eq_false_iff, Bool.not_eq_false', decide_eq_true_eq, decide_eq_false_iff_not, beq_iff_eq, beq_eq_false_iff_ne, ne_eq, Sx.idF, Sx.idT] at q0); have q1 := h26; (try simp only [Sx.emp_iff] at q1); (try simp only [Bool.not_false, Bool.not_true, Bool.and_true, Bool.and_false, Bool.true_and, Bool.false_and, Bool.or_false, Bool.false_or, Bool.and_eq_true, Bool.or_eq_true, Bool.not_eq_true', Bool.and_eq_false_iff, Bool.or_eq_false_iff, Bool.not_eq_false', decide_eq_true_eq, decide_eq_false_iff_not, beq_iff_eq, beq_eq_false_iff_ne, ne_eq, Sx.idF, Sx.idT] at q1); have q2 := h30; (try simp only [Sx.emp_iff] at q2); (try simp only [Bool.not_false, Bool.not_true, Bool.and_true, Bool.and_false, Bool.true_and, Bool.false_and, Bool.or_false, Bool.false_or, Bool.and_eq_true, Bool.or_eq_true, Bool.not_eq_true', Bool.and_eq_false_iff, Bool.or_eq_false_iff, Bool.not_eq_false', decide_eq_true_eq, decide_eq_false_iff_not, beq_iff_eq, beq_eq_false_iff_ne, ne_eq, Sx.idF, Sx.idT] at q2); have q3 := h33; (try simp only [Sx.emp_iff] at q3); (try simp only [Bool.not_false, Bool.not_true, Bool.and_true, Bool.and_false, Bool.true_and, Bool.false_and, Bool.or_false, Bool.false_or, Bool.and_eq_true, Bool.or_eq_true, Bool.not_eq_true', Bool.and_eq_false_iff, Bool.or_eq_false_iff, Bool.not_eq_false', decide_eq_true_eq, decide_eq_false_iff_not, beq_iff_eq, beq_eq_false_iff_ne, ne_eq, Sx.idF, Sx.idT] at q3); have q4 := h35; (try simp only [Sx.emp_iff] at q4); (try simp only [Bool.not_false, Bool.not_true, Bool.and_true, Bool.and_false, Bool.true_and, Bool.false_and, Bool.or_false, Bool.false_or, Bool.and_eq_true, Bool.or_eq_true, Bool.not_eq_true', Bool.and_eq_false_iff, Bool.or_eq_false_iff, Bool.not_eq_false', decide_eq_true_eq, decide_eq_false_iff_not, beq_iff_eq, beq_eq_false_iff_ne, ne_eq, Sx.idF, Sx.idT] at q4); first | (exfalso; omega) | (have kn := Sx.kid_0 (n := x.kids.length) (op := x.op) (by omega); unfold Sx.nodE Sx.callE; ((try simp only [Sx.idF]); (repeat (first | rw [if_pos (by omega)] | rw [if_neg (by omega)]))); done))
          ·
            refine WC.seq (fun K37 k37 => ?_)
            refine WC.region rfl ?_
            refine WL.yld rfl (blt rfl) rfl (Y.move rfl rfl) ?_
            refine WL.yld rfl (blt rfl) rfl (Y.assign rfl rfl) ?_
            refine WL.nil ?_
            refine WK.then_normal (k37 _ _ ?_)
            refine WC.sub [(1, _), (3, _), (4, _), (60, _)] ⟨rfl, rfl, rfl, rfl, trivial⟩ ?_
            refine WC.condF rfl ?_
            refine WC.seq (fun K38 k38 => ?_)
            refine WC.region rfl ?_
            refine WL.yld rfl (blt rfl) rfl (Y.move rfl rfl) ?_
            refine WL.yld rfl (blt rfl) rfl (Y.move rfl rfl) ?_
            refine WL.yldW rfl (blt rfl) rfl rfl rfl (Y.fieldAddr rfl Try.underlying28 rfl ti9 (by decide) rfl) ?_
            refine WL.yldW rfl (blt rfl) rfl rfl rfl (Y.load1 rfl Try.underlying9 rfl rfl (Blk.at_eq m6 rfl)) ?_
            refine WL.callW rfl (blt rfl) rfl rfl rfl rfl rfl has40 rfl (ident_any _ _ ) ?_
            rintro _ w39 ⟨rfl, x40⟩
            refine ⟨_, rfl, ?_⟩
            have m6 := m6.ext x40
            have xW := Ext.trans xW x40
            refine WL.yldW rfl (blt rfl) rfl rfl rfl (Y.not rfl rfl) ?_
            refine WL.yld rfl (blt rfl) rfl (Y.pickT rfl rfl rfl) ?_
            refine WL.yld rfl (blt rfl) rfl (Y.assign rfl rfl) ?_
            refine WL.nil ?_
            refine WK.then_normal (k38 _ _ ?_)
            refine WC.sub [(1, _), (3, _), (65, _)] ⟨rfl, rfl, rfl, trivial⟩ ?_
            refine WC.cond rfl (fun h41 => ?_) (fun h41 => ?_)
            ·
              refine WC.seq (fun K42 k42 => ?_)
              refine WC.region rfl ?_
              refine WL.yld rfl (blt rfl) rfl (Y.assign rfl rfl) ?_
              refine WL.nil ?_
              refine WK.then_normal (k42 _ _ ?_)
              refine WC.sub [(2, _)] ⟨rfl, trivial⟩ ?_
              refine WC.ret ?_
              refine WK.in_ret ?_
              refine WK.then_ret ?_
              clear k1 k7 k8 k9 k25 k27 k28 k29 k32 k37 k38 k42
              refine WK.ret [_] rfl ⟨rfl, trivial⟩ ?_
              refine ⟨ret1 (vi ?_), xW⟩
              first | (exfalso; revert h10; simp; done) | (exfalso; revert h26; simp; done) | (exfalso; revert h30; simp; done) | (exfalso; revert h33; simp; done) | (exfalso; revert h35; simp; done) | (exfalso; revert h41; simp; done) | (have q0 := h10; (try simp only [Sx.emp_iff] at q0); (try simp only [Bool.not_false, Bool.not_true, Bool.and_true, Bool.and_false, Bool.true_and, Bool.false_and, Bool.or_false, Bool.false_or, Bool.and_eq_true, Bool.or_eq_true, Bool.not_eq_true', Bool.and_eq_false_iff, Bool.or_eq_false_iff, Bool.not_eq_false', decide_eq_true_eq, decide_eq_false_iff_not, beq_iff_eq, beq_eq_false_iff_ne, ne_eq, Sx.idF, Sx.idT] at q0); have q1 := h26; (try simp only [Sx.emp_iff] at q1); (try simp only [Bool.not_false, Bool.not_true, Bool.and_true, Bool.and_false, Bool.true_and, Bool.false_and, Bool.or_false, Bool.false_or, Bool.and_eq_true, Bool.or_eq_true, Bool.not_eq_true', Bool.and_eq_false_iff, Bool.or_eq_false_iff, Bool.not_eq_false', decide_eq_true_eq, decide_eq_false_iff_not, beq_iff_eq, beq_eq_false_iff_ne, ne_eq, Sx.idF, Sx.idT] at q1); have q2 := h30; (try simp only [Sx.emp_iff] at q2); (try simp only [Bool.not_false, Bool.not_true, Bool.and_true, Bool.and_false, Bool.true_and, Bool.false_and, Bool.or_false, Bool.false_or, Bool.and_eq_true, Bool.or_eq_true, Bool.not_eq_true', Bool.and_eq_false_iff, Bool.or_eq_false_iff, Bool.not_eq_false', decide_eq_true_eq, decide_eq_false_iff_not, beq_iff_eq, beq_eq_false_iff_ne, ne_eq, Sx.idF, Sx.idT] at q2); have q3 := h33; (try simp only [Sx.emp_iff] at q3); (try simp only [Bool.not_false, Bool.not_true, Bool.and_true, Bool.and_false, Bool.true_and, Bool.false_and, Bool.or_false, Bool.false_or, Bool.and_eq_true, Bool.or_eq_true, Bool.not_eq_true', Bool.and_eq_false_iff, Bool.or_eq_false_iff, Bool.not_eq_false', decide_eq_true_eq, decide_eq_false_iff_not, beq_iff_eq, beq_eq_false_iff_ne, ne_eq, Sx.idF, Sx.idT] at q3); have q4 := h35; (try simp only [Sx.emp_iff] at q4); (try simp only [Bool.not_false, Bool.not_true, Bool.and_true, Bool.and_false, Bool.true_and, Bool.false_and, Bool.or_false, Bool.false_or, Bool.and_eq_true, Bool.or_eq_true, Bool.not_eq_true', Bool.and_eq_false_iff, Bool.or_eq_false_iff, Bool.not_eq_false', decide_eq_true_eq, decide_eq_false_iff_not, beq_iff_eq, beq_eq_false_iff_ne, ne_eq, Sx.idF, Sx.idT] at q4); have q5 := h41; (try simp only [Sx.emp_iff] at q5); (try simp only [Bool.not_false, Bool.not_true, Bool.and_true, Bool.and_false, Bool.true_and, Bool.false_and, Bool.or_false, Bool.false_or, Bool.and_eq_true, Bool.or_eq_true, Bool.not_eq_true', Bool.and_eq_false_iff, Bool.or_eq_false_iff, Bool.not_eq_false', decide_eq_true_eq, decide_eq_false_iff_not, beq_iff_eq, beq_eq_false_iff_ne, ne_eq, Sx.idF, Sx.idT] at q5); first | (exfalso; omega) | (have kn := Sx.kid_0 (n := x.kids.length) (op := x.op) (by omega); unfold Sx.nodE Sx.callE; ((try simp only [Sx.idF]); (repeat (first | rw [if_pos (by omega)] | rw [if_neg (by omega)]))); done))
            ·
              refine WC.seq (fun K43 k43 => ?_)
              refine WC.region rfl ?_
              refine WL.yld rfl (blt rfl) rfl (Y.fieldAddr rfl Try.underlying28 rfl ti22 (by decide) rfl) ?_
              refine WL.yld rfl (blt rfl) rfl (Y.load1 rfl Try.underlying22 rfl rfl (Blk.at_eq m6 rfl)) ?_
              refine WL.yld rfl (blt rfl) rfl (Y.eql rfl rfl rfl) ?_
              refine WL.yld rfl (blt rfl) rfl (Y.move rfl rfl) ?_
              refine WL.yldG rfl (blt rfl) rfl rfl rfl (fun hb => Y.fieldAddr rfl Try.underlying28 rfl ti9 (by decide) rfl) ?_
              refine WL.yldG rfl (blt rfl) rfl rfl rfl (fun hb => Y.load1 rfl Try.underlying9 rfl (evg rfl hb) (Blk.at_eq m6 rfl)) ?_
              refine WL.callG rfl (blt rfl) rfl rfl rfl rfl rfl has71 (fun hb => (evs_cons (evg rfl hb) evs_nil)) (fun hb => arity_any _ _ ) (fun w44 x45 => ?_)
              have m6 := m6.ext x45
              have xW := Ext.trans xW x45
              refine WL.yldG rfl (blt rfl) rfl rfl rfl (fun hb => Y.eql rfl (evg rfl hb) rfl) ?_
              refine WL.yld rfl (blt rfl) rfl (Y.and rfl rfl rfl rfl) ?_
              refine WL.yld rfl (blt rfl) rfl (Y.assign rfl rfl) ?_
              refine WL.nil ?_
              refine WK.then_normal (k43 _ _ ?_)
              refine WC.sub [(1, _), (3, _), (73, _)] ⟨rfl, rfl, rfl, trivial⟩ ?_
              refine WC.cond rfl (fun h46 => ?_) (fun h46 => ?_)
              ·
                have p46 := (And.intro (eq_t (and_t h46).1) (eq_t (and_t h46).2))
                refine WC.seq (fun K47 k47 => ?_)
                refine WC.region rfl ?_
                refine WL.yld rfl (blt rfl) rfl (Y.assign rfl rfl) ?_
                refine WL.nil ?_
                refine WK.then_normal (k47 _ _ ?_)
                refine WC.sub [(2, _)] ⟨rfl, trivial⟩ ?_
                refine WC.ret ?_
                refine WK.in_ret ?_
                refine WK.then_ret ?_
                clear k1 k7 k8 k9 k25 k27 k28 k29 k32 k37 k38 k43 k47
                refine WK.ret [_] rfl ⟨rfl, trivial⟩ ?_
                refine ⟨ret1 (vi ?_), xW⟩
                first | (exfalso; revert h10; simp; done) | (exfalso; revert h26; simp; done) | (exfalso; revert h30; simp; done) | (exfalso; revert h33; simp; done) | (exfalso; revert h35; simp; done) | (exfalso; revert h41; simp; done) | (exfalso; revert h46; simp; done) | (have q0 := h10; (try simp only [Sx.emp_iff] at q0); (try simp only [Bool.not_false, Bool.not_true, Bool.and_true, Bool.and_false, Bool.true_and, Bool.false_and, Bool.or_false, Bool.false_or, Bool.and_eq_true, Bool.or_eq_true, Bool.not_eq_true', Bool.and_eq_false_iff, Bool.or_eq_false_iff, Bool.not_eq_false', decide_eq_true_eq, decide_eq_false_iff_not, beq_iff_eq, beq_eq_false_iff_ne, ne_eq, Sx.idF, Sx.idT] at q0); have q1 := h26; (try simp only [Sx.emp_iff] at q1); (try simp only [Bool.not_false, Bool.not_true, Bool.and_true, Bool.and_false, Bool.true_and, Bool.false_and, Bool.or_false, Bool.false_or, Bool.and_eq_true, Bool.or_eq_true, Bool.not_eq_true', Bool.and_eq_false_iff, Bool.or_eq_false_iff, Bool.not_eq_false', decide_eq_true_eq, decide_eq_false_iff_not, beq_iff_eq, beq_eq_false_iff_ne, ne_eq, Sx.idF, Sx.idT] at q1); have q2 := h30; (try simp only [Sx.emp_iff] at q2); (try simp only [Bool.not_false, Bool.not_true, Bool.and_true, Bool.and_false, Bool.true_and, Bool.false_and, Bool.or_false, Bool.false_or, Bool.and_eq_true, Bool.or_eq_true, Bool.not_eq_true', Bool.and_eq_false_iff, Bool.or_eq_false_iff, Bool.not_eq_false', decide_eq_true_eq, decide_eq_false_iff_not, beq_iff_eq, beq_eq_false_iff_ne, ne_eq, Sx.idF, Sx.idT] at q2); have q3 := h33; (try simp only [Sx.emp_iff] at q3); (try simp only [Bool.not_false, Bool.not_true, Bool.and_true, Bool.and_false, Bool.true_and, Bool.false_and, Bool.or_false, Bool.false_or, Bool.and_eq_true, Bool.or_eq_true, Bool.not_eq_true', Bool.and_eq_false_iff, Bool.or_eq_false_iff, Bool.not_eq_false', decide_eq_true_eq, decide_eq_false_iff_not, beq_iff_eq, beq_eq_false_iff_ne, ne_eq, Sx.idF, Sx.idT] at q3); have q4 := h35; (try simp only [Sx.emp_iff] at q4); (try simp only [Bool.not_false, Bool.not_true, Bool.and_true, Bool.and_false, Bool.true_and, Bool.false_and, Bool.or_false, Bool.false_or, Bool.and_eq_true, Bool.or_eq_true, Bool.not_eq_true', Bool.and_eq_false_iff, Bool.or_eq_false_iff, Bool.not_eq_false', decide_eq_true_eq, decide_eq_false_iff_not, beq_iff_eq, beq_eq_false_iff_ne, ne_eq, Sx.idF, Sx.idT] at q4); have q5 := h41; (try simp only [Sx.emp_iff] at q5); (try simp only [Bool.not_false, Bool.not_true, Bool.and_true, Bool.and_false, Bool.true_and, Bool.false_and, Bool.or_false, Bool.false_or, Bool.and_eq_true, Bool.or_eq_true, Bool.not_eq_true', Bool.and_eq_false_iff, Bool.or_eq_false_iff, Bool.not_eq_false', decide_eq_true_eq, decide_eq_false_iff_not, beq_iff_eq, beq_eq_false_iff_ne, ne_eq, Sx.idF, Sx.idT] at q5); have q6 := h46; (try simp only [Sx.emp_iff] at q6); (try simp only [Bool.not_false, Bool.not_true, Bool.and_true, Bool.and_false, Bool.true_and, Bool.false_and, Bool.or_false, Bool.false_or, Bool.and_eq_true, Bool.or_eq_true, Bool.not_eq_true', Bool.and_eq_false_iff, Bool.or_eq_false_iff, Bool.not_eq_false', decide_eq_true_eq, decide_eq_false_iff_not, beq_iff_eq, beq_eq_false_iff_ne, ne_eq, Sx.idF, Sx.idT] at q6); first | (exfalso; omega) | (have kn := Sx.kid_0 (n := x.kids.length) (op := x.op) (by omega); unfold Sx.nodE Sx.callE; ((try simp only [Sx.idF]); (repeat (first | rw [if_pos (by omega)] | rw [if_neg (by omega)]))); done))
              ·
                have p46 := ((and_f h46).imp (fun h => (eq_f h)) (fun h => (eq_f h)))
                refine WC.seq (fun K48 k48 => ?_)
                refine WC.region rfl ?_
                refine WL.yld rfl (blt rfl) rfl (Y.fieldAddr rfl Try.underlying28 rfl ti22 (by decide) rfl) ?_
                refine WL.yld rfl (blt rfl) rfl (Y.load1 rfl Try.underlying22 rfl rfl (Blk.at_eq m6 rfl)) ?_
                refine WL.yld rfl (blt rfl) rfl (Y.eql rfl rfl rfl) ?_
                refine WL.yld rfl (blt rfl) rfl (Y.move rfl rfl) ?_
                refine WL.yldG rfl (blt rfl) rfl rfl rfl (fun hb => Y.fieldAddr rfl Try.underlying28 rfl ti9 (by decide) rfl) ?_
                refine WL.yldG rfl (blt rfl) rfl rfl rfl (fun hb => Y.load1 rfl Try.underlying9 rfl (evg rfl hb) (Blk.at_eq m6 rfl)) ?_
                refine WL.callG rfl (blt rfl) rfl rfl rfl rfl rfl has71 (fun hb => (evs_cons (evg rfl hb) evs_nil)) (fun hb => arity_any _ _ ) (fun w49 x50 => ?_)
                have m6 := m6.ext x50
                have xW := Ext.trans xW x50
                refine WL.yldG rfl (blt rfl) rfl rfl rfl (fun hb => Y.move rfl rfl) ?_
                refine WL.yldG rfl (blt rfl) rfl rfl rfl (fun hb => Y.neq rfl (evg rfl hb) (evg rfl hb)) ?_
                refine WL.yld rfl (blt rfl) rfl (Y.and rfl rfl rfl rfl) ?_
                refine WL.yld rfl (blt rfl) rfl (Y.assign rfl rfl) ?_
                refine WL.nil ?_
                refine WK.then_normal (k48 _ _ ?_)
                refine WC.sub [(83, _)] ⟨rfl, trivial⟩ ?_
                refine WC.cond rfl (fun h51 => ?_) (fun h51 => ?_)
                ·
                  have p51 := (And.intro (eq_t (and_t h51).1) (eq_f (not_t (and_t h51).2)))
                  refine WC.seq (fun K52 k52 => ?_)
                  refine WC.region rfl ?_
                  refine WL.yld rfl (blt rfl) rfl (Y.assign rfl rfl) ?_
                  refine WL.nil ?_
                  refine WK.then_normal (k52 _ _ ?_)
                  refine WC.sub [(2, _)] ⟨rfl, trivial⟩ ?_
                  refine WC.ret ?_
                  refine WK.in_ret ?_
                  refine WK.then_ret ?_
                  clear k1 k7 k8 k9 k25 k27 k28 k29 k32 k37 k38 k43 k48 k52
                  refine WK.ret [_] rfl ⟨rfl, trivial⟩ ?_
                  refine ⟨ret1 (vi ?_), xW⟩
                  first | (exfalso; revert h10; simp; done) | (exfalso; revert h26; simp; done) | (exfalso; revert h30; simp; done) | (exfalso; revert h33; simp; done) | (exfalso; revert h35; simp; done) | (exfalso; revert h41; simp; done) | (exfalso; revert h46; simp; done) | (exfalso; revert h51; simp; done) | (have q0 := h10; (try simp only [Sx.emp_iff] at q0); (try simp only [Bool.not_false, Bool.not_true, Bool.and_true, Bool.and_false, Bool.true_and, Bool.false_and, Bool.or_false, Bool.false_or, Bool.and_eq_true, Bool.or_eq_true, Bool.not_eq_true', Bool.and_eq_false_iff, Bool.or_eq_false_iff, Bool.not_eq_false', decide_eq_true_eq, decide_eq_false_iff_not, beq_iff_eq, beq_eq_false_iff_ne, ne_eq, Sx.idF, Sx.idT] at q0); have q1 := h26; (try simp only [Sx.emp_iff] at q1); (try simp only [Bool.not_false, Bool.not_true, Bool.and_true, Bool.and_false, Bool.true_and, Bool.false_and, Bool.or_false, Bool.false_or, Bool.and_eq_true, Bool.or_eq_true, Bool.not_eq_true', Bool.and_eq_false_iff, Bool.or_eq_false_iff, Bool.not_eq_false', decide_eq_true_eq, decide_eq_false_iff_not, beq_iff_eq, beq_eq_false_iff_ne, ne_eq, Sx.idF, Sx.idT] at q1); have q2 := h30; (try simp only [Sx.emp_iff] at q2); (try simp only [Bool.not_false, Bool.not_true, Bool.and_true, Bool.and_false, Bool.true_and, Bool.false_and, Bool.or_false, Bool.false_or, Bool.and_eq_true, Bool.or_eq_true, Bool.not_eq_true', Bool.and_eq_false_iff, Bool.or_eq_false_iff, Bool.not_eq_false', decide_eq_true_eq, decide_eq_false_iff_not, beq_iff_eq, beq_eq_false_iff_ne, ne_eq, Sx.idF, Sx.idT] at q2); have q3 := h33; (try simp only [Sx.emp_iff] at q3); (try simp only [Bool.not_false, Bool.not_true, Bool.and_true, Bool.and_false, Bool.true_and, Bool.false_and, Bool.or_false, Bool.false_or, Bool.and_eq_true, Bool.or_eq_true, Bool.not_eq_true', Bool.and_eq_false_iff, Bool.or_eq_false_iff, Bool.not_eq_false', decide_eq_true_eq, decide_eq_false_iff_not, beq_iff_eq, beq_eq_false_iff_ne, ne_eq, Sx.idF, Sx.idT] at q3); have q4 := h35; (try simp only [Sx.emp_iff] at q4); (try simp only [Bool.not_false, Bool.not_true, Bool.and_true, Bool.and_false, Bool.true_and, Bool.false_and, Bool.or_false, Bool.false_or, Bool.and_eq_true, Bool.or_eq_true, Bool.not_eq_true', Bool.and_eq_false_iff, Bool.or_eq_false_iff, Bool.not_eq_false', decide_eq_true_eq, decide_eq_false_iff_not, beq_iff_eq, beq_eq_false_iff_ne, ne_eq, Sx.idF, Sx.idT] at q4); have q5 := h41; (try simp only [Sx.emp_iff] at q5); (try simp only [Bool.not_false, Bool.not_true, Bool.and_true, Bool.and_false, Bool.true_and, Bool.false_and, Bool.or_false, Bool.false_or, Bool.and_eq_true, Bool.or_eq_true, Bool.not_eq_true', Bool.and_eq_false_iff, Bool.or_eq_false_iff, Bool.not_eq_false', decide_eq_true_eq, decide_eq_false_iff_not, beq_iff_eq, beq_eq_false_iff_ne, ne_eq, Sx.idF, Sx.idT] at q5); have q6 := h46; (try simp only [Sx.emp_iff] at q6); (try simp only [Bool.not_false, Bool.not_true, Bool.and_true, Bool.and_false, Bool.true_and, Bool.false_and, Bool.or_false, Bool.false_or, Bool.and_eq_true, Bool.or_eq_true, Bool.not_eq_true', Bool.and_eq_false_iff, Bool.or_eq_false_iff, Bool.not_eq_false', decide_eq_true_eq, decide_eq_false_iff_not, beq_iff_eq, beq_eq_false_iff_ne, ne_eq, Sx.idF, Sx.idT] at q6); have q7 := h51; (try simp only [Sx.emp_iff] at q7); (try simp only [Bool.not_false, Bool.not_true, Bool.and_true, Bool.and_false, Bool.true_and, Bool.false_and, Bool.or_false, Bool.false_or, Bool.and_eq_true, Bool.or_eq_true, Bool.not_eq_true', Bool.and_eq_false_iff, Bool.or_eq_false_iff, Bool.not_eq_false', decide_eq_true_eq, decide_eq_false_iff_not, beq_iff_eq, beq_eq_false_iff_ne, ne_eq, Sx.idF, Sx.idT] at q7); first | (exfalso; omega) | (have kn := Sx.kid_0 (n := x.kids.length) (op := x.op) (by omega); unfold Sx.nodE Sx.callE; ((try simp only [Sx.idF]); (repeat (first | rw [if_pos (by omega)] | rw [if_neg (by omega)]))); done))
                ·
                  have p51 := ((and_f h51).imp (fun h => (eq_f h)) (fun h => (eq_t (not_f h))))
                  refine WC.skip ?_
                  refine WK.in_normal ?_
                  refine WK.then_normal (k27 _ _ ?_)
                  refine WC.sub [] trivial ?_
                  refine WC.seq (fun K53 k53 => ?_)
                  refine WC.region rfl ?_
                  refine WL.yld rfl (blt rfl) rfl (Y.assign rfl rfl) ?_
                  refine WL.nil ?_
                  refine WK.then_normal (k53 _ _ ?_)
                  refine WC.ret ?_
                  clear k1 k7 k8 k9 k25 k27 k28 k29 k32 k37 k38 k43 k48 k53
                  refine WK.ret [_] rfl ⟨rfl, trivial⟩ ?_
                  refine ⟨ret1 (vi ?_), xW⟩
                  first | (exfalso; revert h10; simp; done) | (exfalso; revert h26; simp; done) | (exfalso; revert h30; simp; done) | (exfalso; revert h33; simp; done) | (exfalso; revert h35; simp; done) | (exfalso; revert h41; simp; done) | (exfalso; revert h46; simp; done) | (exfalso; revert h51; simp; done) | (have q0 := h10; (try simp only [Sx.emp_iff] at q0); (try simp only [Bool.not_false, Bool.not_true, Bool.and_true, Bool.and_false, Bool.true_and, Bool.false_and, Bool.or_false, Bool.false_or, Bool.and_eq_true, Bool.or_eq_true, Bool.not_eq_true', Bool.and_eq_false_iff, Bool.or_eq_false_iff, Bool.not_eq_false', decide_eq_true_eq, decide_eq_false_iff_not, beq_iff_eq, beq_eq_false_iff_ne, ne_eq, Sx.idF, Sx.idT] at q0); have q1 := h26; (try simp only [Sx.emp_iff] at q1); (try simp only [Bool.not_false, Bool.not_true, Bool.and_true, Bool.and_false, Bool.true_and, Bool.false_and, Bool.or_false, Bool.false_or, Bool.and_eq_true, Bool.or_eq_true, Bool.not_eq_true', Bool.and_eq_false_iff, Bool.or_eq_false_iff, Bool.not_eq_false', decide_eq_true_eq, decide_eq_false_iff_not, beq_iff_eq, beq_eq_false_iff_ne, ne_eq, Sx.idF, Sx.idT] at q1); have q2 := h30; (try simp only [Sx.emp_iff] at q2); (try simp only [Bool.not_false, Bool.not_true, Bool.and_true, Bool.and_false, Bool.true_and, Bool.false_and, Bool.or_false, Bool.false_or, Bool.and_eq_true, Bool.or_eq_true, Bool.not_eq_true', Bool.and_eq_false_iff, Bool.or_eq_false_iff, Bool.not_eq_false', decide_eq_true_eq, decide_eq_false_iff_not, beq_iff_eq, beq_eq_false_iff_ne, ne_eq, Sx.idF, Sx.idT] at q2); have q3 := h33; (try simp only [Sx.emp_iff] at q3); (try simp only [Bool.not_false, Bool.not_true, Bool.and_true, Bool.and_false, Bool.true_and, Bool.false_and, Bool.or_false, Bool.false_or, Bool.and_eq_true, Bool.or_eq_true, Bool.not_eq_true', Bool.and_eq_false_iff, Bool.or_eq_false_iff, Bool.not_eq_false', decide_eq_true_eq, decide_eq_false_iff_not, beq_iff_eq, beq_eq_false_iff_ne, ne_eq, Sx.idF, Sx.idT] at q3); have q4 := h35; (try simp only [Sx.emp_iff] at q4); (try simp only [Bool.not_false, Bool.not_true, Bool.and_true, Bool.and_false, Bool.true_and, Bool.false_and, Bool.or_false, Bool.false_or, Bool.and_eq_true, Bool.or_eq_true, Bool.not_eq_true', Bool.and_eq_false_iff, Bool.or_eq_false_iff, Bool.not_eq_false', decide_eq_true_eq, decide_eq_false_iff_not, beq_iff_eq, beq_eq_false_iff_ne, ne_eq, Sx.idF, Sx.idT] at q4); have q5 := h41; (try simp only [Sx.emp_iff] at q5); (try simp only [Bool.not_false, Bool.not_true, Bool.and_true, Bool.and_false, Bool.true_and, Bool.false_and, Bool.or_false, Bool.false_or, Bool.and_eq_true, Bool.or_eq_true, Bool.not_eq_true', Bool.and_eq_false_iff, Bool.or_eq_false_iff, Bool.not_eq_false', decide_eq_true_eq, decide_eq_false_iff_not, beq_iff_eq, beq_eq_false_iff_ne, ne_eq, Sx.idF, Sx.idT] at q5); have q6 := h46; (try simp only [Sx.emp_iff] at q6); (try simp only [Bool.not_false, Bool.not_true, Bool.and_true, Bool.and_false, Bool.true_and, Bool.false_and, Bool.or_false, Bool.false_or, Bool.and_eq_true, Bool.or_eq_true, Bool.not_eq_true', Bool.and_eq_false_iff, Bool.or_eq_false_iff, Bool.not_eq_false', decide_eq_true_eq, decide_eq_false_iff_not, beq_iff_eq, beq_eq_false_iff_ne, ne_eq, Sx.idF, Sx.idT] at q6); have q7 := h51; (try simp only [Sx.emp_iff] at q7); (try simp only [Bool.not_false, Bool.not_true, Bool.and_true, Bool.and_false, Bool.true_and, Bool.false_and, Bool.or_false, Bool.false_or, Bool.and_eq_true, Bool.or_eq_true, Bool.not_eq_true', Bool.and_eq_false_iff, Bool.or_eq_false_iff, Bool.not_eq_false', decide_eq_true_eq, decide_eq_false_iff_not, beq_iff_eq, beq_eq_false_iff_ne, ne_eq, Sx.idF, Sx.idT] at q7); first | (exfalso; omega) | (have kn := Sx.kid_0 (n := x.kids.length) (op := x.op) (by omega); unfold Sx.nodE Sx.callE; ((try simp only [Sx.idF]); (repeat (first | rw [if_pos (by omega)] | rw [if_neg (by omega)]))); done))
    ·
      have p26 := (eq_f h26)
      refine WC.seq (fun K54 k54 => ?_)
      refine WC.region rfl ?_
      refine WL.yld rfl (blt rfl) rfl (Y.fieldAddr rfl Try.underlying28 rfl ti22 (by decide) rfl) ?_
      refine WL.yld rfl (blt rfl) rfl (Y.load1 rfl Try.underlying22 rfl rfl (Blk.at_eq m6 rfl)) ?_
      refine WL.yld rfl (blt rfl) rfl (Y.eql rfl rfl rfl) ?_
      refine WL.yld rfl (blt rfl) rfl (Y.move rfl rfl) ?_
      refine WL.yldG rfl (blt rfl) rfl rfl rfl (fun hb => Y.fieldAddr rfl Try.underlying28 rfl ti22 (by decide) rfl) ?_
      refine WL.yldG rfl (blt rfl) rfl rfl rfl (fun hb => Y.load1 rfl Try.underlying22 rfl (evg rfl hb) (Blk.at_eq m6 rfl)) ?_
      refine WL.yldG rfl (blt rfl) rfl rfl rfl (fun hb => Y.eql rfl (evg rfl hb) rfl) ?_
      refine WL.yld rfl (blt rfl) rfl (Y.or rfl rfl rfl rfl) ?_
      refine WL.yld rfl (blt rfl) rfl (Y.assign rfl rfl) ?_
      refine WL.nil ?_
      refine WK.then_normal (k54 _ _ ?_)
      refine WC.sub [(1, _), (3, _), (4, _), (5, _), (14, _)] ⟨rfl, rfl, rfl, rfl, rfl, trivial⟩ ?_
      refine WC.cond rfl (fun h55 => ?_) (fun h55 => ?_)
      ·
        have p55 := ((or_t h55).imp (fun h => (eq_t h)) (fun h => (eq_t h)))
        refine WC.region rfl ?_
        refine WL.yld rfl (blt rfl) rfl (Y.assign rfl rfl) ?_
        refine WL.nil ?_
        refine WK.in_normal ?_
        refine WK.then_normal (k8 _ _ ?_)
        refine WC.sub [(1, _), (3, _), (4, _), (5, _)] ⟨rfl, rfl, rfl, rfl, trivial⟩ ?_
        refine WC.seq (fun K56 k56 => ?_)
        refine WC.block ?_
        refine WC.seq (fun K57 k57 => ?_)
        refine WC.seq (fun K58 k58 => ?_)
        refine WC.region rfl ?_
        refine WL.yld rfl (blt rfl) rfl (Y.fieldAddr rfl Try.underlying28 rfl ti26 (by decide) rfl) ?_
        refine WL.yld rfl (blt rfl) rfl (Y.load1 rfl Try.underlying26 rfl rfl (Blk.at_eq m6 rfl)) ?_
        refine WL.yld rfl (blt rfl) rfl (Y.lenSl rfl rfl rfl Try.underlying26 rfl) ?_
        refine WL.yld rfl (blt rfl) rfl (Y.move rfl rfl) ?_
        refine WL.yld rfl (blt rfl) rfl (Y.neq rfl rfl rfl) ?_
        refine WL.yld rfl (blt rfl) rfl (Y.assign rfl rfl) ?_
        refine WL.nil ?_
        refine WK.then_normal (k58 _ _ ?_)
        refine WC.sub [(1, _), (3, _), (4, _), (5, _), (39, _)] ⟨rfl, rfl, rfl, rfl, rfl, trivial⟩ ?_
        refine WC.cond rfl (fun h59 => ?_) (fun h59 => ?_)
        ·
          have p59 := (eq_f (not_t h59))
          refine WC.skip ?_
          refine WK.then_normal (k57 _ _ ?_)
          refine WC.sub [(1, _), (3, _), (4, _), (5, _), (39, .bool true)] ⟨rfl, rfl, rfl, rfl, kn h59, trivial⟩ ?_
          refine WC.condT rfl ?_
          refine WC.seq (fun K60 k60 => ?_)
          refine WC.region rfl ?_
          refine WL.yld rfl (blt rfl) rfl (Y.assign rfl rfl) ?_
          refine WL.nil ?_
          refine WK.then_normal (k60 _ _ ?_)
          refine WC.sub [(2, _)] ⟨rfl, trivial⟩ ?_
          refine WC.ret ?_
          refine WK.in_ret ?_
          refine WK.then_ret ?_
          clear k1 k7 k8 k9 k25 k54 k56 k57 k58 k60
          refine WK.ret [_] rfl ⟨rfl, trivial⟩ ?_
          refine ⟨ret1 (vi ?_), xW⟩
          first | (exfalso; revert h10; simp; done) | (exfalso; revert h26; simp; done) | (exfalso; revert h55; simp; done) | (exfalso; revert h59; simp; done) | (have q0 := h10; (try simp only [Sx.emp_iff] at q0); (try simp only [Bool.not_false, Bool.not_true, Bool.and_true, Bool.and_false, Bool.true_and, Bool.false_and, Bool.or_false, Bool.false_or, Bool.and_eq_true, Bool.or_eq_true, Bool.not_eq_true', Bool.and_eq_false_iff, Bool.or_eq_false_iff, Bool.not_eq_false', decide_eq_true_eq, decide_eq_false_iff_not, beq_iff_eq, beq_eq_false_iff_ne, ne_eq, Sx.idF, Sx.idT] at q0); have q1 := h26; (try simp only [Sx.emp_iff] at q1); (try simp only [Bool.not_false, Bool.not_true, Bool.and_true, Bool.and_false, Bool.true_and, Bool.false_and, Bool.or_false, Bool.false_or, Bool.and_eq_true, Bool.or_eq_true, Bool.not_eq_true', Bool.and_eq_false_iff, Bool.or_eq_false_iff, Bool.not_eq_false', decide_eq_true_eq, decide_eq_false_iff_not, beq_iff_eq, beq_eq_false_iff_ne, ne_eq, Sx.idF, Sx.idT] at q1); have q2 := h55; (try simp only [Sx.emp_iff] at q2); (try simp only [Bool.not_false, Bool.not_true, Bool.and_true, Bool.and_false, Bool.true_and, Bool.false_and, Bool.or_false, Bool.false_or, Bool.and_eq_true, Bool.or_eq_true, Bool.not_eq_true', Bool.and_eq_false_iff, Bool.or_eq_false_iff, Bool.not_eq_false', decide_eq_true_eq, decide_eq_false_iff_not, beq_iff_eq, beq_eq_false_iff_ne, ne_eq, Sx.idF, Sx.idT] at q2); have q3 := h59; (try simp only [Sx.emp_iff] at q3); (try simp only [Bool.not_false, Bool.not_true, Bool.and_true, Bool.and_false, Bool.true_and, Bool.false_and, Bool.or_false, Bool.false_or, Bool.and_eq_true, Bool.or_eq_true, Bool.not_eq_true', Bool.and_eq_false_iff, Bool.or_eq_false_iff, Bool.not_eq_false', decide_eq_true_eq, decide_eq_false_iff_not, beq_iff_eq, beq_eq_false_iff_ne, ne_eq, Sx.idF, Sx.idT] at q3); first | (exfalso; omega) | (have kn := Sx.kid_1 (n := x.kids.length) (op := x.op) (by omega); unfold Sx.nodE Sx.callE; ((try simp only [Sx.idF]); (repeat (first | rw [if_pos (by omega)] | rw [if_neg (by omega)]))); done))
        ·
          have p59 := (eq_t (not_f h59))
          refine WC.seq (fun K61 k61 => ?_)
          refine WC.region rfl ?_
          refine WL.yld rfl (blt rfl) rfl (Y.fieldAddr rfl Try.underlying28 rfl ti9 (by decide) rfl) ?_
          refine WL.yld rfl (blt rfl) rfl (Y.load1 rfl Try.underlying9 rfl rfl (Blk.at_eq m6 rfl)) ?_
          refine WL.yld rfl (blt rfl) rfl (Y.neqStr rfl rfl rfl) ?_
          refine WL.yld rfl (blt rfl) rfl (Y.move rfl rfl) ?_
          refine WL.yldG rfl (blt rfl) rfl rfl rfl (fun hb => Y.move rfl rfl) ?_
          refine WL.yldG rfl (blt rfl) rfl rfl rfl (fun hb => Y.not rfl (evg rfl hb)) ?_
          refine WL.yld rfl (blt rfl) rfl (Y.and rfl rfl rfl rfl) ?_
          refine WL.yld rfl (blt rfl) rfl (Y.assign rfl rfl) ?_
          refine WL.nil ?_
          refine WK.then_normal (k61 _ _ ?_)
          refine WC.sub [(1, _), (3, _), (4, _), (5, _), (39, _)] ⟨rfl, rfl, rfl, rfl, rfl, trivial⟩ ?_
          refine WC.cond rfl (fun h62 => ?_) (fun h62 => ?_)
          ·
            refine WC.skip ?_
            refine WK.then_normal (k57 _ _ ?_)
            refine WC.sub [(1, _), (3, _), (4, _), (5, _), (39, .bool true)] ⟨rfl, rfl, rfl, rfl, kn h62, trivial⟩ ?_
            refine WC.condT rfl ?_
            refine WC.seq (fun K63 k63 => ?_)
            refine WC.region rfl ?_
            refine WL.yld rfl (blt rfl) rfl (Y.assign rfl rfl) ?_
            refine WL.nil ?_
            refine WK.then_normal (k63 _ _ ?_)
            refine WC.sub [(2, _)] ⟨rfl, trivial⟩ ?_
            refine WC.ret ?_
            refine WK.in_ret ?_
            refine WK.then_ret ?_
            clear k1 k7 k8 k9 k25 k54 k56 k57 k58 k61 k63
            refine WK.ret [_] rfl ⟨rfl, trivial⟩ ?_
            refine ⟨ret1 (vi ?_), xW⟩
            first | (exfalso; revert h10; simp; done) | (exfalso; revert h26; simp; done) | (exfalso; revert h55; simp; done) | (exfalso; revert h59; simp; done) | (exfalso; revert h62; simp; done) | (have q0 := h10; (try simp only [Sx.emp_iff] at q0); (try simp only [Bool.not_false, Bool.not_true, Bool.and_true, Bool.and_false, Bool.true_and, Bool.false_and, Bool.or_false, Bool.false_or, Bool.and_eq_true, Bool.or_eq_true, Bool.not_eq_true', Bool.and_eq_false_iff, Bool.or_eq_false_iff, Bool.not_eq_false', decide_eq_true_eq, decide_eq_false_iff_not, beq_iff_eq, beq_eq_false_iff_ne, ne_eq, Sx.idF, Sx.idT] at q0); have q1 := h26; (try simp only [Sx.emp_iff] at q1); (try simp only [Bool.not_false, Bool.not_true, Bool.and_true, Bool.and_false, Bool.true_and, Bool.false_and, Bool.or_false, Bool.false_or, Bool.and_eq_true, Bool.or_eq_true, Bool.not_eq_true', Bool.and_eq_false_iff, Bool.or_eq_false_iff, Bool.not_eq_false', decide_eq_true_eq, decide_eq_false_iff_not, beq_iff_eq, beq_eq_false_iff_ne, ne_eq, Sx.idF, Sx.idT] at q1); have q2 := h55; (try simp only [Sx.emp_iff] at q2); (try simp only [Bool.not_false, Bool.not_true, Bool.and_true, Bool.and_false, Bool.true_and, Bool.false_and, Bool.or_false, Bool.false_or, Bool.and_eq_true, Bool.or_eq_true, Bool.not_eq_true', Bool.and_eq_false_iff, Bool.or_eq_false_iff, Bool.not_eq_false', decide_eq_true_eq, decide_eq_false_iff_not, beq_iff_eq, beq_eq_false_iff_ne, ne_eq, Sx.idF, Sx.idT] at q2); have q3 := h59; (try simp only [Sx.emp_iff] at q3); (try simp only [Bool.not_false, Bool.not_true, Bool.and_true, Bool.and_false, Bool.true_and, Bool.false_and, Bool.or_false, Bool.false_or, Bool.and_eq_true, Bool.or_eq_true, Bool.not_eq_true', Bool.and_eq_false_iff, Bool.or_eq_false_iff, Bool.not_eq_false', decide_eq_true_eq, decide_eq_false_iff_not, beq_iff_eq, beq_eq_false_iff_ne, ne_eq, Sx.idF, Sx.idT] at q3); have q4 := h62; (try simp only [Sx.emp_iff] at q4); (try simp only [Bool.not_false, Bool.not_true, Bool.and_true, Bool.and_false, Bool.true_and, Bool.false_and, Bool.or_false, Bool.false_or, Bool.and_eq_true, Bool.or_eq_true, Bool.not_eq_true', Bool.and_eq_false_iff, Bool.or_eq_false_iff, Bool.not_eq_false', decide_eq_true_eq, decide_eq_false_iff_not, beq_iff_eq, beq_eq_false_iff_ne, ne_eq, Sx.idF, Sx.idT] at q4); first | (exfalso; omega) | (have kn := Sx.kid_1 (n := x.kids.length) (op := x.op) (by omega); unfold Sx.nodE Sx.callE; ((try simp only [Sx.idF]); (repeat (first | rw [if_pos (by omega)] | rw [if_neg (by omega)]))); done))
          ·
            refine WC.region rfl ?_
            refine WL.yld rfl (blt rfl) rfl (Y.fieldAddr rfl Try.underlying28 rfl ti25 (by decide) rfl) ?_
            refine WL.yld rfl (blt rfl) rfl (Y.loadS (cs := [_, _, _]) rfl Try.underlying25 rfl ti25 rfl (Blk.part_eq m6 rfl)) ?_
            refine WL.yld rfl (blt rfl) rfl (Y.build (cells := [_, _, _]) rfl pl25 rfl rfl) ?_
            refine WL.yld rfl (blt rfl) rfl (Y.neqS rfl eqg25 (eq25 _ _ _ _ _ _) rfl rfl) ?_
            refine WL.yld rfl (blt rfl) rfl (Y.move rfl rfl) ?_
            refine WL.yldG rfl (blt rfl) rfl rfl rfl (fun hb => Y.move rfl rfl) ?_
            refine WL.yldG rfl (blt rfl) rfl rfl rfl (fun hb => Y.not rfl (evg rfl hb)) ?_
            refine WL.yld rfl (blt rfl) rfl (Y.and rfl rfl rfl rfl) ?_
            refine WL.yld rfl (blt rfl) rfl (Y.assign rfl rfl) ?_
            refine WL.nil ?_
            refine WK.then_normal (k57 _ _ ?_)
            refine WC.sub [(1, _), (3, _), (4, _), (5, _), (39, _)] ⟨rfl, rfl, rfl, rfl, rfl, trivial⟩ ?_
            refine WC.cond rfl (fun h64 => ?_) (fun h64 => ?_)
            ·
              refine WC.seq (fun K65 k65 => ?_)
              refine WC.region rfl ?_
              refine WL.yld rfl (blt rfl) rfl (Y.assign rfl rfl) ?_
              refine WL.nil ?_
              refine WK.then_normal (k65 _ _ ?_)
              refine WC.sub [(2, _)] ⟨rfl, trivial⟩ ?_
              refine WC.ret ?_
              refine WK.in_ret ?_
              refine WK.then_ret ?_
              clear k1 k7 k8 k9 k25 k54 k56 k57 k58 k61 k65
              refine WK.ret [_] rfl ⟨rfl, trivial⟩ ?_
              refine ⟨ret1 (vi ?_), xW⟩
              first | (exfalso; revert h10; simp; done) | (exfalso; revert h26; simp; done) | (exfalso; revert h55; simp; done) | (exfalso; revert h59; simp; done) | (exfalso; revert h62; simp; done) | (exfalso; revert h64; simp; done) | (have q0 := h10; (try simp only [Sx.emp_iff] at q0); (try simp only [Bool.not_false, Bool.not_true, Bool.and_true, Bool.and_false, Bool.true_and, Bool.false_and, Bool.or_false, Bool.false_or, Bool.and_eq_true, Bool.or_eq_true, Bool.not_eq_true', Bool.and_eq_false_iff, Bool.or_eq_false_iff, Bool.not_eq_false', decide_eq_true_eq, decide_eq_false_iff_not, beq_iff_eq, beq_eq_false_iff_ne, ne_eq, Sx.idF, Sx.idT] at q0); have q1 := h26; (try simp only [Sx.emp_iff] at q1); (try simp only [Bool.not_false, Bool.not_true, Bool.and_true, Bool.and_false, Bool.true_and, Bool.false_and, Bool.or_false, Bool.false_or, Bool.and_eq_true, Bool.or_eq_true, Bool.not_eq_true', Bool.and_eq_false_iff, Bool.or_eq_false_iff, Bool.not_eq_false', decide_eq_true_eq, decide_eq_false_iff_not, beq_iff_eq, beq_eq_false_iff_ne, ne_eq, Sx.idF, Sx.idT] at q1); have q2 := h55; (try simp only [Sx.emp_iff] at q2); (try simp only [Bool.not_false, Bool.not_true, Bool.and_true, Bool.and_false, Bool.true_and, Bool.false_and, Bool.or_false, Bool.false_or, Bool.and_eq_true, Bool.or_eq_true, Bool.not_eq_true', Bool.and_eq_false_iff, Bool.or_eq_false_iff, Bool.not_eq_false', decide_eq_true_eq, decide_eq_false_iff_not, beq_iff_eq, beq_eq_false_iff_ne, ne_eq, Sx.idF, Sx.idT] at q2); have q3 := h59; (try simp only [Sx.emp_iff] at q3); (try simp only [Bool.not_false, Bool.not_true, Bool.and_true, Bool.and_false, Bool.true_and, Bool.false_and, Bool.or_false, Bool.false_or, Bool.and_eq_true, Bool.or_eq_true, Bool.not_eq_true', Bool.and_eq_false_iff, Bool.or_eq_false_iff, Bool.not_eq_false', decide_eq_true_eq, decide_eq_false_iff_not, beq_iff_eq, beq_eq_false_iff_ne, ne_eq, Sx.idF, Sx.idT] at q3); have q4 := h62; (try simp only [Sx.emp_iff] at q4); (try simp only [Bool.not_false, Bool.not_true, Bool.and_true, Bool.and_false, Bool.true_and, Bool.false_and, Bool.or_false, Bool.false_or, Bool.and_eq_true, Bool.or_eq_true, Bool.not_eq_true', Bool.and_eq_false_iff, Bool.or_eq_false_iff, Bool.not_eq_false', decide_eq_true_eq, decide_eq_false_iff_not, beq_iff_eq, beq_eq_false_iff_ne, ne_eq, Sx.idF, Sx.idT] at q4); have q5 := h64; (try simp only [Sx.emp_iff] at q5); (try simp only [Bool.not_false, Bool.not_true, Bool.and_true, Bool.and_false, Bool.true_and, Bool.false_and, Bool.or_false, Bool.false_or, Bool.and_eq_true, Bool.or_eq_true, Bool.not_eq_true', Bool.and_eq_false_iff, Bool.or_eq_false_iff, Bool.not_eq_false', decide_eq_true_eq, decide_eq_false_iff_not, beq_iff_eq, beq_eq_false_iff_ne, ne_eq, Sx.idF, Sx.idT] at q5); first | (exfalso; omega) | (have kn := Sx.kid_1 (n := x.kids.length) (op := x.op) (by omega); unfold Sx.nodE Sx.callE; ((try simp only [Sx.idF]); (repeat (first | rw [if_pos (by omega)] | rw [if_neg (by omega)]))); done))
            ·
              refine WC.seq (fun K66 k66 => ?_)
              refine WC.region rfl ?_
              refine WL.yld rfl (blt rfl) rfl (Y.move rfl rfl) ?_
              refine WL.yld rfl (blt rfl) rfl (Y.assign rfl rfl) ?_
              refine WL.nil ?_
              refine WK.then_normal (k66 _ _ ?_)
              refine WC.sub [(1, _), (3, _), (4, _), (60, _)] ⟨rfl, rfl, rfl, rfl, trivial⟩ ?_
              refine WC.condF rfl ?_
              refine WC.seq (fun K67 k67 => ?_)
              refine WC.region rfl ?_
              refine WL.yld rfl (blt rfl) rfl (Y.move rfl rfl) ?_
              refine WL.yld rfl (blt rfl) rfl (Y.move rfl rfl) ?_
              refine WL.skip rfl (blt rfl) rfl rfl rfl rfl ?_
              refine WL.skip rfl (blt rfl) rfl rfl rfl rfl ?_
              refine WL.skip rfl (blt rfl) rfl rfl rfl rfl ?_
              refine WL.skip rfl (blt rfl) rfl rfl rfl rfl ?_
              refine WL.yld rfl (blt rfl) rfl (Y.pickF rfl rfl rfl) ?_
              refine WL.yld rfl (blt rfl) rfl (Y.assign rfl rfl) ?_
              refine WL.nil ?_
              refine WK.then_normal (k67 _ _ ?_)
              refine WC.sub [(1, _), (3, _), (65, _)] ⟨rfl, rfl, rfl, trivial⟩ ?_
              refine WC.condF rfl ?_
              refine WC.seq (fun K68 k68 => ?_)
              refine WC.region rfl ?_
              refine WL.yld rfl (blt rfl) rfl (Y.fieldAddr rfl Try.underlying28 rfl ti22 (by decide) rfl) ?_
              refine WL.yld rfl (blt rfl) rfl (Y.load1 rfl Try.underlying22 rfl rfl (Blk.at_eq m6 rfl)) ?_
              refine WL.yld rfl (blt rfl) rfl (Y.eql rfl rfl rfl) ?_
              refine WL.yld rfl (blt rfl) rfl (Y.move rfl rfl) ?_
              refine WL.yldG rfl (blt rfl) rfl rfl rfl (fun hb => Y.fieldAddr rfl Try.underlying28 rfl ti9 (by decide) rfl) ?_
              refine WL.yldG rfl (blt rfl) rfl rfl rfl (fun hb => Y.load1 rfl Try.underlying9 rfl (evg rfl hb) (Blk.at_eq m6 rfl)) ?_
              refine WL.callG rfl (blt rfl) rfl rfl rfl rfl rfl has71 (fun hb => (evs_cons (evg rfl hb) evs_nil)) (fun hb => arity_any _ _ ) (fun w69 x70 => ?_)
              have m6 := m6.ext x70
              have xW := Ext.trans xW x70
              refine WL.yldG rfl (blt rfl) rfl rfl rfl (fun hb => Y.eql rfl (evg rfl hb) rfl) ?_
              refine WL.yld rfl (blt rfl) rfl (Y.and rfl rfl rfl rfl) ?_
              refine WL.yld rfl (blt rfl) rfl (Y.assign rfl rfl) ?_
              refine WL.nil ?_
              refine WK.then_normal (k68 _ _ ?_)
              refine WC.sub [(1, _), (3, _), (73, _)] ⟨rfl, rfl, rfl, trivial⟩ ?_
              refine WC.cond rfl (fun h71 => ?_) (fun h71 => ?_)
              ·
                have p71 := (And.intro (eq_t (and_t h71).1) (eq_t (and_t h71).2))
                refine WC.seq (fun K72 k72 => ?_)
                refine WC.region rfl ?_
                refine WL.yld rfl (blt rfl) rfl (Y.assign rfl rfl) ?_
                refine WL.nil ?_
                refine WK.then_normal (k72 _ _ ?_)
                refine WC.sub [(2, _)] ⟨rfl, trivial⟩ ?_
                refine WC.ret ?_
                refine WK.in_ret ?_
                refine WK.then_ret ?_
                clear k1 k7 k8 k9 k25 k54 k56 k57 k58 k61 k66 k67 k68 k72
                refine WK.ret [_] rfl ⟨rfl, trivial⟩ ?_
                refine ⟨ret1 (vi ?_), xW⟩
                first | (exfalso; revert h10; simp; done) | (exfalso; revert h26; simp; done) | (exfalso; revert h55; simp; done) | (exfalso; revert h59; simp; done) | (exfalso; revert h62; simp; done) | (exfalso; revert h64; simp; done) | (exfalso; revert h71; simp; done) | (have q0 := h10; (try simp only [Sx.emp_iff] at q0); (try simp only [Bool.not_false, Bool.not_true, Bool.and_true, Bool.and_false, Bool.true_and, Bool.false_and, Bool.or_false, Bool.false_or, Bool.and_eq_true, Bool.or_eq_true, Bool.not_eq_true', Bool.and_eq_false_iff, Bool.or_eq_false_iff, Bool.not_eq_false', decide_eq_true_eq, decide_eq_false_iff_not, beq_iff_eq, beq_eq_false_iff_ne, ne_eq, Sx.idF, Sx.idT] at q0); have q1 := h26; (try simp only [Sx.emp_iff] at q1); (try simp only [Bool.not_false, Bool.not_true, Bool.and_true, Bool.and_false, Bool.true_and, Bool.false_and, Bool.or_false, Bool.false_or, Bool.and_eq_true, Bool.or_eq_true, Bool.not_eq_true', Bool.and_eq_false_iff, Bool.or_eq_false_iff, Bool.not_eq_false', decide_eq_true_eq, decide_eq_false_iff_not, beq_iff_eq, beq_eq_false_iff_ne, ne_eq, Sx.idF, Sx.idT] at q1); have q2 := h55; (try simp only [Sx.emp_iff] at q2); (try simp only [Bool.not_false, Bool.not_true, Bool.and_true, Bool.and_false, Bool.true_and, Bool.false_and, Bool.or_false, Bool.false_or, Bool.and_eq_true, Bool.or_eq_true, Bool.not_eq_true', Bool.and_eq_false_iff, Bool.or_eq_false_iff, Bool.not_eq_false', decide_eq_true_eq, decide_eq_false_iff_not, beq_iff_eq, beq_eq_false_iff_ne, ne_eq, Sx.idF, Sx.idT] at q2); have q3 := h59; (try simp only [Sx.emp_iff] at q3); (try simp only [Bool.not_false, Bool.not_true, Bool.and_true, Bool.and_false, Bool.true_and, Bool.false_and, Bool.or_false, Bool.false_or, Bool.and_eq_true, Bool.or_eq_true, Bool.not_eq_true', Bool.and_eq_false_iff, Bool.or_eq_false_iff, Bool.not_eq_false', decide_eq_true_eq, decide_eq_false_iff_not, beq_iff_eq, beq_eq_false_iff_ne, ne_eq, Sx.idF, Sx.idT] at q3); have q4 := h62; (try simp only [Sx.emp_iff] at q4); (try simp only [Bool.not_false, Bool.not_true, Bool.and_true, Bool.and_false, Bool.true_and, Bool.false_and, Bool.or_false, Bool.false_or, Bool.and_eq_true, Bool.or_eq_true, Bool.not_eq_true', Bool.and_eq_false_iff, Bool.or_eq_false_iff, Bool.not_eq_false', decide_eq_true_eq, decide_eq_false_iff_not, beq_iff_eq, beq_eq_false_iff_ne, ne_eq, Sx.idF, Sx.idT] at q4); have q5 := h64; (try simp only [Sx.emp_iff] at q5); (try simp only [Bool.not_false, Bool.not_true, Bool.and_true, Bool.and_false, Bool.true_and, Bool.false_and, Bool.or_false, Bool.false_or, Bool.and_eq_true, Bool.or_eq_true, Bool.not_eq_true', Bool.and_eq_false_iff, Bool.or_eq_false_iff, Bool.not_eq_false', decide_eq_true_eq, decide_eq_false_iff_not, beq_iff_eq, beq_eq_false_iff_ne, ne_eq, Sx.idF, Sx.idT] at q5); have q6 := h71; (try simp only [Sx.emp_iff] at q6); (try simp only [Bool.not_false, Bool.not_true, Bool.and_true, Bool.and_false, Bool.true_and, Bool.false_and, Bool.or_false, Bool.false_or, Bool.and_eq_true, Bool.or_eq_true, Bool.not_eq_true', Bool.and_eq_false_iff, Bool.or_eq_false_iff, Bool.not_eq_false', decide_eq_true_eq, decide_eq_false_iff_not, beq_iff_eq, beq_eq_false_iff_ne, ne_eq, Sx.idF, Sx.idT] at q6); first | (exfalso; omega) | (have kn := Sx.kid_1 (n := x.kids.length) (op := x.op) (by omega); unfold Sx.nodE Sx.callE; ((try simp only [Sx.idF]); (repeat (first | rw [if_pos (by omega)] | rw [if_neg (by omega)]))); done))
              ·
                have p71 := ((and_f h71).imp (fun h => (eq_f h)) (fun h => (eq_f h)))
                refine WC.seq (fun K73 k73 => ?_)
                refine WC.region rfl ?_
                refine WL.yld rfl (blt rfl) rfl (Y.fieldAddr rfl Try.underlying28 rfl ti22 (by decide) rfl) ?_
                refine WL.yld rfl (blt rfl) rfl (Y.load1 rfl Try.underlying22 rfl rfl (Blk.at_eq m6 rfl)) ?_
                refine WL.yld rfl (blt rfl) rfl (Y.eql rfl rfl rfl) ?_
                refine WL.yld rfl (blt rfl) rfl (Y.move rfl rfl) ?_
                refine WL.yldG rfl (blt rfl) rfl rfl rfl (fun hb => Y.fieldAddr rfl Try.underlying28 rfl ti9 (by decide) rfl) ?_
                refine WL.yldG rfl (blt rfl) rfl rfl rfl (fun hb => Y.load1 rfl Try.underlying9 rfl (evg rfl hb) (Blk.at_eq m6 rfl)) ?_
                refine WL.callG rfl (blt rfl) rfl rfl rfl rfl rfl has71 (fun hb => (evs_cons (evg rfl hb) evs_nil)) (fun hb => arity_any _ _ ) (fun w74 x75 => ?_)
                have m6 := m6.ext x75
                have xW := Ext.trans xW x75
                refine WL.yldG rfl (blt rfl) rfl rfl rfl (fun hb => Y.move rfl rfl) ?_
                refine WL.yldG rfl (blt rfl) rfl rfl rfl (fun hb => Y.neq rfl (evg rfl hb) (evg rfl hb)) ?_
                refine WL.yld rfl (blt rfl) rfl (Y.and rfl rfl rfl rfl) ?_
                refine WL.yld rfl (blt rfl) rfl (Y.assign rfl rfl) ?_
                refine WL.nil ?_
                refine WK.then_normal (k73 _ _ ?_)
                refine WC.sub [(83, _)] ⟨rfl, trivial⟩ ?_
                refine WC.cond rfl (fun h76 => ?_) (fun h76 => ?_)
                ·
                  have p76 := (And.intro (eq_t (and_t h76).1) (eq_f (not_t (and_t h76).2)))
                  refine WC.seq (fun K77 k77 => ?_)
                  refine WC.region rfl ?_
                  refine WL.yld rfl (blt rfl) rfl (Y.assign rfl rfl) ?_
                  refine WL.nil ?_
                  refine WK.then_normal (k77 _ _ ?_)
                  refine WC.sub [(2, _)] ⟨rfl, trivial⟩ ?_
                  refine WC.ret ?_
                  refine WK.in_ret ?_
                  refine WK.then_ret ?_
                  clear k1 k7 k8 k9 k25 k54 k56 k57 k58 k61 k66 k67 k68 k73 k77
                  refine WK.ret [_] rfl ⟨rfl, trivial⟩ ?_
                  refine ⟨ret1 (vi ?_), xW⟩
                  first | (exfalso; revert h10; simp; done) | (exfalso; revert h26; simp; done) | (exfalso; revert h55; simp; done) | (exfalso; revert h59; simp; done) | (exfalso; revert h62; simp; done) | (exfalso; revert h64; simp; done) | (exfalso; revert h71; simp; done) | (exfalso; revert h76; simp; done) | (have q0 := h10; (try simp only [Sx.emp_iff] at q0); (try simp only [Bool.not_false, Bool.not_true, Bool.and_true, Bool.and_false, Bool.true_and, Bool.false_and, Bool.or_false, Bool.false_or, Bool.and_eq_true, Bool.or_eq_true, Bool.not_eq_true', Bool.and_eq_false_iff, Bool.or_eq_false_iff, Bool.not_eq_false', decide_eq_true_eq, decide_eq_false_iff_not, beq_iff_eq, beq_eq_false_iff_ne, ne_eq, Sx.idF, Sx.idT] at q0); have q1 := h26; (try simp only [Sx.emp_iff] at q1); (try simp only [Bool.not_false, Bool.not_true, Bool.and_true, Bool.and_false, Bool.true_and, Bool.false_and, Bool.or_false, Bool.false_or, Bool.and_eq_true, Bool.or_eq_true, Bool.not_eq_true', Bool.and_eq_false_iff, Bool.or_eq_false_iff, Bool.not_eq_false', decide_eq_true_eq, decide_eq_false_iff_not, beq_iff_eq, beq_eq_false_iff_ne, ne_eq, Sx.idF, Sx.idT] at q1); have q2 := h55; (try simp only [Sx.emp_iff] at q2); (try simp only [Bool.not_false, Bool.not_true, Bool.and_true, Bool.and_false, Bool.true_and, Bool.false_and, Bool.or_false, Bool.false_or, Bool.and_eq_true, Bool.or_eq_true, Bool.not_eq_true', Bool.and_eq_false_iff, Bool.or_eq_false_iff, Bool.not_eq_false', decide_eq_true_eq, decide_eq_false_iff_not, beq_iff_eq, beq_eq_false_iff_ne, ne_eq, Sx.idF, Sx.idT] at q2); have q3 := h59; (try simp only [Sx.emp_iff] at q3); (try simp only [Bool.not_false, Bool.not_true, Bool.and_true, Bool.and_false, Bool.true_and, Bool.false_and, Bool.or_false, Bool.false_or, Bool.and_eq_true, Bool.or_eq_true, Bool.not_eq_true', Bool.and_eq_false_iff, Bool.or_eq_false_iff, Bool.not_eq_false', decide_eq_true_eq, decide_eq_false_iff_not, beq_iff_eq, beq_eq_false_iff_ne, ne_eq, Sx.idF, Sx.idT] at q3); have q4 := h62; (try simp only [Sx.emp_iff] at q4); (try simp only [Bool.not_false, Bool.not_true, Bool.and_true, Bool.and_false, Bool.true_and, Bool.false_and, Bool.or_false, Bool.false_or, Bool.and_eq_true, Bool.or_eq_true, Bool.not_eq_true', Bool.and_eq_false_iff, Bool.or_eq_false_iff, Bool.not_eq_false', decide_eq_true_eq, decide_eq_false_iff_not, beq_iff_eq, beq_eq_false_iff_ne, ne_eq, Sx.idF, Sx.idT] at q4); have q5 := h64; (try simp only [Sx.emp_iff] at q5); (try simp only [Bool.not_false, Bool.not_true, Bool.and_true, Bool.and_false, Bool.true_and, Bool.false_and, Bool.or_false, Bool.false_or, Bool.and_eq_true, Bool.or_eq_true, Bool.not_eq_true', Bool.and_eq_false_iff, Bool.or_eq_false_iff, Bool.not_eq_false', decide_eq_true_eq, decide_eq_false_iff_not, beq_iff_eq, beq_eq_false_iff_ne, ne_eq, Sx.idF, Sx.idT] at q5); have q6 := h71; (try simp only [Sx.emp_iff] at q6); (try simp only [Bool.not_false, Bool.not_true, Bool.and_true, Bool.and_false, Bool.true_and, Bool.false_and, Bool.or_false, Bool.false_or, Bool.and_eq_true, Bool.or_eq_true, Bool.not_eq_true', Bool.and_eq_false_iff, Bool.or_eq_false_iff, Bool.not_eq_false', decide_eq_true_eq, decide_eq_false_iff_not, beq_iff_eq, beq_eq_false_iff_ne, ne_eq, Sx.idF, Sx.idT] at q6); have q7 := h76; (try simp only [Sx.emp_iff] at q7); (try simp only [Bool.not_false, Bool.not_true, Bool.and_true, Bool.and_false, Bool.true_and, Bool.false_and, Bool.or_false, Bool.false_or, Bool.and_eq_true, Bool.or_eq_true, Bool.not_eq_true', Bool.and_eq_false_iff, Bool.or_eq_false_iff, Bool.not_eq_false', decide_eq_true_eq, decide_eq_false_iff_not, beq_iff_eq, beq_eq_false_iff_ne, ne_eq, Sx.idF, Sx.idT] at q7); first | (exfalso; omega) | (have kn := Sx.kid_1 (n := x.kids.length) (op := x.op) (by omega); unfold Sx.nodE Sx.callE; ((try simp only [Sx.idF]); (repeat (first | rw [if_pos (by omega)] | rw [if_neg (by omega)]))); done))
                ·
                  have p76 := ((and_f h76).imp (fun h => (eq_f h)) (fun h => (eq_t (not_f h))))
                  refine WC.skip ?_
                  refine WK.in_normal ?_
                  refine WK.then_normal (k56 _ _ ?_)
                  refine WC.sub [] trivial ?_
                  refine WC.seq (fun K78 k78 => ?_)
                  refine WC.region rfl ?_
                  refine WL.yld rfl (blt rfl) rfl (Y.assign rfl rfl) ?_
                  refine WL.nil ?_
                  refine WK.then_normal (k78 _ _ ?_)
                  refine WC.ret ?_
                  clear k1 k7 k8 k9 k25 k54 k56 k57 k58 k61 k66 k67 k68 k73 k78
                  refine WK.ret [_] rfl ⟨rfl, trivial⟩ ?_
                  refine ⟨ret1 (vi ?_), xW⟩
                  first | (exfalso; revert h10; simp; done) | (exfalso; revert h26; simp; done) | (exfalso; revert h55; simp; done) | (exfalso; revert h59; simp; done) | (exfalso; revert h62; simp; done) | (exfalso; revert h64; simp; done) | (exfalso; revert h71; simp; done) | (exfalso; revert h76; simp; done) | (have q0 := h10; (try simp only [Sx.emp_iff] at q0); (try simp only [Bool.not_false, Bool.not_true, Bool.and_true, Bool.and_false, Bool.true_and, Bool.false_and, Bool.or_false, Bool.false_or, Bool.and_eq_true, Bool.or_eq_true, Bool.not_eq_true', Bool.and_eq_false_iff, Bool.or_eq_false_iff, Bool.not_eq_false', decide_eq_true_eq, decide_eq_false_iff_not, beq_iff_eq, beq_eq_false_iff_ne, ne_eq, Sx.idF, Sx.idT] at q0); have q1 := h26; (try simp only [Sx.emp_iff] at q1); (try simp only [Bool.not_false, Bool.not_true, Bool.and_true, Bool.and_false, Bool.true_and, Bool.false_and, Bool.or_false, Bool.false_or, Bool.and_eq_true, Bool.or_eq_true, Bool.not_eq_true', Bool.and_eq_false_iff, Bool.or_eq_false_iff, Bool.not_eq_false', decide_eq_true_eq, decide_eq_false_iff_not, beq_iff_eq, beq_eq_false_iff_ne, ne_eq, Sx.idF, Sx.idT] at q1); have q2 := h55; (try simp only [Sx.emp_iff] at q2); (try simp only [Bool.not_false, Bool.not_true, Bool.and_true, Bool.and_false, Bool.true_and, Bool.false_and, Bool.or_false, Bool.false_or, Bool.and_eq_true, Bool.or_eq_true, Bool.not_eq_true', Bool.and_eq_false_iff, Bool.or_eq_false_iff, Bool.not_eq_false', decide_eq_true_eq, decide_eq_false_iff_not, beq_iff_eq, beq_eq_false_iff_ne, ne_eq, Sx.idF, Sx.idT] at q2); have q3 := h59; (try simp only [Sx.emp_iff] at q3); (try simp only [Bool.not_false, Bool.not_true, Bool.and_true, Bool.and_false, Bool.true_and, Bool.false_and, Bool.or_false, Bool.false_or, Bool.and_eq_true, Bool.or_eq_true, Bool.not_eq_true', Bool.and_eq_false_iff, Bool.or_eq_false_iff, Bool.not_eq_false', decide_eq_true_eq, decide_eq_false_iff_not, beq_iff_eq, beq_eq_false_iff_ne, ne_eq, Sx.idF, Sx.idT] at q3); have q4 := h62; (try simp only [Sx.emp_iff] at q4); (try simp only [Bool.not_false, Bool.not_true, Bool.and_true, Bool.and_false, Bool.true_and, Bool.false_and, Bool.or_false, Bool.false_or, Bool.and_eq_true, Bool.or_eq_true, Bool.not_eq_true', Bool.and_eq_false_iff, Bool.or_eq_false_iff, Bool.not_eq_false', decide_eq_true_eq, decide_eq_false_iff_not, beq_iff_eq, beq_eq_false_iff_ne, ne_eq, Sx.idF, Sx.idT] at q4); have q5 := h64; (try simp only [Sx.emp_iff] at q5); (try simp only [Bool.not_false, Bool.not_true, Bool.and_true, Bool.and_false, Bool.true_and, Bool.false_and, Bool.or_false, Bool.false_or, Bool.and_eq_true, Bool.or_eq_true, Bool.not_eq_true', Bool.and_eq_false_iff, Bool.or_eq_false_iff, Bool.not_eq_false', decide_eq_true_eq, decide_eq_false_iff_not, beq_iff_eq, beq_eq_false_iff_ne, ne_eq, Sx.idF, Sx.idT] at q5); have q6 := h71; (try simp only [Sx.emp_iff] at q6); (try simp only [Bool.not_false, Bool.not_true, Bool.and_true, Bool.and_false, Bool.true_and, Bool.false_and, Bool.or_false, Bool.false_or, Bool.and_eq_true, Bool.or_eq_true, Bool.not_eq_true', Bool.and_eq_false_iff, Bool.or_eq_false_iff, Bool.not_eq_false', decide_eq_true_eq, decide_eq_false_iff_not, beq_iff_eq, beq_eq_false_iff_ne, ne_eq, Sx.idF, Sx.idT] at q6); have q7 := h76; (try simp only [Sx.emp_iff] at q7); (try simp only [Bool.not_false, Bool.not_true, Bool.and_true, Bool.and_false, Bool.true_and, Bool.false_and, Bool.or_false, Bool.false_or, Bool.and_eq_true, Bool.or_eq_true, Bool.not_eq_true', Bool.and_eq_false_iff, Bool.or_eq_false_iff, Bool.not_eq_false', decide_eq_true_eq, decide_eq_false_iff_not, beq_iff_eq, beq_eq_false_iff_ne, ne_eq, Sx.idF, Sx.idT] at q7); first | (exfalso; omega) | (have kn := Sx.kid_1 (n := x.kids.length) (op := x.op) (by omega); unfold Sx.nodE Sx.callE; ((try simp only [Sx.idF]); (repeat (first | rw [if_pos (by omega)] | rw [if_neg (by omega)]))); done))
      ·
        have p55 := (And.intro (eq_f (or_f h55).1) (eq_f (or_f h55).2))
        refine WC.seq (fun K79 k79 => ?_)
        refine WC.region rfl ?_
        refine WL.yld rfl (blt rfl) rfl (Y.fieldAddr rfl Try.underlying28 rfl ti22 (by decide) rfl) ?_
        refine WL.yld rfl (blt rfl) rfl (Y.load1 rfl Try.underlying22 rfl rfl (Blk.at_eq m6 rfl)) ?_
        refine WL.yld rfl (blt rfl) rfl (Y.eql rfl rfl rfl) ?_
        refine WL.yld rfl (blt rfl) rfl (Y.assign rfl rfl) ?_
        refine WL.nil ?_
        refine WK.then_normal (k79 _ _ ?_)
        refine WC.sub [(1, _), (3, _), (4, _), (5, _), (23, _)] ⟨rfl, rfl, rfl, rfl, rfl, trivial⟩ ?_
        refine WC.cond rfl (fun h80 => ?_) (fun h80 => ?_)
        ·
          have p80 := (eq_t h80)
          refine WC.region rfl ?_
          refine WL.yld rfl (blt rfl) rfl (Y.fieldAddr rfl Try.underlying28 rfl ti26 (by decide) rfl) ?_
          refine WL.yld rfl (blt rfl) rfl (Y.load1 rfl Try.underlying26 rfl rfl (Blk.at_eq m6 rfl)) ?_
          refine WL.yld rfl (blt rfl) rfl (Y.lenSl rfl rfl rfl Try.underlying26 rfl) ?_
          refine WL.yld rfl (blt rfl) rfl (Y.assign rfl rfl) ?_
          refine WL.yld rfl (blt rfl) rfl (Y.assign rfl rfl) ?_
          refine WL.nil ?_
          refine WK.in_normal ?_
          refine WK.then_normal (k8 _ _ ?_)
          refine WC.sub [(1, _), (3, _), (4, _), (5, _)] ⟨rfl, rfl, rfl, rfl, trivial⟩ ?_
          refine WC.seq (fun K81 k81 => ?_)
          refine WC.block ?_
          refine WC.seq (fun K82 k82 => ?_)
          refine WC.seq (fun K83 k83 => ?_)
          refine WC.region rfl ?_
          refine WL.yld rfl (blt rfl) rfl (Y.fieldAddr rfl Try.underlying28 rfl ti26 (by decide) rfl) ?_
          refine WL.yld rfl (blt rfl) rfl (Y.load1 rfl Try.underlying26 rfl rfl (Blk.at_eq m6 rfl)) ?_
          refine WL.yld rfl (blt rfl) rfl (Y.lenSl rfl rfl rfl Try.underlying26 rfl) ?_
          refine WL.yld rfl (blt rfl) rfl (Y.move rfl rfl) ?_
          refine WL.yld rfl (blt rfl) rfl (Y.neq rfl rfl rfl) ?_
          refine WL.yld rfl (blt rfl) rfl (Y.assign rfl rfl) ?_
          refine WL.nil ?_
          refine WK.then_normal (k83 _ _ ?_)
          refine WC.sub [(1, _), (3, _), (4, _), (5, _), (39, _)] ⟨rfl, rfl, rfl, rfl, rfl, trivial⟩ ?_
          refine WC.cond rfl (fun h84 => ?_) (fun h84 => ?_)
          ·
            have p84 := (eq_f (not_t h84))
            refine WC.skip ?_
            refine WK.then_normal (k82 _ _ ?_)
            refine WC.sub [(1, _), (3, _), (4, _), (5, _), (39, .bool true)] ⟨rfl, rfl, rfl, rfl, kn h84, trivial⟩ ?_
            refine WC.condT rfl ?_
            refine WC.seq (fun K85 k85 => ?_)
            refine WC.region rfl ?_
            refine WL.yld rfl (blt rfl) rfl (Y.assign rfl rfl) ?_
            refine WL.nil ?_
            refine WK.then_normal (k85 _ _ ?_)
            refine WC.sub [(2, _)] ⟨rfl, trivial⟩ ?_
            refine WC.ret ?_
            refine WK.in_ret ?_
            refine WK.then_ret ?_
            clear k1 k7 k8 k9 k25 k54 k79 k81 k82 k83 k85
            refine WK.ret [_] rfl ⟨rfl, trivial⟩ ?_
            refine ⟨ret1 (vi ?_), xW⟩
            first | (exfalso; revert h10; simp; done) | (exfalso; revert h26; simp; done) | (exfalso; revert h55; simp; done) | (exfalso; revert h80; simp; done) | (exfalso; revert h84; simp; done) | (have q0 := h10; (try simp only [Sx.emp_iff] at q0); (try simp only [Bool.not_false, Bool.not_true, Bool.and_true, Bool.and_false, Bool.true_and, Bool.false_and, Bool.or_false, Bool.false_or, Bool.and_eq_true, Bool.or_eq_true, Bool.not_eq_true', Bool.and_eq_false_iff, Bool.or_eq_false_iff, Bool.not_eq_false', decide_eq_true_eq, decide_eq_false_iff_not, beq_iff_eq, beq_eq_false_iff_ne, ne_eq, Sx.idF, Sx.idT] at q0); have q1 := h26; (try simp only [Sx.emp_iff] at q1); (try simp only [Bool.not_false, Bool.not_true, Bool.and_true, Bool.and_false, Bool.true_and, Bool.false_and, Bool.or_false, Bool.false_or, Bool.and_eq_true, Bool.or_eq_true, Bool.not_eq_true', Bool.and_eq_false_iff, Bool.or_eq_false_iff, Bool.not_eq_false', decide_eq_true_eq, decide_eq_false_iff_not, beq_iff_eq, beq_eq_false_iff_ne, ne_eq, Sx.idF, Sx.idT] at q1); have q2 := h55; (try simp only [Sx.emp_iff] at q2); (try simp only [Bool.not_false, Bool.not_true, Bool.and_true, Bool.and_false, Bool.true_and, Bool.false_and, Bool.or_false, Bool.false_or, Bool.and_eq_true, Bool.or_eq_true, Bool.not_eq_true', Bool.and_eq_false_iff, Bool.or_eq_false_iff, Bool.not_eq_false', decide_eq_true_eq, decide_eq_false_iff_not, beq_iff_eq, beq_eq_false_iff_ne, ne_eq, Sx.idF, Sx.idT] at q2); have q3 := h80; (try simp only [Sx.emp_iff] at q3); (try simp only [Bool.not_false, Bool.not_true, Bool.and_true, Bool.and_false, Bool.true_and, Bool.false_and, Bool.or_false, Bool.false_or, Bool.and_eq_true, Bool.or_eq_true, Bool.not_eq_true', Bool.and_eq_false_iff, Bool.or_eq_false_iff, Bool.not_eq_false', decide_eq_true_eq, decide_eq_false_iff_not, beq_iff_eq, beq_eq_false_iff_ne, ne_eq, Sx.idF, Sx.idT] at q3); have q4 := h84; (try simp only [Sx.emp_iff] at q4); (try simp only [Bool.not_false, Bool.not_true, Bool.and_true, Bool.and_false, Bool.true_and, Bool.false_and, Bool.or_false, Bool.false_or, Bool.and_eq_true, Bool.or_eq_true, Bool.not_eq_true', Bool.and_eq_false_iff, Bool.or_eq_false_iff, Bool.not_eq_false', decide_eq_true_eq, decide_eq_false_iff_not, beq_iff_eq, beq_eq_false_iff_ne, ne_eq, Sx.idF, Sx.idT] at q4); first | (exfalso; omega) | (have kn := Sx.kid_c (n := x.kids.length) (op := x.op) (by omega); unfold Sx.nodE Sx.callE; ((try simp only [Sx.idF]); (repeat (first | rw [if_pos (by omega)] | rw [if_neg (by omega)]))); done))
          ·
            have p84 := (eq_t (not_f h84))
            refine WC.seq (fun K86 k86 => ?_)
            refine WC.region rfl ?_
            refine WL.yld rfl (blt rfl) rfl (Y.fieldAddr rfl Try.underlying28 rfl ti9 (by decide) rfl) ?_
            refine WL.yld rfl (blt rfl) rfl (Y.load1 rfl Try.underlying9 rfl rfl (Blk.at_eq m6 rfl)) ?_
            refine WL.yld rfl (blt rfl) rfl (Y.neqStr rfl rfl rfl) ?_
            refine WL.yld rfl (blt rfl) rfl (Y.move rfl rfl) ?_
            refine WL.yldG rfl (blt rfl) rfl rfl rfl (fun hb => Y.move rfl rfl) ?_
            refine WL.yldG rfl (blt rfl) rfl rfl rfl (fun hb => Y.not rfl (evg rfl hb)) ?_
            refine WL.yld rfl (blt rfl) rfl (Y.and rfl rfl rfl rfl) ?_
            refine WL.yld rfl (blt rfl) rfl (Y.assign rfl rfl) ?_
            refine WL.nil ?_
            refine WK.then_normal (k86 _ _ ?_)
            refine WC.sub [(1, _), (3, _), (4, _), (5, _), (39, _)] ⟨rfl, rfl, rfl, rfl, rfl, trivial⟩ ?_
            refine WC.cond rfl (fun h87 => ?_) (fun h87 => ?_)
            ·
              refine WC.skip ?_
              refine WK.then_normal (k82 _ _ ?_)
              refine WC.sub [(1, _), (3, _), (4, _), (5, _), (39, .bool true)] ⟨rfl, rfl, rfl, rfl, kn h87, trivial⟩ ?_
              refine WC.condT rfl ?_
              refine WC.seq (fun K88 k88 => ?_)
              refine WC.region rfl ?_
              refine WL.yld rfl (blt rfl) rfl (Y.assign rfl rfl) ?_
              refine WL.nil ?_
              refine WK.then_normal (k88 _ _ ?_)
              refine WC.sub [(2, _)] ⟨rfl, trivial⟩ ?_
              refine WC.ret ?_
              refine WK.in_ret ?_
              refine WK.then_ret ?_
              clear k1 k7 k8 k9 k25 k54 k79 k81 k82 k83 k86 k88
              refine WK.ret [_] rfl ⟨rfl, trivial⟩ ?_
              refine ⟨ret1 (vi ?_), xW⟩
              first | (exfalso; revert h10; simp; done) | (exfalso; revert h26; simp; done) | (exfalso; revert h55; simp; done) | (exfalso; revert h80; simp; done) | (exfalso; revert h84; simp; done) | (exfalso; revert h87; simp; done) | (have q0 := h10; (try simp only [Sx.emp_iff] at q0); (try simp only [Bool.not_false, Bool.not_true, Bool.and_true, Bool.and_false, Bool.true_and, Bool.false_and, Bool.or_false, Bool.false_or, Bool.and_eq_true, Bool.or_eq_true, Bool.not_eq_true', Bool.and_eq_false_iff, Bool.or_eq_false_iff, Bool.not_eq_false', decide_eq_true_eq, decide_eq_false_iff_not, beq_iff_eq, beq_eq_false_iff_ne, ne_eq, Sx.idF, Sx.idT] at q0); have q1 := h26; (try simp only [Sx.emp_iff] at q1); (try simp only [Bool.not_false, Bool.not_true, Bool.and_true, Bool.and_false, Bool.true_and, Bool.false_and, Bool.or_false, Bool.false_or, Bool.and_eq_true, Bool.or_eq_true, Bool.not_eq_true', Bool.and_eq_false_iff, Bool.or_eq_false_iff, Bool.not_eq_false', decide_eq_true_eq, decide_eq_false_iff_not, beq_iff_eq, beq_eq_false_iff_ne, ne_eq, Sx.idF, Sx.idT] at q1); have q2 := h55; (try simp only [Sx.emp_iff] at q2); (try simp only [Bool.not_false, Bool.not_true, Bool.and_true, Bool.and_false, Bool.true_and, Bool.false_and, Bool.or_false, Bool.false_or, Bool.and_eq_true, Bool.or_eq_true, Bool.not_eq_true', Bool.and_eq_false_iff, Bool.or_eq_false_iff, Bool.not_eq_false', decide_eq_true_eq, decide_eq_false_iff_not, beq_iff_eq, beq_eq_false_iff_ne, ne_eq, Sx.idF, Sx.idT] at q2); have q3 := h80; (try simp only [Sx.emp_iff] at q3); (try simp only [Bool.not_false, Bool.not_true, Bool.and_true, Bool.and_false, Bool.true_and, Bool.false_and, Bool.or_false, Bool.false_or, Bool.and_eq_true, Bool.or_eq_true, Bool.not_eq_true', Bool.and_eq_false_iff, Bool.or_eq_false_iff, Bool.not_eq_false', decide_eq_true_eq, decide_eq_false_iff_not, beq_iff_eq, beq_eq_false_iff_ne, ne_eq, Sx.idF, Sx.idT] at q3); have q4 := h84; (try simp only [Sx.emp_iff] at q4); (try simp only [Bool.not_false, Bool.not_true, Bool.and_true, Bool.and_false, Bool.true_and, Bool.false_and, Bool.or_false, Bool.false_or, Bool.and_eq_true, Bool.or_eq_true, Bool.not_eq_true', Bool.and_eq_false_iff, Bool.or_eq_false_iff, Bool.not_eq_false', decide_eq_true_eq, decide_eq_false_iff_not, beq_iff_eq, beq_eq_false_iff_ne, ne_eq, Sx.idF, Sx.idT] at q4); have q5 := h87; (try simp only [Sx.emp_iff] at q5); (try simp only [Bool.not_false, Bool.not_true, Bool.and_true, Bool.and_false, Bool.true_and, Bool.false_and, Bool.or_false, Bool.false_or, Bool.and_eq_true, Bool.or_eq_true, Bool.not_eq_true', Bool.and_eq_false_iff, Bool.or_eq_false_iff, Bool.not_eq_false', decide_eq_true_eq, decide_eq_false_iff_not, beq_iff_eq, beq_eq_false_iff_ne, ne_eq, Sx.idF, Sx.idT] at q5); first | (exfalso; omega) | (have kn := Sx.kid_c (n := x.kids.length) (op := x.op) (by omega); unfold Sx.nodE Sx.callE; ((try simp only [Sx.idF]); (repeat (first | rw [if_pos (by omega)] | rw [if_neg (by omega)]))); done))
            ·
              refine WC.region rfl ?_
              refine WL.yld rfl (blt rfl) rfl (Y.fieldAddr rfl Try.underlying28 rfl ti25 (by decide) rfl) ?_
              refine WL.yld rfl (blt rfl) rfl (Y.loadS (cs := [_, _, _]) rfl Try.underlying25 rfl ti25 rfl (Blk.part_eq m6 rfl)) ?_
              refine WL.yld rfl (blt rfl) rfl (Y.build (cells := [_, _, _]) rfl pl25 rfl rfl) ?_
              refine WL.yld rfl (blt rfl) rfl (Y.neqS rfl eqg25 (eq25 _ _ _ _ _ _) rfl rfl) ?_
              refine WL.yld rfl (blt rfl) rfl (Y.move rfl rfl) ?_
              refine WL.yldG rfl (blt rfl) rfl rfl rfl (fun hb => Y.move rfl rfl) ?_
              refine WL.yldG rfl (blt rfl) rfl rfl rfl (fun hb => Y.not rfl (evg rfl hb)) ?_
              refine WL.yld rfl (blt rfl) rfl (Y.and rfl rfl rfl rfl) ?_
              refine WL.yld rfl (blt rfl) rfl (Y.assign rfl rfl) ?_
              refine WL.nil ?_
              refine WK.then_normal (k82 _ _ ?_)
              refine WC.sub [(1, _), (3, _), (4, _), (5, _), (39, _)] ⟨rfl, rfl, rfl, rfl, rfl, trivial⟩ ?_
              refine WC.cond rfl (fun h89 => ?_) (fun h89 => ?_)
              ·
                refine WC.seq (fun K90 k90 => ?_)
                refine WC.region rfl ?_
                refine WL.yld rfl (blt rfl) rfl (Y.assign rfl rfl) ?_
                refine WL.nil ?_
                refine WK.then_normal (k90 _ _ ?_)
                refine WC.sub [(2, _)] ⟨rfl, trivial⟩ ?_
                refine WC.ret ?_
                refine WK.in_ret ?_
                refine WK.then_ret ?_
                clear k1 k7 k8 k9 k25 k54 k79 k81 k82 k83 k86 k90
                refine WK.ret [_] rfl ⟨rfl, trivial⟩ ?_
                refine ⟨ret1 (vi ?_), xW⟩
                first | (exfalso; revert h10; simp; done) | (exfalso; revert h26; simp; done) | (exfalso; revert h55; simp; done) | (exfalso; revert h80; simp; done) | (exfalso; revert h84; simp; done) | (exfalso; revert h87; simp; done) | (exfalso; revert h89; simp; done) | (have q0 := h10; (try simp only [Sx.emp_iff] at q0); (try simp only [Bool.not_false, Bool.not_true, Bool.and_true, Bool.and_false, Bool.true_and, Bool.false_and, Bool.or_false, Bool.false_or, Bool.and_eq_true, Bool.or_eq_true, Bool.not_eq_true', Bool.and_eq_false_iff, Bool.or_eq_false_iff, Bool.not_eq_false', decide_eq_true_eq, decide_eq_false_iff_not, beq_iff_eq, beq_eq_false_iff_ne, ne_eq, Sx.idF, Sx.idT] at q0); have q1 := h26; (try simp only [Sx.emp_iff] at q1); (try simp only [Bool.not_false, Bool.not_true, Bool.and_true, Bool.and_false, Bool.true_and, Bool.false_and, Bool.or_false, Bool.false_or, Bool.and_eq_true, Bool.or_eq_true, Bool.not_eq_true', Bool.and_eq_false_iff, Bool.or_eq_false_iff, Bool.not_eq_false', decide_eq_true_eq, decide_eq_false_iff_not, beq_iff_eq, beq_eq_false_iff_ne, ne_eq, Sx.idF, Sx.idT] at q1); have q2 := h55; (try simp only [Sx.emp_iff] at q2); (try simp only [Bool.not_false, Bool.not_true, Bool.and_true, Bool.and_false, Bool.true_and, Bool.false_and, Bool.or_false, Bool.false_or, Bool.and_eq_true, Bool.or_eq_true, Bool.not_eq_true', Bool.and_eq_false_iff, Bool.or_eq_false_iff, Bool.not_eq_false', decide_eq_true_eq, decide_eq_false_iff_not, beq_iff_eq, beq_eq_false_iff_ne, ne_eq, Sx.idF, Sx.idT] at q2); have q3 := h80; (try simp only [Sx.emp_iff] at q3); (try simp only [Bool.not_false, Bool.not_true, Bool.and_true, Bool.and_false, Bool.true_and, Bool.false_and, Bool.or_false, Bool.false_or, Bool.and_eq_true, Bool.or_eq_true, Bool.not_eq_true', Bool.and_eq_false_iff, Bool.or_eq_false_iff, Bool.not_eq_false', decide_eq_true_eq, decide_eq_false_iff_not, beq_iff_eq, beq_eq_false_iff_ne, ne_eq, Sx.idF, Sx.idT] at q3); have q4 := h84; (try simp only [Sx.emp_iff] at q4); (try simp only [Bool.not_false, Bool.not_true, Bool.and_true, Bool.and_false, Bool.true_and, Bool.false_and, Bool.or_false, Bool.false_or, Bool.and_eq_true, Bool.or_eq_true, Bool.not_eq_true', Bool.and_eq_false_iff, Bool.or_eq_false_iff, Bool.not_eq_false', decide_eq_true_eq, decide_eq_false_iff_not, beq_iff_eq, beq_eq_false_iff_ne, ne_eq, Sx.idF, Sx.idT] at q4); have q5 := h87; (try simp only [Sx.emp_iff] at q5); (try simp only [Bool.not_false, Bool.not_true, Bool.and_true, Bool.and_false, Bool.true_and, Bool.false_and, Bool.or_false, Bool.false_or, Bool.and_eq_true, Bool.or_eq_true, Bool.not_eq_true', Bool.and_eq_false_iff, Bool.or_eq_false_iff, Bool.not_eq_false', decide_eq_true_eq, decide_eq_false_iff_not, beq_iff_eq, beq_eq_false_iff_ne, ne_eq, Sx.idF, Sx.idT] at q5); have q6 := h89; (try simp only [Sx.emp_iff] at q6); (try simp only [Bool.not_false, Bool.not_true, Bool.and_true, Bool.and_false, Bool.true_and, Bool.false_and, Bool.or_false, Bool.false_or, Bool.and_eq_true, Bool.or_eq_true, Bool.not_eq_true', Bool.and_eq_false_iff, Bool.or_eq_false_iff, Bool.not_eq_false', decide_eq_true_eq, decide_eq_false_iff_not, beq_iff_eq, beq_eq_false_iff_ne, ne_eq, Sx.idF, Sx.idT] at q6); first | (exfalso; omega) | (have kn := Sx.kid_c (n := x.kids.length) (op := x.op) (by omega); unfold Sx.nodE Sx.callE; ((try simp only [Sx.idF]); (repeat (first | rw [if_pos (by omega)] | rw [if_neg (by omega)]))); done))
              ·
                refine WC.seq (fun K91 k91 => ?_)
                refine WC.region rfl ?_
                refine WL.yld rfl (blt rfl) rfl (Y.move rfl rfl) ?_
                refine WL.yld rfl (blt rfl) rfl (Y.assign rfl rfl) ?_
                refine WL.nil ?_
                refine WK.then_normal (k91 _ _ ?_)
                refine WC.sub [(1, _), (3, _), (4, _), (60, _)] ⟨rfl, rfl, rfl, rfl, trivial⟩ ?_
                refine WC.condF rfl ?_
                refine WC.seq (fun K92 k92 => ?_)
                refine WC.region rfl ?_
                refine WL.yld rfl (blt rfl) rfl (Y.move rfl rfl) ?_
                refine WL.yld rfl (blt rfl) rfl (Y.move rfl rfl) ?_
                refine WL.yldW rfl (blt rfl) rfl rfl rfl (Y.fieldAddr rfl Try.underlying28 rfl ti9 (by decide) rfl) ?_
                refine WL.yldW rfl (blt rfl) rfl rfl rfl (Y.load1 rfl Try.underlying9 rfl rfl (Blk.at_eq m6 rfl)) ?_
                refine WL.callW rfl (blt rfl) rfl rfl rfl rfl rfl has40 rfl (ident_any _ _ ) ?_
                rintro _ w93 ⟨rfl, x94⟩
                refine ⟨_, rfl, ?_⟩
                have m6 := m6.ext x94
                have xW := Ext.trans xW x94
                refine WL.yldW rfl (blt rfl) rfl rfl rfl (Y.not rfl rfl) ?_
                refine WL.yld rfl (blt rfl) rfl (Y.pickT rfl rfl rfl) ?_
                refine WL.yld rfl (blt rfl) rfl (Y.assign rfl rfl) ?_
                refine WL.nil ?_
                refine WK.then_normal (k92 _ _ ?_)
                refine WC.sub [(1, _), (3, _), (65, _)] ⟨rfl, rfl, rfl, trivial⟩ ?_
                refine WC.cond rfl (fun h95 => ?_) (fun h95 => ?_)
                ·
                  refine WC.seq (fun K96 k96 => ?_)
                  refine WC.region rfl ?_
                  refine WL.yld rfl (blt rfl) rfl (Y.assign rfl rfl) ?_
                  refine WL.nil ?_
                  refine WK.then_normal (k96 _ _ ?_)
                  refine WC.sub [(2, _)] ⟨rfl, trivial⟩ ?_
                  refine WC.ret ?_
                  refine WK.in_ret ?_
                  refine WK.then_ret ?_
                  clear k1 k7 k8 k9 k25 k54 k79 k81 k82 k83 k86 k91 k92 k96
                  refine WK.ret [_] rfl ⟨rfl, trivial⟩ ?_
                  refine ⟨ret1 (vi ?_), xW⟩
                  first | (exfalso; revert h10; simp; done) | (exfalso; revert h26; simp; done) | (exfalso; revert h55; simp; done) | (exfalso; revert h80; simp; done) | (exfalso; revert h84; simp; done) | (exfalso; revert h87; simp; done) | (exfalso; revert h89; simp; done) | (exfalso; revert h95; simp; done) | (have q0 := h10; (try simp only [Sx.emp_iff] at q0); (try simp only [Bool.not_false, Bool.not_true, Bool.and_true, Bool.and_false, Bool.true_and, Bool.false_and, Bool.or_false, Bool.false_or, Bool.and_eq_true, Bool.or_eq_true, Bool.not_eq_true', Bool.and_eq_false_iff, Bool.or_eq_false_iff, Bool.not_eq_false', decide_eq_true_eq, decide_eq_false_iff_not, beq_iff_eq, beq_eq_false_iff_ne, ne_eq, Sx.idF, Sx.idT] at q0); have q1 := h26; (try simp only [Sx.emp_iff] at q1); (try simp only [Bool.not_false, Bool.not_true, Bool.and_true, Bool.and_false, Bool.true_and, Bool.false_and, Bool.or_false, Bool.false_or, Bool.and_eq_true, Bool.or_eq_true, Bool.not_eq_true', Bool.and_eq_false_iff, Bool.or_eq_false_iff, Bool.not_eq_false', decide_eq_true_eq, decide_eq_false_iff_not, beq_iff_eq, beq_eq_false_iff_ne, ne_eq, Sx.idF, Sx.idT] at q1); have q2 := h55; (try simp only [Sx.emp_iff] at q2); (try simp only [Bool.not_false, Bool.not_true, Bool.and_true, Bool.and_false, Bool.true_and, Bool.false_and, Bool.or_false, Bool.false_or, Bool.and_eq_true, Bool.or_eq_true, Bool.not_eq_true', Bool.and_eq_false_iff, Bool.or_eq_false_iff, Bool.not_eq_false', decide_eq_true_eq, decide_eq_false_iff_not, beq_iff_eq, beq_eq_false_iff_ne, ne_eq, Sx.idF, Sx.idT] at q2); have q3 := h80; (try simp only [Sx.emp_iff] at q3); (try simp only [Bool.not_false, Bool.not_true, Bool.and_true, Bool.and_false, Bool.true_and, Bool.false_and, Bool.or_false, Bool.false_or, Bool.and_eq_true, Bool.or_eq_true, Bool.not_eq_true', Bool.and_eq_false_iff, Bool.or_eq_false_iff, Bool.not_eq_false', decide_eq_true_eq, decide_eq_false_iff_not, beq_iff_eq, beq_eq_false_iff_ne, ne_eq, Sx.idF, Sx.idT] at q3); have q4 := h84; (try simp only [Sx.emp_iff] at q4); (try simp only [Bool.not_false, Bool.not_true, Bool.and_true, Bool.and_false, Bool.true_and, Bool.false_and, Bool.or_false, Bool.false_or, Bool.and_eq_true, Bool.or_eq_true, Bool.not_eq_true', Bool.and_eq_false_iff, Bool.or_eq_false_iff, Bool.not_eq_false', decide_eq_true_eq, decide_eq_false_iff_not, beq_iff_eq, beq_eq_false_iff_ne, ne_eq, Sx.idF, Sx.idT] at q4); have q5 := h87; (try simp only [Sx.emp_iff] at q5); (try simp only [Bool.not_false, Bool.not_true, Bool.and_true, Bool.and_false, Bool.true_and, Bool.false_and, Bool.or_false, Bool.false_or, Bool.and_eq_true, Bool.or_eq_true, Bool.not_eq_true', Bool.and_eq_false_iff, Bool.or_eq_false_iff, Bool.not_eq_false', decide_eq_true_eq, decide_eq_false_iff_not, beq_iff_eq, beq_eq_false_iff_ne, ne_eq, Sx.idF, Sx.idT] at q5); have q6 := h89; (try simp only [Sx.emp_iff] at q6); (try simp only [Bool.not_false, Bool.not_true, Bool.and_true, Bool.and_false, Bool.true_and, Bool.false_and, Bool.or_false, Bool.false_or, Bool.and_eq_true, Bool.or_eq_true, Bool.not_eq_true', Bool.and_eq_false_iff, Bool.or_eq_false_iff, Bool.not_eq_false', decide_eq_true_eq, decide_eq_false_iff_not, beq_iff_eq, beq_eq_false_iff_ne, ne_eq, Sx.idF, Sx.idT] at q6); have q7 := h95; (try simp only [Sx.emp_iff] at q7); (try simp only [Bool.not_false, Bool.not_true, Bool.and_true, Bool.and_false, Bool.true_and, Bool.false_and, Bool.or_false, Bool.false_or, Bool.and_eq_true, Bool.or_eq_true, Bool.not_eq_true', Bool.and_eq_false_iff, Bool.or_eq_false_iff, Bool.not_eq_false', decide_eq_true_eq, decide_eq_false_iff_not, beq_iff_eq, beq_eq_false_iff_ne, ne_eq, Sx.idF, Sx.idT] at q7); first | (exfalso; omega) | (have kn := Sx.kid_c (n := x.kids.length) (op := x.op) (by omega); unfold Sx.nodE Sx.callE; ((try simp only [Sx.idF]); (repeat (first | rw [if_pos (by omega)] | rw [if_neg (by omega)]))); done))
                ·
                  refine WC.seq (fun K97 k97 => ?_)
                  refine WC.region rfl ?_
                  refine WL.yld rfl (blt rfl) rfl (Y.fieldAddr rfl Try.underlying28 rfl ti22 (by decide) rfl) ?_
                  refine WL.yld rfl (blt rfl) rfl (Y.load1 rfl Try.underlying22 rfl rfl (Blk.at_eq m6 rfl)) ?_
                  refine WL.yld rfl (blt rfl) rfl (Y.eql rfl rfl rfl) ?_
                  refine WL.yld rfl (blt rfl) rfl (Y.move rfl rfl) ?_
                  refine WL.yldG rfl (blt rfl) rfl rfl rfl (fun hb => Y.fieldAddr rfl Try.underlying28 rfl ti9 (by decide) rfl) ?_
                  refine WL.yldG rfl (blt rfl) rfl rfl rfl (fun hb => Y.load1 rfl Try.underlying9 rfl (evg rfl hb) (Blk.at_eq m6 rfl)) ?_
                  refine WL.callG rfl (blt rfl) rfl rfl rfl rfl rfl has71 (fun hb => (evs_cons (evg rfl hb) evs_nil)) (fun hb => arity_any _ _ ) (fun w98 x99 => ?_)
                  have m6 := m6.ext x99
                  have xW := Ext.trans xW x99
                  refine WL.yldG rfl (blt rfl) rfl rfl rfl (fun hb => Y.eql rfl (evg rfl hb) rfl) ?_
                  refine WL.yld rfl (blt rfl) rfl (Y.and rfl rfl rfl rfl) ?_
                  refine WL.yld rfl (blt rfl) rfl (Y.assign rfl rfl) ?_
                  refine WL.nil ?_
                  refine WK.then_normal (k97 _ _ ?_)
                  refine WC.sub [(1, _), (3, _), (73, _)] ⟨rfl, rfl, rfl, trivial⟩ ?_
                  refine WC.cond rfl (fun h100 => ?_) (fun h100 => ?_)
                  ·
                    have p100 := (And.intro (eq_t (and_t h100).1) (eq_t (and_t h100).2))
                    refine WC.seq (fun K101 k101 => ?_)
                    refine WC.region rfl ?_
                    refine WL.yld rfl (blt rfl) rfl (Y.assign rfl rfl) ?_
                    refine WL.nil ?_
                    refine WK.then_normal (k101 _ _ ?_)
                    refine WC.sub [(2, _)] ⟨rfl, trivial⟩ ?_
                    refine WC.ret ?_
                    refine WK.in_ret ?_
                    refine WK.then_ret ?_
                    clear k1 k7 k8 k9 k25 k54 k79 k81 k82 k83 k86 k91 k92 k97 k101
                    refine WK.ret [_] rfl ⟨rfl, trivial⟩ ?_
                    refine ⟨ret1 (vi ?_), xW⟩
                    first | (exfalso; revert h10; simp; done) | (exfalso; revert h26; simp; done) | (exfalso; revert h55; simp; done) | (exfalso; revert h80; simp; done) | (exfalso; revert h84; simp; done) | (exfalso; revert h87; simp; done) | (exfalso; revert h89; simp; done) | (exfalso; revert h95; simp; done) | (exfalso; revert h100; simp; done) | (have q0 := h10; (try simp only [Sx.emp_iff] at q0); (try simp only [Bool.not_false, Bool.not_true, Bool.and_true, Bool.and_false, Bool.true_and, Bool.false_and, Bool.or_false, Bool.false_or, Bool.and_eq_true, Bool.or_eq_true, Bool.not_eq_true', Bool.and_eq_false_iff, Bool.or_eq_false_iff, Bool.not_eq_false', decide_eq_true_eq, decide_eq_false_iff_not, beq_iff_eq, beq_eq_false_iff_ne, ne_eq, Sx.idF, Sx.idT] at q0); have q1 := h26; (try simp only [Sx.emp_iff] at q1); (try simp only [Bool.not_false, Bool.not_true, Bool.and_true, Bool.and_false, Bool.true_and, Bool.false_and, Bool.or_false, Bool.false_or, Bool.and_eq_true, Bool.or_eq_true, Bool.not_eq_true', Bool.and_eq_false_iff, Bool.or_eq_false_iff, Bool.not_eq_false', decide_eq_true_eq, decide_eq_false_iff_not, beq_iff_eq, beq_eq_false_iff_ne, ne_eq, Sx.idF, Sx.idT] at q1); have q2 := h55; (try simp only [Sx.emp_iff] at q2); (try simp only [Bool.not_false, Bool.not_true, Bool.and_true, Bool.and_false, Bool.true_and, Bool.false_and, Bool.or_false, Bool.false_or, Bool.and_eq_true, Bool.or_eq_true, Bool.not_eq_true', Bool.and_eq_false_iff, Bool.or_eq_false_iff, Bool.not_eq_false', decide_eq_true_eq, decide_eq_false_iff_not, beq_iff_eq, beq_eq_false_iff_ne, ne_eq, Sx.idF, Sx.idT] at q2); have q3 := h80; (try simp only [Sx.emp_iff] at q3); (try simp only [Bool.not_false, Bool.not_true, Bool.and_true, Bool.and_false, Bool.true_and, Bool.false_and, Bool.or_false, Bool.false_or, Bool.and_eq_true, Bool.or_eq_true, Bool.not_eq_true', Bool.and_eq_false_iff, Bool.or_eq_false_iff, Bool.not_eq_false', decide_eq_true_eq, decide_eq_false_iff_not, beq_iff_eq, beq_eq_false_iff_ne, ne_eq, Sx.idF, Sx.idT] at q3); have q4 := h84; (try simp only [Sx.emp_iff] at q4); (try simp only [Bool.not_false, Bool.not_true, Bool.and_true, Bool.and_false, Bool.true_and, Bool.false_and, Bool.or_false, Bool.false_or, Bool.and_eq_true, Bool.or_eq_true, Bool.not_eq_true', Bool.and_eq_false_iff, Bool.or_eq_false_iff, Bool.not_eq_false', decide_eq_true_eq, decide_eq_false_iff_not, beq_iff_eq, beq_eq_false_iff_ne, ne_eq, Sx.idF, Sx.idT] at q4); have q5 := h87; (try simp only [Sx.emp_iff] at q5); (try simp only [Bool.not_false, Bool.not_true, Bool.and_true, Bool.and_false, Bool.true_and, Bool.false_and, Bool.or_false, Bool.false_or, Bool.and_eq_true, Bool.or_eq_true, Bool.not_eq_true', Bool.and_eq_false_iff, Bool.or_eq_false_iff, Bool.not_eq_false', decide_eq_true_eq, decide_eq_false_iff_not, beq_iff_eq, beq_eq_false_iff_ne, ne_eq, Sx.idF, Sx.idT] at q5); have q6 := h89; (try simp only [Sx.emp_iff] at q6); (try simp only [Bool.not_false, Bool.not_true, Bool.and_true, Bool.and_false, Bool.true_and, Bool.false_and, Bool.or_false, Bool.false_or, Bool.and_eq_true, Bool.or_eq_true, Bool.not_eq_true', Bool.and_eq_false_iff, Bool.or_eq_false_iff, Bool.not_eq_false', decide_eq_true_eq, decide_eq_false_iff_not, beq_iff_eq, beq_eq_false_iff_ne, ne_eq, Sx.idF, Sx.idT] at q6); have q7 := h95; (try simp only [Sx.emp_iff] at q7); (try simp only [Bool.not_false, Bool.not_true, Bool.and_true, Bool.and_false, Bool.true_and, Bool.false_and, Bool.or_false, Bool.false_or, Bool.and_eq_true, Bool.or_eq_true, Bool.not_eq_true', Bool.and_eq_false_iff, Bool.or_eq_false_iff, Bool.not_eq_false', decide_eq_true_eq, decide_eq_false_iff_not, beq_iff_eq, beq_eq_false_iff_ne, ne_eq, Sx.idF, Sx.idT] at q7); have q8 := h100; (try simp only [Sx.emp_iff] at q8); (try simp only [Bool.not_false, Bool.not_true, Bool.and_true, Bool.and_false, Bool.true_and, Bool.false_and, Bool.or_false, Bool.false_or, Bool.and_eq_true, Bool.or_eq_true, Bool.not_eq_true', Bool.and_eq_false_iff, Bool.or_eq_false_iff, Bool.not_eq_false', decide_eq_true_eq, decide_eq_false_iff_not, beq_iff_eq, beq_eq_false_iff_ne, ne_eq, Sx.idF, Sx.idT] at q8); first | (exfalso; omega) | (have kn := Sx.kid_c (n := x.kids.length) (op := x.op) (by omega); unfold Sx.nodE Sx.callE; ((try simp only [Sx.idF]); (repeat (first | rw [if_pos (by omega)] | rw [if_neg (by omega)]))); done))
                  ·
                    have p100 := ((and_f h100).imp (fun h => (eq_f h)) (fun h => (eq_f h)))
                    refine WC.seq (fun K102 k102 => ?_)
                    refine WC.region rfl ?_
                    refine WL.yld rfl (blt rfl) rfl (Y.fieldAddr rfl Try.underlying28 rfl ti22 (by decide) rfl) ?_
                    refine WL.yld rfl (blt rfl) rfl (Y.load1 rfl Try.underlying22 rfl rfl (Blk.at_eq m6 rfl)) ?_
                    refine WL.yld rfl (blt rfl) rfl (Y.eql rfl rfl rfl) ?_
                    refine WL.yld rfl (blt rfl) rfl (Y.move rfl rfl) ?_
                    refine WL.yldG rfl (blt rfl) rfl rfl rfl (fun hb => Y.fieldAddr rfl Try.underlying28 rfl ti9 (by decide) rfl) ?_
                    refine WL.yldG rfl (blt rfl) rfl rfl rfl (fun hb => Y.load1 rfl Try.underlying9 rfl (evg rfl hb) (Blk.at_eq m6 rfl)) ?_
                    refine WL.callG rfl (blt rfl) rfl rfl rfl rfl rfl has71 (fun hb => (evs_cons (evg rfl hb) evs_nil)) (fun hb => arity_any _ _ ) (fun w103 x104 => ?_)
                    have m6 := m6.ext x104
                    have xW := Ext.trans xW x104
                    refine WL.yldG rfl (blt rfl) rfl rfl rfl (fun hb => Y.move rfl rfl) ?_
                    refine WL.yldG rfl (blt rfl) rfl rfl rfl (fun hb => Y.neq rfl (evg rfl hb) (evg rfl hb)) ?_
                    refine WL.yld rfl (blt rfl) rfl (Y.and rfl rfl rfl rfl) ?_
                    refine WL.yld rfl (blt rfl) rfl (Y.assign rfl rfl) ?_
                    refine WL.nil ?_
                    refine WK.then_normal (k102 _ _ ?_)
                    refine WC.sub [(83, _)] ⟨rfl, trivial⟩ ?_
                    refine WC.cond rfl (fun h105 => ?_) (fun h105 => ?_)
                    ·
                      have p105 := (And.intro (eq_t (and_t h105).1) (eq_f (not_t (and_t h105).2)))
                      refine WC.seq (fun K106 k106 => ?_)
                      refine WC.region rfl ?_
                      refine WL.yld rfl (blt rfl) rfl (Y.assign rfl rfl) ?_
                      refine WL.nil ?_
                      refine WK.then_normal (k106 _ _ ?_)
                      refine WC.sub [(2, _)] ⟨rfl, trivial⟩ ?_
                      refine WC.ret ?_
                      refine WK.in_ret ?_
                      refine WK.then_ret ?_
                      clear k1 k7 k8 k9 k25 k54 k79 k81 k82 k83 k86 k91 k92 k97 k102 k106
                      refine WK.ret [_] rfl ⟨rfl, trivial⟩ ?_
                      refine ⟨ret1 (vi ?_), xW⟩
                      first | (exfalso; revert h10; simp; done) | (exfalso; revert h26; simp; done) | (exfalso; revert h55; simp; done) | (exfalso; revert h80; simp; done) | (exfalso; revert h84; simp; done) | (exfalso; revert h87; simp; done) | (exfalso; revert h89; simp; done) | (exfalso; revert h95; simp; done) | (exfalso; revert h100; simp; done) | (exfalso; revert h105; simp; done) | (have q0 := h10; (try simp only [Sx.emp_iff] at q0); (try simp only [Bool.not_false, Bool.not_true, Bool.and_true, Bool.and_false, Bool.true_and, Bool.false_and, Bool.or_false, Bool.false_or, Bool.and_eq_true, Bool.or_eq_true, Bool.not_eq_true', Bool.and_eq_false_iff, Bool.or_eq_false_iff, Bool.not_eq_false', decide_eq_true_eq, decide_eq_false_iff_not, beq_iff_eq, beq_eq_false_iff_ne, ne_eq, Sx.idF, Sx.idT] at q0); have q1 := h26; (try simp only [Sx.emp_iff] at q1); (try simp only [Bool.not_false, Bool.not_true, Bool.and_true, Bool.and_false, Bool.true_and, Bool.false_and, Bool.or_false, Bool.false_or, Bool.and_eq_true, Bool.or_eq_true, Bool.not_eq_true', Bool.and_eq_false_iff, Bool.or_eq_false_iff, Bool.not_eq_false', decide_eq_true_eq, decide_eq_false_iff_not, beq_iff_eq, beq_eq_false_iff_ne, ne_eq, Sx.idF, Sx.idT] at q1); have q2 := h55; (try simp only [Sx.emp_iff] at q2); (try simp only [Bool.not_false, Bool.not_true, Bool.and_true, Bool.and_false, Bool.true_and, Bool.false_and, Bool.or_false, Bool.false_or, Bool.and_eq_true, Bool.or_eq_true, Bool.not_eq_true', Bool.and_eq_false_iff, Bool.or_eq_false_iff, Bool.not_eq_false', decide_eq_true_eq, decide_eq_false_iff_not, beq_iff_eq, beq_eq_false_iff_ne, ne_eq, Sx.idF, Sx.idT] at q2); have q3 := h80; (try simp only [Sx.emp_iff] at q3); (try simp only [Bool.not_false, Bool.not_true, Bool.and_true, Bool.and_false, Bool.true_and, Bool.false_and, Bool.or_false, Bool.false_or, Bool.and_eq_true, Bool.or_eq_true, Bool.not_eq_true', Bool.and_eq_false_iff, Bool.or_eq_false_iff, Bool.not_eq_false', decide_eq_true_eq, decide_eq_false_iff_not, beq_iff_eq, beq_eq_false_iff_ne, ne_eq, Sx.idF, Sx.idT] at q3); have q4 := h84; (try simp only [Sx.emp_iff] at q4); (try simp only [Bool.not_false, Bool.not_true, Bool.and_true, Bool.and_false, Bool.true_and, Bool.false_and, Bool.or_false, Bool.false_or, Bool.and_eq_true, Bool.or_eq_true, Bool.not_eq_true', Bool.and_eq_false_iff, Bool.or_eq_false_iff, Bool.not_eq_false', decide_eq_true_eq, decide_eq_false_iff_not, beq_iff_eq, beq_eq_false_iff_ne, ne_eq, Sx.idF, Sx.idT] at q4); have q5 := h87; (try simp only [Sx.emp_iff] at q5); (try simp only [Bool.not_false, Bool.not_true, Bool.and_true, Bool.and_false, Bool.true_and, Bool.false_and, Bool.or_false, Bool.false_or, Bool.and_eq_true, Bool.or_eq_true, Bool.not_eq_true', Bool.and_eq_false_iff, Bool.or_eq_false_iff, Bool.not_eq_false', decide_eq_true_eq, decide_eq_false_iff_not, beq_iff_eq, beq_eq_false_iff_ne, ne_eq, Sx.idF, Sx.idT] at q5); have q6 := h89; (try simp only [Sx.emp_iff] at q6); (try simp only [Bool.not_false, Bool.not_true, Bool.and_true, Bool.and_false, Bool.true_and, Bool.false_and, Bool.or_false, Bool.false_or, Bool.and_eq_true, Bool.or_eq_true, Bool.not_eq_true', Bool.and_eq_false_iff, Bool.or_eq_false_iff, Bool.not_eq_false', decide_eq_true_eq, decide_eq_false_iff_not, beq_iff_eq, beq_eq_false_iff_ne, ne_eq, Sx.idF, Sx.idT] at q6); have q7 := h95; (try simp only [Sx.emp_iff] at q7); (try simp only [Bool.not_false, Bool.not_true, Bool.and_true, Bool.and_false, Bool.true_and, Bool.false_and, Bool.or_false, Bool.false_or, Bool.and_eq_true, Bool.or_eq_true, Bool.not_eq_true', Bool.and_eq_false_iff, Bool.or_eq_false_iff, Bool.not_eq_false', decide_eq_true_eq, decide_eq_false_iff_not, beq_iff_eq, beq_eq_false_iff_ne, ne_eq, Sx.idF, Sx.idT] at q7); have q8 := h100; (try simp only [Sx.emp_iff] at q8); (try simp only [Bool.not_false, Bool.not_true, Bool.and_true, Bool.and_false, Bool.true_and, Bool.false_and, Bool.or_false, Bool.false_or, Bool.and_eq_true, Bool.or_eq_true, Bool.not_eq_true', Bool.and_eq_false_iff, Bool.or_eq_false_iff, Bool.not_eq_false', decide_eq_true_eq, decide_eq_false_iff_not, beq_iff_eq, beq_eq_false_iff_ne, ne_eq, Sx.idF, Sx.idT] at q8); have q9 := h105; (try simp only [Sx.emp_iff] at q9); (try simp only [Bool.not_false, Bool.not_true, Bool.and_true, Bool.and_false, Bool.true_and, Bool.false_and, Bool.or_false, Bool.false_or, Bool.and_eq_true, Bool.or_eq_true, Bool.not_eq_true', Bool.and_eq_false_iff, Bool.or_eq_false_iff, Bool.not_eq_false', decide_eq_true_eq, decide_eq_false_iff_not, beq_iff_eq, beq_eq_false_iff_ne, ne_eq, Sx.idF, Sx.idT] at q9); first | (exfalso; omega) | (have kn := Sx.kid_c (n := x.kids.length) (op := x.op) (by omega); unfold Sx.nodE Sx.callE; ((try simp only [Sx.idF]); (repeat (first | rw [if_pos (by omega)] | rw [if_neg (by omega)]))); done))
                    ·
                      have p105 := ((and_f h105).imp (fun h => (eq_f h)) (fun h => (eq_t (not_f h))))
                      refine WC.skip ?_
                      refine WK.in_normal ?_
                      refine WK.then_normal (k81 _ _ ?_)
                      refine WC.sub [] trivial ?_
                      refine WC.seq (fun K107 k107 => ?_)
                      refine WC.region rfl ?_
                      refine WL.yld rfl (blt rfl) rfl (Y.assign rfl rfl) ?_
                      refine WL.nil ?_
                      refine WK.then_normal (k107 _ _ ?_)
                      refine WC.ret ?_
                      clear k1 k7 k8 k9 k25 k54 k79 k81 k82 k83 k86 k91 k92 k97 k102 k107
                      refine WK.ret [_] rfl ⟨rfl, trivial⟩ ?_
                      refine ⟨ret1 (vi ?_), xW⟩
                      first | (exfalso; revert h10; simp; done) | (exfalso; revert h26; simp; done) | (exfalso; revert h55; simp; done) | (exfalso; revert h80; simp; done) | (exfalso; revert h84; simp; done) | (exfalso; revert h87; simp; done) | (exfalso; revert h89; simp; done) | (exfalso; revert h95; simp; done) | (exfalso; revert h100; simp; done) | (exfalso; revert h105; simp; done) | (have q0 := h10; (try simp only [Sx.emp_iff] at q0); (try simp only [Bool.not_false, Bool.not_true, Bool.and_true, Bool.and_false, Bool.true_and, Bool.false_and, Bool.or_false, Bool.false_or, Bool.and_eq_true, Bool.or_eq_true, Bool.not_eq_true', Bool.and_eq_false_iff, Bool.or_eq_false_iff, Bool.not_eq_false', decide_eq_true_eq, decide_eq_false_iff_not, beq_iff_eq, beq_eq_false_iff_ne, ne_eq, Sx.idF, Sx.idT] at q0); have q1 := h26; (try simp only [Sx.emp_iff] at q1); (try simp only [Bool.not_false, Bool.not_true, Bool.and_true, Bool.and_false, Bool.true_and, Bool.false_and, Bool.or_false, Bool.false_or, Bool.and_eq_true, Bool.or_eq_true, Bool.not_eq_true', Bool.and_eq_false_iff, Bool.or_eq_false_iff, Bool.not_eq_false', decide_eq_true_eq, decide_eq_false_iff_not, beq_iff_eq, beq_eq_false_iff_ne, ne_eq, Sx.idF, Sx.idT] at q1); have q2 := h55; (try simp only [Sx.emp_iff] at q2); (try simp only [Bool.not_false, Bool.not_true, Bool.and_true, Bool.and_false, Bool.true_and, Bool.false_and, Bool.or_false, Bool.false_or, Bool.and_eq_true, Bool.or_eq_true, Bool.not_eq_true', Bool.and_eq_false_iff, Bool.or_eq_false_iff, Bool.not_eq_false', decide_eq_true_eq, decide_eq_false_iff_not, beq_iff_eq, beq_eq_false_iff_ne, ne_eq, Sx.idF, Sx.idT] at q2); have q3 := h80; (try simp only [Sx.emp_iff] at q3); (try simp only [Bool.not_false, Bool.not_true, Bool.and_true, Bool.and_false, Bool.true_and, Bool.false_and, Bool.or_false, Bool.false_or, Bool.and_eq_true, Bool.or_eq_true, Bool.not_eq_true', Bool.and_eq_false_iff, Bool.or_eq_false_iff, Bool.not_eq_false', decide_eq_true_eq, decide_eq_false_iff_not, beq_iff_eq, beq_eq_false_iff_ne, ne_eq, Sx.idF, Sx.idT] at q3); have q4 := h84; (try simp only [Sx.emp_iff] at q4); (try simp only [Bool.not_false, Bool.not_true, Bool.and_true, Bool.and_false, Bool.true_and, Bool.false_and, Bool.or_false, Bool.false_or, Bool.and_eq_true, Bool.or_eq_true, Bool.not_eq_true', Bool.and_eq_false_iff, Bool.or_eq_false_iff, Bool.not_eq_false', decide_eq_true_eq, decide_eq_false_iff_not, beq_iff_eq, beq_eq_false_iff_ne, ne_eq, Sx.idF, Sx.idT] at q4); have q5 := h87; (try simp only [Sx.emp_iff] at q5); (try simp only [Bool.not_false, Bool.not_true, Bool.and_true, Bool.and_false, Bool.true_and, Bool.false_and, Bool.or_false, Bool.false_or, Bool.and_eq_true, Bool.or_eq_true, Bool.not_eq_true', Bool.and_eq_false_iff, Bool.or_eq_false_iff, Bool.not_eq_false', decide_eq_true_eq, decide_eq_false_iff_not, beq_iff_eq, beq_eq_false_iff_ne, ne_eq, Sx.idF, Sx.idT] at q5); have q6 := h89; (try simp only [Sx.emp_iff] at q6); (try simp only [Bool.not_false, Bool.not_true, Bool.and_true, Bool.and_false, Bool.true_and, Bool.false_and, Bool.or_false, Bool.false_or, Bool.and_eq_true, Bool.or_eq_true, Bool.not_eq_true', Bool.and_eq_false_iff, Bool.or_eq_false_iff, Bool.not_eq_false', decide_eq_true_eq, decide_eq_false_iff_not, beq_iff_eq, beq_eq_false_iff_ne, ne_eq, Sx.idF, Sx.idT] at q6); have q7 := h95; (try simp only [Sx.emp_iff] at q7); (try simp only [Bool.not_false, Bool.not_true, Bool.and_true, Bool.and_false, Bool.true_and, Bool.false_and, Bool.or_false, Bool.false_or, Bool.and_eq_true, Bool.or_eq_true, Bool.not_eq_true', Bool.and_eq_false_iff, Bool.or_eq_false_iff, Bool.not_eq_false', decide_eq_true_eq, decide_eq_false_iff_not, beq_iff_eq, beq_eq_false_iff_ne, ne_eq, Sx.idF, Sx.idT] at q7); have q8 := h100; (try simp only [Sx.emp_iff] at q8); (try simp only [Bool.not_false, Bool.not_true, Bool.and_true, Bool.and_false, Bool.true_and, Bool.false_and, Bool.or_false, Bool.false_or, Bool.and_eq_true, Bool.or_eq_true, Bool.not_eq_true', Bool.and_eq_false_iff, Bool.or_eq_false_iff, Bool.not_eq_false', decide_eq_true_eq, decide_eq_false_iff_not, beq_iff_eq, beq_eq_false_iff_ne, ne_eq, Sx.idF, Sx.idT] at q8); have q9 := h105; (try simp only [Sx.emp_iff] at q9); (try simp only [Bool.not_false, Bool.not_true, Bool.and_true, Bool.and_false, Bool.true_and, Bool.false_and, Bool.or_false, Bool.false_or, Bool.and_eq_true, Bool.or_eq_true, Bool.not_eq_true', Bool.and_eq_false_iff, Bool.or_eq_false_iff, Bool.not_eq_false', decide_eq_true_eq, decide_eq_false_iff_not, beq_iff_eq, beq_eq_false_iff_ne, ne_eq, Sx.idF, Sx.idT] at q9); first | (exfalso; omega) | (have kn := Sx.kid_c (n := x.kids.length) (op := x.op) (by omega); unfold Sx.nodE Sx.callE; ((try simp only [Sx.idF]); (repeat (first | rw [if_pos (by omega)] | rw [if_neg (by omega)]))); done))
        ·
          have p80 := (eq_f h80)
          refine WC.seq (fun K108 k108 => ?_)
          refine WC.region rfl ?_
          refine WL.yld rfl (blt rfl) rfl (Y.fieldAddr rfl Try.underlying28 rfl ti22 (by decide) rfl) ?_
          refine WL.yld rfl (blt rfl) rfl (Y.load1 rfl Try.underlying22 rfl rfl (Blk.at_eq m6 rfl)) ?_
          refine WL.yld rfl (blt rfl) rfl (Y.lss rfl rfl rfl) ?_
          refine WL.yld rfl (blt rfl) rfl (Y.move rfl rfl) ?_
          refine WL.yldG rfl (blt rfl) rfl rfl rfl (fun hb => Y.fieldAddr rfl Try.underlying28 rfl ti22 (by decide) rfl) ?_
          refine WL.yldG rfl (blt rfl) rfl rfl rfl (fun hb => Y.load1 rfl Try.underlying22 rfl (evg rfl hb) (Blk.at_eq m6 rfl)) ?_
          refine WL.yldG rfl (blt rfl) rfl rfl rfl (fun hb => Y.gtr rfl (evg rfl hb) rfl) ?_
          refine WL.yld rfl (blt rfl) rfl (Y.or rfl rfl rfl rfl) ?_
          refine WL.yld rfl (blt rfl) rfl (Y.assign rfl rfl) ?_
          refine WL.nil ?_
          refine WK.then_normal (k108 _ _ ?_)
          refine WC.sub [(1, _), (3, _), (4, _), (5, _), (30, _)] ⟨rfl, rfl, rfl, rfl, rfl, trivial⟩ ?_
          refine WC.cond rfl (fun h109 => ?_) (fun h109 => ?_)
          ·
            have p109 := ((or_t h109).imp (fun h => (dec_t h)) (fun h => (dec_t h)))
            refine WC.seq (fun K110 k110 => ?_)
            refine WC.region rfl ?_
            refine WL.yld rfl (blt rfl) rfl (Y.assign rfl rfl) ?_
            refine WL.nil ?_
            refine WK.then_normal (k110 _ _ ?_)
            refine WC.sub [(2, _)] ⟨rfl, trivial⟩ ?_
            refine WC.ret ?_
            refine WK.in_ret ?_
            refine WK.then_ret ?_
            clear k1 k7 k8 k9 k25 k54 k79 k108 k110
            refine WK.ret [_] rfl ⟨rfl, trivial⟩ ?_
            refine ⟨ret1 (vi ?_), xW⟩
            first | (exfalso; revert h10; simp; done) | (exfalso; revert h26; simp; done) | (exfalso; revert h55; simp; done) | (exfalso; revert h80; simp; done) | (exfalso; revert h109; simp; done) | (have q0 := h10; (try simp only [Sx.emp_iff] at q0); (try simp only [Bool.not_false, Bool.not_true, Bool.and_true, Bool.and_false, Bool.true_and, Bool.false_and, Bool.or_false, Bool.false_or, Bool.and_eq_true, Bool.or_eq_true, Bool.not_eq_true', Bool.and_eq_false_iff, Bool.or_eq_false_iff, Bool.not_eq_false', decide_eq_true_eq, decide_eq_false_iff_not, beq_iff_eq, beq_eq_false_iff_ne, ne_eq, Sx.idF, Sx.idT] at q0); have q1 := h26; (try simp only [Sx.emp_iff] at q1); (try simp only [Bool.not_false, Bool.not_true, Bool.and_true, Bool.and_false, Bool.true_and, Bool.false_and, Bool.or_false, Bool.false_or, Bool.and_eq_true, Bool.or_eq_true, Bool.not_eq_true', Bool.and_eq_false_iff, Bool.or_eq_false_iff, Bool.not_eq_false', decide_eq_true_eq, decide_eq_false_iff_not, beq_iff_eq, beq_eq_false_iff_ne, ne_eq, Sx.idF, Sx.idT] at q1); have q2 := h55; (try simp only [Sx.emp_iff] at q2); (try simp only [Bool.not_false, Bool.not_true, Bool.and_true, Bool.and_false, Bool.true_and, Bool.false_and, Bool.or_false, Bool.false_or, Bool.and_eq_true, Bool.or_eq_true, Bool.not_eq_true', Bool.and_eq_false_iff, Bool.or_eq_false_iff, Bool.not_eq_false', decide_eq_true_eq, decide_eq_false_iff_not, beq_iff_eq, beq_eq_false_iff_ne, ne_eq, Sx.idF, Sx.idT] at q2); have q3 := h80; (try simp only [Sx.emp_iff] at q3); (try simp only [Bool.not_false, Bool.not_true, Bool.and_true, Bool.and_false, Bool.true_and, Bool.false_and, Bool.or_false, Bool.false_or, Bool.and_eq_true, Bool.or_eq_true, Bool.not_eq_true', Bool.and_eq_false_iff, Bool.or_eq_false_iff, Bool.not_eq_false', decide_eq_true_eq, decide_eq_false_iff_not, beq_iff_eq, beq_eq_false_iff_ne, ne_eq, Sx.idF, Sx.idT] at q3); have q4 := h109; (try simp only [Sx.emp_iff] at q4); (try simp only [Bool.not_false, Bool.not_true, Bool.and_true, Bool.and_false, Bool.true_and, Bool.false_and, Bool.or_false, Bool.false_or, Bool.and_eq_true, Bool.or_eq_true, Bool.not_eq_true', Bool.and_eq_false_iff, Bool.or_eq_false_iff, Bool.not_eq_false', decide_eq_true_eq, decide_eq_false_iff_not, beq_iff_eq, beq_eq_false_iff_ne, ne_eq, Sx.idF, Sx.idT] at q4); first | (exfalso; omega) | (have kn := Sx.kid_2 (n := x.kids.length) (op := x.op) (by omega) (by omega) (by omega); unfold Sx.nodE Sx.callE; ((try simp only [Sx.idF]); (repeat (first | rw [if_pos (by omega)] | rw [if_neg (by omega)]))); done))
          ·
            have p109 := (And.intro (dec_f (or_f h109).1) (dec_f (or_f h109).2))
            refine WC.skip ?_
            refine WK.in_normal ?_
            refine WK.then_normal (k8 _ _ ?_)
            refine WC.sub [(1, _), (3, _), (4, _), (5, _)] ⟨rfl, rfl, rfl, rfl, trivial⟩ ?_
            refine WC.seq (fun K111 k111 => ?_)
            refine WC.block ?_
            refine WC.seq (fun K112 k112 => ?_)
            refine WC.seq (fun K113 k113 => ?_)
            refine WC.region rfl ?_
            refine WL.yld rfl (blt rfl) rfl (Y.fieldAddr rfl Try.underlying28 rfl ti26 (by decide) rfl) ?_
            refine WL.yld rfl (blt rfl) rfl (Y.load1 rfl Try.underlying26 rfl rfl (Blk.at_eq m6 rfl)) ?_
            refine WL.yld rfl (blt rfl) rfl (Y.lenSl rfl rfl rfl Try.underlying26 rfl) ?_
            refine WL.yld rfl (blt rfl) rfl (Y.move rfl rfl) ?_
            refine WL.yld rfl (blt rfl) rfl (Y.neq rfl rfl rfl) ?_
            refine WL.yld rfl (blt rfl) rfl (Y.assign rfl rfl) ?_
            refine WL.nil ?_
            refine WK.then_normal (k113 _ _ ?_)
            refine WC.sub [(1, _), (3, _), (4, _), (5, _), (39, _)] ⟨rfl, rfl, rfl, rfl, rfl, trivial⟩ ?_
            refine WC.cond rfl (fun h114 => ?_) (fun h114 => ?_)
            ·
              have p114 := (eq_f (not_t h114))
              refine WC.skip ?_
              refine WK.then_normal (k112 _ _ ?_)
              refine WC.sub [(1, _), (3, _), (4, _), (5, _), (39, .bool true)] ⟨rfl, rfl, rfl, rfl, kn h114, trivial⟩ ?_
              refine WC.condT rfl ?_
              refine WC.seq (fun K115 k115 => ?_)
              refine WC.region rfl ?_
              refine WL.yld rfl (blt rfl) rfl (Y.assign rfl rfl) ?_
              refine WL.nil ?_
              refine WK.then_normal (k115 _ _ ?_)
              refine WC.sub [(2, _)] ⟨rfl, trivial⟩ ?_
              refine WC.ret ?_
              refine WK.in_ret ?_
              refine WK.then_ret ?_
              clear k1 k7 k8 k9 k25 k54 k79 k108 k111 k112 k113 k115
              refine WK.ret [_] rfl ⟨rfl, trivial⟩ ?_
              refine ⟨ret1 (vi ?_), xW⟩
              first | (exfalso; revert h10; simp; done) | (exfalso; revert h26; simp; done) | (exfalso; revert h55; simp; done) | (exfalso; revert h80; simp; done) | (exfalso; revert h109; simp; done) | (exfalso; revert h114; simp; done) | (have q0 := h10; (try simp only [Sx.emp_iff] at q0); (try simp only [Bool.not_false, Bool.not_true, Bool.and_true, Bool.and_false, Bool.true_and, Bool.false_and, Bool.or_false, Bool.false_or, Bool.and_eq_true, Bool.or_eq_true, Bool.not_eq_true', Bool.and_eq_false_iff, Bool.or_eq_false_iff, Bool.not_eq_false', decide_eq_true_eq, decide_eq_false_iff_not, beq_iff_eq, beq_eq_false_iff_ne, ne_eq, Sx.idF, Sx.idT] at q0); have q1 := h26; (try simp only [Sx.emp_iff] at q1); (try simp only [Bool.not_false, Bool.not_true, Bool.and_true, Bool.and_false, Bool.true_and, Bool.false_and, Bool.or_false, Bool.false_or, Bool.and_eq_true, Bool.or_eq_true, Bool.not_eq_true', Bool.and_eq_false_iff, Bool.or_eq_false_iff, Bool.not_eq_false', decide_eq_true_eq, decide_eq_false_iff_not, beq_iff_eq, beq_eq_false_iff_ne, ne_eq, Sx.idF, Sx.idT] at q1); have q2 := h55; (try simp only [Sx.emp_iff] at q2); (try simp only [Bool.not_false, Bool.not_true, Bool.and_true, Bool.and_false, Bool.true_and, Bool.false_and, Bool.or_false, Bool.false_or, Bool.and_eq_true, Bool.or_eq_true, Bool.not_eq_true', Bool.and_eq_false_iff, Bool.or_eq_false_iff, Bool.not_eq_false', decide_eq_true_eq, decide_eq_false_iff_not, beq_iff_eq, beq_eq_false_iff_ne, ne_eq, Sx.idF, Sx.idT] at q2); have q3 := h80; (try simp only [Sx.emp_iff] at q3); (try simp only [Bool.not_false, Bool.not_true, Bool.and_true, Bool.and_false, Bool.true_and, Bool.false_and, Bool.or_false, Bool.false_or, Bool.and_eq_true, Bool.or_eq_true, Bool.not_eq_true', Bool.and_eq_false_iff, Bool.or_eq_false_iff, Bool.not_eq_false', decide_eq_true_eq, decide_eq_false_iff_not, beq_iff_eq, beq_eq_false_iff_ne, ne_eq, Sx.idF, Sx.idT] at q3); have q4 := h109; (try simp only [Sx.emp_iff] at q4); (try simp only [Bool.not_false, Bool.not_true, Bool.and_true, Bool.and_false, Bool.true_and, Bool.false_and, Bool.or_false, Bool.false_or, Bool.and_eq_true, Bool.or_eq_true, Bool.not_eq_true', Bool.and_eq_false_iff, Bool.or_eq_false_iff, Bool.not_eq_false', decide_eq_true_eq, decide_eq_false_iff_not, beq_iff_eq, beq_eq_false_iff_ne, ne_eq, Sx.idF, Sx.idT] at q4); have q5 := h114; (try simp only [Sx.emp_iff] at q5); (try simp only [Bool.not_false, Bool.not_true, Bool.and_true, Bool.and_false, Bool.true_and, Bool.false_and, Bool.or_false, Bool.false_or, Bool.and_eq_true, Bool.or_eq_true, Bool.not_eq_true', Bool.and_eq_false_iff, Bool.or_eq_false_iff, Bool.not_eq_false', decide_eq_true_eq, decide_eq_false_iff_not, beq_iff_eq, beq_eq_false_iff_ne, ne_eq, Sx.idF, Sx.idT] at q5); first | (exfalso; omega) | (have kn := Sx.kid_2 (n := x.kids.length) (op := x.op) (by omega) (by omega) (by omega); unfold Sx.nodE Sx.callE; ((try simp only [Sx.idF]); (repeat (first | rw [if_pos (by omega)] | rw [if_neg (by omega)]))); done))
            ·
              have p114 := (eq_t (not_f h114))
              refine WC.seq (fun K116 k116 => ?_)
              refine WC.region rfl ?_
              refine WL.yld rfl (blt rfl) rfl (Y.fieldAddr rfl Try.underlying28 rfl ti9 (by decide) rfl) ?_
              refine WL.yld rfl (blt rfl) rfl (Y.load1 rfl Try.underlying9 rfl rfl (Blk.at_eq m6 rfl)) ?_
              refine WL.yld rfl (blt rfl) rfl (Y.neqStr rfl rfl rfl) ?_
              refine WL.yld rfl (blt rfl) rfl (Y.move rfl rfl) ?_
              refine WL.yldG rfl (blt rfl) rfl rfl rfl (fun hb => Y.move rfl rfl) ?_
              refine WL.yldG rfl (blt rfl) rfl rfl rfl (fun hb => Y.not rfl (evg rfl hb)) ?_
              refine WL.yld rfl (blt rfl) rfl (Y.and rfl rfl rfl rfl) ?_
              refine WL.yld rfl (blt rfl) rfl (Y.assign rfl rfl) ?_
              refine WL.nil ?_
              refine WK.then_normal (k116 _ _ ?_)
              refine WC.sub [(1, _), (3, _), (4, _), (5, _), (39, _)] ⟨rfl, rfl, rfl, rfl, rfl, trivial⟩ ?_
              refine WC.cond rfl (fun h117 => ?_) (fun h117 => ?_)
              ·
                refine WC.skip ?_
                refine WK.then_normal (k112 _ _ ?_)
                refine WC.sub [(1, _), (3, _), (4, _), (5, _), (39, .bool true)] ⟨rfl, rfl, rfl, rfl, kn h117, trivial⟩ ?_
                refine WC.condT rfl ?_
                refine WC.seq (fun K118 k118 => ?_)
                refine WC.region rfl ?_
                refine WL.yld rfl (blt rfl) rfl (Y.assign rfl rfl) ?_
                refine WL.nil ?_
                refine WK.then_normal (k118 _ _ ?_)
                refine WC.sub [(2, _)] ⟨rfl, trivial⟩ ?_
                refine WC.ret ?_
                refine WK.in_ret ?_
                refine WK.then_ret ?_
                clear k1 k7 k8 k9 k25 k54 k79 k108 k111 k112 k113 k116 k118
                refine WK.ret [_] rfl ⟨rfl, trivial⟩ ?_
                refine ⟨ret1 (vi ?_), xW⟩
                first | (exfalso; revert h10; simp; done) | (exfalso; revert h26; simp; done) | (exfalso; revert h55; simp; done) | (exfalso; revert h80; simp; done) | (exfalso; revert h109; simp; done) | (exfalso; revert h114; simp; done) | (exfalso; revert h117; simp; done) | (have q0 := h10; (try simp only [Sx.emp_iff] at q0); (try simp only [Bool.not_false, Bool.not_true, Bool.and_true, Bool.and_false, Bool.true_and, Bool.false_and, Bool.or_false, Bool.false_or, Bool.and_eq_true, Bool.or_eq_true, Bool.not_eq_true', Bool.and_eq_false_iff, Bool.or_eq_false_iff, Bool.not_eq_false', decide_eq_true_eq, decide_eq_false_iff_not, beq_iff_eq, beq_eq_false_iff_ne, ne_eq, Sx.idF, Sx.idT] at q0); have q1 := h26; (try simp only [Sx.emp_iff] at q1); (try simp only [Bool.not_false, Bool.not_true, Bool.and_true, Bool.and_false, Bool.true_and, Bool.false_and, Bool.or_false, Bool.false_or, Bool.and_eq_true, Bool.or_eq_true, Bool.not_eq_true', Bool.and_eq_false_iff, Bool.or_eq_false_iff, Bool.not_eq_false', decide_eq_true_eq, decide_eq_false_iff_not, beq_iff_eq, beq_eq_false_iff_ne, ne_eq, Sx.idF, Sx.idT] at q1); have q2 := h55; (try simp only [Sx.emp_iff] at q2); (try simp only [Bool.not_false, Bool.not_true, Bool.and_true, Bool.and_false, Bool.true_and, Bool.false_and, Bool.or_false, Bool.false_or, Bool.and_eq_true, Bool.or_eq_true, Bool.not_eq_true', Bool.and_eq_false_iff, Bool.or_eq_false_iff, Bool.not_eq_false', decide_eq_true_eq, decide_eq_false_iff_not, beq_iff_eq, beq_eq_false_iff_ne, ne_eq, Sx.idF, Sx.idT] at q2); have q3 := h80; (try simp only [Sx.emp_iff] at q3); (try simp only [Bool.not_false, Bool.not_true, Bool.and_true, Bool.and_false, Bool.true_and, Bool.false_and, Bool.or_false, Bool.false_or, Bool.and_eq_true, Bool.or_eq_true, Bool.not_eq_true', Bool.and_eq_false_iff, Bool.or_eq_false_iff, Bool.not_eq_false', decide_eq_true_eq, decide_eq_false_iff_not, beq_iff_eq, beq_eq_false_iff_ne, ne_eq, Sx.idF, Sx.idT] at q3); have q4 := h109; (try simp only [Sx.emp_iff] at q4); (try simp only [Bool.not_false, Bool.not_true, Bool.and_true, Bool.and_false, Bool.true_and, Bool.false_and, Bool.or_false, Bool.false_or, Bool.and_eq_true, Bool.or_eq_true, Bool.not_eq_true', Bool.and_eq_false_iff, Bool.or_eq_false_iff, Bool.not_eq_false', decide_eq_true_eq, decide_eq_false_iff_not, beq_iff_eq, beq_eq_false_iff_ne, ne_eq, Sx.idF, Sx.idT] at q4); have q5 := h114; (try simp only [Sx.emp_iff] at q5); (try simp only [Bool.not_false, Bool.not_true, Bool.and_true, Bool.and_false, Bool.true_and, Bool.false_and, Bool.or_false, Bool.false_or, Bool.and_eq_true, Bool.or_eq_true, Bool.not_eq_true', Bool.and_eq_false_iff, Bool.or_eq_false_iff, Bool.not_eq_false', decide_eq_true_eq, decide_eq_false_iff_not, beq_iff_eq, beq_eq_false_iff_ne, ne_eq, Sx.idF, Sx.idT] at q5); have q6 := h117; (try simp only [Sx.emp_iff] at q6); (try simp only [Bool.not_false, Bool.not_true, Bool.and_true, Bool.and_false, Bool.true_and, Bool.false_and, Bool.or_false, Bool.false_or, Bool.and_eq_true, Bool.or_eq_true, Bool.not_eq_true', Bool.and_eq_false_iff, Bool.or_eq_false_iff, Bool.not_eq_false', decide_eq_true_eq, decide_eq_false_iff_not, beq_iff_eq, beq_eq_false_iff_ne, ne_eq, Sx.idF, Sx.idT] at q6); first | (exfalso; omega) | (have kn := Sx.kid_2 (n := x.kids.length) (op := x.op) (by omega) (by omega) (by omega); unfold Sx.nodE Sx.callE; ((try simp only [Sx.idF]); (repeat (first | rw [if_pos (by omega)] | rw [if_neg (by omega)]))); done))
              ·
                refine WC.region rfl ?_
                refine WL.yld rfl (blt rfl) rfl (Y.fieldAddr rfl Try.underlying28 rfl ti25 (by decide) rfl) ?_
                refine WL.yld rfl (blt rfl) rfl (Y.loadS (cs := [_, _, _]) rfl Try.underlying25 rfl ti25 rfl (Blk.part_eq m6 rfl)) ?_
                refine WL.yld rfl (blt rfl) rfl (Y.build (cells := [_, _, _]) rfl pl25 rfl rfl) ?_
                refine WL.yld rfl (blt rfl) rfl (Y.neqS rfl eqg25 (eq25 _ _ _ _ _ _) rfl rfl) ?_
                refine WL.yld rfl (blt rfl) rfl (Y.move rfl rfl) ?_
                refine WL.yldG rfl (blt rfl) rfl rfl rfl (fun hb => Y.move rfl rfl) ?_
                refine WL.yldG rfl (blt rfl) rfl rfl rfl (fun hb => Y.not rfl (evg rfl hb)) ?_
                refine WL.yld rfl (blt rfl) rfl (Y.and rfl rfl rfl rfl) ?_
                refine WL.yld rfl (blt rfl) rfl (Y.assign rfl rfl) ?_
                refine WL.nil ?_
                refine WK.then_normal (k112 _ _ ?_)
                refine WC.sub [(1, _), (3, _), (4, _), (5, _), (39, _)] ⟨rfl, rfl, rfl, rfl, rfl, trivial⟩ ?_
                refine WC.cond rfl (fun h119 => ?_) (fun h119 => ?_)
                ·
                  refine WC.seq (fun K120 k120 => ?_)
                  refine WC.region rfl ?_
                  refine WL.yld rfl (blt rfl) rfl (Y.assign rfl rfl) ?_
                  refine WL.nil ?_
                  refine WK.then_normal (k120 _ _ ?_)
                  refine WC.sub [(2, _)] ⟨rfl, trivial⟩ ?_
                  refine WC.ret ?_
                  refine WK.in_ret ?_
                  refine WK.then_ret ?_
                  clear k1 k7 k8 k9 k25 k54 k79 k108 k111 k112 k113 k116 k120
                  refine WK.ret [_] rfl ⟨rfl, trivial⟩ ?_
                  refine ⟨ret1 (vi ?_), xW⟩
                  first | (exfalso; revert h10; simp; done) | (exfalso; revert h26; simp; done) | (exfalso; revert h55; simp; done) | (exfalso; revert h80; simp; done) | (exfalso; revert h109; simp; done) | (exfalso; revert h114; simp; done) | (exfalso; revert h117; simp; done) | (exfalso; revert h119; simp; done) | (have q0 := h10; (try simp only [Sx.emp_iff] at q0); (try simp only [Bool.not_false, Bool.not_true, Bool.and_true, Bool.and_false, Bool.true_and, Bool.false_and, Bool.or_false, Bool.false_or, Bool.and_eq_true, Bool.or_eq_true, Bool.not_eq_true', Bool.and_eq_false_iff, Bool.or_eq_false_iff, Bool.not_eq_false', decide_eq_true_eq, decide_eq_false_iff_not, beq_iff_eq, beq_eq_false_iff_ne, ne_eq, Sx.idF, Sx.idT] at q0); have q1 := h26; (try simp only [Sx.emp_iff] at q1); (try simp only [Bool.not_false, Bool.not_true, Bool.and_true, Bool.and_false, Bool.true_and, Bool.false_and, Bool.or_false, Bool.false_or, Bool.and_eq_true, Bool.or_eq_true, Bool.not_eq_true', Bool.and_eq_false_iff, Bool.or_eq_false_iff, Bool.not_eq_false', decide_eq_true_eq, decide_eq_false_iff_not, beq_iff_eq, beq_eq_false_iff_ne, ne_eq, Sx.idF, Sx.idT] at q1); have q2 := h55; (try simp only [Sx.emp_iff] at q2); (try simp only [Bool.not_false, Bool.not_true, Bool.and_true, Bool.and_false, Bool.true_and, Bool.false_and, Bool.or_false, Bool.false_or, Bool.and_eq_true, Bool.or_eq_true, Bool.not_eq_true', Bool.and_eq_false_iff, Bool.or_eq_false_iff, Bool.not_eq_false', decide_eq_true_eq, decide_eq_false_iff_not, beq_iff_eq, beq_eq_false_iff_ne, ne_eq, Sx.idF, Sx.idT] at q2); have q3 := h80; (try simp only [Sx.emp_iff] at q3); (try simp only [Bool.not_false, Bool.not_true, Bool.and_true, Bool.and_false, Bool.true_and, Bool.false_and, Bool.or_false, Bool.false_or, Bool.and_eq_true, Bool.or_eq_true, Bool.not_eq_true', Bool.and_eq_false_iff, Bool.or_eq_false_iff, Bool.not_eq_false', decide_eq_true_eq, decide_eq_false_iff_not, beq_iff_eq, beq_eq_false_iff_ne, ne_eq, Sx.idF, Sx.idT] at q3); have q4 := h109; (try simp only [Sx.emp_iff] at q4); (try simp only [Bool.not_false, Bool.not_true, Bool.and_true, Bool.and_false, Bool.true_and, Bool.false_and, Bool.or_false, Bool.false_or, Bool.and_eq_true, Bool.or_eq_true, Bool.not_eq_true', Bool.and_eq_false_iff, Bool.or_eq_false_iff, Bool.not_eq_false', decide_eq_true_eq, decide_eq_false_iff_not, beq_iff_eq, beq_eq_false_iff_ne, ne_eq, Sx.idF, Sx.idT] at q4); have q5 := h114; (try simp only [Sx.emp_iff] at q5); (try simp only [Bool.not_false, Bool.not_true, Bool.and_true, Bool.and_false, Bool.true_and, Bool.false_and, Bool.or_false, Bool.false_or, Bool.and_eq_true, Bool.or_eq_true, Bool.not_eq_true', Bool.and_eq_false_iff, Bool.or_eq_false_iff, Bool.not_eq_false', decide_eq_true_eq, decide_eq_false_iff_not, beq_iff_eq, beq_eq_false_iff_ne, ne_eq, Sx.idF, Sx.idT] at q5); have q6 := h117; (try simp only [Sx.emp_iff] at q6); (try simp only [Bool.not_false, Bool.not_true, Bool.and_true, Bool.and_false, Bool.true_and, Bool.false_and, Bool.or_false, Bool.false_or, Bool.and_eq_true, Bool.or_eq_true, Bool.not_eq_true', Bool.and_eq_false_iff, Bool.or_eq_false_iff, Bool.not_eq_false', decide_eq_true_eq, decide_eq_false_iff_not, beq_iff_eq, beq_eq_false_iff_ne, ne_eq, Sx.idF, Sx.idT] at q6); have q7 := h119; (try simp only [Sx.emp_iff] at q7); (try simp only [Bool.not_false, Bool.not_true, Bool.and_true, Bool.and_false, Bool.true_and, Bool.false_and, Bool.or_false, Bool.false_or, Bool.and_eq_true, Bool.or_eq_true, Bool.not_eq_true', Bool.and_eq_false_iff, Bool.or_eq_false_iff, Bool.not_eq_false', decide_eq_true_eq, decide_eq_false_iff_not, beq_iff_eq, beq_eq_false_iff_ne, ne_eq, Sx.idF, Sx.idT] at q7); first | (exfalso; omega) | (have kn := Sx.kid_2 (n := x.kids.length) (op := x.op) (by omega) (by omega) (by omega); unfold Sx.nodE Sx.callE; ((try simp only [Sx.idF]); (repeat (first | rw [if_pos (by omega)] | rw [if_neg (by omega)]))); done))
                ·
                  refine WC.seq (fun K121 k121 => ?_)
                  refine WC.region rfl ?_
                  refine WL.yld rfl (blt rfl) rfl (Y.move rfl rfl) ?_
                  refine WL.yld rfl (blt rfl) rfl (Y.assign rfl rfl) ?_
                  refine WL.nil ?_
                  refine WK.then_normal (k121 _ _ ?_)
                  refine WC.sub [(1, _), (3, _), (4, _), (60, _)] ⟨rfl, rfl, rfl, rfl, trivial⟩ ?_
                  refine WC.condF rfl ?_
                  refine WC.seq (fun K122 k122 => ?_)
                  refine WC.region rfl ?_
                  refine WL.yld rfl (blt rfl) rfl (Y.move rfl rfl) ?_
                  refine WL.yld rfl (blt rfl) rfl (Y.move rfl rfl) ?_
                  refine WL.skip rfl (blt rfl) rfl rfl rfl rfl ?_
                  refine WL.skip rfl (blt rfl) rfl rfl rfl rfl ?_
                  refine WL.skip rfl (blt rfl) rfl rfl rfl rfl ?_
                  refine WL.skip rfl (blt rfl) rfl rfl rfl rfl ?_
                  refine WL.yld rfl (blt rfl) rfl (Y.pickF rfl rfl rfl) ?_
                  refine WL.yld rfl (blt rfl) rfl (Y.assign rfl rfl) ?_
                  refine WL.nil ?_
                  refine WK.then_normal (k122 _ _ ?_)
                  refine WC.sub [(1, _), (3, _), (65, _)] ⟨rfl, rfl, rfl, trivial⟩ ?_
                  refine WC.condF rfl ?_
                  refine WC.seq (fun K123 k123 => ?_)
                  refine WC.region rfl ?_
                  refine WL.yld rfl (blt rfl) rfl (Y.fieldAddr rfl Try.underlying28 rfl ti22 (by decide) rfl) ?_
                  refine WL.yld rfl (blt rfl) rfl (Y.load1 rfl Try.underlying22 rfl rfl (Blk.at_eq m6 rfl)) ?_
                  refine WL.yld rfl (blt rfl) rfl (Y.eql rfl rfl rfl) ?_
                  refine WL.yld rfl (blt rfl) rfl (Y.move rfl rfl) ?_
                  refine WL.yldG rfl (blt rfl) rfl rfl rfl (fun hb => Y.fieldAddr rfl Try.underlying28 rfl ti9 (by decide) rfl) ?_
                  refine WL.yldG rfl (blt rfl) rfl rfl rfl (fun hb => Y.load1 rfl Try.underlying9 rfl (evg rfl hb) (Blk.at_eq m6 rfl)) ?_
                  refine WL.callG rfl (blt rfl) rfl rfl rfl rfl rfl has71 (fun hb => (evs_cons (evg rfl hb) evs_nil)) (fun hb => arity_any _ _ ) (fun w124 x125 => ?_)
                  have m6 := m6.ext x125
                  have xW := Ext.trans xW x125
                  refine WL.yldG rfl (blt rfl) rfl rfl rfl (fun hb => Y.eql rfl (evg rfl hb) rfl) ?_
                  refine WL.yld rfl (blt rfl) rfl (Y.and rfl rfl rfl rfl) ?_
                  refine WL.yld rfl (blt rfl) rfl (Y.assign rfl rfl) ?_
                  refine WL.nil ?_
                  refine WK.then_normal (k123 _ _ ?_)
                  refine WC.sub [(1, _), (3, _), (73, _)] ⟨rfl, rfl, rfl, trivial⟩ ?_
                  refine WC.cond rfl (fun h126 => ?_) (fun h126 => ?_)
                  ·
                    have p126 := (And.intro (eq_t (and_t h126).1) (eq_t (and_t h126).2))
                    refine WC.seq (fun K127 k127 => ?_)
                    refine WC.region rfl ?_
                    refine WL.yld rfl (blt rfl) rfl (Y.assign rfl rfl) ?_
                    refine WL.nil ?_
                    refine WK.then_normal (k127 _ _ ?_)
                    refine WC.sub [(2, _)] ⟨rfl, trivial⟩ ?_
                    refine WC.ret ?_
                    refine WK.in_ret ?_
                    refine WK.then_ret ?_
                    clear k1 k7 k8 k9 k25 k54 k79 k108 k111 k112 k113 k116 k121 k122 k123 k127
                    refine WK.ret [_] rfl ⟨rfl, trivial⟩ ?_
                    refine ⟨ret1 (vi ?_), xW⟩
                    first | (exfalso; revert h10; simp; done) | (exfalso; revert h26; simp; done) | (exfalso; revert h55; simp; done) | (exfalso; revert h80; simp; done) | (exfalso; revert h109; simp; done) | (exfalso; revert h114; simp; done) | (exfalso; revert h117; simp; done) | (exfalso; revert h119; simp; done) | (exfalso; revert h126; simp; done) | (have q0 := h10; (try simp only [Sx.emp_iff] at q0); (try simp only [Bool.not_false, Bool.not_true, Bool.and_true, Bool.and_false, Bool.true_and, Bool.false_and, Bool.or_false, Bool.false_or, Bool.and_eq_true, Bool.or_eq_true, Bool.not_eq_true', Bool.and_eq_false_iff, Bool.or_eq_false_iff, Bool.not_eq_false', decide_eq_true_eq, decide_eq_false_iff_not, beq_iff_eq, beq_eq_false_iff_ne, ne_eq, Sx.idF, Sx.idT] at q0); have q1 := h26; (try simp only [Sx.emp_iff] at q1); (try simp only [Bool.not_false, Bool.not_true, Bool.and_true, Bool.and_false, Bool.true_and, Bool.false_and, Bool.or_false, Bool.false_or, Bool.and_eq_true, Bool.or_eq_true, Bool.not_eq_true', Bool.and_eq_false_iff, Bool.or_eq_false_iff, Bool.not_eq_false', decide_eq_true_eq, decide_eq_false_iff_not, beq_iff_eq, beq_eq_false_iff_ne, ne_eq, Sx.idF, Sx.idT] at q1); have q2 := h55; (try simp only [Sx.emp_iff] at q2); (try simp only [Bool.not_false, Bool.not_true, Bool.and_true, Bool.and_false, Bool.true_and, Bool.false_and, Bool.or_false, Bool.false_or, Bool.and_eq_true, Bool.or_eq_true, Bool.not_eq_true', Bool.and_eq_false_iff, Bool.or_eq_false_iff, Bool.not_eq_false', decide_eq_true_eq, decide_eq_false_iff_not, beq_iff_eq, beq_eq_false_iff_ne, ne_eq, Sx.idF, Sx.idT] at q2); have q3 := h80; (try simp only [Sx.emp_iff] at q3); (try simp only [Bool.not_false, Bool.not_true, Bool.and_true, Bool.and_false, Bool.true_and, Bool.false_and, Bool.or_false, Bool.false_or, Bool.and_eq_true, Bool.or_eq_true, Bool.not_eq_true', Bool.and_eq_false_iff, Bool.or_eq_false_iff, Bool.not_eq_false', decide_eq_true_eq, decide_eq_false_iff_not, beq_iff_eq, beq_eq_false_iff_ne, ne_eq, Sx.idF, Sx.idT] at q3); have q4 := h109; (try simp only [Sx.emp_iff] at q4); (try simp only [Bool.not_false, Bool.not_true, Bool.and_true, Bool.and_false, Bool.true_and, Bool.false_and, Bool.or_false, Bool.false_or, Bool.and_eq_true, Bool.or_eq_true, Bool.not_eq_true', Bool.and_eq_false_iff, Bool.or_eq_false_iff, Bool.not_eq_false', decide_eq_true_eq, decide_eq_false_iff_not, beq_iff_eq, beq_eq_false_iff_ne, ne_eq, Sx.idF, Sx.idT] at q4); have q5 := h114; (try simp only [Sx.emp_iff] at q5); (try simp only [Bool.not_false, Bool.not_true, Bool.and_true, Bool.and_false, Bool.true_and, Bool.false_and, Bool.or_false, Bool.false_or, Bool.and_eq_true, Bool.or_eq_true, Bool.not_eq_true', Bool.and_eq_false_iff, Bool.or_eq_false_iff, Bool.not_eq_false', decide_eq_true_eq, decide_eq_false_iff_not, beq_iff_eq, beq_eq_false_iff_ne, ne_eq, Sx.idF, Sx.idT] at q5); have q6 := h117; (try simp only [Sx.emp_iff] at q6); (try simp only [Bool.not_false, Bool.not_true, Bool.and_true, Bool.and_false, Bool.true_and, Bool.false_and, Bool.or_false, Bool.false_or, Bool.and_eq_true, Bool.or_eq_true, Bool.not_eq_true', Bool.and_eq_false_iff, Bool.or_eq_false_iff, Bool.not_eq_false', decide_eq_true_eq, decide_eq_false_iff_not, beq_iff_eq, beq_eq_false_iff_ne, ne_eq, Sx.idF, Sx.idT] at q6); have q7 := h119; (try simp only [Sx.emp_iff] at q7); (try simp only [Bool.not_false, Bool.not_true, Bool.and_true, Bool.and_false, Bool.true_and, Bool.false_and, Bool.or_false, Bool.false_or, Bool.and_eq_true, Bool.or_eq_true, Bool.not_eq_true', Bool.and_eq_false_iff, Bool.or_eq_false_iff, Bool.not_eq_false', decide_eq_true_eq, decide_eq_false_iff_not, beq_iff_eq, beq_eq_false_iff_ne, ne_eq, Sx.idF, Sx.idT] at q7); have q8 := h126; (try simp only [Sx.emp_iff] at q8); (try simp only [Bool.not_false, Bool.not_true, Bool.and_true, Bool.and_false, Bool.true_and, Bool.false_and, Bool.or_false, Bool.false_or, Bool.and_eq_true, Bool.or_eq_true, Bool.not_eq_true', Bool.and_eq_false_iff, Bool.or_eq_false_iff, Bool.not_eq_false', decide_eq_true_eq, decide_eq_false_iff_not, beq_iff_eq, beq_eq_false_iff_ne, ne_eq, Sx.idF, Sx.idT] at q8); first | (exfalso; omega) | (have kn := Sx.kid_2 (n := x.kids.length) (op := x.op) (by omega) (by omega) (by omega); unfold Sx.nodE Sx.callE; ((try simp only [Sx.idF]); (repeat (first | rw [if_pos (by omega)] | rw [if_neg (by omega)]))); done))
                  ·
                    have p126 := ((and_f h126).imp (fun h => (eq_f h)) (fun h => (eq_f h)))
                    refine WC.seq (fun K128 k128 => ?_)
                    refine WC.region rfl ?_
                    refine WL.yld rfl (blt rfl) rfl (Y.fieldAddr rfl Try.underlying28 rfl ti22 (by decide) rfl) ?_
                    refine WL.yld rfl (blt rfl) rfl (Y.load1 rfl Try.underlying22 rfl rfl (Blk.at_eq m6 rfl)) ?_
                    refine WL.yld rfl (blt rfl) rfl (Y.eql rfl rfl rfl) ?_
                    refine WL.yld rfl (blt rfl) rfl (Y.move rfl rfl) ?_
                    refine WL.yldG rfl (blt rfl) rfl rfl rfl (fun hb => Y.fieldAddr rfl Try.underlying28 rfl ti9 (by decide) rfl) ?_
                    refine WL.yldG rfl (blt rfl) rfl rfl rfl (fun hb => Y.load1 rfl Try.underlying9 rfl (evg rfl hb) (Blk.at_eq m6 rfl)) ?_
                    refine WL.callG rfl (blt rfl) rfl rfl rfl rfl rfl has71 (fun hb => (evs_cons (evg rfl hb) evs_nil)) (fun hb => arity_any _ _ ) (fun w129 x130 => ?_)
                    have m6 := m6.ext x130
                    have xW := Ext.trans xW x130
                    refine WL.yldG rfl (blt rfl) rfl rfl rfl (fun hb => Y.move rfl rfl) ?_
                    refine WL.yldG rfl (blt rfl) rfl rfl rfl (fun hb => Y.neq rfl (evg rfl hb) (evg rfl hb)) ?_
                    refine WL.yld rfl (blt rfl) rfl (Y.and rfl rfl rfl rfl) ?_
                    refine WL.yld rfl (blt rfl) rfl (Y.assign rfl rfl) ?_
                    refine WL.nil ?_
                    refine WK.then_normal (k128 _ _ ?_)
                    refine WC.sub [(83, _)] ⟨rfl, trivial⟩ ?_
                    refine WC.cond rfl (fun h131 => ?_) (fun h131 => ?_)
                    ·
                      have p131 := (And.intro (eq_t (and_t h131).1) (eq_f (not_t (and_t h131).2)))
                      refine WC.seq (fun K132 k132 => ?_)
                      refine WC.region rfl ?_
                      refine WL.yld rfl (blt rfl) rfl (Y.assign rfl rfl) ?_
                      refine WL.nil ?_
                      refine WK.then_normal (k132 _ _ ?_)
                      refine WC.sub [(2, _)] ⟨rfl, trivial⟩ ?_
                      refine WC.ret ?_
                      refine WK.in_ret ?_
                      refine WK.then_ret ?_
                      clear k1 k7 k8 k9 k25 k54 k79 k108 k111 k112 k113 k116 k121 k122 k123 k128 k132
                      refine WK.ret [_] rfl ⟨rfl, trivial⟩ ?_
                      refine ⟨ret1 (vi ?_), xW⟩
                      first | (exfalso; revert h10; simp; done) | (exfalso; revert h26; simp; done) | (exfalso; revert h55; simp; done) | (exfalso; revert h80; simp; done) | (exfalso; revert h109; simp; done) | (exfalso; revert h114; simp; done) | (exfalso; revert h117; simp; done) | (exfalso; revert h119; simp; done) | (exfalso; revert h126; simp; done) | (exfalso; revert h131; simp; done) | (have q0 := h10; (try simp only [Sx.emp_iff] at q0); (try simp only [Bool.not_false, Bool.not_true, Bool.and_true, Bool.and_false, Bool.true_and, Bool.false_and, Bool.or_false, Bool.false_or, Bool.and_eq_true, Bool.or_eq_true, Bool.not_eq_true', Bool.and_eq_false_iff, Bool.or_eq_false_iff, Bool.not_eq_false', decide_eq_true_eq, decide_eq_false_iff_not, beq_iff_eq, beq_eq_false_iff_ne, ne_eq, Sx.idF, Sx.idT] at q0); have q1 := h26; (try simp only [Sx.emp_iff] at q1); (try simp only [Bool.not_false, Bool.not_true, Bool.and_true, Bool.and_false, Bool.true_and, Bool.false_and, Bool.or_false, Bool.false_or, Bool.and_eq_true, Bool.or_eq_true, Bool.not_eq_true', Bool.and_eq_false_iff, Bool.or_eq_false_iff, Bool.not_eq_false', decide_eq_true_eq, decide_eq_false_iff_not, beq_iff_eq, beq_eq_false_iff_ne, ne_eq, Sx.idF, Sx.idT] at q1); have q2 := h55; (try simp only [Sx.emp_iff] at q2); (try simp only [Bool.not_false, Bool.not_true, Bool.and_true, Bool.and_false, Bool.true_and, Bool.false_and, Bool.or_false, Bool.false_or, Bool.and_eq_true, Bool.or_eq_true, Bool.not_eq_true', Bool.and_eq_false_iff, Bool.or_eq_false_iff, Bool.not_eq_false', decide_eq_true_eq, decide_eq_false_iff_not, beq_iff_eq, beq_eq_false_iff_ne, ne_eq, Sx.idF, Sx.idT] at q2); have q3 := h80; (try simp only [Sx.emp_iff] at q3); (try simp only [Bool.not_false, Bool.not_true, Bool.and_true, Bool.and_false, Bool.true_and, Bool.false_and, Bool.or_false, Bool.false_or, Bool.and_eq_true, Bool.or_eq_true, Bool.not_eq_true', Bool.and_eq_false_iff, Bool.or_eq_false_iff, Bool.not_eq_false', decide_eq_true_eq, decide_eq_false_iff_not, beq_iff_eq, beq_eq_false_iff_ne, ne_eq, Sx.idF, Sx.idT] at q3); have q4 := h109; (try simp only [Sx.emp_iff] at q4); (try simp only [Bool.not_false, Bool.not_true, Bool.and_true, Bool.and_false, Bool.true_and, Bool.false_and, Bool.or_false, Bool.false_or, Bool.and_eq_true, Bool.or_eq_true, Bool.not_eq_true', Bool.and_eq_false_iff, Bool.or_eq_false_iff, Bool.not_eq_false', decide_eq_true_eq, decide_eq_false_iff_not, beq_iff_eq, beq_eq_false_iff_ne, ne_eq, Sx.idF, Sx.idT] at q4); have q5 := h114; (try simp only [Sx.emp_iff] at q5); (try simp only [Bool.not_false, Bool.not_true, Bool.and_true, Bool.and_false, Bool.true_and, Bool.false_and, Bool.or_false, Bool.false_or, Bool.and_eq_true, Bool.or_eq_true, Bool.not_eq_true', Bool.and_eq_false_iff, Bool.or_eq_false_iff, Bool.not_eq_false', decide_eq_true_eq, decide_eq_false_iff_not, beq_iff_eq, beq_eq_false_iff_ne, ne_eq, Sx.idF, Sx.idT] at q5); have q6 := h117; (try simp only [Sx.emp_iff] at q6); (try simp only [Bool.not_false, Bool.not_true, Bool.and_true, Bool.and_false, Bool.true_and, Bool.false_and, Bool.or_false, Bool.false_or, Bool.and_eq_true, Bool.or_eq_true, Bool.not_eq_true', Bool.and_eq_false_iff, Bool.or_eq_false_iff, Bool.not_eq_false', decide_eq_true_eq, decide_eq_false_iff_not, beq_iff_eq, beq_eq_false_iff_ne, ne_eq, Sx.idF, Sx.idT] at q6); have q7 := h119; (try simp only [Sx.emp_iff] at q7); (try simp only [Bool.not_false, Bool.not_true, Bool.and_true, Bool.and_false, Bool.true_and, Bool.false_and, Bool.or_false, Bool.false_or, Bool.and_eq_true, Bool.or_eq_true, Bool.not_eq_true', Bool.and_eq_false_iff, Bool.or_eq_false_iff, Bool.not_eq_false', decide_eq_true_eq, decide_eq_false_iff_not, beq_iff_eq, beq_eq_false_iff_ne, ne_eq, Sx.idF, Sx.idT] at q7); have q8 := h126; (try simp only [Sx.emp_iff] at q8); (try simp only [Bool.not_false, Bool.not_true, Bool.and_true, Bool.and_false, Bool.true_and, Bool.false_and, Bool.or_false, Bool.false_or, Bool.and_eq_true, Bool.or_eq_true, Bool.not_eq_true', Bool.and_eq_false_iff, Bool.or_eq_false_iff, Bool.not_eq_false', decide_eq_true_eq, decide_eq_false_iff_not, beq_iff_eq, beq_eq_false_iff_ne, ne_eq, Sx.idF, Sx.idT] at q8); have q9 := h131; (try simp only [Sx.emp_iff] at q9); (try simp only [Bool.not_false, Bool.not_true, Bool.and_true, Bool.and_false, Bool.true_and, Bool.false_and, Bool.or_false, Bool.false_or, Bool.and_eq_true, Bool.or_eq_true, Bool.not_eq_true', Bool.and_eq_false_iff, Bool.or_eq_false_iff, Bool.not_eq_false', decide_eq_true_eq, decide_eq_false_iff_not, beq_iff_eq, beq_eq_false_iff_ne, ne_eq, Sx.idF, Sx.idT] at q9); first | (exfalso; omega) | (have kn := Sx.kid_2 (n := x.kids.length) (op := x.op) (by omega) (by omega) (by omega); unfold Sx.nodE Sx.callE; ((try simp only [Sx.idF]); (repeat (first | rw [if_pos (by omega)] | rw [if_neg (by omega)]))); done))
                    ·
                      have p131 := ((and_f h131).imp (fun h => (eq_f h)) (fun h => (eq_t (not_f h))))
                      refine WC.skip ?_
                      refine WK.in_normal ?_
                      refine WK.then_normal (k111 _ _ ?_)
                      refine WC.sub [] trivial ?_
                      refine WC.seq (fun K133 k133 => ?_)
                      refine WC.region rfl ?_
                      refine WL.yld rfl (blt rfl) rfl (Y.assign rfl rfl) ?_
                      refine WL.nil ?_
                      refine WK.then_normal (k133 _ _ ?_)
                      refine WC.ret ?_
                      clear k1 k7 k8 k9 k25 k54 k79 k108 k111 k112 k113 k116 k121 k122 k123 k128 k133
                      refine WK.ret [_] rfl ⟨rfl, trivial⟩ ?_
                      refine ⟨ret1 (vi ?_), xW⟩
                      first | (exfalso; revert h10; simp; done) | (exfalso; revert h26; simp; done) | (exfalso; revert h55; simp; done) | (exfalso; revert h80; simp; done) | (exfalso; revert h109; simp; done) | (exfalso; revert h114; simp; done) | (exfalso; revert h117; simp; done) | (exfalso; revert h119; simp; done) | (exfalso; revert h126; simp; done) | (exfalso; revert h131; simp; done) | (have q0 := h10; (try simp only [Sx.emp_iff] at q0); (try simp only [Bool.not_false, Bool.not_true, Bool.and_true, Bool.and_false, Bool.true_and, Bool.false_and, Bool.or_false, Bool.false_or, Bool.and_eq_true, Bool.or_eq_true, Bool.not_eq_true', Bool.and_eq_false_iff, Bool.or_eq_false_iff, Bool.not_eq_false', decide_eq_true_eq, decide_eq_false_iff_not, beq_iff_eq, beq_eq_false_iff_ne, ne_eq, Sx.idF, Sx.idT] at q0); have q1 := h26; (try simp only [Sx.emp_iff] at q1); (try simp only [Bool.not_false, Bool.not_true, Bool.and_true, Bool.and_false, Bool.true_and, Bool.false_and, Bool.or_false, Bool.false_or, Bool.and_eq_true, Bool.or_eq_true, Bool.not_eq_true', Bool.and_eq_false_iff, Bool.or_eq_false_iff, Bool.not_eq_false', decide_eq_true_eq, decide_eq_false_iff_not, beq_iff_eq, beq_eq_false_iff_ne, ne_eq, Sx.idF, Sx.idT] at q1); have q2 := h55; (try simp only [Sx.emp_iff] at q2); (try simp only [Bool.not_false, Bool.not_true, Bool.and_true, Bool.and_false, Bool.true_and, Bool.false_and, Bool.or_false, Bool.false_or, Bool.and_eq_true, Bool.or_eq_true, Bool.not_eq_true', Bool.and_eq_false_iff, Bool.or_eq_false_iff, Bool.not_eq_false', decide_eq_true_eq, decide_eq_false_iff_not, beq_iff_eq, beq_eq_false_iff_ne, ne_eq, Sx.idF, Sx.idT] at q2); have q3 := h80; (try simp only [Sx.emp_iff] at q3); (try simp only [Bool.not_false, Bool.not_true, Bool.and_true, Bool.and_false, Bool.true_and, Bool.false_and, Bool.or_false, Bool.false_or, Bool.and_eq_true, Bool.or_eq_true, Bool.not_eq_true', Bool.and_eq_false_iff, Bool.or_eq_false_iff, Bool.not_eq_false', decide_eq_true_eq, decide_eq_false_iff_not, beq_iff_eq, beq_eq_false_iff_ne, ne_eq, Sx.idF, Sx.idT] at q3); have q4 := h109; (try simp only [Sx.emp_iff] at q4); (try simp only [Bool.not_false, Bool.not_true, Bool.and_true, Bool.and_false, Bool.true_and, Bool.false_and, Bool.or_false, Bool.false_or, Bool.and_eq_true, Bool.or_eq_true, Bool.not_eq_true', Bool.and_eq_false_iff, Bool.or_eq_false_iff, Bool.not_eq_false', decide_eq_true_eq, decide_eq_false_iff_not, beq_iff_eq, beq_eq_false_iff_ne, ne_eq, Sx.idF, Sx.idT] at q4); have q5 := h114; (try simp only [Sx.emp_iff] at q5); (try simp only [Bool.not_false, Bool.not_true, Bool.and_true, Bool.and_false, Bool.true_and, Bool.false_and, Bool.or_false, Bool.false_or, Bool.and_eq_true, Bool.or_eq_true, Bool.not_eq_true', Bool.and_eq_false_iff, Bool.or_eq_false_iff, Bool.not_eq_false', decide_eq_true_eq, decide_eq_false_iff_not, beq_iff_eq, beq_eq_false_iff_ne, ne_eq, Sx.idF, Sx.idT] at q5); have q6 := h117; (try simp only [Sx.emp_iff] at q6); (try simp only [Bool.not_false, Bool.not_true, Bool.and_true, Bool.and_false, Bool.true_and, Bool.false_and, Bool.or_false, Bool.false_or, Bool.and_eq_true, Bool.or_eq_true, Bool.not_eq_true', Bool.and_eq_false_iff, Bool.or_eq_false_iff, Bool.not_eq_false', decide_eq_true_eq, decide_eq_false_iff_not, beq_iff_eq, beq_eq_false_iff_ne, ne_eq, Sx.idF, Sx.idT] at q6); have q7 := h119; (try simp only [Sx.emp_iff] at q7); (try simp only [Bool.not_false, Bool.not_true, Bool.and_true, Bool.and_false, Bool.true_and, Bool.false_and, Bool.or_false, Bool.false_or, Bool.and_eq_true, Bool.or_eq_true, Bool.not_eq_true', Bool.and_eq_false_iff, Bool.or_eq_false_iff, Bool.not_eq_false', decide_eq_true_eq, decide_eq_false_iff_not, beq_iff_eq, beq_eq_false_iff_ne, ne_eq, Sx.idF, Sx.idT] at q7); have q8 := h126; (try simp only [Sx.emp_iff] at q8); (try simp only [Bool.not_false, Bool.not_true, Bool.and_true, Bool.and_false, Bool.true_and, Bool.false_and, Bool.or_false, Bool.false_or, Bool.and_eq_true, Bool.or_eq_true, Bool.not_eq_true', Bool.and_eq_false_iff, Bool.or_eq_false_iff, Bool.not_eq_false', decide_eq_true_eq, decide_eq_false_iff_not, beq_iff_eq, beq_eq_false_iff_ne, ne_eq, Sx.idF, Sx.idT] at q8); have q9 := h131; (try simp only [Sx.emp_iff] at q9); (try simp only [Bool.not_false, Bool.not_true, Bool.and_true, Bool.and_false, Bool.true_and, Bool.false_and, Bool.or_false, Bool.false_or, Bool.and_eq_true, Bool.or_eq_true, Bool.not_eq_true', Bool.and_eq_false_iff, Bool.or_eq_false_iff, Bool.not_eq_false', decide_eq_true_eq, decide_eq_false_iff_not, beq_iff_eq, beq_eq_false_iff_ne, ne_eq, Sx.idF, Sx.idT] at q9); first | (exfalso; omega) | (have kn := Sx.kid_2 (n := x.kids.length) (op := x.op) (by omega) (by omega) (by omega); unfold Sx.nodE Sx.callE; ((try simp only [Sx.idF]); (repeat (first | rw [if_pos (by omega)] | rw [if_neg (by omega)]))); done))
theorem rnode_any (d_x : Nat) (x : Sx.E) (w : World) (g_x : Sx.Good d_x w x) (sh_x : Sx.short x = true) :
    Calls Try.prog 52 #[.agg #[.int .i64 x.op, .string x.nm, .int .i64 x.vk, .int .i64 x.vn, .string x.vs, .slice x.A x.n x.c]] w fun e w' => e = .returned (.int .i64 (Sx.nodE x)) ∧ Ext w w' := by
  have xW := Ext.refl w
  have h_x := g_x.ls
  have e_x := h_x.len
  have z_x := h_x.nle
  have hn := Sx.short_at sh_x
  refine calls_of_WC (args := [.agg #[.int .i64 x.op, .string x.nm, .int .i64 x.vk, .int .i64 x.vn, .string x.vs, .slice x.A x.n x.c]]) Try.func52 rfl rfl (ble rfl) ?_
  refine WC.seq (fun K1 k1 => ?_)
  refine WC.region rfl ?_
  refine WL.box rfl (blt rfl) rfl rfl rfl rfl ?_
  intro g2 w3 e4 x5 m6
  have o_g2 := own_new xW e4
  have xW := Ext.trans xW x5
  refine WL.yld rfl (blt rfl) rfl (Y.assign rfl rfl) ?_
  refine WL.nil ?_
  refine WK.then_normal (k1 _ _ ?_)
  refine WC.sub [(1, _)] ⟨rfl, trivial⟩ ?_
  refine WC.seq (fun K7 k7 => ?_)
  refine WC.seq (fun K8 k8 => ?_)
  refine WC.region rfl ?_
  refine WL.yld rfl (blt rfl) rfl (Y.fieldAddr rfl Try.underlying28 rfl ti22 (by decide) rfl) ?_
  refine WL.yld rfl (blt rfl) rfl (Y.load1 rfl Try.underlying22 rfl rfl (Blk.at_eq m6 rfl)) ?_
  refine WL.yld rfl (blt rfl) rfl (Y.lss rfl rfl rfl) ?_
  refine WL.yld rfl (blt rfl) rfl (Y.move rfl rfl) ?_
  refine WL.yldG rfl (blt rfl) rfl rfl rfl (fun hb => Y.fieldAddr rfl Try.underlying28 rfl ti22 (by decide) rfl) ?_
  refine WL.yldG rfl (blt rfl) rfl rfl rfl (fun hb => Y.load1 rfl Try.underlying22 rfl (evg rfl hb) (Blk.at_eq m6 rfl)) ?_
  refine WL.yldG rfl (blt rfl) rfl rfl rfl (fun hb => Y.gtr rfl (evg rfl hb) rfl) ?_
  refine WL.yld rfl (blt rfl) rfl (Y.or rfl rfl rfl rfl) ?_
  refine WL.nil ?_
  refine WK.then_normal (k8 _ _ ?_)
  refine WC.sub [(1, _), (11, _)] ⟨rfl, rfl, trivial⟩ ?_
  refine WC.cond rfl (fun h9 => ?_) (fun h9 => ?_)
  ·
    have p9 := ((or_t h9).imp (fun h => (dec_t h)) (fun h => (dec_t h)))
    refine WC.seq (fun K10 k10 => ?_)
    refine WC.region rfl ?_
    refine WL.yld rfl (blt rfl) rfl (Y.assign rfl rfl) ?_
    refine WL.nil ?_
    refine WK.then_normal (k10 _ _ ?_)
    refine WC.sub [(2, _)] ⟨rfl, trivial⟩ ?_
    refine WC.ret ?_
    refine WK.then_ret ?_
    clear k1 k7 k8 k10
    refine WK.ret [_] rfl ⟨rfl, trivial⟩ ?_
    refine ⟨ret1 (vi ?_), xW⟩
    first | (exfalso; revert h9; simp; done) | (have q0 := h9; (try simp only [Sx.emp_iff] at q0); (try simp only [Bool.not_false, Bool.not_true, Bool.and_true, Bool.and_false, Bool.true_and, Bool.false_and, Bool.or_false, Bool.false_or, Bool.and_eq_true, Bool.or_eq_true, Bool.not_eq_true', Bool.and_eq_false_iff, Bool.or_eq_false_iff, Bool.not_eq_false', decide_eq_true_eq, decide_eq_false_iff_not, beq_iff_eq, beq_eq_false_iff_ne, ne_eq, Sx.idF, Sx.idT] at q0); by_cases o2 : x.op = 2 <;> first | (exfalso; omega) | (have kk := Sx.kid_rel x.op x.kids.length; unfold Sx.nodE; ((try simp only [Sx.idF]); (repeat (first | rw [if_pos (by omega)] | rw [if_neg (by omega)]))); done))
  ·
    have p9 := (And.intro (dec_f (or_f h9).1) (dec_f (or_f h9).2))
    refine WC.skip ?_
    refine WK.then_normal (k7 _ _ ?_)
    refine WC.sub [(1, _)] ⟨rfl, trivial⟩ ?_
    refine WC.seq (fun K11 k11 => ?_)
    refine WC.region rfl ?_
    refine WL.yld rfl (blt rfl) rfl (Y.fieldAddr rfl Try.underlying28 rfl ti22 (by decide) rfl) ?_
    refine WL.yld rfl (blt rfl) rfl (Y.load1 rfl Try.underlying22 rfl rfl (Blk.at_eq m6 rfl)) ?_
    refine WL.yld rfl (blt rfl) rfl (Y.eql rfl rfl rfl) ?_
    refine WL.yld rfl (blt rfl) rfl (Y.move rfl rfl) ?_
    refine WL.yldG rfl (blt rfl) rfl rfl rfl (fun hb => Y.fieldAddr rfl Try.underlying28 rfl ti22 (by decide) rfl) ?_
    refine WL.yldG rfl (blt rfl) rfl rfl rfl (fun hb => Y.load1 rfl Try.underlying22 rfl (evg rfl hb) (Blk.at_eq m6 rfl)) ?_
    refine WL.yldG rfl (blt rfl) rfl rfl rfl (fun hb => Y.eql rfl (evg rfl hb) rfl) ?_
    refine WL.yld rfl (blt rfl) rfl (Y.or rfl rfl rfl rfl) ?_
    refine WL.yld rfl (blt rfl) rfl (Y.assign rfl rfl) ?_
    refine WL.nil ?_
    refine WK.then_normal (k11 _ _ ?_)
    refine WC.sub [(1, _), (3, _)] ⟨rfl, rfl, trivial⟩ ?_
    refine WC.seq (fun K12 k12 => ?_)
    refine WC.seq (fun K13 k13 => ?_)
    refine WC.regionDq (by kernel_rfl) (by kernel_rfl) rfl ?_
    refine WQ.yld rfl (blt rfl) rfl (Y.move rfl rfl) ?_
    refine WQ.yld rfl (blt rfl) rfl (Y.not rfl rfl) ?_
    refine WQ.yld rfl (blt rfl) rfl (Y.move rfl rfl) ?_
    refine WQ.yldG rfl (blt rfl) rfl rfl rfl (fun hb => Y.fieldAddr rfl Try.underlying28 rfl ti9 (by decide) rfl) ?_
    refine WQ.yldG rfl (blt rfl) rfl rfl rfl (fun hb => Y.load1 rfl Try.underlying9 rfl (evg rfl hb) (Blk.at_ext m6 rfl)) ?_
    refine WQ.yldG rfl (blt rfl) rfl rfl rfl (fun hb => Y.neqStr rfl (evg rfl hb) rfl) ?_
    refine WQ.yld rfl (blt rfl) rfl (Y.and rfl rfl rfl rfl) ?_
    refine WQ.yld rfl (blt rfl) rfl (Y.move rfl rfl) ?_
    refine WQ.yldG rfl (blt rfl) rfl rfl rfl (fun hb => Y.fieldAddr rfl Try.underlying28 rfl ti22 (by decide) rfl) ?_
    refine WQ.yldG rfl (blt rfl) rfl rfl rfl (fun hb => Y.load1 rfl Try.underlying22 rfl (evg rfl hb) (Blk.at_ext m6 rfl)) ?_
    refine WQ.yldG rfl (blt rfl) rfl rfl rfl (fun hb => Y.neq rfl (evg rfl hb) rfl) ?_
    refine WQ.yldG rfl (blt rfl) rfl rfl rfl (fun hb => Y.move rfl (evg rfl hb)) ?_
    refine WQ.yldGs [(_, _)] rfl (blt rfl) rfl rfl rfl (fun hb => Y.fieldAddr rfl Try.underlying28 rfl ti25 (by decide) rfl) ?_
    refine WQ.yldGs [(_, _)] rfl (blt rfl) rfl rfl rfl (fun hb => Y.loadS (cs := [_, _, _]) rfl Try.underlying25 rfl ti25 (evg (evg rfl hb.1) hb.2.1) (Blk.part_ext m6 rfl)) ?_
    refine WQ.yldGs [(_, _)] rfl (blt rfl) rfl rfl rfl (fun hb => Y.build (cells := [_, _, _]) rfl pl25 rfl rfl) ?_
    refine WQ.yldGs [(_, _)] rfl (blt rfl) rfl rfl rfl (fun hb => Y.neqS rfl eqg25 (eq25 _ _ _ _ _ _) (evg (evg rfl hb.1) hb.2.1) (evg (evg rfl hb.1) hb.2.1)) ?_
    refine WQ.yldG rfl (blt rfl) rfl rfl rfl (fun hb => Y.and rfl (evg rfl hb) (evg rfl hb) rfl) ?_
    refine WQ.yld rfl (blt rfl) rfl (Y.or rfl rfl rfl rfl) ?_
    refine WQ.yld rfl (blt rfl) rfl (Y.move rfl rfl) ?_
    refine WQ.yldG rfl (blt rfl) rfl rfl rfl (fun hb => Y.fieldAddr rfl Try.underlying28 rfl ti22 (by decide) rfl) ?_
    refine WQ.yldG rfl (blt rfl) rfl rfl rfl (fun hb => Y.load1 rfl Try.underlying22 rfl (evg rfl hb) (Blk.at_ext m6 rfl)) ?_
    refine WQ.callG rfl (blt rfl) rfl rfl rfl rfl rfl has72 (fun hb => (evs_cons (evg rfl hb) evs_nil)) (fun hb w hw => calls_ext hw (kids_any _ _ )) ?_
    refine WQ.yldG rfl (blt rfl) rfl rfl rfl (fun hb => Y.geq rfl (evg rfl hb) rfl) ?_
    refine WQ.yldG rfl (blt rfl) rfl rfl rfl (fun hb => Y.move rfl (evg rfl hb)) ?_
    refine WQ.yldGs [(_, _)] rfl (blt rfl) rfl rfl rfl (fun hb => Y.fieldAddr rfl Try.underlying28 rfl ti26 (by decide) rfl) ?_
    refine WQ.yldGs [(_, _)] rfl (blt rfl) rfl rfl rfl (fun hb => Y.load1 rfl Try.underlying26 rfl (evg (evg rfl hb.1) hb.2.1) (Blk.at_ext m6 rfl)) ?_
    refine WQ.yldGs [(_, _)] rfl (blt rfl) rfl rfl rfl (fun hb => Y.lenSl rfl rfl rfl Try.underlying26 (evs_cons (evg (evg rfl hb.1) hb.2.1) evs_nil)) ?_
    refine WQ.yldGs [(_, _)] rfl (blt rfl) rfl rfl rfl (fun hb => Y.fieldAddr rfl Try.underlying28 rfl ti22 (by decide) rfl) ?_
    refine WQ.yldGs [(_, _)] rfl (blt rfl) rfl rfl rfl (fun hb => Y.load1 rfl Try.underlying22 rfl (evg (evg rfl hb.1) hb.2.1) (Blk.at_ext m6 rfl)) ?_
    refine WQ.callGs [(_, _)] rfl (blt rfl) rfl rfl rfl rfl rfl has72 (fun hb => (evs_cons (evg (evg rfl hb.1) hb.2.1) evs_nil)) (fun hb w hw => calls_ext hw (kids_any _ _ )) ?_
    refine WQ.yldGs [(_, _)] rfl (blt rfl) rfl rfl rfl (fun hb => Y.neq rfl (evg (evg rfl hb.1) hb.2.1) (evg (evg rfl hb.1) hb.2.1)) ?_
    refine WQ.yldG rfl (blt rfl) rfl rfl rfl (fun hb => Y.and rfl (evg rfl hb) (evg rfl hb) rfl) ?_
    refine WQ.yld rfl (blt rfl) rfl (Y.or rfl rfl rfl rfl) ?_
    refine WQ.done (fun w14 x15 => ?_)
    have m6 := m6.ext x15
    have xW := Ext.trans xW x15
    refine WK.then_normal (k13 _ _ ?_)
    refine WC.sub [(1, _), (52, _)] ⟨rfl, rfl, trivial⟩ ?_
    refine WC.cond rfl (fun h16 => ?_) (fun h16 => ?_)
    ·
      have p16 := ((or_t h16).imp (fun h => ((or_t h).imp (fun h => (And.intro (eq_f (or_f (not_t (and_t h).1)).1) (eq_f (or_f (not_t (and_t h).1)).2))) (fun h => (eq_f (not_t (and_t h).1))))) (fun h => (And.intro (dec_t (and_t h).1) (eq_f (not_t (and_t h).2)))))
      refine WC.seq (fun K17 k17 => ?_)
      refine WC.region rfl ?_
      refine WL.yld rfl (blt rfl) rfl (Y.assign rfl rfl) ?_
      refine WL.nil ?_
      refine WK.then_normal (k17 _ _ ?_)
      refine WC.sub [(2, _)] ⟨rfl, trivial⟩ ?_
      refine WC.ret ?_
      refine WK.then_ret ?_
      clear k1 k7 k8 k11 k12 k13 k17
      refine WK.ret [_] rfl ⟨rfl, trivial⟩ ?_
      refine ⟨ret1 (vi ?_), xW⟩
      first | (exfalso; revert h9; simp; done) | (exfalso; revert h16; simp; done) | (have q0 := h9; (try simp only [Sx.emp_iff] at q0); (try simp only [Bool.not_false, Bool.not_true, Bool.and_true, Bool.and_false, Bool.true_and, Bool.false_and, Bool.or_false, Bool.false_or, Bool.and_eq_true, Bool.or_eq_true, Bool.not_eq_true', Bool.and_eq_false_iff, Bool.or_eq_false_iff, Bool.not_eq_false', decide_eq_true_eq, decide_eq_false_iff_not, beq_iff_eq, beq_eq_false_iff_ne, ne_eq, Sx.idF, Sx.idT] at q0); have q1 := h16; (try simp only [Sx.emp_iff] at q1); (try simp only [Bool.not_false, Bool.not_true, Bool.and_true, Bool.and_false, Bool.true_and, Bool.false_and, Bool.or_false, Bool.false_or, Bool.and_eq_true, Bool.or_eq_true, Bool.not_eq_true', Bool.and_eq_false_iff, Bool.or_eq_false_iff, Bool.not_eq_false', decide_eq_true_eq, decide_eq_false_iff_not, beq_iff_eq, beq_eq_false_iff_ne, ne_eq, Sx.idF, Sx.idT] at q1); by_cases o2 : x.op = 2 <;> first | (exfalso; omega) | (have kk := Sx.kid_rel x.op x.kids.length; unfold Sx.nodE; ((try simp only [Sx.idF]); (repeat (first | rw [if_pos (by omega)] | rw [if_neg (by omega)]))); done))
    ·
      have p16 := (And.intro (And.intro ((and_f (or_f (or_f h16).1).1).imp (fun h => ((or_t (not_f h)).imp (fun h => (eq_t h)) (fun h => (eq_t h)))) (fun h => h)) ((and_f (or_f (or_f h16).1).2).imp (fun h => (eq_t (not_f h))) (fun h => h))) ((and_f (or_f h16).2).imp (fun h => (dec_f h)) (fun h => (eq_t (not_f h)))))
      refine WC.skip ?_
      refine WK.then_normal (k12 _ _ ?_)
      refine WC.sub [(1, _)] ⟨rfl, trivial⟩ ?_
      refine WC.seq (fun K18 k18 => ?_)
      refine WC.seq (fun K19 k19 => ?_)
      refine WC.region rfl ?_
      refine WL.yld rfl (blt rfl) rfl (Y.fieldAddr rfl Try.underlying28 rfl ti22 (by decide) rfl) ?_
      refine WL.yld rfl (blt rfl) rfl (Y.load1 rfl Try.underlying22 rfl rfl (Blk.at_eq m6 rfl)) ?_
      refine WL.yld rfl (blt rfl) rfl (Y.eql rfl rfl rfl) ?_
      refine WL.nil ?_
      refine WK.then_normal (k19 _ _ ?_)
      refine WC.sub [(1, _), (55, _)] ⟨rfl, rfl, trivial⟩ ?_
      refine WC.cond rfl (fun h20 => ?_) (fun h20 => ?_)
      ·
        have p20 := (eq_t h20)
        refine WC.seq (fun K21 k21 => ?_)
        refine WC.region rfl ?_
        refine WL.yld rfl (blt rfl) rfl (Y.fieldAddr rfl Try.underlying28 rfl ti25 (by decide) rfl) ?_
        refine WL.yld rfl (blt rfl) rfl (Y.loadS (cs := [_, _, _]) rfl Try.underlying25 rfl ti25 rfl (Blk.part_eq m6 rfl)) ?_
        refine WL.call rfl (blt rfl) rfl rfl rfl has73 rfl (rconst_any _ _ _ _ (by omega)) ?_
        rintro _ w22 ⟨rfl, x23⟩
        refine ⟨_, rfl, ?_⟩
        have m6 := m6.ext x23
        have xW := Ext.trans xW x23
        refine WL.yld rfl (blt rfl) rfl (Y.assign rfl rfl) ?_
        refine WL.nil ?_
        refine WK.then_normal (k21 _ _ ?_)
        refine WC.sub [(2, _)] ⟨rfl, trivial⟩ ?_
        refine WC.ret ?_
        refine WK.then_ret ?_
        clear k1 k7 k8 k11 k12 k13 k18 k19 k21
        refine WK.ret [_] rfl ⟨rfl, trivial⟩ ?_
        refine ⟨ret1 (vi ?_), xW⟩
        first | (exfalso; revert h9; simp; done) | (exfalso; revert h16; simp; done) | (exfalso; revert h20; simp; done) | (have q0 := h9; (try simp only [Sx.emp_iff] at q0); (try simp only [Bool.not_false, Bool.not_true, Bool.and_true, Bool.and_false, Bool.true_and, Bool.false_and, Bool.or_false, Bool.false_or, Bool.and_eq_true, Bool.or_eq_true, Bool.not_eq_true', Bool.and_eq_false_iff, Bool.or_eq_false_iff, Bool.not_eq_false', decide_eq_true_eq, decide_eq_false_iff_not, beq_iff_eq, beq_eq_false_iff_ne, ne_eq, Sx.idF, Sx.idT] at q0); have q1 := h16; (try simp only [Sx.emp_iff] at q1); (try simp only [Bool.not_false, Bool.not_true, Bool.and_true, Bool.and_false, Bool.true_and, Bool.false_and, Bool.or_false, Bool.false_or, Bool.and_eq_true, Bool.or_eq_true, Bool.not_eq_true', Bool.and_eq_false_iff, Bool.or_eq_false_iff, Bool.not_eq_false', decide_eq_true_eq, decide_eq_false_iff_not, beq_iff_eq, beq_eq_false_iff_ne, ne_eq, Sx.idF, Sx.idT] at q1); have q2 := h20; (try simp only [Sx.emp_iff] at q2); (try simp only [Bool.not_false, Bool.not_true, Bool.and_true, Bool.and_false, Bool.true_and, Bool.false_and, Bool.or_false, Bool.false_or, Bool.and_eq_true, Bool.or_eq_true, Bool.not_eq_true', Bool.and_eq_false_iff, Bool.or_eq_false_iff, Bool.not_eq_false', decide_eq_true_eq, decide_eq_false_iff_not, beq_iff_eq, beq_eq_false_iff_ne, ne_eq, Sx.idF, Sx.idT] at q2); by_cases o2 : x.op = 2 <;> first | (exfalso; omega) | (have kk := Sx.kid_rel x.op x.kids.length; unfold Sx.nodE; ((try simp only [Sx.idF]); (repeat (first | rw [if_pos (by omega)] | rw [if_neg (by omega)]))); done))
      ·
        have p20 := (eq_f h20)
        refine WC.skip ?_
        refine WK.then_normal (k18 _ _ ?_)
        refine WC.sub [(1, _)] ⟨rfl, trivial⟩ ?_
        refine WC.seq (fun K24 k24 => ?_)
        refine WC.seq (fun K25 k25 => ?_)
        refine WC.region rfl ?_
        refine WL.yld rfl (blt rfl) rfl (Y.fieldAddr rfl Try.underlying28 rfl ti22 (by decide) rfl) ?_
        refine WL.yld rfl (blt rfl) rfl (Y.load1 rfl Try.underlying22 rfl rfl (Blk.at_eq m6 rfl)) ?_
        refine WL.yld rfl (blt rfl) rfl (Y.eql rfl rfl rfl) ?_
        refine WL.yld rfl (blt rfl) rfl (Y.move rfl rfl) ?_
        refine WL.yldG rfl (blt rfl) rfl rfl rfl (fun hb => Y.fieldAddr rfl Try.underlying28 rfl ti9 (by decide) rfl) ?_
        refine WL.yldG rfl (blt rfl) rfl rfl rfl (fun hb => Y.load1 rfl Try.underlying9 rfl (evg rfl hb) (Blk.at_eq m6 rfl)) ?_
        refine WL.callG rfl (blt rfl) rfl rfl rfl rfl rfl has42 (fun hb => (evs_cons (evg rfl hb) evs_nil)) (fun hb => rident_any _ _ (by omega)) (fun w26 x27 => ?_)
        have m6 := m6.ext x27
        have xW := Ext.trans xW x27
        refine WL.yldG rfl (blt rfl) rfl rfl rfl (fun hb => Y.not rfl (evg rfl hb)) ?_
        refine WL.yld rfl (blt rfl) rfl (Y.and rfl rfl rfl rfl) ?_
        refine WL.nil ?_
        refine WK.then_normal (k25 _ _ ?_)
        refine WC.sub [(1, _), (67, _)] ⟨rfl, rfl, trivial⟩ ?_
        refine WC.cond rfl (fun h28 => ?_) (fun h28 => ?_)
        ·
          have p28 := (eq_t (and_t h28).1)
          refine WC.seq (fun K29 k29 => ?_)
          refine WC.region rfl ?_
          refine WL.yld rfl (blt rfl) rfl (Y.assign rfl rfl) ?_
          refine WL.nil ?_
          refine WK.then_normal (k29 _ _ ?_)
          refine WC.sub [(2, _)] ⟨rfl, trivial⟩ ?_
          refine WC.ret ?_
          refine WK.then_ret ?_
          clear k1 k7 k8 k11 k12 k13 k18 k19 k24 k25 k29
          refine WK.ret [_] rfl ⟨rfl, trivial⟩ ?_
          refine ⟨ret1 (vi ?_), xW⟩
          first | (exfalso; revert h9; simp; done) | (exfalso; revert h16; simp; done) | (exfalso; revert h20; simp; done) | (exfalso; revert h28; simp; done) | (have q0 := h9; (try simp only [Sx.emp_iff] at q0); (try simp only [Bool.not_false, Bool.not_true, Bool.and_true, Bool.and_false, Bool.true_and, Bool.false_and, Bool.or_false, Bool.false_or, Bool.and_eq_true, Bool.or_eq_true, Bool.not_eq_true', Bool.and_eq_false_iff, Bool.or_eq_false_iff, Bool.not_eq_false', decide_eq_true_eq, decide_eq_false_iff_not, beq_iff_eq, beq_eq_false_iff_ne, ne_eq, Sx.idF, Sx.idT] at q0); have q1 := h16; (try simp only [Sx.emp_iff] at q1); (try simp only [Bool.not_false, Bool.not_true, Bool.and_true, Bool.and_false, Bool.true_and, Bool.false_and, Bool.or_false, Bool.false_or, Bool.and_eq_true, Bool.or_eq_true, Bool.not_eq_true', Bool.and_eq_false_iff, Bool.or_eq_false_iff, Bool.not_eq_false', decide_eq_true_eq, decide_eq_false_iff_not, beq_iff_eq, beq_eq_false_iff_ne, ne_eq, Sx.idF, Sx.idT] at q1); have q2 := h20; (try simp only [Sx.emp_iff] at q2); (try simp only [Bool.not_false, Bool.not_true, Bool.and_true, Bool.and_false, Bool.true_and, Bool.false_and, Bool.or_false, Bool.false_or, Bool.and_eq_true, Bool.or_eq_true, Bool.not_eq_true', Bool.and_eq_false_iff, Bool.or_eq_false_iff, Bool.not_eq_false', decide_eq_true_eq, decide_eq_false_iff_not, beq_iff_eq, beq_eq_false_iff_ne, ne_eq, Sx.idF, Sx.idT] at q2); have q3 := h28; (try simp only [Sx.emp_iff] at q3); (try simp only [Bool.not_false, Bool.not_true, Bool.and_true, Bool.and_false, Bool.true_and, Bool.false_and, Bool.or_false, Bool.false_or, Bool.and_eq_true, Bool.or_eq_true, Bool.not_eq_true', Bool.and_eq_false_iff, Bool.or_eq_false_iff, Bool.not_eq_false', decide_eq_true_eq, decide_eq_false_iff_not, beq_iff_eq, beq_eq_false_iff_ne, ne_eq, Sx.idF, Sx.idT] at q3); by_cases o2 : x.op = 2 <;> first | (exfalso; omega) | (have kk := Sx.kid_rel x.op x.kids.length; unfold Sx.nodE; ((try simp only [Sx.idF]); (repeat (first | rw [if_pos (by omega)] | rw [if_neg (by omega)]))); done))
        ·
          have p28 := ((and_f h28).imp (fun h => (eq_f h)) (fun h => h))
          refine WC.skip ?_
          refine WK.then_normal (k24 _ _ ?_)
          refine WC.sub [(1, _)] ⟨rfl, trivial⟩ ?_
          refine WC.seq (fun K30 k30 => ?_)
          refine WC.seq (fun K31 k31 => ?_)
          refine WC.region rfl ?_
          refine WL.yld rfl (blt rfl) rfl (Y.fieldAddr rfl Try.underlying28 rfl ti22 (by decide) rfl) ?_
          refine WL.yld rfl (blt rfl) rfl (Y.load1 rfl Try.underlying22 rfl rfl (Blk.at_eq m6 rfl)) ?_
          refine WL.yld rfl (blt rfl) rfl (Y.eql rfl rfl rfl) ?_
          refine WL.nil ?_
          refine WK.then_normal (k31 _ _ ?_)
          refine WC.sub [(1, _), (70, _)] ⟨rfl, rfl, trivial⟩ ?_
          refine WC.cond rfl (fun h32 => ?_) (fun h32 => ?_)
          ·
            have p32 := (eq_t h32)
            refine WC.seq (fun K33 k33 => ?_)
            refine WC.region rfl ?_
            refine WL.yld rfl (blt rfl) rfl (Y.loadS rfl Try.underlying28 rfl ti28 rfl (Blk.row_eq m6)) ?_
            refine WL.call rfl (blt rfl) rfl rfl rfl has74 rfl (called_any _ _ _ (g_x.ext xW) sh_x) ?_
            rintro _ w34 ⟨rfl, x35⟩
            refine ⟨_, rfl, ?_⟩
            have m6 := m6.ext x35
            have xW := Ext.trans xW x35
            refine WL.yld rfl (blt rfl) rfl (Y.assign rfl rfl) ?_
            refine WL.nil ?_
            refine WK.then_normal (k33 _ _ ?_)
            refine WC.sub [(2, _)] ⟨rfl, trivial⟩ ?_
            refine WC.ret ?_
            refine WK.then_ret ?_
            clear k1 k7 k8 k11 k12 k13 k18 k19 k24 k25 k30 k31 k33
            refine WK.ret [_] rfl ⟨rfl, trivial⟩ ?_
            refine ⟨ret1 (vi ?_), xW⟩
            first | (exfalso; revert h9; simp; done) | (exfalso; revert h16; simp; done) | (exfalso; revert h20; simp; done) | (exfalso; revert h28; simp; done) | (exfalso; revert h32; simp; done) | (have q0 := h9; (try simp only [Sx.emp_iff] at q0); (try simp only [Bool.not_false, Bool.not_true, Bool.and_true, Bool.and_false, Bool.true_and, Bool.false_and, Bool.or_false, Bool.false_or, Bool.and_eq_true, Bool.or_eq_true, Bool.not_eq_true', Bool.and_eq_false_iff, Bool.or_eq_false_iff, Bool.not_eq_false', decide_eq_true_eq, decide_eq_false_iff_not, beq_iff_eq, beq_eq_false_iff_ne, ne_eq, Sx.idF, Sx.idT] at q0); have q1 := h16; (try simp only [Sx.emp_iff] at q1); (try simp only [Bool.not_false, Bool.not_true, Bool.and_true, Bool.and_false, Bool.true_and, Bool.false_and, Bool.or_false, Bool.false_or, Bool.and_eq_true, Bool.or_eq_true, Bool.not_eq_true', Bool.and_eq_false_iff, Bool.or_eq_false_iff, Bool.not_eq_false', decide_eq_true_eq, decide_eq_false_iff_not, beq_iff_eq, beq_eq_false_iff_ne, ne_eq, Sx.idF, Sx.idT] at q1); have q2 := h20; (try simp only [Sx.emp_iff] at q2); (try simp only [Bool.not_false, Bool.not_true, Bool.and_true, Bool.and_false, Bool.true_and, Bool.false_and, Bool.or_false, Bool.false_or, Bool.and_eq_true, Bool.or_eq_true, Bool.not_eq_true', Bool.and_eq_false_iff, Bool.or_eq_false_iff, Bool.not_eq_false', decide_eq_true_eq, decide_eq_false_iff_not, beq_iff_eq, beq_eq_false_iff_ne, ne_eq, Sx.idF, Sx.idT] at q2); have q3 := h28; (try simp only [Sx.emp_iff] at q3); (try simp only [Bool.not_false, Bool.not_true, Bool.and_true, Bool.and_false, Bool.true_and, Bool.false_and, Bool.or_false, Bool.false_or, Bool.and_eq_true, Bool.or_eq_true, Bool.not_eq_true', Bool.and_eq_false_iff, Bool.or_eq_false_iff, Bool.not_eq_false', decide_eq_true_eq, decide_eq_false_iff_not, beq_iff_eq, beq_eq_false_iff_ne, ne_eq, Sx.idF, Sx.idT] at q3); have q4 := h32; (try simp only [Sx.emp_iff] at q4); (try simp only [Bool.not_false, Bool.not_true, Bool.and_true, Bool.and_false, Bool.true_and, Bool.false_and, Bool.or_false, Bool.false_or, Bool.and_eq_true, Bool.or_eq_true, Bool.not_eq_true', Bool.and_eq_false_iff, Bool.or_eq_false_iff, Bool.not_eq_false', decide_eq_true_eq, decide_eq_false_iff_not, beq_iff_eq, beq_eq_false_iff_ne, ne_eq, Sx.idF, Sx.idT] at q4); by_cases o2 : x.op = 2 <;> first | (exfalso; omega) | (have kk := Sx.kid_rel x.op x.kids.length; unfold Sx.nodE; ((try simp only [Sx.idF]); (repeat (first | rw [if_pos (by omega)] | rw [if_neg (by omega)]))); done))
          ·
            have p32 := (eq_f h32)
            refine WC.skip ?_
            refine WK.then_normal (k30 _ _ ?_)
            refine WC.sub [] trivial ?_
            refine WC.seq (fun K36 k36 => ?_)
            refine WC.region rfl ?_
            refine WL.yld rfl (blt rfl) rfl (Y.assign rfl rfl) ?_
            refine WL.nil ?_
            refine WK.then_normal (k36 _ _ ?_)
            refine WC.ret ?_
            clear k1 k7 k8 k11 k12 k13 k18 k19 k24 k25 k30 k31 k36
            refine WK.ret [_] rfl ⟨rfl, trivial⟩ ?_
            refine ⟨ret1 (vi ?_), xW⟩
            first | (exfalso; revert h9; simp; done) | (exfalso; revert h16; simp; done) | (exfalso; revert h20; simp; done) | (exfalso; revert h28; simp; done) | (exfalso; revert h32; simp; done) | (have q0 := h9; (try simp only [Sx.emp_iff] at q0); (try simp only [Bool.not_false, Bool.not_true, Bool.and_true, Bool.and_false, Bool.true_and, Bool.false_and, Bool.or_false, Bool.false_or, Bool.and_eq_true, Bool.or_eq_true, Bool.not_eq_true', Bool.and_eq_false_iff, Bool.or_eq_false_iff, Bool.not_eq_false', decide_eq_true_eq, decide_eq_false_iff_not, beq_iff_eq, beq_eq_false_iff_ne, ne_eq, Sx.idF, Sx.idT] at q0); have q1 := h16; (try simp only [Sx.emp_iff] at q1); (try simp only [Bool.not_false, Bool.not_true, Bool.and_true, Bool.and_false, Bool.true_and, Bool.false_and, Bool.or_false, Bool.false_or, Bool.and_eq_true, Bool.or_eq_true, Bool.not_eq_true', Bool.and_eq_false_iff, Bool.or_eq_false_iff, Bool.not_eq_false', decide_eq_true_eq, decide_eq_false_iff_not, beq_iff_eq, beq_eq_false_iff_ne, ne_eq, Sx.idF, Sx.idT] at q1); have q2 := h20; (try simp only [Sx.emp_iff] at q2); (try simp only [Bool.not_false, Bool.not_true, Bool.and_true, Bool.and_false, Bool.true_and, Bool.false_and, Bool.or_false, Bool.false_or, Bool.and_eq_true, Bool.or_eq_true, Bool.not_eq_true', Bool.and_eq_false_iff, Bool.or_eq_false_iff, Bool.not_eq_false', decide_eq_true_eq, decide_eq_false_iff_not, beq_iff_eq, beq_eq_false_iff_ne, ne_eq, Sx.idF, Sx.idT] at q2); have q3 := h28; (try simp only [Sx.emp_iff] at q3); (try simp only [Bool.not_false, Bool.not_true, Bool.and_true, Bool.and_false, Bool.true_and, Bool.false_and, Bool.or_false, Bool.false_or, Bool.and_eq_true, Bool.or_eq_true, Bool.not_eq_true', Bool.and_eq_false_iff, Bool.or_eq_false_iff, Bool.not_eq_false', decide_eq_true_eq, decide_eq_false_iff_not, beq_iff_eq, beq_eq_false_iff_ne, ne_eq, Sx.idF, Sx.idT] at q3); have q4 := h32; (try simp only [Sx.emp_iff] at q4); (try simp only [Bool.not_false, Bool.not_true, Bool.and_true, Bool.and_false, Bool.true_and, Bool.false_and, Bool.or_false, Bool.false_or, Bool.and_eq_true, Bool.or_eq_true, Bool.not_eq_true', Bool.and_eq_false_iff, Bool.or_eq_false_iff, Bool.not_eq_false', decide_eq_true_eq, decide_eq_false_iff_not, beq_iff_eq, beq_eq_false_iff_ne, ne_eq, Sx.idF, Sx.idT] at q4); by_cases o2 : x.op = 2 <;> first | (exfalso; omega) | (have kk := Sx.kid_rel x.op x.kids.length; unfold Sx.nodE; ((try simp only [Sx.idF]); (repeat (first | rw [if_pos (by omega)] | rw [if_neg (by omega)]))); done))
end B
end SxW

end Go.Proofs.Ytklccakoblibmaa
