/- The walk of the law. Conditions: what each theorem states. -/
import Derived.Test.YtcojkflgcccjeaaFlHas
namespace Go.Proofs.Ytcojkflgcccjeaa
open Go Go.Eng Go.RowKit
set_option linter.unusedVariables false
namespace FlW
open R O V H
namespace LFlowEnds
theorem ti3 : TI Try.prog 3 (.int .i64 0) 1 8 := TI.mk (by kernel_rfl)
theorem ti35 : TI Try.prog 35 (.int .i64 0) 1 8 := TI.mk (by kernel_rfl)
theorem ti38 : TI Try.prog 38 (.agg #[.int .i64 0, .int .i64 0, .string ⟨#[]⟩, .int .i64 0, .int .i64 0, .slice none 0 0]) 6 72 := TI.mk (by kernel_rfl)
theorem ti40 : TI Try.prog 40 (.agg #[.int .i64 0, .int .i64 0]) 2 16 := TI.mk (by kernel_rfl)
theorem ti44 : TI Try.prog 44 (.agg #[.int .i64 0, .int .i64 0, .int .i64 0, .int .i64 0, .string ⟨#[]⟩, .int .i64 0, .int .i64 0, .slice none 0 0, .int .i64 0, .int .i64 0]) 10 104 := TI.mk (by kernel_rfl)
theorem ti46 : TI Try.prog 46 (.agg #[.int .i64 0, .int .i64 0, .int .i64 0, .int .i64 0, .int .i64 0, .int .i64 0, .int .i64 0]) 7 56 := TI.mk (by kernel_rfl)
theorem has9 : Has Try.prog 9 := ⟨_, Try.func9, rfl, by kernel_rfl⟩
theorem has11 : Has Try.prog 11 := ⟨_, Try.func11, rfl, by kernel_rfl⟩
theorem has14 : Has Try.prog 14 := ⟨_, Try.func14, rfl, by kernel_rfl⟩
theorem has20 : Has Try.prog 20 := ⟨_, Try.func20, rfl, by kernel_rfl⟩
theorem has21 : Has Try.prog 21 := ⟨_, Try.func21, rfl, by kernel_rfl⟩
theorem eqg40 : Try.prog.eqGuardType Try.prog.depth 40 = false := by kernel_rfl
theorem eq40 (a0 : Int) (a1 : Int) (b0 : Int) (b1 : Int) (w : World) : (Op.equalIn 10000 40 (.agg #[.int .i64 a0, .int .i64 a1]) (.agg #[.int .i64 b0, .int .i64 b1])).run Try.prog w = .ok ((a0 == b0) && (a1 == b1)) w := by
  go_simp
  (repeat' split) <;> simp_all
theorem FlowEnds_any (A_o : Option Addr) (n_o c_o : Nat) (o : List Fl.Ev) (w : World) (h_o : Ls w A_o n_o c_o Fl.Ev.c 10 o) (wf_o : ∀ x ∈ o, (Lit.int .i64 x.n).wf = true) :
    Calls Try.prog 5 #[.slice A_o n_o c_o] w fun e w' => e = .returned (.bool true) ∧ Ext w w' := by
  have xW := Ext.refl w
  have e_o := h_o.len
  have z_o := h_o.nle
  refine calls_of_WC (args := [.slice A_o n_o c_o]) Try.func5 rfl rfl (ble rfl) ?_
  refine WC.seq (fun K1 k1 => ?_)
  refine WC.region rfl ?_
  refine WL.yld rfl (blt rfl) rfl (Y.assign rfl rfl) ?_
  refine WL.nil ?_
  refine WK.then_normal (k1 _ _ ?_)
  refine WC.sub [(0, _)] ⟨rfl, trivial⟩ ?_
  refine WC.seq (fun K2 k2 => ?_)
  refine WC.seq (fun K3 k3 => ?_)
  refine WC.region rfl ?_
  refine WL.yld rfl (blt rfl) rfl (Y.move rfl rfl) ?_
  refine WL.yld rfl (blt rfl) rfl (Y.lenSl rfl rfl rfl Try.underlying22 rfl) ?_
  refine WL.yld rfl (blt rfl) rfl (Y.gtr rfl rfl rfl) ?_
  refine WL.nil ?_
  refine WK.then_normal (k3 _ _ ?_)
  refine WC.sub [(0, _), (13, _)] ⟨rfl, rfl, trivial⟩ ?_
  refine WC.cond rfl (fun h4 => ?_) (fun h4 => ?_)
  ·
    have p4 := (dec_t h4)
    refine WC.seq (fun K5 k5 => ?_)
    refine WC.region rfl ?_
    refine WL.call rfl (blt rfl) rfl rfl rfl has9 rfl (awake_any _ ) ?_
    rintro _ w6 ⟨rfl, x7⟩
    refine ⟨_, rfl, ?_⟩
    have xW := Ext.trans xW x7
    refine WL.yld rfl (blt rfl) rfl (Y.assign rfl rfl) ?_
    refine WL.nil ?_
    refine WK.then_normal (k5 _ _ ?_)
    refine WC.sub [(2, _)] ⟨rfl, trivial⟩ ?_
    refine WC.ret ?_
    refine WK.then_ret ?_
    clear k1 k2 k3 k5
    refine WK.ret [_] rfl ⟨rfl, trivial⟩ ?_
    exact ⟨ret1 (vb rfl), xW⟩
  ·
    have p4 := (dec_f h4)
    refine WC.skip ?_
    refine WK.then_normal (k2 _ _ ?_)
    refine WC.sub [(0, _)] ⟨rfl, trivial⟩ ?_
    refine WC.seq (fun K8 k8 => ?_)
    refine WC.region rfl ?_
    refine WL.yld rfl (blt rfl) rfl (Y.move rfl rfl) ?_
    refine WL.call rfl (blt rfl) rfl rfl rfl has11 rfl (of_any _ _ _ _ _ (h_o.ext xW) (by omega)) ?_
    rintro _ w9 ⟨v11, rfl, ow12, x10⟩
    refine ⟨_, rfl, ?_⟩
    have ow12 := OwnL.base_le ow12 xW.size
    have xW := Ext.trans xW x10
    refine WL.yld rfl (blt rfl) rfl (Y.assign rfl rfl) ?_
    refine WL.nil ?_
    refine WK.then_normal (k8 _ _ ?_)
    refine WC.sub [(0, _), (3, _)] ⟨rfl, rfl, trivial⟩ ?_
    refine WC.seq (fun K13 k13 => ?_)
    refine WC.region rfl ?_
    refine WL.yld rfl (blt rfl) rfl (Y.move rfl rfl) ?_
    refine WL.call rfl (blt rfl) rfl rfl rfl has14 rfl (open_any _ _ _ _ _ (h_o.ext xW) (by omega) wf_o) ?_
    rintro _ w14 ⟨v16, rfl, ow17, x15⟩
    refine ⟨_, rfl, ?_⟩
    have d_v11_v16 := (Apart.res ow17 ow12).symm
    have ow17 := OwnL.base_le ow17 xW.size
    have ow12 := ow12.ext x15
    have xW := Ext.trans xW x15
    refine WL.yld rfl (blt rfl) rfl (Y.assign rfl rfl) ?_
    refine WL.nil ?_
    refine WK.then_normal (k13 _ _ ?_)
    refine WC.sub [(0, _), (3, _), (4, _)] ⟨rfl, rfl, rfl, trivial⟩ ?_
    refine WC.seq (fun K18 k18 => ?_)
    refine WC.region rfl ?_
    refine WL.yld rfl (blt rfl) rfl (Y.assign rfl rfl) ?_
    refine WL.nil ?_
    refine WK.then_normal (k18 _ _ ?_)
    refine WC.seq (fun K19 k19 => ?_)
    refine WC.seq (fun K20 k20 => ?_)
    refine WC.region rfl ?_
    refine WL.yld rfl (blt rfl) rfl (Y.assign rfl rfl) ?_
    refine WL.nil ?_
    refine WK.then_normal (k20 _ _ ?_)
    refine WC.block ?_
    refine WC.sub [(6, _), (5, _), (0, _), (3, _), (4, _)] ⟨rfl, rfl, rfl, rfl, rfl, trivial⟩ ?_
    refine WC.loopS 2 (fun mz Ed W' => ∃ i : Nat, ∃ k : Nat, mz = n_o - i ∧ Ed = [(6, .int .i64 ((i : Nat) : Int)), (5, .int .i64 ((k : Nat) : Int))] ∧ Ext w W' ∧ OwnL W' w.heap.size 46 Fl.Flow.c 7 v11 _ ∧ OwnL W' w.heap.size 3 Fl.ic 1 v16 _ ∧ (i ≤ n_o) ∧ (k = (Fl.run (o.take i)).2.length)) _ ⟨0, 0, rfl, rfl, xW, ow12, ow17, (Nat.zero_le _), rfl⟩ ?_
    rintro _ _ w21 ⟨i, k, rfl, rfl, xW, ow12, ow17, le_i, kj⟩
    refine WC.sub [(6, _), (5, _), (0, _), (3, _), (4, _)] ⟨rfl, rfl, rfl, rfl, rfl, trivial⟩ ?_
    refine WC.seq (fun K22 k22 => ?_)
    refine WC.seq (fun K23 k23 => ?_)
    refine WC.region rfl ?_
    refine WL.yld rfl (blt rfl) rfl (Y.move rfl rfl) ?_
    refine WL.yld rfl (blt rfl) rfl (Y.move rfl rfl) ?_
    refine WL.yld rfl (blt rfl) rfl (Y.lenSl rfl rfl rfl Try.underlying22 rfl) ?_
    refine WL.yld rfl (blt rfl) rfl (Y.lss rfl rfl rfl) ?_
    refine WL.nil ?_
    refine WK.then_normal (k23 _ _ ?_)
    refine WC.sub [(0, _), (3, _), (4, _), (5, _), (6, _), (22, _)] ⟨rfl, rfl, rfl, rfl, rfl, rfl, trivial⟩ ?_
    refine WC.cond rfl (fun h24 => ?_) (fun h24 => ?_)
    ·
      have p24 := (dec_t h24)
      refine WC.skip ?_
      refine WK.then_normal (k22 _ _ ?_)
      refine WC.sub [(0, _), (3, _), (4, _), (5, _), (6, _)] ⟨rfl, rfl, rfl, rfl, rfl, trivial⟩ ?_
      refine WC.seq (fun K25 k25 => ?_)
      refine WC.block ?_
      refine WC.seq (fun K26 k26 => ?_)
      refine WC.region rfl ?_
      refine WL.yld rfl (blt rfl) rfl (Y.assign rfl rfl) ?_
      refine WL.nil ?_
      refine WK.then_normal (k26 _ _ ?_)
      refine WC.seq (fun K27 k27 => ?_)
      refine WC.seq (fun K28 k28 => ?_)
      refine WC.region rfl ?_
      refine WL.yld rfl (blt rfl) rfl (Y.assign rfl rfl) ?_
      refine WL.nil ?_
      refine WK.then_normal (k28 _ _ ?_)
      refine WC.block ?_
      refine WC.sub [(8, _), (7, _), (0, _), (3, _), (4, _), (5, _), (6, _)] ⟨rfl, rfl, rfl, rfl, rfl, rfl, rfl, trivial⟩ ?_
      refine WC.loopS 2 (fun mz Ed W' => ∃ j : Nat, ∃ z : Int, mz = i - j ∧ Ed = [(8, .int .i64 ((j : Nat) : Int)), (7, .int .i64 z)] ∧ Ext w W' ∧ OwnL W' w.heap.size 46 Fl.Flow.c 7 v11 _ ∧ OwnL W' w.heap.size 3 Fl.ic 1 v16 _ ∧ (j ≤ i) ∧ (z = Fl.lastIdx o o[i]!.n j)) _ ⟨0, _, rfl, rfl, xW, ow12, ow17, (Nat.zero_le _), rfl⟩ ?_
      rintro _ _ w29 ⟨j, z, rfl, rfl, xW, ow12, ow17, le_j, inv_j⟩
      refine WC.sub [(8, _), (7, _), (0, _), (3, _), (4, _), (5, _), (6, _)] ⟨rfl, rfl, rfl, rfl, rfl, rfl, rfl, trivial⟩ ?_
      refine WC.seq (fun K30 k30 => ?_)
      refine WC.seq (fun K31 k31 => ?_)
      refine WC.region rfl ?_
      refine WL.yld rfl (blt rfl) rfl (Y.move rfl rfl) ?_
      refine WL.yld rfl (blt rfl) rfl (Y.move rfl rfl) ?_
      refine WL.yld rfl (blt rfl) rfl (Y.lss rfl rfl rfl) ?_
      refine WL.nil ?_
      refine WK.then_normal (k31 _ _ ?_)
      refine WC.sub [(0, _), (3, _), (4, _), (5, _), (6, _), (7, _), (8, _), (27, _)] ⟨rfl, rfl, rfl, rfl, rfl, rfl, rfl, rfl, trivial⟩ ?_
      refine WC.cond rfl (fun h32 => ?_) (fun h32 => ?_)
      ·
        have p32 := (dec_t h32)
        refine WC.skip ?_
        refine WK.then_normal (k30 _ _ ?_)
        refine WC.sub [(0, _), (3, _), (4, _), (5, _), (6, _), (7, _), (8, _)] ⟨rfl, rfl, rfl, rfl, rfl, rfl, rfl, trivial⟩ ?_
        refine WC.seq (fun K33 k33 => ?_)
        refine WC.block ?_
        refine WC.seq (fun K34 k34 => ?_)
        refine WC.regionDq (by kernel_rfl) (by kernel_rfl) rfl ?_
        refine WQ.yld rfl (blt rfl) rfl (Y.move rfl rfl) ?_
        refine WQ.yld rfl (blt rfl) rfl (Y.move rfl rfl) ?_
        have b35 : j < n_o := by omega
        refine WQ.yld rfl (blt rfl) rfl (Y.indexLs j (h_o.ext xW) rfl Try.underlying22 ti44 rfl rfl rfl b35) ?_
        refine WQ.yld rfl (blt rfl) rfl (Y.fieldE rfl Try.underlying44 rfl ti38 (by decide) rfl) ?_
        refine WQ.yld rfl (blt rfl) rfl (Y.fieldE rfl Try.underlying38 rfl ti35 (by decide) rfl) ?_
        refine WQ.yld rfl (blt rfl) rfl (Y.load1 rfl Try.underlying35 rfl rfl (Ls.at_ext (h_o.ext xW) b35 rfl)) ?_
        refine WQ.yld rfl (blt rfl) rfl (Y.eql rfl rfl rfl) ?_
        refine WQ.yld rfl (blt rfl) rfl (Y.move rfl rfl) ?_
        refine WQ.yldG rfl (blt rfl) rfl rfl rfl (fun hb => Y.move rfl rfl) ?_
        refine WQ.yldG rfl (blt rfl) rfl rfl rfl (fun hb => Y.move rfl rfl) ?_
        refine WQ.yldG rfl (blt rfl) rfl rfl rfl (fun hb => Y.indexLs j (h_o.ext xW) rfl Try.underlying22 ti44 (evg rfl hb) (evg rfl hb) rfl (by have q0 := (eq_t hb); omega)) ?_
        refine WQ.yldG rfl (blt rfl) rfl rfl rfl (fun hb => Y.fieldE rfl Try.underlying44 rfl ti38 (by decide) (evg rfl hb)) ?_
        refine WQ.yldG rfl (blt rfl) rfl rfl rfl (fun hb => Y.fieldE rfl Try.underlying38 rfl ti3 (by decide) (evg rfl hb)) ?_
        refine WQ.yldG rfl (blt rfl) rfl rfl rfl (fun hb => Y.load1 rfl Try.underlying3 rfl (evg rfl hb) (Ls.at_ext (h_o.ext xW) (by have q0 := (eq_t hb); omega) rfl)) ?_
        refine WQ.yldG rfl (blt rfl) rfl rfl rfl (fun hb => Y.move rfl rfl) ?_
        refine WQ.yldG rfl (blt rfl) rfl rfl rfl (fun hb => Y.move rfl rfl) ?_
        refine WQ.yldG rfl (blt rfl) rfl rfl rfl (fun hb => Y.indexLs i (h_o.ext xW) rfl Try.underlying22 ti44 (evg rfl hb) (evg rfl hb) rfl (by have q0 := (eq_t hb); omega)) ?_
        refine WQ.yldG rfl (blt rfl) rfl rfl rfl (fun hb => Y.fieldE rfl Try.underlying44 rfl ti38 (by decide) (evg rfl hb)) ?_
        refine WQ.yldG rfl (blt rfl) rfl rfl rfl (fun hb => Y.fieldE rfl Try.underlying38 rfl ti3 (by decide) (evg rfl hb)) ?_
        refine WQ.yldG rfl (blt rfl) rfl rfl rfl (fun hb => Y.load1 rfl Try.underlying3 rfl (evg rfl hb) (Ls.at_ext (h_o.ext xW) (by have q0 := (eq_t hb); omega) rfl)) ?_
        refine WQ.yldG rfl (blt rfl) rfl rfl rfl (fun hb => Y.eql rfl (evg rfl hb) (evg rfl hb)) ?_
        refine WQ.yld rfl (blt rfl) rfl (Y.and rfl rfl rfl rfl) ?_
        refine WQ.done (fun w36 x37 => ?_)
        have ow12 := ow12.ext x37
        have ow17 := ow17.ext x37
        have xW := Ext.trans xW x37
        refine WK.then_normal (k34 _ _ ?_)
        refine WC.sub [(0, _), (3, _), (4, _), (5, _), (6, _), (7, _), (8, _), (51, _)] ⟨rfl, rfl, rfl, rfl, rfl, rfl, rfl, rfl, trivial⟩ ?_
        refine WC.cond rfl (fun h38 => ?_) (fun h38 => ?_)
        ·
          have p38 := (And.intro (eq_t (and_t h38).1) (eq_t (and_t h38).2))
          refine WC.region rfl ?_
          refine WL.yld rfl (blt rfl) rfl (Y.move rfl rfl) ?_
          refine WL.yld rfl (blt rfl) rfl (Y.assign rfl rfl) ?_
          refine WL.nil ?_
          refine WK.in_normal ?_
          refine WK.then_normal (k33 _ _ ?_)
          refine WC.sub [(0, _), (3, _), (4, _), (5, _), (6, _), (7, _), (8, _)] ⟨rfl, rfl, rfl, rfl, rfl, rfl, rfl, trivial⟩ ?_
          refine WC.region rfl ?_
          refine WL.yld rfl (blt rfl) rfl (Y.move rfl rfl) ?_
          refine WL.yld rfl (blt rfl) rfl (Y.add rfl rfl rfl (wrap_i64 (by first | omega | (dsimp only; omega)))) ?_
          refine WL.yld rfl (blt rfl) rfl (Y.assign rfl rfl) ?_
          refine WL.nil ?_
          refine WK.roundS _ [(8, .int .i64 (((j + 1) : Nat) : Int)), (7, .int .i64 _)] ⟨rfl, rfl, rfl, rfl, rfl, rfl, rfl, trivial⟩ ?_ ⟨(j + 1), _, rfl, rfl, xW, ow12, ow17, (by omega), (by rw [Fl.lastIdx, if_pos h38])⟩
          show _ - (j + 1) < _ - j; omega
        ·
          have p38 := ((and_f h38).imp (fun h => (eq_f h)) (fun h => (eq_f h)))
          refine WC.skip ?_
          refine WK.in_normal ?_
          refine WK.then_normal (k33 _ _ ?_)
          refine WC.sub [(0, _), (3, _), (4, _), (5, _), (6, _), (7, _), (8, _)] ⟨rfl, rfl, rfl, rfl, rfl, rfl, rfl, trivial⟩ ?_
          refine WC.region rfl ?_
          refine WL.yld rfl (blt rfl) rfl (Y.move rfl rfl) ?_
          refine WL.yld rfl (blt rfl) rfl (Y.add rfl rfl rfl (wrap_i64 (by first | omega | (dsimp only; omega)))) ?_
          refine WL.yld rfl (blt rfl) rfl (Y.assign rfl rfl) ?_
          refine WL.nil ?_
          refine WK.roundS _ [(8, .int .i64 (((j + 1) : Nat) : Int)), (7, .int .i64 _)] ⟨rfl, rfl, rfl, rfl, rfl, rfl, rfl, trivial⟩ ?_ ⟨(j + 1), _, rfl, rfl, xW, ow12, ow17, (by omega), (by rw [Fl.lastIdx, if_neg (by rw [h38]; exact Bool.false_ne_true)]; exact inv_j)⟩
          show _ - (j + 1) < _ - j; omega
      ·
        have p32 := (dec_f h32)
        refine WC.exit ?_
        refine WK.then_exit ?_
        refine WK.then_exit ?_
        refine WK.in_exit ?_
        refine WK.then_normal (k27 _ _ ?_)
        refine WC.sub [(0, _), (3, _), (4, _), (5, _), (6, _), (7, _)] ⟨rfl, rfl, rfl, rfl, rfl, rfl, trivial⟩ ?_
        refine WC.seq (fun K39 k39 => ?_)
        refine WC.seq (fun K40 k40 => ?_)
        refine WC.region rfl ?_
        refine WL.yld rfl (blt rfl) rfl (Y.move rfl rfl) ?_
        refine WL.yld rfl (blt rfl) rfl (Y.move rfl rfl) ?_
        have b41 : i < n_o := by omega
        refine WL.yld rfl (blt rfl) rfl (Y.indexLs i (h_o.ext xW) rfl Try.underlying22 ti44 rfl rfl rfl b41) ?_
        refine WL.yld rfl (blt rfl) rfl (Y.fieldE rfl Try.underlying44 rfl ti38 (by decide) rfl) ?_
        refine WL.yld rfl (blt rfl) rfl (Y.fieldE rfl Try.underlying38 rfl ti35 (by decide) rfl) ?_
        refine WL.yld rfl (blt rfl) rfl (Y.load1 rfl Try.underlying35 rfl rfl (Ls.at_eq (h_o.ext xW) b41 rfl)) ?_
        refine WL.yld rfl (blt rfl) rfl (Y.neq rfl rfl rfl) ?_
        refine WL.yld rfl (blt rfl) rfl (Y.move rfl rfl) ?_
        refine WL.yldG rfl (blt rfl) rfl rfl rfl (fun hb => Y.move rfl rfl) ?_
        refine WL.yldG rfl (blt rfl) rfl rfl rfl (fun hb => Y.lss rfl (evg rfl hb) rfl) ?_
        refine WL.yld rfl (blt rfl) rfl (Y.or rfl rfl rfl rfl) ?_
        refine WL.nil ?_
        refine WK.then_normal (k40 _ _ ?_)
        refine WC.sub [(0, _), (3, _), (4, _), (5, _), (6, _), (7, _), (63, _)] ⟨rfl, rfl, rfl, rfl, rfl, rfl, rfl, trivial⟩ ?_
        refine WC.cond rfl (fun h42 => ?_) (fun h42 => ?_)
        ·
          have p42 := ((or_t h42).imp (fun h => (eq_f (not_t h))) (fun h => (dec_t h)))
          refine WC.exit ?_
          refine WK.then_exit ?_
          refine WK.in_exit ?_
          refine WK.then_normal (k25 _ _ ?_)
          refine WC.sub [(0, _), (3, _), (4, _), (5, _), (6, _)] ⟨rfl, rfl, rfl, rfl, rfl, trivial⟩ ?_
          refine WC.region rfl ?_
          refine WL.yld rfl (blt rfl) rfl (Y.move rfl rfl) ?_
          refine WL.yld rfl (blt rfl) rfl (Y.add rfl rfl rfl (wrap_i64 (by first | omega | (dsimp only; omega)))) ?_
          refine WL.yld rfl (blt rfl) rfl (Y.assign rfl rfl) ?_
          refine WL.nil ?_
          refine WK.roundS _ [(6, .int .i64 (((i + 1) : Nat) : Int)), (5, .int .i64 ((k : Nat) : Int))] ⟨rfl, rfl, rfl, rfl, rfl, trivial⟩ ?_ ⟨(i + 1), k, rfl, rfl, xW, ow12, ow17, (by omega), (by rw [Fl.ends_skip (show i < o.length from by omega) (show j = i from by omega) inv_j h42]; exact kj)⟩
          show _ - (i + 1) < _ - i; omega
        ·
          have p42 := (And.intro (eq_t (not_f (or_f h42).1)) (dec_f (or_f h42).2))
          have en := Fl.ends_at (show i < o.length from by omega) (or_f h42).1 (by have q := Fl.ends_last (show j = i from by omega) inv_j h42; exact q)
          have ez := Fl.lastIdx_lt o o[i]!.n i
          have eq_z : z = Fl.lastIdx o o[i]!.n i := by rw [inv_j, show j = i from by omega]
          rw [← eq_z, ← kj] at en
          refine WC.skip ?_
          refine WK.then_normal (k39 _ _ ?_)
          refine WC.sub [(0, _), (3, _), (4, _), (5, _), (6, _), (7, _)] ⟨rfl, rfl, rfl, rfl, rfl, rfl, trivial⟩ ?_
          refine WC.seq (fun K43 k43 => ?_)
          refine WC.seq (fun K44 k44 => ?_)
          refine WC.regionDq (by kernel_rfl) (by kernel_rfl) rfl ?_
          refine WQ.yld rfl (blt rfl) rfl (Y.move rfl rfl) ?_
          refine WQ.yld rfl (blt rfl) rfl (Y.move rfl rfl) ?_
          obtain ⟨A45, n46, c47, rfl, hl48⟩ := OwnL.opened ow12 (fun _ => rfl) (by decide)
          have e_n46 := hl48.len
          try simp only [List.length_append, List.length_cons, List.length_nil, List.length_reverse, List.length_drop, List.length_take] at e_n46
          have z_n46 := hl48.nle
          refine WQ.yld rfl (blt rfl) rfl (Y.lenSl rfl rfl rfl Try.underlying25 rfl) ?_
          refine WQ.yld rfl (blt rfl) rfl (Y.geq rfl rfl rfl) ?_
          refine WQ.yld rfl (blt rfl) rfl (Y.move rfl rfl) ?_
          refine WQ.yldG rfl (blt rfl) rfl rfl rfl (fun hb => Y.move rfl rfl) ?_
          refine WQ.yldG rfl (blt rfl) rfl rfl rfl (fun hb => Y.move rfl rfl) ?_
          refine WQ.yldG rfl (blt rfl) rfl rfl rfl (fun hb => Y.indexLs k hl48 rfl Try.underlying25 ti46 (evg rfl hb) (evg rfl hb) rfl (by have q0 := (dec_f hb); omega)) ?_
          refine WQ.yldG rfl (blt rfl) rfl rfl rfl (fun hb => Y.fieldE rfl Try.underlying46 rfl ti3 (by decide) (evg rfl hb)) ?_
          refine WQ.yldG rfl (blt rfl) rfl rfl rfl (fun hb => Y.load1 rfl Try.underlying3 rfl (evg rfl hb) (Ls.at_ext hl48 (by have q0 := (dec_f hb); omega) rfl)) ?_
          refine WQ.yldG rfl (blt rfl) rfl rfl rfl (fun hb => Y.move rfl rfl) ?_
          refine WQ.yldG rfl (blt rfl) rfl rfl rfl (fun hb => Y.move rfl rfl) ?_
          refine WQ.yldG rfl (blt rfl) rfl rfl rfl (fun hb => Y.indexLs i (h_o.ext xW) rfl Try.underlying22 ti44 (evg rfl hb) (evg rfl hb) rfl (by have q0 := (dec_f hb); omega)) ?_
          refine WQ.yldG rfl (blt rfl) rfl rfl rfl (fun hb => Y.fieldE rfl Try.underlying44 rfl ti38 (by decide) (evg rfl hb)) ?_
          refine WQ.yldG rfl (blt rfl) rfl rfl rfl (fun hb => Y.fieldE rfl Try.underlying38 rfl ti3 (by decide) (evg rfl hb)) ?_
          refine WQ.yldG rfl (blt rfl) rfl rfl rfl (fun hb => Y.load1 rfl Try.underlying3 rfl (evg rfl hb) (Ls.at_ext (h_o.ext xW) (by have q0 := (dec_f hb); omega) rfl)) ?_
          refine WQ.yldG rfl (blt rfl) rfl rfl rfl (fun hb => Y.neq rfl (evg rfl hb) (evg rfl hb)) ?_
          refine WQ.yld rfl (blt rfl) rfl (Y.or rfl rfl rfl rfl) ?_
          refine WQ.yld rfl (blt rfl) rfl (Y.move rfl rfl) ?_
          refine WQ.yldG rfl (blt rfl) rfl rfl rfl (fun hb => Y.move rfl rfl) ?_
          refine WQ.yldG rfl (blt rfl) rfl rfl rfl (fun hb => Y.move rfl rfl) ?_
          refine WQ.yldG rfl (blt rfl) rfl rfl rfl (fun hb => Y.indexLs k hl48 rfl Try.underlying25 ti46 (evg rfl hb) (evg rfl hb) rfl (by have q0 := (And.intro (dec_f (or_f hb).1) (eq_t (not_f (or_f hb).2))); omega)) ?_
          refine WQ.yldG rfl (blt rfl) rfl rfl rfl (fun hb => Y.fieldE rfl Try.underlying46 rfl ti40 (by decide) (evg rfl hb)) ?_
          refine WQ.yldG rfl (blt rfl) rfl rfl rfl (fun hb => Y.loadS (cs := [_, _]) rfl Try.underlying40 rfl ti40 (evg rfl hb) (Ls.part_ext hl48 (by have q0 := (And.intro (dec_f (or_f hb).1) (eq_t (not_f (or_f hb).2))); omega) rfl)) ?_
          refine WQ.yldG rfl (blt rfl) rfl rfl rfl (fun hb => Y.move rfl rfl) ?_
          refine WQ.yldG rfl (blt rfl) rfl rfl rfl (fun hb => Y.move rfl rfl) ?_
          refine WQ.yldG rfl (blt rfl) rfl rfl rfl (fun hb => Y.indexLs i (h_o.ext xW) rfl Try.underlying22 ti44 (evg rfl hb) (evg rfl hb) rfl (by have q0 := (And.intro (dec_f (or_f hb).1) (eq_t (not_f (or_f hb).2))); omega)) ?_
          refine WQ.yldG rfl (blt rfl) rfl rfl rfl (fun hb => Y.fieldE rfl Try.underlying44 rfl ti40 (by decide) (evg rfl hb)) ?_
          refine WQ.yldG rfl (blt rfl) rfl rfl rfl (fun hb => Y.loadS (cs := [_, _]) rfl Try.underlying40 rfl ti40 (evg rfl hb) (Ls.part_ext (h_o.ext xW) (by have q0 := (And.intro (dec_f (or_f hb).1) (eq_t (not_f (or_f hb).2))); omega) rfl)) ?_
          refine WQ.yldG rfl (blt rfl) rfl rfl rfl (fun hb => Y.neqS rfl eqg40 (eq40 _ _ _ _) (evg rfl hb) (evg rfl hb)) ?_
          refine WQ.yld rfl (blt rfl) rfl (Y.or rfl rfl rfl rfl) ?_
          refine WQ.yld rfl (blt rfl) rfl (Y.move rfl rfl) ?_
          refine WQ.yldG rfl (blt rfl) rfl rfl rfl (fun hb => Y.move rfl rfl) ?_
          refine WQ.yldG rfl (blt rfl) rfl rfl rfl (fun hb => Y.move rfl rfl) ?_
          refine WQ.yldG rfl (blt rfl) rfl rfl rfl (fun hb => Y.indexLs k hl48 rfl Try.underlying25 ti46 (evg rfl hb) (evg rfl hb) rfl (by have q0 := (And.intro (dec_f (or_f (or_f hb).1).1) (eq_t (not_f (or_f (or_f hb).1).2))); omega)) ?_
          refine WQ.yldG rfl (blt rfl) rfl rfl rfl (fun hb => Y.fieldE rfl Try.underlying46 rfl ti40 (by decide) (evg rfl hb)) ?_
          refine WQ.yldG rfl (blt rfl) rfl rfl rfl (fun hb => Y.loadS (cs := [_, _]) rfl Try.underlying40 rfl ti40 (evg rfl hb) (Ls.part_ext hl48 (by have q0 := (And.intro (dec_f (or_f (or_f hb).1).1) (eq_t (not_f (or_f (or_f hb).1).2))); omega) rfl)) ?_
          refine WQ.yldG rfl (blt rfl) rfl rfl rfl (fun hb => Y.move rfl rfl) ?_
          refine WQ.yldG rfl (blt rfl) rfl rfl rfl (fun hb => Y.move rfl rfl) ?_
          refine WQ.yldG rfl (blt rfl) rfl rfl rfl (fun hb => Y.indexLs z.toNat (h_o.ext xW) rfl Try.underlying22 ti44 (evg rfl hb) (evg rfl hb) (by omega) (by have q0 := (And.intro (dec_f (or_f (or_f hb).1).1) (eq_t (not_f (or_f (or_f hb).1).2))); omega)) ?_
          refine WQ.yldG rfl (blt rfl) rfl rfl rfl (fun hb => Y.fieldE rfl Try.underlying44 rfl ti40 (by decide) (evg rfl hb)) ?_
          refine WQ.yldG rfl (blt rfl) rfl rfl rfl (fun hb => Y.loadS (cs := [_, _]) rfl Try.underlying40 rfl ti40 (evg rfl hb) (Ls.part_ext (h_o.ext xW) (by have q0 := (And.intro (dec_f (or_f (or_f hb).1).1) (eq_t (not_f (or_f (or_f hb).1).2))); omega) rfl)) ?_
          refine WQ.yldG rfl (blt rfl) rfl rfl rfl (fun hb => Y.neqS rfl eqg40 (eq40 _ _ _ _) (evg rfl hb) (evg rfl hb)) ?_
          refine WQ.yld rfl (blt rfl) rfl (Y.or rfl rfl rfl rfl) ?_
          refine WQ.done (fun w49 x50 => ?_)
          have ow12 := ow12.ext x50
          have hl48 := hl48.ext x50
          have ow17 := ow17.ext x50
          have xW := Ext.trans xW x50
          refine WK.then_normal (k44 _ _ ?_)
          refine WC.sub [(0, _), (3, _), (4, _), (5, _), (6, _), (107, _)] ⟨rfl, rfl, rfl, rfl, rfl, rfl, trivial⟩ ?_
          refine WC.cond rfl (fun h51 => ?_) (fun h51 => ?_)
          ·
            clear k1 k2 k3 k8 k13 k18 k19 k20 k22 k23 k25 k26 k27 k28 k30 k31 k39 k40 k43 k44
            have hd := h51
            exact (Fl.ends_no en.1 en.2 (by omega) hd).elim
          ·
            have p51 := (And.intro (dec_f (or_f (or_f (or_f h51).1).1).1) (eq_t (not_f (or_f (or_f (or_f h51).1).1).2)))
            refine WC.skip ?_
            refine WK.then_normal (k43 _ _ ?_)
            refine WC.sub [(0, _), (3, _), (4, _), (5, _), (6, _)] ⟨rfl, rfl, rfl, rfl, rfl, trivial⟩ ?_
            refine WC.region rfl ?_
            refine WL.yld rfl (blt rfl) rfl (Y.move rfl rfl) ?_
            refine WL.yld rfl (blt rfl) rfl (Y.add rfl rfl rfl (wrap_i64 (by first | omega | (dsimp only; omega)))) ?_
            refine WL.yld rfl (blt rfl) rfl (Y.assign rfl rfl) ?_
            refine WL.nil ?_
            refine WK.in_normal ?_
            refine WK.then_normal (k25 _ _ ?_)
            refine WC.sub [(0, _), (3, _), (4, _), (5, _), (6, _)] ⟨rfl, rfl, rfl, rfl, rfl, trivial⟩ ?_
            refine WC.region rfl ?_
            refine WL.yld rfl (blt rfl) rfl (Y.move rfl rfl) ?_
            refine WL.yld rfl (blt rfl) rfl (Y.add rfl rfl rfl (wrap_i64 (by first | omega | (dsimp only; omega)))) ?_
            refine WL.yld rfl (blt rfl) rfl (Y.assign rfl rfl) ?_
            refine WL.nil ?_
            refine WK.roundS _ [(6, .int .i64 (((i + 1) : Nat) : Int)), (5, .int .i64 (((k + 1) : Nat) : Int))] ⟨rfl, rfl, rfl, rfl, rfl, trivial⟩ ?_ ⟨(i + 1), (k + 1), rfl, rfl, xW, ow12, ow17, (by omega), (by rw [Fl.ends_step (show i < o.length from by omega) (show j = i from by omega) inv_j h42, ← kj])⟩
            show _ - (i + 1) < _ - i; omega
    ·
      have p24 := (dec_f h24)
      have kk : k = (Fl.ofF o).length := by rw [kj, List.take_of_length_le (by omega)]; rfl
      refine WC.exit ?_
      refine WK.then_exit ?_
      refine WK.then_exit ?_
      refine WK.in_exit ?_
      refine WK.then_normal (k19 _ _ ?_)
      refine WC.sub [(0, _), (3, _), (4, _), (5, _)] ⟨rfl, rfl, rfl, rfl, trivial⟩ ?_
      refine WC.seq (fun K52 k52 => ?_)
      refine WC.seq (fun K53 k53 => ?_)
      refine WC.region rfl ?_
      refine WL.yld rfl (blt rfl) rfl (Y.assign rfl rfl) ?_
      refine WL.nil ?_
      refine WK.then_normal (k53 _ _ ?_)
      refine WC.block ?_
      refine WC.sub [(9, _), (0, _), (3, _), (4, _), (5, _)] ⟨rfl, rfl, rfl, rfl, rfl, trivial⟩ ?_
      refine WC.loopS 1 (fun mz Ed W' => ∃ u : Nat, mz = (Fl.openF o).length + 1 - u ∧ Ed = [(9, .int .i64 ((u : Nat) : Int))] ∧ Ext w W' ∧ OwnL W' w.heap.size 46 Fl.Flow.c 7 v11 _ ∧ OwnL W' w.heap.size 3 Fl.ic 1 v16 _ ∧ (u ≤ (Fl.openF o).length + 1) ∧ (1 ≤ u)) _ ⟨1, rfl, rfl, xW, ow12, ow17, (by omega), (Nat.le_refl _)⟩ ?_
      rintro _ _ w54 ⟨u, rfl, rfl, xW, ow12, ow17, le_u, inv_u⟩
      refine WC.sub [(9, _), (0, _), (3, _), (4, _), (5, _)] ⟨rfl, rfl, rfl, rfl, rfl, trivial⟩ ?_
      refine WC.seq (fun K55 k55 => ?_)
      refine WC.seq (fun K56 k56 => ?_)
      refine WC.region rfl ?_
      refine WL.yld rfl (blt rfl) rfl (Y.move rfl rfl) ?_
      refine WL.yld rfl (blt rfl) rfl (Y.move rfl rfl) ?_
      obtain ⟨A57, n58, c59, rfl, hl60⟩ := OwnL.opened ow17 (fun _ => rfl) (by decide)
      have e_n58 := hl60.len
      try simp only [List.length_append, List.length_cons, List.length_nil, List.length_reverse, List.length_drop, List.length_take] at e_n58
      have z_n58 := hl60.nle
      refine WL.yld rfl (blt rfl) rfl (Y.lenSl rfl rfl rfl Try.underlying28 rfl) ?_
      refine WL.yld rfl (blt rfl) rfl (Y.lss rfl rfl rfl) ?_
      refine WL.nil ?_
      refine WK.then_normal (k56 _ _ ?_)
      refine WC.sub [(0, _), (3, _), (4, _), (5, _), (9, _), (113, _)] ⟨rfl, rfl, rfl, rfl, rfl, rfl, trivial⟩ ?_
      refine WC.cond rfl (fun h61 => ?_) (fun h61 => ?_)
      ·
        have p61 := (dec_t h61)
        refine WC.skip ?_
        refine WK.then_normal (k55 _ _ ?_)
        refine WC.sub [(0, _), (3, _), (4, _), (5, _), (9, _)] ⟨rfl, rfl, rfl, rfl, rfl, trivial⟩ ?_
        refine WC.seq (fun K62 k62 => ?_)
        refine WC.block ?_
        refine WC.seq (fun K63 k63 => ?_)
        refine WC.regionDq (by kernel_rfl) (by kernel_rfl) rfl ?_
        refine WQ.yld rfl (blt rfl) rfl (Y.move rfl rfl) ?_
        refine WQ.yld rfl (blt rfl) rfl (Y.move rfl rfl) ?_
        refine WQ.yld rfl (blt rfl) rfl (Y.sub rfl rfl rfl (wrap_i64 (by first | omega | (dsimp only; omega)))) ?_
        have b64 : (u - 1) < n58 := by omega
        refine WQ.yld rfl (blt rfl) rfl (Y.indexLs (u - 1) hl60 rfl Try.underlying28 ti3 rfl rfl (by omega) b64) ?_
        refine WQ.yld rfl (blt rfl) rfl (Y.load1 rfl Try.underlying3 rfl rfl (Ls.at_ext hl60 b64 rfl)) ?_
        refine WQ.yld rfl (blt rfl) rfl (Y.move rfl rfl) ?_
        refine WQ.yld rfl (blt rfl) rfl (Y.move rfl rfl) ?_
        have b65 : u < n58 := by omega
        refine WQ.yld rfl (blt rfl) rfl (Y.indexLs u hl60 rfl Try.underlying28 ti3 rfl rfl rfl b65) ?_
        refine WQ.yld rfl (blt rfl) rfl (Y.load1 rfl Try.underlying3 rfl rfl (Ls.at_ext hl60 b65 rfl)) ?_
        refine WQ.yld rfl (blt rfl) rfl (Y.geq rfl rfl rfl) ?_
        refine WQ.done (fun w66 x67 => ?_)
        have ow12 := ow12.ext x67
        have ow17 := ow17.ext x67
        have hl60 := hl60.ext x67
        have xW := Ext.trans xW x67
        refine WK.then_normal (k63 _ _ ?_)
        refine WC.sub [(0, _), (3, _), (4, _), (5, _), (9, _), (125, _)] ⟨rfl, rfl, rfl, rfl, rfl, rfl, trivial⟩ ?_
        refine WC.cond rfl (fun h68 => ?_) (fun h68 => ?_)
        ·
          clear k1 k2 k3 k8 k13 k18 k19 k20 k22 k23 k52 k53 k55 k56 k62 k63
          have q := Inc.inc_at (Inc.inc_puts ((Fl.opn o).map (·.1))) (show u - 1 < u by omega) (by first | omega | (unfold Fl.openF at *; omega))
          have q2 := dec_t h68
          unfold Fl.openF at q2
          omega
        ·
          have p68 := (dec_f h68)
          refine WC.skip ?_
          refine WK.in_normal ?_
          refine WK.then_normal (k62 _ _ ?_)
          refine WC.sub [(0, _), (3, _), (4, _), (5, _), (9, _)] ⟨rfl, rfl, rfl, rfl, rfl, trivial⟩ ?_
          refine WC.region rfl ?_
          refine WL.yld rfl (blt rfl) rfl (Y.move rfl rfl) ?_
          refine WL.yld rfl (blt rfl) rfl (Y.add rfl rfl rfl (wrap_i64 (by first | omega | (dsimp only; omega)))) ?_
          refine WL.yld rfl (blt rfl) rfl (Y.assign rfl rfl) ?_
          refine WL.nil ?_
          refine WK.roundS _ [(9, .int .i64 (((u + 1) : Nat) : Int))] ⟨rfl, rfl, rfl, rfl, rfl, trivial⟩ ?_ ⟨(u + 1), rfl, rfl, xW, ow12, ow17, (by omega), (by omega)⟩
          show _ - (u + 1) < _ - u; omega
      ·
        have p61 := (dec_f h61)
        refine WC.exit ?_
        refine WK.then_exit ?_
        refine WK.then_exit ?_
        refine WK.in_exit ?_
        refine WK.then_normal (k52 _ _ ?_)
        refine WC.sub [(0, _), (3, _), (4, _), (5, _)] ⟨rfl, rfl, rfl, rfl, trivial⟩ ?_
        refine WC.seq (fun K69 k69 => ?_)
        refine WC.seq (fun K70 k70 => ?_)
        refine WC.region rfl ?_
        refine WL.yld rfl (blt rfl) rfl (Y.assign rfl rfl) ?_
        refine WL.nil ?_
        refine WK.then_normal (k70 _ _ ?_)
        refine WC.block ?_
        refine WC.sub [(10, _), (0, _), (3, _), (4, _), (5, _)] ⟨rfl, rfl, rfl, rfl, rfl, trivial⟩ ?_
        refine WC.loopS 1 (fun mz Ed W' => ∃ v : Nat, mz = n_o + 1 - v ∧ Ed = [(10, .int .i64 ((v : Nat) : Int))] ∧ Ext w W' ∧ OwnL W' w.heap.size 46 Fl.Flow.c 7 v11 _ ∧ OwnL W' w.heap.size 3 Fl.ic 1 (.slice A57 n58 c59) _ ∧ (v ≤ n_o + 1) ∧ (0 ≤ v)) _ ⟨0, rfl, rfl, xW, ow12, ow17, (by omega), (Nat.le_refl _)⟩ ?_
        rintro _ _ w71 ⟨v, rfl, rfl, xW, ow12, ow17, le_v, inv_v⟩
        refine WC.sub [(10, _), (0, _), (3, _), (4, _), (5, _)] ⟨rfl, rfl, rfl, rfl, rfl, trivial⟩ ?_
        have hl60 := OwnL.ls ow17 (fun _ => rfl) (by decide)
        refine WC.seq (fun K72 k72 => ?_)
        refine WC.seq (fun K73 k73 => ?_)
        refine WC.region rfl ?_
        refine WL.yld rfl (blt rfl) rfl (Y.move rfl rfl) ?_
        refine WL.yld rfl (blt rfl) rfl (Y.move rfl rfl) ?_
        refine WL.yld rfl (blt rfl) rfl (Y.lenSl rfl rfl rfl Try.underlying22 rfl) ?_
        refine WL.yld rfl (blt rfl) rfl (Y.lss rfl rfl rfl) ?_
        refine WL.nil ?_
        refine WK.then_normal (k73 _ _ ?_)
        refine WC.sub [(0, _), (3, _), (4, _), (5, _), (10, _), (129, _)] ⟨rfl, rfl, rfl, rfl, rfl, rfl, trivial⟩ ?_
        refine WC.cond rfl (fun h74 => ?_) (fun h74 => ?_)
        ·
          have p74 := (dec_t h74)
          refine WC.skip ?_
          refine WK.then_normal (k72 _ _ ?_)
          refine WC.sub [(0, _), (3, _), (4, _), (5, _), (10, _)] ⟨rfl, rfl, rfl, rfl, rfl, trivial⟩ ?_
          refine WC.seq (fun K75 k75 => ?_)
          refine WC.block ?_
          refine WC.seq (fun K76 k76 => ?_)
          refine WC.regionDq (by kernel_rfl) (by kernel_rfl) rfl ?_
          refine WQ.yld rfl (blt rfl) rfl (Y.move rfl rfl) ?_
          refine WQ.yld rfl (blt rfl) rfl (Y.move rfl rfl) ?_
          have b77 : v < n_o := by omega
          refine WQ.yld rfl (blt rfl) rfl (Y.indexLs v (h_o.ext xW) rfl Try.underlying22 ti44 rfl rfl rfl b77) ?_
          refine WQ.yld rfl (blt rfl) rfl (Y.fieldE rfl Try.underlying44 rfl ti38 (by decide) rfl) ?_
          refine WQ.yld rfl (blt rfl) rfl (Y.fieldE rfl Try.underlying38 rfl ti35 (by decide) rfl) ?_
          refine WQ.yld rfl (blt rfl) rfl (Y.load1 rfl Try.underlying35 rfl rfl (Ls.at_ext (h_o.ext xW) b77 rfl)) ?_
          refine WQ.yld rfl (blt rfl) rfl (Y.eql rfl rfl rfl) ?_
          refine WQ.yld rfl (blt rfl) rfl (Y.move rfl rfl) ?_
          refine WQ.yldG rfl (blt rfl) rfl rfl rfl (fun hb => Y.move rfl rfl) ?_
          refine WQ.yldG rfl (blt rfl) rfl rfl rfl (fun hb => Y.move rfl rfl) ?_
          refine WQ.yldG rfl (blt rfl) rfl rfl rfl (fun hb => Y.move rfl rfl) ?_
          refine WQ.yldG rfl (blt rfl) rfl rfl rfl (fun hb => Y.indexLs v (h_o.ext xW) rfl Try.underlying22 ti44 (evg rfl hb) (evg rfl hb) rfl (by have q0 := (eq_t hb); omega)) ?_
          refine WQ.yldG rfl (blt rfl) rfl rfl rfl (fun hb => Y.fieldE rfl Try.underlying44 rfl ti38 (by decide) (evg rfl hb)) ?_
          refine WQ.yldG rfl (blt rfl) rfl rfl rfl (fun hb => Y.fieldE rfl Try.underlying38 rfl ti3 (by decide) (evg rfl hb)) ?_
          refine WQ.yldG rfl (blt rfl) rfl rfl rfl (fun hb => Y.load1 rfl Try.underlying3 rfl (evg rfl hb) (Ls.at_ext (h_o.ext xW) (by have q0 := (eq_t hb); omega) rfl)) ?_
          refine WQ.callG rfl (blt rfl) rfl rfl rfl rfl rfl has20 (fun hb => (evs_cons (evg rfl hb) (evs_cons (evg rfl hb) evs_nil))) (fun hb w hw => calls_ext hw (has_any _ _ _ _ _ _ (Ls.ext hl60 hw))) ?_
          refine WQ.yldG rfl (blt rfl) rfl rfl rfl (fun hb => Y.move rfl rfl) ?_
          refine WQ.yldG rfl (blt rfl) rfl rfl rfl (fun hb => Y.move rfl rfl) ?_
          refine WQ.yldG rfl (blt rfl) rfl rfl rfl (fun hb => Y.move rfl rfl) ?_
          refine WQ.yldG rfl (blt rfl) rfl rfl rfl (fun hb => Y.indexLs v (h_o.ext xW) rfl Try.underlying22 ti44 (evg rfl hb) (evg rfl hb) rfl (by have q0 := (eq_t hb); omega)) ?_
          refine WQ.yldG rfl (blt rfl) rfl rfl rfl (fun hb => Y.fieldE rfl Try.underlying44 rfl ti38 (by decide) (evg rfl hb)) ?_
          refine WQ.yldG rfl (blt rfl) rfl rfl rfl (fun hb => Y.fieldE rfl Try.underlying38 rfl ti3 (by decide) (evg rfl hb)) ?_
          refine WQ.yldG rfl (blt rfl) rfl rfl rfl (fun hb => Y.load1 rfl Try.underlying3 rfl (evg rfl hb) (Ls.at_ext (h_o.ext xW) (by have q0 := (eq_t hb); omega) rfl)) ?_
          refine WQ.callG rfl (blt rfl) rfl rfl rfl rfl rfl has21 (fun hb => (evs_cons (evg rfl hb) (evs_cons (evg rfl hb) evs_nil))) (fun hb w hw => calls_ext hw (waits_any _ _ _ _ _ _ (Ls.ext (h_o.ext xW) hw))) ?_
          refine WQ.yldG rfl (blt rfl) rfl rfl rfl (fun hb => Y.neqB rfl Try.underlying4 (evg rfl hb) (evg rfl hb)) ?_
          refine WQ.yld rfl (blt rfl) rfl (Y.and rfl rfl rfl rfl) ?_
          refine WQ.done (fun w78 x79 => ?_)
          have ow12 := ow12.ext x79
          have ow17 := ow17.ext x79
          have hl60 := hl60.ext x79
          have xW := Ext.trans xW x79
          refine WK.then_normal (k76 _ _ ?_)
          refine WC.sub [(0, _), (3, _), (4, _), (5, _), (10, _), (157, _)] ⟨rfl, rfl, rfl, rfl, rfl, rfl, trivial⟩ ?_
          refine WC.cond rfl (fun h80 => ?_) (fun h80 => ?_)
          ·
            clear k1 k2 k3 k8 k13 k18 k19 k20 k22 k23 k52 k53 k55 k56 k69 k70 k72 k73 k75 k76
            have hd := h80
            rw [Fl.open_mem] at hd
            simp at hd
          ·
            have p80 := ((and_f h80).imp (fun h => (eq_f h)) (fun h => h))
            refine WC.skip ?_
            refine WK.in_normal ?_
            refine WK.then_normal (k75 _ _ ?_)
            refine WC.sub [(0, _), (3, _), (4, _), (5, _), (10, _)] ⟨rfl, rfl, rfl, rfl, rfl, trivial⟩ ?_
            refine WC.region rfl ?_
            refine WL.yld rfl (blt rfl) rfl (Y.move rfl rfl) ?_
            refine WL.yld rfl (blt rfl) rfl (Y.add rfl rfl rfl (wrap_i64 (by first | omega | (dsimp only; omega)))) ?_
            refine WL.yld rfl (blt rfl) rfl (Y.assign rfl rfl) ?_
            refine WL.nil ?_
            refine WK.roundS _ [(10, .int .i64 (((v + 1) : Nat) : Int))] ⟨rfl, rfl, rfl, rfl, rfl, trivial⟩ ?_ ⟨(v + 1), rfl, rfl, xW, ow12, ow17, (by omega), (by omega)⟩
            show _ - (v + 1) < _ - v; omega
        ·
          have p74 := (dec_f h74)
          refine WC.exit ?_
          refine WK.then_exit ?_
          refine WK.then_exit ?_
          refine WK.in_exit ?_
          refine WK.then_normal (k69 _ _ ?_)
          refine WC.sub [(3, _), (5, _)] ⟨rfl, rfl, trivial⟩ ?_
          refine WC.seq (fun K81 k81 => ?_)
          refine WC.region rfl ?_
          refine WL.yld rfl (blt rfl) rfl (Y.move rfl rfl) ?_
          refine WL.yld rfl (blt rfl) rfl (Y.move rfl rfl) ?_
          obtain ⟨A82, n83, c84, rfl, hl85⟩ := OwnL.opened ow12 (fun _ => rfl) (by decide)
          have e_n83 := hl85.len
          try simp only [List.length_append, List.length_cons, List.length_nil, List.length_reverse, List.length_drop, List.length_take] at e_n83
          have z_n83 := hl85.nle
          refine WL.yld rfl (blt rfl) rfl (Y.lenSl rfl rfl rfl Try.underlying25 rfl) ?_
          refine WL.yld rfl (blt rfl) rfl (Yld.cast (Y.eql rfl rfl rfl) (vb (b := true) (by rw [kk]; simp; omega))) ?_
          refine WL.yld rfl (blt rfl) rfl (Y.move rfl rfl) ?_
          refine WL.callW rfl (blt rfl) rfl rfl rfl rfl rfl has9 rfl (awake_any _ ) ?_
          rintro _ w86 ⟨rfl, x87⟩
          refine ⟨_, rfl, ?_⟩
          have ow12 := ow12.ext x87
          have hl85 := hl85.ext x87
          have xW := Ext.trans xW x87
          refine WL.yld rfl (blt rfl) rfl (Y.pickT rfl rfl rfl) ?_
          refine WL.yld rfl (blt rfl) rfl (Y.assign rfl rfl) ?_
          refine WL.nil ?_
          refine WK.then_normal (k81 _ _ ?_)
          refine WC.sub [(2, _)] ⟨rfl, trivial⟩ ?_
          refine WC.ret ?_
          clear k1 k2 k3 k8 k13 k18 k19 k20 k22 k23 k52 k53 k55 k56 k69 k70 k72 k73 k81
          refine WK.ret [_] rfl ⟨rfl, trivial⟩ ?_
          exact ⟨ret1 (vb rfl), xW⟩
end LFlowEnds
end FlW

end Go.Proofs.Ytcojkflgcccjeaa
