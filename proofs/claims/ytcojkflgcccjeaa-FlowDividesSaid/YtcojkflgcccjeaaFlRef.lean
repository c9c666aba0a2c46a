/- Contracts of the reference's functions. Conditions: what each theorem states. -/
import Derived.Test.YtcojkflgcccjeaaFlWalk
namespace Go.Proofs.Ytcojkflgcccjeaa
open Go Go.Eng Go.RowKit
set_option linter.unusedVariables false
namespace FlW
namespace R
theorem ti3 : TI Try.prog 3 (.int .i64 0) 1 8 := TI.mk (by kernel_rfl)
theorem ti35 : TI Try.prog 35 (.int .i64 0) 1 8 := TI.mk (by kernel_rfl)
theorem ti38 : TI Try.prog 38 (.agg #[.int .i64 0, .int .i64 0, .string ⟨#[]⟩, .int .i64 0, .int .i64 0, .slice none 0 0]) 6 72 := TI.mk (by kernel_rfl)
theorem ti40 : TI Try.prog 40 (.agg #[.int .i64 0, .int .i64 0]) 2 16 := TI.mk (by kernel_rfl)
theorem ti42 : TI Try.prog 42 (.agg #[.int .i64 0, .int .i64 0]) 2 16 := TI.mk (by kernel_rfl)
theorem ti44 : TI Try.prog 44 (.agg #[.int .i64 0, .int .i64 0, .int .i64 0, .int .i64 0, .string ⟨#[]⟩, .int .i64 0, .int .i64 0, .slice none 0 0, .int .i64 0, .int .i64 0]) 10 104 := TI.mk (by kernel_rfl)
theorem ti46 : TI Try.prog 46 (.agg #[.int .i64 0, .int .i64 0, .int .i64 0, .int .i64 0, .int .i64 0, .int .i64 0, .int .i64 0]) 7 56 := TI.mk (by kernel_rfl)
theorem has22 : Has Try.prog 22 := ⟨_, Try.func22, rfl, by kernel_rfl⟩
theorem has25 : Has Try.prog 25 := ⟨_, Try.func25, rfl, by kernel_rfl⟩
theorem has28 : Has Try.prog 28 := ⟨_, Try.func28, rfl, by kernel_rfl⟩
theorem has29 : Has Try.prog 29 := ⟨_, Try.func29, rfl, by kernel_rfl⟩
theorem has31 : Has Try.prog 31 := ⟨_, Try.func31, rfl, by kernel_rfl⟩
theorem has32 : Has Try.prog 32 := ⟨_, Try.func32, rfl, by kernel_rfl⟩
theorem pl46 : PL Try.prog 46 [.int .i64 0, .int .i64 0, .int .i64 0, .int .i64 0, .int .i64 0, .int .i64 0, .int .i64 0] [(0, 1), (1, 2), (3, 2), (5, 1), (6, 1)] := PL.mk (zero := [.int .i64 0, .int .i64 0, .int .i64 0, .int .i64 0, .int .i64 0, .int .i64 0, .int .i64 0]) ti46 Try.underlying46 (by kernel_rfl)
theorem eqg46 : Try.prog.eqGuardType Try.prog.depth 46 = false := by kernel_rfl
theorem eq46 (a0 : Int) (a1 : Int) (a2 : Int) (a3 : Int) (a4 : Int) (a5 : Int) (a6 : Int) (b0 : Int) (b1 : Int) (b2 : Int) (b3 : Int) (b4 : Int) (b5 : Int) (b6 : Int) (w : World) : (Op.equalIn 10000 46 (.agg #[.int .i64 a0, .int .i64 a1, .int .i64 a2, .int .i64 a3, .int .i64 a4, .int .i64 a5, .int .i64 a6]) (.agg #[.int .i64 b0, .int .i64 b1, .int .i64 b2, .int .i64 b3, .int .i64 b4, .int .i64 b5, .int .i64 b6])).run Try.prog w = .ok ((a0 == b0) && ((a1 == b1) && (a2 == b2)) && ((a3 == b3) && (a4 == b4)) && (a5 == b5) && (a6 == b6)) w := by
  go_simp
  (repeat' split) <;> simp_all
theorem rtime_any (x : Fl.Ev) (w : World) :
    Calls Try.prog 22 #[.agg #[.int .i64 x.th, .int .i64 x.ser, .int .i64 x.at_, .int .i64 x.kind, .string x.name, .int .i64 x.n, .int .i64 x.m, .slice x.sA x.sn x.sc, .int .i64 x.lo, .int .i64 x.hi]] w fun e w' => e = .returned (.int .i64 (Fl.timeF x)) ∧ Ext w w' := by
  have xW := Ext.refl w
  refine calls_of_WC (args := [.agg #[.int .i64 x.th, .int .i64 x.ser, .int .i64 x.at_, .int .i64 x.kind, .string x.name, .int .i64 x.n, .int .i64 x.m, .slice x.sA x.sn x.sc, .int .i64 x.lo, .int .i64 x.hi]]) Try.func22 rfl rfl (ble rfl) ?_
  refine WC.seq (fun K1 k1 => ?_)
  refine WC.region rfl ?_
  refine WL.box rfl (blt rfl) rfl rfl rfl rfl ?_
  intro g2 w3 e4 x5 m6
  have o_g2 := own_new xW e4
  have xW := Ext.trans xW x5
  refine WL.yld rfl (blt rfl) rfl (Y.assign rfl rfl) ?_
  refine WL.nil ?_
  refine WK.then_normal (k1 _ _ ?_)
  refine WC.sub [(1, _)] ⟨rfl, trivial⟩ ?_
  refine WC.seq (fun K7 k7 => ?_)
  refine WC.region rfl ?_
  refine WL.yld rfl (blt rfl) rfl (Y.fieldAddr rfl Try.underlying44 rfl ti42 (by decide) rfl) ?_
  refine WL.yld rfl (blt rfl) rfl (Y.fieldAddr rfl Try.underlying42 rfl ti3 (by decide) rfl) ?_
  refine WL.yld rfl (blt rfl) rfl (Y.load1 rfl Try.underlying3 rfl rfl (Blk.at_eq m6 rfl)) ?_
  refine WL.yld rfl (blt rfl) rfl (Y.maxI rfl rfl rfl rfl) ?_
  refine WL.yld rfl (blt rfl) rfl (Y.minI rfl rfl rfl rfl) ?_
  refine WL.yld rfl (blt rfl) rfl (Y.assign rfl rfl) ?_
  refine WL.nil ?_
  refine WK.then_normal (k7 _ _ ?_)
  refine WC.sub [(2, _)] ⟨rfl, trivial⟩ ?_
  refine WC.ret ?_
  clear k1 k7
  refine WK.ret [_] rfl ⟨rfl, trivial⟩ ?_
  refine ⟨ret1 (vi ?_), xW⟩
  unfold Fl.timeF; omega
theorem natural_any (n : Int) (w : World) :
    Calls Try.prog 31 #[.int .i64 n] w fun e w' => e = .returned (.bool (!Fl.badB n 1000000000000000)) ∧ Ext w w' := by
  have xW := Ext.refl w
  refine calls_of_WC (args := [.int .i64 n]) Try.func31 rfl rfl (ble rfl) ?_
  refine WC.seq (fun K1 k1 => ?_)
  refine WC.region rfl ?_
  refine WL.yld rfl (blt rfl) rfl (Y.assign rfl rfl) ?_
  refine WL.nil ?_
  refine WK.then_normal (k1 _ _ ?_)
  refine WC.sub [(0, _)] ⟨rfl, trivial⟩ ?_
  refine WC.seq (fun K2 k2 => ?_)
  refine WC.region rfl ?_
  refine WL.yld rfl (blt rfl) rfl (Y.move rfl rfl) ?_
  refine WL.yld rfl (blt rfl) rfl (Y.geq rfl rfl rfl) ?_
  refine WL.yld rfl (blt rfl) rfl (Y.move rfl rfl) ?_
  refine WL.yldG rfl (blt rfl) rfl rfl rfl (fun hb => Y.move rfl rfl) ?_
  refine WL.yldG rfl (blt rfl) rfl rfl rfl (fun hb => Y.leq rfl (evg rfl hb) rfl) ?_
  refine WL.yld rfl (blt rfl) rfl (Y.and rfl rfl rfl rfl) ?_
  refine WL.yld rfl (blt rfl) rfl (Y.assign rfl rfl) ?_
  refine WL.nil ?_
  refine WK.then_normal (k2 _ _ ?_)
  refine WC.sub [(2, _)] ⟨rfl, trivial⟩ ?_
  refine WC.ret ?_
  clear k1 k2
  refine WK.ret [_] rfl ⟨rfl, trivial⟩ ?_
  exact ⟨ret1 (vb (Fl.not_bad _ _)), xW⟩
theorem reading_any (n : Int) (w : World) :
    Calls Try.prog 32 #[.int .i64 n] w fun e w' => e = .returned (.bool (!Fl.badB n 1000000000000)) ∧ Ext w w' := by
  have xW := Ext.refl w
  refine calls_of_WC (args := [.int .i64 n]) Try.func32 rfl rfl (ble rfl) ?_
  refine WC.seq (fun K1 k1 => ?_)
  refine WC.region rfl ?_
  refine WL.yld rfl (blt rfl) rfl (Y.assign rfl rfl) ?_
  refine WL.nil ?_
  refine WK.then_normal (k1 _ _ ?_)
  refine WC.sub [(0, _)] ⟨rfl, trivial⟩ ?_
  refine WC.seq (fun K2 k2 => ?_)
  refine WC.region rfl ?_
  refine WL.yld rfl (blt rfl) rfl (Y.move rfl rfl) ?_
  refine WL.yld rfl (blt rfl) rfl (Y.geq rfl rfl rfl) ?_
  refine WL.yld rfl (blt rfl) rfl (Y.move rfl rfl) ?_
  refine WL.yldG rfl (blt rfl) rfl rfl rfl (fun hb => Y.move rfl rfl) ?_
  refine WL.yldG rfl (blt rfl) rfl rfl rfl (fun hb => Y.leq rfl (evg rfl hb) rfl) ?_
  refine WL.yld rfl (blt rfl) rfl (Y.and rfl rfl rfl rfl) ?_
  refine WL.yld rfl (blt rfl) rfl (Y.assign rfl rfl) ?_
  refine WL.nil ?_
  refine WK.then_normal (k2 _ _ ?_)
  refine WC.sub [(2, _)] ⟨rfl, trivial⟩ ?_
  refine WC.ret ?_
  clear k1 k2
  refine WK.ret [_] rfl ⟨rfl, trivial⟩ ?_
  exact ⟨ret1 (vb (Fl.not_bad _ _)), xW⟩
theorem lastSend_any (A_o : Option Addr) (n_o c_o : Nat) (o : List Fl.Ev) (b : Nat) (n : Int) (w : World) (h_o : Ls w A_o n_o c_o Fl.Ev.c 10 o) (hb : b ≤ n_o) :
    Calls Try.prog 25 #[.slice A_o n_o c_o, .int .i64 ((b : Nat) : Int), .int .i64 n] w fun e w' => e = .returned (.int .i64 (Fl.lastIdx o n b)) ∧ Ext w w' := by
  have xW := Ext.refl w
  have e_o := h_o.len
  have z_o := h_o.nle
  refine calls_of_WC (args := [.slice A_o n_o c_o, .int .i64 ((b : Nat) : Int), .int .i64 n]) Try.func25 rfl rfl (ble rfl) ?_
  refine WC.seq (fun K1 k1 => ?_)
  refine WC.region rfl ?_
  refine WL.yld rfl (blt rfl) rfl (Y.assign rfl rfl) ?_
  refine WL.nil ?_
  refine WK.then_normal (k1 _ _ ?_)
  refine WC.sub [(0, _), (1, _), (2, _)] ⟨rfl, rfl, rfl, trivial⟩ ?_
  refine WC.seq (fun K2 k2 => ?_)
  refine WC.seq (fun K3 k3 => ?_)
  refine WC.region rfl ?_
  refine WL.yld rfl (blt rfl) rfl (Y.move rfl rfl) ?_
  refine WL.yld rfl (blt rfl) rfl (Y.sub rfl rfl rfl (wrap_i64 (by first | omega | (dsimp only; omega)))) ?_
  refine WL.yld rfl (blt rfl) rfl (Y.assign rfl rfl) ?_
  refine WL.nil ?_
  refine WK.then_normal (k3 _ _ ?_)
  refine WC.sub [(0, _), (2, _), (7, _)] ⟨rfl, rfl, rfl, trivial⟩ ?_
  refine WC.block ?_
  refine WC.sub [(7, _), (0, _), (2, _)] ⟨rfl, rfl, rfl, trivial⟩ ?_
  refine WC.loopS 1 (fun mz Ed W' => ∃ z : Int, mz = (z + 1).toNat ∧ Ed = [(7, .int .i64 z)] ∧ Ext w W' ∧ (-1 ≤ z ∧ z < (b : Int)) ∧ (Fl.lastIdx o n (z + 1).toNat = Fl.lastIdx o n b)) _ ⟨_, rfl, rfl, xW, (by omega), (by congr 1; omega)⟩ ?_
  rintro _ _ w4 ⟨z, rfl, rfl, xW, le_z, inv_z⟩
  refine WC.sub [(7, _), (0, _), (2, _)] ⟨rfl, rfl, rfl, trivial⟩ ?_
  refine WC.seq (fun K5 k5 => ?_)
  refine WC.seq (fun K6 k6 => ?_)
  refine WC.region rfl ?_
  refine WL.yld rfl (blt rfl) rfl (Y.move rfl rfl) ?_
  refine WL.yld rfl (blt rfl) rfl (Y.geq rfl rfl rfl) ?_
  refine WL.nil ?_
  refine WK.then_normal (k6 _ _ ?_)
  refine WC.sub [(0, _), (2, _), (7, _), (11, _)] ⟨rfl, rfl, rfl, rfl, trivial⟩ ?_
  refine WC.cond rfl (fun h7 => ?_) (fun h7 => ?_)
  ·
    have p7 := (dec_t h7)
    refine WC.skip ?_
    refine WK.then_normal (k5 _ _ ?_)
    refine WC.sub [(0, _), (2, _), (7, _)] ⟨rfl, rfl, rfl, trivial⟩ ?_
    refine WC.seq (fun K8 k8 => ?_)
    refine WC.block ?_
    refine WC.seq (fun K9 k9 => ?_)
    refine WC.region rfl ?_
    refine WL.yld rfl (blt rfl) rfl (Y.move rfl rfl) ?_
    refine WL.yld rfl (blt rfl) rfl (Y.move rfl rfl) ?_
    have b10 : z.toNat < n_o := by omega
    refine WL.yld rfl (blt rfl) rfl (Y.indexLs z.toNat (h_o.ext xW) rfl Try.underlying22 ti44 rfl rfl (by omega) b10) ?_
    refine WL.yld rfl (blt rfl) rfl (Y.fieldE rfl Try.underlying44 rfl ti38 (by decide) rfl) ?_
    refine WL.yld rfl (blt rfl) rfl (Y.fieldE rfl Try.underlying38 rfl ti35 (by decide) rfl) ?_
    refine WL.yld rfl (blt rfl) rfl (Y.load1 rfl Try.underlying35 rfl rfl (Ls.at_eq (h_o.ext xW) b10 rfl)) ?_
    refine WL.yld rfl (blt rfl) rfl (Y.eql rfl rfl rfl) ?_
    refine WL.yld rfl (blt rfl) rfl (Y.move rfl rfl) ?_
    refine WL.yldG rfl (blt rfl) rfl rfl rfl (fun hb => Y.move rfl rfl) ?_
    refine WL.yldG rfl (blt rfl) rfl rfl rfl (fun hb => Y.move rfl rfl) ?_
    refine WL.yldG rfl (blt rfl) rfl rfl rfl (fun hb => Y.indexLs z.toNat (h_o.ext xW) rfl Try.underlying22 ti44 (evg rfl hb) (evg rfl hb) (by omega) (by have q0 := (eq_t hb); omega)) ?_
    refine WL.yldG rfl (blt rfl) rfl rfl rfl (fun hb => Y.fieldE rfl Try.underlying44 rfl ti38 (by decide) (evg rfl hb)) ?_
    refine WL.yldG rfl (blt rfl) rfl rfl rfl (fun hb => Y.fieldE rfl Try.underlying38 rfl ti3 (by decide) (evg rfl hb)) ?_
    refine WL.yldG rfl (blt rfl) rfl rfl rfl (fun hb => Y.load1 rfl Try.underlying3 rfl (evg rfl hb) (Ls.at_eq (h_o.ext xW) (by have q0 := (eq_t hb); omega) rfl)) ?_
    refine WL.yldG rfl (blt rfl) rfl rfl rfl (fun hb => Y.move rfl rfl) ?_
    refine WL.yldG rfl (blt rfl) rfl rfl rfl (fun hb => Y.eql rfl (evg rfl hb) (evg rfl hb)) ?_
    refine WL.yld rfl (blt rfl) rfl (Y.and rfl rfl rfl rfl) ?_
    refine WL.nil ?_
    refine WK.then_normal (k9 _ _ ?_)
    refine WC.sub [(0, _), (2, _), (7, _), (30, _)] ⟨rfl, rfl, rfl, rfl, trivial⟩ ?_
    refine WC.cond rfl (fun h11 => ?_) (fun h11 => ?_)
    ·
      have p11 := (And.intro (eq_t (and_t h11).1) (eq_t (and_t h11).2))
      refine WC.seq (fun K12 k12 => ?_)
      refine WC.region rfl ?_
      refine WL.yld rfl (blt rfl) rfl (Y.move rfl rfl) ?_
      refine WL.yld rfl (blt rfl) rfl (Y.assign rfl rfl) ?_
      refine WL.nil ?_
      refine WK.then_normal (k12 _ _ ?_)
      refine WC.sub [(6, _)] ⟨rfl, trivial⟩ ?_
      refine WC.ret ?_
      refine WK.in_ret ?_
      refine WK.then_ret ?_
      refine WK.then_ret ?_
      refine WK.in_ret ?_
      refine WK.then_ret ?_
      clear k1 k2 k3 k5 k6 k8 k9 k12
      refine WK.ret [_] rfl ⟨rfl, trivial⟩ ?_
      refine ⟨ret1 (vi ?_), xW⟩
      rw [← inv_z, Fl.last_hit (by omega) h11]
    ·
      have p11 := ((and_f h11).imp (fun h => (eq_f h)) (fun h => (eq_f h)))
      refine WC.skip ?_
      refine WK.in_normal ?_
      refine WK.then_normal (k8 _ _ ?_)
      refine WC.sub [(0, _), (2, _), (7, _)] ⟨rfl, rfl, rfl, trivial⟩ ?_
      refine WC.region rfl ?_
      refine WL.yld rfl (blt rfl) rfl (Y.move rfl rfl) ?_
      refine WL.yld rfl (blt rfl) rfl (Y.sub rfl rfl rfl (wrap_i64 (by first | omega | (dsimp only; omega)))) ?_
      refine WL.yld rfl (blt rfl) rfl (Y.assign rfl rfl) ?_
      refine WL.nil ?_
      refine WK.roundS _ [(7, .int .i64 _)] ⟨rfl, rfl, rfl, trivial⟩ ?_ ⟨_, rfl, rfl, xW, (by omega), (by rw [Fl.last_step (by omega) h11]; exact inv_z)⟩
      show (_ - 1 + 1 : Int).toNat < (_ + 1 : Int).toNat; omega
  ·
    have p7 := (dec_f h7)
    refine WC.exit ?_
    refine WK.then_exit ?_
    refine WK.then_exit ?_
    refine WK.in_exit ?_
    refine WK.then_normal (k2 _ _ ?_)
    refine WC.sub [] trivial ?_
    refine WC.seq (fun K13 k13 => ?_)
    refine WC.region rfl ?_
    refine WL.yld rfl (blt rfl) rfl (Y.assign rfl rfl) ?_
    refine WL.nil ?_
    refine WK.then_normal (k13 _ _ ?_)
    refine WC.ret ?_
    clear k1 k2 k3 k5 k6 k13
    refine WK.ret [_] rfl ⟨rfl, trivial⟩ ?_
    refine ⟨ret1 (vi ?_), xW⟩
    rw [← inv_z, show (z + 1).toNat = 0 from by omega]; rfl
theorem rof_any (A_o : Option Addr) (n_o c_o : Nat) (o : List Fl.Ev) (w : World) (h_o : Ls w A_o n_o c_o Fl.Ev.c 10 o) (hn : n_o ≤ 1000) :
    Calls Try.prog 12 #[.slice A_o n_o c_o] w fun e w' => ∃ v, e = .returned v ∧ OwnL w' w.heap.size 46 Fl.Flow.c 7 v (Fl.ofF o) ∧ Ext w w' := by
  have xW := Ext.refl w
  have e_o := h_o.len
  have z_o := h_o.nle
  refine calls_of_WC (args := [.slice A_o n_o c_o]) Try.func12 rfl rfl (ble rfl) ?_
  refine WC.seq (fun K1 k1 => ?_)
  refine WC.region rfl ?_
  refine WL.yld rfl (blt rfl) rfl (Y.assign rfl rfl) ?_
  refine WL.nil ?_
  refine WK.then_normal (k1 _ _ ?_)
  refine WC.sub [(0, _)] ⟨rfl, trivial⟩ ?_
  refine WC.seq (fun K2 k2 => ?_)
  refine WC.region rfl ?_
  refine WL.yld rfl (blt rfl) rfl (Y.assign rfl rfl) ?_
  refine WL.nil ?_
  refine WK.then_normal (k2 _ _ ?_)
  refine WC.seq (fun K3 k3 => ?_)
  refine WC.seq (fun K4 k4 => ?_)
  refine WC.region rfl ?_
  refine WL.yld rfl (blt rfl) rfl (Y.assign rfl rfl) ?_
  refine WL.nil ?_
  refine WK.then_normal (k4 _ _ ?_)
  refine WC.block ?_
  refine WC.sub [(4, _), (3, _), (0, _)] ⟨rfl, rfl, rfl, trivial⟩ ?_
  refine WC.loopS 2 (fun mz Ed W' => ∃ i : Nat, ∃ v : Value, mz = n_o - i ∧ Ed = [(4, .int .i64 ((i : Nat) : Int)), (3, v)] ∧ Ext w W' ∧ OwnL W' w.heap.size 46 Fl.Flow.c 7 v ((Fl.run (o.take i)).2) ∧ (i ≤ n_o)) _ ⟨0, _, rfl, rfl, xW, OwnL.nil_, (Nat.zero_le _)⟩ ?_
  rintro _ _ w5 ⟨i, v, rfl, rfl, xW, ow_v, le_i⟩
  refine WC.sub [(4, _), (3, _), (0, _)] ⟨rfl, rfl, rfl, trivial⟩ ?_
  refine WC.seq (fun K6 k6 => ?_)
  refine WC.seq (fun K7 k7 => ?_)
  refine WC.region rfl ?_
  refine WL.yld rfl (blt rfl) rfl (Y.move rfl rfl) ?_
  refine WL.yld rfl (blt rfl) rfl (Y.move rfl rfl) ?_
  refine WL.yld rfl (blt rfl) rfl (Y.lenSl rfl rfl rfl Try.underlying22 rfl) ?_
  refine WL.yld rfl (blt rfl) rfl (Y.lss rfl rfl rfl) ?_
  refine WL.nil ?_
  refine WK.then_normal (k7 _ _ ?_)
  refine WC.sub [(0, _), (3, _), (4, _), (9, _)] ⟨rfl, rfl, rfl, rfl, trivial⟩ ?_
  refine WC.cond rfl (fun h8 => ?_) (fun h8 => ?_)
  ·
    have p8 := (dec_t h8)
    refine WC.skip ?_
    refine WK.then_normal (k6 _ _ ?_)
    refine WC.sub [(0, _), (3, _), (4, _)] ⟨rfl, rfl, rfl, trivial⟩ ?_
    refine WC.seq (fun K9 k9 => ?_)
    refine WC.block ?_
    refine WC.seq (fun K10 k10 => ?_)
    refine WC.seq (fun K11 k11 => ?_)
    refine WC.region rfl ?_
    refine WL.yld rfl (blt rfl) rfl (Y.move rfl rfl) ?_
    refine WL.yld rfl (blt rfl) rfl (Y.move rfl rfl) ?_
    have b12 : i < n_o := by omega
    refine WL.yld rfl (blt rfl) rfl (Y.indexLs i (h_o.ext xW) rfl Try.underlying22 ti44 rfl rfl rfl b12) ?_
    refine WL.yld rfl (blt rfl) rfl (Y.fieldE rfl Try.underlying44 rfl ti38 (by decide) rfl) ?_
    refine WL.yld rfl (blt rfl) rfl (Y.fieldE rfl Try.underlying38 rfl ti35 (by decide) rfl) ?_
    refine WL.yld rfl (blt rfl) rfl (Y.load1 rfl Try.underlying35 rfl rfl (Ls.at_eq (h_o.ext xW) b12 rfl)) ?_
    refine WL.yld rfl (blt rfl) rfl (Y.neq rfl rfl rfl) ?_
    refine WL.nil ?_
    refine WK.then_normal (k11 _ _ ?_)
    refine WC.sub [(0, _), (3, _), (4, _), (18, _)] ⟨rfl, rfl, rfl, rfl, trivial⟩ ?_
    refine WC.cond rfl (fun h13 => ?_) (fun h13 => ?_)
    ·
      have p13 := (eq_f (not_t h13))
      refine WC.exit ?_
      refine WK.then_exit ?_
      refine WK.in_exit ?_
      refine WK.then_normal (k9 _ _ ?_)
      refine WC.sub [(0, _), (3, _), (4, _)] ⟨rfl, rfl, rfl, trivial⟩ ?_
      refine WC.region rfl ?_
      refine WL.yld rfl (blt rfl) rfl (Y.move rfl rfl) ?_
      refine WL.yld rfl (blt rfl) rfl (Y.add rfl rfl rfl (wrap_i64 (by first | omega | (dsimp only; omega)))) ?_
      refine WL.yld rfl (blt rfl) rfl (Y.assign rfl rfl) ?_
      refine WL.nil ?_
      refine WK.roundS _ [(4, .int .i64 (((i + 1) : Nat) : Int)), (3, v)] ⟨rfl, rfl, rfl, trivial⟩ ?_ ⟨(i + 1), v, rfl, rfl, xW, (by rw [Fl.run_take o (show i < o.length from by omega), Fl.ref_skip h13]; exact ow_v), (by omega)⟩
      show _ - (i + 1) < _ - i; omega
    ·
      have p13 := (eq_t (not_f h13))
      refine WC.skip ?_
      refine WK.then_normal (k10 _ _ ?_)
      refine WC.sub [(0, _), (3, _), (4, _)] ⟨rfl, rfl, rfl, trivial⟩ ?_
      refine WC.seq (fun K14 k14 => ?_)
      refine WC.region rfl ?_
      refine WL.yld rfl (blt rfl) rfl (Y.move rfl rfl) ?_
      refine WL.yld rfl (blt rfl) rfl (Y.move rfl rfl) ?_
      refine WL.yld rfl (blt rfl) rfl (Y.move rfl rfl) ?_
      refine WL.yld rfl (blt rfl) rfl (Y.move rfl rfl) ?_
      have b15 : i < n_o := by omega
      refine WL.yld rfl (blt rfl) rfl (Y.indexLs i (h_o.ext xW) rfl Try.underlying22 ti44 rfl rfl rfl b15) ?_
      refine WL.yld rfl (blt rfl) rfl (Y.fieldE rfl Try.underlying44 rfl ti38 (by decide) rfl) ?_
      refine WL.yld rfl (blt rfl) rfl (Y.fieldE rfl Try.underlying38 rfl ti3 (by decide) rfl) ?_
      refine WL.yld rfl (blt rfl) rfl (Y.load1 rfl Try.underlying3 rfl rfl (Ls.at_eq (h_o.ext xW) b15 rfl)) ?_
      refine WL.call rfl (blt rfl) rfl rfl rfl has25 rfl (lastSend_any _ _ _ _ _ _ _ (h_o.ext xW) (by omega)) ?_
      rintro _ w16 ⟨rfl, x17⟩
      refine ⟨_, rfl, ?_⟩
      have ow_v := ow_v.ext x17
      have xW := Ext.trans xW x17
      refine WL.yld rfl (blt rfl) rfl (Y.assign rfl rfl) ?_
      refine WL.nil ?_
      refine WK.then_normal (k14 _ _ ?_)
      refine WC.sub [(0, _), (3, _), (4, _), (5, _)] ⟨rfl, rfl, rfl, rfl, trivial⟩ ?_
      refine WC.seq (fun K18 k18 => ?_)
      refine WC.region rfl ?_
      refine WL.yld rfl (blt rfl) rfl (Y.move rfl rfl) ?_
      refine WL.yld rfl (blt rfl) rfl (Y.geq rfl rfl rfl) ?_
      refine WL.nil ?_
      refine WK.then_normal (k18 _ _ ?_)
      refine WC.sub [(0, _), (3, _), (4, _), (5, _), (29, _)] ⟨rfl, rfl, rfl, rfl, rfl, trivial⟩ ?_
      refine WC.cond rfl (fun h19 => ?_) (fun h19 => ?_)
      ·
        have p19 := (dec_t h19)
        have ll := Fl.lastIdx_lt o o[i]!.n i
        refine WC.regionX (fun W' => Ext w W') (.load 0 (.load 1 (.load 2 (.load 3 (.load 4 (.load 5 (.load 6 (.load 7 (.load 8 (.load 9 (.load 10 (.load 11 (.load 12 (.load 13 (.load 14 (.load 15 (.load 16 (.load 17 (.load 18 (.load 19 (.load 20 (.load 22 (.load 23 (.load 24 (.load 25 (.alt 21 (.alt 26 (.load 27 (.alt 28 (.alt 29 (.load 30 (.fin)) (.none)) (.none))) (.none)) (.none))))))))))))))))))))))))))) xW (by kernel_rfl) (by kernel_rfl) (fun w20 x21 => ?_)
        have ow_v := ow_v.ext x21
        have xW := Ext.trans xW x21
        refine WX.yld rfl rfl (blt rfl) rfl (Y.move rfl rfl) ?_
        refine WX.yld rfl rfl (blt rfl) rfl (Y.move rfl rfl) ?_
        refine WX.yld rfl rfl (blt rfl) rfl (Y.move rfl rfl) ?_
        have b22 : i < n_o := by omega
        refine WX.yld rfl rfl (blt rfl) rfl (Y.indexLs i (h_o.ext xW) rfl Try.underlying22 ti44 rfl rfl rfl b22) ?_
        refine WX.yld rfl rfl (blt rfl) rfl (Y.fieldE rfl Try.underlying44 rfl ti38 (by decide) rfl) ?_
        refine WX.yld rfl rfl (blt rfl) rfl (Y.fieldE rfl Try.underlying38 rfl ti3 (by decide) rfl) ?_
        refine WX.yld rfl rfl (blt rfl) rfl (Y.load1 rfl Try.underlying3 rfl rfl (Ls.at_c (fun _ h => (h_o.ext (h))) b22 rfl)) ?_
        refine WX.yld rfl rfl (blt rfl) rfl (Y.move rfl rfl) ?_
        refine WX.yld rfl rfl (blt rfl) rfl (Y.move rfl rfl) ?_
        have b23 : (Fl.lastIdx o o[i]!.n i).toNat < n_o := by omega
        refine WX.yld rfl rfl (blt rfl) rfl (Y.indexLs (Fl.lastIdx o o[i]!.n i).toNat (h_o.ext xW) rfl Try.underlying22 ti44 rfl rfl (by omega) b23) ?_
        refine WX.yld rfl rfl (blt rfl) rfl (Y.fieldE rfl Try.underlying44 rfl ti40 (by decide) rfl) ?_
        refine WX.yld rfl rfl (blt rfl) rfl (Y.loadS (cs := [_, _]) rfl Try.underlying40 rfl ti40 rfl (Ls.part_c (fun _ h => (h_o.ext (h))) b23 rfl)) ?_
        refine WX.yld rfl rfl (blt rfl) rfl (Y.move rfl rfl) ?_
        refine WX.yld rfl rfl (blt rfl) rfl (Y.move rfl rfl) ?_
        have b24 : i < n_o := by omega
        refine WX.yld rfl rfl (blt rfl) rfl (Y.indexLs i (h_o.ext xW) rfl Try.underlying22 ti44 rfl rfl rfl b24) ?_
        refine WX.yld rfl rfl (blt rfl) rfl (Y.fieldE rfl Try.underlying44 rfl ti40 (by decide) rfl) ?_
        refine WX.yld rfl rfl (blt rfl) rfl (Y.loadS (cs := [_, _]) rfl Try.underlying40 rfl ti40 rfl (Ls.part_c (fun _ h => (h_o.ext (h))) b24 rfl)) ?_
        refine WX.yld rfl rfl (blt rfl) rfl (Y.move rfl rfl) ?_
        refine WX.yld rfl rfl (blt rfl) rfl (Y.move rfl rfl) ?_
        have b25 : (Fl.lastIdx o o[i]!.n i).toNat < n_o := by omega
        refine WX.yld rfl rfl (blt rfl) rfl (Y.indexLs (Fl.lastIdx o o[i]!.n i).toNat (h_o.ext xW) rfl Try.underlying22 ti44 rfl rfl (by omega) b25) ?_
        refine WX.yld rfl rfl (blt rfl) rfl (Y.loadS (cs := [_, _, _, _, _, _, _, _, _, _]) rfl Try.underlying44 rfl ti44 rfl (Ls.part_c (fun _ h => (h_o.ext (h))) b25 rfl)) ?_
        refine WX.yld rfl rfl (blt rfl) rfl (Y.move rfl rfl) ?_
        refine WX.yld rfl rfl (blt rfl) rfl (Y.move rfl rfl) ?_
        have b26 : i < n_o := by omega
        refine WX.yld rfl rfl (blt rfl) rfl (Y.indexLs i (h_o.ext xW) rfl Try.underlying22 ti44 rfl rfl rfl b26) ?_
        refine WX.yld rfl rfl (blt rfl) rfl (Y.loadS (cs := [_, _, _, _, _, _, _, _, _, _]) rfl Try.underlying44 rfl ti44 rfl (Ls.part_c (fun _ h => (h_o.ext (h))) b26 rfl)) ?_
        refine WX.call rfl rfl (blt rfl) rfl rfl rfl has22 rfl xW (rtime_any _ _ ) ?_
        rintro _ w27 ⟨rfl, x28⟩
        refine ⟨_, rfl, ?_⟩
        have ow_v := ow_v.ext x28
        have xW := Ext.trans xW x28
        refine WX.call rfl rfl (blt rfl) rfl rfl rfl has22 rfl xW (rtime_any _ _ ) ?_
        rintro _ w29 ⟨rfl, x30⟩
        refine ⟨_, rfl, ?_⟩
        have ow_v := ow_v.ext x30
        have xW := Ext.trans xW x30
        refine WX.yld rfl rfl (blt rfl) rfl (Y.build (cells := [_, _, _, _, _, _, _]) rfl pl46 rfl rfl) ?_
        refine WX.run rfl rfl (blt rfl) rfl xW (Run.bslice (zs := [.int .i64 0, .int .i64 0, .int .i64 0, .int .i64 0, .int .i64 0, .int .i64 0, .int .i64 0]) (cs := [_, _, _, _, _, _, _]) rfl Try.underlying25 ti46 rfl (ble rfl) (by kernel_rfl) rfl rfl) ?_
        rintro _ w32 ⟨g31, rfl, e33, x34, m35⟩
        have r_v_g31 := ne_newO ow_v e33
        have o_g31 := own_new xW e33
        have ow_v := ow_v.ext x34
        have xW := Ext.trans xW x34
        refine WX.run rfl rfl (blt rfl) rfl xW (Run.appendB (f := Fl.Flow.c) (news := [Fl.flowOf o[(Fl.lastIdx o o[i]!.n i).toNat]! o[i]!]) rfl rfl rfl Try.underlying25 ti46 rfl (by decide) rfl ow_v (fun _ => rfl) Fl.Flow.one m35 rfl xW.size (by have q0 := Fl.run_take_len o i; first | omega | (simp only [List.length_append, List.length_cons, List.length_nil, List.length_take, List.length_drop, List.length_reverse]; omega)) (Nat.le_trans (show _ ≤ 140737488355328 from by have q0 := Fl.run_take_len o i; first | omega | (simp only [List.length_append, List.length_cons, List.length_nil, List.length_take, List.length_drop, List.length_reverse]; omega)) (by decide)) ) ?_
        rintro v36 w37 ⟨ow38, gr39, nb40⟩
        have r_v36_g31 := ne_app nb40 r_v_g31 m35
        have m35 := m35.grown gr39 r_v_g31
        have xW := Ext.grown xW gr39 (fun b hb => (OwnL.lt ow_v hb).1)
        refine WX.yld rfl rfl (blt rfl) rfl (Y.assign rfl rfl) ?_
        refine WX.nil xW ?_
        refine WK.in_normal ?_
        refine WK.then_normal (k9 _ _ ?_)
        refine WC.sub [(0, _), (3, _), (4, _)] ⟨rfl, rfl, rfl, trivial⟩ ?_
        refine WC.region rfl ?_
        refine WL.yld rfl (blt rfl) rfl (Y.move rfl rfl) ?_
        refine WL.yld rfl (blt rfl) rfl (Y.add rfl rfl rfl (wrap_i64 (by first | omega | (dsimp only; omega)))) ?_
        refine WL.yld rfl (blt rfl) rfl (Y.assign rfl rfl) ?_
        refine WL.nil ?_
        refine WK.roundS _ [(4, .int .i64 (((i + 1) : Nat) : Int)), (3, v36)] ⟨rfl, rfl, rfl, trivial⟩ ?_ ⟨(i + 1), v36, rfl, rfl, xW, (by rw [Fl.ref_some (show i < o.length from by omega) h13 p19]; exact ow38), (by omega)⟩
        show _ - (i + 1) < _ - i; omega
      ·
        have p19 := (dec_f h19)
        refine WC.skip ?_
        refine WK.in_normal ?_
        refine WK.then_normal (k9 _ _ ?_)
        refine WC.sub [(0, _), (3, _), (4, _)] ⟨rfl, rfl, rfl, trivial⟩ ?_
        refine WC.region rfl ?_
        refine WL.yld rfl (blt rfl) rfl (Y.move rfl rfl) ?_
        refine WL.yld rfl (blt rfl) rfl (Y.add rfl rfl rfl (wrap_i64 (by first | omega | (dsimp only; omega)))) ?_
        refine WL.yld rfl (blt rfl) rfl (Y.assign rfl rfl) ?_
        refine WL.nil ?_
        refine WK.roundS _ [(4, .int .i64 (((i + 1) : Nat) : Int)), (3, v)] ⟨rfl, rfl, rfl, trivial⟩ ?_ ⟨(i + 1), v, rfl, rfl, xW, (by rw [Fl.ref_none (show i < o.length from by omega) h13 p19]; exact ow_v), (by omega)⟩
        show _ - (i + 1) < _ - i; omega
  ·
    have p8 := (dec_f h8)
    refine WC.exit ?_
    refine WK.then_exit ?_
    refine WK.then_exit ?_
    refine WK.in_exit ?_
    refine WK.then_normal (k3 _ _ ?_)
    refine WC.sub [(3, _)] ⟨rfl, trivial⟩ ?_
    refine WC.seq (fun K41 k41 => ?_)
    refine WC.region rfl ?_
    refine WL.yld rfl (blt rfl) rfl (Y.move rfl rfl) ?_
    refine WL.yld rfl (blt rfl) rfl (Y.assign rfl rfl) ?_
    refine WL.nil ?_
    refine WK.then_normal (k41 _ _ ?_)
    refine WC.sub [(2, _)] ⟨rfl, trivial⟩ ?_
    refine WC.ret ?_
    clear k1 k2 k3 k4 k6 k7 k41
    refine WK.ret [_] rfl ⟨rfl, trivial⟩ ?_
    refine ⟨_, rfl, ?_, xW⟩
    rw [show o.take i = o from List.take_of_length_le (by omega)] at ow_v
    exact ow_v
theorem rcheck_any (A_l : Option Addr) (n_l c_l : Nat) (l : List Fl.Flow) (w : World) (h_l : Ls w A_l n_l c_l Fl.Flow.c 7 l) :
    Calls Try.prog 17 #[.slice A_l n_l c_l] w fun e w' => e = .returned (.int .i64 (Fl.chk l l 0)) ∧ Ext w w' := by
  have xW := Ext.refl w
  have e_l := h_l.len
  have z_l := h_l.nle
  refine calls_of_WC (args := [.slice A_l n_l c_l]) Try.func17 rfl rfl (ble rfl) ?_
  refine WC.seq (fun K1 k1 => ?_)
  refine WC.region rfl ?_
  refine WL.yld rfl (blt rfl) rfl (Y.assign rfl rfl) ?_
  refine WL.nil ?_
  refine WK.then_normal (k1 _ _ ?_)
  refine WC.sub [(0, _)] ⟨rfl, trivial⟩ ?_
  refine WC.seq (fun K2 k2 => ?_)
  refine WC.seq (fun K3 k3 => ?_)
  refine WC.region rfl ?_
  refine WL.yld rfl (blt rfl) rfl (Y.assign rfl rfl) ?_
  refine WL.nil ?_
  refine WK.then_normal (k3 _ _ ?_)
  refine WC.block ?_
  refine WC.sub [(3, _), (0, _)] ⟨rfl, rfl, trivial⟩ ?_
  refine WC.loopS 1 (fun mz Ed W' => ∃ i : Nat, mz = n_l - i ∧ Ed = [(3, .int .i64 ((i : Nat) : Int))] ∧ Ext w W' ∧ (i ≤ n_l) ∧ (Fl.chk l (l.drop i) i = Fl.chk l l 0)) _ ⟨0, rfl, rfl, xW, (Nat.zero_le _), rfl⟩ ?_
  rintro _ _ w4 ⟨i, rfl, rfl, xW, le_i, inv_i⟩
  refine WC.sub [(3, _), (0, _)] ⟨rfl, rfl, trivial⟩ ?_
  refine WC.seq (fun K5 k5 => ?_)
  refine WC.seq (fun K6 k6 => ?_)
  refine WC.region rfl ?_
  refine WL.yld rfl (blt rfl) rfl (Y.move rfl rfl) ?_
  refine WL.yld rfl (blt rfl) rfl (Y.move rfl rfl) ?_
  refine WL.yld rfl (blt rfl) rfl (Y.lenSl rfl rfl rfl Try.underlying25 rfl) ?_
  refine WL.yld rfl (blt rfl) rfl (Y.lss rfl rfl rfl) ?_
  refine WL.nil ?_
  refine WK.then_normal (k6 _ _ ?_)
  refine WC.sub [(0, _), (3, _), (8, _)] ⟨rfl, rfl, rfl, trivial⟩ ?_
  refine WC.cond rfl (fun h7 => ?_) (fun h7 => ?_)
  ·
    have p7 := (dec_t h7)
    refine WC.skip ?_
    refine WK.then_normal (k5 _ _ ?_)
    refine WC.sub [(0, _), (3, _)] ⟨rfl, rfl, trivial⟩ ?_
    refine WC.seq (fun K8 k8 => ?_)
    refine WC.block ?_
    refine WC.seq (fun K9 k9 => ?_)
    refine WC.region rfl ?_
    refine WL.yld rfl (blt rfl) rfl (Y.move rfl rfl) ?_
    refine WL.yld rfl (blt rfl) rfl (Y.move rfl rfl) ?_
    have b10 : i < n_l := by omega
    refine WL.yld rfl (blt rfl) rfl (Y.indexLs i (h_l.ext xW) rfl Try.underlying25 ti46 rfl rfl rfl b10) ?_
    refine WL.yld rfl (blt rfl) rfl (Y.loadS (cs := [_, _, _, _, _, _, _]) rfl Try.underlying46 rfl ti46 rfl (Ls.part_eq (h_l.ext xW) b10 rfl)) ?_
    refine WL.alloc rfl (blt rfl) rfl rfl ti46 rfl ?_
    intro g11 w12 e13 x14 m15
    have o_g11 := own_new xW e13
    have xW := Ext.trans xW x14
    refine WL.store (cs' := [_, _, _, _, _, _, _]) rfl rfl rfl rfl rfl rfl ti46 m15 (ble rfl) rfl rfl (fun w16 on17 m18 => ?_)
    have xW := Ext.only xW on17 o_g11
    refine WL.nil ?_
    refine WK.then_normal (k9 _ _ ?_)
    refine WC.sub [(0, _), (3, _), (4, _)] ⟨rfl, rfl, rfl, trivial⟩ ?_
    refine WC.seq (fun K19 k19 => ?_)
    refine WC.seq (fun K20 k20 => ?_)
    refine WC.region rfl ?_
    refine WL.yld rfl (blt rfl) rfl (Y.fieldAddr rfl Try.underlying46 rfl ti3 (by decide) rfl) ?_
    refine WL.yld rfl (blt rfl) rfl (Y.load1 rfl Try.underlying3 rfl rfl (Blk.at_eq m18 rfl)) ?_
    refine WL.call rfl (blt rfl) rfl rfl rfl has31 rfl (natural_any _ _ ) ?_
    rintro _ w21 ⟨rfl, x22⟩
    refine ⟨_, rfl, ?_⟩
    have m18 := m18.ext x22
    have xW := Ext.trans xW x22
    refine WL.yld rfl (blt rfl) rfl (Y.not rfl rfl) ?_
    refine WL.yld rfl (blt rfl) rfl (Y.move rfl rfl) ?_
    refine WL.yldG rfl (blt rfl) rfl rfl rfl (fun hb => Y.fieldAddr rfl Try.underlying46 rfl ti40 (by decide) rfl) ?_
    refine WL.yldG rfl (blt rfl) rfl rfl rfl (fun hb => Y.fieldAddr rfl Try.underlying40 rfl ti3 (by decide) (evg rfl hb)) ?_
    refine WL.yldG rfl (blt rfl) rfl rfl rfl (fun hb => Y.load1 rfl Try.underlying3 rfl (evg rfl hb) (Blk.at_eq m18 rfl)) ?_
    refine WL.callG rfl (blt rfl) rfl rfl rfl rfl rfl has31 (fun hb => (evs_cons (evg rfl hb) evs_nil)) (fun hb => natural_any _ _ ) (fun w23 x24 => ?_)
    have m18 := m18.ext x24
    have xW := Ext.trans xW x24
    refine WL.yldG rfl (blt rfl) rfl rfl rfl (fun hb => Y.not rfl (evg rfl hb)) ?_
    refine WL.yld rfl (blt rfl) rfl (Y.or rfl rfl rfl rfl) ?_
    refine WL.yld rfl (blt rfl) rfl (Y.move rfl rfl) ?_
    refine WL.yldG rfl (blt rfl) rfl rfl rfl (fun hb => Y.fieldAddr rfl Try.underlying46 rfl ti40 (by decide) rfl) ?_
    refine WL.yldG rfl (blt rfl) rfl rfl rfl (fun hb => Y.fieldAddr rfl Try.underlying40 rfl ti3 (by decide) (evg rfl hb)) ?_
    refine WL.yldG rfl (blt rfl) rfl rfl rfl (fun hb => Y.load1 rfl Try.underlying3 rfl (evg rfl hb) (Blk.at_eq m18 rfl)) ?_
    refine WL.callG rfl (blt rfl) rfl rfl rfl rfl rfl has31 (fun hb => (evs_cons (evg rfl hb) evs_nil)) (fun hb => natural_any _ _ ) (fun w25 x26 => ?_)
    have m18 := m18.ext x26
    have xW := Ext.trans xW x26
    refine WL.yldG rfl (blt rfl) rfl rfl rfl (fun hb => Y.not rfl (evg rfl hb)) ?_
    refine WL.yld rfl (blt rfl) rfl (Y.or rfl rfl rfl rfl) ?_
    refine WL.yld rfl (blt rfl) rfl (Y.move rfl rfl) ?_
    refine WL.yldG rfl (blt rfl) rfl rfl rfl (fun hb => Y.fieldAddr rfl Try.underlying46 rfl ti40 (by decide) rfl) ?_
    refine WL.yldG rfl (blt rfl) rfl rfl rfl (fun hb => Y.fieldAddr rfl Try.underlying40 rfl ti3 (by decide) (evg rfl hb)) ?_
    refine WL.yldG rfl (blt rfl) rfl rfl rfl (fun hb => Y.load1 rfl Try.underlying3 rfl (evg rfl hb) (Blk.at_eq m18 rfl)) ?_
    refine WL.callG rfl (blt rfl) rfl rfl rfl rfl rfl has31 (fun hb => (evs_cons (evg rfl hb) evs_nil)) (fun hb => natural_any _ _ ) (fun w27 x28 => ?_)
    have m18 := m18.ext x28
    have xW := Ext.trans xW x28
    refine WL.yldG rfl (blt rfl) rfl rfl rfl (fun hb => Y.not rfl (evg rfl hb)) ?_
    refine WL.yld rfl (blt rfl) rfl (Y.or rfl rfl rfl rfl) ?_
    refine WL.yld rfl (blt rfl) rfl (Y.move rfl rfl) ?_
    refine WL.yldG rfl (blt rfl) rfl rfl rfl (fun hb => Y.fieldAddr rfl Try.underlying46 rfl ti40 (by decide) rfl) ?_
    refine WL.yldG rfl (blt rfl) rfl rfl rfl (fun hb => Y.fieldAddr rfl Try.underlying40 rfl ti3 (by decide) (evg rfl hb)) ?_
    refine WL.yldG rfl (blt rfl) rfl rfl rfl (fun hb => Y.load1 rfl Try.underlying3 rfl (evg rfl hb) (Blk.at_eq m18 rfl)) ?_
    refine WL.callG rfl (blt rfl) rfl rfl rfl rfl rfl has31 (fun hb => (evs_cons (evg rfl hb) evs_nil)) (fun hb => natural_any _ _ ) (fun w29 x30 => ?_)
    have m18 := m18.ext x30
    have xW := Ext.trans xW x30
    refine WL.yldG rfl (blt rfl) rfl rfl rfl (fun hb => Y.not rfl (evg rfl hb)) ?_
    refine WL.yld rfl (blt rfl) rfl (Y.or rfl rfl rfl rfl) ?_
    refine WL.yld rfl (blt rfl) rfl (Y.move rfl rfl) ?_
    refine WL.yldG rfl (blt rfl) rfl rfl rfl (fun hb => Y.fieldAddr rfl Try.underlying46 rfl ti3 (by decide) rfl) ?_
    refine WL.yldG rfl (blt rfl) rfl rfl rfl (fun hb => Y.load1 rfl Try.underlying3 rfl (evg rfl hb) (Blk.at_eq m18 rfl)) ?_
    refine WL.callG rfl (blt rfl) rfl rfl rfl rfl rfl has32 (fun hb => (evs_cons (evg rfl hb) evs_nil)) (fun hb => reading_any _ _ ) (fun w31 x32 => ?_)
    have m18 := m18.ext x32
    have xW := Ext.trans xW x32
    refine WL.yldG rfl (blt rfl) rfl rfl rfl (fun hb => Y.not rfl (evg rfl hb)) ?_
    refine WL.yld rfl (blt rfl) rfl (Y.or rfl rfl rfl rfl) ?_
    refine WL.yld rfl (blt rfl) rfl (Y.move rfl rfl) ?_
    refine WL.yldG rfl (blt rfl) rfl rfl rfl (fun hb => Y.fieldAddr rfl Try.underlying46 rfl ti3 (by decide) rfl) ?_
    refine WL.yldG rfl (blt rfl) rfl rfl rfl (fun hb => Y.load1 rfl Try.underlying3 rfl (evg rfl hb) (Blk.at_eq m18 rfl)) ?_
    refine WL.callG rfl (blt rfl) rfl rfl rfl rfl rfl has32 (fun hb => (evs_cons (evg rfl hb) evs_nil)) (fun hb => reading_any _ _ ) (fun w33 x34 => ?_)
    have m18 := m18.ext x34
    have xW := Ext.trans xW x34
    refine WL.yldG rfl (blt rfl) rfl rfl rfl (fun hb => Y.not rfl (evg rfl hb)) ?_
    refine WL.yld rfl (blt rfl) rfl (Y.or rfl rfl rfl rfl) ?_
    refine WL.nil ?_
    refine WK.then_normal (k20 _ _ ?_)
    refine WC.sub [(0, _), (3, _), (4, _), (58, _)] ⟨rfl, rfl, rfl, rfl, trivial⟩ ?_
    refine WC.cond rfl (fun h35 => ?_) (fun h35 => ?_)
    ·
      refine WC.seq (fun K36 k36 => ?_)
      refine WC.region rfl ?_
      refine WL.yld rfl (blt rfl) rfl (Y.assign rfl rfl) ?_
      refine WL.nil ?_
      refine WK.then_normal (k36 _ _ ?_)
      refine WC.sub [(2, _)] ⟨rfl, trivial⟩ ?_
      refine WC.ret ?_
      refine WK.then_ret ?_
      refine WK.in_ret ?_
      refine WK.then_ret ?_
      refine WK.then_ret ?_
      refine WK.in_ret ?_
      refine WK.then_ret ?_
      clear k1 k2 k3 k5 k6 k8 k9 k19 k20 k36
      refine WK.ret [_] rfl ⟨rfl, trivial⟩ ?_
      refine ⟨ret1 (vi ?_), xW⟩
      rw [← inv_i, drop_bang (show i < l.length from by omega)]
      rw [Fl.chk, if_pos (by have q := h35; simp only [Bool.not_not] at q; unfold Fl.rangeB; exact q)]
    ·
      refine WC.skip ?_
      refine WK.then_normal (k19 _ _ ?_)
      refine WC.sub [(0, _), (3, _), (4, _)] ⟨rfl, rfl, rfl, trivial⟩ ?_
      refine WC.seq (fun K37 k37 => ?_)
      refine WC.regionDq (by kernel_rfl) (by kernel_rfl) rfl ?_
      refine WQ.yld rfl (blt rfl) rfl (Y.fieldAddr rfl Try.underlying46 rfl ti3 (by decide) rfl) ?_
      refine WQ.yld rfl (blt rfl) rfl (Y.load1 rfl Try.underlying3 rfl rfl (Blk.at_ext m18 rfl)) ?_
      refine WQ.yld rfl (blt rfl) rfl (Y.fieldAddr rfl Try.underlying46 rfl ti3 (by decide) rfl) ?_
      refine WQ.yld rfl (blt rfl) rfl (Y.load1 rfl Try.underlying3 rfl rfl (Blk.at_ext m18 rfl)) ?_
      refine WQ.yld rfl (blt rfl) rfl (Y.gtr rfl rfl rfl) ?_
      refine WQ.yld rfl (blt rfl) rfl (Y.move rfl rfl) ?_
      refine WQ.yldG rfl (blt rfl) rfl rfl rfl (fun hb => Y.move rfl rfl) ?_
      refine WQ.yldG rfl (blt rfl) rfl rfl rfl (fun hb => Y.gtr rfl (evg rfl hb) rfl) ?_
      refine WQ.yldG rfl (blt rfl) rfl rfl rfl (fun hb => Y.move rfl (evg rfl hb)) ?_
      refine WQ.yldGs [(_, _)] rfl (blt rfl) rfl rfl rfl (fun hb => Y.fieldAddr rfl Try.underlying46 rfl ti3 (by decide) rfl) ?_
      refine WQ.yldGs [(_, _)] rfl (blt rfl) rfl rfl rfl (fun hb => Y.load1 rfl Try.underlying3 rfl (evg (evg rfl hb.1) hb.2.1) (Blk.at_ext m18 rfl)) ?_
      refine WQ.yldGs [(_, _)] rfl (blt rfl) rfl rfl rfl (fun hb => Y.move rfl rfl) ?_
      refine WQ.yldGs [(_, _)] rfl (blt rfl) rfl rfl rfl (fun hb => Y.move rfl rfl) ?_
      refine WQ.yldGs [(_, _)] rfl (blt rfl) rfl rfl rfl (fun hb => Y.sub rfl (evg (evg rfl hb.1) hb.2.1) rfl (wrap_i64 (by have q0 := (dec_f hb.1); have q1 := (dec_t hb.2.1); first | omega | (dsimp only; omega)))) ?_
      refine WQ.yldGs [(_, _)] rfl (blt rfl) rfl rfl rfl (fun hb => Y.indexLs (i - 1) (h_l.ext xW) rfl Try.underlying25 ti46 (evg (evg rfl hb.1) hb.2.1) (evg (evg rfl hb.1) hb.2.1) (by have q0 := (dec_f hb.1); have q1 := (dec_t hb.2.1); omega) (by have q0 := (dec_f hb.1); have q1 := (dec_t hb.2.1); omega)) ?_
      refine WQ.yldGs [(_, _)] rfl (blt rfl) rfl rfl rfl (fun hb => Y.fieldE rfl Try.underlying46 rfl ti3 (by decide) (evg (evg rfl hb.1) hb.2.1)) ?_
      refine WQ.yldGs [(_, _)] rfl (blt rfl) rfl rfl rfl (fun hb => Y.load1 rfl Try.underlying3 rfl (evg (evg rfl hb.1) hb.2.1) (Ls.at_ext (h_l.ext xW) (by have q0 := (dec_f hb.1); have q1 := (dec_t hb.2.1); omega) rfl)) ?_
      refine WQ.yldGs [(_, _)] rfl (blt rfl) rfl rfl rfl (fun hb => Y.lss rfl (evg (evg rfl hb.1) hb.2.1) (evg (evg rfl hb.1) hb.2.1)) ?_
      refine WQ.yldG rfl (blt rfl) rfl rfl rfl (fun hb => Y.and rfl (evg rfl hb) (evg rfl hb) rfl) ?_
      refine WQ.yld rfl (blt rfl) rfl (Y.or rfl rfl rfl rfl) ?_
      refine WQ.done (fun w38 x39 => ?_)
      have m18 := m18.ext x39
      have xW := Ext.trans xW x39
      refine WK.then_normal (k37 _ _ ?_)
      refine WC.sub [(0, _), (3, _), (78, _)] ⟨rfl, rfl, rfl, trivial⟩ ?_
      refine WC.cond rfl (fun h40 => ?_) (fun h40 => ?_)
      ·
        have p40 := ((or_t h40).imp (fun h => (dec_t h)) (fun h => (And.intro (dec_t (and_t h).1) (dec_t (and_t h).2))))
        refine WC.seq (fun K41 k41 => ?_)
        refine WC.region rfl ?_
        refine WL.yld rfl (blt rfl) rfl (Y.assign rfl rfl) ?_
        refine WL.nil ?_
        refine WK.then_normal (k41 _ _ ?_)
        refine WC.sub [(2, _)] ⟨rfl, trivial⟩ ?_
        refine WC.ret ?_
        refine WK.in_ret ?_
        refine WK.then_ret ?_
        refine WK.then_ret ?_
        refine WK.in_ret ?_
        refine WK.then_ret ?_
        clear k1 k2 k3 k5 k6 k8 k9 k19 k20 k37 k41
        refine WK.ret [_] rfl ⟨rfl, trivial⟩ ?_
        refine ⟨ret1 (vi ?_), xW⟩
        rw [← inv_i, drop_bang (show i < l.length from by omega)]
        rw [Fl.chk, if_neg (by have q := h35; simp only [Bool.not_not] at q; unfold Fl.rangeB; rw [q]; exact Bool.false_ne_true), if_pos h40]
      ·
        have p40 := (And.intro (dec_f (or_f h40).1) ((and_f (or_f h40).2).imp (fun h => (dec_f h)) (fun h => (dec_f h))))
        refine WC.skip ?_
        refine WK.in_normal ?_
        refine WK.then_normal (k8 _ _ ?_)
        refine WC.sub [(0, _), (3, _)] ⟨rfl, rfl, trivial⟩ ?_
        refine WC.region rfl ?_
        refine WL.yld rfl (blt rfl) rfl (Y.move rfl rfl) ?_
        refine WL.yld rfl (blt rfl) rfl (Y.add rfl rfl rfl (wrap_i64 (by first | omega | (dsimp only; omega)))) ?_
        refine WL.yld rfl (blt rfl) rfl (Y.assign rfl rfl) ?_
        refine WL.nil ?_
        refine WK.roundS _ [(3, .int .i64 (((i + 1) : Nat) : Int))] ⟨rfl, rfl, trivial⟩ ?_ ⟨(i + 1), rfl, rfl, xW, (by omega), (by rw [← inv_i, drop_bang (show i < l.length from by omega)]; rw [Fl.chk, if_neg (by have q := h35; simp only [Bool.not_not] at q; unfold Fl.rangeB; rw [q]; exact Bool.false_ne_true), if_neg (by rw [h40]; exact Bool.false_ne_true)])⟩
        show _ - (i + 1) < _ - i; omega
  ·
    have p7 := (dec_f h7)
    refine WC.exit ?_
    refine WK.then_exit ?_
    refine WK.then_exit ?_
    refine WK.in_exit ?_
    refine WK.then_normal (k2 _ _ ?_)
    refine WC.sub [] trivial ?_
    refine WC.seq (fun K42 k42 => ?_)
    refine WC.region rfl ?_
    refine WL.yld rfl (blt rfl) rfl (Y.assign rfl rfl) ?_
    refine WL.nil ?_
    refine WK.then_normal (k42 _ _ ?_)
    refine WC.ret ?_
    clear k1 k2 k3 k5 k6 k42
    refine WK.ret [_] rfl ⟨rfl, trivial⟩ ?_
    refine ⟨ret1 (vi ?_), xW⟩
    rw [← inv_i, List.drop_of_length_le (by omega)]; rfl
theorem rbetween_any (A_l : Option Addr) (n_l c_l : Nat) (l : List Fl.Flow) (a : Int) (b : Int) (w : World) (h_l : Ls w A_l n_l c_l Fl.Flow.c 7 l) (hn : n_l ≤ 2000) :
    Calls Try.prog 19 #[.slice A_l n_l c_l, .int .i64 a, .int .i64 b] w fun e w' => ∃ v, e = .returned v ∧ OwnL w' w.heap.size 46 Fl.Flow.c 7 v (Fl.betweenF l a b) ∧ Ext w w' := by
  have xW := Ext.refl w
  have e_l := h_l.len
  have z_l := h_l.nle
  refine calls_of_WC (args := [.slice A_l n_l c_l, .int .i64 a, .int .i64 b]) Try.func19 rfl rfl (ble rfl) ?_
  refine WC.seq (fun K1 k1 => ?_)
  refine WC.region rfl ?_
  refine WL.yld rfl (blt rfl) rfl (Y.assign rfl rfl) ?_
  refine WL.nil ?_
  refine WK.then_normal (k1 _ _ ?_)
  refine WC.sub [(0, _), (1, _), (2, _)] ⟨rfl, rfl, rfl, trivial⟩ ?_
  refine WC.seq (fun K2 k2 => ?_)
  refine WC.region rfl ?_
  refine WL.yld rfl (blt rfl) rfl (Y.assign rfl rfl) ?_
  refine WL.nil ?_
  refine WK.then_normal (k2 _ _ ?_)
  refine WC.seq (fun K3 k3 => ?_)
  refine WC.seq (fun K4 k4 => ?_)
  refine WC.region rfl ?_
  refine WL.yld rfl (blt rfl) rfl (Y.assign rfl rfl) ?_
  refine WL.nil ?_
  refine WK.then_normal (k4 _ _ ?_)
  refine WC.block ?_
  refine WC.sub [(8, _), (7, _), (0, _), (1, _), (2, _)] ⟨rfl, rfl, rfl, rfl, rfl, trivial⟩ ?_
  refine WC.loopS 2 (fun mz Ed W' => ∃ i : Nat, ∃ v : Value, mz = n_l - i ∧ Ed = [(8, .int .i64 ((i : Nat) : Int)), (7, v)] ∧ Ext w W' ∧ OwnL W' w.heap.size 46 Fl.Flow.c 7 v (Fl.betweenF (l.take i) a b) ∧ (i ≤ n_l)) _ ⟨0, _, rfl, rfl, xW, OwnL.nil_, (Nat.zero_le _)⟩ ?_
  rintro _ _ w5 ⟨i, v, rfl, rfl, xW, ow_v, le_i⟩
  refine WC.sub [(8, _), (7, _), (0, _), (1, _), (2, _)] ⟨rfl, rfl, rfl, rfl, rfl, trivial⟩ ?_
  refine WC.seq (fun K6 k6 => ?_)
  refine WC.seq (fun K7 k7 => ?_)
  refine WC.region rfl ?_
  refine WL.yld rfl (blt rfl) rfl (Y.move rfl rfl) ?_
  refine WL.yld rfl (blt rfl) rfl (Y.move rfl rfl) ?_
  refine WL.yld rfl (blt rfl) rfl (Y.lenSl rfl rfl rfl Try.underlying25 rfl) ?_
  refine WL.yld rfl (blt rfl) rfl (Y.lss rfl rfl rfl) ?_
  refine WL.nil ?_
  refine WK.then_normal (k7 _ _ ?_)
  refine WC.sub [(0, _), (1, _), (2, _), (7, _), (8, _), (12, _)] ⟨rfl, rfl, rfl, rfl, rfl, rfl, trivial⟩ ?_
  refine WC.cond rfl (fun h8 => ?_) (fun h8 => ?_)
  ·
    have p8 := (dec_t h8)
    refine WC.skip ?_
    refine WK.then_normal (k6 _ _ ?_)
    refine WC.sub [(0, _), (1, _), (2, _), (7, _), (8, _)] ⟨rfl, rfl, rfl, rfl, rfl, trivial⟩ ?_
    refine WC.seq (fun K9 k9 => ?_)
    refine WC.block ?_
    refine WC.seq (fun K10 k10 => ?_)
    refine WC.region rfl ?_
    refine WL.yld rfl (blt rfl) rfl (Y.move rfl rfl) ?_
    refine WL.yld rfl (blt rfl) rfl (Y.move rfl rfl) ?_
    have b11 : i < n_l := by omega
    refine WL.yld rfl (blt rfl) rfl (Y.indexLs i (h_l.ext xW) rfl Try.underlying25 ti46 rfl rfl rfl b11) ?_
    refine WL.yld rfl (blt rfl) rfl (Y.fieldE rfl Try.underlying46 rfl ti40 (by decide) rfl) ?_
    refine WL.yld rfl (blt rfl) rfl (Y.fieldE rfl Try.underlying40 rfl ti3 (by decide) rfl) ?_
    refine WL.yld rfl (blt rfl) rfl (Y.load1 rfl Try.underlying3 rfl rfl (Ls.at_eq (h_l.ext xW) b11 rfl)) ?_
    refine WL.yld rfl (blt rfl) rfl (Y.move rfl rfl) ?_
    refine WL.yld rfl (blt rfl) rfl (Y.eql rfl rfl rfl) ?_
    refine WL.yld rfl (blt rfl) rfl (Y.move rfl rfl) ?_
    refine WL.yldG rfl (blt rfl) rfl rfl rfl (fun hb => Y.move rfl rfl) ?_
    refine WL.yldG rfl (blt rfl) rfl rfl rfl (fun hb => Y.move rfl rfl) ?_
    refine WL.yldG rfl (blt rfl) rfl rfl rfl (fun hb => Y.indexLs i (h_l.ext xW) rfl Try.underlying25 ti46 (evg rfl hb) (evg rfl hb) rfl (by have q0 := (eq_t hb); omega)) ?_
    refine WL.yldG rfl (blt rfl) rfl rfl rfl (fun hb => Y.fieldE rfl Try.underlying46 rfl ti40 (by decide) (evg rfl hb)) ?_
    refine WL.yldG rfl (blt rfl) rfl rfl rfl (fun hb => Y.fieldE rfl Try.underlying40 rfl ti3 (by decide) (evg rfl hb)) ?_
    refine WL.yldG rfl (blt rfl) rfl rfl rfl (fun hb => Y.load1 rfl Try.underlying3 rfl (evg rfl hb) (Ls.at_eq (h_l.ext xW) (by have q0 := (eq_t hb); omega) rfl)) ?_
    refine WL.yldG rfl (blt rfl) rfl rfl rfl (fun hb => Y.move rfl rfl) ?_
    refine WL.yldG rfl (blt rfl) rfl rfl rfl (fun hb => Y.eql rfl (evg rfl hb) (evg rfl hb)) ?_
    refine WL.yld rfl (blt rfl) rfl (Y.and rfl rfl rfl rfl) ?_
    refine WL.nil ?_
    refine WK.then_normal (k10 _ _ ?_)
    refine WC.sub [(0, _), (1, _), (2, _), (7, _), (8, _), (32, _)] ⟨rfl, rfl, rfl, rfl, rfl, rfl, trivial⟩ ?_
    refine WC.cond rfl (fun h12 => ?_) (fun h12 => ?_)
    ·
      have p12 := (And.intro (eq_t (and_t h12).1) (eq_t (and_t h12).2))
      refine WC.region rfl ?_
      refine WL.yld rfl (blt rfl) rfl (Y.move rfl rfl) ?_
      refine WL.yld rfl (blt rfl) rfl (Y.move rfl rfl) ?_
      refine WL.yld rfl (blt rfl) rfl (Y.move rfl rfl) ?_
      have b13 : i < n_l := by omega
      refine WL.yld rfl (blt rfl) rfl (Y.indexLs i (h_l.ext xW) rfl Try.underlying25 ti46 rfl rfl rfl b13) ?_
      refine WL.yld rfl (blt rfl) rfl (Y.loadS (cs := [_, _, _, _, _, _, _]) rfl Try.underlying46 rfl ti46 rfl (Ls.part_eq (h_l.ext xW) b13 rfl)) ?_
      refine WL.bslice (zs := [.int .i64 0, .int .i64 0, .int .i64 0, .int .i64 0, .int .i64 0, .int .i64 0, .int .i64 0]) (cs := [_, _, _, _, _, _, _]) rfl (blt rfl) rfl rfl Try.underlying25 ti46 rfl (ble rfl) (by kernel_rfl) rfl rfl ?_
      intro g14 w15 e16 x17 m18
      have r_v_g14 := ne_newO ow_v e16
      have o_g14 := own_new xW e16
      have ow_v := ow_v.ext x17
      have xW := Ext.trans xW x17
      refine WL.appendB (f := Fl.Flow.c) (news := [l[i]!]) rfl (blt rfl) rfl rfl rfl rfl Try.underlying25 ti46 rfl (by decide) rfl ow_v (fun _ => rfl) Fl.Flow.one m18 rfl xW.size (by have q0 := Fl.between_len l a b i; first | omega | (simp only [List.length_append, List.length_cons, List.length_nil, List.length_take, List.length_drop, List.length_reverse]; omega)) (Nat.le_trans (show _ ≤ 140737488355328 from by have q0 := Fl.between_len l a b i; first | omega | (simp only [List.length_append, List.length_cons, List.length_nil, List.length_take, List.length_drop, List.length_reverse]; omega)) (by decide)) (fun v19 w20 ow21 gr22 nb23 => ?_)
      have r_v19_g14 := ne_app nb23 r_v_g14 m18
      have m18 := m18.grown gr22 r_v_g14
      have xW := Ext.grown xW gr22 (fun b hb => (OwnL.lt ow_v hb).1)
      refine WL.yld rfl (blt rfl) rfl (Y.assign rfl rfl) ?_
      refine WL.nil ?_
      refine WK.in_normal ?_
      refine WK.then_normal (k9 _ _ ?_)
      refine WC.sub [(0, _), (1, _), (2, _), (7, _), (8, _)] ⟨rfl, rfl, rfl, rfl, rfl, trivial⟩ ?_
      refine WC.region rfl ?_
      refine WL.yld rfl (blt rfl) rfl (Y.move rfl rfl) ?_
      refine WL.yld rfl (blt rfl) rfl (Y.add rfl rfl rfl (wrap_i64 (by first | omega | (dsimp only; omega)))) ?_
      refine WL.yld rfl (blt rfl) rfl (Y.assign rfl rfl) ?_
      refine WL.nil ?_
      refine WK.roundS _ [(8, .int .i64 (((i + 1) : Nat) : Int)), (7, v19)] ⟨rfl, rfl, rfl, rfl, rfl, trivial⟩ ?_ ⟨(i + 1), v19, rfl, rfl, xW, (by rw [Fl.between_take l a b (show i < l.length from by omega)]; simp only [h12, Bool.false_eq_true, if_true, if_false, List.append_nil]; exact ow21), (by omega)⟩
      show _ - (i + 1) < _ - i; omega
    ·
      have p12 := ((and_f h12).imp (fun h => (eq_f h)) (fun h => (eq_f h)))
      refine WC.skip ?_
      refine WK.in_normal ?_
      refine WK.then_normal (k9 _ _ ?_)
      refine WC.sub [(0, _), (1, _), (2, _), (7, _), (8, _)] ⟨rfl, rfl, rfl, rfl, rfl, trivial⟩ ?_
      refine WC.region rfl ?_
      refine WL.yld rfl (blt rfl) rfl (Y.move rfl rfl) ?_
      refine WL.yld rfl (blt rfl) rfl (Y.add rfl rfl rfl (wrap_i64 (by first | omega | (dsimp only; omega)))) ?_
      refine WL.yld rfl (blt rfl) rfl (Y.assign rfl rfl) ?_
      refine WL.nil ?_
      refine WK.roundS _ [(8, .int .i64 (((i + 1) : Nat) : Int)), (7, v)] ⟨rfl, rfl, rfl, rfl, rfl, trivial⟩ ?_ ⟨(i + 1), v, rfl, rfl, xW, (by rw [Fl.between_take l a b (show i < l.length from by omega)]; simp only [h12, Bool.false_eq_true, if_true, if_false, List.append_nil]; exact ow_v), (by omega)⟩
      show _ - (i + 1) < _ - i; omega
  ·
    have p8 := (dec_f h8)
    refine WC.exit ?_
    refine WK.then_exit ?_
    refine WK.then_exit ?_
    refine WK.in_exit ?_
    refine WK.then_normal (k3 _ _ ?_)
    refine WC.sub [(7, _)] ⟨rfl, trivial⟩ ?_
    refine WC.seq (fun K24 k24 => ?_)
    refine WC.region rfl ?_
    refine WL.yld rfl (blt rfl) rfl (Y.move rfl rfl) ?_
    refine WL.yld rfl (blt rfl) rfl (Y.assign rfl rfl) ?_
    refine WL.nil ?_
    refine WK.then_normal (k24 _ _ ?_)
    refine WC.sub [(6, _)] ⟨rfl, trivial⟩ ?_
    refine WC.ret ?_
    clear k1 k2 k3 k4 k6 k7 k24
    refine WK.ret [_] rfl ⟨rfl, trivial⟩ ?_
    refine ⟨_, rfl, ?_, xW⟩
    rw [show l.take i = l from List.take_of_length_le (by omega)] at ow_v
    exact ow_v
theorem same_any (A_a : Option Addr) (n_a c_a : Nat) (a : List Fl.Flow) (A_b : Option Addr) (n_b c_b : Nat) (b : List Fl.Flow) (w : World) (h_a : Ls w A_a n_a c_a Fl.Flow.c 7 a) (h_b : Ls w A_b n_b c_b Fl.Flow.c 7 b) :
    Calls Try.prog 10 #[.slice A_a n_a c_a, .slice A_b n_b c_b] w fun e w' => e = .returned (.bool (decide (a = b))) ∧ Ext w w' := by
  have xW := Ext.refl w
  have e_a := h_a.len
  have z_a := h_a.nle
  have e_b := h_b.len
  have z_b := h_b.nle
  refine calls_of_WC (args := [.slice A_a n_a c_a, .slice A_b n_b c_b]) Try.func10 rfl rfl (ble rfl) ?_
  refine WC.seq (fun K1 k1 => ?_)
  refine WC.region rfl ?_
  refine WL.yld rfl (blt rfl) rfl (Y.assign rfl rfl) ?_
  refine WL.nil ?_
  refine WK.then_normal (k1 _ _ ?_)
  refine WC.sub [(0, _), (1, _)] ⟨rfl, rfl, trivial⟩ ?_
  refine WC.seq (fun K2 k2 => ?_)
  refine WC.seq (fun K3 k3 => ?_)
  refine WC.region rfl ?_
  refine WL.yld rfl (blt rfl) rfl (Y.move rfl rfl) ?_
  refine WL.yld rfl (blt rfl) rfl (Y.lenSl rfl rfl rfl Try.underlying25 rfl) ?_
  refine WL.yld rfl (blt rfl) rfl (Y.move rfl rfl) ?_
  refine WL.yld rfl (blt rfl) rfl (Y.lenSl rfl rfl rfl Try.underlying25 rfl) ?_
  refine WL.yld rfl (blt rfl) rfl (Y.neq rfl rfl rfl) ?_
  refine WL.nil ?_
  refine WK.then_normal (k3 _ _ ?_)
  refine WC.sub [(0, _), (1, _), (10, _)] ⟨rfl, rfl, rfl, trivial⟩ ?_
  refine WC.cond rfl (fun h4 => ?_) (fun h4 => ?_)
  ·
    have p4 := (eq_f (not_t h4))
    refine WC.seq (fun K5 k5 => ?_)
    refine WC.region rfl ?_
    refine WL.yld rfl (blt rfl) rfl (Y.assign rfl rfl) ?_
    refine WL.nil ?_
    refine WK.then_normal (k5 _ _ ?_)
    refine WC.sub [(4, _)] ⟨rfl, trivial⟩ ?_
    refine WC.ret ?_
    refine WK.then_ret ?_
    clear k1 k2 k3 k5
    refine WK.ret [_] rfl ⟨rfl, trivial⟩ ?_
    refine ⟨ret1 (vb (Fl.same_no (by omega)).symm), xW⟩
  ·
    have p4 := (eq_t (not_f h4))
    refine WC.skip ?_
    refine WK.then_normal (k2 _ _ ?_)
    refine WC.sub [(0, _), (1, _)] ⟨rfl, rfl, trivial⟩ ?_
    refine WC.seq (fun K6 k6 => ?_)
    refine WC.seq (fun K7 k7 => ?_)
    refine WC.region rfl ?_
    refine WL.yld rfl (blt rfl) rfl (Y.assign rfl rfl) ?_
    refine WL.nil ?_
    refine WK.then_normal (k7 _ _ ?_)
    refine WC.block ?_
    refine WC.sub [(5, _), (0, _), (1, _)] ⟨rfl, rfl, rfl, trivial⟩ ?_
    refine WC.loopS 1 (fun mz Ed W' => ∃ i : Nat, mz = n_a - i ∧ Ed = [(5, .int .i64 ((i : Nat) : Int))] ∧ Ext w W' ∧ (i ≤ n_a) ∧ (∀ j, j < i → a[j]! = b[j]!)) _ ⟨0, rfl, rfl, xW, (Nat.zero_le _), (fun j hj => absurd hj (Nat.not_lt_zero j))⟩ ?_
    rintro _ _ w8 ⟨i, rfl, rfl, xW, le_i, inv_i⟩
    refine WC.sub [(5, _), (0, _), (1, _)] ⟨rfl, rfl, rfl, trivial⟩ ?_
    refine WC.seq (fun K9 k9 => ?_)
    refine WC.seq (fun K10 k10 => ?_)
    refine WC.region rfl ?_
    refine WL.yld rfl (blt rfl) rfl (Y.move rfl rfl) ?_
    refine WL.yld rfl (blt rfl) rfl (Y.move rfl rfl) ?_
    refine WL.yld rfl (blt rfl) rfl (Y.lenSl rfl rfl rfl Try.underlying25 rfl) ?_
    refine WL.yld rfl (blt rfl) rfl (Y.lss rfl rfl rfl) ?_
    refine WL.nil ?_
    refine WK.then_normal (k10 _ _ ?_)
    refine WC.sub [(0, _), (1, _), (5, _), (14, _)] ⟨rfl, rfl, rfl, rfl, trivial⟩ ?_
    refine WC.cond rfl (fun h11 => ?_) (fun h11 => ?_)
    ·
      have p11 := (dec_t h11)
      refine WC.skip ?_
      refine WK.then_normal (k9 _ _ ?_)
      refine WC.sub [(0, _), (1, _), (5, _)] ⟨rfl, rfl, rfl, trivial⟩ ?_
      refine WC.seq (fun K12 k12 => ?_)
      refine WC.block ?_
      refine WC.seq (fun K13 k13 => ?_)
      refine WC.regionDq (by kernel_rfl) (by kernel_rfl) rfl ?_
      refine WQ.yld rfl (blt rfl) rfl (Y.move rfl rfl) ?_
      refine WQ.yld rfl (blt rfl) rfl (Y.move rfl rfl) ?_
      have b14 : i < n_a := by omega
      refine WQ.yld rfl (blt rfl) rfl (Y.indexLs i (h_a.ext xW) rfl Try.underlying25 ti46 rfl rfl rfl b14) ?_
      refine WQ.yld rfl (blt rfl) rfl (Y.loadS (cs := [_, _, _, _, _, _, _]) rfl Try.underlying46 rfl ti46 rfl (Ls.part_ext (h_a.ext xW) b14 rfl)) ?_
      refine WQ.yld rfl (blt rfl) rfl (Y.move rfl rfl) ?_
      refine WQ.yld rfl (blt rfl) rfl (Y.move rfl rfl) ?_
      have b15 : i < n_b := by omega
      refine WQ.yld rfl (blt rfl) rfl (Y.indexLs i (h_b.ext xW) rfl Try.underlying25 ti46 rfl rfl rfl b15) ?_
      refine WQ.yld rfl (blt rfl) rfl (Y.loadS (cs := [_, _, _, _, _, _, _]) rfl Try.underlying46 rfl ti46 rfl (Ls.part_ext (h_b.ext xW) b15 rfl)) ?_
      refine WQ.yld rfl (blt rfl) rfl (Y.neqS rfl eqg46 (eq46 _ _ _ _ _ _ _ _ _ _ _ _ _ _) rfl rfl) ?_
      refine WQ.done (fun w16 x17 => ?_)
      have xW := Ext.trans xW x17
      refine WK.then_normal (k13 _ _ ?_)
      refine WC.sub [(0, _), (1, _), (5, _), (25, _)] ⟨rfl, rfl, rfl, rfl, trivial⟩ ?_
      refine WC.cond rfl (fun h18 => ?_) (fun h18 => ?_)
      ·
        refine WC.seq (fun K19 k19 => ?_)
        refine WC.region rfl ?_
        refine WL.yld rfl (blt rfl) rfl (Y.assign rfl rfl) ?_
        refine WL.nil ?_
        refine WK.then_normal (k19 _ _ ?_)
        refine WC.sub [(4, _)] ⟨rfl, trivial⟩ ?_
        refine WC.ret ?_
        refine WK.in_ret ?_
        refine WK.then_ret ?_
        refine WK.then_ret ?_
        refine WK.in_ret ?_
        refine WK.then_ret ?_
        clear k1 k2 k3 k6 k7 k9 k10 k12 k13 k19
        refine WK.ret [_] rfl ⟨rfl, trivial⟩ ?_
        refine ⟨ret1 (vb (Fl.same_at (Fl.ne_of_eqFl h18)).symm), xW⟩
      ·
        refine WC.skip ?_
        refine WK.in_normal ?_
        refine WK.then_normal (k12 _ _ ?_)
        refine WC.sub [(0, _), (1, _), (5, _)] ⟨rfl, rfl, rfl, trivial⟩ ?_
        refine WC.region rfl ?_
        refine WL.yld rfl (blt rfl) rfl (Y.move rfl rfl) ?_
        refine WL.yld rfl (blt rfl) rfl (Y.add rfl rfl rfl (wrap_i64 (by first | omega | (dsimp only; omega)))) ?_
        refine WL.yld rfl (blt rfl) rfl (Y.assign rfl rfl) ?_
        refine WL.nil ?_
        refine WK.roundS _ [(5, .int .i64 (((i + 1) : Nat) : Int))] ⟨rfl, rfl, rfl, trivial⟩ ?_ ⟨(i + 1), rfl, rfl, xW, (by omega), (fun j hj => by rcases Nat.lt_succ_iff_lt_or_eq.1 hj with h | h; exact inv_i j h; subst h; exact (Fl.eq_of_eqFl h18))⟩
        show _ - (i + 1) < _ - i; omega
    ·
      have p11 := (dec_f h11)
      refine WC.exit ?_
      refine WK.then_exit ?_
      refine WK.then_exit ?_
      refine WK.in_exit ?_
      refine WK.then_normal (k6 _ _ ?_)
      refine WC.sub [] trivial ?_
      refine WC.seq (fun K20 k20 => ?_)
      refine WC.region rfl ?_
      refine WL.yld rfl (blt rfl) rfl (Y.assign rfl rfl) ?_
      refine WL.nil ?_
      refine WK.then_normal (k20 _ _ ?_)
      refine WC.ret ?_
      clear k1 k2 k3 k6 k7 k9 k10 k20
      refine WK.ret [_] rfl ⟨rfl, trivial⟩ ?_
      refine ⟨ret1 (vb (decide_eq_true (Fl.bang_ext (by omega) (fun j hj => inv_i j (by omega)))).symm), xW⟩
theorem sameInts_any (A_a : Option Addr) (n_a c_a : Nat) (a : List Int) (A_b : Option Addr) (n_b c_b : Nat) (b : List Int) (w : World) (h_a : Ls w A_a n_a c_a Fl.ic 1 a) (h_b : Ls w A_b n_b c_b Fl.ic 1 b) :
    Calls Try.prog 13 #[.slice A_a n_a c_a, .slice A_b n_b c_b] w fun e w' => e = .returned (.bool (decide (a = b))) ∧ Ext w w' := by
  have xW := Ext.refl w
  have e_a := h_a.len
  have z_a := h_a.nle
  have e_b := h_b.len
  have z_b := h_b.nle
  refine calls_of_WC (args := [.slice A_a n_a c_a, .slice A_b n_b c_b]) Try.func13 rfl rfl (ble rfl) ?_
  refine WC.seq (fun K1 k1 => ?_)
  refine WC.region rfl ?_
  refine WL.yld rfl (blt rfl) rfl (Y.assign rfl rfl) ?_
  refine WL.nil ?_
  refine WK.then_normal (k1 _ _ ?_)
  refine WC.sub [(0, _), (1, _)] ⟨rfl, rfl, trivial⟩ ?_
  refine WC.seq (fun K2 k2 => ?_)
  refine WC.seq (fun K3 k3 => ?_)
  refine WC.region rfl ?_
  refine WL.yld rfl (blt rfl) rfl (Y.move rfl rfl) ?_
  refine WL.yld rfl (blt rfl) rfl (Y.lenSl rfl rfl rfl Try.underlying28 rfl) ?_
  refine WL.yld rfl (blt rfl) rfl (Y.move rfl rfl) ?_
  refine WL.yld rfl (blt rfl) rfl (Y.lenSl rfl rfl rfl Try.underlying28 rfl) ?_
  refine WL.yld rfl (blt rfl) rfl (Y.neq rfl rfl rfl) ?_
  refine WL.nil ?_
  refine WK.then_normal (k3 _ _ ?_)
  refine WC.sub [(0, _), (1, _), (10, _)] ⟨rfl, rfl, rfl, trivial⟩ ?_
  refine WC.cond rfl (fun h4 => ?_) (fun h4 => ?_)
  ·
    have p4 := (eq_f (not_t h4))
    refine WC.seq (fun K5 k5 => ?_)
    refine WC.region rfl ?_
    refine WL.yld rfl (blt rfl) rfl (Y.assign rfl rfl) ?_
    refine WL.nil ?_
    refine WK.then_normal (k5 _ _ ?_)
    refine WC.sub [(4, _)] ⟨rfl, trivial⟩ ?_
    refine WC.ret ?_
    refine WK.then_ret ?_
    clear k1 k2 k3 k5
    refine WK.ret [_] rfl ⟨rfl, trivial⟩ ?_
    refine ⟨ret1 (vb (Fl.same_no (by omega)).symm), xW⟩
  ·
    have p4 := (eq_t (not_f h4))
    refine WC.skip ?_
    refine WK.then_normal (k2 _ _ ?_)
    refine WC.sub [(0, _), (1, _)] ⟨rfl, rfl, trivial⟩ ?_
    refine WC.seq (fun K6 k6 => ?_)
    refine WC.seq (fun K7 k7 => ?_)
    refine WC.region rfl ?_
    refine WL.yld rfl (blt rfl) rfl (Y.assign rfl rfl) ?_
    refine WL.nil ?_
    refine WK.then_normal (k7 _ _ ?_)
    refine WC.block ?_
    refine WC.sub [(5, _), (0, _), (1, _)] ⟨rfl, rfl, rfl, trivial⟩ ?_
    refine WC.loopS 1 (fun mz Ed W' => ∃ i : Nat, mz = n_a - i ∧ Ed = [(5, .int .i64 ((i : Nat) : Int))] ∧ Ext w W' ∧ (i ≤ n_a) ∧ (∀ j, j < i → a[j]! = b[j]!)) _ ⟨0, rfl, rfl, xW, (Nat.zero_le _), (fun j hj => absurd hj (Nat.not_lt_zero j))⟩ ?_
    rintro _ _ w8 ⟨i, rfl, rfl, xW, le_i, inv_i⟩
    refine WC.sub [(5, _), (0, _), (1, _)] ⟨rfl, rfl, rfl, trivial⟩ ?_
    refine WC.seq (fun K9 k9 => ?_)
    refine WC.seq (fun K10 k10 => ?_)
    refine WC.region rfl ?_
    refine WL.yld rfl (blt rfl) rfl (Y.move rfl rfl) ?_
    refine WL.yld rfl (blt rfl) rfl (Y.move rfl rfl) ?_
    refine WL.yld rfl (blt rfl) rfl (Y.lenSl rfl rfl rfl Try.underlying28 rfl) ?_
    refine WL.yld rfl (blt rfl) rfl (Y.lss rfl rfl rfl) ?_
    refine WL.nil ?_
    refine WK.then_normal (k10 _ _ ?_)
    refine WC.sub [(0, _), (1, _), (5, _), (14, _)] ⟨rfl, rfl, rfl, rfl, trivial⟩ ?_
    refine WC.cond rfl (fun h11 => ?_) (fun h11 => ?_)
    ·
      have p11 := (dec_t h11)
      refine WC.skip ?_
      refine WK.then_normal (k9 _ _ ?_)
      refine WC.sub [(0, _), (1, _), (5, _)] ⟨rfl, rfl, rfl, trivial⟩ ?_
      refine WC.seq (fun K12 k12 => ?_)
      refine WC.block ?_
      refine WC.seq (fun K13 k13 => ?_)
      refine WC.regionDq (by kernel_rfl) (by kernel_rfl) rfl ?_
      refine WQ.yld rfl (blt rfl) rfl (Y.move rfl rfl) ?_
      refine WQ.yld rfl (blt rfl) rfl (Y.move rfl rfl) ?_
      have b14 : i < n_a := by omega
      refine WQ.yld rfl (blt rfl) rfl (Y.indexLs i (h_a.ext xW) rfl Try.underlying28 ti3 rfl rfl rfl b14) ?_
      refine WQ.yld rfl (blt rfl) rfl (Y.load1 rfl Try.underlying3 rfl rfl (Ls.at_ext (h_a.ext xW) b14 rfl)) ?_
      refine WQ.yld rfl (blt rfl) rfl (Y.move rfl rfl) ?_
      refine WQ.yld rfl (blt rfl) rfl (Y.move rfl rfl) ?_
      have b15 : i < n_b := by omega
      refine WQ.yld rfl (blt rfl) rfl (Y.indexLs i (h_b.ext xW) rfl Try.underlying28 ti3 rfl rfl rfl b15) ?_
      refine WQ.yld rfl (blt rfl) rfl (Y.load1 rfl Try.underlying3 rfl rfl (Ls.at_ext (h_b.ext xW) b15 rfl)) ?_
      refine WQ.yld rfl (blt rfl) rfl (Y.neq rfl rfl rfl) ?_
      refine WQ.done (fun w16 x17 => ?_)
      have xW := Ext.trans xW x17
      refine WK.then_normal (k13 _ _ ?_)
      refine WC.sub [(0, _), (1, _), (5, _), (25, _)] ⟨rfl, rfl, rfl, rfl, trivial⟩ ?_
      refine WC.cond rfl (fun h18 => ?_) (fun h18 => ?_)
      ·
        have p18 := (eq_f (not_t h18))
        refine WC.seq (fun K19 k19 => ?_)
        refine WC.region rfl ?_
        refine WL.yld rfl (blt rfl) rfl (Y.assign rfl rfl) ?_
        refine WL.nil ?_
        refine WK.then_normal (k19 _ _ ?_)
        refine WC.sub [(4, _)] ⟨rfl, trivial⟩ ?_
        refine WC.ret ?_
        refine WK.in_ret ?_
        refine WK.then_ret ?_
        refine WK.then_ret ?_
        refine WK.in_ret ?_
        refine WK.then_ret ?_
        clear k1 k2 k3 k6 k7 k9 k10 k12 k13 k19
        refine WK.ret [_] rfl ⟨rfl, trivial⟩ ?_
        refine ⟨ret1 (vb (Fl.same_at p18).symm), xW⟩
      ·
        have p18 := (eq_t (not_f h18))
        refine WC.skip ?_
        refine WK.in_normal ?_
        refine WK.then_normal (k12 _ _ ?_)
        refine WC.sub [(0, _), (1, _), (5, _)] ⟨rfl, rfl, rfl, trivial⟩ ?_
        refine WC.region rfl ?_
        refine WL.yld rfl (blt rfl) rfl (Y.move rfl rfl) ?_
        refine WL.yld rfl (blt rfl) rfl (Y.add rfl rfl rfl (wrap_i64 (by first | omega | (dsimp only; omega)))) ?_
        refine WL.yld rfl (blt rfl) rfl (Y.assign rfl rfl) ?_
        refine WL.nil ?_
        refine WK.roundS _ [(5, .int .i64 (((i + 1) : Nat) : Int))] ⟨rfl, rfl, rfl, trivial⟩ ?_ ⟨(i + 1), rfl, rfl, xW, (by omega), (fun j hj => by rcases Nat.lt_succ_iff_lt_or_eq.1 hj with h | h; exact inv_i j h; subst h; exact p18)⟩
        show _ - (i + 1) < _ - i; omega
    ·
      have p11 := (dec_f h11)
      refine WC.exit ?_
      refine WK.then_exit ?_
      refine WK.then_exit ?_
      refine WK.in_exit ?_
      refine WK.then_normal (k6 _ _ ?_)
      refine WC.sub [] trivial ?_
      refine WC.seq (fun K20 k20 => ?_)
      refine WC.region rfl ?_
      refine WL.yld rfl (blt rfl) rfl (Y.assign rfl rfl) ?_
      refine WL.nil ?_
      refine WK.then_normal (k20 _ _ ?_)
      refine WC.ret ?_
      clear k1 k2 k3 k6 k7 k9 k10 k20
      refine WK.ret [_] rfl ⟨rfl, trivial⟩ ?_
      refine ⟨ret1 (vb (decide_eq_true (Fl.bang_ext (by omega) (fun j hj => inv_i j (by omega)))).symm), xW⟩
theorem received_any (A_o : Option Addr) (n_o c_o : Nat) (o : List Fl.Ev) (a : Nat) (n : Int) (w : World) (h_o : Ls w A_o n_o c_o Fl.Ev.c 10 o) (ha : a < n_o) :
    Calls Try.prog 28 #[.slice A_o n_o c_o, .int .i64 ((a : Nat) : Int), .int .i64 n] w fun e w' => e = .returned (.bool (Fl.recvd o n a)) ∧ Ext w w' := by
  have xW := Ext.refl w
  have e_o := h_o.len
  have z_o := h_o.nle
  refine calls_of_WC (args := [.slice A_o n_o c_o, .int .i64 ((a : Nat) : Int), .int .i64 n]) Try.func28 rfl rfl (ble rfl) ?_
  refine WC.seq (fun K1 k1 => ?_)
  refine WC.region rfl ?_
  refine WL.yld rfl (blt rfl) rfl (Y.assign rfl rfl) ?_
  refine WL.nil ?_
  refine WK.then_normal (k1 _ _ ?_)
  refine WC.sub [(0, _), (1, _), (2, _)] ⟨rfl, rfl, rfl, trivial⟩ ?_
  refine WC.seq (fun K2 k2 => ?_)
  refine WC.seq (fun K3 k3 => ?_)
  refine WC.region rfl ?_
  refine WL.yld rfl (blt rfl) rfl (Y.move rfl rfl) ?_
  refine WL.yld rfl (blt rfl) rfl (Y.add rfl rfl rfl (wrap_i64 (by first | omega | (dsimp only; omega)))) ?_
  refine WL.yld rfl (blt rfl) rfl (Y.assign rfl rfl) ?_
  refine WL.nil ?_
  refine WK.then_normal (k3 _ _ ?_)
  refine WC.sub [(0, _), (2, _), (7, _)] ⟨rfl, rfl, rfl, trivial⟩ ?_
  refine WC.block ?_
  refine WC.sub [(7, _), (0, _), (2, _)] ⟨rfl, rfl, rfl, trivial⟩ ?_
  refine WC.loopS 1 (fun mz Ed W' => ∃ i : Nat, mz = n_o + 1 - i ∧ Ed = [(7, .int .i64 ((i : Nat) : Int))] ∧ Ext w W' ∧ (i ≤ n_o + 1) ∧ (Fl.recvd o n a = (o.drop i).any fun e => e.kind == 7 && e.n == n)) _ ⟨(a + 1), rfl, rfl, xW, (by omega), rfl⟩ ?_
  rintro _ _ w4 ⟨i, rfl, rfl, xW, le_i, inv_i⟩
  refine WC.sub [(7, _), (0, _), (2, _)] ⟨rfl, rfl, rfl, trivial⟩ ?_
  refine WC.seq (fun K5 k5 => ?_)
  refine WC.seq (fun K6 k6 => ?_)
  refine WC.region rfl ?_
  refine WL.yld rfl (blt rfl) rfl (Y.move rfl rfl) ?_
  refine WL.yld rfl (blt rfl) rfl (Y.move rfl rfl) ?_
  refine WL.yld rfl (blt rfl) rfl (Y.lenSl rfl rfl rfl Try.underlying22 rfl) ?_
  refine WL.yld rfl (blt rfl) rfl (Y.lss rfl rfl rfl) ?_
  refine WL.nil ?_
  refine WK.then_normal (k6 _ _ ?_)
  refine WC.sub [(0, _), (2, _), (7, _), (13, _)] ⟨rfl, rfl, rfl, rfl, trivial⟩ ?_
  refine WC.cond rfl (fun h7 => ?_) (fun h7 => ?_)
  ·
    have p7 := (dec_t h7)
    refine WC.skip ?_
    refine WK.then_normal (k5 _ _ ?_)
    refine WC.sub [(0, _), (2, _), (7, _)] ⟨rfl, rfl, rfl, trivial⟩ ?_
    refine WC.seq (fun K8 k8 => ?_)
    refine WC.block ?_
    refine WC.seq (fun K9 k9 => ?_)
    refine WC.region rfl ?_
    refine WL.yld rfl (blt rfl) rfl (Y.move rfl rfl) ?_
    refine WL.yld rfl (blt rfl) rfl (Y.move rfl rfl) ?_
    have b10 : i < n_o := by omega
    refine WL.yld rfl (blt rfl) rfl (Y.indexLs i (h_o.ext xW) rfl Try.underlying22 ti44 rfl rfl rfl b10) ?_
    refine WL.yld rfl (blt rfl) rfl (Y.fieldE rfl Try.underlying44 rfl ti38 (by decide) rfl) ?_
    refine WL.yld rfl (blt rfl) rfl (Y.fieldE rfl Try.underlying38 rfl ti35 (by decide) rfl) ?_
    refine WL.yld rfl (blt rfl) rfl (Y.load1 rfl Try.underlying35 rfl rfl (Ls.at_eq (h_o.ext xW) b10 rfl)) ?_
    refine WL.yld rfl (blt rfl) rfl (Y.eql rfl rfl rfl) ?_
    refine WL.yld rfl (blt rfl) rfl (Y.move rfl rfl) ?_
    refine WL.yldG rfl (blt rfl) rfl rfl rfl (fun hb => Y.move rfl rfl) ?_
    refine WL.yldG rfl (blt rfl) rfl rfl rfl (fun hb => Y.move rfl rfl) ?_
    refine WL.yldG rfl (blt rfl) rfl rfl rfl (fun hb => Y.indexLs i (h_o.ext xW) rfl Try.underlying22 ti44 (evg rfl hb) (evg rfl hb) rfl (by have q0 := (eq_t hb); omega)) ?_
    refine WL.yldG rfl (blt rfl) rfl rfl rfl (fun hb => Y.fieldE rfl Try.underlying44 rfl ti38 (by decide) (evg rfl hb)) ?_
    refine WL.yldG rfl (blt rfl) rfl rfl rfl (fun hb => Y.fieldE rfl Try.underlying38 rfl ti3 (by decide) (evg rfl hb)) ?_
    refine WL.yldG rfl (blt rfl) rfl rfl rfl (fun hb => Y.load1 rfl Try.underlying3 rfl (evg rfl hb) (Ls.at_eq (h_o.ext xW) (by have q0 := (eq_t hb); omega) rfl)) ?_
    refine WL.yldG rfl (blt rfl) rfl rfl rfl (fun hb => Y.move rfl rfl) ?_
    refine WL.yldG rfl (blt rfl) rfl rfl rfl (fun hb => Y.eql rfl (evg rfl hb) (evg rfl hb)) ?_
    refine WL.yld rfl (blt rfl) rfl (Y.and rfl rfl rfl rfl) ?_
    refine WL.nil ?_
    refine WK.then_normal (k9 _ _ ?_)
    refine WC.sub [(0, _), (2, _), (7, _), (32, _)] ⟨rfl, rfl, rfl, rfl, trivial⟩ ?_
    refine WC.cond rfl (fun h11 => ?_) (fun h11 => ?_)
    ·
      have p11 := (And.intro (eq_t (and_t h11).1) (eq_t (and_t h11).2))
      refine WC.seq (fun K12 k12 => ?_)
      refine WC.region rfl ?_
      refine WL.yld rfl (blt rfl) rfl (Y.assign rfl rfl) ?_
      refine WL.nil ?_
      refine WK.then_normal (k12 _ _ ?_)
      refine WC.sub [(6, _)] ⟨rfl, trivial⟩ ?_
      refine WC.ret ?_
      refine WK.in_ret ?_
      refine WK.then_ret ?_
      refine WK.then_ret ?_
      refine WK.in_ret ?_
      refine WK.then_ret ?_
      clear k1 k2 k3 k5 k6 k8 k9 k12
      refine WK.ret [_] rfl ⟨rfl, trivial⟩ ?_
      refine ⟨ret1 (vb ?_), xW⟩
      rw [inv_i, Fl.any_drop (show i < o.length from by omega), h11]; rfl
    ·
      have p11 := ((and_f h11).imp (fun h => (eq_f h)) (fun h => (eq_f h)))
      refine WC.skip ?_
      refine WK.in_normal ?_
      refine WK.then_normal (k8 _ _ ?_)
      refine WC.sub [(0, _), (2, _), (7, _)] ⟨rfl, rfl, rfl, trivial⟩ ?_
      refine WC.region rfl ?_
      refine WL.yld rfl (blt rfl) rfl (Y.move rfl rfl) ?_
      refine WL.yld rfl (blt rfl) rfl (Y.add rfl rfl rfl (wrap_i64 (by first | omega | (dsimp only; omega)))) ?_
      refine WL.yld rfl (blt rfl) rfl (Y.assign rfl rfl) ?_
      refine WL.nil ?_
      refine WK.roundS _ [(7, .int .i64 (((i + 1) : Nat) : Int))] ⟨rfl, rfl, rfl, trivial⟩ ?_ ⟨(i + 1), rfl, rfl, xW, (by omega), (by rw [inv_i, Fl.any_drop (show i < o.length from by omega), h11]; rfl)⟩
      show _ - (i + 1) < _ - i; omega
  ·
    have p7 := (dec_f h7)
    refine WC.exit ?_
    refine WK.then_exit ?_
    refine WK.then_exit ?_
    refine WK.in_exit ?_
    refine WK.then_normal (k2 _ _ ?_)
    refine WC.sub [] trivial ?_
    refine WC.seq (fun K13 k13 => ?_)
    refine WC.region rfl ?_
    refine WL.yld rfl (blt rfl) rfl (Y.assign rfl rfl) ?_
    refine WL.nil ?_
    refine WK.then_normal (k13 _ _ ?_)
    refine WC.ret ?_
    clear k1 k2 k3 k5 k6 k13
    refine WK.ret [_] rfl ⟨rfl, trivial⟩ ?_
    refine ⟨ret1 (vb ?_), xW⟩
    rw [inv_i, List.drop_of_length_le (by omega)]; rfl
theorem put_any (v_l : Value) (b_l : Nat) (l : List Int) (n : Int) (w : World) (ow_l : OwnL w b_l 3 Fl.ic 1 v_l l) (hb_l : b_l ≤ w.heap.size) (hn : l.length ≤ 2000) :
    Calls Try.prog 29 #[v_l, .int .i64 n] w fun e w' => ∃ v', e = .returned v' ∧ OwnL w' b_l 3 Fl.ic 1 v' (Inc.put l n) ∧ Ext w w' := by
  have xW := Ext.refl w
  obtain ⟨A_l, n_l, c_l, rfl, h_l⟩ := OwnL.opened ow_l (fun _ => rfl) (by decide)
  have e_l := h_l.len
  have z_l := h_l.nle
  refine calls_of_WC (args := [.slice A_l n_l c_l, .int .i64 n]) Try.func29 rfl rfl (ble rfl) ?_
  refine WC.seq (fun K1 k1 => ?_)
  refine WC.region rfl ?_
  refine WL.yld rfl (blt rfl) rfl (Y.assign rfl rfl) ?_
  refine WL.nil ?_
  refine WK.then_normal (k1 _ _ ?_)
  refine WC.sub [(0, _), (1, _)] ⟨rfl, rfl, trivial⟩ ?_
  refine WC.seq (fun K2 k2 => ?_)
  refine WC.region rfl ?_
  refine WL.yld rfl (blt rfl) rfl (Y.assign rfl rfl) ?_
  refine WL.nil ?_
  refine WK.then_normal (k2 _ _ ?_)
  refine WC.seq (fun K3 k3 => ?_)
  refine WC.block ?_
  refine WC.sub [(5, _), (0, _), (1, _)] ⟨rfl, rfl, rfl, trivial⟩ ?_
  refine WC.loopS 1 (fun mz Ed W' => ∃ i : Nat, mz = n_l - i ∧ Ed = [(5, .int .i64 ((i : Nat) : Int))] ∧ Ext w W' ∧ (i ≤ n_l) ∧ (∀ j, j < i → l[j]! < n)) _ ⟨0, rfl, rfl, xW, (Nat.zero_le _), (fun j hj => absurd hj (Nat.not_lt_zero j))⟩ ?_
  rintro _ _ w4 ⟨i, rfl, rfl, xW, le_i, inv_i⟩
  refine WC.sub [(5, _), (0, _), (1, _)] ⟨rfl, rfl, rfl, trivial⟩ ?_
  refine WC.seq (fun K5 k5 => ?_)
  refine WC.seq (fun K6 k6 => ?_)
  refine WC.region rfl ?_
  refine WL.yld rfl (blt rfl) rfl (Y.move rfl rfl) ?_
  refine WL.yld rfl (blt rfl) rfl (Y.move rfl rfl) ?_
  refine WL.yld rfl (blt rfl) rfl (Y.lenSl rfl rfl rfl Try.underlying28 rfl) ?_
  refine WL.yld rfl (blt rfl) rfl (Y.lss rfl rfl rfl) ?_
  refine WL.yld rfl (blt rfl) rfl (Y.move rfl rfl) ?_
  refine WL.yldG rfl (blt rfl) rfl rfl rfl (fun hb => Y.move rfl rfl) ?_
  refine WL.yldG rfl (blt rfl) rfl rfl rfl (fun hb => Y.move rfl rfl) ?_
  refine WL.yldG rfl (blt rfl) rfl rfl rfl (fun hb => Y.indexLs i (h_l.ext xW) rfl Try.underlying28 ti3 (evg rfl hb) (evg rfl hb) rfl (by have q0 := (dec_t hb); omega)) ?_
  refine WL.yldG rfl (blt rfl) rfl rfl rfl (fun hb => Y.load1 rfl Try.underlying3 rfl (evg rfl hb) (Ls.at_eq (h_l.ext xW) (by have q0 := (dec_t hb); omega) rfl)) ?_
  refine WL.yldG rfl (blt rfl) rfl rfl rfl (fun hb => Y.move rfl rfl) ?_
  refine WL.yldG rfl (blt rfl) rfl rfl rfl (fun hb => Y.lss rfl (evg rfl hb) (evg rfl hb)) ?_
  refine WL.yld rfl (blt rfl) rfl (Y.and rfl rfl rfl rfl) ?_
  refine WL.nil ?_
  refine WK.then_normal (k6 _ _ ?_)
  refine WC.sub [(0, _), (1, _), (5, _), (18, _)] ⟨rfl, rfl, rfl, rfl, trivial⟩ ?_
  refine WC.cond rfl (fun h7 => ?_) (fun h7 => ?_)
  ·
    have p7 := (And.intro (dec_t (and_t h7).1) (dec_t (and_t h7).2))
    refine WC.skip ?_
    refine WK.then_normal (k5 _ _ ?_)
    refine WC.sub [(0, _), (1, _), (5, _)] ⟨rfl, rfl, rfl, trivial⟩ ?_
    refine WC.block ?_
    refine WC.region rfl ?_
    refine WL.yld rfl (blt rfl) rfl (Y.move rfl rfl) ?_
    refine WL.yld rfl (blt rfl) rfl (Y.add rfl rfl rfl (wrap_i64 (by first | omega | (dsimp only; omega)))) ?_
    refine WL.yld rfl (blt rfl) rfl (Y.assign rfl rfl) ?_
    refine WL.nil ?_
    refine WK.in_normal ?_
    refine WK.roundS _ [(5, .int .i64 (((i + 1) : Nat) : Int))] ⟨rfl, rfl, rfl, trivial⟩ ?_ ⟨(i + 1), rfl, rfl, xW, (by omega), (fun j hj => by rcases Nat.lt_succ_iff_lt_or_eq.1 hj with h | h; exact inv_i j h; subst h; exact p7.2)⟩
    show _ - (i + 1) < _ - i; omega
  ·
    have p7 := ((and_f h7).imp (fun h => (dec_f h)) (fun h => (dec_f h)))
    refine WC.exit ?_
    refine WK.then_exit ?_
    refine WK.then_exit ?_
    refine WK.in_exit ?_
    refine WK.then_normal (k3 _ _ ?_)
    refine WC.sub [(0, _), (1, _), (5, _)] ⟨rfl, rfl, rfl, trivial⟩ ?_
    refine WC.seq (fun K8 k8 => ?_)
    refine WC.seq (fun K9 k9 => ?_)
    refine WC.region rfl ?_
    refine WL.yld rfl (blt rfl) rfl (Y.move rfl rfl) ?_
    refine WL.yld rfl (blt rfl) rfl (Y.move rfl rfl) ?_
    refine WL.yld rfl (blt rfl) rfl (Y.lenSl rfl rfl rfl Try.underlying28 rfl) ?_
    refine WL.yld rfl (blt rfl) rfl (Y.lss rfl rfl rfl) ?_
    refine WL.yld rfl (blt rfl) rfl (Y.move rfl rfl) ?_
    refine WL.yldG rfl (blt rfl) rfl rfl rfl (fun hb => Y.move rfl rfl) ?_
    refine WL.yldG rfl (blt rfl) rfl rfl rfl (fun hb => Y.move rfl rfl) ?_
    refine WL.yldG rfl (blt rfl) rfl rfl rfl (fun hb => Y.indexLs i (h_l.ext xW) rfl Try.underlying28 ti3 (evg rfl hb) (evg rfl hb) rfl (by have q0 := (dec_t hb); omega)) ?_
    refine WL.yldG rfl (blt rfl) rfl rfl rfl (fun hb => Y.load1 rfl Try.underlying3 rfl (evg rfl hb) (Ls.at_eq (h_l.ext xW) (by have q0 := (dec_t hb); omega) rfl)) ?_
    refine WL.yldG rfl (blt rfl) rfl rfl rfl (fun hb => Y.move rfl rfl) ?_
    refine WL.yldG rfl (blt rfl) rfl rfl rfl (fun hb => Y.eql rfl (evg rfl hb) (evg rfl hb)) ?_
    refine WL.yld rfl (blt rfl) rfl (Y.and rfl rfl rfl rfl) ?_
    refine WL.nil ?_
    refine WK.then_normal (k9 _ _ ?_)
    refine WC.sub [(0, _), (1, _), (5, _), (32, _)] ⟨rfl, rfl, rfl, rfl, trivial⟩ ?_
    refine WC.cond rfl (fun h10 => ?_) (fun h10 => ?_)
    ·
      have p10 := (And.intro (dec_t (and_t h10).1) (eq_t (and_t h10).2))
      refine WC.seq (fun K11 k11 => ?_)
      refine WC.region rfl ?_
      refine WL.yld rfl (blt rfl) rfl (Y.move rfl rfl) ?_
      refine WL.yld rfl (blt rfl) rfl (Y.assign rfl rfl) ?_
      refine WL.nil ?_
      refine WK.then_normal (k11 _ _ ?_)
      refine WC.sub [(4, _)] ⟨rfl, trivial⟩ ?_
      refine WC.ret ?_
      refine WK.then_ret ?_
      clear k1 k2 k3 k5 k6 k8 k9 k11
      refine WK.ret [_] rfl ⟨rfl, trivial⟩ ?_
      refine ⟨_, rfl, ?_, xW⟩
      rw [Inc.put_hit inv_i (by omega) p10.2]
      exact ow_l.ext xW
    ·
      have p10 := ((and_f h10).imp (fun h => (dec_f h)) (fun h => (eq_f h)))
      refine WC.skip ?_
      refine WK.then_normal (k8 _ _ ?_)
      refine WC.sub [(0, _), (1, _), (5, _)] ⟨rfl, rfl, rfl, trivial⟩ ?_
      refine WC.seq (fun K12 k12 => ?_)
      refine WC.region rfl ?_
      refine WL.bslice0 rfl (blt rfl) rfl rfl Try.underlying28 ti3 ?_
      intro g13 w14 e15 x16 m17
      have o_g13 := own_new xW e15
      have xW := Ext.trans xW x16
      refine WL.yld rfl (blt rfl) rfl (Y.move rfl rfl) ?_
      refine WL.yld rfl (blt rfl) rfl (Y.move rfl rfl) ?_
      have b18 : i ≤ n_l := by omega
      refine WL.yld rfl (blt rfl) rfl (Y.sliceH i rfl Try.underlying28 ti3 rfl rfl rfl (Nat.le_trans b18 (h_l.ext xW).le)) ?_
      have ob19 := Blk.own (sz := 1) (f := Fl.ic) (l := ([] : List Int)) (base := w.heap.size) m17 o_g13 (fun _ => rfl) rfl (by decide) rfl
      refine WL.appendL (f := Fl.ic) rfl (blt rfl) rfl rfl rfl rfl Try.underlying28 ti3 rfl (by decide) rfl ob19 (fun _ => rfl) Fl.ic_one ((h_l.ext xW).take b18) xW.size (by have q0 := h_l.len; have q1 := hn; first | omega | (simp only [List.length_append, List.length_cons, List.length_nil, List.length_take, List.length_drop, List.length_reverse]; omega)) (Nat.le_trans (show _ ≤ 140737488355328 from by have q0 := h_l.len; have q1 := hn; first | omega | (simp only [List.length_append, List.length_cons, List.length_nil, List.length_take, List.length_drop, List.length_reverse]; omega)) (by decide)) (fun v20 w21 ow22 gr23 nb24 => ?_)
      have xW := Ext.grown xW gr23 (fun b hb => (OwnL.lt ob19 hb).1)
      refine WL.yld rfl (blt rfl) rfl (Y.assign rfl rfl) ?_
      refine WL.nil ?_
      refine WK.then_normal (k12 _ _ ?_)
      refine WC.sub [(0, _), (1, _), (5, _), (6, _)] ⟨rfl, rfl, rfl, rfl, trivial⟩ ?_
      refine WC.seq (fun K25 k25 => ?_)
      refine WC.region rfl ?_
      refine WL.yld rfl (blt rfl) rfl (Y.move rfl rfl) ?_
      refine WL.yld rfl (blt rfl) rfl (Y.move rfl rfl) ?_
      refine WL.bslice (zs := [.int .i64 0]) (cs := [_]) rfl (blt rfl) rfl rfl Try.underlying28 ti3 rfl (ble rfl) (by kernel_rfl) rfl rfl ?_
      intro g26 w27 e28 x29 m30
      have r_v20_g26 := ne_newO ow22 e28
      have o_g26 := own_new xW e28
      have ow22 := ow22.ext x29
      have xW := Ext.trans xW x29
      refine WL.appendB (f := Fl.ic) (news := [n]) rfl (blt rfl) rfl rfl rfl rfl Try.underlying28 ti3 rfl (by decide) rfl ow22 (fun _ => rfl) Fl.ic_one m30 rfl xW.size (by have q0 := h_l.len; have q1 := hn; first | omega | (simp only [List.length_append, List.length_cons, List.length_nil, List.length_take, List.length_drop, List.length_reverse]; omega)) (Nat.le_trans (show _ ≤ 140737488355328 from by have q0 := h_l.len; have q1 := hn; first | omega | (simp only [List.length_append, List.length_cons, List.length_nil, List.length_take, List.length_drop, List.length_reverse]; omega)) (by decide)) (fun v31 w32 ow33 gr34 nb35 => ?_)
      have r_v31_g26 := ne_app nb35 r_v20_g26 m30
      have m30 := m30.grown gr34 r_v20_g26
      have xW := Ext.grown xW gr34 (fun b hb => (OwnL.lt ow22 hb).1)
      refine WL.yld rfl (blt rfl) rfl (Y.assign rfl rfl) ?_
      refine WL.nil ?_
      refine WK.then_normal (k25 _ _ ?_)
      refine WC.sub [(0, _), (5, _), (6, _)] ⟨rfl, rfl, rfl, trivial⟩ ?_
      refine WC.seq (fun K36 k36 => ?_)
      refine WC.region rfl ?_
      refine WL.yld rfl (blt rfl) rfl (Y.move rfl rfl) ?_
      refine WL.yld rfl (blt rfl) rfl (Y.move rfl rfl) ?_
      refine WL.yld rfl (blt rfl) rfl (Y.move rfl rfl) ?_
      have b37 : i ≤ n_l := by omega
      refine WL.yld rfl (blt rfl) rfl (Y.sliceL i rfl Try.underlying28 ti3 rfl rfl rfl b37) ?_
      refine WL.appendL (f := Fl.ic) rfl (blt rfl) rfl rfl rfl rfl Try.underlying28 ti3 rfl (by decide) rfl ow33 (fun _ => rfl) Fl.ic_one ((h_l.ext xW).drop b37) xW.size (by have q0 := h_l.len; have q1 := hn; first | omega | (simp only [List.length_append, List.length_cons, List.length_nil, List.length_take, List.length_drop, List.length_reverse]; omega)) (Nat.le_trans (show _ ≤ 140737488355328 from by have q0 := h_l.len; have q1 := hn; first | omega | (simp only [List.length_append, List.length_cons, List.length_nil, List.length_take, List.length_drop, List.length_reverse]; omega)) (by decide)) (fun v38 w39 ow40 gr41 nb42 => ?_)
      have xW := Ext.grown xW gr41 (fun b hb => (OwnL.lt ow33 hb).1)
      refine WL.yld rfl (blt rfl) rfl (Y.assign rfl rfl) ?_
      refine WL.nil ?_
      refine WK.then_normal (k36 _ _ ?_)
      refine WC.sub [(4, _)] ⟨rfl, trivial⟩ ?_
      refine WC.ret ?_
      clear k1 k2 k3 k5 k6 k8 k9 k12 k25 k36
      refine WK.ret [_] rfl ⟨rfl, trivial⟩ ?_
      refine ⟨_, rfl, ?_, xW⟩
      rw [Inc.put_miss inv_i (by omega)]
      exact OwnL.base_le ow40 hb_l
theorem ropen_any (A_o : Option Addr) (n_o c_o : Nat) (o : List Fl.Ev) (w : World) (h_o : Ls w A_o n_o c_o Fl.Ev.c 10 o) (hn : n_o ≤ 1000) :
    Calls Try.prog 15 #[.slice A_o n_o c_o] w fun e w' => ∃ v, e = .returned v ∧ OwnL w' w.heap.size 3 Fl.ic 1 v (Fl.openF o) ∧ Ext w w' := by
  have xW := Ext.refl w
  have e_o := h_o.len
  have z_o := h_o.nle
  refine calls_of_WC (args := [.slice A_o n_o c_o]) Try.func15 rfl rfl (ble rfl) ?_
  refine WC.seq (fun K1 k1 => ?_)
  refine WC.region rfl ?_
  refine WL.yld rfl (blt rfl) rfl (Y.assign rfl rfl) ?_
  refine WL.nil ?_
  refine WK.then_normal (k1 _ _ ?_)
  refine WC.sub [(0, _)] ⟨rfl, trivial⟩ ?_
  refine WC.seq (fun K2 k2 => ?_)
  refine WC.region rfl ?_
  refine WL.yld rfl (blt rfl) rfl (Y.assign rfl rfl) ?_
  refine WL.nil ?_
  refine WK.then_normal (k2 _ _ ?_)
  refine WC.seq (fun K3 k3 => ?_)
  refine WC.seq (fun K4 k4 => ?_)
  refine WC.region rfl ?_
  refine WL.yld rfl (blt rfl) rfl (Y.assign rfl rfl) ?_
  refine WL.nil ?_
  refine WK.then_normal (k4 _ _ ?_)
  refine WC.block ?_
  refine WC.sub [(4, _), (3, _), (0, _)] ⟨rfl, rfl, rfl, trivial⟩ ?_
  refine WC.loopS 2 (fun mz Ed W' => ∃ i : Nat, ∃ v : Value, mz = n_o - i ∧ Ed = [(4, .int .i64 ((i : Nat) : Int)), (3, v)] ∧ Ext w W' ∧ OwnL W' w.heap.size 3 Fl.ic 1 v (Inc.puts (Fl.refO o i)) ∧ (i ≤ n_o)) _ ⟨0, _, rfl, rfl, xW, OwnL.nil_, (Nat.zero_le _)⟩ ?_
  rintro _ _ w5 ⟨i, v, rfl, rfl, xW, ow_v, le_i⟩
  refine WC.sub [(4, _), (3, _), (0, _)] ⟨rfl, rfl, rfl, trivial⟩ ?_
  refine WC.seq (fun K6 k6 => ?_)
  refine WC.seq (fun K7 k7 => ?_)
  refine WC.region rfl ?_
  refine WL.yld rfl (blt rfl) rfl (Y.move rfl rfl) ?_
  refine WL.yld rfl (blt rfl) rfl (Y.move rfl rfl) ?_
  refine WL.yld rfl (blt rfl) rfl (Y.lenSl rfl rfl rfl Try.underlying22 rfl) ?_
  refine WL.yld rfl (blt rfl) rfl (Y.lss rfl rfl rfl) ?_
  refine WL.nil ?_
  refine WK.then_normal (k7 _ _ ?_)
  refine WC.sub [(0, _), (3, _), (4, _), (9, _)] ⟨rfl, rfl, rfl, rfl, trivial⟩ ?_
  refine WC.cond rfl (fun h8 => ?_) (fun h8 => ?_)
  ·
    have p8 := (dec_t h8)
    refine WC.skip ?_
    refine WK.then_normal (k6 _ _ ?_)
    refine WC.sub [(0, _), (3, _), (4, _)] ⟨rfl, rfl, rfl, trivial⟩ ?_
    refine WC.seq (fun K9 k9 => ?_)
    refine WC.block ?_
    refine WC.seq (fun K10 k10 => ?_)
    refine WC.region rfl ?_
    refine WL.yld rfl (blt rfl) rfl (Y.move rfl rfl) ?_
    refine WL.yld rfl (blt rfl) rfl (Y.move rfl rfl) ?_
    have b11 : i < n_o := by omega
    refine WL.yld rfl (blt rfl) rfl (Y.indexLs i (h_o.ext xW) rfl Try.underlying22 ti44 rfl rfl rfl b11) ?_
    refine WL.yld rfl (blt rfl) rfl (Y.fieldE rfl Try.underlying44 rfl ti38 (by decide) rfl) ?_
    refine WL.yld rfl (blt rfl) rfl (Y.fieldE rfl Try.underlying38 rfl ti3 (by decide) rfl) ?_
    refine WL.yld rfl (blt rfl) rfl (Y.load1 rfl Try.underlying3 rfl rfl (Ls.at_eq (h_o.ext xW) b11 rfl)) ?_
    refine WL.yld rfl (blt rfl) rfl (Y.assign rfl rfl) ?_
    refine WL.nil ?_
    refine WK.then_normal (k10 _ _ ?_)
    refine WC.sub [(0, _), (3, _), (4, _), (5, _)] ⟨rfl, rfl, rfl, rfl, trivial⟩ ?_
    refine WC.seq (fun K12 k12 => ?_)
    refine WC.region rfl ?_
    refine WL.yld rfl (blt rfl) rfl (Y.move rfl rfl) ?_
    refine WL.yld rfl (blt rfl) rfl (Y.move rfl rfl) ?_
    have b13 : i < n_o := by omega
    refine WL.yld rfl (blt rfl) rfl (Y.indexLs i (h_o.ext xW) rfl Try.underlying22 ti44 rfl rfl rfl b13) ?_
    refine WL.yld rfl (blt rfl) rfl (Y.fieldE rfl Try.underlying44 rfl ti38 (by decide) rfl) ?_
    refine WL.yld rfl (blt rfl) rfl (Y.fieldE rfl Try.underlying38 rfl ti35 (by decide) rfl) ?_
    refine WL.yld rfl (blt rfl) rfl (Y.load1 rfl Try.underlying35 rfl rfl (Ls.at_eq (h_o.ext xW) b13 rfl)) ?_
    refine WL.yld rfl (blt rfl) rfl (Y.eql rfl rfl rfl) ?_
    refine WL.yld rfl (blt rfl) rfl (Y.move rfl rfl) ?_
    refine WL.yldG rfl (blt rfl) rfl rfl rfl (fun hb => Y.move rfl rfl) ?_
    refine WL.yldG rfl (blt rfl) rfl rfl rfl (fun hb => Y.move rfl rfl) ?_
    refine WL.yldG rfl (blt rfl) rfl rfl rfl (fun hb => Y.lenSl rfl rfl rfl Try.underlying22 (evs_cons (evg rfl hb) evs_nil)) ?_
    refine WL.yldG rfl (blt rfl) rfl rfl rfl (fun hb => Y.move rfl rfl) ?_
    refine WL.callG rfl (blt rfl) rfl rfl rfl rfl rfl has25 (fun hb => (evs_cons (evg rfl hb) (evs_cons (evg rfl hb) (evs_cons (evg rfl hb) evs_nil)))) (fun hb => lastSend_any _ _ _ _ _ _ _ (h_o.ext xW) (by omega)) (fun w14 x15 => ?_)
    have ow_v := ow_v.ext x15
    have xW := Ext.trans xW x15
    refine WL.yldG rfl (blt rfl) rfl rfl rfl (fun hb => Y.move rfl rfl) ?_
    refine WL.yldG rfl (blt rfl) rfl rfl rfl (fun hb => Y.eql rfl (evg rfl hb) (evg rfl hb)) ?_
    refine WL.yld rfl (blt rfl) rfl (Y.and rfl rfl rfl rfl) ?_
    refine WL.yld rfl (blt rfl) rfl (Y.move rfl rfl) ?_
    refine WL.yldG rfl (blt rfl) rfl rfl rfl (fun hb => Y.move rfl rfl) ?_
    refine WL.yldG rfl (blt rfl) rfl rfl rfl (fun hb => Y.move rfl rfl) ?_
    refine WL.yldG rfl (blt rfl) rfl rfl rfl (fun hb => Y.move rfl rfl) ?_
    refine WL.callG rfl (blt rfl) rfl rfl rfl rfl rfl has28 (fun hb => (evs_cons (evg rfl hb) (evs_cons (evg rfl hb) (evs_cons (evg rfl hb) evs_nil)))) (fun hb => received_any _ _ _ _ _ _ _ (h_o.ext xW) (by omega)) (fun w16 x17 => ?_)
    have ow_v := ow_v.ext x17
    have xW := Ext.trans xW x17
    refine WL.yldG rfl (blt rfl) rfl rfl rfl (fun hb => Y.not rfl (evg rfl hb)) ?_
    refine WL.yld rfl (blt rfl) rfl (Y.and rfl rfl rfl rfl) ?_
    refine WL.nil ?_
    refine WK.then_normal (k12 _ _ ?_)
    refine WC.sub [(0, _), (3, _), (4, _), (5, _), (40, _)] ⟨rfl, rfl, rfl, rfl, rfl, trivial⟩ ?_
    refine WC.cond rfl (fun h18 => ?_) (fun h18 => ?_)
    ·
      have p18 := (And.intro (eq_t (and_t (and_t h18).1).1) (eq_t (and_t (and_t h18).1).2))
      refine WC.region rfl ?_
      refine WL.yld rfl (blt rfl) rfl (Y.move rfl rfl) ?_
      refine WL.yld rfl (blt rfl) rfl (Y.move rfl rfl) ?_
      refine WL.call rfl (blt rfl) rfl rfl rfl has29 rfl (put_any _ _ _ _ _ ow_v xW.size (by have q := Inc.foldl_put_len (Fl.refO o i) []; have q2 := Fl.refO_len o i; unfold Inc.puts; simp only [List.length_nil] at q; omega)) ?_
      rintro _ w19 ⟨v21, rfl, ow22, x20⟩
      refine ⟨_, rfl, ?_⟩
      have xW := Ext.trans xW x20
      refine WL.yld rfl (blt rfl) rfl (Y.assign rfl rfl) ?_
      refine WL.nil ?_
      refine WK.in_normal ?_
      refine WK.then_normal (k9 _ _ ?_)
      refine WC.sub [(0, _), (3, _), (4, _)] ⟨rfl, rfl, rfl, trivial⟩ ?_
      refine WC.region rfl ?_
      refine WL.yld rfl (blt rfl) rfl (Y.move rfl rfl) ?_
      refine WL.yld rfl (blt rfl) rfl (Y.add rfl rfl rfl (wrap_i64 (by first | omega | (dsimp only; omega)))) ?_
      refine WL.yld rfl (blt rfl) rfl (Y.assign rfl rfl) ?_
      refine WL.nil ?_
      refine WK.roundS _ [(4, .int .i64 (((i + 1) : Nat) : Int)), (3, v21)] ⟨rfl, rfl, rfl, trivial⟩ ?_ ⟨(i + 1), v21, rfl, rfl, xW, (by have q : Fl.isOpen o i = true := (by unfold Fl.isOpen; rw [e_o]; exact h18); rw [Fl.refO_succ, q]; rw [Inc.puts, if_pos rfl, List.foldl_append]; exact ow22), (by omega)⟩
      show _ - (i + 1) < _ - i; omega
    ·
      have p18 := ((and_f h18).imp (fun h => ((and_f h).imp (fun h => (eq_f h)) (fun h => (eq_f h)))) (fun h => h))
      refine WC.skip ?_
      refine WK.in_normal ?_
      refine WK.then_normal (k9 _ _ ?_)
      refine WC.sub [(0, _), (3, _), (4, _)] ⟨rfl, rfl, rfl, trivial⟩ ?_
      refine WC.region rfl ?_
      refine WL.yld rfl (blt rfl) rfl (Y.move rfl rfl) ?_
      refine WL.yld rfl (blt rfl) rfl (Y.add rfl rfl rfl (wrap_i64 (by first | omega | (dsimp only; omega)))) ?_
      refine WL.yld rfl (blt rfl) rfl (Y.assign rfl rfl) ?_
      refine WL.nil ?_
      refine WK.roundS _ [(4, .int .i64 (((i + 1) : Nat) : Int)), (3, v)] ⟨rfl, rfl, rfl, trivial⟩ ?_ ⟨(i + 1), v, rfl, rfl, xW, (by have q : Fl.isOpen o i = false := (by unfold Fl.isOpen; rw [e_o]; exact h18); rw [Fl.refO_succ, q]; simp only [Bool.false_eq_true, if_false, List.append_nil]; exact ow_v), (by omega)⟩
      show _ - (i + 1) < _ - i; omega
  ·
    have p8 := (dec_f h8)
    refine WC.exit ?_
    refine WK.then_exit ?_
    refine WK.then_exit ?_
    refine WK.in_exit ?_
    refine WK.then_normal (k3 _ _ ?_)
    refine WC.sub [(3, _)] ⟨rfl, trivial⟩ ?_
    refine WC.seq (fun K23 k23 => ?_)
    refine WC.region rfl ?_
    refine WL.yld rfl (blt rfl) rfl (Y.move rfl rfl) ?_
    refine WL.yld rfl (blt rfl) rfl (Y.assign rfl rfl) ?_
    refine WL.nil ?_
    refine WK.then_normal (k23 _ _ ?_)
    refine WC.sub [(2, _)] ⟨rfl, trivial⟩ ?_
    refine WC.ret ?_
    clear k1 k2 k3 k4 k6 k7 k23
    refine WK.ret [_] rfl ⟨rfl, trivial⟩ ?_
    refine ⟨_, rfl, ?_, xW⟩
    rw [show i = o.length from by omega, Fl.ref_open] at ow_v
    exact ow_v
end R
end FlW

end Go.Proofs.Ytcojkflgcccjeaa
