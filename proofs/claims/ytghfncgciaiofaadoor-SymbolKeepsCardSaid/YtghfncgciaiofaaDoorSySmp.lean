/- Contracts: samples. Conditions: what each theorem states. -/
import Derived.Test.YtghfncgciaiofaaDoorSyAwake
import Derived.Test.YtghfncgciaiofaaDoorSyPs
import Derived.Test.YtghfncgciaiofaaDoorNilS
namespace Go.Proofs.YtghfncgciaiofaaDoor
open Go Go.Eng Go.RowKit
set_option linter.unusedVariables false
namespace SyW
open R X F Y A
namespace S
theorem ti3 : TI Tryd.prog 3 (.int .i64 0) 1 8 := TI.mk (by kernel_rfl)
theorem ti9 : TI Tryd.prog 9 (.string ⟨#[]⟩) 1 16 := TI.mk (by kernel_rfl)
theorem ti32 : TI Tryd.prog 32 (.slice none 0 0) 1 24 := TI.mk (by kernel_rfl)
theorem ti34 : TI Tryd.prog 34 (.agg #[.string ⟨#[]⟩, .int .i64 0, .int .i64 0, .slice none 0 0]) 4 56 := TI.mk (by kernel_rfl)
theorem ti36 : TI Tryd.prog 36 (.agg #[.int .i64 0, .string ⟨#[]⟩]) 2 24 := TI.mk (by kernel_rfl)
theorem ti46 : TI Tryd.prog 46 (.slice none 0 0) 1 24 := TI.mk (by kernel_rfl)
theorem ti48 : TI Tryd.prog 48 (.agg #[.int .i64 0, .int .i64 0, .int .i64 0, .slice none 0 0]) 4 48 := TI.mk (by kernel_rfl)
theorem ti57 : TI Tryd.prog 57 (.agg #[.int .i64 0, .int .i64 0, .string ⟨#[]⟩, .int .i64 0, .int .i64 0, .slice none 0 0]) 6 72 := TI.mk (by kernel_rfl)
theorem has8 : Has Tryd.prog 8 := ⟨_, Tryd.func8, rfl, by kernel_rfl⟩
theorem has9 : Has Tryd.prog 9 := ⟨_, Tryd.func9, rfl, by kernel_rfl⟩
theorem has10 : Has Tryd.prog 10 := ⟨_, Tryd.func10, rfl, by kernel_rfl⟩
theorem has12 : Has Tryd.prog 12 := ⟨_, Tryd.func12, rfl, by kernel_rfl⟩
theorem has24 : Has Tryd.prog 24 := ⟨_, Tryd.func24, rfl, by kernel_rfl⟩
theorem has28 : Has Tryd.prog 28 := ⟨_, Tryd.func28, rfl, by kernel_rfl⟩
theorem has31 : Has Tryd.prog 31 := ⟨_, Tryd.func31, rfl, by kernel_rfl⟩
theorem has32 : Has Tryd.prog 32 := ⟨_, Tryd.func32, rfl, by kernel_rfl⟩
theorem has33 : Has Tryd.prog 33 := ⟨_, Tryd.func33, rfl, by kernel_rfl⟩
theorem has34 : Has Tryd.prog 34 := ⟨_, Tryd.func34, rfl, by kernel_rfl⟩
theorem has35 : Has Tryd.prog 35 := ⟨_, Tryd.func35, rfl, by kernel_rfl⟩
theorem has39 : Has Tryd.prog 39 := ⟨_, Tryd.func39, rfl, by kernel_rfl⟩
theorem has42 : Has Tryd.prog 42 := ⟨_, Tryd.func42, rfl, by kernel_rfl⟩
theorem has43 : Has Tryd.prog 43 := ⟨_, Tryd.func43, rfl, by kernel_rfl⟩
theorem pl57 : PL Tryd.prog 57 [.int .i64 0, .int .i64 0, .string ⟨#[]⟩, .int .i64 0, .int .i64 0, .slice none 0 0] [(0, 1), (1, 1), (2, 1), (3, 1), (4, 1), (5, 1)] := PL.mk (zero := [.int .i64 0, .int .i64 0, .string ⟨#[]⟩, .int .i64 0, .int .i64 0, .slice none 0 0]) ti57 Tryd.underlying57 (by kernel_rfl)
theorem small_any (A_t : Option Addr) (n_t c_t : Nat) (t : List ByteArray) (w : World) (h_t : Ls w A_t n_t c_t Sy.sc 1 t) :
    Calls Tryd.prog 28 #[.agg #[.int .i64 0, .int .i64 0, .string ⟨#[]⟩, .int .i64 0, .int .i64 0, .slice A_t n_t c_t]] w fun e w' => ∃ b : Bool, e = .returned (.bool b) ∧ (b = true → n_t ≤ 60 ∧ ∀ j, j < n_t → t[j]!.size ≤ 200) ∧ Ext w w' := by
  have xW := Ext.refl w
  have e_t := h_t.len
  have z_t := h_t.nle
  refine calls_of_WC (args := [.agg #[.int .i64 0, .int .i64 0, .string ⟨#[]⟩, .int .i64 0, .int .i64 0, .slice A_t n_t c_t]]) Tryd.func28 rfl rfl (ble rfl) ?_
  refine WC.seq (fun K1 k1 => ?_)
  refine WC.region rfl ?_
  refine WL.box rfl (blt rfl) rfl rfl rfl rfl ?_
  intro g2 w3 e4 x5 m6
  have o_g2 := own_new xW e4
  have xW := Ext.trans xW x5
  refine WL.yld rfl (blt rfl) rfl (Y.assign rfl rfl) ?_
  refine WL.nil ?_
  refine WK.then_normal (k1 _ _ ?_)
  refine WC.sub [(1, _)] ⟨rfl, trivial⟩ ?_
  refine WC.seq (fun K7 k7 => ?_)
  refine WC.seq (fun K8 k8 => ?_)
  refine WC.region rfl ?_
  refine WL.yld rfl (blt rfl) rfl (Y.fieldAddr rfl Tryd.underlying57 rfl ti9 (by decide) rfl) ?_
  refine WL.yld rfl (blt rfl) rfl (Y.load1 rfl Tryd.underlying9 rfl rfl (Blk.at_eq m6 rfl)) ?_
  refine WL.yld rfl (blt rfl) rfl (Y.lenStr rfl rfl rfl Tryd.underlying9 rfl) ?_
  refine WL.yld rfl (blt rfl) rfl (Y.gtr rfl rfl rfl) ?_
  refine WL.yld rfl (blt rfl) rfl (Y.move rfl rfl) ?_
  refine WL.yldG rfl (blt rfl) rfl rfl rfl (fun hb => Y.fieldAddr rfl Tryd.underlying57 rfl ti46 (by decide) rfl) ?_
  refine WL.yldG rfl (blt rfl) rfl rfl rfl (fun hb => Y.load1 rfl Tryd.underlying46 rfl (evg rfl hb) (Blk.at_eq m6 rfl)) ?_
  refine WL.yldG rfl (blt rfl) rfl rfl rfl (fun hb => Y.lenSl rfl rfl rfl Tryd.underlying46 (evs_cons (evg rfl hb) evs_nil)) ?_
  refine WL.yldG rfl (blt rfl) rfl rfl rfl (fun hb => Y.gtr rfl (evg rfl hb) rfl) ?_
  refine WL.yld rfl (blt rfl) rfl (Y.or rfl rfl rfl rfl) ?_
  refine WL.nil ?_
  refine WK.then_normal (k8 _ _ ?_)
  refine WC.sub [(1, _), (13, _)] ⟨rfl, rfl, trivial⟩ ?_
  refine WC.cond rfl (fun h9 => ?_) (fun h9 => ?_)
  ·
    have p9 := ((or_t h9).imp (fun h => (dec_t h)) (fun h => (dec_t h)))
    refine WC.seq (fun K10 k10 => ?_)
    refine WC.region rfl ?_
    refine WL.yld rfl (blt rfl) rfl (Y.assign rfl rfl) ?_
    refine WL.nil ?_
    refine WK.then_normal (k10 _ _ ?_)
    refine WC.sub [(2, _)] ⟨rfl, trivial⟩ ?_
    refine WC.ret ?_
    refine WK.then_ret ?_
    clear k1 k7 k8 k10
    refine WK.ret [_] rfl ⟨rfl, trivial⟩ ?_
    exact ⟨false, ret1 rfl, (by intro z; cases z), xW⟩
  ·
    have p9 := (And.intro (dec_f (or_f h9).1) (dec_f (or_f h9).2))
    refine WC.skip ?_
    refine WK.then_normal (k7 _ _ ?_)
    refine WC.sub [(1, _)] ⟨rfl, trivial⟩ ?_
    refine WC.seq (fun K11 k11 => ?_)
    refine WC.seq (fun K12 k12 => ?_)
    refine WC.region rfl ?_
    refine WL.yld rfl (blt rfl) rfl (Y.assign rfl rfl) ?_
    refine WL.nil ?_
    refine WK.then_normal (k12 _ _ ?_)
    refine WC.block ?_
    refine WC.sub [(3, _), (1, _)] ⟨rfl, rfl, trivial⟩ ?_
    refine WC.loopS 1 (fun mz Ed W' => ∃ i : Nat, mz = n_t - i ∧ Ed = [(3, .int .i64 ((i : Nat) : Int))] ∧ Ext w W' ∧ Blk W' g2 57 _ ∧ (i ≤ n_t) ∧ (∀ j, j < i → t[j]!.size ≤ 200)) _ ⟨0, rfl, rfl, xW, m6, (Nat.zero_le _), (fun j hj => absurd hj (Nat.not_lt_zero j))⟩ ?_
    rintro _ _ w13 ⟨i, rfl, rfl, xW, m6, le_i, inv_i⟩
    refine WC.sub [(3, _), (1, _)] ⟨rfl, rfl, trivial⟩ ?_
    refine WC.seq (fun K14 k14 => ?_)
    refine WC.seq (fun K15 k15 => ?_)
    refine WC.region rfl ?_
    refine WL.yld rfl (blt rfl) rfl (Y.move rfl rfl) ?_
    refine WL.yld rfl (blt rfl) rfl (Y.fieldAddr rfl Tryd.underlying57 rfl ti46 (by decide) rfl) ?_
    refine WL.yld rfl (blt rfl) rfl (Y.load1 rfl Tryd.underlying46 rfl rfl (Blk.at_eq m6 rfl)) ?_
    refine WL.yld rfl (blt rfl) rfl (Y.lenSl rfl rfl rfl Tryd.underlying46 rfl) ?_
    refine WL.yld rfl (blt rfl) rfl (Y.lss rfl rfl rfl) ?_
    refine WL.nil ?_
    refine WK.then_normal (k15 _ _ ?_)
    refine WC.sub [(1, _), (3, _), (18, _)] ⟨rfl, rfl, rfl, trivial⟩ ?_
    refine WC.cond rfl (fun h16 => ?_) (fun h16 => ?_)
    ·
      have p16 := (dec_t h16)
      refine WC.skip ?_
      refine WK.then_normal (k14 _ _ ?_)
      refine WC.sub [(1, _), (3, _)] ⟨rfl, rfl, trivial⟩ ?_
      refine WC.seq (fun K17 k17 => ?_)
      refine WC.block ?_
      refine WC.seq (fun K18 k18 => ?_)
      refine WC.region rfl ?_
      refine WL.yld rfl (blt rfl) rfl (Y.fieldAddr rfl Tryd.underlying57 rfl ti46 (by decide) rfl) ?_
      refine WL.yld rfl (blt rfl) rfl (Y.load1 rfl Tryd.underlying46 rfl rfl (Blk.at_eq m6 rfl)) ?_
      refine WL.yld rfl (blt rfl) rfl (Y.move rfl rfl) ?_
      have b19 : i < n_t := by omega
      refine WL.yld rfl (blt rfl) rfl (Y.indexLs i (h_t.ext xW) rfl Tryd.underlying46 ti9 rfl rfl rfl b19) ?_
      refine WL.yld rfl (blt rfl) rfl (Y.load1 rfl Tryd.underlying9 rfl rfl (Ls.at_eq (h_t.ext xW) b19 rfl)) ?_
      refine WL.yld rfl (blt rfl) rfl (Y.lenStr rfl rfl rfl Tryd.underlying9 rfl) ?_
      refine WL.yld rfl (blt rfl) rfl (Y.gtr rfl rfl rfl) ?_
      refine WL.nil ?_
      refine WK.then_normal (k18 _ _ ?_)
      refine WC.sub [(1, _), (3, _), (27, _)] ⟨rfl, rfl, rfl, trivial⟩ ?_
      refine WC.cond rfl (fun h20 => ?_) (fun h20 => ?_)
      ·
        have p20 := (dec_t h20)
        refine WC.seq (fun K21 k21 => ?_)
        refine WC.region rfl ?_
        refine WL.yld rfl (blt rfl) rfl (Y.assign rfl rfl) ?_
        refine WL.nil ?_
        refine WK.then_normal (k21 _ _ ?_)
        refine WC.sub [(2, _)] ⟨rfl, trivial⟩ ?_
        refine WC.ret ?_
        refine WK.in_ret ?_
        refine WK.then_ret ?_
        refine WK.then_ret ?_
        refine WK.in_ret ?_
        refine WK.then_ret ?_
        clear k1 k7 k8 k11 k12 k14 k15 k17 k18 k21
        refine WK.ret [_] rfl ⟨rfl, trivial⟩ ?_
        exact ⟨false, ret1 rfl, (by intro z; cases z), xW⟩
      ·
        have p20 := (dec_f h20)
        refine WC.skip ?_
        refine WK.in_normal ?_
        refine WK.then_normal (k17 _ _ ?_)
        refine WC.sub [(1, _), (3, _)] ⟨rfl, rfl, trivial⟩ ?_
        refine WC.region rfl ?_
        refine WL.yld rfl (blt rfl) rfl (Y.move rfl rfl) ?_
        refine WL.yld rfl (blt rfl) rfl (Y.add rfl rfl rfl (wrap_i64 (by first | omega | (dsimp only; omega)))) ?_
        refine WL.yld rfl (blt rfl) rfl (Y.assign rfl rfl) ?_
        refine WL.nil ?_
        refine WK.roundS _ [(3, .int .i64 (((i + 1) : Nat) : Int))] ⟨rfl, rfl, trivial⟩ ?_ ⟨(i + 1), rfl, rfl, xW, m6, (by omega), (fun j hj => by rcases Nat.lt_succ_iff_lt_or_eq.1 hj with h | h; exact inv_i j h; subst h; exact (by have q := dec_f h20; omega))⟩
        show _ - (i + 1) < _ - i; omega
    ·
      have p16 := (dec_f h16)
      refine WC.exit ?_
      refine WK.then_exit ?_
      refine WK.then_exit ?_
      refine WK.in_exit ?_
      refine WK.then_normal (k11 _ _ ?_)
      refine WC.sub [] trivial ?_
      refine WC.seq (fun K22 k22 => ?_)
      refine WC.region rfl ?_
      refine WL.yld rfl (blt rfl) rfl (Y.assign rfl rfl) ?_
      refine WL.nil ?_
      refine WK.then_normal (k22 _ _ ?_)
      refine WC.ret ?_
      clear k1 k7 k8 k11 k12 k14 k15 k22
      refine WK.ret [_] rfl ⟨rfl, trivial⟩ ?_
      exact ⟨true, ret1 rfl, (fun _ => ⟨by have q := h9; simp only [Bool.or_eq_false_iff, decide_eq_false_iff_not] at q; omega, fun j hj => inv_i j (by omega)⟩), xW⟩
theorem fewp_any (A_s : Option Addr) (n_s c_s : Nat) (s : List Sy.P) (w : World) (h_s : Ls w A_s n_s c_s Sy.P.v 4 s) (g_s : Sy.GoodP w s) :
    Calls Tryd.prog 16 #[.slice A_s n_s c_s] w fun e w' => ∃ b : Bool, e = .returned (.bool b) ∧ (b = true → Sy.FewP s) ∧ Ext w w' := by
  have xW := Ext.refl w
  have e_s := h_s.len
  have z_s := h_s.nle
  refine calls_of_WC (args := [.slice A_s n_s c_s]) Tryd.func16 rfl rfl (ble rfl) ?_
  refine WC.seq (fun K1 k1 => ?_)
  refine WC.region rfl ?_
  refine WL.yld rfl (blt rfl) rfl (Y.assign rfl rfl) ?_
  refine WL.nil ?_
  refine WK.then_normal (k1 _ _ ?_)
  refine WC.sub [(0, _)] ⟨rfl, trivial⟩ ?_
  refine WC.seq (fun K2 k2 => ?_)
  refine WC.seq (fun K3 k3 => ?_)
  refine WC.region rfl ?_
  refine WL.yld rfl (blt rfl) rfl (Y.move rfl rfl) ?_
  refine WL.yld rfl (blt rfl) rfl (Y.lenSl rfl rfl rfl Tryd.underlying38 rfl) ?_
  refine WL.yld rfl (blt rfl) rfl (Y.gtr rfl rfl rfl) ?_
  refine WL.nil ?_
  refine WK.then_normal (k3 _ _ ?_)
  refine WC.sub [(0, _), (6, _)] ⟨rfl, rfl, trivial⟩ ?_
  refine WC.cond rfl (fun h4 => ?_) (fun h4 => ?_)
  ·
    have p4 := (dec_t h4)
    refine WC.seq (fun K5 k5 => ?_)
    refine WC.region rfl ?_
    refine WL.yld rfl (blt rfl) rfl (Y.assign rfl rfl) ?_
    refine WL.nil ?_
    refine WK.then_normal (k5 _ _ ?_)
    refine WC.sub [(2, _)] ⟨rfl, trivial⟩ ?_
    refine WC.ret ?_
    refine WK.then_ret ?_
    clear k1 k2 k3 k5
    refine WK.ret [_] rfl ⟨rfl, trivial⟩ ?_
    exact ⟨false, ret1 rfl, (by intro z; cases z), xW⟩
  ·
    have p4 := (dec_f h4)
    refine WC.skip ?_
    refine WK.then_normal (k2 _ _ ?_)
    refine WC.sub [(0, _)] ⟨rfl, trivial⟩ ?_
    refine WC.seq (fun K6 k6 => ?_)
    refine WC.seq (fun K7 k7 => ?_)
    refine WC.region rfl ?_
    refine WL.yld rfl (blt rfl) rfl (Y.assign rfl rfl) ?_
    refine WL.nil ?_
    refine WK.then_normal (k7 _ _ ?_)
    refine WC.block ?_
    refine WC.sub [(3, _), (0, _)] ⟨rfl, rfl, trivial⟩ ?_
    refine WC.loopS 1 (fun mz Ed W' => ∃ i : Nat, mz = n_s - i ∧ Ed = [(3, .int .i64 ((i : Nat) : Int))] ∧ Ext w W' ∧ (i ≤ n_s) ∧ (∀ j, j < i → s[j]!.n ≤ 60 ∧ s[j]!.l.length = s[j]!.n ∧ ∀ k, k < s[j]!.n → s[j]!.l[k]!.size ≤ 200)) _ ⟨0, rfl, rfl, xW, (Nat.zero_le _), (fun j hj => absurd hj (Nat.not_lt_zero j))⟩ ?_
    rintro _ _ w8 ⟨i, rfl, rfl, xW, le_i, inv_i⟩
    refine WC.sub [(3, _), (0, _)] ⟨rfl, rfl, trivial⟩ ?_
    refine WC.seq (fun K9 k9 => ?_)
    refine WC.seq (fun K10 k10 => ?_)
    refine WC.region rfl ?_
    refine WL.yld rfl (blt rfl) rfl (Y.move rfl rfl) ?_
    refine WL.yld rfl (blt rfl) rfl (Y.move rfl rfl) ?_
    refine WL.yld rfl (blt rfl) rfl (Y.lenSl rfl rfl rfl Tryd.underlying38 rfl) ?_
    refine WL.yld rfl (blt rfl) rfl (Y.lss rfl rfl rfl) ?_
    refine WL.nil ?_
    refine WK.then_normal (k10 _ _ ?_)
    refine WC.sub [(0, _), (3, _), (10, _)] ⟨rfl, rfl, rfl, trivial⟩ ?_
    refine WC.cond rfl (fun h11 => ?_) (fun h11 => ?_)
    ·
      have p11 := (dec_t h11)
      have gl := g_s _ (bang_mem (show i < s.length from by omega))
      refine WC.skip ?_
      refine WK.then_normal (k9 _ _ ?_)
      refine WC.sub [(0, _), (3, _)] ⟨rfl, rfl, trivial⟩ ?_
      refine WC.seq (fun K12 k12 => ?_)
      refine WC.block ?_
      refine WC.seq (fun K13 k13 => ?_)
      refine WC.region rfl ?_
      refine WL.yld rfl (blt rfl) rfl (Y.move rfl rfl) ?_
      refine WL.yld rfl (blt rfl) rfl (Y.move rfl rfl) ?_
      have b14 : i < n_s := by omega
      refine WL.yld rfl (blt rfl) rfl (Y.indexLs i (h_s.ext xW) rfl Tryd.underlying38 ti48 rfl rfl rfl b14) ?_
      refine WL.yld rfl (blt rfl) rfl (Y.fieldE rfl Tryd.underlying48 rfl ti46 (by decide) rfl) ?_
      refine WL.yld rfl (blt rfl) rfl (Y.load1 rfl Tryd.underlying46 rfl rfl (Ls.at_eq (h_s.ext xW) b14 rfl)) ?_
      refine WL.yld rfl (blt rfl) rfl (Y.build (cells := [_, _, _, _, _, _]) rfl pl57 rfl rfl) ?_
      refine WL.call rfl (blt rfl) rfl rfl rfl has28 rfl (small_any _ _ _ _ _ ((g_s _ (bang_mem (show i < s.length from by omega))).ext xW)) ?_
      rintro _ w15 ⟨bs17, rfl, hsm, x16⟩
      refine ⟨_, rfl, ?_⟩
      have xW := Ext.trans xW x16
      refine WL.yld rfl (blt rfl) rfl (Y.not rfl rfl) ?_
      refine WL.nil ?_
      refine WK.then_normal (k13 _ _ ?_)
      refine WC.sub [(0, _), (3, _), (20, _)] ⟨rfl, rfl, rfl, trivial⟩ ?_
      refine WC.cond rfl (fun h18 => ?_) (fun h18 => ?_)
      ·
        refine WC.seq (fun K19 k19 => ?_)
        refine WC.region rfl ?_
        refine WL.yld rfl (blt rfl) rfl (Y.assign rfl rfl) ?_
        refine WL.nil ?_
        refine WK.then_normal (k19 _ _ ?_)
        refine WC.sub [(2, _)] ⟨rfl, trivial⟩ ?_
        refine WC.ret ?_
        refine WK.in_ret ?_
        refine WK.then_ret ?_
        refine WK.then_ret ?_
        refine WK.in_ret ?_
        refine WK.then_ret ?_
        clear k1 k2 k3 k6 k7 k9 k10 k12 k13 k19
        refine WK.ret [_] rfl ⟨rfl, trivial⟩ ?_
        exact ⟨false, ret1 rfl, (by intro z; cases z), xW⟩
      ·
        refine WC.skip ?_
        refine WK.in_normal ?_
        refine WK.then_normal (k12 _ _ ?_)
        refine WC.sub [(0, _), (3, _)] ⟨rfl, rfl, trivial⟩ ?_
        refine WC.region rfl ?_
        refine WL.yld rfl (blt rfl) rfl (Y.move rfl rfl) ?_
        refine WL.yld rfl (blt rfl) rfl (Y.add rfl rfl rfl (wrap_i64 (by first | omega | (dsimp only; omega)))) ?_
        refine WL.yld rfl (blt rfl) rfl (Y.assign rfl rfl) ?_
        refine WL.nil ?_
        refine WK.roundS _ [(3, .int .i64 (((i + 1) : Nat) : Int))] ⟨rfl, rfl, trivial⟩ ?_ ⟨(i + 1), rfl, rfl, xW, (by omega), (fun j hj => by rcases Nat.lt_succ_iff_lt_or_eq.1 hj with h | h; exact inv_i j h; subst h; exact (by have q := hsm (by simpa using h18); exact ⟨q.1, gl.len, q.2⟩))⟩
        show _ - (i + 1) < _ - i; omega
    ·
      have p11 := (dec_f h11)
      refine WC.exit ?_
      refine WK.then_exit ?_
      refine WK.then_exit ?_
      refine WK.in_exit ?_
      refine WK.then_normal (k6 _ _ ?_)
      refine WC.sub [] trivial ?_
      refine WC.seq (fun K20 k20 => ?_)
      refine WC.region rfl ?_
      refine WL.yld rfl (blt rfl) rfl (Y.assign rfl rfl) ?_
      refine WL.nil ?_
      refine WK.then_normal (k20 _ _ ?_)
      refine WC.ret ?_
      clear k1 k2 k3 k6 k7 k9 k10 k20
      refine WK.ret [_] rfl ⟨rfl, trivial⟩ ?_
      exact ⟨true, ret1 rfl, (fun _ => Sy.fewP_of (by have q := dec_f h4; omega) fun j hj => inv_i j (by omega)), xW⟩
theorem texts_any (A_a : Option Addr) (n_a c_a : Nat) (a : List ByteArray) (A_b : Option Addr) (n_b c_b : Nat) (b : List ByteArray) (w : World) (h_a : Ls w A_a n_a c_a Sy.sc 1 a) (h_b : Ls w A_b n_b c_b Sy.sc 1 b) (he : a = b) :
    Calls Tryd.prog 31 #[.slice A_a n_a c_a, .slice A_b n_b c_b] w fun e w' => e = .returned (.bool true) ∧ Ext w w' := by
  have xW := Ext.refl w
  have e_a := h_a.len
  have z_a := h_a.nle
  have e_b := h_b.len
  have z_b := h_b.nle
  have hab : n_a = n_b := by rw [← e_a, ← e_b, he]
  refine calls_of_WC (args := [.slice A_a n_a c_a, .slice A_b n_b c_b]) Tryd.func31 rfl rfl (ble rfl) ?_
  refine WC.seq (fun K1 k1 => ?_)
  refine WC.region rfl ?_
  refine WL.yld rfl (blt rfl) rfl (Y.assign rfl rfl) ?_
  refine WL.nil ?_
  refine WK.then_normal (k1 _ _ ?_)
  refine WC.sub [(0, _), (1, _)] ⟨rfl, rfl, trivial⟩ ?_
  refine WC.seq (fun K2 k2 => ?_)
  refine WC.seq (fun K3 k3 => ?_)
  refine WC.region rfl ?_
  refine WL.yld rfl (blt rfl) rfl (Y.move rfl rfl) ?_
  refine WL.yld rfl (blt rfl) rfl (Y.lenSl rfl rfl rfl Tryd.underlying46 rfl) ?_
  refine WL.yld rfl (blt rfl) rfl (Y.move rfl rfl) ?_
  refine WL.yld rfl (blt rfl) rfl (Y.lenSl rfl rfl rfl Tryd.underlying46 rfl) ?_
  refine WL.yld rfl (blt rfl) rfl (Y.neq rfl rfl rfl) ?_
  refine WL.nil ?_
  refine WK.then_normal (k3 _ _ ?_)
  refine WC.sub [(0, _), (1, _), (10, _)] ⟨rfl, rfl, rfl, trivial⟩ ?_
  refine WC.cond rfl (fun h4 => ?_) (fun h4 => ?_)
  ·
    clear k1 k2 k3
    exact False.elim (by have q := h4; rw [hab] at q; simp at q)
  ·
    have p4 := (eq_t (not_f h4))
    refine WC.skip ?_
    refine WK.then_normal (k2 _ _ ?_)
    refine WC.sub [(0, _), (1, _)] ⟨rfl, rfl, trivial⟩ ?_
    refine WC.seq (fun K5 k5 => ?_)
    refine WC.seq (fun K6 k6 => ?_)
    refine WC.region rfl ?_
    refine WL.yld rfl (blt rfl) rfl (Y.assign rfl rfl) ?_
    refine WL.nil ?_
    refine WK.then_normal (k6 _ _ ?_)
    refine WC.block ?_
    refine WC.sub [(5, _), (0, _), (1, _)] ⟨rfl, rfl, rfl, trivial⟩ ?_
    refine WC.loopS 1 (fun mz Ed W' => ∃ i : Nat, mz = n_a - i ∧ Ed = [(5, .int .i64 ((i : Nat) : Int))] ∧ Ext w W' ∧ (i ≤ n_a)) _ ⟨0, rfl, rfl, xW, (Nat.zero_le _)⟩ ?_
    rintro _ _ w7 ⟨i, rfl, rfl, xW, le_i⟩
    refine WC.sub [(5, _), (0, _), (1, _)] ⟨rfl, rfl, rfl, trivial⟩ ?_
    refine WC.seq (fun K8 k8 => ?_)
    refine WC.seq (fun K9 k9 => ?_)
    refine WC.region rfl ?_
    refine WL.yld rfl (blt rfl) rfl (Y.move rfl rfl) ?_
    refine WL.yld rfl (blt rfl) rfl (Y.move rfl rfl) ?_
    refine WL.yld rfl (blt rfl) rfl (Y.lenSl rfl rfl rfl Tryd.underlying46 rfl) ?_
    refine WL.yld rfl (blt rfl) rfl (Y.lss rfl rfl rfl) ?_
    refine WL.nil ?_
    refine WK.then_normal (k9 _ _ ?_)
    refine WC.sub [(0, _), (1, _), (5, _), (14, _)] ⟨rfl, rfl, rfl, rfl, trivial⟩ ?_
    refine WC.cond rfl (fun h10 => ?_) (fun h10 => ?_)
    ·
      have p10 := (dec_t h10)
      refine WC.skip ?_
      refine WK.then_normal (k8 _ _ ?_)
      refine WC.sub [(0, _), (1, _), (5, _)] ⟨rfl, rfl, rfl, trivial⟩ ?_
      refine WC.seq (fun K11 k11 => ?_)
      refine WC.block ?_
      refine WC.seq (fun K12 k12 => ?_)
      refine WC.regionDq (by kernel_rfl) (by kernel_rfl) rfl ?_
      refine WQ.yld rfl (blt rfl) rfl (Y.move rfl rfl) ?_
      refine WQ.yld rfl (blt rfl) rfl (Y.move rfl rfl) ?_
      have b13 : i < n_a := by omega
      refine WQ.yld rfl (blt rfl) rfl (Y.indexLs i (h_a.ext xW) rfl Tryd.underlying46 ti9 rfl rfl rfl b13) ?_
      refine WQ.yld rfl (blt rfl) rfl (Y.load1 rfl Tryd.underlying9 rfl rfl (Ls.at_ext (h_a.ext xW) b13 rfl)) ?_
      refine WQ.yld rfl (blt rfl) rfl (Y.move rfl rfl) ?_
      refine WQ.yld rfl (blt rfl) rfl (Y.move rfl rfl) ?_
      have b14 : i < n_b := by omega
      refine WQ.yld rfl (blt rfl) rfl (Y.indexLs i (h_b.ext xW) rfl Tryd.underlying46 ti9 rfl rfl rfl b14) ?_
      refine WQ.yld rfl (blt rfl) rfl (Y.load1 rfl Tryd.underlying9 rfl rfl (Ls.at_ext (h_b.ext xW) b14 rfl)) ?_
      refine WQ.yld rfl (blt rfl) rfl (Y.neqStr rfl rfl rfl) ?_
      refine WQ.done (fun w15 x16 => ?_)
      have xW := Ext.trans xW x16
      refine WK.then_normal (k12 _ _ ?_)
      refine WC.sub [(0, _), (1, _), (5, _), (25, _)] ⟨rfl, rfl, rfl, rfl, trivial⟩ ?_
      refine WC.cond rfl (fun h17 => ?_) (fun h17 => ?_)
      ·
        clear k1 k2 k3 k5 k6 k8 k9 k11 k12
        exact False.elim (by have q := h17; rw [he] at q; simp [beqB_self] at q)
      ·
        refine WC.skip ?_
        refine WK.in_normal ?_
        refine WK.then_normal (k11 _ _ ?_)
        refine WC.sub [(0, _), (1, _), (5, _)] ⟨rfl, rfl, rfl, trivial⟩ ?_
        refine WC.region rfl ?_
        refine WL.yld rfl (blt rfl) rfl (Y.move rfl rfl) ?_
        refine WL.yld rfl (blt rfl) rfl (Y.add rfl rfl rfl (wrap_i64 (by first | omega | (dsimp only; omega)))) ?_
        refine WL.yld rfl (blt rfl) rfl (Y.assign rfl rfl) ?_
        refine WL.nil ?_
        refine WK.roundS _ [(5, .int .i64 (((i + 1) : Nat) : Int))] ⟨rfl, rfl, rfl, trivial⟩ ?_ ⟨(i + 1), rfl, rfl, xW, (by omega)⟩
        show _ - (i + 1) < _ - i; omega
    ·
      have p10 := (dec_f h10)
      refine WC.exit ?_
      refine WK.then_exit ?_
      refine WK.then_exit ?_
      refine WK.in_exit ?_
      refine WK.then_normal (k5 _ _ ?_)
      refine WC.sub [] trivial ?_
      refine WC.seq (fun K18 k18 => ?_)
      refine WC.region rfl ?_
      refine WL.yld rfl (blt rfl) rfl (Y.assign rfl rfl) ?_
      refine WL.nil ?_
      refine WK.then_normal (k18 _ _ ?_)
      refine WC.ret ?_
      clear k1 k2 k3 k5 k6 k8 k9 k18
      refine WK.ret [_] rfl ⟨rfl, trivial⟩ ?_
      exact ⟨rfl, xW⟩
theorem same_any (A_a : Option Addr) (n_a c_a : Nat) (a : List Sy.P) (A_b : Option Addr) (n_b c_b : Nat) (b : List Sy.P) (w : World) (h_a : Ls w A_a n_a c_a Sy.P.v 4 a) (h_b : Ls w A_b n_b c_b Sy.P.v 4 b) (g_a : Sy.GoodP w a) (g_b : Sy.GoodP w b) (hk : a.map Sy.P.key = b.map Sy.P.key) :
    Calls Tryd.prog 19 #[.slice A_a n_a c_a, .slice A_b n_b c_b] w fun e w' => e = .returned (.bool true) ∧ Ext w w' := by
  have xW := Ext.refl w
  have e_a := h_a.len
  have z_a := h_a.nle
  have e_b := h_b.len
  have z_b := h_b.nle
  have hab : n_a = n_b := by rw [← e_a, ← e_b]; exact Sy.key_len hk
  refine calls_of_WC (args := [.slice A_a n_a c_a, .slice A_b n_b c_b]) Tryd.func19 rfl rfl (ble rfl) ?_
  refine WC.seq (fun K1 k1 => ?_)
  refine WC.region rfl ?_
  refine WL.yld rfl (blt rfl) rfl (Y.assign rfl rfl) ?_
  refine WL.nil ?_
  refine WK.then_normal (k1 _ _ ?_)
  refine WC.sub [(0, _), (1, _)] ⟨rfl, rfl, trivial⟩ ?_
  refine WC.seq (fun K2 k2 => ?_)
  refine WC.seq (fun K3 k3 => ?_)
  refine WC.region rfl ?_
  refine WL.yld rfl (blt rfl) rfl (Y.move rfl rfl) ?_
  refine WL.yld rfl (blt rfl) rfl (Y.lenSl rfl rfl rfl Tryd.underlying38 rfl) ?_
  refine WL.yld rfl (blt rfl) rfl (Y.move rfl rfl) ?_
  refine WL.yld rfl (blt rfl) rfl (Y.lenSl rfl rfl rfl Tryd.underlying38 rfl) ?_
  refine WL.yld rfl (blt rfl) rfl (Y.neq rfl rfl rfl) ?_
  refine WL.nil ?_
  refine WK.then_normal (k3 _ _ ?_)
  refine WC.sub [(0, _), (1, _), (10, _)] ⟨rfl, rfl, rfl, trivial⟩ ?_
  refine WC.cond rfl (fun h4 => ?_) (fun h4 => ?_)
  ·
    clear k1 k2 k3
    exact False.elim (by have q := h4; rw [hab] at q; simp at q)
  ·
    have p4 := (eq_t (not_f h4))
    refine WC.skip ?_
    refine WK.then_normal (k2 _ _ ?_)
    refine WC.sub [(0, _), (1, _)] ⟨rfl, rfl, trivial⟩ ?_
    refine WC.seq (fun K5 k5 => ?_)
    refine WC.seq (fun K6 k6 => ?_)
    refine WC.region rfl ?_
    refine WL.yld rfl (blt rfl) rfl (Y.assign rfl rfl) ?_
    refine WL.nil ?_
    refine WK.then_normal (k6 _ _ ?_)
    refine WC.block ?_
    refine WC.sub [(5, _), (0, _), (1, _)] ⟨rfl, rfl, rfl, trivial⟩ ?_
    refine WC.loopS 1 (fun mz Ed W' => ∃ i : Nat, mz = n_a - i ∧ Ed = [(5, .int .i64 ((i : Nat) : Int))] ∧ Ext w W' ∧ (i ≤ n_a)) _ ⟨0, rfl, rfl, xW, (Nat.zero_le _)⟩ ?_
    rintro _ _ w7 ⟨i, rfl, rfl, xW, le_i⟩
    refine WC.sub [(5, _), (0, _), (1, _)] ⟨rfl, rfl, rfl, trivial⟩ ?_
    refine WC.seq (fun K8 k8 => ?_)
    refine WC.seq (fun K9 k9 => ?_)
    refine WC.region rfl ?_
    refine WL.yld rfl (blt rfl) rfl (Y.move rfl rfl) ?_
    refine WL.yld rfl (blt rfl) rfl (Y.move rfl rfl) ?_
    refine WL.yld rfl (blt rfl) rfl (Y.lenSl rfl rfl rfl Tryd.underlying38 rfl) ?_
    refine WL.yld rfl (blt rfl) rfl (Y.lss rfl rfl rfl) ?_
    refine WL.nil ?_
    refine WK.then_normal (k9 _ _ ?_)
    refine WC.sub [(0, _), (1, _), (5, _), (14, _)] ⟨rfl, rfl, rfl, rfl, trivial⟩ ?_
    refine WC.cond rfl (fun h10 => ?_) (fun h10 => ?_)
    ·
      have p10 := (dec_t h10)
      have ka := Sy.key_at hk (show i < a.length from by omega)
      refine WC.skip ?_
      refine WK.then_normal (k8 _ _ ?_)
      refine WC.sub [(0, _), (1, _), (5, _)] ⟨rfl, rfl, rfl, trivial⟩ ?_
      refine WC.seq (fun K11 k11 => ?_)
      refine WC.block ?_
      refine WC.seq (fun K12 k12 => ?_)
      refine WC.regionDq (by kernel_rfl) (by kernel_rfl) rfl ?_
      refine WQ.yld rfl (blt rfl) rfl (Y.move rfl rfl) ?_
      refine WQ.yld rfl (blt rfl) rfl (Y.move rfl rfl) ?_
      have b13 : i < n_a := by omega
      refine WQ.yld rfl (blt rfl) rfl (Y.indexLs i (h_a.ext xW) rfl Tryd.underlying38 ti48 rfl rfl rfl b13) ?_
      refine WQ.yld rfl (blt rfl) rfl (Y.fieldE rfl Tryd.underlying48 rfl ti3 (by decide) rfl) ?_
      refine WQ.yld rfl (blt rfl) rfl (Y.load1 rfl Tryd.underlying3 rfl rfl (Ls.at_ext (h_a.ext xW) b13 rfl)) ?_
      refine WQ.yld rfl (blt rfl) rfl (Y.move rfl rfl) ?_
      refine WQ.yld rfl (blt rfl) rfl (Y.move rfl rfl) ?_
      have b14 : i < n_b := by omega
      refine WQ.yld rfl (blt rfl) rfl (Y.indexLs i (h_b.ext xW) rfl Tryd.underlying38 ti48 rfl rfl rfl b14) ?_
      refine WQ.yld rfl (blt rfl) rfl (Y.fieldE rfl Tryd.underlying48 rfl ti3 (by decide) rfl) ?_
      refine WQ.yld rfl (blt rfl) rfl (Y.load1 rfl Tryd.underlying3 rfl rfl (Ls.at_ext (h_b.ext xW) b14 rfl)) ?_
      refine WQ.yld rfl (blt rfl) rfl (Y.neq rfl rfl rfl) ?_
      refine WQ.yld rfl (blt rfl) rfl (Y.move rfl rfl) ?_
      refine WQ.yldG rfl (blt rfl) rfl rfl rfl (fun hb => Y.move rfl rfl) ?_
      refine WQ.yldG rfl (blt rfl) rfl rfl rfl (fun hb => Y.move rfl rfl) ?_
      refine WQ.yldG rfl (blt rfl) rfl rfl rfl (fun hb => Y.indexLs i (h_a.ext xW) rfl Tryd.underlying38 ti48 (evg rfl hb) (evg rfl hb) rfl (by have q0 := (eq_t (not_f hb)); omega)) ?_
      refine WQ.yldG rfl (blt rfl) rfl rfl rfl (fun hb => Y.fieldE rfl Tryd.underlying48 rfl ti3 (by decide) (evg rfl hb)) ?_
      refine WQ.yldG rfl (blt rfl) rfl rfl rfl (fun hb => Y.load1 rfl Tryd.underlying3 rfl (evg rfl hb) (Ls.at_ext (h_a.ext xW) (by have q0 := (eq_t (not_f hb)); omega) rfl)) ?_
      refine WQ.yldG rfl (blt rfl) rfl rfl rfl (fun hb => Y.move rfl rfl) ?_
      refine WQ.yldG rfl (blt rfl) rfl rfl rfl (fun hb => Y.move rfl rfl) ?_
      refine WQ.yldG rfl (blt rfl) rfl rfl rfl (fun hb => Y.indexLs i (h_b.ext xW) rfl Tryd.underlying38 ti48 (evg rfl hb) (evg rfl hb) rfl (by have q0 := (eq_t (not_f hb)); omega)) ?_
      refine WQ.yldG rfl (blt rfl) rfl rfl rfl (fun hb => Y.fieldE rfl Tryd.underlying48 rfl ti3 (by decide) (evg rfl hb)) ?_
      refine WQ.yldG rfl (blt rfl) rfl rfl rfl (fun hb => Y.load1 rfl Tryd.underlying3 rfl (evg rfl hb) (Ls.at_ext (h_b.ext xW) (by have q0 := (eq_t (not_f hb)); omega) rfl)) ?_
      refine WQ.yldG rfl (blt rfl) rfl rfl rfl (fun hb => Y.neq rfl (evg rfl hb) (evg rfl hb)) ?_
      refine WQ.yld rfl (blt rfl) rfl (Y.or rfl rfl rfl rfl) ?_
      refine WQ.yld rfl (blt rfl) rfl (Y.move rfl rfl) ?_
      refine WQ.yldG rfl (blt rfl) rfl rfl rfl (fun hb => Y.move rfl rfl) ?_
      refine WQ.yldG rfl (blt rfl) rfl rfl rfl (fun hb => Y.move rfl rfl) ?_
      refine WQ.yldG rfl (blt rfl) rfl rfl rfl (fun hb => Y.indexLs i (h_a.ext xW) rfl Tryd.underlying38 ti48 (evg rfl hb) (evg rfl hb) rfl (by have q0 := (And.intro (eq_t (not_f (or_f hb).1)) (eq_t (not_f (or_f hb).2))); omega)) ?_
      refine WQ.yldG rfl (blt rfl) rfl rfl rfl (fun hb => Y.fieldE rfl Tryd.underlying48 rfl ti3 (by decide) (evg rfl hb)) ?_
      refine WQ.yldG rfl (blt rfl) rfl rfl rfl (fun hb => Y.load1 rfl Tryd.underlying3 rfl (evg rfl hb) (Ls.at_ext (h_a.ext xW) (by have q0 := (And.intro (eq_t (not_f (or_f hb).1)) (eq_t (not_f (or_f hb).2))); omega) rfl)) ?_
      refine WQ.yldG rfl (blt rfl) rfl rfl rfl (fun hb => Y.move rfl rfl) ?_
      refine WQ.yldG rfl (blt rfl) rfl rfl rfl (fun hb => Y.move rfl rfl) ?_
      refine WQ.yldG rfl (blt rfl) rfl rfl rfl (fun hb => Y.indexLs i (h_b.ext xW) rfl Tryd.underlying38 ti48 (evg rfl hb) (evg rfl hb) rfl (by have q0 := (And.intro (eq_t (not_f (or_f hb).1)) (eq_t (not_f (or_f hb).2))); omega)) ?_
      refine WQ.yldG rfl (blt rfl) rfl rfl rfl (fun hb => Y.fieldE rfl Tryd.underlying48 rfl ti3 (by decide) (evg rfl hb)) ?_
      refine WQ.yldG rfl (blt rfl) rfl rfl rfl (fun hb => Y.load1 rfl Tryd.underlying3 rfl (evg rfl hb) (Ls.at_ext (h_b.ext xW) (by have q0 := (And.intro (eq_t (not_f (or_f hb).1)) (eq_t (not_f (or_f hb).2))); omega) rfl)) ?_
      refine WQ.yldG rfl (blt rfl) rfl rfl rfl (fun hb => Y.neq rfl (evg rfl hb) (evg rfl hb)) ?_
      refine WQ.yld rfl (blt rfl) rfl (Y.or rfl rfl rfl rfl) ?_
      refine WQ.yld rfl (blt rfl) rfl (Y.move rfl rfl) ?_
      refine WQ.yldG rfl (blt rfl) rfl rfl rfl (fun hb => Y.move rfl rfl) ?_
      refine WQ.yldG rfl (blt rfl) rfl rfl rfl (fun hb => Y.move rfl rfl) ?_
      refine WQ.yldG rfl (blt rfl) rfl rfl rfl (fun hb => Y.indexLs i (h_a.ext xW) rfl Tryd.underlying38 ti48 (evg rfl hb) (evg rfl hb) rfl (by have q0 := (And.intro (And.intro (eq_t (not_f (or_f (or_f hb).1).1)) (eq_t (not_f (or_f (or_f hb).1).2))) (eq_t (not_f (or_f hb).2))); omega)) ?_
      refine WQ.yldG rfl (blt rfl) rfl rfl rfl (fun hb => Y.fieldE rfl Tryd.underlying48 rfl ti46 (by decide) (evg rfl hb)) ?_
      refine WQ.yldG rfl (blt rfl) rfl rfl rfl (fun hb => Y.load1 rfl Tryd.underlying46 rfl (evg rfl hb) (Ls.at_ext (h_a.ext xW) (by have q0 := (And.intro (And.intro (eq_t (not_f (or_f (or_f hb).1).1)) (eq_t (not_f (or_f (or_f hb).1).2))) (eq_t (not_f (or_f hb).2))); omega) rfl)) ?_
      refine WQ.yldG rfl (blt rfl) rfl rfl rfl (fun hb => Y.move rfl rfl) ?_
      refine WQ.yldG rfl (blt rfl) rfl rfl rfl (fun hb => Y.move rfl rfl) ?_
      refine WQ.yldG rfl (blt rfl) rfl rfl rfl (fun hb => Y.indexLs i (h_b.ext xW) rfl Tryd.underlying38 ti48 (evg rfl hb) (evg rfl hb) rfl (by have q0 := (And.intro (And.intro (eq_t (not_f (or_f (or_f hb).1).1)) (eq_t (not_f (or_f (or_f hb).1).2))) (eq_t (not_f (or_f hb).2))); omega)) ?_
      refine WQ.yldG rfl (blt rfl) rfl rfl rfl (fun hb => Y.fieldE rfl Tryd.underlying48 rfl ti46 (by decide) (evg rfl hb)) ?_
      refine WQ.yldG rfl (blt rfl) rfl rfl rfl (fun hb => Y.load1 rfl Tryd.underlying46 rfl (evg rfl hb) (Ls.at_ext (h_b.ext xW) (by have q0 := (And.intro (And.intro (eq_t (not_f (or_f (or_f hb).1).1)) (eq_t (not_f (or_f (or_f hb).1).2))) (eq_t (not_f (or_f hb).2))); omega) rfl)) ?_
      refine WQ.callG rfl (blt rfl) rfl rfl rfl rfl rfl has31 (fun hb => (evs_cons (evg rfl hb) (evs_cons (evg rfl hb) evs_nil))) (fun hb w hw => calls_ext hw (texts_any _ _ _ _ _ _ _ _ _ (Ls.ext ((g_a _ (bang_mem (show i < a.length from by omega))).ext xW) hw) (Ls.ext ((g_b _ (bang_mem (show i < b.length from by omega))).ext xW) hw) ka.2.2.2)) ?_
      refine WQ.yldG rfl (blt rfl) rfl rfl rfl (fun hb => Y.not rfl (evg rfl hb)) ?_
      refine WQ.yld rfl (blt rfl) rfl (Y.or rfl rfl rfl rfl) ?_
      refine WQ.done (fun w15 x16 => ?_)
      have xW := Ext.trans xW x16
      refine WK.then_normal (k12 _ _ ?_)
      refine WC.sub [(0, _), (1, _), (5, _), (67, _)] ⟨rfl, rfl, rfl, rfl, trivial⟩ ?_
      refine WC.cond rfl (fun h17 => ?_) (fun h17 => ?_)
      ·
        clear k1 k2 k3 k5 k6 k8 k9 k11 k12
        exact False.elim (by have q := h17; rw [ka.1, ka.2.1, ka.2.2.1] at q; simp at q)
      ·
        have p17 := (And.intro (And.intro (eq_t (not_f (or_f (or_f (or_f h17).1).1).1)) (eq_t (not_f (or_f (or_f (or_f h17).1).1).2))) (eq_t (not_f (or_f (or_f h17).1).2)))
        refine WC.skip ?_
        refine WK.in_normal ?_
        refine WK.then_normal (k11 _ _ ?_)
        refine WC.sub [(0, _), (1, _), (5, _)] ⟨rfl, rfl, rfl, trivial⟩ ?_
        refine WC.region rfl ?_
        refine WL.yld rfl (blt rfl) rfl (Y.move rfl rfl) ?_
        refine WL.yld rfl (blt rfl) rfl (Y.add rfl rfl rfl (wrap_i64 (by first | omega | (dsimp only; omega)))) ?_
        refine WL.yld rfl (blt rfl) rfl (Y.assign rfl rfl) ?_
        refine WL.nil ?_
        refine WK.roundS _ [(5, .int .i64 (((i + 1) : Nat) : Int))] ⟨rfl, rfl, rfl, trivial⟩ ?_ ⟨(i + 1), rfl, rfl, xW, (by omega)⟩
        show _ - (i + 1) < _ - i; omega
    ·
      have p10 := (dec_f h10)
      refine WC.exit ?_
      refine WK.then_exit ?_
      refine WK.then_exit ?_
      refine WK.in_exit ?_
      refine WK.then_normal (k5 _ _ ?_)
      refine WC.sub [] trivial ?_
      refine WC.seq (fun K18 k18 => ?_)
      refine WC.region rfl ?_
      refine WL.yld rfl (blt rfl) rfl (Y.assign rfl rfl) ?_
      refine WL.nil ?_
      refine WK.then_normal (k18 _ _ ?_)
      refine WC.ret ?_
      clear k1 k2 k3 k5 k6 k8 k9 k18
      refine WK.ret [_] rfl ⟨rfl, trivial⟩ ?_
      exact ⟨rfl, xW⟩
theorem good_any (x : Sy.P) (w : World) :
    Calls Tryd.prog 32 #[.agg #[.int .i64 x.th, .int .i64 x.at_, .int .i64 x.wt, .slice x.A x.n x.c]] w fun e w' => e = .returned (.bool (Sy.okP x)) ∧ Ext w w' := by
  have xW := Ext.refl w
  refine calls_of_WC (args := [.agg #[.int .i64 x.th, .int .i64 x.at_, .int .i64 x.wt, .slice x.A x.n x.c]]) Tryd.func32 rfl rfl (ble rfl) ?_
  refine WC.seq (fun K1 k1 => ?_)
  refine WC.region rfl ?_
  refine WL.box rfl (blt rfl) rfl rfl rfl rfl ?_
  intro g2 w3 e4 x5 m6
  have o_g2 := own_new xW e4
  have xW := Ext.trans xW x5
  refine WL.yld rfl (blt rfl) rfl (Y.assign rfl rfl) ?_
  refine WL.nil ?_
  refine WK.then_normal (k1 _ _ ?_)
  refine WC.sub [(1, _)] ⟨rfl, trivial⟩ ?_
  refine WC.seq (fun K7 k7 => ?_)
  refine WC.region rfl ?_
  refine WL.yld rfl (blt rfl) rfl (Y.fieldAddr rfl Tryd.underlying48 rfl ti3 (by decide) rfl) ?_
  refine WL.yld rfl (blt rfl) rfl (Y.load1 rfl Tryd.underlying3 rfl rfl (Blk.at_eq m6 rfl)) ?_
  refine WL.yld rfl (blt rfl) rfl (Y.geq rfl rfl rfl) ?_
  refine WL.yld rfl (blt rfl) rfl (Y.move rfl rfl) ?_
  refine WL.yldG rfl (blt rfl) rfl rfl rfl (fun hb => Y.fieldAddr rfl Tryd.underlying48 rfl ti3 (by decide) rfl) ?_
  refine WL.yldG rfl (blt rfl) rfl rfl rfl (fun hb => Y.load1 rfl Tryd.underlying3 rfl (evg rfl hb) (Blk.at_eq m6 rfl)) ?_
  refine WL.yldG rfl (blt rfl) rfl rfl rfl (fun hb => Y.leq rfl (evg rfl hb) rfl) ?_
  refine WL.yld rfl (blt rfl) rfl (Y.and rfl rfl rfl rfl) ?_
  refine WL.yld rfl (blt rfl) rfl (Y.move rfl rfl) ?_
  refine WL.yldG rfl (blt rfl) rfl rfl rfl (fun hb => Y.fieldAddr rfl Tryd.underlying48 rfl ti3 (by decide) rfl) ?_
  refine WL.yldG rfl (blt rfl) rfl rfl rfl (fun hb => Y.load1 rfl Tryd.underlying3 rfl (evg rfl hb) (Blk.at_eq m6 rfl)) ?_
  refine WL.yldG rfl (blt rfl) rfl rfl rfl (fun hb => Y.geq rfl (evg rfl hb) rfl) ?_
  refine WL.yld rfl (blt rfl) rfl (Y.and rfl rfl rfl rfl) ?_
  refine WL.yld rfl (blt rfl) rfl (Y.move rfl rfl) ?_
  refine WL.yldG rfl (blt rfl) rfl rfl rfl (fun hb => Y.fieldAddr rfl Tryd.underlying48 rfl ti3 (by decide) rfl) ?_
  refine WL.yldG rfl (blt rfl) rfl rfl rfl (fun hb => Y.load1 rfl Tryd.underlying3 rfl (evg rfl hb) (Blk.at_eq m6 rfl)) ?_
  refine WL.yldG rfl (blt rfl) rfl rfl rfl (fun hb => Y.leq rfl (evg rfl hb) rfl) ?_
  refine WL.yld rfl (blt rfl) rfl (Y.and rfl rfl rfl rfl) ?_
  refine WL.yld rfl (blt rfl) rfl (Y.move rfl rfl) ?_
  refine WL.yldG rfl (blt rfl) rfl rfl rfl (fun hb => Y.fieldAddr rfl Tryd.underlying48 rfl ti3 (by decide) rfl) ?_
  refine WL.yldG rfl (blt rfl) rfl rfl rfl (fun hb => Y.load1 rfl Tryd.underlying3 rfl (evg rfl hb) (Blk.at_eq m6 rfl)) ?_
  refine WL.yldG rfl (blt rfl) rfl rfl rfl (fun hb => Y.geq rfl (evg rfl hb) rfl) ?_
  refine WL.yld rfl (blt rfl) rfl (Y.and rfl rfl rfl rfl) ?_
  refine WL.yld rfl (blt rfl) rfl (Y.move rfl rfl) ?_
  refine WL.yldG rfl (blt rfl) rfl rfl rfl (fun hb => Y.fieldAddr rfl Tryd.underlying48 rfl ti3 (by decide) rfl) ?_
  refine WL.yldG rfl (blt rfl) rfl rfl rfl (fun hb => Y.load1 rfl Tryd.underlying3 rfl (evg rfl hb) (Blk.at_eq m6 rfl)) ?_
  refine WL.yldG rfl (blt rfl) rfl rfl rfl (fun hb => Y.leq rfl (evg rfl hb) rfl) ?_
  refine WL.yld rfl (blt rfl) rfl (Y.and rfl rfl rfl rfl) ?_
  refine WL.yld rfl (blt rfl) rfl (Y.assign rfl rfl) ?_
  refine WL.nil ?_
  refine WK.then_normal (k7 _ _ ?_)
  refine WC.sub [(2, _)] ⟨rfl, trivial⟩ ?_
  refine WC.ret ?_
  clear k1 k7
  refine WK.ret [_] rfl ⟨rfl, trivial⟩ ?_
  exact ⟨rfl, xW⟩
theorem inr_any (x : Sy.P) (w : World) :
    Calls Tryd.prog 42 #[.agg #[.int .i64 x.th, .int .i64 x.at_, .int .i64 x.wt, .slice x.A x.n x.c]] w fun e w' => e = .returned (.bool (Sy.okP x)) ∧ Ext w w' := by
  have xW := Ext.refl w
  refine calls_of_WC (args := [.agg #[.int .i64 x.th, .int .i64 x.at_, .int .i64 x.wt, .slice x.A x.n x.c]]) Tryd.func42 rfl rfl (ble rfl) ?_
  refine WC.seq (fun K1 k1 => ?_)
  refine WC.region rfl ?_
  refine WL.box rfl (blt rfl) rfl rfl rfl rfl ?_
  intro g2 w3 e4 x5 m6
  have o_g2 := own_new xW e4
  have xW := Ext.trans xW x5
  refine WL.yld rfl (blt rfl) rfl (Y.assign rfl rfl) ?_
  refine WL.nil ?_
  refine WK.then_normal (k1 _ _ ?_)
  refine WC.sub [(1, _)] ⟨rfl, trivial⟩ ?_
  refine WC.seq (fun K7 k7 => ?_)
  refine WC.region rfl ?_
  refine WL.yld rfl (blt rfl) rfl (Y.fieldAddr rfl Tryd.underlying48 rfl ti3 (by decide) rfl) ?_
  refine WL.yld rfl (blt rfl) rfl (Y.load1 rfl Tryd.underlying3 rfl rfl (Blk.at_eq m6 rfl)) ?_
  refine WL.yld rfl (blt rfl) rfl (Y.geq rfl rfl rfl) ?_
  refine WL.yld rfl (blt rfl) rfl (Y.move rfl rfl) ?_
  refine WL.yldG rfl (blt rfl) rfl rfl rfl (fun hb => Y.fieldAddr rfl Tryd.underlying48 rfl ti3 (by decide) rfl) ?_
  refine WL.yldG rfl (blt rfl) rfl rfl rfl (fun hb => Y.load1 rfl Tryd.underlying3 rfl (evg rfl hb) (Blk.at_eq m6 rfl)) ?_
  refine WL.yldG rfl (blt rfl) rfl rfl rfl (fun hb => Y.leq rfl (evg rfl hb) rfl) ?_
  refine WL.yld rfl (blt rfl) rfl (Y.and rfl rfl rfl rfl) ?_
  refine WL.yld rfl (blt rfl) rfl (Y.move rfl rfl) ?_
  refine WL.yldG rfl (blt rfl) rfl rfl rfl (fun hb => Y.fieldAddr rfl Tryd.underlying48 rfl ti3 (by decide) rfl) ?_
  refine WL.yldG rfl (blt rfl) rfl rfl rfl (fun hb => Y.load1 rfl Tryd.underlying3 rfl (evg rfl hb) (Blk.at_eq m6 rfl)) ?_
  refine WL.yldG rfl (blt rfl) rfl rfl rfl (fun hb => Y.geq rfl (evg rfl hb) rfl) ?_
  refine WL.yld rfl (blt rfl) rfl (Y.and rfl rfl rfl rfl) ?_
  refine WL.yld rfl (blt rfl) rfl (Y.move rfl rfl) ?_
  refine WL.yldG rfl (blt rfl) rfl rfl rfl (fun hb => Y.fieldAddr rfl Tryd.underlying48 rfl ti3 (by decide) rfl) ?_
  refine WL.yldG rfl (blt rfl) rfl rfl rfl (fun hb => Y.load1 rfl Tryd.underlying3 rfl (evg rfl hb) (Blk.at_eq m6 rfl)) ?_
  refine WL.yldG rfl (blt rfl) rfl rfl rfl (fun hb => Y.leq rfl (evg rfl hb) rfl) ?_
  refine WL.yld rfl (blt rfl) rfl (Y.and rfl rfl rfl rfl) ?_
  refine WL.yld rfl (blt rfl) rfl (Y.move rfl rfl) ?_
  refine WL.yldG rfl (blt rfl) rfl rfl rfl (fun hb => Y.fieldAddr rfl Tryd.underlying48 rfl ti3 (by decide) rfl) ?_
  refine WL.yldG rfl (blt rfl) rfl rfl rfl (fun hb => Y.load1 rfl Tryd.underlying3 rfl (evg rfl hb) (Blk.at_eq m6 rfl)) ?_
  refine WL.yldG rfl (blt rfl) rfl rfl rfl (fun hb => Y.geq rfl (evg rfl hb) rfl) ?_
  refine WL.yld rfl (blt rfl) rfl (Y.and rfl rfl rfl rfl) ?_
  refine WL.yld rfl (blt rfl) rfl (Y.move rfl rfl) ?_
  refine WL.yldG rfl (blt rfl) rfl rfl rfl (fun hb => Y.fieldAddr rfl Tryd.underlying48 rfl ti3 (by decide) rfl) ?_
  refine WL.yldG rfl (blt rfl) rfl rfl rfl (fun hb => Y.load1 rfl Tryd.underlying3 rfl (evg rfl hb) (Blk.at_eq m6 rfl)) ?_
  refine WL.yldG rfl (blt rfl) rfl rfl rfl (fun hb => Y.leq rfl (evg rfl hb) rfl) ?_
  refine WL.yld rfl (blt rfl) rfl (Y.and rfl rfl rfl rfl) ?_
  refine WL.yld rfl (blt rfl) rfl (Y.assign rfl rfl) ?_
  refine WL.nil ?_
  refine WK.then_normal (k7 _ _ ?_)
  refine WC.sub [(2, _)] ⟨rfl, trivial⟩ ?_
  refine WC.ret ?_
  clear k1 k7
  refine WK.ret [_] rfl ⟨rfl, trivial⟩ ?_
  exact ⟨rfl, xW⟩
theorem frames_any (A_t : Option Addr) (n_t c_t : Nat) (t : List ByteArray) (w : World) (h_t : Ls w A_t n_t c_t Sy.sc 1 t) :
    Calls Tryd.prog 33 #[.slice A_t n_t c_t] w fun e w' => e = .returned (.int .i64 (Sy.frsE t)) ∧ Ext w w' := by
  have xW := Ext.refl w
  have e_t := h_t.len
  have z_t := h_t.nle
  refine calls_of_WC (args := [.slice A_t n_t c_t]) Tryd.func33 rfl rfl (ble rfl) ?_
  refine WC.seq (fun K1 k1 => ?_)
  refine WC.region rfl ?_
  refine WL.yld rfl (blt rfl) rfl (Y.assign rfl rfl) ?_
  refine WL.nil ?_
  refine WK.then_normal (k1 _ _ ?_)
  refine WC.sub [(0, _)] ⟨rfl, trivial⟩ ?_
  refine WC.seq (fun K2 k2 => ?_)
  refine WC.seq (fun K3 k3 => ?_)
  refine WC.region rfl ?_
  refine WL.yld rfl (blt rfl) rfl (Y.move rfl rfl) ?_
  refine WL.yld rfl (blt rfl) rfl (Y.lenSl rfl rfl rfl Tryd.underlying46 rfl) ?_
  refine WL.yld rfl (blt rfl) rfl (Y.gtr rfl rfl rfl) ?_
  refine WL.nil ?_
  refine WK.then_normal (k3 _ _ ?_)
  refine WC.sub [(0, _), (8, _)] ⟨rfl, rfl, trivial⟩ ?_
  refine WC.cond rfl (fun h4 => ?_) (fun h4 => ?_)
  ·
    have p4 := (dec_t h4)
    refine WC.seq (fun K5 k5 => ?_)
    refine WC.region rfl ?_
    refine WL.yld rfl (blt rfl) rfl (Y.assign rfl rfl) ?_
    refine WL.nil ?_
    refine WK.then_normal (k5 _ _ ?_)
    refine WC.sub [(2, _)] ⟨rfl, trivial⟩ ?_
    refine WC.ret ?_
    refine WK.then_ret ?_
    clear k1 k2 k3 k5
    refine WK.ret [_] rfl ⟨rfl, trivial⟩ ?_
    exact ⟨ret1 (vi (Sy.frs_long (by omega)).symm), xW⟩
  ·
    have p4 := (dec_f h4)
    refine WC.skip ?_
    refine WK.then_normal (k2 _ _ ?_)
    refine WC.sub [(0, _)] ⟨rfl, trivial⟩ ?_
    refine WC.seq (fun K6 k6 => ?_)
    refine WC.seq (fun K7 k7 => ?_)
    refine WC.region rfl ?_
    refine WL.yld rfl (blt rfl) rfl (Y.move rfl rfl) ?_
    refine WL.yld rfl (blt rfl) rfl (Y.lenSl rfl rfl rfl Tryd.underlying46 rfl) ?_
    refine WL.yld rfl (blt rfl) rfl (Y.move rfl rfl) ?_
    refine WL.nil ?_
    refine WK.then_normal (k7 _ _ ?_)
    refine WC.sub [(9, _), (10, _), (11, _)] ⟨rfl, rfl, rfl, trivial⟩ ?_
    refine WC.block ?_
    refine WC.sub [(11, _), (9, _), (10, _)] ⟨rfl, rfl, rfl, trivial⟩ ?_
    refine WC.loopS 1 (fun mz Ed W' => ∃ i : Nat, mz = n_t - i ∧ Ed = [(11, .int .i64 ((i : Nat) : Int))] ∧ Ext w W' ∧ (i ≤ n_t) ∧ (∀ j, j < i → Sy.nmE t[j]! = 0)) _ ⟨0, rfl, rfl, xW, (Nat.zero_le _), (fun j hj => absurd hj (Nat.not_lt_zero j))⟩ ?_
    rintro _ _ w8 ⟨i, rfl, rfl, xW, le_i, inv_i⟩
    refine WC.sub [(11, _), (9, _), (10, _)] ⟨rfl, rfl, rfl, trivial⟩ ?_
    refine WC.seq (fun K9 k9 => ?_)
    refine WC.region rfl ?_
    refine WL.yld rfl (blt rfl) rfl (Y.lss rfl rfl rfl) ?_
    refine WL.nil ?_
    refine WK.then_normal (k9 _ _ ?_)
    refine WC.seq (fun K10 k10 => ?_)
    refine WC.cond rfl (fun h11 => ?_) (fun h11 => ?_)
    ·
      have p11 := (dec_t h11)
      refine WC.skip ?_
      refine WK.then_normal (k10 _ _ ?_)
      refine WC.sub [(9, _), (10, _), (11, _)] ⟨rfl, rfl, rfl, trivial⟩ ?_
      refine WC.seq (fun K12 k12 => ?_)
      refine WC.block ?_
      refine WC.seq (fun K13 k13 => ?_)
      refine WC.region rfl ?_
      have b14 : i < n_t := by omega
      refine WL.yld rfl (blt rfl) rfl (Y.indexLs i (h_t.ext xW) rfl Tryd.underlying46 ti9 rfl rfl rfl b14) ?_
      refine WL.yld rfl (blt rfl) rfl (Y.load1 rfl Tryd.underlying9 rfl rfl (Ls.at_eq (h_t.ext xW) b14 rfl)) ?_
      refine WL.yld rfl (blt rfl) rfl (Y.assign rfl rfl) ?_
      refine WL.nil ?_
      refine WK.then_normal (k13 _ _ ?_)
      refine WC.sub [(4, _), (9, _), (10, _), (11, _)] ⟨rfl, rfl, rfl, rfl, trivial⟩ ?_
      refine WC.seq (fun K15 k15 => ?_)
      refine WC.region rfl ?_
      refine WL.yld rfl (blt rfl) rfl (Y.move rfl rfl) ?_
      refine WL.call rfl (blt rfl) rfl rfl rfl has39 rfl (name_any _ _ ) ?_
      rintro _ w16 ⟨rfl, x17⟩
      refine ⟨_, rfl, ?_⟩
      have xW := Ext.trans xW x17
      refine WL.yld rfl (blt rfl) rfl (Y.assign rfl rfl) ?_
      refine WL.nil ?_
      refine WK.then_normal (k15 _ _ ?_)
      refine WC.sub [(5, _), (9, _), (10, _), (11, _)] ⟨rfl, rfl, rfl, rfl, trivial⟩ ?_
      refine WC.seq (fun K18 k18 => ?_)
      refine WC.region rfl ?_
      refine WL.yld rfl (blt rfl) rfl (Y.move rfl rfl) ?_
      refine WL.yld rfl (blt rfl) rfl (Y.neq rfl rfl rfl) ?_
      refine WL.nil ?_
      refine WK.then_normal (k18 _ _ ?_)
      refine WC.sub [(5, _), (9, _), (10, _), (11, _), (18, _)] ⟨rfl, rfl, rfl, rfl, rfl, trivial⟩ ?_
      refine WC.cond rfl (fun h19 => ?_) (fun h19 => ?_)
      ·
        have p19 := (eq_f (not_t h19))
        refine WC.seq (fun K20 k20 => ?_)
        refine WC.region rfl ?_
        refine WL.yld rfl (blt rfl) rfl (Y.move rfl rfl) ?_
        refine WL.yld rfl (blt rfl) rfl (Y.assign rfl rfl) ?_
        refine WL.nil ?_
        refine WK.then_normal (k20 _ _ ?_)
        refine WC.sub [(2, _)] ⟨rfl, trivial⟩ ?_
        refine WC.ret ?_
        refine WK.in_ret ?_
        refine WK.then_ret ?_
        refine WK.then_ret ?_
        refine WK.in_ret ?_
        refine WK.then_ret ?_
        clear k1 k2 k3 k6 k7 k9 k10 k12 k13 k15 k18 k20
        refine WK.ret [_] rfl ⟨rfl, trivial⟩ ?_
        exact ⟨ret1 (vi (Eq.symm ((Sy.frs_hit (by omega) (show i < t.length from by omega) inv_i (by have q := h19; simpa using q))))), xW⟩
      ·
        have p19 := (eq_t (not_f h19))
        refine WC.skip ?_
        refine WK.in_normal ?_
        refine WK.then_normal (k12 _ _ ?_)
        refine WC.sub [(9, _), (10, _), (11, _)] ⟨rfl, rfl, rfl, trivial⟩ ?_
        refine WC.region rfl ?_
        refine WL.yld rfl (blt rfl) rfl (Y.add rfl rfl rfl (wrap_i64 (by first | omega | (dsimp only; omega)))) ?_
        refine WL.yld rfl (blt rfl) rfl (Y.move rfl rfl) ?_
        refine WL.nil ?_
        refine WK.roundS _ [(11, .int .i64 (((i + 1) : Nat) : Int))] ⟨rfl, rfl, rfl, trivial⟩ ?_ ⟨(i + 1), rfl, rfl, xW, (by omega), (fun j hj => by rcases Nat.lt_succ_iff_lt_or_eq.1 hj with h | h; exact inv_i j h; subst h; exact (by have q := h19; simpa using q))⟩
        show _ - (i + 1) < _ - i; omega
    ·
      have p11 := (dec_f h11)
      refine WC.exit ?_
      refine WK.then_exit ?_
      refine WK.then_exit ?_
      refine WK.in_exit ?_
      refine WK.then_normal (k6 _ _ ?_)
      refine WC.sub [] trivial ?_
      refine WC.seq (fun K21 k21 => ?_)
      refine WC.region rfl ?_
      refine WL.yld rfl (blt rfl) rfl (Y.assign rfl rfl) ?_
      refine WL.nil ?_
      refine WK.then_normal (k21 _ _ ?_)
      refine WC.ret ?_
      clear k1 k2 k3 k6 k7 k9 k10 k21
      refine WK.ret [_] rfl ⟨rfl, trivial⟩ ?_
      exact ⟨ret1 (vi (Sy.frs_ok (by omega) fun j hj => inv_i j (by omega)).symm), xW⟩
theorem rframes_any (A_t : Option Addr) (n_t c_t : Nat) (t : List ByteArray) (w : World) (h_t : Ls w A_t n_t c_t Sy.sc 1 t) :
    Calls Tryd.prog 43 #[.slice A_t n_t c_t] w fun e w' => e = .returned (.int .i64 (Sy.frsE t)) ∧ Ext w w' := by
  have xW := Ext.refl w
  have e_t := h_t.len
  have z_t := h_t.nle
  refine calls_of_WC (args := [.slice A_t n_t c_t]) Tryd.func43 rfl rfl (ble rfl) ?_
  refine WC.seq (fun K1 k1 => ?_)
  refine WC.region rfl ?_
  refine WL.yld rfl (blt rfl) rfl (Y.assign rfl rfl) ?_
  refine WL.nil ?_
  refine WK.then_normal (k1 _ _ ?_)
  refine WC.sub [(0, _)] ⟨rfl, trivial⟩ ?_
  refine WC.seq (fun K2 k2 => ?_)
  refine WC.seq (fun K3 k3 => ?_)
  refine WC.region rfl ?_
  refine WL.yld rfl (blt rfl) rfl (Y.move rfl rfl) ?_
  refine WL.yld rfl (blt rfl) rfl (Y.lenSl rfl rfl rfl Tryd.underlying46 rfl) ?_
  refine WL.yld rfl (blt rfl) rfl (Y.gtr rfl rfl rfl) ?_
  refine WL.nil ?_
  refine WK.then_normal (k3 _ _ ?_)
  refine WC.sub [(0, _), (6, _)] ⟨rfl, rfl, trivial⟩ ?_
  refine WC.cond rfl (fun h4 => ?_) (fun h4 => ?_)
  ·
    have p4 := (dec_t h4)
    refine WC.seq (fun K5 k5 => ?_)
    refine WC.region rfl ?_
    refine WL.yld rfl (blt rfl) rfl (Y.assign rfl rfl) ?_
    refine WL.nil ?_
    refine WK.then_normal (k5 _ _ ?_)
    refine WC.sub [(2, _)] ⟨rfl, trivial⟩ ?_
    refine WC.ret ?_
    refine WK.then_ret ?_
    clear k1 k2 k3 k5
    refine WK.ret [_] rfl ⟨rfl, trivial⟩ ?_
    exact ⟨ret1 (vi (Sy.frs_long (by omega)).symm), xW⟩
  ·
    have p4 := (dec_f h4)
    refine WC.skip ?_
    refine WK.then_normal (k2 _ _ ?_)
    refine WC.sub [(0, _)] ⟨rfl, trivial⟩ ?_
    refine WC.seq (fun K6 k6 => ?_)
    refine WC.seq (fun K7 k7 => ?_)
    refine WC.region rfl ?_
    refine WL.yld rfl (blt rfl) rfl (Y.assign rfl rfl) ?_
    refine WL.nil ?_
    refine WK.then_normal (k7 _ _ ?_)
    refine WC.block ?_
    refine WC.sub [(3, _), (0, _)] ⟨rfl, rfl, trivial⟩ ?_
    refine WC.loopS 1 (fun mz Ed W' => ∃ i : Nat, mz = n_t - i ∧ Ed = [(3, .int .i64 ((i : Nat) : Int))] ∧ Ext w W' ∧ (i ≤ n_t) ∧ (∀ j, j < i → Sy.nmE t[j]! = 0)) _ ⟨0, rfl, rfl, xW, (Nat.zero_le _), (fun j hj => absurd hj (Nat.not_lt_zero j))⟩ ?_
    rintro _ _ w8 ⟨i, rfl, rfl, xW, le_i, inv_i⟩
    refine WC.sub [(3, _), (0, _)] ⟨rfl, rfl, trivial⟩ ?_
    refine WC.seq (fun K9 k9 => ?_)
    refine WC.seq (fun K10 k10 => ?_)
    refine WC.region rfl ?_
    refine WL.yld rfl (blt rfl) rfl (Y.move rfl rfl) ?_
    refine WL.yld rfl (blt rfl) rfl (Y.move rfl rfl) ?_
    refine WL.yld rfl (blt rfl) rfl (Y.lenSl rfl rfl rfl Tryd.underlying46 rfl) ?_
    refine WL.yld rfl (blt rfl) rfl (Y.lss rfl rfl rfl) ?_
    refine WL.nil ?_
    refine WK.then_normal (k10 _ _ ?_)
    refine WC.sub [(0, _), (3, _), (10, _)] ⟨rfl, rfl, rfl, trivial⟩ ?_
    refine WC.cond rfl (fun h11 => ?_) (fun h11 => ?_)
    ·
      have p11 := (dec_t h11)
      refine WC.skip ?_
      refine WK.then_normal (k9 _ _ ?_)
      refine WC.sub [(0, _), (3, _)] ⟨rfl, rfl, trivial⟩ ?_
      refine WC.seq (fun K12 k12 => ?_)
      refine WC.block ?_
      refine WC.seq (fun K13 k13 => ?_)
      refine WC.region rfl ?_
      refine WL.yld rfl (blt rfl) rfl (Y.move rfl rfl) ?_
      refine WL.yld rfl (blt rfl) rfl (Y.move rfl rfl) ?_
      have b14 : i < n_t := by omega
      refine WL.yld rfl (blt rfl) rfl (Y.indexLs i (h_t.ext xW) rfl Tryd.underlying46 ti9 rfl rfl rfl b14) ?_
      refine WL.yld rfl (blt rfl) rfl (Y.load1 rfl Tryd.underlying9 rfl rfl (Ls.at_eq (h_t.ext xW) b14 rfl)) ?_
      refine WL.call rfl (blt rfl) rfl rfl rfl has24 rfl (rname_any _ _ ) ?_
      rintro _ w15 ⟨rfl, x16⟩
      refine ⟨_, rfl, ?_⟩
      have xW := Ext.trans xW x16
      refine WL.yld rfl (blt rfl) rfl (Y.neq rfl rfl rfl) ?_
      refine WL.nil ?_
      refine WK.then_normal (k13 _ _ ?_)
      refine WC.sub [(0, _), (3, _), (18, _)] ⟨rfl, rfl, rfl, trivial⟩ ?_
      refine WC.cond rfl (fun h17 => ?_) (fun h17 => ?_)
      ·
        have p17 := (eq_f (not_t h17))
        refine WC.seq (fun K18 k18 => ?_)
        refine WC.region rfl ?_
        refine WL.yld rfl (blt rfl) rfl (Y.assign rfl rfl) ?_
        refine WL.nil ?_
        refine WK.then_normal (k18 _ _ ?_)
        refine WC.sub [(2, _)] ⟨rfl, trivial⟩ ?_
        refine WC.ret ?_
        refine WK.in_ret ?_
        refine WK.then_ret ?_
        refine WK.then_ret ?_
        refine WK.in_ret ?_
        refine WK.then_ret ?_
        clear k1 k2 k3 k6 k7 k9 k10 k12 k13 k18
        refine WK.ret [_] rfl ⟨rfl, trivial⟩ ?_
        exact ⟨ret1 (vi (Eq.symm (((Sy.frs_hit (by omega) (show i < t.length from by omega) inv_i (by have q := h17; simpa using q))).trans ((Sy.nmE_cases _).resolve_left (by have q := h17; simpa using q))))), xW⟩
      ·
        have p17 := (eq_t (not_f h17))
        refine WC.skip ?_
        refine WK.in_normal ?_
        refine WK.then_normal (k12 _ _ ?_)
        refine WC.sub [(0, _), (3, _)] ⟨rfl, rfl, trivial⟩ ?_
        refine WC.region rfl ?_
        refine WL.yld rfl (blt rfl) rfl (Y.move rfl rfl) ?_
        refine WL.yld rfl (blt rfl) rfl (Y.add rfl rfl rfl (wrap_i64 (by first | omega | (dsimp only; omega)))) ?_
        refine WL.yld rfl (blt rfl) rfl (Y.assign rfl rfl) ?_
        refine WL.nil ?_
        refine WK.roundS _ [(3, .int .i64 (((i + 1) : Nat) : Int))] ⟨rfl, rfl, trivial⟩ ?_ ⟨(i + 1), rfl, rfl, xW, (by omega), (fun j hj => by rcases Nat.lt_succ_iff_lt_or_eq.1 hj with h | h; exact inv_i j h; subst h; exact (by have q := h17; simpa using q))⟩
        show _ - (i + 1) < _ - i; omega
    ·
      have p11 := (dec_f h11)
      refine WC.exit ?_
      refine WK.then_exit ?_
      refine WK.then_exit ?_
      refine WK.in_exit ?_
      refine WK.then_normal (k6 _ _ ?_)
      refine WC.sub [] trivial ?_
      refine WC.seq (fun K19 k19 => ?_)
      refine WC.region rfl ?_
      refine WL.yld rfl (blt rfl) rfl (Y.assign rfl rfl) ?_
      refine WL.nil ?_
      refine WK.then_normal (k19 _ _ ?_)
      refine WC.ret ?_
      clear k1 k2 k3 k6 k7 k9 k10 k19
      refine WK.ret [_] rfl ⟨rfl, trivial⟩ ?_
      exact ⟨ret1 (vi (Sy.frs_ok (by omega) fun j hj => inv_i j (by omega)).symm), xW⟩
theorem pcheck_any (A_s : Option Addr) (n_s c_s : Nat) (s : List Sy.P) (w : World) (h_s : Ls w A_s n_s c_s Sy.P.v 4 s) (g_s : Sy.GoodP w s) :
    Calls Tryd.prog 20 #[.slice A_s n_s c_s] w fun e w' => e = .returned (.int .i64 (Sy.smpE s)) ∧ Ext w w' := by
  have xW := Ext.refl w
  have e_s := h_s.len
  have z_s := h_s.nle
  refine calls_of_WC (args := [.slice A_s n_s c_s]) Tryd.func20 rfl rfl (ble rfl) ?_
  refine WC.seq (fun K1 k1 => ?_)
  refine WC.region rfl ?_
  refine WL.yld rfl (blt rfl) rfl (Y.assign rfl rfl) ?_
  refine WL.nil ?_
  refine WK.then_normal (k1 _ _ ?_)
  refine WC.sub [(0, _)] ⟨rfl, trivial⟩ ?_
  refine WC.seq (fun K2 k2 => ?_)
  refine WC.seq (fun K3 k3 => ?_)
  refine WC.region rfl ?_
  refine WL.yld rfl (blt rfl) rfl (Y.move rfl rfl) ?_
  refine WL.yld rfl (blt rfl) rfl (Y.lenSl rfl rfl rfl Tryd.underlying38 rfl) ?_
  refine WL.yld rfl (blt rfl) rfl (Y.move rfl rfl) ?_
  refine WL.nil ?_
  refine WK.then_normal (k3 _ _ ?_)
  refine WC.block ?_
  refine WC.sub [(8, _), (0, _), (6, _), (7, _)] ⟨rfl, rfl, rfl, rfl, trivial⟩ ?_
  refine WC.loopS 1 (fun mz Ed W' => ∃ i : Nat, mz = n_s - i ∧ Ed = [(8, .int .i64 ((i : Nat) : Int))] ∧ Ext w W' ∧ (i ≤ n_s) ∧ (∀ j, j < i → Sy.smp1 s j = 0)) _ ⟨0, rfl, rfl, xW, (Nat.zero_le _), (fun j hj => absurd hj (Nat.not_lt_zero j))⟩ ?_
  rintro _ _ w4 ⟨i, rfl, rfl, xW, le_i, inv_i⟩
  refine WC.sub [(8, _), (0, _), (6, _), (7, _)] ⟨rfl, rfl, rfl, rfl, trivial⟩ ?_
  refine WC.seq (fun K5 k5 => ?_)
  refine WC.region rfl ?_
  refine WL.yld rfl (blt rfl) rfl (Y.lss rfl rfl rfl) ?_
  refine WL.nil ?_
  refine WK.then_normal (k5 _ _ ?_)
  refine WC.seq (fun K6 k6 => ?_)
  refine WC.cond rfl (fun h7 => ?_) (fun h7 => ?_)
  ·
    have p7 := (dec_t h7)
    refine WC.skip ?_
    refine WK.then_normal (k6 _ _ ?_)
    refine WC.sub [(0, _), (6, _), (7, _), (8, _)] ⟨rfl, rfl, rfl, rfl, trivial⟩ ?_
    refine WC.seq (fun K8 k8 => ?_)
    refine WC.block ?_
    refine WC.seq (fun K9 k9 => ?_)
    refine WC.region rfl ?_
    refine WL.yld rfl (blt rfl) rfl (Y.move rfl rfl) ?_
    have b10 : i < n_s := by omega
    refine WL.yld rfl (blt rfl) rfl (Y.indexLs i (h_s.ext xW) rfl Tryd.underlying38 ti48 rfl rfl rfl b10) ?_
    refine WL.yld rfl (blt rfl) rfl (Y.loadS (cs := [_, _, _, _]) rfl Tryd.underlying48 rfl ti48 rfl (Ls.part_eq (h_s.ext xW) b10 rfl)) ?_
    refine WL.alloc rfl (blt rfl) rfl rfl ti48 rfl ?_
    intro g11 w12 e13 x14 m15
    have o_g11 := own_new xW e13
    have xW := Ext.trans xW x14
    refine WL.yld rfl (blt rfl) rfl (Y.assign rfl rfl) ?_
    refine WL.store (cs' := [_, _, _, _]) rfl rfl rfl rfl rfl rfl ti48 m15 (ble rfl) rfl rfl (fun w16 on17 m18 => ?_)
    have xW := Ext.only xW on17 o_g11
    refine WL.nil ?_
    refine WK.then_normal (k9 _ _ ?_)
    refine WC.sub [(0, _), (3, _), (4, _), (6, _), (7, _), (8, _)] ⟨rfl, rfl, rfl, rfl, rfl, rfl, trivial⟩ ?_
    refine WC.seq (fun K19 k19 => ?_)
    refine WC.seq (fun K20 k20 => ?_)
    refine WC.region rfl ?_
    refine WL.yld rfl (blt rfl) rfl (Y.loadS rfl Tryd.underlying48 rfl ti48 rfl (Blk.row_eq m18)) ?_
    refine WL.call rfl (blt rfl) rfl rfl rfl has32 rfl (good_any _ _ ) ?_
    rintro _ w21 ⟨rfl, x22⟩
    refine ⟨_, rfl, ?_⟩
    have m18 := m18.ext x22
    have xW := Ext.trans xW x22
    refine WL.yld rfl (blt rfl) rfl (Y.not rfl rfl) ?_
    refine WL.nil ?_
    refine WK.then_normal (k20 _ _ ?_)
    refine WC.sub [(0, _), (3, _), (4, _), (6, _), (7, _), (8, _), (15, _)] ⟨rfl, rfl, rfl, rfl, rfl, rfl, rfl, trivial⟩ ?_
    refine WC.cond rfl (fun h23 => ?_) (fun h23 => ?_)
    ·
      refine WC.seq (fun K24 k24 => ?_)
      refine WC.region rfl ?_
      refine WL.yld rfl (blt rfl) rfl (Y.assign rfl rfl) ?_
      refine WL.nil ?_
      refine WK.then_normal (k24 _ _ ?_)
      refine WC.sub [(2, _)] ⟨rfl, trivial⟩ ?_
      refine WC.ret ?_
      refine WK.then_ret ?_
      refine WK.in_ret ?_
      refine WK.then_ret ?_
      refine WK.then_ret ?_
      refine WK.in_ret ?_
      refine WK.then_ret ?_
      clear k1 k2 k3 k5 k6 k8 k9 k19 k20 k24
      refine WK.ret [_] rfl ⟨rfl, trivial⟩ ?_
      exact ⟨ret1 (vi (Sy.smp_hit (show i < s.length from by omega) inv_i (Sy.smp1_bad (by have q := h23; simpa using q)) (by decide)).symm), xW⟩
    ·
      refine WC.skip ?_
      refine WK.then_normal (k19 _ _ ?_)
      refine WC.sub [(0, _), (3, _), (4, _), (6, _), (7, _), (8, _)] ⟨rfl, rfl, rfl, rfl, rfl, rfl, trivial⟩ ?_
      refine WC.seq (fun K25 k25 => ?_)
      refine WC.seq (fun K26 k26 => ?_)
      refine WC.region rfl ?_
      refine WL.yld rfl (blt rfl) rfl (Y.fieldAddr rfl Tryd.underlying48 rfl ti46 (by decide) rfl) ?_
      refine WL.yld rfl (blt rfl) rfl (Y.load1 rfl Tryd.underlying46 rfl rfl (Blk.at_eq m18 rfl)) ?_
      refine WL.call rfl (blt rfl) rfl rfl rfl has33 rfl (frames_any _ _ _ _ _ ((g_s _ (bang_mem (show i < s.length from by omega))).ext xW)) ?_
      rintro _ w27 ⟨rfl, x28⟩
      refine ⟨_, rfl, ?_⟩
      have m18 := m18.ext x28
      have xW := Ext.trans xW x28
      refine WL.yld rfl (blt rfl) rfl (Y.assign rfl rfl) ?_
      refine WL.nil ?_
      refine WK.then_normal (k26 _ _ ?_)
      refine WC.sub [(0, _), (3, _), (4, _), (5, _), (6, _), (7, _), (8, _)] ⟨rfl, rfl, rfl, rfl, rfl, rfl, rfl, trivial⟩ ?_
      refine WC.seq (fun K29 k29 => ?_)
      refine WC.region rfl ?_
      refine WL.yld rfl (blt rfl) rfl (Y.move rfl rfl) ?_
      refine WL.yld rfl (blt rfl) rfl (Y.neq rfl rfl rfl) ?_
      refine WL.nil ?_
      refine WK.then_normal (k29 _ _ ?_)
      refine WC.sub [(0, _), (3, _), (4, _), (5, _), (6, _), (7, _), (8, _), (20, _)] ⟨rfl, rfl, rfl, rfl, rfl, rfl, rfl, rfl, trivial⟩ ?_
      refine WC.cond rfl (fun h30 => ?_) (fun h30 => ?_)
      ·
        have p30 := (eq_f (not_t h30))
        refine WC.seq (fun K31 k31 => ?_)
        refine WC.region rfl ?_
        refine WL.yld rfl (blt rfl) rfl (Y.move rfl rfl) ?_
        refine WL.yld rfl (blt rfl) rfl (Y.assign rfl rfl) ?_
        refine WL.nil ?_
        refine WK.then_normal (k31 _ _ ?_)
        refine WC.sub [(2, _)] ⟨rfl, trivial⟩ ?_
        refine WC.ret ?_
        refine WK.then_ret ?_
        refine WK.in_ret ?_
        refine WK.then_ret ?_
        refine WK.then_ret ?_
        refine WK.in_ret ?_
        refine WK.then_ret ?_
        clear k1 k2 k3 k5 k6 k8 k9 k19 k20 k25 k26 k29 k31
        refine WK.ret [_] rfl ⟨rfl, trivial⟩ ?_
        exact ⟨ret1 (vi (Sy.smp_hit (show i < s.length from by omega) inv_i (Sy.smp1_frs (by have q := h23; simpa using q) (by have q := h30; simpa using q)) (by have q := h30; simpa using q)).symm), xW⟩
      ·
        have p30 := (eq_t (not_f h30))
        refine WC.skip ?_
        refine WK.then_normal (k25 _ _ ?_)
        refine WC.sub [(0, _), (3, _), (4, _), (6, _), (7, _), (8, _)] ⟨rfl, rfl, rfl, rfl, rfl, rfl, trivial⟩ ?_
        refine WC.seq (fun K32 k32 => ?_)
        refine WC.regionDq (by kernel_rfl) (by kernel_rfl) rfl ?_
        refine WQ.yld rfl (blt rfl) rfl (Y.move rfl rfl) ?_
        refine WQ.yld rfl (blt rfl) rfl (Y.gtr rfl rfl rfl) ?_
        refine WQ.yld rfl (blt rfl) rfl (Y.move rfl rfl) ?_
        refine WQ.yldG rfl (blt rfl) rfl rfl rfl (fun hb => Y.fieldAddr rfl Tryd.underlying48 rfl ti3 (by decide) rfl) ?_
        refine WQ.yldG rfl (blt rfl) rfl rfl rfl (fun hb => Y.load1 rfl Tryd.underlying3 rfl (evg rfl hb) (Blk.at_ext m18 rfl)) ?_
        refine WQ.yldG rfl (blt rfl) rfl rfl rfl (fun hb => Y.move rfl rfl) ?_
        refine WQ.yldG rfl (blt rfl) rfl rfl rfl (fun hb => Y.move rfl rfl) ?_
        refine WQ.yldG rfl (blt rfl) rfl rfl rfl (fun hb => Y.sub rfl (evg rfl hb) rfl (wrap_i64 (by have q0 := (dec_t hb); first | omega | (dsimp only; omega)))) ?_
        refine WQ.yldG rfl (blt rfl) rfl rfl rfl (fun hb => Y.indexLs (i - 1) (h_s.ext xW) rfl Tryd.underlying38 ti48 (evg rfl hb) (evg rfl hb) (by have q0 := (dec_t hb); omega) (by have q0 := (dec_t hb); omega)) ?_
        refine WQ.yldG rfl (blt rfl) rfl rfl rfl (fun hb => Y.fieldE rfl Tryd.underlying48 rfl ti3 (by decide) (evg rfl hb)) ?_
        refine WQ.yldG rfl (blt rfl) rfl rfl rfl (fun hb => Y.load1 rfl Tryd.underlying3 rfl (evg rfl hb) (Ls.at_ext (h_s.ext xW) (by have q0 := (dec_t hb); omega) rfl)) ?_
        refine WQ.yldG rfl (blt rfl) rfl rfl rfl (fun hb => Y.lss rfl (evg rfl hb) (evg rfl hb)) ?_
        refine WQ.yld rfl (blt rfl) rfl (Y.and rfl rfl rfl rfl) ?_
        refine WQ.done (fun w33 x34 => ?_)
        have m18 := m18.ext x34
        have xW := Ext.trans xW x34
        refine WK.then_normal (k32 _ _ ?_)
        refine WC.sub [(0, _), (6, _), (7, _), (8, _), (34, _)] ⟨rfl, rfl, rfl, rfl, rfl, trivial⟩ ?_
        refine WC.cond rfl (fun h35 => ?_) (fun h35 => ?_)
        ·
          have p35 := (And.intro (dec_t (and_t h35).1) (dec_t (and_t h35).2))
          refine WC.seq (fun K36 k36 => ?_)
          refine WC.region rfl ?_
          refine WL.yld rfl (blt rfl) rfl (Y.assign rfl rfl) ?_
          refine WL.nil ?_
          refine WK.then_normal (k36 _ _ ?_)
          refine WC.sub [(2, _)] ⟨rfl, trivial⟩ ?_
          refine WC.ret ?_
          refine WK.in_ret ?_
          refine WK.then_ret ?_
          refine WK.then_ret ?_
          refine WK.in_ret ?_
          refine WK.then_ret ?_
          clear k1 k2 k3 k5 k6 k8 k9 k19 k20 k25 k26 k29 k32 k36
          refine WK.ret [_] rfl ⟨rfl, trivial⟩ ?_
          exact ⟨ret1 (vi (Sy.smp_hit (show i < s.length from by omega) inv_i (Sy.smp1_ord (by have q := h23; simpa using q) (by have q := h30; simpa using q) (by have q := h35; simp only [Bool.and_eq_true, decide_eq_true_eq] at q; omega)) (by decide)).symm), xW⟩
        ·
          have p35 := ((and_f h35).imp (fun h => (dec_f h)) (fun h => (dec_f h)))
          refine WC.skip ?_
          refine WK.in_normal ?_
          refine WK.then_normal (k8 _ _ ?_)
          refine WC.sub [(0, _), (6, _), (7, _), (8, _)] ⟨rfl, rfl, rfl, rfl, trivial⟩ ?_
          refine WC.region rfl ?_
          refine WL.yld rfl (blt rfl) rfl (Y.add rfl rfl rfl (wrap_i64 (by first | omega | (dsimp only; omega)))) ?_
          refine WL.yld rfl (blt rfl) rfl (Y.move rfl rfl) ?_
          refine WL.nil ?_
          refine WK.roundS _ [(8, .int .i64 (((i + 1) : Nat) : Int))] ⟨rfl, rfl, rfl, rfl, trivial⟩ ?_ ⟨(i + 1), rfl, rfl, xW, (by omega), (fun j hj => by rcases Nat.lt_succ_iff_lt_or_eq.1 hj with h | h; exact inv_i j h; subst h; exact (Sy.smp1_ok (by have q := h23; simpa using q) (by have q := h30; simpa using q) (by have q := h35; simp only [Bool.and_eq_false_iff, decide_eq_false_iff_not] at q; omega)))⟩
          show _ - (i + 1) < _ - i; omega
  ·
    have p7 := (dec_f h7)
    refine WC.exit ?_
    refine WK.then_exit ?_
    refine WK.then_exit ?_
    refine WK.in_exit ?_
    refine WK.then_normal (k2 _ _ ?_)
    refine WC.sub [] trivial ?_
    refine WC.seq (fun K37 k37 => ?_)
    refine WC.region rfl ?_
    refine WL.yld rfl (blt rfl) rfl (Y.assign rfl rfl) ?_
    refine WL.nil ?_
    refine WK.then_normal (k37 _ _ ?_)
    refine WC.ret ?_
    clear k1 k2 k3 k5 k6 k37
    refine WK.ret [_] rfl ⟨rfl, trivial⟩ ?_
    exact ⟨ret1 (vi (Sy.smp_ok fun j hj => inv_i j (by omega)).symm), xW⟩
theorem rpcheck_any (A_s : Option Addr) (n_s c_s : Nat) (s : List Sy.P) (w : World) (h_s : Ls w A_s n_s c_s Sy.P.v 4 s) (g_s : Sy.GoodP w s) :
    Calls Tryd.prog 30 #[.slice A_s n_s c_s] w fun e w' => e = .returned (.int .i64 (Sy.smpE s)) ∧ Ext w w' := by
  have xW := Ext.refl w
  have e_s := h_s.len
  have z_s := h_s.nle
  refine calls_of_WC (args := [.slice A_s n_s c_s]) Tryd.func30 rfl rfl (ble rfl) ?_
  refine WC.seq (fun K1 k1 => ?_)
  refine WC.region rfl ?_
  refine WL.yld rfl (blt rfl) rfl (Y.assign rfl rfl) ?_
  refine WL.nil ?_
  refine WK.then_normal (k1 _ _ ?_)
  refine WC.sub [(0, _)] ⟨rfl, trivial⟩ ?_
  refine WC.seq (fun K2 k2 => ?_)
  refine WC.seq (fun K3 k3 => ?_)
  refine WC.region rfl ?_
  refine WL.yld rfl (blt rfl) rfl (Y.assign rfl rfl) ?_
  refine WL.nil ?_
  refine WK.then_normal (k3 _ _ ?_)
  refine WC.block ?_
  refine WC.sub [(3, _), (0, _)] ⟨rfl, rfl, trivial⟩ ?_
  refine WC.loopS 1 (fun mz Ed W' => ∃ i : Nat, mz = n_s - i ∧ Ed = [(3, .int .i64 ((i : Nat) : Int))] ∧ Ext w W' ∧ (i ≤ n_s) ∧ (∀ j, j < i → Sy.smp1 s j = 0)) _ ⟨0, rfl, rfl, xW, (Nat.zero_le _), (fun j hj => absurd hj (Nat.not_lt_zero j))⟩ ?_
  rintro _ _ w4 ⟨i, rfl, rfl, xW, le_i, inv_i⟩
  refine WC.sub [(3, _), (0, _)] ⟨rfl, rfl, trivial⟩ ?_
  refine WC.seq (fun K5 k5 => ?_)
  refine WC.seq (fun K6 k6 => ?_)
  refine WC.region rfl ?_
  refine WL.yld rfl (blt rfl) rfl (Y.move rfl rfl) ?_
  refine WL.yld rfl (blt rfl) rfl (Y.move rfl rfl) ?_
  refine WL.yld rfl (blt rfl) rfl (Y.lenSl rfl rfl rfl Tryd.underlying38 rfl) ?_
  refine WL.yld rfl (blt rfl) rfl (Y.lss rfl rfl rfl) ?_
  refine WL.nil ?_
  refine WK.then_normal (k6 _ _ ?_)
  refine WC.sub [(0, _), (3, _), (8, _)] ⟨rfl, rfl, rfl, trivial⟩ ?_
  refine WC.cond rfl (fun h7 => ?_) (fun h7 => ?_)
  ·
    have p7 := (dec_t h7)
    refine WC.skip ?_
    refine WK.then_normal (k5 _ _ ?_)
    refine WC.sub [(0, _), (3, _)] ⟨rfl, rfl, trivial⟩ ?_
    refine WC.seq (fun K8 k8 => ?_)
    refine WC.block ?_
    refine WC.seq (fun K9 k9 => ?_)
    refine WC.seq (fun K10 k10 => ?_)
    refine WC.region rfl ?_
    refine WL.yld rfl (blt rfl) rfl (Y.move rfl rfl) ?_
    refine WL.yld rfl (blt rfl) rfl (Y.move rfl rfl) ?_
    have b11 : i < n_s := by omega
    refine WL.yld rfl (blt rfl) rfl (Y.indexLs i (h_s.ext xW) rfl Tryd.underlying38 ti48 rfl rfl rfl b11) ?_
    refine WL.yld rfl (blt rfl) rfl (Y.loadS (cs := [_, _, _, _]) rfl Tryd.underlying48 rfl ti48 rfl (Ls.part_eq (h_s.ext xW) b11 rfl)) ?_
    refine WL.call rfl (blt rfl) rfl rfl rfl has42 rfl (inr_any _ _ ) ?_
    rintro _ w12 ⟨rfl, x13⟩
    refine ⟨_, rfl, ?_⟩
    have xW := Ext.trans xW x13
    refine WL.yld rfl (blt rfl) rfl (Y.not rfl rfl) ?_
    refine WL.nil ?_
    refine WK.then_normal (k10 _ _ ?_)
    refine WC.sub [(0, _), (3, _), (16, _)] ⟨rfl, rfl, rfl, trivial⟩ ?_
    refine WC.cond rfl (fun h14 => ?_) (fun h14 => ?_)
    ·
      refine WC.seq (fun K15 k15 => ?_)
      refine WC.region rfl ?_
      refine WL.yld rfl (blt rfl) rfl (Y.assign rfl rfl) ?_
      refine WL.nil ?_
      refine WK.then_normal (k15 _ _ ?_)
      refine WC.sub [(2, _)] ⟨rfl, trivial⟩ ?_
      refine WC.ret ?_
      refine WK.then_ret ?_
      refine WK.in_ret ?_
      refine WK.then_ret ?_
      refine WK.then_ret ?_
      refine WK.in_ret ?_
      refine WK.then_ret ?_
      clear k1 k2 k3 k5 k6 k8 k9 k10 k15
      refine WK.ret [_] rfl ⟨rfl, trivial⟩ ?_
      exact ⟨ret1 (vi (Sy.smp_hit (show i < s.length from by omega) inv_i (Sy.smp1_bad (by have q := h14; simpa using q)) (by decide)).symm), xW⟩
    ·
      refine WC.skip ?_
      refine WK.then_normal (k9 _ _ ?_)
      refine WC.sub [(0, _), (3, _)] ⟨rfl, rfl, trivial⟩ ?_
      refine WC.seq (fun K16 k16 => ?_)
      refine WC.region rfl ?_
      refine WL.yld rfl (blt rfl) rfl (Y.move rfl rfl) ?_
      refine WL.yld rfl (blt rfl) rfl (Y.move rfl rfl) ?_
      have b17 : i < n_s := by omega
      refine WL.yld rfl (blt rfl) rfl (Y.indexLs i (h_s.ext xW) rfl Tryd.underlying38 ti48 rfl rfl rfl b17) ?_
      refine WL.yld rfl (blt rfl) rfl (Y.fieldE rfl Tryd.underlying48 rfl ti46 (by decide) rfl) ?_
      refine WL.yld rfl (blt rfl) rfl (Y.load1 rfl Tryd.underlying46 rfl rfl (Ls.at_eq (h_s.ext xW) b17 rfl)) ?_
      refine WL.call rfl (blt rfl) rfl rfl rfl has43 rfl (rframes_any _ _ _ _ _ ((g_s _ (bang_mem (show i < s.length from by omega))).ext xW)) ?_
      rintro _ w18 ⟨rfl, x19⟩
      refine ⟨_, rfl, ?_⟩
      have xW := Ext.trans xW x19
      refine WL.yld rfl (blt rfl) rfl (Y.assign rfl rfl) ?_
      refine WL.nil ?_
      refine WK.then_normal (k16 _ _ ?_)
      refine WC.sub [(0, _), (3, _), (4, _)] ⟨rfl, rfl, rfl, trivial⟩ ?_
      refine WC.seq (fun K20 k20 => ?_)
      refine WC.seq (fun K21 k21 => ?_)
      refine WC.region rfl ?_
      refine WL.yld rfl (blt rfl) rfl (Y.move rfl rfl) ?_
      refine WL.yld rfl (blt rfl) rfl (Y.neq rfl rfl rfl) ?_
      refine WL.nil ?_
      refine WK.then_normal (k21 _ _ ?_)
      refine WC.sub [(0, _), (3, _), (4, _), (24, _)] ⟨rfl, rfl, rfl, rfl, trivial⟩ ?_
      refine WC.cond rfl (fun h22 => ?_) (fun h22 => ?_)
      ·
        have p22 := (eq_f (not_t h22))
        refine WC.seq (fun K23 k23 => ?_)
        refine WC.region rfl ?_
        refine WL.yld rfl (blt rfl) rfl (Y.move rfl rfl) ?_
        refine WL.yld rfl (blt rfl) rfl (Y.assign rfl rfl) ?_
        refine WL.nil ?_
        refine WK.then_normal (k23 _ _ ?_)
        refine WC.sub [(2, _)] ⟨rfl, trivial⟩ ?_
        refine WC.ret ?_
        refine WK.then_ret ?_
        refine WK.in_ret ?_
        refine WK.then_ret ?_
        refine WK.then_ret ?_
        refine WK.in_ret ?_
        refine WK.then_ret ?_
        clear k1 k2 k3 k5 k6 k8 k9 k10 k16 k20 k21 k23
        refine WK.ret [_] rfl ⟨rfl, trivial⟩ ?_
        exact ⟨ret1 (vi (Sy.smp_hit (show i < s.length from by omega) inv_i (Sy.smp1_frs (by have q := h14; simpa using q) (by have q := h22; simpa using q)) (by have q := h22; simpa using q)).symm), xW⟩
      ·
        have p22 := (eq_t (not_f h22))
        refine WC.skip ?_
        refine WK.then_normal (k20 _ _ ?_)
        refine WC.sub [(0, _), (3, _)] ⟨rfl, rfl, trivial⟩ ?_
        refine WC.seq (fun K24 k24 => ?_)
        refine WC.regionDq (by kernel_rfl) (by kernel_rfl) rfl ?_
        refine WQ.yld rfl (blt rfl) rfl (Y.move rfl rfl) ?_
        refine WQ.yld rfl (blt rfl) rfl (Y.gtr rfl rfl rfl) ?_
        refine WQ.yld rfl (blt rfl) rfl (Y.move rfl rfl) ?_
        refine WQ.yldG rfl (blt rfl) rfl rfl rfl (fun hb => Y.move rfl rfl) ?_
        refine WQ.yldG rfl (blt rfl) rfl rfl rfl (fun hb => Y.move rfl rfl) ?_
        refine WQ.yldG rfl (blt rfl) rfl rfl rfl (fun hb => Y.indexLs i (h_s.ext xW) rfl Tryd.underlying38 ti48 (evg rfl hb) (evg rfl hb) rfl (by have q0 := (dec_t hb); omega)) ?_
        refine WQ.yldG rfl (blt rfl) rfl rfl rfl (fun hb => Y.fieldE rfl Tryd.underlying48 rfl ti3 (by decide) (evg rfl hb)) ?_
        refine WQ.yldG rfl (blt rfl) rfl rfl rfl (fun hb => Y.load1 rfl Tryd.underlying3 rfl (evg rfl hb) (Ls.at_ext (h_s.ext xW) (by have q0 := (dec_t hb); omega) rfl)) ?_
        refine WQ.yldG rfl (blt rfl) rfl rfl rfl (fun hb => Y.move rfl rfl) ?_
        refine WQ.yldG rfl (blt rfl) rfl rfl rfl (fun hb => Y.move rfl rfl) ?_
        refine WQ.yldG rfl (blt rfl) rfl rfl rfl (fun hb => Y.sub rfl (evg rfl hb) rfl (wrap_i64 (by have q0 := (dec_t hb); first | omega | (dsimp only; omega)))) ?_
        refine WQ.yldG rfl (blt rfl) rfl rfl rfl (fun hb => Y.indexLs (i - 1) (h_s.ext xW) rfl Tryd.underlying38 ti48 (evg rfl hb) (evg rfl hb) (by have q0 := (dec_t hb); omega) (by have q0 := (dec_t hb); omega)) ?_
        refine WQ.yldG rfl (blt rfl) rfl rfl rfl (fun hb => Y.fieldE rfl Tryd.underlying48 rfl ti3 (by decide) (evg rfl hb)) ?_
        refine WQ.yldG rfl (blt rfl) rfl rfl rfl (fun hb => Y.load1 rfl Tryd.underlying3 rfl (evg rfl hb) (Ls.at_ext (h_s.ext xW) (by have q0 := (dec_t hb); omega) rfl)) ?_
        refine WQ.yldG rfl (blt rfl) rfl rfl rfl (fun hb => Y.lss rfl (evg rfl hb) (evg rfl hb)) ?_
        refine WQ.yld rfl (blt rfl) rfl (Y.and rfl rfl rfl rfl) ?_
        refine WQ.done (fun w25 x26 => ?_)
        have xW := Ext.trans xW x26
        refine WK.then_normal (k24 _ _ ?_)
        refine WC.sub [(0, _), (3, _), (41, _)] ⟨rfl, rfl, rfl, trivial⟩ ?_
        refine WC.cond rfl (fun h27 => ?_) (fun h27 => ?_)
        ·
          have p27 := (And.intro (dec_t (and_t h27).1) (dec_t (and_t h27).2))
          refine WC.seq (fun K28 k28 => ?_)
          refine WC.region rfl ?_
          refine WL.yld rfl (blt rfl) rfl (Y.assign rfl rfl) ?_
          refine WL.nil ?_
          refine WK.then_normal (k28 _ _ ?_)
          refine WC.sub [(2, _)] ⟨rfl, trivial⟩ ?_
          refine WC.ret ?_
          refine WK.in_ret ?_
          refine WK.then_ret ?_
          refine WK.then_ret ?_
          refine WK.in_ret ?_
          refine WK.then_ret ?_
          clear k1 k2 k3 k5 k6 k8 k9 k10 k16 k20 k21 k24 k28
          refine WK.ret [_] rfl ⟨rfl, trivial⟩ ?_
          exact ⟨ret1 (vi (Sy.smp_hit (show i < s.length from by omega) inv_i (Sy.smp1_ord (by have q := h14; simpa using q) (by have q := h22; simpa using q) (by have q := h27; simp only [Bool.and_eq_true, decide_eq_true_eq] at q; omega)) (by decide)).symm), xW⟩
        ·
          have p27 := ((and_f h27).imp (fun h => (dec_f h)) (fun h => (dec_f h)))
          refine WC.skip ?_
          refine WK.in_normal ?_
          refine WK.then_normal (k8 _ _ ?_)
          refine WC.sub [(0, _), (3, _)] ⟨rfl, rfl, trivial⟩ ?_
          refine WC.region rfl ?_
          refine WL.yld rfl (blt rfl) rfl (Y.move rfl rfl) ?_
          refine WL.yld rfl (blt rfl) rfl (Y.add rfl rfl rfl (wrap_i64 (by first | omega | (dsimp only; omega)))) ?_
          refine WL.yld rfl (blt rfl) rfl (Y.assign rfl rfl) ?_
          refine WL.nil ?_
          refine WK.roundS _ [(3, .int .i64 (((i + 1) : Nat) : Int))] ⟨rfl, rfl, trivial⟩ ?_ ⟨(i + 1), rfl, rfl, xW, (by omega), (fun j hj => by rcases Nat.lt_succ_iff_lt_or_eq.1 hj with h | h; exact inv_i j h; subst h; exact (Sy.smp1_ok (by have q := h14; simpa using q) (by have q := h22; simpa using q) (by have q := h27; simp only [Bool.and_eq_false_iff, decide_eq_false_iff_not] at q; omega)))⟩
          show _ - (i + 1) < _ - i; omega
  ·
    have p7 := (dec_f h7)
    refine WC.exit ?_
    refine WK.then_exit ?_
    refine WK.then_exit ?_
    refine WK.in_exit ?_
    refine WK.then_normal (k2 _ _ ?_)
    refine WC.sub [] trivial ?_
    refine WC.seq (fun K29 k29 => ?_)
    refine WC.region rfl ?_
    refine WL.yld rfl (blt rfl) rfl (Y.assign rfl rfl) ?_
    refine WL.nil ?_
    refine WK.then_normal (k29 _ _ ?_)
    refine WC.ret ?_
    clear k1 k2 k3 k5 k6 k29
    refine WK.ret [_] rfl ⟨rfl, trivial⟩ ?_
    exact ⟨ret1 (vi (Sy.smp_ok fun j hj => inv_i j (by omega)).symm), xW⟩
theorem all_any (x : Sy.P) (w : World) :
    Calls Tryd.prog 35 #[.agg #[.int .i64 x.th, .int .i64 x.at_, .int .i64 x.wt, .slice x.A x.n x.c]] w fun e w' => e = .returned (.bool true) ∧ Ext w w' := by
  have xW := Ext.refl w
  refine calls_of_WC (args := [.agg #[.int .i64 x.th, .int .i64 x.at_, .int .i64 x.wt, .slice x.A x.n x.c]]) Tryd.func35 rfl rfl (ble rfl) ?_
  refine WC.seq (fun K1 k1 => ?_)
  refine WC.region rfl ?_
  refine WL.box rfl (blt rfl) rfl rfl rfl rfl ?_
  intro g2 w3 e4 x5 m6
  have o_g2 := own_new xW e4
  have xW := Ext.trans xW x5
  refine WL.yld rfl (blt rfl) rfl (Y.assign rfl rfl) ?_
  refine WL.nil ?_
  refine WK.then_normal (k1 _ _ ?_)
  refine WC.sub [] trivial ?_
  refine WC.seq (fun K7 k7 => ?_)
  refine WC.region rfl ?_
  refine WL.yld rfl (blt rfl) rfl (Y.assign rfl rfl) ?_
  refine WL.nil ?_
  refine WK.then_normal (k7 _ _ ?_)
  refine WC.ret ?_
  clear k1 k7
  refine WK.ret [_] rfl ⟨rfl, trivial⟩ ?_
  exact ⟨rfl, xW⟩
theorem weigh_any (A_s : Option Addr) (n_s c_s : Nat) (s : List Sy.P)  (w : World) (h_s : Ls w A_s n_s c_s Sy.P.v 4 s) (g_s : Sy.GoodP w s) :
    Calls Tryd.prog 34 #[.slice A_s n_s c_s, .func (.func 35) #[] #[]] w fun e w' => e = .returned (.int .i64 (Sy.totP s s.length)) ∧ Ext w w' := by
  have xW := Ext.refl w
  have e_s := h_s.len
  have z_s := h_s.nle
  refine calls_of_WC (args := [.slice A_s n_s c_s, .func (.func 35) #[] #[]]) Tryd.func34 rfl rfl (ble rfl) ?_
  refine WC.seq (fun K1 k1 => ?_)
  refine WC.region rfl ?_
  refine WL.yld rfl (blt rfl) rfl (Y.assign rfl rfl) ?_
  refine WL.nil ?_
  refine WK.then_normal (k1 _ _ ?_)
  refine WC.sub [(0, _), (1, _)] ⟨rfl, rfl, trivial⟩ ?_
  refine WC.seq (fun K2 k2 => ?_)
  refine WC.region rfl ?_
  refine WL.yld rfl (blt rfl) rfl (Y.assign rfl rfl) ?_
  refine WL.nil ?_
  refine WK.then_normal (k2 _ _ ?_)
  refine WC.seq (fun K3 k3 => ?_)
  refine WC.seq (fun K4 k4 => ?_)
  refine WC.region rfl ?_
  refine WL.yld rfl (blt rfl) rfl (Y.move rfl rfl) ?_
  refine WL.yld rfl (blt rfl) rfl (Y.lenSl rfl rfl rfl Tryd.underlying38 rfl) ?_
  refine WL.yld rfl (blt rfl) rfl (Y.move rfl rfl) ?_
  refine WL.nil ?_
  refine WK.then_normal (k4 _ _ ?_)
  refine WC.sub [(1, _), (5, _), (8, _), (9, _), (10, _)] ⟨rfl, rfl, rfl, rfl, rfl, trivial⟩ ?_
  refine WC.block ?_
  refine WC.sub [(10, _), (5, _), (1, _), (8, _), (9, _)] ⟨rfl, rfl, rfl, rfl, rfl, trivial⟩ ?_
  refine WC.loopS 2 (fun mz Ed W' => ∃ i : Nat, ∃ z : Int, mz = n_s - i ∧ Ed = [(10, .int .i64 ((i : Nat) : Int)), (5, .int .i64 z)] ∧ Ext w W' ∧ (i ≤ n_s) ∧ (z = Sy.totP s i)) _ ⟨0, 0, rfl, rfl, xW, (Nat.zero_le _), rfl⟩ ?_
  rintro _ _ w5 ⟨i, z, rfl, rfl, xW, le_i, zi⟩
  refine WC.sub [(10, _), (5, _), (1, _), (8, _), (9, _)] ⟨rfl, rfl, rfl, rfl, rfl, trivial⟩ ?_
  refine WC.seq (fun K6 k6 => ?_)
  refine WC.region rfl ?_
  refine WL.yld rfl (blt rfl) rfl (Y.lss rfl rfl rfl) ?_
  refine WL.nil ?_
  refine WK.then_normal (k6 _ _ ?_)
  refine WC.seq (fun K7 k7 => ?_)
  refine WC.cond rfl (fun h8 => ?_) (fun h8 => ?_)
  ·
    have p8 := (dec_t h8)
    have tr := Sy.totP_rng s i
    have okr : Sy.okP s[i]! = true → 1 ≤ s[i]!.wt ∧ s[i]!.wt ≤ 1000000000000 := fun h => by have := Sy.okP_rng h; omega
    refine WC.skip ?_
    refine WK.then_normal (k7 _ _ ?_)
    refine WC.sub [(1, _), (5, _), (8, _), (9, _), (10, _)] ⟨rfl, rfl, rfl, rfl, rfl, trivial⟩ ?_
    refine WC.seq (fun K9 k9 => ?_)
    refine WC.block ?_
    refine WC.seq (fun K10 k10 => ?_)
    refine WC.region rfl ?_
    have b11 : i < n_s := by omega
    refine WL.yld rfl (blt rfl) rfl (Y.indexLs i (h_s.ext xW) rfl Tryd.underlying38 ti48 rfl rfl rfl b11) ?_
    refine WL.yld rfl (blt rfl) rfl (Y.loadS (cs := [_, _, _, _]) rfl Tryd.underlying48 rfl ti48 rfl (Ls.part_eq (h_s.ext xW) b11 rfl)) ?_
    refine WL.alloc rfl (blt rfl) rfl rfl ti48 rfl ?_
    intro g12 w13 e14 x15 m16
    have o_g12 := own_new xW e14
    have xW := Ext.trans xW x15
    refine WL.store (cs' := [_, _, _, _]) rfl rfl rfl rfl rfl rfl ti48 m16 (ble rfl) rfl rfl (fun w17 on18 m19 => ?_)
    have xW := Ext.only xW on18 o_g12
    refine WL.nil ?_
    refine WK.then_normal (k10 _ _ ?_)
    refine WC.sub [(1, _), (5, _), (7, _), (8, _), (9, _), (10, _)] ⟨rfl, rfl, rfl, rfl, rfl, rfl, trivial⟩ ?_
    refine WC.seq (fun K20 k20 => ?_)
    refine WC.region rfl ?_
    refine WL.yld rfl (blt rfl) rfl (Y.loadS rfl Tryd.underlying48 rfl ti48 rfl (Blk.row_eq m19)) ?_
    refine WL.call rfl (blt rfl) rfl rfl rfl has32 rfl (good_any _ _ ) ?_
    rintro _ w21 ⟨rfl, x22⟩
    refine ⟨_, rfl, ?_⟩
    have m19 := m19.ext x22
    have xW := Ext.trans xW x22
    refine WL.yld rfl (blt rfl) rfl (Y.move rfl rfl) ?_
    refine WL.split (t := 16) rfl (fun h23 => ?_) (fun h23 => ?_)
    ·
      refine WL.yldW rfl (blt rfl) rfl rfl rfl (Y.move rfl rfl) ?_
      refine WL.yldW rfl (blt rfl) rfl rfl rfl (Y.loadS rfl Tryd.underlying48 rfl ti48 rfl (Blk.row_eq m19)) ?_
      refine WL.guarded rfl rfl rfl ?_
      refine WL.callF rfl (blt rfl) rfl rfl rfl rfl has35 rfl (all_any _ _ ) ?_
      rintro _ w24 ⟨rfl, x25⟩
      refine ⟨_, rfl, ?_⟩
      have m19 := m19.ext x25
      have xW := Ext.trans xW x25
      refine WL.yld rfl (blt rfl) rfl (Y.pickT rfl rfl rfl) ?_
      refine WL.nil ?_
      refine WK.then_normal (k20 _ _ ?_)
      refine WC.sub [(1, _), (5, _), (7, _), (8, _), (9, _), (10, _), (20, _)] ⟨rfl, rfl, rfl, rfl, rfl, rfl, rfl, trivial⟩ ?_
      refine WC.condT rfl ?_
      refine WC.region rfl ?_
      refine WL.yld rfl (blt rfl) rfl (Y.move rfl rfl) ?_
      refine WL.yld rfl (blt rfl) rfl (Y.fieldAddr rfl Tryd.underlying48 rfl ti3 (by decide) rfl) ?_
      refine WL.yld rfl (blt rfl) rfl (Y.load1 rfl Tryd.underlying3 rfl rfl (Blk.at_eq m19 rfl)) ?_
      refine WL.yld rfl (blt rfl) rfl (Y.add rfl rfl rfl (wrap_i64 (by have ok := okr (by assumption); omega))) ?_
      refine WL.yld rfl (blt rfl) rfl (Y.minI rfl rfl rfl rfl) ?_
      refine WL.yld rfl (blt rfl) rfl (Y.assign rfl rfl) ?_
      refine WL.nil ?_
      refine WK.in_normal ?_
      refine WK.then_normal (k9 _ _ ?_)
      refine WC.sub [(1, _), (5, _), (8, _), (9, _), (10, _)] ⟨rfl, rfl, rfl, rfl, rfl, trivial⟩ ?_
      refine WC.region rfl ?_
      refine WL.yld rfl (blt rfl) rfl (Y.add rfl rfl rfl (wrap_i64 (by first | omega | (dsimp only; omega)))) ?_
      refine WL.yld rfl (blt rfl) rfl (Y.move rfl rfl) ?_
      refine WL.nil ?_
      refine WK.roundS _ [(10, .int .i64 (((i + 1) : Nat) : Int)), (5, .int .i64 _)] ⟨rfl, rfl, rfl, rfl, rfl, trivial⟩ ?_ ⟨(i + 1), _, rfl, rfl, xW, (by omega), (by rw [zi]; exact (Sy.totP_yes h23).symm)⟩
      show _ - (i + 1) < _ - i; omega
    ·
      refine WL.skip rfl (blt rfl) rfl rfl rfl rfl ?_
      refine WL.skip rfl (blt rfl) rfl rfl rfl rfl ?_
      refine WL.skip rfl (blt rfl) rfl rfl rfl rfl ?_
      refine WL.yld rfl (blt rfl) rfl (Y.pickF rfl rfl rfl) ?_
      refine WL.nil ?_
      refine WK.then_normal (k20 _ _ ?_)
      refine WC.sub [(1, _), (5, _), (7, _), (8, _), (9, _), (10, _), (20, _)] ⟨rfl, rfl, rfl, rfl, rfl, rfl, rfl, trivial⟩ ?_
      refine WC.condF rfl ?_
      refine WC.skip ?_
      refine WK.in_normal ?_
      refine WK.then_normal (k9 _ _ ?_)
      refine WC.sub [(1, _), (5, _), (8, _), (9, _), (10, _)] ⟨rfl, rfl, rfl, rfl, rfl, trivial⟩ ?_
      refine WC.region rfl ?_
      refine WL.yld rfl (blt rfl) rfl (Y.add rfl rfl rfl (wrap_i64 (by first | omega | (dsimp only; omega)))) ?_
      refine WL.yld rfl (blt rfl) rfl (Y.move rfl rfl) ?_
      refine WL.nil ?_
      refine WK.roundS _ [(10, .int .i64 (((i + 1) : Nat) : Int)), (5, .int .i64 _)] ⟨rfl, rfl, rfl, rfl, rfl, trivial⟩ ?_ ⟨(i + 1), _, rfl, rfl, xW, (by omega), (by rw [zi]; exact (Sy.totP_no h23).symm)⟩
      show _ - (i + 1) < _ - i; omega
  ·
    have p8 := (dec_f h8)
    refine WC.exit ?_
    refine WK.then_exit ?_
    refine WK.then_exit ?_
    refine WK.in_exit ?_
    refine WK.then_normal (k3 _ _ ?_)
    refine WC.sub [(5, _)] ⟨rfl, trivial⟩ ?_
    refine WC.seq (fun K26 k26 => ?_)
    refine WC.region rfl ?_
    refine WL.yld rfl (blt rfl) rfl (Y.move rfl rfl) ?_
    refine WL.yld rfl (blt rfl) rfl (Y.assign rfl rfl) ?_
    refine WL.nil ?_
    refine WK.then_normal (k26 _ _ ?_)
    refine WC.sub [(4, _)] ⟨rfl, trivial⟩ ?_
    refine WC.ret ?_
    clear k1 k2 k3 k4 k6 k7 k26
    refine WK.ret [_] rfl ⟨rfl, trivial⟩ ?_
    refine ⟨?_, xW⟩
    rw [zi, show i = s.length by omega]; rfl
theorem total_any (A_s : Option Addr) (n_s c_s : Nat) (s : List Sy.P) (w : World) (h_s : Ls w A_s n_s c_s Sy.P.v 4 s) (g_s : Sy.GoodP w s) :
    Calls Tryd.prog 21 #[.slice A_s n_s c_s] w fun e w' => e = .returned (.int .i64 (Sy.totP s s.length)) ∧ Ext w w' := by
  have xW := Ext.refl w
  have e_s := h_s.len
  have z_s := h_s.nle
  refine calls_of_WC (args := [.slice A_s n_s c_s]) Tryd.func21 rfl rfl (ble rfl) ?_
  refine WC.seq (fun K1 k1 => ?_)
  refine WC.region rfl ?_
  refine WL.yld rfl (blt rfl) rfl (Y.assign rfl rfl) ?_
  refine WL.nil ?_
  refine WK.then_normal (k1 _ _ ?_)
  refine WC.sub [(0, _)] ⟨rfl, trivial⟩ ?_
  refine WC.seq (fun K2 k2 => ?_)
  refine WC.region rfl ?_
  refine WL.yld rfl (blt rfl) rfl (Y.move rfl rfl) ?_
  refine WL.call rfl (blt rfl) rfl rfl rfl has34 rfl (weigh_any _ _ _ _ _ (h_s.ext xW) (Sy.GoodP.ext g_s xW)) ?_
  rintro _ w3 ⟨rfl, x4⟩
  refine ⟨_, rfl, ?_⟩
  have xW := Ext.trans xW x4
  refine WL.yld rfl (blt rfl) rfl (Y.assign rfl rfl) ?_
  refine WL.nil ?_
  refine WK.then_normal (k2 _ _ ?_)
  refine WC.sub [(2, _)] ⟨rfl, trivial⟩ ?_
  refine WC.ret ?_
  clear k1 k2
  refine WK.ret [_] rfl ⟨rfl, trivial⟩ ?_
  exact ⟨rfl, xW⟩
theorem clone_any (A_s : Option Addr) (n_s c_s : Nat) (s : List Sy.P) (w : World) (h_s : Ls w A_s n_s c_s Sy.P.v 4 s) (hn : n_s ≤ 40) :
    Calls Tryd.prog 29 #[.slice A_s n_s c_s] w fun e w' => ∃ v, e = .returned v ∧ OwnL w' w.heap.size 48 Sy.P.v 4 v (s) ∧ Ext w w' := by
  have xW := Ext.refl w
  have e_s := h_s.len
  have z_s := h_s.nle
  refine calls_of_WC (args := [.slice A_s n_s c_s]) Tryd.func29 rfl rfl (ble rfl) ?_
  refine WC.seq (fun K1 k1 => ?_)
  refine WC.region rfl ?_
  refine WL.yld rfl (blt rfl) rfl (Y.assign rfl rfl) ?_
  refine WL.nil ?_
  refine WK.then_normal (k1 _ _ ?_)
  refine WC.sub [(0, _)] ⟨rfl, trivial⟩ ?_
  refine WC.seq (fun K2 k2 => ?_)
  refine WC.seq (fun K3 k3 => ?_)
  refine WC.region rfl ?_
  refine WL.yld rfl (blt rfl) rfl (Y.move rfl rfl) ?_
  refine WL.yld rfl (blt rfl) rfl (Y.eqlNilS rfl Tryd.underlying38 rfl) ?_
  refine WL.nil ?_
  refine WK.then_normal (k3 _ _ ?_)
  refine WC.sub [(0, _), (4, _)] ⟨rfl, rfl, trivial⟩ ?_
  refine WC.cond rfl (fun h4 => ?_) (fun h4 => ?_)
  ·
    refine WC.seq (fun K5 k5 => ?_)
    refine WC.region rfl ?_
    refine WL.yld rfl (blt rfl) rfl (Y.assign rfl rfl) ?_
    refine WL.nil ?_
    refine WK.then_normal (k5 _ _ ?_)
    refine WC.sub [(2, _)] ⟨rfl, trivial⟩ ?_
    refine WC.ret ?_
    refine WK.then_ret ?_
    clear k1 k2 k3 k5
    refine WK.ret [_] rfl ⟨rfl, trivial⟩ ?_
    obtain rfl : A_s = none := by simpa using h4
    obtain rfl := none_nil h_s
    exact ⟨_, rfl, OwnL.nil_, xW⟩
  ·
    refine WC.skip ?_
    refine WK.then_normal (k2 _ _ ?_)
    refine WC.sub [(0, _)] ⟨rfl, trivial⟩ ?_
    refine WC.seq (fun K6 k6 => ?_)
    refine WC.region rfl ?_
    refine WL.bslice0 rfl (blt rfl) rfl rfl Tryd.underlying38 ti48 ?_
    intro g7 w8 e9 x10 m11
    have o_g7 := own_new xW e9
    have xW := Ext.trans xW x10
    refine WL.yld rfl (blt rfl) rfl (Y.move rfl rfl) ?_
    have ob12 := Blk.own (sz := 4) (f := Sy.P.v) (l := ([] : List Sy.P)) (base := w.heap.size) m11 o_g7 (fun _ => rfl) rfl (by decide) rfl
    refine WL.appendL (f := Sy.P.v) rfl (blt rfl) rfl rfl rfl rfl Tryd.underlying38 ti48 rfl (by decide) rfl ob12 (fun _ => rfl) Sy.P.one (h_s.ext xW) xW.size (by first | omega | (simp only [List.length_append, List.length_cons, List.length_nil, List.length_take, List.length_drop, List.length_reverse]; omega)) (Nat.le_trans (show _ ≤ 140737488355328 from by first | omega | (simp only [List.length_append, List.length_cons, List.length_nil, List.length_take, List.length_drop, List.length_reverse]; omega)) (by decide)) (fun v13 w14 ow15 gr16 nb17 => ?_)
    have xW := Ext.grown xW gr16 (fun b hb => (OwnL.lt ob12 hb).1)
    refine WL.yld rfl (blt rfl) rfl (Y.assign rfl rfl) ?_
    refine WL.nil ?_
    refine WK.then_normal (k6 _ _ ?_)
    refine WC.sub [(2, _)] ⟨rfl, trivial⟩ ?_
    refine WC.ret ?_
    clear k1 k2 k3 k6
    refine WK.ret [_] rfl ⟨rfl, trivial⟩ ?_
    have q := ow15
    rw [List.nil_append] at q
    exact ⟨_, rfl, q, xW⟩
end S
end SyW

end Go.Proofs.YtghfncgciaiofaaDoor
