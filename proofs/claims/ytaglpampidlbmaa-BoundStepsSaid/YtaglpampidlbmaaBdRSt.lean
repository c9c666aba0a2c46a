/- Contract of the reference: Satisfied. Conditions: what each theorem states. -/
import Derived.Test.YtaglpampidlbmaaBdROf
import Derived.Test.YtaglpampidlbmaaBdM3
namespace Go.Proofs.Ytaglpampidlbmaa
open Go Go.Eng Go.RowKit
set_option linter.unusedVariables false
set_option linter.unusedSimpArgs false
namespace BdW
open N RL NumF LB GR CkW CkW.P CkW.K CkW.R CkW.RP B OF MY RP_ RE RI RL_ RO
namespace RS_
theorem ti3 : TI Try.prog 3 (.int .i64 0) 1 8 := TI.mk (by kernel_rfl)
theorem ti49 : TI Try.prog 49 (.agg #[.int .i64 0, .int .i64 0]) 2 16 := TI.mk (by kernel_rfl)
theorem ti75 : TI Try.prog 75 (.agg #[.int .i64 0, .int .i64 0, .int .i64 0]) 3 24 := TI.mk (by kernel_rfl)
theorem has30 : Has Try.prog 30 := ⟨_, Try.func30, rfl, by kernel_rfl⟩
theorem has31 : Has Try.prog 31 := ⟨_, Try.func31, rfl, by kernel_rfl⟩
theorem has32 : Has Try.prog 32 := ⟨_, Try.func32, rfl, by kernel_rfl⟩
theorem has35 : Has Try.prog 35 := ⟨_, Try.func35, rfl, by kernel_rfl⟩
theorem pl49 : PL Try.prog 49 [.int .i64 0, .int .i64 0] [(0, 1), (1, 1)] := PL.mk (zero := [.int .i64 0, .int .i64 0]) ti49 Try.underlying49 (by kernel_rfl)
theorem eqg49 : Try.prog.eqGuardType Try.prog.depth 49 = false := by kernel_rfl
theorem eq49 (a0 : Int) (a1 : Int) (b0 : Int) (b1 : Int) (w : World) : (Op.equalIn 10000 49 (.agg #[.int .i64 a0, .int .i64 a1]) (.agg #[.int .i64 b0, .int .i64 b1])).run Try.prog w = .ok ((a0 == b0) && (a1 == b1)) w := by
  go_simp
  (repeat' split) <;> simp_all
theorem sat_any (A_d : Option Addr) (n_d c_d : Nat) (d : List Ck.Dom) (A_l : Option Addr) (n_l c_l : Nat) (l : List Ck.Snap) (A_p : Option Addr) (n_p c_p : Nat) (p : List Bd.Key) (A_ts : Option Addr) (n_ts c_ts : Nat) (ts : List Int) (w : World) (h_d : Ls w A_d n_d c_d Ck.Dom.c 2 d) (h_l : Ls w A_l n_l c_l Ck.Snap.c 5 l) (h_p : Ls w A_p n_p c_p Bd.kc 2 p) (h_ts : Ls w A_ts n_ts c_ts Ck.ic 1 ts) (ck : Ck.checkF d l = 0) (hl : n_l ≤ 10) (hn : n_p ≤ 40) :
    Calls Try.prog 18 #[.slice A_d n_d c_d, .slice A_l n_l c_l, .slice A_p n_p c_p, .slice A_ts n_ts c_ts] w fun e w' => ∃ b : Bool, e = .returned (.bool b) ∧ (b = true → Bd.SatP d l p ts) ∧ Ext w w' := by
  have xW := Ext.refl w
  have e_d := h_d.len
  have z_d := h_d.nle
  have e_l := h_l.len
  have z_l := h_l.nle
  have e_p := h_p.len
  have z_p := h_p.nle
  have e_ts := h_ts.len
  have z_ts := h_ts.nle
  have hfew := (Bd.good_of ck).few
  refine calls_of_WC (args := [.slice A_d n_d c_d, .slice A_l n_l c_l, .slice A_p n_p c_p, .slice A_ts n_ts c_ts]) Try.func18 rfl rfl (ble rfl) ?_
  refine WC.seq (fun K1 k1 => ?_)
  refine WC.region rfl ?_
  refine WL.yld rfl (blt rfl) rfl (Y.assign rfl rfl) ?_
  refine WL.nil ?_
  refine WK.then_normal (k1 _ _ ?_)
  refine WC.sub [(0, _), (1, _), (2, _), (3, _)] ⟨rfl, rfl, rfl, rfl, trivial⟩ ?_
  refine WC.seq (fun K2 k2 => ?_)
  refine WC.region rfl ?_
  refine WL.yld rfl (blt rfl) rfl (Y.move rfl rfl) ?_
  refine WL.yld rfl (blt rfl) rfl (Y.move rfl rfl) ?_
  refine WL.yld rfl (blt rfl) rfl (Y.move rfl rfl) ?_
  refine WL.call rfl (blt rfl) rfl rfl rfl has31 rfl (rpts_any _ _ _ _ _ _ _ _ _ _ _ _ _ (h_d.ext xW) (h_l.ext xW) (h_p.ext xW) (by omega) (by omega) (by omega)) ?_
  rintro _ w3 ⟨v5, rfl, ow6, x4⟩
  refine ⟨_, rfl, ?_⟩
  have ow6 := OwnL.base_le ow6 xW.size
  have xW := Ext.trans xW x4
  refine WL.yld rfl (blt rfl) rfl (Y.assign rfl rfl) ?_
  refine WL.nil ?_
  refine WK.then_normal (k2 _ _ ?_)
  refine WC.sub [(0, _), (1, _), (2, _), (3, _), (9, _)] ⟨rfl, rfl, rfl, rfl, rfl, trivial⟩ ?_
  refine WC.seq (fun K7 k7 => ?_)
  refine WC.seq (fun K8 k8 => ?_)
  refine WC.region rfl ?_
  refine WL.yld rfl (blt rfl) rfl (Y.move rfl rfl) ?_
  refine WL.yld rfl (blt rfl) rfl (Y.lenSl rfl rfl rfl Try.underlying45 rfl) ?_
  refine WL.yld rfl (blt rfl) rfl (Y.eql rfl rfl rfl) ?_
  refine WL.yld rfl (blt rfl) rfl (Y.move rfl rfl) ?_
  refine WL.yldG rfl (blt rfl) rfl rfl rfl (fun hb => Y.move rfl rfl) ?_
  refine WL.yldG rfl (blt rfl) rfl rfl rfl (fun hb => Y.indexLs 0 (h_p.ext xW) rfl Try.underlying45 ti49 (evg rfl hb) rfl rfl (by have q0 := (eq_f hb); omega)) ?_
  refine WL.yldG rfl (blt rfl) rfl rfl rfl (fun hb => Y.loadS (cs := [_, _]) rfl Try.underlying49 rfl ti49 (evg rfl hb) (Ls.part_eq (h_p.ext xW) (by have q0 := (eq_f hb); omega) rfl)) ?_
  refine WL.yldG rfl (blt rfl) rfl rfl rfl (fun hb => Y.build (cells := [_, _]) rfl pl49 rfl rfl) ?_
  refine WL.yldG rfl (blt rfl) rfl rfl rfl (fun hb => Y.neqS rfl eqg49 (eq49 _ _ _ _) (evg rfl hb) (evg rfl hb)) ?_
  refine WL.yld rfl (blt rfl) rfl (Y.or rfl rfl rfl rfl) ?_
  refine WL.yld rfl (blt rfl) rfl (Y.move rfl rfl) ?_
  refine WL.yldG rfl (blt rfl) rfl rfl rfl (fun hb => Y.move rfl rfl) ?_
  refine WL.yldG rfl (blt rfl) rfl rfl rfl (fun hb => Y.lenSl rfl rfl rfl Try.underlying45 (evs_cons (evg rfl hb) evs_nil)) ?_
  refine WL.yldG rfl (blt rfl) rfl rfl rfl (fun hb => Y.move rfl rfl) ?_
  obtain ⟨A9, n10, c11, rfl, hl12⟩ := OwnL.opened ow6 (fun _ => rfl) (by decide)
  have e_n10 := hl12.len
  try simp only [List.length_append, List.length_cons, List.length_nil, List.length_reverse, List.length_drop, List.length_take, List.length_map, List.length_replicate, List.length_set] at e_n10
  have z_n10 := hl12.nle
  refine WL.yldG rfl (blt rfl) rfl rfl rfl (fun hb => Y.lenSl rfl rfl rfl Try.underlying45 (evs_cons (evg rfl hb) evs_nil)) ?_
  refine WL.yldG rfl (blt rfl) rfl rfl rfl (fun hb => Y.neq rfl (evg rfl hb) (evg rfl hb)) ?_
  refine WL.yld rfl (blt rfl) rfl (Y.or rfl rfl rfl rfl) ?_
  refine WL.yld rfl (blt rfl) rfl (Y.move rfl rfl) ?_
  refine WL.yldG rfl (blt rfl) rfl rfl rfl (fun hb => Y.move rfl rfl) ?_
  refine WL.yldG rfl (blt rfl) rfl rfl rfl (fun hb => Y.lenSl rfl rfl rfl Try.underlying35 (evs_cons (evg rfl hb) evs_nil)) ?_
  refine WL.yldG rfl (blt rfl) rfl rfl rfl (fun hb => Y.move rfl rfl) ?_
  refine WL.yldG rfl (blt rfl) rfl rfl rfl (fun hb => Y.lenSl rfl rfl rfl Try.underlying45 (evs_cons (evg rfl hb) evs_nil)) ?_
  refine WL.yldG rfl (blt rfl) rfl rfl rfl (fun hb => Y.neq rfl (evg rfl hb) (evg rfl hb)) ?_
  refine WL.yld rfl (blt rfl) rfl (Y.or rfl rfl rfl rfl) ?_
  refine WL.yld rfl (blt rfl) rfl (Y.move rfl rfl) ?_
  refine WL.yldG rfl (blt rfl) rfl rfl rfl (fun hb => Y.move rfl rfl) ?_
  refine WL.yldG rfl (blt rfl) rfl rfl rfl (fun hb => Y.indexLs 0 (h_ts.ext xW) rfl Try.underlying35 ti3 (evg rfl hb) rfl rfl (by have q0 := (And.intro (And.intro (eq_f (or_f (or_f (or_f hb).1).1).1) (eq_t (not_f (or_f (or_f hb).1).2))) (eq_t (not_f (or_f hb).2))); omega)) ?_
  refine WL.yldG rfl (blt rfl) rfl rfl rfl (fun hb => Y.load1 rfl Try.underlying3 rfl (evg rfl hb) (Ls.at_eq (h_ts.ext xW) (by have q0 := (And.intro (And.intro (eq_f (or_f (or_f (or_f hb).1).1).1) (eq_t (not_f (or_f (or_f hb).1).2))) (eq_t (not_f (or_f hb).2))); omega) rfl)) ?_
  refine WL.yldG rfl (blt rfl) rfl rfl rfl (fun hb => Y.neq rfl (evg rfl hb) rfl) ?_
  refine WL.yld rfl (blt rfl) rfl (Y.or rfl rfl rfl rfl) ?_
  refine WL.nil ?_
  refine WK.then_normal (k8 _ _ ?_)
  refine WC.sub [(0, _), (1, _), (2, _), (3, _), (48, _)] ⟨rfl, rfl, rfl, rfl, rfl, trivial⟩ ?_
  refine WC.cond rfl (fun h13 => ?_) (fun h13 => ?_)
  ·
    have p13 := ((or_t h13).imp (fun h => ((or_t h).imp (fun h => ((or_t h).imp (fun h => ((or_t h).imp (fun h => (eq_t h)) (fun h => h))) (fun h => (eq_f (not_t h))))) (fun h => (eq_f (not_t h))))) (fun h => (eq_f (not_t h))))
    refine WC.seq (fun K14 k14 => ?_)
    refine WC.region rfl ?_
    refine WL.yld rfl (blt rfl) rfl (Y.assign rfl rfl) ?_
    refine WL.nil ?_
    refine WK.then_normal (k14 _ _ ?_)
    refine WC.sub [(8, _)] ⟨rfl, trivial⟩ ?_
    refine WC.ret ?_
    refine WK.then_ret ?_
    clear k1 k2 k7 k8 k14
    refine WK.ret [_] rfl ⟨rfl, trivial⟩ ?_
    exact ⟨false, rfl, fun h => (by cases h), xW⟩
  ·
    have p13 := (And.intro (And.intro (And.intro (eq_f (or_f (or_f (or_f (or_f h13).1).1).1).1) (eq_t (not_f (or_f (or_f (or_f h13).1).1).2))) (eq_t (not_f (or_f (or_f h13).1).2))) (eq_t (not_f (or_f h13).2)))
    have hh := Bd.head_ok e_p e_ts e_n10 h13
    refine WC.skip ?_
    refine WK.then_normal (k7 _ _ ?_)
    refine WC.sub [(0, _), (1, _), (2, _), (3, _)] ⟨rfl, rfl, rfl, rfl, trivial⟩ ?_
    refine WC.seq (fun K15 k15 => ?_)
    refine WC.seq (fun K16 k16 => ?_)
    refine WC.region rfl ?_
    refine WL.yld rfl (blt rfl) rfl (Y.assign rfl rfl) ?_
    refine WL.nil ?_
    refine WK.then_normal (k16 _ _ ?_)
    refine WC.block ?_
    refine WC.sub [(10, _), (0, _), (1, _), (2, _), (3, _)] ⟨rfl, rfl, rfl, rfl, rfl, trivial⟩ ?_
    refine WC.loopS 1 (fun mz Ed W' => ∃ i : Nat, mz = n_p - i ∧ Ed = [(10, .int .i64 ((i : Nat) : Int))] ∧ Ext w W' ∧ (1 ≤ i ∧ i ≤ n_p) ∧ (∀ j, 1 ≤ j → j < i → Bd.PtOK d p ts j)) _ ⟨1, rfl, rfl, xW, (by omega), (fun j h1 h2 => by omega)⟩ ?_
    rintro _ _ w17 ⟨i, rfl, rfl, xW, le_i, inv_i⟩
    refine WC.sub [(10, _), (0, _), (1, _), (2, _), (3, _)] ⟨rfl, rfl, rfl, rfl, rfl, trivial⟩ ?_
    refine WC.seq (fun K18 k18 => ?_)
    refine WC.seq (fun K19 k19 => ?_)
    refine WC.region rfl ?_
    refine WL.yld rfl (blt rfl) rfl (Y.move rfl rfl) ?_
    refine WL.yld rfl (blt rfl) rfl (Y.move rfl rfl) ?_
    refine WL.yld rfl (blt rfl) rfl (Y.lenSl rfl rfl rfl Try.underlying45 rfl) ?_
    refine WL.yld rfl (blt rfl) rfl (Y.lss rfl rfl rfl) ?_
    refine WL.nil ?_
    refine WK.then_normal (k19 _ _ ?_)
    refine WC.sub [(0, _), (1, _), (2, _), (3, _), (10, _), (52, _)] ⟨rfl, rfl, rfl, rfl, rfl, rfl, trivial⟩ ?_
    refine WC.cond rfl (fun h20 => ?_) (fun h20 => ?_)
    ·
      have p20 := (dec_t h20)
      refine WC.skip ?_
      refine WK.then_normal (k18 _ _ ?_)
      refine WC.sub [(0, _), (1, _), (2, _), (3, _), (10, _)] ⟨rfl, rfl, rfl, rfl, rfl, trivial⟩ ?_
      refine WC.seq (fun K21 k21 => ?_)
      refine WC.block ?_
      refine WC.seq (fun K22 k22 => ?_)
      refine WC.region rfl ?_
      refine WL.yld rfl (blt rfl) rfl (Y.move rfl rfl) ?_
      refine WL.yld rfl (blt rfl) rfl (Y.move rfl rfl) ?_
      refine WL.yld rfl (blt rfl) rfl (Y.move rfl rfl) ?_
      have b23 : i < n_p := by omega
      refine WL.yld rfl (blt rfl) rfl (Y.indexLs i (h_p.ext xW) rfl Try.underlying45 ti49 rfl rfl rfl b23) ?_
      refine WL.yld rfl (blt rfl) rfl (Y.fieldE rfl Try.underlying49 rfl ti3 (by decide) rfl) ?_
      refine WL.yld rfl (blt rfl) rfl (Y.load1 rfl Try.underlying3 rfl rfl (Ls.at_eq (h_p.ext xW) b23 rfl)) ?_
      refine WL.call rfl (blt rfl) rfl rfl rfl has30 rfl (rppm_any _ _ _ _ _ _ (h_d.ext xW)) ?_
      rintro _ w24 ⟨rfl, x25⟩
      refine ⟨_, rfl, ?_⟩
      have xW := Ext.trans xW x25
      refine WL.yld rfl (blt rfl) rfl (Y.move rfl rfl) ?_
      refine WL.yld rfl (blt rfl) rfl (Y.extract rfl rfl rfl) ?_
      refine WL.yld rfl (blt rfl) rfl (Y.extract rfl rfl rfl) ?_
      refine WL.yld rfl (blt rfl) rfl (Y.assign rfl rfl) ?_
      refine WL.yld rfl (blt rfl) rfl (Y.assign rfl rfl) ?_
      refine WL.nil ?_
      refine WK.then_normal (k22 _ _ ?_)
      refine WC.sub [(0, _), (1, _), (2, _), (3, _), (10, _), (12, _)] ⟨rfl, rfl, rfl, rfl, rfl, rfl, trivial⟩ ?_
      refine WC.seq (fun K26 k26 => ?_)
      refine WC.regionDq (by kernel_rfl) (by kernel_rfl) rfl ?_
      refine WQ.yld rfl (blt rfl) rfl (Y.move rfl rfl) ?_
      refine WQ.yld rfl (blt rfl) rfl (Y.not rfl rfl) ?_
      refine WQ.yld rfl (blt rfl) rfl (Y.move rfl rfl) ?_
      refine WQ.yldG rfl (blt rfl) rfl rfl rfl (fun hb => Y.move rfl rfl) ?_
      refine WQ.yldG rfl (blt rfl) rfl rfl rfl (fun hb => Y.move rfl rfl) ?_
      refine WQ.yldG rfl (blt rfl) rfl rfl rfl (fun hb => Y.indexLs i (h_p.ext xW) rfl Try.underlying45 ti49 (evg rfl hb) (evg rfl hb) rfl (by omega)) ?_
      refine WQ.yldG rfl (blt rfl) rfl rfl rfl (fun hb => Y.fieldE rfl Try.underlying49 rfl ti3 (by decide) (evg rfl hb)) ?_
      refine WQ.yldG rfl (blt rfl) rfl rfl rfl (fun hb => Y.load1 rfl Try.underlying3 rfl (evg rfl hb) (Ls.at_ext (h_p.ext xW) (by omega) rfl)) ?_
      refine WQ.yldG rfl (blt rfl) rfl rfl rfl (fun hb => Y.lss rfl (evg rfl hb) rfl) ?_
      refine WQ.yld rfl (blt rfl) rfl (Y.or rfl rfl rfl rfl) ?_
      refine WQ.yld rfl (blt rfl) rfl (Y.move rfl rfl) ?_
      refine WQ.yldG rfl (blt rfl) rfl rfl rfl (fun hb => Y.move rfl rfl) ?_
      refine WQ.yldG rfl (blt rfl) rfl rfl rfl (fun hb => Y.move rfl rfl) ?_
      refine WQ.yldG rfl (blt rfl) rfl rfl rfl (fun hb => Y.indexLs i (h_p.ext xW) rfl Try.underlying45 ti49 (evg rfl hb) (evg rfl hb) rfl (by have q0 := (dec_f (or_f hb).2); omega)) ?_
      refine WQ.yldG rfl (blt rfl) rfl rfl rfl (fun hb => Y.fieldE rfl Try.underlying49 rfl ti3 (by decide) (evg rfl hb)) ?_
      refine WQ.yldG rfl (blt rfl) rfl rfl rfl (fun hb => Y.load1 rfl Try.underlying3 rfl (evg rfl hb) (Ls.at_ext (h_p.ext xW) (by have q0 := (dec_f (or_f hb).2); omega) rfl)) ?_
      refine WQ.yldG rfl (blt rfl) rfl rfl rfl (fun hb => Y.gtr rfl (evg rfl hb) rfl) ?_
      refine WQ.yld rfl (blt rfl) rfl (Y.or rfl rfl rfl rfl) ?_
      refine WQ.yld rfl (blt rfl) rfl (Y.move rfl rfl) ?_
      refine WQ.yldG rfl (blt rfl) rfl rfl rfl (fun hb => Y.move rfl rfl) ?_
      refine WQ.yldG rfl (blt rfl) rfl rfl rfl (fun hb => Y.move rfl rfl) ?_
      refine WQ.yldG rfl (blt rfl) rfl rfl rfl (fun hb => Y.sliceH i rfl Try.underlying45 ti49 (evg rfl hb) (evg rfl hb) rfl (Nat.le_trans (by have q0 := (And.intro (dec_f (or_f (or_f hb).1).2) (dec_f (or_f hb).2)); omega) (h_p.ext xW).le)) ?_
      refine WQ.yldG rfl (blt rfl) rfl rfl rfl (fun hb => Y.move rfl rfl) ?_
      refine WQ.yldG rfl (blt rfl) rfl rfl rfl (fun hb => Y.move rfl rfl) ?_
      refine WQ.yldG rfl (blt rfl) rfl rfl rfl (fun hb => Y.indexLs i (h_p.ext xW) rfl Try.underlying45 ti49 (evg rfl hb) (evg rfl hb) rfl (by have q0 := (And.intro (dec_f (or_f (or_f hb).1).2) (dec_f (or_f hb).2)); omega)) ?_
      refine WQ.yldG rfl (blt rfl) rfl rfl rfl (fun hb => Y.loadS (cs := [_, _]) rfl Try.underlying49 rfl ti49 (evg rfl hb) (Ls.part_ext (h_p.ext xW) (by have q0 := (And.intro (dec_f (or_f (or_f hb).1).2) (dec_f (or_f hb).2)); omega) rfl)) ?_
      refine WQ.callG rfl (blt rfl) rfl rfl rfl rfl rfl has35 (fun hb => (evs_cons (evg rfl hb) (evs_cons (evg rfl hb) evs_nil))) (fun hb w hw => calls_ext hw (find_any _ _ _ _ p[i]! _ (Ls.ext ((h_p.ext xW).take (by have q0 := (And.intro (dec_f (or_f (or_f hb).1).2) (dec_f (or_f hb).2)); omega)) hw))) ?_
      refine WQ.yldG rfl (blt rfl) rfl rfl rfl (fun hb => Y.geq rfl (evg rfl hb) rfl) ?_
      refine WQ.yld rfl (blt rfl) rfl (Y.or rfl rfl rfl rfl) ?_
      refine WQ.yld rfl (blt rfl) rfl (Y.move rfl rfl) ?_
      refine WQ.yldG rfl (blt rfl) rfl rfl rfl (fun hb => Y.move rfl rfl) ?_
      refine WQ.yldG rfl (blt rfl) rfl rfl rfl (fun hb => Y.move rfl rfl) ?_
      refine WQ.yldG rfl (blt rfl) rfl rfl rfl (fun hb => Y.indexLs i (h_ts.ext xW) rfl Try.underlying35 ti3 (evg rfl hb) (evg rfl hb) rfl (by have q0 := (And.intro (And.intro (dec_f (or_f (or_f (or_f hb).1).1).2) (dec_f (or_f (or_f hb).1).2)) (dec_f (or_f hb).2)); omega)) ?_
      refine WQ.yldG rfl (blt rfl) rfl rfl rfl (fun hb => Y.load1 rfl Try.underlying3 rfl (evg rfl hb) (Ls.at_ext (h_ts.ext xW) (by have q0 := (And.intro (And.intro (dec_f (or_f (or_f (or_f hb).1).1).2) (dec_f (or_f (or_f hb).1).2)) (dec_f (or_f hb).2)); omega) rfl)) ?_
      refine WQ.yldG rfl (blt rfl) rfl rfl rfl (fun hb => Y.lss rfl (evg rfl hb) rfl) ?_
      refine WQ.yld rfl (blt rfl) rfl (Y.or rfl rfl rfl rfl) ?_
      refine WQ.yld rfl (blt rfl) rfl (Y.move rfl rfl) ?_
      refine WQ.yldG rfl (blt rfl) rfl rfl rfl (fun hb => Y.move rfl rfl) ?_
      refine WQ.yldG rfl (blt rfl) rfl rfl rfl (fun hb => Y.move rfl rfl) ?_
      refine WQ.yldG rfl (blt rfl) rfl rfl rfl (fun hb => Y.indexLs i (h_ts.ext xW) rfl Try.underlying35 ti3 (evg rfl hb) (evg rfl hb) rfl (by have q0 := (And.intro (And.intro (And.intro (dec_f (or_f (or_f (or_f (or_f hb).1).1).1).2) (dec_f (or_f (or_f (or_f hb).1).1).2)) (dec_f (or_f (or_f hb).1).2)) (dec_f (or_f hb).2)); omega)) ?_
      refine WQ.yldG rfl (blt rfl) rfl rfl rfl (fun hb => Y.load1 rfl Try.underlying3 rfl (evg rfl hb) (Ls.at_ext (h_ts.ext xW) (by have q0 := (And.intro (And.intro (And.intro (dec_f (or_f (or_f (or_f (or_f hb).1).1).1).2) (dec_f (or_f (or_f (or_f hb).1).1).2)) (dec_f (or_f (or_f hb).1).2)) (dec_f (or_f hb).2)); omega) rfl)) ?_
      refine WQ.yldG rfl (blt rfl) rfl rfl rfl (fun hb => Y.gtr rfl (evg rfl hb) rfl) ?_
      refine WQ.yld rfl (blt rfl) rfl (Y.or rfl rfl rfl rfl) ?_
      refine WQ.done (fun w27 x28 => ?_)
      have xW := Ext.trans xW x28
      refine WK.then_normal (k26 _ _ ?_)
      refine WC.sub [(0, _), (1, _), (2, _), (3, _), (10, _), (107, _)] ⟨rfl, rfl, rfl, rfl, rfl, rfl, trivial⟩ ?_
      refine WC.cond rfl (fun h29 => ?_) (fun h29 => ?_)
      ·
        have p29 := ((or_t h29).imp (fun h => ((or_t h).imp (fun h => ((or_t h).imp (fun h => ((or_t h).imp (fun h => ((or_t h).imp (fun h => h) (fun h => (dec_t h)))) (fun h => (dec_t h)))) (fun h => (dec_t h)))) (fun h => (dec_t h)))) (fun h => (dec_t h)))
        refine WC.seq (fun K30 k30 => ?_)
        refine WC.region rfl ?_
        refine WL.yld rfl (blt rfl) rfl (Y.assign rfl rfl) ?_
        refine WL.nil ?_
        refine WK.then_normal (k30 _ _ ?_)
        refine WC.sub [(8, _)] ⟨rfl, trivial⟩ ?_
        refine WC.ret ?_
        refine WK.in_ret ?_
        refine WK.then_ret ?_
        refine WK.then_ret ?_
        refine WK.in_ret ?_
        refine WK.then_ret ?_
        clear k1 k2 k7 k8 k15 k16 k18 k19 k21 k22 k26 k30
        refine WK.ret [_] rfl ⟨rfl, trivial⟩ ?_
        exact ⟨false, rfl, fun h => (by cases h), xW⟩
      ·
        have p29 := (And.intro (And.intro (And.intro (And.intro (dec_f (or_f (or_f (or_f (or_f (or_f h29).1).1).1).1).2) (dec_f (or_f (or_f (or_f (or_f h29).1).1).1).2)) (dec_f (or_f (or_f (or_f h29).1).1).2)) (dec_f (or_f (or_f h29).1).2)) (dec_f (or_f h29).2))
        refine WC.skip ?_
        refine WK.in_normal ?_
        refine WK.then_normal (k21 _ _ ?_)
        refine WC.sub [(0, _), (1, _), (2, _), (3, _), (10, _)] ⟨rfl, rfl, rfl, rfl, rfl, trivial⟩ ?_
        refine WC.region rfl ?_
        refine WL.yld rfl (blt rfl) rfl (Y.move rfl rfl) ?_
        refine WL.yld rfl (blt rfl) rfl (Y.add rfl rfl rfl (wrap_i64 (by first | omega | (dsimp only; omega)))) ?_
        refine WL.yld rfl (blt rfl) rfl (Y.assign rfl rfl) ?_
        refine WL.nil ?_
        refine WK.roundS _ [(10, .int .i64 (((i + 1) : Nat) : Int))] ⟨rfl, rfl, rfl, rfl, rfl, trivial⟩ ?_ ⟨(i + 1), rfl, rfl, xW, (by omega), (fun j h1 hj => by rcases Nat.lt_succ_iff_lt_or_eq.1 hj with h | h; exact inv_i j h1 h; rw [h]; exact Bd.pt_ok h29)⟩
        show _ - (i + 1) < _ - i; omega
    ·
      have p20 := (dec_f h20)
      have pg := Bd.sat_pg ck hh.1 hh.2.1 hh.2.2.1 (fun i h1 h2 => inv_i i h1 (by omega))
      refine WC.exit ?_
      refine WK.then_exit ?_
      refine WK.then_exit ?_
      refine WK.in_exit ?_
      refine WK.then_normal (k15 _ _ ?_)
      refine WC.sub [(0, _), (1, _), (2, _), (3, _)] ⟨rfl, rfl, rfl, rfl, trivial⟩ ?_
      refine WC.seq (fun K31 k31 => ?_)
      refine WC.region rfl ?_
      refine WL.yld rfl (blt rfl) rfl (Y.move rfl rfl) ?_
      refine WL.yld rfl (blt rfl) rfl (Y.move rfl rfl) ?_
      refine WL.yld rfl (blt rfl) rfl (Y.move rfl rfl) ?_
      refine WL.call rfl (blt rfl) rfl rfl rfl has32 rfl (redges_any _ _ _ _ _ _ _ _ _ _ _ _ _ (h_d.ext xW) (h_l.ext xW) (h_p.ext xW) (by omega) (by omega) (by omega) (Bd.PG.rng pg)) ?_
      rintro _ w32 ⟨v34, rfl, ow35, x33⟩
      refine ⟨_, rfl, ?_⟩
      have ow35 := OwnL.base_le ow35 xW.size
      have xW := Ext.trans xW x33
      refine WL.yld rfl (blt rfl) rfl (Y.assign rfl rfl) ?_
      refine WL.nil ?_
      refine WK.then_normal (k31 _ _ ?_)
      refine WC.sub [(3, _), (13, _)] ⟨rfl, rfl, trivial⟩ ?_
      refine WC.seq (fun K36 k36 => ?_)
      refine WC.seq (fun K37 k37 => ?_)
      refine WC.region rfl ?_
      refine WL.yld rfl (blt rfl) rfl (Y.assign rfl rfl) ?_
      refine WL.nil ?_
      refine WK.then_normal (k37 _ _ ?_)
      refine WC.block ?_
      obtain ⟨A38, n39, c40, rfl, hl41⟩ := OwnL.opened ow35 (fun _ => rfl) (by decide)
      have e_n39 := hl41.len
      try simp only [List.length_append, List.length_cons, List.length_nil, List.length_reverse, List.length_drop, List.length_take, List.length_map, List.length_replicate, List.length_set] at e_n39
      have z_n39 := hl41.nle
      refine WC.sub [(14, _), (3, _), (13, _)] ⟨rfl, rfl, rfl, trivial⟩ ?_
      refine WC.loopS 1 (fun mz Ed W' => ∃ k : Nat, mz = n39 - k ∧ Ed = [(14, .int .i64 ((k : Nat) : Int))] ∧ Ext w W' ∧ OwnL W' w.heap.size 75 Bd.Ed.c 3 (.slice A38 n39 c40) _ ∧ (k ≤ n39) ∧ (∀ j, j < k → ts[(Bd.rEdges d l p)[j]!.v.toNat]! - ts[(Bd.rEdges d l p)[j]!.u.toNat]! ≤ (Bd.rEdges d l p)[j]!.w)) _ ⟨0, rfl, rfl, xW, ow35, (Nat.zero_le _), (fun j hj => absurd hj (Nat.not_lt_zero j))⟩ ?_
      rintro _ _ w42 ⟨k, rfl, rfl, xW, ow35, le_k, inv_k⟩
      refine WC.sub [(14, _), (3, _), (13, _)] ⟨rfl, rfl, rfl, trivial⟩ ?_
      have hl41 := OwnL.ls ow35 (fun _ => rfl) (by decide)
      refine WC.seq (fun K43 k43 => ?_)
      refine WC.seq (fun K44 k44 => ?_)
      refine WC.region rfl ?_
      refine WL.yld rfl (blt rfl) rfl (Y.move rfl rfl) ?_
      refine WL.yld rfl (blt rfl) rfl (Y.move rfl rfl) ?_
      refine WL.yld rfl (blt rfl) rfl (Y.lenSl rfl rfl rfl Try.underlying67 rfl) ?_
      refine WL.yld rfl (blt rfl) rfl (Y.lss rfl rfl rfl) ?_
      refine WL.nil ?_
      refine WK.then_normal (k44 _ _ ?_)
      refine WC.sub [(3, _), (13, _), (14, _), (115, _)] ⟨rfl, rfl, rfl, rfl, trivial⟩ ?_
      refine WC.cond rfl (fun h45 => ?_) (fun h45 => ?_)
      ·
        have p45 := (dec_t h45)
        have heo := Bd.reok pg _ (bang_mem (show k < (Bd.rEdges d l p).length from by omega))
        obtain ⟨hj1, hj2, hj3, hj4, hj5, hj6⟩ := heo
        have tb1 := Bd.times_b hh.2.2.2.2 (fun i h1 h2 => inv_i i h1 (by omega)) (i := (Bd.rEdges d l p)[k]!.u.toNat) (by omega)
        have tb2 := Bd.times_b hh.2.2.2.2 (fun i h1 h2 => inv_i i h1 (by omega)) (i := (Bd.rEdges d l p)[k]!.v.toNat) (by omega)
        refine WC.skip ?_
        refine WK.then_normal (k43 _ _ ?_)
        refine WC.sub [(3, _), (13, _), (14, _)] ⟨rfl, rfl, rfl, trivial⟩ ?_
        refine WC.seq (fun K46 k46 => ?_)
        refine WC.block ?_
        refine WC.seq (fun K47 k47 => ?_)
        refine WC.regionDq (by kernel_rfl) (by kernel_rfl) rfl ?_
        refine WQ.yld rfl (blt rfl) rfl (Y.move rfl rfl) ?_
        refine WQ.yld rfl (blt rfl) rfl (Y.move rfl rfl) ?_
        refine WQ.yld rfl (blt rfl) rfl (Y.move rfl rfl) ?_
        have b48 : k < n39 := by omega
        refine WQ.yld rfl (blt rfl) rfl (Y.indexLs k hl41 rfl Try.underlying67 ti75 rfl rfl rfl b48) ?_
        refine WQ.yld rfl (blt rfl) rfl (Y.fieldE rfl Try.underlying75 rfl ti3 (by decide) rfl) ?_
        refine WQ.yld rfl (blt rfl) rfl (Y.load1 rfl Try.underlying3 rfl rfl (Ls.at_ext hl41 b48 rfl)) ?_
        have b49 : (Bd.rEdges d l p)[k]!.v.toNat < n_ts := by omega
        refine WQ.yld rfl (blt rfl) rfl (Y.indexLs (Bd.rEdges d l p)[k]!.v.toNat (h_ts.ext xW) rfl Try.underlying35 ti3 rfl rfl (by omega) b49) ?_
        refine WQ.yld rfl (blt rfl) rfl (Y.load1 rfl Try.underlying3 rfl rfl (Ls.at_ext (h_ts.ext xW) b49 rfl)) ?_
        refine WQ.yld rfl (blt rfl) rfl (Y.move rfl rfl) ?_
        refine WQ.yld rfl (blt rfl) rfl (Y.move rfl rfl) ?_
        refine WQ.yld rfl (blt rfl) rfl (Y.move rfl rfl) ?_
        have b50 : k < n39 := by omega
        refine WQ.yld rfl (blt rfl) rfl (Y.indexLs k hl41 rfl Try.underlying67 ti75 rfl rfl rfl b50) ?_
        refine WQ.yld rfl (blt rfl) rfl (Y.fieldE rfl Try.underlying75 rfl ti3 (by decide) rfl) ?_
        refine WQ.yld rfl (blt rfl) rfl (Y.load1 rfl Try.underlying3 rfl rfl (Ls.at_ext hl41 b50 rfl)) ?_
        have b51 : (Bd.rEdges d l p)[k]!.u.toNat < n_ts := by omega
        refine WQ.yld rfl (blt rfl) rfl (Y.indexLs (Bd.rEdges d l p)[k]!.u.toNat (h_ts.ext xW) rfl Try.underlying35 ti3 rfl rfl (by omega) b51) ?_
        refine WQ.yld rfl (blt rfl) rfl (Y.load1 rfl Try.underlying3 rfl rfl (Ls.at_ext (h_ts.ext xW) b51 rfl)) ?_
        refine WQ.yld rfl (blt rfl) rfl (Y.sub rfl rfl rfl (wrap_i64 (by first | omega | (dsimp only; omega)))) ?_
        refine WQ.yld rfl (blt rfl) rfl (Y.move rfl rfl) ?_
        refine WQ.yld rfl (blt rfl) rfl (Y.move rfl rfl) ?_
        have b52 : k < n39 := by omega
        refine WQ.yld rfl (blt rfl) rfl (Y.indexLs k hl41 rfl Try.underlying67 ti75 rfl rfl rfl b52) ?_
        refine WQ.yld rfl (blt rfl) rfl (Y.fieldE rfl Try.underlying75 rfl ti3 (by decide) rfl) ?_
        refine WQ.yld rfl (blt rfl) rfl (Y.load1 rfl Try.underlying3 rfl rfl (Ls.at_ext hl41 b52 rfl)) ?_
        refine WQ.yld rfl (blt rfl) rfl (Y.gtr rfl rfl rfl) ?_
        refine WQ.done (fun w53 x54 => ?_)
        have ow35 := ow35.ext x54
        have hl41 := hl41.ext x54
        have xW := Ext.trans xW x54
        refine WK.then_normal (k47 _ _ ?_)
        refine WC.sub [(3, _), (13, _), (14, _), (140, _)] ⟨rfl, rfl, rfl, rfl, trivial⟩ ?_
        refine WC.cond rfl (fun h55 => ?_) (fun h55 => ?_)
        ·
          have p55 := (dec_t h55)
          refine WC.seq (fun K56 k56 => ?_)
          refine WC.region rfl ?_
          refine WL.yld rfl (blt rfl) rfl (Y.assign rfl rfl) ?_
          refine WL.nil ?_
          refine WK.then_normal (k56 _ _ ?_)
          refine WC.sub [(8, _)] ⟨rfl, trivial⟩ ?_
          refine WC.ret ?_
          refine WK.in_ret ?_
          refine WK.then_ret ?_
          refine WK.then_ret ?_
          refine WK.in_ret ?_
          refine WK.then_ret ?_
          clear k1 k2 k7 k8 k15 k16 k18 k19 k31 k36 k37 k43 k44 k46 k47 k56
          refine WK.ret [_] rfl ⟨rfl, trivial⟩ ?_
          exact ⟨false, rfl, fun h => (by cases h), xW⟩
        ·
          have p55 := (dec_f h55)
          refine WC.skip ?_
          refine WK.in_normal ?_
          refine WK.then_normal (k46 _ _ ?_)
          refine WC.sub [(3, _), (13, _), (14, _)] ⟨rfl, rfl, rfl, trivial⟩ ?_
          refine WC.region rfl ?_
          refine WL.yld rfl (blt rfl) rfl (Y.move rfl rfl) ?_
          refine WL.yld rfl (blt rfl) rfl (Y.add rfl rfl rfl (wrap_i64 (by first | omega | (dsimp only; omega)))) ?_
          refine WL.yld rfl (blt rfl) rfl (Y.assign rfl rfl) ?_
          refine WL.nil ?_
          refine WK.roundS _ [(14, .int .i64 (((k + 1) : Nat) : Int))] ⟨rfl, rfl, rfl, trivial⟩ ?_ ⟨(k + 1), rfl, rfl, xW, ow35, (by omega), (fun j hj => by rcases Nat.lt_succ_iff_lt_or_eq.1 hj with h | h; exact inv_k j h; rw [h]; have q := dec_f h55; omega)⟩
          show _ - (k + 1) < _ - k; omega
      ·
        have p45 := (dec_f h45)
        refine WC.exit ?_
        refine WK.then_exit ?_
        refine WK.then_exit ?_
        refine WK.in_exit ?_
        refine WK.then_normal (k36 _ _ ?_)
        refine WC.sub [] trivial ?_
        refine WC.seq (fun K57 k57 => ?_)
        refine WC.region rfl ?_
        refine WL.yld rfl (blt rfl) rfl (Y.assign rfl rfl) ?_
        refine WL.nil ?_
        refine WK.then_normal (k57 _ _ ?_)
        refine WC.ret ?_
        clear k1 k2 k7 k8 k15 k16 k18 k19 k31 k36 k37 k43 k44 k57
        refine WK.ret [_] rfl ⟨rfl, trivial⟩ ?_
        exact ⟨true, rfl, fun _ => ⟨pg, hh.2.2.2.1, hh.2.2.2.2, fun i h1 h2 => inv_i i h1 (by omega), Bd.all_edges (fun j hj => inv_k j (by omega))⟩, xW⟩
end RS_
end BdW

end Go.Proofs.Ytaglpampidlbmaa
