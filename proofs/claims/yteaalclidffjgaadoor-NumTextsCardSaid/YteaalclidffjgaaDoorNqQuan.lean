/- Contracts: quantiles. Conditions: what each theorem states. -/
import Derived.Test.YteaalclidffjgaaDoorNqSorted
import Derived.Test.YteaalclidffjgaaDoorNqQt
namespace Go.Proofs.YteaalclidffjgaaDoor
open Go Go.Eng Go.RowKit
set_option linter.unusedVariables false
namespace NqW
open D Q R T S
namespace G
theorem ti3 : TI Tryd.prog 3 (.int .i64 0) 1 8 := TI.mk (by kernel_rfl)
theorem has30 : Has Tryd.prog 30 := ⟨_, Tryd.func30, rfl, by kernel_rfl⟩
theorem has31 : Has Tryd.prog 31 := ⟨_, Tryd.func31, rfl, by kernel_rfl⟩
theorem has32 : Has Tryd.prog 32 := ⟨_, Tryd.func32, rfl, by kernel_rfl⟩
theorem has33 : Has Tryd.prog 33 := ⟨_, Tryd.func33, rfl, by kernel_rfl⟩
theorem qt_any (A_l : Option Addr) (n_l c_l : Nat) (l : List Int) (k : Int) (n : Int) (w : World) (h_l : Ls w A_l n_l c_l Sp.ic 1 l) (hn : l.length ≤ 100000) :
    Calls Tryd.prog 21 #[.slice A_l n_l c_l, .int .i64 k, .int .i64 n] w fun e w' => e = .returned (.tuple #[.int .i64 (Nq.qt l k n).1, .bool (Nq.qt l k n).2]) ∧ Ext w w' := by
  have xW := Ext.refl w
  have e_l := h_l.len
  have z_l := h_l.nle
  refine calls_of_WC (args := [.slice A_l n_l c_l, .int .i64 k, .int .i64 n]) Tryd.func21 rfl rfl (ble rfl) ?_
  refine WC.seq (fun K1 k1 => ?_)
  refine WC.region rfl ?_
  refine WL.yld rfl (blt rfl) rfl (Y.assign rfl rfl) ?_
  refine WL.yld rfl (blt rfl) rfl (Y.assign rfl rfl) ?_
  refine WL.nil ?_
  refine WK.then_normal (k1 _ _ ?_)
  refine WC.sub [(0, _), (1, _), (2, _)] ⟨rfl, rfl, rfl, trivial⟩ ?_
  refine WC.seq (fun K2 k2 => ?_)
  refine WC.seq (fun K3 k3 => ?_)
  refine WC.region rfl ?_
  refine WL.yld rfl (blt rfl) rfl (Y.move rfl rfl) ?_
  refine WL.yld rfl (blt rfl) rfl (Y.lenSl rfl rfl rfl Tryd.underlying30 rfl) ?_
  refine WL.yld rfl (blt rfl) rfl (Y.eql rfl rfl rfl) ?_
  refine WL.yld rfl (blt rfl) rfl (Y.move rfl rfl) ?_
  refine WL.yldG rfl (blt rfl) rfl rfl rfl (fun hb => Y.move rfl rfl) ?_
  refine WL.yldG rfl (blt rfl) rfl rfl rfl (fun hb => Y.lss rfl (evg rfl hb) rfl) ?_
  refine WL.yld rfl (blt rfl) rfl (Y.or rfl rfl rfl rfl) ?_
  refine WL.yld rfl (blt rfl) rfl (Y.move rfl rfl) ?_
  refine WL.yldG rfl (blt rfl) rfl rfl rfl (fun hb => Y.move rfl rfl) ?_
  refine WL.yldG rfl (blt rfl) rfl rfl rfl (fun hb => Y.gtr rfl (evg rfl hb) rfl) ?_
  refine WL.yld rfl (blt rfl) rfl (Y.or rfl rfl rfl rfl) ?_
  refine WL.yld rfl (blt rfl) rfl (Y.move rfl rfl) ?_
  refine WL.yldG rfl (blt rfl) rfl rfl rfl (fun hb => Y.move rfl rfl) ?_
  refine WL.yldG rfl (blt rfl) rfl rfl rfl (fun hb => Y.lss rfl (evg rfl hb) rfl) ?_
  refine WL.yld rfl (blt rfl) rfl (Y.or rfl rfl rfl rfl) ?_
  refine WL.yld rfl (blt rfl) rfl (Y.move rfl rfl) ?_
  refine WL.yldG rfl (blt rfl) rfl rfl rfl (fun hb => Y.move rfl rfl) ?_
  refine WL.yldG rfl (blt rfl) rfl rfl rfl (fun hb => Y.move rfl rfl) ?_
  refine WL.yldG rfl (blt rfl) rfl rfl rfl (fun hb => Y.gtr rfl (evg rfl hb) (evg rfl hb)) ?_
  refine WL.yld rfl (blt rfl) rfl (Y.or rfl rfl rfl rfl) ?_
  refine WL.nil ?_
  refine WK.then_normal (k3 _ _ ?_)
  refine WC.sub [(0, _), (1, _), (2, _), (32, _)] ⟨rfl, rfl, rfl, rfl, trivial⟩ ?_
  refine WC.cond rfl (fun h4 => ?_) (fun h4 => ?_)
  ·
    have p4 := ((or_t h4).imp (fun h => ((or_t h).imp (fun h => ((or_t h).imp (fun h => ((or_t h).imp (fun h => (eq_t h)) (fun h => (dec_t h)))) (fun h => (dec_t h)))) (fun h => (dec_t h)))) (fun h => (dec_t h)))
    have hg : Nq.qd l k n = true := by unfold Nq.qd; rw [e_l]; exact h4
    refine WC.seq (fun K5 k5 => ?_)
    refine WC.region rfl ?_
    refine WL.yld rfl (blt rfl) rfl (Y.assign rfl rfl) ?_
    refine WL.yld rfl (blt rfl) rfl (Y.assign rfl rfl) ?_
    refine WL.nil ?_
    refine WK.then_normal (k5 _ _ ?_)
    refine WC.sub [(6, _), (7, _)] ⟨rfl, rfl, trivial⟩ ?_
    refine WC.ret ?_
    refine WK.then_ret ?_
    clear k1 k2 k3 k5
    refine WK.ret [_, _] rfl ⟨rfl, rfl, trivial⟩ ?_
    refine ⟨?_, xW⟩
    rw [Nq.qt_bad hg]; rfl
  ·
    have p4 := (And.intro (And.intro (And.intro (And.intro (eq_f (or_f (or_f (or_f (or_f h4).1).1).1).1) (dec_f (or_f (or_f (or_f (or_f h4).1).1).1).2)) (dec_f (or_f (or_f (or_f h4).1).1).2)) (dec_f (or_f (or_f h4).1).2)) (dec_f (or_f h4).2))
    have hg : Nq.qd l k n = false := by unfold Nq.qd; rw [e_l]; exact h4
    have hq := Nq.qd_no hg
    have qb := Nq.q_bounds hg (by omega)
    rw [e_l] at qb
    refine WC.skip ?_
    refine WK.then_normal (k2 _ _ ?_)
    refine WC.sub [(0, _), (1, _), (2, _)] ⟨rfl, rfl, rfl, trivial⟩ ?_
    refine WC.seq (fun K6 k6 => ?_)
    refine WC.region rfl ?_
    refine WL.yld rfl (blt rfl) rfl (Y.move rfl rfl) ?_
    refine WL.call rfl (blt rfl) rfl rfl rfl has31 rfl (values_any _ _ _ _) ?_
    rintro _ w7 ⟨g9, rfl, m10, hg11, x8⟩
    refine ⟨_, rfl, ?_⟩
    have o_g9 := Nat.le_trans xW.size hg11
    have xW := Ext.trans xW x8
    refine WL.call rfl (blt rfl) rfl rfl rfl has30 rfl (sorted_any _ _ _ _ l _ m10 (h_l.ext xW) hn) ?_
    rintro _ w12 ⟨v14, rfl, ow15, x13⟩
    refine ⟨_, rfl, ?_⟩
    have r_v14_g9 := ne_res ow15 m10
    have ow15 := OwnL.base_le ow15 xW.size
    have m10 := m10.ext x13
    have xW := Ext.trans xW x13
    refine WL.yld rfl (blt rfl) rfl (Y.assign rfl rfl) ?_
    refine WL.nil ?_
    refine WK.then_normal (k6 _ _ ?_)
    refine WC.sub [(0, _), (1, _), (2, _), (8, _)] ⟨rfl, rfl, rfl, rfl, trivial⟩ ?_
    refine WC.seq (fun K16 k16 => ?_)
    refine WC.region rfl ?_
    refine WL.yld rfl (blt rfl) rfl (Y.move rfl rfl) ?_
    refine WL.yld rfl (blt rfl) rfl (Y.convInt rfl Tryd.underlying3 Tryd.underlying37 rfl (wrap_u64 (by first | omega | (dsimp only; omega)))) ?_
    refine WL.yld rfl (blt rfl) rfl (Y.move rfl rfl) ?_
    refine WL.yld rfl (blt rfl) rfl (Y.lenSl rfl rfl rfl Tryd.underlying30 rfl) ?_
    refine WL.yld rfl (blt rfl) rfl (Y.convInt rfl Tryd.underlying3 Tryd.underlying37 rfl (wrap_u64 (by first | omega | (dsimp only; omega)))) ?_
    refine WL.call rfl (blt rfl) rfl rfl rfl has32 rfl (mul64_any _ _ _ (by omega) (by omega)) ?_
    rintro _ w17 ⟨rfl, x18⟩
    refine ⟨_, rfl, ?_⟩
    have ow15 := ow15.ext x18
    have xW := Ext.trans xW x18
    refine WL.yld rfl (blt rfl) rfl (Y.move rfl rfl) ?_
    refine WL.yld rfl (blt rfl) rfl (Y.extract rfl rfl rfl) ?_
    refine WL.yld rfl (blt rfl) rfl (Y.extract rfl rfl rfl) ?_
    refine WL.yld rfl (blt rfl) rfl (Y.assign rfl rfl) ?_
    refine WL.yld rfl (blt rfl) rfl (Y.assign rfl rfl) ?_
    refine WL.nil ?_
    refine WK.then_normal (k16 _ _ ?_)
    refine WC.sub [(2, _), (8, _), (9, _), (10, _)] ⟨rfl, rfl, rfl, rfl, trivial⟩ ?_
    refine WC.seq (fun K19 k19 => ?_)
    refine WC.region rfl ?_
    refine WL.yld rfl (blt rfl) rfl (Y.move rfl rfl) ?_
    refine WL.yld rfl (blt rfl) rfl (Y.move rfl rfl) ?_
    refine WL.yld rfl (blt rfl) rfl (Y.move rfl rfl) ?_
    refine WL.yld rfl (blt rfl) rfl (Y.convInt rfl Tryd.underlying3 Tryd.underlying37 rfl (wrap_u64 (by first | omega | (dsimp only; omega)))) ?_
    refine WL.call rfl (blt rfl) rfl rfl rfl has33 rfl (div64_any _ _ _ _ (by omega) (by omega) (by omega)) ?_
    rintro _ w20 ⟨rfl, x21⟩
    refine ⟨_, rfl, ?_⟩
    have ow15 := ow15.ext x21
    have xW := Ext.trans xW x21
    refine WL.yld rfl (blt rfl) rfl (Y.move rfl rfl) ?_
    refine WL.yld rfl (blt rfl) rfl (Yld.cast (Y.extract rfl rfl rfl) (vi (b := k * (n_l : Nat) / n) (congrArg (fun z => z / n) (Nq.split64 _)))) ?_
    refine WL.yld rfl (blt rfl) rfl (Yld.cast (Y.extract rfl rfl rfl) (vi (b := k * (n_l : Nat) % n) (congrArg (fun z => z % n) (Nq.split64 _)))) ?_
    refine WL.yld rfl (blt rfl) rfl (Y.assign rfl rfl) ?_
    refine WL.yld rfl (blt rfl) rfl (Y.assign rfl rfl) ?_
    refine WL.nil ?_
    refine WK.then_normal (k19 _ _ ?_)
    refine WC.sub [(8, _), (11, _), (12, _)] ⟨rfl, rfl, rfl, trivial⟩ ?_
    refine WC.seq (fun K22 k22 => ?_)
    refine WC.seq (fun K23 k23 => ?_)
    refine WC.region rfl ?_
    refine WL.yld rfl (blt rfl) rfl (Y.move rfl rfl) ?_
    refine WL.yld rfl (blt rfl) rfl (Y.gtr rfl rfl rfl) ?_
    refine WL.nil ?_
    refine WK.then_normal (k23 _ _ ?_)
    refine WC.sub [(8, _), (11, _), (54, _)] ⟨rfl, rfl, rfl, trivial⟩ ?_
    refine WC.cond rfl (fun h24 => ?_) (fun h24 => ?_)
    ·
      have p24 := (dec_t h24)
      refine WC.region rfl ?_
      refine WL.yld rfl (blt rfl) rfl (Y.move rfl rfl) ?_
      refine WL.yld rfl (blt rfl) rfl (Y.add rfl rfl rfl (wrap_u64 (by first | omega | (dsimp only; omega)))) ?_
      refine WL.yld rfl (blt rfl) rfl (Y.assign rfl rfl) ?_
      refine WL.nil ?_
      refine WK.then_normal (k22 _ _ ?_)
      refine WC.sub [(8, _), (11, _)] ⟨rfl, rfl, trivial⟩ ?_
      refine WC.seq (fun K25 k25 => ?_)
      refine WC.region rfl ?_
      refine WL.yld rfl (blt rfl) rfl (Y.move rfl rfl) ?_
      refine WL.yld rfl (blt rfl) rfl (Y.move rfl rfl) ?_
      refine WL.yld rfl (blt rfl) rfl (Y.maxI rfl rfl rfl rfl) ?_
      refine WL.yld rfl (blt rfl) rfl (Yld.cast (Y.sub rfl rfl rfl (wrap_u64 (by first | omega | (dsimp only; omega)))) (vi (b := ((Nq.qix l k n : Nat) : Int)) (by rw [← e_l]; exact Nq.qix_yes hg (by rw [e_l]; exact dec_t h24)))) ?_
      obtain ⟨A26, n27, c28, rfl, hl29⟩ := OwnL.opened ow15 (fun _ => rfl) (by decide)
      have e_n27 := hl29.len
      try simp only [List.length_append, List.length_cons, List.length_nil, List.length_reverse, List.length_drop, List.length_take, List.length_map, List.length_replicate] at e_n27
      have z_n27 := hl29.nle
      refine WL.yld rfl (blt rfl) rfl (Y.indexLs (Nq.qix l k n) hl29 rfl Tryd.underlying30 ti3 rfl rfl rfl (by have q := Nq.qix_lt hg; have q2 := Inc.srt_len l; omega)) ?_
      refine WL.yld rfl (blt rfl) rfl (Y.load1 rfl Tryd.underlying3 rfl rfl (Ls.at_eq hl29 (by have q := Nq.qix_lt hg; have q2 := Inc.srt_len l; omega) rfl)) ?_
      refine WL.yld rfl (blt rfl) rfl (Y.assign rfl rfl) ?_
      refine WL.yld rfl (blt rfl) rfl (Y.assign rfl rfl) ?_
      refine WL.nil ?_
      refine WK.then_normal (k25 _ _ ?_)
      refine WC.sub [(6, _), (7, _)] ⟨rfl, rfl, trivial⟩ ?_
      refine WC.ret ?_
      clear k1 k2 k3 k6 k16 k19 k22 k23 k25
      refine WK.ret [_, _] rfl ⟨rfl, rfl, trivial⟩ ?_
      refine ⟨?_, xW⟩
      rw [Nq.qt_good hg]; rfl
    ·
      have p24 := (dec_f h24)
      refine WC.skip ?_
      refine WK.then_normal (k22 _ _ ?_)
      refine WC.sub [(8, _), (11, _)] ⟨rfl, rfl, trivial⟩ ?_
      refine WC.seq (fun K30 k30 => ?_)
      refine WC.region rfl ?_
      refine WL.yld rfl (blt rfl) rfl (Y.move rfl rfl) ?_
      refine WL.yld rfl (blt rfl) rfl (Y.move rfl rfl) ?_
      refine WL.yld rfl (blt rfl) rfl (Y.maxI rfl rfl rfl rfl) ?_
      refine WL.yld rfl (blt rfl) rfl (Yld.cast (Y.sub rfl rfl rfl (wrap_u64 (by first | omega | (dsimp only; omega)))) (vi (b := ((Nq.qix l k n : Nat) : Int)) (by rw [← e_l]; exact Nq.qix_no hg (by rw [e_l]; exact dec_f h24)))) ?_
      obtain ⟨A31, n32, c33, rfl, hl34⟩ := OwnL.opened ow15 (fun _ => rfl) (by decide)
      have e_n32 := hl34.len
      try simp only [List.length_append, List.length_cons, List.length_nil, List.length_reverse, List.length_drop, List.length_take, List.length_map, List.length_replicate] at e_n32
      have z_n32 := hl34.nle
      refine WL.yld rfl (blt rfl) rfl (Y.indexLs (Nq.qix l k n) hl34 rfl Tryd.underlying30 ti3 rfl rfl rfl (by have q := Nq.qix_lt hg; have q2 := Inc.srt_len l; omega)) ?_
      refine WL.yld rfl (blt rfl) rfl (Y.load1 rfl Tryd.underlying3 rfl rfl (Ls.at_eq hl34 (by have q := Nq.qix_lt hg; have q2 := Inc.srt_len l; omega) rfl)) ?_
      refine WL.yld rfl (blt rfl) rfl (Y.assign rfl rfl) ?_
      refine WL.yld rfl (blt rfl) rfl (Y.assign rfl rfl) ?_
      refine WL.nil ?_
      refine WK.then_normal (k30 _ _ ?_)
      refine WC.sub [(6, _), (7, _)] ⟨rfl, rfl, trivial⟩ ?_
      refine WC.ret ?_
      clear k1 k2 k3 k6 k16 k19 k22 k23 k30
      refine WK.ret [_, _] rfl ⟨rfl, rfl, trivial⟩ ?_
      refine ⟨?_, xW⟩
      rw [Nq.qt_good hg]; rfl
theorem rqt_any (A_l : Option Addr) (n_l c_l : Nat) (l : List Int) (k : Int) (n : Int) (w : World) (h_l : Ls w A_l n_l c_l Sp.ic 1 l) (hn : l.length ≤ 1000) :
    Calls Tryd.prog 22 #[.slice A_l n_l c_l, .int .i64 k, .int .i64 n] w fun e w' => e = .returned (.tuple #[.int .i64 (Nq.qt l k n).1, .bool (Nq.qt l k n).2]) ∧ Ext w w' := by
  have xW := Ext.refl w
  have e_l := h_l.len
  have z_l := h_l.nle
  refine calls_of_WC (args := [.slice A_l n_l c_l, .int .i64 k, .int .i64 n]) Tryd.func22 rfl rfl (ble rfl) ?_
  refine WC.seq (fun K1 k1 => ?_)
  refine WC.region rfl ?_
  refine WL.yld rfl (blt rfl) rfl (Y.assign rfl rfl) ?_
  refine WL.yld rfl (blt rfl) rfl (Y.assign rfl rfl) ?_
  refine WL.nil ?_
  refine WK.then_normal (k1 _ _ ?_)
  refine WC.sub [(0, _), (1, _), (2, _)] ⟨rfl, rfl, rfl, trivial⟩ ?_
  refine WC.seq (fun K2 k2 => ?_)
  refine WC.seq (fun K3 k3 => ?_)
  refine WC.region rfl ?_
  refine WL.yld rfl (blt rfl) rfl (Y.move rfl rfl) ?_
  refine WL.yld rfl (blt rfl) rfl (Y.lenSl rfl rfl rfl Tryd.underlying30 rfl) ?_
  refine WL.yld rfl (blt rfl) rfl (Y.eql rfl rfl rfl) ?_
  refine WL.yld rfl (blt rfl) rfl (Y.move rfl rfl) ?_
  refine WL.yldG rfl (blt rfl) rfl rfl rfl (fun hb => Y.move rfl rfl) ?_
  refine WL.yldG rfl (blt rfl) rfl rfl rfl (fun hb => Y.lss rfl (evg rfl hb) rfl) ?_
  refine WL.yld rfl (blt rfl) rfl (Y.or rfl rfl rfl rfl) ?_
  refine WL.yld rfl (blt rfl) rfl (Y.move rfl rfl) ?_
  refine WL.yldG rfl (blt rfl) rfl rfl rfl (fun hb => Y.move rfl rfl) ?_
  refine WL.yldG rfl (blt rfl) rfl rfl rfl (fun hb => Y.gtr rfl (evg rfl hb) rfl) ?_
  refine WL.yld rfl (blt rfl) rfl (Y.or rfl rfl rfl rfl) ?_
  refine WL.yld rfl (blt rfl) rfl (Y.move rfl rfl) ?_
  refine WL.yldG rfl (blt rfl) rfl rfl rfl (fun hb => Y.move rfl rfl) ?_
  refine WL.yldG rfl (blt rfl) rfl rfl rfl (fun hb => Y.lss rfl (evg rfl hb) rfl) ?_
  refine WL.yld rfl (blt rfl) rfl (Y.or rfl rfl rfl rfl) ?_
  refine WL.yld rfl (blt rfl) rfl (Y.move rfl rfl) ?_
  refine WL.yldG rfl (blt rfl) rfl rfl rfl (fun hb => Y.move rfl rfl) ?_
  refine WL.yldG rfl (blt rfl) rfl rfl rfl (fun hb => Y.move rfl rfl) ?_
  refine WL.yldG rfl (blt rfl) rfl rfl rfl (fun hb => Y.gtr rfl (evg rfl hb) (evg rfl hb)) ?_
  refine WL.yld rfl (blt rfl) rfl (Y.or rfl rfl rfl rfl) ?_
  refine WL.nil ?_
  refine WK.then_normal (k3 _ _ ?_)
  refine WC.sub [(0, _), (1, _), (2, _), (32, _)] ⟨rfl, rfl, rfl, rfl, trivial⟩ ?_
  refine WC.cond rfl (fun h4 => ?_) (fun h4 => ?_)
  ·
    have p4 := ((or_t h4).imp (fun h => ((or_t h).imp (fun h => ((or_t h).imp (fun h => ((or_t h).imp (fun h => (eq_t h)) (fun h => (dec_t h)))) (fun h => (dec_t h)))) (fun h => (dec_t h)))) (fun h => (dec_t h)))
    have hg : Nq.qd l k n = true := by unfold Nq.qd; rw [e_l]; exact h4
    refine WC.seq (fun K5 k5 => ?_)
    refine WC.region rfl ?_
    refine WL.yld rfl (blt rfl) rfl (Y.assign rfl rfl) ?_
    refine WL.yld rfl (blt rfl) rfl (Y.assign rfl rfl) ?_
    refine WL.nil ?_
    refine WK.then_normal (k5 _ _ ?_)
    refine WC.sub [(6, _), (7, _)] ⟨rfl, rfl, trivial⟩ ?_
    refine WC.ret ?_
    refine WK.then_ret ?_
    clear k1 k2 k3 k5
    refine WK.ret [_, _] rfl ⟨rfl, rfl, trivial⟩ ?_
    refine ⟨?_, xW⟩
    rw [Nq.qt_bad hg]; rfl
  ·
    have p4 := (And.intro (And.intro (And.intro (And.intro (eq_f (or_f (or_f (or_f (or_f h4).1).1).1).1) (dec_f (or_f (or_f (or_f (or_f h4).1).1).1).2)) (dec_f (or_f (or_f (or_f h4).1).1).2)) (dec_f (or_f (or_f h4).1).2)) (dec_f (or_f h4).2))
    have hg : Nq.qd l k n = false := by unfold Nq.qd; rw [e_l]; exact h4
    have hq := Nq.qd_no hg
    have bk := mul_bound (a := k) (b := ((n_l : Nat) : Int)) (m := 1000000000000000) (k := 1000) (by omega) (by omega)
    refine WC.skip ?_
    refine WK.then_normal (k2 _ _ ?_)
    refine WC.sub [(0, _), (1, _), (2, _)] ⟨rfl, rfl, rfl, trivial⟩ ?_
    refine WC.seq (fun K6 k6 => ?_)
    refine WC.region rfl ?_
    refine WL.yld rfl (blt rfl) rfl (Y.assign rfl rfl) ?_
    refine WL.yld rfl (blt rfl) rfl (Y.assign rfl rfl) ?_
    refine WL.nil ?_
    refine WK.then_normal (k6 _ _ ?_)
    refine WC.seq (fun K7 k7 => ?_)
    refine WC.seq (fun K8 k8 => ?_)
    refine WC.region rfl ?_
    refine WL.yld rfl (blt rfl) rfl (Y.assign rfl rfl) ?_
    refine WL.nil ?_
    refine WK.then_normal (k8 _ _ ?_)
    refine WC.block ?_
    refine WC.sub [(10, _), (8, _), (9, _), (0, _), (1, _), (2, _)] ⟨rfl, rfl, rfl, rfl, rfl, rfl, trivial⟩ ?_
    refine WC.loopS 3 (fun mz Ed W' => ∃ i : Nat, ∃ z : Int, ∃ b : Bool, mz = n_l - i ∧ Ed = [(10, .int .i64 ((i : Nat) : Int)), (8, .int .i64 z), (9, .bool b)] ∧ Ext w W' ∧ (i ≤ n_l) ∧ (Nq.QS l k n i z b)) _ ⟨0, 0, false, rfl, rfl, xW, (Nat.zero_le _), (Nq.QS.init l k n)⟩ ?_
    rintro _ _ w9 ⟨i, z, b, rfl, rfl, xW, le_i, inv⟩
    refine WC.sub [(10, _), (8, _), (9, _), (0, _), (1, _), (2, _)] ⟨rfl, rfl, rfl, rfl, rfl, rfl, trivial⟩ ?_
    refine WC.seq (fun K10 k10 => ?_)
    refine WC.seq (fun K11 k11 => ?_)
    refine WC.region rfl ?_
    refine WL.yld rfl (blt rfl) rfl (Y.move rfl rfl) ?_
    refine WL.yld rfl (blt rfl) rfl (Y.move rfl rfl) ?_
    refine WL.yld rfl (blt rfl) rfl (Y.lenSl rfl rfl rfl Tryd.underlying30 rfl) ?_
    refine WL.yld rfl (blt rfl) rfl (Y.lss rfl rfl rfl) ?_
    refine WL.nil ?_
    refine WK.then_normal (k11 _ _ ?_)
    refine WC.sub [(0, _), (1, _), (2, _), (8, _), (9, _), (10, _), (36, _)] ⟨rfl, rfl, rfl, rfl, rfl, rfl, rfl, trivial⟩ ?_
    refine WC.cond rfl (fun h12 => ?_) (fun h12 => ?_)
    ·
      have p12 := (dec_t h12)
      refine WC.skip ?_
      refine WK.then_normal (k10 _ _ ?_)
      refine WC.sub [(0, _), (1, _), (2, _), (8, _), (9, _), (10, _)] ⟨rfl, rfl, rfl, rfl, rfl, rfl, trivial⟩ ?_
      refine WC.seq (fun K13 k13 => ?_)
      refine WC.block ?_
      refine WC.seq (fun K14 k14 => ?_)
      refine WC.region rfl ?_
      refine WL.yld rfl (blt rfl) rfl (Y.assign rfl rfl) ?_
      refine WL.nil ?_
      refine WK.then_normal (k14 _ _ ?_)
      refine WC.seq (fun K15 k15 => ?_)
      refine WC.seq (fun K16 k16 => ?_)
      refine WC.region rfl ?_
      refine WL.yld rfl (blt rfl) rfl (Y.assign rfl rfl) ?_
      refine WL.nil ?_
      refine WK.then_normal (k16 _ _ ?_)
      refine WC.block ?_
      refine WC.sub [(12, _), (11, _), (0, _), (1, _), (2, _), (8, _), (9, _), (10, _)] ⟨rfl, rfl, rfl, rfl, rfl, rfl, rfl, rfl, trivial⟩ ?_
      refine WC.loopS 2 (fun mz Ed W' => ∃ j : Nat, ∃ c : Nat, mz = n_l - j ∧ Ed = [(12, .int .i64 ((j : Nat) : Int)), (11, .int .i64 ((c : Nat) : Int))] ∧ Ext w W' ∧ (j ≤ n_l) ∧ (c ≤ j) ∧ (c = Nq.cnt (l.take j) l[i]!)) _ ⟨0, 0, rfl, rfl, xW, (Nat.zero_le _), (Nat.le_refl _), (by rw [List.take_zero]; rfl)⟩ ?_
      rintro _ _ w17 ⟨j, c, rfl, rfl, xW, le_j, cj, inj⟩
      refine WC.sub [(12, _), (11, _), (0, _), (1, _), (2, _), (8, _), (9, _), (10, _)] ⟨rfl, rfl, rfl, rfl, rfl, rfl, rfl, rfl, trivial⟩ ?_
      refine WC.seq (fun K18 k18 => ?_)
      refine WC.seq (fun K19 k19 => ?_)
      refine WC.region rfl ?_
      refine WL.yld rfl (blt rfl) rfl (Y.move rfl rfl) ?_
      refine WL.yld rfl (blt rfl) rfl (Y.move rfl rfl) ?_
      refine WL.yld rfl (blt rfl) rfl (Y.lenSl rfl rfl rfl Tryd.underlying30 rfl) ?_
      refine WL.yld rfl (blt rfl) rfl (Y.lss rfl rfl rfl) ?_
      refine WL.nil ?_
      refine WK.then_normal (k19 _ _ ?_)
      refine WC.sub [(0, _), (1, _), (2, _), (8, _), (9, _), (10, _), (11, _), (12, _), (42, _)] ⟨rfl, rfl, rfl, rfl, rfl, rfl, rfl, rfl, rfl, trivial⟩ ?_
      refine WC.cond rfl (fun h20 => ?_) (fun h20 => ?_)
      ·
        have p20 := (dec_t h20)
        refine WC.skip ?_
        refine WK.then_normal (k18 _ _ ?_)
        refine WC.sub [(0, _), (1, _), (2, _), (8, _), (9, _), (10, _), (11, _), (12, _)] ⟨rfl, rfl, rfl, rfl, rfl, rfl, rfl, rfl, trivial⟩ ?_
        refine WC.seq (fun K21 k21 => ?_)
        refine WC.block ?_
        refine WC.seq (fun K22 k22 => ?_)
        refine WC.regionDq (by kernel_rfl) (by kernel_rfl) rfl ?_
        refine WQ.yld rfl (blt rfl) rfl (Y.move rfl rfl) ?_
        refine WQ.yld rfl (blt rfl) rfl (Y.move rfl rfl) ?_
        have b23 : j < n_l := by omega
        refine WQ.yld rfl (blt rfl) rfl (Y.indexLs j (h_l.ext xW) rfl Tryd.underlying30 ti3 rfl rfl rfl b23) ?_
        refine WQ.yld rfl (blt rfl) rfl (Y.load1 rfl Tryd.underlying3 rfl rfl (Ls.at_ext (h_l.ext xW) b23 rfl)) ?_
        refine WQ.yld rfl (blt rfl) rfl (Y.move rfl rfl) ?_
        refine WQ.yld rfl (blt rfl) rfl (Y.move rfl rfl) ?_
        have b24 : i < n_l := by omega
        refine WQ.yld rfl (blt rfl) rfl (Y.indexLs i (h_l.ext xW) rfl Tryd.underlying30 ti3 rfl rfl rfl b24) ?_
        refine WQ.yld rfl (blt rfl) rfl (Y.load1 rfl Tryd.underlying3 rfl rfl (Ls.at_ext (h_l.ext xW) b24 rfl)) ?_
        refine WQ.yld rfl (blt rfl) rfl (Y.leq rfl rfl rfl) ?_
        refine WQ.done (fun w25 x26 => ?_)
        have xW := Ext.trans xW x26
        refine WK.then_normal (k22 _ _ ?_)
        refine WC.sub [(0, _), (1, _), (2, _), (8, _), (9, _), (10, _), (11, _), (12, _), (53, _)] ⟨rfl, rfl, rfl, rfl, rfl, rfl, rfl, rfl, rfl, trivial⟩ ?_
        refine WC.cond rfl (fun h27 => ?_) (fun h27 => ?_)
        ·
          have p27 := (dec_t h27)
          refine WC.region rfl ?_
          refine WL.yld rfl (blt rfl) rfl (Y.move rfl rfl) ?_
          refine WL.yld rfl (blt rfl) rfl (Y.add rfl rfl rfl (wrap_i64 (by first | omega | (dsimp only; omega)))) ?_
          refine WL.yld rfl (blt rfl) rfl (Y.assign rfl rfl) ?_
          refine WL.nil ?_
          refine WK.in_normal ?_
          refine WK.then_normal (k21 _ _ ?_)
          refine WC.sub [(0, _), (1, _), (2, _), (8, _), (9, _), (10, _), (11, _), (12, _)] ⟨rfl, rfl, rfl, rfl, rfl, rfl, rfl, rfl, trivial⟩ ?_
          refine WC.region rfl ?_
          refine WL.yld rfl (blt rfl) rfl (Y.move rfl rfl) ?_
          refine WL.yld rfl (blt rfl) rfl (Y.add rfl rfl rfl (wrap_i64 (by first | omega | (dsimp only; omega)))) ?_
          refine WL.yld rfl (blt rfl) rfl (Y.assign rfl rfl) ?_
          refine WL.nil ?_
          refine WK.roundS _ [(12, .int .i64 (((j + 1) : Nat) : Int)), (11, .int .i64 (((c + 1) : Nat) : Int))] ⟨rfl, rfl, rfl, rfl, rfl, rfl, rfl, rfl, trivial⟩ ?_ ⟨(j + 1), (c + 1), rfl, rfl, xW, (by omega), (by omega), (Nq.cnt_yes (by omega) inj (dec_t h27))⟩
          show _ - (j + 1) < _ - j; omega
        ·
          have p27 := (dec_f h27)
          refine WC.skip ?_
          refine WK.in_normal ?_
          refine WK.then_normal (k21 _ _ ?_)
          refine WC.sub [(0, _), (1, _), (2, _), (8, _), (9, _), (10, _), (11, _), (12, _)] ⟨rfl, rfl, rfl, rfl, rfl, rfl, rfl, rfl, trivial⟩ ?_
          refine WC.region rfl ?_
          refine WL.yld rfl (blt rfl) rfl (Y.move rfl rfl) ?_
          refine WL.yld rfl (blt rfl) rfl (Y.add rfl rfl rfl (wrap_i64 (by first | omega | (dsimp only; omega)))) ?_
          refine WL.yld rfl (blt rfl) rfl (Y.assign rfl rfl) ?_
          refine WL.nil ?_
          refine WK.roundS _ [(12, .int .i64 (((j + 1) : Nat) : Int)), (11, .int .i64 ((c : Nat) : Int))] ⟨rfl, rfl, rfl, rfl, rfl, rfl, rfl, rfl, trivial⟩ ?_ ⟨(j + 1), c, rfl, rfl, xW, (by omega), (by omega), (Nq.cnt_no (by omega) inj (dec_f h27))⟩
          show _ - (j + 1) < _ - j; omega
      ·
        have p20 := (dec_f h20)
        have ec := Nq.cnt_all (show l.length ≤ j by omega) inj
        subst ec
        have bn := mul_bound (a := n) (b := ((Nq.cnt l l[i]! : Nat) : Int)) (m := 1000000000000000) (k := 1000) (by omega) (by omega)
        refine WC.exit ?_
        refine WK.then_exit ?_
        refine WK.then_exit ?_
        refine WK.in_exit ?_
        refine WK.then_normal (k15 _ _ ?_)
        refine WC.sub [(0, _), (1, _), (2, _), (8, _), (9, _), (10, _), (11, _)] ⟨rfl, rfl, rfl, rfl, rfl, rfl, rfl, trivial⟩ ?_
        refine WC.seq (fun K28 k28 => ?_)
        refine WC.region rfl ?_
        refine WL.yld rfl (blt rfl) rfl (Y.move rfl rfl) ?_
        refine WL.yld rfl (blt rfl) rfl (Y.move rfl rfl) ?_
        refine WL.yld rfl (blt rfl) rfl (Y.mul rfl rfl rfl (wrap_i64 (by omega))) ?_
        refine WL.yld rfl (blt rfl) rfl (Y.move rfl rfl) ?_
        refine WL.yld rfl (blt rfl) rfl (Y.move rfl rfl) ?_
        refine WL.yld rfl (blt rfl) rfl (Y.lenSl rfl rfl rfl Tryd.underlying30 rfl) ?_
        refine WL.yld rfl (blt rfl) rfl (Y.mul rfl rfl rfl (wrap_i64 (by omega))) ?_
        refine WL.yld rfl (blt rfl) rfl (Y.geq rfl rfl rfl) ?_
        refine WL.yld rfl (blt rfl) rfl (Y.move rfl rfl) ?_
        refine WL.yldG rfl (blt rfl) rfl rfl rfl (fun hb => Y.move rfl rfl) ?_
        refine WL.yldG rfl (blt rfl) rfl rfl rfl (fun hb => Y.not rfl (evg rfl hb)) ?_
        refine WL.yldG rfl (blt rfl) rfl rfl rfl (fun hb => Y.move rfl (evg rfl hb)) ?_
        refine WL.yldGs [(_, _)] rfl (blt rfl) rfl rfl rfl (fun hb => Y.move rfl rfl) ?_
        refine WL.yldGs [(_, _)] rfl (blt rfl) rfl rfl rfl (fun hb => Y.move rfl rfl) ?_
        refine WL.yldGs [(_, _)] rfl (blt rfl) rfl rfl rfl (fun hb => Y.indexLs i (h_l.ext xW) rfl Tryd.underlying30 ti3 (evg (evg rfl hb.1) hb.2.1) (evg (evg rfl hb.1) hb.2.1) rfl (by have q0 := (dec_t hb.1); omega)) ?_
        refine WL.yldGs [(_, _)] rfl (blt rfl) rfl rfl rfl (fun hb => Y.load1 rfl Tryd.underlying3 rfl (evg (evg rfl hb.1) hb.2.1) (Ls.at_eq (h_l.ext xW) (by have q0 := (dec_t hb.1); omega) rfl)) ?_
        refine WL.yldGs [(_, _)] rfl (blt rfl) rfl rfl rfl (fun hb => Y.move rfl rfl) ?_
        refine WL.yldGs [(_, _)] rfl (blt rfl) rfl rfl rfl (fun hb => Y.lss rfl (evg (evg rfl hb.1) hb.2.1) (evg (evg rfl hb.1) hb.2.1)) ?_
        refine WL.yldG rfl (blt rfl) rfl rfl rfl (fun hb => Y.or rfl (evg rfl hb) rfl (evg rfl hb)) ?_
        refine WL.yld rfl (blt rfl) rfl (Y.and rfl rfl rfl rfl) ?_
        refine WL.nil ?_
        refine WK.then_normal (k28 _ _ ?_)
        refine WC.sub [(0, _), (1, _), (2, _), (8, _), (9, _), (10, _), (75, _)] ⟨rfl, rfl, rfl, rfl, rfl, rfl, rfl, trivial⟩ ?_
        refine WC.cond rfl (fun h29 => ?_) (fun h29 => ?_)
        ·
          have p29 := (And.intro (dec_t (and_t h29).1) ((or_t (and_t h29).2).imp (fun h => h) (fun h => (dec_t h))))
          refine WC.seq (fun K30 k30 => ?_)
          refine WC.region rfl ?_
          refine WL.yld rfl (blt rfl) rfl (Y.move rfl rfl) ?_
          refine WL.yld rfl (blt rfl) rfl (Y.move rfl rfl) ?_
          have b31 : i < n_l := by omega
          refine WL.yld rfl (blt rfl) rfl (Y.indexLs i (h_l.ext xW) rfl Tryd.underlying30 ti3 rfl rfl rfl b31) ?_
          refine WL.yld rfl (blt rfl) rfl (Y.load1 rfl Tryd.underlying3 rfl rfl (Ls.at_eq (h_l.ext xW) b31 rfl)) ?_
          refine WL.yld rfl (blt rfl) rfl (Y.assign rfl rfl) ?_
          refine WL.nil ?_
          refine WK.then_normal (k30 _ _ ?_)
          refine WC.sub [(0, _), (1, _), (2, _), (8, _), (10, _)] ⟨rfl, rfl, rfl, rfl, rfl, trivial⟩ ?_
          refine WC.region rfl ?_
          refine WL.yld rfl (blt rfl) rfl (Y.assign rfl rfl) ?_
          refine WL.nil ?_
          refine WK.in_normal ?_
          refine WK.then_normal (k13 _ _ ?_)
          refine WC.region rfl ?_
          refine WL.yld rfl (blt rfl) rfl (Y.move rfl rfl) ?_
          refine WL.yld rfl (blt rfl) rfl (Y.add rfl rfl rfl (wrap_i64 (by first | omega | (dsimp only; omega)))) ?_
          refine WL.yld rfl (blt rfl) rfl (Y.assign rfl rfl) ?_
          refine WL.nil ?_
          refine WK.roundS _ [(10, .int .i64 (((i + 1) : Nat) : Int)), (8, .int .i64 _), (9, .bool _)] ⟨rfl, rfl, rfl, rfl, rfl, rfl, trivial⟩ ?_ ⟨(i + 1), _, _, rfl, rfl, xW, (by omega), (inv.take_ (by omega) (by rw [e_l]; exact h29))⟩
          show _ - (i + 1) < _ - i; omega
        ·
          have p29 := ((and_f h29).imp (fun h => (dec_f h)) (fun h => (dec_f (or_f h).2)))
          refine WC.skip ?_
          refine WK.in_normal ?_
          refine WK.then_normal (k13 _ _ ?_)
          refine WC.sub [(0, _), (1, _), (2, _), (8, _), (9, _), (10, _)] ⟨rfl, rfl, rfl, rfl, rfl, rfl, trivial⟩ ?_
          refine WC.region rfl ?_
          refine WL.yld rfl (blt rfl) rfl (Y.move rfl rfl) ?_
          refine WL.yld rfl (blt rfl) rfl (Y.add rfl rfl rfl (wrap_i64 (by first | omega | (dsimp only; omega)))) ?_
          refine WL.yld rfl (blt rfl) rfl (Y.assign rfl rfl) ?_
          refine WL.nil ?_
          refine WK.roundS _ [(10, .int .i64 (((i + 1) : Nat) : Int)), (8, .int .i64 z), (9, .bool b)] ⟨rfl, rfl, rfl, rfl, rfl, rfl, trivial⟩ ?_ ⟨(i + 1), z, b, rfl, rfl, xW, (by omega), (inv.pass (by rw [e_l]; exact h29))⟩
          show _ - (i + 1) < _ - i; omega
    ·
      have p12 := (dec_f h12)
      refine WC.exit ?_
      refine WK.then_exit ?_
      refine WK.then_exit ?_
      refine WK.in_exit ?_
      refine WK.then_normal (k7 _ _ ?_)
      refine WC.sub [(8, _)] ⟨rfl, trivial⟩ ?_
      refine WC.seq (fun K32 k32 => ?_)
      refine WC.region rfl ?_
      refine WL.yld rfl (blt rfl) rfl (Y.move rfl rfl) ?_
      refine WL.yld rfl (blt rfl) rfl (Y.assign rfl rfl) ?_
      refine WL.yld rfl (blt rfl) rfl (Y.assign rfl rfl) ?_
      refine WL.nil ?_
      refine WK.then_normal (k32 _ _ ?_)
      refine WC.sub [(6, _), (7, _)] ⟨rfl, rfl, trivial⟩ ?_
      refine WC.ret ?_
      clear k1 k2 k3 k6 k7 k8 k10 k11 k32
      refine WK.ret [_, _] rfl ⟨rfl, rfl, trivial⟩ ?_
      refine ⟨?_, xW⟩
      rw [← Nq.QS.fin hg (by rw [show l.length = i by omega]; exact inv)]; rfl
end G
end NqW

end Go.Proofs.YteaalclidffjgaaDoor
