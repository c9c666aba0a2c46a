/- The walk of the law. Conditions: what each theorem states. -/
import Derived.Test.YtcojkflgcccjeaaFlAwake
namespace Go.Proofs.Ytcojkflgcccjeaa
open Go Go.Eng Go.RowKit
set_option linter.unusedVariables false
namespace FlW
open R O V
namespace LFlowAccepts
theorem ti3 : TI Try.prog 3 (.int .i64 0) 1 8 := TI.mk (by kernel_rfl)
theorem ti38 : TI Try.prog 38 (.agg #[.int .i64 0, .int .i64 0, .string ⟨#[]⟩, .int .i64 0, .int .i64 0, .slice none 0 0]) 6 72 := TI.mk (by kernel_rfl)
theorem ti40 : TI Try.prog 40 (.agg #[.int .i64 0, .int .i64 0]) 2 16 := TI.mk (by kernel_rfl)
theorem ti44 : TI Try.prog 44 (.agg #[.int .i64 0, .int .i64 0, .int .i64 0, .int .i64 0, .string ⟨#[]⟩, .int .i64 0, .int .i64 0, .slice none 0 0, .int .i64 0, .int .i64 0]) 10 104 := TI.mk (by kernel_rfl)
theorem has9 : Has Try.prog 9 := ⟨_, Try.func9, rfl, by kernel_rfl⟩
theorem has11 : Has Try.prog 11 := ⟨_, Try.func11, rfl, by kernel_rfl⟩
theorem has16 : Has Try.prog 16 := ⟨_, Try.func16, rfl, by kernel_rfl⟩
theorem has22 : Has Try.prog 22 := ⟨_, Try.func22, rfl, by kernel_rfl⟩
theorem FlowAccepts_any (A_o : Option Addr) (n_o c_o : Nat) (o : List Fl.Ev) (w : World) (h_o : Ls w A_o n_o c_o Fl.Ev.c 10 o) :
    Calls Try.prog 7 #[.slice A_o n_o c_o] w fun e w' => e = .returned (.bool true) ∧ Ext w w' := by
  have xW := Ext.refl w
  have e_o := h_o.len
  have z_o := h_o.nle
  refine calls_of_WC (args := [.slice A_o n_o c_o]) Try.func7 rfl rfl (ble rfl) ?_
  refine WC.seq (fun K1 k1 => ?_)
  refine WC.region rfl ?_
  refine WL.yld rfl (blt rfl) rfl (Y.assign rfl rfl) ?_
  refine WL.nil ?_
  refine WK.then_normal (k1 _ _ ?_)
  refine WC.sub [(0, _)] ⟨rfl, trivial⟩ ?_
  refine WC.seq (fun K2 k2 => ?_)
  refine WC.seq (fun K3 k3 => ?_)
  refine WC.region rfl ?_
  refine WL.yld rfl (blt rfl) rfl (Y.move rfl rfl) ?_
  refine WL.yld rfl (blt rfl) rfl (Y.lenSl rfl rfl rfl Try.underlying22 rfl) ?_
  refine WL.yld rfl (blt rfl) rfl (Y.gtr rfl rfl rfl) ?_
  refine WL.nil ?_
  refine WK.then_normal (k3 _ _ ?_)
  refine WC.sub [(0, _), (7, _)] ⟨rfl, rfl, trivial⟩ ?_
  refine WC.cond rfl (fun h4 => ?_) (fun h4 => ?_)
  ·
    have p4 := (dec_t h4)
    refine WC.seq (fun K5 k5 => ?_)
    refine WC.region rfl ?_
    refine WL.call rfl (blt rfl) rfl rfl rfl has9 rfl (awake_any _ ) ?_
    rintro _ w6 ⟨rfl, x7⟩
    refine ⟨_, rfl, ?_⟩
    have xW := Ext.trans xW x7
    refine WL.yld rfl (blt rfl) rfl (Y.assign rfl rfl) ?_
    refine WL.nil ?_
    refine WK.then_normal (k5 _ _ ?_)
    refine WC.sub [(2, _)] ⟨rfl, trivial⟩ ?_
    refine WC.ret ?_
    refine WK.then_ret ?_
    clear k1 k2 k3 k5
    refine WK.ret [_] rfl ⟨rfl, trivial⟩ ?_
    exact ⟨ret1 (vb rfl), xW⟩
  ·
    have p4 := (dec_f h4)
    refine WC.skip ?_
    refine WK.then_normal (k2 _ _ ?_)
    refine WC.sub [(0, _)] ⟨rfl, trivial⟩ ?_
    refine WC.seq (fun K8 k8 => ?_)
    refine WC.seq (fun K9 k9 => ?_)
    refine WC.region rfl ?_
    refine WL.yld rfl (blt rfl) rfl (Y.assign rfl rfl) ?_
    refine WL.nil ?_
    refine WK.then_normal (k9 _ _ ?_)
    refine WC.block ?_
    refine WC.sub [(3, _), (0, _)] ⟨rfl, rfl, trivial⟩ ?_
    refine WC.loopS 1 (fun mz Ed W' => ∃ i : Nat, mz = n_o - i ∧ Ed = [(3, .int .i64 ((i : Nat) : Int))] ∧ Ext w W' ∧ (i ≤ n_o) ∧ (Fl.AccUp o i)) _ ⟨0, rfl, rfl, xW, (Nat.zero_le _), (fun j hj => absurd hj (Nat.not_lt_zero j))⟩ ?_
    rintro _ _ w10 ⟨i, rfl, rfl, xW, le_i, inv_i⟩
    refine WC.sub [(3, _), (0, _)] ⟨rfl, rfl, trivial⟩ ?_
    refine WC.seq (fun K11 k11 => ?_)
    refine WC.seq (fun K12 k12 => ?_)
    refine WC.region rfl ?_
    refine WL.yld rfl (blt rfl) rfl (Y.move rfl rfl) ?_
    refine WL.yld rfl (blt rfl) rfl (Y.move rfl rfl) ?_
    refine WL.yld rfl (blt rfl) rfl (Y.lenSl rfl rfl rfl Try.underlying22 rfl) ?_
    refine WL.yld rfl (blt rfl) rfl (Y.lss rfl rfl rfl) ?_
    refine WL.nil ?_
    refine WK.then_normal (k12 _ _ ?_)
    refine WC.sub [(0, _), (3, _), (12, _)] ⟨rfl, rfl, rfl, trivial⟩ ?_
    refine WC.cond rfl (fun h13 => ?_) (fun h13 => ?_)
    ·
      have p13 := (dec_t h13)
      refine WC.skip ?_
      refine WK.then_normal (k11 _ _ ?_)
      refine WC.sub [(0, _), (3, _)] ⟨rfl, rfl, trivial⟩ ?_
      refine WC.seq (fun K14 k14 => ?_)
      refine WC.block ?_
      refine WC.seq (fun K15 k15 => ?_)
      refine WC.region rfl ?_
      refine WL.yld rfl (blt rfl) rfl (Y.move rfl rfl) ?_
      refine WL.yld rfl (blt rfl) rfl (Y.move rfl rfl) ?_
      have b16 : i < n_o := by omega
      refine WL.yld rfl (blt rfl) rfl (Y.indexLs i (h_o.ext xW) rfl Try.underlying22 ti44 rfl rfl rfl b16) ?_
      refine WL.yld rfl (blt rfl) rfl (Y.loadS (cs := [_, _, _, _, _, _, _, _, _, _]) rfl Try.underlying44 rfl ti44 rfl (Ls.part_eq (h_o.ext xW) b16 rfl)) ?_
      refine WL.alloc rfl (blt rfl) rfl rfl ti44 rfl ?_
      intro g17 w18 e19 x20 m21
      have o_g17 := own_new xW e19
      have xW := Ext.trans xW x20
      refine WL.store (cs' := [_, _, _, _, _, _, _, _, _, _]) rfl rfl rfl rfl rfl rfl ti44 m21 (ble rfl) rfl rfl (fun w22 on23 m24 => ?_)
      have xW := Ext.only xW on23 o_g17
      refine WL.nil ?_
      refine WK.then_normal (k15 _ _ ?_)
      refine WC.sub [(0, _), (3, _), (4, _)] ⟨rfl, rfl, rfl, trivial⟩ ?_
      refine WC.seq (fun K25 k25 => ?_)
      refine WC.regionDq (by kernel_rfl) (by kernel_rfl) rfl ?_
      refine WQ.yld rfl (blt rfl) rfl (Y.fieldAddr rfl Try.underlying44 rfl ti40 (by decide) rfl) ?_
      refine WQ.yld rfl (blt rfl) rfl (Y.fieldAddr rfl Try.underlying40 rfl ti3 (by decide) rfl) ?_
      refine WQ.yld rfl (blt rfl) rfl (Y.load1 rfl Try.underlying3 rfl rfl (Blk.at_ext m24 rfl)) ?_
      refine WQ.yld rfl (blt rfl) rfl (Y.lss rfl rfl rfl) ?_
      refine WQ.yld rfl (blt rfl) rfl (Y.move rfl rfl) ?_
      refine WQ.yldG rfl (blt rfl) rfl rfl rfl (fun hb => Y.fieldAddr rfl Try.underlying44 rfl ti40 (by decide) rfl) ?_
      refine WQ.yldG rfl (blt rfl) rfl rfl rfl (fun hb => Y.fieldAddr rfl Try.underlying40 rfl ti3 (by decide) (evg rfl hb)) ?_
      refine WQ.yldG rfl (blt rfl) rfl rfl rfl (fun hb => Y.load1 rfl Try.underlying3 rfl (evg rfl hb) (Blk.at_ext m24 rfl)) ?_
      refine WQ.yldG rfl (blt rfl) rfl rfl rfl (fun hb => Y.gtr rfl (evg rfl hb) rfl) ?_
      refine WQ.yld rfl (blt rfl) rfl (Y.or rfl rfl rfl rfl) ?_
      refine WQ.yld rfl (blt rfl) rfl (Y.move rfl rfl) ?_
      refine WQ.yldG rfl (blt rfl) rfl rfl rfl (fun hb => Y.fieldAddr rfl Try.underlying44 rfl ti40 (by decide) rfl) ?_
      refine WQ.yldG rfl (blt rfl) rfl rfl rfl (fun hb => Y.fieldAddr rfl Try.underlying40 rfl ti3 (by decide) (evg rfl hb)) ?_
      refine WQ.yldG rfl (blt rfl) rfl rfl rfl (fun hb => Y.load1 rfl Try.underlying3 rfl (evg rfl hb) (Blk.at_ext m24 rfl)) ?_
      refine WQ.yldG rfl (blt rfl) rfl rfl rfl (fun hb => Y.lss rfl (evg rfl hb) rfl) ?_
      refine WQ.yld rfl (blt rfl) rfl (Y.or rfl rfl rfl rfl) ?_
      refine WQ.yld rfl (blt rfl) rfl (Y.move rfl rfl) ?_
      refine WQ.yldG rfl (blt rfl) rfl rfl rfl (fun hb => Y.fieldAddr rfl Try.underlying44 rfl ti40 (by decide) rfl) ?_
      refine WQ.yldG rfl (blt rfl) rfl rfl rfl (fun hb => Y.fieldAddr rfl Try.underlying40 rfl ti3 (by decide) (evg rfl hb)) ?_
      refine WQ.yldG rfl (blt rfl) rfl rfl rfl (fun hb => Y.load1 rfl Try.underlying3 rfl (evg rfl hb) (Blk.at_ext m24 rfl)) ?_
      refine WQ.yldG rfl (blt rfl) rfl rfl rfl (fun hb => Y.gtr rfl (evg rfl hb) rfl) ?_
      refine WQ.yld rfl (blt rfl) rfl (Y.or rfl rfl rfl rfl) ?_
      refine WQ.yld rfl (blt rfl) rfl (Y.move rfl rfl) ?_
      refine WQ.yldG rfl (blt rfl) rfl rfl rfl (fun hb => Y.fieldAddr rfl Try.underlying44 rfl ti38 (by decide) rfl) ?_
      refine WQ.yldG rfl (blt rfl) rfl rfl rfl (fun hb => Y.fieldAddr rfl Try.underlying38 rfl ti3 (by decide) (evg rfl hb)) ?_
      refine WQ.yldG rfl (blt rfl) rfl rfl rfl (fun hb => Y.load1 rfl Try.underlying3 rfl (evg rfl hb) (Blk.at_ext m24 rfl)) ?_
      refine WQ.yldG rfl (blt rfl) rfl rfl rfl (fun hb => Y.lss rfl (evg rfl hb) rfl) ?_
      refine WQ.yld rfl (blt rfl) rfl (Y.or rfl rfl rfl rfl) ?_
      refine WQ.yld rfl (blt rfl) rfl (Y.move rfl rfl) ?_
      refine WQ.yldG rfl (blt rfl) rfl rfl rfl (fun hb => Y.fieldAddr rfl Try.underlying44 rfl ti38 (by decide) rfl) ?_
      refine WQ.yldG rfl (blt rfl) rfl rfl rfl (fun hb => Y.fieldAddr rfl Try.underlying38 rfl ti3 (by decide) (evg rfl hb)) ?_
      refine WQ.yldG rfl (blt rfl) rfl rfl rfl (fun hb => Y.load1 rfl Try.underlying3 rfl (evg rfl hb) (Blk.at_ext m24 rfl)) ?_
      refine WQ.yldG rfl (blt rfl) rfl rfl rfl (fun hb => Y.gtr rfl (evg rfl hb) rfl) ?_
      refine WQ.yld rfl (blt rfl) rfl (Y.or rfl rfl rfl rfl) ?_
      refine WQ.yld rfl (blt rfl) rfl (Y.move rfl rfl) ?_
      refine WQ.yldG rfl (blt rfl) rfl rfl rfl (fun hb => Y.move rfl rfl) ?_
      refine WQ.yldG rfl (blt rfl) rfl rfl rfl (fun hb => Y.gtr rfl (evg rfl hb) rfl) ?_
      refine WQ.yldG rfl (blt rfl) rfl rfl rfl (fun hb => Y.move rfl (evg rfl hb)) ?_
      refine WQ.yldGs [(_, _)] rfl (blt rfl) rfl rfl rfl (fun hb => Y.loadS rfl Try.underlying44 rfl ti44 rfl (Blk.row_ext m24)) ?_
      refine WQ.callGs [(_, _)] rfl (blt rfl) rfl rfl rfl rfl rfl has22 (fun hb => (evs_cons (evg (evg rfl hb.1) hb.2.1) evs_nil)) (fun hb w hw => calls_ext hw (rtime_any _ _ )) ?_
      refine WQ.yldGs [(_, _)] rfl (blt rfl) rfl rfl rfl (fun hb => Y.move rfl rfl) ?_
      refine WQ.yldGs [(_, _)] rfl (blt rfl) rfl rfl rfl (fun hb => Y.move rfl rfl) ?_
      refine WQ.yldGs [(_, _)] rfl (blt rfl) rfl rfl rfl (fun hb => Y.sub rfl (evg (evg rfl hb.1) hb.2.1) rfl (wrap_i64 (by have q0 := (And.intro (And.intro (And.intro (And.intro (And.intro (dec_f (or_f (or_f (or_f (or_f (or_f hb.1).1).1).1).1).1) (dec_f (or_f (or_f (or_f (or_f (or_f hb.1).1).1).1).1).2)) (dec_f (or_f (or_f (or_f (or_f hb.1).1).1).1).2)) (dec_f (or_f (or_f (or_f hb.1).1).1).2)) (dec_f (or_f (or_f hb.1).1).2)) (dec_f (or_f hb.1).2)); have q1 := (dec_t hb.2.1); first | omega | (dsimp only; omega)))) ?_
      refine WQ.yldGs [(_, _)] rfl (blt rfl) rfl rfl rfl (fun hb => Y.indexLs (i - 1) (h_o.ext xW) rfl Try.underlying22 ti44 (evg (evg rfl hb.1) hb.2.1) (evg (evg rfl hb.1) hb.2.1) (by have q0 := (And.intro (And.intro (And.intro (And.intro (And.intro (dec_f (or_f (or_f (or_f (or_f (or_f hb.1).1).1).1).1).1) (dec_f (or_f (or_f (or_f (or_f (or_f hb.1).1).1).1).1).2)) (dec_f (or_f (or_f (or_f (or_f hb.1).1).1).1).2)) (dec_f (or_f (or_f (or_f hb.1).1).1).2)) (dec_f (or_f (or_f hb.1).1).2)) (dec_f (or_f hb.1).2)); have q1 := (dec_t hb.2.1); omega) (by have q0 := (And.intro (And.intro (And.intro (And.intro (And.intro (dec_f (or_f (or_f (or_f (or_f (or_f hb.1).1).1).1).1).1) (dec_f (or_f (or_f (or_f (or_f (or_f hb.1).1).1).1).1).2)) (dec_f (or_f (or_f (or_f (or_f hb.1).1).1).1).2)) (dec_f (or_f (or_f (or_f hb.1).1).1).2)) (dec_f (or_f (or_f hb.1).1).2)) (dec_f (or_f hb.1).2)); have q1 := (dec_t hb.2.1); omega)) ?_
      refine WQ.yldGs [(_, _)] rfl (blt rfl) rfl rfl rfl (fun hb => Y.loadS (cs := [_, _, _, _, _, _, _, _, _, _]) rfl Try.underlying44 rfl ti44 (evg (evg rfl hb.1) hb.2.1) (Ls.part_ext (h_o.ext xW) (by have q0 := (And.intro (And.intro (And.intro (And.intro (And.intro (dec_f (or_f (or_f (or_f (or_f (or_f hb.1).1).1).1).1).1) (dec_f (or_f (or_f (or_f (or_f (or_f hb.1).1).1).1).1).2)) (dec_f (or_f (or_f (or_f (or_f hb.1).1).1).1).2)) (dec_f (or_f (or_f (or_f hb.1).1).1).2)) (dec_f (or_f (or_f hb.1).1).2)) (dec_f (or_f hb.1).2)); have q1 := (dec_t hb.2.1); omega) rfl)) ?_
      refine WQ.callGs [(_, _)] rfl (blt rfl) rfl rfl rfl rfl rfl has22 (fun hb => (evs_cons (evg (evg rfl hb.1) hb.2.1) evs_nil)) (fun hb w hw => calls_ext hw (rtime_any _ _ )) ?_
      refine WQ.yldGs [(_, _)] rfl (blt rfl) rfl rfl rfl (fun hb => Y.lss rfl (evg (evg rfl hb.1) hb.2.1) (evg (evg rfl hb.1) hb.2.1)) ?_
      refine WQ.yldG rfl (blt rfl) rfl rfl rfl (fun hb => Y.and rfl (evg rfl hb) (evg rfl hb) rfl) ?_
      refine WQ.yld rfl (blt rfl) rfl (Y.or rfl rfl rfl rfl) ?_
      refine WQ.done (fun w26 x27 => ?_)
      have m24 := m24.ext x27
      have xW := Ext.trans xW x27
      refine WK.then_normal (k25 _ _ ?_)
      refine WC.sub [(0, _), (3, _), (67, _)] ⟨rfl, rfl, rfl, trivial⟩ ?_
      refine WC.cond rfl (fun h28 => ?_) (fun h28 => ?_)
      ·
        have p28 := ((or_t h28).imp (fun h => ((or_t h).imp (fun h => ((or_t h).imp (fun h => ((or_t h).imp (fun h => ((or_t h).imp (fun h => ((or_t h).imp (fun h => (dec_t h)) (fun h => (dec_t h)))) (fun h => (dec_t h)))) (fun h => (dec_t h)))) (fun h => (dec_t h)))) (fun h => (dec_t h)))) (fun h => (And.intro (dec_t (and_t h).1) (dec_t (and_t h).2))))
        refine WC.seq (fun K29 k29 => ?_)
        refine WC.region rfl ?_
        refine WL.call rfl (blt rfl) rfl rfl rfl has9 rfl (awake_any _ ) ?_
        rintro _ w30 ⟨rfl, x31⟩
        refine ⟨_, rfl, ?_⟩
        have xW := Ext.trans xW x31
        refine WL.yld rfl (blt rfl) rfl (Y.assign rfl rfl) ?_
        refine WL.nil ?_
        refine WK.then_normal (k29 _ _ ?_)
        refine WC.sub [(2, _)] ⟨rfl, trivial⟩ ?_
        refine WC.ret ?_
        refine WK.in_ret ?_
        refine WK.then_ret ?_
        refine WK.then_ret ?_
        refine WK.in_ret ?_
        refine WK.then_ret ?_
        clear k1 k2 k3 k8 k9 k11 k12 k14 k15 k25 k29
        refine WK.ret [_] rfl ⟨rfl, trivial⟩ ?_
        exact ⟨ret1 (vb rfl), xW⟩
      ·
        have p28 := (And.intro (And.intro (And.intro (And.intro (And.intro (And.intro (dec_f (or_f (or_f (or_f (or_f (or_f (or_f h28).1).1).1).1).1).1) (dec_f (or_f (or_f (or_f (or_f (or_f (or_f h28).1).1).1).1).1).2)) (dec_f (or_f (or_f (or_f (or_f (or_f h28).1).1).1).1).2)) (dec_f (or_f (or_f (or_f (or_f h28).1).1).1).2)) (dec_f (or_f (or_f (or_f h28).1).1).2)) (dec_f (or_f (or_f h28).1).2)) ((and_f (or_f h28).2).imp (fun h => (dec_f h)) (fun h => (dec_f h))))
        refine WC.skip ?_
        refine WK.in_normal ?_
        refine WK.then_normal (k14 _ _ ?_)
        refine WC.sub [(0, _), (3, _)] ⟨rfl, rfl, trivial⟩ ?_
        refine WC.region rfl ?_
        refine WL.yld rfl (blt rfl) rfl (Y.move rfl rfl) ?_
        refine WL.yld rfl (blt rfl) rfl (Y.add rfl rfl rfl (wrap_i64 (by first | omega | (dsimp only; omega)))) ?_
        refine WL.yld rfl (blt rfl) rfl (Y.assign rfl rfl) ?_
        refine WL.nil ?_
        refine WK.roundS _ [(3, .int .i64 (((i + 1) : Nat) : Int))] ⟨rfl, rfl, trivial⟩ ?_ ⟨(i + 1), rfl, rfl, xW, (by omega), (Fl.acc_step inv_i (by unfold Fl.okEv; exact h28))⟩
        show _ - (i + 1) < _ - i; omega
    ·
      have p13 := (dec_f h13)
      refine WC.exit ?_
      refine WK.then_exit ?_
      refine WK.then_exit ?_
      refine WK.in_exit ?_
      refine WK.then_normal (k8 _ _ ?_)
      refine WC.sub [(0, _)] ⟨rfl, trivial⟩ ?_
      refine WC.seq (fun K32 k32 => ?_)
      refine WC.region rfl ?_
      refine WL.yld rfl (blt rfl) rfl (Y.move rfl rfl) ?_
      refine WL.call rfl (blt rfl) rfl rfl rfl has11 rfl (of_any _ _ _ _ _ (h_o.ext xW) (by omega)) ?_
      rintro _ w33 ⟨v35, rfl, ow36, x34⟩
      refine ⟨_, rfl, ?_⟩
      have ow36 := OwnL.base_le ow36 xW.size
      have xW := Ext.trans xW x34
      obtain ⟨A37, n38, c39, rfl, hl40⟩ := OwnL.opened ow36 (fun _ => rfl) (by decide)
      have e_n38 := hl40.len
      try simp only [List.length_append, List.length_cons, List.length_nil, List.length_reverse, List.length_drop, List.length_take] at e_n38
      have z_n38 := hl40.nle
      refine WL.call rfl (blt rfl) rfl rfl rfl has16 rfl (check_any _ _ _ _ _ hl40) ?_
      rintro _ w41 ⟨rfl, x42⟩
      refine ⟨_, rfl, ?_⟩
      have ow36 := ow36.ext x42
      have hl40 := hl40.ext x42
      have xW := Ext.trans xW x42
      refine WL.yld rfl (blt rfl) rfl (Yld.cast (Y.eql rfl rfl rfl) (vb (b := true) (by rw [Fl.acc_chk (show Fl.AccUp o o.length from (show i = o.length from by omega) ▸ inv_i)]; rfl))) ?_
      refine WL.yld rfl (blt rfl) rfl (Y.move rfl rfl) ?_
      refine WL.callW rfl (blt rfl) rfl rfl rfl rfl rfl has9 rfl (awake_any _ ) ?_
      rintro _ w43 ⟨rfl, x44⟩
      refine ⟨_, rfl, ?_⟩
      have ow36 := ow36.ext x44
      have hl40 := hl40.ext x44
      have xW := Ext.trans xW x44
      refine WL.yld rfl (blt rfl) rfl (Y.pickT rfl rfl rfl) ?_
      refine WL.yld rfl (blt rfl) rfl (Y.assign rfl rfl) ?_
      refine WL.nil ?_
      refine WK.then_normal (k32 _ _ ?_)
      refine WC.sub [(2, _)] ⟨rfl, trivial⟩ ?_
      refine WC.ret ?_
      clear k1 k2 k3 k8 k9 k11 k12 k32
      refine WK.ret [_] rfl ⟨rfl, trivial⟩ ?_
      exact ⟨ret1 (vb rfl), xW⟩
end LFlowAccepts
end FlW

end Go.Proofs.Ytcojkflgcccjeaa
