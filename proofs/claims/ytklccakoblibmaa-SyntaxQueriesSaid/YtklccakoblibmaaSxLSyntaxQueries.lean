/- The walk of SyntaxQueries. Conditions: what each theorem states. -/
import Derived.Test.YtklccakoblibmaaSxCal
import Derived.Test.YtklccakoblibmaaSxLw
namespace Go.Proofs.Ytklccakoblibmaa
open Go Go.Eng Go.RowKit
set_option linter.unusedVariables false
set_option linter.unusedSimpArgs false
namespace SxW
open B C D E G S T U V W X Y Z Z2 AA AB
namespace SyntaxQueries
theorem ti9 : TI Try.prog 9 (.string ⟨#[]⟩) 1 16 := TI.mk (by kernel_rfl)
theorem ti41 : TI Try.prog 41 (.agg #[.int .i64 0, .int .i64 0, .string ⟨#[]⟩, .int .i64 0, .int .i64 0, .string ⟨#[]⟩, .slice none 0 0, .slice none 0 0, .slice none 0 0, .slice none 0 0, .slice none 0 0, .int .i64 0, .string ⟨#[]⟩]) 13 208 := TI.mk (by kernel_rfl)
theorem ti44 : TI Try.prog 44 (.slice none 0 0) 1 24 := TI.mk (by kernel_rfl)
theorem ti46 : TI Try.prog 46 (.agg #[.string ⟨#[]⟩, .slice none 0 0]) 2 40 := TI.mk (by kernel_rfl)
theorem has9 : Has Try.prog 9 := ⟨_, Try.func9, rfl, by kernel_rfl⟩
theorem has17 : Has Try.prog 17 := ⟨_, Try.func17, rfl, by kernel_rfl⟩
theorem has19 : Has Try.prog 19 := ⟨_, Try.func19, rfl, by kernel_rfl⟩
theorem has20 : Has Try.prog 20 := ⟨_, Try.func20, rfl, by kernel_rfl⟩
theorem has21 : Has Try.prog 21 := ⟨_, Try.func21, rfl, by kernel_rfl⟩
theorem pl46 : PL Try.prog 46 [.string ⟨#[]⟩, .slice none 0 0] [(0, 1), (1, 1)] := PL.mk (zero := [.string ⟨#[]⟩, .slice none 0 0]) ti46 Try.underlying46 (by kernel_rfl)
theorem SyntaxQueries_any (d_x : Nat) (x : Sx.Q) (n : Int) (w : World) (g_x : Sx.GoodQ d_x w x) (r_n : 0 ≤ n ∧ n ≤ 255) :
    Calls Try.prog 5 #[.agg #[.string x.fr, .slice x.A x.n x.c], .int .u8 n] w fun e w' => e = .returned (.bool true) ∧ Ext w w' := by
  have xW := Ext.refl w
  have e_x := g_x.l.len
  have z_x := g_x.l.nle
  have mx := g_x.l.le
  have mx2 := g_x.l.max
  refine calls_of_WC (args := [.agg #[.string x.fr, .slice x.A x.n x.c], .int .u8 n]) Try.func5 rfl rfl (ble rfl) ?_
  refine WC.seq (fun K1 k1 => ?_)
  refine WC.region rfl ?_
  refine WL.box rfl (blt rfl) rfl rfl rfl rfl ?_
  intro g2 w3 e4 x5 m6
  have o_g2 := own_new xW e4
  have xW := Ext.trans xW x5
  refine WL.yld rfl (blt rfl) rfl (Y.assign rfl rfl) ?_
  refine WL.nil ?_
  refine WK.then_normal (k1 _ _ ?_)
  refine WC.sub [(1, _), (2, _)] ⟨rfl, rfl, trivial⟩ ?_
  refine WC.seq (fun K7 k7 => ?_)
  refine WC.seq (fun K8 k8 => ?_)
  refine WC.region rfl ?_
  refine WL.call rfl (blt rfl) rfl rfl rfl has9 rfl (awake_any _) ?_
  rintro _ w9 ⟨rfl, x10⟩
  refine ⟨_, rfl, ?_⟩
  have m6 := m6.ext x10
  have xW := Ext.trans xW x10
  refine WL.yld rfl (blt rfl) rfl (Y.not rfl rfl) ?_
  refine WL.yld rfl (blt rfl) rfl (Y.move rfl rfl) ?_
  refine WL.yldW rfl (blt rfl) rfl rfl rfl (Y.loadS rfl Try.underlying46 rfl ti46 rfl (Blk.row_eq m6)) ?_
  refine WL.callW rfl (blt rfl) rfl rfl rfl rfl rfl has19 rfl (fewq_any _ _ _ (g_x.ext xW)) ?_
  rintro _ w11 ⟨b13, rfl, hfx, x12⟩
  refine ⟨_, rfl, ?_⟩
  have m6 := m6.ext x12
  have xW := Ext.trans xW x12
  refine WL.yldW rfl (blt rfl) rfl rfl rfl (Y.not rfl rfl) ?_
  refine WL.yld rfl (blt rfl) rfl (Y.pickF rfl rfl rfl) ?_
  refine WL.nil ?_
  refine WK.then_normal (k8 _ _ ?_)
  refine WC.sub [(1, _), (2, _), (14, _)] ⟨rfl, rfl, rfl, trivial⟩ ?_
  refine WC.cond rfl (fun h14 => ?_) (fun h14 => ?_)
  ·
    refine WC.seq (fun K15 k15 => ?_)
    refine WC.region rfl ?_
    refine WL.call rfl (blt rfl) rfl rfl rfl has9 rfl (awake_any _) ?_
    rintro _ w16 ⟨rfl, x17⟩
    refine ⟨_, rfl, ?_⟩
    have m6 := m6.ext x17
    have xW := Ext.trans xW x17
    refine WL.yld rfl (blt rfl) rfl (Y.assign rfl rfl) ?_
    refine WL.nil ?_
    refine WK.then_normal (k15 _ _ ?_)
    refine WC.sub [(4, _)] ⟨rfl, trivial⟩ ?_
    refine WC.ret ?_
    refine WK.then_ret ?_
    clear k1 k7 k8 k15
    refine WK.ret [_] rfl ⟨rfl, trivial⟩ ?_
    exact ⟨rfl, xW⟩
  ·
    have f_x := hfx (by simpa using h14)
    have fn := f_x.n
    refine WC.skip ?_
    refine WK.then_normal (k7 _ _ ?_)
    refine WC.sub [(1, _), (2, _)] ⟨rfl, rfl, trivial⟩ ?_
    refine WC.seq (fun K18 k18 => ?_)
    refine WC.region rfl ?_
    refine WL.yld rfl (blt rfl) rfl (Y.loadS rfl Try.underlying46 rfl ti46 rfl (Blk.row_eq m6)) ?_
    refine WL.call rfl (blt rfl) rfl rfl rfl has20 rfl (query_any _ _ _ (g_x.ext xW) f_x) ?_
    rintro _ w19 ⟨rfl, x20⟩
    refine ⟨_, rfl, ?_⟩
    have m6 := m6.ext x20
    have xW := Ext.trans xW x20
    refine WL.yld rfl (blt rfl) rfl (Y.assign rfl rfl) ?_
    refine WL.nil ?_
    refine WK.then_normal (k18 _ _ ?_)
    refine WC.sub [(1, _), (2, _), (5, _)] ⟨rfl, rfl, rfl, trivial⟩ ?_
    refine WC.seq (fun K21 k21 => ?_)
    refine WC.seq (fun K22 k22 => ?_)
    refine WC.region rfl ?_
    refine WL.yld rfl (blt rfl) rfl (Y.move rfl rfl) ?_
    refine WL.yld rfl (blt rfl) rfl (Y.loadS rfl Try.underlying46 rfl ti46 rfl (Blk.row_eq m6)) ?_
    refine WL.call rfl (blt rfl) rfl rfl rfl has21 rfl (rquery_any _ _ _ (g_x.ext xW) f_x) ?_
    rintro _ w23 ⟨rfl, x24⟩
    refine ⟨_, rfl, ?_⟩
    have m6 := m6.ext x24
    have xW := Ext.trans xW x24
    refine WL.yld rfl (blt rfl) rfl (Y.neq rfl rfl rfl) ?_
    refine WL.nil ?_
    refine WK.then_normal (k22 _ _ ?_)
    refine WC.sub [(1, _), (2, _), (5, _), (21, _)] ⟨rfl, rfl, rfl, rfl, trivial⟩ ?_
    refine WC.cond rfl (fun h25 => ?_) (fun h25 => ?_)
    ·
      clear k1 k7 k8 k18 k21 k22
      exact False.elim (by have q := h25; simp at q)
    ·
      have p25 := (eq_t (not_f h25))
      refine WC.skip ?_
      refine WK.then_normal (k21 _ _ ?_)
      refine WC.sub [(1, _), (2, _), (5, _)] ⟨rfl, rfl, rfl, trivial⟩ ?_
      refine WC.seq (fun K26 k26 => ?_)
      refine WC.seq (fun K27 k27 => ?_)
      refine WC.region rfl ?_
      refine WL.yld rfl (blt rfl) rfl (Y.move rfl rfl) ?_
      refine WL.yld rfl (blt rfl) rfl (Y.neq rfl rfl rfl) ?_
      refine WL.nil ?_
      refine WK.then_normal (k27 _ _ ?_)
      refine WC.sub [(1, _), (2, _), (23, _)] ⟨rfl, rfl, rfl, trivial⟩ ?_
      refine WC.cond rfl (fun h28 => ?_) (fun h28 => ?_)
      ·
        have p28 := (eq_f (not_t h28))
        refine WC.seq (fun K29 k29 => ?_)
        refine WC.region rfl ?_
        refine WL.yld rfl (blt rfl) rfl (Y.assign rfl rfl) ?_
        refine WL.nil ?_
        refine WK.then_normal (k29 _ _ ?_)
        refine WC.sub [(4, _)] ⟨rfl, trivial⟩ ?_
        refine WC.ret ?_
        refine WK.then_ret ?_
        clear k1 k7 k8 k18 k21 k22 k26 k27 k29
        refine WK.ret [_] rfl ⟨rfl, trivial⟩ ?_
        exact ⟨ret1 (vb (by simp)), xW⟩
      ·
        have p28 := (eq_t (not_f h28))
        have hz0 : Sx.qryE x = 0 := by have q := h28; simpa using q
        have hzs := (Sx.qry_zero hz0).2.2
        obtain ⟨f, hf⟩ : ∃ f : Nat, n % ((x.n : Int) + 1) = ((f : Nat) : Int) := ⟨(n % ((x.n : Int) + 1)).toNat, by have := Int.emod_nonneg n (b := (x.n : Int) + 1) (by omega); omega⟩
        have hf2 : f ≤ x.n := by have := Int.emod_lt_of_pos n (b := (x.n : Int) + 1) (by omega); omega
        refine WC.skip ?_
        refine WK.then_normal (k26 _ _ ?_)
        refine WC.sub [(1, _), (2, _)] ⟨rfl, rfl, trivial⟩ ?_
        refine WC.seq (fun K30 k30 => ?_)
        refine WC.region rfl ?_
        refine WL.yld rfl (blt rfl) rfl (Y.move rfl rfl) ?_
        refine WL.yld rfl (blt rfl) rfl (Y.convInt rfl Try.underlying5 Try.underlying3 rfl (wrap_i64 (by first | omega | (dsimp only; omega)))) ?_
        refine WL.yld rfl (blt rfl) rfl (Y.fieldAddr rfl Try.underlying46 rfl ti44 (by decide) rfl) ?_
        refine WL.yld rfl (blt rfl) rfl (Y.load1 rfl Try.underlying44 rfl rfl (Blk.at_eq m6 rfl)) ?_
        refine WL.yld rfl (blt rfl) rfl (Y.lenSl rfl rfl rfl Try.underlying44 rfl) ?_
        refine WL.yld rfl (blt rfl) rfl (Y.add rfl rfl rfl (wrap_i64 (by first | omega | (dsimp only; omega)))) ?_
        refine WL.yld rfl (blt rfl) rfl (Yld.cast (Y.rem rfl rfl rfl (by omega) (rem_pos (by omega))) (vi hf)) ?_
        refine WL.yld rfl (blt rfl) rfl (Y.assign rfl rfl) ?_
        refine WL.nil ?_
        refine WK.then_normal (k30 _ _ ?_)
        refine WC.sub [(2, _), (6, _)] ⟨rfl, rfl, trivial⟩ ?_
        refine WC.seq (fun K31 k31 => ?_)
        refine WC.seq (fun K32 k32 => ?_)
        refine WC.region rfl ?_
        refine WL.yld rfl (blt rfl) rfl (Y.assign rfl rfl) ?_
        refine WL.nil ?_
        refine WK.then_normal (k32 _ _ ?_)
        refine WC.block ?_
        refine WC.sub [(7, _), (2, _), (6, _)] ⟨rfl, rfl, rfl, trivial⟩ ?_
        refine WC.loopS 1 (fun mz Ed W' => ∃ i : Nat, mz = x.n - i ∧ Ed = [(7, .int .i64 ((i : Nat) : Int))] ∧ Ext w W' ∧ Blk W' g2 46 _ ∧ (i ≤ x.n)) _ ⟨0, rfl, rfl, xW, m6, (Nat.zero_le _)⟩ ?_
        rintro _ _ w33 ⟨i, rfl, rfl, xW, m6, le_i⟩
        refine WC.sub [(7, _), (2, _), (6, _)] ⟨rfl, rfl, rfl, trivial⟩ ?_
        refine WC.seq (fun K34 k34 => ?_)
        refine WC.seq (fun K35 k35 => ?_)
        refine WC.region rfl ?_
        refine WL.yld rfl (blt rfl) rfl (Y.move rfl rfl) ?_
        refine WL.yld rfl (blt rfl) rfl (Y.fieldAddr rfl Try.underlying46 rfl ti44 (by decide) rfl) ?_
        refine WL.yld rfl (blt rfl) rfl (Y.load1 rfl Try.underlying44 rfl rfl (Blk.at_eq m6 rfl)) ?_
        refine WL.yld rfl (blt rfl) rfl (Y.lenSl rfl rfl rfl Try.underlying44 rfl) ?_
        refine WL.yld rfl (blt rfl) rfl (Y.lss rfl rfl rfl) ?_
        refine WL.nil ?_
        refine WK.then_normal (k35 _ _ ?_)
        refine WC.sub [(2, _), (6, _), (7, _), (35, _)] ⟨rfl, rfl, rfl, rfl, trivial⟩ ?_
        refine WC.cond rfl (fun h36 => ?_) (fun h36 => ?_)
        ·
          have p36 := (dec_t h36)
          refine WC.skip ?_
          refine WK.then_normal (k34 _ _ ?_)
          refine WC.sub [(2, _), (6, _), (7, _)] ⟨rfl, rfl, rfl, trivial⟩ ?_
          refine WC.seq (fun K37 k37 => ?_)
          refine WC.block ?_
          refine WC.seq (fun K38 k38 => ?_)
          refine WC.region rfl ?_
          refine WL.yld rfl (blt rfl) rfl (Y.fieldAddr rfl Try.underlying46 rfl ti44 (by decide) rfl) ?_
          refine WL.yld rfl (blt rfl) rfl (Y.load1 rfl Try.underlying44 rfl rfl (Blk.at_eq m6 rfl)) ?_
          refine WL.yld rfl (blt rfl) rfl (Y.move rfl rfl) ?_
          have b39 : i < x.n := by omega
          refine WL.yld rfl (blt rfl) rfl (Y.indexLs i (g_x.l.ext xW) rfl Try.underlying44 ti41 rfl rfl rfl b39) ?_
          refine WL.yld rfl (blt rfl) rfl (Y.loadS (cs := [_, _, _, _, _, _, _, _, _, _, _, _, _]) rfl Try.underlying41 rfl ti41 rfl (Ls.part_eq (g_x.l.ext xW) b39 rfl)) ?_
          refine WL.call rfl (blt rfl) rfl rfl rfl has17 rfl (step_any _ _ _ ((g_x.s _ (bang_mem (show i < x.l.length from by omega))).ext xW) (f_x.s _ (bang_mem (show i < x.l.length from by omega)))) ?_
          rintro _ w40 ⟨rfl, x41⟩
          refine ⟨_, rfl, ?_⟩
          have m6 := m6.ext x41
          have xW := Ext.trans xW x41
          refine WL.yld rfl (blt rfl) rfl (Y.neq rfl rfl rfl) ?_
          refine WL.nil ?_
          refine WK.then_normal (k38 _ _ ?_)
          refine WC.sub [(2, _), (6, _), (7, _), (44, _)] ⟨rfl, rfl, rfl, rfl, trivial⟩ ?_
          refine WC.cond rfl (fun h42 => ?_) (fun h42 => ?_)
          ·
            clear k1 k7 k8 k18 k21 k22 k26 k27 k30 k31 k32 k34 k35 k37 k38
            exact False.elim (by have q := h42; rw [hzs i (by omega)] at q; simp at q)
          ·
            have p42 := (eq_t (not_f h42))
            refine WC.skip ?_
            refine WK.in_normal ?_
            refine WK.then_normal (k37 _ _ ?_)
            refine WC.sub [(2, _), (6, _), (7, _)] ⟨rfl, rfl, rfl, trivial⟩ ?_
            refine WC.region rfl ?_
            refine WL.yld rfl (blt rfl) rfl (Y.move rfl rfl) ?_
            refine WL.yld rfl (blt rfl) rfl (Y.add rfl rfl rfl (wrap_i64 (by first | omega | (dsimp only; omega)))) ?_
            refine WL.yld rfl (blt rfl) rfl (Y.assign rfl rfl) ?_
            refine WL.nil ?_
            refine WK.roundS _ [(7, .int .i64 (((i + 1) : Nat) : Int))] ⟨rfl, rfl, rfl, trivial⟩ ?_ ⟨(i + 1), rfl, rfl, xW, m6, (by omega)⟩
            show _ - (i + 1) < _ - i; omega
        ·
          have p36 := (dec_f h36)
          refine WC.exit ?_
          refine WK.then_exit ?_
          refine WK.then_exit ?_
          refine WK.in_exit ?_
          refine WK.then_normal (k31 _ _ ?_)
          refine WC.sub [(2, _), (6, _)] ⟨rfl, rfl, trivial⟩ ?_
          refine WC.seq (fun K43 k43 => ?_)
          refine WC.regionDq (by kernel_rfl) (by kernel_rfl) rfl ?_
          refine WQ.yld rfl (blt rfl) rfl (Y.fieldAddr rfl Try.underlying46 rfl ti9 (by decide) rfl) ?_
          refine WQ.yld rfl (blt rfl) rfl (Y.load1 rfl Try.underlying9 rfl rfl (Blk.at_ext m6 rfl)) ?_
          refine WQ.yld rfl (blt rfl) rfl (Y.fieldAddr rfl Try.underlying46 rfl ti44 (by decide) rfl) ?_
          refine WQ.yld rfl (blt rfl) rfl (Y.load1 rfl Try.underlying44 rfl rfl (Blk.at_ext m6 rfl)) ?_
          refine WQ.yld rfl (blt rfl) rfl (Y.move rfl rfl) ?_
          have b44 : f ≤ x.n := by omega
          refine WQ.yld rfl (blt rfl) rfl (Y.sliceL f rfl Try.underlying44 ti41 rfl rfl rfl b44) ?_
          refine WQ.yld rfl (blt rfl) rfl (Y.build (cells := [_, _]) rfl pl46 rfl rfl) ?_
          refine WQ.call rfl (blt rfl) rfl rfl rfl has20 rfl (fun w hw => calls_ext hw (calls_cast (by rw [Sx.qfrom_zero hz0 f]) (query_any _ ⟨x.fr, _, x.n - f, x.c - f, x.l.drop f⟩ _ ⟨((g_x.ext (Ext.trans xW hw)).l.drop (show f ≤ x.n by omega)), fun y hy => (g_x.ext (Ext.trans xW hw)).s _ (List.mem_of_mem_drop hy)⟩ (Sx.qfrom_few f_x _ _ _ _)))) ?_
          refine WQ.yld rfl (blt rfl) rfl (Y.eql rfl rfl rfl) ?_
          refine WQ.yld rfl (blt rfl) rfl (Y.move rfl rfl) ?_
          refine WQ.yldG rfl (blt rfl) rfl rfl rfl (fun hb => Y.fieldAddr rfl Try.underlying46 rfl ti9 (by decide) rfl) ?_
          refine WQ.yldG rfl (blt rfl) rfl rfl rfl (fun hb => Y.load1 rfl Try.underlying9 rfl (evg rfl hb) (Blk.at_ext m6 rfl)) ?_
          refine WQ.yldG rfl (blt rfl) rfl rfl rfl (fun hb => Y.fieldAddr rfl Try.underlying46 rfl ti44 (by decide) rfl) ?_
          refine WQ.yldG rfl (blt rfl) rfl rfl rfl (fun hb => Y.load1 rfl Try.underlying44 rfl (evg rfl hb) (Blk.at_ext m6 rfl)) ?_
          refine WQ.yldG rfl (blt rfl) rfl rfl rfl (fun hb => Y.move rfl rfl) ?_
          refine WQ.yldG rfl (blt rfl) rfl rfl rfl (fun hb => Y.sliceH f rfl Try.underlying44 ti41 (evg rfl hb) (evg rfl hb) rfl (Nat.le_trans (by have q0 := (eq_t hb); omega) (g_x.l.ext xW).le)) ?_
          refine WQ.yldG rfl (blt rfl) rfl rfl rfl (fun hb => Y.build (cells := [_, _]) rfl pl46 (evp_cons (evg rfl hb) (evp_cons (evg rfl hb) evp_nil)) rfl) ?_
          refine WQ.callG rfl (blt rfl) rfl rfl rfl rfl rfl has20 (fun hb => (evs_cons (evg rfl hb) evs_nil)) (fun hb w hw => calls_ext hw (calls_cast (by rw [Sx.qto_zero hz0 f]) (query_any _ (Sx.qTo x f) _ ⟨((g_x.ext (Ext.trans xW hw)).l.take (show f ≤ x.n by omega)), fun y hy => (g_x.ext (Ext.trans xW hw)).s _ (List.mem_of_mem_take hy)⟩ (Sx.qto_few f_x f)))) ?_
          refine WQ.yldG rfl (blt rfl) rfl rfl rfl (fun hb => Y.eql rfl (evg rfl hb) rfl) ?_
          refine WQ.yld rfl (blt rfl) rfl (Y.and rfl rfl rfl rfl) ?_
          refine WQ.yld rfl (blt rfl) rfl (Y.assign rfl rfl) ?_
          refine WQ.done (fun w45 x46 => ?_)
          have m6 := m6.ext x46
          have xW := Ext.trans xW x46
          refine WK.then_normal (k43 _ _ ?_)
          refine WC.sub [(4, _)] ⟨rfl, trivial⟩ ?_
          refine WC.ret ?_
          clear k1 k7 k8 k18 k21 k22 k26 k27 k30 k31 k32 k34 k35 k43
          refine WK.ret [_] rfl ⟨rfl, trivial⟩ ?_
          exact ⟨ret1 (vb (by simp)), xW⟩
end SyntaxQueries
end SxW

end Go.Proofs.Ytklccakoblibmaa
