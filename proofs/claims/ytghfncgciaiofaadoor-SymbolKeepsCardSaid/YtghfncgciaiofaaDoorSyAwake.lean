/- The walk of the chapter's examples. Conditions: what each theorem states. -/
import Derived.Test.YtghfncgciaiofaaDoorSyFrame
import Derived.Test.YtghfncgciaiofaaDoorSyEx
namespace Go.Proofs.YtghfncgciaiofaaDoor
open Go Go.Eng Go.RowKit
set_option linter.unusedVariables false
namespace SyW
open R X F Y
namespace A
theorem ti34 : TI Tryd.prog 34 (.agg #[.string ⟨#[]⟩, .int .i64 0, .int .i64 0, .slice none 0 0]) 4 56 := TI.mk (by kernel_rfl)
theorem ti36 : TI Tryd.prog 36 (.agg #[.int .i64 0, .string ⟨#[]⟩]) 2 24 := TI.mk (by kernel_rfl)
theorem has10 : Has Tryd.prog 10 := ⟨_, Tryd.func10, rfl, by kernel_rfl⟩
theorem has12 : Has Tryd.prog 12 := ⟨_, Tryd.func12, rfl, by kernel_rfl⟩
theorem has14 : Has Tryd.prog 14 := ⟨_, Tryd.func14, rfl, by kernel_rfl⟩
theorem pl34 : PL Tryd.prog 34 [.string ⟨#[]⟩, .int .i64 0, .int .i64 0, .slice none 0 0] [(0, 1), (1, 1), (2, 1), (3, 1)] := PL.mk (zero := [.string ⟨#[]⟩, .int .i64 0, .int .i64 0, .slice none 0 0]) ti34 Tryd.underlying34 (by kernel_rfl)
theorem pl36 : PL Tryd.prog 36 [.int .i64 0, .string ⟨#[]⟩] [(0, 1), (1, 1)] := PL.mk (zero := [.int .i64 0, .string ⟨#[]⟩]) ti36 Tryd.underlying36 (by kernel_rfl)
theorem awake_any  (w : World) :
    Calls Tryd.prog 8 #[] w fun e w' => e = .returned (.bool true) ∧ Ext w w' := by
  have xW := Ext.refl w
  refine calls_of_WC (args := []) Tryd.func8 rfl rfl (ble rfl) ?_
  refine WC.seq (fun K1 k1 => ?_)
  refine WC.region rfl ?_
  refine WL.yld rfl (blt rfl) rfl (Y.assign rfl rfl) ?_
  refine WL.nil ?_
  refine WK.then_normal (k1 _ _ ?_)
  refine WC.sub [] trivial ?_
  refine WC.seq (fun K2 k2 => ?_)
  refine WC.region rfl ?_
  refine WL.yld rfl (blt rfl) rfl (Y.build (cells := [_, _]) rfl pl36 rfl rfl) ?_
  refine WL.yld rfl (blt rfl) rfl (Y.build (cells := [_, _]) rfl pl36 rfl rfl) ?_
  refine WL.bslice (zs := [.int .i64 0, .string ⟨#[]⟩, .int .i64 0, .string ⟨#[]⟩]) (cs := [_, _, _, _]) rfl (blt rfl) rfl rfl Tryd.underlying32 ti36 rfl (ble rfl) (by kernel_rfl) rfl rfl ?_
  intro g3 w4 e5 x6 m7
  have o_g3 := own_new xW e5
  have xW := Ext.trans xW x6
  refine WL.yld rfl (blt rfl) rfl (Y.build (cells := [_, _, _, _]) rfl pl34 rfl rfl) ?_
  refine WL.bslice (zs := [.string ⟨#[]⟩, .int .i64 0, .int .i64 0, .slice none 0 0]) (cs := [_, _, _, _]) rfl (blt rfl) rfl rfl Tryd.underlying22 ti34 rfl (ble rfl) (by kernel_rfl) rfl rfl ?_
  intro g8 w9 e10 x11 m12
  have n_g3_g8 := ne_new m7 e10
  have o_g8 := own_new xW e10
  have m7 := m7.ext x11
  have xW := Ext.trans xW x11
  refine WL.yld rfl (blt rfl) rfl (Y.assign rfl rfl) ?_
  refine WL.nil ?_
  refine WK.then_normal (k2 _ _ ?_)
  refine WC.sub [(1, _)] ⟨rfl, trivial⟩ ?_
  refine WC.seq (fun K13 k13 => ?_)
  refine WC.region rfl ?_
  refine WL.yld rfl (blt rfl) rfl (Y.move rfl rfl) ?_
  refine WL.call rfl (blt rfl) rfl rfl rfl has10 rfl (Find_any _ _ _ _ _ _  (Ls.lit (f := Sy.M.v) (sz := 4) (l := (Sy.awL g3)) m12 (fun _ => rfl) rfl (by decide) rfl) (Sy.aw_good (Ls.lit (f := Sy.S.c) (sz := 2) (l := Sy.awS) m7 (fun _ => rfl) rfl (by decide) rfl)) (Sy.aw_few _) (by decide)) ?_
  rintro _ w14 ⟨rfl, x15⟩
  refine ⟨_, rfl, ?_⟩
  have m7 := m7.ext x15
  have m12 := m12.ext x15
  have xW := Ext.trans xW x15
  refine WL.yld rfl (blt rfl) rfl (Y.move rfl rfl) ?_
  refine WL.yld rfl (blt rfl) rfl (Y.extract rfl rfl rfl) ?_
  refine WL.yld rfl (blt rfl) rfl (Y.extract rfl rfl rfl) ?_
  refine WL.yld rfl (blt rfl) rfl (Y.extract rfl rfl rfl) ?_
  refine WL.yld rfl (blt rfl) rfl (Y.assign rfl rfl) ?_
  refine WL.yld rfl (blt rfl) rfl (Y.assign rfl rfl) ?_
  refine WL.yld rfl (blt rfl) rfl (Y.assign rfl rfl) ?_
  refine WL.nil ?_
  refine WK.then_normal (k13 _ _ ?_)
  refine WC.sub [(1, _), (2, _), (3, _), (4, _)] ⟨rfl, rfl, rfl, rfl, trivial⟩ ?_
  refine WC.seq (fun K16 k16 => ?_)
  refine WC.region rfl ?_
  refine WL.yld rfl (blt rfl) rfl (Y.move rfl rfl) ?_
  refine WL.call rfl (blt rfl) rfl rfl rfl has10 rfl (Find_any _ _ _ _ _ _  (Ls.lit (f := Sy.M.v) (sz := 4) (l := (Sy.awL g3)) m12 (fun _ => rfl) rfl (by decide) rfl) (Sy.aw_good (Ls.lit (f := Sy.S.c) (sz := 2) (l := Sy.awS) m7 (fun _ => rfl) rfl (by decide) rfl)) (Sy.aw_few _) (by decide)) ?_
  rintro _ w17 ⟨rfl, x18⟩
  refine ⟨_, rfl, ?_⟩
  have m7 := m7.ext x18
  have m12 := m12.ext x18
  have xW := Ext.trans xW x18
  refine WL.yld rfl (blt rfl) rfl (Y.move rfl rfl) ?_
  refine WL.yld rfl (blt rfl) rfl (Y.extract rfl rfl rfl) ?_
  refine WL.yld rfl (blt rfl) rfl (Y.extract rfl rfl rfl) ?_
  refine WL.yld rfl (blt rfl) rfl (Y.extract rfl rfl rfl) ?_
  refine WL.yld rfl (blt rfl) rfl (Y.assign rfl rfl) ?_
  refine WL.yld rfl (blt rfl) rfl (Y.assign rfl rfl) ?_
  refine WL.yld rfl (blt rfl) rfl (Y.assign rfl rfl) ?_
  refine WL.nil ?_
  refine WK.then_normal (k16 _ _ ?_)
  refine WC.sub [(1, _), (2, _), (3, _), (4, _), (5, _), (6, _), (7, _)] ⟨rfl, rfl, rfl, rfl, rfl, rfl, rfl, trivial⟩ ?_
  refine WC.seq (fun K19 k19 => ?_)
  refine WC.region rfl ?_
  refine WL.yld rfl (blt rfl) rfl (Y.move rfl rfl) ?_
  refine WL.call rfl (blt rfl) rfl rfl rfl has10 rfl (Find_any _ _ _ _ _ _  (Ls.lit (f := Sy.M.v) (sz := 4) (l := (Sy.awL g3)) m12 (fun _ => rfl) rfl (by decide) rfl) (Sy.aw_good (Ls.lit (f := Sy.S.c) (sz := 2) (l := Sy.awS) m7 (fun _ => rfl) rfl (by decide) rfl)) (Sy.aw_few _) (by decide)) ?_
  rintro _ w20 ⟨rfl, x21⟩
  refine ⟨_, rfl, ?_⟩
  have m7 := m7.ext x21
  have m12 := m12.ext x21
  have xW := Ext.trans xW x21
  refine WL.yld rfl (blt rfl) rfl (Y.move rfl rfl) ?_
  refine WL.yld rfl (blt rfl) rfl (Y.extract rfl rfl rfl) ?_
  refine WL.yld rfl (blt rfl) rfl (Y.extract rfl rfl rfl) ?_
  refine WL.yld rfl (blt rfl) rfl (Y.extract rfl rfl rfl) ?_
  refine WL.yld rfl (blt rfl) rfl (Y.assign rfl rfl) ?_
  refine WL.yld rfl (blt rfl) rfl (Y.assign rfl rfl) ?_
  refine WL.yld rfl (blt rfl) rfl (Y.assign rfl rfl) ?_
  refine WL.nil ?_
  refine WK.then_normal (k19 _ _ ?_)
  refine WC.sub [(1, _), (2, _), (3, _), (4, _), (5, _), (6, _), (7, _), (10, _)] ⟨rfl, rfl, rfl, rfl, rfl, rfl, rfl, rfl, trivial⟩ ?_
  refine WC.seq (fun K22 k22 => ?_)
  refine WC.region rfl ?_
  refine WL.yld rfl (blt rfl) rfl (Y.move rfl rfl) ?_
  refine WL.yld rfl (blt rfl) rfl (Y.eqlStr rfl rfl rfl) ?_
  refine WL.yld rfl (blt rfl) rfl (Y.move rfl rfl) ?_
  refine WL.yldG rfl (blt rfl) rfl rfl rfl (fun hb => Y.move rfl rfl) ?_
  refine WL.yldG rfl (blt rfl) rfl rfl rfl (fun hb => Y.eql rfl (evg rfl hb) rfl) ?_
  refine WL.yld rfl (blt rfl) rfl (Y.and rfl rfl rfl rfl) ?_
  refine WL.yld rfl (blt rfl) rfl (Y.move rfl rfl) ?_
  refine WL.yldG rfl (blt rfl) rfl rfl rfl (fun hb => Y.move rfl rfl) ?_
  refine WL.yld rfl (blt rfl) rfl (Y.and rfl rfl rfl rfl) ?_
  refine WL.yld rfl (blt rfl) rfl (Y.move rfl rfl) ?_
  refine WL.yldG rfl (blt rfl) rfl rfl rfl (fun hb => Y.move rfl rfl) ?_
  refine WL.yldG rfl (blt rfl) rfl rfl rfl (fun hb => Y.eqlStr rfl (evg rfl hb) rfl) ?_
  refine WL.yld rfl (blt rfl) rfl (Y.and rfl rfl rfl rfl) ?_
  refine WL.yld rfl (blt rfl) rfl (Y.move rfl rfl) ?_
  refine WL.yldG rfl (blt rfl) rfl rfl rfl (fun hb => Y.move rfl rfl) ?_
  refine WL.yldG rfl (blt rfl) rfl rfl rfl (fun hb => Y.eql rfl (evg rfl hb) rfl) ?_
  refine WL.yld rfl (blt rfl) rfl (Y.and rfl rfl rfl rfl) ?_
  refine WL.yld rfl (blt rfl) rfl (Y.move rfl rfl) ?_
  refine WL.yldG rfl (blt rfl) rfl rfl rfl (fun hb => Y.move rfl rfl) ?_
  refine WL.yld rfl (blt rfl) rfl (Y.and rfl rfl rfl rfl) ?_
  refine WL.yld rfl (blt rfl) rfl (Y.move rfl rfl) ?_
  refine WL.yldG rfl (blt rfl) rfl rfl rfl (fun hb => Y.move rfl rfl) ?_
  refine WL.yldG rfl (blt rfl) rfl rfl rfl (fun hb => Y.not rfl (evg rfl hb)) ?_
  refine WL.yld rfl (blt rfl) rfl (Y.and rfl rfl rfl rfl) ?_
  refine WL.yld rfl (blt rfl) rfl (Y.move rfl rfl) ?_
  refine WL.yldG rfl (blt rfl) rfl rfl rfl (fun hb => Y.move rfl rfl) ?_
  refine WL.callG rfl (blt rfl) rfl rfl rfl rfl rfl has14 (fun hb => (evs_cons (evg rfl hb) (evs_cons rfl evs_nil))) (fun hb => Frame_any _ _ _ _ _ _  (Ls.lit (f := Sy.M.v) (sz := 4) (l := (Sy.awL g3)) m12 (fun _ => rfl) rfl (by decide) rfl) (Sy.aw_good (Ls.lit (f := Sy.S.c) (sz := 2) (l := Sy.awS) m7 (fun _ => rfl) rfl (by decide) rfl)) (Sy.aw_few _)) (fun w23 x24 => ?_)
  have m7 := m7.ext x24
  have m12 := m12.ext x24
  have xW := Ext.trans xW x24
  refine WL.yldG rfl (blt rfl) rfl rfl rfl (fun hb => Y.eqlStr rfl (evg rfl hb) rfl) ?_
  refine WL.yld rfl (blt rfl) rfl (Y.and rfl rfl rfl rfl) ?_
  refine WL.yld rfl (blt rfl) rfl (Y.move rfl rfl) ?_
  refine WL.yldG rfl (blt rfl) rfl rfl rfl (fun hb => Y.move rfl rfl) ?_
  refine WL.callG rfl (blt rfl) rfl rfl rfl rfl rfl has14 (fun hb => (evs_cons (evg rfl hb) (evs_cons rfl evs_nil))) (fun hb => Frame_any _ _ _ _ _ _  (Ls.lit (f := Sy.M.v) (sz := 4) (l := (Sy.awL g3)) m12 (fun _ => rfl) rfl (by decide) rfl) (Sy.aw_good (Ls.lit (f := Sy.S.c) (sz := 2) (l := Sy.awS) m7 (fun _ => rfl) rfl (by decide) rfl)) (Sy.aw_few _)) (fun w25 x26 => ?_)
  have m7 := m7.ext x26
  have m12 := m12.ext x26
  have xW := Ext.trans xW x26
  refine WL.yldG rfl (blt rfl) rfl rfl rfl (fun hb => Y.eqlStr rfl (evg rfl hb) rfl) ?_
  refine WL.yld rfl (blt rfl) rfl (Y.and rfl rfl rfl rfl) ?_
  refine WL.yld rfl (blt rfl) rfl (Y.move rfl rfl) ?_
  refine WL.yldG rfl (blt rfl) rfl rfl rfl (fun hb => Y.move rfl rfl) ?_
  refine WL.callG rfl (blt rfl) rfl rfl rfl rfl rfl has12 (fun hb => (evs_cons (evg rfl hb) evs_nil)) (fun hb => check_any _ _ _ _ _  (Ls.lit (f := Sy.M.v) (sz := 4) (l := (Sy.awL g3)) m12 (fun _ => rfl) rfl (by decide) rfl) (Sy.aw_good (Ls.lit (f := Sy.S.c) (sz := 2) (l := Sy.awS) m7 (fun _ => rfl) rfl (by decide) rfl)) (Sy.aw_few _)) (fun w27 x28 => ?_)
  have m7 := m7.ext x28
  have m12 := m12.ext x28
  have xW := Ext.trans xW x28
  refine WL.yldG rfl (blt rfl) rfl rfl rfl (fun hb => Y.eql rfl (evg rfl hb) rfl) ?_
  refine WL.yld rfl (blt rfl) rfl (Y.and rfl rfl rfl rfl) ?_
  refine WL.yld rfl (blt rfl) rfl (Y.assign rfl rfl) ?_
  refine WL.nil ?_
  refine WK.then_normal (k22 _ _ ?_)
  refine WC.sub [(0, _)] ⟨rfl, trivial⟩ ?_
  refine WC.ret ?_
  clear k1 k2 k13 k16 k19 k22
  refine WK.ret [_] rfl ⟨rfl, trivial⟩ ?_
  refine ⟨ret1 (vb ?_), xW⟩
  rw [Sy.aw_f1, Sy.aw_f2, Sy.aw_f3, Sy.aw_f4, Sy.aw_f5, Sy.aw_chk]
  rfl
end A
end SyW

end Go.Proofs.YtghfncgciaiofaaDoor
