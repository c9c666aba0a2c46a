/- The walk of the chapter's examples. Conditions: what each theorem states. -/
import Derived.Test.YtoldedanhmkolaaSpRef
namespace Go.Proofs.Ytoldedanhmkolaa
open Go Go.Eng Go.RowKit
set_option linter.unusedVariables false
namespace SpW
open Q C D E
namespace A
theorem ti27 : TI Try.prog 27 (.agg #[.int .i64 0, .int .i64 0]) 2 16 := TI.mk (by kernel_rfl)
theorem has11 : Has Try.prog 11 := ⟨_, Try.func11, rfl, by kernel_rfl⟩
theorem has13 : Has Try.prog 13 := ⟨_, Try.func13, rfl, by kernel_rfl⟩
theorem has14 : Has Try.prog 14 := ⟨_, Try.func14, rfl, by kernel_rfl⟩
theorem has16 : Has Try.prog 16 := ⟨_, Try.func16, rfl, by kernel_rfl⟩
theorem has18 : Has Try.prog 18 := ⟨_, Try.func18, rfl, by kernel_rfl⟩
theorem has24 : Has Try.prog 24 := ⟨_, Try.func24, rfl, by kernel_rfl⟩
theorem has26 : Has Try.prog 26 := ⟨_, Try.func26, rfl, by kernel_rfl⟩
theorem pl27 : PL Try.prog 27 [.int .i64 0, .int .i64 0] [(0, 1), (1, 1)] := PL.mk (zero := [.int .i64 0, .int .i64 0]) ti27 Try.underlying27 (by kernel_rfl)
theorem awake_any  (w : World) :
    Calls Try.prog 10 #[] w fun e w' => e = .returned (.bool true) ∧ Ext w w' := by
  have xW := Ext.refl w
  have c1 := Sp.comb_len Sp.first [⟨0, 10⟩] [⟨2, 3⟩, ⟨5, 7⟩]
  simp only [List.length_cons, List.length_nil] at c1
  refine calls_of_WC (args := []) Try.func10 rfl rfl (ble rfl) ?_
  refine WC.seq (fun K1 k1 => ?_)
  refine WC.region rfl ?_
  refine WL.yld rfl (blt rfl) rfl (Y.assign rfl rfl) ?_
  refine WL.nil ?_
  refine WK.then_normal (k1 _ _ ?_)
  refine WC.sub [] trivial ?_
  refine WC.seq (fun K2 k2 => ?_)
  refine WC.region rfl ?_
  refine WL.yld rfl (blt rfl) rfl (Y.build (cells := [_, _]) rfl pl27 rfl rfl) ?_
  refine WL.yld rfl (blt rfl) rfl (Y.build (cells := [_, _]) rfl pl27 rfl rfl) ?_
  refine WL.yld rfl (blt rfl) rfl (Y.build (cells := [_, _]) rfl pl27 rfl rfl) ?_
  refine WL.bslice (zs := [.int .i64 0, .int .i64 0, .int .i64 0, .int .i64 0, .int .i64 0, .int .i64 0]) (cs := [_, _, _, _, _, _]) rfl (blt rfl) rfl rfl Try.underlying22 ti27 rfl (ble rfl) (by kernel_rfl) rfl rfl ?_
  intro g3 w4 e5 x6 m7
  have o_g3 := own_new xW e5
  have xW := Ext.trans xW x6
  refine WL.call rfl (blt rfl) rfl rfl rfl has14 rfl (normal_any _ _ _ _ _ (Ls.lit (f := Sp.S.c) (l := ([⟨5, 9⟩, ⟨1, 3⟩, ⟨3, 5⟩] : List Sp.S)) m7 (fun _ => rfl) rfl (by decide) rfl) (by omega)) ?_
  rintro _ w8 ⟨v10, rfl, ow11, x9⟩
  refine ⟨_, rfl, ?_⟩
  have r_v10_g3 := ne_res ow11 m7
  have ow11 := OwnL.base_le ow11 xW.size
  have m7 := m7.ext x9
  have xW := Ext.trans xW x9
  refine WL.yld rfl (blt rfl) rfl (Y.assign rfl rfl) ?_
  refine WL.nil ?_
  refine WK.then_normal (k2 _ _ ?_)
  refine WC.sub [(1, _)] ⟨rfl, trivial⟩ ?_
  refine WC.seq (fun K12 k12 => ?_)
  refine WC.region rfl ?_
  refine WL.yld rfl (blt rfl) rfl (Y.build (cells := [_, _]) rfl pl27 rfl rfl) ?_
  refine WL.bslice (zs := [.int .i64 0, .int .i64 0]) (cs := [_, _]) rfl (blt rfl) rfl rfl Try.underlying22 ti27 rfl (ble rfl) (by kernel_rfl) rfl rfl ?_
  intro g13 w14 e15 x16 m17
  have r_v10_g13 := ne_newO ow11 e15
  have o_g13 := own_new xW e15
  have ow11 := ow11.ext x16
  have xW := Ext.trans xW x16
  refine WL.yld rfl (blt rfl) rfl (Y.build (cells := [_, _]) rfl pl27 rfl rfl) ?_
  refine WL.yld rfl (blt rfl) rfl (Y.build (cells := [_, _]) rfl pl27 rfl rfl) ?_
  refine WL.bslice (zs := [.int .i64 0, .int .i64 0, .int .i64 0, .int .i64 0]) (cs := [_, _, _, _]) rfl (blt rfl) rfl rfl Try.underlying22 ti27 rfl (ble rfl) (by kernel_rfl) rfl rfl ?_
  intro g18 w19 e20 x21 m22
  have r_v10_g18 := ne_newO ow11 e20
  have n_g13_g18 := ne_new m17 e20
  have o_g18 := own_new xW e20
  have ow11 := ow11.ext x21
  have m17 := m17.ext x21
  have xW := Ext.trans xW x21
  refine WL.call rfl (blt rfl) rfl rfl rfl has24 rfl (minus_any _ _ _ _ _ _ _ _ _ (Ls.lit (f := Sp.S.c) (l := ([⟨0, 10⟩] : List Sp.S)) m17 (fun _ => rfl) rfl (by decide) rfl) (Ls.lit (f := Sp.S.c) (l := ([⟨2, 3⟩, ⟨5, 7⟩] : List Sp.S)) m22 (fun _ => rfl) rfl (by decide) rfl) (by omega) (by omega)) ?_
  rintro _ w23 ⟨v25, rfl, ow26, x24⟩
  refine ⟨_, rfl, ?_⟩
  have d_v10_v25 := (Apart.res ow26 ow11).symm
  have r_v25_g13 := ne_res ow26 m17
  have r_v25_g18 := ne_res ow26 m22
  have ow26 := OwnL.base_le ow26 xW.size
  have ow11 := ow11.ext x24
  have m17 := m17.ext x24
  have m22 := m22.ext x24
  have xW := Ext.trans xW x24
  refine WL.yld rfl (blt rfl) rfl (Y.assign rfl rfl) ?_
  refine WL.nil ?_
  refine WK.then_normal (k12 _ _ ?_)
  refine WC.sub [(1, _), (2, _)] ⟨rfl, rfl, trivial⟩ ?_
  refine WC.seq (fun K27 k27 => ?_)
  refine WC.region rfl ?_
  refine WL.yld rfl (blt rfl) rfl (Y.move rfl rfl) ?_
  refine WL.yld rfl (blt rfl) rfl (Y.build (cells := [_, _]) rfl pl27 rfl rfl) ?_
  refine WL.bslice (zs := [.int .i64 0, .int .i64 0]) (cs := [_, _]) rfl (blt rfl) rfl rfl Try.underlying22 ti27 rfl (ble rfl) (by kernel_rfl) rfl rfl ?_
  intro g28 w29 e30 x31 m32
  have r_v10_g28 := ne_newO ow11 e30
  have r_v25_g28 := ne_newO ow26 e30
  have o_g28 := own_new xW e30
  have ow11 := ow11.ext x31
  have ow26 := ow26.ext x31
  have xW := Ext.trans xW x31
  obtain ⟨A33, n34, c35, rfl, hl36⟩ := OwnL.opened ow11 (fun _ => rfl) (by decide)
  have e_n34 := hl36.len
  try simp only [List.length_append, List.length_cons, List.length_nil, List.length_reverse, List.length_drop, List.length_take] at e_n34
  have z_n34 := hl36.nle
  refine WL.call rfl (blt rfl) rfl rfl rfl has13 rfl (same_any _ _ _ _ _ _ _ _ _ hl36 (Ls.lit (f := Sp.S.c) (l := ([⟨1, 9⟩] : List Sp.S)) m32 (fun _ => rfl) rfl (by decide) rfl)) ?_
  rintro _ w37 ⟨rfl, x38⟩
  refine ⟨_, rfl, ?_⟩
  have ow11 := ow11.ext x38
  have hl36 := hl36.ext x38
  have ow26 := ow26.ext x38
  have m32 := m32.ext x38
  have xW := Ext.trans xW x38
  refine WL.yld rfl (blt rfl) rfl (Yld.cast (Y.move rfl rfl) (vb (b := true) (decide_eq_true Sp.aw1))) ?_
  refine WL.yldW rfl (blt rfl) rfl rfl rfl (Y.move rfl rfl) ?_
  refine WL.yldW rfl (blt rfl) rfl rfl rfl (Y.build (cells := [_, _]) rfl pl27 rfl rfl) ?_
  refine WL.yldW rfl (blt rfl) rfl rfl rfl (Y.build (cells := [_, _]) rfl pl27 rfl rfl) ?_
  refine WL.yldW rfl (blt rfl) rfl rfl rfl (Y.build (cells := [_, _]) rfl pl27 rfl rfl) ?_
  refine WL.guarded rfl rfl rfl ?_
  refine WL.bslice (zs := [.int .i64 0, .int .i64 0, .int .i64 0, .int .i64 0, .int .i64 0, .int .i64 0]) (cs := [_, _, _, _, _, _]) rfl (blt rfl) rfl rfl Try.underlying22 ti27 rfl (ble rfl) (by kernel_rfl) rfl rfl ?_
  intro g39 w40 e41 x42 m43
  have r_v10_g39 := ne_newO ow11 e41
  have r_v25_g39 := ne_newO ow26 e41
  have n_g28_g39 := ne_new m32 e41
  have o_g39 := own_new xW e41
  have ow11 := ow11.ext x42
  have hl36 := hl36.ext x42
  have ow26 := ow26.ext x42
  have m32 := m32.ext x42
  have xW := Ext.trans xW x42
  obtain ⟨A44, n45, c46, rfl, hl47⟩ := OwnL.opened ow26 (fun _ => rfl) (by decide)
  have e_n45 := hl47.len
  try simp only [List.length_append, List.length_cons, List.length_nil, List.length_reverse, List.length_drop, List.length_take] at e_n45
  have z_n45 := hl47.nle
  refine WL.callW rfl (blt rfl) rfl rfl rfl rfl rfl has13 rfl (same_any _ _ _ _ _ _ _ _ _ hl47 (Ls.lit (f := Sp.S.c) (l := ([⟨0, 2⟩, ⟨3, 5⟩, ⟨7, 10⟩] : List Sp.S)) m43 (fun _ => rfl) rfl (by decide) rfl)) ?_
  rintro _ w48 ⟨rfl, x49⟩
  refine ⟨_, rfl, ?_⟩
  have ow11 := ow11.ext x49
  have hl36 := hl36.ext x49
  have ow26 := ow26.ext x49
  have hl47 := hl47.ext x49
  have m32 := m32.ext x49
  have m43 := m43.ext x49
  have xW := Ext.trans xW x49
  refine WL.yld rfl (blt rfl) rfl (Yld.cast (Y.pickT rfl rfl rfl) (vb (b := true) (decide_eq_true Sp.aw2))) ?_
  refine WL.yld rfl (blt rfl) rfl (Y.move rfl rfl) ?_
  refine WL.yldW rfl (blt rfl) rfl rfl rfl (Y.move rfl rfl) ?_
  refine WL.callW rfl (blt rfl) rfl rfl rfl rfl rfl has18 rfl (length_any _ _ _ _ _ hl47 (by omega)) ?_
  rintro _ w50 ⟨rfl, x51⟩
  refine ⟨_, rfl, ?_⟩
  have ow11 := ow11.ext x51
  have hl36 := hl36.ext x51
  have ow26 := ow26.ext x51
  have hl47 := hl47.ext x51
  have m32 := m32.ext x51
  have m43 := m43.ext x51
  have xW := Ext.trans xW x51
  refine WL.yldW rfl (blt rfl) rfl rfl rfl (Yld.cast (Y.eql rfl rfl rfl) (vb (b := true) (by rw [Sp.aw3]; rfl))) ?_
  refine WL.yld rfl (blt rfl) rfl (Y.pickT rfl rfl rfl) ?_
  refine WL.yld rfl (blt rfl) rfl (Y.move rfl rfl) ?_
  refine WL.yldW rfl (blt rfl) rfl rfl rfl (Y.move rfl rfl) ?_
  refine WL.callW rfl (blt rfl) rfl rfl rfl rfl rfl has26 rfl (covers_any _ _ _ _ _ _ hl47) ?_
  rintro _ w52 ⟨rfl, x53⟩
  refine ⟨_, rfl, ?_⟩
  have ow11 := ow11.ext x53
  have hl36 := hl36.ext x53
  have ow26 := ow26.ext x53
  have hl47 := hl47.ext x53
  have m32 := m32.ext x53
  have m43 := m43.ext x53
  have xW := Ext.trans xW x53
  refine WL.yld rfl (blt rfl) rfl (Yld.cast (Y.pickT rfl rfl rfl) (vb (b := true) Sp.aw4)) ?_
  refine WL.yld rfl (blt rfl) rfl (Y.move rfl rfl) ?_
  refine WL.yldW rfl (blt rfl) rfl rfl rfl (Y.move rfl rfl) ?_
  refine WL.callW rfl (blt rfl) rfl rfl rfl rfl rfl has26 rfl (covers_any _ _ _ _ _ _ hl47) ?_
  rintro _ w54 ⟨rfl, x55⟩
  refine ⟨_, rfl, ?_⟩
  have ow11 := ow11.ext x55
  have hl36 := hl36.ext x55
  have ow26 := ow26.ext x55
  have hl47 := hl47.ext x55
  have m32 := m32.ext x55
  have m43 := m43.ext x55
  have xW := Ext.trans xW x55
  refine WL.yldW rfl (blt rfl) rfl rfl rfl (Yld.cast (Y.not rfl rfl) (vb (b := true) (by rw [Sp.aw5]; rfl))) ?_
  refine WL.yld rfl (blt rfl) rfl (Y.pickT rfl rfl rfl) ?_
  refine WL.yld rfl (blt rfl) rfl (Y.move rfl rfl) ?_
  refine WL.callW rfl (blt rfl) rfl rfl rfl rfl rfl has16 rfl (isnormal_any _ _ _ _ _ (Ls.nil (by decide))) ?_
  rintro _ w56 ⟨rfl, x57⟩
  refine ⟨_, rfl, ?_⟩
  have ow11 := ow11.ext x57
  have hl36 := hl36.ext x57
  have ow26 := ow26.ext x57
  have hl47 := hl47.ext x57
  have m32 := m32.ext x57
  have m43 := m43.ext x57
  have xW := Ext.trans xW x57
  refine WL.yld rfl (blt rfl) rfl (Yld.cast (Y.pickT rfl rfl rfl) (vb (b := true) (Sp.isNorm_yes Sp.Norm.nil))) ?_
  refine WL.yld rfl (blt rfl) rfl (Y.move rfl rfl) ?_
  refine WL.yldW rfl (blt rfl) rfl rfl rfl (Y.build (cells := [_, _]) rfl pl27 rfl rfl) ?_
  refine WL.callW rfl (blt rfl) rfl rfl rfl rfl rfl has11 rfl (valid_any ⟨3, 3⟩ _) ?_
  rintro _ w58 ⟨rfl, x59⟩
  refine ⟨_, rfl, ?_⟩
  have ow11 := ow11.ext x59
  have hl36 := hl36.ext x59
  have ow26 := ow26.ext x59
  have hl47 := hl47.ext x59
  have m32 := m32.ext x59
  have m43 := m43.ext x59
  have xW := Ext.trans xW x59
  refine WL.yldW rfl (blt rfl) rfl rfl rfl (Yld.cast (Y.not rfl rfl) (vb (b := true) (by decide))) ?_
  refine WL.yld rfl (blt rfl) rfl (Y.pickT rfl rfl rfl) ?_
  refine WL.yld rfl (blt rfl) rfl (Y.assign rfl rfl) ?_
  refine WL.nil ?_
  refine WK.then_normal (k27 _ _ ?_)
  refine WC.sub [(0, _)] ⟨rfl, trivial⟩ ?_
  refine WC.ret ?_
  clear k1 k2 k12 k27
  refine WK.ret [_] rfl ⟨rfl, trivial⟩ ?_
  exact ⟨rfl, xW⟩
end A
end SpW

end Go.Proofs.Ytoldedanhmkolaa
