/- The walk of the chapter's examples. Conditions: what each theorem states. -/
import Derived.Test.YtbdfhiihaemjhaaItRun
namespace Go.Proofs.Ytbdfhiihaemjhaa
open Go Go.Eng Go.RowKit
set_option linter.unusedVariables false
namespace ItW
open M O Vi X R
namespace A
theorem ti3 : TI Try.prog 3 (.int .i64 0) 1 8 := TI.mk (by kernel_rfl)
theorem ti24 : TI Try.prog 24 (.slice none 0 0) 1 24 := TI.mk (by kernel_rfl)
theorem ti26 : TI Try.prog 26 (.agg #[.slice none 0 0, .slice none 0 0]) 2 48 := TI.mk (by kernel_rfl)
theorem ti32 : TI Try.prog 32 (.agg #[.int .i64 0, .int .i64 0]) 2 16 := TI.mk (by kernel_rfl)
theorem has9 : Has Try.prog 9 := ⟨_, Try.func9, rfl, by kernel_rfl⟩
theorem has11 : Has Try.prog 11 := ⟨_, Try.func11, rfl, by kernel_rfl⟩
theorem has12 : Has Try.prog 12 := ⟨_, Try.func12, rfl, by kernel_rfl⟩
theorem has15 : Has Try.prog 15 := ⟨_, Try.func15, rfl, by kernel_rfl⟩
theorem has17 : Has Try.prog 17 := ⟨_, Try.func17, rfl, by kernel_rfl⟩
theorem has19 : Has Try.prog 19 := ⟨_, Try.func19, rfl, by kernel_rfl⟩
theorem has22 : Has Try.prog 22 := ⟨_, Try.func22, rfl, by kernel_rfl⟩
theorem awake_any  (w : World) :
    Calls Try.prog 8 #[] w fun e w' => e = .returned (.bool true) ∧ Ext w w' := by
  have xW := Ext.refl w
  refine calls_of_WC (args := []) Try.func8 rfl rfl (ble rfl) ?_
  refine WC.seq (fun K1 k1 => ?_)
  refine WC.region rfl ?_
  refine WL.yld rfl (blt rfl) rfl (Y.assign rfl rfl) ?_
  refine WL.nil ?_
  refine WK.then_normal (k1 _ _ ?_)
  refine WC.sub [] trivial ?_
  refine WC.seq (fun K2 k2 => ?_)
  refine WC.region rfl ?_
  refine WL.call rfl (blt rfl) rfl rfl rfl has22 rfl (of_any _ _ _ ) ?_
  rintro _ w3 ⟨rfl, x4⟩
  refine ⟨_, rfl, ?_⟩
  have xW := Ext.trans xW x4
  refine WL.call rfl (blt rfl) rfl rfl rfl has22 rfl (of_any _ _ _ ) ?_
  rintro _ w5 ⟨rfl, x6⟩
  refine ⟨_, rfl, ?_⟩
  have xW := Ext.trans xW x6
  refine WL.call rfl (blt rfl) rfl rfl rfl has22 rfl (of_any _ _ _ ) ?_
  rintro _ w7 ⟨rfl, x8⟩
  refine ⟨_, rfl, ?_⟩
  have xW := Ext.trans xW x8
  refine WL.bslice (zs := [.int .i64 0, .int .i64 0, .int .i64 0, .int .i64 0, .int .i64 0, .int .i64 0]) (cs := [_, _, _, _, _, _]) rfl (blt rfl) rfl rfl Try.underlying22 ti32 rfl (ble rfl) (by kernel_rfl) rfl rfl ?_
  intro g9 w10 e11 x12 m13
  have o_g9 := own_new xW e11
  have xW := Ext.trans xW x12
  refine WL.yld rfl (blt rfl) rfl (Y.assign rfl rfl) ?_
  refine WL.nil ?_
  refine WK.then_normal (k2 _ _ ?_)
  refine WC.sub [(1, _)] ⟨rfl, trivial⟩ ?_
  refine WC.seq (fun K14 k14 => ?_)
  refine WC.region rfl ?_
  refine WL.yld rfl (blt rfl) rfl (Y.move rfl rfl) ?_
  refine WL.call rfl (blt rfl) rfl rfl rfl has9 rfl (of_tree _ _ _ _ _ (Ls.lit (f := Sp.S.c) (sz := 2) (l := It.L3) m13 (fun _ => rfl) rfl (by decide) rfl) (by omega)) ?_
  rintro _ w15 ⟨v17, v18, rfl, ow19, ow20, d21, x16⟩
  refine ⟨_, rfl, ?_⟩
  have r_v17_g9 := ne_res ow19 m13
  have ow19 := OwnL.base_le ow19 xW.size
  have r_v18_g9 := ne_res ow20 m13
  have ow20 := OwnL.base_le ow20 xW.size
  have d_v17_v18 := d21.symm
  have m13 := m13.ext x16
  have xW := Ext.trans xW x16
  refine WL.alloc rfl (blt rfl) rfl rfl ti26 rfl ?_
  intro g22 w23 e24 x25 m26
  have n_g9_g22 := ne_new m13 e24
  have r_v17_g22 := ne_newO ow19 e24
  have r_v18_g22 := ne_newO ow20 e24
  have o_g22 := own_new xW e24
  have m13 := m13.ext x25
  have ow19 := ow19.ext x25
  have ow20 := ow20.ext x25
  have xW := Ext.trans xW x25
  obtain ⟨A27, n28, c29, rfl, hl30⟩ := OwnL.opened ow19 (fun _ => rfl) (by decide)
  have e_n28 := hl30.len
  try simp only [List.length_append, List.length_cons, List.length_nil, List.length_reverse, List.length_drop, List.length_take, List.length_map, List.length_replicate] at e_n28
  have z_n28 := hl30.nle
  obtain ⟨A31, n32, c33, rfl, hl34⟩ := OwnL.opened ow20 (fun _ => rfl) (by decide)
  have e_n32 := hl34.len
  try simp only [List.length_append, List.length_cons, List.length_nil, List.length_reverse, List.length_drop, List.length_take, List.length_map, List.length_replicate] at e_n32
  have z_n32 := hl34.nle
  refine WL.store (cs' := [_, _]) rfl rfl rfl rfl rfl rfl ti26 m26 (ble rfl) rfl rfl (fun w35 on36 m37 => ?_)
  have m13 := m13.only n_g9_g22 on36
  have ow19 := ow19.only r_v17_g22 on36
  have hl30 := OwnL.ls ow19 (fun _ => rfl) (by decide)
  have ow20 := ow20.only r_v18_g22 on36
  have hl34 := OwnL.ls ow20 (fun _ => rfl) (by decide)
  have xW := Ext.only xW on36 o_g22
  refine WL.nil ?_
  refine WK.then_normal (k14 _ _ ?_)
  refine WC.sub [(1, _), (2, _)] ⟨rfl, rfl, trivial⟩ ?_
  refine WC.seq (fun K38 k38 => ?_)
  refine WC.region rfl ?_
  refine WL.call rfl (blt rfl) rfl rfl rfl has9 rfl (of_tree _ _ _ _ _ (Ls.nil (by decide)) (by omega)) ?_
  rintro _ w39 ⟨v41, v42, rfl, ow43, ow44, d45, x40⟩
  refine ⟨_, rfl, ?_⟩
  have r_v41_g9 := ne_res ow43 m13
  have d_v17_v41 := (Apart.res ow43 ow19).symm
  have d_v18_v41 := (Apart.res ow43 ow20).symm
  have r_v41_g22 := ne_res ow43 m37
  have ow43 := OwnL.base_le ow43 xW.size
  have r_v42_g9 := ne_res ow44 m13
  have d_v17_v42 := (Apart.res ow44 ow19).symm
  have d_v18_v42 := (Apart.res ow44 ow20).symm
  have r_v42_g22 := ne_res ow44 m37
  have ow44 := OwnL.base_le ow44 xW.size
  have d_v41_v42 := d45.symm
  have m13 := m13.ext x40
  have ow19 := ow19.ext x40
  have hl30 := hl30.ext x40
  have ow20 := ow20.ext x40
  have hl34 := hl34.ext x40
  have m37 := m37.ext x40
  have xW := Ext.trans xW x40
  refine WL.alloc rfl (blt rfl) rfl rfl ti26 rfl ?_
  intro g46 w47 e48 x49 m50
  have n_g9_g46 := ne_new m13 e48
  have r_v17_g46 := ne_newO ow19 e48
  have r_v18_g46 := ne_newO ow20 e48
  have n_g22_g46 := ne_new m37 e48
  have r_v41_g46 := ne_newO ow43 e48
  have r_v42_g46 := ne_newO ow44 e48
  have o_g46 := own_new xW e48
  have m13 := m13.ext x49
  have ow19 := ow19.ext x49
  have hl30 := hl30.ext x49
  have ow20 := ow20.ext x49
  have hl34 := hl34.ext x49
  have m37 := m37.ext x49
  have ow43 := ow43.ext x49
  have ow44 := ow44.ext x49
  have xW := Ext.trans xW x49
  obtain ⟨A51, n52, c53, rfl, hl54⟩ := OwnL.opened ow43 (fun _ => rfl) (by decide)
  have e_n52 := hl54.len
  try simp only [List.length_append, List.length_cons, List.length_nil, List.length_reverse, List.length_drop, List.length_take, List.length_map, List.length_replicate] at e_n52
  have z_n52 := hl54.nle
  obtain ⟨A55, n56, c57, rfl, hl58⟩ := OwnL.opened ow44 (fun _ => rfl) (by decide)
  have e_n56 := hl58.len
  try simp only [List.length_append, List.length_cons, List.length_nil, List.length_reverse, List.length_drop, List.length_take, List.length_map, List.length_replicate] at e_n56
  have z_n56 := hl58.nle
  refine WL.store (cs' := [_, _]) rfl rfl rfl rfl rfl rfl ti26 m50 (ble rfl) rfl rfl (fun w59 on60 m61 => ?_)
  have m13 := m13.only n_g9_g46 on60
  have ow19 := ow19.only r_v17_g46 on60
  have hl30 := OwnL.ls ow19 (fun _ => rfl) (by decide)
  have ow20 := ow20.only r_v18_g46 on60
  have hl34 := OwnL.ls ow20 (fun _ => rfl) (by decide)
  have m37 := m37.only n_g22_g46 on60
  have ow43 := ow43.only r_v41_g46 on60
  have hl54 := OwnL.ls ow43 (fun _ => rfl) (by decide)
  have ow44 := ow44.only r_v42_g46 on60
  have hl58 := OwnL.ls ow44 (fun _ => rfl) (by decide)
  have xW := Ext.only xW on60 o_g46
  refine WL.nil ?_
  refine WK.then_normal (k38 _ _ ?_)
  refine WC.sub [(1, _), (2, _), (3, _)] ⟨rfl, rfl, rfl, trivial⟩ ?_
  refine WC.seq (fun K62 k62 => ?_)
  refine WC.cut [] (fun W' => Ext w W') (fun Eo _ => Eo = [(0, .bool true)]) trivial xW ?_ ?_
  rotate_left
  · rintro _ w65 rfl xW
    refine WK.then_normal (k62 _ _ ?_)
    refine WC.ret ?_
    clear k1 k2 k14 k38 k62
    refine WK.ret [_] rfl ⟨rfl, trivial⟩ ?_
    exact ⟨rfl, xW⟩
  refine WC.regionX (fun W' => Ext w W' ∧ Blk W' g9 32 _ ∧ Ls W' A27 n28 c29 Sp.ic 1 _ ∧ Ls W' A31 n32 c33 Sp.ic 1 _ ∧ Blk W' g22 26 _ ∧ Ls W' A51 n52 c53 Sp.ic 1 _ ∧ Ls W' A55 n56 c57 Sp.ic 1 _ ∧ Blk W' g46 26 _) (.load 0 (.load 1 (.alt 2 (.alt 3 (.load 4 (.load 5 (.load 6 (.alt 7 (.alt 8 (.load 9 (.load 10 (.load 11 (.load 12 (.alt 13 (.load 14 (.load 15 (.load 16 (.load 17 (.load 18 (.alt 19 (.load 20 (.load 21 (.load 22 (.load 23 (.load 24 (.alt 25 (.alt 26 (.alt 27 (.alt 28 (.load 29 (.load 30 (.load 31 (.load 32 (.alt 33 (.alt 34 (.alt 35 (.load 36 (.load 37 (.load 38 (.load 39 (.alt 40 (.load 41 (.load 42 (.load 43 (.load 44 (.load 45 (.load 46 (.alt 47 (.alt 48 (.load 49 (.load 50 (.load 51 (.load 52 (.load 53 (.alt 54 (.alt 55 (.load 56 (.load 57 (.load 58 (.load 59 (.load 60 (.load 61 (.load 62 (.load 63 (.load 64 (.load 65 (.load 66 (.load 67 (.load 68 (.load 69 (.load 70 (.fin)))))))))))))))) (.none)) (.none))))))) (.none)) (.none)))))))) (.none)))))) (.none)) (.none)) (.alt 34 (.alt 33 (.alt 35 (.load 36 (.load 37 (.load 38 (.load 39 (.alt 40 (.load 41 (.load 42 (.load 43 (.load 44 (.load 45 (.load 46 (.alt 47 (.alt 48 (.load 49 (.load 50 (.load 51 (.load 52 (.load 53 (.alt 54 (.alt 55 (.load 56 (.load 57 (.load 58 (.load 59 (.load 60 (.load 61 (.load 62 (.load 63 (.load 64 (.load 65 (.load 66 (.load 67 (.load 68 (.load 69 (.load 70 (.fin)))))))))))))))) (.none)) (.none))))))) (.none)) (.none)))))))) (.none)))))) (.none)) (.none)) (.none))))))) (.none)) (.none)) (.alt 27 (.alt 26 (.alt 28 (.load 29 (.load 30 (.load 31 (.load 32 (.alt 33 (.alt 34 (.alt 35 (.load 36 (.load 37 (.load 38 (.load 39 (.alt 40 (.load 41 (.load 42 (.load 43 (.load 44 (.load 45 (.load 46 (.alt 47 (.alt 48 (.load 49 (.load 50 (.load 51 (.load 52 (.load 53 (.alt 54 (.alt 55 (.load 56 (.load 57 (.load 58 (.load 59 (.load 60 (.load 61 (.load 62 (.load 63 (.load 64 (.load 65 (.load 66 (.load 67 (.load 68 (.load 69 (.load 70 (.fin)))))))))))))))) (.none)) (.none))))))) (.none)) (.none)))))))) (.none)))))) (.none)) (.none)) (.alt 34 (.alt 33 (.alt 35 (.load 36 (.load 37 (.load 38 (.load 39 (.alt 40 (.load 41 (.load 42 (.load 43 (.load 44 (.load 45 (.load 46 (.alt 47 (.alt 48 (.load 49 (.load 50 (.load 51 (.load 52 (.load 53 (.alt 54 (.alt 55 (.load 56 (.load 57 (.load 58 (.load 59 (.load 60 (.load 61 (.load 62 (.load 63 (.load 64 (.load 65 (.load 66 (.load 67 (.load 68 (.load 69 (.load 70 (.fin)))))))))))))))) (.none)) (.none))))))) (.none)) (.none)))))))) (.none)))))) (.none)) (.none)) (.none))))))) (.none)) (.none)) (.none))) (.alt 27 (.alt 25 (.alt 26 (.alt 28 (.load 29 (.load 30 (.load 31 (.load 32 (.alt 33 (.alt 34 (.alt 35 (.load 36 (.load 37 (.load 38 (.load 39 (.alt 40 (.load 41 (.load 42 (.load 43 (.load 44 (.load 45 (.load 46 (.alt 47 (.alt 48 (.load 49 (.load 50 (.load 51 (.load 52 (.load 53 (.alt 54 (.alt 55 (.load 56 (.load 57 (.load 58 (.load 59 (.load 60 (.load 61 (.load 62 (.load 63 (.load 64 (.load 65 (.load 66 (.load 67 (.load 68 (.load 69 (.load 70 (.fin)))))))))))))))) (.none)) (.none))))))) (.none)) (.none)))))))) (.none)))))) (.none)) (.none)) (.alt 34 (.alt 33 (.alt 35 (.load 36 (.load 37 (.load 38 (.load 39 (.alt 40 (.load 41 (.load 42 (.load 43 (.load 44 (.load 45 (.load 46 (.alt 47 (.alt 48 (.load 49 (.load 50 (.load 51 (.load 52 (.load 53 (.alt 54 (.alt 55 (.load 56 (.load 57 (.load 58 (.load 59 (.load 60 (.load 61 (.load 62 (.load 63 (.load 64 (.load 65 (.load 66 (.load 67 (.load 68 (.load 69 (.load 70 (.fin)))))))))))))))) (.none)) (.none))))))) (.none)) (.none)))))))) (.none)))))) (.none)) (.none)) (.none))))))) (.none)) (.none)) (.none)) (.none)))))))) (.none))))))) (.none)))))) (.none)) (.none))))) (.none)) (.none)))) ⟨xW, m13, hl30, hl34, m37, hl54, hl58, m61⟩ (by kernel_rfl) (by kernel_rfl) (fun w63 x64 => ?_)
  have m13 := m13.ext x64
  have ow19 := ow19.ext x64
  have hl30 := hl30.ext x64
  have ow20 := ow20.ext x64
  have hl34 := hl34.ext x64
  have m37 := m37.ext x64
  have ow43 := ow43.ext x64
  have hl54 := hl54.ext x64
  have ow44 := ow44.ext x64
  have hl58 := hl58.ext x64
  have m61 := m61.ext x64
  have xW := Ext.trans xW x64
  refine WX.yld rfl rfl (blt rfl) rfl (Y.fieldAddr rfl Try.underlying26 rfl ti24 (by decide) rfl) ?_
  refine WX.yld rfl rfl (blt rfl) rfl (Y.load1 rfl Try.underlying24 rfl rfl (Blk.at_c (fun _ h => h.2.2.2.2.1) rfl)) ?_
  refine WX.run rfl rfl (blt rfl) rfl ⟨xW, m13, hl30, hl34, m37, hl54, hl58, m61⟩ (Run.bslice (zs := [.int .i64 0, .int .i64 0, .int .i64 0]) (cs := [_, _, _]) rfl Try.underlying24 ti3 rfl (ble rfl) (by kernel_rfl) rfl rfl) ?_
  rintro _ w68 ⟨g67, rfl, e69, x70, m71⟩
  have n_g9_g67 := ne_new m13 e69
  have r_v17_g67 := ne_newO ow19 e69
  have r_v18_g67 := ne_newO ow20 e69
  have n_g22_g67 := ne_new m37 e69
  have r_v41_g67 := ne_newO ow43 e69
  have r_v42_g67 := ne_newO ow44 e69
  have n_g46_g67 := ne_new m61 e69
  have o_g67 := own_new xW e69
  have m13 := m13.ext x70
  have ow19 := ow19.ext x70
  have hl30 := hl30.ext x70
  have ow20 := ow20.ext x70
  have hl34 := hl34.ext x70
  have m37 := m37.ext x70
  have ow43 := ow43.ext x70
  have hl54 := hl54.ext x70
  have ow44 := ow44.ext x70
  have hl58 := hl58.ext x70
  have m61 := m61.ext x70
  have xW := Ext.trans xW x70
  refine WX.call rfl rfl (blt rfl) rfl rfl rfl has11 rfl ⟨xW, m13, hl30, hl34, m37, hl54, hl58, m61⟩ (same_any _ _ _ _ _ _ _ _ _ hl30 (Ls.lit (f := Sp.ic) (sz := 1) (l := ([1, 2, 0] : List Int)) m71 (fun _ => rfl) rfl (by decide) rfl)) ?_
  rintro _ w72 ⟨rfl, x73⟩
  refine ⟨_, rfl, ?_⟩
  have m13 := m13.ext x73
  have ow19 := ow19.ext x73
  have hl30 := hl30.ext x73
  have ow20 := ow20.ext x73
  have hl34 := hl34.ext x73
  have m37 := m37.ext x73
  have ow43 := ow43.ext x73
  have hl54 := hl54.ext x73
  have ow44 := ow44.ext x73
  have hl58 := hl58.ext x73
  have m61 := m61.ext x73
  have m71 := m71.ext x73
  have xW := Ext.trans xW x73
  refine WX.yld rfl rfl (blt rfl) rfl (Yld.cast (Y.move rfl rfl) (vb (b := true) (decide_eq_true It.aw_ord))) ?_
  refine WX.yldW rfl rfl (blt rfl) rfl rfl rfl (Y.fieldAddr rfl Try.underlying26 rfl ti24 (by decide) rfl) ?_
  refine WX.yldW rfl rfl (blt rfl) rfl rfl rfl (Y.load1 rfl Try.underlying24 rfl rfl (Blk.at_c (fun _ h => h.2.2.2.2.1) rfl)) ?_
  refine WX.runW rfl rfl (blt rfl) rfl rfl rfl ⟨xW, m13, hl30, hl34, m37, hl54, hl58, m61⟩ (Run.bslice (zs := [.int .i64 0, .int .i64 0, .int .i64 0]) (cs := [_, _, _]) rfl Try.underlying24 ti3 rfl (ble rfl) (by kernel_rfl) rfl rfl) ?_
  rintro _ w75 ⟨g74, rfl, e76, x77, m78⟩
  have n_g9_g74 := ne_new m13 e76
  have r_v17_g74 := ne_newO ow19 e76
  have r_v18_g74 := ne_newO ow20 e76
  have n_g22_g74 := ne_new m37 e76
  have r_v41_g74 := ne_newO ow43 e76
  have r_v42_g74 := ne_newO ow44 e76
  have n_g46_g74 := ne_new m61 e76
  have n_g67_g74 := ne_new m71 e76
  have o_g74 := own_new xW e76
  have m13 := m13.ext x77
  have ow19 := ow19.ext x77
  have hl30 := hl30.ext x77
  have ow20 := ow20.ext x77
  have hl34 := hl34.ext x77
  have m37 := m37.ext x77
  have ow43 := ow43.ext x77
  have hl54 := hl54.ext x77
  have ow44 := ow44.ext x77
  have hl58 := hl58.ext x77
  have m61 := m61.ext x77
  have m71 := m71.ext x77
  have xW := Ext.trans xW x77
  refine WX.callW rfl rfl (blt rfl) rfl rfl rfl rfl rfl has11 rfl ⟨xW, m13, hl30, hl34, m37, hl54, hl58, m61⟩ (same_any _ _ _ _ _ _ _ _ _ hl34 (Ls.lit (f := Sp.ic) (sz := 1) (l := ([20, 20, 9] : List Int)) m78 (fun _ => rfl) rfl (by decide) rfl)) ?_
  rintro _ w79 ⟨rfl, x80⟩
  refine ⟨_, rfl, ?_⟩
  have m13 := m13.ext x80
  have ow19 := ow19.ext x80
  have hl30 := hl30.ext x80
  have ow20 := ow20.ext x80
  have hl34 := hl34.ext x80
  have m37 := m37.ext x80
  have ow43 := ow43.ext x80
  have hl54 := hl54.ext x80
  have ow44 := ow44.ext x80
  have hl58 := hl58.ext x80
  have m61 := m61.ext x80
  have m71 := m71.ext x80
  have m78 := m78.ext x80
  have xW := Ext.trans xW x80
  refine WX.yld rfl rfl (blt rfl) rfl (Yld.cast (Y.pickT rfl rfl rfl) (vb (b := true) (decide_eq_true It.aw_most))) ?_
  refine WX.yld rfl rfl (blt rfl) rfl (Y.move rfl rfl) ?_
  refine WX.yldW rfl rfl (blt rfl) rfl rfl rfl (Y.move rfl rfl) ?_
  refine WX.yldW rfl rfl (blt rfl) rfl rfl rfl (Y.loadS rfl Try.underlying26 rfl ti26 rfl (Blk.row_c (fun _ h => h.2.2.2.2.1))) ?_
  refine WX.callW rfl rfl (blt rfl) rfl rfl rfl rfl rfl has12 rfl ⟨xW, m13, hl30, hl34, m37, hl54, hl58, m61⟩ (check_any _ _ _ _ _ _ _ _ _ _ _ _ _ (Ls.lit (f := Sp.S.c) (sz := 2) (l := It.L3) m13 (fun _ => rfl) rfl (by decide) rfl) hl30 hl34 (by omega)) ?_
  rintro _ w81 ⟨rfl, x82⟩
  refine ⟨_, rfl, ?_⟩
  have m13 := m13.ext x82
  have ow19 := ow19.ext x82
  have hl30 := hl30.ext x82
  have ow20 := ow20.ext x82
  have hl34 := hl34.ext x82
  have m37 := m37.ext x82
  have ow43 := ow43.ext x82
  have hl54 := hl54.ext x82
  have ow44 := ow44.ext x82
  have hl58 := hl58.ext x82
  have m61 := m61.ext x82
  have m71 := m71.ext x82
  have m78 := m78.ext x82
  have xW := Ext.trans xW x82
  refine WX.yld rfl rfl (blt rfl) rfl (Yld.cast (Y.pickT rfl rfl rfl) (vb (b := true) (It.chk_self _))) ?_
  refine WX.yld rfl rfl (blt rfl) rfl (Y.move rfl rfl) ?_
  refine WX.yldW rfl rfl (blt rfl) rfl rfl rfl (Y.move rfl rfl) ?_
  have b83 : 2 ≤ 3 := by omega
  refine WX.yldW rfl rfl (blt rfl) rfl rfl rfl (Y.sliceH 2 rfl Try.underlying22 ti32 rfl rfl rfl (Nat.le_trans b83 (Ls.lit (f := Sp.S.c) (sz := 2) (l := It.L3) m13 (fun _ => rfl) rfl (by decide) rfl).le)) ?_
  refine WX.yldW rfl rfl (blt rfl) rfl rfl rfl (Y.loadS rfl Try.underlying26 rfl ti26 rfl (Blk.row_c (fun _ h => h.2.2.2.2.1))) ?_
  refine WX.callW rfl rfl (blt rfl) rfl rfl rfl rfl rfl has12 rfl ⟨xW, m13, hl30, hl34, m37, hl54, hl58, m61⟩ (check_any _ _ _ _ _ _ _ _ _ _ _ _ _ ((Ls.lit (f := Sp.S.c) (sz := 2) (l := It.L3) m13 (fun _ => rfl) rfl (by decide) rfl).take b83) hl30 hl34 (by omega)) ?_
  rintro _ w84 ⟨rfl, x85⟩
  refine ⟨_, rfl, ?_⟩
  have m13 := m13.ext x85
  have ow19 := ow19.ext x85
  have hl30 := hl30.ext x85
  have ow20 := ow20.ext x85
  have hl34 := hl34.ext x85
  have m37 := m37.ext x85
  have ow43 := ow43.ext x85
  have hl54 := hl54.ext x85
  have ow44 := ow44.ext x85
  have hl58 := hl58.ext x85
  have m61 := m61.ext x85
  have m71 := m71.ext x85
  have m78 := m78.ext x85
  have xW := Ext.trans xW x85
  refine WX.yldW rfl rfl (blt rfl) rfl rfl rfl (Yld.cast (Y.not rfl rfl) (vb (b := true) (by rw [It.aw_chk2]; rfl))) ?_
  refine WX.yld rfl rfl (blt rfl) rfl (Y.pickT rfl rfl rfl) ?_
  refine WX.yld rfl rfl (blt rfl) rfl (Y.move rfl rfl) ?_
  refine WX.yldW rfl rfl (blt rfl) rfl rfl rfl (Y.move rfl rfl) ?_
  refine WX.yldW rfl rfl (blt rfl) rfl rfl rfl (Y.loadS rfl Try.underlying26 rfl ti26 rfl (Blk.row_c (fun _ h => h.2.2.2.2.1))) ?_
  refine WX.alt ?_ ?_
  ·
    refine WX.callW rfl rfl (blt rfl) rfl rfl rfl rfl rfl has22 rfl ⟨xW, m13, hl30, hl34, m37, hl54, hl58, m61⟩ (of_any _ _ _ ) ?_
    rintro _ w86 ⟨rfl, x87⟩
    refine ⟨_, rfl, ?_⟩
    have m13 := m13.ext x87
    have ow19 := ow19.ext x87
    have hl30 := hl30.ext x87
    have ow20 := ow20.ext x87
    have hl34 := hl34.ext x87
    have m37 := m37.ext x87
    have ow43 := ow43.ext x87
    have hl54 := hl54.ext x87
    have ow44 := ow44.ext x87
    have hl58 := hl58.ext x87
    have m61 := m61.ext x87
    have m71 := m71.ext x87
    have m78 := m78.ext x87
    have xW := Ext.trans xW x87
    refine WX.alt ?_ ?_
    ·
      refine WX.callW rfl rfl (blt rfl) rfl rfl rfl rfl rfl has15 rfl ⟨xW, m13, hl30, hl34, m37, hl54, hl58, m61⟩ (overlap_any _ _ _ _ _ _ _ _ _ _ _ _ ⟨8, 10⟩ _ (Ls.lit (f := Sp.S.c) (sz := 2) (l := It.L3) m13 (fun _ => rfl) rfl (by decide) rfl) hl30 hl34 (by decide)) ?_
      rintro _ w88 ⟨v90, rfl, ow91, x89⟩
      refine ⟨_, rfl, ?_⟩
      have r_v90_g9 := ne_res ow91 m13
      have d_v17_v90 := (Apart.res ow91 ow19).symm
      have d_v18_v90 := (Apart.res ow91 ow20).symm
      have r_v90_g22 := ne_res ow91 m37
      have d_v41_v90 := (Apart.res ow91 ow43).symm
      have d_v42_v90 := (Apart.res ow91 ow44).symm
      have r_v90_g46 := ne_res ow91 m61
      have r_v90_g67 := ne_res ow91 m71
      have r_v90_g74 := ne_res ow91 m78
      have ow91 := OwnL.base_le ow91 xW.size
      have m13 := m13.ext x89
      have ow19 := ow19.ext x89
      have hl30 := hl30.ext x89
      have ow20 := ow20.ext x89
      have hl34 := hl34.ext x89
      have m37 := m37.ext x89
      have ow43 := ow43.ext x89
      have hl54 := hl54.ext x89
      have ow44 := ow44.ext x89
      have hl58 := hl58.ext x89
      have m61 := m61.ext x89
      have m71 := m71.ext x89
      have m78 := m78.ext x89
      have xW := Ext.trans xW x89
      refine WX.runW rfl rfl (blt rfl) rfl rfl rfl ⟨xW, m13, hl30, hl34, m37, hl54, hl58, m61⟩ (Run.bslice (zs := [.int .i64 0, .int .i64 0]) (cs := [_, _]) rfl Try.underlying24 ti3 rfl (ble rfl) (by kernel_rfl) rfl rfl) ?_
      rintro _ w93 ⟨g92, rfl, e94, x95, m96⟩
      have n_g9_g92 := ne_new m13 e94
      have r_v17_g92 := ne_newO ow19 e94
      have r_v18_g92 := ne_newO ow20 e94
      have n_g22_g92 := ne_new m37 e94
      have r_v41_g92 := ne_newO ow43 e94
      have r_v42_g92 := ne_newO ow44 e94
      have n_g46_g92 := ne_new m61 e94
      have n_g67_g92 := ne_new m71 e94
      have n_g74_g92 := ne_new m78 e94
      have r_v90_g92 := ne_newO ow91 e94
      have o_g92 := own_new xW e94
      have m13 := m13.ext x95
      have ow19 := ow19.ext x95
      have hl30 := hl30.ext x95
      have ow20 := ow20.ext x95
      have hl34 := hl34.ext x95
      have m37 := m37.ext x95
      have ow43 := ow43.ext x95
      have hl54 := hl54.ext x95
      have ow44 := ow44.ext x95
      have hl58 := hl58.ext x95
      have m61 := m61.ext x95
      have m71 := m71.ext x95
      have m78 := m78.ext x95
      have ow91 := ow91.ext x95
      have xW := Ext.trans xW x95
      obtain ⟨A97, n98, c99, rfl, hl100⟩ := OwnL.opened ow91 (fun _ => rfl) (by decide)
      have e_n98 := hl100.len
      try simp only [List.length_append, List.length_cons, List.length_nil, List.length_reverse, List.length_drop, List.length_take, List.length_map, List.length_replicate] at e_n98
      have z_n98 := hl100.nle
      refine WX.callW rfl rfl (blt rfl) rfl rfl rfl rfl rfl has11 rfl ⟨xW, m13, hl30, hl34, m37, hl54, hl58, m61⟩ (same_any _ _ _ _ _ _ _ _ _ hl100 (Ls.lit (f := Sp.ic) (sz := 1) (l := ([0, 1] : List Int)) m96 (fun _ => rfl) rfl (by decide) rfl)) ?_
      rintro _ w101 ⟨rfl, x102⟩
      refine ⟨_, rfl, ?_⟩
      have m13 := m13.ext x102
      have ow19 := ow19.ext x102
      have hl30 := hl30.ext x102
      have ow20 := ow20.ext x102
      have hl34 := hl34.ext x102
      have m37 := m37.ext x102
      have ow43 := ow43.ext x102
      have hl54 := hl54.ext x102
      have ow44 := ow44.ext x102
      have hl58 := hl58.ext x102
      have m61 := m61.ext x102
      have m71 := m71.ext x102
      have m78 := m78.ext x102
      have ow91 := ow91.ext x102
      have hl100 := hl100.ext x102
      have m96 := m96.ext x102
      have xW := Ext.trans xW x102
      refine WX.yld rfl rfl (blt rfl) rfl (Yld.cast (Y.pickT rfl rfl rfl) (vb (b := true) (decide_eq_true It.aw_over))) ?_
      refine WX.yld rfl rfl (blt rfl) rfl (Y.move rfl rfl) ?_
      refine WX.yldW rfl rfl (blt rfl) rfl rfl rfl (Y.move rfl rfl) ?_
      refine WX.yldW rfl rfl (blt rfl) rfl rfl rfl (Y.loadS rfl Try.underlying26 rfl ti26 rfl (Blk.row_c (fun _ h => h.2.2.2.2.1))) ?_
      refine WX.alt ?_ ?_
      ·
        refine WX.callW rfl rfl (blt rfl) rfl rfl rfl rfl rfl has17 rfl ⟨xW, m13, hl30, hl34, m37, hl54, hl58, m61⟩ (stab_any _ _ _ _ _ _ _ _ _ _ _ _ 6 _ (Ls.lit (f := Sp.S.c) (sz := 2) (l := It.L3) m13 (fun _ => rfl) rfl (by decide) rfl) hl30 hl34 (by decide)) ?_
        rintro _ w103 ⟨v105, rfl, ow106, x104⟩
        refine ⟨_, rfl, ?_⟩
        have r_v105_g9 := ne_res ow106 m13
        have d_v105_v17 := Apart.res ow106 ow19
        have d_v105_v18 := Apart.res ow106 ow20
        have r_v105_g22 := ne_res ow106 m37
        have d_v105_v41 := Apart.res ow106 ow43
        have d_v105_v42 := Apart.res ow106 ow44
        have r_v105_g46 := ne_res ow106 m61
        have r_v105_g67 := ne_res ow106 m71
        have r_v105_g74 := ne_res ow106 m78
        have d_v105_v90 := Apart.res ow106 ow91
        have r_v105_g92 := ne_res ow106 m96
        have ow106 := OwnL.base_le ow106 xW.size
        have m13 := m13.ext x104
        have ow19 := ow19.ext x104
        have hl30 := hl30.ext x104
        have ow20 := ow20.ext x104
        have hl34 := hl34.ext x104
        have m37 := m37.ext x104
        have ow43 := ow43.ext x104
        have hl54 := hl54.ext x104
        have ow44 := ow44.ext x104
        have hl58 := hl58.ext x104
        have m61 := m61.ext x104
        have m71 := m71.ext x104
        have m78 := m78.ext x104
        have ow91 := ow91.ext x104
        have hl100 := hl100.ext x104
        have m96 := m96.ext x104
        have xW := Ext.trans xW x104
        refine WX.runW rfl rfl (blt rfl) rfl rfl rfl ⟨xW, m13, hl30, hl34, m37, hl54, hl58, m61⟩ (Run.bslice (zs := [.int .i64 0, .int .i64 0, .int .i64 0]) (cs := [_, _, _]) rfl Try.underlying24 ti3 rfl (ble rfl) (by kernel_rfl) rfl rfl) ?_
        rintro _ w108 ⟨g107, rfl, e109, x110, m111⟩
        have n_g9_g107 := ne_new m13 e109
        have r_v17_g107 := ne_newO ow19 e109
        have r_v18_g107 := ne_newO ow20 e109
        have n_g22_g107 := ne_new m37 e109
        have r_v41_g107 := ne_newO ow43 e109
        have r_v42_g107 := ne_newO ow44 e109
        have n_g46_g107 := ne_new m61 e109
        have n_g67_g107 := ne_new m71 e109
        have n_g74_g107 := ne_new m78 e109
        have r_v90_g107 := ne_newO ow91 e109
        have n_g92_g107 := ne_new m96 e109
        have r_v105_g107 := ne_newO ow106 e109
        have o_g107 := own_new xW e109
        have m13 := m13.ext x110
        have ow19 := ow19.ext x110
        have hl30 := hl30.ext x110
        have ow20 := ow20.ext x110
        have hl34 := hl34.ext x110
        have m37 := m37.ext x110
        have ow43 := ow43.ext x110
        have hl54 := hl54.ext x110
        have ow44 := ow44.ext x110
        have hl58 := hl58.ext x110
        have m61 := m61.ext x110
        have m71 := m71.ext x110
        have m78 := m78.ext x110
        have ow91 := ow91.ext x110
        have hl100 := hl100.ext x110
        have m96 := m96.ext x110
        have ow106 := ow106.ext x110
        have xW := Ext.trans xW x110
        obtain ⟨A112, n113, c114, rfl, hl115⟩ := OwnL.opened ow106 (fun _ => rfl) (by decide)
        have e_n113 := hl115.len
        try simp only [List.length_append, List.length_cons, List.length_nil, List.length_reverse, List.length_drop, List.length_take, List.length_map, List.length_replicate] at e_n113
        have z_n113 := hl115.nle
        refine WX.callW rfl rfl (blt rfl) rfl rfl rfl rfl rfl has11 rfl ⟨xW, m13, hl30, hl34, m37, hl54, hl58, m61⟩ (same_any _ _ _ _ _ _ _ _ _ hl115 (Ls.lit (f := Sp.ic) (sz := 1) (l := ([0, 1, 2] : List Int)) m111 (fun _ => rfl) rfl (by decide) rfl)) ?_
        rintro _ w116 ⟨rfl, x117⟩
        refine ⟨_, rfl, ?_⟩
        have m13 := m13.ext x117
        have ow19 := ow19.ext x117
        have hl30 := hl30.ext x117
        have ow20 := ow20.ext x117
        have hl34 := hl34.ext x117
        have m37 := m37.ext x117
        have ow43 := ow43.ext x117
        have hl54 := hl54.ext x117
        have ow44 := ow44.ext x117
        have hl58 := hl58.ext x117
        have m61 := m61.ext x117
        have m71 := m71.ext x117
        have m78 := m78.ext x117
        have ow91 := ow91.ext x117
        have hl100 := hl100.ext x117
        have m96 := m96.ext x117
        have ow106 := ow106.ext x117
        have hl115 := hl115.ext x117
        have m111 := m111.ext x117
        have xW := Ext.trans xW x117
        refine WX.yld rfl rfl (blt rfl) rfl (Yld.cast (Y.pickT rfl rfl rfl) (vb (b := true) (decide_eq_true It.aw_stab6))) ?_
        refine WX.yld rfl rfl (blt rfl) rfl (Y.move rfl rfl) ?_
        refine WX.yldW rfl rfl (blt rfl) rfl rfl rfl (Y.move rfl rfl) ?_
        refine WX.yldW rfl rfl (blt rfl) rfl rfl rfl (Y.loadS rfl Try.underlying26 rfl ti26 rfl (Blk.row_c (fun _ h => h.2.2.2.2.1))) ?_
        refine WX.callW rfl rfl (blt rfl) rfl rfl rfl rfl rfl has17 rfl ⟨xW, m13, hl30, hl34, m37, hl54, hl58, m61⟩ (stab_any _ _ _ _ _ _ _ _ _ _ _ _ 20 _ (Ls.lit (f := Sp.S.c) (sz := 2) (l := It.L3) m13 (fun _ => rfl) rfl (by decide) rfl) hl30 hl34 (by decide)) ?_
        rintro _ w118 ⟨v120, rfl, ow121, x119⟩
        refine ⟨_, rfl, ?_⟩
        have r_v120_g9 := ne_res ow121 m13
        have d_v120_v17 := Apart.res ow121 ow19
        have d_v120_v18 := Apart.res ow121 ow20
        have r_v120_g22 := ne_res ow121 m37
        have d_v120_v41 := Apart.res ow121 ow43
        have d_v120_v42 := Apart.res ow121 ow44
        have r_v120_g46 := ne_res ow121 m61
        have r_v120_g67 := ne_res ow121 m71
        have r_v120_g74 := ne_res ow121 m78
        have d_v120_v90 := Apart.res ow121 ow91
        have r_v120_g92 := ne_res ow121 m96
        have d_v105_v120 := (Apart.res ow121 ow106).symm
        have r_v120_g107 := ne_res ow121 m111
        have ow121 := OwnL.base_le ow121 xW.size
        have m13 := m13.ext x119
        have ow19 := ow19.ext x119
        have hl30 := hl30.ext x119
        have ow20 := ow20.ext x119
        have hl34 := hl34.ext x119
        have m37 := m37.ext x119
        have ow43 := ow43.ext x119
        have hl54 := hl54.ext x119
        have ow44 := ow44.ext x119
        have hl58 := hl58.ext x119
        have m61 := m61.ext x119
        have m71 := m71.ext x119
        have m78 := m78.ext x119
        have ow91 := ow91.ext x119
        have hl100 := hl100.ext x119
        have m96 := m96.ext x119
        have ow106 := ow106.ext x119
        have hl115 := hl115.ext x119
        have m111 := m111.ext x119
        have xW := Ext.trans xW x119
        rw [It.aw_stab20] at ow121
        obtain ⟨A122, n123, c124, rfl, hl125⟩ := OwnL.opened ow121 (fun _ => rfl) (by decide)
        have e_n123 := hl125.len
        try simp only [List.length_append, List.length_cons, List.length_nil, List.length_reverse, List.length_drop, List.length_take, List.length_map, List.length_replicate] at e_n123
        have z_n123 := hl125.nle
        refine WX.yldW rfl rfl (blt rfl) rfl rfl rfl (Y.lenSl rfl rfl rfl Try.underlying24 rfl) ?_
        refine WX.yldW rfl rfl (blt rfl) rfl rfl rfl (Yld.cast (Y.eql rfl rfl rfl) (vb (b := true) (beq_iff_eq.2 (by omega)))) ?_
        refine WX.yld rfl rfl (blt rfl) rfl (Y.pickT rfl rfl rfl) ?_
        refine WX.yld rfl rfl (blt rfl) rfl (Y.move rfl rfl) ?_
        refine WX.yldW rfl rfl (blt rfl) rfl rfl rfl (Y.move rfl rfl) ?_
        refine WX.yldW rfl rfl (blt rfl) rfl rfl rfl (Y.loadS rfl Try.underlying26 rfl ti26 rfl (Blk.row_c (fun _ h => h.2.2.2.2.1))) ?_
        refine WX.callW rfl rfl (blt rfl) rfl rfl rfl rfl rfl has22 rfl ⟨xW, m13, hl30, hl34, m37, hl54, hl58, m61⟩ (of_any _ _ _ ) ?_
        rintro _ w126 ⟨rfl, x127⟩
        refine ⟨_, rfl, ?_⟩
        have m13 := m13.ext x127
        have ow19 := ow19.ext x127
        have hl30 := hl30.ext x127
        have ow20 := ow20.ext x127
        have hl34 := hl34.ext x127
        have m37 := m37.ext x127
        have ow43 := ow43.ext x127
        have hl54 := hl54.ext x127
        have ow44 := ow44.ext x127
        have hl58 := hl58.ext x127
        have m61 := m61.ext x127
        have m71 := m71.ext x127
        have m78 := m78.ext x127
        have ow91 := ow91.ext x127
        have hl100 := hl100.ext x127
        have m96 := m96.ext x127
        have ow106 := ow106.ext x127
        have hl115 := hl115.ext x127
        have m111 := m111.ext x127
        have ow121 := ow121.ext x127
        have hl125 := hl125.ext x127
        have xW := Ext.trans xW x127
        refine WX.callW rfl rfl (blt rfl) rfl rfl rfl rfl rfl has19 rfl ⟨xW, m13, hl30, hl34, m37, hl54, hl58, m61⟩ (visits_any _ _ _ _ _ _ _ _ _ _ _ _ ⟨8, 10⟩ _ (Ls.lit (f := Sp.S.c) (sz := 2) (l := It.L3) m13 (fun _ => rfl) rfl (by decide) rfl) hl30 hl34 (by decide)) ?_
        rintro _ w128 ⟨rfl, x129⟩
        refine ⟨_, rfl, ?_⟩
        have m13 := m13.ext x129
        have ow19 := ow19.ext x129
        have hl30 := hl30.ext x129
        have ow20 := ow20.ext x129
        have hl34 := hl34.ext x129
        have m37 := m37.ext x129
        have ow43 := ow43.ext x129
        have hl54 := hl54.ext x129
        have ow44 := ow44.ext x129
        have hl58 := hl58.ext x129
        have m61 := m61.ext x129
        have m71 := m71.ext x129
        have m78 := m78.ext x129
        have ow91 := ow91.ext x129
        have hl100 := hl100.ext x129
        have m96 := m96.ext x129
        have ow106 := ow106.ext x129
        have hl115 := hl115.ext x129
        have m111 := m111.ext x129
        have ow121 := ow121.ext x129
        have hl125 := hl125.ext x129
        have xW := Ext.trans xW x129
        refine WX.yldW rfl rfl (blt rfl) rfl rfl rfl (Yld.cast (Y.eql rfl rfl rfl) (vb (b := true) (by rw [It.aw_vis1]; rfl))) ?_
        refine WX.yld rfl rfl (blt rfl) rfl (Y.pickT rfl rfl rfl) ?_
        refine WX.yld rfl rfl (blt rfl) rfl (Y.move rfl rfl) ?_
        refine WX.yldW rfl rfl (blt rfl) rfl rfl rfl (Y.move rfl rfl) ?_
        refine WX.yldW rfl rfl (blt rfl) rfl rfl rfl (Y.loadS rfl Try.underlying26 rfl ti26 rfl (Blk.row_c (fun _ h => h.2.2.2.2.1))) ?_
        refine WX.callW rfl rfl (blt rfl) rfl rfl rfl rfl rfl has22 rfl ⟨xW, m13, hl30, hl34, m37, hl54, hl58, m61⟩ (of_any _ _ _ ) ?_
        rintro _ w130 ⟨rfl, x131⟩
        refine ⟨_, rfl, ?_⟩
        have m13 := m13.ext x131
        have ow19 := ow19.ext x131
        have hl30 := hl30.ext x131
        have ow20 := ow20.ext x131
        have hl34 := hl34.ext x131
        have m37 := m37.ext x131
        have ow43 := ow43.ext x131
        have hl54 := hl54.ext x131
        have ow44 := ow44.ext x131
        have hl58 := hl58.ext x131
        have m61 := m61.ext x131
        have m71 := m71.ext x131
        have m78 := m78.ext x131
        have ow91 := ow91.ext x131
        have hl100 := hl100.ext x131
        have m96 := m96.ext x131
        have ow106 := ow106.ext x131
        have hl115 := hl115.ext x131
        have m111 := m111.ext x131
        have ow121 := ow121.ext x131
        have hl125 := hl125.ext x131
        have xW := Ext.trans xW x131
        refine WX.callW rfl rfl (blt rfl) rfl rfl rfl rfl rfl has19 rfl ⟨xW, m13, hl30, hl34, m37, hl54, hl58, m61⟩ (visits_any _ _ _ _ _ _ _ _ _ _ _ _ ⟨20, 30⟩ _ (Ls.lit (f := Sp.S.c) (sz := 2) (l := It.L3) m13 (fun _ => rfl) rfl (by decide) rfl) hl30 hl34 (by decide)) ?_
        rintro _ w132 ⟨rfl, x133⟩
        refine ⟨_, rfl, ?_⟩
        have m13 := m13.ext x133
        have ow19 := ow19.ext x133
        have hl30 := hl30.ext x133
        have ow20 := ow20.ext x133
        have hl34 := hl34.ext x133
        have m37 := m37.ext x133
        have ow43 := ow43.ext x133
        have hl54 := hl54.ext x133
        have ow44 := ow44.ext x133
        have hl58 := hl58.ext x133
        have m61 := m61.ext x133
        have m71 := m71.ext x133
        have m78 := m78.ext x133
        have ow91 := ow91.ext x133
        have hl100 := hl100.ext x133
        have m96 := m96.ext x133
        have ow106 := ow106.ext x133
        have hl115 := hl115.ext x133
        have m111 := m111.ext x133
        have ow121 := ow121.ext x133
        have hl125 := hl125.ext x133
        have xW := Ext.trans xW x133
        refine WX.yldW rfl rfl (blt rfl) rfl rfl rfl (Yld.cast (Y.eql rfl rfl rfl) (vb (b := true) (by rw [It.aw_vis2]; rfl))) ?_
        refine WX.yld rfl rfl (blt rfl) rfl (Y.pickT rfl rfl rfl) ?_
        refine WX.yld rfl rfl (blt rfl) rfl (Y.move rfl rfl) ?_
        refine WX.yldW rfl rfl (blt rfl) rfl rfl rfl (Y.fieldAddr rfl Try.underlying26 rfl ti24 (by decide) rfl) ?_
        refine WX.yldW rfl rfl (blt rfl) rfl rfl rfl (Y.load1 rfl Try.underlying24 rfl rfl (Blk.at_c (fun _ h => h.2.2.2.2.2.2.2) rfl)) ?_
        refine WX.yldW rfl rfl (blt rfl) rfl rfl rfl (Y.lenSl rfl rfl rfl Try.underlying24 rfl) ?_
        refine WX.yldW rfl rfl (blt rfl) rfl rfl rfl (Yld.cast (Y.eql rfl rfl rfl) (vb (b := true) (beq_iff_eq.2 (by have q := It.ord_len ([] : List Sp.S) 0; omega)))) ?_
        refine WX.yld rfl rfl (blt rfl) rfl (Y.pickT rfl rfl rfl) ?_
        refine WX.yld rfl rfl (blt rfl) rfl (Y.move rfl rfl) ?_
        refine WX.yldW rfl rfl (blt rfl) rfl rfl rfl (Y.fieldAddr rfl Try.underlying26 rfl ti24 (by decide) rfl) ?_
        refine WX.yldW rfl rfl (blt rfl) rfl rfl rfl (Y.load1 rfl Try.underlying24 rfl rfl (Blk.at_c (fun _ h => h.2.2.2.2.2.2.2) rfl)) ?_
        refine WX.yldW rfl rfl (blt rfl) rfl rfl rfl (Y.lenSl rfl rfl rfl Try.underlying24 rfl) ?_
        refine WX.yldW rfl rfl (blt rfl) rfl rfl rfl (Yld.cast (Y.eql rfl rfl rfl) (vb (b := true) (beq_iff_eq.2 (by have q := It.most_len ([] : List Sp.S); simp only [List.length_nil] at q; omega)))) ?_
        refine WX.yld rfl rfl (blt rfl) rfl (Y.pickT rfl rfl rfl) ?_
        refine WX.yld rfl rfl (blt rfl) rfl (Y.assign rfl rfl) ?_
        refine WX.nil ⟨xW, m13, hl30, hl34, m37, hl54, hl58, m61⟩ ?_
        exact WK.cut [(0, _)] ⟨rfl, trivial⟩ rfl xW
      refine WX.runW rfl rfl (blt rfl) rfl rfl rfl ⟨xW, m13, hl30, hl34, m37, hl54, hl58, m61⟩ (Run.bslice (zs := [.int .i64 0, .int .i64 0, .int .i64 0]) (cs := [_, _, _]) rfl Try.underlying24 ti3 rfl (ble rfl) (by kernel_rfl) rfl rfl) ?_
      rintro _ w135 ⟨g134, rfl, e136, x137, m138⟩
      have n_g9_g134 := ne_new m13 e136
      have r_v17_g134 := ne_newO ow19 e136
      have r_v18_g134 := ne_newO ow20 e136
      have n_g22_g134 := ne_new m37 e136
      have r_v41_g134 := ne_newO ow43 e136
      have r_v42_g134 := ne_newO ow44 e136
      have n_g46_g134 := ne_new m61 e136
      have n_g67_g134 := ne_new m71 e136
      have n_g74_g134 := ne_new m78 e136
      have r_v90_g134 := ne_newO ow91 e136
      have n_g92_g134 := ne_new m96 e136
      have o_g134 := own_new xW e136
      have m13 := m13.ext x137
      have ow19 := ow19.ext x137
      have hl30 := hl30.ext x137
      have ow20 := ow20.ext x137
      have hl34 := hl34.ext x137
      have m37 := m37.ext x137
      have ow43 := ow43.ext x137
      have hl54 := hl54.ext x137
      have ow44 := ow44.ext x137
      have hl58 := hl58.ext x137
      have m61 := m61.ext x137
      have m71 := m71.ext x137
      have m78 := m78.ext x137
      have ow91 := ow91.ext x137
      have hl100 := hl100.ext x137
      have m96 := m96.ext x137
      have xW := Ext.trans xW x137
      refine WX.callW rfl rfl (blt rfl) rfl rfl rfl rfl rfl has17 rfl ⟨xW, m13, hl30, hl34, m37, hl54, hl58, m61⟩ (stab_any _ _ _ _ _ _ _ _ _ _ _ _ 6 _ (Ls.lit (f := Sp.S.c) (sz := 2) (l := It.L3) m13 (fun _ => rfl) rfl (by decide) rfl) hl30 hl34 (by decide)) ?_
      rintro _ w139 ⟨v141, rfl, ow142, x140⟩
      refine ⟨_, rfl, ?_⟩
      have r_v141_g9 := ne_res ow142 m13
      have d_v141_v17 := Apart.res ow142 ow19
      have d_v141_v18 := Apart.res ow142 ow20
      have r_v141_g22 := ne_res ow142 m37
      have d_v141_v41 := Apart.res ow142 ow43
      have d_v141_v42 := Apart.res ow142 ow44
      have r_v141_g46 := ne_res ow142 m61
      have r_v141_g67 := ne_res ow142 m71
      have r_v141_g74 := ne_res ow142 m78
      have d_v141_v90 := Apart.res ow142 ow91
      have r_v141_g92 := ne_res ow142 m96
      have r_v141_g134 := ne_res ow142 m138
      have ow142 := OwnL.base_le ow142 xW.size
      have m13 := m13.ext x140
      have ow19 := ow19.ext x140
      have hl30 := hl30.ext x140
      have ow20 := ow20.ext x140
      have hl34 := hl34.ext x140
      have m37 := m37.ext x140
      have ow43 := ow43.ext x140
      have hl54 := hl54.ext x140
      have ow44 := ow44.ext x140
      have hl58 := hl58.ext x140
      have m61 := m61.ext x140
      have m71 := m71.ext x140
      have m78 := m78.ext x140
      have ow91 := ow91.ext x140
      have hl100 := hl100.ext x140
      have m96 := m96.ext x140
      have m138 := m138.ext x140
      have xW := Ext.trans xW x140
      obtain ⟨A143, n144, c145, rfl, hl146⟩ := OwnL.opened ow142 (fun _ => rfl) (by decide)
      have e_n144 := hl146.len
      try simp only [List.length_append, List.length_cons, List.length_nil, List.length_reverse, List.length_drop, List.length_take, List.length_map, List.length_replicate] at e_n144
      have z_n144 := hl146.nle
      refine WX.callW rfl rfl (blt rfl) rfl rfl rfl rfl rfl has11 rfl ⟨xW, m13, hl30, hl34, m37, hl54, hl58, m61⟩ (same_any _ _ _ _ _ _ _ _ _ hl146 (Ls.lit (f := Sp.ic) (sz := 1) (l := ([0, 1, 2] : List Int)) m138 (fun _ => rfl) rfl (by decide) rfl)) ?_
      rintro _ w147 ⟨rfl, x148⟩
      refine ⟨_, rfl, ?_⟩
      have m13 := m13.ext x148
      have ow19 := ow19.ext x148
      have hl30 := hl30.ext x148
      have ow20 := ow20.ext x148
      have hl34 := hl34.ext x148
      have m37 := m37.ext x148
      have ow43 := ow43.ext x148
      have hl54 := hl54.ext x148
      have ow44 := ow44.ext x148
      have hl58 := hl58.ext x148
      have m61 := m61.ext x148
      have m71 := m71.ext x148
      have m78 := m78.ext x148
      have ow91 := ow91.ext x148
      have hl100 := hl100.ext x148
      have m96 := m96.ext x148
      have m138 := m138.ext x148
      have ow142 := ow142.ext x148
      have hl146 := hl146.ext x148
      have xW := Ext.trans xW x148
      refine WX.yld rfl rfl (blt rfl) rfl (Yld.cast (Y.pickT rfl rfl rfl) (vb (b := true) (decide_eq_true It.aw_stab6))) ?_
      refine WX.yld rfl rfl (blt rfl) rfl (Y.move rfl rfl) ?_
      refine WX.yldW rfl rfl (blt rfl) rfl rfl rfl (Y.move rfl rfl) ?_
      refine WX.yldW rfl rfl (blt rfl) rfl rfl rfl (Y.loadS rfl Try.underlying26 rfl ti26 rfl (Blk.row_c (fun _ h => h.2.2.2.2.1))) ?_
      refine WX.callW rfl rfl (blt rfl) rfl rfl rfl rfl rfl has17 rfl ⟨xW, m13, hl30, hl34, m37, hl54, hl58, m61⟩ (stab_any _ _ _ _ _ _ _ _ _ _ _ _ 20 _ (Ls.lit (f := Sp.S.c) (sz := 2) (l := It.L3) m13 (fun _ => rfl) rfl (by decide) rfl) hl30 hl34 (by decide)) ?_
      rintro _ w149 ⟨v151, rfl, ow152, x150⟩
      refine ⟨_, rfl, ?_⟩
      have r_v151_g9 := ne_res ow152 m13
      have d_v151_v17 := Apart.res ow152 ow19
      have d_v151_v18 := Apart.res ow152 ow20
      have r_v151_g22 := ne_res ow152 m37
      have d_v151_v41 := Apart.res ow152 ow43
      have d_v151_v42 := Apart.res ow152 ow44
      have r_v151_g46 := ne_res ow152 m61
      have r_v151_g67 := ne_res ow152 m71
      have r_v151_g74 := ne_res ow152 m78
      have d_v151_v90 := Apart.res ow152 ow91
      have r_v151_g92 := ne_res ow152 m96
      have r_v151_g134 := ne_res ow152 m138
      have d_v141_v151 := (Apart.res ow152 ow142).symm
      have ow152 := OwnL.base_le ow152 xW.size
      have m13 := m13.ext x150
      have ow19 := ow19.ext x150
      have hl30 := hl30.ext x150
      have ow20 := ow20.ext x150
      have hl34 := hl34.ext x150
      have m37 := m37.ext x150
      have ow43 := ow43.ext x150
      have hl54 := hl54.ext x150
      have ow44 := ow44.ext x150
      have hl58 := hl58.ext x150
      have m61 := m61.ext x150
      have m71 := m71.ext x150
      have m78 := m78.ext x150
      have ow91 := ow91.ext x150
      have hl100 := hl100.ext x150
      have m96 := m96.ext x150
      have m138 := m138.ext x150
      have ow142 := ow142.ext x150
      have hl146 := hl146.ext x150
      have xW := Ext.trans xW x150
      rw [It.aw_stab20] at ow152
      obtain ⟨A153, n154, c155, rfl, hl156⟩ := OwnL.opened ow152 (fun _ => rfl) (by decide)
      have e_n154 := hl156.len
      try simp only [List.length_append, List.length_cons, List.length_nil, List.length_reverse, List.length_drop, List.length_take, List.length_map, List.length_replicate] at e_n154
      have z_n154 := hl156.nle
      refine WX.yldW rfl rfl (blt rfl) rfl rfl rfl (Y.lenSl rfl rfl rfl Try.underlying24 rfl) ?_
      refine WX.yldW rfl rfl (blt rfl) rfl rfl rfl (Yld.cast (Y.eql rfl rfl rfl) (vb (b := true) (beq_iff_eq.2 (by omega)))) ?_
      refine WX.yld rfl rfl (blt rfl) rfl (Y.pickT rfl rfl rfl) ?_
      refine WX.yld rfl rfl (blt rfl) rfl (Y.move rfl rfl) ?_
      refine WX.yldW rfl rfl (blt rfl) rfl rfl rfl (Y.move rfl rfl) ?_
      refine WX.yldW rfl rfl (blt rfl) rfl rfl rfl (Y.loadS rfl Try.underlying26 rfl ti26 rfl (Blk.row_c (fun _ h => h.2.2.2.2.1))) ?_
      refine WX.callW rfl rfl (blt rfl) rfl rfl rfl rfl rfl has22 rfl ⟨xW, m13, hl30, hl34, m37, hl54, hl58, m61⟩ (of_any _ _ _ ) ?_
      rintro _ w157 ⟨rfl, x158⟩
      refine ⟨_, rfl, ?_⟩
      have m13 := m13.ext x158
      have ow19 := ow19.ext x158
      have hl30 := hl30.ext x158
      have ow20 := ow20.ext x158
      have hl34 := hl34.ext x158
      have m37 := m37.ext x158
      have ow43 := ow43.ext x158
      have hl54 := hl54.ext x158
      have ow44 := ow44.ext x158
      have hl58 := hl58.ext x158
      have m61 := m61.ext x158
      have m71 := m71.ext x158
      have m78 := m78.ext x158
      have ow91 := ow91.ext x158
      have hl100 := hl100.ext x158
      have m96 := m96.ext x158
      have m138 := m138.ext x158
      have ow142 := ow142.ext x158
      have hl146 := hl146.ext x158
      have ow152 := ow152.ext x158
      have hl156 := hl156.ext x158
      have xW := Ext.trans xW x158
      refine WX.callW rfl rfl (blt rfl) rfl rfl rfl rfl rfl has19 rfl ⟨xW, m13, hl30, hl34, m37, hl54, hl58, m61⟩ (visits_any _ _ _ _ _ _ _ _ _ _ _ _ ⟨8, 10⟩ _ (Ls.lit (f := Sp.S.c) (sz := 2) (l := It.L3) m13 (fun _ => rfl) rfl (by decide) rfl) hl30 hl34 (by decide)) ?_
      rintro _ w159 ⟨rfl, x160⟩
      refine ⟨_, rfl, ?_⟩
      have m13 := m13.ext x160
      have ow19 := ow19.ext x160
      have hl30 := hl30.ext x160
      have ow20 := ow20.ext x160
      have hl34 := hl34.ext x160
      have m37 := m37.ext x160
      have ow43 := ow43.ext x160
      have hl54 := hl54.ext x160
      have ow44 := ow44.ext x160
      have hl58 := hl58.ext x160
      have m61 := m61.ext x160
      have m71 := m71.ext x160
      have m78 := m78.ext x160
      have ow91 := ow91.ext x160
      have hl100 := hl100.ext x160
      have m96 := m96.ext x160
      have m138 := m138.ext x160
      have ow142 := ow142.ext x160
      have hl146 := hl146.ext x160
      have ow152 := ow152.ext x160
      have hl156 := hl156.ext x160
      have xW := Ext.trans xW x160
      refine WX.yldW rfl rfl (blt rfl) rfl rfl rfl (Yld.cast (Y.eql rfl rfl rfl) (vb (b := true) (by rw [It.aw_vis1]; rfl))) ?_
      refine WX.yld rfl rfl (blt rfl) rfl (Y.pickT rfl rfl rfl) ?_
      refine WX.yld rfl rfl (blt rfl) rfl (Y.move rfl rfl) ?_
      refine WX.yldW rfl rfl (blt rfl) rfl rfl rfl (Y.move rfl rfl) ?_
      refine WX.yldW rfl rfl (blt rfl) rfl rfl rfl (Y.loadS rfl Try.underlying26 rfl ti26 rfl (Blk.row_c (fun _ h => h.2.2.2.2.1))) ?_
      refine WX.callW rfl rfl (blt rfl) rfl rfl rfl rfl rfl has22 rfl ⟨xW, m13, hl30, hl34, m37, hl54, hl58, m61⟩ (of_any _ _ _ ) ?_
      rintro _ w161 ⟨rfl, x162⟩
      refine ⟨_, rfl, ?_⟩
      have m13 := m13.ext x162
      have ow19 := ow19.ext x162
      have hl30 := hl30.ext x162
      have ow20 := ow20.ext x162
      have hl34 := hl34.ext x162
      have m37 := m37.ext x162
      have ow43 := ow43.ext x162
      have hl54 := hl54.ext x162
      have ow44 := ow44.ext x162
      have hl58 := hl58.ext x162
      have m61 := m61.ext x162
      have m71 := m71.ext x162
      have m78 := m78.ext x162
      have ow91 := ow91.ext x162
      have hl100 := hl100.ext x162
      have m96 := m96.ext x162
      have m138 := m138.ext x162
      have ow142 := ow142.ext x162
      have hl146 := hl146.ext x162
      have ow152 := ow152.ext x162
      have hl156 := hl156.ext x162
      have xW := Ext.trans xW x162
      refine WX.callW rfl rfl (blt rfl) rfl rfl rfl rfl rfl has19 rfl ⟨xW, m13, hl30, hl34, m37, hl54, hl58, m61⟩ (visits_any _ _ _ _ _ _ _ _ _ _ _ _ ⟨20, 30⟩ _ (Ls.lit (f := Sp.S.c) (sz := 2) (l := It.L3) m13 (fun _ => rfl) rfl (by decide) rfl) hl30 hl34 (by decide)) ?_
      rintro _ w163 ⟨rfl, x164⟩
      refine ⟨_, rfl, ?_⟩
      have m13 := m13.ext x164
      have ow19 := ow19.ext x164
      have hl30 := hl30.ext x164
      have ow20 := ow20.ext x164
      have hl34 := hl34.ext x164
      have m37 := m37.ext x164
      have ow43 := ow43.ext x164
      have hl54 := hl54.ext x164
      have ow44 := ow44.ext x164
      have hl58 := hl58.ext x164
      have m61 := m61.ext x164
      have m71 := m71.ext x164
      have m78 := m78.ext x164
      have ow91 := ow91.ext x164
      have hl100 := hl100.ext x164
      have m96 := m96.ext x164
      have m138 := m138.ext x164
      have ow142 := ow142.ext x164
      have hl146 := hl146.ext x164
      have ow152 := ow152.ext x164
      have hl156 := hl156.ext x164
      have xW := Ext.trans xW x164
      refine WX.yldW rfl rfl (blt rfl) rfl rfl rfl (Yld.cast (Y.eql rfl rfl rfl) (vb (b := true) (by rw [It.aw_vis2]; rfl))) ?_
      refine WX.yld rfl rfl (blt rfl) rfl (Y.pickT rfl rfl rfl) ?_
      refine WX.yld rfl rfl (blt rfl) rfl (Y.move rfl rfl) ?_
      refine WX.yldW rfl rfl (blt rfl) rfl rfl rfl (Y.fieldAddr rfl Try.underlying26 rfl ti24 (by decide) rfl) ?_
      refine WX.yldW rfl rfl (blt rfl) rfl rfl rfl (Y.load1 rfl Try.underlying24 rfl rfl (Blk.at_c (fun _ h => h.2.2.2.2.2.2.2) rfl)) ?_
      refine WX.yldW rfl rfl (blt rfl) rfl rfl rfl (Y.lenSl rfl rfl rfl Try.underlying24 rfl) ?_
      refine WX.yldW rfl rfl (blt rfl) rfl rfl rfl (Yld.cast (Y.eql rfl rfl rfl) (vb (b := true) (beq_iff_eq.2 (by have q := It.ord_len ([] : List Sp.S) 0; omega)))) ?_
      refine WX.yld rfl rfl (blt rfl) rfl (Y.pickT rfl rfl rfl) ?_
      refine WX.yld rfl rfl (blt rfl) rfl (Y.move rfl rfl) ?_
      refine WX.yldW rfl rfl (blt rfl) rfl rfl rfl (Y.fieldAddr rfl Try.underlying26 rfl ti24 (by decide) rfl) ?_
      refine WX.yldW rfl rfl (blt rfl) rfl rfl rfl (Y.load1 rfl Try.underlying24 rfl rfl (Blk.at_c (fun _ h => h.2.2.2.2.2.2.2) rfl)) ?_
      refine WX.yldW rfl rfl (blt rfl) rfl rfl rfl (Y.lenSl rfl rfl rfl Try.underlying24 rfl) ?_
      refine WX.yldW rfl rfl (blt rfl) rfl rfl rfl (Yld.cast (Y.eql rfl rfl rfl) (vb (b := true) (beq_iff_eq.2 (by have q := It.most_len ([] : List Sp.S); simp only [List.length_nil] at q; omega)))) ?_
      refine WX.yld rfl rfl (blt rfl) rfl (Y.pickT rfl rfl rfl) ?_
      refine WX.yld rfl rfl (blt rfl) rfl (Y.assign rfl rfl) ?_
      refine WX.nil ⟨xW, m13, hl30, hl34, m37, hl54, hl58, m61⟩ ?_
      exact WK.cut [(0, _)] ⟨rfl, trivial⟩ rfl xW
    refine WX.runW rfl rfl (blt rfl) rfl rfl rfl ⟨xW, m13, hl30, hl34, m37, hl54, hl58, m61⟩ (Run.bslice (zs := [.int .i64 0, .int .i64 0]) (cs := [_, _]) rfl Try.underlying24 ti3 rfl (ble rfl) (by kernel_rfl) rfl rfl) ?_
    rintro _ w166 ⟨g165, rfl, e167, x168, m169⟩
    have n_g9_g165 := ne_new m13 e167
    have r_v17_g165 := ne_newO ow19 e167
    have r_v18_g165 := ne_newO ow20 e167
    have n_g22_g165 := ne_new m37 e167
    have r_v41_g165 := ne_newO ow43 e167
    have r_v42_g165 := ne_newO ow44 e167
    have n_g46_g165 := ne_new m61 e167
    have n_g67_g165 := ne_new m71 e167
    have n_g74_g165 := ne_new m78 e167
    have o_g165 := own_new xW e167
    have m13 := m13.ext x168
    have ow19 := ow19.ext x168
    have hl30 := hl30.ext x168
    have ow20 := ow20.ext x168
    have hl34 := hl34.ext x168
    have m37 := m37.ext x168
    have ow43 := ow43.ext x168
    have hl54 := hl54.ext x168
    have ow44 := ow44.ext x168
    have hl58 := hl58.ext x168
    have m61 := m61.ext x168
    have m71 := m71.ext x168
    have m78 := m78.ext x168
    have xW := Ext.trans xW x168
    refine WX.callW rfl rfl (blt rfl) rfl rfl rfl rfl rfl has15 rfl ⟨xW, m13, hl30, hl34, m37, hl54, hl58, m61⟩ (overlap_any _ _ _ _ _ _ _ _ _ _ _ _ ⟨8, 10⟩ _ (Ls.lit (f := Sp.S.c) (sz := 2) (l := It.L3) m13 (fun _ => rfl) rfl (by decide) rfl) hl30 hl34 (by decide)) ?_
    rintro _ w170 ⟨v172, rfl, ow173, x171⟩
    refine ⟨_, rfl, ?_⟩
    have r_v172_g9 := ne_res ow173 m13
    have d_v17_v172 := (Apart.res ow173 ow19).symm
    have d_v172_v18 := Apart.res ow173 ow20
    have r_v172_g22 := ne_res ow173 m37
    have d_v172_v41 := Apart.res ow173 ow43
    have d_v172_v42 := Apart.res ow173 ow44
    have r_v172_g46 := ne_res ow173 m61
    have r_v172_g67 := ne_res ow173 m71
    have r_v172_g74 := ne_res ow173 m78
    have r_v172_g165 := ne_res ow173 m169
    have ow173 := OwnL.base_le ow173 xW.size
    have m13 := m13.ext x171
    have ow19 := ow19.ext x171
    have hl30 := hl30.ext x171
    have ow20 := ow20.ext x171
    have hl34 := hl34.ext x171
    have m37 := m37.ext x171
    have ow43 := ow43.ext x171
    have hl54 := hl54.ext x171
    have ow44 := ow44.ext x171
    have hl58 := hl58.ext x171
    have m61 := m61.ext x171
    have m71 := m71.ext x171
    have m78 := m78.ext x171
    have m169 := m169.ext x171
    have xW := Ext.trans xW x171
    obtain ⟨A174, n175, c176, rfl, hl177⟩ := OwnL.opened ow173 (fun _ => rfl) (by decide)
    have e_n175 := hl177.len
    try simp only [List.length_append, List.length_cons, List.length_nil, List.length_reverse, List.length_drop, List.length_take, List.length_map, List.length_replicate] at e_n175
    have z_n175 := hl177.nle
    refine WX.callW rfl rfl (blt rfl) rfl rfl rfl rfl rfl has11 rfl ⟨xW, m13, hl30, hl34, m37, hl54, hl58, m61⟩ (same_any _ _ _ _ _ _ _ _ _ hl177 (Ls.lit (f := Sp.ic) (sz := 1) (l := ([0, 1] : List Int)) m169 (fun _ => rfl) rfl (by decide) rfl)) ?_
    rintro _ w178 ⟨rfl, x179⟩
    refine ⟨_, rfl, ?_⟩
    have m13 := m13.ext x179
    have ow19 := ow19.ext x179
    have hl30 := hl30.ext x179
    have ow20 := ow20.ext x179
    have hl34 := hl34.ext x179
    have m37 := m37.ext x179
    have ow43 := ow43.ext x179
    have hl54 := hl54.ext x179
    have ow44 := ow44.ext x179
    have hl58 := hl58.ext x179
    have m61 := m61.ext x179
    have m71 := m71.ext x179
    have m78 := m78.ext x179
    have m169 := m169.ext x179
    have ow173 := ow173.ext x179
    have hl177 := hl177.ext x179
    have xW := Ext.trans xW x179
    refine WX.yld rfl rfl (blt rfl) rfl (Yld.cast (Y.pickT rfl rfl rfl) (vb (b := true) (decide_eq_true It.aw_over))) ?_
    refine WX.yld rfl rfl (blt rfl) rfl (Y.move rfl rfl) ?_
    refine WX.yldW rfl rfl (blt rfl) rfl rfl rfl (Y.move rfl rfl) ?_
    refine WX.yldW rfl rfl (blt rfl) rfl rfl rfl (Y.loadS rfl Try.underlying26 rfl ti26 rfl (Blk.row_c (fun _ h => h.2.2.2.2.1))) ?_
    refine WX.alt ?_ ?_
    ·
      refine WX.callW rfl rfl (blt rfl) rfl rfl rfl rfl rfl has17 rfl ⟨xW, m13, hl30, hl34, m37, hl54, hl58, m61⟩ (stab_any _ _ _ _ _ _ _ _ _ _ _ _ 6 _ (Ls.lit (f := Sp.S.c) (sz := 2) (l := It.L3) m13 (fun _ => rfl) rfl (by decide) rfl) hl30 hl34 (by decide)) ?_
      rintro _ w180 ⟨v182, rfl, ow183, x181⟩
      refine ⟨_, rfl, ?_⟩
      have r_v182_g9 := ne_res ow183 m13
      have d_v17_v182 := (Apart.res ow183 ow19).symm
      have d_v18_v182 := (Apart.res ow183 ow20).symm
      have r_v182_g22 := ne_res ow183 m37
      have d_v182_v41 := Apart.res ow183 ow43
      have d_v182_v42 := Apart.res ow183 ow44
      have r_v182_g46 := ne_res ow183 m61
      have r_v182_g67 := ne_res ow183 m71
      have r_v182_g74 := ne_res ow183 m78
      have r_v182_g165 := ne_res ow183 m169
      have d_v172_v182 := (Apart.res ow183 ow173).symm
      have ow183 := OwnL.base_le ow183 xW.size
      have m13 := m13.ext x181
      have ow19 := ow19.ext x181
      have hl30 := hl30.ext x181
      have ow20 := ow20.ext x181
      have hl34 := hl34.ext x181
      have m37 := m37.ext x181
      have ow43 := ow43.ext x181
      have hl54 := hl54.ext x181
      have ow44 := ow44.ext x181
      have hl58 := hl58.ext x181
      have m61 := m61.ext x181
      have m71 := m71.ext x181
      have m78 := m78.ext x181
      have m169 := m169.ext x181
      have ow173 := ow173.ext x181
      have hl177 := hl177.ext x181
      have xW := Ext.trans xW x181
      refine WX.runW rfl rfl (blt rfl) rfl rfl rfl ⟨xW, m13, hl30, hl34, m37, hl54, hl58, m61⟩ (Run.bslice (zs := [.int .i64 0, .int .i64 0, .int .i64 0]) (cs := [_, _, _]) rfl Try.underlying24 ti3 rfl (ble rfl) (by kernel_rfl) rfl rfl) ?_
      rintro _ w185 ⟨g184, rfl, e186, x187, m188⟩
      have n_g9_g184 := ne_new m13 e186
      have r_v17_g184 := ne_newO ow19 e186
      have r_v18_g184 := ne_newO ow20 e186
      have n_g22_g184 := ne_new m37 e186
      have r_v41_g184 := ne_newO ow43 e186
      have r_v42_g184 := ne_newO ow44 e186
      have n_g46_g184 := ne_new m61 e186
      have n_g67_g184 := ne_new m71 e186
      have n_g74_g184 := ne_new m78 e186
      have n_g165_g184 := ne_new m169 e186
      have r_v172_g184 := ne_newO ow173 e186
      have r_v182_g184 := ne_newO ow183 e186
      have o_g184 := own_new xW e186
      have m13 := m13.ext x187
      have ow19 := ow19.ext x187
      have hl30 := hl30.ext x187
      have ow20 := ow20.ext x187
      have hl34 := hl34.ext x187
      have m37 := m37.ext x187
      have ow43 := ow43.ext x187
      have hl54 := hl54.ext x187
      have ow44 := ow44.ext x187
      have hl58 := hl58.ext x187
      have m61 := m61.ext x187
      have m71 := m71.ext x187
      have m78 := m78.ext x187
      have m169 := m169.ext x187
      have ow173 := ow173.ext x187
      have hl177 := hl177.ext x187
      have ow183 := ow183.ext x187
      have xW := Ext.trans xW x187
      obtain ⟨A189, n190, c191, rfl, hl192⟩ := OwnL.opened ow183 (fun _ => rfl) (by decide)
      have e_n190 := hl192.len
      try simp only [List.length_append, List.length_cons, List.length_nil, List.length_reverse, List.length_drop, List.length_take, List.length_map, List.length_replicate] at e_n190
      have z_n190 := hl192.nle
      refine WX.callW rfl rfl (blt rfl) rfl rfl rfl rfl rfl has11 rfl ⟨xW, m13, hl30, hl34, m37, hl54, hl58, m61⟩ (same_any _ _ _ _ _ _ _ _ _ hl192 (Ls.lit (f := Sp.ic) (sz := 1) (l := ([0, 1, 2] : List Int)) m188 (fun _ => rfl) rfl (by decide) rfl)) ?_
      rintro _ w193 ⟨rfl, x194⟩
      refine ⟨_, rfl, ?_⟩
      have m13 := m13.ext x194
      have ow19 := ow19.ext x194
      have hl30 := hl30.ext x194
      have ow20 := ow20.ext x194
      have hl34 := hl34.ext x194
      have m37 := m37.ext x194
      have ow43 := ow43.ext x194
      have hl54 := hl54.ext x194
      have ow44 := ow44.ext x194
      have hl58 := hl58.ext x194
      have m61 := m61.ext x194
      have m71 := m71.ext x194
      have m78 := m78.ext x194
      have m169 := m169.ext x194
      have ow173 := ow173.ext x194
      have hl177 := hl177.ext x194
      have ow183 := ow183.ext x194
      have hl192 := hl192.ext x194
      have m188 := m188.ext x194
      have xW := Ext.trans xW x194
      refine WX.yld rfl rfl (blt rfl) rfl (Yld.cast (Y.pickT rfl rfl rfl) (vb (b := true) (decide_eq_true It.aw_stab6))) ?_
      refine WX.yld rfl rfl (blt rfl) rfl (Y.move rfl rfl) ?_
      refine WX.yldW rfl rfl (blt rfl) rfl rfl rfl (Y.move rfl rfl) ?_
      refine WX.yldW rfl rfl (blt rfl) rfl rfl rfl (Y.loadS rfl Try.underlying26 rfl ti26 rfl (Blk.row_c (fun _ h => h.2.2.2.2.1))) ?_
      refine WX.callW rfl rfl (blt rfl) rfl rfl rfl rfl rfl has17 rfl ⟨xW, m13, hl30, hl34, m37, hl54, hl58, m61⟩ (stab_any _ _ _ _ _ _ _ _ _ _ _ _ 20 _ (Ls.lit (f := Sp.S.c) (sz := 2) (l := It.L3) m13 (fun _ => rfl) rfl (by decide) rfl) hl30 hl34 (by decide)) ?_
      rintro _ w195 ⟨v197, rfl, ow198, x196⟩
      refine ⟨_, rfl, ?_⟩
      have r_v197_g9 := ne_res ow198 m13
      have d_v17_v197 := (Apart.res ow198 ow19).symm
      have d_v18_v197 := (Apart.res ow198 ow20).symm
      have r_v197_g22 := ne_res ow198 m37
      have d_v197_v41 := Apart.res ow198 ow43
      have d_v197_v42 := Apart.res ow198 ow44
      have r_v197_g46 := ne_res ow198 m61
      have r_v197_g67 := ne_res ow198 m71
      have r_v197_g74 := ne_res ow198 m78
      have r_v197_g165 := ne_res ow198 m169
      have d_v172_v197 := (Apart.res ow198 ow173).symm
      have d_v182_v197 := (Apart.res ow198 ow183).symm
      have r_v197_g184 := ne_res ow198 m188
      have ow198 := OwnL.base_le ow198 xW.size
      have m13 := m13.ext x196
      have ow19 := ow19.ext x196
      have hl30 := hl30.ext x196
      have ow20 := ow20.ext x196
      have hl34 := hl34.ext x196
      have m37 := m37.ext x196
      have ow43 := ow43.ext x196
      have hl54 := hl54.ext x196
      have ow44 := ow44.ext x196
      have hl58 := hl58.ext x196
      have m61 := m61.ext x196
      have m71 := m71.ext x196
      have m78 := m78.ext x196
      have m169 := m169.ext x196
      have ow173 := ow173.ext x196
      have hl177 := hl177.ext x196
      have ow183 := ow183.ext x196
      have hl192 := hl192.ext x196
      have m188 := m188.ext x196
      have xW := Ext.trans xW x196
      rw [It.aw_stab20] at ow198
      obtain ⟨A199, n200, c201, rfl, hl202⟩ := OwnL.opened ow198 (fun _ => rfl) (by decide)
      have e_n200 := hl202.len
      try simp only [List.length_append, List.length_cons, List.length_nil, List.length_reverse, List.length_drop, List.length_take, List.length_map, List.length_replicate] at e_n200
      have z_n200 := hl202.nle
      refine WX.yldW rfl rfl (blt rfl) rfl rfl rfl (Y.lenSl rfl rfl rfl Try.underlying24 rfl) ?_
      refine WX.yldW rfl rfl (blt rfl) rfl rfl rfl (Yld.cast (Y.eql rfl rfl rfl) (vb (b := true) (beq_iff_eq.2 (by omega)))) ?_
      refine WX.yld rfl rfl (blt rfl) rfl (Y.pickT rfl rfl rfl) ?_
      refine WX.yld rfl rfl (blt rfl) rfl (Y.move rfl rfl) ?_
      refine WX.yldW rfl rfl (blt rfl) rfl rfl rfl (Y.move rfl rfl) ?_
      refine WX.yldW rfl rfl (blt rfl) rfl rfl rfl (Y.loadS rfl Try.underlying26 rfl ti26 rfl (Blk.row_c (fun _ h => h.2.2.2.2.1))) ?_
      refine WX.callW rfl rfl (blt rfl) rfl rfl rfl rfl rfl has22 rfl ⟨xW, m13, hl30, hl34, m37, hl54, hl58, m61⟩ (of_any _ _ _ ) ?_
      rintro _ w203 ⟨rfl, x204⟩
      refine ⟨_, rfl, ?_⟩
      have m13 := m13.ext x204
      have ow19 := ow19.ext x204
      have hl30 := hl30.ext x204
      have ow20 := ow20.ext x204
      have hl34 := hl34.ext x204
      have m37 := m37.ext x204
      have ow43 := ow43.ext x204
      have hl54 := hl54.ext x204
      have ow44 := ow44.ext x204
      have hl58 := hl58.ext x204
      have m61 := m61.ext x204
      have m71 := m71.ext x204
      have m78 := m78.ext x204
      have m169 := m169.ext x204
      have ow173 := ow173.ext x204
      have hl177 := hl177.ext x204
      have ow183 := ow183.ext x204
      have hl192 := hl192.ext x204
      have m188 := m188.ext x204
      have ow198 := ow198.ext x204
      have hl202 := hl202.ext x204
      have xW := Ext.trans xW x204
      refine WX.callW rfl rfl (blt rfl) rfl rfl rfl rfl rfl has19 rfl ⟨xW, m13, hl30, hl34, m37, hl54, hl58, m61⟩ (visits_any _ _ _ _ _ _ _ _ _ _ _ _ ⟨8, 10⟩ _ (Ls.lit (f := Sp.S.c) (sz := 2) (l := It.L3) m13 (fun _ => rfl) rfl (by decide) rfl) hl30 hl34 (by decide)) ?_
      rintro _ w205 ⟨rfl, x206⟩
      refine ⟨_, rfl, ?_⟩
      have m13 := m13.ext x206
      have ow19 := ow19.ext x206
      have hl30 := hl30.ext x206
      have ow20 := ow20.ext x206
      have hl34 := hl34.ext x206
      have m37 := m37.ext x206
      have ow43 := ow43.ext x206
      have hl54 := hl54.ext x206
      have ow44 := ow44.ext x206
      have hl58 := hl58.ext x206
      have m61 := m61.ext x206
      have m71 := m71.ext x206
      have m78 := m78.ext x206
      have m169 := m169.ext x206
      have ow173 := ow173.ext x206
      have hl177 := hl177.ext x206
      have ow183 := ow183.ext x206
      have hl192 := hl192.ext x206
      have m188 := m188.ext x206
      have ow198 := ow198.ext x206
      have hl202 := hl202.ext x206
      have xW := Ext.trans xW x206
      refine WX.yldW rfl rfl (blt rfl) rfl rfl rfl (Yld.cast (Y.eql rfl rfl rfl) (vb (b := true) (by rw [It.aw_vis1]; rfl))) ?_
      refine WX.yld rfl rfl (blt rfl) rfl (Y.pickT rfl rfl rfl) ?_
      refine WX.yld rfl rfl (blt rfl) rfl (Y.move rfl rfl) ?_
      refine WX.yldW rfl rfl (blt rfl) rfl rfl rfl (Y.move rfl rfl) ?_
      refine WX.yldW rfl rfl (blt rfl) rfl rfl rfl (Y.loadS rfl Try.underlying26 rfl ti26 rfl (Blk.row_c (fun _ h => h.2.2.2.2.1))) ?_
      refine WX.callW rfl rfl (blt rfl) rfl rfl rfl rfl rfl has22 rfl ⟨xW, m13, hl30, hl34, m37, hl54, hl58, m61⟩ (of_any _ _ _ ) ?_
      rintro _ w207 ⟨rfl, x208⟩
      refine ⟨_, rfl, ?_⟩
      have m13 := m13.ext x208
      have ow19 := ow19.ext x208
      have hl30 := hl30.ext x208
      have ow20 := ow20.ext x208
      have hl34 := hl34.ext x208
      have m37 := m37.ext x208
      have ow43 := ow43.ext x208
      have hl54 := hl54.ext x208
      have ow44 := ow44.ext x208
      have hl58 := hl58.ext x208
      have m61 := m61.ext x208
      have m71 := m71.ext x208
      have m78 := m78.ext x208
      have m169 := m169.ext x208
      have ow173 := ow173.ext x208
      have hl177 := hl177.ext x208
      have ow183 := ow183.ext x208
      have hl192 := hl192.ext x208
      have m188 := m188.ext x208
      have ow198 := ow198.ext x208
      have hl202 := hl202.ext x208
      have xW := Ext.trans xW x208
      refine WX.callW rfl rfl (blt rfl) rfl rfl rfl rfl rfl has19 rfl ⟨xW, m13, hl30, hl34, m37, hl54, hl58, m61⟩ (visits_any _ _ _ _ _ _ _ _ _ _ _ _ ⟨20, 30⟩ _ (Ls.lit (f := Sp.S.c) (sz := 2) (l := It.L3) m13 (fun _ => rfl) rfl (by decide) rfl) hl30 hl34 (by decide)) ?_
      rintro _ w209 ⟨rfl, x210⟩
      refine ⟨_, rfl, ?_⟩
      have m13 := m13.ext x210
      have ow19 := ow19.ext x210
      have hl30 := hl30.ext x210
      have ow20 := ow20.ext x210
      have hl34 := hl34.ext x210
      have m37 := m37.ext x210
      have ow43 := ow43.ext x210
      have hl54 := hl54.ext x210
      have ow44 := ow44.ext x210
      have hl58 := hl58.ext x210
      have m61 := m61.ext x210
      have m71 := m71.ext x210
      have m78 := m78.ext x210
      have m169 := m169.ext x210
      have ow173 := ow173.ext x210
      have hl177 := hl177.ext x210
      have ow183 := ow183.ext x210
      have hl192 := hl192.ext x210
      have m188 := m188.ext x210
      have ow198 := ow198.ext x210
      have hl202 := hl202.ext x210
      have xW := Ext.trans xW x210
      refine WX.yldW rfl rfl (blt rfl) rfl rfl rfl (Yld.cast (Y.eql rfl rfl rfl) (vb (b := true) (by rw [It.aw_vis2]; rfl))) ?_
      refine WX.yld rfl rfl (blt rfl) rfl (Y.pickT rfl rfl rfl) ?_
      refine WX.yld rfl rfl (blt rfl) rfl (Y.move rfl rfl) ?_
      refine WX.yldW rfl rfl (blt rfl) rfl rfl rfl (Y.fieldAddr rfl Try.underlying26 rfl ti24 (by decide) rfl) ?_
      refine WX.yldW rfl rfl (blt rfl) rfl rfl rfl (Y.load1 rfl Try.underlying24 rfl rfl (Blk.at_c (fun _ h => h.2.2.2.2.2.2.2) rfl)) ?_
      refine WX.yldW rfl rfl (blt rfl) rfl rfl rfl (Y.lenSl rfl rfl rfl Try.underlying24 rfl) ?_
      refine WX.yldW rfl rfl (blt rfl) rfl rfl rfl (Yld.cast (Y.eql rfl rfl rfl) (vb (b := true) (beq_iff_eq.2 (by have q := It.ord_len ([] : List Sp.S) 0; omega)))) ?_
      refine WX.yld rfl rfl (blt rfl) rfl (Y.pickT rfl rfl rfl) ?_
      refine WX.yld rfl rfl (blt rfl) rfl (Y.move rfl rfl) ?_
      refine WX.yldW rfl rfl (blt rfl) rfl rfl rfl (Y.fieldAddr rfl Try.underlying26 rfl ti24 (by decide) rfl) ?_
      refine WX.yldW rfl rfl (blt rfl) rfl rfl rfl (Y.load1 rfl Try.underlying24 rfl rfl (Blk.at_c (fun _ h => h.2.2.2.2.2.2.2) rfl)) ?_
      refine WX.yldW rfl rfl (blt rfl) rfl rfl rfl (Y.lenSl rfl rfl rfl Try.underlying24 rfl) ?_
      refine WX.yldW rfl rfl (blt rfl) rfl rfl rfl (Yld.cast (Y.eql rfl rfl rfl) (vb (b := true) (beq_iff_eq.2 (by have q := It.most_len ([] : List Sp.S); simp only [List.length_nil] at q; omega)))) ?_
      refine WX.yld rfl rfl (blt rfl) rfl (Y.pickT rfl rfl rfl) ?_
      refine WX.yld rfl rfl (blt rfl) rfl (Y.assign rfl rfl) ?_
      refine WX.nil ⟨xW, m13, hl30, hl34, m37, hl54, hl58, m61⟩ ?_
      exact WK.cut [(0, _)] ⟨rfl, trivial⟩ rfl xW
    refine WX.runW rfl rfl (blt rfl) rfl rfl rfl ⟨xW, m13, hl30, hl34, m37, hl54, hl58, m61⟩ (Run.bslice (zs := [.int .i64 0, .int .i64 0, .int .i64 0]) (cs := [_, _, _]) rfl Try.underlying24 ti3 rfl (ble rfl) (by kernel_rfl) rfl rfl) ?_
    rintro _ w212 ⟨g211, rfl, e213, x214, m215⟩
    have n_g9_g211 := ne_new m13 e213
    have r_v17_g211 := ne_newO ow19 e213
    have r_v18_g211 := ne_newO ow20 e213
    have n_g22_g211 := ne_new m37 e213
    have r_v41_g211 := ne_newO ow43 e213
    have r_v42_g211 := ne_newO ow44 e213
    have n_g46_g211 := ne_new m61 e213
    have n_g67_g211 := ne_new m71 e213
    have n_g74_g211 := ne_new m78 e213
    have n_g165_g211 := ne_new m169 e213
    have r_v172_g211 := ne_newO ow173 e213
    have o_g211 := own_new xW e213
    have m13 := m13.ext x214
    have ow19 := ow19.ext x214
    have hl30 := hl30.ext x214
    have ow20 := ow20.ext x214
    have hl34 := hl34.ext x214
    have m37 := m37.ext x214
    have ow43 := ow43.ext x214
    have hl54 := hl54.ext x214
    have ow44 := ow44.ext x214
    have hl58 := hl58.ext x214
    have m61 := m61.ext x214
    have m71 := m71.ext x214
    have m78 := m78.ext x214
    have m169 := m169.ext x214
    have ow173 := ow173.ext x214
    have hl177 := hl177.ext x214
    have xW := Ext.trans xW x214
    refine WX.callW rfl rfl (blt rfl) rfl rfl rfl rfl rfl has17 rfl ⟨xW, m13, hl30, hl34, m37, hl54, hl58, m61⟩ (stab_any _ _ _ _ _ _ _ _ _ _ _ _ 6 _ (Ls.lit (f := Sp.S.c) (sz := 2) (l := It.L3) m13 (fun _ => rfl) rfl (by decide) rfl) hl30 hl34 (by decide)) ?_
    rintro _ w216 ⟨v218, rfl, ow219, x217⟩
    refine ⟨_, rfl, ?_⟩
    have r_v218_g9 := ne_res ow219 m13
    have d_v17_v218 := (Apart.res ow219 ow19).symm
    have d_v18_v218 := (Apart.res ow219 ow20).symm
    have r_v218_g22 := ne_res ow219 m37
    have d_v218_v41 := Apart.res ow219 ow43
    have d_v218_v42 := Apart.res ow219 ow44
    have r_v218_g46 := ne_res ow219 m61
    have r_v218_g67 := ne_res ow219 m71
    have r_v218_g74 := ne_res ow219 m78
    have r_v218_g165 := ne_res ow219 m169
    have d_v172_v218 := (Apart.res ow219 ow173).symm
    have r_v218_g211 := ne_res ow219 m215
    have ow219 := OwnL.base_le ow219 xW.size
    have m13 := m13.ext x217
    have ow19 := ow19.ext x217
    have hl30 := hl30.ext x217
    have ow20 := ow20.ext x217
    have hl34 := hl34.ext x217
    have m37 := m37.ext x217
    have ow43 := ow43.ext x217
    have hl54 := hl54.ext x217
    have ow44 := ow44.ext x217
    have hl58 := hl58.ext x217
    have m61 := m61.ext x217
    have m71 := m71.ext x217
    have m78 := m78.ext x217
    have m169 := m169.ext x217
    have ow173 := ow173.ext x217
    have hl177 := hl177.ext x217
    have m215 := m215.ext x217
    have xW := Ext.trans xW x217
    obtain ⟨A220, n221, c222, rfl, hl223⟩ := OwnL.opened ow219 (fun _ => rfl) (by decide)
    have e_n221 := hl223.len
    try simp only [List.length_append, List.length_cons, List.length_nil, List.length_reverse, List.length_drop, List.length_take, List.length_map, List.length_replicate] at e_n221
    have z_n221 := hl223.nle
    refine WX.callW rfl rfl (blt rfl) rfl rfl rfl rfl rfl has11 rfl ⟨xW, m13, hl30, hl34, m37, hl54, hl58, m61⟩ (same_any _ _ _ _ _ _ _ _ _ hl223 (Ls.lit (f := Sp.ic) (sz := 1) (l := ([0, 1, 2] : List Int)) m215 (fun _ => rfl) rfl (by decide) rfl)) ?_
    rintro _ w224 ⟨rfl, x225⟩
    refine ⟨_, rfl, ?_⟩
    have m13 := m13.ext x225
    have ow19 := ow19.ext x225
    have hl30 := hl30.ext x225
    have ow20 := ow20.ext x225
    have hl34 := hl34.ext x225
    have m37 := m37.ext x225
    have ow43 := ow43.ext x225
    have hl54 := hl54.ext x225
    have ow44 := ow44.ext x225
    have hl58 := hl58.ext x225
    have m61 := m61.ext x225
    have m71 := m71.ext x225
    have m78 := m78.ext x225
    have m169 := m169.ext x225
    have ow173 := ow173.ext x225
    have hl177 := hl177.ext x225
    have m215 := m215.ext x225
    have ow219 := ow219.ext x225
    have hl223 := hl223.ext x225
    have xW := Ext.trans xW x225
    refine WX.yld rfl rfl (blt rfl) rfl (Yld.cast (Y.pickT rfl rfl rfl) (vb (b := true) (decide_eq_true It.aw_stab6))) ?_
    refine WX.yld rfl rfl (blt rfl) rfl (Y.move rfl rfl) ?_
    refine WX.yldW rfl rfl (blt rfl) rfl rfl rfl (Y.move rfl rfl) ?_
    refine WX.yldW rfl rfl (blt rfl) rfl rfl rfl (Y.loadS rfl Try.underlying26 rfl ti26 rfl (Blk.row_c (fun _ h => h.2.2.2.2.1))) ?_
    refine WX.callW rfl rfl (blt rfl) rfl rfl rfl rfl rfl has17 rfl ⟨xW, m13, hl30, hl34, m37, hl54, hl58, m61⟩ (stab_any _ _ _ _ _ _ _ _ _ _ _ _ 20 _ (Ls.lit (f := Sp.S.c) (sz := 2) (l := It.L3) m13 (fun _ => rfl) rfl (by decide) rfl) hl30 hl34 (by decide)) ?_
    rintro _ w226 ⟨v228, rfl, ow229, x227⟩
    refine ⟨_, rfl, ?_⟩
    have r_v228_g9 := ne_res ow229 m13
    have d_v17_v228 := (Apart.res ow229 ow19).symm
    have d_v18_v228 := (Apart.res ow229 ow20).symm
    have r_v228_g22 := ne_res ow229 m37
    have d_v228_v41 := Apart.res ow229 ow43
    have d_v228_v42 := Apart.res ow229 ow44
    have r_v228_g46 := ne_res ow229 m61
    have r_v228_g67 := ne_res ow229 m71
    have r_v228_g74 := ne_res ow229 m78
    have r_v228_g165 := ne_res ow229 m169
    have d_v172_v228 := (Apart.res ow229 ow173).symm
    have r_v228_g211 := ne_res ow229 m215
    have d_v218_v228 := (Apart.res ow229 ow219).symm
    have ow229 := OwnL.base_le ow229 xW.size
    have m13 := m13.ext x227
    have ow19 := ow19.ext x227
    have hl30 := hl30.ext x227
    have ow20 := ow20.ext x227
    have hl34 := hl34.ext x227
    have m37 := m37.ext x227
    have ow43 := ow43.ext x227
    have hl54 := hl54.ext x227
    have ow44 := ow44.ext x227
    have hl58 := hl58.ext x227
    have m61 := m61.ext x227
    have m71 := m71.ext x227
    have m78 := m78.ext x227
    have m169 := m169.ext x227
    have ow173 := ow173.ext x227
    have hl177 := hl177.ext x227
    have m215 := m215.ext x227
    have ow219 := ow219.ext x227
    have hl223 := hl223.ext x227
    have xW := Ext.trans xW x227
    rw [It.aw_stab20] at ow229
    obtain ⟨A230, n231, c232, rfl, hl233⟩ := OwnL.opened ow229 (fun _ => rfl) (by decide)
    have e_n231 := hl233.len
    try simp only [List.length_append, List.length_cons, List.length_nil, List.length_reverse, List.length_drop, List.length_take, List.length_map, List.length_replicate] at e_n231
    have z_n231 := hl233.nle
    refine WX.yldW rfl rfl (blt rfl) rfl rfl rfl (Y.lenSl rfl rfl rfl Try.underlying24 rfl) ?_
    refine WX.yldW rfl rfl (blt rfl) rfl rfl rfl (Yld.cast (Y.eql rfl rfl rfl) (vb (b := true) (beq_iff_eq.2 (by omega)))) ?_
    refine WX.yld rfl rfl (blt rfl) rfl (Y.pickT rfl rfl rfl) ?_
    refine WX.yld rfl rfl (blt rfl) rfl (Y.move rfl rfl) ?_
    refine WX.yldW rfl rfl (blt rfl) rfl rfl rfl (Y.move rfl rfl) ?_
    refine WX.yldW rfl rfl (blt rfl) rfl rfl rfl (Y.loadS rfl Try.underlying26 rfl ti26 rfl (Blk.row_c (fun _ h => h.2.2.2.2.1))) ?_
    refine WX.callW rfl rfl (blt rfl) rfl rfl rfl rfl rfl has22 rfl ⟨xW, m13, hl30, hl34, m37, hl54, hl58, m61⟩ (of_any _ _ _ ) ?_
    rintro _ w234 ⟨rfl, x235⟩
    refine ⟨_, rfl, ?_⟩
    have m13 := m13.ext x235
    have ow19 := ow19.ext x235
    have hl30 := hl30.ext x235
    have ow20 := ow20.ext x235
    have hl34 := hl34.ext x235
    have m37 := m37.ext x235
    have ow43 := ow43.ext x235
    have hl54 := hl54.ext x235
    have ow44 := ow44.ext x235
    have hl58 := hl58.ext x235
    have m61 := m61.ext x235
    have m71 := m71.ext x235
    have m78 := m78.ext x235
    have m169 := m169.ext x235
    have ow173 := ow173.ext x235
    have hl177 := hl177.ext x235
    have m215 := m215.ext x235
    have ow219 := ow219.ext x235
    have hl223 := hl223.ext x235
    have ow229 := ow229.ext x235
    have hl233 := hl233.ext x235
    have xW := Ext.trans xW x235
    refine WX.callW rfl rfl (blt rfl) rfl rfl rfl rfl rfl has19 rfl ⟨xW, m13, hl30, hl34, m37, hl54, hl58, m61⟩ (visits_any _ _ _ _ _ _ _ _ _ _ _ _ ⟨8, 10⟩ _ (Ls.lit (f := Sp.S.c) (sz := 2) (l := It.L3) m13 (fun _ => rfl) rfl (by decide) rfl) hl30 hl34 (by decide)) ?_
    rintro _ w236 ⟨rfl, x237⟩
    refine ⟨_, rfl, ?_⟩
    have m13 := m13.ext x237
    have ow19 := ow19.ext x237
    have hl30 := hl30.ext x237
    have ow20 := ow20.ext x237
    have hl34 := hl34.ext x237
    have m37 := m37.ext x237
    have ow43 := ow43.ext x237
    have hl54 := hl54.ext x237
    have ow44 := ow44.ext x237
    have hl58 := hl58.ext x237
    have m61 := m61.ext x237
    have m71 := m71.ext x237
    have m78 := m78.ext x237
    have m169 := m169.ext x237
    have ow173 := ow173.ext x237
    have hl177 := hl177.ext x237
    have m215 := m215.ext x237
    have ow219 := ow219.ext x237
    have hl223 := hl223.ext x237
    have ow229 := ow229.ext x237
    have hl233 := hl233.ext x237
    have xW := Ext.trans xW x237
    refine WX.yldW rfl rfl (blt rfl) rfl rfl rfl (Yld.cast (Y.eql rfl rfl rfl) (vb (b := true) (by rw [It.aw_vis1]; rfl))) ?_
    refine WX.yld rfl rfl (blt rfl) rfl (Y.pickT rfl rfl rfl) ?_
    refine WX.yld rfl rfl (blt rfl) rfl (Y.move rfl rfl) ?_
    refine WX.yldW rfl rfl (blt rfl) rfl rfl rfl (Y.move rfl rfl) ?_
    refine WX.yldW rfl rfl (blt rfl) rfl rfl rfl (Y.loadS rfl Try.underlying26 rfl ti26 rfl (Blk.row_c (fun _ h => h.2.2.2.2.1))) ?_
    refine WX.callW rfl rfl (blt rfl) rfl rfl rfl rfl rfl has22 rfl ⟨xW, m13, hl30, hl34, m37, hl54, hl58, m61⟩ (of_any _ _ _ ) ?_
    rintro _ w238 ⟨rfl, x239⟩
    refine ⟨_, rfl, ?_⟩
    have m13 := m13.ext x239
    have ow19 := ow19.ext x239
    have hl30 := hl30.ext x239
    have ow20 := ow20.ext x239
    have hl34 := hl34.ext x239
    have m37 := m37.ext x239
    have ow43 := ow43.ext x239
    have hl54 := hl54.ext x239
    have ow44 := ow44.ext x239
    have hl58 := hl58.ext x239
    have m61 := m61.ext x239
    have m71 := m71.ext x239
    have m78 := m78.ext x239
    have m169 := m169.ext x239
    have ow173 := ow173.ext x239
    have hl177 := hl177.ext x239
    have m215 := m215.ext x239
    have ow219 := ow219.ext x239
    have hl223 := hl223.ext x239
    have ow229 := ow229.ext x239
    have hl233 := hl233.ext x239
    have xW := Ext.trans xW x239
    refine WX.callW rfl rfl (blt rfl) rfl rfl rfl rfl rfl has19 rfl ⟨xW, m13, hl30, hl34, m37, hl54, hl58, m61⟩ (visits_any _ _ _ _ _ _ _ _ _ _ _ _ ⟨20, 30⟩ _ (Ls.lit (f := Sp.S.c) (sz := 2) (l := It.L3) m13 (fun _ => rfl) rfl (by decide) rfl) hl30 hl34 (by decide)) ?_
    rintro _ w240 ⟨rfl, x241⟩
    refine ⟨_, rfl, ?_⟩
    have m13 := m13.ext x241
    have ow19 := ow19.ext x241
    have hl30 := hl30.ext x241
    have ow20 := ow20.ext x241
    have hl34 := hl34.ext x241
    have m37 := m37.ext x241
    have ow43 := ow43.ext x241
    have hl54 := hl54.ext x241
    have ow44 := ow44.ext x241
    have hl58 := hl58.ext x241
    have m61 := m61.ext x241
    have m71 := m71.ext x241
    have m78 := m78.ext x241
    have m169 := m169.ext x241
    have ow173 := ow173.ext x241
    have hl177 := hl177.ext x241
    have m215 := m215.ext x241
    have ow219 := ow219.ext x241
    have hl223 := hl223.ext x241
    have ow229 := ow229.ext x241
    have hl233 := hl233.ext x241
    have xW := Ext.trans xW x241
    refine WX.yldW rfl rfl (blt rfl) rfl rfl rfl (Yld.cast (Y.eql rfl rfl rfl) (vb (b := true) (by rw [It.aw_vis2]; rfl))) ?_
    refine WX.yld rfl rfl (blt rfl) rfl (Y.pickT rfl rfl rfl) ?_
    refine WX.yld rfl rfl (blt rfl) rfl (Y.move rfl rfl) ?_
    refine WX.yldW rfl rfl (blt rfl) rfl rfl rfl (Y.fieldAddr rfl Try.underlying26 rfl ti24 (by decide) rfl) ?_
    refine WX.yldW rfl rfl (blt rfl) rfl rfl rfl (Y.load1 rfl Try.underlying24 rfl rfl (Blk.at_c (fun _ h => h.2.2.2.2.2.2.2) rfl)) ?_
    refine WX.yldW rfl rfl (blt rfl) rfl rfl rfl (Y.lenSl rfl rfl rfl Try.underlying24 rfl) ?_
    refine WX.yldW rfl rfl (blt rfl) rfl rfl rfl (Yld.cast (Y.eql rfl rfl rfl) (vb (b := true) (beq_iff_eq.2 (by have q := It.ord_len ([] : List Sp.S) 0; omega)))) ?_
    refine WX.yld rfl rfl (blt rfl) rfl (Y.pickT rfl rfl rfl) ?_
    refine WX.yld rfl rfl (blt rfl) rfl (Y.move rfl rfl) ?_
    refine WX.yldW rfl rfl (blt rfl) rfl rfl rfl (Y.fieldAddr rfl Try.underlying26 rfl ti24 (by decide) rfl) ?_
    refine WX.yldW rfl rfl (blt rfl) rfl rfl rfl (Y.load1 rfl Try.underlying24 rfl rfl (Blk.at_c (fun _ h => h.2.2.2.2.2.2.2) rfl)) ?_
    refine WX.yldW rfl rfl (blt rfl) rfl rfl rfl (Y.lenSl rfl rfl rfl Try.underlying24 rfl) ?_
    refine WX.yldW rfl rfl (blt rfl) rfl rfl rfl (Yld.cast (Y.eql rfl rfl rfl) (vb (b := true) (beq_iff_eq.2 (by have q := It.most_len ([] : List Sp.S); simp only [List.length_nil] at q; omega)))) ?_
    refine WX.yld rfl rfl (blt rfl) rfl (Y.pickT rfl rfl rfl) ?_
    refine WX.yld rfl rfl (blt rfl) rfl (Y.assign rfl rfl) ?_
    refine WX.nil ⟨xW, m13, hl30, hl34, m37, hl54, hl58, m61⟩ ?_
    exact WK.cut [(0, _)] ⟨rfl, trivial⟩ rfl xW
  refine WX.runW rfl rfl (blt rfl) rfl rfl rfl ⟨xW, m13, hl30, hl34, m37, hl54, hl58, m61⟩ (Run.bslice (zs := [.int .i64 0, .int .i64 0]) (cs := [_, _]) rfl Try.underlying24 ti3 rfl (ble rfl) (by kernel_rfl) rfl rfl) ?_
  rintro _ w243 ⟨g242, rfl, e244, x245, m246⟩
  have n_g9_g242 := ne_new m13 e244
  have r_v17_g242 := ne_newO ow19 e244
  have r_v18_g242 := ne_newO ow20 e244
  have n_g22_g242 := ne_new m37 e244
  have r_v41_g242 := ne_newO ow43 e244
  have r_v42_g242 := ne_newO ow44 e244
  have n_g46_g242 := ne_new m61 e244
  have n_g67_g242 := ne_new m71 e244
  have n_g74_g242 := ne_new m78 e244
  have o_g242 := own_new xW e244
  have m13 := m13.ext x245
  have ow19 := ow19.ext x245
  have hl30 := hl30.ext x245
  have ow20 := ow20.ext x245
  have hl34 := hl34.ext x245
  have m37 := m37.ext x245
  have ow43 := ow43.ext x245
  have hl54 := hl54.ext x245
  have ow44 := ow44.ext x245
  have hl58 := hl58.ext x245
  have m61 := m61.ext x245
  have m71 := m71.ext x245
  have m78 := m78.ext x245
  have xW := Ext.trans xW x245
  refine WX.callW rfl rfl (blt rfl) rfl rfl rfl rfl rfl has22 rfl ⟨xW, m13, hl30, hl34, m37, hl54, hl58, m61⟩ (of_any _ _ _ ) ?_
  rintro _ w247 ⟨rfl, x248⟩
  refine ⟨_, rfl, ?_⟩
  have m13 := m13.ext x248
  have ow19 := ow19.ext x248
  have hl30 := hl30.ext x248
  have ow20 := ow20.ext x248
  have hl34 := hl34.ext x248
  have m37 := m37.ext x248
  have ow43 := ow43.ext x248
  have hl54 := hl54.ext x248
  have ow44 := ow44.ext x248
  have hl58 := hl58.ext x248
  have m61 := m61.ext x248
  have m71 := m71.ext x248
  have m78 := m78.ext x248
  have m246 := m246.ext x248
  have xW := Ext.trans xW x248
  refine WX.callW rfl rfl (blt rfl) rfl rfl rfl rfl rfl has15 rfl ⟨xW, m13, hl30, hl34, m37, hl54, hl58, m61⟩ (overlap_any _ _ _ _ _ _ _ _ _ _ _ _ ⟨8, 10⟩ _ (Ls.lit (f := Sp.S.c) (sz := 2) (l := It.L3) m13 (fun _ => rfl) rfl (by decide) rfl) hl30 hl34 (by decide)) ?_
  rintro _ w249 ⟨v251, rfl, ow252, x250⟩
  refine ⟨_, rfl, ?_⟩
  have r_v251_g9 := ne_res ow252 m13
  have d_v17_v251 := (Apart.res ow252 ow19).symm
  have d_v18_v251 := (Apart.res ow252 ow20).symm
  have r_v251_g22 := ne_res ow252 m37
  have d_v251_v41 := Apart.res ow252 ow43
  have d_v251_v42 := Apart.res ow252 ow44
  have r_v251_g46 := ne_res ow252 m61
  have r_v251_g67 := ne_res ow252 m71
  have r_v251_g74 := ne_res ow252 m78
  have r_v251_g242 := ne_res ow252 m246
  have ow252 := OwnL.base_le ow252 xW.size
  have m13 := m13.ext x250
  have ow19 := ow19.ext x250
  have hl30 := hl30.ext x250
  have ow20 := ow20.ext x250
  have hl34 := hl34.ext x250
  have m37 := m37.ext x250
  have ow43 := ow43.ext x250
  have hl54 := hl54.ext x250
  have ow44 := ow44.ext x250
  have hl58 := hl58.ext x250
  have m61 := m61.ext x250
  have m71 := m71.ext x250
  have m78 := m78.ext x250
  have m246 := m246.ext x250
  have xW := Ext.trans xW x250
  obtain ⟨A253, n254, c255, rfl, hl256⟩ := OwnL.opened ow252 (fun _ => rfl) (by decide)
  have e_n254 := hl256.len
  try simp only [List.length_append, List.length_cons, List.length_nil, List.length_reverse, List.length_drop, List.length_take, List.length_map, List.length_replicate] at e_n254
  have z_n254 := hl256.nle
  refine WX.callW rfl rfl (blt rfl) rfl rfl rfl rfl rfl has11 rfl ⟨xW, m13, hl30, hl34, m37, hl54, hl58, m61⟩ (same_any _ _ _ _ _ _ _ _ _ hl256 (Ls.lit (f := Sp.ic) (sz := 1) (l := ([0, 1] : List Int)) m246 (fun _ => rfl) rfl (by decide) rfl)) ?_
  rintro _ w257 ⟨rfl, x258⟩
  refine ⟨_, rfl, ?_⟩
  have m13 := m13.ext x258
  have ow19 := ow19.ext x258
  have hl30 := hl30.ext x258
  have ow20 := ow20.ext x258
  have hl34 := hl34.ext x258
  have m37 := m37.ext x258
  have ow43 := ow43.ext x258
  have hl54 := hl54.ext x258
  have ow44 := ow44.ext x258
  have hl58 := hl58.ext x258
  have m61 := m61.ext x258
  have m71 := m71.ext x258
  have m78 := m78.ext x258
  have m246 := m246.ext x258
  have ow252 := ow252.ext x258
  have hl256 := hl256.ext x258
  have xW := Ext.trans xW x258
  refine WX.yld rfl rfl (blt rfl) rfl (Yld.cast (Y.pickT rfl rfl rfl) (vb (b := true) (decide_eq_true It.aw_over))) ?_
  refine WX.yld rfl rfl (blt rfl) rfl (Y.move rfl rfl) ?_
  refine WX.yldW rfl rfl (blt rfl) rfl rfl rfl (Y.move rfl rfl) ?_
  refine WX.yldW rfl rfl (blt rfl) rfl rfl rfl (Y.loadS rfl Try.underlying26 rfl ti26 rfl (Blk.row_c (fun _ h => h.2.2.2.2.1))) ?_
  refine WX.alt ?_ ?_
  ·
    refine WX.callW rfl rfl (blt rfl) rfl rfl rfl rfl rfl has17 rfl ⟨xW, m13, hl30, hl34, m37, hl54, hl58, m61⟩ (stab_any _ _ _ _ _ _ _ _ _ _ _ _ 6 _ (Ls.lit (f := Sp.S.c) (sz := 2) (l := It.L3) m13 (fun _ => rfl) rfl (by decide) rfl) hl30 hl34 (by decide)) ?_
    rintro _ w259 ⟨v261, rfl, ow262, x260⟩
    refine ⟨_, rfl, ?_⟩
    have r_v261_g9 := ne_res ow262 m13
    have d_v17_v261 := (Apart.res ow262 ow19).symm
    have d_v18_v261 := (Apart.res ow262 ow20).symm
    have r_v261_g22 := ne_res ow262 m37
    have d_v261_v41 := Apart.res ow262 ow43
    have d_v261_v42 := Apart.res ow262 ow44
    have r_v261_g46 := ne_res ow262 m61
    have r_v261_g67 := ne_res ow262 m71
    have r_v261_g74 := ne_res ow262 m78
    have r_v261_g242 := ne_res ow262 m246
    have d_v251_v261 := (Apart.res ow262 ow252).symm
    have ow262 := OwnL.base_le ow262 xW.size
    have m13 := m13.ext x260
    have ow19 := ow19.ext x260
    have hl30 := hl30.ext x260
    have ow20 := ow20.ext x260
    have hl34 := hl34.ext x260
    have m37 := m37.ext x260
    have ow43 := ow43.ext x260
    have hl54 := hl54.ext x260
    have ow44 := ow44.ext x260
    have hl58 := hl58.ext x260
    have m61 := m61.ext x260
    have m71 := m71.ext x260
    have m78 := m78.ext x260
    have m246 := m246.ext x260
    have ow252 := ow252.ext x260
    have hl256 := hl256.ext x260
    have xW := Ext.trans xW x260
    refine WX.runW rfl rfl (blt rfl) rfl rfl rfl ⟨xW, m13, hl30, hl34, m37, hl54, hl58, m61⟩ (Run.bslice (zs := [.int .i64 0, .int .i64 0, .int .i64 0]) (cs := [_, _, _]) rfl Try.underlying24 ti3 rfl (ble rfl) (by kernel_rfl) rfl rfl) ?_
    rintro _ w264 ⟨g263, rfl, e265, x266, m267⟩
    have n_g9_g263 := ne_new m13 e265
    have r_v17_g263 := ne_newO ow19 e265
    have r_v18_g263 := ne_newO ow20 e265
    have n_g22_g263 := ne_new m37 e265
    have r_v41_g263 := ne_newO ow43 e265
    have r_v42_g263 := ne_newO ow44 e265
    have n_g46_g263 := ne_new m61 e265
    have n_g67_g263 := ne_new m71 e265
    have n_g74_g263 := ne_new m78 e265
    have n_g242_g263 := ne_new m246 e265
    have r_v251_g263 := ne_newO ow252 e265
    have r_v261_g263 := ne_newO ow262 e265
    have o_g263 := own_new xW e265
    have m13 := m13.ext x266
    have ow19 := ow19.ext x266
    have hl30 := hl30.ext x266
    have ow20 := ow20.ext x266
    have hl34 := hl34.ext x266
    have m37 := m37.ext x266
    have ow43 := ow43.ext x266
    have hl54 := hl54.ext x266
    have ow44 := ow44.ext x266
    have hl58 := hl58.ext x266
    have m61 := m61.ext x266
    have m71 := m71.ext x266
    have m78 := m78.ext x266
    have m246 := m246.ext x266
    have ow252 := ow252.ext x266
    have hl256 := hl256.ext x266
    have ow262 := ow262.ext x266
    have xW := Ext.trans xW x266
    obtain ⟨A268, n269, c270, rfl, hl271⟩ := OwnL.opened ow262 (fun _ => rfl) (by decide)
    have e_n269 := hl271.len
    try simp only [List.length_append, List.length_cons, List.length_nil, List.length_reverse, List.length_drop, List.length_take, List.length_map, List.length_replicate] at e_n269
    have z_n269 := hl271.nle
    refine WX.callW rfl rfl (blt rfl) rfl rfl rfl rfl rfl has11 rfl ⟨xW, m13, hl30, hl34, m37, hl54, hl58, m61⟩ (same_any _ _ _ _ _ _ _ _ _ hl271 (Ls.lit (f := Sp.ic) (sz := 1) (l := ([0, 1, 2] : List Int)) m267 (fun _ => rfl) rfl (by decide) rfl)) ?_
    rintro _ w272 ⟨rfl, x273⟩
    refine ⟨_, rfl, ?_⟩
    have m13 := m13.ext x273
    have ow19 := ow19.ext x273
    have hl30 := hl30.ext x273
    have ow20 := ow20.ext x273
    have hl34 := hl34.ext x273
    have m37 := m37.ext x273
    have ow43 := ow43.ext x273
    have hl54 := hl54.ext x273
    have ow44 := ow44.ext x273
    have hl58 := hl58.ext x273
    have m61 := m61.ext x273
    have m71 := m71.ext x273
    have m78 := m78.ext x273
    have m246 := m246.ext x273
    have ow252 := ow252.ext x273
    have hl256 := hl256.ext x273
    have ow262 := ow262.ext x273
    have hl271 := hl271.ext x273
    have m267 := m267.ext x273
    have xW := Ext.trans xW x273
    refine WX.yld rfl rfl (blt rfl) rfl (Yld.cast (Y.pickT rfl rfl rfl) (vb (b := true) (decide_eq_true It.aw_stab6))) ?_
    refine WX.yld rfl rfl (blt rfl) rfl (Y.move rfl rfl) ?_
    refine WX.yldW rfl rfl (blt rfl) rfl rfl rfl (Y.move rfl rfl) ?_
    refine WX.yldW rfl rfl (blt rfl) rfl rfl rfl (Y.loadS rfl Try.underlying26 rfl ti26 rfl (Blk.row_c (fun _ h => h.2.2.2.2.1))) ?_
    refine WX.callW rfl rfl (blt rfl) rfl rfl rfl rfl rfl has17 rfl ⟨xW, m13, hl30, hl34, m37, hl54, hl58, m61⟩ (stab_any _ _ _ _ _ _ _ _ _ _ _ _ 20 _ (Ls.lit (f := Sp.S.c) (sz := 2) (l := It.L3) m13 (fun _ => rfl) rfl (by decide) rfl) hl30 hl34 (by decide)) ?_
    rintro _ w274 ⟨v276, rfl, ow277, x275⟩
    refine ⟨_, rfl, ?_⟩
    have r_v276_g9 := ne_res ow277 m13
    have d_v17_v276 := (Apart.res ow277 ow19).symm
    have d_v18_v276 := (Apart.res ow277 ow20).symm
    have r_v276_g22 := ne_res ow277 m37
    have d_v276_v41 := Apart.res ow277 ow43
    have d_v276_v42 := Apart.res ow277 ow44
    have r_v276_g46 := ne_res ow277 m61
    have r_v276_g67 := ne_res ow277 m71
    have r_v276_g74 := ne_res ow277 m78
    have r_v276_g242 := ne_res ow277 m246
    have d_v251_v276 := (Apart.res ow277 ow252).symm
    have d_v261_v276 := (Apart.res ow277 ow262).symm
    have r_v276_g263 := ne_res ow277 m267
    have ow277 := OwnL.base_le ow277 xW.size
    have m13 := m13.ext x275
    have ow19 := ow19.ext x275
    have hl30 := hl30.ext x275
    have ow20 := ow20.ext x275
    have hl34 := hl34.ext x275
    have m37 := m37.ext x275
    have ow43 := ow43.ext x275
    have hl54 := hl54.ext x275
    have ow44 := ow44.ext x275
    have hl58 := hl58.ext x275
    have m61 := m61.ext x275
    have m71 := m71.ext x275
    have m78 := m78.ext x275
    have m246 := m246.ext x275
    have ow252 := ow252.ext x275
    have hl256 := hl256.ext x275
    have ow262 := ow262.ext x275
    have hl271 := hl271.ext x275
    have m267 := m267.ext x275
    have xW := Ext.trans xW x275
    rw [It.aw_stab20] at ow277
    obtain ⟨A278, n279, c280, rfl, hl281⟩ := OwnL.opened ow277 (fun _ => rfl) (by decide)
    have e_n279 := hl281.len
    try simp only [List.length_append, List.length_cons, List.length_nil, List.length_reverse, List.length_drop, List.length_take, List.length_map, List.length_replicate] at e_n279
    have z_n279 := hl281.nle
    refine WX.yldW rfl rfl (blt rfl) rfl rfl rfl (Y.lenSl rfl rfl rfl Try.underlying24 rfl) ?_
    refine WX.yldW rfl rfl (blt rfl) rfl rfl rfl (Yld.cast (Y.eql rfl rfl rfl) (vb (b := true) (beq_iff_eq.2 (by omega)))) ?_
    refine WX.yld rfl rfl (blt rfl) rfl (Y.pickT rfl rfl rfl) ?_
    refine WX.yld rfl rfl (blt rfl) rfl (Y.move rfl rfl) ?_
    refine WX.yldW rfl rfl (blt rfl) rfl rfl rfl (Y.move rfl rfl) ?_
    refine WX.yldW rfl rfl (blt rfl) rfl rfl rfl (Y.loadS rfl Try.underlying26 rfl ti26 rfl (Blk.row_c (fun _ h => h.2.2.2.2.1))) ?_
    refine WX.callW rfl rfl (blt rfl) rfl rfl rfl rfl rfl has22 rfl ⟨xW, m13, hl30, hl34, m37, hl54, hl58, m61⟩ (of_any _ _ _ ) ?_
    rintro _ w282 ⟨rfl, x283⟩
    refine ⟨_, rfl, ?_⟩
    have m13 := m13.ext x283
    have ow19 := ow19.ext x283
    have hl30 := hl30.ext x283
    have ow20 := ow20.ext x283
    have hl34 := hl34.ext x283
    have m37 := m37.ext x283
    have ow43 := ow43.ext x283
    have hl54 := hl54.ext x283
    have ow44 := ow44.ext x283
    have hl58 := hl58.ext x283
    have m61 := m61.ext x283
    have m71 := m71.ext x283
    have m78 := m78.ext x283
    have m246 := m246.ext x283
    have ow252 := ow252.ext x283
    have hl256 := hl256.ext x283
    have ow262 := ow262.ext x283
    have hl271 := hl271.ext x283
    have m267 := m267.ext x283
    have ow277 := ow277.ext x283
    have hl281 := hl281.ext x283
    have xW := Ext.trans xW x283
    refine WX.callW rfl rfl (blt rfl) rfl rfl rfl rfl rfl has19 rfl ⟨xW, m13, hl30, hl34, m37, hl54, hl58, m61⟩ (visits_any _ _ _ _ _ _ _ _ _ _ _ _ ⟨8, 10⟩ _ (Ls.lit (f := Sp.S.c) (sz := 2) (l := It.L3) m13 (fun _ => rfl) rfl (by decide) rfl) hl30 hl34 (by decide)) ?_
    rintro _ w284 ⟨rfl, x285⟩
    refine ⟨_, rfl, ?_⟩
    have m13 := m13.ext x285
    have ow19 := ow19.ext x285
    have hl30 := hl30.ext x285
    have ow20 := ow20.ext x285
    have hl34 := hl34.ext x285
    have m37 := m37.ext x285
    have ow43 := ow43.ext x285
    have hl54 := hl54.ext x285
    have ow44 := ow44.ext x285
    have hl58 := hl58.ext x285
    have m61 := m61.ext x285
    have m71 := m71.ext x285
    have m78 := m78.ext x285
    have m246 := m246.ext x285
    have ow252 := ow252.ext x285
    have hl256 := hl256.ext x285
    have ow262 := ow262.ext x285
    have hl271 := hl271.ext x285
    have m267 := m267.ext x285
    have ow277 := ow277.ext x285
    have hl281 := hl281.ext x285
    have xW := Ext.trans xW x285
    refine WX.yldW rfl rfl (blt rfl) rfl rfl rfl (Yld.cast (Y.eql rfl rfl rfl) (vb (b := true) (by rw [It.aw_vis1]; rfl))) ?_
    refine WX.yld rfl rfl (blt rfl) rfl (Y.pickT rfl rfl rfl) ?_
    refine WX.yld rfl rfl (blt rfl) rfl (Y.move rfl rfl) ?_
    refine WX.yldW rfl rfl (blt rfl) rfl rfl rfl (Y.move rfl rfl) ?_
    refine WX.yldW rfl rfl (blt rfl) rfl rfl rfl (Y.loadS rfl Try.underlying26 rfl ti26 rfl (Blk.row_c (fun _ h => h.2.2.2.2.1))) ?_
    refine WX.callW rfl rfl (blt rfl) rfl rfl rfl rfl rfl has22 rfl ⟨xW, m13, hl30, hl34, m37, hl54, hl58, m61⟩ (of_any _ _ _ ) ?_
    rintro _ w286 ⟨rfl, x287⟩
    refine ⟨_, rfl, ?_⟩
    have m13 := m13.ext x287
    have ow19 := ow19.ext x287
    have hl30 := hl30.ext x287
    have ow20 := ow20.ext x287
    have hl34 := hl34.ext x287
    have m37 := m37.ext x287
    have ow43 := ow43.ext x287
    have hl54 := hl54.ext x287
    have ow44 := ow44.ext x287
    have hl58 := hl58.ext x287
    have m61 := m61.ext x287
    have m71 := m71.ext x287
    have m78 := m78.ext x287
    have m246 := m246.ext x287
    have ow252 := ow252.ext x287
    have hl256 := hl256.ext x287
    have ow262 := ow262.ext x287
    have hl271 := hl271.ext x287
    have m267 := m267.ext x287
    have ow277 := ow277.ext x287
    have hl281 := hl281.ext x287
    have xW := Ext.trans xW x287
    refine WX.callW rfl rfl (blt rfl) rfl rfl rfl rfl rfl has19 rfl ⟨xW, m13, hl30, hl34, m37, hl54, hl58, m61⟩ (visits_any _ _ _ _ _ _ _ _ _ _ _ _ ⟨20, 30⟩ _ (Ls.lit (f := Sp.S.c) (sz := 2) (l := It.L3) m13 (fun _ => rfl) rfl (by decide) rfl) hl30 hl34 (by decide)) ?_
    rintro _ w288 ⟨rfl, x289⟩
    refine ⟨_, rfl, ?_⟩
    have m13 := m13.ext x289
    have ow19 := ow19.ext x289
    have hl30 := hl30.ext x289
    have ow20 := ow20.ext x289
    have hl34 := hl34.ext x289
    have m37 := m37.ext x289
    have ow43 := ow43.ext x289
    have hl54 := hl54.ext x289
    have ow44 := ow44.ext x289
    have hl58 := hl58.ext x289
    have m61 := m61.ext x289
    have m71 := m71.ext x289
    have m78 := m78.ext x289
    have m246 := m246.ext x289
    have ow252 := ow252.ext x289
    have hl256 := hl256.ext x289
    have ow262 := ow262.ext x289
    have hl271 := hl271.ext x289
    have m267 := m267.ext x289
    have ow277 := ow277.ext x289
    have hl281 := hl281.ext x289
    have xW := Ext.trans xW x289
    refine WX.yldW rfl rfl (blt rfl) rfl rfl rfl (Yld.cast (Y.eql rfl rfl rfl) (vb (b := true) (by rw [It.aw_vis2]; rfl))) ?_
    refine WX.yld rfl rfl (blt rfl) rfl (Y.pickT rfl rfl rfl) ?_
    refine WX.yld rfl rfl (blt rfl) rfl (Y.move rfl rfl) ?_
    refine WX.yldW rfl rfl (blt rfl) rfl rfl rfl (Y.fieldAddr rfl Try.underlying26 rfl ti24 (by decide) rfl) ?_
    refine WX.yldW rfl rfl (blt rfl) rfl rfl rfl (Y.load1 rfl Try.underlying24 rfl rfl (Blk.at_c (fun _ h => h.2.2.2.2.2.2.2) rfl)) ?_
    refine WX.yldW rfl rfl (blt rfl) rfl rfl rfl (Y.lenSl rfl rfl rfl Try.underlying24 rfl) ?_
    refine WX.yldW rfl rfl (blt rfl) rfl rfl rfl (Yld.cast (Y.eql rfl rfl rfl) (vb (b := true) (beq_iff_eq.2 (by have q := It.ord_len ([] : List Sp.S) 0; omega)))) ?_
    refine WX.yld rfl rfl (blt rfl) rfl (Y.pickT rfl rfl rfl) ?_
    refine WX.yld rfl rfl (blt rfl) rfl (Y.move rfl rfl) ?_
    refine WX.yldW rfl rfl (blt rfl) rfl rfl rfl (Y.fieldAddr rfl Try.underlying26 rfl ti24 (by decide) rfl) ?_
    refine WX.yldW rfl rfl (blt rfl) rfl rfl rfl (Y.load1 rfl Try.underlying24 rfl rfl (Blk.at_c (fun _ h => h.2.2.2.2.2.2.2) rfl)) ?_
    refine WX.yldW rfl rfl (blt rfl) rfl rfl rfl (Y.lenSl rfl rfl rfl Try.underlying24 rfl) ?_
    refine WX.yldW rfl rfl (blt rfl) rfl rfl rfl (Yld.cast (Y.eql rfl rfl rfl) (vb (b := true) (beq_iff_eq.2 (by have q := It.most_len ([] : List Sp.S); simp only [List.length_nil] at q; omega)))) ?_
    refine WX.yld rfl rfl (blt rfl) rfl (Y.pickT rfl rfl rfl) ?_
    refine WX.yld rfl rfl (blt rfl) rfl (Y.assign rfl rfl) ?_
    refine WX.nil ⟨xW, m13, hl30, hl34, m37, hl54, hl58, m61⟩ ?_
    exact WK.cut [(0, _)] ⟨rfl, trivial⟩ rfl xW
  refine WX.runW rfl rfl (blt rfl) rfl rfl rfl ⟨xW, m13, hl30, hl34, m37, hl54, hl58, m61⟩ (Run.bslice (zs := [.int .i64 0, .int .i64 0, .int .i64 0]) (cs := [_, _, _]) rfl Try.underlying24 ti3 rfl (ble rfl) (by kernel_rfl) rfl rfl) ?_
  rintro _ w291 ⟨g290, rfl, e292, x293, m294⟩
  have n_g9_g290 := ne_new m13 e292
  have r_v17_g290 := ne_newO ow19 e292
  have r_v18_g290 := ne_newO ow20 e292
  have n_g22_g290 := ne_new m37 e292
  have r_v41_g290 := ne_newO ow43 e292
  have r_v42_g290 := ne_newO ow44 e292
  have n_g46_g290 := ne_new m61 e292
  have n_g67_g290 := ne_new m71 e292
  have n_g74_g290 := ne_new m78 e292
  have n_g242_g290 := ne_new m246 e292
  have r_v251_g290 := ne_newO ow252 e292
  have o_g290 := own_new xW e292
  have m13 := m13.ext x293
  have ow19 := ow19.ext x293
  have hl30 := hl30.ext x293
  have ow20 := ow20.ext x293
  have hl34 := hl34.ext x293
  have m37 := m37.ext x293
  have ow43 := ow43.ext x293
  have hl54 := hl54.ext x293
  have ow44 := ow44.ext x293
  have hl58 := hl58.ext x293
  have m61 := m61.ext x293
  have m71 := m71.ext x293
  have m78 := m78.ext x293
  have m246 := m246.ext x293
  have ow252 := ow252.ext x293
  have hl256 := hl256.ext x293
  have xW := Ext.trans xW x293
  refine WX.callW rfl rfl (blt rfl) rfl rfl rfl rfl rfl has17 rfl ⟨xW, m13, hl30, hl34, m37, hl54, hl58, m61⟩ (stab_any _ _ _ _ _ _ _ _ _ _ _ _ 6 _ (Ls.lit (f := Sp.S.c) (sz := 2) (l := It.L3) m13 (fun _ => rfl) rfl (by decide) rfl) hl30 hl34 (by decide)) ?_
  rintro _ w295 ⟨v297, rfl, ow298, x296⟩
  refine ⟨_, rfl, ?_⟩
  have r_v297_g9 := ne_res ow298 m13
  have d_v17_v297 := (Apart.res ow298 ow19).symm
  have d_v18_v297 := (Apart.res ow298 ow20).symm
  have r_v297_g22 := ne_res ow298 m37
  have d_v297_v41 := Apart.res ow298 ow43
  have d_v297_v42 := Apart.res ow298 ow44
  have r_v297_g46 := ne_res ow298 m61
  have r_v297_g67 := ne_res ow298 m71
  have r_v297_g74 := ne_res ow298 m78
  have r_v297_g242 := ne_res ow298 m246
  have d_v251_v297 := (Apart.res ow298 ow252).symm
  have r_v297_g290 := ne_res ow298 m294
  have ow298 := OwnL.base_le ow298 xW.size
  have m13 := m13.ext x296
  have ow19 := ow19.ext x296
  have hl30 := hl30.ext x296
  have ow20 := ow20.ext x296
  have hl34 := hl34.ext x296
  have m37 := m37.ext x296
  have ow43 := ow43.ext x296
  have hl54 := hl54.ext x296
  have ow44 := ow44.ext x296
  have hl58 := hl58.ext x296
  have m61 := m61.ext x296
  have m71 := m71.ext x296
  have m78 := m78.ext x296
  have m246 := m246.ext x296
  have ow252 := ow252.ext x296
  have hl256 := hl256.ext x296
  have m294 := m294.ext x296
  have xW := Ext.trans xW x296
  obtain ⟨A299, n300, c301, rfl, hl302⟩ := OwnL.opened ow298 (fun _ => rfl) (by decide)
  have e_n300 := hl302.len
  try simp only [List.length_append, List.length_cons, List.length_nil, List.length_reverse, List.length_drop, List.length_take, List.length_map, List.length_replicate] at e_n300
  have z_n300 := hl302.nle
  refine WX.callW rfl rfl (blt rfl) rfl rfl rfl rfl rfl has11 rfl ⟨xW, m13, hl30, hl34, m37, hl54, hl58, m61⟩ (same_any _ _ _ _ _ _ _ _ _ hl302 (Ls.lit (f := Sp.ic) (sz := 1) (l := ([0, 1, 2] : List Int)) m294 (fun _ => rfl) rfl (by decide) rfl)) ?_
  rintro _ w303 ⟨rfl, x304⟩
  refine ⟨_, rfl, ?_⟩
  have m13 := m13.ext x304
  have ow19 := ow19.ext x304
  have hl30 := hl30.ext x304
  have ow20 := ow20.ext x304
  have hl34 := hl34.ext x304
  have m37 := m37.ext x304
  have ow43 := ow43.ext x304
  have hl54 := hl54.ext x304
  have ow44 := ow44.ext x304
  have hl58 := hl58.ext x304
  have m61 := m61.ext x304
  have m71 := m71.ext x304
  have m78 := m78.ext x304
  have m246 := m246.ext x304
  have ow252 := ow252.ext x304
  have hl256 := hl256.ext x304
  have m294 := m294.ext x304
  have ow298 := ow298.ext x304
  have hl302 := hl302.ext x304
  have xW := Ext.trans xW x304
  refine WX.yld rfl rfl (blt rfl) rfl (Yld.cast (Y.pickT rfl rfl rfl) (vb (b := true) (decide_eq_true It.aw_stab6))) ?_
  refine WX.yld rfl rfl (blt rfl) rfl (Y.move rfl rfl) ?_
  refine WX.yldW rfl rfl (blt rfl) rfl rfl rfl (Y.move rfl rfl) ?_
  refine WX.yldW rfl rfl (blt rfl) rfl rfl rfl (Y.loadS rfl Try.underlying26 rfl ti26 rfl (Blk.row_c (fun _ h => h.2.2.2.2.1))) ?_
  refine WX.callW rfl rfl (blt rfl) rfl rfl rfl rfl rfl has17 rfl ⟨xW, m13, hl30, hl34, m37, hl54, hl58, m61⟩ (stab_any _ _ _ _ _ _ _ _ _ _ _ _ 20 _ (Ls.lit (f := Sp.S.c) (sz := 2) (l := It.L3) m13 (fun _ => rfl) rfl (by decide) rfl) hl30 hl34 (by decide)) ?_
  rintro _ w305 ⟨v307, rfl, ow308, x306⟩
  refine ⟨_, rfl, ?_⟩
  have r_v307_g9 := ne_res ow308 m13
  have d_v17_v307 := (Apart.res ow308 ow19).symm
  have d_v18_v307 := (Apart.res ow308 ow20).symm
  have r_v307_g22 := ne_res ow308 m37
  have d_v307_v41 := Apart.res ow308 ow43
  have d_v307_v42 := Apart.res ow308 ow44
  have r_v307_g46 := ne_res ow308 m61
  have r_v307_g67 := ne_res ow308 m71
  have r_v307_g74 := ne_res ow308 m78
  have r_v307_g242 := ne_res ow308 m246
  have d_v251_v307 := (Apart.res ow308 ow252).symm
  have r_v307_g290 := ne_res ow308 m294
  have d_v297_v307 := (Apart.res ow308 ow298).symm
  have ow308 := OwnL.base_le ow308 xW.size
  have m13 := m13.ext x306
  have ow19 := ow19.ext x306
  have hl30 := hl30.ext x306
  have ow20 := ow20.ext x306
  have hl34 := hl34.ext x306
  have m37 := m37.ext x306
  have ow43 := ow43.ext x306
  have hl54 := hl54.ext x306
  have ow44 := ow44.ext x306
  have hl58 := hl58.ext x306
  have m61 := m61.ext x306
  have m71 := m71.ext x306
  have m78 := m78.ext x306
  have m246 := m246.ext x306
  have ow252 := ow252.ext x306
  have hl256 := hl256.ext x306
  have m294 := m294.ext x306
  have ow298 := ow298.ext x306
  have hl302 := hl302.ext x306
  have xW := Ext.trans xW x306
  rw [It.aw_stab20] at ow308
  obtain ⟨A309, n310, c311, rfl, hl312⟩ := OwnL.opened ow308 (fun _ => rfl) (by decide)
  have e_n310 := hl312.len
  try simp only [List.length_append, List.length_cons, List.length_nil, List.length_reverse, List.length_drop, List.length_take, List.length_map, List.length_replicate] at e_n310
  have z_n310 := hl312.nle
  refine WX.yldW rfl rfl (blt rfl) rfl rfl rfl (Y.lenSl rfl rfl rfl Try.underlying24 rfl) ?_
  refine WX.yldW rfl rfl (blt rfl) rfl rfl rfl (Yld.cast (Y.eql rfl rfl rfl) (vb (b := true) (beq_iff_eq.2 (by omega)))) ?_
  refine WX.yld rfl rfl (blt rfl) rfl (Y.pickT rfl rfl rfl) ?_
  refine WX.yld rfl rfl (blt rfl) rfl (Y.move rfl rfl) ?_
  refine WX.yldW rfl rfl (blt rfl) rfl rfl rfl (Y.move rfl rfl) ?_
  refine WX.yldW rfl rfl (blt rfl) rfl rfl rfl (Y.loadS rfl Try.underlying26 rfl ti26 rfl (Blk.row_c (fun _ h => h.2.2.2.2.1))) ?_
  refine WX.callW rfl rfl (blt rfl) rfl rfl rfl rfl rfl has22 rfl ⟨xW, m13, hl30, hl34, m37, hl54, hl58, m61⟩ (of_any _ _ _ ) ?_
  rintro _ w313 ⟨rfl, x314⟩
  refine ⟨_, rfl, ?_⟩
  have m13 := m13.ext x314
  have ow19 := ow19.ext x314
  have hl30 := hl30.ext x314
  have ow20 := ow20.ext x314
  have hl34 := hl34.ext x314
  have m37 := m37.ext x314
  have ow43 := ow43.ext x314
  have hl54 := hl54.ext x314
  have ow44 := ow44.ext x314
  have hl58 := hl58.ext x314
  have m61 := m61.ext x314
  have m71 := m71.ext x314
  have m78 := m78.ext x314
  have m246 := m246.ext x314
  have ow252 := ow252.ext x314
  have hl256 := hl256.ext x314
  have m294 := m294.ext x314
  have ow298 := ow298.ext x314
  have hl302 := hl302.ext x314
  have ow308 := ow308.ext x314
  have hl312 := hl312.ext x314
  have xW := Ext.trans xW x314
  refine WX.callW rfl rfl (blt rfl) rfl rfl rfl rfl rfl has19 rfl ⟨xW, m13, hl30, hl34, m37, hl54, hl58, m61⟩ (visits_any _ _ _ _ _ _ _ _ _ _ _ _ ⟨8, 10⟩ _ (Ls.lit (f := Sp.S.c) (sz := 2) (l := It.L3) m13 (fun _ => rfl) rfl (by decide) rfl) hl30 hl34 (by decide)) ?_
  rintro _ w315 ⟨rfl, x316⟩
  refine ⟨_, rfl, ?_⟩
  have m13 := m13.ext x316
  have ow19 := ow19.ext x316
  have hl30 := hl30.ext x316
  have ow20 := ow20.ext x316
  have hl34 := hl34.ext x316
  have m37 := m37.ext x316
  have ow43 := ow43.ext x316
  have hl54 := hl54.ext x316
  have ow44 := ow44.ext x316
  have hl58 := hl58.ext x316
  have m61 := m61.ext x316
  have m71 := m71.ext x316
  have m78 := m78.ext x316
  have m246 := m246.ext x316
  have ow252 := ow252.ext x316
  have hl256 := hl256.ext x316
  have m294 := m294.ext x316
  have ow298 := ow298.ext x316
  have hl302 := hl302.ext x316
  have ow308 := ow308.ext x316
  have hl312 := hl312.ext x316
  have xW := Ext.trans xW x316
  refine WX.yldW rfl rfl (blt rfl) rfl rfl rfl (Yld.cast (Y.eql rfl rfl rfl) (vb (b := true) (by rw [It.aw_vis1]; rfl))) ?_
  refine WX.yld rfl rfl (blt rfl) rfl (Y.pickT rfl rfl rfl) ?_
  refine WX.yld rfl rfl (blt rfl) rfl (Y.move rfl rfl) ?_
  refine WX.yldW rfl rfl (blt rfl) rfl rfl rfl (Y.move rfl rfl) ?_
  refine WX.yldW rfl rfl (blt rfl) rfl rfl rfl (Y.loadS rfl Try.underlying26 rfl ti26 rfl (Blk.row_c (fun _ h => h.2.2.2.2.1))) ?_
  refine WX.callW rfl rfl (blt rfl) rfl rfl rfl rfl rfl has22 rfl ⟨xW, m13, hl30, hl34, m37, hl54, hl58, m61⟩ (of_any _ _ _ ) ?_
  rintro _ w317 ⟨rfl, x318⟩
  refine ⟨_, rfl, ?_⟩
  have m13 := m13.ext x318
  have ow19 := ow19.ext x318
  have hl30 := hl30.ext x318
  have ow20 := ow20.ext x318
  have hl34 := hl34.ext x318
  have m37 := m37.ext x318
  have ow43 := ow43.ext x318
  have hl54 := hl54.ext x318
  have ow44 := ow44.ext x318
  have hl58 := hl58.ext x318
  have m61 := m61.ext x318
  have m71 := m71.ext x318
  have m78 := m78.ext x318
  have m246 := m246.ext x318
  have ow252 := ow252.ext x318
  have hl256 := hl256.ext x318
  have m294 := m294.ext x318
  have ow298 := ow298.ext x318
  have hl302 := hl302.ext x318
  have ow308 := ow308.ext x318
  have hl312 := hl312.ext x318
  have xW := Ext.trans xW x318
  refine WX.callW rfl rfl (blt rfl) rfl rfl rfl rfl rfl has19 rfl ⟨xW, m13, hl30, hl34, m37, hl54, hl58, m61⟩ (visits_any _ _ _ _ _ _ _ _ _ _ _ _ ⟨20, 30⟩ _ (Ls.lit (f := Sp.S.c) (sz := 2) (l := It.L3) m13 (fun _ => rfl) rfl (by decide) rfl) hl30 hl34 (by decide)) ?_
  rintro _ w319 ⟨rfl, x320⟩
  refine ⟨_, rfl, ?_⟩
  have m13 := m13.ext x320
  have ow19 := ow19.ext x320
  have hl30 := hl30.ext x320
  have ow20 := ow20.ext x320
  have hl34 := hl34.ext x320
  have m37 := m37.ext x320
  have ow43 := ow43.ext x320
  have hl54 := hl54.ext x320
  have ow44 := ow44.ext x320
  have hl58 := hl58.ext x320
  have m61 := m61.ext x320
  have m71 := m71.ext x320
  have m78 := m78.ext x320
  have m246 := m246.ext x320
  have ow252 := ow252.ext x320
  have hl256 := hl256.ext x320
  have m294 := m294.ext x320
  have ow298 := ow298.ext x320
  have hl302 := hl302.ext x320
  have ow308 := ow308.ext x320
  have hl312 := hl312.ext x320
  have xW := Ext.trans xW x320
  refine WX.yldW rfl rfl (blt rfl) rfl rfl rfl (Yld.cast (Y.eql rfl rfl rfl) (vb (b := true) (by rw [It.aw_vis2]; rfl))) ?_
  refine WX.yld rfl rfl (blt rfl) rfl (Y.pickT rfl rfl rfl) ?_
  refine WX.yld rfl rfl (blt rfl) rfl (Y.move rfl rfl) ?_
  refine WX.yldW rfl rfl (blt rfl) rfl rfl rfl (Y.fieldAddr rfl Try.underlying26 rfl ti24 (by decide) rfl) ?_
  refine WX.yldW rfl rfl (blt rfl) rfl rfl rfl (Y.load1 rfl Try.underlying24 rfl rfl (Blk.at_c (fun _ h => h.2.2.2.2.2.2.2) rfl)) ?_
  refine WX.yldW rfl rfl (blt rfl) rfl rfl rfl (Y.lenSl rfl rfl rfl Try.underlying24 rfl) ?_
  refine WX.yldW rfl rfl (blt rfl) rfl rfl rfl (Yld.cast (Y.eql rfl rfl rfl) (vb (b := true) (beq_iff_eq.2 (by have q := It.ord_len ([] : List Sp.S) 0; omega)))) ?_
  refine WX.yld rfl rfl (blt rfl) rfl (Y.pickT rfl rfl rfl) ?_
  refine WX.yld rfl rfl (blt rfl) rfl (Y.move rfl rfl) ?_
  refine WX.yldW rfl rfl (blt rfl) rfl rfl rfl (Y.fieldAddr rfl Try.underlying26 rfl ti24 (by decide) rfl) ?_
  refine WX.yldW rfl rfl (blt rfl) rfl rfl rfl (Y.load1 rfl Try.underlying24 rfl rfl (Blk.at_c (fun _ h => h.2.2.2.2.2.2.2) rfl)) ?_
  refine WX.yldW rfl rfl (blt rfl) rfl rfl rfl (Y.lenSl rfl rfl rfl Try.underlying24 rfl) ?_
  refine WX.yldW rfl rfl (blt rfl) rfl rfl rfl (Yld.cast (Y.eql rfl rfl rfl) (vb (b := true) (beq_iff_eq.2 (by have q := It.most_len ([] : List Sp.S); simp only [List.length_nil] at q; omega)))) ?_
  refine WX.yld rfl rfl (blt rfl) rfl (Y.pickT rfl rfl rfl) ?_
  refine WX.yld rfl rfl (blt rfl) rfl (Y.assign rfl rfl) ?_
  refine WX.nil ⟨xW, m13, hl30, hl34, m37, hl54, hl58, m61⟩ ?_
  exact WK.cut [(0, _)] ⟨rfl, trivial⟩ rfl xW
end A
end ItW

end Go.Proofs.Ytbdfhiihaemjhaa
