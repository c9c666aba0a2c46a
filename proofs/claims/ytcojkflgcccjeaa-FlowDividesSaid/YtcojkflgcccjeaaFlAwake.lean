/- Contracts: the laws' helpers. Conditions: what each theorem states. -/
import Derived.Test.YtcojkflgcccjeaaFlOpen
namespace Go.Proofs.Ytcojkflgcccjeaa
open Go Go.Eng Go.RowKit
set_option linter.unusedVariables false
namespace FlW
open R O
namespace V
theorem ti3 : TI Try.prog 3 (.int .i64 0) 1 8 := TI.mk (by kernel_rfl)
theorem ti38 : TI Try.prog 38 (.agg #[.int .i64 0, .int .i64 0, .string ⟨#[]⟩, .int .i64 0, .int .i64 0, .slice none 0 0]) 6 72 := TI.mk (by kernel_rfl)
theorem ti40 : TI Try.prog 40 (.agg #[.int .i64 0, .int .i64 0]) 2 16 := TI.mk (by kernel_rfl)
theorem ti42 : TI Try.prog 42 (.agg #[.int .i64 0, .int .i64 0]) 2 16 := TI.mk (by kernel_rfl)
theorem ti44 : TI Try.prog 44 (.agg #[.int .i64 0, .int .i64 0, .int .i64 0, .int .i64 0, .string ⟨#[]⟩, .int .i64 0, .int .i64 0, .slice none 0 0, .int .i64 0, .int .i64 0]) 10 104 := TI.mk (by kernel_rfl)
theorem ti46 : TI Try.prog 46 (.agg #[.int .i64 0, .int .i64 0, .int .i64 0, .int .i64 0, .int .i64 0, .int .i64 0, .int .i64 0]) 7 56 := TI.mk (by kernel_rfl)
theorem has11 : Has Try.prog 11 := ⟨_, Try.func11, rfl, by kernel_rfl⟩
theorem has14 : Has Try.prog 14 := ⟨_, Try.func14, rfl, by kernel_rfl⟩
theorem has16 : Has Try.prog 16 := ⟨_, Try.func16, rfl, by kernel_rfl⟩
theorem has18 : Has Try.prog 18 := ⟨_, Try.func18, rfl, by kernel_rfl⟩
theorem has23 : Has Try.prog 23 := ⟨_, Try.func23, rfl, by kernel_rfl⟩
theorem pl38 : PL Try.prog 38 [.int .i64 0, .int .i64 0, .string ⟨#[]⟩, .int .i64 0, .int .i64 0, .slice none 0 0] [(0, 1), (1, 1), (2, 1), (3, 1), (4, 1), (5, 1)] := PL.mk (zero := [.int .i64 0, .int .i64 0, .string ⟨#[]⟩, .int .i64 0, .int .i64 0, .slice none 0 0]) ti38 Try.underlying38 (by kernel_rfl)
theorem pl40 : PL Try.prog 40 [.int .i64 0, .int .i64 0] [(0, 1), (1, 1)] := PL.mk (zero := [.int .i64 0, .int .i64 0]) ti40 Try.underlying40 (by kernel_rfl)
theorem pl42 : PL Try.prog 42 [.int .i64 0, .int .i64 0] [(0, 1), (1, 1)] := PL.mk (zero := [.int .i64 0, .int .i64 0]) ti42 Try.underlying42 (by kernel_rfl)
theorem pl44 : PL Try.prog 44 [.int .i64 0, .int .i64 0, .int .i64 0, .int .i64 0, .string ⟨#[]⟩, .int .i64 0, .int .i64 0, .slice none 0 0, .int .i64 0, .int .i64 0] [(0, 2), (2, 6), (8, 2)] := PL.mk (zero := [.int .i64 0, .int .i64 0, .int .i64 0, .int .i64 0, .string ⟨#[]⟩, .int .i64 0, .int .i64 0, .slice none 0 0, .int .i64 0, .int .i64 0]) ti44 Try.underlying44 (by kernel_rfl)
theorem pl46 : PL Try.prog 46 [.int .i64 0, .int .i64 0, .int .i64 0, .int .i64 0, .int .i64 0, .int .i64 0, .int .i64 0] [(0, 1), (1, 2), (3, 2), (5, 1), (6, 1)] := PL.mk (zero := [.int .i64 0, .int .i64 0, .int .i64 0, .int .i64 0, .int .i64 0, .int .i64 0, .int .i64 0]) ti46 Try.underlying46 (by kernel_rfl)
theorem eqg46 : Try.prog.eqGuardType Try.prog.depth 46 = false := by kernel_rfl
theorem eq46 (a0 : Int) (a1 : Int) (a2 : Int) (a3 : Int) (a4 : Int) (a5 : Int) (a6 : Int) (b0 : Int) (b1 : Int) (b2 : Int) (b3 : Int) (b4 : Int) (b5 : Int) (b6 : Int) (w : World) : (Op.equalIn 10000 46 (.agg #[.int .i64 a0, .int .i64 a1, .int .i64 a2, .int .i64 a3, .int .i64 a4, .int .i64 a5, .int .i64 a6]) (.agg #[.int .i64 b0, .int .i64 b1, .int .i64 b2, .int .i64 b3, .int .i64 b4, .int .i64 b5, .int .i64 b6])).run Try.prog w = .ok ((a0 == b0) && ((a1 == b1) && (a2 == b2)) && ((a3 == b3) && (a4 == b4)) && (a5 == b5) && (a6 == b6)) w := by
  go_simp
  (repeat' split) <;> simp_all
theorem at_any (a : Int) (b : Int) (c : Int) (k : Int) (n : Int) (w : World) :
    Calls Try.prog 23 #[.int .i64 a, .int .i64 b, .int .i64 c, .int .i64 k, .int .i64 n] w fun e w' => e = .returned (.agg (Fl.Ev.c ⟨a, b, c, k, ⟨#[]⟩, n, 0, none, 0, 0, c, c⟩).toArray) ∧ Ext w w' := by
  have xW := Ext.refl w
  refine calls_of_WC (args := [.int .i64 a, .int .i64 b, .int .i64 c, .int .i64 k, .int .i64 n]) Try.func23 rfl rfl (ble rfl) ?_
  refine WC.seq (fun K1 k1 => ?_)
  refine WC.region rfl ?_
  refine WL.alloc rfl (blt rfl) rfl rfl ti44 rfl ?_
  intro g2 w3 e4 x5 m6
  have o_g2 := own_new xW e4
  have xW := Ext.trans xW x5
  refine WL.nil ?_
  refine WK.then_normal (k1 _ _ ?_)
  refine WC.seq (fun K7 k7 => ?_)
  refine WC.region rfl ?_
  refine WL.yld rfl (blt rfl) rfl (Y.move rfl rfl) ?_
  refine WL.yld rfl (blt rfl) rfl (Y.move rfl rfl) ?_
  refine WL.yld rfl (blt rfl) rfl (Y.build (cells := [_, _]) rfl pl40 rfl rfl) ?_
  refine WL.yld rfl (blt rfl) rfl (Y.move rfl rfl) ?_
  refine WL.yld rfl (blt rfl) rfl (Y.move rfl rfl) ?_
  refine WL.yld rfl (blt rfl) rfl (Y.move rfl rfl) ?_
  refine WL.yld rfl (blt rfl) rfl (Y.build (cells := [_, _, _, _, _, _]) rfl pl38 rfl rfl) ?_
  refine WL.yld rfl (blt rfl) rfl (Y.move rfl rfl) ?_
  refine WL.yld rfl (blt rfl) rfl (Y.move rfl rfl) ?_
  refine WL.yld rfl (blt rfl) rfl (Y.build (cells := [_, _]) rfl pl42 rfl rfl) ?_
  refine WL.yld rfl (blt rfl) rfl (Y.build (cells := [_, _, _, _, _, _, _, _, _, _]) rfl pl44 rfl rfl) ?_
  refine WL.store (cs' := [_, _, _, _, _, _, _, _, _, _]) rfl rfl rfl rfl rfl rfl ti44 m6 (ble rfl) rfl rfl (fun w8 on9 m10 => ?_)
  have xW := Ext.only xW on9 o_g2
  refine WL.nil ?_
  refine WK.then_normal (k7 _ _ ?_)
  refine WC.sub [(10, _)] ⟨rfl, trivial⟩ ?_
  refine WC.ret ?_
  clear k1 k7
  refine WK.ret [_] rfl ⟨⟨_, rfl, run_loadVar_blk Try.underlying44 rfl ti44 m10⟩, trivial⟩ ?_
  exact ⟨rfl, xW⟩
theorem awake_any  (w : World) :
    Calls Try.prog 9 #[] w fun e w' => e = .returned (.bool true) ∧ Ext w w' := by
  have xW := Ext.refl w
  refine calls_of_WC (args := []) Try.func9 rfl rfl (ble rfl) ?_
  refine WC.seq (fun K1 k1 => ?_)
  refine WC.region rfl ?_
  refine WL.yld rfl (blt rfl) rfl (Y.assign rfl rfl) ?_
  refine WL.nil ?_
  refine WK.then_normal (k1 _ _ ?_)
  refine WC.sub [] trivial ?_
  refine WC.seq (fun K2 k2 => ?_)
  refine WC.region rfl ?_
  refine WL.call rfl (blt rfl) rfl rfl rfl has23 rfl (at_any _ _ _ _ _ _ ) ?_
  rintro _ w3 ⟨rfl, x4⟩
  refine ⟨_, rfl, ?_⟩
  have xW := Ext.trans xW x4
  refine WL.call rfl (blt rfl) rfl rfl rfl has23 rfl (at_any _ _ _ _ _ _ ) ?_
  rintro _ w5 ⟨rfl, x6⟩
  refine ⟨_, rfl, ?_⟩
  have xW := Ext.trans xW x6
  refine WL.call rfl (blt rfl) rfl rfl rfl has23 rfl (at_any _ _ _ _ _ _ ) ?_
  rintro _ w7 ⟨rfl, x8⟩
  refine ⟨_, rfl, ?_⟩
  have xW := Ext.trans xW x8
  refine WL.bslice (zs := [.int .i64 0, .int .i64 0, .int .i64 0, .int .i64 0, .string ⟨#[]⟩, .int .i64 0, .int .i64 0, .slice none 0 0, .int .i64 0, .int .i64 0, .int .i64 0, .int .i64 0, .int .i64 0, .int .i64 0, .string ⟨#[]⟩, .int .i64 0, .int .i64 0, .slice none 0 0, .int .i64 0, .int .i64 0, .int .i64 0, .int .i64 0, .int .i64 0, .int .i64 0, .string ⟨#[]⟩, .int .i64 0, .int .i64 0, .slice none 0 0, .int .i64 0, .int .i64 0]) (cs := [_, _, _, _, _, _, _, _, _, _, _, _, _, _, _, _, _, _, _, _, _, _, _, _, _, _, _, _, _, _]) rfl (blt rfl) rfl rfl Try.underlying22 ti44 rfl (ble rfl) (by kernel_rfl) rfl rfl ?_
  intro g9 w10 e11 x12 m13
  have o_g9 := own_new xW e11
  have xW := Ext.trans xW x12
  refine WL.yld rfl (blt rfl) rfl (Y.assign rfl rfl) ?_
  refine WL.nil ?_
  refine WK.then_normal (k2 _ _ ?_)
  refine WC.sub [(1, _)] ⟨rfl, trivial⟩ ?_
  refine WC.seq (fun K14 k14 => ?_)
  refine WC.region rfl ?_
  refine WL.call rfl (blt rfl) rfl rfl rfl has23 rfl (at_any _ _ _ _ _ _ ) ?_
  rintro _ w15 ⟨rfl, x16⟩
  refine ⟨_, rfl, ?_⟩
  have m13 := m13.ext x16
  have xW := Ext.trans xW x16
  refine WL.call rfl (blt rfl) rfl rfl rfl has23 rfl (at_any _ _ _ _ _ _ ) ?_
  rintro _ w17 ⟨rfl, x18⟩
  refine ⟨_, rfl, ?_⟩
  have m13 := m13.ext x18
  have xW := Ext.trans xW x18
  refine WL.bslice (zs := [.int .i64 0, .int .i64 0, .int .i64 0, .int .i64 0, .string ⟨#[]⟩, .int .i64 0, .int .i64 0, .slice none 0 0, .int .i64 0, .int .i64 0, .int .i64 0, .int .i64 0, .int .i64 0, .int .i64 0, .string ⟨#[]⟩, .int .i64 0, .int .i64 0, .slice none 0 0, .int .i64 0, .int .i64 0]) (cs := [_, _, _, _, _, _, _, _, _, _, _, _, _, _, _, _, _, _, _, _]) rfl (blt rfl) rfl rfl Try.underlying22 ti44 rfl (ble rfl) (by kernel_rfl) rfl rfl ?_
  intro g19 w20 e21 x22 m23
  have n_g9_g19 := ne_new m13 e21
  have o_g19 := own_new xW e21
  have m13 := m13.ext x22
  have xW := Ext.trans xW x22
  refine WL.yld rfl (blt rfl) rfl (Y.assign rfl rfl) ?_
  refine WL.nil ?_
  refine WK.then_normal (k14 _ _ ?_)
  refine WC.sub [(1, _), (2, _)] ⟨rfl, rfl, trivial⟩ ?_
  refine WC.seq (fun K24 k24 => ?_)
  refine WC.region rfl ?_
  refine WL.yld rfl (blt rfl) rfl (Y.move rfl rfl) ?_
  refine WL.call rfl (blt rfl) rfl rfl rfl has11 rfl (of_any _ _ _ _ _ (Ls.lit (f := Fl.Ev.c) (l := [⟨1, 0, 10, 6, ⟨#[]⟩, 7, 0, none, 0, 0, 10, 10⟩, ⟨2, 0, 12, 7, ⟨#[]⟩, 7, 0, none, 0, 0, 12, 12⟩, ⟨3, 4, 15, 7, ⟨#[]⟩, 7, 0, none, 0, 0, 15, 15⟩]) m13 (fun _ => rfl) rfl (by decide) rfl) (by omega)) ?_
  rintro _ w25 ⟨v27, rfl, ow28, x26⟩
  refine ⟨_, rfl, ?_⟩
  have r_v27_g9 := ne_res ow28 m13
  have r_v27_g19 := ne_res ow28 m23
  have ow28 := OwnL.base_le ow28 xW.size
  have m13 := m13.ext x26
  have m23 := m23.ext x26
  have xW := Ext.trans xW x26
  refine WL.yld rfl (blt rfl) rfl (Y.assign rfl rfl) ?_
  refine WL.nil ?_
  refine WK.then_normal (k24 _ _ ?_)
  refine WC.sub [(1, _), (2, _), (3, _)] ⟨rfl, rfl, rfl, trivial⟩ ?_
  refine WC.seq (fun K29 k29 => ?_)
  refine WC.region rfl ?_
  refine WL.yld rfl (blt rfl) rfl (Y.move rfl rfl) ?_
  refine WL.call rfl (blt rfl) rfl rfl rfl has14 rfl (open_any _ _ _ _ _ (Ls.lit (f := Fl.Ev.c) (l := [⟨1, 0, 10, 7, ⟨#[]⟩, 8, 0, none, 0, 0, 10, 10⟩, ⟨2, 0, 12, 6, ⟨#[]⟩, 8, 0, none, 0, 0, 12, 12⟩]) m23 (fun _ => rfl) rfl (by decide) rfl) (by omega) (by decide)) ?_
  rintro _ w30 ⟨v32, rfl, ow33, x31⟩
  refine ⟨_, rfl, ?_⟩
  have r_v32_g9 := ne_res ow33 m13
  have r_v32_g19 := ne_res ow33 m23
  have d_v27_v32 := (Apart.res ow33 ow28).symm
  have ow33 := OwnL.base_le ow33 xW.size
  have m13 := m13.ext x31
  have m23 := m23.ext x31
  have ow28 := ow28.ext x31
  have xW := Ext.trans xW x31
  refine WL.yld rfl (blt rfl) rfl (Y.assign rfl rfl) ?_
  refine WL.nil ?_
  refine WK.then_normal (k29 _ _ ?_)
  refine WC.sub [(1, _), (2, _), (3, _), (4, _)] ⟨rfl, rfl, rfl, rfl, trivial⟩ ?_
  refine WC.seq (fun K34 k34 => ?_)
  refine WC.region rfl ?_
  refine WL.yld rfl (blt rfl) rfl (Y.move rfl rfl) ?_
  obtain ⟨A35, n36, c37, rfl, hl38⟩ := OwnL.opened ow28 (fun _ => rfl) (by decide)
  have e_n36 := hl38.len
  try simp only [List.length_append, List.length_cons, List.length_nil, List.length_reverse, List.length_drop, List.length_take] at e_n36
  have z_n36 := hl38.nle
  have k_n36 : n36 = 2 := (hl38.len).symm.trans (by kernel_rfl)
  subst k_n36
  refine WL.call rfl (blt rfl) rfl rfl rfl has18 rfl (between_any _ _ _ _ _ _ _ hl38 (by omega)) ?_
  rintro _ w39 ⟨v41, rfl, ow42, x40⟩
  refine ⟨_, rfl, ?_⟩
  have r_v41_g9 := ne_res ow42 m13
  have r_v41_g19 := ne_res ow42 m23
  have d_v27_v41 := (Apart.res ow42 ow28).symm
  have d_v32_v41 := (Apart.res ow42 ow33).symm
  have ow42 := OwnL.base_le ow42 xW.size
  have m13 := m13.ext x40
  have m23 := m23.ext x40
  have ow28 := ow28.ext x40
  have hl38 := hl38.ext x40
  have ow33 := ow33.ext x40
  have xW := Ext.trans xW x40
  refine WL.yld rfl (blt rfl) rfl (Y.assign rfl rfl) ?_
  refine WL.nil ?_
  refine WK.then_normal (k34 _ _ ?_)
  refine WC.sub [(1, _), (2, _), (3, _), (4, _), (5, _)] ⟨rfl, rfl, rfl, rfl, rfl, trivial⟩ ?_
  refine WC.seq (fun K43 k43 => ?_)
  obtain ⟨A44, n45, c46, rfl, hl47⟩ := OwnL.opened ow33 (fun _ => rfl) (by decide)
  have e_n45 := hl47.len
  try simp only [List.length_append, List.length_cons, List.length_nil, List.length_reverse, List.length_drop, List.length_take] at e_n45
  have z_n45 := hl47.nle
  have k_n45 : n45 = 1 := (hl47.len).symm.trans (by kernel_rfl)
  subst k_n45
  obtain ⟨A48, n49, c50, rfl, hl51⟩ := OwnL.opened ow42 (fun _ => rfl) (by decide)
  have e_n49 := hl51.len
  try simp only [List.length_append, List.length_cons, List.length_nil, List.length_reverse, List.length_drop, List.length_take] at e_n49
  have z_n49 := hl51.nle
  have k_n49 : n49 = 1 := (hl51.len).symm.trans (by kernel_rfl)
  subst k_n49
  refine WC.regionX (fun W' => Ext w W' ∧ Blk W' g9 44 _ ∧ Blk W' g19 44 _ ∧ Ls W' A35 2 c37 Fl.Flow.c 7 _ ∧ Ls W' A44 1 c46 Fl.ic 1 _ ∧ Ls W' A48 1 c50 Fl.Flow.c 7 _) (.load 0 (.load 1 (.load 2 (.load 3 (.load 4 (.load 5 (.load 6 (.load 7 (.load 8 (.load 9 (.load 10 (.load 11 (.load 12 (.load 13 (.load 14 (.load 15 (.load 16 (.load 17 (.load 18 (.load 19 (.load 20 (.load 21 (.load 22 (.alt 23 (.load 24 (.load 25 (.load 26 (.load 27 (.load 28 (.alt 29 (.load 30 (.load 31 (.load 32 (.load 33 (.alt 34 (.load 35 (.load 36 (.load 37 (.load 38 (.load 39 (.load 40 (.load 41 (.load 42 (.load 43 (.load 44 (.load 45 (.load 46 (.load 47 (.load 48 (.load 49 (.load 50 (.load 51 (.load 52 (.load 53 (.load 54 (.load 55 (.load 56 (.load 57 (.load 58 (.load 59 (.load 60 (.load 61 (.load 62 (.load 63 (.load 64 (.load 65 (.load 66 (.load 67 (.load 68 (.load 69 (.alt 70 (.alt 71 (.load 72 (.load 73 (.load 74 (.fin)))) (.none)) (.none))))))))))))))))))))))))))))))))))))) (.none)))))) (.none))))))) (.none))))))))))))))))))))))))) ⟨xW, m13, m23, hl38, hl47, hl51⟩ (by kernel_rfl) (by kernel_rfl) (fun w52 x53 => ?_)
  have m13 := m13.ext x53
  have m23 := m23.ext x53
  have ow28 := ow28.ext x53
  have hl38 := hl38.ext x53
  have ow33 := ow33.ext x53
  have hl47 := hl47.ext x53
  have ow42 := ow42.ext x53
  have hl51 := hl51.ext x53
  have xW := Ext.trans xW x53
  refine WX.yld rfl rfl (blt rfl) rfl (Y.move rfl rfl) ?_
  refine WX.yld rfl rfl (blt rfl) rfl (Y.lenSl rfl rfl rfl Try.underlying25 rfl) ?_
  refine WX.yld rfl rfl (blt rfl) rfl (Yld.cast (Y.eql rfl rfl rfl) (vb (b := true) (by kernel_rfl))) ?_
  refine WX.yld rfl rfl (blt rfl) rfl (Y.move rfl rfl) ?_
  refine WX.yldW rfl rfl (blt rfl) rfl rfl rfl (Y.move rfl rfl) ?_
  have b54 : 0 < 2 := by omega
  refine WX.yldW rfl rfl (blt rfl) rfl rfl rfl (Y.indexLs 0 hl38 rfl Try.underlying25 ti46 rfl rfl rfl b54) ?_
  refine WX.yldW rfl rfl (blt rfl) rfl rfl rfl (Y.loadS (cs := [_, _, _, _, _, _, _]) rfl Try.underlying46 rfl ti46 rfl (Ls.part_c (fun _ h => h.2.2.2.1) b54 rfl)) ?_
  refine WX.yldW rfl rfl (blt rfl) rfl rfl rfl (Y.build (cells := [_, _]) rfl pl40 rfl rfl) ?_
  refine WX.yldW rfl rfl (blt rfl) rfl rfl rfl (Y.build (cells := [_, _]) rfl pl40 rfl rfl) ?_
  refine WX.yldW rfl rfl (blt rfl) rfl rfl rfl (Y.build (cells := [_, _, _, _, _, _, _]) rfl pl46 rfl rfl) ?_
  refine WX.yldW rfl rfl (blt rfl) rfl rfl rfl (Yld.cast (Y.eqlS rfl eqg46 (eq46 _ _ _ _ _ _ _ _ _ _ _ _ _ _) rfl rfl) (vb (b := true) (by kernel_rfl))) ?_
  refine WX.yld rfl rfl (blt rfl) rfl (Y.pickT rfl rfl rfl) ?_
  refine WX.yld rfl rfl (blt rfl) rfl (Y.move rfl rfl) ?_
  refine WX.yldW rfl rfl (blt rfl) rfl rfl rfl (Y.move rfl rfl) ?_
  have b55 : 1 < 2 := by omega
  refine WX.yldW rfl rfl (blt rfl) rfl rfl rfl (Y.indexLs 1 hl38 rfl Try.underlying25 ti46 rfl rfl rfl b55) ?_
  refine WX.yldW rfl rfl (blt rfl) rfl rfl rfl (Y.loadS (cs := [_, _, _, _, _, _, _]) rfl Try.underlying46 rfl ti46 rfl (Ls.part_c (fun _ h => h.2.2.2.1) b55 rfl)) ?_
  refine WX.yldW rfl rfl (blt rfl) rfl rfl rfl (Y.build (cells := [_, _]) rfl pl40 rfl rfl) ?_
  refine WX.yldW rfl rfl (blt rfl) rfl rfl rfl (Y.build (cells := [_, _]) rfl pl40 rfl rfl) ?_
  refine WX.yldW rfl rfl (blt rfl) rfl rfl rfl (Y.build (cells := [_, _, _, _, _, _, _]) rfl pl46 rfl rfl) ?_
  refine WX.yldW rfl rfl (blt rfl) rfl rfl rfl (Yld.cast (Y.eqlS rfl eqg46 (eq46 _ _ _ _ _ _ _ _ _ _ _ _ _ _) rfl rfl) (vb (b := true) (by kernel_rfl))) ?_
  refine WX.yld rfl rfl (blt rfl) rfl (Y.pickT rfl rfl rfl) ?_
  refine WX.yld rfl rfl (blt rfl) rfl (Y.move rfl rfl) ?_
  refine WX.yldW rfl rfl (blt rfl) rfl rfl rfl (Y.move rfl rfl) ?_
  refine WX.callW rfl rfl (blt rfl) rfl rfl rfl rfl rfl has14 rfl ⟨xW, m13, m23, hl38, hl47, hl51⟩ (open_any _ _ _ _ _ (Ls.lit (f := Fl.Ev.c) (l := [⟨1, 0, 10, 6, ⟨#[]⟩, 7, 0, none, 0, 0, 10, 10⟩, ⟨2, 0, 12, 7, ⟨#[]⟩, 7, 0, none, 0, 0, 12, 12⟩, ⟨3, 4, 15, 7, ⟨#[]⟩, 7, 0, none, 0, 0, 15, 15⟩]) m13 (fun _ => rfl) rfl (by decide) rfl) (by omega) (by decide)) ?_
  rintro _ w56 ⟨v58, rfl, ow59, x57⟩
  refine ⟨_, rfl, ?_⟩
  have r_v58_g9 := ne_res ow59 m13
  have r_v58_g19 := ne_res ow59 m23
  have d_v27_v58 := (Apart.res ow59 ow28).symm
  have d_v32_v58 := (Apart.res ow59 ow33).symm
  have d_v41_v58 := (Apart.res ow59 ow42).symm
  have ow59 := OwnL.base_le ow59 xW.size
  have m13 := m13.ext x57
  have m23 := m23.ext x57
  have ow28 := ow28.ext x57
  have hl38 := hl38.ext x57
  have ow33 := ow33.ext x57
  have hl47 := hl47.ext x57
  have ow42 := ow42.ext x57
  have hl51 := hl51.ext x57
  have xW := Ext.trans xW x57
  obtain ⟨A60, n61, c62, rfl, hl63⟩ := OwnL.opened ow59 (fun _ => rfl) (by decide)
  have e_n61 := hl63.len
  try simp only [List.length_append, List.length_cons, List.length_nil, List.length_reverse, List.length_drop, List.length_take] at e_n61
  have z_n61 := hl63.nle
  have k_n61 : n61 = 0 := (hl63.len).symm.trans (by kernel_rfl)
  subst k_n61
  refine WX.yldW rfl rfl (blt rfl) rfl rfl rfl (Y.lenSl rfl rfl rfl Try.underlying28 rfl) ?_
  refine WX.yldW rfl rfl (blt rfl) rfl rfl rfl (Yld.cast (Y.eql rfl rfl rfl) (vb (b := true) (by kernel_rfl))) ?_
  refine WX.yld rfl rfl (blt rfl) rfl (Y.pickT rfl rfl rfl) ?_
  refine WX.yld rfl rfl (blt rfl) rfl (Y.move rfl rfl) ?_
  refine WX.yldW rfl rfl (blt rfl) rfl rfl rfl (Y.move rfl rfl) ?_
  refine WX.callW rfl rfl (blt rfl) rfl rfl rfl rfl rfl has16 rfl ⟨xW, m13, m23, hl38, hl47, hl51⟩ (check_any _ _ _ _ _ hl38) ?_
  rintro _ w64 ⟨rfl, x65⟩
  refine ⟨_, rfl, ?_⟩
  have m13 := m13.ext x65
  have m23 := m23.ext x65
  have ow28 := ow28.ext x65
  have hl38 := hl38.ext x65
  have ow33 := ow33.ext x65
  have hl47 := hl47.ext x65
  have ow42 := ow42.ext x65
  have hl51 := hl51.ext x65
  have ow59 := ow59.ext x65
  have hl63 := hl63.ext x65
  have xW := Ext.trans xW x65
  refine WX.yldW rfl rfl (blt rfl) rfl rfl rfl (Yld.cast (Y.eql rfl rfl rfl) (vb (b := true) (by kernel_rfl))) ?_
  refine WX.yld rfl rfl (blt rfl) rfl (Y.pickT rfl rfl rfl) ?_
  refine WX.yld rfl rfl (blt rfl) rfl (Y.move rfl rfl) ?_
  refine WX.yldW rfl rfl (blt rfl) rfl rfl rfl (Y.move rfl rfl) ?_
  refine WX.callW rfl rfl (blt rfl) rfl rfl rfl rfl rfl has11 rfl ⟨xW, m13, m23, hl38, hl47, hl51⟩ (of_any _ _ _ _ _ (Ls.lit (f := Fl.Ev.c) (l := [⟨1, 0, 10, 7, ⟨#[]⟩, 8, 0, none, 0, 0, 10, 10⟩, ⟨2, 0, 12, 6, ⟨#[]⟩, 8, 0, none, 0, 0, 12, 12⟩]) m23 (fun _ => rfl) rfl (by decide) rfl) (by omega)) ?_
  rintro _ w66 ⟨v68, rfl, ow69, x67⟩
  refine ⟨_, rfl, ?_⟩
  have r_v68_g9 := ne_res ow69 m13
  have r_v68_g19 := ne_res ow69 m23
  have d_v27_v68 := (Apart.res ow69 ow28).symm
  have d_v32_v68 := (Apart.res ow69 ow33).symm
  have d_v41_v68 := (Apart.res ow69 ow42).symm
  have d_v58_v68 := (Apart.res ow69 ow59).symm
  have ow69 := OwnL.base_le ow69 xW.size
  have m13 := m13.ext x67
  have m23 := m23.ext x67
  have ow28 := ow28.ext x67
  have hl38 := hl38.ext x67
  have ow33 := ow33.ext x67
  have hl47 := hl47.ext x67
  have ow42 := ow42.ext x67
  have hl51 := hl51.ext x67
  have ow59 := ow59.ext x67
  have hl63 := hl63.ext x67
  have xW := Ext.trans xW x67
  obtain ⟨A70, n71, c72, rfl, hl73⟩ := OwnL.opened ow69 (fun _ => rfl) (by decide)
  have e_n71 := hl73.len
  try simp only [List.length_append, List.length_cons, List.length_nil, List.length_reverse, List.length_drop, List.length_take] at e_n71
  have z_n71 := hl73.nle
  have k_n71 : n71 = 0 := (hl73.len).symm.trans (by kernel_rfl)
  subst k_n71
  refine WX.yldW rfl rfl (blt rfl) rfl rfl rfl (Y.lenSl rfl rfl rfl Try.underlying25 rfl) ?_
  refine WX.yldW rfl rfl (blt rfl) rfl rfl rfl (Yld.cast (Y.eql rfl rfl rfl) (vb (b := true) (by kernel_rfl))) ?_
  refine WX.yld rfl rfl (blt rfl) rfl (Y.pickT rfl rfl rfl) ?_
  refine WX.yld rfl rfl (blt rfl) rfl (Y.move rfl rfl) ?_
  refine WX.yldW rfl rfl (blt rfl) rfl rfl rfl (Y.move rfl rfl) ?_
  refine WX.yldW rfl rfl (blt rfl) rfl rfl rfl (Y.lenSl rfl rfl rfl Try.underlying28 rfl) ?_
  refine WX.yldW rfl rfl (blt rfl) rfl rfl rfl (Yld.cast (Y.eql rfl rfl rfl) (vb (b := true) (by kernel_rfl))) ?_
  refine WX.yld rfl rfl (blt rfl) rfl (Y.pickT rfl rfl rfl) ?_
  refine WX.yld rfl rfl (blt rfl) rfl (Y.move rfl rfl) ?_
  refine WX.yldW rfl rfl (blt rfl) rfl rfl rfl (Y.move rfl rfl) ?_
  have b74 : 0 < 1 := by omega
  refine WX.yldW rfl rfl (blt rfl) rfl rfl rfl (Y.indexLs 0 hl47 rfl Try.underlying28 ti3 rfl rfl rfl b74) ?_
  refine WX.yldW rfl rfl (blt rfl) rfl rfl rfl (Y.load1 rfl Try.underlying3 rfl rfl (Ls.at_c (fun _ h => h.2.2.2.2.1) b74 rfl)) ?_
  refine WX.yldW rfl rfl (blt rfl) rfl rfl rfl (Yld.cast (Y.eql rfl rfl rfl) (vb (b := true) (by kernel_rfl))) ?_
  refine WX.yld rfl rfl (blt rfl) rfl (Y.pickT rfl rfl rfl) ?_
  refine WX.yld rfl rfl (blt rfl) rfl (Y.move rfl rfl) ?_
  refine WX.yldW rfl rfl (blt rfl) rfl rfl rfl (Y.move rfl rfl) ?_
  refine WX.yldW rfl rfl (blt rfl) rfl rfl rfl (Y.lenSl rfl rfl rfl Try.underlying25 rfl) ?_
  refine WX.yldW rfl rfl (blt rfl) rfl rfl rfl (Yld.cast (Y.eql rfl rfl rfl) (vb (b := true) (by kernel_rfl))) ?_
  refine WX.yld rfl rfl (blt rfl) rfl (Y.pickT rfl rfl rfl) ?_
  refine WX.yld rfl rfl (blt rfl) rfl (Y.move rfl rfl) ?_
  refine WX.yldW rfl rfl (blt rfl) rfl rfl rfl (Y.move rfl rfl) ?_
  have b75 : 0 < 1 := by omega
  refine WX.yldW rfl rfl (blt rfl) rfl rfl rfl (Y.indexLs 0 hl51 rfl Try.underlying25 ti46 rfl rfl rfl b75) ?_
  refine WX.yldW rfl rfl (blt rfl) rfl rfl rfl (Y.loadS (cs := [_, _, _, _, _, _, _]) rfl Try.underlying46 rfl ti46 rfl (Ls.part_c (fun _ h => h.2.2.2.2.2) b75 rfl)) ?_
  refine WX.yldW rfl rfl (blt rfl) rfl rfl rfl (Y.move rfl rfl) ?_
  have b76 : 1 < 2 := by omega
  refine WX.yldW rfl rfl (blt rfl) rfl rfl rfl (Y.indexLs 1 hl38 rfl Try.underlying25 ti46 rfl rfl rfl b76) ?_
  refine WX.yldW rfl rfl (blt rfl) rfl rfl rfl (Y.loadS (cs := [_, _, _, _, _, _, _]) rfl Try.underlying46 rfl ti46 rfl (Ls.part_c (fun _ h => h.2.2.2.1) b76 rfl)) ?_
  refine WX.yldW rfl rfl (blt rfl) rfl rfl rfl (Yld.cast (Y.eqlS rfl eqg46 (eq46 _ _ _ _ _ _ _ _ _ _ _ _ _ _) rfl rfl) (vb (b := true) (by kernel_rfl))) ?_
  refine WX.yld rfl rfl (blt rfl) rfl (Y.pickT rfl rfl rfl) ?_
  refine WX.yld rfl rfl (blt rfl) rfl (Y.move rfl rfl) ?_
  refine WX.yldW rfl rfl (blt rfl) rfl rfl rfl (Y.move rfl rfl) ?_
  have b77 : 1 < 2 := by omega
  refine WX.yldW rfl rfl (blt rfl) rfl rfl rfl (Y.indexLs 1 hl38 rfl Try.underlying25 ti46 rfl rfl rfl b77) ?_
  refine WX.yldW rfl rfl (blt rfl) rfl rfl rfl (Y.loadS (cs := [_, _, _, _, _, _, _]) rfl Try.underlying46 rfl ti46 rfl (Ls.part_c (fun _ h => h.2.2.2.1) b77 rfl)) ?_
  refine WX.yldW rfl rfl (blt rfl) rfl rfl rfl (Y.move rfl rfl) ?_
  have b78 : 0 < 2 := by omega
  refine WX.yldW rfl rfl (blt rfl) rfl rfl rfl (Y.indexLs 0 hl38 rfl Try.underlying25 ti46 rfl rfl rfl b78) ?_
  refine WX.yldW rfl rfl (blt rfl) rfl rfl rfl (Y.loadS (cs := [_, _, _, _, _, _, _]) rfl Try.underlying46 rfl ti46 rfl (Ls.part_c (fun _ h => h.2.2.2.1) b78 rfl)) ?_
  refine WX.runW rfl rfl (blt rfl) rfl rfl rfl ⟨xW, m13, m23, hl38, hl47, hl51⟩ (Run.bslice (zs := [.int .i64 0, .int .i64 0, .int .i64 0, .int .i64 0, .int .i64 0, .int .i64 0, .int .i64 0, .int .i64 0, .int .i64 0, .int .i64 0, .int .i64 0, .int .i64 0, .int .i64 0, .int .i64 0]) (cs := [_, _, _, _, _, _, _, _, _, _, _, _, _, _]) rfl Try.underlying25 ti46 rfl (ble rfl) (by kernel_rfl) rfl rfl) ?_
  rintro _ w80 ⟨g79, rfl, e81, x82, m83⟩
  have n_g9_g79 := ne_new m13 e81
  have n_g19_g79 := ne_new m23 e81
  have r_v27_g79 := ne_newO ow28 e81
  have r_v32_g79 := ne_newO ow33 e81
  have r_v41_g79 := ne_newO ow42 e81
  have r_v58_g79 := ne_newO ow59 e81
  have r_v68_g79 := ne_newO ow69 e81
  have o_g79 := own_new xW e81
  have m13 := m13.ext x82
  have m23 := m23.ext x82
  have ow28 := ow28.ext x82
  have hl38 := hl38.ext x82
  have ow33 := ow33.ext x82
  have hl47 := hl47.ext x82
  have ow42 := ow42.ext x82
  have hl51 := hl51.ext x82
  have ow59 := ow59.ext x82
  have hl63 := hl63.ext x82
  have ow69 := ow69.ext x82
  have hl73 := hl73.ext x82
  have xW := Ext.trans xW x82
  refine WX.callW rfl rfl (blt rfl) rfl rfl rfl rfl rfl has16 rfl ⟨xW, m13, m23, hl38, hl47, hl51⟩ (check_any _ _ _ _ _ (Ls.lit (f := Fl.Flow.c) (l := [⟨7, 1, 0, 3, 4, 10, 15⟩, ⟨7, 1, 0, 2, 0, 10, 12⟩]) m83 (fun _ => rfl) rfl (by decide) rfl)) ?_
  rintro _ w84 ⟨rfl, x85⟩
  refine ⟨_, rfl, ?_⟩
  have m13 := m13.ext x85
  have m23 := m23.ext x85
  have ow28 := ow28.ext x85
  have hl38 := hl38.ext x85
  have ow33 := ow33.ext x85
  have hl47 := hl47.ext x85
  have ow42 := ow42.ext x85
  have hl51 := hl51.ext x85
  have ow59 := ow59.ext x85
  have hl63 := hl63.ext x85
  have ow69 := ow69.ext x85
  have hl73 := hl73.ext x85
  have m83 := m83.ext x85
  have xW := Ext.trans xW x85
  refine WX.yldW rfl rfl (blt rfl) rfl rfl rfl (Yld.cast (Y.eql rfl rfl rfl) (vb (b := true) (by kernel_rfl))) ?_
  refine WX.yld rfl rfl (blt rfl) rfl (Y.pickT rfl rfl rfl) ?_
  refine WX.yld rfl rfl (blt rfl) rfl (Y.assign rfl rfl) ?_
  refine WX.nil ⟨xW, m13, m23, hl38, hl47, hl51⟩ ?_
  refine WK.then_normal (k43 _ _ ?_)
  refine WC.sub [(0, _)] ⟨rfl, trivial⟩ ?_
  refine WC.ret ?_
  clear k1 k2 k14 k24 k29 k34 k43
  refine WK.ret [_] rfl ⟨rfl, trivial⟩ ?_
  exact ⟨rfl, xW⟩
end V
end FlW

end Go.Proofs.Ytcojkflgcccjeaa
