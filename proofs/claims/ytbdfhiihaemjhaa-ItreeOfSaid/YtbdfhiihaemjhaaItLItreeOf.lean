/- The walk of the law. Conditions: what each theorem states. -/
import Derived.Test.YtbdfhiihaemjhaaItAwake
namespace Go.Proofs.Ytbdfhiihaemjhaa
open Go Go.Eng Go.RowKit
set_option linter.unusedVariables false
namespace ItW
open M O Vi X R A
namespace LItreeOf
theorem ti24 : TI Try.prog 24 (.slice none 0 0) 1 24 := TI.mk (by kernel_rfl)
theorem ti26 : TI Try.prog 26 (.agg #[.slice none 0 0, .slice none 0 0]) 2 48 := TI.mk (by kernel_rfl)
theorem has8 : Has Try.prog 8 := ⟨_, Try.func8, rfl, by kernel_rfl⟩
theorem has9 : Has Try.prog 9 := ⟨_, Try.func9, rfl, by kernel_rfl⟩
theorem has10 : Has Try.prog 10 := ⟨_, Try.func10, rfl, by kernel_rfl⟩
theorem has11 : Has Try.prog 11 := ⟨_, Try.func11, rfl, by kernel_rfl⟩
theorem has12 : Has Try.prog 12 := ⟨_, Try.func12, rfl, by kernel_rfl⟩
theorem ItreeOf_any (A_l : Option Addr) (n_l c_l : Nat) (l : List Sp.S) (w : World) (h_l : Ls w A_l n_l c_l Sp.S.c 2 l) (hv : ∀ x ∈ l, It.low ≤ x.t) :
    Calls Try.prog 3 #[.slice A_l n_l c_l] w fun e w' => e = .returned (.bool true) ∧ Ext w w' := by
  have xW := Ext.refl w
  have e_l := h_l.len
  have z_l := h_l.nle
  refine calls_of_WC (args := [.slice A_l n_l c_l]) Try.func3 rfl rfl (ble rfl) ?_
  refine WC.seq (fun K1 k1 => ?_)
  refine WC.region rfl ?_
  refine WL.yld rfl (blt rfl) rfl (Y.assign rfl rfl) ?_
  refine WL.nil ?_
  refine WK.then_normal (k1 _ _ ?_)
  refine WC.sub [(0, _)] ⟨rfl, trivial⟩ ?_
  refine WC.seq (fun K2 k2 => ?_)
  refine WC.seq (fun K3 k3 => ?_)
  refine WC.region rfl ?_
  refine WL.yld rfl (blt rfl) rfl (Y.move rfl rfl) ?_
  refine WL.yld rfl (blt rfl) rfl (Y.lenSl rfl rfl rfl Try.underlying22 rfl) ?_
  refine WL.yld rfl (blt rfl) rfl (Y.gtr rfl rfl rfl) ?_
  refine WL.nil ?_
  refine WK.then_normal (k3 _ _ ?_)
  refine WC.sub [(0, _), (7, _)] ⟨rfl, rfl, trivial⟩ ?_
  refine WC.cond rfl (fun h4 => ?_) (fun h4 => ?_)
  ·
    have p4 := (dec_t h4)
    refine WC.seq (fun K5 k5 => ?_)
    refine WC.region rfl ?_
    refine WL.call rfl (blt rfl) rfl rfl rfl has8 rfl (awake_any _ ) ?_
    rintro _ w6 ⟨rfl, x7⟩
    refine ⟨_, rfl, ?_⟩
    have xW := Ext.trans xW x7
    refine WL.yld rfl (blt rfl) rfl (Y.assign rfl rfl) ?_
    refine WL.nil ?_
    refine WK.then_normal (k5 _ _ ?_)
    refine WC.sub [(2, _)] ⟨rfl, trivial⟩ ?_
    refine WC.ret ?_
    refine WK.then_ret ?_
    clear k1 k2 k3 k5
    refine WK.ret [_] rfl ⟨rfl, trivial⟩ ?_
    exact ⟨ret1 (vb rfl), xW⟩
  ·
    have p4 := (dec_f h4)
    refine WC.skip ?_
    refine WK.then_normal (k2 _ _ ?_)
    refine WC.sub [(0, _)] ⟨rfl, trivial⟩ ?_
    refine WC.seq (fun K8 k8 => ?_)
    refine WC.region rfl ?_
    refine WL.yld rfl (blt rfl) rfl (Y.move rfl rfl) ?_
    refine WL.call rfl (blt rfl) rfl rfl rfl has9 rfl (of_tree _ _ _ _ _ (h_l.ext xW) (by omega)) ?_
    rintro _ w9 ⟨v11, v12, rfl, ow13, ow14, d15, x10⟩
    refine ⟨_, rfl, ?_⟩
    have ow13 := OwnL.base_le ow13 xW.size
    have ow14 := OwnL.base_le ow14 xW.size
    have d_v11_v12 := d15.symm
    have xW := Ext.trans xW x10
    refine WL.yld rfl (blt rfl) rfl (Y.move rfl rfl) ?_
    refine WL.call rfl (blt rfl) rfl rfl rfl has10 rfl (rof_tree _ _ _ _ _ (h_l.ext xW) (by omega)) ?_
    rintro _ w16 ⟨v18, v19, rfl, ow20, ow21, d22, x17⟩
    refine ⟨_, rfl, ?_⟩
    have d_v11_v18 := (Apart.res ow20 ow13).symm
    have d_v12_v18 := (Apart.res ow20 ow14).symm
    have ow20 := OwnL.base_le ow20 xW.size
    have d_v11_v19 := (Apart.res ow21 ow13).symm
    have d_v12_v19 := (Apart.res ow21 ow14).symm
    have ow21 := OwnL.base_le ow21 xW.size
    have d_v18_v19 := d22.symm
    have ow13 := ow13.ext x17
    have ow14 := ow14.ext x17
    have xW := Ext.trans xW x17
    refine WL.alloc rfl (blt rfl) rfl rfl ti26 rfl ?_
    intro g23 w24 e25 x26 m27
    have r_v11_g23 := ne_newO ow13 e25
    have r_v12_g23 := ne_newO ow14 e25
    have r_v18_g23 := ne_newO ow20 e25
    have r_v19_g23 := ne_newO ow21 e25
    have o_g23 := own_new xW e25
    have ow13 := ow13.ext x26
    have ow14 := ow14.ext x26
    have ow20 := ow20.ext x26
    have ow21 := ow21.ext x26
    have xW := Ext.trans xW x26
    refine WL.alloc rfl (blt rfl) rfl rfl ti26 rfl ?_
    intro g28 w29 e30 x31 m32
    have r_v11_g28 := ne_newO ow13 e30
    have r_v12_g28 := ne_newO ow14 e30
    have r_v18_g28 := ne_newO ow20 e30
    have r_v19_g28 := ne_newO ow21 e30
    have n_g23_g28 := ne_new m27 e30
    have o_g28 := own_new xW e30
    have ow13 := ow13.ext x31
    have ow14 := ow14.ext x31
    have ow20 := ow20.ext x31
    have ow21 := ow21.ext x31
    have m27 := m27.ext x31
    have xW := Ext.trans xW x31
    obtain ⟨A33, n34, c35, rfl, hl36⟩ := OwnL.opened ow13 (fun _ => rfl) (by decide)
    have e_n34 := hl36.len
    try simp only [List.length_append, List.length_cons, List.length_nil, List.length_reverse, List.length_drop, List.length_take, List.length_map, List.length_replicate] at e_n34
    have z_n34 := hl36.nle
    obtain ⟨A37, n38, c39, rfl, hl40⟩ := OwnL.opened ow14 (fun _ => rfl) (by decide)
    have e_n38 := hl40.len
    try simp only [List.length_append, List.length_cons, List.length_nil, List.length_reverse, List.length_drop, List.length_take, List.length_map, List.length_replicate] at e_n38
    have z_n38 := hl40.nle
    refine WL.store (cs' := [_, _]) rfl rfl rfl rfl rfl rfl ti26 m27 (ble rfl) rfl rfl (fun w41 on42 m43 => ?_)
    have ow13 := ow13.only r_v11_g23 on42
    have hl36 := OwnL.ls ow13 (fun _ => rfl) (by decide)
    have ow14 := ow14.only r_v12_g23 on42
    have hl40 := OwnL.ls ow14 (fun _ => rfl) (by decide)
    have ow20 := ow20.only r_v18_g23 on42
    have ow21 := ow21.only r_v19_g23 on42
    have m32 := m32.only n_g23_g28.symm on42
    have xW := Ext.only xW on42 o_g23
    obtain ⟨A44, n45, c46, rfl, hl47⟩ := OwnL.opened ow20 (fun _ => rfl) (by decide)
    have e_n45 := hl47.len
    try simp only [List.length_append, List.length_cons, List.length_nil, List.length_reverse, List.length_drop, List.length_take, List.length_map, List.length_replicate] at e_n45
    have z_n45 := hl47.nle
    obtain ⟨A48, n49, c50, rfl, hl51⟩ := OwnL.opened ow21 (fun _ => rfl) (by decide)
    have e_n49 := hl51.len
    try simp only [List.length_append, List.length_cons, List.length_nil, List.length_reverse, List.length_drop, List.length_take, List.length_map, List.length_replicate] at e_n49
    have z_n49 := hl51.nle
    refine WL.store (cs' := [_, _]) rfl rfl rfl rfl rfl rfl ti26 m32 (ble rfl) rfl rfl (fun w52 on53 m54 => ?_)
    have ow13 := ow13.only r_v11_g28 on53
    have hl36 := OwnL.ls ow13 (fun _ => rfl) (by decide)
    have ow14 := ow14.only r_v12_g28 on53
    have hl40 := OwnL.ls ow14 (fun _ => rfl) (by decide)
    have ow20 := ow20.only r_v18_g28 on53
    have hl47 := OwnL.ls ow20 (fun _ => rfl) (by decide)
    have ow21 := ow21.only r_v19_g28 on53
    have hl51 := OwnL.ls ow21 (fun _ => rfl) (by decide)
    have m43 := m43.only n_g23_g28 on53
    have xW := Ext.only xW on53 o_g28
    refine WL.nil ?_
    refine WK.then_normal (k8 _ _ ?_)
    refine WC.sub [(0, _), (3, _), (4, _)] ⟨rfl, rfl, rfl, trivial⟩ ?_
    refine WC.seq (fun K55 k55 => ?_)
    refine WC.region rfl ?_
    refine WL.yld rfl (blt rfl) rfl (Y.fieldAddr rfl Try.underlying26 rfl ti24 (by decide) rfl) ?_
    refine WL.yld rfl (blt rfl) rfl (Y.load1 rfl Try.underlying24 rfl rfl (Blk.at_eq m43 rfl)) ?_
    refine WL.yld rfl (blt rfl) rfl (Y.fieldAddr rfl Try.underlying26 rfl ti24 (by decide) rfl) ?_
    refine WL.yld rfl (blt rfl) rfl (Y.load1 rfl Try.underlying24 rfl rfl (Blk.at_eq m54 rfl)) ?_
    refine WL.call rfl (blt rfl) rfl rfl rfl has11 rfl (same_any _ _ _ _ _ _ _ _ _ hl36 hl47) ?_
    rintro _ w56 ⟨rfl, x57⟩
    refine ⟨_, rfl, ?_⟩
    have ow13 := ow13.ext x57
    have hl36 := hl36.ext x57
    have ow14 := ow14.ext x57
    have hl40 := hl40.ext x57
    have ow20 := ow20.ext x57
    have hl47 := hl47.ext x57
    have ow21 := ow21.ext x57
    have hl51 := hl51.ext x57
    have m43 := m43.ext x57
    have m54 := m54.ext x57
    have xW := Ext.trans xW x57
    refine WL.yld rfl (blt rfl) rfl (Yld.cast (Y.move rfl rfl) (vb (b := true) (decide_eq_true rfl))) ?_
    refine WL.yldW rfl (blt rfl) rfl rfl rfl (Y.fieldAddr rfl Try.underlying26 rfl ti24 (by decide) rfl) ?_
    refine WL.yldW rfl (blt rfl) rfl rfl rfl (Y.load1 rfl Try.underlying24 rfl rfl (Blk.at_eq m43 rfl)) ?_
    refine WL.yldW rfl (blt rfl) rfl rfl rfl (Y.fieldAddr rfl Try.underlying26 rfl ti24 (by decide) rfl) ?_
    refine WL.yldW rfl (blt rfl) rfl rfl rfl (Y.load1 rfl Try.underlying24 rfl rfl (Blk.at_eq m54 rfl)) ?_
    refine WL.callW rfl (blt rfl) rfl rfl rfl rfl rfl has11 rfl (same_any _ _ _ _ _ _ _ _ _ hl40 hl51) ?_
    rintro _ w58 ⟨rfl, x59⟩
    refine ⟨_, rfl, ?_⟩
    have ow13 := ow13.ext x59
    have hl36 := hl36.ext x59
    have ow14 := ow14.ext x59
    have hl40 := hl40.ext x59
    have ow20 := ow20.ext x59
    have hl47 := hl47.ext x59
    have ow21 := ow21.ext x59
    have hl51 := hl51.ext x59
    have m43 := m43.ext x59
    have m54 := m54.ext x59
    have xW := Ext.trans xW x59
    refine WL.yld rfl (blt rfl) rfl (Yld.cast (Y.pickT rfl rfl rfl) (vb (b := true) (decide_eq_true (It.mostR_eq hv).symm))) ?_
    refine WL.yld rfl (blt rfl) rfl (Y.move rfl rfl) ?_
    refine WL.yldW rfl (blt rfl) rfl rfl rfl (Y.move rfl rfl) ?_
    refine WL.yldW rfl (blt rfl) rfl rfl rfl (Y.loadS rfl Try.underlying26 rfl ti26 rfl (Blk.row_eq m43)) ?_
    refine WL.callW rfl (blt rfl) rfl rfl rfl rfl rfl has12 rfl (check_any _ _ _ _ _ _ _ _ _ _ _ _ _ (h_l.ext xW) hl36 hl40 (by omega)) ?_
    rintro _ w60 ⟨rfl, x61⟩
    refine ⟨_, rfl, ?_⟩
    have ow13 := ow13.ext x61
    have hl36 := hl36.ext x61
    have ow14 := ow14.ext x61
    have hl40 := hl40.ext x61
    have ow20 := ow20.ext x61
    have hl47 := hl47.ext x61
    have ow21 := ow21.ext x61
    have hl51 := hl51.ext x61
    have m43 := m43.ext x61
    have m54 := m54.ext x61
    have xW := Ext.trans xW x61
    refine WL.yld rfl (blt rfl) rfl (Yld.cast (Y.pickT rfl rfl rfl) (vb (b := true) (It.chk_self l))) ?_
    refine WL.yld rfl (blt rfl) rfl (Y.move rfl rfl) ?_
    refine WL.callW rfl (blt rfl) rfl rfl rfl rfl rfl has8 rfl (awake_any _ ) ?_
    rintro _ w62 ⟨rfl, x63⟩
    refine ⟨_, rfl, ?_⟩
    have ow13 := ow13.ext x63
    have hl36 := hl36.ext x63
    have ow14 := ow14.ext x63
    have hl40 := hl40.ext x63
    have ow20 := ow20.ext x63
    have hl47 := hl47.ext x63
    have ow21 := ow21.ext x63
    have hl51 := hl51.ext x63
    have m43 := m43.ext x63
    have m54 := m54.ext x63
    have xW := Ext.trans xW x63
    refine WL.yld rfl (blt rfl) rfl (Y.pickT rfl rfl rfl) ?_
    refine WL.yld rfl (blt rfl) rfl (Y.assign rfl rfl) ?_
    refine WL.nil ?_
    refine WK.then_normal (k55 _ _ ?_)
    refine WC.sub [(2, _)] ⟨rfl, trivial⟩ ?_
    refine WC.ret ?_
    clear k1 k2 k3 k8 k55
    refine WK.ret [_] rfl ⟨rfl, trivial⟩ ?_
    exact ⟨ret1 (vb rfl), xW⟩
end LItreeOf
end ItW

end Go.Proofs.Ytbdfhiihaemjhaa
