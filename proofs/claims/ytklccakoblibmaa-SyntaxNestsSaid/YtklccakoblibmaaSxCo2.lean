/- Contracts: columns, sorted. Conditions: what each theorem states. -/
import Derived.Test.YtklccakoblibmaaSxCol
import Derived.Test.YtklccakoblibmaaSxSort
namespace Go.Proofs.Ytklccakoblibmaa
open Go Go.Eng Go.RowKit
set_option linter.unusedVariables false
set_option linter.unusedSimpArgs false
namespace SxW
open B C D E G S T U V W X
namespace Y
theorem ti28 : TI Try.prog 28 (.agg #[.int .i64 0, .string ⟨#[]⟩, .int .i64 0, .int .i64 0, .string ⟨#[]⟩, .slice none 0 0]) 6 80 := TI.mk (by kernel_rfl)
theorem has11 : Has Try.prog 11 := ⟨_, Try.func11, rfl, by kernel_rfl⟩
theorem has31 : Has Try.prog 31 := ⟨_, Try.func31, rfl, by kernel_rfl⟩
theorem has32 : Has Try.prog 32 := ⟨_, Try.func32, rfl, by kernel_rfl⟩
theorem has33 : Has Try.prog 33 := ⟨_, Try.func33, rfl, by kernel_rfl⟩
theorem columnsE_any (d_x : Nat) (x : Sx.E) (w : World) (g_x : Sx.Good d_x w x) (sh_x : Sx.short x = true) (hc_x : Sx.cnt x ≤ 300) :
    Calls Try.prog 14 #[.agg #[.int .i64 x.op, .string x.nm, .int .i64 x.vk, .int .i64 x.vn, .string x.vs, .slice x.A x.n x.c]] w fun e w' => ∃ v, e = .returned v ∧ OwnL w' w.heap.size 9 Sx.sc 1 v (Sx.colR x) ∧ Ext w w' := by
  have xW := Ext.refl w
  have h_x := g_x.ls
  have e_x := h_x.len
  have z_x := h_x.nle
  refine calls_of_WC (args := [.agg #[.int .i64 x.op, .string x.nm, .int .i64 x.vk, .int .i64 x.vn, .string x.vs, .slice x.A x.n x.c]]) Try.func14 rfl rfl (ble rfl) ?_
  refine WC.seq (fun K1 k1 => ?_)
  refine WC.region rfl ?_
  refine WL.box rfl (blt rfl) rfl rfl rfl rfl ?_
  intro g2 w3 e4 x5 m6
  have o_g2 := own_new xW e4
  have xW := Ext.trans xW x5
  refine WL.yld rfl (blt rfl) rfl (Y.assign rfl rfl) ?_
  refine WL.nil ?_
  refine WK.then_normal (k1 _ _ ?_)
  refine WC.sub [(1, _)] ⟨rfl, trivial⟩ ?_
  refine WC.seq (fun K7 k7 => ?_)
  refine WC.seq (fun K8 k8 => ?_)
  refine WC.region rfl ?_
  refine WL.yld rfl (blt rfl) rfl (Y.loadS rfl Try.underlying28 rfl ti28 rfl (Blk.row_eq m6)) ?_
  refine WL.call rfl (blt rfl) rfl rfl rfl has11 rfl (expr_any _ _ _ (g_x.ext xW) sh_x hc_x) ?_
  rintro _ w9 ⟨rfl, x10⟩
  refine ⟨_, rfl, ?_⟩
  have m6 := m6.ext x10
  have xW := Ext.trans xW x10
  refine WL.yld rfl (blt rfl) rfl (Y.neq rfl rfl rfl) ?_
  refine WL.nil ?_
  refine WK.then_normal (k8 _ _ ?_)
  refine WC.sub [(1, _), (6, _)] ⟨rfl, rfl, trivial⟩ ?_
  refine WC.cond rfl (fun h11 => ?_) (fun h11 => ?_)
  ·
    have p11 := (eq_f (not_t h11))
    refine WC.seq (fun K12 k12 => ?_)
    refine WC.region rfl ?_
    refine WL.yld rfl (blt rfl) rfl (Y.assign rfl rfl) ?_
    refine WL.nil ?_
    refine WK.then_normal (k12 _ _ ?_)
    refine WC.sub [(2, _)] ⟨rfl, trivial⟩ ?_
    refine WC.ret ?_
    refine WK.then_ret ?_
    clear k1 k7 k8 k12
    refine WK.ret [_] rfl ⟨rfl, trivial⟩ ?_
    exact ⟨_, rfl, (by rw [Sx.colR_no (by have q := h11; simp only [Bool.and_eq_true, Bool.or_eq_true, Bool.not_eq_true', Bool.and_eq_false_iff, Bool.or_eq_false_iff, Bool.not_eq_false', decide_eq_true_eq, decide_eq_false_iff_not, beq_iff_eq, beq_eq_false_iff_ne, ne_eq] at q; exact q)]; exact OwnL.nil_), xW⟩
  ·
    have p11 := (eq_t (not_f h11))
    refine WC.skip ?_
    refine WK.then_normal (k7 _ _ ?_)
    refine WC.sub [(1, _)] ⟨rfl, trivial⟩ ?_
    refine WC.seq (fun K13 k13 => ?_)
    refine WC.region rfl ?_
    refine WL.yld rfl (blt rfl) rfl (Y.loadS rfl Try.underlying28 rfl ti28 rfl (Blk.row_eq m6)) ?_
    refine WL.call rfl (blt rfl) rfl rfl rfl has31 rfl (fields_any w _ _ _ _ _ g_x hc_x xW OwnL.nil_ (by rw [List.length_nil]; omega)) ?_
    rintro _ w14 ⟨v16, rfl, ow17, x15⟩
    refine ⟨_, rfl, ?_⟩
    have xW := x15
    refine WL.yld rfl (blt rfl) rfl (Y.assign rfl rfl) ?_
    refine WL.nil ?_
    refine WK.then_normal (k13 _ _ ?_)
    refine WC.sub [(3, _)] ⟨rfl, trivial⟩ ?_
    refine WC.seq (fun K18 k18 => ?_)
    refine WC.region rfl ?_
    refine WL.yld rfl (blt rfl) rfl (Y.move rfl rfl) ?_
    refine WL.call rfl (blt rfl) rfl rfl rfl has32 rfl (sortS_row _ _ _ _ ow17 (by have q := Sx.flds_cnt x; simp only [List.nil_append]; omega)) ?_
    rintro _ w19 ⟨rfl, ow21, gr22⟩
    refine ⟨_, rfl, ?_⟩
    have xW := Ext.grown xW gr22 (fun b hb => (OwnL.lt ow17 hb).1)
    refine WL.nil ?_
    refine WK.then_normal (k18 _ _ ?_)
    refine WC.sub [(3, _)] ⟨rfl, trivial⟩ ?_
    refine WC.seq (fun K23 k23 => ?_)
    refine WC.region rfl ?_
    refine WL.yld rfl (blt rfl) rfl (Y.move rfl rfl) ?_
    refine WL.call rfl (blt rfl) rfl rfl rfl has33 rfl (compactS_row _ _ _ _ ow21 (by have q := Sx.flds_cnt x; rw [Sx.srt_len']; simp only [List.nil_append]; omega)) ?_
    rintro _ w24 ⟨v28, rfl, ow26, gr27, nb29⟩
    refine ⟨_, rfl, ?_⟩
    have xW := Ext.grown xW gr27 (fun b hb => (OwnL.lt ow21 hb).1)
    refine WL.yld rfl (blt rfl) rfl (Y.assign rfl rfl) ?_
    refine WL.nil ?_
    refine WK.then_normal (k23 _ _ ?_)
    refine WC.sub [(2, _)] ⟨rfl, trivial⟩ ?_
    refine WC.ret ?_
    clear k1 k7 k8 k13 k18 k23
    refine WK.ret [_] rfl ⟨rfl, trivial⟩ ?_
    have q := ow26
    rw [List.nil_append] at q
    exact ⟨_, rfl, (by rw [Sx.colR_ok (by have q := h11; simp only [Bool.and_eq_true, Bool.or_eq_true, Bool.not_eq_true', Bool.and_eq_false_iff, Bool.or_eq_false_iff, Bool.not_eq_false', decide_eq_true_eq, decide_eq_false_iff_not, beq_iff_eq, beq_eq_false_iff_ne, ne_eq] at q; exact q)]; exact q), xW⟩
end Y
end SxW

end Go.Proofs.Ytklccakoblibmaa
