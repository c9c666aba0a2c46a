/- slices.Values, slices.AppendSeq, slices.Sort: rows of the call's own. Conditions: what each theorem states. -/
import Derived.Test.YteaalclidffjgaaDoorNqApp
import Derived.Test.YteaalclidffjgaaDoorNqTab
import Derived.Test.YteaalclidffjgaaDoorIncC
import Derived.Sort.OwnSortedInts
import Derived.Shelf.Slices.In.SortNone
namespace Go.Proofs.YteaalclidffjgaaDoor
open Go Go.Shelf Go.RowKit Go.Lib Go.Sort Go.Proofs Go.Eng
namespace Sp
def ic (x : Int) : List Value := [.int .i64 x]
theorem ic_one (x : Int) : ∀ u ∈ ic x, u.oneCell' = true := by simp [ic, Value.oneCell']
end Sp
theorem flat_ic (l : List Int) : l.flatMap Sp.ic = l.map (Value.int .i64) := by
  induction l with
  | nil => rfl
  | cons x r ih => simp [Sp.ic, ih]
theorem values_any (A : Option Addr) (n c : Nat) (w : World) : Calls Tryd.prog 31 #[.slice A n c] w fun e w' => ∃ g, e = .returned (.func (.func 41) #[] #[.pointer (some ⟨g, 0, none⟩)]) ∧ Blk w' g 30 [.slice A n c] ∧ w.heap.size ≤ g ∧ Ext w w' :=
  ((callsIn_wide (n := 2)).1 (NqV.values Fence.wide 2 trivial rfl A n c w)).mono fun e w' ⟨he, hw⟩ => ⟨_, he, by subst hw; exact Blk.new w 30 _, Nat.le_refl _, by subst hw; exact (Ext.refl w).alloc _⟩
theorem appendSeq_any (g : Nat) (A : Option Addr) (n c : Nat) (l : List Int) (w : World) (hb : Blk w g 30 [.slice A n c]) (hL : Ls w A n c Sp.ic 1 l) (hn : l.length ≤ 100000) :
    Calls Tryd.prog 47 #[.slice none 0 0, .func (.func 41) #[] #[.pointer (some ⟨g, 0, none⟩)]] w fun e w' => ∃ v, e = .returned v ∧ OwnL w' w.heap.size 3 Sp.ic 1 v l ∧ Ext w w' := by
  have hlen := hL.len
  subst hlen
  have hI : NqV.Ints w.heap.size w (.slice A l.length c) l := by
    cases l with
    | nil => exact .inl ⟨⟨A, c, rfl⟩, rfl⟩
    | cons x r =>
      obtain ⟨ad, hA, _, hlt, _⟩ := hL.rd 0 x rfl
      subst hA
      refine .inr ⟨ad, c, rfl, hlt, fun j hj => ?_⟩
      have hx := List.getElem?_eq_getElem hj
      obtain ⟨ad', he, _, _, hc⟩ := hL.rd j _ hx
      injection he with he
      subst he
      have := hc 0 (.int .i64 (x :: r)[j]) rfl
      rw [Nat.mul_one, Nat.add_zero] at this
      rw [this, hx]; rfl
  refine ((callsIn_wide (n := 3)).1 (NqV.appendSeq Fence.wide 3 trivial trivial rfl (by omega) g _ l (Nat.le_trans hn (by decide)) (by omega) w hb.lt (hb.cell rfl) hI)).mono fun e w' ⟨v, he, hr, hb⟩ => ⟨v, he, ?_, Ext.of hb⟩
  unfold OwnL
  rw [flat_ic]
  exact hr
theorem sort_row (v : Value) (base : Nat) (l : List Int) (w : World) (ow : OwnL w base 3 Sp.ic 1 v l) (hl : l.length ≤ 200000) : Calls Tryd.prog 40 #[v] w fun e w' => e = .returned (.tuple #[]) ∧ OwnL w' base 3 Sp.ic 1 v (Inc.srt l) ∧ Gr w w' v.ownBlock := by
  have hlen := Inc.srt_len l
  have ow0 := ow
  rcases ow.2 with ⟨rfl, h0⟩ | ⟨g, cap, cur, rfl, h1, h2, h3, h4, h5, h6⟩
  · refine (Any.slices_Sort_int_none Tryd.lays189 none 0 w).mono fun e w' ⟨he, hw⟩ => ?_
    subst hw
    have hn : l = [] := List.eq_nil_of_length_eq_zero h0
    subst hn
    exact ⟨he, by rw [show Inc.srt [] = [] from by unfold Inc.srt; simp]; exact ow0, Gr.refl _ _⟩
  · have h6' : cur.toList.take l.length = l.map (Value.int .i64) := by rw [← flat_ic, ← h6, Nat.mul_one]
    have hg : g < w.heap.size := (Array.getElem?_eq_some_iff.1 h2).1
    refine (Any.slices_Sort_int Tryd.lays189 g 0 cap l w (holds_of_blockI h2 h6') hg (by omega)).mono fun e w' hw => ?_
    obtain ⟨he, n, os, rfl⟩ := hw
    refine ⟨he, ?_, ⟨grownBy_sortedI _, Dle.of (Nat.le_add_right _ _)⟩⟩
    have := ownsRow_sortedI (w := w) (n := n) (os := os) (base := base) (ss := l) (ts := Inc.srt l) hlen h1 h2 h3 h4 (by rw [h5])
    unfold OwnL
    rw [flat_ic, hlen]
    exact this
end Go.Proofs.YteaalclidffjgaaDoor
