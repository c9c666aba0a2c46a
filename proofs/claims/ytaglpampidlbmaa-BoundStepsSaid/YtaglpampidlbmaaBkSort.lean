/- The library's sort and compaction of ints, from the kit's shelf, for a row of the call's own. Conditions: what each theorem states. -/
import Derived.Test.YtaglpampidlbmaaBkLay
import Derived.Test.YtaglpampidlbmaaCkM1
import Derived.Shelf.Sort.Plain
import Derived.Shelf.Slices.In.SortNone
import Derived.Shelf.Slices.CompactI
import Derived.Sort.OwnSortedInts
namespace Go.Proofs.Ytaglpampidlbmaa
open Go Go.Shelf Go.RowKit Go.Lib Go.Sort Go.Proofs Go.Eng
theorem flat_ic (l : List Int) : l.flatMap Ck.ic = l.map (Value.int .i64) := by
  induction l with
  | nil => rfl
  | cons x r ih => simp [Ck.ic, ih]
theorem sort_row (v : Value) (base : Nat) (l : List Int) (w : World) (ow : OwnL w base 3 Ck.ic 1 v l) (hl : l.length ≤ 100000) : Calls Try.prog 48 #[v] w fun e w' => e = .returned (.tuple #[]) ∧ OwnL w' base 3 Ck.ic 1 v (Ck.srt l) ∧ Gr w w' v.ownBlock := by
  have hs : Ck.srt l = l.mergeSort fun x y => decide (x ≤ y) := rfl
  have hlen := Ck.srt_len l
  have ow0 := ow
  rcases ow.2 with ⟨rfl, h0⟩ | ⟨g, cap, cur, rfl, h1, h2, h3, h4, h5, h6⟩
  · refine (Any.slices_Sort_int_none Try.lays189 none 0 w).mono fun e w' ⟨he, hw⟩ => ?_
    subst hw
    have hn : l = [] := List.eq_nil_of_length_eq_zero h0
    subst hn
    exact ⟨he, by rw [show Ck.srt [] = [] from by unfold Ck.srt; simp]; exact ow0, Gr.refl _ _⟩
  · have h6' : cur.toList.take l.length = l.map (Value.int .i64) := by rw [← flat_ic, ← h6, Nat.mul_one]
    have hg : g < w.heap.size := (Array.getElem?_eq_some_iff.1 h2).1
    refine (Any.slices_Sort_int Try.lays189 g 0 cap l w (holds_of_blockI h2 h6') hg (by omega)).mono fun e w' hw => ?_
    obtain ⟨he, n, os, rfl⟩ := hw
    refine ⟨he, ?_, ⟨grownBy_sortedI _, Dle.of (Nat.le_add_right _ _)⟩⟩
    have := ownsRow_sortedI (w := w) (n := n) (os := os) (base := base) (ss := l) (ts := Ck.srt l) hlen h1 h2 h3 h4 (by rw [h5])
    unfold OwnL
    rw [flat_ic, hlen]
    exact this
theorem compact_le (l : List Int) : (Lib.compact l).length ≤ l.length := by
  unfold Lib.compact Lib.compactUpTo
  rw [List.length_map]
  exact Nat.le_trans (List.length_filter_le _ _) (by simp)
theorem compact_row (v : Value) (base : Nat) (l : List Int) (w : World) (ow : OwnL w base 3 Ck.ic 1 v l) (hl : l.length ≤ 100000) : Calls Try.prog 64 #[v] w fun e w' => ∃ v', e = .returned v' ∧ OwnL w' base 3 Ck.ic 1 v' (Lib.compact l) ∧ Gr w w' v.ownBlock ∧ v'.ownBlock = v.ownBlock := by
  have ow0 := ow
  by_cases hn : l = []
  · subst hn
    have hc : Lib.compact ([] : List Int) = [] := rfl
    rcases ow.2 with ⟨rfl, h0⟩ | ⟨g, cap, cur, rfl, h1, h2, h3, h4, h5, h6⟩
    · refine (Any.slices_Compact_int_empty Try.lays2_20 none 0 w).mono fun e w' ⟨he, hw⟩ => ?_
      subst hw
      exact ⟨_, he, by rw [hc]; exact ow0, Gr.refl _ _, rfl⟩
    · refine (Any.slices_Compact_int_empty Try.lays2_20 (some ⟨g, 0, none⟩) cap w).mono fun e w' ⟨he, hw⟩ => ?_
      subst hw
      exact ⟨_, he, by rw [hc]; exact ow0, Gr.refl _ _, rfl⟩
  · have hp : 0 < l.length := List.length_pos_iff.2 hn
    rcases ow.2 with ⟨rfl, h0⟩ | ⟨g, cap, cur, rfl, h1, h2, h3, h4, h5, h6⟩
    · omega
    · have h6' : cur.toList.take l.length = l.map (Value.int .i64) := by rw [← flat_ic, ← h6, Nat.mul_one]
      have hle := compact_le l
      refine (Any.slices_Compact_int Try.lays2_20 g 0 cap l w (holds_of_blockI h2 h6') (by omega) h3).mono fun e w' hw => ?_
      obtain ⟨he, n, hw⟩ := hw
      have hts : (Lib.compact l ++ List.replicate (l.length - (Lib.compact l).length) 0).length = l.length := by simp; omega
      have hg := grownBy_sortedI (w := w) (g := g) (n := n) (os := #[]) (Lib.compact l ++ List.replicate (l.length - (Lib.compact l).length) 0).toArray
      have ho := ownsRow_sortedI (w := w) (os := #[]) (n := n) (base := base) (ss := l) (ts := Lib.compact l ++ List.replicate (l.length - (Lib.compact l).length) 0) hts h1 h2 h3 h4 (by rw [h5])
      rw [grow_empty, ← hw] at hg ho
      refine ⟨_, he, ?_, ⟨hg, trivial⟩, rfl⟩
      have ho' := ho.2
      rcases ho' with ⟨hv, _⟩ | ⟨g', cap', cur', hv, e1, e2, e3, e4, e5, e6⟩
      · cases hv
      · cases hv
        refine ⟨by rw [flat_ic]; simp, .inr ⟨g, cap, cur', rfl, e1, e2, Nat.le_trans hle e3, e4, e5, ?_⟩⟩
        rw [flat_ic, Nat.mul_one]
        rw [Nat.mul_one] at e6
        have : cur'.toList.take (Lib.compact l).length = (cur'.toList.take l.length).take (Lib.compact l).length := by rw [List.take_take, Nat.min_eq_left hle]
        rw [this, e6, ← List.map_take, List.take_left]
end Go.Proofs.Ytaglpampidlbmaa
