/- slices.Sort and slices.Compact of texts: rows of the call's own. Conditions: what each theorem states. -/
import Derived.Test.YtklccakoblibmaaSxLay
import Derived.Test.YtklccakoblibmaaSxFld
import Derived.Sort.OwnSorted
namespace Go.Proofs.Ytklccakoblibmaa
open Go Go.Shelf Go.RowKit Go.Lib Go.Sort Go.Proofs Go.Eng
set_option linter.unusedSimpArgs false
namespace Sx
def toL (l : List ByteArray) : List (List UInt8) := l.map fun s => s.data.toList
def ofL (l : List (List UInt8)) : List ByteArray := l.map fun s => ⟨s.toArray⟩
theorem of_to (l : List ByteArray) : ofL (toL l) = l := by
  unfold ofL toL
  rw [List.map_map]
  conv => rhs; rw [← List.map_id l]
  exact List.map_congr_left fun s _ => by cases s; rfl
theorem to_of (l : List (List UInt8)) : toL (ofL l) = l := by
  unfold ofL toL
  rw [List.map_map]
  conv => rhs; rw [← List.map_id l]
  exact List.map_congr_left fun s _ => rfl
theorem toL_len (l : List ByteArray) : (toL l).length = l.length := List.length_map _
def srtS (l : List ByteArray) : List ByteArray := ofL ((toL l).mergeSort fun x y => decide (x ≤ y))
theorem flat_sc (l : List ByteArray) : l.flatMap sc = (toL l).map encStr := by
  induction l with
  | nil => rfl
  | cons x r ih => rw [List.flatMap_cons, ih]; rfl
theorem srt_len' (l : List ByteArray) : (srtS l).length = l.length := by
  unfold srtS ofL
  rw [List.length_map, List.length_mergeSort, toL_len]
end Sx
theorem sortS_row (v : Value) (base : Nat) (l : List ByteArray) (w : World) (ow : OwnL w base 9 Sx.sc 1 v l) (hl : l.length ≤ 200000) : Calls Try.prog 32 #[v] w fun e w' => e = .returned (.tuple #[]) ∧ OwnL w' base 9 Sx.sc 1 v (Sx.srtS l) ∧ Gr w w' v.ownBlock := by
  have hlen := Sx.srt_len' l
  have ow0 := ow
  have ht := Sx.toL_len l
  rcases ow.2 with ⟨rfl, h0⟩ | ⟨g, cap, cur, rfl, h1, h2, h3, h4, h5, h6⟩
  · refine (Any.slices_Sort_string_none Try.lays190 none 0 w).mono fun e w' ⟨he, hw⟩ => ?_
    subst hw
    have hn : l = [] := List.eq_nil_of_length_eq_zero h0
    subst hn
    exact ⟨he, by rw [show Sx.srtS [] = [] from by unfold Sx.srtS Sx.toL Sx.ofL; simp]; exact ow0, Gr.refl _ _⟩
  · have h6' : cur.toList.take (Sx.toL l).length = (Sx.toL l).map encStr := by rw [← Sx.flat_sc, ht, ← h6, Nat.mul_one]
    have hg : g < w.heap.size := (Array.getElem?_eq_some_iff.1 h2).1
    have hc := Any.slices_Sort_string Try.lays190 g 0 cap (Sx.toL l) w (holds_of_block h2 h6') hg (by omega)
    rw [ht] at hc
    refine hc.mono fun e w' hw => ?_
    obtain ⟨he, n, os, rfl⟩ := hw
    refine ⟨he, ?_, ⟨grownBy_sorted _, Dle.of (Nat.le_add_right _ _)⟩⟩
    have hts : ((Sx.toL l).mergeSort fun x y => decide (x ≤ y)).length = (Sx.toL l).length := List.length_mergeSort _
    have := ownsRow_sorted (w := w) (n := n) (os := os) (base := base) (ss := Sx.toL l) (ts := (Sx.toL l).mergeSort fun x y => decide (x ≤ y)) hts h1 h2 (by omega) h4 (by rw [h5])
    unfold OwnL
    rw [Sx.flat_sc, hlen, show Sx.toL (Sx.srtS l) = _ from Sx.to_of _, ← ht]
    exact this
theorem compact_leS (l : List (List UInt8)) : (Lib.compact l).length ≤ l.length := by
  unfold Lib.compact Lib.compactUpTo
  rw [List.length_map]
  exact Nat.le_trans (List.length_filter_le _ _) (by simp)
namespace Sx
def cmpS (l : List ByteArray) : List ByteArray := ofL (Lib.compact (toL l))
end Sx
theorem compactS_row (v : Value) (base : Nat) (l : List ByteArray) (w : World) (ow : OwnL w base 9 Sx.sc 1 v l) (hl : l.length ≤ 200000) : Calls Try.prog 33 #[v] w fun e w' => ∃ v', e = .returned v' ∧ OwnL w' base 9 Sx.sc 1 v' (Sx.cmpS l) ∧ Gr w w' v.ownBlock ∧ v'.ownBlock = v.ownBlock := by
  have ow0 := ow
  have ht := Sx.toL_len l
  by_cases hn : l = []
  · subst hn
    have hc : Sx.cmpS ([] : List ByteArray) = [] := rfl
    rcases ow.2 with ⟨rfl, h0⟩ | ⟨g, cap, cur, rfl, h1, h2, h3, h4, h5, h6⟩
    · refine (Any.slices_Compact_string_empty Try.lays194 none 0 w).mono fun e w' ⟨he, hw⟩ => ?_
      subst hw
      exact ⟨_, he, by rw [hc]; exact ow0, Gr.refl _ _, rfl⟩
    · refine (Any.slices_Compact_string_empty Try.lays194 (some ⟨g, 0, none⟩) cap w).mono fun e w' ⟨he, hw⟩ => ?_
      subst hw
      exact ⟨_, he, by rw [hc]; exact ow0, Gr.refl _ _, rfl⟩
  · have hp : 0 < l.length := List.length_pos_iff.2 hn
    rcases ow.2 with ⟨rfl, h0⟩ | ⟨g, cap, cur, rfl, h1, h2, h3, h4, h5, h6⟩
    · omega
    · have h6' : cur.toList.take (Sx.toL l).length = (Sx.toL l).map encStr := by rw [← Sx.flat_sc, ht, ← h6, Nat.mul_one]
      have hle := compact_leS (Sx.toL l)
      have hc := Any.slices_Compact_string Try.lays194 g 0 cap (Sx.toL l) w (holds_of_block h2 h6') (by omega) (by omega)
      rw [ht] at hc
      refine hc.mono fun e w' hw => ?_
      obtain ⟨he, n, hw⟩ := hw
      have hts : (Lib.compact (Sx.toL l) ++ List.replicate (l.length - (Lib.compact (Sx.toL l)).length) []).length = (Sx.toL l).length := by simp; omega
      have hg := grownBy_sorted (w := w) (g := g) (n := n) (os := #[]) (Lib.compact (Sx.toL l) ++ List.replicate (l.length - (Lib.compact (Sx.toL l)).length) []).toArray
      have ho := ownsRow_sorted (w := w) (os := #[]) (n := n) (base := base) (ss := Sx.toL l) (ts := Lib.compact (Sx.toL l) ++ List.replicate (l.length - (Lib.compact (Sx.toL l)).length) []) hts h1 h2 (by omega) h4 (by rw [h5])
      rw [grow_empty, ← hw] at hg ho
      refine ⟨_, he, ?_, ⟨hg, trivial⟩, rfl⟩
      have ho' := ho.2
      have hcl : (Sx.cmpS l).length = (Lib.compact (Sx.toL l)).length := by unfold Sx.cmpS Sx.ofL; rw [List.length_map]
      rcases ho' with ⟨hv, _⟩ | ⟨g', cap', cur', hv, e1, e2, e3, e4, e5, e6⟩
      · cases hv
      · cases hv
        unfold OwnL
        rw [Sx.flat_sc, hcl, show Sx.toL (Sx.cmpS l) = _ from Sx.to_of _]
        refine ⟨by simp, .inr ⟨g, cap, cur', rfl, e1, e2, Nat.le_trans hle (by omega), e4, e5, ?_⟩⟩
        rw [Nat.mul_one]
        rw [Nat.mul_one] at e6
        have : cur'.toList.take (Lib.compact (Sx.toL l)).length = (cur'.toList.take (Sx.toL l).length).take (Lib.compact (Sx.toL l)).length := by rw [List.take_take, Nat.min_eq_left hle]
        rw [this, e6, ← List.map_take, List.take_left]
namespace Sx
def colR (x : E) : List ByteArray := if exE x ≠ 0 then [] else cmpS (srtS (flds x))
theorem colR_no {x : E} (h : ¬ exE x = 0) : colR x = [] := by unfold colR; rw [if_pos h]
theorem colR_ok {x : E} (h : exE x = 0) : colR x = cmpS (srtS (flds x)) := by unfold colR; rw [if_neg (by rw [h]; simp)]
end Sx
end Go.Proofs.Ytklccakoblibmaa
