/- Sorted lists of ints, compacted. Conditions: none; nothing here speaks of a program. -/
import Derived.Test.YteaalclidffjgaaDoorInc
import Derived.Lib.SlicesCompact
namespace Go.Eng
open Go
namespace Inc
theorem sorted_le {d : Array Int} (hs : d.toList.Pairwise (· ≤ ·)) {i j : Nat} (h : i ≤ j) (hj : j < d.size) : d[i]! ≤ d[j]! := by
  rcases Nat.eq_or_lt_of_le h with rfl | h
  · exact Int.le_refl _
  · have := List.pairwise_iff_getElem.1 hs i j (by simp; omega) (by simp; omega) h
    rw [getElem!_pos d i (by omega), getElem!_pos d j hj]
    simpa using this
theorem inc_compact {zs : List Int} (hs : zs.Pairwise (· ≤ ·)) : Rising (Lib.compact zs) := by
  unfold Lib.compact Lib.compactUpTo Rising
  rw [List.pairwise_map, List.pairwise_filter]
  refine List.Pairwise.imp_of_mem ?_ List.pairwise_lt_range
  intro i j hi hj hlt ki kj
  have hj' : j < zs.length := by simpa using hj
  unfold Lib.keeps at kj
  have kj := of_decide_eq_true kj
  have hne : zs.toArray[j]! ≠ zs.toArray[j - 1]! := by
    rcases kj with e | e
    · omega
    · exact e
  have h1 := sorted_le (d := zs.toArray) (by simpa using hs) (show i ≤ j - 1 by omega) (by simp; omega)
  have h2 := sorted_le (d := zs.toArray) (by simpa using hs) (show j - 1 ≤ j by omega) (by simpa using hj')
  omega
theorem mem_compact (zs : List Int) (q : Int) : q ∈ Lib.compact zs ↔ q ∈ zs := by
  unfold Lib.compact Lib.compactUpTo
  rw [List.mem_map]
  constructor
  · rintro ⟨j, hj, rfl⟩
    have hj' : j < zs.length := by simpa using (List.mem_filter.1 hj).1
    rw [getElem!_pos zs.toArray j (by simpa using hj')]
    simp
  · intro hq
    obtain ⟨j, hj, rfl⟩ := List.mem_iff_getElem.1 hq
    have key : ∀ j, (hj : j < zs.length) → ∃ a, a ∈ (List.range zs.length).filter (Lib.keeps zs.toArray) ∧ zs.toArray[a]! = zs[j] := by
      intro j
      induction j with
      | zero => intro hj; exact ⟨0, List.mem_filter.2 ⟨by simpa using hj, by simp [Lib.keeps]⟩, by rw [getElem!_pos zs.toArray 0 (by simpa using hj)]; simp⟩
      | succ j ih =>
        intro hj
        by_cases hk : Lib.keeps zs.toArray (j + 1) = true
        · exact ⟨j + 1, List.mem_filter.2 ⟨by simpa using hj, hk⟩, by rw [getElem!_pos zs.toArray (j + 1) (by simpa using hj)]; simp⟩
        · obtain ⟨a, ha, he⟩ := ih (by omega)
          refine ⟨a, ha, ?_⟩
          rw [he]
          have hk' := of_decide_eq_false (by unfold Lib.keeps at hk; simpa using hk : decide (j + 1 = 0 ∨ zs.toArray[j + 1]! ≠ zs.toArray[j + 1 - 1]!) = false)
          have e : zs.toArray[j + 1]! = zs.toArray[j]! := by
            refine Classical.byContradiction fun hne => hk' (.inr ?_)
            simpa using hne
          rw [getElem!_pos zs.toArray (j + 1) (by simpa using hj), getElem!_pos zs.toArray j (by simp; omega)] at e
          simpa using e.symm
    obtain ⟨a, ha, he⟩ := key j hj
    exact ⟨a, ha, he⟩
theorem compact_srt (zs : List Int) : Lib.compact (srt zs) = puts zs :=
  inc_unique _ _ (inc_compact (srt_sorted zs)) (inc_puts zs) fun q => by rw [mem_compact, srt_mem, mem_puts]
end Inc
end Go.Eng
