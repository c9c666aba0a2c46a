/- The reference's columns are the sorted, compacted ones. Conditions: none. -/
import Derived.Test.YtklccakoblibmaaSxPut
namespace Go.Proofs.Ytklccakoblibmaa
open Go Go.Eng
set_option linter.unusedSimpArgs false
namespace Sx
theorem l_tr {a b c : List UInt8} (h : a < b) (h2 : b < c) : a < c := List.lt_trans h h2
theorem l_anti {a b : List UInt8} (h : ¬ a < b) (h2 : ¬ b < a) : a = b := List.le_antisymm (List.not_lt.1 h2) (List.not_lt.1 h)
theorem l_lt_of {a b : List UInt8} (h : a ≤ b) (h2 : a ≠ b) : a < b := Classical.byContradiction fun q => h2 (List.le_antisymm h (List.not_lt.1 q))
theorem l_le_lt {a b c : List UInt8} (h : a ≤ b) (h2 : b < c) : a < c := List.lt_of_le_of_lt h h2
theorem l_lt_asym {a b : List UInt8} (h : a < b) (h2 : b < a) : False := List.lt_irrefl a (l_tr h h2)
def Ris (l : List (List UInt8)) : Prop := l.Pairwise (· < ·)
theorem ris_unique : ∀ (l r : List (List UInt8)), Ris l → Ris r → (∀ q, q ∈ l ↔ q ∈ r) → l = r
  | [], [], _, _, _ => rfl
  | [], y :: r, _, _, h => absurd ((h y).2 (by simp)) (by simp)
  | x :: l, [], _, _, h => absurd ((h x).1 (by simp)) (by simp)
  | x :: l, y :: r, hl, hr, h => by
    have hl' := List.pairwise_cons.1 hl
    have hr' := List.pairwise_cons.1 hr
    have hxy : x = y := by
      rcases List.mem_cons.1 ((h x).1 (by simp)) with e | e
      · exact e
      · rcases List.mem_cons.1 ((h y).2 (by simp)) with e' | e'
        · exact e'.symm
        · exact (l_lt_asym (hr'.1 x e) (hl'.1 y e')).elim
    subst hxy
    congr 1
    refine ris_unique l r hl'.2 hr'.2 fun q => ?_
    constructor
    · intro hq
      rcases List.mem_cons.1 ((h q).1 (List.mem_cons_of_mem _ hq)) with rfl | e
      · exact absurd (hl'.1 q hq) (List.lt_irrefl _)
      · exact e
    · intro hq
      rcases List.mem_cons.1 ((h q).2 (List.mem_cons_of_mem _ hq)) with rfl | e
      · exact absurd (hr'.1 q hq) (List.lt_irrefl _)
      · exact e
theorem sortedS_le {d : Array (List UInt8)} (hs : d.toList.Pairwise (· ≤ ·)) {i j : Nat} (h : i ≤ j) (hj : j < d.size) : d[i]! ≤ d[j]! := by
  rcases Nat.eq_or_lt_of_le h with rfl | h
  · exact List.le_refl _
  · have := List.pairwise_iff_getElem.1 hs i j (by simp; omega) (by simp; omega) h
    rw [getElem!_pos d i (by omega), getElem!_pos d j hj]
    simpa using this
theorem ris_compact {zs : List (List UInt8)} (hs : zs.Pairwise (· ≤ ·)) : Ris (Lib.compact zs) := by
  unfold Lib.compact Lib.compactUpTo Ris
  rw [List.pairwise_map, List.pairwise_filter]
  refine List.Pairwise.imp_of_mem ?_ List.pairwise_lt_range
  intro i j hi hj hlt ki kj
  have hj' : j < zs.length := by simpa using hj
  unfold Lib.keeps at kj
  have kj := of_decide_eq_true kj
  have hne : zs.toArray[j]! ≠ zs.toArray[j - 1]! := by
    rcases kj with e | e
    · omega
    · exact e
  have h1 := sortedS_le (d := zs.toArray) (by simpa using hs) (show i ≤ j - 1 by omega) (by simp; omega)
  have h2 := sortedS_le (d := zs.toArray) (by simpa using hs) (show j - 1 ≤ j by omega) (by simpa using hj')
  exact l_le_lt h1 (l_lt_of h2 fun e => hne e.symm)
theorem memS_compact (zs : List (List UInt8)) (q : List UInt8) : q ∈ Lib.compact zs ↔ q ∈ zs := by
  unfold Lib.compact Lib.compactUpTo
  rw [List.mem_map]
  constructor
  · rintro ⟨j, hj, rfl⟩
    have hj' : j < zs.length := by simpa using (List.mem_filter.1 hj).1
    rw [getElem!_pos zs.toArray j (by simpa using hj')]
    simp
  · intro hq
    obtain ⟨j, hj, rfl⟩ := List.mem_iff_getElem.1 hq
    have key : ∀ j, (hj : j < zs.length) → ∃ a, a ∈ (List.range zs.length).filter (Lib.keeps zs.toArray) ∧ zs.toArray[a]! = zs[j] := by
      intro j
      induction j with
      | zero => intro hj; exact ⟨0, List.mem_filter.2 ⟨by simpa using hj, by simp [Lib.keeps]⟩, by rw [getElem!_pos zs.toArray 0 (by simpa using hj)]; simp⟩
      | succ j ih =>
        intro hj
        by_cases hk : Lib.keeps zs.toArray (j + 1) = true
        · exact ⟨j + 1, List.mem_filter.2 ⟨by simpa using hj, hk⟩, by rw [getElem!_pos zs.toArray (j + 1) (by simpa using hj)]; simp⟩
        · obtain ⟨a, ha, he⟩ := ih (by omega)
          refine ⟨a, ha, ?_⟩
          rw [he]
          have hk' := of_decide_eq_false (by unfold Lib.keeps at hk; simpa using hk : decide (j + 1 = 0 ∨ zs.toArray[j + 1]! ≠ zs.toArray[j + 1 - 1]!) = false)
          have e : zs.toArray[j + 1]! = zs.toArray[j]! := by
            refine Classical.byContradiction fun hne => hk' (.inr ?_)
            simpa using hne
          rw [getElem!_pos zs.toArray (j + 1) (by simpa using hj), getElem!_pos zs.toArray j (by simp; omega)] at e
          simpa using e.symm
    obtain ⟨a, ha, he⟩ := key j hj
    exact ⟨a, ha, he⟩
theorem lt_iff {a b : ByteArray} : Y.lt a b = true ↔ a.data.toList < b.data.toList := by
  unfold Y.lt
  rw [Go.Proofs.bytesLess_eq, Lib.toList_data, Lib.toList_data, decide_eq_true_eq]
theorem data_inj {a b : ByteArray} (h : a.data.toList = b.data.toList) : a = b := by
  cases a; cases b
  simp only [ByteArray.mk.injEq]
  exact Array.toList_inj.1 h
theorem mem_toL {l : List ByteArray} {s : ByteArray} : s.data.toList ∈ toL l ↔ s ∈ l := by
  unfold toL
  rw [List.mem_map]
  exact ⟨fun ⟨a, h, e⟩ => data_inj e ▸ h, fun h => ⟨s, h, rfl⟩⟩
theorem mem_putL {s q : ByteArray} : ∀ {l : List ByteArray}, q ∈ putL s l ↔ q = s ∨ q ∈ l
  | [] => by simp [putL]
  | x :: r => by
    rw [putL]
    split
    · rw [List.mem_cons, mem_putL (l := r), List.mem_cons]
      exact ⟨fun h => h.elim (fun h => .inr (.inl h)) fun h => h.elim .inl fun h => .inr (.inr h), fun h => h.elim (fun h => .inr (.inl h)) fun h => h.elim .inl fun h => .inr (.inr h)⟩
    · rw [List.mem_cons, List.mem_filter]
      constructor
      · rintro (h | h)
        · exact .inl h
        · exact .inr h.1
      · rintro (h | h)
        · exact .inl h
        · by_cases e : q = s
          · exact .inl e
          · refine .inr ⟨h, ?_⟩
            rw [beqB_ne.2 e]; rfl
theorem ris_putL {s : ByteArray} : ∀ {l : List ByteArray}, Ris (toL l) → Ris (toL (putL s l))
  | [], _ => by simp [putL, toL, Ris]
  | x :: r, h => by
    have h' := List.pairwise_cons.1 (show ((x.data.toList) :: toL r).Pairwise (· < ·) from h)
    rw [putL]
    split
    · rename_i hlt
      refine List.pairwise_cons.2 ⟨fun y hy => ?_, ris_putL (l := r) h'.2⟩
      obtain ⟨z, hz, rfl⟩ := List.mem_map.1 hy
      rcases mem_putL.1 hz with rfl | hz
      · exact lt_iff.1 hlt
      · exact h'.1 _ (mem_toL.2 hz)
    · rename_i hlt
      refine List.pairwise_cons.2 ⟨fun y hy => ?_, ?_⟩
      · obtain ⟨z, hz, rfl⟩ := List.mem_map.1 hy
        obtain ⟨hz, hne⟩ := List.mem_filter.1 hz
        have hne : z ≠ s := by
          rintro rfl
          rw [beqB_self] at hne; cases hne
        have h1 : ¬ x.data.toList < s.data.toList := fun q => hlt (lt_iff.2 q)
        refine Classical.byContradiction fun q => hne (data_inj (l_anti (fun z1 => ?_) q))
        rcases List.mem_cons.1 hz with rfl | hz
        · exact h1 z1
        · exact h1 (l_tr (h'.1 _ (mem_toL.2 hz)) z1)
      · exact List.Pairwise.sublist (List.Sublist.map _ List.filter_sublist) h
theorem putA_ris : ∀ (t u : List ByteArray), Ris (toL u) → Ris (toL (putA u t)) ∧ ∀ q, q ∈ putA u t ↔ q ∈ t ∨ q ∈ u
  | [], u, h => ⟨h, fun q => by simp [putA]⟩
  | s :: t, u, h => by
    obtain ⟨h1, h2⟩ := putA_ris t (putL s u) (ris_putL h)
    refine ⟨h1, fun q => ?_⟩
    rw [show putA u (s :: t) = putA (putL s u) t from rfl, h2, mem_putL, List.mem_cons]
    exact ⟨fun h => h.elim (fun h => .inl (.inr h)) fun h => h.elim (fun h => .inl (.inl h)) .inr, fun h => h.elim (fun h => h.elim (fun h => .inr (.inl h)) .inl) fun h => .inr (.inr h)⟩
theorem cmp_srt (l : List ByteArray) : Ris (toL (cmpS (srtS l))) ∧ ∀ q, q ∈ cmpS (srtS l) ↔ q ∈ l := by
  have hs : ((toL l).mergeSort fun x y => decide (x ≤ y)).Pairwise (· ≤ ·) := by
    have := List.pairwise_mergeSort (le := fun x y : List UInt8 => decide (x ≤ y)) (fun a b c h1 h2 => by simp only [decide_eq_true_eq] at *; exact List.le_trans h1 h2) (fun a b => by simp only [Bool.or_eq_true, decide_eq_true_eq]; exact List.le_total a b) (toL l)
    exact this.imp fun h => by simpa using h
  unfold cmpS srtS
  rw [to_of, to_of]
  refine ⟨ris_compact hs, fun q => ?_⟩
  rw [← mem_toL, to_of, memS_compact, List.mem_mergeSort, mem_toL]
theorem putA_cmp (l : List ByteArray) : putA [] l = cmpS (srtS l) := by
  obtain ⟨h1, h2⟩ := putA_ris l [] List.Pairwise.nil
  obtain ⟨h3, h4⟩ := cmp_srt l
  rw [← of_to (putA [] l), ← of_to (cmpS (srtS l))]
  refine congrArg ofL (ris_unique _ _ h1 h3 fun q => ?_)
  have hq : q = (⟨q.toArray⟩ : ByteArray).data.toList := rfl
  rw [hq, mem_toL, mem_toL, h2, h4]
  simp
def colP (x : E) : List ByteArray := if exE x ≠ 0 then [] else putA [] (flds x)
theorem colP_no {x : E} (h : ¬ exE x = 0) : colP x = [] := by unfold colP; rw [if_pos h]
theorem colP_ok {x : E} (h : exE x = 0) : colP x = putA [] (flds x) := by unfold colP; rw [if_neg (by rw [h]; simp)]
theorem colP_eq (x : E) : colP x = colR x := by unfold colP colR; rw [putA_cmp]
end Sx
end Go.Proofs.Ytklccakoblibmaa
