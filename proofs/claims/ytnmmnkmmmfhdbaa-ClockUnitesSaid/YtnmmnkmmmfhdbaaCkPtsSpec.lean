/- The points of snapshots in plain Lean: an increasing list, by insertion; what sorting and compaction give. Conditions: none. -/
import Derived.Test.YtnmmnkmmmfhdbaaCkSpec
import Derived.Lib.SlicesCompact
namespace Go.Proofs.Ytnmmnkmmmfhdbaa
open Go Go.Eng
namespace Ck
def put : List Int → Int → List Int
  | [], n => [n]
  | x :: r, n => if n < x then n :: x :: r else if x = n then x :: r else x :: put r n
def puts (l : List Int) : List Int := l.foldl put []
def pts (l : List Snap) (id : Int) : List Int := puts (rawPts l id)
def Inc (l : List Int) : Prop := l.Pairwise (· < ·)
theorem mem_put : ∀ (l : List Int) (n q : Int), q ∈ put l n ↔ q = n ∨ q ∈ l
  | [], n, q => by simp [put]
  | x :: r, n, q => by
    simp only [put]
    split
    · simp
    · split
      · rename_i h; subst h; simp only [List.mem_cons]; constructor
        · intro h; exact .inr h
        · rintro (h | h)
          · exact .inl h
          · exact h
      · simp only [List.mem_cons, mem_put r n q]; constructor
        · rintro (h | h | h)
          · exact .inr (.inl h)
          · exact .inl h
          · exact .inr (.inr h)
        · rintro (h | h | h)
          · exact .inr (.inl h)
          · exact .inl h
          · exact .inr (.inr h)
theorem inc_put : ∀ (l : List Int) (n : Int), Inc l → Inc (put l n)
  | [], n, _ => by simp [put, Inc]
  | x :: r, n, h => by
    have h' := List.pairwise_cons.1 h
    simp only [put]
    split
    · refine List.pairwise_cons.2 ⟨?_, h⟩
      intro a ha
      rcases List.mem_cons.1 ha with rfl | ha
      · assumption
      · have := h'.1 a ha; omega
    · split
      · exact h
      · refine List.pairwise_cons.2 ⟨?_, inc_put r n h'.2⟩
        intro a ha
        rcases (mem_put r n a).1 ha with rfl | ha
        · omega
        · exact h'.1 a ha
theorem foldl_put : ∀ (l acc : List Int), Inc acc → Inc (l.foldl put acc) ∧ ∀ q, q ∈ l.foldl put acc ↔ q ∈ l ∨ q ∈ acc
  | [], acc, h => ⟨h, by simp⟩
  | x :: l, acc, h => by
    have := foldl_put l (put acc x) (inc_put acc x h)
    refine ⟨this.1, fun q => ?_⟩
    rw [List.foldl_cons, this.2 q, mem_put, List.mem_cons]
    constructor
    · rintro (h | h | h)
      · exact .inl (.inr h)
      · exact .inl (.inl h)
      · exact .inr h
    · rintro ((h | h) | h)
      · exact .inr (.inl h)
      · exact .inl h
      · exact .inr (.inr h)
theorem inc_puts (l : List Int) : Inc (puts l) := (foldl_put l [] List.Pairwise.nil).1
theorem mem_puts (l : List Int) (q : Int) : q ∈ puts l ↔ q ∈ l := by rw [puts, (foldl_put l [] List.Pairwise.nil).2 q]; simp
theorem inc_unique : ∀ (l r : List Int), Inc l → Inc r → (∀ q, q ∈ l ↔ q ∈ r) → l = r
  | [], [], _, _, _ => rfl
  | [], y :: r, _, _, h => absurd ((h y).2 (by simp)) (by simp)
  | x :: l, [], _, _, h => absurd ((h x).1 (by simp)) (by simp)
  | x :: l, y :: r, hl, hr, h => by
    have hl' := List.pairwise_cons.1 hl
    have hr' := List.pairwise_cons.1 hr
    have hxy : x = y := by
      rcases List.mem_cons.1 ((h x).1 (by simp)) with e | e
      · exact e
      · rcases List.mem_cons.1 ((h y).2 (by simp)) with e' | e'
        · exact e'.symm
        · have := hr'.1 x e; have := hl'.1 y e'; omega
    subst hxy
    congr 1
    refine inc_unique l r hl'.2 hr'.2 fun q => ?_
    constructor
    · intro hq
      rcases List.mem_cons.1 ((h q).1 (List.mem_cons_of_mem _ hq)) with rfl | e
      · have := hl'.1 q hq; omega
      · exact e
    · intro hq
      rcases List.mem_cons.1 ((h q).2 (List.mem_cons_of_mem _ hq)) with rfl | e
      · have := hr'.1 q hq; omega
      · exact e
/-! Sorted, then compacted. -/
theorem sorted_le {d : Array Int} (hs : d.toList.Pairwise (· ≤ ·)) {i j : Nat} (h : i ≤ j) (hj : j < d.size) : d[i]! ≤ d[j]! := by
  rcases Nat.eq_or_lt_of_le h with rfl | h
  · exact Int.le_refl _
  · have := List.pairwise_iff_getElem.1 hs i j (by simp; omega) (by simp; omega) h
    rw [getElem!_pos d i (by omega), getElem!_pos d j hj]
    simpa using this
theorem inc_compact {zs : List Int} (hs : zs.Pairwise (· ≤ ·)) : Inc (Lib.compact zs) := by
  unfold Lib.compact Lib.compactUpTo Inc
  rw [List.pairwise_map, List.pairwise_filter]
  refine List.Pairwise.imp_of_mem ?_ List.pairwise_lt_range
  intro i j hi hj hlt ki kj
  have hj' : j < zs.length := by simpa using hj
  unfold Lib.keeps at kj
  have kj := of_decide_eq_true kj
  have hne : zs.toArray[j]! ≠ zs.toArray[j - 1]! := by
    rcases kj with e | e
    · omega
    · exact e
  have h1 := sorted_le (d := zs.toArray) (by simpa using hs) (show i ≤ j - 1 by omega) (by simp; omega)
  have h2 := sorted_le (d := zs.toArray) (by simpa using hs) (show j - 1 ≤ j by omega) (by simpa using hj')
  omega
theorem mem_compact (zs : List Int) (q : Int) : q ∈ Lib.compact zs ↔ q ∈ zs := by
  unfold Lib.compact Lib.compactUpTo
  rw [List.mem_map]
  constructor
  · rintro ⟨j, hj, rfl⟩
    have hj' : j < zs.length := by simpa using (List.mem_filter.1 hj).1
    rw [getElem!_pos zs.toArray j (by simpa using hj')]
    simp
  · intro hq
    obtain ⟨j, hj, rfl⟩ := List.mem_iff_getElem.1 hq
    have key : ∀ j, (hj : j < zs.length) → ∃ a, a ∈ (List.range zs.length).filter (Lib.keeps zs.toArray) ∧ zs.toArray[a]! = zs[j] := by
      intro j
      induction j with
      | zero => intro hj; exact ⟨0, List.mem_filter.2 ⟨by simpa using hj, by simp [Lib.keeps]⟩, by rw [getElem!_pos zs.toArray 0 (by simpa using hj)]; simp⟩
      | succ j ih =>
        intro hj
        by_cases hk : Lib.keeps zs.toArray (j + 1) = true
        · exact ⟨j + 1, List.mem_filter.2 ⟨by simpa using hj, hk⟩, by rw [getElem!_pos zs.toArray (j + 1) (by simpa using hj)]; simp⟩
        · obtain ⟨a, ha, he⟩ := ih (by omega)
          refine ⟨a, ha, ?_⟩
          rw [he]
          have hk' := of_decide_eq_false (by unfold Lib.keeps at hk; simpa using hk : decide (j + 1 = 0 ∨ zs.toArray[j + 1]! ≠ zs.toArray[j + 1 - 1]!) = false)
          have e : zs.toArray[j + 1]! = zs.toArray[j]! := by
            refine Classical.byContradiction fun hne => hk' (.inr ?_)
            simpa using hne
          rw [getElem!_pos zs.toArray (j + 1) (by simpa using hj), getElem!_pos zs.toArray j (by simp; omega)] at e
          simpa using e.symm
    obtain ⟨a, ha, he⟩ := key j hj
    exact ⟨a, ha, he⟩
def srt (zs : List Int) : List Int := zs.mergeSort fun x y => decide (x ≤ y)
theorem srt_sorted (zs : List Int) : (srt zs).Pairwise (· ≤ ·) := by
  have := List.pairwise_mergeSort (le := fun x y : Int => decide (x ≤ y)) (fun a b c h1 h2 => by simp at *; omega) (fun a b => by simp; omega) zs
  exact this.imp fun h => by simpa using h
theorem srt_mem (zs : List Int) (q : Int) : q ∈ srt zs ↔ q ∈ zs := List.mem_mergeSort
theorem srt_len (zs : List Int) : (srt zs).length = zs.length := List.length_mergeSort ..
theorem compact_srt (zs : List Int) : Lib.compact (srt zs) = puts zs :=
  inc_unique _ _ (inc_compact (srt_sorted zs)) (inc_puts zs) fun q => by rw [mem_compact, srt_mem, mem_puts]
theorem bang_ext {a b : List Int} (hl : a.length = b.length) (h : ∀ j, j < a.length → a[j]! = b[j]!) : a = b := by
  apply List.ext_getElem hl
  intro j h1 h2
  have := h j h1
  rwa [getElem!_pos a j h1, getElem!_pos b j h2] at this
theorem eqL_no {a b : List Int} (h : a.length ≠ b.length) : decide (a = b) = false := decide_eq_false fun e => h (by rw [e])
theorem eqL_at {a b : List Int} {i : Nat} (h : a[i]! ≠ b[i]!) : decide (a = b) = false := decide_eq_false fun e => h (by rw [e])
theorem put_split (n : Int) : ∀ (p r : List Int), (∀ x ∈ p, x < n) → put (p ++ r) n = p ++ put r n
  | [], r, _ => rfl
  | x :: p, r, h => by
    have hx := h x (by simp)
    simp only [List.cons_append, put]
    rw [if_neg (by omega), if_neg (by omega), put_split n p r fun y hy => h y (List.mem_cons_of_mem _ hy)]
theorem mem_take_bang {l : List Int} {i : Nat} {x : Int} (h : x ∈ l.take i) : ∃ j, j < i ∧ j < l.length ∧ l[j]! = x := by
  obtain ⟨j, hj, rfl⟩ := List.mem_iff_getElem.1 h
  rw [List.length_take] at hj
  exact ⟨j, by omega, by omega, by rw [getElem!_pos l j (by omega), List.getElem_take]⟩
theorem put_at {l : List Int} {n : Int} {i : Nat} (h : ∀ j, j < i → l[j]! < n) : put l n = l.take i ++ put (l.drop i) n := by
  have := put_split n (l.take i) (l.drop i) fun x hx => by
    obtain ⟨j, hj, _, rfl⟩ := mem_take_bang hx
    exact h j hj
  rwa [List.take_append_drop] at this
theorem put_hit {l : List Int} {n : Int} {i : Nat} (h : ∀ j, j < i → l[j]! < n) (hi : i < l.length) (he : l[i]! = n) : put l n = l := by
  rw [put_at h, drop_bang hi, he]
  simp only [put]
  rw [if_neg (by omega)]
  simp only [if_true]
  rw [← he, ← drop_bang hi, List.take_append_drop]
theorem put_miss {l : List Int} {n : Int} {i : Nat} (h : ∀ j, j < i → l[j]! < n) (hi : l.length ≤ i ∨ (¬ l[i]! < n ∧ l[i]! ≠ n)) : put l n = l.take i ++ [n] ++ l.drop i := by
  rw [put_at h]
  by_cases hl : i < l.length
  · rcases hi with hi | hi
    · omega
    · rw [drop_bang hl]
      simp only [put]
      rw [if_pos (by omega)]
      simp
  · rw [List.drop_of_length_le (by omega)]
    simp [put]
theorem put_len (l : List Int) (n : Int) : (put l n).length ≤ l.length + 1 := by
  induction l with
  | nil => simp [put]
  | cons x r ih => simp only [put]; split <;> (try split) <;> simp <;> omega
theorem foldl_put_len (l acc : List Int) : (l.foldl put acc).length ≤ acc.length + l.length := by
  induction l generalizing acc with
  | nil => simp
  | cons x r ih => have := ih (put acc x); have h2 := put_len acc x; simp only [List.foldl_cons, List.length_cons]; omega
theorem puts_len (l : List Snap) (id : Int) (i : Nat) : (puts (rawPts (l.take i) id)).length ≤ 3 * i := by
  have h1 := foldl_put_len (rawPts (l.take i) id) []
  have h2 := rawPts_take_len l id i
  simp only [List.length_nil] at h1
  unfold puts; omega
theorem puts_step (l : List Snap) (id : Int) {i : Nat} (h : i < l.length) : puts (rawPts (l.take (i + 1)) id) = (ptsOf l[i]! id).foldl put (puts (rawPts (l.take i) id)) := by
  rw [rawPts_take l id h, puts, List.foldl_append]; rfl
theorem inc_at {l : List Int} (h : Inc l) {i j : Nat} (hi : i < j) (hj : j < l.length) : l[i]! < l[j]! := by
  rw [getElem!_pos l i (by omega), getElem!_pos l j hj]
  exact List.pairwise_iff_getElem.1 h i j (by omega) hj hi
theorem inc_pts (l : List Snap) (id : Int) {i j : Nat} (hi : i < j) (hj : j < (pts l id).length) : (pts l id)[i]! < (pts l id)[j]! := inc_at (inc_puts _) hi hj
theorem has_no {l : List Int} {n : Int} (h : ∀ j, j < l.length → l[j]! ≠ n) : decide (n ∈ l) = false := decide_eq_false fun hm => by
  obtain ⟨j, hj, rfl⟩ := List.mem_iff_getElem.1 hm
  exact h j hj (getElem!_pos l j hj)
theorem has_yes {l : List Int} {n : Int} {j : Nat} (hj : j < l.length) (h : l[j]! = n) : decide (n ∈ l) = true := decide_eq_true (h ▸ bang_mem hj)
theorem pts_len (l : List Snap) (id : Int) : (pts l id).length ≤ 3 * l.length := by
  have h1 := foldl_put_len (rawPts l id) []
  have h2 := rawPts_len l id
  simp only [List.length_nil] at h1
  unfold pts puts; omega
theorem mem_pts (l : List Snap) (id q : Int) : q ∈ pts l id ↔ q ∈ rawPts l id := mem_puts _ q
theorem raw_app (a b : List Snap) (id q : Int) : q ∈ rawPts (([] ++ a) ++ b) id ↔ q ∈ rawPts a id ∨ q ∈ rawPts b id := by
  simp only [rawPts, List.nil_append, List.flatMap_append, List.mem_append]
theorem in_left {a b : List Snap} {id q : Int} (h : q ∈ pts a id) : q ∈ pts (([] ++ a) ++ b) id := by
  rw [mem_pts] at h ⊢; exact (raw_app a b id q).2 (.inl h)
theorem in_right {a b : List Snap} {id q : Int} (h : q ∈ pts b id) : q ∈ pts (([] ++ a) ++ b) id := by
  rw [mem_pts] at h ⊢; exact (raw_app a b id q).2 (.inr h)
theorem unite1 {a b : List Snap} {id q : Int} (h : q ∈ pts (([] ++ a) ++ b) id) (hc : (!decide (q ∈ pts a id) && !decide (q ∈ pts b id)) = true) : False := by
  have h1 := of_decide_eq_false (not_t (and_t hc).1)
  have h2 := of_decide_eq_false (not_t (and_t hc).2)
  rw [mem_pts] at h h1 h2
  rcases (raw_app a b id q).1 h with h | h
  · exact h1 h
  · exact h2 h
end Ck
end Go.Proofs.Ytnmmnkmmmfhdbaa
