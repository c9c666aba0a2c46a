/- Increasing lists of ints, by insertion. Conditions: none; nothing here speaks of a program. -/
import Derived.Test.YteaalclidffjgaaDoorList
namespace Go.Eng
open Go
namespace Inc
def put : List Int → Int → List Int
  | [], n => [n]
  | x :: r, n => if n < x then n :: x :: r else if x = n then x :: r else x :: put r n
def puts (l : List Int) : List Int := l.foldl put []
def Rising (l : List Int) : Prop := l.Pairwise (· < ·)
theorem mem_put : ∀ (l : List Int) (n q : Int), q ∈ put l n ↔ q = n ∨ q ∈ l
  | [], n, q => by simp [put]
  | x :: r, n, q => by
    simp only [put]
    split
    · simp
    · split
      · rename_i h; subst h; simp only [List.mem_cons]; constructor
        · intro h; exact .inr h
        · rintro (h | h)
          · exact .inl h
          · exact h
      · simp only [List.mem_cons, mem_put r n q]; constructor
        · rintro (h | h | h)
          · exact .inr (.inl h)
          · exact .inl h
          · exact .inr (.inr h)
        · rintro (h | h | h)
          · exact .inr (.inl h)
          · exact .inl h
          · exact .inr (.inr h)
theorem inc_put : ∀ (l : List Int) (n : Int), Rising l → Rising (put l n)
  | [], n, _ => by simp [put, Rising]
  | x :: r, n, h => by
    have h' := List.pairwise_cons.1 h
    simp only [put]
    split
    · refine List.pairwise_cons.2 ⟨?_, h⟩
      intro a ha
      rcases List.mem_cons.1 ha with rfl | ha
      · assumption
      · have := h'.1 a ha; omega
    · split
      · exact h
      · refine List.pairwise_cons.2 ⟨?_, inc_put r n h'.2⟩
        intro a ha
        rcases (mem_put r n a).1 ha with rfl | ha
        · omega
        · exact h'.1 a ha
theorem foldl_put : ∀ (l acc : List Int), Rising acc → Rising (l.foldl put acc) ∧ ∀ q, q ∈ l.foldl put acc ↔ q ∈ l ∨ q ∈ acc
  | [], acc, h => ⟨h, by simp⟩
  | x :: l, acc, h => by
    have := foldl_put l (put acc x) (inc_put acc x h)
    refine ⟨this.1, fun q => ?_⟩
    rw [List.foldl_cons, this.2 q, mem_put, List.mem_cons]
    constructor
    · rintro (h | h | h)
      · exact .inl (.inr h)
      · exact .inl (.inl h)
      · exact .inr h
    · rintro ((h | h) | h)
      · exact .inr (.inl h)
      · exact .inl h
      · exact .inr (.inr h)
theorem inc_puts (l : List Int) : Rising (puts l) := (foldl_put l [] List.Pairwise.nil).1
theorem mem_puts (l : List Int) (q : Int) : q ∈ puts l ↔ q ∈ l := by rw [puts, (foldl_put l [] List.Pairwise.nil).2 q]; simp
theorem inc_unique : ∀ (l r : List Int), Rising l → Rising r → (∀ q, q ∈ l ↔ q ∈ r) → l = r
  | [], [], _, _, _ => rfl
  | [], y :: r, _, _, h => absurd ((h y).2 (by simp)) (by simp)
  | x :: l, [], _, _, h => absurd ((h x).1 (by simp)) (by simp)
  | x :: l, y :: r, hl, hr, h => by
    have hl' := List.pairwise_cons.1 hl
    have hr' := List.pairwise_cons.1 hr
    have hxy : x = y := by
      rcases List.mem_cons.1 ((h x).1 (by simp)) with e | e
      · exact e
      · rcases List.mem_cons.1 ((h y).2 (by simp)) with e' | e'
        · exact e'.symm
        · have := hr'.1 x e; have := hl'.1 y e'; omega
    subst hxy
    congr 1
    refine inc_unique l r hl'.2 hr'.2 fun q => ?_
    constructor
    · intro hq
      rcases List.mem_cons.1 ((h q).1 (List.mem_cons_of_mem _ hq)) with rfl | e
      · have := hl'.1 q hq; omega
      · exact e
    · intro hq
      rcases List.mem_cons.1 ((h q).2 (List.mem_cons_of_mem _ hq)) with rfl | e
      · have := hr'.1 q hq; omega
      · exact e
def srt (zs : List Int) : List Int := zs.mergeSort fun x y => decide (x ≤ y)
theorem srt_sorted (zs : List Int) : (srt zs).Pairwise (· ≤ ·) := by
  have := List.pairwise_mergeSort (le := fun x y : Int => decide (x ≤ y)) (fun a b c h1 h2 => by simp at *; omega) (fun a b => by simp; omega) zs
  exact this.imp fun h => by simpa using h
theorem srt_mem (zs : List Int) (q : Int) : q ∈ srt zs ↔ q ∈ zs := List.mem_mergeSort
theorem srt_len (zs : List Int) : (srt zs).length = zs.length := List.length_mergeSort ..
theorem srt_eq {zs : List Int} (h : zs.Nodup) : srt zs = puts zs := by
  refine inc_unique _ _ ?_ (inc_puts zs) fun q => by rw [srt_mem, mem_puts]
  have h1 := srt_sorted zs
  have h2 : (srt zs).Nodup := (List.mergeSort_perm zs _).nodup_iff.2 h
  exact h1.imp₂ (fun a b h3 h4 => by omega) h2
theorem put_split (n : Int) : ∀ (p r : List Int), (∀ x ∈ p, x < n) → put (p ++ r) n = p ++ put r n
  | [], r, _ => rfl
  | x :: p, r, h => by
    have hx := h x (by simp)
    simp only [List.cons_append, put]
    rw [if_neg (by omega), if_neg (by omega), put_split n p r fun y hy => h y (List.mem_cons_of_mem _ hy)]
theorem mem_take_bang {l : List Int} {i : Nat} {x : Int} (h : x ∈ l.take i) : ∃ j, j < i ∧ j < l.length ∧ l[j]! = x := by
  obtain ⟨j, hj, rfl⟩ := List.mem_iff_getElem.1 h
  rw [List.length_take] at hj
  exact ⟨j, by omega, by omega, by rw [getElem!_pos l j (by omega), List.getElem_take]⟩
theorem put_at {l : List Int} {n : Int} {i : Nat} (h : ∀ j, j < i → l[j]! < n) : put l n = l.take i ++ put (l.drop i) n := by
  have := put_split n (l.take i) (l.drop i) fun x hx => by
    obtain ⟨j, hj, _, rfl⟩ := mem_take_bang hx
    exact h j hj
  rwa [List.take_append_drop] at this
theorem put_hit {l : List Int} {n : Int} {i : Nat} (h : ∀ j, j < i → l[j]! < n) (hi : i < l.length) (he : l[i]! = n) : put l n = l := by
  rw [put_at h, drop_bang hi, he]
  simp only [put]
  rw [if_neg (by omega)]
  simp only [if_true]
  rw [← he, ← drop_bang hi, List.take_append_drop]
theorem put_miss {l : List Int} {n : Int} {i : Nat} (h : ∀ j, j < i → l[j]! < n) (hi : l.length ≤ i ∨ (¬ l[i]! < n ∧ l[i]! ≠ n)) : put l n = l.take i ++ [n] ++ l.drop i := by
  rw [put_at h]
  by_cases hl : i < l.length
  · rcases hi with hi | hi
    · omega
    · rw [drop_bang hl]
      simp only [put]
      rw [if_pos (by omega)]
      simp
  · rw [List.drop_of_length_le (by omega)]
    simp [put]
theorem put_len (l : List Int) (n : Int) : (put l n).length ≤ l.length + 1 := by
  induction l with
  | nil => simp [put]
  | cons x r ih => simp only [put]; split <;> (try split) <;> simp <;> omega
theorem foldl_put_len (l acc : List Int) : (l.foldl put acc).length ≤ acc.length + l.length := by
  induction l generalizing acc with
  | nil => simp
  | cons x r ih => have := ih (put acc x); have h2 := put_len acc x; simp only [List.foldl_cons, List.length_cons]; omega
theorem inc_at {l : List Int} (h : Rising l) {i j : Nat} (hi : i < j) (hj : j < l.length) : l[i]! < l[j]! := by
  rw [getElem!_pos l i (by omega), getElem!_pos l j hj]
  exact List.pairwise_iff_getElem.1 h i j (by omega) hj hi
theorem has_no {l : List Int} {n : Int} (h : ∀ j, j < l.length → l[j]! ≠ n) : decide (n ∈ l) = false := decide_eq_false fun hm => by
  obtain ⟨j, hj, rfl⟩ := List.mem_iff_getElem.1 hm
  exact h j hj (getElem!_pos l j hj)
theorem has_yes {l : List Int} {n : Int} {j : Nat} (hj : j < l.length) (h : l[j]! = n) : decide (n ∈ l) = true := decide_eq_true (h ▸ bang_mem hj)
end Inc
end Go.Eng
