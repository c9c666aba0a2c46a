/- What package clock's functions compute, in plain terms.
   The points of snapshots in plain Lean: an increasing list, by insertion; what sorting and compaction give. Conditions: none.
   Linked domains in plain terms. Conditions: none. -/
import Derived.Test.YtaglpampidlbmaaMix
import Derived.Test.YtaglpampidlbmaaRowL
import Derived.Lib.SlicesCompact
namespace Go.Proofs.Ytaglpampidlbmaa
open Go Go.Eng
theorem not_f_ne {a b : Int} (h : (!(a == b)) = false) : (a == b) = true := not_f h
theorem ne_f_of {a b : Int} (h : (!(a == b)) = true) : (a == b) = false := not_t h
theorem zz_t {a b : Int} (h : (!(a == 0) || !(b == 0)) = true) : (a == 0 && b == 0) = false := by cases h1 : a == 0 <;> cases h2 : b == 0 <;> simp_all
theorem zz_f {a b : Int} (h : (!(a == 0) || !(b == 0)) = false) : (a == 0 && b == 0) = true := by cases h1 : a == 0 <;> cases h2 : b == 0 <;> simp_all
namespace Ck
theorem few_eq {a b : Nat} : (decide ((a : Int) ≤ 20) && decide ((b : Int) ≤ 250)) = (decide (a ≤ 20) && decide (b ≤ 250)) := by
  congr 1 <;> (apply decide_eq_decide.2; omega)
structure Dom where
  id : Int
  ppm : Int
structure Snap where
  a : Int
  ata : Int
  b : Int
  lo : Int
  hi : Int
instance : Inhabited Dom := ⟨⟨0, 0⟩⟩
instance : Inhabited Snap := ⟨⟨0, 0, 0, 0, 0⟩⟩
def Dom.c (x : Dom) : List Value := [.int .i64 x.id, .int .i64 x.ppm]
def Snap.c (x : Snap) : List Value := [.int .i64 x.a, .int .i64 x.ata, .int .i64 x.b, .int .i64 x.lo, .int .i64 x.hi]
def ic (x : Int) : List Value := [.int .i64 x]
theorem Dom.one (x : Dom) : ∀ u ∈ x.c, u.oneCell' = true := by simp [Dom.c, Value.oneCell']
theorem Snap.one (x : Snap) : ∀ u ∈ x.c, u.oneCell' = true := by simp [Snap.c, Value.oneCell']
theorem ic_one (x : Int) : ∀ u ∈ ic x, u.oneCell' = true := by simp [ic, Value.oneCell']
/-- The place of the first domain of this identifier, or -1. -/
def idx : List Dom → Int → Nat → Int
  | [], _, _ => -1
  | x :: r, i, k => if x.id == i then (k : Int) else idx r i (k + 1)
def readB (n : Int) : Bool := decide (0 ≤ n) && decide (n ≤ 1000000000000)
def badDom (x : Dom) : Bool := decide (x.id < 0) || decide (8 ≤ x.id) || decide (x.ppm < 0) || decide (10000 < x.ppm)
def doms (d : List Dom) : List Dom → Nat → Int
  | [], _ => 0
  | x :: r, i => if badDom x then 2 else if 0 ≤ idx (d.take i) x.id 0 then 4 else doms d r (i + 1)
def snapF (d : List Dom) (x : Snap) : Int :=
  if decide (idx d x.a 0 < 0) || decide (idx d x.b 0 < 0) then 5 else if x.a == x.b then 1
  else if !readB x.ata || !readB x.lo || !readB x.hi || decide (x.hi < x.lo) then 2 else 0
def snaps (d : List Dom) : List Snap → Int
  | [] => 0
  | x :: r => if snapF d x == 0 then snaps d r else snapF d x
def checkF (d : List Dom) (l : List Snap) : Int :=
  if d.length = 0 then 8 else if 8 < d.length ∨ 200 < l.length then 7 else if d[0]!.id == 0 && d[0]!.ppm == 0 then
    (if doms d d 0 == 0 then snaps d l else doms d d 0) else 10
def ppmF (d : List Dom) (id : Int) : Int × Bool :=
  if checkF d [] == 0 && decide (0 ≤ idx d id 0) then (d[(idx d id 0).toNat]!.ppm, true) else (0, false)
theorem idx_lt : ∀ (d : List Dom) (i : Int) (k : Nat), -1 ≤ idx d i k ∧ (0 ≤ idx d i k → (k : Int) ≤ idx d i k ∧ idx d i k < k + d.length)
  | [], i, k => by simp [idx]
  | x :: r, i, k => by
    have h := idx_lt r i (k + 1)
    simp only [idx]
    split
    · simp; omega
    · simp only [List.length_cons] at *; omega
theorem idx_append : ∀ (l r : List Dom) (i : Int) (k : Nat), idx (l ++ r) i k = if 0 ≤ idx l i k then idx l i k else idx r i (k + l.length)
  | [], r, i, k => by simp [idx]
  | x :: l, r, i, k => by
    simp only [List.cons_append, idx, List.length_cons]
    by_cases h : (x.id == i) = true
    · simp only [h, if_true]; rw [if_pos (by omega)]
    · simp only [h, if_false, Bool.false_eq_true]
      rw [idx_append l r i (k + 1), show k + 1 + l.length = k + (l.length + 1) from by omega]
/-- The first place of an identifier lies ahead of i just if the domains ahead of i have it. -/
theorem idx_ahead (d : List Dom) (i : Nat) (hi : i < d.length) : (idx d d[i]!.id 0 < (i : Int)) ↔ 0 ≤ idx (d.take i) d[i]!.id 0 := by
  have hs : d = d.take i ++ d[i]! :: d.drop (i + 1) := by rw [← drop_bang hi, List.take_append_drop]
  have hl : (d.take i).length = i := by rw [List.length_take]; omega
  have h1 := idx_lt (d.take i) d[i]!.id 0
  have e : idx d d[i]!.id 0 = if 0 ≤ idx (d.take i) d[i]!.id 0 then idx (d.take i) d[i]!.id 0 else (i : Int) := by
    have := idx_append (d.take i) (d[i]! :: d.drop (i + 1)) d[i]!.id 0
    rw [← hs] at this
    rw [this, hl]
    have e2 : idx (d[i]! :: d.drop (i + 1)) d[i]!.id (0 + i) = (i : Int) := by simp only [idx, beq_self_eq_true, if_true, Nat.zero_add]
    rw [e2]
  rw [e]
  by_cases h : 0 ≤ idx (d.take i) d[i]!.id 0
  · rw [if_pos h]; constructor
    · intro _; exact h
    · intro _; have := h1.2 h; omega
  · rw [if_neg h]; constructor
    · intro q; omega
    · intro q; exact absurd q h
theorem ppm_no {α : Type} {c i : Int} {x y : α} (h : (!(c == 0) || decide (i < 0)) = true) : (if (c == 0 && decide (0 ≤ i)) = true then x else y) = y := by
  have : (c == 0 && decide (0 ≤ i)) = false := by
    cases hc : c == 0 with
    | false => rfl
    | true => simp only [hc, Bool.not_true, Bool.false_or, decide_eq_true_eq] at h; simp only [Bool.true_and, decide_eq_false_iff_not]; omega
  rw [this]; rfl
theorem ppm_yes {α : Type} {c i : Int} {x y : α} (h : (!(c == 0) || decide (i < 0)) = false) : (if (c == 0 && decide (0 ≤ i)) = true then x else y) = x := by
  have : (c == 0 && decide (0 ≤ i)) = true := by
    cases hc : c == 0 with
    | false => simp [hc] at h
    | true => simp only [hc, Bool.not_true, Bool.false_or, decide_eq_false_iff_not] at h; simp only [Bool.true_and, decide_eq_true_eq]; omega
  rw [this]; rfl
def ptsOf (x : Snap) (id : Int) : List Int := (if x.a == id then [x.ata] else []) ++ if x.b == id then [x.lo, x.hi] else []
def rawPts (l : List Snap) (id : Int) : List Int := l.flatMap (ptsOf · id)
theorem ptsOf_len (x : Snap) (id : Int) : (ptsOf x id).length ≤ 3 := by unfold ptsOf; split <;> split <;> simp
theorem rawPts_len : ∀ (l : List Snap) (id : Int), (rawPts l id).length ≤ 3 * l.length
  | [], _ => by simp [rawPts]
  | x :: r, id => by
    have h := rawPts_len r id
    have h2 := ptsOf_len x id
    simp only [rawPts, List.flatMap_cons, List.length_append, List.length_cons] at *; omega
theorem rawPts_take_len (l : List Snap) (id : Int) (i : Nat) : (rawPts (l.take i) id).length ≤ 3 * i := by
  have := rawPts_len (l.take i) id
  rw [List.length_take] at this; omega
theorem rawPts_take (l : List Snap) (id : Int) {i : Nat} (h : i < l.length) : rawPts (l.take (i + 1)) id = rawPts (l.take i) id ++ ptsOf l[i]! id := by
  rw [take_bang h]; simp only [rawPts, List.flatMap_append, List.flatMap_cons, List.flatMap_nil, List.append_nil]
theorem doms_zero {d : List Dom} : ∀ (k : Nat), k ≤ d.length → doms d (d.drop k) k = 0 → ∀ i, k ≤ i → i < d.length → ¬ 0 ≤ idx (d.take i) d[i]!.id 0
  | k, hk, h, i, hki, hi => by
    have hlt : k < d.length := by omega
    rw [drop_bang hlt] at h
    simp only [doms] at h
    split at h
    · cases h
    · split at h
      · cases h
      · rename_i h1 h2
        rcases Nat.eq_or_lt_of_le hki with e | e
        · subst e; exact h2
        · exact doms_zero (k + 1) hlt h i e hi
  termination_by k => d.length - k
theorem doms_of_check {d : List Dom} {l : List Snap} (h : checkF d l = 0) : doms d d 0 = 0 := by
  unfold checkF at h
  split at h
  · cases h
  · split at h
    · cases h
    · split at h
      · split at h
        · rename_i h4; simpa using h4
        · rename_i h4; exact absurd (by simpa using h) h4
      · cases h
theorem idx_hit (d : List Dom) (i : Nat) (hi : i < d.length) : idx d d[i]!.id 0 ≤ (i : Int) ∧ 0 ≤ idx d d[i]!.id 0 := by
  have hs : d = d.take i ++ d[i]! :: d.drop (i + 1) := by rw [← drop_bang hi, List.take_append_drop]
  have hl : (d.take i).length = i := by rw [List.length_take]; omega
  have h1 := idx_lt (d.take i) d[i]!.id 0
  have := idx_append (d.take i) (d[i]! :: d.drop (i + 1)) d[i]!.id 0
  rw [← hs] at this
  rw [this, hl]
  have e2 : idx (d[i]! :: d.drop (i + 1)) d[i]!.id (0 + i) = (i : Int) := by simp only [idx, beq_self_eq_true, if_true, Nat.zero_add]
  rw [e2]
  split
  · rename_i h; have := h1.2 h; omega
  · omega
theorem ppm_at {d : List Dom} {i : Nat} (h : checkF d [] = 0) (hi : i < d.length) : ppmF d d[i]!.id = (d[i]!.ppm, true) := by
  have h1 := doms_zero 0 (Nat.zero_le _) (by rw [List.drop_zero]; exact doms_of_check h) i (Nat.zero_le _) hi
  have h2 := idx_hit d i hi
  have h3 : ¬ idx d d[i]!.id 0 < (i : Int) := fun q => h1 ((idx_ahead d i hi).1 q)
  have e : idx d d[i]!.id 0 = (i : Int) := by omega
  unfold ppmF
  rw [h, e]
  simp
theorem Dom.of : ∀ cs, okAll [.int .i64, .int .i64] cs → ∃ x, cs = Dom.c x ∧ True := fun cs h => by
  obtain ⟨v0, v1, rfl, ⟨a, rfl, _⟩, ⟨b, rfl, _⟩⟩ := okAll_2 h
  exact ⟨⟨a, b⟩, rfl, trivial⟩
theorem Snap.of : ∀ cs, okAll [.int .i64, .int .i64, .int .i64, .int .i64, .int .i64] cs → ∃ x, cs = Snap.c x ∧ True := fun cs h => by
  obtain ⟨v0, v1, v2, v3, v4, rfl, ⟨a, rfl, _⟩, ⟨b, rfl, _⟩, ⟨c, rfl, _⟩, ⟨d, rfl, _⟩, ⟨e, rfl, _⟩⟩ := okAll_5 h
  exact ⟨⟨a, b, c, d, e⟩, rfl, trivial⟩
end Ck
end Go.Proofs.Ytaglpampidlbmaa

namespace Go.Proofs.Ytaglpampidlbmaa
open Go Go.Eng
namespace Ck
def put : List Int → Int → List Int
  | [], n => [n]
  | x :: r, n => if n < x then n :: x :: r else if x = n then x :: r else x :: put r n
def puts (l : List Int) : List Int := l.foldl put []
def pts (l : List Snap) (id : Int) : List Int := puts (rawPts l id)
def Inc (l : List Int) : Prop := l.Pairwise (· < ·)
theorem mem_put : ∀ (l : List Int) (n q : Int), q ∈ put l n ↔ q = n ∨ q ∈ l
  | [], n, q => by simp [put]
  | x :: r, n, q => by
    simp only [put]
    split
    · simp
    · split
      · rename_i h; subst h; simp only [List.mem_cons]; constructor
        · intro h; exact .inr h
        · rintro (h | h)
          · exact .inl h
          · exact h
      · simp only [List.mem_cons, mem_put r n q]; constructor
        · rintro (h | h | h)
          · exact .inr (.inl h)
          · exact .inl h
          · exact .inr (.inr h)
        · rintro (h | h | h)
          · exact .inr (.inl h)
          · exact .inl h
          · exact .inr (.inr h)
theorem inc_put : ∀ (l : List Int) (n : Int), Inc l → Inc (put l n)
  | [], n, _ => by simp [put, Inc]
  | x :: r, n, h => by
    have h' := List.pairwise_cons.1 h
    simp only [put]
    split
    · refine List.pairwise_cons.2 ⟨?_, h⟩
      intro a ha
      rcases List.mem_cons.1 ha with rfl | ha
      · assumption
      · have := h'.1 a ha; omega
    · split
      · exact h
      · refine List.pairwise_cons.2 ⟨?_, inc_put r n h'.2⟩
        intro a ha
        rcases (mem_put r n a).1 ha with rfl | ha
        · omega
        · exact h'.1 a ha
theorem foldl_put : ∀ (l acc : List Int), Inc acc → Inc (l.foldl put acc) ∧ ∀ q, q ∈ l.foldl put acc ↔ q ∈ l ∨ q ∈ acc
  | [], acc, h => ⟨h, by simp⟩
  | x :: l, acc, h => by
    have := foldl_put l (put acc x) (inc_put acc x h)
    refine ⟨this.1, fun q => ?_⟩
    rw [List.foldl_cons, this.2 q, mem_put, List.mem_cons]
    constructor
    · rintro (h | h | h)
      · exact .inl (.inr h)
      · exact .inl (.inl h)
      · exact .inr h
    · rintro ((h | h) | h)
      · exact .inr (.inl h)
      · exact .inl h
      · exact .inr (.inr h)
theorem inc_puts (l : List Int) : Inc (puts l) := (foldl_put l [] List.Pairwise.nil).1
theorem mem_puts (l : List Int) (q : Int) : q ∈ puts l ↔ q ∈ l := by rw [puts, (foldl_put l [] List.Pairwise.nil).2 q]; simp
theorem inc_unique : ∀ (l r : List Int), Inc l → Inc r → (∀ q, q ∈ l ↔ q ∈ r) → l = r
  | [], [], _, _, _ => rfl
  | [], y :: r, _, _, h => absurd ((h y).2 (by simp)) (by simp)
  | x :: l, [], _, _, h => absurd ((h x).1 (by simp)) (by simp)
  | x :: l, y :: r, hl, hr, h => by
    have hl' := List.pairwise_cons.1 hl
    have hr' := List.pairwise_cons.1 hr
    have hxy : x = y := by
      rcases List.mem_cons.1 ((h x).1 (by simp)) with e | e
      · exact e
      · rcases List.mem_cons.1 ((h y).2 (by simp)) with e' | e'
        · exact e'.symm
        · have := hr'.1 x e; have := hl'.1 y e'; omega
    subst hxy
    congr 1
    refine inc_unique l r hl'.2 hr'.2 fun q => ?_
    constructor
    · intro hq
      rcases List.mem_cons.1 ((h q).1 (List.mem_cons_of_mem _ hq)) with rfl | e
      · have := hl'.1 q hq; omega
      · exact e
    · intro hq
      rcases List.mem_cons.1 ((h q).2 (List.mem_cons_of_mem _ hq)) with rfl | e
      · have := hr'.1 q hq; omega
      · exact e
/-! Sorted, then compacted. -/
theorem sorted_le {d : Array Int} (hs : d.toList.Pairwise (· ≤ ·)) {i j : Nat} (h : i ≤ j) (hj : j < d.size) : d[i]! ≤ d[j]! := by
  rcases Nat.eq_or_lt_of_le h with rfl | h
  · exact Int.le_refl _
  · have := List.pairwise_iff_getElem.1 hs i j (by simp; omega) (by simp; omega) h
    rw [getElem!_pos d i (by omega), getElem!_pos d j hj]
    simpa using this
theorem inc_compact {zs : List Int} (hs : zs.Pairwise (· ≤ ·)) : Inc (Lib.compact zs) := by
  unfold Lib.compact Lib.compactUpTo Inc
  rw [List.pairwise_map, List.pairwise_filter]
  refine List.Pairwise.imp_of_mem ?_ List.pairwise_lt_range
  intro i j hi hj hlt ki kj
  have hj' : j < zs.length := by simpa using hj
  unfold Lib.keeps at kj
  have kj := of_decide_eq_true kj
  have hne : zs.toArray[j]! ≠ zs.toArray[j - 1]! := by
    rcases kj with e | e
    · omega
    · exact e
  have h1 := sorted_le (d := zs.toArray) (by simpa using hs) (show i ≤ j - 1 by omega) (by simp; omega)
  have h2 := sorted_le (d := zs.toArray) (by simpa using hs) (show j - 1 ≤ j by omega) (by simpa using hj')
  omega
theorem mem_compact (zs : List Int) (q : Int) : q ∈ Lib.compact zs ↔ q ∈ zs := by
  unfold Lib.compact Lib.compactUpTo
  rw [List.mem_map]
  constructor
  · rintro ⟨j, hj, rfl⟩
    have hj' : j < zs.length := by simpa using (List.mem_filter.1 hj).1
    rw [getElem!_pos zs.toArray j (by simpa using hj')]
    simp
  · intro hq
    obtain ⟨j, hj, rfl⟩ := List.mem_iff_getElem.1 hq
    have key : ∀ j, (hj : j < zs.length) → ∃ a, a ∈ (List.range zs.length).filter (Lib.keeps zs.toArray) ∧ zs.toArray[a]! = zs[j] := by
      intro j
      induction j with
      | zero => intro hj; exact ⟨0, List.mem_filter.2 ⟨by simpa using hj, by simp [Lib.keeps]⟩, by rw [getElem!_pos zs.toArray 0 (by simpa using hj)]; simp⟩
      | succ j ih =>
        intro hj
        by_cases hk : Lib.keeps zs.toArray (j + 1) = true
        · exact ⟨j + 1, List.mem_filter.2 ⟨by simpa using hj, hk⟩, by rw [getElem!_pos zs.toArray (j + 1) (by simpa using hj)]; simp⟩
        · obtain ⟨a, ha, he⟩ := ih (by omega)
          refine ⟨a, ha, ?_⟩
          rw [he]
          have hk' := of_decide_eq_false (by unfold Lib.keeps at hk; simpa using hk : decide (j + 1 = 0 ∨ zs.toArray[j + 1]! ≠ zs.toArray[j + 1 - 1]!) = false)
          have e : zs.toArray[j + 1]! = zs.toArray[j]! := by
            refine Classical.byContradiction fun hne => hk' (.inr ?_)
            simpa using hne
          rw [getElem!_pos zs.toArray (j + 1) (by simpa using hj), getElem!_pos zs.toArray j (by simp; omega)] at e
          simpa using e.symm
    obtain ⟨a, ha, he⟩ := key j hj
    exact ⟨a, ha, he⟩
def srt (zs : List Int) : List Int := zs.mergeSort fun x y => decide (x ≤ y)
theorem srt_sorted (zs : List Int) : (srt zs).Pairwise (· ≤ ·) := by
  have := List.pairwise_mergeSort (le := fun x y : Int => decide (x ≤ y)) (fun a b c h1 h2 => by simp at *; omega) (fun a b => by simp; omega) zs
  exact this.imp fun h => by simpa using h
theorem srt_mem (zs : List Int) (q : Int) : q ∈ srt zs ↔ q ∈ zs := List.mem_mergeSort
theorem srt_len (zs : List Int) : (srt zs).length = zs.length := List.length_mergeSort ..
theorem compact_srt (zs : List Int) : Lib.compact (srt zs) = puts zs :=
  inc_unique _ _ (inc_compact (srt_sorted zs)) (inc_puts zs) fun q => by rw [mem_compact, srt_mem, mem_puts]
theorem bang_ext {a b : List Int} (hl : a.length = b.length) (h : ∀ j, j < a.length → a[j]! = b[j]!) : a = b := by
  apply List.ext_getElem hl
  intro j h1 h2
  have := h j h1
  rwa [getElem!_pos a j h1, getElem!_pos b j h2] at this
theorem eqL_no {a b : List Int} (h : a.length ≠ b.length) : decide (a = b) = false := decide_eq_false fun e => h (by rw [e])
theorem eqL_at {a b : List Int} {i : Nat} (h : a[i]! ≠ b[i]!) : decide (a = b) = false := decide_eq_false fun e => h (by rw [e])
theorem put_split (n : Int) : ∀ (p r : List Int), (∀ x ∈ p, x < n) → put (p ++ r) n = p ++ put r n
  | [], r, _ => rfl
  | x :: p, r, h => by
    have hx := h x (by simp)
    simp only [List.cons_append, put]
    rw [if_neg (by omega), if_neg (by omega), put_split n p r fun y hy => h y (List.mem_cons_of_mem _ hy)]
theorem mem_take_bang {l : List Int} {i : Nat} {x : Int} (h : x ∈ l.take i) : ∃ j, j < i ∧ j < l.length ∧ l[j]! = x := by
  obtain ⟨j, hj, rfl⟩ := List.mem_iff_getElem.1 h
  rw [List.length_take] at hj
  exact ⟨j, by omega, by omega, by rw [getElem!_pos l j (by omega), List.getElem_take]⟩
theorem put_at {l : List Int} {n : Int} {i : Nat} (h : ∀ j, j < i → l[j]! < n) : put l n = l.take i ++ put (l.drop i) n := by
  have := put_split n (l.take i) (l.drop i) fun x hx => by
    obtain ⟨j, hj, _, rfl⟩ := mem_take_bang hx
    exact h j hj
  rwa [List.take_append_drop] at this
theorem put_hit {l : List Int} {n : Int} {i : Nat} (h : ∀ j, j < i → l[j]! < n) (hi : i < l.length) (he : l[i]! = n) : put l n = l := by
  rw [put_at h, drop_bang hi, he]
  simp only [put]
  rw [if_neg (by omega)]
  simp only [if_true]
  rw [← he, ← drop_bang hi, List.take_append_drop]
theorem put_miss {l : List Int} {n : Int} {i : Nat} (h : ∀ j, j < i → l[j]! < n) (hi : l.length ≤ i ∨ (¬ l[i]! < n ∧ l[i]! ≠ n)) : put l n = l.take i ++ [n] ++ l.drop i := by
  rw [put_at h]
  by_cases hl : i < l.length
  · rcases hi with hi | hi
    · omega
    · rw [drop_bang hl]
      simp only [put]
      rw [if_pos (by omega)]
      simp
  · rw [List.drop_of_length_le (by omega)]
    simp [put]
theorem put_len (l : List Int) (n : Int) : (put l n).length ≤ l.length + 1 := by
  induction l with
  | nil => simp [put]
  | cons x r ih => simp only [put]; split <;> (try split) <;> simp <;> omega
theorem foldl_put_len (l acc : List Int) : (l.foldl put acc).length ≤ acc.length + l.length := by
  induction l generalizing acc with
  | nil => simp
  | cons x r ih => have := ih (put acc x); have h2 := put_len acc x; simp only [List.foldl_cons, List.length_cons]; omega
theorem puts_len (l : List Snap) (id : Int) (i : Nat) : (puts (rawPts (l.take i) id)).length ≤ 3 * i := by
  have h1 := foldl_put_len (rawPts (l.take i) id) []
  have h2 := rawPts_take_len l id i
  simp only [List.length_nil] at h1
  unfold puts; omega
theorem puts_step (l : List Snap) (id : Int) {i : Nat} (h : i < l.length) : puts (rawPts (l.take (i + 1)) id) = (ptsOf l[i]! id).foldl put (puts (rawPts (l.take i) id)) := by
  rw [rawPts_take l id h, puts, List.foldl_append]; rfl
theorem inc_at {l : List Int} (h : Inc l) {i j : Nat} (hi : i < j) (hj : j < l.length) : l[i]! < l[j]! := by
  rw [getElem!_pos l i (by omega), getElem!_pos l j hj]
  exact List.pairwise_iff_getElem.1 h i j (by omega) hj hi
theorem inc_pts (l : List Snap) (id : Int) {i j : Nat} (hi : i < j) (hj : j < (pts l id).length) : (pts l id)[i]! < (pts l id)[j]! := inc_at (inc_puts _) hi hj
theorem has_no {l : List Int} {n : Int} (h : ∀ j, j < l.length → l[j]! ≠ n) : decide (n ∈ l) = false := decide_eq_false fun hm => by
  obtain ⟨j, hj, rfl⟩ := List.mem_iff_getElem.1 hm
  exact h j hj (getElem!_pos l j hj)
theorem has_yes {l : List Int} {n : Int} {j : Nat} (hj : j < l.length) (h : l[j]! = n) : decide (n ∈ l) = true := decide_eq_true (h ▸ bang_mem hj)
theorem pts_len (l : List Snap) (id : Int) : (pts l id).length ≤ 3 * l.length := by
  have h1 := foldl_put_len (rawPts l id) []
  have h2 := rawPts_len l id
  simp only [List.length_nil] at h1
  unfold pts puts; omega
theorem mem_pts (l : List Snap) (id q : Int) : q ∈ pts l id ↔ q ∈ rawPts l id := mem_puts _ q
theorem raw_app (a b : List Snap) (id q : Int) : q ∈ rawPts (([] ++ a) ++ b) id ↔ q ∈ rawPts a id ∨ q ∈ rawPts b id := by
  simp only [rawPts, List.nil_append, List.flatMap_append, List.mem_append]
theorem in_left {a b : List Snap} {id q : Int} (h : q ∈ pts a id) : q ∈ pts (([] ++ a) ++ b) id := by
  rw [mem_pts] at h ⊢; exact (raw_app a b id q).2 (.inl h)
theorem in_right {a b : List Snap} {id q : Int} (h : q ∈ pts b id) : q ∈ pts (([] ++ a) ++ b) id := by
  rw [mem_pts] at h ⊢; exact (raw_app a b id q).2 (.inr h)
theorem unite1 {a b : List Snap} {id q : Int} (h : q ∈ pts (([] ++ a) ++ b) id) (hc : (!decide (q ∈ pts a id) && !decide (q ∈ pts b id)) = true) : False := by
  have h1 := of_decide_eq_false (not_t (and_t hc).1)
  have h2 := of_decide_eq_false (not_t (and_t hc).2)
  rw [mem_pts] at h h1 h2
  rcases (raw_app a b id q).1 h with h | h
  · exact h1 h
  · exact h2 h
end Ck
end Go.Proofs.Ytaglpampidlbmaa

namespace Go.Proofs.Ytaglpampidlbmaa
open Go Go.Eng
namespace Ck
def eqS (x y : Snap) : Bool := (x.a == y.a) && (x.ata == y.ata) && (x.b == y.b) && ((x.lo == y.lo) && (x.hi == y.hi))
theorem eqS_iff (x y : Snap) : eqS x y = true ↔ x = y := by
  obtain ⟨a, b, c, d, e⟩ := x
  obtain ⟨a', b', c', d', e'⟩ := y
  simp [eqS]
  constructor
  · rintro ⟨⟨⟨h1, h2⟩, h3⟩, h4, h5⟩; exact ⟨h1, h2, h3, h4, h5⟩
  · rintro ⟨h1, h2, h3, h4, h5⟩; exact ⟨⟨⟨h1, h2⟩, h3⟩, h4, h5⟩
def difN (l : List Snap) (i : Nat) : List Snap := (List.range i).flatMap fun j => if (l.take j).any (eqS l[j]!) then [] else [l[j]!]
theorem difN_succ (l : List Snap) (i : Nat) : difN l (i + 1) = difN l i ++ if (l.take i).any (eqS l[i]!) then [] else [l[i]!] := by
  simp only [difN, List.range_succ, List.flatMap_append, List.flatMap_cons, List.flatMap_nil, List.append_nil]
theorem difN_len (l : List Snap) : ∀ i, (difN l i).length ≤ i
  | 0 => by simp [difN]
  | i + 1 => by
    have := difN_len l i
    rw [difN_succ, List.length_append]
    split <;> simp <;> omega
theorem mem_difN (l : List Snap) (x : Snap) : ∀ i, i ≤ l.length → (x ∈ difN l i ↔ x ∈ l.take i)
  | 0, _ => by simp [difN]
  | i + 1, h => by
    have ih := mem_difN l x i (by omega)
    rw [difN_succ, take_bang (by omega), List.mem_append, List.mem_append, ih]
    cases ha : (l.take i).any (eqS l[i]!) with
    | false => simp only [Bool.false_eq_true, if_false]
    | true =>
      simp only [if_true, List.not_mem_nil, or_false, List.mem_singleton]
      obtain ⟨y, hy, he⟩ := List.any_eq_true.1 ha
      rw [eqS_iff] at he
      constructor
      · exact .inl
      · rintro (h | h)
        · exact h
        · rw [h, he]; exact hy
theorem any_take {p : Snap → Bool} {l : List Snap} {j : Nat} (h : j < l.length) : (l.take (j + 1)).any p = ((l.take j).any p || p l[j]!) := by
  rw [take_bang h, List.any_append]; simp only [List.any_cons, List.any_nil, Bool.or_false]
theorem dif_flag {l : List Snap} {i j : Nat} {b c : Bool} (h : b = ((l.take i).take j).any (eqS l[i]!)) (hj : i ≤ j) (hb : b = c) : (l.take i).any (eqS l[i]!) = c := by
  rw [List.take_of_length_le (by rw [List.length_take]; omega)] at h
  rw [← h, hb]
/-! The rounds. -/
def step (S : Int → Bool) (x : Snap) : Int → Bool := if S x.a || S x.b then (fun q => q == x.a || q == x.b || S q) else S
def rounds (l : List Snap) : Nat → Int → Bool
  | 0 => fun q => q == 0
  | n + 1 => l.foldl step (rounds l n)
def linkedF (d : List Dom) (l : List Snap) (id : Int) : Bool := (checkF d l == 0 && decide (0 ≤ idx d id 0)) && rounds (difN l l.length) d.length id
inductive Reach (l : List Snap) : Int → Prop where
  | zero : Reach l 0
  | fwd {x : Snap} : x ∈ l → Reach l x.a → Reach l x.b
  | bwd {x : Snap} : x ∈ l → Reach l x.b → Reach l x.a
theorem Reach.mono {l r : List Snap} (h : ∀ x ∈ l, x ∈ r) {q : Int} (hq : Reach l q) : Reach r q := by
  induction hq with
  | zero => exact .zero
  | fwd hx _ ih => exact .fwd (h _ hx) ih
  | bwd hx _ ih => exact .bwd (h _ hx) ih
theorem step_mono (S : Int → Bool) (x : Snap) (q : Int) (h : S q = true) : step S x q = true := by
  unfold step; split
  · simp [h]
  · exact h
theorem fold_mono : ∀ (l : List Snap) (S : Int → Bool) (q : Int), S q = true → l.foldl step S q = true
  | [], _, _, h => h
  | x :: l, S, q, h => fold_mono l (step S x) q (step_mono S x q h)
theorem step_both (S : Int → Bool) (x : Snap) (h : (S x.a || S x.b) = true) : step S x x.a = true ∧ step S x x.b = true := by
  unfold step; rw [if_pos h]; simp
theorem fold_both : ∀ (l : List Snap) (S : Int → Bool) (x : Snap), x ∈ l → (S x.a || S x.b) = true → l.foldl step S x.a = true ∧ l.foldl step S x.b = true
  | y :: l, S, x, hx, h => by
    rw [List.foldl_cons]
    rcases List.mem_cons.1 hx with rfl | hx
    · have := step_both S x h
      exact ⟨fold_mono l _ _ this.1, fold_mono l _ _ this.2⟩
    · refine fold_both l (step S y) x hx ?_
      rw [Bool.or_eq_true] at h ⊢
      rcases h with h | h
      · exact .inl (step_mono S y _ h)
      · exact .inr (step_mono S y _ h)
theorem step_sound {r : List Snap} (S : Int → Bool) (x : Snap) (hx : x ∈ r) (hS : ∀ q, S q = true → Reach r q) (q : Int) (h : step S x q = true) : Reach r q := by
  unfold step at h
  split at h
  · rename_i hc
    simp only [Bool.or_eq_true, beq_iff_eq] at h hc
    have hab : Reach r x.a ∧ Reach r x.b := by
      rcases hc with hc | hc
      · exact ⟨hS _ hc, .fwd hx (hS _ hc)⟩
      · exact ⟨.bwd hx (hS _ hc), hS _ hc⟩
    rcases h with (rfl | rfl) | h
    · exact hab.1
    · exact hab.2
    · exact hS _ h
  · exact hS _ h
theorem fold_sound {r : List Snap} : ∀ (l : List Snap) (S : Int → Bool), (∀ x ∈ l, x ∈ r) → (∀ q, S q = true → Reach r q) → ∀ q, l.foldl step S q = true → Reach r q
  | [], _, _, hS, q, h => hS q h
  | x :: l, S, hl, hS, q, h => fold_sound l (step S x) (fun y hy => hl y (List.mem_cons_of_mem _ hy)) (fun q h => step_sound S x (hl x (by simp)) hS q h) q h
theorem rounds_sound (l : List Snap) : ∀ n q, rounds l n q = true → Reach l q
  | 0, q, h => by have : q = 0 := by simpa [rounds] using h
                  subst this; exact .zero
  | n + 1, q, h => fold_sound l (rounds l n) (fun _ h => h) (rounds_sound l n) q h
def closed (l : List Snap) (S : Int → Bool) : Prop := ∀ x ∈ l, S x.a = S x.b
theorem step_closed (S : Int → Bool) (x : Snap) (h : S x.a = S x.b) : step S x = S := by
  funext q
  unfold step; split
  · rename_i hc
    rw [← h, Bool.or_self] at hc
    by_cases h1 : q = x.a
    · subst h1; simp [hc]
    · by_cases h2 : q = x.b
      · subst h2; simp [← h, hc]
      · simp [h1, h2]
  · rfl
theorem fold_closed : ∀ (l : List Snap) (S : Int → Bool), closed l S → l.foldl step S = S
  | [], _, _ => rfl
  | x :: l, S, h => by
    rw [List.foldl_cons, step_closed S x (h x (by simp))]
    exact fold_closed l S fun y hy => h y (List.mem_cons_of_mem _ hy)
theorem closed_reach {l : List Snap} {S : Int → Bool} (h : closed l S) (h0 : S 0 = true) {q : Int} (hq : Reach l q) : S q = true := by
  induction hq with
  | zero => exact h0
  | fwd hx _ ih => rw [← h _ hx]; exact ih
  | bwd hx _ ih => rw [h _ hx]; exact ih
def cnt (d : List Dom) (S : Int → Bool) : Nat := (d.filter fun x => S x.id).length
theorem cnt_le (d : List Dom) (S : Int → Bool) : cnt d S ≤ d.length := List.length_filter_le _ _
theorem cnt_mono : ∀ (d : List Dom) (S T : Int → Bool), (∀ q, S q = true → T q = true) → cnt d S ≤ cnt d T
  | [], _, _, _ => by simp [cnt]
  | x :: d, S, T, h => by
    have ih := cnt_mono d S T h
    unfold cnt at *
    simp only [List.filter_cons]
    cases h1 : S x.id with
    | true => rw [h _ h1]; simp only [if_true, List.length_cons]; omega
    | false => cases h2 : T x.id <;> simp only [Bool.false_eq_true, if_true, if_false, List.length_cons] <;> omega
theorem cnt_lt : ∀ (d : List Dom) (S T : Int → Bool), (∀ q, S q = true → T q = true) → (∃ x ∈ d, S x.id = false ∧ T x.id = true) → cnt d S < cnt d T
  | [], _, _, _, h => by obtain ⟨x, hx, _⟩ := h; cases hx
  | x :: d, S, T, h, ⟨y, hy, h1, h2⟩ => by
    rcases List.mem_cons.1 hy with rfl | hy
    · have := cnt_mono d S T h
      unfold cnt at *
      simp only [List.filter_cons, h1, h2, Bool.false_eq_true, if_true, if_false, List.length_cons]; omega
    · have ih := cnt_lt d S T h ⟨y, hy, h1, h2⟩
      unfold cnt at *
      simp only [List.filter_cons]
      cases e1 : S x.id with
      | true => rw [h _ e1]; simp only [if_true, List.length_cons]; omega
      | false => cases e2 : T x.id <;> simp only [Bool.false_eq_true, if_true, if_false, List.length_cons] <;> omega
theorem idx_some : ∀ (d : List Dom) (i : Int) (k : Nat), 0 ≤ idx d i k → ∃ x ∈ d, x.id = i
  | [], i, k, h => by simp [idx] at h
  | x :: r, i, k, h => by
    simp only [idx] at h
    split at h
    · rename_i hc; exact ⟨x, by simp, by simpa using hc⟩
    · obtain ⟨y, hy, he⟩ := idx_some r i _ h; exact ⟨y, List.mem_cons_of_mem _ hy, he⟩
theorem idx_none : ∀ (d : List Dom) (i : Int) (k : Nat), (∃ x ∈ d, x.id = i) → 0 ≤ idx d i k
  | [], i, k, h => by obtain ⟨x, hx, _⟩ := h; cases hx
  | x :: r, i, k, h => by
    simp only [idx]
    split
    · omega
    · rename_i hc
      obtain ⟨y, hy, he⟩ := h
      rcases List.mem_cons.1 hy with rfl | hy
      · exact absurd (by simpa using he) hc
      · exact idx_none r i _ ⟨y, hy, he⟩
theorem snaps_all {d : List Dom} : ∀ {l : List Snap}, snaps d l = 0 → ∀ x ∈ l, snapF d x = 0
  | y :: l, h, x, hx => by
    simp only [snaps] at h
    split at h
    · rename_i hc
      rcases List.mem_cons.1 hx with rfl | hx
      · simpa using hc
      · exact snaps_all h x hx
    · rename_i hc; exact absurd (by simpa using h) hc
theorem snaps_of_all {d : List Dom} : ∀ {l : List Snap}, (∀ x ∈ l, snapF d x = 0) → snaps d l = 0
  | [], _ => rfl
  | y :: l, h => by
    simp only [snaps]
    rw [if_pos (by rw [h y (by simp)]; rfl)]
    exact snaps_of_all fun x hx => h x (List.mem_cons_of_mem _ hx)
theorem snapF_ids {d : List Dom} {x : Snap} (h : snapF d x = 0) : 0 ≤ idx d x.a 0 ∧ 0 ≤ idx d x.b 0 := by
  unfold snapF at h
  split at h
  · cases h
  · rename_i hc; simp at hc; omega
theorem check_ok {d : List Dom} {l : List Snap} (h : checkF d l = 0) : d.length ≠ 0 ∧ d.length ≤ 8 ∧ l.length ≤ 200 ∧ d[0]!.id = 0 ∧ doms d d 0 = 0 ∧ snaps d l = 0 := by
  unfold checkF at h
  split at h
  · cases h
  · split at h
    · cases h
    · split at h
      · rename_i h1 h2 h3
        split at h
        · rename_i h4
          simp only [Bool.and_eq_true, beq_iff_eq] at h3 h4
          exact ⟨h1, by omega, by omega, h3.1, h4, h⟩
        · rename_i h4; exact absurd (by simpa using h) h4
      · cases h
theorem rounds_all {d : List Dom} {l : List Snap} (h0 : ∃ x ∈ d, x.id = 0) (hl : ∀ x ∈ l, (∃ y ∈ d, y.id = x.a) ∧ ∃ y ∈ d, y.id = x.b) : ∀ n, closed l (rounds l n) ∨ n + 1 ≤ cnt d (rounds l n)
  | 0 => .inr (by
      obtain ⟨x, hx, he⟩ := h0
      have : cnt d (fun _ => false) < cnt d (rounds l 0) := cnt_lt d _ _ (fun q h => by cases h) ⟨x, hx, rfl, by simp [rounds, he]⟩
      omega)
  | n + 1 => by
    rcases rounds_all h0 hl n with h | h
    · left
      show closed l (l.foldl step (rounds l n))
      rw [fold_closed l _ h]; exact h
    · by_cases hc : closed l (rounds l n)
      · left
        show closed l (l.foldl step (rounds l n))
        rw [fold_closed l _ hc]; exact hc
      · right
        have : ∃ x ∈ l, rounds l n x.a ≠ rounds l n x.b := by
          refine Classical.byContradiction fun hn => hc fun x hx => ?_
          exact Classical.byContradiction fun he => hn ⟨x, hx, he⟩
        obtain ⟨x, hx, hne⟩ := this
        have hor : (rounds l n x.a || rounds l n x.b) = true := by
          cases h1 : rounds l n x.a <;> cases h2 : rounds l n x.b <;> simp_all
        have hb := fold_both l (rounds l n) x hx hor
        have key : ∃ y ∈ d, rounds l n y.id = false ∧ rounds l (n + 1) y.id = true := by
          obtain ⟨⟨ya, ha, ea⟩, yb, hb', eb⟩ := hl x hx
          cases h1 : rounds l n x.a with
          | false => exact ⟨ya, ha, by rw [ea]; exact h1, by rw [ea]; exact hb.1⟩
          | true =>
            cases h2 : rounds l n x.b with
            | false => exact ⟨yb, hb', by rw [eb]; exact h2, by rw [eb]; exact hb.2⟩
            | true => exact absurd (h1.trans h2.symm) hne
        have := cnt_lt d (rounds l n) (rounds l (n + 1)) (fun q h => fold_mono l _ q h) key
        omega
theorem rounds_zero (l : List Snap) : ∀ n, rounds l n 0 = true
  | 0 => rfl
  | n + 1 => fold_mono l _ 0 (rounds_zero l n)
/-- What Linked says of valid domains and snapshots. -/
theorem rounds_iff {d : List Dom} {l : List Snap} (h : checkF d l = 0) (q : Int) : rounds (difN l l.length) d.length q = true ↔ Reach l q := by
  obtain ⟨h1, h2, h3, h4, h5, h6⟩ := check_ok h
  have hmem : ∀ x, x ∈ difN l l.length ↔ x ∈ l := fun x => by rw [mem_difN l x l.length (Nat.le_refl _), List.take_length]
  constructor
  · intro hr; exact (rounds_sound _ _ q hr).mono fun x hx => (hmem x).1 hx
  · intro hr
    have h0 : ∃ x ∈ d, x.id = 0 := ⟨d[0]!, bang_mem (by omega), h4⟩
    have hl : ∀ x ∈ difN l l.length, (∃ y ∈ d, y.id = x.a) ∧ ∃ y ∈ d, y.id = x.b := fun x hx => by
      have := snapF_ids (snaps_all h6 x ((hmem x).1 hx))
      exact ⟨idx_some d _ 0 this.1, idx_some d _ 0 this.2⟩
    have hcl : closed (difN l l.length) (rounds (difN l l.length) d.length) := by
      rcases rounds_all h0 hl d.length with hc | hc
      · exact hc
      · have := cnt_le d (rounds (difN l l.length) d.length); omega
    exact closed_reach hcl (rounds_zero _ _) (hr.mono fun x hx => (hmem x).2 hx)
theorem linked_iff (d : List Dom) (l : List Snap) (id : Int) : linkedF d l id = true ↔ checkF d l = 0 ∧ 0 ≤ idx d id 0 ∧ Reach l id := by
  unfold linkedF
  simp only [Bool.and_eq_true, beq_iff_eq, decide_eq_true_eq]
  constructor
  · rintro ⟨⟨h1, h2⟩, h3⟩; exact ⟨h1, h2, (rounds_iff h1 id).1 h3⟩
  · rintro ⟨h1, h2, h3⟩; exact ⟨⟨h1, h2⟩, (rounds_iff h1 id).2 h3⟩
theorem linked_no {d : List Dom} {l : List Snap} {id : Int} (h : (!(checkF d l == 0) || decide (idx d id 0 < 0)) = true) : linkedF d l id = false := by
  unfold linkedF
  cases hc : checkF d l == 0 with
  | false => rfl
  | true =>
    simp only [hc, Bool.not_true, Bool.false_or, decide_eq_true_eq] at h
    rw [show decide (0 ≤ idx d id 0) = false from by simp only [decide_eq_false_iff_not]; omega]; rfl
theorem linked_yes {d : List Dom} {l : List Snap} {id : Int} (h : (!(checkF d l == 0) || decide (idx d id 0 < 0)) = false) : linkedF d l id = rounds (difN l l.length) d.length id := by
  unfold linkedF
  cases hc : checkF d l == 0 with
  | false => simp [hc] at h
  | true =>
    simp only [hc, Bool.not_true, Bool.false_or, decide_eq_false_iff_not] at h
    rw [show decide (0 ≤ idx d id 0) = true from by simp only [decide_eq_true_eq]; omega]; rfl
theorem pairs_ok {b c : Bool} {d : List Dom} {l : List Snap} (h : (!(b && c) || !(checkF d l == 0)) = false) : checkF d l = 0 := by
  have := not_f (or_f h).2
  simpa using this
theorem idx_of_mem {d : List Dom} {x : Snap} (h : snapF d x = 0) : 0 ≤ idx d x.a 0 ∧ 0 ≤ idx d x.b 0 := snapF_ids h
theorem pairs_eq {d : List Dom} {l : List Snap} (h : checkF d l = 0) {i : Nat} (hi : i < l.length) : linkedF d l l[i]!.a = linkedF d l l[i]!.b := by
  have hs := snapF_ids (snaps_all (check_ok h).2.2.2.2.2 _ (bang_mem hi))
  have h1 := linked_iff d l l[i]!.a
  have h2 := linked_iff d l l[i]!.b
  have : linkedF d l l[i]!.a = true ↔ linkedF d l l[i]!.b = true := by
    rw [h1, h2]
    constructor
    · rintro ⟨a, b, c⟩; exact ⟨a, hs.2, .fwd (bang_mem hi) c⟩
    · rintro ⟨a, b, c⟩; exact ⟨a, hs.1, .bwd (bang_mem hi) c⟩
  cases e1 : linkedF d l l[i]!.a <;> cases e2 : linkedF d l l[i]!.b <;> simp_all
theorem linked_zero {d : List Dom} {l : List Snap} (h : checkF d l = 0) : linkedF d l 0 = true := by
  obtain ⟨h1, _, _, h4, _, _⟩ := check_ok h
  exact (linked_iff d l 0).2 ⟨h, idx_none d 0 0 ⟨d[0]!, bang_mem (by omega), h4⟩, .zero⟩
/-! What chains of snapshots reach, as the reference finds it. -/
def ends (l : List Snap) : List Int := 0 :: l.flatMap fun x => [x.a, x.b]
theorem ends_len (l : List Snap) : (ends l).length = 2 * l.length + 1 := by
  unfold ends
  rw [List.length_cons]
  have : (l.flatMap fun x => [x.a, x.b]).length = 2 * l.length := by
    induction l with
    | nil => rfl
    | cons x r ih => rw [List.flatMap_cons, List.length_append, ih]; simp; omega
  rw [this]
theorem nodup_len : ∀ (o e : List Int), o.Nodup → (∀ q ∈ o, q ∈ e) → o.length ≤ e.length
  | [], e, _, _ => Nat.zero_le _
  | q :: o, e, hn, h => by
    have hn' := List.nodup_cons.1 hn
    have hq := h q (by simp)
    have := nodup_len o (e.erase q) hn'.2 fun x hx => by
      refine (List.mem_erase_of_ne ?_).2 (h x (List.mem_cons_of_mem _ hx))
      rintro rfl; exact hn'.1 hx
    rw [List.length_erase_of_mem hq] at this
    have := List.length_pos_of_mem hq
    simp only [List.length_cons]; omega
structure RInv (l : List Snap) (o : List Int) (i k : Nat) : Prop where
  nd : o.Nodup
  sound : ∀ q ∈ o, Reach l q
  sub : ∀ q ∈ o, q ∈ ends l
  zero : (0 : Int) ∈ o
  done : ∀ j, j < i → ∀ x ∈ l, (x.a = o[j]! → x.b ∈ o) ∧ (x.b = o[j]! → x.a ∈ o)
  cur : i < o.length → ∀ x ∈ l.take k, (x.a = o[i]! → x.b ∈ o) ∧ (x.b = o[i]! → x.a ∈ o)
  le : i ≤ o.length
theorem RInv.len {l : List Snap} {o : List Int} {i k : Nat} (h : RInv l o i k) : o.length ≤ 2 * l.length + 1 := by
  rw [← ends_len]; exact nodup_len o (ends l) h.nd h.sub
theorem RInv.start (l : List Snap) : RInv l [0] 0 0 where
  nd := by simp
  sound := fun q hq => by have : q = 0 := by simpa using hq
                          subst this; exact .zero
  sub := fun q hq => by have : q = 0 := by simpa using hq
                        subst this; simp [ends]
  zero := by simp
  done := fun j hj => absurd hj (Nat.not_lt_zero j)
  cur := fun _ x hx => by simp at hx
  le := by simp
theorem bang_app {o : List Int} {j : Nat} (h : j < o.length) (q : Int) : (o ++ [q])[j]! = o[j]! := by
  rw [getElem!_pos (o ++ [q]) j (by simp; omega), getElem!_pos o j h, List.getElem_append_left h]
theorem RInv.grow {l : List Snap} {o : List Int} {i k : Nat} (h : RInv l o i k) (hi : i < o.length) {q : Int} (hq : q ∉ o) (hr : Reach l q) (he : q ∈ ends l) : RInv l (o ++ [q]) i k where
  nd := by
    rw [List.nodup_append]
    refine ⟨h.nd, by simp, fun a ha b hb => ?_⟩
    have : b = q := by simpa using hb
    subst this; rintro rfl; exact hq ha
  sound := fun x hx => by
    rcases List.mem_append.1 hx with hx | hx
    · exact h.sound x hx
    · have : x = q := by simpa using hx
      subst this; exact hr
  sub := fun x hx => by
    rcases List.mem_append.1 hx with hx | hx
    · exact h.sub x hx
    · have : x = q := by simpa using hx
      subst this; exact he
  zero := List.mem_append_left _ h.zero
  done := fun j hj x hx => by
    rw [bang_app (by omega)]
    exact ⟨fun e => List.mem_append_left _ ((h.done j hj x hx).1 e), fun e => List.mem_append_left _ ((h.done j hj x hx).2 e)⟩
  cur := fun _ x hx => by
    rw [bang_app hi]
    exact ⟨fun e => List.mem_append_left _ ((h.cur hi x hx).1 e), fun e => List.mem_append_left _ ((h.cur hi x hx).2 e)⟩
  le := by rw [List.length_append]; have := h.le; omega
theorem mem_ends {l : List Snap} {x : Snap} (h : x ∈ l) : x.a ∈ ends l ∧ x.b ∈ ends l := by
  unfold ends
  constructor <;> refine List.mem_cons_of_mem _ (List.mem_flatMap.2 ⟨x, h, by simp⟩)
/-- Behind the first question on a snapshot. -/
def RHalf (l : List Snap) (o : List Int) (i k : Nat) : Prop := RInv l o i k ∧ i < o.length ∧ (l[k]!.a = o[i]! → l[k]!.b ∈ o)
theorem RInv.half_t {l : List Snap} {o : List Int} {i k : Nat} (h : RInv l o i k) (hi : i < o.length) (hk : k < l.length) (hc : (l[k]!.a == o[i]! && !decide (l[k]!.b ∈ o)) = true) : RHalf l (o ++ [l[k]!.b]) i k := by
  have h1 := eq_t (and_t hc).1
  have h2 := of_decide_eq_false (not_t (and_t hc).2)
  refine ⟨h.grow hi h2 (.fwd (bang_mem hk) (h1 ▸ h.sound _ (bang_mem hi))) (mem_ends (bang_mem hk)).2, by simp; omega, fun _ => by simp⟩
theorem RInv.half_f {l : List Snap} {o : List Int} {i k : Nat} (h : RInv l o i k) (hi : i < o.length) (hk : k < l.length) (hc : (l[k]!.a == o[i]! && !decide (l[k]!.b ∈ o)) = false) : RHalf l o i k := by
  refine ⟨h, hi, fun e => ?_⟩
  rw [e] at hc
  have : decide (l[k]!.b ∈ o) = true := by simpa using hc
  exact of_decide_eq_true this
theorem RInv.next {l : List Snap} {o : List Int} {i k : Nat} (h : RInv l o i k) (hk : k < l.length) (h1 : l[k]!.a = o[i]! → l[k]!.b ∈ o) (h2 : l[k]!.b = o[i]! → l[k]!.a ∈ o) : RInv l o i (k + 1) where
  nd := h.nd
  sound := h.sound
  sub := h.sub
  zero := h.zero
  done := h.done
  le := h.le
  cur := fun hi x hx => by
    rw [take_bang hk] at hx
    rcases List.mem_append.1 hx with hx | hx
    · exact h.cur hi x hx
    · have : x = l[k]! := by simpa using hx
      subst this; exact ⟨h1, h2⟩
theorem RHalf.full_t {l : List Snap} {o : List Int} {i k : Nat} (h : RHalf l o i k) (hk : k < l.length) (hc : (l[k]!.b == o[i]! && !decide (l[k]!.a ∈ o)) = true) : RInv l (o ++ [l[k]!.a]) i (k + 1) := by
  obtain ⟨h0, hi, h3⟩ := h
  have h1 := eq_t (and_t hc).1
  have h2 := of_decide_eq_false (not_t (and_t hc).2)
  refine (h0.grow hi h2 (.bwd (bang_mem hk) (h1 ▸ h0.sound _ (bang_mem hi))) (mem_ends (bang_mem hk)).1).next hk ?_ ?_
  · rw [bang_app hi]; exact fun e => List.mem_append_left _ (h3 e)
  · exact fun _ => by simp
theorem RHalf.full_f {l : List Snap} {o : List Int} {i k : Nat} (h : RHalf l o i k) (hk : k < l.length) (hc : (l[k]!.b == o[i]! && !decide (l[k]!.a ∈ o)) = false) : RInv l o i (k + 1) := by
  obtain ⟨h0, hi, h3⟩ := h
  refine h0.next hk h3 fun e => ?_
  rw [e] at hc
  have : decide (l[k]!.a ∈ o) = true := by simpa using hc
  exact of_decide_eq_true this
theorem RInv.turn {l : List Snap} {o : List Int} {i k : Nat} (h : RInv l o i k) (hk : l.length ≤ k) (hi : i < o.length) : RInv l o (i + 1) 0 where
  nd := h.nd
  sound := h.sound
  sub := h.sub
  zero := h.zero
  le := hi
  cur := fun _ x hx => by simp at hx
  done := fun j hj x hx => by
    rcases Nat.lt_succ_iff_lt_or_eq.1 hj with hj | rfl
    · exact h.done j hj x hx
    · exact h.cur hi x (by rw [List.take_of_length_le hk]; exact hx)
theorem RInv.all {l : List Snap} {o : List Int} {i k : Nat} (h : RInv l o i k) (hi : o.length ≤ i) (q : Int) : q ∈ o ↔ Reach l q := by
  refine ⟨h.sound q, fun hr => ?_⟩
  have key : ∀ p ∈ o, ∃ j, j < i ∧ o[j]! = p := fun p hp => by
    obtain ⟨j, hj, rfl⟩ := List.mem_iff_getElem.1 hp
    exact ⟨j, by omega, getElem!_pos o j hj⟩
  induction hr with
  | zero => exact h.zero
  | fwd hx _ ih => obtain ⟨j, hj, e⟩ := key _ ih; exact (h.done j hj _ hx).1 e.symm
  | bwd hx _ ih => obtain ⟨j, hj, e⟩ := key _ ih; exact (h.done j hj _ hx).2 e.symm
theorem linked_dec {d : List Dom} {l : List Snap} {id : Int} {o : List Int} (hc : (checkF d l == 0 && decide (0 ≤ idx d id 0)) = true) (h : ∀ q, q ∈ o ↔ Reach l q) : decide (id ∈ o) = linkedF d l id := by
  have h1 := eq_t (and_t hc).1
  have h2 := of_decide_eq_true (and_t hc).2
  have : (decide (id ∈ o) = true) ↔ linkedF d l id = true := by
    rw [linked_iff, decide_eq_true_eq, h id]
    exact ⟨fun h => ⟨h1, h2, h⟩, fun h => h.2.2⟩
  cases e1 : decide (id ∈ o) <;> cases e2 : linkedF d l id <;> simp_all
theorem linked_false {d : List Dom} {l : List Snap} {id : Int} (hc : (checkF d l == 0 && decide (0 ≤ idx d id 0)) = false) : linkedF d l id = false := by
  unfold linkedF; rw [hc]; rfl
theorem grows_le {d : List Dom} {l : List Snap} {x : Snap} {id : Int} (hM : checkF d (([] ++ l) ++ [x]) = 0) (h : linkedF d l id = true) : linkedF d (([] ++ l) ++ [x]) id = true := by
  obtain ⟨_, h2, h3⟩ := (linked_iff d l id).1 h
  exact (linked_iff _ _ _).2 ⟨hM, h2, h3.mono fun y hy => by simp [hy]⟩
theorem check_of {d : List Dom} {l m : List Snap} (h : checkF d l = 0) (hl : m.length = l.length) (hm : ∀ x ∈ m, x ∈ l) : checkF d m = 0 := by
  obtain ⟨h1, h2, h3, h4, h5, h6⟩ := check_ok h
  have hs : snaps d m = 0 := snaps_of_all fun x hx => snaps_all h6 x (hm x hx)
  unfold checkF at h ⊢
  rw [if_neg h1] at h ⊢
  rw [if_neg (by omega)] at h
  rw [if_neg (by omega)]
  split at h
  · rename_i hc
    rw [if_pos hc, if_pos (by rw [h5]; rfl)]; exact hs
  · cases h
theorem grows_rev {d : List Dom} {M : List Snap} {id : Int} {z : Int} (hz : z < 0) (hM : checkF d M = 0) : linkedF d (M.drop (z + 1).toNat).reverse id = linkedF d M id := by
  rw [show (z + 1).toNat = 0 from by omega, List.drop_zero]
  have hr : checkF d M.reverse = 0 := check_of hM (by simp) (by simp)
  have h1 := linked_iff d M.reverse id
  have h2 := linked_iff d M id
  have : linkedF d M.reverse id = true ↔ linkedF d M id = true := by
    rw [h1, h2]
    constructor
    · rintro ⟨_, b, c⟩; exact ⟨hM, b, c.mono fun x hx => by simpa using hx⟩
    · rintro ⟨_, b, c⟩; exact ⟨hr, b, c.mono fun x hx => by simpa using hx⟩
  cases e1 : linkedF d M.reverse id <;> cases e2 : linkedF d M id <;> simp_all
theorem grows_no {a b c : Bool} (h1 : a = true → b = true) (h2 : c = b) (h : ((a && !b) || !(c == b)) = true) : False := by
  subst h2
  cases a <;> cases c <;> simp_all
theorem back_step {M : List Snap} {z : Int} (h0 : 0 ≤ z) (h : z.toNat < M.length) : (M.drop (z - 1 + 1).toNat).reverse = (M.drop (z + 1).toNat).reverse ++ [M[z.toNat]!] := by
  rw [show (z - 1 + 1).toNat = z.toNat from by omega, show (z + 1).toNat = z.toNat + 1 from by omega, drop_bang h, List.reverse_cons]
/-! The map that Linked keeps. -/
def Holds (m : List (Int × Value)) (S : Int → Bool) : Prop := ∀ q, mval m q (.bool false) = .bool (S q)
theorem holds0 (l : List Snap) : Holds (mset [] 0 (.bool true)) (rounds l 0) := fun q => by
  simp only [mval, mget_mset, rounds]
  by_cases h : q = 0
  · subst h; rfl
  · simp only [h, if_false, mget]
    rw [show (q == 0) = false from by simpa using h]; rfl
theorem holds_step {m : List (Int × Value)} {S : Int → Bool} (h : Holds m S) (x : Snap) (hc : (S x.a || S x.b) = true) : Holds (mset (mset m x.a (.bool true)) x.b (.bool true)) (step S x) := fun q => by
  have hq := h q
  unfold step
  rw [if_pos hc]
  unfold mval at hq ⊢
  rw [mget_mset, mget_mset]
  by_cases h1 : q = x.b
  · subst h1; simp
  · by_cases h2 : q = x.a
    · subst h2; simp
    · simp only [h1, h2, if_false]
      rw [hq, show (q == x.a) = false from by simpa using h2, show (q == x.b) = false from by simpa using h1]; rfl
theorem holds_skip {m : List (Int × Value)} {S : Int → Bool} (h : Holds m S) (x : Snap) (hc : (S x.a || S x.b) = false) : Holds m (step S x) := by
  unfold step
  rw [hc]; exact h
theorem holds_take {m : List (Int × Value)} {l : List Snap} {r k : Nat} (hk : k < l.length) (h : Holds m (step ((l.take k).foldl step (rounds l r)) l[k]!)) : Holds m ((l.take (k + 1)).foldl step (rounds l r)) := by
  rw [take_bang hk, List.foldl_append]; exact h
theorem holds_all {m : List (Int × Value)} {l : List Snap} {r k : Nat} (hk : l.length ≤ k) (h : Holds m ((l.take k).foldl step (rounds l r))) : Holds m (rounds l (r + 1)) := by
  rw [List.take_of_length_le hk] at h; exact h
end Ck
end Go.Proofs.Ytaglpampidlbmaa
