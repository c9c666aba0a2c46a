/- What package clock's functions compute, in plain Lean. -/
import Derived.Test.YtnmmnkmmmfhdbaaMix
import Derived.Test.YtnmmnkmmmfhdbaaRowL
namespace Go.Proofs.Ytnmmnkmmmfhdbaa
open Go Go.Eng
theorem not_f_ne {a b : Int} (h : (!(a == b)) = false) : (a == b) = true := not_f h
theorem ne_f_of {a b : Int} (h : (!(a == b)) = true) : (a == b) = false := not_t h
theorem zz_t {a b : Int} (h : (!(a == 0) || !(b == 0)) = true) : (a == 0 && b == 0) = false := by cases h1 : a == 0 <;> cases h2 : b == 0 <;> simp_all
theorem zz_f {a b : Int} (h : (!(a == 0) || !(b == 0)) = false) : (a == 0 && b == 0) = true := by cases h1 : a == 0 <;> cases h2 : b == 0 <;> simp_all
namespace Ck
theorem few_eq {a b : Nat} : (decide ((a : Int) ≤ 20) && decide ((b : Int) ≤ 250)) = (decide (a ≤ 20) && decide (b ≤ 250)) := by
  congr 1 <;> (apply decide_eq_decide.2; omega)
structure Dom where
  id : Int
  ppm : Int
structure Snap where
  a : Int
  ata : Int
  b : Int
  lo : Int
  hi : Int
instance : Inhabited Dom := ⟨⟨0, 0⟩⟩
instance : Inhabited Snap := ⟨⟨0, 0, 0, 0, 0⟩⟩
def Dom.c (x : Dom) : List Value := [.int .i64 x.id, .int .i64 x.ppm]
def Snap.c (x : Snap) : List Value := [.int .i64 x.a, .int .i64 x.ata, .int .i64 x.b, .int .i64 x.lo, .int .i64 x.hi]
def ic (x : Int) : List Value := [.int .i64 x]
theorem Dom.one (x : Dom) : ∀ u ∈ x.c, u.oneCell' = true := by simp [Dom.c, Value.oneCell']
theorem Snap.one (x : Snap) : ∀ u ∈ x.c, u.oneCell' = true := by simp [Snap.c, Value.oneCell']
theorem ic_one (x : Int) : ∀ u ∈ ic x, u.oneCell' = true := by simp [ic, Value.oneCell']
/-- The place of the first domain of this identifier, or -1. -/
def idx : List Dom → Int → Nat → Int
  | [], _, _ => -1
  | x :: r, i, k => if x.id == i then (k : Int) else idx r i (k + 1)
def readB (n : Int) : Bool := decide (0 ≤ n) && decide (n ≤ 1000000000000)
def badDom (x : Dom) : Bool := decide (x.id < 0) || decide (8 ≤ x.id) || decide (x.ppm < 0) || decide (10000 < x.ppm)
def doms (d : List Dom) : List Dom → Nat → Int
  | [], _ => 0
  | x :: r, i => if badDom x then 2 else if 0 ≤ idx (d.take i) x.id 0 then 4 else doms d r (i + 1)
def snapF (d : List Dom) (x : Snap) : Int :=
  if decide (idx d x.a 0 < 0) || decide (idx d x.b 0 < 0) then 5 else if x.a == x.b then 1
  else if !readB x.ata || !readB x.lo || !readB x.hi || decide (x.hi < x.lo) then 2 else 0
def snaps (d : List Dom) : List Snap → Int
  | [] => 0
  | x :: r => if snapF d x == 0 then snaps d r else snapF d x
def checkF (d : List Dom) (l : List Snap) : Int :=
  if d.length = 0 then 8 else if 8 < d.length ∨ 200 < l.length then 7 else if d[0]!.id == 0 && d[0]!.ppm == 0 then
    (if doms d d 0 == 0 then snaps d l else doms d d 0) else 10
def ppmF (d : List Dom) (id : Int) : Int × Bool :=
  if checkF d [] == 0 && decide (0 ≤ idx d id 0) then (d[(idx d id 0).toNat]!.ppm, true) else (0, false)
theorem idx_lt : ∀ (d : List Dom) (i : Int) (k : Nat), -1 ≤ idx d i k ∧ (0 ≤ idx d i k → (k : Int) ≤ idx d i k ∧ idx d i k < k + d.length)
  | [], i, k => by simp [idx]
  | x :: r, i, k => by
    have h := idx_lt r i (k + 1)
    simp only [idx]
    split
    · simp; omega
    · simp only [List.length_cons] at *; omega
theorem idx_append : ∀ (l r : List Dom) (i : Int) (k : Nat), idx (l ++ r) i k = if 0 ≤ idx l i k then idx l i k else idx r i (k + l.length)
  | [], r, i, k => by simp [idx]
  | x :: l, r, i, k => by
    simp only [List.cons_append, idx, List.length_cons]
    by_cases h : (x.id == i) = true
    · simp only [h, if_true]; rw [if_pos (by omega)]
    · simp only [h, if_false, Bool.false_eq_true]
      rw [idx_append l r i (k + 1), show k + 1 + l.length = k + (l.length + 1) from by omega]
/-- The first place of an identifier lies ahead of i just if the domains ahead of i have it. -/
theorem idx_ahead (d : List Dom) (i : Nat) (hi : i < d.length) : (idx d d[i]!.id 0 < (i : Int)) ↔ 0 ≤ idx (d.take i) d[i]!.id 0 := by
  have hs : d = d.take i ++ d[i]! :: d.drop (i + 1) := by rw [← drop_bang hi, List.take_append_drop]
  have hl : (d.take i).length = i := by rw [List.length_take]; omega
  have h1 := idx_lt (d.take i) d[i]!.id 0
  have e : idx d d[i]!.id 0 = if 0 ≤ idx (d.take i) d[i]!.id 0 then idx (d.take i) d[i]!.id 0 else (i : Int) := by
    have := idx_append (d.take i) (d[i]! :: d.drop (i + 1)) d[i]!.id 0
    rw [← hs] at this
    rw [this, hl]
    have e2 : idx (d[i]! :: d.drop (i + 1)) d[i]!.id (0 + i) = (i : Int) := by simp only [idx, beq_self_eq_true, if_true, Nat.zero_add]
    rw [e2]
  rw [e]
  by_cases h : 0 ≤ idx (d.take i) d[i]!.id 0
  · rw [if_pos h]; constructor
    · intro _; exact h
    · intro _; have := h1.2 h; omega
  · rw [if_neg h]; constructor
    · intro q; omega
    · intro q; exact absurd q h
theorem ppm_no {α : Type} {c i : Int} {x y : α} (h : (!(c == 0) || decide (i < 0)) = true) : (if (c == 0 && decide (0 ≤ i)) = true then x else y) = y := by
  have : (c == 0 && decide (0 ≤ i)) = false := by
    cases hc : c == 0 with
    | false => rfl
    | true => simp only [hc, Bool.not_true, Bool.false_or, decide_eq_true_eq] at h; simp only [Bool.true_and, decide_eq_false_iff_not]; omega
  rw [this]; rfl
theorem ppm_yes {α : Type} {c i : Int} {x y : α} (h : (!(c == 0) || decide (i < 0)) = false) : (if (c == 0 && decide (0 ≤ i)) = true then x else y) = x := by
  have : (c == 0 && decide (0 ≤ i)) = true := by
    cases hc : c == 0 with
    | false => simp [hc] at h
    | true => simp only [hc, Bool.not_true, Bool.false_or, decide_eq_false_iff_not] at h; simp only [Bool.true_and, decide_eq_true_eq]; omega
  rw [this]; rfl
def ptsOf (x : Snap) (id : Int) : List Int := (if x.a == id then [x.ata] else []) ++ if x.b == id then [x.lo, x.hi] else []
def rawPts (l : List Snap) (id : Int) : List Int := l.flatMap (ptsOf · id)
theorem ptsOf_len (x : Snap) (id : Int) : (ptsOf x id).length ≤ 3 := by unfold ptsOf; split <;> split <;> simp
theorem rawPts_len : ∀ (l : List Snap) (id : Int), (rawPts l id).length ≤ 3 * l.length
  | [], _ => by simp [rawPts]
  | x :: r, id => by
    have h := rawPts_len r id
    have h2 := ptsOf_len x id
    simp only [rawPts, List.flatMap_cons, List.length_append, List.length_cons] at *; omega
theorem rawPts_take_len (l : List Snap) (id : Int) (i : Nat) : (rawPts (l.take i) id).length ≤ 3 * i := by
  have := rawPts_len (l.take i) id
  rw [List.length_take] at this; omega
theorem rawPts_take (l : List Snap) (id : Int) {i : Nat} (h : i < l.length) : rawPts (l.take (i + 1)) id = rawPts (l.take i) id ++ ptsOf l[i]! id := by
  rw [take_bang h]; simp only [rawPts, List.flatMap_append, List.flatMap_cons, List.flatMap_nil, List.append_nil]
theorem doms_zero {d : List Dom} : ∀ (k : Nat), k ≤ d.length → doms d (d.drop k) k = 0 → ∀ i, k ≤ i → i < d.length → ¬ 0 ≤ idx (d.take i) d[i]!.id 0
  | k, hk, h, i, hki, hi => by
    have hlt : k < d.length := by omega
    rw [drop_bang hlt] at h
    simp only [doms] at h
    split at h
    · cases h
    · split at h
      · cases h
      · rename_i h1 h2
        rcases Nat.eq_or_lt_of_le hki with e | e
        · subst e; exact h2
        · exact doms_zero (k + 1) hlt h i e hi
  termination_by k => d.length - k
theorem doms_of_check {d : List Dom} {l : List Snap} (h : checkF d l = 0) : doms d d 0 = 0 := by
  unfold checkF at h
  split at h
  · cases h
  · split at h
    · cases h
    · split at h
      · split at h
        · rename_i h4; simpa using h4
        · rename_i h4; exact absurd (by simpa using h) h4
      · cases h
theorem idx_hit (d : List Dom) (i : Nat) (hi : i < d.length) : idx d d[i]!.id 0 ≤ (i : Int) ∧ 0 ≤ idx d d[i]!.id 0 := by
  have hs : d = d.take i ++ d[i]! :: d.drop (i + 1) := by rw [← drop_bang hi, List.take_append_drop]
  have hl : (d.take i).length = i := by rw [List.length_take]; omega
  have h1 := idx_lt (d.take i) d[i]!.id 0
  have := idx_append (d.take i) (d[i]! :: d.drop (i + 1)) d[i]!.id 0
  rw [← hs] at this
  rw [this, hl]
  have e2 : idx (d[i]! :: d.drop (i + 1)) d[i]!.id (0 + i) = (i : Int) := by simp only [idx, beq_self_eq_true, if_true, Nat.zero_add]
  rw [e2]
  split
  · rename_i h; have := h1.2 h; omega
  · omega
theorem ppm_at {d : List Dom} {i : Nat} (h : checkF d [] = 0) (hi : i < d.length) : ppmF d d[i]!.id = (d[i]!.ppm, true) := by
  have h1 := doms_zero 0 (Nat.zero_le _) (by rw [List.drop_zero]; exact doms_of_check h) i (Nat.zero_le _) hi
  have h2 := idx_hit d i hi
  have h3 : ¬ idx d d[i]!.id 0 < (i : Int) := fun q => h1 ((idx_ahead d i hi).1 q)
  have e : idx d d[i]!.id 0 = (i : Int) := by omega
  unfold ppmF
  rw [h, e]
  simp
theorem Dom.of : ∀ cs, okAll [.int .i64, .int .i64] cs → ∃ x, cs = Dom.c x ∧ True := fun cs h => by
  obtain ⟨v0, v1, rfl, ⟨a, rfl, _⟩, ⟨b, rfl, _⟩⟩ := okAll_2 h
  exact ⟨⟨a, b⟩, rfl, trivial⟩
theorem Snap.of : ∀ cs, okAll [.int .i64, .int .i64, .int .i64, .int .i64, .int .i64] cs → ∃ x, cs = Snap.c x ∧ True := fun cs h => by
  obtain ⟨v0, v1, v2, v3, v4, rfl, ⟨a, rfl, _⟩, ⟨b, rfl, _⟩, ⟨c, rfl, _⟩, ⟨d, rfl, _⟩, ⟨e, rfl, _⟩⟩ := okAll_5 h
  exact ⟨⟨a, b, c, d, e⟩, rfl, trivial⟩
end Ck
end Go.Proofs.Ytnmmnkmmmfhdbaa
