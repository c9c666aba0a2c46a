/- Quantiles in plain Lean: the least element with enough elements below is the sorted list's. Conditions: none. -/
import Derived.Test.YteaalclidffjgaaDoorNqSpec
import Derived.Test.YteaalclidffjgaaDoorInc
namespace Go.Proofs.YteaalclidffjgaaDoor
open Go Go.Eng
namespace Nq
def cnt (l : List Int) (x : Int) : Nat := l.countP fun y => decide (y ≤ x)
def qd (l : List Int) (k n : Int) : Bool := ((((((l.length : Nat) : Int) == 0) || decide (n < 1)) || decide (n > 1000000000000000)) || decide (k < 0)) || decide (k > n)
theorem qd_no {l : List Int} {k n : Int} (h : qd l k n = false) : 0 < l.length ∧ 1 ≤ n ∧ n ≤ 1000000000000000 ∧ 0 ≤ k ∧ k ≤ n := by
  unfold qd at h
  simp only [Bool.or_eq_false_iff, beq_eq_false_iff_ne, decide_eq_false_iff_not] at h
  omega
def need (l : List Int) (k n : Int) : Int := if k * (l.length : Nat) % n > 0 then k * (l.length : Nat) / n + 1 else k * (l.length : Nat) / n
def qix (l : List Int) (k n : Int) : Nat := (max (need l k n) 1 - 1).toNat
def qt (l : List Int) (k n : Int) : Int × Bool := if qd l k n then (0, false) else ((Inc.srt l)[qix l k n]!, true)
theorem need_spec {l : List Int} {k n : Int} (h : qd l k n = false) : 0 ≤ need l k n ∧ need l k n ≤ l.length ∧ k * (l.length : Nat) ≤ n * need l k n ∧ ∀ c : Int, k * (l.length : Nat) ≤ n * c → need l k n ≤ c := by
  obtain ⟨h1, h2, h3, h4, h5⟩ := qd_no h
  have hp : 0 ≤ k * (l.length : Nat) := Int.mul_nonneg h4 (by omega)
  have hq : k * (l.length : Nat) ≤ n * (l.length : Nat) := Int.mul_le_mul_of_nonneg_right h5 (by omega)
  have hd := Int.mul_ediv_add_emod (k * (l.length : Nat)) n
  have h6 := Int.emod_nonneg (k * (l.length : Nat)) (show n ≠ 0 by omega)
  have h7 := Int.emod_lt_of_pos (k * (l.length : Nat)) (show 0 < n by omega)
  have h8 : 0 ≤ k * (l.length : Nat) / n := Int.ediv_nonneg hp (by omega)
  have hmin : ∀ c : Int, k * (l.length : Nat) ≤ n * c → need l k n ≤ c := fun c hc => by
    unfold need
    have h9 : k * (l.length : Nat) / n ≤ c := Int.ediv_le_of_le_mul (show 0 < n by omega) (by rw [Int.mul_comm c n]; exact hc)
    split
    · rcases Int.lt_or_eq_of_le h9 with h10 | h10
      · omega
      · rw [h10] at hd; omega
    · exact h9
  refine ⟨?_, hmin _ hq, ?_, hmin⟩
  · unfold need; split <;> omega
  · unfold need
    split
    · rw [Int.mul_add]; omega
    · omega
theorem qix_lt {l : List Int} {k n : Int} (h : qd l k n = false) : qix l k n < l.length := by
  obtain ⟨h1, h2, _, _⟩ := need_spec h
  have := (qd_no h).1
  unfold qix; omega
theorem qix_yes {l : List Int} {k n : Int} (h : qd l k n = false) (hr : k * (l.length : Nat) % n > 0) : max (k * (l.length : Nat) / n + 1) 1 - 1 = ((qix l k n : Nat) : Int) := by
  unfold qix need; rw [if_pos hr]; omega
theorem qix_no {l : List Int} {k n : Int} (h : qd l k n = false) (hr : ¬ k * (l.length : Nat) % n > 0) : max (k * (l.length : Nat) / n) 1 - 1 = ((qix l k n : Nat) : Int) := by
  unfold qix need; rw [if_neg hr]; omega
theorem split64 (p : Int) : p / 18446744073709551616 * 18446744073709551616 + p % 18446744073709551616 = p := by omega
theorem q_bounds {l : List Int} {k n : Int} (h : qd l k n = false) (hl : l.length ≤ 100000) : 0 ≤ k * (l.length : Nat) ∧ k * (l.length : Nat) ≤ n * 100000 ∧ 0 ≤ k * (l.length : Nat) / n ∧ k * (l.length : Nat) / n ≤ 100000 := by
  obtain ⟨h1, h2, h3, h4, h5⟩ := qd_no h
  have hp : 0 ≤ k * (l.length : Nat) := Int.mul_nonneg h4 (by omega)
  have hq : k * (l.length : Nat) ≤ n * (l.length : Nat) := Int.mul_le_mul_of_nonneg_right h5 (by omega)
  have hr : n * (l.length : Nat) ≤ n * 100000 := Int.mul_le_mul_of_nonneg_left (by omega) (by omega)
  have ht : k * (l.length : Nat) ≤ n * 100000 := Int.le_trans hq hr
  exact ⟨hp, ht, Int.ediv_nonneg hp (by omega), Int.ediv_le_of_le_mul (by omega) (by rw [Int.mul_comm 100000 n]; exact ht)⟩
theorem cnt_perm {l r : List Int} (h : l.Perm r) (x : Int) : cnt l x = cnt r x := h.countP_eq _
theorem srt_perm (l : List Int) : (Inc.srt l).Perm l := List.mergeSort_perm ..
theorem srt_at {s : List Int} (hs : s.Pairwise (· ≤ ·)) {i j : Nat} (h : i ≤ j) (hj : j < s.length) : s[i]! ≤ s[j]! := by
  rcases Nat.lt_or_eq_of_le h with h1 | rfl
  · have := List.pairwise_iff_getElem.1 hs i j (by omega) hj h1
    simpa [List.getElem!_eq_getElem?_getD, List.getElem?_eq_getElem hj, List.getElem?_eq_getElem (show i < s.length by omega)] using this
  · exact Int.le_refl _
theorem mem_bang {s : List Int} {x : Int} (h : x ∈ s) : ∃ j, j < s.length ∧ s[j]! = x := by
  obtain ⟨j, hj, e⟩ := List.mem_iff_getElem.1 h
  exact ⟨j, hj, by simpa [List.getElem!_eq_getElem?_getD, List.getElem?_eq_getElem hj] using e⟩
theorem bang_in {s : List Int} {j : Nat} (h : j < s.length) : s[j]! ∈ s := by
  rw [List.getElem!_eq_getElem?_getD, List.getElem?_eq_getElem h]; exact List.getElem_mem h
theorem cnt_ge {s : List Int} (hs : s.Pairwise (· ≤ ·)) {m : Nat} (hm : m < s.length) : m + 1 ≤ cnt s s[m]! := by
  have h1 : cnt s s[m]! = cnt (s.take (m + 1)) s[m]! + cnt (s.drop (m + 1)) s[m]! := by
    unfold cnt; rw [← List.countP_append, List.take_append_drop]
  have h2 : cnt (s.take (m + 1)) s[m]! = m + 1 := by
    unfold cnt
    rw [List.countP_eq_length.2, List.length_take]
    · omega
    · intro x hx
      obtain ⟨j, hj, _, rfl⟩ := Inc.mem_take_bang hx
      exact decide_eq_true (srt_at hs (by omega) hm)
  omega
theorem cnt_le {s : List Int} (hs : s.Pairwise (· ≤ ·)) {m : Nat} {y : Int} (hm : m < s.length) (hy : y < s[m]!) : cnt s y ≤ m := by
  have h1 : cnt s y = cnt (s.take m) y + cnt (s.drop m) y := by
    unfold cnt; rw [← List.countP_append, List.take_append_drop]
  have h2 : cnt (s.take m) y ≤ m := by
    have := List.countP_le_length (p := fun z => decide (z ≤ y)) (l := s.take m)
    rw [List.length_take] at this
    unfold cnt; omega
  have h3 : cnt (s.drop m) y = 0 := by
    unfold cnt
    rw [List.countP_eq_zero]
    intro x hx
    obtain ⟨j, hj, e⟩ := mem_bang hx
    have hd : (s.drop m)[j]! = s[m + j]! := by simp [List.getElem!_eq_getElem?_getD, List.getElem?_drop]
    rw [List.length_drop] at hj
    have := srt_at hs (show m ≤ m + j by omega) (by omega)
    rw [hd] at e
    simp only [decide_eq_true_eq]; omega
  omega
theorem cnt_pos {l : List Int} {x : Int} (h : x ∈ l) : 1 ≤ cnt l x := by
  unfold cnt
  exact List.countP_pos_iff.2 ⟨x, h, by simp⟩
theorem cnt_len (l : List Int) (x : Int) : cnt l x ≤ l.length := List.countP_le_length
/-- The least element with enough elements that are not greater. -/
theorem q_least {l : List Int} {k n best : Int} (h : qd l k n = false) (hb : best ∈ l) (hok : k * (l.length : Nat) ≤ n * (cnt l best : Nat)) (hmin : ∀ y, y ∈ l → k * (l.length : Nat) ≤ n * (cnt l y : Nat) → best ≤ y) : (Inc.srt l)[qix l k n]! = best := by
  obtain ⟨h1, h2, h3, h4⟩ := need_spec h
  obtain ⟨g1, g2, g3, g4, g5⟩ := qd_no h
  have hlt := qix_lt h
  have hs := Inc.srt_sorted l
  have hl := Inc.srt_len l
  have hx : (Inc.srt l)[qix l k n]! ∈ l := (Inc.srt_mem l _).1 (bang_in (by omega))
  have hc := cnt_ge hs (show qix l k n < (Inc.srt l).length by omega)
  rw [cnt_perm (srt_perm l)] at hc
  have hle : best ≤ (Inc.srt l)[qix l k n]! := by
    refine hmin _ hx (Int.le_trans h3 ?_)
    refine Int.mul_le_mul_of_nonneg_left ?_ (by omega)
    unfold qix at hc ⊢; omega
  rcases Int.lt_or_eq_of_le hle with hlt2 | he
  · exfalso
    have hc2 := cnt_le hs (show qix l k n < (Inc.srt l).length by omega) hlt2
    rw [cnt_perm (srt_perm l)] at hc2
    have := h4 _ hok
    have := cnt_pos hb
    unfold qix at hc2; omega
  · exact he.symm
/-- What the quantile is: an element, with enough not greater, and the least such. -/
theorem q_is {l : List Int} {k n : Int} (h : qd l k n = false) : (Inc.srt l)[qix l k n]! ∈ l := by
  have hl := Inc.srt_len l
  have := qix_lt h
  exact (Inc.srt_mem l _).1 (bang_in (by omega))
/-- The search of the reference. -/
structure QS (l : List Int) (k n : Int) (i : Nat) (best : Int) (found : Bool) : Prop where
  no : found = false → ∀ j, j < i → ¬ k * (l.length : Nat) ≤ n * (cnt l l[j]! : Nat)
  is : found = true → best ∈ l ∧ k * (l.length : Nat) ≤ n * (cnt l best : Nat)
  least : found = true → ∀ j, j < i → k * (l.length : Nat) ≤ n * (cnt l l[j]! : Nat) → best ≤ l[j]!
theorem QS.init (l : List Int) (k n : Int) : QS l k n 0 0 false := ⟨fun _ j hj => absurd hj (Nat.not_lt_zero j), fun h => (by cases h), fun h => (by cases h)⟩
theorem QS.take_ {l : List Int} {k n best : Int} {i : Nat} {found : Bool} (h : QS l k n i best found) (hi : i < l.length) (hc : (decide (n * (cnt l l[i]! : Nat) ≥ k * (l.length : Nat)) && (!found || decide (l[i]! < best))) = true) : QS l k n (i + 1) l[i]! true := by
  simp only [Bool.and_eq_true, decide_eq_true_eq, Bool.or_eq_true, Bool.not_eq_true'] at hc
  refine ⟨fun e => (by cases e), fun _ => ⟨bang_in hi, hc.1⟩, fun _ j hj hok => ?_⟩
  rcases Nat.lt_succ_iff_lt_or_eq.1 hj with hj | rfl
  · rcases hc.2 with hf | hlt
    · exact absurd hok (h.no hf j hj)
    · cases hf : found with
      | false => exact absurd hok (h.no hf j hj)
      | true => have := h.least hf j hj hok; omega
  · exact Int.le_refl _
theorem QS.pass {l : List Int} {k n best : Int} {i : Nat} {found : Bool} (h : QS l k n i best found) (hc : (decide (n * (cnt l l[i]! : Nat) ≥ k * (l.length : Nat)) && (!found || decide (l[i]! < best))) = false) : QS l k n (i + 1) best found := by
  simp only [Bool.and_eq_false_iff, decide_eq_false_iff_not, Bool.or_eq_false_iff, Bool.not_eq_false'] at hc
  refine ⟨fun hf j hj => ?_, h.is, fun hf j hj hok => ?_⟩
  · rcases Nat.lt_succ_iff_lt_or_eq.1 hj with hj | rfl
    · exact h.no hf j hj
    · rcases hc with hc | hc
      · exact fun q => hc q
      · rw [hf] at hc; cases hc.1
  · rcases Nat.lt_succ_iff_lt_or_eq.1 hj with hj | rfl
    · exact h.least hf j hj hok
    · rcases hc with hc | hc
      · exact absurd hok (fun q => hc q)
      · omega
theorem QS.fin {l : List Int} {k n best : Int} {found : Bool} (hd : qd l k n = false) (h : QS l k n l.length best found) : (best, true) = qt l k n := by
  obtain ⟨g1, g2, g3, g4, g5⟩ := qd_no hd
  have hf : found = true := by
    cases hf : found with
    | true => rfl
    | false =>
      exfalso
      have hs := Inc.srt_sorted l
      have hl := Inc.srt_len l
      have hm : (Inc.srt l)[l.length - 1]! ∈ l := (Inc.srt_mem l _).1 (bang_in (by omega))
      obtain ⟨j, hj, e⟩ := mem_bang hm
      refine h.no hf j hj ?_
      rw [e]
      have hc := cnt_ge hs (show l.length - 1 < (Inc.srt l).length by omega)
      rw [cnt_perm (srt_perm l)] at hc
      refine Int.le_trans (Int.mul_le_mul_of_nonneg_right g5 (by omega)) (Int.mul_le_mul_of_nonneg_left (by omega) (by omega))
  obtain ⟨h1, h2⟩ := h.is hf
  unfold qt
  rw [hd, if_neg Bool.false_ne_true, q_least hd h1 h2 fun y hy hok => ?_]
  obtain ⟨j, hj, rfl⟩ := mem_bang hy
  exact h.least hf j hj hok
theorem cnt_step {l : List Int} {x : Int} {j : Nat} (h : j < l.length) : cnt (l.take (j + 1)) x = cnt (l.take j) x + if l[j]! ≤ x then 1 else 0 := by
  unfold cnt
  rw [List.take_add_one, List.countP_append, List.getElem?_eq_getElem h, List.getElem!_eq_getElem?_getD, List.getElem?_eq_getElem h]
  simp
theorem cnt_yes {l : List Int} {x : Int} {j c : Nat} (h : j < l.length) (hc : c = cnt (l.take j) x) (hx : l[j]! ≤ x) : c + 1 = cnt (l.take (j + 1)) x := by rw [cnt_step h, if_pos hx, hc]
theorem cnt_no {l : List Int} {x : Int} {j c : Nat} (h : j < l.length) (hc : c = cnt (l.take j) x) (hx : ¬ l[j]! ≤ x) : c = cnt (l.take (j + 1)) x := by rw [cnt_step h, if_neg hx, hc]; rfl
theorem cnt_all {l : List Int} {x : Int} {j c : Nat} (h : l.length ≤ j) (hc : c = cnt (l.take j) x) : c = cnt l x := by rw [hc, List.take_of_length_le h]
/-! What the law asks. -/
theorem qt_bad {l : List Int} {k n : Int} (h : qd l k n = true) : qt l k n = (0, false) := by unfold qt; rw [h, if_pos rfl]
theorem qt_good {l : List Int} {k n : Int} (h : qd l k n = false) : qt l k n = ((Inc.srt l)[qix l k n]!, true) := by unfold qt; rw [h, if_neg Bool.false_ne_true]
theorem srt_rev (l : List Int) : Inc.srt l.reverse = Inc.srt l := by
  have h : (Inc.srt l.reverse).Perm (Inc.srt l) := ((srt_perm _).trans (List.reverse_perm l)).trans (srt_perm l).symm
  exact h.eq_of_pairwise (le := (· ≤ ·)) (fun a b _ _ h1 h2 => Int.le_antisymm h1 h2) (Inc.srt_sorted _) (Inc.srt_sorted _)
theorem qt_rev (l : List Int) (k n : Int) : qt l.reverse k n = qt l k n := by
  unfold qt qd qix need; rw [srt_rev, List.length_reverse]
theorem qix_mono {l : List Int} {k k' n : Int} (h : qd l k n = false) (h' : qd l k' n = false) (hk : k ≤ k') : qix l k n ≤ qix l k' n := by
  have h1 := need_spec h
  have h2 := need_spec h'
  have : need l k n ≤ need l k' n := h1.2.2.2 _ (Int.le_trans (Int.mul_le_mul_of_nonneg_right hk (by omega)) h2.2.2.1)
  unfold qix; omega
theorem q_mono {l : List Int} {k k' n : Int} (h : qd l k n = false) (h' : qd l k' n = false) (hk : k ≤ k') : (Inc.srt l)[qix l k n]! ≤ (Inc.srt l)[qix l k' n]! :=
  srt_at (Inc.srt_sorted l) (qix_mono h h' hk) (by rw [Inc.srt_len]; exact qix_lt h')
theorem q_first {l : List Int} {n : Int} (h : qd l 0 n = false) : qix l 0 n = 0 := by
  unfold qix need; simp only [Int.zero_mul, Int.zero_emod, Int.zero_ediv]; rfl
theorem q_last {l : List Int} {n : Int} (h : qd l n n = false) : qix l n n = l.length - 1 := by
  obtain ⟨g1, g2, g3, g4, g5⟩ := qd_no h
  have h1 := need_spec h
  have : ((l.length : Nat) : Int) ≤ need l n n := by
    have := h1.2.2.1
    exact Int.le_of_mul_le_mul_left this (by omega)
  have e : need l n n = (l.length : Nat) := by omega
  unfold qix; rw [e]; omega
end Nq
end Go.Proofs.YteaalclidffjgaaDoor
