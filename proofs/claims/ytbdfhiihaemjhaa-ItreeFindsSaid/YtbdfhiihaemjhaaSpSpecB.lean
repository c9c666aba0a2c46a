/- Sets of times as lists of spans, in plain Lean: lengths, the look at a list, insertion. Conditions: none. -/
import Derived.Test.YtbdfhiihaemjhaaSpSpec
import Derived.Test.YtbdfhiihaemjhaaNest
namespace Go.Proofs.Ytbdfhiihaemjhaa
open Go Go.Eng
namespace Sp
/-! How many times. -/
def one : Bool → Int
  | true => 1
  | false => 0
def cnt (p : Int → Bool) : Nat → Int
  | 0 => 0
  | n + 1 => cnt p n + one (p (n : Int))
theorem cnt_congr {p r : Int → Bool} (h : ∀ q, p q = r q) : ∀ n, cnt p n = cnt r n
  | 0 => rfl
  | n + 1 => by rw [cnt, cnt, cnt_congr h n, h]
theorem cnt_or (p r : Int → Bool) : ∀ n, cnt (fun q => p q || r q) n + cnt (fun q => p q && r q) n = cnt p n + cnt r n
  | 0 => rfl
  | n + 1 => by
    have := cnt_or p r n
    simp only [cnt]
    cases p (n : Int) <;> cases r (n : Int) <;> simp only [one, Bool.or_true, Bool.or_false, Bool.and_true, Bool.and_false, Bool.not_true, Bool.not_false, Bool.true_or, Bool.false_or, Bool.true_and, Bool.false_and] <;> omega
theorem cnt_not (p r : Int → Bool) : ∀ n, cnt (fun q => p q && !r q) n + cnt (fun q => p q && r q) n = cnt p n
  | 0 => rfl
  | n + 1 => by
    have := cnt_not p r n
    simp only [cnt]
    cases p (n : Int) <;> cases r (n : Int) <;> simp only [one, Bool.or_true, Bool.or_false, Bool.and_true, Bool.and_false, Bool.not_true, Bool.not_false, Bool.true_or, Bool.false_or, Bool.true_and, Bool.false_and] <;> omega
theorem cnt_false {p : Int → Bool} (h : ∀ q, p q = false) : ∀ n, cnt p n = 0
  | 0 => rfl
  | n + 1 => by rw [cnt, cnt_false h n, h]; rfl
theorem cnt_inn {x : S} (hx : ok x = true) : ∀ n : Nat, cnt (inn x) n = max 0 (min (n : Int) x.t - x.f)
  | 0 => by have := (ok_iff x).1 hx; simp only [cnt]; omega
  | n + 1 => by
    have ox := (ok_iff x).1 hx
    have ih := cnt_inn hx n
    rw [cnt, ih]
    by_cases hq : inn x (n : Int) = true
    · have := (inn_iff x _).1 hq
      rw [hq, one]; omega
    · rw [show inn x (n : Int) = false by simpa using hq, one]
      have : ¬ (x.f ≤ (n : Int) ∧ (n : Int) < x.t) := fun hh => hq ((inn_iff x _).2 ⟨hx, hh⟩)
      omega
def len (l : List S) : Int := (l.map fun x => x.t - x.f).sum
theorem len_cnt : ∀ {l : List S}, Norm l → len l = cnt (cov l) 1000000000000
  | [], _ => (cnt_false (p := cov []) (fun _ => rfl) _).symm
  | x :: r, h => by
    have ih := len_cnt h.tail
    have ox := (ok_iff x).1 (h.1 x List.mem_cons_self)
    have h1 := cnt_or (inn x) (cov r) 1000000000000
    have h2 : cnt (fun q => inn x q && cov r q) 1000000000000 = 0 := cnt_false (fun q => by
      cases hc : cov r q with
      | false => rw [Bool.and_false]
      | true =>
        have hf := h.far hc
        have : inn x q = false := by
          cases hi : inn x q with
          | false => rfl
          | true => have := (inn_iff x q).1 hi; omega
        rw [this, Bool.false_and]) _
    have h3 := cnt_inn (h.1 x List.mem_cons_self) 1000000000000
    have h4 : cnt (cov (x :: r)) 1000000000000 = cnt (fun q => inn x q || cov r q) 1000000000000 := cnt_congr (fun q => cov_cons x r q) _
    have h5 : len (x :: r) = (x.t - x.f) + len r := by simp [len]
    omega
def lenF (l : List S) : Int := len (norm l)
theorem lenF_cnt (l : List S) : lenF l = cnt (cov l) 1000000000000 := (len_cnt (norm_norm l)).trans (cnt_congr (fun q => norm_cov l q) _)
theorem len_rng : ∀ {l : List S}, (∀ x ∈ l, ok x = true) → 0 ≤ len l ∧ len l ≤ 1000000000000 * (l.length : Int)
  | [], _ => by simp [len]
  | x :: r, h => by
    have ih := len_rng fun y hy => h y (List.mem_cons_of_mem _ hy)
    have ox := (ok_iff x).1 (h x List.mem_cons_self)
    have h5 : len (x :: r) = (x.t - x.f) + len r := by simp [len]
    rw [h5, List.length_cons]
    omega
theorem len_take {l : List S} {i : Nat} (h : i < l.length) : len (l.take (i + 1)) = len (l.take i) + l[i]!.t - l[i]!.f := by
  unfold len
  rw [take_bang h, List.map_append, List.sum_append]
  simp only [List.map_cons, List.map_nil, List.sum_cons, List.sum_nil]
  omega
theorem len_take_rng {l : List S} (h : ∀ x ∈ l, ok x = true) (i : Nat) : 0 ≤ len (l.take i) ∧ len (l.take i) ≤ 1000000000000 * (i : Int) := by
  have := len_rng (l := l.take i) fun x hx => h x (List.mem_of_mem_take hx)
  have h2 : (l.take i).length ≤ i := List.length_take_le _ _
  omega
/-! Whether a list is normal. -/
def isNorm (l : List S) : Bool := decide (∀ i, i < l.length → ok l[i]! = true ∧ (0 < i → l[i - 1]!.t < l[i]!.f))
theorem isNorm_iff (l : List S) : isNorm l = true ↔ Norm l := by
  unfold isNorm
  rw [decide_eq_true_eq]
  constructor
  · intro h
    refine ⟨fun x hx => ?_, ?_⟩
    · obtain ⟨i, hi, rfl⟩ := List.mem_iff_getElem.1 hx
      have := (h i hi).1
      rwa [getElem!_pos l i hi] at this
    · rw [List.pairwise_iff_getElem]
      have key : ∀ (d i : Nat), i + d + 1 < l.length → l[i]!.t < l[i + d + 1]!.f := by
        intro d
        induction d with
        | zero =>
          intro i hi
          have := (h (i + 1) (by omega)).2 (by omega)
          simpa using this
        | succ d ih =>
          intro i hi
          have h1 := ih i (by omega)
          have h2 := (h (i + (d + 1) + 1) hi).2 (by omega)
          have h3 := (ok_iff _).1 (h (i + d + 1) (by omega)).1
          rw [show i + (d + 1) + 1 - 1 = i + d + 1 by omega] at h2
          omega
      intro i j hi hj hij
      have := key (j - i - 1) i (by omega)
      rw [show i + (j - i - 1) + 1 = j by omega, getElem!_pos l i hi, getElem!_pos l j hj] at this
      exact this
  · intro h i hi
    refine ⟨by rw [getElem!_pos l i hi]; exact h.1 _ (List.getElem_mem hi), fun h0 => ?_⟩
    have := List.pairwise_iff_getElem.1 h.2 (i - 1) i (by omega) hi (by omega)
    rwa [getElem!_pos l i hi, getElem!_pos l (i - 1) (by omega)]
theorem isNorm_yes {l : List S} (h : Norm l) : isNorm l = true := (isNorm_iff l).2 h
theorem isNorm_up {l : List S} (h : ∀ i, i < l.length → ok l[i]! = true ∧ (0 < i → l[i - 1]!.t < l[i]!.f)) : isNorm l = true := decide_eq_true h
theorem isNorm_no {l : List S} {i : Nat} (hi : i < l.length) (h : ¬(ok l[i]! = true ∧ (0 < i → l[i - 1]!.t < l[i]!.f))) : isNorm l = false := decide_eq_false fun hh => h (hh i hi)
theorem isNorm_same (l : List S) : isNorm l = decide (norm l = l) := by
  rw [Bool.eq_iff_iff, isNorm_iff, decide_eq_true_eq]
  exact ⟨fun h => (norm_eq h fun _ => rfl).symm, fun h => h ▸ norm_norm l⟩
/-! The laws. -/
theorem cov_union (a b : List S) (q : Int) : cov (norm (a ++ b)) q = (cov a q || cov b q) := by rw [norm_cov, cov_append]
def both (a b : Bool) : Bool := a && b
def first (a b : Bool) : Bool := a && !b
theorem cov_meet (a b : List S) (q : Int) : cov (comb both a b) q = (cov a q && cov b q) := comb_cov rfl a b q
theorem cov_minus (a b : List S) (q : Int) : cov (comb first a b) q = (cov a q && !cov b q) := comb_cov rfl a b q
theorem lenF_norm (l : List S) : lenF (norm l) = lenF l := by unfold lenF; rw [← norm_eq (norm_norm l) fun _ => rfl]
theorem len_union (a b : List S) : lenF (norm (a ++ b)) + lenF (comb both a b) = lenF a + lenF b := by
  rw [lenF_cnt, lenF_cnt, lenF_cnt, lenF_cnt, cnt_congr (cov_union a b), cnt_congr (cov_meet a b)]
  exact cnt_or _ _ _
theorem len_minus (a b : List S) : lenF (comb first a b) + lenF (comb both a b) = lenF a := by
  rw [lenF_cnt, lenF_cnt, lenF_cnt, cnt_congr (cov_minus a b), cnt_congr (cov_meet a b)]
  exact cnt_not _ _ _
theorem parts_apart (a b : List S) : comb both (comb both a b) (comb first a b) = [] := by
  refine norm_unique (comb_norm _ _ _) Norm.nil fun q => ?_
  rw [cov_meet, cov_meet, cov_minus, cov_nil]
  cases cov a q <;> cases cov b q <;> rfl
theorem parts_whole (a b : List S) : norm (comb both a b ++ comb first a b) = norm a := by
  refine norm_congr fun q => ?_
  rw [cov_append, cov_meet, cov_minus]
  cases cov a q <;> cases cov b q <;> rfl
theorem meet_comm (a b : List S) : comb both b a = comb both a b := by
  refine norm_unique (comb_norm _ _ _) (comb_norm _ _ _) fun q => ?_
  rw [cov_meet, cov_meet, Bool.and_comm]
/-- The list from its end, each span twice. -/
def back (l : List S) (i : Nat) : List S := (l.drop i).reverse.flatMap fun x => [x, x]
theorem back_step {l : List S} {i : Nat} (h : i < l.length) : back l i = back l (i + 1) ++ [l[i]!, l[i]!] := by
  unfold back
  rw [drop_bang h, List.reverse_cons, List.flatMap_append]; rfl
theorem back_len {l : List S} {i : Nat} (h : i ≤ l.length) : (back l i).length = 2 * (l.length - i) := by
  have : ∀ (r : List S), (r.flatMap fun x => [x, x]).length = 2 * r.length := by
    intro r
    induction r with
    | nil => rfl
    | cons x r ih => rw [List.flatMap_cons, List.length_append, ih, List.length_cons]; simp; omega
  unfold back
  rw [this, List.length_reverse, List.length_drop]
theorem norm_back (l : List S) : norm (back l 0) = norm l := by
  refine norm_congr fun q => cov_congr (fun x _ => ?_) q
  unfold back
  rw [List.drop_zero, List.mem_flatMap]
  constructor
  · rintro ⟨y, hy, hx⟩
    have : x = y := by simpa using hx
    subst this; simpa using hy
  · intro hx; exact ⟨x, by simpa using hx, by simp⟩
theorem norm_idem (l : List S) : norm (norm l) = norm l := (norm_eq (norm_norm l) fun _ => rfl).symm
/-- The times of a list: the first, then all ends. -/
def times (t : Int) (a : List S) (i : Nat) : List Int := t :: (a.take i).flatMap fun x => [x.f, x.t]
theorem times_succ (t : Int) {a : List S} {i : Nat} (h : i < a.length) : times t a (i + 1) = times t a i ++ [a[i]!.f, a[i]!.t] := by
  unfold times
  rw [take_bang h, List.flatMap_append]; rfl
theorem times_len (t : Int) {a : List S} {i : Nat} (h : i ≤ a.length) : (times t a i).length = 2 * i + 1 := by
  have : ∀ (r : List S), (r.flatMap fun x => [x.f, x.t]).length = 2 * r.length := by
    intro r
    induction r with
    | nil => rfl
    | cons x r ih => rw [List.flatMap_cons, List.length_append, ih, List.length_cons]; simp; omega
  unfold times
  rw [List.length_cons, this, List.length_take]; omega
/-! Insertion, as the reference does it. -/
def seen (l : List Int) (n : Int) (i : Nat) : Bool := (l.take i).any fun x => decide (n ≤ x)
def putUp (l : List Int) (n : Int) (i : Nat) : List Int := if seen l n i then Inc.put (l.take i) n else l.take i
theorem seen_succ {l : List Int} {n : Int} {i : Nat} (h : i < l.length) : seen l n (i + 1) = (seen l n i || decide (n ≤ l[i]!)) := by
  unfold seen; rw [take_bang h, List.any_append]; simp
theorem put_low : ∀ {l : List Int} {n : Int}, (l.any fun x => decide (n ≤ x)) = false → Inc.put l n = l ++ [n]
  | [], n, _ => rfl
  | y :: r, n, h => by
    rw [List.any_cons] at h
    have h1 := dec_f (or_f h).1
    rw [Inc.put, if_neg (by omega), if_neg (by omega), put_low (or_f h).2]; rfl
theorem put_high : ∀ {p : List Int} {n x : Int}, Inc.Rising (p ++ [x]) → (p.any fun y => decide (n ≤ y)) = true → Inc.put (p ++ [x]) n = Inc.put p n ++ [x]
  | [], n, x, _, h => by cases h
  | y :: r, n, x, hr, h => by
    have hr' : Inc.Rising (r ++ [x]) := (List.pairwise_cons.1 hr).2
    rw [List.cons_append, Inc.put, Inc.put]
    split
    · rfl
    · split
      · rfl
      · rename_i h1 h2
        rw [List.any_cons] at h
        rcases or_t h with h | h
        · have := dec_t h; omega
        · rw [put_high hr' h]; rfl
theorem seen_lt {l : List Int} (hr : Inc.Rising l) {n : Int} {i : Nat} (h : i < l.length) (hs : seen l n i = true) : n < l[i]! := by
  obtain ⟨x, hx, hd⟩ := List.any_eq_true.1 hs
  obtain ⟨j, hj, hj2, rfl⟩ := Inc.mem_take_bang hx
  have h1 := Inc.inc_at hr hj h
  have h2 := dec_t hd
  omega
theorem rising_take {l : List Int} (hr : Inc.Rising l) (i : Nat) : Inc.Rising (l.take i) := hr.sublist (List.take_sublist _ _)
theorem put_skip {l : List Int} {n : Int} {i : Nat} (h : i < l.length) (hr : Inc.Rising l) (hs : seen l n i = true) : putUp l n (i + 1) = putUp l n i ++ [l[i]!] := by
  unfold putUp
  rw [seen_succ h, hs, Bool.true_or, if_pos rfl, if_pos rfl, take_bang h]
  exact put_high (by rw [← take_bang h]; exact rising_take hr _) hs
theorem put_here {l : List Int} {n : Int} {i : Nat} (h : i < l.length) (hr : Inc.Rising l) (hs : seen l n i = false) (hn : n < l[i]!) : putUp l n (i + 1) = putUp l n i ++ [n] ++ [l[i]!] := by
  unfold putUp
  rw [seen_succ h, hs, Bool.false_or, decide_eq_true (Int.le_of_lt hn), if_pos rfl, if_neg Bool.false_ne_true, take_bang h]
  have : ∀ (p : List Int) (x : Int), (p.any fun y => decide (n ≤ y)) = false → n < x → Inc.put (p ++ [x]) n = p ++ [n] ++ [x] := by
    intro p
    induction p with
    | nil => intro x _ hx; show Inc.put [x] n = [n, x]; rw [Inc.put, if_pos hx]
    | cons y r ih =>
      intro x hp hx
      rw [List.any_cons] at hp
      have h1 := dec_f (or_f hp).1
      rw [List.cons_append, Inc.put, if_neg (by omega), if_neg (by omega), ih x (or_f hp).2 hx]; rfl
  exact this _ _ hs hn
theorem put_same {l : List Int} {n : Int} {i : Nat} (h : i < l.length) (hs : seen l n i = false) (hn : l[i]! = n) : putUp l n (i + 1) = putUp l n i ++ [n] := by
  unfold putUp
  rw [seen_succ h, hs, Bool.false_or, decide_eq_true (Int.le_of_eq hn.symm), if_pos rfl, if_neg Bool.false_ne_true, take_bang h, hn]
  have : ∀ (p : List Int), (p.any fun y => decide (n ≤ y)) = false → Inc.put (p ++ [n]) n = p ++ [n] := by
    intro p
    induction p with
    | nil => intro _; show Inc.put [n] n = [n]; rw [Inc.put, if_neg (by omega), if_pos rfl]
    | cons y r ih =>
      intro hp
      rw [List.any_cons] at hp
      have h1 := dec_f (or_f hp).1
      rw [List.cons_append, Inc.put, if_neg (by omega), if_neg (by omega), ih (or_f hp).2]
  exact this _ hs
theorem put_less {l : List Int} {n : Int} {i : Nat} (h : i < l.length) (hs : seen l n i = false) (hn : l[i]! < n) : putUp l n (i + 1) = putUp l n i ++ [l[i]!] := by
  unfold putUp
  rw [seen_succ h, hs, Bool.false_or, decide_eq_false (by omega), if_neg Bool.false_ne_true, if_neg Bool.false_ne_true, take_bang h]
theorem put_end {l : List Int} {n : Int} {i : Nat} (hi : l.length ≤ i) (b : Bool) (hs : seen l n i = b) : Inc.put l n = if b then putUp l n i else putUp l n i ++ [n] := by
  subst hs
  unfold putUp
  cases hs : seen l n i with
  | true => rw [if_pos rfl, if_pos rfl, List.take_of_length_le hi]
  | false =>
    rw [if_neg Bool.false_ne_true, if_neg Bool.false_ne_true, List.take_of_length_le hi]
    unfold seen at hs
    rw [List.take_of_length_le hi] at hs
    exact put_low hs
theorem putUp_len (l : List Int) (n : Int) (i : Nat) : (putUp l n i).length ≤ l.length + 1 := by
  unfold putUp
  have h2 : (l.take i).length ≤ l.length := by rw [List.length_take]; omega
  split
  · have := Inc.put_len (l.take i) n; omega
  · omega
/-- The ends, put in one by one. -/
theorem marks_snoc (l : List S) (s : S) : marks (l ++ [s]) = if ok s then Inc.put (Inc.put (marks l) s.f) s.t else marks l := by
  unfold marks ends Inc.puts
  rw [List.filter_append, List.flatMap_append, List.foldl_append]
  cases h : ok s with
  | true => simp [h]
  | false => simp [h]
theorem marks_take {l : List S} {i : Nat} (h : i < l.length) : marks (l.take (i + 1)) = if ok l[i]! then Inc.put (Inc.put (marks (l.take i)) l[i]!.f) l[i]!.t else marks (l.take i) := by
  rw [take_bang h, marks_snoc]
theorem marks_len : ∀ (l : List S), (marks l).length ≤ 2 * l.length := fun l => by
  have h1 := Inc.foldl_put_len (ends l) []
  have h2 : ∀ (r : List S), (r.flatMap fun s => [s.f, s.t]).length = 2 * r.length := by
    intro r
    induction r with
    | nil => rfl
    | cons x r ih => rw [List.flatMap_cons, List.length_append, ih, List.length_cons]; simp; omega
  have h3 := List.length_filter_le ok l
  unfold marks Inc.puts
  unfold ends at *
  rw [h2] at h1
  simp only [List.length_nil] at h1
  omega
theorem cov_hit {l : List S} {q : Int} {i : Nat} (hi : i < l.length) (h : inn l[i]! q = true) : cov l q = true := (cov_iff l q).2 ⟨_, bang_mem hi, h⟩
theorem cov_miss {l : List S} {q : Int} (h : ∀ j, j < l.length → inn l[j]! q = false) : cov l q = false := by
  cases hc : cov l q with
  | false => rfl
  | true =>
    obtain ⟨x, hx, hi⟩ := (cov_iff l q).1 hc
    obtain ⟨j, hj, rfl⟩ := List.mem_iff_getElem.1 hx
    have := h j hj
    rw [getElem!_pos l j hj, hi] at this; cases this
theorem isN_yes {l : List S} {i : Nat} (h : (!ok l[i]! || (decide ((i : Int) > 0) && decide (l[i - 1]!.t ≥ l[i]!.f))) = false) : ok l[i]! = true ∧ (0 < i → l[i - 1]!.t < l[i]!.f) := by
  obtain ⟨h1, h2⟩ := or_f h
  refine ⟨not_f h1, fun h0 => ?_⟩
  rcases and_f h2 with h2 | h2
  · have := dec_f h2; omega
  · have := dec_f h2; omega
theorem isN_not {l : List S} {i : Nat} (h : (!ok l[i]! || (decide ((i : Int) > 0) && decide (l[i - 1]!.t ≥ l[i]!.f))) = true) : ¬(ok l[i]! = true ∧ (0 < i → l[i - 1]!.t < l[i]!.f)) := by
  rintro ⟨h1, h2⟩
  rcases or_t h with h | h
  · rw [h1] at h; cases h
  · have h3 := dec_t (and_t h).1
    have h4 := dec_t (and_t h).2
    have := h2 (by omega)
    omega
theorem filter_take (l : List S) {i : Nat} (h : i < l.length) : (l.take (i + 1)).filter ok = (l.take i).filter ok ++ if ok l[i]! then [l[i]!] else [] := by
  rw [take_bang h, List.filter_append]
  congr 1
  simp only [List.filter_cons, List.filter_nil]
theorem filter_len (l : List S) (i : Nat) : ((l.take i).filter ok).length ≤ i := by
  have h1 := List.length_filter_le ok (l.take i)
  have h2 : (l.take i).length ≤ i := List.length_take_le _ _
  omega
theorem fold_take_len (ss : List S) (i : Nat) : ((ss.take i).foldl step []).length ≤ i := by
  have h1 := fold_len (ss.take i) []
  have h2 : (ss.take i).length ≤ i := List.length_take_le _ _
  simp only [List.length_nil] at h1
  omega
theorem fold_ext {ss : List S} {i n : Nat} (hi : i < ss.length) (hn : ((ss.take i).foldl step []).length = n) (h : (decide ((n : Int) > 0) && decide (ss[i]!.f ≤ ((ss.take i).foldl step [])[n - 1]!.t)) = true) :
    (ss.take (i + 1)).foldl step [] = ((ss.take i).foldl step []).set (n - 1) ⟨((ss.take i).foldl step [])[n - 1]!.f, max ((ss.take i).foldl step [])[n - 1]!.t ss[i]!.t⟩ := by
  subst hn
  have h1 := dec_t (and_t h).1
  have h2 := dec_t (and_t h).2
  rw [take_bang hi, List.foldl_append, List.foldl_cons, List.foldl_nil, step, if_pos ⟨by omega, h2⟩]
  rfl
theorem fold_new {ss : List S} {i n : Nat} (hi : i < ss.length) (hn : ((ss.take i).foldl step []).length = n) (h : (decide ((n : Int) > 0) && decide (ss[i]!.f ≤ ((ss.take i).foldl step [])[n - 1]!.t)) = false) :
    (ss.take (i + 1)).foldl step [] = (ss.take i).foldl step [] ++ [ss[i]!] := by
  subst hn
  rw [take_bang hi, List.foldl_append, List.foldl_cons, List.foldl_nil, step, if_neg]
  rintro ⟨h1, h2⟩
  rcases and_f h with h | h
  · have := dec_f h; omega
  · exact dec_f h h2
def kOf (op : Int) (x y : Bool) : Bool := (((op == 1) && (x || y)) || (((op == 2) && x) && y)) || (((op == 3) && x) && !y)
theorem kOf1 : kOf 1 = (· || ·) := by funext x y; cases x <;> cases y <;> rfl
theorem kOf2 : kOf 2 = both := by funext x y; cases x <;> cases y <;> rfl
theorem kOf3 : kOf 3 = first := by funext x y; cases x <;> cases y <;> rfl
theorem rj_ext {k : Bool → Bool → Bool} {a b : List S} {m : List Int} {i n : Nat} (hn : (rjoin k a b m i).length = n) (hk : (!k (cov a m[i]!) (cov b m[i]!)) = false) (h : (decide ((n : Int) - 1 ≥ 0) && ((rjoin k a b m i)[n - 1]!.t == m[i]!)) = true) :
    rjoin k a b m (i + 1) = (rjoin k a b m i).set (n - 1) ⟨(rjoin k a b m i)[n - 1]!.f, m[i + 1]!⟩ := by
  subst hn
  have h1 := dec_t (and_t h).1
  rw [rjoin_succ_ext (not_f hk) ⟨by omega, eq_t (and_t h).2⟩]
  rfl
theorem rj_new {k : Bool → Bool → Bool} {a b : List S} {m : List Int} {i n : Nat} (hn : (rjoin k a b m i).length = n) (hk : (!k (cov a m[i]!) (cov b m[i]!)) = false) (h : (decide ((n : Int) - 1 ≥ 0) && ((rjoin k a b m i)[n - 1]!.t == m[i]!)) = false) :
    rjoin k a b m (i + 1) = rjoin k a b m i ++ [⟨m[i]!, m[i + 1]!⟩] := by
  subst hn
  rw [rjoin_succ_new (not_f hk)]
  rintro ⟨h1, h2⟩
  rcases and_f h with h | h
  · have := dec_f h; omega
  · exact eq_f h h2
theorem rj_no {k : Bool → Bool → Bool} {a b : List S} {m : List Int} {i : Nat} (hk : (!k (cov a m[i]!) (cov b m[i]!)) = true) : rjoin k a b m (i + 1) = rjoin k a b m i := rjoin_succ_no (not_t hk)
theorem put_TT {l : List Int} {n : Int} {i : Nat} {b : Bool} (hi : i < l.length) (hr : Inc.Rising l) (hb : b = seen l n i) (h1 : (!b && decide (l[i]! ≥ n)) = true) (h2 : l[i]! ≠ n) : putUp l n (i + 1) = (putUp l n i ++ [n]) ++ [l[i]!] ∧ true = seen l n (i + 1) := by
  have hs : seen l n i = false := hb ▸ not_t (and_t h1).1
  have hd := dec_t (and_t h1).2
  refine ⟨put_here hi hr hs (by omega), ?_⟩
  rw [seen_succ hi, decide_eq_true (show n ≤ l[i]! from hd), Bool.or_true]
theorem put_TF {l : List Int} {n : Int} {i : Nat} {b : Bool} (hi : i < l.length) (hb : b = seen l n i) (h1 : (!b && decide (l[i]! ≥ n)) = true) (h2 : l[i]! = n) : putUp l n (i + 1) = putUp l n i ++ [n] ∧ true = seen l n (i + 1) := by
  have hs : seen l n i = false := hb ▸ not_t (and_t h1).1
  refine ⟨put_same hi hs h2, ?_⟩
  rw [seen_succ hi, decide_eq_true (show n ≤ l[i]! by omega), Bool.or_true]
theorem put_FT {l : List Int} {n : Int} {i : Nat} {b : Bool} (hi : i < l.length) (hr : Inc.Rising l) (hb : b = seen l n i) (h1 : (!b && decide (l[i]! ≥ n)) = false) (h2 : l[i]! ≠ n) : putUp l n (i + 1) = putUp l n i ++ [l[i]!] ∧ b = seen l n (i + 1) := by
  rw [seen_succ hi]
  rcases and_f h1 with h1 | h1
  · have hb1 := not_f h1
    rw [hb1] at hb
    exact ⟨put_skip hi hr hb.symm, by rw [hb1, ← hb, Bool.true_or]⟩
  · have hd := dec_f h1
    have hlt : l[i]! < n := by omega
    cases hs : seen l n i with
    | true => have := seen_lt hr hi hs; omega
    | false => exact ⟨put_less hi hs hlt, by rw [hb, hs, Bool.false_or, decide_eq_false (by omega)]⟩
theorem put_FF {l : List Int} {n : Int} {i : Nat} {b : Bool} (hi : i < l.length) (hr : Inc.Rising l) (hb : b = seen l n i) (h1 : (!b && decide (l[i]! ≥ n)) = false) (h2 : l[i]! = n) : False := by
  rcases and_f h1 with h1 | h1
  · have hb1 := not_f h1
    have := seen_lt hr hi (hb.symm.trans hb1)
    omega
  · have := dec_f h1; omega
theorem cnt_rng (p : Int → Bool) : ∀ n : Nat, 0 ≤ cnt p n ∧ cnt p n ≤ (n : Int)
  | 0 => by simp [cnt]
  | n + 1 => by
    have := cnt_rng p n
    rw [cnt]
    cases p (n : Int) <;> simp only [one] <;> omega
theorem lenF_rng (l : List S) : 0 ≤ lenF l ∧ lenF l ≤ 1000000000000 := by
  rw [lenF_cnt]; exact cnt_rng _ _
theorem head_at {n : List S} (h : Norm n) {p len : Nat} {q : Int} (hlen : n.length = len) (hp : p ≤ len) (h1 : ∀ j, j < p → n[j]!.t ≤ q) (h2 : (decide (((len - p : Nat) : Int) > 0) && decide ((n.drop p)[0]!.t ≤ q)) = false) :
    (decide (((len - p : Nat) : Int) > 0) && decide ((n.drop p)[0]!.f ≤ q)) = cov n q := by
  subst hlen
  rw [drop_zero_bang] at h2 ⊢
  rw [cov_head h (p := p) (fun j hj _ => h1 j hj)]
  · congr 1
    exact decide_eq_decide.2 (by omega)
  · rcases and_f h2 with h2 | h2
    · have := dec_f h2; left; omega
    · have := dec_f h2
      by_cases hc : p < n.length
      · right; exact ⟨hc, by omega⟩
      · left; omega
theorem head_step {n : List S} {p len : Nat} {q : Int} (h1 : ∀ j, j < p → n[j]!.t ≤ q) (h2 : (decide (((len - p : Nat) : Int) > 0) && decide ((n.drop p)[0]!.t ≤ q)) = true) : ∀ j, j < p + 1 → n[j]!.t ≤ q := fun j hj => by
  rw [drop_zero_bang] at h2
  rcases Nat.lt_succ_iff_lt_or_eq.1 hj with h | h
  · exact h1 j h
  · subst h; exact dec_t (and_t h2).2
theorem head_more {n : List S} {p : Nat} {q q' : Int} (h1 : ∀ j, j < p → n[j]!.t ≤ q) (h : q ≤ q') : ∀ j, j < p → n[j]!.t ≤ q' := fun j hj => by have := h1 j hj; omega
def raw (l : List S) : List Int := l.flatMap fun s => [s.f, s.t]
theorem raw_marks {l : List S} (h : ∀ x ∈ l, ok x = true) : Inc.puts (raw l) = marks l := by
  unfold marks ends raw
  rw [List.filter_eq_self.2 h]
theorem raw_take (l : List S) {i : Nat} (h : i < l.length) : raw (l.take (i + 1)) = raw (l.take i) ++ [l[i]!.f, l[i]!.t] := flat_take h
theorem raw_len (l : List S) : (raw l).length = 2 * l.length := by
  unfold raw
  induction l with
  | nil => rfl
  | cons x r ih => rw [List.flatMap_cons, List.length_append, ih, List.length_cons]; simp; omega
theorem norms_ok (a b : List S) : ∀ x ∈ norm a ++ norm b, ok x = true := fun x hx => by
  rcases List.mem_append.1 hx with h | h
  · exact (norm_norm a).1 x h
  · exact (norm_norm b).1 x h
theorem pc_yes {k : Bool → Bool → Bool} {a b : List S} {m : List Int} {i : Nat} (hi : 1 ≤ i) (h : k (cov a m[i - 1]!) (cov b m[i - 1]!) = true) : pcs k a b m (i + 1 - 1) = pcs k a b m (i - 1) ++ [⟨m[i - 1]!, m[i]!⟩] := by
  rw [show i + 1 - 1 = i - 1 + 1 by omega, pcs_succ, piece, if_pos h, show i - 1 + 1 = i by omega]
theorem pc_no {k : Bool → Bool → Bool} {a b : List S} {m : List Int} {i : Nat} (hi : 1 ≤ i) (h : k (cov a m[i - 1]!) (cov b m[i - 1]!) = false) : pcs k a b m (i + 1 - 1) = pcs k a b m (i - 1) := by
  rw [show i + 1 - 1 = i - 1 + 1 by omega, pcs_succ, piece, h, if_neg Bool.false_ne_true, List.append_nil]
theorem comb_len (k : Bool → Bool → Bool) (a b : List S) : (comb k a b).length ≤ 2 * (a.length + b.length) := by
  unfold comb
  have h1 := norm_len (pcs k a b (marks (a ++ b)) ((marks (a ++ b)).length - 1))
  have h2 := pcs_len k a b (marks (a ++ b)) ((marks (a ++ b)).length - 1)
  have h3 := marks_len (a ++ b)
  rw [List.length_append] at h3
  omega
theorem back_end {l : List S} {k : Nat} (h : l.length ≤ k) : back l k = [] := by unfold back; rw [List.drop_of_length_le h]; rfl
theorem back_down {l : List S} {z : Int} (h0 : 0 ≤ z) (h : z < (l.length : Int)) : back l (z - 1 + 1).toNat = back l (z + 1).toNat ++ [l[z.toNat]!, l[z.toNat]!] := by
  rw [show (z - 1 + 1).toNat = z.toNat by omega, show (z + 1).toNat = z.toNat + 1 by omega]
  exact back_step (by omega)
/-! The chapter's examples. -/
theorem aw1 : norm [⟨5, 9⟩, ⟨1, 3⟩, ⟨3, 5⟩] = [⟨1, 9⟩] :=
  (norm_of_perm (ss := [⟨1, 3⟩, ⟨3, 5⟩, ⟨5, 9⟩]) (by decide) (by decide)).symm.trans (by decide)
theorem aw2 : comb first [⟨0, 10⟩] [⟨2, 3⟩, ⟨5, 7⟩] = [⟨0, 2⟩, ⟨3, 5⟩, ⟨7, 10⟩] := by
  have h : pcs first [⟨0, 10⟩] [⟨2, 3⟩, ⟨5, 7⟩] (marks ([⟨0, 10⟩] ++ [⟨2, 3⟩, ⟨5, 7⟩])) ((marks ([⟨0, 10⟩] ++ [⟨2, 3⟩, ⟨5, 7⟩])).length - 1) = [⟨0, 2⟩, ⟨3, 5⟩, ⟨7, 10⟩] := by decide
  unfold comb
  rw [h]
  exact (norm_of_perm (ss := [⟨0, 2⟩, ⟨3, 5⟩, ⟨7, 10⟩]) (by decide) (by decide)).symm.trans (by decide)
theorem aw_norm : Norm [⟨0, 2⟩, ⟨3, 5⟩, ⟨7, 10⟩] := (isNorm_iff _).1 (by decide)
theorem aw3 : lenF (comb first [⟨0, 10⟩] [⟨2, 3⟩, ⟨5, 7⟩]) = 7 := by
  rw [aw2]
  unfold lenF
  rw [← norm_eq aw_norm fun _ => rfl]
  decide
theorem aw4 : cov (comb first [⟨0, 10⟩] [⟨2, 3⟩, ⟨5, 7⟩]) 4 = true := by rw [aw2]; decide
theorem aw5 : cov (comb first [⟨0, 10⟩] [⟨2, 3⟩, ⟨5, 7⟩]) 5 = false := by rw [aw2]; decide
end Sp
end Go.Proofs.Ytbdfhiihaemjhaa
