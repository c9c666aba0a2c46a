/- Sets of times as lists of spans, in plain terms. Conditions: none. -/
import Derived.Test.YtbdfhiihaemjhaaMix
import Derived.Test.YtbdfhiihaemjhaaRowL
import Derived.Test.YtbdfhiihaemjhaaInc
namespace Go.Proofs.Ytbdfhiihaemjhaa
open Go Go.Eng
namespace Sp
structure S where
  f : Int
  t : Int
instance : Inhabited S := ⟨⟨0, 0⟩⟩
def S.c (x : S) : List Value := [.int .i64 x.f, .int .i64 x.t]
def ic (x : Int) : List Value := [.int .i64 x]
theorem S.one (x : S) : ∀ u ∈ x.c, u.oneCell' = true := by simp [S.c, Value.oneCell']
theorem ic_one (x : Int) : ∀ u ∈ ic x, u.oneCell' = true := by simp [ic, Value.oneCell']
theorem S.of : ∀ cs, okAll [.int .i64, .int .i64] cs → ∃ x, cs = S.c x ∧ True := fun cs h => by
  obtain ⟨v0, v1, rfl, ⟨a, rfl, _⟩, ⟨b, rfl, _⟩⟩ := okAll_2 h
  exact ⟨⟨a, b⟩, rfl, trivial⟩
def eqS (x y : S) : Bool := (x.f == y.f) && (x.t == y.t)
theorem eqS_iff (x y : S) : eqS x y = true ↔ x = y := by
  obtain ⟨a, b⟩ := x
  obtain ⟨a', b'⟩ := y
  simp [eqS]
instance : DecidableEq S := fun x y => if h : eqS x y = true then .isTrue ((eqS_iff x y).1 h) else .isFalse fun e => h ((eqS_iff x y).2 e)
theorem ne_of_eqS {x y : S} (h : (!eqS x y) = true) : x ≠ y := fun e => by
  have := not_t h
  rw [(eqS_iff x y).2 e] at this; cases this
theorem eq_of_eqS {x y : S} (h : (!eqS x y) = false) : x = y := (eqS_iff x y).1 (not_f h)
theorem bang_ext {α : Type} [Inhabited α] {a b : List α} (hl : a.length = b.length) (h : ∀ j, j < a.length → a[j]! = b[j]!) : a = b := by
  apply List.ext_getElem hl
  intro j h1 h2
  have := h j h1
  rwa [getElem!_pos a j h1, getElem!_pos b j h2] at this
theorem same_no {α : Type} [DecidableEq α] {a b : List α} (h : a.length ≠ b.length) : decide (a = b) = false := decide_eq_false fun e => h (by rw [e])
theorem same_at {α : Type} [Inhabited α] [DecidableEq α] {a b : List α} {i : Nat} (h : a[i]! ≠ b[i]!) : decide (a = b) = false := decide_eq_false fun e => h (by rw [e])
/-! Valid spans, and the times in them. -/
def ok (x : S) : Bool := (decide (0 ≤ x.f) && decide (x.f < x.t)) && decide (x.t ≤ 1000000000000)
def inn (x : S) (q : Int) : Bool := (ok x && decide (x.f ≤ q)) && decide (q < x.t)
def cov (l : List S) (q : Int) : Bool := l.any fun x => inn x q
theorem ok_iff (x : S) : ok x = true ↔ 0 ≤ x.f ∧ x.f < x.t ∧ x.t ≤ 1000000000000 := by
  simp [ok, and_assoc]
theorem inn_iff (x : S) (q : Int) : inn x q = true ↔ ok x = true ∧ x.f ≤ q ∧ q < x.t := by
  simp [inn, and_assoc]
theorem cov_iff (l : List S) (q : Int) : cov l q = true ↔ ∃ x ∈ l, inn x q = true := List.any_eq_true
theorem cov_append (a b : List S) (q : Int) : cov (a ++ b) q = (cov a q || cov b q) := List.any_append
theorem cov_cons (x : S) (b : List S) (q : Int) : cov (x :: b) q = (inn x q || cov b q) := List.any_cons
theorem cov_nil (q : Int) : cov [] q = false := rfl
theorem cov_congr {a b : List S} (h : ∀ x, ok x = true → (x ∈ a ↔ x ∈ b)) (q : Int) : cov a q = cov b q := by
  rw [Bool.eq_iff_iff, cov_iff, cov_iff]
  constructor
  · rintro ⟨x, hx, hi⟩; exact ⟨x, (h x ((inn_iff x q).1 hi).1).1 hx, hi⟩
  · rintro ⟨x, hx, hi⟩; exact ⟨x, (h x ((inn_iff x q).1 hi).1).2 hx, hi⟩
theorem cov_filter (l : List S) (q : Int) : cov (l.filter ok) q = cov l q :=
  cov_congr (fun x hx => by simp [List.mem_filter, hx]) q
def Norm (l : List S) : Prop := (∀ x ∈ l, ok x = true) ∧ l.Pairwise fun a b => a.t < b.f
theorem Norm.nil : Norm [] := ⟨by simp, .nil⟩
theorem Norm.tail {x : S} {r : List S} (h : Norm (x :: r)) : Norm r := ⟨fun y hy => h.1 y (List.mem_cons_of_mem _ hy), (List.pairwise_cons.1 h.2).2⟩
theorem Norm.far {x : S} {r : List S} (h : Norm (x :: r)) {q : Int} (hc : cov r q = true) : x.t < q := by
  obtain ⟨z, hz, hi⟩ := (cov_iff r q).1 hc
  have h1 := (List.pairwise_cons.1 h.2).1 z hz
  have h2 := (inn_iff z q).1 hi
  omega
theorem Norm.first {x : S} {r : List S} (h : Norm (x :: r)) {q : Int} (hc : cov (x :: r) q = true) : x.f ≤ q := by
  rw [cov_cons] at hc
  rcases or_t hc with hc | hc
  · exact ((inn_iff x q).1 hc).2.1
  · have h1 := h.far hc
    have h2 := (ok_iff x).1 (h.1 x List.mem_cons_self)
    omega
theorem Norm.head {x : S} {r : List S} (h : Norm (x :: r)) : cov (x :: r) x.f = true := by
  have h2 := (ok_iff x).1 (h.1 x List.mem_cons_self)
  rw [cov_cons, (inn_iff x x.f).2 ⟨h.1 x List.mem_cons_self, by omega, by omega⟩]; rfl
theorem Norm.le_end {x : S} {r : List S} (h : Norm (x :: r)) : cov (x :: r) x.t = false := by
  cases hc : cov (x :: r) x.t with
  | false => rfl
  | true =>
    rw [cov_cons] at hc
    rcases or_t hc with hc | hc
    · have := (inn_iff x x.t).1 hc; omega
    · have := h.far hc; omega
theorem norm_unique : ∀ {a b : List S}, Norm a → Norm b → (∀ q, cov a q = cov b q) → a = b
  | [], [], _, _, _ => rfl
  | [], y :: s, _, hb, h => by have := h y.f; rw [hb.head] at this; cases this
  | x :: r, [], ha, _, h => by have := h x.f; rw [ha.head] at this; cases this
  | x :: r, y :: s, ha, hb, h => by
    have e1 : x.f = y.f := by
      have h1 := ha.first ((h y.f).trans hb.head)
      have h2 := hb.first ((h x.f).symm.trans ha.head)
      omega
    have ox := (ok_iff x).1 (ha.1 x List.mem_cons_self)
    have oy := (ok_iff y).1 (hb.1 y List.mem_cons_self)
    have e2 : x.t = y.t := by
      have h1 : ¬ x.t < y.t := fun hlt => by
        have h3 : cov (y :: s) x.t = true := by rw [cov_cons, (inn_iff y x.t).2 ⟨hb.1 y List.mem_cons_self, by omega, hlt⟩]; rfl
        rw [← h, ha.le_end] at h3; cases h3
      have h2 : ¬ y.t < x.t := fun hlt => by
        have h3 : cov (x :: r) y.t = true := by rw [cov_cons, (inn_iff x y.t).2 ⟨ha.1 x List.mem_cons_self, by omega, hlt⟩]; rfl
        rw [h, hb.le_end] at h3; cases h3
      omega
    have e : x = y := by
      obtain ⟨a, b⟩ := x
      obtain ⟨c, d⟩ := y
      simp only at e1 e2
      rw [e1, e2]
    subst e
    rw [norm_unique ha.tail hb.tail fun q => ?_]
    have hq := h q
    rw [cov_cons, cov_cons] at hq
    cases hi : inn x q with
    | false => rw [hi] at hq; exact hq
    | true =>
      have hlt := ((inn_iff x q).1 hi).2.2
      cases hr : cov r q with
      | true => have := ha.far hr; omega
      | false =>
        cases hs : cov s q with
        | true => have := hb.far hs; omega
        | false => rfl
/-! Joining sorted spans. -/
def lastT (out : List S) : Int := out[out.length - 1]!.t
def ext (out : List S) (t : Int) : List S := out.set (out.length - 1) ⟨out[out.length - 1]!.f, t⟩
def step (out : List S) (s : S) : List S := if 0 < out.length ∧ s.f ≤ lastT out then ext out (max (lastT out) s.t) else out ++ [s]
theorem last_snoc (o : List S) (p : S) : (o ++ [p])[(o ++ [p]).length - 1]! = p := by
  rw [List.length_append, List.length_singleton, Nat.add_sub_cancel, getElem!_pos _ _ (by simp)]
  simp
theorem ext_snoc (o : List S) (p : S) (t : Int) : ext (o ++ [p]) t = o ++ [⟨p.f, t⟩] := by
  unfold ext
  rw [last_snoc, List.length_append, List.length_singleton, Nat.add_sub_cancel, List.set_append_right _ _ (Nat.le_refl _), Nat.sub_self]
  rfl
theorem step_len (out : List S) (s : S) : (step out s).length ≤ out.length + 1 := by
  unfold step ext; split <;> simp
theorem snoc_cases {α : Type} (o : List α) : o = [] ∨ ∃ r p, o = r ++ [p] := by
  rcases List.eq_nil_or_concat o with h | ⟨r, p, h⟩
  · exact .inl h
  · exact .inr ⟨r, p, by rw [h, List.concat_eq_append]⟩
theorem step_norm {out : List S} {s : S} (h : Norm out) (hs : ok s = true) (hl : ∀ p ∈ out, p.f ≤ s.f) : Norm (step out s) ∧ (∀ q, cov (step out s) q = (cov out q || inn s q)) ∧ ∀ p ∈ step out s, p.f ≤ s.f := by
  have os := (ok_iff s).1 hs
  rcases snoc_cases out with rfl | ⟨o, p, rfl⟩
  · unfold step
    rw [if_neg (by simp)]
    refine ⟨⟨by simpa using hs, by simp⟩, fun q => by simp [cov], by simp⟩
  · have hp : p ∈ o ++ [p] := by simp
    have op := (ok_iff p).1 (h.1 p hp)
    have hpf := hl p hp
    obtain ⟨hw1, hw2, hw3⟩ := List.pairwise_append.1 h.2
    have lt : lastT (o ++ [p]) = p.t := by unfold lastT; rw [last_snoc]
    unfold step
    rw [lt]
    by_cases hc : s.f ≤ p.t
    · rw [if_pos ⟨by simp, hc⟩, ext_snoc]
      refine ⟨⟨fun x hx => ?_, List.pairwise_append.2 ⟨hw1, by simp, fun a ha b hb => ?_⟩⟩, fun q => ?_, fun x hx => ?_⟩
      · rcases List.mem_append.1 hx with hx | hx
        · exact h.1 x (List.mem_append_left _ hx)
        · have hx := List.mem_singleton.1 hx
          subst hx
          exact (ok_iff _).2 ⟨op.1, by show p.f < max p.t s.t; omega, by show max p.t s.t ≤ _; omega⟩
      · have hb := List.mem_singleton.1 hb
        subst hb
        exact hw3 a ha p (by simp)
      · rw [cov_append, cov_append, Bool.or_assoc]
        congr 1
        simp only [cov, List.any_cons, List.any_nil, Bool.or_false]
        rw [Bool.eq_iff_iff, Bool.or_eq_true, inn_iff, inn_iff, inn_iff, ok_iff, ok_iff, ok_iff]
        simp only
        omega
      · rcases List.mem_append.1 hx with hx | hx
        · exact hl x (List.mem_append_left _ hx)
        · have hx := List.mem_singleton.1 hx
          subst hx
          exact hpf
    · rw [if_neg (fun hh => hc hh.2)]
      refine ⟨⟨fun x hx => ?_, List.pairwise_append.2 ⟨h.2, by simp, fun a ha b hb => ?_⟩⟩, fun q => ?_, fun x hx => ?_⟩
      · rcases List.mem_append.1 hx with hx | hx
        · exact h.1 x hx
        · have hx := List.mem_singleton.1 hx
          subst hx; exact hs
      · have hb := List.mem_singleton.1 hb
        subst hb
        rcases List.mem_append.1 ha with ha | ha
        · have := hw3 a ha p (by simp); omega
        · have ha := List.mem_singleton.1 ha
          subst ha; omega
      · rw [cov_append]; simp [cov]
      · rcases List.mem_append.1 hx with hx | hx
        · exact hl x hx
        · have hx := List.mem_singleton.1 hx
          subst hx; exact Int.le_refl _
theorem fold_norm : ∀ (ss out : List S), Norm out → (∀ s ∈ ss, ok s = true) → ss.Pairwise (fun a b => a.f ≤ b.f) → (∀ p ∈ out, ∀ s ∈ ss, p.f ≤ s.f) →
    Norm (ss.foldl step out) ∧ ∀ q, cov (ss.foldl step out) q = (cov out q || cov ss q)
  | [], out, h, _, _, _ => ⟨h, fun q => by simp [cov]⟩
  | s :: r, out, h, hs, hp, hl => by
    obtain ⟨h1, h2, h3⟩ := step_norm h (hs s List.mem_cons_self) fun p hp => hl p hp s List.mem_cons_self
    obtain ⟨hp1, hp2⟩ := List.pairwise_cons.1 hp
    obtain ⟨h4, h5⟩ := fold_norm r (step out s) h1 (fun x hx => hs x (List.mem_cons_of_mem _ hx)) hp2 fun p hp x hx => Int.le_trans (h3 p hp) (hp1 x hx)
    exact ⟨h4, fun q => by rw [List.foldl_cons, h5, h2, cov_cons, Bool.or_assoc]⟩
/-- The normal list. -/
def byF (a b : S) : Bool := decide (a.f ≤ b.f)
def norm (l : List S) : List S := ((l.filter ok).mergeSort byF).foldl step []
theorem sort_perm (l : List S) : (l.mergeSort byF).Perm l := List.mergeSort_perm l byF
theorem sort_pair (l : List S) : (l.mergeSort byF).Pairwise fun a b => a.f ≤ b.f := by
  have := List.pairwise_mergeSort (le := byF) (fun a b c h1 h2 => by simp only [byF, decide_eq_true_eq] at *; omega) (fun a b => by simp only [byF, Bool.or_eq_true, decide_eq_true_eq]; omega) l
  exact this.imp fun h => by simpa [byF] using h
theorem fold_perm {ss l : List S} (h : ss.Perm (l.filter ok)) (hp : ss.Pairwise fun a b => a.f ≤ b.f) : Norm (ss.foldl step []) ∧ ∀ q, cov (ss.foldl step []) q = cov l q := by
  obtain ⟨h1, h2⟩ := fold_norm ss [] Norm.nil (fun s hs => (List.mem_filter.1 (h.mem_iff.1 hs)).2) hp (by simp)
  refine ⟨h1, fun q => ?_⟩
  rw [h2, cov_nil, Bool.false_or, ← cov_filter l]
  exact cov_congr (fun x _ => h.mem_iff) q
theorem norm_norm (l : List S) : Norm (norm l) := (fold_perm (sort_perm _) (sort_pair _)).1
theorem norm_cov (l : List S) (q : Int) : cov (norm l) q = cov l q := (fold_perm (sort_perm _) (sort_pair _)).2 q
theorem norm_eq {n l : List S} (h : Norm n) (hc : ∀ q, cov n q = cov l q) : n = norm l := norm_unique h (norm_norm l) fun q => (hc q).trans (norm_cov l q).symm
theorem norm_of_perm {ss l : List S} (h : ss.Perm (l.filter ok)) (hp : ss.Pairwise fun a b => a.f ≤ b.f) : ss.foldl step [] = norm l := norm_eq (fold_perm h hp).1 (fold_perm h hp).2
theorem norm_congr {a b : List S} (h : ∀ q, cov a q = cov b q) : norm a = norm b := norm_eq (norm_norm a) fun q => (norm_cov a q).trans (h q)
theorem fold_len : ∀ (ss out : List S), (ss.foldl step out).length ≤ out.length + ss.length
  | [], out => by simp
  | s :: r, out => by
    have h1 := fold_len r (step out s)
    have h2 := step_len out s
    rw [List.foldl_cons, List.length_cons]; omega
theorem norm_len (l : List S) : (norm l).length ≤ l.length := by
  have h1 := fold_len ((l.filter ok).mergeSort byF) []
  have h2 : ((l.filter ok).mergeSort byF).length = (l.filter ok).length := List.length_mergeSort ..
  have h3 := List.length_filter_le ok l
  unfold norm
  simp only [List.length_nil] at h1
  omega
/-! Combining two sets. -/
def ends (l : List S) : List Int := (l.filter ok).flatMap fun s => [s.f, s.t]
def marks (l : List S) : List Int := Inc.puts (ends l)
def piece (k : Bool → Bool → Bool) (a b : List S) (m : List Int) (j : Nat) : List S := if k (cov a m[j]!) (cov b m[j]!) then [⟨m[j]!, m[j + 1]!⟩] else []
def pcs (k : Bool → Bool → Bool) (a b : List S) (m : List Int) (i : Nat) : List S := (List.range i).flatMap (piece k a b m)
theorem pcs_succ (k : Bool → Bool → Bool) (a b : List S) (m : List Int) (i : Nat) : pcs k a b m (i + 1) = pcs k a b m i ++ piece k a b m i := by
  simp only [pcs, List.range_succ, List.flatMap_append, List.flatMap_cons, List.flatMap_nil, List.append_nil]
theorem pcs_len (k : Bool → Bool → Bool) (a b : List S) (m : List Int) : ∀ i, (pcs k a b m i).length ≤ i
  | 0 => by simp [pcs]
  | i + 1 => by
    have := pcs_len k a b m i
    rw [pcs_succ, List.length_append]
    unfold piece; split <;> simp <;> omega
theorem mem_ends (l : List S) (x : Int) : x ∈ ends l ↔ ∃ s ∈ l, ok s = true ∧ (x = s.f ∨ x = s.t) := by
  unfold ends
  rw [List.mem_flatMap]
  constructor
  · rintro ⟨s, hs, hx⟩
    obtain ⟨h1, h2⟩ := List.mem_filter.1 hs
    exact ⟨s, h1, h2, by simpa using hx⟩
  · rintro ⟨s, hs, h1, hx⟩
    exact ⟨s, List.mem_filter.2 ⟨hs, h1⟩, by simpa using hx⟩
theorem mem_marks (l : List S) (x : Int) : x ∈ marks l ↔ ∃ s ∈ l, ok s = true ∧ (x = s.f ∨ x = s.t) := by rw [marks, Inc.mem_puts, mem_ends]
theorem marks_rng {l : List S} {x : Int} (h : x ∈ marks l) : 0 ≤ x ∧ x ≤ 1000000000000 := by
  obtain ⟨s, _, hs, hx⟩ := (mem_marks l x).1 h
  have := (ok_iff s).1 hs
  omega
theorem marks_up (l : List S) : Inc.Rising (marks l) := Inc.inc_puts _
theorem idx_of_mem {l : List Int} {x : Int} (h : x ∈ l) : ∃ i, i < l.length ∧ l[i]! = x := by
  obtain ⟨i, hi, rfl⟩ := List.mem_iff_getElem.1 h
  exact ⟨i, hi, getElem!_pos l i hi⟩
theorem inc_lt_iff {m : List Int} (h : Inc.Rising m) {i j : Nat} (hi : i < m.length) (hj : j < m.length) : m[i]! < m[j]! ↔ i < j := by
  constructor
  · intro hlt
    rcases Nat.lt_trichotomy i j with h1 | h1 | h1
    · exact h1
    · subst h1; omega
    · have := Inc.inc_at h h1 hi; omega
  · intro hlt; exact Inc.inc_at h hlt hj
/-- Between two neighbouring marks all times are alike. -/
theorem alike {a : List S} {m : List Int} (hm : Inc.Rising m) (hs : ∀ s ∈ a, ok s = true → s.f ∈ m ∧ s.t ∈ m) {j : Nat} (hj : j + 1 < m.length) {q : Int} (h1 : m[j]! ≤ q) (h2 : q < m[j + 1]!) : cov a q = cov a m[j]! := by
  have key : ∀ s ∈ a, inn s q = inn s m[j]! := fun s h => by
    rw [Bool.eq_iff_iff, inn_iff, inn_iff]
    by_cases hk : ok s = true
    · obtain ⟨hf, ht⟩ := hs s h hk
      obtain ⟨i1, hi1, e1⟩ := idx_of_mem hf
      obtain ⟨i2, hi2, e2⟩ := idx_of_mem ht
      have c1 : s.f ≤ q ↔ s.f ≤ m[j]! := by
        constructor
        · intro hh
          have : i1 < j + 1 := (inc_lt_iff hm hi1 hj).1 (by omega)
          rcases Nat.lt_succ_iff_lt_or_eq.1 this with hlt | heq
          · have := Inc.inc_at hm hlt (by omega); omega
          · subst heq; omega
        · intro hh; omega
      have c2 : q < s.t ↔ m[j]! < s.t := by
        constructor
        · intro hh; omega
        · intro hh
          have : j < i2 := (inc_lt_iff hm (by omega) hi2).1 (by omega)
          rcases Nat.eq_or_lt_of_le (show j + 1 ≤ i2 from this) with heq | hlt
          · rw [heq] at h2; omega
          · have := Inc.inc_at hm hlt hi2; omega
      rw [c1, c2]
    · simp [hk]
  unfold cov
  have : ∀ (r : List S), (∀ s ∈ r, inn s q = inn s m[j]!) → (r.any fun x => inn x q) = r.any fun x => inn x m[j]! := by
    intro r
    induction r with
    | nil => intro _; rfl
    | cons x r ih => intro hr; rw [List.any_cons, List.any_cons, hr x List.mem_cons_self, ih fun s hs => hr s (List.mem_cons_of_mem _ hs)]
  exact this a key
theorem bracket {m : List Int} : ∀ (d i : Nat), i + d < m.length → ∀ {q : Int}, m[i]! ≤ q → q < m[i + d]! → ∃ j, j + 1 < m.length ∧ m[j]! ≤ q ∧ q < m[j + 1]!
  | 0, i, _, q, h1, h2 => by simp only [Nat.add_zero] at h2; omega
  | d + 1, i, hl, q, h1, h2 => by
    by_cases hc : q < m[i + d]!
    · exact bracket d i (by omega) h1 hc
    · exact ⟨i + d, by omega, by omega, h2⟩
theorem mem_pcs {k : Bool → Bool → Bool} {a b : List S} {m : List Int} {i : Nat} {x : S} : x ∈ pcs k a b m i ↔ ∃ j, j < i ∧ k (cov a m[j]!) (cov b m[j]!) = true ∧ x = ⟨m[j]!, m[j + 1]!⟩ := by
  unfold pcs
  rw [List.mem_flatMap]
  constructor
  · rintro ⟨j, hj, hx⟩
    have hj : j < i := by simpa using hj
    unfold piece at hx
    split at hx
    · rename_i hk
      exact ⟨j, hj, hk, by simpa using hx⟩
    · cases hx
  · rintro ⟨j, hj, hk, hx⟩
    refine ⟨j, by simpa using hj, ?_⟩
    unfold piece
    rw [if_pos hk, hx]; simp
structure Cuts (m : List Int) (a b : List S) : Prop where
  up : Inc.Rising m
  rng : ∀ x ∈ m, 0 ≤ x ∧ x ≤ 1000000000000
  fst : ∀ s ∈ a, ok s = true → s.f ∈ m ∧ s.t ∈ m
  snd : ∀ s ∈ b, ok s = true → s.f ∈ m ∧ s.t ∈ m
theorem pcs_ok {k : Bool → Bool → Bool} {a b : List S} {m : List Int} (h : Cuts m a b) {i : Nat} (hi : i ≤ m.length - 1) : ∀ x ∈ pcs k a b m i, ok x = true := fun x hx => by
  obtain ⟨j, hj, _, rfl⟩ := mem_pcs.1 hx
  have h1 := Inc.inc_at h.up (show j < j + 1 by omega) (by omega)
  have h2 := h.rng _ (bang_mem (show j < m.length by omega))
  have h3 := h.rng _ (bang_mem (show j + 1 < m.length by omega))
  exact (ok_iff _).2 ⟨h2.1, h1, h3.2⟩
theorem pcs_up {k : Bool → Bool → Bool} {a b : List S} {m : List Int} (h : Cuts m a b) : ∀ {i : Nat}, i ≤ m.length - 1 → (pcs k a b m i).Pairwise fun x y => x.t ≤ y.f
  | 0, _ => by simp [pcs]
  | i + 1, hi => by
    rw [pcs_succ]
    refine List.pairwise_append.2 ⟨pcs_up h (by omega), by unfold piece; split <;> simp, fun x hx y hy => ?_⟩
    obtain ⟨j, hj, _, rfl⟩ := mem_pcs.1 hx
    unfold piece at hy
    split at hy
    · have hy := List.mem_singleton.1 hy
      subst hy
      show m[j + 1]! ≤ m[i]!
      rcases Nat.eq_or_lt_of_le (show j + 1 ≤ i from hj) with e | hlt
      · rw [e]; exact Int.le_refl _
      · exact Int.le_of_lt (Inc.inc_at h.up hlt (by omega))
    · cases hy
theorem pcs_cov {k : Bool → Bool → Bool} {a b : List S} {m : List Int} (h : Cuts m a b) (hk : k false false = false) (q : Int) : cov (pcs k a b m (m.length - 1)) q = k (cov a q) (cov b q) := by
  rw [Bool.eq_iff_iff]
  constructor
  · intro hc
    obtain ⟨x, hx, hi⟩ := (cov_iff _ q).1 hc
    obtain ⟨j, hj, hkk, rfl⟩ := mem_pcs.1 hx
    have hq := (inn_iff _ q).1 hi
    rw [alike h.up h.fst (show j + 1 < m.length by omega) hq.2.1 hq.2.2, alike h.up h.snd (show j + 1 < m.length by omega) hq.2.1 hq.2.2]
    exact hkk
  · intro hc
    have hex : ∃ s, ok s = true ∧ s.f ≤ q ∧ q < s.t ∧ s.f ∈ m ∧ s.t ∈ m := by
      cases ha : cov a q with
      | true =>
        obtain ⟨s, hs, hi⟩ := (cov_iff a q).1 ha
        obtain ⟨h1, h2, h3⟩ := (inn_iff s q).1 hi
        exact ⟨s, h1, h2, h3, (h.fst s hs h1).1, (h.fst s hs h1).2⟩
      | false =>
        cases hb : cov b q with
        | true =>
          obtain ⟨s, hs, hi⟩ := (cov_iff b q).1 hb
          obtain ⟨h1, h2, h3⟩ := (inn_iff s q).1 hi
          exact ⟨s, h1, h2, h3, (h.snd s hs h1).1, (h.snd s hs h1).2⟩
        | false => rw [ha, hb, hk] at hc; cases hc
    obtain ⟨s, hs, h1, h2, h3, h4⟩ := hex
    obtain ⟨i1, hi1, e1⟩ := idx_of_mem h3
    obtain ⟨i2, hi2, e2⟩ := idx_of_mem h4
    have hlt : i1 < i2 := (inc_lt_iff h.up hi1 hi2).1 (by omega)
    obtain ⟨j, hj, hj1, hj2⟩ := bracket (m := m) (i2 - i1) i1 (by omega) (q := q) (by omega) (by rw [show i1 + (i2 - i1) = i2 by omega]; omega)
    rw [alike h.up h.fst hj hj1 hj2, alike h.up h.snd hj hj1 hj2] at hc
    have hx : (⟨m[j]!, m[j + 1]!⟩ : S) ∈ pcs k a b m (m.length - 1) := mem_pcs.2 ⟨j, by omega, hc, rfl⟩
    exact (cov_iff _ q).2 ⟨_, hx, (inn_iff _ q).2 ⟨pcs_ok h (Nat.le_refl _) _ hx, hj1, hj2⟩⟩
theorem cuts (a b : List S) : Cuts (marks (a ++ b)) a b :=
  ⟨marks_up _, fun _ hx => marks_rng hx, fun s hs hk => ⟨(mem_marks _ _).2 ⟨s, List.mem_append_left _ hs, hk, .inl rfl⟩, (mem_marks _ _).2 ⟨s, List.mem_append_left _ hs, hk, .inr rfl⟩⟩,
    fun s hs hk => ⟨(mem_marks _ _).2 ⟨s, List.mem_append_right _ hs, hk, .inl rfl⟩, (mem_marks _ _).2 ⟨s, List.mem_append_right _ hs, hk, .inr rfl⟩⟩⟩
/-- The normal list of a combination. -/
def comb (k : Bool → Bool → Bool) (a b : List S) : List S := norm (pcs k a b (marks (a ++ b)) ((marks (a ++ b)).length - 1))
theorem comb_norm (k : Bool → Bool → Bool) (a b : List S) : Norm (comb k a b) := norm_norm _
theorem comb_cov {k : Bool → Bool → Bool} (hk : k false false = false) (a b : List S) (q : Int) : cov (comb k a b) q = k (cov a q) (cov b q) := by
  unfold comb
  rw [norm_cov, pcs_cov (cuts a b) hk]
theorem comb_eq {k : Bool → Bool → Bool} (hk : k false false = false) {n a b : List S} (h : Norm n) (hc : ∀ q, cov n q = k (cov a q) (cov b q)) : n = comb k a b :=
  norm_unique h (comb_norm k a b) fun q => (hc q).trans (comb_cov hk a b q).symm
theorem comb_code {k : Bool → Bool → Bool} (hk : k false false = false) (a b : List S) : norm (pcs k (norm a) (norm b) (marks (norm a ++ norm b)) ((marks (norm a ++ norm b)).length - 1)) = comb k a b :=
  comb_eq hk (norm_norm _) fun q => by rw [norm_cov, pcs_cov (cuts _ _) hk, norm_cov, norm_cov]
theorem fold_rstep (ss : List S) : ∀ (out : List S), Norm out → (∀ s ∈ ss, ok s = true) → ss.Pairwise (fun a b => a.t ≤ b.f) → (∀ p ∈ out, ∀ s ∈ ss, p.t ≤ s.f) →
    ss.foldl (fun out s => if 0 < out.length ∧ lastT out = s.f then ext out s.t else out ++ [s]) out = ss.foldl step out := by
  induction ss with
  | nil => intro out _ _ _ _; rfl
  | cons s r ih =>
    intro out h hs hp hl
    obtain ⟨hp1, hp2⟩ := List.pairwise_cons.1 hp
    have os := (ok_iff s).1 (hs s List.mem_cons_self)
    have hlo : ∀ p ∈ out, p.f ≤ s.f := fun p hpm => by
      have h1 := hl p hpm s List.mem_cons_self
      have h2 := (ok_iff p).1 (h.1 p hpm)
      omega
    have e : (if 0 < out.length ∧ lastT out = s.f then ext out s.t else out ++ [s]) = step out s := by
      rcases snoc_cases out with rfl | ⟨o, p, rfl⟩
      · simp [step]
      · have h1 := hl p (by simp) s List.mem_cons_self
        have lt : lastT (o ++ [p]) = p.t := by unfold lastT; rw [last_snoc]
        unfold step
        rw [lt]
        by_cases hc : p.t = s.f
        · rw [if_pos ⟨by simp, hc⟩, if_pos ⟨by simp, by omega⟩, show max p.t s.t = s.t by omega]
        · rw [if_neg (fun hh => hc hh.2), if_neg (fun hh => by have := hh.2; omega)]
    rw [List.foldl_cons, List.foldl_cons, e]
    refine ih _ (step_norm h (hs s List.mem_cons_self) hlo).1 (fun x hx => hs x (List.mem_cons_of_mem _ hx)) hp2 fun p hpm x hx => ?_
    have hx1 := hp1 x hx
    have : p.t ≤ max s.t s.f := by
      unfold step at hpm
      rcases snoc_cases out with rfl | ⟨o, y, rfl⟩
      · rw [if_neg (by simp)] at hpm
        have := List.mem_singleton.1 hpm
        subst this; omega
      · have h1 := hl y (by simp) s List.mem_cons_self
        have lt : lastT (o ++ [y]) = y.t := by unfold lastT; rw [last_snoc]
        rw [lt] at hpm
        split at hpm
        · rw [ext_snoc] at hpm
          rcases List.mem_append.1 hpm with hpm | hpm
          · have := hl p (List.mem_append_left _ hpm) s List.mem_cons_self; omega
          · have := List.mem_singleton.1 hpm
            subst this
            show max y.t s.t ≤ _
            omega
        · rcases List.mem_append.1 hpm with hpm | hpm
          · have := hl p hpm s List.mem_cons_self; omega
          · have := List.mem_singleton.1 hpm
            subst this; omega
    omega
/-- What the reference has joined of the pieces ahead of i. -/
def rjoin (k : Bool → Bool → Bool) (a b : List S) (m : List Int) (i : Nat) : List S := (pcs k a b m i).foldl (fun out s => if 0 < out.length ∧ lastT out = s.f then ext out s.t else out ++ [s]) []
theorem rjoin_len (k : Bool → Bool → Bool) (a b : List S) (m : List Int) (i : Nat) : (rjoin k a b m i).length ≤ i := by
  have key : ∀ (ss out : List S), (ss.foldl (fun out s => if 0 < out.length ∧ lastT out = s.f then ext out s.t else out ++ [s]) out).length ≤ out.length + ss.length := by
    intro ss
    induction ss with
    | nil => intro out; simp
    | cons s r ih =>
      intro out
      have h1 := ih (if 0 < out.length ∧ lastT out = s.f then ext out s.t else out ++ [s])
      have h2 : (if 0 < out.length ∧ lastT out = s.f then ext out s.t else out ++ [s]).length ≤ out.length + 1 := by unfold ext; split <;> simp
      rw [List.foldl_cons, List.length_cons]; omega
  have h1 := key (pcs k a b m i) []
  have h2 := pcs_len k a b m i
  unfold rjoin
  simp only [List.length_nil] at h1
  omega
theorem rjoin_all (k : Bool → Bool → Bool) (a b : List S) : rjoin k a b (marks (a ++ b)) ((marks (a ++ b)).length - 1) = comb k a b := by
  unfold rjoin comb
  have hc := cuts a b
  have h1 := pcs_ok (k := k) hc (Nat.le_refl _)
  have h2 := pcs_up (k := k) hc (Nat.le_refl _)
  rw [fold_rstep _ [] Norm.nil h1 h2 (by simp)]
  refine norm_of_perm (by rw [List.filter_eq_self.2 h1]) ?_
  have : ∀ (l : List S), (∀ x ∈ l, ok x = true) → l.Pairwise (fun a b => a.t ≤ b.f) → l.Pairwise fun a b => a.f ≤ b.f := by
    intro l
    induction l with
    | nil => intro _ _; exact .nil
    | cons x r ih =>
      intro ho hp
      obtain ⟨hp1, hp2⟩ := List.pairwise_cons.1 hp
      have ox := (ok_iff x).1 (ho x List.mem_cons_self)
      exact List.pairwise_cons.2 ⟨fun y hy => by have := hp1 y hy; omega, ih (fun y hy => ho y (List.mem_cons_of_mem _ hy)) hp2⟩
  exact this _ h1 h2
theorem rjoin_succ_no {k : Bool → Bool → Bool} {a b : List S} {m : List Int} {i : Nat} (h : k (cov a m[i]!) (cov b m[i]!) = false) : rjoin k a b m (i + 1) = rjoin k a b m i := by
  unfold rjoin
  rw [pcs_succ, piece, h, if_neg Bool.false_ne_true, List.append_nil]
theorem rjoin_succ_ext {k : Bool → Bool → Bool} {a b : List S} {m : List Int} {i : Nat} (h : k (cov a m[i]!) (cov b m[i]!) = true) (hc : 0 < (rjoin k a b m i).length ∧ lastT (rjoin k a b m i) = m[i]!) : rjoin k a b m (i + 1) = ext (rjoin k a b m i) m[i + 1]! := by
  unfold rjoin at *
  rw [pcs_succ, piece, h, if_pos rfl, List.foldl_append, List.foldl_cons, List.foldl_nil, if_pos hc]
theorem rjoin_succ_new {k : Bool → Bool → Bool} {a b : List S} {m : List Int} {i : Nat} (h : k (cov a m[i]!) (cov b m[i]!) = true) (hc : ¬(0 < (rjoin k a b m i).length ∧ lastT (rjoin k a b m i) = m[i]!)) : rjoin k a b m (i + 1) = rjoin k a b m i ++ [⟨m[i]!, m[i + 1]!⟩] := by
  unfold rjoin at *
  rw [pcs_succ, piece, h, if_pos rfl, List.foldl_append, List.foldl_cons, List.foldl_nil, if_neg hc]
/-! Union. -/
theorem union_comb (a b : List S) : norm (a ++ b) = comb (· || ·) a b := comb_eq rfl (norm_norm _) fun q => by rw [norm_cov, cov_append]
theorem norm_comb (l : List S) : norm l = comb (· || ·) l [] := comb_eq rfl (norm_norm _) fun q => by rw [norm_cov, cov_nil, Bool.or_false]
/-- What is covered at q by a normal list whose spans ahead of place p end at q or before. -/
theorem cov_head {n : List S} (h : Norm n) {p : Nat} {q : Int} (h1 : ∀ j, j < p → j < n.length → n[j]!.t ≤ q) (h2 : n.length ≤ p ∨ (p < n.length ∧ q < n[p]!.t)) : cov n q = (decide (p < n.length) && decide (n[p]!.f ≤ q)) := by
  rw [Bool.eq_iff_iff, cov_iff, Bool.and_eq_true, decide_eq_true_eq, decide_eq_true_eq]
  constructor
  · rintro ⟨x, hx, hi⟩
    have hq := (inn_iff x q).1 hi
    obtain ⟨j, hj, rfl⟩ := List.mem_iff_getElem.1 hx
    have hjp : ¬ j < p := fun hlt => by
      have := h1 j hlt hj
      rw [getElem!_pos n j hj] at this
      omega
    rcases h2 with h2 | ⟨h2, h3⟩
    · omega
    · refine ⟨h2, ?_⟩
      rcases Nat.eq_or_lt_of_le (show p ≤ j by omega) with e | hlt
      · subst e; rw [getElem!_pos n p h2]; exact hq.2.1
      · have := List.pairwise_iff_getElem.1 h.2 p j h2 hj hlt
        have ho := (ok_iff _).1 (h.1 _ (List.getElem_mem h2))
        rw [getElem!_pos n p h2]
        omega
  · rintro ⟨h3, h4⟩
    rcases h2 with h2 | ⟨_, h5⟩
    · omega
    · exact ⟨n[p]!, bang_mem h3, (inn_iff _ q).2 ⟨h.1 _ (bang_mem h3), h4, h5⟩⟩
end Sp
end Go.Proofs.Ytbdfhiihaemjhaa
