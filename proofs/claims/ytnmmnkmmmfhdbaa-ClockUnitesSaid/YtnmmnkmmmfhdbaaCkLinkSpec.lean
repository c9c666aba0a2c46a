/- Linked domains in plain Lean. Conditions: none. -/
import Derived.Test.YtnmmnkmmmfhdbaaCkSpec
namespace Go.Proofs.Ytnmmnkmmmfhdbaa
open Go Go.Eng
namespace Ck
def eqS (x y : Snap) : Bool := (x.a == y.a) && (x.ata == y.ata) && (x.b == y.b) && ((x.lo == y.lo) && (x.hi == y.hi))
theorem eqS_iff (x y : Snap) : eqS x y = true ↔ x = y := by
  obtain ⟨a, b, c, d, e⟩ := x
  obtain ⟨a', b', c', d', e'⟩ := y
  simp [eqS]
  constructor
  · rintro ⟨⟨⟨h1, h2⟩, h3⟩, h4, h5⟩; exact ⟨h1, h2, h3, h4, h5⟩
  · rintro ⟨h1, h2, h3, h4, h5⟩; exact ⟨⟨⟨h1, h2⟩, h3⟩, h4, h5⟩
def difN (l : List Snap) (i : Nat) : List Snap := (List.range i).flatMap fun j => if (l.take j).any (eqS l[j]!) then [] else [l[j]!]
theorem difN_succ (l : List Snap) (i : Nat) : difN l (i + 1) = difN l i ++ if (l.take i).any (eqS l[i]!) then [] else [l[i]!] := by
  simp only [difN, List.range_succ, List.flatMap_append, List.flatMap_cons, List.flatMap_nil, List.append_nil]
theorem difN_len (l : List Snap) : ∀ i, (difN l i).length ≤ i
  | 0 => by simp [difN]
  | i + 1 => by
    have := difN_len l i
    rw [difN_succ, List.length_append]
    split <;> simp <;> omega
theorem mem_difN (l : List Snap) (x : Snap) : ∀ i, i ≤ l.length → (x ∈ difN l i ↔ x ∈ l.take i)
  | 0, _ => by simp [difN]
  | i + 1, h => by
    have ih := mem_difN l x i (by omega)
    rw [difN_succ, take_bang (by omega), List.mem_append, List.mem_append, ih]
    cases ha : (l.take i).any (eqS l[i]!) with
    | false => simp only [Bool.false_eq_true, if_false]
    | true =>
      simp only [if_true, List.not_mem_nil, or_false, List.mem_singleton]
      obtain ⟨y, hy, he⟩ := List.any_eq_true.1 ha
      rw [eqS_iff] at he
      constructor
      · exact .inl
      · rintro (h | h)
        · exact h
        · rw [h, he]; exact hy
theorem any_take {p : Snap → Bool} {l : List Snap} {j : Nat} (h : j < l.length) : (l.take (j + 1)).any p = ((l.take j).any p || p l[j]!) := by
  rw [take_bang h, List.any_append]; simp only [List.any_cons, List.any_nil, Bool.or_false]
theorem dif_flag {l : List Snap} {i j : Nat} {b c : Bool} (h : b = ((l.take i).take j).any (eqS l[i]!)) (hj : i ≤ j) (hb : b = c) : (l.take i).any (eqS l[i]!) = c := by
  rw [List.take_of_length_le (by rw [List.length_take]; omega)] at h
  rw [← h, hb]
/-! The rounds. -/
def step (S : Int → Bool) (x : Snap) : Int → Bool := if S x.a || S x.b then (fun q => q == x.a || q == x.b || S q) else S
def rounds (l : List Snap) : Nat → Int → Bool
  | 0 => fun q => q == 0
  | n + 1 => l.foldl step (rounds l n)
def linkedF (d : List Dom) (l : List Snap) (id : Int) : Bool := (checkF d l == 0 && decide (0 ≤ idx d id 0)) && rounds (difN l l.length) d.length id
inductive Reach (l : List Snap) : Int → Prop where
  | zero : Reach l 0
  | fwd {x : Snap} : x ∈ l → Reach l x.a → Reach l x.b
  | bwd {x : Snap} : x ∈ l → Reach l x.b → Reach l x.a
theorem Reach.mono {l r : List Snap} (h : ∀ x ∈ l, x ∈ r) {q : Int} (hq : Reach l q) : Reach r q := by
  induction hq with
  | zero => exact .zero
  | fwd hx _ ih => exact .fwd (h _ hx) ih
  | bwd hx _ ih => exact .bwd (h _ hx) ih
theorem step_mono (S : Int → Bool) (x : Snap) (q : Int) (h : S q = true) : step S x q = true := by
  unfold step; split
  · simp [h]
  · exact h
theorem fold_mono : ∀ (l : List Snap) (S : Int → Bool) (q : Int), S q = true → l.foldl step S q = true
  | [], _, _, h => h
  | x :: l, S, q, h => fold_mono l (step S x) q (step_mono S x q h)
theorem step_both (S : Int → Bool) (x : Snap) (h : (S x.a || S x.b) = true) : step S x x.a = true ∧ step S x x.b = true := by
  unfold step; rw [if_pos h]; simp
theorem fold_both : ∀ (l : List Snap) (S : Int → Bool) (x : Snap), x ∈ l → (S x.a || S x.b) = true → l.foldl step S x.a = true ∧ l.foldl step S x.b = true
  | y :: l, S, x, hx, h => by
    rw [List.foldl_cons]
    rcases List.mem_cons.1 hx with rfl | hx
    · have := step_both S x h
      exact ⟨fold_mono l _ _ this.1, fold_mono l _ _ this.2⟩
    · refine fold_both l (step S y) x hx ?_
      rw [Bool.or_eq_true] at h ⊢
      rcases h with h | h
      · exact .inl (step_mono S y _ h)
      · exact .inr (step_mono S y _ h)
theorem step_sound {r : List Snap} (S : Int → Bool) (x : Snap) (hx : x ∈ r) (hS : ∀ q, S q = true → Reach r q) (q : Int) (h : step S x q = true) : Reach r q := by
  unfold step at h
  split at h
  · rename_i hc
    simp only [Bool.or_eq_true, beq_iff_eq] at h hc
    have hab : Reach r x.a ∧ Reach r x.b := by
      rcases hc with hc | hc
      · exact ⟨hS _ hc, .fwd hx (hS _ hc)⟩
      · exact ⟨.bwd hx (hS _ hc), hS _ hc⟩
    rcases h with (rfl | rfl) | h
    · exact hab.1
    · exact hab.2
    · exact hS _ h
  · exact hS _ h
theorem fold_sound {r : List Snap} : ∀ (l : List Snap) (S : Int → Bool), (∀ x ∈ l, x ∈ r) → (∀ q, S q = true → Reach r q) → ∀ q, l.foldl step S q = true → Reach r q
  | [], _, _, hS, q, h => hS q h
  | x :: l, S, hl, hS, q, h => fold_sound l (step S x) (fun y hy => hl y (List.mem_cons_of_mem _ hy)) (fun q h => step_sound S x (hl x (by simp)) hS q h) q h
theorem rounds_sound (l : List Snap) : ∀ n q, rounds l n q = true → Reach l q
  | 0, q, h => by have : q = 0 := by simpa [rounds] using h
                  subst this; exact .zero
  | n + 1, q, h => fold_sound l (rounds l n) (fun _ h => h) (rounds_sound l n) q h
def closed (l : List Snap) (S : Int → Bool) : Prop := ∀ x ∈ l, S x.a = S x.b
theorem step_closed (S : Int → Bool) (x : Snap) (h : S x.a = S x.b) : step S x = S := by
  funext q
  unfold step; split
  · rename_i hc
    rw [← h, Bool.or_self] at hc
    by_cases h1 : q = x.a
    · subst h1; simp [hc]
    · by_cases h2 : q = x.b
      · subst h2; simp [← h, hc]
      · simp [h1, h2]
  · rfl
theorem fold_closed : ∀ (l : List Snap) (S : Int → Bool), closed l S → l.foldl step S = S
  | [], _, _ => rfl
  | x :: l, S, h => by
    rw [List.foldl_cons, step_closed S x (h x (by simp))]
    exact fold_closed l S fun y hy => h y (List.mem_cons_of_mem _ hy)
theorem closed_reach {l : List Snap} {S : Int → Bool} (h : closed l S) (h0 : S 0 = true) {q : Int} (hq : Reach l q) : S q = true := by
  induction hq with
  | zero => exact h0
  | fwd hx _ ih => rw [← h _ hx]; exact ih
  | bwd hx _ ih => rw [h _ hx]; exact ih
def cnt (d : List Dom) (S : Int → Bool) : Nat := (d.filter fun x => S x.id).length
theorem cnt_le (d : List Dom) (S : Int → Bool) : cnt d S ≤ d.length := List.length_filter_le _ _
theorem cnt_mono : ∀ (d : List Dom) (S T : Int → Bool), (∀ q, S q = true → T q = true) → cnt d S ≤ cnt d T
  | [], _, _, _ => by simp [cnt]
  | x :: d, S, T, h => by
    have ih := cnt_mono d S T h
    unfold cnt at *
    simp only [List.filter_cons]
    cases h1 : S x.id with
    | true => rw [h _ h1]; simp only [if_true, List.length_cons]; omega
    | false => cases h2 : T x.id <;> simp only [Bool.false_eq_true, if_true, if_false, List.length_cons] <;> omega
theorem cnt_lt : ∀ (d : List Dom) (S T : Int → Bool), (∀ q, S q = true → T q = true) → (∃ x ∈ d, S x.id = false ∧ T x.id = true) → cnt d S < cnt d T
  | [], _, _, _, h => by obtain ⟨x, hx, _⟩ := h; cases hx
  | x :: d, S, T, h, ⟨y, hy, h1, h2⟩ => by
    rcases List.mem_cons.1 hy with rfl | hy
    · have := cnt_mono d S T h
      unfold cnt at *
      simp only [List.filter_cons, h1, h2, Bool.false_eq_true, if_true, if_false, List.length_cons]; omega
    · have ih := cnt_lt d S T h ⟨y, hy, h1, h2⟩
      unfold cnt at *
      simp only [List.filter_cons]
      cases e1 : S x.id with
      | true => rw [h _ e1]; simp only [if_true, List.length_cons]; omega
      | false => cases e2 : T x.id <;> simp only [Bool.false_eq_true, if_true, if_false, List.length_cons] <;> omega
theorem idx_some : ∀ (d : List Dom) (i : Int) (k : Nat), 0 ≤ idx d i k → ∃ x ∈ d, x.id = i
  | [], i, k, h => by simp [idx] at h
  | x :: r, i, k, h => by
    simp only [idx] at h
    split at h
    · rename_i hc; exact ⟨x, by simp, by simpa using hc⟩
    · obtain ⟨y, hy, he⟩ := idx_some r i _ h; exact ⟨y, List.mem_cons_of_mem _ hy, he⟩
theorem idx_none : ∀ (d : List Dom) (i : Int) (k : Nat), (∃ x ∈ d, x.id = i) → 0 ≤ idx d i k
  | [], i, k, h => by obtain ⟨x, hx, _⟩ := h; cases hx
  | x :: r, i, k, h => by
    simp only [idx]
    split
    · omega
    · rename_i hc
      obtain ⟨y, hy, he⟩ := h
      rcases List.mem_cons.1 hy with rfl | hy
      · exact absurd (by simpa using he) hc
      · exact idx_none r i _ ⟨y, hy, he⟩
theorem snaps_all {d : List Dom} : ∀ {l : List Snap}, snaps d l = 0 → ∀ x ∈ l, snapF d x = 0
  | y :: l, h, x, hx => by
    simp only [snaps] at h
    split at h
    · rename_i hc
      rcases List.mem_cons.1 hx with rfl | hx
      · simpa using hc
      · exact snaps_all h x hx
    · rename_i hc; exact absurd (by simpa using h) hc
theorem snaps_of_all {d : List Dom} : ∀ {l : List Snap}, (∀ x ∈ l, snapF d x = 0) → snaps d l = 0
  | [], _ => rfl
  | y :: l, h => by
    simp only [snaps]
    rw [if_pos (by rw [h y (by simp)]; rfl)]
    exact snaps_of_all fun x hx => h x (List.mem_cons_of_mem _ hx)
theorem snapF_ids {d : List Dom} {x : Snap} (h : snapF d x = 0) : 0 ≤ idx d x.a 0 ∧ 0 ≤ idx d x.b 0 := by
  unfold snapF at h
  split at h
  · cases h
  · rename_i hc; simp at hc; omega
theorem check_ok {d : List Dom} {l : List Snap} (h : checkF d l = 0) : d.length ≠ 0 ∧ d.length ≤ 8 ∧ l.length ≤ 200 ∧ d[0]!.id = 0 ∧ doms d d 0 = 0 ∧ snaps d l = 0 := by
  unfold checkF at h
  split at h
  · cases h
  · split at h
    · cases h
    · split at h
      · rename_i h1 h2 h3
        split at h
        · rename_i h4
          simp only [Bool.and_eq_true, beq_iff_eq] at h3 h4
          exact ⟨h1, by omega, by omega, h3.1, h4, h⟩
        · rename_i h4; exact absurd (by simpa using h) h4
      · cases h
theorem rounds_all {d : List Dom} {l : List Snap} (h0 : ∃ x ∈ d, x.id = 0) (hl : ∀ x ∈ l, (∃ y ∈ d, y.id = x.a) ∧ ∃ y ∈ d, y.id = x.b) : ∀ n, closed l (rounds l n) ∨ n + 1 ≤ cnt d (rounds l n)
  | 0 => .inr (by
      obtain ⟨x, hx, he⟩ := h0
      have : cnt d (fun _ => false) < cnt d (rounds l 0) := cnt_lt d _ _ (fun q h => by cases h) ⟨x, hx, rfl, by simp [rounds, he]⟩
      omega)
  | n + 1 => by
    rcases rounds_all h0 hl n with h | h
    · left
      show closed l (l.foldl step (rounds l n))
      rw [fold_closed l _ h]; exact h
    · by_cases hc : closed l (rounds l n)
      · left
        show closed l (l.foldl step (rounds l n))
        rw [fold_closed l _ hc]; exact hc
      · right
        have : ∃ x ∈ l, rounds l n x.a ≠ rounds l n x.b := by
          refine Classical.byContradiction fun hn => hc fun x hx => ?_
          exact Classical.byContradiction fun he => hn ⟨x, hx, he⟩
        obtain ⟨x, hx, hne⟩ := this
        have hor : (rounds l n x.a || rounds l n x.b) = true := by
          cases h1 : rounds l n x.a <;> cases h2 : rounds l n x.b <;> simp_all
        have hb := fold_both l (rounds l n) x hx hor
        have key : ∃ y ∈ d, rounds l n y.id = false ∧ rounds l (n + 1) y.id = true := by
          obtain ⟨⟨ya, ha, ea⟩, yb, hb', eb⟩ := hl x hx
          cases h1 : rounds l n x.a with
          | false => exact ⟨ya, ha, by rw [ea]; exact h1, by rw [ea]; exact hb.1⟩
          | true =>
            cases h2 : rounds l n x.b with
            | false => exact ⟨yb, hb', by rw [eb]; exact h2, by rw [eb]; exact hb.2⟩
            | true => exact absurd (h1.trans h2.symm) hne
        have := cnt_lt d (rounds l n) (rounds l (n + 1)) (fun q h => fold_mono l _ q h) key
        omega
theorem rounds_zero (l : List Snap) : ∀ n, rounds l n 0 = true
  | 0 => rfl
  | n + 1 => fold_mono l _ 0 (rounds_zero l n)
/-- What Linked says of valid domains and snapshots. -/
theorem rounds_iff {d : List Dom} {l : List Snap} (h : checkF d l = 0) (q : Int) : rounds (difN l l.length) d.length q = true ↔ Reach l q := by
  obtain ⟨h1, h2, h3, h4, h5, h6⟩ := check_ok h
  have hmem : ∀ x, x ∈ difN l l.length ↔ x ∈ l := fun x => by rw [mem_difN l x l.length (Nat.le_refl _), List.take_length]
  constructor
  · intro hr; exact (rounds_sound _ _ q hr).mono fun x hx => (hmem x).1 hx
  · intro hr
    have h0 : ∃ x ∈ d, x.id = 0 := ⟨d[0]!, bang_mem (by omega), h4⟩
    have hl : ∀ x ∈ difN l l.length, (∃ y ∈ d, y.id = x.a) ∧ ∃ y ∈ d, y.id = x.b := fun x hx => by
      have := snapF_ids (snaps_all h6 x ((hmem x).1 hx))
      exact ⟨idx_some d _ 0 this.1, idx_some d _ 0 this.2⟩
    have hcl : closed (difN l l.length) (rounds (difN l l.length) d.length) := by
      rcases rounds_all h0 hl d.length with hc | hc
      · exact hc
      · have := cnt_le d (rounds (difN l l.length) d.length); omega
    exact closed_reach hcl (rounds_zero _ _) (hr.mono fun x hx => (hmem x).2 hx)
theorem linked_iff (d : List Dom) (l : List Snap) (id : Int) : linkedF d l id = true ↔ checkF d l = 0 ∧ 0 ≤ idx d id 0 ∧ Reach l id := by
  unfold linkedF
  simp only [Bool.and_eq_true, beq_iff_eq, decide_eq_true_eq]
  constructor
  · rintro ⟨⟨h1, h2⟩, h3⟩; exact ⟨h1, h2, (rounds_iff h1 id).1 h3⟩
  · rintro ⟨h1, h2, h3⟩; exact ⟨⟨h1, h2⟩, (rounds_iff h1 id).2 h3⟩
theorem linked_no {d : List Dom} {l : List Snap} {id : Int} (h : (!(checkF d l == 0) || decide (idx d id 0 < 0)) = true) : linkedF d l id = false := by
  unfold linkedF
  cases hc : checkF d l == 0 with
  | false => rfl
  | true =>
    simp only [hc, Bool.not_true, Bool.false_or, decide_eq_true_eq] at h
    rw [show decide (0 ≤ idx d id 0) = false from by simp only [decide_eq_false_iff_not]; omega]; rfl
theorem linked_yes {d : List Dom} {l : List Snap} {id : Int} (h : (!(checkF d l == 0) || decide (idx d id 0 < 0)) = false) : linkedF d l id = rounds (difN l l.length) d.length id := by
  unfold linkedF
  cases hc : checkF d l == 0 with
  | false => simp [hc] at h
  | true =>
    simp only [hc, Bool.not_true, Bool.false_or, decide_eq_false_iff_not] at h
    rw [show decide (0 ≤ idx d id 0) = true from by simp only [decide_eq_true_eq]; omega]; rfl
theorem pairs_ok {b c : Bool} {d : List Dom} {l : List Snap} (h : (!(b && c) || !(checkF d l == 0)) = false) : checkF d l = 0 := by
  have := not_f (or_f h).2
  simpa using this
theorem idx_of_mem {d : List Dom} {x : Snap} (h : snapF d x = 0) : 0 ≤ idx d x.a 0 ∧ 0 ≤ idx d x.b 0 := snapF_ids h
theorem pairs_eq {d : List Dom} {l : List Snap} (h : checkF d l = 0) {i : Nat} (hi : i < l.length) : linkedF d l l[i]!.a = linkedF d l l[i]!.b := by
  have hs := snapF_ids (snaps_all (check_ok h).2.2.2.2.2 _ (bang_mem hi))
  have h1 := linked_iff d l l[i]!.a
  have h2 := linked_iff d l l[i]!.b
  have : linkedF d l l[i]!.a = true ↔ linkedF d l l[i]!.b = true := by
    rw [h1, h2]
    constructor
    · rintro ⟨a, b, c⟩; exact ⟨a, hs.2, .fwd (bang_mem hi) c⟩
    · rintro ⟨a, b, c⟩; exact ⟨a, hs.1, .bwd (bang_mem hi) c⟩
  cases e1 : linkedF d l l[i]!.a <;> cases e2 : linkedF d l l[i]!.b <;> simp_all
theorem linked_zero {d : List Dom} {l : List Snap} (h : checkF d l = 0) : linkedF d l 0 = true := by
  obtain ⟨h1, _, _, h4, _, _⟩ := check_ok h
  exact (linked_iff d l 0).2 ⟨h, idx_none d 0 0 ⟨d[0]!, bang_mem (by omega), h4⟩, .zero⟩
/-! What chains of snapshots reach, as the reference finds it. -/
def ends (l : List Snap) : List Int := 0 :: l.flatMap fun x => [x.a, x.b]
theorem ends_len (l : List Snap) : (ends l).length = 2 * l.length + 1 := by
  unfold ends
  rw [List.length_cons]
  have : (l.flatMap fun x => [x.a, x.b]).length = 2 * l.length := by
    induction l with
    | nil => rfl
    | cons x r ih => rw [List.flatMap_cons, List.length_append, ih]; simp; omega
  rw [this]
theorem nodup_len : ∀ (o e : List Int), o.Nodup → (∀ q ∈ o, q ∈ e) → o.length ≤ e.length
  | [], e, _, _ => Nat.zero_le _
  | q :: o, e, hn, h => by
    have hn' := List.nodup_cons.1 hn
    have hq := h q (by simp)
    have := nodup_len o (e.erase q) hn'.2 fun x hx => by
      refine (List.mem_erase_of_ne ?_).2 (h x (List.mem_cons_of_mem _ hx))
      rintro rfl; exact hn'.1 hx
    rw [List.length_erase_of_mem hq] at this
    have := List.length_pos_of_mem hq
    simp only [List.length_cons]; omega
structure RInv (l : List Snap) (o : List Int) (i k : Nat) : Prop where
  nd : o.Nodup
  sound : ∀ q ∈ o, Reach l q
  sub : ∀ q ∈ o, q ∈ ends l
  zero : (0 : Int) ∈ o
  done : ∀ j, j < i → ∀ x ∈ l, (x.a = o[j]! → x.b ∈ o) ∧ (x.b = o[j]! → x.a ∈ o)
  cur : i < o.length → ∀ x ∈ l.take k, (x.a = o[i]! → x.b ∈ o) ∧ (x.b = o[i]! → x.a ∈ o)
  le : i ≤ o.length
theorem RInv.len {l : List Snap} {o : List Int} {i k : Nat} (h : RInv l o i k) : o.length ≤ 2 * l.length + 1 := by
  rw [← ends_len]; exact nodup_len o (ends l) h.nd h.sub
theorem RInv.start (l : List Snap) : RInv l [0] 0 0 where
  nd := by simp
  sound := fun q hq => by have : q = 0 := by simpa using hq
                          subst this; exact .zero
  sub := fun q hq => by have : q = 0 := by simpa using hq
                        subst this; simp [ends]
  zero := by simp
  done := fun j hj => absurd hj (Nat.not_lt_zero j)
  cur := fun _ x hx => by simp at hx
  le := by simp
theorem bang_app {o : List Int} {j : Nat} (h : j < o.length) (q : Int) : (o ++ [q])[j]! = o[j]! := by
  rw [getElem!_pos (o ++ [q]) j (by simp; omega), getElem!_pos o j h, List.getElem_append_left h]
theorem RInv.grow {l : List Snap} {o : List Int} {i k : Nat} (h : RInv l o i k) (hi : i < o.length) {q : Int} (hq : q ∉ o) (hr : Reach l q) (he : q ∈ ends l) : RInv l (o ++ [q]) i k where
  nd := by
    rw [List.nodup_append]
    refine ⟨h.nd, by simp, fun a ha b hb => ?_⟩
    have : b = q := by simpa using hb
    subst this; rintro rfl; exact hq ha
  sound := fun x hx => by
    rcases List.mem_append.1 hx with hx | hx
    · exact h.sound x hx
    · have : x = q := by simpa using hx
      subst this; exact hr
  sub := fun x hx => by
    rcases List.mem_append.1 hx with hx | hx
    · exact h.sub x hx
    · have : x = q := by simpa using hx
      subst this; exact he
  zero := List.mem_append_left _ h.zero
  done := fun j hj x hx => by
    rw [bang_app (by omega)]
    exact ⟨fun e => List.mem_append_left _ ((h.done j hj x hx).1 e), fun e => List.mem_append_left _ ((h.done j hj x hx).2 e)⟩
  cur := fun _ x hx => by
    rw [bang_app hi]
    exact ⟨fun e => List.mem_append_left _ ((h.cur hi x hx).1 e), fun e => List.mem_append_left _ ((h.cur hi x hx).2 e)⟩
  le := by rw [List.length_append]; have := h.le; omega
theorem mem_ends {l : List Snap} {x : Snap} (h : x ∈ l) : x.a ∈ ends l ∧ x.b ∈ ends l := by
  unfold ends
  constructor <;> refine List.mem_cons_of_mem _ (List.mem_flatMap.2 ⟨x, h, by simp⟩)
/-- Behind the first question on a snapshot. -/
def RHalf (l : List Snap) (o : List Int) (i k : Nat) : Prop := RInv l o i k ∧ i < o.length ∧ (l[k]!.a = o[i]! → l[k]!.b ∈ o)
theorem RInv.half_t {l : List Snap} {o : List Int} {i k : Nat} (h : RInv l o i k) (hi : i < o.length) (hk : k < l.length) (hc : (l[k]!.a == o[i]! && !decide (l[k]!.b ∈ o)) = true) : RHalf l (o ++ [l[k]!.b]) i k := by
  have h1 := eq_t (and_t hc).1
  have h2 := of_decide_eq_false (not_t (and_t hc).2)
  refine ⟨h.grow hi h2 (.fwd (bang_mem hk) (h1 ▸ h.sound _ (bang_mem hi))) (mem_ends (bang_mem hk)).2, by simp; omega, fun _ => by simp⟩
theorem RInv.half_f {l : List Snap} {o : List Int} {i k : Nat} (h : RInv l o i k) (hi : i < o.length) (hk : k < l.length) (hc : (l[k]!.a == o[i]! && !decide (l[k]!.b ∈ o)) = false) : RHalf l o i k := by
  refine ⟨h, hi, fun e => ?_⟩
  rw [e] at hc
  have : decide (l[k]!.b ∈ o) = true := by simpa using hc
  exact of_decide_eq_true this
theorem RInv.next {l : List Snap} {o : List Int} {i k : Nat} (h : RInv l o i k) (hk : k < l.length) (h1 : l[k]!.a = o[i]! → l[k]!.b ∈ o) (h2 : l[k]!.b = o[i]! → l[k]!.a ∈ o) : RInv l o i (k + 1) where
  nd := h.nd
  sound := h.sound
  sub := h.sub
  zero := h.zero
  done := h.done
  le := h.le
  cur := fun hi x hx => by
    rw [take_bang hk] at hx
    rcases List.mem_append.1 hx with hx | hx
    · exact h.cur hi x hx
    · have : x = l[k]! := by simpa using hx
      subst this; exact ⟨h1, h2⟩
theorem RHalf.full_t {l : List Snap} {o : List Int} {i k : Nat} (h : RHalf l o i k) (hk : k < l.length) (hc : (l[k]!.b == o[i]! && !decide (l[k]!.a ∈ o)) = true) : RInv l (o ++ [l[k]!.a]) i (k + 1) := by
  obtain ⟨h0, hi, h3⟩ := h
  have h1 := eq_t (and_t hc).1
  have h2 := of_decide_eq_false (not_t (and_t hc).2)
  refine (h0.grow hi h2 (.bwd (bang_mem hk) (h1 ▸ h0.sound _ (bang_mem hi))) (mem_ends (bang_mem hk)).1).next hk ?_ ?_
  · rw [bang_app hi]; exact fun e => List.mem_append_left _ (h3 e)
  · exact fun _ => by simp
theorem RHalf.full_f {l : List Snap} {o : List Int} {i k : Nat} (h : RHalf l o i k) (hk : k < l.length) (hc : (l[k]!.b == o[i]! && !decide (l[k]!.a ∈ o)) = false) : RInv l o i (k + 1) := by
  obtain ⟨h0, hi, h3⟩ := h
  refine h0.next hk h3 fun e => ?_
  rw [e] at hc
  have : decide (l[k]!.a ∈ o) = true := by simpa using hc
  exact of_decide_eq_true this
theorem RInv.turn {l : List Snap} {o : List Int} {i k : Nat} (h : RInv l o i k) (hk : l.length ≤ k) (hi : i < o.length) : RInv l o (i + 1) 0 where
  nd := h.nd
  sound := h.sound
  sub := h.sub
  zero := h.zero
  le := hi
  cur := fun _ x hx => by simp at hx
  done := fun j hj x hx => by
    rcases Nat.lt_succ_iff_lt_or_eq.1 hj with hj | rfl
    · exact h.done j hj x hx
    · exact h.cur hi x (by rw [List.take_of_length_le hk]; exact hx)
theorem RInv.all {l : List Snap} {o : List Int} {i k : Nat} (h : RInv l o i k) (hi : o.length ≤ i) (q : Int) : q ∈ o ↔ Reach l q := by
  refine ⟨h.sound q, fun hr => ?_⟩
  have key : ∀ p ∈ o, ∃ j, j < i ∧ o[j]! = p := fun p hp => by
    obtain ⟨j, hj, rfl⟩ := List.mem_iff_getElem.1 hp
    exact ⟨j, by omega, getElem!_pos o j hj⟩
  induction hr with
  | zero => exact h.zero
  | fwd hx _ ih => obtain ⟨j, hj, e⟩ := key _ ih; exact (h.done j hj _ hx).1 e.symm
  | bwd hx _ ih => obtain ⟨j, hj, e⟩ := key _ ih; exact (h.done j hj _ hx).2 e.symm
theorem linked_dec {d : List Dom} {l : List Snap} {id : Int} {o : List Int} (hc : (checkF d l == 0 && decide (0 ≤ idx d id 0)) = true) (h : ∀ q, q ∈ o ↔ Reach l q) : decide (id ∈ o) = linkedF d l id := by
  have h1 := eq_t (and_t hc).1
  have h2 := of_decide_eq_true (and_t hc).2
  have : (decide (id ∈ o) = true) ↔ linkedF d l id = true := by
    rw [linked_iff, decide_eq_true_eq, h id]
    exact ⟨fun h => ⟨h1, h2, h⟩, fun h => h.2.2⟩
  cases e1 : decide (id ∈ o) <;> cases e2 : linkedF d l id <;> simp_all
theorem linked_false {d : List Dom} {l : List Snap} {id : Int} (hc : (checkF d l == 0 && decide (0 ≤ idx d id 0)) = false) : linkedF d l id = false := by
  unfold linkedF; rw [hc]; rfl
theorem grows_le {d : List Dom} {l : List Snap} {x : Snap} {id : Int} (hM : checkF d (([] ++ l) ++ [x]) = 0) (h : linkedF d l id = true) : linkedF d (([] ++ l) ++ [x]) id = true := by
  obtain ⟨_, h2, h3⟩ := (linked_iff d l id).1 h
  exact (linked_iff _ _ _).2 ⟨hM, h2, h3.mono fun y hy => by simp [hy]⟩
theorem check_of {d : List Dom} {l m : List Snap} (h : checkF d l = 0) (hl : m.length = l.length) (hm : ∀ x ∈ m, x ∈ l) : checkF d m = 0 := by
  obtain ⟨h1, h2, h3, h4, h5, h6⟩ := check_ok h
  have hs : snaps d m = 0 := snaps_of_all fun x hx => snaps_all h6 x (hm x hx)
  unfold checkF at h ⊢
  rw [if_neg h1] at h ⊢
  rw [if_neg (by omega)] at h
  rw [if_neg (by omega)]
  split at h
  · rename_i hc
    rw [if_pos hc, if_pos (by rw [h5]; rfl)]; exact hs
  · cases h
theorem grows_rev {d : List Dom} {M : List Snap} {id : Int} {z : Int} (hz : z < 0) (hM : checkF d M = 0) : linkedF d (M.drop (z + 1).toNat).reverse id = linkedF d M id := by
  rw [show (z + 1).toNat = 0 from by omega, List.drop_zero]
  have hr : checkF d M.reverse = 0 := check_of hM (by simp) (by simp)
  have h1 := linked_iff d M.reverse id
  have h2 := linked_iff d M id
  have : linkedF d M.reverse id = true ↔ linkedF d M id = true := by
    rw [h1, h2]
    constructor
    · rintro ⟨_, b, c⟩; exact ⟨hM, b, c.mono fun x hx => by simpa using hx⟩
    · rintro ⟨_, b, c⟩; exact ⟨hr, b, c.mono fun x hx => by simpa using hx⟩
  cases e1 : linkedF d M.reverse id <;> cases e2 : linkedF d M id <;> simp_all
theorem grows_no {a b c : Bool} (h1 : a = true → b = true) (h2 : c = b) (h : ((a && !b) || !(c == b)) = true) : False := by
  subst h2
  cases a <;> cases c <;> simp_all
theorem back_step {M : List Snap} {z : Int} (h0 : 0 ≤ z) (h : z.toNat < M.length) : (M.drop (z - 1 + 1).toNat).reverse = (M.drop (z + 1).toNat).reverse ++ [M[z.toNat]!] := by
  rw [show (z - 1 + 1).toNat = z.toNat from by omega, show (z + 1).toNat = z.toNat + 1 from by omega, drop_bang h, List.reverse_cons]
/-! The map that Linked keeps. -/
def Holds (m : List (Int × Value)) (S : Int → Bool) : Prop := ∀ q, mval m q (.bool false) = .bool (S q)
theorem holds0 (l : List Snap) : Holds (mset [] 0 (.bool true)) (rounds l 0) := fun q => by
  simp only [mval, mget_mset, rounds]
  by_cases h : q = 0
  · subst h; rfl
  · simp only [h, if_false, mget]
    rw [show (q == 0) = false from by simpa using h]; rfl
theorem holds_step {m : List (Int × Value)} {S : Int → Bool} (h : Holds m S) (x : Snap) (hc : (S x.a || S x.b) = true) : Holds (mset (mset m x.a (.bool true)) x.b (.bool true)) (step S x) := fun q => by
  have hq := h q
  unfold step
  rw [if_pos hc]
  unfold mval at hq ⊢
  rw [mget_mset, mget_mset]
  by_cases h1 : q = x.b
  · subst h1; simp
  · by_cases h2 : q = x.a
    · subst h2; simp
    · simp only [h1, h2, if_false]
      rw [hq, show (q == x.a) = false from by simpa using h2, show (q == x.b) = false from by simpa using h1]; rfl
theorem holds_skip {m : List (Int × Value)} {S : Int → Bool} (h : Holds m S) (x : Snap) (hc : (S x.a || S x.b) = false) : Holds m (step S x) := by
  unfold step
  rw [hc]; exact h
theorem holds_take {m : List (Int × Value)} {l : List Snap} {r k : Nat} (hk : k < l.length) (h : Holds m (step ((l.take k).foldl step (rounds l r)) l[k]!)) : Holds m ((l.take (k + 1)).foldl step (rounds l r)) := by
  rw [take_bang hk, List.foldl_append]; exact h
theorem holds_all {m : List (Int × Value)} {l : List Snap} {r k : Nat} (hk : l.length ≤ k) (h : Holds m ((l.take k).foldl step (rounds l r))) : Holds m (rounds l (r + 1)) := by
  rw [List.take_of_length_le hk] at h; exact h
end Ck
end Go.Proofs.Ytnmmnkmmmfhdbaa
