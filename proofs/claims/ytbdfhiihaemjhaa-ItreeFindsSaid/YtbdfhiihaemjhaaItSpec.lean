/- Interval indexes, in plain Lean: the order, the greatest ends, the search. Conditions: none. -/
import Derived.Test.YtbdfhiihaemjhaaSpSpecB
namespace Go.Proofs.Ytbdfhiihaemjhaa
open Go Go.Eng
namespace It
open Sp
/-! The order of indices: a strict total order. -/
def bef (l : List S) (i k : Nat) : Bool := if l[i]!.f ≠ l[k]!.f then decide (l[i]!.f < l[k]!.f) else if l[i]!.t ≠ l[k]!.t then decide (l[i]!.t < l[k]!.t) else decide (i < k)
theorem bef_iff (l : List S) (i k : Nat) : bef l i k = true ↔ l[i]!.f < l[k]!.f ∨ (l[i]!.f = l[k]!.f ∧ (l[i]!.t < l[k]!.t ∨ (l[i]!.t = l[k]!.t ∧ i < k))) := by
  unfold bef
  by_cases h1 : l[i]!.f = l[k]!.f
  · rw [if_neg (by simpa using h1)]
    by_cases h2 : l[i]!.t = l[k]!.t
    · rw [if_neg (by simpa using h2), decide_eq_true_eq]; omega
    · rw [if_pos h2, decide_eq_true_eq]; omega
  · rw [if_pos h1, decide_eq_true_eq]; omega
theorem bef_irr (l : List S) (i : Nat) : bef l i i = false := by
  cases h : bef l i i with
  | false => rfl
  | true => have := (bef_iff l i i).1 h; omega
theorem bef_trans {l : List S} {i j k : Nat} (h1 : bef l i j = true) (h2 : bef l j k = true) : bef l i k = true := by
  rw [bef_iff] at *; omega
theorem bef_tot {l : List S} {i k : Nat} (h : i ≠ k) (h1 : bef l i k = false) : bef l k i = true := by
  have h2 : ¬ bef l i k = true := by rw [h1]; exact Bool.false_ne_true
  rw [bef_iff] at *; omega
theorem bef_f {l : List S} {i k : Nat} (h : bef l i k = true) : l[i]!.f ≤ l[k]!.f := by
  rw [bef_iff] at h; omega
def Up (l : List S) (a : List Nat) : Prop := a.Pairwise fun x y => bef l x y = true
theorem uniq {l : List S} : ∀ {a b : List Nat}, Up l a → Up l b → (∀ x, x ∈ a ↔ x ∈ b) → a = b
  | [], [], _, _, _ => rfl
  | [], y :: s, _, _, h => absurd ((h y).2 List.mem_cons_self) (by simp)
  | x :: r, [], _, _, h => absurd ((h x).1 List.mem_cons_self) (by simp)
  | x :: r, y :: s, ha, hb, h => by
    obtain ⟨ha1, ha2⟩ := List.pairwise_cons.1 ha
    obtain ⟨hb1, hb2⟩ := List.pairwise_cons.1 hb
    have e : x = y := by
      rcases List.mem_cons.1 ((h x).1 List.mem_cons_self) with e | hx
      · exact e
      · rcases List.mem_cons.1 ((h y).2 List.mem_cons_self) with e | hy
        · exact e.symm
        · have h1 := bef_trans (hb1 x hx) (ha1 y hy)
          rw [bef_irr] at h1; cases h1
    subst e
    have hx1 : x ∉ r := fun hh => by have := ha1 x hh; rw [bef_irr] at this; cases this
    have hx2 : x ∉ s := fun hh => by have := hb1 x hh; rw [bef_irr] at this; cases this
    rw [uniq ha2 hb2 fun q => ?_]
    constructor
    · intro hq
      rcases List.mem_cons.1 ((h q).1 (List.mem_cons_of_mem _ hq)) with rfl | e
      · exact absurd hq hx1
      · exact e
    · intro hq
      rcases List.mem_cons.1 ((h q).2 (List.mem_cons_of_mem _ hq)) with rfl | e
      · exact absurd hq hx2
      · exact e
def ordN (l : List S) (n : Nat) : List Nat := (List.range n).mergeSort fun x y => !bef l y x
theorem ordN_perm (l : List S) (n : Nat) : (ordN l n).Perm (List.range n) := List.mergeSort_perm _ _
theorem ordN_mem (l : List S) (n x : Nat) : x ∈ ordN l n ↔ x < n := by rw [(ordN_perm l n).mem_iff, List.mem_range]
theorem ordN_len (l : List S) (n : Nat) : (ordN l n).length = n := by rw [(ordN_perm l n).length_eq, List.length_range]
theorem ordN_nodup (l : List S) (n : Nat) : (ordN l n).Nodup := (ordN_perm l n).nodup_iff.2 List.nodup_range
theorem ordN_up (l : List S) (n : Nat) : Up l (ordN l n) := by
  have h1 := List.pairwise_mergeSort (le := fun x y : Nat => !bef l y x) (fun a b c h1 h2 => by
    have h1 := not_t h1
    have h2 := not_t h2
    cases h : bef l c a with
    | false => rfl
    | true =>
      by_cases hab : b = a
      · subst hab; rw [h] at h2; cases h2
      · have := bef_trans h (bef_tot hab h1)
        rw [this] at h2; cases h2) (fun a b => by
    cases h : bef l a b with
    | false => simp
    | true =>
      have : bef l b a = false := by
        cases hh : bef l b a with
        | false => rfl
        | true => have := bef_trans h hh; rw [bef_irr] at this; cases this
      simp [this]) (List.range n)
  exact h1.imp₂ (fun a b h2 (h3 : a ≠ b) => bef_tot (Ne.symm h3) (not_t h2)) (ordN_nodup l n)
theorem ordN_eq {l : List S} {n : Nat} {a : List Nat} (h : Up l a) (hm : ∀ x, x ∈ a ↔ x < n) : a = ordN l n := uniq h (ordN_up l n) fun x => by rw [hm, ordN_mem]
def ord (l : List S) (n : Nat) : List Int := (ordN l n).map fun x : Nat => (x : Int)
theorem ord_len (l : List S) (n : Nat) : (ord l n).length = n := by unfold ord; rw [List.length_map, ordN_len]
theorem map_bang {a : List Nat} {j : Nat} (h : j < a.length) : (a.map fun x : Nat => (x : Int))[j]! = ((a[j]! : Nat) : Int) := by
  rw [getElem!_pos _ j (by simpa using h), getElem!_pos a j h]; simp
theorem ord_at (l : List S) {n j : Nat} (h : j < n) : (ord l n)[j]! = (((ordN l n)[j]! : Nat) : Int) := map_bang (by rw [ordN_len]; exact h)
theorem ordN_lt (l : List S) {n j : Nat} (h : j < n) : (ordN l n)[j]! < n := (ordN_mem l n _).1 (bang_mem (by rw [ordN_len]; exact h))
theorem up_at {l : List S} {a : List Nat} (h : Up l a) {i j : Nat} (hi : i < j) (hj : j < a.length) : bef l a[i]! a[j]! = true := by
  rw [getElem!_pos a i (by omega), getElem!_pos a j hj]
  exact List.pairwise_iff_getElem.1 h i j (by omega) hj hi
/-- A further index, put where it belongs. -/
theorem ord_put {l : List S} {n k : Nat} (hk : k ≤ n) (h1 : ∀ j, k ≤ j → j < n → bef l n (ordN l n)[j]! = true) (h2 : k = 0 ∨ bef l n (ordN l n)[k - 1]! = false) : ord l (n + 1) = (ord l n).take k ++ [(n : Int)] ++ (ord l n).drop k := by
  have e : (ordN l n).take k ++ [n] ++ (ordN l n).drop k = ordN l (n + 1) := by
    have hl := ordN_len l n
    have hup := ordN_up l n
    refine ordN_eq ?_ fun x => ?_
    · have hd : ∀ x ∈ (ordN l n).drop k, bef l n x = true := fun x hx => by
        obtain ⟨j, hj, rfl⟩ := List.mem_iff_getElem.1 hx
        rw [List.length_drop] at hj
        rw [List.getElem_drop]
        have := h1 (k + j) (by omega) (by omega)
        rwa [getElem!_pos _ (k + j) (by omega)] at this
      have ht : ∀ x ∈ (ordN l n).take k, bef l x n = true := fun x hx => by
        obtain ⟨j, hj, rfl⟩ := List.mem_iff_getElem.1 hx
        rw [List.length_take] at hj
        rw [List.getElem_take]
        rcases h2 with h2 | h2
        · omega
        · have hlt := ordN_lt l (n := n) (j := k - 1) (by omega)
          have h3 := bef_tot (by omega) h2
          rcases Nat.eq_or_lt_of_le (show j ≤ k - 1 by omega) with e | hlt2
          · subst e; rwa [getElem!_pos _ _ (by omega)] at h3
          · have h4 := up_at hup hlt2 (by omega)
            rw [getElem!_pos _ j (by omega)] at h4
            exact bef_trans h4 h3
      refine List.pairwise_append.2 ⟨List.pairwise_append.2 ⟨hup.sublist (List.take_sublist _ _), by simp, fun a ha b hb => ?_⟩, hup.sublist (List.drop_sublist _ _), fun a ha b hb => ?_⟩
      · have := List.mem_singleton.1 hb
        subst this; exact ht a ha
      · rcases List.mem_append.1 ha with ha | ha
        · exact bef_trans (ht a ha) (hd b hb)
        · have := List.mem_singleton.1 ha
          subst this; exact hd b hb
    · have hx := ordN_mem l n x
      rw [← List.take_append_drop k (ordN l n), List.mem_append] at hx
      simp only [List.mem_append, List.mem_singleton]
      rw [Nat.lt_succ_iff_lt_or_eq, ← hx]
      constructor
      · rintro ((h | h) | h)
        · exact .inl (.inl h)
        · exact .inr h
        · exact .inl (.inr h)
      · rintro ((h | h) | h)
        · exact .inl (.inl h)
        · exact .inr h
        · exact .inl (.inr h)
  unfold ord
  rw [← e]
  simp [List.map_take, List.map_drop]
/-! The greatest ends. -/
def low : Int := -9223372036854775808
def mx (v : Nat → Int) : Nat → Nat → Nat → Int
  | 0, _, _ => low
  | k + 1, lo, hi => if hi ≤ lo then low else max (max (v ((lo + hi) / 2)) (mx v k lo ((lo + hi) / 2))) (mx v k ((lo + hi) / 2 + 1) hi)
def fill (v : Nat → Int) : Nat → Nat → Nat → List Int → List Int
  | 0, _, _, a => a
  | k + 1, lo, hi, a => if hi ≤ lo then a else (fill v k ((lo + hi) / 2 + 1) hi (fill v k lo ((lo + hi) / 2) a)).set ((lo + hi) / 2) (mx v (k + 1) lo hi)
theorem fill_len (v : Nat → Int) : ∀ (k lo hi : Nat) (a : List Int), (fill v k lo hi a).length = a.length
  | 0, _, _, _ => rfl
  | k + 1, lo, hi, a => by
    rw [fill]; split
    · rfl
    · rw [List.length_set, fill_len v k, fill_len v k]
theorem mx_ge (v : Nat → Int) : ∀ (k lo hi p : Nat), hi - lo ≤ k → lo ≤ p → p < hi → v p ≤ mx v k lo hi
  | 0, _, _, _, _, _, _ => by omega
  | k + 1, lo, hi, p, hk, h1, h2 => by
    rw [mx, if_neg (by omega)]
    rcases Nat.lt_trichotomy p ((lo + hi) / 2) with h | h | h
    · have := mx_ge v k lo ((lo + hi) / 2) p (by omega) h1 h; omega
    · subst h; omega
    · have := mx_ge v k ((lo + hi) / 2 + 1) hi p (by omega) (by omega) h2; omega
theorem mx_le {v : Nat → Int} {m : Int} (hm : low ≤ m) : ∀ (k lo hi : Nat), (∀ p, lo ≤ p → p < hi → v p ≤ m) → mx v k lo hi ≤ m
  | 0, _, _, _ => hm
  | k + 1, lo, hi, h => by
    rw [mx]; split
    · exact hm
    · have h1 := mx_le hm k lo ((lo + hi) / 2) fun p h1 h2 => h p h1 (by omega)
      have h2 := mx_le hm k ((lo + hi) / 2 + 1) hi fun p h1 h2 => h p (by omega) h2
      have h3 := h ((lo + hi) / 2) (by omega) (by omega)
      omega
theorem mx_low (v : Nat → Int) : ∀ (k lo hi : Nat), low ≤ mx v k lo hi
  | 0, _, _ => Int.le_refl _
  | k + 1, lo, hi => by
    rw [mx]; split
    · exact Int.le_refl _
    · have := mx_low v k lo ((lo + hi) / 2); omega
theorem mx_fuel (v : Nat → Int) : ∀ (k k' lo hi : Nat), hi - lo ≤ k → hi - lo ≤ k' → mx v k lo hi = mx v k' lo hi
  | 0, 0, _, _, _, _ => rfl
  | 0, k' + 1, lo, hi, h, _ => by rw [mx, mx, if_pos (by omega)]
  | k + 1, 0, lo, hi, _, h => by rw [mx, mx, if_pos (by omega)]
  | k + 1, k' + 1, lo, hi, h, h' => by
    rw [mx, mx]
    by_cases hc : hi ≤ lo
    · rw [if_pos hc, if_pos hc]
    · rw [if_neg hc, if_neg hc, mx_fuel v k k' lo _ (by omega) (by omega), mx_fuel v k k' _ hi (by omega) (by omega)]
theorem fill_fuel (v : Nat → Int) : ∀ (k k' lo hi : Nat) (a : List Int), hi - lo ≤ k → hi - lo ≤ k' → fill v k lo hi a = fill v k' lo hi a
  | 0, 0, _, _, _, _, _ => rfl
  | 0, k' + 1, lo, hi, a, h, _ => by rw [fill, fill, if_pos (by omega)]
  | k + 1, 0, lo, hi, a, _, h => by rw [fill, fill, if_pos (by omega)]
  | k + 1, k' + 1, lo, hi, a, h, h' => by
    rw [fill, fill]
    by_cases hc : hi ≤ lo
    · rw [if_pos hc, if_pos hc]
    · rw [if_neg hc, if_neg hc, fill_fuel v k k' lo _ _ (by omega) (by omega), fill_fuel v k k' _ hi _ (by omega) (by omega), mx_fuel v (k + 1) (k' + 1) lo hi h h']
theorem fill_set (v : Nat → Int) : ∀ (k lo hi j : Nat) (a : List Int) (x : Int), j < lo ∨ hi ≤ j → (fill v k lo hi a).set j x = fill v k lo hi (a.set j x)
  | 0, _, _, _, _, _, _ => rfl
  | k + 1, lo, hi, j, a, x, h => by
    rw [fill, fill]
    by_cases hc : hi ≤ lo
    · rw [if_pos hc, if_pos hc]
    · rw [if_neg hc, if_neg hc, List.set_comm _ _ (by omega), fill_set v k _ hi j _ x (by omega), fill_set v k lo _ j a x (by omega)]
/-- The reference: the greatest end of the positions from lo on, ahead of i. -/
def gr (v : Nat → Int) (lo : Nat) : Nat → Int
  | 0 => v lo
  | d + 1 => max (gr v lo d) (v (lo + d))
theorem gr_ge (v : Nat → Int) (lo : Nat) : ∀ (d p : Nat), p < d → v (lo + p) ≤ gr v lo d
  | d + 1, p, h => by
    rw [gr]
    rcases Nat.lt_succ_iff_lt_or_eq.1 h with h | h
    · have := gr_ge v lo d p h; omega
    · subst h; omega
theorem gr_le {v : Nat → Int} {lo : Nat} {m : Int} (h0 : v lo ≤ m) : ∀ (d : Nat), (∀ p, p < d → v (lo + p) ≤ m) → gr v lo d ≤ m
  | 0, _ => h0
  | d + 1, h => by
    rw [gr]
    have h1 := gr_le h0 d fun p hp => h p (by omega)
    have h2 := h d (by omega)
    omega
theorem gr_mx {v : Nat → Int} (hv : ∀ p, low ≤ v p) {k lo hi : Nat} (hk : hi - lo ≤ k) (h : lo < hi) : gr v lo (hi - lo) = mx v k lo hi := by
  have h1 : gr v lo (hi - lo) ≤ mx v k lo hi := gr_le (mx_ge v k lo hi lo hk (Nat.le_refl _) h) _ fun p hp => mx_ge v k lo hi (lo + p) hk (by omega) (by omega)
  have h2 : mx v k lo hi ≤ gr v lo (hi - lo) := by
    refine mx_le ?_ k lo hi fun p h1 h2 => ?_
    · have := gr_ge v lo (hi - lo) 0 (by omega)
      have := hv (lo + 0)
      omega
    · have := gr_ge v lo (hi - lo) (p - lo) (by omega)
      rwa [show lo + (p - lo) = p by omega] at this
  omega
def fillR (v : Nat → Int) : Nat → Nat → Nat → List Int → List Int
  | 0, _, _, a => a
  | k + 1, lo, hi, a => if hi ≤ lo then a else fillR v k ((lo + hi) / 2 + 1) hi (fillR v k lo ((lo + hi) / 2) (a.set ((lo + hi) / 2) (gr v lo (hi - lo))))
theorem fillR_eq {v : Nat → Int} (hv : ∀ p, low ≤ v p) : ∀ (k lo hi : Nat) (a : List Int), hi - lo ≤ k → fillR v k lo hi a = fill v k lo hi a
  | 0, _, _, _, _ => rfl
  | k + 1, lo, hi, a, h => by
    rw [fillR, fill]
    by_cases hc : hi ≤ lo
    · rw [if_pos hc, if_pos hc]
    · rw [if_neg hc, if_neg hc, fillR_eq hv k _ hi _ (by omega), fillR_eq hv k lo _ _ (by omega), gr_mx hv (k := k + 1) h (by omega), ← fill_set v k lo _ _ a _ (by omega), ← fill_set v k _ hi _ _ _ (by omega)]
/-- What a position holds. -/
def nodeV (v : Nat → Int) : Nat → Nat → Nat → Nat → Int
  | 0, _, _, _ => low
  | k + 1, lo, hi, j => if j = (lo + hi) / 2 then mx v (k + 1) lo hi else if j < (lo + hi) / 2 then nodeV v k lo ((lo + hi) / 2) j else nodeV v k ((lo + hi) / 2 + 1) hi j
theorem set_bang {a : List Int} {i j : Nat} {x : Int} (hj : j < a.length) : (a.set i x)[j]! = if i = j then x else a[j]! := by
  rw [getElem!_pos _ j (by rw [List.length_set]; exact hj), List.getElem_set]
  split
  · rfl
  · rw [getElem!_pos a j hj]
theorem fill_other (v : Nat → Int) : ∀ (k lo hi j : Nat) (a : List Int), j < a.length → j < lo ∨ hi ≤ j → (fill v k lo hi a)[j]! = a[j]!
  | 0, _, _, _, _, _, _ => rfl
  | k + 1, lo, hi, j, a, hj, h => by
    rw [fill]; split
    · rfl
    · rw [set_bang (by rw [fill_len, fill_len]; exact hj), if_neg (by omega), fill_other v k _ hi j _ (by rw [fill_len]; exact hj) (by omega), fill_other v k lo _ j a hj (by omega)]
theorem fill_get (v : Nat → Int) : ∀ (k lo hi j : Nat) (a : List Int), hi - lo ≤ k → hi ≤ a.length → lo ≤ j → j < hi → (fill v k lo hi a)[j]! = nodeV v k lo hi j
  | 0, _, _, _, _, _, _, _, _ => by omega
  | k + 1, lo, hi, j, a, hk, ha, h1, h2 => by
    rw [fill, if_neg (by omega), set_bang (by rw [fill_len, fill_len]; omega), nodeV]
    by_cases hj : j = (lo + hi) / 2
    · rw [if_pos hj.symm, if_pos hj]
    · rw [if_neg (Ne.symm hj), if_neg hj]
      by_cases hl : j < (lo + hi) / 2
      · rw [if_pos hl, fill_other v k _ hi j _ (by rw [fill_len]; omega) (by omega), fill_get v k lo _ j a (by omega) (by omega) h1 hl]
      · rw [if_neg hl, fill_get v k _ hi j _ (by omega) (by rw [fill_len]; exact ha) (by omega) h2]
theorem node_ge (v : Nat → Int) : ∀ (k lo hi j : Nat), hi - lo ≤ k → lo ≤ j → j < hi → v j ≤ nodeV v k lo hi j ∧ nodeV v k lo hi j ≤ mx v k lo hi
  | 0, _, _, _, _, _, _ => by omega
  | k + 1, lo, hi, j, hk, h1, h2 => by
    rw [nodeV]
    by_cases hj : j = (lo + hi) / 2
    · rw [if_pos hj]; exact ⟨mx_ge v (k + 1) lo hi j hk h1 h2, Int.le_refl _⟩
    · have hmx : mx v (k + 1) lo hi = max (max (v ((lo + hi) / 2)) (mx v k lo ((lo + hi) / 2))) (mx v k ((lo + hi) / 2 + 1) hi) := by rw [mx, if_neg (by omega)]
      rw [if_neg hj, hmx]
      by_cases hl : j < (lo + hi) / 2
      · rw [if_pos hl]
        have := node_ge v k lo ((lo + hi) / 2) j (by omega) h1 hl; omega
      · rw [if_neg hl]
        have := node_ge v k ((lo + hi) / 2 + 1) hi j (by omega) (by omega) h2; omega
def tv (l : List S) (o : List Nat) (p : Nat) : Int := l[o[p]!]!.t
def most (l : List S) : List Int := fill (tv l (ordN l l.length)) l.length 0 l.length (List.replicate l.length 0)
theorem most_len (l : List S) : (most l).length = l.length := by unfold most; rw [fill_len, List.length_replicate]
theorem most_at (l : List S) {j : Nat} (h : j < l.length) : (most l)[j]! = nodeV (tv l (ordN l l.length)) l.length 0 l.length j :=
  fill_get _ _ _ _ _ _ (by omega) (by simp) (Nat.zero_le _) h
/-! The search. -/
def cm (a s : S) : Bool := ((ok a && ok s) && decide (a.f < s.t)) && decide (s.f < a.t)
def hit (a s : S) : Bool := (ok a && ok s) && decide (a.t > s.f)
def exam (l : List S) (o : List Nat) (ms : List Int) (s : S) : Nat → Nat → Nat → List Int
  | 0, _, _ => []
  | k + 1, lo, hi => if hi ≤ lo ∨ ms[(lo + hi) / 2]! ≤ s.f then [] else
    exam l o ms s k lo ((lo + hi) / 2) ++ if l[o[(lo + hi) / 2]!]!.f ≥ s.t then [] else
      (if hit l[o[(lo + hi) / 2]!]! s then [((o[(lo + hi) / 2]! : Nat) : Int)] else []) ++ exam l o ms s k ((lo + hi) / 2 + 1) hi
def vis (l : List S) (o : List Nat) (ms : List Int) (s : S) : Nat → Nat → Nat → Int
  | 0, _, _ => 0
  | k + 1, lo, hi => if hi ≤ lo ∨ ms[(lo + hi) / 2]! ≤ s.f then 0 else
    (1 + vis l o ms s k lo ((lo + hi) / 2)) + if l[o[(lo + hi) / 2]!]!.f ≥ s.t then 0 else vis l o ms s k ((lo + hi) / 2 + 1) hi
theorem vis_rng (l : List S) (o : List Nat) (ms : List Int) (s : S) : ∀ (k lo hi : Nat), hi - lo ≤ k → 0 ≤ vis l o ms s k lo hi ∧ vis l o ms s k lo hi ≤ ((hi - lo : Nat) : Int)
  | 0, _, _, _ => by simp only [vis]; omega
  | k + 1, lo, hi, hk => by
    rw [vis]
    by_cases hc : hi ≤ lo ∨ ms[(lo + hi) / 2]! ≤ s.f
    · rw [if_pos hc]; omega
    · rw [if_neg hc]
      have h1 := vis_rng l o ms s k lo ((lo + hi) / 2) (by omega)
      have h2 := vis_rng l o ms s k ((lo + hi) / 2 + 1) hi (by omega)
      split <;> omega
theorem exam_vis (l : List S) (o : List Nat) (ms : List Int) (s : S) : ∀ (k lo hi : Nat), ((exam l o ms s k lo hi).length : Int) ≤ vis l o ms s k lo hi
  | 0, _, _ => by simp [exam, vis]
  | k + 1, lo, hi => by
    rw [exam, vis]
    by_cases hc : hi ≤ lo ∨ ms[(lo + hi) / 2]! ≤ s.f
    · rw [if_pos hc, if_pos hc]; simp
    · rw [if_neg hc, if_neg hc, List.length_append]
      have h1 := exam_vis l o ms s k lo ((lo + hi) / 2)
      have h2 := exam_vis l o ms s k ((lo + hi) / 2 + 1) hi
      split
      · simp only [List.length_nil]; omega
      · rw [List.length_append]
        split <;> simp only [List.length_cons, List.length_nil] <;> omega
/-- What a search finds, over positions. -/
theorem exam_eq {l : List S} {o : List Nat} {ms : List Int} {s : S} : ∀ (k lo hi : Nat), hi - lo ≤ k → (∀ j, lo ≤ j → j < hi → ms[j]! = nodeV (tv l o) k lo hi j) → (∀ i j, lo ≤ i → i < j → j < hi → l[o[i]!]!.f ≤ l[o[j]!]!.f) →
    exam l o ms s k lo hi = ((List.range' lo (hi - lo)).filter fun p => cm l[o[p]!]! s).map fun p => ((o[p]! : Nat) : Int)
  | 0, lo, hi, h, _, _ => by rw [show hi - lo = 0 by omega]; rfl
  | k + 1, lo, hi, hk, hn, hs => by
    rw [exam]
    by_cases hle : hi ≤ lo
    · rw [if_pos (.inl hle), show hi - lo = 0 by omega]; rfl
    · have hm := hn ((lo + hi) / 2) (by omega) (by omega)
      rw [nodeV, if_pos rfl] at hm
      have split3 : List.range' lo (hi - lo) = List.range' lo ((lo + hi) / 2 - lo) ++ ((lo + hi) / 2 :: List.range' ((lo + hi) / 2 + 1) (hi - ((lo + hi) / 2 + 1))) := by
        rw [show hi - lo = ((lo + hi) / 2 - lo) + ((hi - ((lo + hi) / 2 + 1)) + 1) by omega, ← List.range'_append_1, List.range'_succ]
        rw [show lo + ((lo + hi) / 2 - lo) = (lo + hi) / 2 by omega]
      by_cases hc : ms[(lo + hi) / 2]! ≤ s.f
      · rw [if_pos (.inr hc)]
        have : ((List.range' lo (hi - lo)).filter fun p => cm l[o[p]!]! s) = [] := by
          rw [List.filter_eq_nil_iff]
          intro p hp
          obtain ⟨h1, h2⟩ := List.mem_range'_1.1 hp
          have h3 := mx_ge (tv l o) (k + 1) lo hi p hk h1 (by omega)
          intro hcm
          have h4 := dec_t (and_t hcm).2
          unfold tv at h3
          rw [hm] at hc
          unfold tv at hc
          omega
        rw [this]; rfl
      · rw [if_neg (by omega)]
        have hn1 : ∀ j, lo ≤ j → j < (lo + hi) / 2 → ms[j]! = nodeV (tv l o) k lo ((lo + hi) / 2) j := fun j h1 h2 => by
          have := hn j h1 (by omega)
          rwa [nodeV, if_neg (by omega), if_pos h2] at this
        have hn2 : ∀ j, (lo + hi) / 2 + 1 ≤ j → j < hi → ms[j]! = nodeV (tv l o) k ((lo + hi) / 2 + 1) hi j := fun j h1 h2 => by
          have := hn j (by omega) h2
          rwa [nodeV, if_neg (by omega), if_neg (by omega)] at this
        rw [exam_eq k lo ((lo + hi) / 2) (by omega) hn1 fun i j h1 h2 h3 => hs i j h1 h2 (by omega), split3, List.filter_append, List.map_append]
        congr 1
        by_cases hr : l[o[(lo + hi) / 2]!]!.f ≥ s.t
        · rw [if_pos hr]
          have : (((lo + hi) / 2 :: List.range' ((lo + hi) / 2 + 1) (hi - ((lo + hi) / 2 + 1))).filter fun p => cm l[o[p]!]! s) = [] := by
            rw [List.filter_eq_nil_iff]
            intro p hp hcm
            have h4 := dec_t (and_t (and_t hcm).1).2
            rcases List.mem_cons.1 hp with rfl | hp
            · omega
            · obtain ⟨h1, h2⟩ := List.mem_range'_1.1 hp
              have := hs ((lo + hi) / 2) p (by omega) (by omega) (by omega)
              omega
          rw [this]; rfl
        · rw [if_neg hr, exam_eq k ((lo + hi) / 2 + 1) hi (by omega) hn2 fun i j h1 h2 h3 => hs i j (by omega) h2 h3, List.filter_cons]
          have e : cm l[o[(lo + hi) / 2]!]! s = hit l[o[(lo + hi) / 2]!]! s := by
            unfold cm hit
            rw [decide_eq_true (show l[o[(lo + hi) / 2]!]!.f < s.t by omega), Bool.and_true]
          rw [e]
          split <;> simp
def found (l : List S) (s : S) : List Int := exam l (ordN l l.length) (most l) s l.length 0 l.length
def visits (l : List S) (s : S) : Int := vis l (ordN l l.length) (most l) s l.length 0 l.length
/-- The overlapping spans, in the order of the list. -/
def over (l : List S) (s : S) (i : Nat) : List Int := ((List.range i).filter fun p => cm l[p]! s).map fun p : Nat => (p : Int)
theorem over_succ (l : List S) (s : S) (i : Nat) : over l s (i + 1) = over l s i ++ if cm l[i]! s then [(i : Int)] else [] := by
  unfold over
  rw [List.range_succ, List.filter_append, List.map_append]
  congr 1
  simp only [List.filter_cons, List.filter_nil]
  split <;> rfl
theorem over_len (l : List S) (s : S) (i : Nat) : (over l s i).length ≤ i := by
  unfold over
  rw [List.length_map]
  have := List.length_filter_le (fun p => cm l[p]! s) (List.range i)
  rwa [List.length_range] at this
theorem found_eq (l : List S) (s : S) : found l s = ((ordN l l.length).filter fun i => cm l[i]! s).map fun i : Nat => (i : Int) := by
  unfold found
  rw [exam_eq l.length 0 l.length (by omega) (fun j _ h => most_at l h) fun i j _ h1 h2 => bef_f (up_at (ordN_up l l.length) h1 (by rw [ordN_len]; exact h2))]
  have hr : List.range' 0 (l.length - 0) = List.range l.length := by rw [Nat.sub_zero, List.range_eq_range']
  rw [hr]
  have e : ordN l l.length = (List.range l.length).map fun p => (ordN l l.length)[p]! := by
    apply List.ext_getElem
    · rw [List.length_map, List.length_range, ordN_len]
    · intro j h1 h2
      rw [List.getElem_map, List.getElem_range, getElem!_pos _ j h1]
  conv => rhs; rw [e]
  rw [List.filter_map, List.map_map]
  rfl
theorem found_len (l : List S) (s : S) : (found l s).length ≤ l.length := by
  have h1 := exam_vis l (ordN l l.length) (most l) s l.length 0 l.length
  have h2 := (vis_rng l (ordN l l.length) (most l) s l.length 0 l.length (by omega)).2
  unfold found; omega
theorem over_rising (l : List S) (s : S) : Inc.Rising (over l s l.length) := by
  unfold over Inc.Rising
  rw [List.pairwise_map]
  exact (List.pairwise_lt_range.filter _).imp fun h => by omega
/-- Sorted, the found ones are the overlapping ones. -/
theorem srt_found (l : List S) (s : S) : Inc.srt (found l s) = over l s l.length := by
  have hnd : (found l s).Nodup := by
    rw [found_eq]
    unfold List.Nodup
    rw [List.pairwise_map]
    exact ((ordN_nodup l l.length).filter _).imp fun h e => h (by omega)
  rw [Inc.srt_eq hnd]
  refine Inc.inc_unique _ _ (Inc.inc_puts _) (over_rising l s) fun q => ?_
  rw [Inc.mem_puts, found_eq]
  unfold over
  simp only [List.mem_map, List.mem_filter, ordN_mem, List.mem_range]
theorem vis_found (l : List S) (s : S) : ((over l s l.length).length : Int) ≤ visits l s := by
  have h1 := exam_vis l (ordN l l.length) (most l) s l.length 0 l.length
  have h2 : (over l s l.length).length = (found l s).length := by rw [← srt_found, Inc.srt_len]
  unfold visits
  unfold found at h2
  omega
/-! How many visits. -/
def lev : Nat → Nat → Nat
  | 0, _ => 0
  | k + 1, n => if n = 0 then 0 else 1 + lev k (n / 2)
theorem vis_before {l : List S} {o : List Nat} {ms : List Int} {s : S} {k lo hi : Nat} (h : ∀ j : Nat, ms[j]! ≤ s.f ∨ hi ≤ lo) : vis l o ms s k lo hi = 0 := by
  cases k with
  | zero => rfl
  | succ k =>
    rw [vis, if_pos]
    rcases h ((lo + hi) / 2) with h | h
    · exact .inr h
    · exact .inl h
theorem vis_after {l : List S} {o : List Nat} {ms : List Int} {s : S} (h : ∀ p : Nat, l[o[p]!]!.f ≥ s.t) : ∀ (k lo hi : Nat), hi - lo ≤ k → vis l o ms s k lo hi ≤ (lev k (hi - lo) : Nat)
  | 0, _, _, _ => by simp [vis, lev]
  | k + 1, lo, hi, hk => by
    rw [vis, lev]
    by_cases hc : hi ≤ lo ∨ ms[(lo + hi) / 2]! ≤ s.f
    · rw [if_pos hc]; omega
    · rw [if_neg hc, if_neg (show ¬ hi - lo = 0 by omega), if_pos (h _)]
      have h1 := vis_after (ms := ms) h k lo ((lo + hi) / 2) (by omega)
      rw [show (lo + hi) / 2 - lo = (hi - lo) / 2 by omega] at h1
      omega
/-! Comparing. -/
def cmpI (x y : Int) : Int := if x < y then -1 else if x > y then 1 else 0
def orL (l : List Int) : Int := (l.find? fun x => !(x == 0)).getD 0
theorem orL_hit {l : List Int} {i : Nat} (hi : i < l.length) (h : (!(l[i]! == 0)) = true) (hb : ∀ j, j < i → l[j]! = 0) : orL l = l[i]! := by
  have : l.find? (fun x => !(x == 0)) = some l[i]! := by
    rw [List.find?_eq_some_iff_getElem]
    refine ⟨h, i, hi, (getElem!_pos l i hi).symm, fun j hj => ?_⟩
    have := hb j hj
    rw [getElem!_pos l j (by omega)] at this
    rw [this]; rfl
  unfold orL; rw [this]; rfl
theorem orL_none {l : List Int} (hb : ∀ j, j < l.length → l[j]! = 0) : orL l = 0 := by
  have : l.find? (fun x => !(x == 0)) = none := by
    rw [List.find?_eq_none]
    intro x hx
    obtain ⟨j, hj, rfl⟩ := List.mem_iff_getElem.1 hx
    have := hb j hj
    rw [getElem!_pos l j hj] at this
    rw [this]; simp
  unfold orL; rw [this]; rfl
def cmpL (l : List S) (i k : Nat) : Int := orL [cmpI l[i]!.f l[k]!.f, cmpI l[i]!.t l[k]!.t, cmpI (i : Int) (k : Int)]
theorem or3 (p q r : Int) : orL [p, q, r] = if p ≠ 0 then p else if q ≠ 0 then q else r := by
  unfold orL
  by_cases h1 : p = 0
  · by_cases h2 : q = 0
    · by_cases h3 : r = 0 <;> simp [h1, h2, h3]
    · simp [h1, h2]
  · simp [h1]
theorem cmp3 (a b c d x y : Int) : orL [cmpI a b, cmpI c d, cmpI x y] < 0 ↔ a < b ∨ (a = b ∧ (c < d ∨ (c = d ∧ x < y))) := by
  rw [or3]
  unfold cmpI
  repeat' split
  all_goals omega
theorem cmpL_lt (l : List S) (i k : Nat) : decide (cmpL l i k < 0) = bef l i k := by
  rw [Bool.eq_iff_iff, decide_eq_true_eq, bef_iff]
  unfold cmpL
  rw [cmp3]
  omega
theorem mx_step (v : Nat → Int) {lo hi : Nat} (h : lo < hi) : mx v (hi - lo) lo hi = max (max (v ((lo + hi) / 2)) (mx v ((lo + hi) / 2 - lo) lo ((lo + hi) / 2))) (mx v (hi - ((lo + hi) / 2 + 1)) ((lo + hi) / 2 + 1) hi) := by
  have e : hi - lo = (hi - lo - 1) + 1 := by omega
  rw [e, mx, if_neg (by omega), mx_fuel v (hi - lo - 1) ((lo + hi) / 2 - lo) lo _ (by omega) (by omega), mx_fuel v (hi - lo - 1) (hi - ((lo + hi) / 2 + 1)) _ hi (by omega) (by omega)]
theorem mx_nil (v : Nat → Int) {lo hi : Nat} (h : hi ≤ lo) : mx v (hi - lo) lo hi = low := by rw [show hi - lo = 0 by omega]; rfl
theorem fill_nil (v : Nat → Int) {lo hi : Nat} (h : hi ≤ lo) (a : List Int) : fill v (hi - lo) lo hi a = a := by rw [show hi - lo = 0 by omega]; rfl
theorem fill_step (v : Nat → Int) {lo hi : Nat} (h : lo < hi) (a : List Int) : fill v (hi - lo) lo hi a = (fill v (hi - ((lo + hi) / 2 + 1)) ((lo + hi) / 2 + 1) hi (fill v ((lo + hi) / 2 - lo) lo ((lo + hi) / 2) a)).set ((lo + hi) / 2) (mx v (hi - lo) lo hi) := by
  have e : hi - lo = (hi - lo - 1) + 1 := by omega
  rw [e, fill, if_neg (by omega), fill_fuel v (hi - lo - 1) ((lo + hi) / 2 - lo) lo _ _ (by omega) (by omega), fill_fuel v (hi - lo - 1) (hi - ((lo + hi) / 2 + 1)) _ hi _ (by omega) (by omega)]
theorem fillR_nil (v : Nat → Int) {lo hi : Nat} (h : hi ≤ lo) (a : List Int) : fillR v (hi - lo) lo hi a = a := by rw [show hi - lo = 0 by omega]; rfl
theorem fillR_fuel (v : Nat → Int) : ∀ (k k' lo hi : Nat) (a : List Int), hi - lo ≤ k → hi - lo ≤ k' → fillR v k lo hi a = fillR v k' lo hi a
  | 0, 0, _, _, _, _, _ => rfl
  | 0, k' + 1, lo, hi, a, h, _ => by rw [fillR, fillR, if_pos (by omega)]
  | k + 1, 0, lo, hi, a, _, h => by rw [fillR, fillR, if_pos (by omega)]
  | k + 1, k' + 1, lo, hi, a, h, h' => by
    rw [fillR, fillR]
    by_cases hc : hi ≤ lo
    · rw [if_pos hc, if_pos hc]
    · rw [if_neg hc, if_neg hc, fillR_fuel v k k' lo _ _ (by omega) (by omega), fillR_fuel v k k' _ hi _ (by omega) (by omega)]
theorem fillR_step (v : Nat → Int) {lo hi : Nat} (h : lo < hi) (a : List Int) : fillR v (hi - lo) lo hi a = fillR v (hi - ((lo + hi) / 2 + 1)) ((lo + hi) / 2 + 1) hi (fillR v ((lo + hi) / 2 - lo) lo ((lo + hi) / 2) (a.set ((lo + hi) / 2) (gr v lo (hi - lo)))) := by
  have e : hi - lo = (hi - lo - 1) + 1 := by omega
  conv => lhs; rw [e, fillR, if_neg (by omega)]
  rw [fillR_fuel v (hi - lo - 1) ((lo + hi) / 2 - lo) lo _ _ (by omega) (by omega), fillR_fuel v (hi - lo - 1) (hi - ((lo + hi) / 2 + 1)) _ hi _ (by omega) (by omega)]
def ic (x : Int) : List Value := [.int .i64 x]
def bc (x : Bool) : List Value := [.bool x]
theorem bc_one (x : Bool) : ∀ u ∈ bc x, u.oneCell' = true := by simp [bc, Value.oneCell']
theorem gr_next (v : Nat → Int) {lo p : Nat} (h : lo ≤ p) : gr v lo (p + 1 - lo) = max (gr v lo (p - lo)) (v p) := by
  rw [show p + 1 - lo = (p - lo) + 1 by omega, gr, show lo + (p - lo) = p by omega]
theorem set_same {a : List Int} {j : Nat} {x : Int} (hj : j < a.length) : (a.set j x)[j]! = x := by rw [set_bang hj, if_pos rfl]
theorem fillR_len (v : Nat → Int) : ∀ (k lo hi : Nat) (a : List Int), (fillR v k lo hi a).length = a.length
  | 0, _, _, _ => rfl
  | k + 1, lo, hi, a => by
    rw [fillR]; split
    · rfl
    · rw [fillR_len v k, fillR_len v k, List.length_set]
/-! The indices in their own order. -/
def iota (n i : Nat) : List Int := ((List.range i).map fun x : Nat => (x : Int)) ++ List.replicate (n - i) 0
theorem iota_set {n i : Nat} (h : i < n) : (iota n i).set i (i : Int) = iota n (i + 1) := by
  unfold iota
  rw [List.set_append_right _ _ (by simp), show i - ((List.range i).map fun x : Nat => (x : Int)).length = 0 by simp, show n - i = (n - (i + 1)) + 1 by omega, List.replicate_succ, List.set_cons_zero, List.range_succ, List.map_append]
  simp
theorem iota_all (n : Nat) : iota n n = (List.range n).map fun x : Nat => (x : Int) := by unfold iota; simp
theorem iota_zero (n : Nat) : iota n 0 = List.replicate n 0 := by unfold iota; simp
theorem iota_len {n i : Nat} (h : i ≤ n) : (iota n i).length = n := by unfold iota; simp; omega
def mostR (l : List S) : List Int := fillR (tv l (ordN l l.length)) l.length 0 l.length (List.replicate l.length 0)
theorem mostR_eq {l : List S} (hv : ∀ x ∈ l, low ≤ x.t) : mostR l = most l := by
  unfold mostR most
  refine fillR_eq (fun p => ?_) _ _ _ _ (by omega)
  unfold tv
  by_cases h : (ordN l l.length)[p]! < l.length
  · exact hv _ (bang_mem h)
  · have : l[(ordN l l.length)[p]!]! = default := getElem!_neg l _ h
    rw [this]; decide
theorem ord_zero (l : List S) : ord l 0 = [] := List.eq_nil_of_length_eq_zero (ord_len l 0)
theorem ins_step {l : List S} {i a : Nat} (hi : ∀ j, a ≤ j → j < i → bef l i (ordN l i)[j]! = true) (h : (decide ((a : Int) > 0) && bef l i (ordN l i)[a - 1]!) = true) : ∀ j, a - 1 ≤ j → j < i → bef l i (ordN l i)[j]! = true := fun j h1 h2 => by
  by_cases hj : a ≤ j
  · exact hi j hj h2
  · have : j = a - 1 := by omega
    subst this; exact (and_t h).2
theorem ins_exit {l : List S} {i a : Nat} (h : (decide ((a : Int) > 0) && bef l i (ordN l i)[a - 1]!) = false) : a = 0 ∨ bef l i (ordN l i)[a - 1]! = false := by
  rcases and_f h with h | h
  · have := dec_f h; left; omega
  · exact .inr h
/-! Whether an index belongs to spans. -/
def chk (l : List S) (p q : List Int) : Bool := decide (ord l l.length = p) && decide (most l = q)
theorem chk_yes {l : List S} {p q : List Int} (h : chk l p q = true) : p = ord l l.length ∧ q = most l := ⟨(dec_t (and_t h).1).symm, (dec_t (and_t h).2).symm⟩
theorem chkR (l : List S) (p q : List Int) : (decide (p = ord l l.length) && decide (q = most l)) = chk l p q := by
  unfold chk
  congr 1
  · exact decide_eq_decide.2 eq_comm
  · exact decide_eq_decide.2 eq_comm
/-! The search, step by step. -/
theorem vis_fuel (l : List S) (o : List Nat) (ms : List Int) (s : S) : ∀ (k k' lo hi : Nat), hi - lo ≤ k → hi - lo ≤ k' → vis l o ms s k lo hi = vis l o ms s k' lo hi
  | 0, 0, _, _, _, _ => rfl
  | 0, k' + 1, lo, hi, h, _ => by rw [vis, vis, if_pos (.inl (by omega))]
  | k + 1, 0, lo, hi, _, h => by rw [vis, vis, if_pos (.inl (by omega))]
  | k + 1, k' + 1, lo, hi, h, h' => by
    rw [vis, vis]
    by_cases hc : hi ≤ lo ∨ ms[(lo + hi) / 2]! ≤ s.f
    · rw [if_pos hc, if_pos hc]
    · rw [if_neg hc, if_neg hc, vis_fuel l o ms s k k' lo _ (by omega) (by omega), vis_fuel l o ms s k k' _ hi (by omega) (by omega)]
theorem exam_fuel (l : List S) (o : List Nat) (ms : List Int) (s : S) : ∀ (k k' lo hi : Nat), hi - lo ≤ k → hi - lo ≤ k' → exam l o ms s k lo hi = exam l o ms s k' lo hi
  | 0, 0, _, _, _, _ => rfl
  | 0, k' + 1, lo, hi, h, _ => by rw [exam, exam, if_pos (.inl (by omega))]
  | k + 1, 0, lo, hi, _, h => by rw [exam, exam, if_pos (.inl (by omega))]
  | k + 1, k' + 1, lo, hi, h, h' => by
    rw [exam, exam]
    by_cases hc : hi ≤ lo ∨ ms[(lo + hi) / 2]! ≤ s.f
    · rw [if_pos hc, if_pos hc]
    · rw [if_neg hc, if_neg hc, exam_fuel l o ms s k k' lo _ (by omega) (by omega), exam_fuel l o ms s k k' _ hi (by omega) (by omega)]
section
variable {l : List S} {o : List Nat} {ms : List Int} {s : S} {lo hi : Nat}
theorem cut_t (h : (decide ((lo : Int) ≥ (hi : Int)) || decide (ms[(lo + hi) / 2]! ≤ s.f)) = true) : hi ≤ lo ∨ ms[(lo + hi) / 2]! ≤ s.f := by
  rcases or_t h with h | h
  · have := dec_t h; left; omega
  · exact .inr (dec_t h)
theorem cut_f (h : (decide ((lo : Int) ≥ (hi : Int)) || decide (ms[(lo + hi) / 2]! ≤ s.f)) = false) : ¬ (hi ≤ lo ∨ ms[(lo + hi) / 2]! ≤ s.f) := by
  have h1 := dec_f (or_f h).1
  have h2 := dec_f (or_f h).2
  omega
theorem vis_cut (h : hi ≤ lo ∨ ms[(lo + hi) / 2]! ≤ s.f) : vis l o ms s (hi - lo) lo hi = 0 := by
  cases hk : hi - lo with
  | zero => rfl
  | succ k => rw [vis, if_pos h]
theorem exam_cut (h : hi ≤ lo ∨ ms[(lo + hi) / 2]! ≤ s.f) : exam l o ms s (hi - lo) lo hi = [] := by
  cases hk : hi - lo with
  | zero => rfl
  | succ k => rw [exam, if_pos h]
theorem vis_step (h : ¬ (hi ≤ lo ∨ ms[(lo + hi) / 2]! ≤ s.f)) : vis l o ms s (hi - lo) lo hi = (1 + vis l o ms s ((lo + hi) / 2 - lo) lo ((lo + hi) / 2)) + if l[o[(lo + hi) / 2]!]!.f ≥ s.t then 0 else vis l o ms s (hi - ((lo + hi) / 2 + 1)) ((lo + hi) / 2 + 1) hi := by
  have e : hi - lo = (hi - lo - 1) + 1 := by omega
  rw [e, vis, if_neg h, vis_fuel l o ms s (hi - lo - 1) ((lo + hi) / 2 - lo) lo _ (by omega) (by omega), vis_fuel l o ms s (hi - lo - 1) (hi - ((lo + hi) / 2 + 1)) _ hi (by omega) (by omega)]
theorem exam_step (h : ¬ (hi ≤ lo ∨ ms[(lo + hi) / 2]! ≤ s.f)) : exam l o ms s (hi - lo) lo hi = exam l o ms s ((lo + hi) / 2 - lo) lo ((lo + hi) / 2) ++ if l[o[(lo + hi) / 2]!]!.f ≥ s.t then [] else
      (if hit l[o[(lo + hi) / 2]!]! s then [((o[(lo + hi) / 2]! : Nat) : Int)] else []) ++ exam l o ms s (hi - ((lo + hi) / 2 + 1)) ((lo + hi) / 2 + 1) hi := by
  have e : hi - lo = (hi - lo - 1) + 1 := by omega
  rw [e, exam, if_neg h, exam_fuel l o ms s (hi - lo - 1) ((lo + hi) / 2 - lo) lo _ (by omega) (by omega), exam_fuel l o ms s (hi - lo - 1) (hi - ((lo + hi) / 2 + 1)) _ hi (by omega) (by omega)]
theorem exam_len : ((exam l o ms s (hi - lo) lo hi).length : Int) ≤ ((hi - lo : Nat) : Int) := by
  have h1 := exam_vis l o ms s (hi - lo) lo hi
  have h2 := (vis_rng l o ms s (hi - lo) lo hi (Nat.le_refl _)).2
  omega
end
def overC (l : List S) (p q : List Int) (s : S) : List Int := if chk l p q then over l s l.length else []
def visC (l : List S) (p q : List Int) (s : S) : Int := if chk l p q then visits l s else 0
theorem srt_nil : Inc.srt [] = [] := List.eq_nil_of_length_eq_zero (Inc.srt_len [])
/-! Spans that contain a time. -/
theorem cm_one {a : S} {t : Int} (h0 : 0 ≤ t) (h1 : t < 1000000000000) : cm a ⟨t, t + 1⟩ = ((ok a && decide (a.f ≤ t)) && decide (t < a.t)) := by
  have hs : ok ⟨t, t + 1⟩ = true := (ok_iff _).2 ⟨h0, by show t < t + 1; omega, by show t + 1 ≤ _; omega⟩
  unfold cm
  rw [hs, Bool.and_true]
  congr 2
  exact decide_eq_decide.2 (by show a.f < t + 1 ↔ _; omega)
def stabU (l : List S) (t : Int) (i : Nat) : List Int := ((List.range i).filter fun p => (ok l[p]! && decide (l[p]!.f ≤ t)) && decide (t < l[p]!.t)).map fun p : Nat => (p : Int)
theorem stabU_succ (l : List S) (t : Int) (i : Nat) : stabU l t (i + 1) = stabU l t i ++ if (ok l[i]! && decide (l[i]!.f ≤ t)) && decide (t < l[i]!.t) then [(i : Int)] else [] := by
  unfold stabU
  rw [List.range_succ, List.filter_append, List.map_append]
  congr 1
  simp only [List.filter_cons, List.filter_nil]
  split <;> rfl
theorem stabU_len (l : List S) (t : Int) (i : Nat) : (stabU l t i).length ≤ i := by
  unfold stabU
  rw [List.length_map]
  have := List.length_filter_le (fun p => (ok l[p]! && decide (l[p]!.f ≤ t)) && decide (t < l[p]!.t)) (List.range i)
  rwa [List.length_range] at this
theorem stab_over {l : List S} {t : Int} (h0 : 0 ≤ t) (h1 : t < 1000000000000) : stabU l t l.length = over l ⟨t, t + 1⟩ l.length := by
  unfold stabU over
  simp only [cm_one h0 h1]
theorem stab_none {l : List S} {t : Int} (h : t < 0 ∨ 1000000000000 ≤ t) : stabU l t l.length = [] := by
  unfold stabU
  rw [List.filter_eq_nil_iff.2, List.map_nil]
  intro p _ hc
  have h1 := (ok_iff _).1 (and_t (and_t hc).1).1
  have h2 := dec_t (and_t (and_t hc).1).2
  have h3 := dec_t (and_t hc).2
  omega
def stabC (l : List S) (p q : List Int) (t : Int) : List Int := if chk l p q then stabU l t l.length else []
theorem chk_self (l : List S) : chk l (ord l l.length) (most l) = true := by unfold chk; rw [decide_eq_true rfl, decide_eq_true rfl]; rfl
/-! The chapter's examples. -/
def L3 : List S := [⟨5, 9⟩, ⟨0, 20⟩, ⟨5, 7⟩]
theorem aw_ordN : ordN L3 3 = [1, 2, 0] := (ordN_eq (l := L3) (n := 3) (a := [1, 2, 0]) (by unfold Up; decide) (fun x => by simp; omega)).symm
theorem aw_ord : ord L3 L3.length = [1, 2, 0] := by show (ordN L3 3).map _ = _; rw [aw_ordN]; rfl
theorem aw_most : most L3 = [20, 20, 9] := by
  show fill (tv L3 (ordN L3 3)) 3 0 3 (List.replicate 3 0) = _
  rw [aw_ordN]; decide
theorem aw_chk2 : chk (L3.take 2) (ord L3 L3.length) (most L3) = false := by
  unfold chk
  rw [decide_eq_false, Bool.false_and]
  intro e
  have := congrArg List.length e
  rw [ord_len, ord_len] at this
  revert this; decide
theorem aw_over : overC L3 (ord L3 L3.length) (most L3) ⟨8, 10⟩ = [0, 1] := by
  unfold overC; rw [chk_self, if_pos rfl]; decide
theorem aw_stab6 : stabC L3 (ord L3 L3.length) (most L3) 6 = [0, 1, 2] := by
  unfold stabC; rw [chk_self, if_pos rfl]; decide
theorem aw_stab20 : stabC L3 (ord L3 L3.length) (most L3) 20 = [] := by
  unfold stabC; rw [chk_self, if_pos rfl]; decide
theorem aw_vis1 : visC L3 (ord L3 L3.length) (most L3) ⟨8, 10⟩ = 3 := by
  unfold visC; rw [chk_self, if_pos rfl]
  show vis L3 (ordN L3 3) (most L3) ⟨8, 10⟩ 3 0 3 = 3
  rw [aw_ordN, aw_most]; decide
theorem aw_vis2 : visC L3 (ord L3 L3.length) (most L3) ⟨20, 30⟩ = 0 := by
  unfold visC; rw [chk_self, if_pos rfl]
  show vis L3 (ordN L3 3) (most L3) ⟨20, 30⟩ 3 0 3 = 0
  rw [aw_ordN, aw_most]; decide
theorem aw_none1 : ord ([] : List S) ([] : List S).length = [] := List.eq_nil_of_length_eq_zero (ord_len _ _)
theorem aw_none2 : most ([] : List S) = [] := List.eq_nil_of_length_eq_zero (most_len _)
end It
end Go.Proofs.Ytbdfhiihaemjhaa
