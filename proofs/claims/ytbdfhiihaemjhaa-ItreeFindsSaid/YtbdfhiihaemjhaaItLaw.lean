/- Interval indexes, in plain Lean: what the laws ask. Conditions: none. -/
import Derived.Test.YtbdfhiihaemjhaaItSpec
namespace Go.Proofs.Ytbdfhiihaemjhaa
open Go Go.Eng
namespace It
open Sp
def seenL (l : List S) (p : Nat) : List Bool := (List.range l.length).map fun i => decide (i ∈ (ordN l l.length).take p)
theorem seen_len (l : List S) (p : Nat) : (seenL l p).length = l.length := by unfold seenL; simp
theorem seen_zero (l : List S) : seenL l 0 = List.replicate l.length false := by unfold seenL; simp [List.map_const']
theorem take_next {o : List Nat} {p : Nat} (h : p < o.length) : o.take (p + 1) = o.take p ++ [o[p]!] := by
  rw [List.take_add_one, getElem!_pos o p h, List.getElem?_eq_getElem h]; rfl
theorem seen_next {l : List S} {p : Nat} (h : p < l.length) : (seenL l p).set ((ordN l l.length)[p]!) true = seenL l (p + 1) := by
  have hl := ordN_len l l.length
  unfold seenL
  rw [take_next (by omega)]
  apply List.ext_getElem
  · simp
  · intro j h1 h2
    rw [List.getElem_set]
    simp only [List.getElem_map, List.getElem_range, List.mem_append, List.mem_singleton]
    generalize (ordN l l.length)[p]! = y
    by_cases e : y = j
    · rw [if_pos e]; simp [e]
    · rw [if_neg e]; simp [Ne.symm e]
theorem seen_not {l : List S} {p : Nat} (h : p < l.length) : (seenL l p)[(ordN l l.length)[p]!]! = false := by
  have hl := ordN_len l l.length
  have hlt := ordN_lt l h
  unfold seenL
  rw [getElem!_pos _ _ (by simpa using hlt)]
  simp only [List.getElem_map, List.getElem_range, decide_eq_false_iff_not]
  intro hm
  obtain ⟨j, hj, e⟩ := List.mem_iff_getElem.1 hm
  rw [List.length_take] at hj
  rw [List.getElem_take, getElem!_pos _ p (by omega)] at e
  have := (List.nodup_iff_pairwise_ne.1 (ordN_nodup l l.length))
  have := List.pairwise_iff_getElem.1 this j p (by omega) (by omega) (by omega)
  exact this e
theorem most_ge {l : List S} {p : Nat} (h : p < l.length) : l[(ordN l l.length)[p]!]!.t ≤ (most l)[p]! := by
  rw [most_at l h]
  exact (node_ge (tv l (ordN l l.length)) l.length 0 l.length p (by omega) (Nat.zero_le _) h).1
theorem node_mid (v : Nat → Int) {k lo hi : Nat} (hk : 0 < k) : nodeV v k lo hi ((lo + hi) / 2) = mx v k lo hi := by
  obtain ⟨k, rfl⟩ : ∃ j, k = j + 1 := ⟨k - 1, by omega⟩
  rw [nodeV, if_pos rfl]
theorem most_le {l : List S} {p : Nat} (h : p < l.length) : (most l)[p]! ≤ (most l)[l.length / 2]! := by
  rw [most_at l h, most_at l (show l.length / 2 < l.length by omega)]
  have h1 := (node_ge (tv l (ordN l l.length)) l.length 0 l.length p (by omega) (Nat.zero_le _) h).2
  have h2 := node_mid (tv l (ordN l l.length)) (k := l.length) (lo := 0) (hi := l.length) (by omega)
  rw [Nat.zero_add] at h2
  rw [h2]; exact h1
theorem ord_bef {l : List S} {p : Nat} (h0 : 0 < p) (h : p < l.length) : bef l (ordN l l.length)[p - 1]! (ordN l l.length)[p]! = true :=
  up_at (ordN_up l l.length) (by omega) (by rw [ordN_len]; exact h)
/-! visits -/
theorem lev_fuel : ∀ (k k' n : Nat), n ≤ k → n ≤ k' → lev k n = lev k' n
  | 0, 0, _, _, _ => rfl
  | 0, k' + 1, n, h, _ => by rw [lev, lev, if_pos (by omega)]
  | k + 1, 0, n, _, h => by rw [lev, lev, if_pos (by omega)]
  | k + 1, k' + 1, n, h, h' => by
    rw [lev, lev]
    split
    · rfl
    · rw [lev_fuel k k' (n / 2) (by omega) (by omega)]
def lv (n : Nat) : Nat := lev n n
theorem lv_zero : lv 0 = 0 := rfl
theorem lv_step {n : Nat} (h : 0 < n) : lv n = 1 + lv (n / 2) := by
  unfold lv
  obtain ⟨k, rfl⟩ : ∃ j, n = j + 1 := ⟨n - 1, by omega⟩
  rw [lev, if_neg (by omega), lev_fuel k ((k + 1) / 2) _ (by omega) (by omega)]
theorem lv_le : ∀ n : Nat, lv n ≤ n := by
  intro n
  induction n using Nat.strongRecOn with
  | ind n ih =>
    rcases Nat.eq_zero_or_pos n with h | h
    · subst h; exact Nat.le_refl _
    · rw [lv_step h]
      have := ih (n / 2) (by omega)
      omega
theorem vis_aft {l : List S} {o : List Nat} {ms : List Int} {s : S} : ∀ (k lo hi : Nat), hi - lo ≤ k → (∀ p, lo ≤ p → p < hi → l[o[p]!]!.f ≥ s.t) → vis l o ms s k lo hi ≤ (lev k (hi - lo) : Nat)
  | 0, _, _, _, _ => by simp [vis, lev]
  | k + 1, lo, hi, hk, h => by
    rw [vis, lev]
    by_cases hc : hi ≤ lo ∨ ms[(lo + hi) / 2]! ≤ s.f
    · rw [if_pos hc]; omega
    · rw [if_neg hc, if_neg (show ¬ hi - lo = 0 by omega), if_pos (h _ (by omega) (by omega))]
      have h1 := vis_aft (ms := ms) k lo ((lo + hi) / 2) (by omega) fun p h1 h2 => h p h1 (by omega)
      rw [show (lo + hi) / 2 - lo = (hi - lo) / 2 by omega] at h1
      omega
theorem visits_after {l : List S} {s : S} (h : ∀ i, i < l.length → l[i]!.f ≥ s.t) : visits l s ≤ (lv l.length : Nat) := by
  have := vis_aft (o := ordN l l.length) (ms := most l) (s := s) l.length 0 l.length (by omega) fun p _ hp => h _ (ordN_lt l hp)
  rwa [Nat.sub_zero] at this
theorem visits_before {l : List S} {s : S} (hv : ∀ x ∈ l, low ≤ x.t) (h : ∀ i, i < l.length → l[i]!.t ≤ s.f) : visits l s = 0 := by
  unfold visits
  obtain hl | ⟨k, hl⟩ : l.length = 0 ∨ ∃ k, l.length = k + 1 := by
    rcases Nat.eq_zero_or_pos l.length with h | h
    · exact .inl h
    · exact .inr ⟨l.length - 1, by omega⟩
  · rw [hl]; rfl
  · have hm : (most l)[(0 + l.length) / 2]! ≤ s.f := by
      rw [Nat.zero_add, most_at l (by omega)]
      have h2 := node_mid (tv l (ordN l l.length)) (k := l.length) (lo := 0) (hi := l.length) (by omega)
      rw [Nat.zero_add] at h2
      rw [h2]
      refine mx_le ?_ _ _ _ fun p _ hp => h _ (ordN_lt l hp)
      have h0 := hv _ (bang_mem (show 0 < l.length by omega))
      have h1 := h 0 (by omega)
      omega
    generalize hn : l.length = n at *
    subst hl
    rw [vis, if_pos (.inr hm)]
theorem visits_rng (l : List S) (s : S) : 0 ≤ visits l s ∧ visits l s ≤ l.length := by
  have := vis_rng l (ordN l l.length) (most l) s l.length 0 l.length (by omega)
  unfold visits
  rwa [Nat.sub_zero] at this
theorem visC_self (l : List S) (s : S) : visC l (ord l l.length) (most l) s = visits l s := by unfold visC; rw [chk_self, if_pos rfl]
theorem overC_self (l : List S) (s : S) : overC l (ord l l.length) (most l) s = over l s l.length := by unfold overC; rw [chk_self, if_pos rfl]
theorem stabC_self (l : List S) (t : Int) : stabC l (ord l l.length) (most l) t = stabU l t l.length := by unfold stabC; rw [chk_self, if_pos rfl]
/-! finds -/
theorem over_pre (l : List S) (s : S) : ∀ (d i : Nat), ∃ r, over l s (i + d) = over l s i ++ r
  | 0, i => ⟨[], by simp⟩
  | d + 1, i => by
    obtain ⟨r, hr⟩ := over_pre l s d i
    exact ⟨r ++ _, by rw [← Nat.add_assoc, over_succ, hr, List.append_assoc]⟩
theorem over_hit {l : List S} {s : S} {i n : Nat} (hi : i < n) (h : cm l[i]! s = true) : (over l s i).length < (over l s n).length ∧ (over l s n)[(over l s i).length]! = (i : Int) := by
  obtain ⟨r, hr⟩ := over_pre l s (n - (i + 1)) (i + 1)
  rw [show i + 1 + (n - (i + 1)) = n by omega, over_succ, if_pos h] at hr
  rw [hr]
  refine ⟨by simp, ?_⟩
  rw [getElem!_pos _ _ (by simp)]
  simp
theorem over_yes {l : List S} {s : S} {i : Nat} (h : cm l[i]! s = true) : (over l s (i + 1)).length = (over l s i).length + 1 := by rw [over_succ, if_pos h]; simp
theorem over_no {l : List S} {s : S} {i : Nat} (h : cm l[i]! s = false) : (over l s (i + 1)).length = (over l s i).length := by rw [over_succ, if_neg (by rw [h]; exact Bool.false_ne_true)]; simp
theorem cov_one (a : S) (q : Int) : cov [a] q = inn a q := by unfold cov; simp
theorem meet_one (a s : S) : (comb both [a] [s]).length = 0 ↔ cm a s = false := by
  have hc : ∀ q, cov (comb both [a] [s]) q = (inn a q && inn s q) := fun q => by rw [cov_meet, cov_one, cov_one]
  constructor
  · intro h
    have h := List.eq_nil_of_length_eq_zero h
    cases hcm : cm a s with
    | false => rfl
    | true =>
      unfold cm at hcm
      have h1 := and_t hcm
      have h2 := and_t h1.1
      have h3 := and_t h2.1
      have ha := (ok_iff a).1 h3.1
      have hs := (ok_iff s).1 h3.2
      have h4 := dec_t h1.2
      have h5 := dec_t h2.2
      have := hc (max a.f s.f)
      rw [h] at this
      unfold inn at this
      rw [h3.1, h3.2, decide_eq_true (show a.f ≤ max a.f s.f by omega), decide_eq_true (show s.f ≤ max a.f s.f by omega), decide_eq_true (show max a.f s.f < a.t by omega), decide_eq_true (show max a.f s.f < s.t by omega)] at this
      cases this
  · intro h
    cases hb : comb both [a] [s] with
    | nil => rfl
    | cons x r =>
      exfalso
      have hn := comb_norm both [a] [s]
      rw [hb] at hn
      have hx := hn.1 x List.mem_cons_self
      have hx2 := (ok_iff x).1 hx
      have := hc x.f
      have e : cov (comb both [a] [s]) x.f = true := by
        rw [hb]
        refine (cov_iff _ _).2 ⟨x, List.mem_cons_self, ?_⟩
        unfold inn
        rw [hx, decide_eq_true (Int.le_refl _), decide_eq_true (show x.f < x.t by omega)]; rfl
      rw [e] at this
      have h6 := and_t this.symm
      unfold inn at h6
      have a1 := and_t h6.1
      have a2 := and_t a1.1
      have b1 := and_t h6.2
      have b2 := and_t b1.1
      have c1 := dec_t a1.2
      have c2 := dec_t a2.2
      have c3 := dec_t b1.2
      have c4 := dec_t b2.2
      unfold cm at h
      rw [a2.1, b2.1, decide_eq_true (show a.f < s.t by omega), decide_eq_true (show s.f < a.t by omega)] at h
      cases h
theorem aft_step {l : List S} {t : Int} {b : Bool} {i : Nat} (h : b = true → ∀ j, j < i → l[j]!.f ≥ t) : (b && decide (l[i]!.f ≥ t)) = true → ∀ j, j < i + 1 → l[j]!.f ≥ t := fun hh j hj => by
  rcases Nat.lt_succ_iff_lt_or_eq.1 hj with hj | rfl
  · exact h (and_t hh).1 j hj
  · exact dec_t (and_t hh).2
theorem bef_step {l : List S} {t : Int} {b : Bool} {i : Nat} (h : b = true → ∀ j, j < i → l[j]!.t ≤ t) : (b && decide (l[i]!.t ≤ t)) = true → ∀ j, j < i + 1 → l[j]!.t ≤ t := fun hh j hj => by
  rcases Nat.lt_succ_iff_lt_or_eq.1 hj with hj | rfl
  · exact h (and_t hh).1 j hj
  · exact dec_t (and_t hh).2
theorem visC_rng (l : List S) (s : S) : visC l (ord l l.length) (most l) s ≥ 0 ∧ visC l (ord l l.length) (most l) s ≤ l.length := by rw [visC_self]; exact visits_rng l s
theorem vis_dead {l : List S} {s : S} {ba bb : Bool} {i z : Nat} (hv : ∀ x ∈ l, low ≤ x.t) (hi : i = l.length) (hz : z = lv l.length) (aft : ba = true → ∀ j, j < i → l[j]!.f ≥ s.t) (bef : bb = true → ∀ j, j < i → l[j]!.t ≤ s.f)
    (h : ((bb && !(visC l (ord l l.length) (most l) s == 0)) || (ba && decide (visC l (ord l l.length) (most l) s > (z : Int)))) = true) : False := by
  subst hi; subst hz
  rw [visC_self] at h
  rcases Bool.or_eq_true_iff.1 h with h | h
  · have h1 := visits_before hv (bef (and_t h).1)
    have h2 := (and_t h).2
    rw [h1] at h2
    cases h2
  · have h1 := visits_after (aft (and_t h).1)
    have h2 := dec_t (and_t h).2
    omega
theorem srt_dead {l : List S} {i k : Nat} {z : Int} (hz : z = (i : Int)) (h : bef l i k = true)
    (hh : ((l[i]!.f == l[k]!.f && decide (l[k]!.t < l[i]!.t)) || ((l[i]!.f == l[k]!.f && l[i]!.t == l[k]!.t) && decide ((k : Int) < z))) = true) : False := by
  rw [bef_iff] at h
  rcases Bool.or_eq_true_iff.1 hh with hh | hh
  · have h1 := eq_t (and_t hh).1
    have h2 := dec_t (and_t hh).2
    omega
  · have h1 := eq_t (and_t (and_t hh).1).1
    have h2 := eq_t (and_t (and_t hh).1).2
    have h3 := dec_t (and_t hh).2
    omega
theorem meet_cm {a s : S} (h : (comb both [a] [s]).length ≠ 0) : cm a s = true := by
  cases hc : cm a s with
  | true => rfl
  | false => exact absurd ((meet_one a s).2 hc) h
theorem ne_no {a b : Int} (h : a = b) : (!(a == b)) = false := by simp [h]
theorem visC_found (l : List S) (s : S) : ((over l s l.length).length : Int) ≤ visC l (ord l l.length) (most l) s := by rw [visC_self]; exact vis_found l s
theorem stab_one {l : List S} {t : Int} (h0 : 0 ≤ t) (h1 : t < 1000000000000) : stabC l (ord l l.length) (most l) t = overC l (ord l l.length) (most l) ⟨t, IntKind.i64.wrap (t + 1)⟩ := by
  rw [stabC_self, overC_self, wrap_i64 (by omega), stab_over h0 h1]
end It
end Go.Proofs.Ytbdfhiihaemjhaa
