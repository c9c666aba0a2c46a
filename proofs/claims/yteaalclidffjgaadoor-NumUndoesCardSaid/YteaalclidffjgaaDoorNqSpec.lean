/- Bounded integers and rounded quotients, in plain terms. Conditions: none. -/
import Derived.Test.YteaalclidffjgaaDoorNqDiv
namespace Go.Proofs.YteaalclidffjgaaDoor
open Go Go.Eng
namespace Nq
def inB (n : Int) : Bool := decide (n ≥ -1000000000000000) && decide (n ≤ 1000000000000000)
theorem inB_iff (n : Int) : inB n = true ↔ -1000000000000000 ≤ n ∧ n ≤ 1000000000000000 := by unfold inB; simp
theorem inB_no {n : Int} (h : inB n = false) : n < -1000000000000000 ∨ 1000000000000000 < n := by
  have : ¬ inB n = true := by rw [h]; exact Bool.false_ne_true
  rw [inB_iff] at this; omega
theorem eq_no {a b : Int} (h : a ≠ b) : (a == b) = false := by simpa using h
def mag (n : Int) : Int := if n < 0 then -n else n
theorem mag_rng {n : Int} (h : inB n = true) : 0 ≤ mag n ∧ mag n ≤ 1000000000000000 := by rw [inB_iff] at h; unfold mag; split <;> omega
def ng (a b : Int) : Bool := decide (a < 0) != decide (b < 0)
def wi (n : Int) (ok : Bool) : Int × Bool := if ok && inB n then (n, true) else (0, false)
theorem wi_no (n : Int) : wi n false = (0, false) := rfl
theorem wi_bad {n : Int} {ok : Bool} (h : (!ok || !inB n) = true) : wi n ok = (0, false) := by
  unfold wi; cases ok <;> cases hb : inB n <;> simp_all
theorem wi_good {n : Int} {ok : Bool} (h : (!ok || !inB n) = false) : wi n ok = (n, true) := by
  unfold wi; cases ok <;> cases hb : inB n <;> simp_all
/-- Sums. -/
def ad (a b : Int) : Int × Bool := if inB a && inB b then wi (a + b) true else (0, false)
theorem ad_bad {a b : Int} (h : (!inB a || !inB b) = true) : ad a b = (0, false) := by
  unfold ad; cases ha : inB a <;> cases hb : inB b <;> simp_all
theorem ad_good {a b : Int} (h : (!inB a || !inB b) = false) : wi (IntKind.i64.wrap (a + b)) true = ad a b := by
  unfold ad
  cases ha : inB a <;> cases hb : inB b <;> simp_all
  have h1 := (inB_iff a).1 ha
  have h2 := (inB_iff b).1 hb
  rw [wrap_i64 (by omega)]
theorem rad_bad {a b : Int} (h : ((!inB a || !inB b) || !inB (IntKind.i64.wrap (a + b))) = true) : ad a b = (0, false) := by
  unfold ad
  cases ha : inB a <;> cases hb : inB b <;> simp_all
  have h1 := (inB_iff a).1 ha
  have h2 := (inB_iff b).1 hb
  rw [wrap_i64 (by omega)] at h
  unfold wi; rw [h]; rfl
theorem rad_good {a b : Int} (h : ((!inB a || !inB b) || !inB (IntKind.i64.wrap (a + b))) = false) : ad a b = (IntKind.i64.wrap (a + b), true) := by
  unfold ad
  cases ha : inB a <;> cases hb : inB b <;> simp_all
  have h1 := (inB_iff a).1 ha
  have h2 := (inB_iff b).1 hb
  rw [wrap_i64 (by omega)] at h ⊢
  unfold wi; rw [h]; rfl
def gd (a b c : Int) : Bool := ((inB a && inB b) && decide (1 ≤ c)) && decide (c ≤ 1000000000000000)
theorem gd_iff {a b c : Int} : gd a b c = true ↔ inB a = true ∧ inB b = true ∧ 1 ≤ c ∧ c ≤ 1000000000000000 := by
  unfold gd; simp only [Bool.and_eq_true, decide_eq_true_eq, and_assoc]
def pr (a b : Int) : Int := mag a * mag b
theorem pr_rng {a b : Int} (ha : inB a = true) (hb : inB b = true) : 0 ≤ pr a b ∧ pr a b ≤ 1000000000000000000000000000000 := by
  have h1 := mag_rng ha
  have h2 := mag_rng hb
  unfold pr
  refine ⟨Int.mul_nonneg h1.1 h2.1, ?_⟩
  have h3 := Int.mul_le_mul_of_nonneg_left h2.2 h1.1
  omega
/-- The rounded quotient. -/
def rnd (a b c : Int) (up : Bool) : Int × Bool :=
  if gd a b c then
    (if (if 0 < pr a b % c ∧ up ≠ ng a b then pr a b / c + 1 else pr a b / c) ≤ 1000000000000000 then
      (if ng a b then -(if 0 < pr a b % c ∧ up ≠ ng a b then pr a b / c + 1 else pr a b / c) else (if 0 < pr a b % c ∧ up ≠ ng a b then pr a b / c + 1 else pr a b / c), true) else (0, false))
  else (0, false)
theorem rnd_bad {a b c : Int} (up : Bool) (h : gd a b c = false) : rnd a b c up = (0, false) := by unfold rnd; rw [h]; rfl
theorem rnd_big {a b c : Int} (up : Bool) (h : 1000000000000000 < pr a b / c) : rnd a b c up = (0, false) := by
  unfold rnd
  split
  · rw [if_neg]; split <;> omega
  · rfl
/-- What quotient hands back. -/
def qf (a b c : Int) : Int × Int × Bool × Bool :=
  if gd a b c then (if pr a b / 18446744073709551616 ≥ c then (0, 0, false, false) else (pr a b / c, pr a b % c, ng a b, decide (pr a b / c ≤ 1000000000000000))) else (0, 0, false, false)
theorem big_of_high {p c : Int} (hc : 1 ≤ c) (h : p / 18446744073709551616 ≥ c) : 1000000000000000 < p / c := by
  have h1 : c * 18446744073709551616 ≤ p := by omega
  have : 18446744073709551616 ≤ p / c := (Int.le_ediv_iff_mul_le (by omega)).2 (by rw [Int.mul_comm]; exact h1)
  omega
theorem gd_of {a b c : Int} (h : (((!inB a || !inB b) || decide (c < 1)) || !inB c) = false) : gd a b c = true := by
  simp only [Bool.or_eq_false_iff, Bool.not_eq_false', decide_eq_false_iff_not] at h
  obtain ⟨⟨⟨h1, h2⟩, h3⟩, h4⟩ := h
  rw [gd_iff]
  have h5 := (inB_iff c).1 h4
  exact ⟨h1, h2, by omega, by omega⟩
theorem qf_bad {a b c : Int} (h : (((!inB a || !inB b) || decide (c < 1)) || !inB c) = true) : qf a b c = (0, 0, false, false) := by
  unfold qf
  rw [if_neg]
  intro hg
  have h1 := gd_iff.1 hg
  have h2 := (inB_iff c).2 ⟨by omega, by omega⟩
  rw [h1.1, h1.2.1, h2, decide_eq_false (show ¬ c < 1 by omega)] at h
  cases h
theorem qf_hi {a b c : Int} (hg : gd a b c = true) (h : decide (mag a * mag b / 18446744073709551616 ≥ c) = true) : qf a b c = (0, 0, false, false) := by
  unfold qf pr; rw [hg, if_pos rfl, if_pos (of_decide_eq_true h)]
theorem qf_fin {a b c : Int} (hg : gd a b c = true) (h : decide (mag a * mag b / 18446744073709551616 ≥ c) = false) :
    qf a b c = ((mag a * mag b / 18446744073709551616 * 18446744073709551616 + mag a * mag b % 18446744073709551616) / c, (mag a * mag b / 18446744073709551616 * 18446744073709551616 + mag a * mag b % 18446744073709551616) % c, ng a b,
      decide ((mag a * mag b / 18446744073709551616 * 18446744073709551616 + mag a * mag b % 18446744073709551616) / c ≤ 1000000000000000)) := by
  unfold qf pr; rw [hg, if_pos rfl, if_neg (of_decide_eq_false h)]
  have e : mag a * mag b / 18446744073709551616 * 18446744073709551616 + mag a * mag b % 18446744073709551616 = mag a * mag b := by
    generalize mag a * mag b = z; omega
  rw [e]
theorem qf_cases (a b c : Int) : ((qf a b c).2.2.2 = false ∧ ∀ up, rnd a b c up = (0, false)) ∨ (gd a b c = true ∧ 0 ≤ pr a b / c ∧ pr a b / c ≤ 1000000000000000 ∧ 0 ≤ pr a b % c ∧ qf a b c = (pr a b / c, pr a b % c, ng a b, true)) := by
  cases hg : gd a b c with
  | false => exact .inl ⟨by unfold qf; rw [hg]; rfl, fun up => rnd_bad up hg⟩
  | true =>
    have h := gd_iff.1 hg
    have hp := pr_rng h.1 h.2.1
    by_cases h1 : pr a b / 18446744073709551616 ≥ c
    · exact .inl ⟨by unfold qf; rw [hg, if_pos rfl, if_pos h1], fun up => rnd_big up (big_of_high h.2.2.1 h1)⟩
    · by_cases h2 : pr a b / c ≤ 1000000000000000
      · refine .inr ⟨rfl, Int.ediv_nonneg hp.1 (by omega), h2, Int.emod_nonneg _ (by omega), ?_⟩
        unfold qf; rw [hg, if_pos rfl, if_neg h1, decide_eq_true h2]
      · refine .inl ⟨?_, fun up => rnd_big up (by omega)⟩
        unfold qf; rw [hg, if_pos rfl, if_neg h1, decide_eq_false h2]
theorem rnd_eq {a b c : Int} (up : Bool) (h : gd a b c = true) {q : Int} (hq : (if 0 < pr a b % c ∧ up ≠ ng a b then pr a b / c + 1 else pr a b / c) = q) : rnd a b c up = if q ≤ 1000000000000000 then (if ng a b then -q else q, true) else (0, false) := by
  unfold rnd; rw [h, if_pos rfl, hq]
/-- The ways through Floor. -/
theorem fl_pos {a b c : Int} (h : (qf a b c).2.2.1 = false) : wi (IntKind.i64.wrap (qf a b c).1) (qf a b c).2.2.2 = rnd a b c false := by
  rcases qf_cases a b c with ⟨h1, h2⟩ | ⟨hg, h1, h2, h3, e⟩
  · rw [h1, h2, wi_no]
  · rw [e] at h ⊢
    simp only at h ⊢
    rw [rnd_eq false hg (q := pr a b / c) (if_neg (by rw [h]; simp)), if_pos h2, h, wrap_i64 (by omega)]
    unfold wi; rw [(inB_iff _).2 (by omega)]; rfl
theorem fl_neg0 {a b c : Int} (h : (qf a b c).2.2.1 = true) (hr : ¬ (qf a b c).2.1 > 0) : wi (IntKind.i64.wrap (-(IntKind.i64.wrap (qf a b c).1))) (qf a b c).2.2.2 = rnd a b c false := by
  rcases qf_cases a b c with ⟨h1, h2⟩ | ⟨hg, h1, h2, h3, e⟩
  · rw [h1, h2, wi_no]
  · rw [e] at h hr ⊢
    simp only at h hr ⊢
    rw [rnd_eq false hg (q := pr a b / c) (if_neg (by omega)), if_pos h2, h, wrap_i64 (x := pr a b / c) (by omega), wrap_i64 (by omega)]
    unfold wi; rw [(inB_iff _).2 (by omega)]; rfl
theorem fl_neg1 {a b c : Int} (h : (qf a b c).2.2.1 = true) (hr : (qf a b c).2.1 > 0) : wi (IntKind.i64.wrap (IntKind.i64.wrap (-(IntKind.i64.wrap (qf a b c).1)) - 1)) (qf a b c).2.2.2 = rnd a b c false := by
  rcases qf_cases a b c with ⟨h1, h2⟩ | ⟨hg, h1, h2, h3, e⟩
  · rw [h1, h2, wi_no]
  · rw [e] at h hr ⊢
    simp only at h hr ⊢
    rw [rnd_eq false hg (q := pr a b / c + 1) (if_pos ⟨by omega, by rw [h]; simp⟩), h, wrap_i64 (x := pr a b / c) (by omega), wrap_i64 (x := -(pr a b / c)) (by omega), wrap_i64 (by omega)]
    unfold wi
    by_cases h4 : pr a b / c + 1 ≤ 1000000000000000
    · rw [if_pos h4, (inB_iff _).2 (by omega), show -(pr a b / c) - 1 = -(pr a b / c + 1) from by omega]; rfl
    · rw [if_neg h4, show inB (-(pr a b / c) - 1) = false from by unfold inB; rw [decide_eq_false (by omega)]; rfl]; rfl
/-- The ways through Ceil. -/
theorem ce_neg {a b c : Int} (h : (qf a b c).2.2.1 = true) : wi (IntKind.i64.wrap (-(IntKind.i64.wrap (qf a b c).1))) (qf a b c).2.2.2 = rnd a b c true := by
  rcases qf_cases a b c with ⟨h1, h2⟩ | ⟨hg, h1, h2, h3, e⟩
  · rw [h1, h2, wi_no]
  · rw [e] at h ⊢
    simp only at h ⊢
    rw [rnd_eq true hg (q := pr a b / c) (if_neg (by rw [h]; simp)), if_pos h2, h, wrap_i64 (x := pr a b / c) (by omega), wrap_i64 (by omega)]
    unfold wi; rw [(inB_iff _).2 (by omega)]; rfl
theorem ce_pos0 {a b c : Int} (h : (qf a b c).2.2.1 = false) (hr : ¬ (qf a b c).2.1 > 0) : wi (IntKind.i64.wrap (qf a b c).1) (qf a b c).2.2.2 = rnd a b c true := by
  rcases qf_cases a b c with ⟨h1, h2⟩ | ⟨hg, h1, h2, h3, e⟩
  · rw [h1, h2, wi_no]
  · rw [e] at h hr ⊢
    simp only at h hr ⊢
    rw [rnd_eq true hg (q := pr a b / c) (if_neg (by omega)), if_pos h2, h, wrap_i64 (by omega)]
    unfold wi; rw [(inB_iff _).2 (by omega)]; rfl
theorem ce_pos1 {a b c : Int} (h : (qf a b c).2.2.1 = false) (hr : (qf a b c).2.1 > 0) : wi (IntKind.i64.wrap (IntKind.i64.wrap (qf a b c).1 + 1)) (qf a b c).2.2.2 = rnd a b c true := by
  rcases qf_cases a b c with ⟨h1, h2⟩ | ⟨hg, h1, h2, h3, e⟩
  · rw [h1, h2, wi_no]
  · rw [e] at h hr ⊢
    simp only at h hr ⊢
    rw [rnd_eq true hg (q := pr a b / c + 1) (if_pos ⟨by omega, by rw [h]; simp⟩), h, wrap_i64 (x := pr a b / c) (by omega), wrap_i64 (by omega)]
    unfold wi
    by_cases h4 : pr a b / c + 1 ≤ 1000000000000000
    · rw [if_pos h4, (inB_iff _).2 (by omega)]; rfl
    · rw [if_neg h4, show inB (pr a b / c + 1) = false from by unfold inB; rw [decide_eq_false (p := pr a b / c + 1 ≤ 1000000000000000) h4, Bool.and_false]]; rfl
/-! The specification's division, bit by bit. -/
def RS (N c : Int) (i : Nat) (hi lo q r : Int) : Prop := ∃ T : Int, N * 2 ^ i = T * 340282366920938463463374607431768211456 + (hi * 18446744073709551616 + lo) ∧ 0 ≤ T ∧ T % c = r ∧ (q = T / c ∨ (4000000000000000 ≤ q ∧ 4000000000000000 ≤ T / c)) ∧
  0 ≤ hi ∧ hi ≤ 18446744073709551615 ∧ 0 ≤ lo ∧ lo ≤ 18446744073709551615 ∧ 0 ≤ q ∧ q ≤ 4000000000000001 ∧ 0 ≤ r ∧ r < c
theorem RS.bds {N c : Int} {i : Nat} {hi lo q r : Int} (h : RS N c i hi lo q r) : 0 ≤ hi ∧ hi ≤ 18446744073709551615 ∧ 0 ≤ lo ∧ lo ≤ 18446744073709551615 ∧ 0 ≤ q ∧ q ≤ 4000000000000001 ∧ 0 ≤ r ∧ r < c := by
  obtain ⟨T, _, _, _, _, h⟩ := h; exact h
theorem RS.init {N c hi lo : Int} (hc : 1 ≤ c) (hN : N = hi * 18446744073709551616 + lo) (h1 : 0 ≤ hi ∧ hi ≤ 18446744073709551615) (h2 : 0 ≤ lo ∧ lo ≤ 18446744073709551615) : RS N c 0 hi lo 0 0 :=
  ⟨0, by rw [hN]; simp, Int.le_refl _, by simp, .inl (by simp), h1.1, h1.2, h2.1, h2.2, by omega, by omega, by omega, by omega⟩
theorem bit_div {T c b : Int} (hc : 1 ≤ c) (hb : 0 ≤ b ∧ b ≤ 1) : (2 * (T % c) + b ≥ c → (2 * T + b) / c = 2 * (T / c) + 1 ∧ (2 * T + b) % c = 2 * (T % c) + b - c) ∧ (2 * (T % c) + b < c → (2 * T + b) / c = 2 * (T / c) ∧ (2 * T + b) % c = 2 * (T % c) + b) := by
  have hd := Int.mul_ediv_add_emod T c
  have h0 := Int.emod_nonneg T (show c ≠ 0 by omega)
  have h1 := Int.emod_lt_of_pos T (show 0 < c by omega)
  generalize T % c = r at *
  generalize T / c = q at *
  have key : ∀ (k s : Int), 2 * T + b = c * k + s → 0 ≤ s → s < c → (2 * T + b) / c = k ∧ (2 * T + b) % c = s := fun k s e g0 g1 => by
    rw [e, Int.add_comm, Int.add_mul_ediv_left _ _ (by omega), Int.add_mul_emod_self_left, Int.ediv_eq_zero_of_lt g0 g1, Int.emod_eq_of_lt g0 g1, Int.zero_add]
    exact ⟨rfl, rfl⟩
  refine ⟨fun h => key _ _ ?_ (by omega) (by omega), fun h => key _ _ ?_ (by omega) (by omega)⟩
  · have : c * (2 * q + 1) = 2 * (c * q) + c := by grind
    omega
  · have : c * (2 * q) = 2 * (c * q) := by grind
    omega
theorem RS.step {N c : Int} {i : Nat} {hi lo q r : Int} (hc : 1 ≤ c) (h : RS N c i hi lo q r) :
    (2 * r + hi / 9223372036854775808 ≥ c → RS N c (i + 1) (2 * hi % 18446744073709551616 + lo / 9223372036854775808) (2 * lo % 18446744073709551616) (min (2 * q) 4000000000000000 + 1) (2 * r + hi / 9223372036854775808 - c)) ∧
    (2 * r + hi / 9223372036854775808 < c → RS N c (i + 1) (2 * hi % 18446744073709551616 + lo / 9223372036854775808) (2 * lo % 18446744073709551616) (min (2 * q) 4000000000000000) (2 * r + hi / 9223372036854775808)) := by
  obtain ⟨T, hN, hT, hr, hq, h1, h2, h3, h4, h5, h6, h7, h8⟩ := h
  have hb : 0 ≤ hi / 9223372036854775808 ∧ hi / 9223372036854775808 ≤ 1 := by omega
  obtain ⟨k1, k2⟩ := bit_div (T := T) hc hb
  rw [hr] at k1 k2
  have hN' : N * 2 ^ (i + 1) = (2 * T + hi / 9223372036854775808) * 340282366920938463463374607431768211456 + ((2 * hi % 18446744073709551616 + lo / 9223372036854775808) * 18446744073709551616 + 2 * lo % 18446744073709551616) := by
    have e : N * 2 ^ (i + 1) = 2 * (N * 2 ^ i) := by rw [Int.pow_succ]; grind
    rw [e, hN]; omega
  refine ⟨fun hh => ?_, fun hh => ?_⟩
  · obtain ⟨e1, e2⟩ := k1 hh
    refine ⟨2 * T + hi / 9223372036854775808, hN', by omega, e2, ?_, by omega, by omega, by omega, by omega, by omega, by omega, by omega, by omega⟩
    rw [e1]; omega
  · obtain ⟨e1, e2⟩ := k2 hh
    refine ⟨2 * T + hi / 9223372036854775808, hN', by omega, e2, ?_, by omega, by omega, by omega, by omega, by omega, by omega, by omega, by omega⟩
    rw [e1]; omega
theorem RS.fin {N c : Int} {hi lo q r : Int} (h : RS N c 128 hi lo q r) : r = N % c ∧ (q = N / c ∨ (4000000000000000 ≤ q ∧ 4000000000000000 ≤ N / c)) := by
  obtain ⟨T, hN, hT, hr, hq, h1, h2, h3, h4, _⟩ := h
  have e : (2 : Int) ^ 128 = 340282366920938463463374607431768211456 := rfl
  rw [e] at hN
  have : T = N := by omega
  subst this
  exact ⟨hr.symm, hq⟩
def QC (N c q : Int) : Prop := 0 ≤ q ∧ q ≤ 4000000000000001 ∧ (q = N / c ∨ (4000000000000000 ≤ q ∧ 4000000000000000 ≤ N / c))
theorem rgd_of {a b c : Int} (h : (((!inB a || !inB b) || decide (c < 1)) || decide (c > 1000000000000000)) = false) : gd a b c = true := by
  simp only [Bool.or_eq_false_iff, Bool.not_eq_false', decide_eq_false_iff_not] at h
  obtain ⟨⟨⟨h1, h2⟩, h3⟩, h4⟩ := h
  rw [gd_iff]
  exact ⟨h1, h2, by omega, by omega⟩
theorem rnd_rbad {a b c : Int} (up : Bool) (h : (((!inB a || !inB b) || decide (c < 1)) || decide (c > 1000000000000000)) = true) : rnd a b c up = (0, false) := by
  refine rnd_bad up ?_
  cases hg : gd a b c with
  | false => rfl
  | true =>
    have h1 := gd_iff.1 hg
    rw [h1.1, h1.2.1, decide_eq_false (show ¬ c < 1 by omega), decide_eq_false (show ¬ c > 1000000000000000 by omega)] at h
    cases h
section
variable {a b c q k : Int} {up : Bool}
theorem rd_hk_t (h : (decide (mag a * mag b % c > 0) && (up != (decide (a < 0) != decide (b < 0)))) = true) : (if 0 < pr a b % c ∧ up ≠ ng a b then q + 1 else q) = q + 1 := by
  rw [if_pos]
  simp only [Bool.and_eq_true, decide_eq_true_eq, bne_iff_ne] at h
  exact ⟨h.1, by unfold ng; exact h.2⟩
theorem rd_hk_f (h : (decide (mag a * mag b % c > 0) && (up != (decide (a < 0) != decide (b < 0)))) = false) : (if 0 < pr a b % c ∧ up ≠ ng a b then q + 1 else q) = q := by
  rw [if_neg]
  rintro ⟨h1, h2⟩
  have : (decide (mag a * mag b % c > 0) && (up != (decide (a < 0) != decide (b < 0)))) = true := by
    simp only [Bool.and_eq_true, decide_eq_true_eq, bne_iff_ne]
    exact ⟨h1, h2⟩
  rw [h] at this; cases this
theorem rd_no (hg : gd a b c = true) (hq : QC (mag a * mag b) c q) (hk : (if 0 < pr a b % c ∧ up ≠ ng a b then q + 1 else q) = k) (h : k > 1000000000000000) : rnd a b c up = (0, false) := by
  rw [rnd_eq up hg rfl, if_neg]
  obtain ⟨_, _, e | e⟩ := hq
  · change q = pr a b / c at e
    rw [← e, hk]; omega
  · have : 4000000000000000 ≤ pr a b / c := e.2
    split <;> omega
theorem rd_eq (hq : QC (mag a * mag b) c q) (hk : (if 0 < pr a b % c ∧ up ≠ ng a b then q + 1 else q) = k) (h : ¬ k > 1000000000000000) : q = pr a b / c := by
  obtain ⟨_, _, e | e⟩ := hq
  · exact e
  · split at hk <;> omega
theorem rd_neg (hg : gd a b c = true) (hq : QC (mag a * mag b) c q) (hk : (if 0 < pr a b % c ∧ up ≠ ng a b then q + 1 else q) = k) (h : ¬ k > 1000000000000000) (hn : (decide (a < 0) != decide (b < 0)) = true) : rnd a b c up = (-k, true) := by
  have e := rd_eq hq hk h
  subst e
  rw [rnd_eq up hg hk, if_pos (by omega), show ng a b = true from hn, if_pos rfl]
theorem rd_pos (hg : gd a b c = true) (hq : QC (mag a * mag b) c q) (hk : (if 0 < pr a b % c ∧ up ≠ ng a b then q + 1 else q) = k) (h : ¬ k > 1000000000000000) (hn : (decide (a < 0) != decide (b < 0)) = false) : rnd a b c up = (k, true) := by
  have e := rd_eq hq hk h
  subst e
  rw [rnd_eq up hg hk, if_pos (by omega), show ng a b = false from hn, if_neg Bool.false_ne_true]
end
end Nq
end Go.Proofs.YteaalclidffjgaaDoor
