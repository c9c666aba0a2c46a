/- What the functions of package interval compute, as plain functions on numbers.
   Conditions: none; nothing here speaks of a given program. -/
import Derived.Test.YtaglpampidlbmaaOps
namespace Go.Iv
open Go Go.Eng
abbrev I2 := Int × Int
def maxInt : Int := 1000000000000000
def inB (n : Int) : Bool := decide (-1000000000000000 ≤ n) && decide (n ≤ 1000000000000000)
def validB (a : I2) : Bool := (decide (a.1 ≤ a.2) && inB a.1) && inB a.2
def checkedF (a : I2) : I2 × Bool := bif !validB a then ((0, 0), false) else (a, true)
def meetF (a b : I2) : I2 × Bool := bif (!validB a || !validB b) then ((0, 0), false) else checkedF (max a.1 b.1, min a.2 b.2)
def hullF (a b : I2) : I2 := bif (validB a && validB b) then (min a.1 b.1, max a.2 b.2) else bif validB a then a else bif validB b then b else (0, 0)
def addF (a b : I2) : I2 × Bool := bif (!validB a || !validB b) then ((0, 0), false) else checkedF (a.1 + b.1, a.2 + b.2)
def beforeB (a b : I2) : Bool := (validB a && validB b) && decide (a.2 < b.1)
def withinB (a : I2) (n : Int) : Bool := (validB a && decide (a.1 ≤ n)) && decide (n ≤ a.2)
/-- As values. -/
def iv (a : I2) : Value := .agg #[.int .i64 a.1, .int .i64 a.2]
def ivb (r : I2 × Bool) : Value := .tuple #[.agg #[.int .i64 r.1.1, .int .i64 r.1.2], .bool r.2]
theorem valid_in {a : I2} (h : validB a = true) : a.1 ≤ a.2 ∧ (-1000000000000000 ≤ a.1 ∧ a.1 ≤ 1000000000000000) ∧ (-1000000000000000 ≤ a.2 ∧ a.2 ≤ 1000000000000000) := by
  simp [validB, inB] at h; omega
/-- Stretch of a duration that is not negative. -/
def strPos (d ppm : Int) : I2 := (d * (1000000 - ppm) / 1000000, (d * (1000000 + ppm) + 999999) / 1000000)
def strGuard (d ppm : Int) : Bool := (((decide (d < -1000000000000) || decide (1000000000000 < d)) || decide (ppm < 0)) || decide (10000 < ppm))
def stretchF (d ppm : Int) : I2 × Bool := bif strGuard d ppm then ((0, 0), false) else bif decide (d < 0) then ((-(strPos (-d) ppm).2, -(strPos (-d) ppm).1), true) else (strPos d ppm, true)
theorem stretch_bad {d ppm : Int} (h : strGuard d ppm = true) : stretchF d ppm = ((0, 0), false) := by simp [stretchF, h]
theorem stretch_neg {d ppm : Int} (h : strGuard d ppm = false) (h0 : d < 0) : stretchF d ppm = ((-(strPos (-d) ppm).2, -(strPos (-d) ppm).1), true) := by simp [stretchF, h, h0]
theorem stretch_pos {d ppm : Int} (h : strGuard d ppm = false) (h0 : ¬ d < 0) : stretchF d ppm = (strPos d ppm, true) := by simp [stretchF, h, h0]
theorem guard_no {d ppm : Int} (h : strGuard d ppm = false) : (-1000000000000 ≤ d ∧ d ≤ 1000000000000) ∧ 0 ≤ ppm ∧ ppm ≤ 10000 := by simp [strGuard] at h; omega
theorem strPos_bound {d ppm : Int} (hd : 0 ≤ d ∧ d ≤ 1000000000000) (hp : 0 ≤ ppm ∧ ppm ≤ 10000) : (0 ≤ (strPos d ppm).1 ∧ (strPos d ppm).1 ≤ 1000000000000) ∧ 0 ≤ (strPos d ppm).2 ∧ (strPos d ppm).2 ≤ 1010000000000 := by
  have b1 := mul_bound (a := d) (b := 1000000 - ppm) (m := 1000000000000) (k := 1000000) hd (by omega)
  have b2 := mul_bound (a := d) (b := 1000000 + ppm) (m := 1000000000000) (k := 1010000) hd (by omega)
  simp only [strPos]
  omega
theorem agg2 {k k' : IntKind} {a b a' b' : Int} (h : a = a') (h2 : b = b') : Value.agg #[.int k a, .int k' b] = .agg #[.int k a', .int k' b'] := by rw [h, h2]
theorem wmi {a b p : Int} (h : a * b = p) (hp : 0 ≤ p ∧ p ≤ 9223372036854775807) : IntKind.i64.wrap (a * b) = p := by rw [h]; exact wrap_i64 (by omega)
/-! Laws -/
theorem valid_iff (a : I2) : validB a = true ↔ a.1 ≤ a.2 ∧ (-1000000000000000 ≤ a.1 ∧ a.1 ≤ 1000000000000000) ∧ (-1000000000000000 ≤ a.2 ∧ a.2 ≤ 1000000000000000) := by
  simp [validB, inB]; omega
theorem meet_comm (a b : I2) : meetF a b = meetF b a := by
  simp only [meetF, Int.max_comm b.1 a.1, Int.min_comm b.2 a.2, Bool.or_comm (!validB b) (!validB a)]
theorem hull_comm (a b : I2) : hullF a b = hullF b a := by
  unfold hullF
  cases validB a <;> cases validB b <;> simp [Int.max_comm, Int.min_comm]
theorem add_comm (a b : I2) : addF a b = addF b a := by
  simp only [addF, Int.add_comm b.1 a.1, Int.add_comm b.2 a.2, Bool.or_comm (!validB b) (!validB a)]
theorem within_iff (a : I2) (n : Int) : withinB a n = true ↔ validB a = true ∧ a.1 ≤ n ∧ n ≤ a.2 := by
  simp [withinB]; constructor <;> rintro h <;> simp_all
theorem meet_within (a b : I2) (n : Int) : (withinB a n && withinB b n) = ((meetF a b).2 && withinB (meetF a b).1 n) := by
  rw [Bool.eq_iff_iff]
  simp only [Bool.and_eq_true, within_iff]
  unfold meetF checkedF
  cases ha : validB a <;> cases hb : validB b <;> simp
  cases hc : validB (max a.1 b.1, min a.2 b.2) with
  | true =>
    simp [hc]
    omega
  | false =>
    simp [hc]
    intro h1 h2 h3
    rw [Bool.eq_false_iff] at hc
    simp only [ne_eq, valid_iff] at hc
    rw [valid_iff] at ha hb
    omega
theorem hull_within (a b : I2) (n : Int) (h : (withinB a n || withinB b n) = true) : withinB (hullF a b) n = true := by
  simp only [Bool.or_eq_true, within_iff] at h
  rw [within_iff, valid_iff]
  unfold hullF
  cases ha : validB a <;> cases hb : validB b <;> simp [ha, hb] at h ⊢
  all_goals (simp only [valid_iff] at ha hb; omega)
theorem hull_ends (a b : I2) : ((((hullF a b).1 = a.1 ∨ (hullF a b).1 = b.1) ∧ ((hullF a b).2 = a.2 ∨ (hullF a b).2 = b.2)) ∨ (validB a = false ∧ validB b = false ∧ hullF a b = (0, 0))) := by
  unfold hullF
  cases ha : validB a <;> cases hb : validB b <;> simp
  omega
theorem before_meet (a b : I2) (ha : validB a = true) (hb : validB b = true) : (beforeB a b || beforeB b a) = !(meetF a b).2 := by
  unfold beforeB meetF checkedF
  simp only [ha, hb, Bool.not_true, Bool.or_self, cond_false, Bool.true_and]
  cases hc : validB (max a.1 b.1, min a.2 b.2) with
  | true =>
    rw [valid_iff] at hc
    simp at hc ⊢
    omega
  | false =>
    rw [Bool.eq_false_iff] at hc
    simp only [ne_eq, valid_iff] at hc
    rw [valid_iff] at ha hb
    simp
    simp at hc
    omega
theorem add_b {a0 a1 b0 b1 : Int} (h : (addF (a0, a1) (b0, b1)).2 = true) : (-9223372036854775808 ≤ a0 + b0 ∧ a0 + b0 ≤ 9223372036854775807) ∧ (-9223372036854775808 ≤ a1 + b1 ∧ a1 + b1 ≤ 9223372036854775807) := by
  unfold addF checkedF at h
  cases ha : validB (a0, a1) <;> cases hb : validB (b0, b1) <;> simp [ha, hb] at h
  rw [valid_iff] at ha hb
  dsimp only at ha hb
  omega
theorem mn_b {a0 a1 b0 b1 n m : Int} {x : Bool} (h : ((x && withinB (a0, a1) n) && withinB (b0, b1) m) = true) : -9223372036854775808 ≤ n + m ∧ n + m ≤ 9223372036854775807 := by
  simp only [Bool.and_eq_true, within_iff, valid_iff] at h
  omega
theorem add_sum (a b : I2) (h : (addF a b).2 = true) : (addF a b).1 = (a.1 + b.1, a.2 + b.2) ∧ validB a = true ∧ validB b = true ∧ validB (a.1 + b.1, a.2 + b.2) = true := by
  unfold addF checkedF at h ⊢
  cases ha : validB a <;> cases hb : validB b <;> simp [ha, hb] at h ⊢
  cases hc : validB (a.1 + b.1, a.2 + b.2) <;> simp [hc] at h ⊢
theorem str_dom {d ppm : Int} (h : (stretchF d ppm).2 = true) : (-1000000000000 ≤ d ∧ d ≤ 1000000000000) ∧ 0 ≤ ppm ∧ ppm ≤ 10000 := by
  refine guard_no ?_
  cases hg : strGuard d ppm with
  | false => rfl
  | true => rw [stretch_bad hg] at h; cases h
theorem str_zero {d ppm : Int} (h : (stretchF d ppm).2 = false) : (stretchF d ppm) = ((0, 0), false) := by
  unfold stretchF at h ⊢
  cases hg : strGuard d ppm <;> simp [hg] at h ⊢
  cases h0 : decide (d < 0) <;> rw [h0] at h <;> cases h
theorem str_bound (d ppm : Int) : (-1010000000000 ≤ (stretchF d ppm).1.1 ∧ (stretchF d ppm).1.1 ≤ 1010000000000) ∧ (-1010000000000 ≤ (stretchF d ppm).1.2 ∧ (stretchF d ppm).1.2 ≤ 1010000000000) := by
  cases hg : strGuard d ppm with
  | true => rw [stretch_bad hg]; dsimp only; omega
  | false =>
    have hb := guard_no hg
    by_cases h0 : d < 0
    · have := strPos_bound (d := -d) (ppm := ppm) (by omega) hb.2
      rw [stretch_neg hg h0]; dsimp only; omega
    · have := strPos_bound (d := d) (ppm := ppm) (by omega) hb.2
      rw [stretch_pos hg h0]; dsimp only; omega
theorem str_form {d p x : Int} (h : (-1000000000000 ≤ d ∧ d ≤ 1000000000000) ∧ 0 ≤ p ∧ p ≤ 10000) (hx : d * p = x) :
    stretchF d p = (if d < 0 then (-((-(1000000 * d) - x + 999999) / 1000000), -((-(1000000 * d) + x) / 1000000)) else ((1000000 * d - x) / 1000000, (1000000 * d + x + 999999) / 1000000), true) := by
  have hg : strGuard d p = false := by simp [strGuard]; omega
  have e1 : d * (1000000 - p) = 1000000 * d - x := by rw [Int.mul_sub, hx]; omega
  have e2 : d * (1000000 + p) = 1000000 * d + x := by rw [Int.mul_add, hx]; omega
  by_cases h0 : d < 0
  · rw [stretch_neg hg h0, if_pos h0]
    have e3 : -d * (1000000 - p) = -(1000000 * d) + x := by rw [Int.neg_mul, e1]; omega
    have e4 : -d * (1000000 + p) = -(1000000 * d) - x := by rw [Int.neg_mul, e2]; omega
    simp only [strPos, e3, e4]
  · rw [stretch_pos hg h0, if_neg h0]
    simp only [strPos, e1, e2]
theorem prod_sign {d p : Int} (hp : 0 ≤ p ∧ p ≤ 10000) : (0 ≤ d → 0 ≤ d * p ∧ d * p ≤ 10000 * d) ∧ (d ≤ 0 → 10000 * d ≤ d * p ∧ d * p ≤ 0) := by
  constructor
  · intro h
    refine ⟨Int.mul_nonneg h hp.1, ?_⟩
    have := Int.mul_le_mul_of_nonneg_left hp.2 h
    omega
  · intro h
    have h1 : 0 ≤ -d * p := Int.mul_nonneg (by omega) hp.1
    have h2 := Int.mul_le_mul_of_nonneg_left hp.2 (by omega : 0 ≤ -d)
    rw [Int.neg_mul] at h1 h2
    omega
theorem drift1 {d p : Int} (h : (stretchF d p).2 = true) : stretchF (-d) p = ((-(stretchF d p).1.2, -(stretchF d p).1.1), true) ∧ stretchF d 0 = ((d, d), true) ∧ withinB (stretchF d p).1 d = true := by
  have hd := str_dom h
  have hs := prod_sign (d := d) hd.2
  generalize hx : d * p = x at hs
  rw [str_form hd hx, str_form (d := -d) (x := -x) (by omega) (by rw [Int.neg_mul, hx]), str_form (d := d) (p := 0) (x := 0) (by omega) (by omega), within_iff, valid_iff]
  dsimp only
  by_cases h0 : d < 0
  · rw [if_pos h0, if_neg (by omega), if_pos h0]
    refine ⟨?_, ?_, ?_⟩
    · congr 2 <;> omega
    · congr 2 <;> omega
    · dsimp only; omega
  · by_cases h1 : d = 0
    · subst h1
      have : x = 0 := by omega
      subst this
      decide
    · rw [if_neg h0, if_pos (by omega), if_neg h0]
      refine ⟨?_, ?_, ?_⟩
      · congr 2 <;> omega
      · congr 2 <;> omega
      · dsimp only; omega
theorem drift2 {d p q : Int} (h : (stretchF d p).2 = true) (hq : (stretchF d q).2 = true) (hle : q ≤ p) : withinB (stretchF d p).1 (stretchF d q).1.1 = true ∧ withinB (stretchF d p).1 (stretchF d q).1.2 = true := by
  have hd := str_dom h
  have he := str_dom hq
  have hs := prod_sign (d := d) hd.2
  have ht := prod_sign (d := d) he.2
  have hc : (0 ≤ d → d * q ≤ d * p) ∧ (d ≤ 0 → d * p ≤ d * q) :=
    ⟨fun h => Int.mul_le_mul_of_nonneg_left hle h, fun h => by
      have := Int.mul_le_mul_of_nonneg_left hle (by omega : 0 ≤ -d)
      rw [Int.neg_mul, Int.neg_mul] at this; omega⟩
  generalize hx : d * p = x at hs hc
  generalize hy : d * q = y at ht hc
  rw [str_form hd hx, str_form he hy, within_iff, within_iff, valid_iff]
  dsimp only
  by_cases h0 : d < 0
  · rw [if_pos h0, if_pos h0]; dsimp only; omega
  · rw [if_neg h0, if_neg h0]; dsimp only; omega
theorem parts1 {d e p : Int} (hd : (stretchF d p).2 = true) (hw : (stretchF (d + e) p).2 = false) : 1000000000000 < d + e ∨ d + e < -1000000000000 := by
  have h1 := str_dom hd
  rcases Classical.em (-1000000000000 ≤ d + e ∧ d + e ≤ 1000000000000) with h | h
  · rw [str_form (d := d + e) (p := p) ⟨h, h1.2⟩ rfl] at hw; cases hw
  · omega
theorem parts2 {d e p : Int} (hd : (stretchF d p).2 = true) (he : (stretchF e p).2 = true) (hw : (stretchF (d + e) p).2 = true) :
    (addF (stretchF d p).1 (stretchF e p).1).2 = true ∧ withinB (addF (stretchF d p).1 (stretchF e p).1).1 (stretchF (d + e) p).1.1 = true ∧ withinB (addF (stretchF d p).1 (stretchF e p).1).1 (stretchF (d + e) p).1.2 = true := by
  have h1 := str_dom hd
  have h2 := str_dom he
  have h3 := str_dom hw
  have hs := prod_sign (d := d) h1.2
  have ht := prod_sign (d := e) h1.2
  generalize hx : d * p = x at hs
  generalize hy : e * p = y at ht
  have bd : validB (stretchF d p).1 = true := by
    rw [str_form h1 hx, valid_iff]
    by_cases h0 : d < 0
    · rw [if_pos h0]; dsimp only; omega
    · rw [if_neg h0]; dsimp only; omega
  have be : validB (stretchF e p).1 = true := by
    rw [str_form h2 hy, valid_iff]
    by_cases h0 : e < 0
    · rw [if_pos h0]; dsimp only; omega
    · rw [if_neg h0]; dsimp only; omega
  have hB := str_bound d p
  have hC := str_bound e p
  have vd := (valid_iff _).1 bd
  have ve := (valid_iff _).1 be
  have ba : addF (stretchF d p).1 (stretchF e p).1 = (((stretchF d p).1.1 + (stretchF e p).1.1, (stretchF d p).1.2 + (stretchF e p).1.2), true) := by
    unfold addF checkedF
    have : validB ((stretchF d p).1.1 + (stretchF e p).1.1, (stretchF d p).1.2 + (stretchF e p).1.2) = true := by rw [valid_iff]; dsimp only; omega
    simp [bd, be, this]
  rw [ba]
  refine ⟨rfl, ?_⟩
  have bs : validB ((stretchF d p).1.1 + (stretchF e p).1.1, (stretchF d p).1.2 + (stretchF e p).1.2) = true := by rw [valid_iff]; dsimp only; omega
  rw [within_iff, within_iff]
  dsimp only
  suffices H : ((stretchF d p).1.1 + (stretchF e p).1.1 ≤ (stretchF (d + e) p).1.1 ∧ (stretchF (d + e) p).1.1 ≤ (stretchF d p).1.2 + (stretchF e p).1.2) ∧ ((stretchF d p).1.1 + (stretchF e p).1.1 ≤ (stretchF (d + e) p).1.2 ∧ (stretchF (d + e) p).1.2 ≤ (stretchF d p).1.2 + (stretchF e p).1.2) from ⟨⟨bs, H.1⟩, ⟨bs, H.2⟩⟩
  clear bs ba vd ve hB hC bd be
  rw [str_form h1 hx, str_form h2 hy, str_form h3 (x := x + y) (by rw [Int.add_mul, hx, hy])]
  dsimp only
  by_cases h0 : d < 0 <;> by_cases h4 : e < 0 <;> by_cases h5 : d + e < 0
  all_goals simp only [h0, h4, h5, if_true, if_false]
  all_goals omega
end Go.Iv
