/- Long division of 128 bits by 64, in plain terms. Conditions: none. -/
import Derived.Test.YteaalclidffjgaaDoorOps
namespace Go.Proofs.YteaalclidffjgaaDoor
namespace Nq
section
variable {Y y1 y0 u v q r : Int}
/-- The quotient digit that is looked for. -/
theorem d_start (hY : Y = y1 * 4294967296 + y0) (h1 : 2147483648 ≤ y1 ∧ y1 < 4294967296) (h0 : 0 ≤ y0 ∧ y0 < 4294967296) (hu : 0 ≤ u ∧ u < Y) (hv : 0 ≤ v ∧ v < 4294967296) :
    (u / y1) * y1 + (u - (u / y1) * y1) = u ∧ (u * 4294967296 + v) / Y ≤ u / y1 ∧ 0 ≤ u - (u / y1) * y1 ∧ u - (u / y1) * y1 < 4294967296 ∧ 0 ≤ u / y1 ∧ u / y1 ≤ 8589934592 := by
  have hd := Int.mul_ediv_add_emod u y1
  have hm0 := Int.emod_nonneg u (show y1 ≠ 0 by omega)
  have hm1 := Int.emod_lt_of_pos u (show 0 < y1 by omega)
  have hq0 : 0 ≤ u / y1 := Int.ediv_nonneg hu.1 (by omega)
  have hc : y1 * (u / y1) = (u / y1) * y1 := Int.mul_comm _ _
  rw [hc] at hd
  generalize u / y1 = Q at *
  generalize hP : Q * y1 = P at *
  refine ⟨by omega, ?_, by omega, by omega, hq0, ?_⟩
  · have h2 : u * 4294967296 + v < (Q + 1) * Y := by
      have e : (Q + 1) * Y = (P + y1) * 4294967296 + (Q + 1) * y0 := by subst hY; subst hP; grind
      have h3 : 0 ≤ (Q + 1) * y0 := Int.mul_nonneg (by omega) h0.1
      omega
    have := Int.ediv_lt_of_lt_mul (show 0 < Y by omega) h2
    omega
  · have h4 : 2147483648 * Q ≤ P := by
      have := Int.mul_le_mul_of_nonneg_left h1.1 hq0
      rw [hP] at this; omega
    have h5 : Y ≤ 4294967296 * y1 + 4294967295 := by omega
    by_cases hb : Q ≤ 8589934592
    · exact hb
    · exfalso
      have h6 : 8589934593 * y1 ≤ P := by
        have := Int.mul_le_mul_of_nonneg_right (show 8589934593 ≤ Q by omega) (show 0 ≤ y1 by omega)
        rw [hP] at this; exact this
      omega
theorem d_lt (hY : Y = y1 * 4294967296 + y0) (h1 : 2147483648 ≤ y1 ∧ y1 < 4294967296) (h0 : 0 ≤ y0 ∧ y0 < 4294967296) (hu : 0 ≤ u ∧ u < Y) (hv : 0 ≤ v ∧ v < 4294967296) : (u * 4294967296 + v) / Y < 4294967296 := by
  refine Int.ediv_lt_of_lt_mul (by omega) ?_
  have : (u + 1) * 4294967296 ≤ 4294967296 * Y := by omega
  omega
theorem d_mul (hY : Y = y1 * 4294967296 + y0) (hi : q * y1 + r = u) : q * Y = (u - r) * 4294967296 + q * y0 := by
  subst hY; have : q * y1 = u - r := by omega
  rw [Int.mul_add, ← Int.mul_assoc, this]
theorem d_dec (hY : Y = y1 * 4294967296 + y0) (h1 : 2147483648 ≤ y1 ∧ y1 < 4294967296) (h0 : 0 ≤ y0 ∧ y0 < 4294967296) (hu : 0 ≤ u ∧ u < Y) (hv : 0 ≤ v ∧ v < 4294967296) (hi : q * y1 + r = u) (hge : (u * 4294967296 + v) / Y ≤ q)
    (ht : q ≥ 4294967296 ∨ q * y0 > 4294967296 * r + v) : (q - 1) * y1 + (r + y1) = u ∧ (u * 4294967296 + v) / Y ≤ q - 1 := by
  refine ⟨by have : (q - 1) * y1 = q * y1 - y1 := by rw [Int.sub_mul, Int.one_mul]
             omega, ?_⟩
  rcases ht with ht | ht
  · have := d_lt hY h1 h0 hu hv; omega
  · have hm := d_mul hY hi
    have h2 : u * 4294967296 + v < q * Y := by omega
    have := Int.ediv_lt_of_lt_mul (show 0 < Y by omega) h2
    omega
theorem d_exit (hY : Y = y1 * 4294967296 + y0) (h1 : 2147483648 ≤ y1 ∧ y1 < 4294967296) (hi : q * y1 + r = u) (hge : (u * 4294967296 + v) / Y ≤ q) (h0 : 0 ≤ y0) (ht : q * y0 ≤ 4294967296 * r + v) : q = (u * 4294967296 + v) / Y := by
  have hm := d_mul hY hi
  have : q ≤ (u * 4294967296 + v) / Y := (Int.le_ediv_iff_mul_le (show 0 < Y by omega)).2 (by omega)
  omega
theorem d_small (hY : Y = y1 * 4294967296 + y0) (h1 : 2147483648 ≤ y1 ∧ y1 < 4294967296) (h0 : 0 ≤ y0 ∧ y0 < 4294967296) (hu : 0 ≤ u ∧ u < Y) (hi : q * y1 + r = u) (hr : 4294967296 ≤ r) (hq : 0 ≤ q) : q < 4294967296 := by
  by_cases h : q < 4294967296
  · exact h
  · exfalso
    have := Int.mul_le_mul_of_nonneg_right (show 4294967296 ≤ q by omega) (show 0 ≤ y1 by omega)
    omega
theorem d_break (hY : Y = y1 * 4294967296 + y0) (h1 : 2147483648 ≤ y1 ∧ y1 < 4294967296) (h0 : 0 ≤ y0 ∧ y0 < 4294967296) (hu : 0 ≤ u ∧ u < Y) (hv : 0 ≤ v ∧ v < 4294967296) (hi : q * y1 + r = u) (hge : (u * 4294967296 + v) / Y ≤ q) (hr : 4294967296 ≤ r) (hq : 0 ≤ q) : q = (u * 4294967296 + v) / Y := by
  have hs := d_small hY h1 h0 hu hi hr hq
  refine d_exit hY h1 hi hge h0.1 ?_
  have h2 : q * y0 ≤ 4294967296 * 4294967296 := by
    have h3 := Int.mul_le_mul_of_nonneg_left (show y0 ≤ 4294967296 by omega) hq
    omega
  omega
/-- What is left over, reckoned modulo 2^64. -/
theorem d_rest (hY : Y = y1 * 4294967296 + y0) (h1 : 2147483648 ≤ y1 ∧ y1 < 4294967296) (h0 : 0 ≤ y0 ∧ y0 < 4294967296) (hq : q = (u * 4294967296 + v) / Y) :
    (((u * 4294967296) % 18446744073709551616 + v) % 18446744073709551616 - (q * Y) % 18446744073709551616) % 18446744073709551616 = (u * 4294967296 + v) % Y := by
  have hd := Int.mul_ediv_add_emod (u * 4294967296 + v) Y
  have hm0 := Int.emod_nonneg (u * 4294967296 + v) (show Y ≠ 0 by omega)
  have hm1 := Int.emod_lt_of_pos (u * 4294967296 + v) (show 0 < Y by omega)
  rw [← hq, Int.mul_comm Y q] at hd
  generalize q * Y = P at *
  generalize (u * 4294967296 + v) % Y = R at *
  omega
/-- Two digits make the quotient. -/
theorem d_two {U a b : Int} (hY : 0 < Y) (hq1 : a = (u * 4294967296 + v) / Y) (hq0 : b = ((u * 4294967296 + v) % Y * 4294967296 + U) / Y) (hU : 0 ≤ U) :
    a * 4294967296 + b = ((u * 4294967296 + v) * 4294967296 + U) / Y ∧ ((u * 4294967296 + v) % Y * 4294967296 + U) % Y = ((u * 4294967296 + v) * 4294967296 + U) % Y := by
  have hd := Int.mul_ediv_add_emod (u * 4294967296 + v) Y
  rw [← hq1] at hd
  generalize u * 4294967296 + v = A at *
  generalize A % Y = R at *
  have e : A * 4294967296 + U = (R * 4294967296 + U) + Y * (a * 4294967296) := by rw [← hd]; grind
  rw [e, Int.add_mul_ediv_left _ _ (show Y ≠ 0 by omega), Int.add_mul_emod_self_left]
  subst hq0
  exact ⟨by omega, rfl⟩
/-- Shifted operands. -/
theorem d_shift {N y p : Int} (hy : 0 < y) (hp : 0 < p) : (N * p) / (y * p) = N / y ∧ (N * p) % (y * p) / p = N % y := by
  refine ⟨Int.mul_ediv_mul_of_pos_left _ _ hp, ?_⟩
  rw [Int.mul_comm N p, Int.mul_comm y p, Int.mul_emod_mul_of_pos _ _ hp]
  exact Int.mul_ediv_cancel_left _ (by omega)
end
end Nq
end Go.Proofs.YteaalclidffjgaaDoor
