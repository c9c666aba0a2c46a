/- Plain facts on numbers for the walks of package num. Conditions: none. -/
import Derived.Test.YtaglpampidlbmaaOps
namespace Go.Num
theorem split_id (x1 x0 y1 y0 : Int) : (4294967296 * x1 + x0) * (4294967296 * y1 + y0) = 18446744073709551616 * (x1*y1) + 4294967296 * (x1*y0 + x0*y1) + x0*y0 := by grind
theorem mul_split {x y p00 p01 p10 p11 : Int} (_hx : 0 ≤ x ∧ x ≤ 18446744073709551615) (_hy : 0 ≤ y ∧ y ≤ 18446744073709551615)
    (h00 : (x % 4294967296) * (y % 4294967296) = p00) (h01 : (x % 4294967296) * (y / 4294967296) = p01) (h10 : (x / 4294967296) * (y % 4294967296) = p10) (h11 : (x / 4294967296) * (y / 4294967296) = p11) :
    x * y = 18446744073709551616 * p11 + 4294967296 * (p10 + p01) + p00 := by
  have e1 := Int.mul_ediv_add_emod x 4294967296
  have e2 := Int.mul_ediv_add_emod y 4294967296
  have := split_id (x / 4294967296) (x % 4294967296) (y / 4294967296) (y % 4294967296)
  rw [e1, e2, h00, h01, h10, h11] at this
  exact this
theorem ne_beq {a b : Int} (h : a ≠ b) : (a == b) = false := by simpa using h
theorem eq_beq {a b : Int} (h : a = b) : (a == b) = true := by simpa using h
end Go.Num
