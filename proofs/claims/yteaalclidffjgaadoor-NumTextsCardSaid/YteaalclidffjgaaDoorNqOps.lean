/- The bitwise or of what does not overlap; shifted operands of a long division. Conditions: none. -/
import Derived.Test.YteaalclidffjgaaDoorNqSpec
import Derived.Lib.ItoaNum
import Derived.Laws.Bits64b
namespace Go.Eng
open Go Go.RowKit
namespace Y
variable {P : Program} {n : Nat} {E : Env} {C : World → Prop} {o : Oper}
theorem orM {x y : Operand} {t t' : TypeId} {a b r : Int} (ho : o.op = .binOp .or t x y t') (hx : ev E x = some (.int .u64 a)) (hy : ev E y = some (.int .u64 b)) (h : ∀ w : World, bits .or .u64 a b = r) : Yld P o n E C (.int .u64 r) :=
  int2 ho hx hy fun w => by
    simp only [binOp, ne_eq, not_true_eq_false, if_false, Op.intBits]
    show Result.ok (Value.int .u64 (bits .or .u64 a b)) w = _
    rw [h w]
end Y
end Go.Eng
namespace Go.Proofs.YteaalclidffjgaaDoor
open Go Go.Eng
namespace Nq
theorem or_apart {a b k : Nat} (hb : b < 2 ^ k) (h : a * 2 ^ k + b < 18446744073709551616) : bits .or .u64 ((a * 2 ^ k : Nat) : Int) (b : Int) = ((a * 2 ^ k + b : Nat) : Int) := by
  rw [bits_or_u64_nat _ _ (by omega) (by omega), ← Nat.shiftLeft_eq, ← Nat.shiftLeft_add_eq_or_of_lt hb]
def lz (y : Int) : Nat := 64 - Lib.bitLen y.toNat
def sh (y : Int) : Int := y * 2 ^ lz y
theorem bl {y : Int} (h : 1 ≤ y ∧ y ≤ 18446744073709551615) : 1 ≤ Lib.bitLen y.toNat ∧ Lib.bitLen y.toNat ≤ 64 ∧ 2 ^ (Lib.bitLen y.toNat - 1) ≤ y.toNat ∧ y.toNat < 2 ^ Lib.bitLen y.toNat := by
  have h1 := Lib.bitLenAux_bounds 64 y.toNat (by omega) (by omega)
  have h2 := Lib.bitLen_le y.toNat 64 (by omega) (by omega)
  exact ⟨h1.1, h2, h1.2⟩
theorem lz_le {y : Int} (h : 1 ≤ y ∧ y ≤ 18446744073709551615) : lz y ≤ 63 := by have := bl h; unfold lz; omega
theorem pow_cast (k : Nat) : (2 : Int) ^ k = ((2 ^ k : Nat) : Int) := by simp
theorem sh_rng {y : Int} (h : 1 ≤ y ∧ y ≤ 18446744073709551615) : 9223372036854775808 ≤ sh y ∧ sh y ≤ 18446744073709551615 := by
  obtain ⟨h1, h2, h3, h4⟩ := bl h
  have e : sh y = ((y.toNat * 2 ^ lz y : Nat) : Int) := by unfold sh; rw [pow_cast, Int.natCast_mul, Int.toNat_of_nonneg (by omega)]
  rw [e]
  have hl : Lib.bitLen y.toNat + lz y = 64 := by unfold lz; omega
  have g1 : 2 ^ (Lib.bitLen y.toNat - 1) * 2 ^ lz y = 9223372036854775808 := by rw [← Nat.pow_add, show Lib.bitLen y.toNat - 1 + lz y = 63 from by omega]
  have g2 : 2 ^ Lib.bitLen y.toNat * 2 ^ lz y = 18446744073709551616 := by rw [← Nat.pow_add, hl]
  have g3 := Nat.mul_le_mul_right (2 ^ lz y) h3
  have g4 := Nat.mul_lt_mul_of_pos_right h4 (Nat.two_pow_pos (lz y))
  omega
theorem pp (k : Nat) : (0 : Int) < 2 ^ k := by rw [pow_cast]; exact_mod_cast Nat.two_pow_pos k
theorem pw {k : Nat} (h : k ≤ 64) : (2 : Int) ^ min ((k : Nat) : Int).toNat IntKind.u64.bits = 2 ^ k := by
  rw [Int.toNat_natCast, show IntKind.u64.bits = 64 from rfl, Nat.min_eq_left h]
theorem shl_y {y : Int} (h : 1 ≤ y ∧ y ≤ 18446744073709551615) : IntKind.u64.wrap (y * 2 ^ min ((lz y : Nat) : Int).toNat IntKind.u64.bits) = sh y := by
  have := lz_le h
  have h2 := sh_rng h
  rw [pw (by omega)]
  exact wrap_u64 (by unfold sh at h2; omega)
/-- The dividend, shifted. -/
def un (hi lo y : Int) : Int := (hi * 18446744073709551616 + lo) * 2 ^ lz y
theorem hi_lt {hi y : Int} (h0 : 0 ≤ hi) (hy : hi < y) (h : 1 ≤ y ∧ y ≤ 18446744073709551615) : 0 ≤ hi * 2 ^ lz y ∧ hi * 2 ^ lz y + 2 ^ lz y ≤ sh y := by
  have hp : (0 : Int) < 2 ^ lz y := pp _
  refine ⟨Int.mul_nonneg h0 (by omega), ?_⟩
  have := Int.mul_le_mul_of_nonneg_right (show hi + 1 ≤ y by omega) (show (0 : Int) ≤ 2 ^ lz y by omega)
  rw [Int.add_mul, Int.one_mul] at this
  exact this
theorem shl_hi {hi y : Int} (h0 : 0 ≤ hi) (hy : hi < y) (h : 1 ≤ y ∧ y ≤ 18446744073709551615) : IntKind.u64.wrap (hi * 2 ^ min ((lz y : Nat) : Int).toNat IntKind.u64.bits) = hi * 2 ^ lz y := by
  have := lz_le h
  have h1 := hi_lt h0 hy h
  have h2 := sh_rng h
  have hp : (0 : Int) < 2 ^ lz y := pp _
  rw [pw (by omega)]
  exact wrap_u64 (by omega)
theorem shl_lo {lo y : Int} (h : 1 ≤ y ∧ y ≤ 18446744073709551615) : IntKind.u64.wrap (lo * 2 ^ min ((lz y : Nat) : Int).toNat IntKind.u64.bits) = (lo * 2 ^ lz y) % 18446744073709551616 := by
  have := lz_le h
  rw [pw (by omega), IntKind.wrap_u64]
theorem shr_lo {lo y : Int} (hl : 0 ≤ lo) : lo.fdiv (2 ^ min ((64 - lz y : Nat) : Int).toNat IntKind.u64.bits) = lo / 2 ^ (64 - lz y) := by
  rw [pw (by omega), Int.fdiv_eq_ediv_of_nonneg _ (Int.le_of_lt (pp _))]
theorem shr_s {x y : Int} (hx : 0 ≤ x) (h : 1 ≤ y ∧ y ≤ 18446744073709551615) : x.fdiv (2 ^ min ((lz y : Nat) : Int).toNat IntKind.u64.bits) = x / 2 ^ lz y := by
  have := lz_le h
  rw [pw (by omega), Int.fdiv_eq_ediv_of_nonneg _ (Int.le_of_lt (pp _))]
theorem un_parts {hi lo y : Int} (hl : 0 ≤ lo ∧ lo ≤ 18446744073709551615) (h : 1 ≤ y ∧ y ≤ 18446744073709551615) :
    hi * 2 ^ lz y + lo / 2 ^ (64 - lz y) = un hi lo y / 18446744073709551616 ∧ (lo * 2 ^ lz y) % 18446744073709551616 = un hi lo y % 18446744073709551616 ∧ 0 ≤ lo / 2 ^ (64 - lz y) ∧ lo / 2 ^ (64 - lz y) < 2 ^ lz y := by
  have hz := lz_le h
  have e1 : (2 : Int) ^ lz y * 2 ^ (64 - lz y) = 18446744073709551616 := by
    rw [← Int.pow_add, show lz y + (64 - lz y) = 64 from by omega]; rfl
  have hp : (0 : Int) < 2 ^ lz y := pp _
  have hp' : (0 : Int) < 2 ^ (64 - lz y) := pp _
  unfold un
  generalize (2 : Int) ^ lz y = a at *
  generalize (2 : Int) ^ (64 - lz y) = b at *
  have e2 : (hi * 18446744073709551616 + lo) * a = lo * a + 18446744073709551616 * (hi * a) := by grind
  have e3 : lo * a / 18446744073709551616 = lo / b := by rw [← e1, Int.mul_comm lo a, Int.mul_ediv_mul_of_pos _ _ hp]
  refine ⟨?_, ?_, Int.ediv_nonneg hl.1 (by omega), Int.ediv_lt_of_lt_mul hp' (by omega)⟩
  · rw [e2, Int.add_mul_ediv_left _ _ (by decide), e3, Int.add_comm]
  · rw [e2, Int.add_mul_emod_self_left]
theorem or_un {hi lo y : Int} (h0 : 0 ≤ hi) (hy : hi < y) (hl : 0 ≤ lo ∧ lo ≤ 18446744073709551615) (h : 1 ≤ y ∧ y ≤ 18446744073709551615) : bits .or .u64 (hi * 2 ^ lz y) (lo / 2 ^ (64 - lz y)) = un hi lo y / 18446744073709551616 := by
  obtain ⟨h1, _, h3, h4⟩ := un_parts (hi := hi) hl h
  have h5 := hi_lt h0 hy h
  have h6 := sh_rng h
  rw [← h1]
  generalize lo / 2 ^ (64 - lz y) = b at *
  obtain ⟨bn, rfl⟩ := Int.eq_ofNat_of_zero_le h3
  obtain ⟨hn, rfl⟩ := Int.eq_ofNat_of_zero_le h0
  rw [pow_cast] at *
  have e : ((hn : Int) * ((2 ^ lz y : Nat) : Int)) = ((hn * 2 ^ lz y : Nat) : Int) := (Int.natCast_mul _ _).symm
  rw [e] at h5
  have := or_apart (a := hn) (b := bn) (k := lz y) (by omega) (by omega)
  rw [Int.natCast_add, Int.natCast_mul] at this
  exact this
theorem un_lt {hi lo y : Int} (h0 : 0 ≤ hi) (hy : hi < y) (hl : 0 ≤ lo ∧ lo ≤ 18446744073709551615) (h : 1 ≤ y ∧ y ≤ 18446744073709551615) : 0 ≤ un hi lo y / 18446744073709551616 ∧ un hi lo y / 18446744073709551616 < sh y := by
  obtain ⟨h1, _, h3, h4⟩ := un_parts (hi := hi) hl h
  have h5 := hi_lt h0 hy h
  omega
theorem qy {q y0 : Int} (hb : decide (q ≥ 4294967296) = false) (h0 : 0 ≤ q) (h : 0 ≤ y0 ∧ y0 < 4294967296) : IntKind.u64.wrap (q * y0) = q * y0 := by
  have := of_decide_eq_false hb
  have h2 := mul_bound (a := q) (b := y0) (m := 4294967295) (k := 4294967295) (by omega) (by omega)
  exact wrap_u64 (by omega)
theorem ds_wrap {q y1 u : Int} (h0 : 0 ≤ q) (hy : 0 ≤ y1) (hr : 0 ≤ u - q * y1) (hu : u ≤ 18446744073709551615) : IntKind.u64.wrap (q * y1) = q * y1 := by
  have := Int.mul_nonneg h0 hy
  exact wrap_u64 (by omega)
theorem dt {q y0 r v : Int} (h : (decide (q ≥ 4294967296) || decide (q * y0 > 4294967296 * r + v)) = true) : q ≥ 4294967296 ∨ q * y0 > 4294967296 * r + v := by
  simpa using h
theorem df {q y0 r v : Int} (h : (decide (q ≥ 4294967296) || decide (q * y0 > 4294967296 * r + v)) = false) : q * y0 ≤ 4294967296 * r + v := by
  simp at h; omega
theorem q_pos {q y0 r v : Int} (h : q ≥ 4294967296 ∨ q * y0 > 4294967296 * r + v) (h0 : 0 ≤ q) (hr : 0 ≤ r) (hv : 0 ≤ v) : 1 ≤ q := by
  rcases h with h | h
  · omega
  · by_cases hq : q = 0
    · subst hq; rw [Int.zero_mul] at h; omega
    · omega
theorem fin64 {hi lo y a b : Int} (h : 1 ≤ y ∧ y ≤ 18446744073709551615)
    (e1 : a = (un hi lo y / 18446744073709551616 * 4294967296 + un hi lo y % 18446744073709551616 / 4294967296) / sh y)
    (e2 : b = ((un hi lo y / 18446744073709551616 * 4294967296 + un hi lo y % 18446744073709551616 / 4294967296) % sh y * 4294967296 + un hi lo y % 18446744073709551616 % 4294967296) / sh y) :
    a * 4294967296 + b = (hi * 18446744073709551616 + lo) / y ∧ ((un hi lo y / 18446744073709551616 * 4294967296 + un hi lo y % 18446744073709551616 / 4294967296) % sh y * 4294967296 + un hi lo y % 18446744073709551616 % 4294967296) % sh y / 2 ^ lz y = (hi * 18446744073709551616 + lo) % y := by
  have hs := sh_rng h
  obtain ⟨d1, d2⟩ := d_two (Y := sh y) (U := un hi lo y % 18446744073709551616 % 4294967296) (by omega) e1 e2 (by omega)
  have eU : (un hi lo y / 18446744073709551616 * 4294967296 + un hi lo y % 18446744073709551616 / 4294967296) * 4294967296 + un hi lo y % 18446744073709551616 % 4294967296 = un hi lo y := by omega
  rw [eU] at d1 d2
  obtain ⟨s1, s2⟩ := d_shift (N := hi * 18446744073709551616 + lo) (y := y) (p := 2 ^ lz y) (by omega) (pp _)
  rw [d1, d2]
  exact ⟨s1, s2⟩
end Nq
end Go.Proofs.YteaalclidffjgaaDoor
