/- The chapter's examples in plain terms. Conditions: none. -/
import Derived.Test.YteaalclidffjgaaDoorNqTx
import Derived.Test.YteaalclidffjgaaDoorNqQt
namespace Go.Proofs.YteaalclidffjgaaDoor
open Go Go.Eng Go.Lib
namespace Nq
theorem aw1 : rnd 100000000 (-10000000) 1 false = (-1000000000000000, true) := by decide +kernel
theorem aw2 : ad 1000000000000000 1 = (0, false) := by decide +kernel
theorem aw3 : rnd (-7) 1 2 false = (-4, true) := by decide +kernel
theorem aw4 : rnd (-7) 1 2 true = (-3, true) := by decide +kernel
theorem aw5 : qt [4, 1, 3, 2] 1 2 = (2, true) := by
  have h : qd [4, 1, 3, 2] 1 2 = false := by decide
  rw [qt_good h, q_least (best := 2) h (by decide) (by decide) (by decide)]
theorem aw6 : ps ⟨#[45, 48]⟩ = (0, false) := by
  have h : atoiAll (ByteArray.mk #[45, 48]).data.toList = .ok 0 := by decide +kernel
  rw [ps_ok h, txt_def, show itoa 0 = [48] from by rw [show (0 : Int) = ((0 : Nat) : Int) from rfl, itoa_nonneg, dec_small (by decide)]; rfl]
  decide +kernel
theorem aw7 : txt (-12) = ⟨#[45, 49, 50]⟩ := by
  rw [txt_def, show (-12 : Int) = -((12 : Nat) : Int) from rfl, itoa_neg 12 (by decide), dec_big (by decide), dec_small (by decide)]
  rfl
end Nq
end Go.Proofs.YteaalclidffjgaaDoor
