/- The key type of the numbers of nodes. Conditions: none. -/
import Derived.Test.YtaglpampidlbmaaMapP
import Derived.Test.YtaglpampidlbmaaRows
import Derived.Laws.StructEq
namespace Go.Proofs.Ytaglpampidlbmaa
open Go Go.Eng Go.RowKit
theorem kq95 (a0 : Int) (a1 : Int) (b0 : Int) (b1 : Int) (w : World) : (Op.equalIn 10000 95 (.agg #[.int .i64 a0, .int .i64 a1]) (.agg #[.int .i64 b0, .int .i64 b1])).run Try.prog w = .ok ((a0 == b0) && (a1 == b1)) w := by
  go_simp
  (repeat' split) <;> simp_all
theorem chk95 (em : Bool) (a b : Int) (w : World) : (Instr.checkKey em 10000 95 (.agg #[.int .i64 a, .int .i64 b])).run Try.prog w = .ok () w := by
  rw [show (10000 : Nat) = 9999 + 1 from rfl]
  unfold Instr.checkKey
  go_simp
  rw [show (Instr.checkKey em 9999 3 (.int .i64 a)).run Try.prog w = .ok () w from checkKey_int Try.underlying3 em 9998 a w, Result.andThen_ok, show (Instr.checkKey em 9999 3 (.int .i64 b)).run Try.prog w = .ok () w from checkKey_int Try.underlying3 em 9998 b w]
theorem pkk95 : PK Try.prog 95 := ⟨by kernel_rfl, kq95, chk95⟩
end Go.Proofs.Ytaglpampidlbmaa
