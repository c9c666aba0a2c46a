/- A slice against nil. Over any program. Conditions: none. -/
import Derived.Test.YtaglpampidlbmaaStr
import Derived.Test.YtaglpampidlbmaaList
namespace Go.Eng
open Go Go.RowKit
theorem run_eqNilS {P : Program} {t e : TypeId} {A : Option Addr} {k c : Nat} (hU : P.underlying t = some (.slice e)) (w : World) : (Op.equal t (.slice A k c) (.slice none 0 0)).run P w = .ok A.isNone w := by
  unfold Op.equal Op.maxDepth
  rw [show (10000 : Nat) = 9999 + 1 from rfl]
  unfold Op.equalIn
  cases A <;> simp [run_underlying hU]
namespace Y
variable {P : Program} {o : Oper} {n : Nat} {E : Env} {C : World → Prop} {x : Operand} {t : TypeId}
theorem eqlNilS {t' e : TypeId} {A : Option Addr} {k c : Nat} (ho : o.op = .binOp .eql t x (.const (.slice none 0 0)) t') (hU : P.underlying t = some (.slice e)) (hx : ev E x = some (.slice A k c)) : Yld P o n E C (.bool A.isNone) := by
  intro a w hA _
  have hg : (eqGuard .eql t x (.const (.slice none 0 0)) (.slice A k c) (.slice none 0 0)).run P w = .ok () w := by
    simp [eqGuard]
  have hb : binOp .eql t (.slice A k c) (.slice none 0 0) = (do pure (.bool ((← Op.equal t (.slice A k c) (.slice none 0 0))))) := rfl
  have hc : a.eval (.const (.slice none 0 0)) = .slice none 0 0 := rfl
  simp only [execOp, ho, hA.ev hx, hc, Sem.run_bind, hg, hb, run_eqNilS hU, Result.andThen_ok, Sem.run_pure]
end Y
theorem none_nil {α : Type} {w : World} {n c sz : Nat} {f : α → List Value} {l : List α} (h : Ls w none n c f sz l) : l = [] := by
  cases l with
  | nil => rfl
  | cons x r =>
    have := h.isSome (k := 0) (by have := h.len; simp at this; omega)
    cases this
end Go.Eng
