/- From a law's parameters to the samples that they hold. Conditions: none. -/
import Derived.Test.YtghfncgciaiofaaDoorSyRow
import Derived.Test.YtghfncgciaiofaaDoorSyPs
namespace Go.Proofs.YtghfncgciaiofaaDoor
open Go Go.Eng Go.RowKit Go.WideShapes Go.ChangeShapes Go.WideElems Go.Deep
section
variable {H : Type} {enc : TypeId × Value → H} {w : World} {base : Nat} {spare : Nat → Bool} {held : Bool}
theorem sc_of : ∀ cs, okAll [.str] cs → ∃ x, cs = Sy.sc x ∧ True := fun cs h => by
  obtain ⟨v0, rfl, ⟨a, rfl, _⟩⟩ := okAll_1 h
  exact ⟨a, rfl, trivial⟩
theorem P_opens : Opens H enc Tryd.prog w base spare held 48 Sy.P.v (fun m => Ls w m.A m.n m.c Sy.sc 1 m.l) := by
  intro fuel cs x hx
  obtain ⟨hl, fu, x0, x1, x2, x3, g0, g1, g2, g3⟩ := open_four Tryd.underlying48 rfl rfl rfl rfl (by kernel_rfl) ⟨rfl, rfl, rfl, rfl⟩ ⟨by kernel_rfl, by kernel_rfl, by kernel_rfl, by kernel_rfl⟩ hx
  obtain ⟨a, e0, _⟩ := int_cell (k := .i64) (n := 6) (by kernel_rfl) g0
  obtain ⟨b, e1, _⟩ := int_cell (k := .i64) (n := 6) (by kernel_rfl) g1
  obtain ⟨s, e2, _⟩ := int_cell (k := .i64) (n := 6) (by kernel_rfl) g2
  obtain ⟨A, n, c, l, e3, hL, -⟩ := open_listG (sz := 1) Tryd.underlying46 (by kernel_rfl) (by decide) (opens_flat (ks := [.str]) (m := 6) (by kernel_rfl) sc_of) (fun _ => rfl) g3
  exact ⟨⟨a, b, s, A, n, c, l⟩, four_cells hl e0 e1 e2 e3, hL⟩
end
end Go.Proofs.YtghfncgciaiofaaDoor
