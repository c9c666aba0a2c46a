/- From a law's parameters to the modules and samples that they hold; the variables that the rows list. Conditions: none. -/
import Derived.Test.YtghfncgciaiofaaDoorRowN
import Derived.Test.YtghfncgciaiofaaDoorSySpec
import Derived.Test.YtghfncgciaiofaaDoorRows
import Derived.LaidMore
import Derived.OpenShut
import Derived.Stop.Joined
import Derived.Lib.LaidTab
import Derived.ProofKit
namespace Go.Proofs.YtghfncgciaiofaaDoor
open Go Go.Eng Go.RowKit Go.WideShapes Go.ChangeShapes Go.WideElems Go.Deep
section
variable {H : Type} {enc : TypeId × Value → H} {w : World} {base : Nat} {spare : Nat → Bool} {held : Bool}
/-- A parameter that is a list. -/
theorem open_listO {P : Program} {α : Type} [Inhabited α] {f : α → List Value} {Wf : α → Prop} {sz : Nat} {t e : TypeId} {r : Reach} {b0 : Nat} {v : Value} {d : DataW H} {p : List MemPlace} (hU : P.underlying t = some (.slice e)) (hc : P.cellsOf e = sz) (hp : 0 < sz)
    (hf : Opens H enc P w base spare held e f Wf) (hlen : ∀ x, (f x).length = sz) (hv : Value.okWide P w r b0 t v) (h : DataW.Trod enc P w base spare held t v d p) :
    ∃ A n cap, ∃ l : List α, v = .slice A n cap ∧ Ls w A n cap f sz l ∧ ∀ x ∈ l, Wf x := by
  obtain ⟨A, n, cap, rfl⟩ := okWide_slice hU hv
  obtain ⟨fuel, hx⟩ := h
  obtain ⟨A', n', c', l, e, h1, h2⟩ := open_listG hU hc hp hf hlen hx
  simp [Value.cells] at e
  obtain ⟨rfl, rfl, rfl⟩ := e
  exact ⟨A, n, cap, l, rfl, h1, h2⟩
theorem four_cells {cs : List Value} {u v x y : Value} (hl : cs.length = 4) (h0 : (cs.drop 0).take 1 = [u]) (h1 : (cs.drop 1).take 1 = [v]) (h2 : (cs.drop 2).take 1 = [x]) (h3 : (cs.drop 3).take 1 = [y]) : cs = [u, v, x, y] := by
  match cs, hl with
  | [a, b, c, d], _ => simp at h0 h1 h2 h3; rw [h0, h1, h2, h3]
/-- A struct of four one-cell fields. -/
theorem open_four {P : Program} {t : TypeId} {fs : Array Field} {f0 f1 f2 f3 : Field} {fuel : Nat} {cs : List Value} {x : DataW H × List MemPlace} (hU : P.underlying t = some (.struct fs)) (h0 : fs[0]? = some f0) (h1 : fs[1]? = some f1) (h2 : fs[2]? = some f2) (h3 : fs[3]? = some f3)
    (ct : P.cellsOf t = 4) (o : f0.offset = 0 ∧ f1.offset = 1 ∧ f2.offset = 2 ∧ f3.offset = 3) (c0 : P.cellsOf f0.type = 1 ∧ P.cellsOf f1.type = 1 ∧ P.cellsOf f2.type = 1 ∧ P.cellsOf f3.type = 1)
    (hx : DataW.trod enc P w base spare held fuel t cs = some x) :
    cs.length = 4 ∧ ∃ fuel' x0 x1 x2 x3, DataW.trod enc P w base spare held fuel' f0.type ((cs.drop 0).take 1) = some x0 ∧ DataW.trod enc P w base spare held fuel' f1.type ((cs.drop 1).take 1) = some x1 ∧ DataW.trod enc P w base spare held fuel' f2.type ((cs.drop 2).take 1) = some x2 ∧ DataW.trod enc P w base spare held fuel' f3.type ((cs.drop 3).take 1) = some x3 := by
  obtain ⟨xs, m, _, _, hl, hxl, hg⟩ := DataW.trod_struct hU hx
  have s0 : 0 < fs.size := (Array.getElem?_eq_some_iff.1 h0).1
  have s1 : 1 < fs.size := (Array.getElem?_eq_some_iff.1 h1).1
  have s2 : 2 < fs.size := (Array.getElem?_eq_some_iff.1 h2).1
  have s3 : 3 < fs.size := (Array.getElem?_eq_some_iff.1 h3).1
  have g0 := hg 0 f0 h0
  have g1 := hg 1 f1 h1
  have g2 := hg 2 f2 h2
  have g3 := hg 3 f3 h3
  rw [List.getElem?_eq_getElem (by omega)] at g0 g1 g2 g3
  rw [o.1, c0.1] at g0
  rw [o.2.1, c0.2.1] at g1
  rw [o.2.2.1, c0.2.2.1] at g2
  rw [o.2.2.2, c0.2.2.2] at g3
  exact ⟨by rw [hl, ct], _, _, _, _, _, g0, g1, g2, g3⟩
theorem int_cell {P : Program} {k : IntKind} {t : TypeId} {n : Nat} {fuel : Nat} {cs : List Value} {x : DataW H × List MemPlace} (hk : flatK P n t = some [.int k]) (hx : DataW.trod enc P w base spare held fuel t cs = some x) : ∃ a, cs = [.int k a] ∧ (Lit.int k a).wf = true := by
  obtain ⟨v, rfl, a, rfl, h⟩ := okAll_1 (flat_ok n hk hx)
  exact ⟨a, rfl, h⟩
theorem str_cell {P : Program} {t : TypeId} {n : Nat} {fuel : Nat} {cs : List Value} {x : DataW H × List MemPlace} (hk : flatK P n t = some [.str]) (hx : DataW.trod enc P w base spare held fuel t cs = some x) : ∃ a, cs = [.string a] := by
  obtain ⟨v, rfl, a, rfl, h⟩ := okAll_1 (flat_ok n hk hx)
  exact ⟨a, rfl⟩
theorem S_of : ∀ cs, okAll [.int .i64, .str] cs → ∃ x, cs = Sy.S.c x ∧ True := fun cs h => by
  obtain ⟨v0, v1, rfl, ⟨a, rfl, _⟩, ⟨b, rfl, _⟩⟩ := okAll_2 h
  exact ⟨⟨a, b⟩, rfl, trivial⟩
theorem M_opens : Opens H enc Tryd.prog w base spare held 34 Sy.M.v (fun m => Ls w m.A m.n m.c Sy.S.c 2 m.l) := by
  intro fuel cs x hx
  obtain ⟨hl, fu, x0, x1, x2, x3, g0, g1, g2, g3⟩ := open_four Tryd.underlying34 rfl rfl rfl rfl (by kernel_rfl) ⟨rfl, rfl, rfl, rfl⟩ ⟨by kernel_rfl, by kernel_rfl, by kernel_rfl, by kernel_rfl⟩ hx
  obtain ⟨nm, e0⟩ := str_cell (n := 6) (by kernel_rfl) g0
  obtain ⟨b, e1, _⟩ := int_cell (k := .i64) (n := 6) (by kernel_rfl) g1
  obtain ⟨s, e2, _⟩ := int_cell (k := .i64) (n := 6) (by kernel_rfl) g2
  obtain ⟨A, n, c, l, e3, hL, -⟩ := open_listG (sz := 2) Tryd.underlying32 (by kernel_rfl) (by decide) (opens_flat (ks := [.int .i64, .str]) (m := 6) (by kernel_rfl) S_of) (fun _ => rfl) g3
  exact ⟨⟨nm, b, s, A, n, c, l⟩, four_cells hl e0 e1 e2 e3, hL⟩
end
namespace Laid
def laidL : List (String × DataW Unit) := Rows.symbolFindsRow.laid
theorem tabs {W : World} (h : laidMetH Tryd.prog laidL W) : True := trivial
/-- The door's own heap meets the condition. -/
theorem door_met (os : Os) (args : Array Value) : laidMetH Tryd.prog laidL ((World.doorLaid Tryd.prog 400 os).forCall (fun _ _ => 0) ⟨#[], args, []⟩).memory :=
  laidMetH_of_parts3 (fuel := 8) (laidMet_of_run' 8 (by kernel_rfl) (by kernel_rfl)) (by kernel_rfl) (by kernel_rfl)
end Laid
end Go.Proofs.YtghfncgciaiofaaDoor
