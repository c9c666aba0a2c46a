/- From a law's parameter that holds lists within structs or lists to what it holds. Over any program. Conditions: none. -/
import Derived.Test.YtaglpampidlbmaaRowL
namespace Go.Eng
open Go Go.RowKit Go.WideShapes Go.ChangeShapes Go.WideElems Go.Deep
section
variable {H : Type} {enc : TypeId × Value → H} {P : Program} {w : World} {base : Nat} {spare : Nat → Bool} {held : Bool}
/-- What reads as a type is of this form. -/
def Opens (H : Type) (enc : TypeId × Value → H) (P : Program) (w : World) (base : Nat) (spare : Nat → Bool) (held : Bool) (t : TypeId) {α : Type} (f : α → List Value) (Wf : α → Prop) : Prop :=
  ∀ (fuel : Nat) (cs : List Value) (x : DataW H × List MemPlace), DataW.trod enc P w base spare held fuel t cs = some x → ∃ y, cs = f y ∧ Wf y
theorem opens_flat {α : Type} {f : α → List Value} {Wf : α → Prop} {t : TypeId} {ks : List FK} {m : Nat} (hk : flatK P m t = some ks) (hf : ∀ cs, okAll ks cs → ∃ x, cs = f x ∧ Wf x) : Opens H enc P w base spare held t f Wf :=
  fun _ _ _ hx => hf _ (flat_ok m hk hx)
theorem open_listG {α : Type} [Inhabited α] {f : α → List Value} {Wf : α → Prop} {sz : Nat} {t e : TypeId} {fuel : Nat} {cs : List Value} {x : DataW H × List MemPlace} (hU : P.underlying t = some (.slice e)) (hc : P.cellsOf e = sz) (hp : 0 < sz)
    (hf : Opens H enc P w base spare held e f Wf) (hlen : ∀ x, (f x).length = sz) (hx : DataW.trod enc P w base spare held fuel t cs = some x) :
    ∃ A n cap, ∃ l : List α, cs = [.slice A n cap] ∧ Ls w A n cap f sz l ∧ ∀ x ∈ l, Wf x := by
  subst hc
  rcases open_slice hU hx with ⟨hcs, _⟩ | ⟨a, n, cap, mm, nn, D, Pl, hcs, hb, hl, hm, hmm, _, hel⟩
  · exact ⟨none, 0, 0, [], hcs, Ls.nil (Nat.zero_le _), by simp⟩
  · have hle : n ≤ mm := by rw [hmm]; split <;> omega
    obtain ⟨g, hg⟩ := choose_lt (α := α) (n := n) (p := fun i x => w.cells? base (a.add (i * P.cellsOf e)) (P.cellsOf e) = some (f x) ∧ Wf x) (fun i hi => by
      obtain ⟨cs', h1, h2⟩ := hel i (by omega)
      obtain ⟨x, rfl, hw⟩ := hf _ _ _ h2
      exact ⟨x, h1, hw⟩)
    refine ⟨some a, n, cap, (List.range n).map g, hcs, ⟨by simp, hl, hm, ?_⟩, ?_⟩
    · intro i x hix
      have hi : i < n := by
        have := (List.getElem?_eq_some_iff.1 hix).1
        simpa using this
      have hxg : x = g i := by
        rw [List.getElem?_map, List.getElem?_range hi] at hix
        simpa using hix.symm
      subst hxg
      obtain ⟨_, _, hcell⟩ := World.cells?_some (hg i hi).1
      have hone : ∀ j u, (f (g i))[j]? = some u → w.cell? (a.add (i * P.cellsOf e + j)) = some u := fun j u hu => by
        have hj : j < P.cellsOf e := by
          have := (List.getElem?_eq_some_iff.1 hu).1
          rwa [hlen] at this
        rw [← add_assoc_addr, hcell j hj]; exact hu
      refine ⟨a, rfl, Nat.zero_le _, ?_, hone⟩
      have h0 := hone 0 _ (List.getElem?_eq_getElem (by rw [hlen]; exact hp))
      have := cell_lt h0
      rwa [block_add] at this
    · intro x hx
      obtain ⟨i, hi, rfl⟩ := List.mem_map.1 hx
      exact (hg i (by simpa using hi)).2
theorem two_cells {cs : List Value} {u v : Value} (hl : cs.length = 2) (h0 : (cs.drop 0).take 1 = [u]) (h1 : (cs.drop 1).take 1 = [v]) : cs = [u, v] := by
  match cs, hl with
  | [a, b], _ => simp at h0 h1; rw [h0, h1]
/-- A parameter that is a struct of two lists. -/
theorem open_two {α β : Type} [Inhabited α] [Inhabited β] {f : α → List Value} {Wf : α → Prop} {f' : β → List Value} {Wf' : β → Prop} {sz sz' : Nat} {t : TypeId} {fs : Array Field} {f0 f1 : Field} {e0 e1 : TypeId} {r : Reach} {b0 : Nat} {v : Value} {d : DataW H} {p : List MemPlace}
    (hU : P.underlying t = some (.struct fs)) (h0 : fs[0]? = some f0) (h1 : fs[1]? = some f1) (o0 : f0.offset = 0) (o1 : f1.offset = 1) (c0 : P.cellsOf f0.type = 1) (c1 : P.cellsOf f1.type = 1) (ct : P.cellsOf t = 2)
    (u0 : P.underlying f0.type = some (.slice e0)) (u1 : P.underlying f1.type = some (.slice e1)) (s0 : P.cellsOf e0 = sz) (s1 : P.cellsOf e1 = sz') (p0 : 0 < sz) (p1 : 0 < sz') (k0 : Opens H enc P w base spare held e0 f Wf) (k1 : Opens H enc P w base spare held e1 f' Wf') (l0 : ∀ x, (f x).length = sz) (l1 : ∀ x, (f' x).length = sz')
    (hv : Value.okWide P w r b0 t v) (h : DataW.Trod enc P w base spare held t v d p) :
    ∃ A n c A' n' c', ∃ l : List α, ∃ l' : List β, v = .agg #[.slice A n c, .slice A' n' c'] ∧ Ls w A n c f sz l ∧ Ls w A' n' c' f' sz' l' ∧ (∀ x ∈ l, Wf x) ∧ ∀ x ∈ l', Wf' x := by
  obtain ⟨cs, rfl, _⟩ := okWide_struct hU hv
  obtain ⟨fuel, hx⟩ := h
  obtain ⟨xs, m, _, _, hl, hxl, hg⟩ := DataW.trod_struct hU hx
  have hsz0 : 0 < fs.size := (Array.getElem?_eq_some_iff.1 h0).1
  have hsz1 : 1 < fs.size := (Array.getElem?_eq_some_iff.1 h1).1
  have g0 := hg 0 f0 h0
  have g1 := hg 1 f1 h1
  rw [List.getElem?_eq_getElem (by omega)] at g0 g1
  obtain ⟨A, n, c, l, e0', hL, hW⟩ := open_listG u0 s0 p0 k0 l0 g0
  obtain ⟨A', n', c', l', e1', hL', hW'⟩ := open_listG u1 s1 p1 k1 l1 g1
  rw [o0, c0] at e0'
  rw [o1, c1] at e1'
  rw [ct] at hl
  have e := two_cells hl e0' e1'
  refine ⟨A, n, c, A', n', c', l, l', ?_, hL, hL', hW, hW'⟩
  have e2 : cs.toList = [.slice A n c, .slice A' n' c'] := e
  rw [show cs = cs.toList.toArray by simp, e2]
end
end Go.Eng
