/- From a law's parameter that is a slice of flat elements to the list that it holds. Over any program. Conditions: none. -/
import Derived.Test.YtaglpampidlbmaaRow
import Derived.Test.YtaglpampidlbmaaList
namespace Go.Eng
open Go Go.RowKit Go.WideShapes Go.ChangeShapes Go.WideElems Go.Deep
section
variable {H : Type} {enc : TypeId × Value → H} {P : Program} {w : World} {base : Nat} {spare : Nat → Bool} {held : Bool}
theorem open_list {α : Type} [Inhabited α] {f : α → List Value} {Wf : α → Prop} {sz : Nat} {t e : TypeId} {ks : List FK} {m : Nat} {r : Reach} {b0 : Nat} {v : Value} {d : DataW H} {p : List MemPlace} (hU : P.underlying t = some (.slice e)) (hk : flatK P m e = some ks) (hc : P.cellsOf e = sz) (hp : 0 < sz)
    (hf : ∀ cs, okAll ks cs → ∃ x, cs = f x ∧ Wf x) (hlen : ∀ x, (f x).length = sz) (hv : Value.okWide P w r b0 t v) (h : DataW.Trod enc P w base spare held t v d p) :
    ∃ A n cap, ∃ l : List α, v = .slice A n cap ∧ Ls w A n cap f sz l ∧ ∀ x ∈ l, Wf x := by
  obtain ⟨A, n, cap, rfl⟩ := okWide_slice hU hv
  obtain ⟨fuel, hx⟩ := h
  subst hc
  rcases open_slice hU hx with ⟨hcs, _⟩ | ⟨a, len, cap', mm, nn, D, Pl, hcs, hb, hl, hm, hmm, _, hel⟩
  · simp [Value.cells] at hcs
    obtain ⟨rfl, rfl, rfl⟩ := hcs
    exact ⟨none, 0, 0, [], rfl, Ls.nil (Nat.zero_le _), by simp⟩
  · simp [Value.cells] at hcs
    obtain ⟨rfl, rfl, rfl⟩ := hcs
    have hle : n ≤ mm := by rw [hmm]; split <;> omega
    obtain ⟨g, hg⟩ := choose_lt (α := α) (n := n) (p := fun i x => w.cells? base (a.add (i * P.cellsOf e)) (P.cellsOf e) = some (f x) ∧ Wf x) (fun i hi => by
      obtain ⟨cs', h1, h2⟩ := hel i (by omega)
      obtain ⟨x, rfl, hw⟩ := hf cs' (flat_ok m hk h2)
      exact ⟨x, h1, hw⟩)
    refine ⟨some a, n, cap, (List.range n).map g, rfl, ⟨by simp, hl, hm, ?_⟩, ?_⟩
    · intro i x hix
      have hi : i < n := by
        have := (List.getElem?_eq_some_iff.1 hix).1
        simpa using this
      have hxg : x = g i := by
        rw [List.getElem?_map, List.getElem?_range hi] at hix
        simpa using hix.symm
      subst hxg
      obtain ⟨_, _, hcell⟩ := World.cells?_some (hg i hi).1
      have hone : ∀ j u, (f (g i))[j]? = some u → w.cell? (a.add (i * P.cellsOf e + j)) = some u := fun j u hu => by
        have hj : j < P.cellsOf e := by
          have := (List.getElem?_eq_some_iff.1 hu).1
          rwa [hlen] at this
        rw [← add_assoc_addr, hcell j hj]; exact hu
      refine ⟨a, rfl, Nat.zero_le _, ?_, hone⟩
      have h0 := hone 0 _ (List.getElem?_eq_getElem (by rw [hlen]; exact hp))
      have := cell_lt h0
      rwa [block_add] at this
    · intro x hx
      obtain ⟨i, hi, rfl⟩ := List.mem_map.1 hx
      exact (hg i (by simpa using hi)).2
end
end Go.Eng
