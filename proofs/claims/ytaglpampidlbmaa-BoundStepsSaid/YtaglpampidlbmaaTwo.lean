/- What a call leaves alone that changes one box and the row that the box holds. Over any program. Conditions: none. -/
import Derived.Test.YtaglpampidlbmaaList
namespace Go.Eng
open Go Go.RowKit
/-- All but the box g and the row u is left as it was. -/
structure Two (g : Nat) (u : Value) (w w' : World) : Prop where
  os : w'.os = w.os
  tape : w'.tape = w.tape
  output : w'.output = w.output
  size : w.heap.size ≤ w'.heap.size
  block : ∀ k, k < w.heap.size → k ≠ g → u.ownBlock ≠ some k → w'.heap[k]? = w.heap[k]?
  dr : Dle w.drawn w'.drawn
/-- The row v is the row u, grown, or one made since. -/
def NB (w : World) (u v : Value) : Prop := ∀ k, v.ownBlock = some k → u.ownBlock = some k ∨ w.heap.size ≤ k
section
variable {g b : Nat} {u v v' : Value} {a w w' W : World} {α : Type} {f : α → List Value} {sz base e : Nat} {l : List α} {t : TypeId} {cs : List Value}
theorem NB.refl : NB w u u := fun _ h => .inl h
theorem NB.trans (h : NB w u v) (h' : NB W v v') (hs : w.heap.size ≤ W.heap.size) : NB w u v' := fun k hk => by
  rcases h' k hk with h1 | h1
  · exact h k h1
  · exact .inr (by omega)
theorem NB.app (h : NB w u v) (nb : v'.ownBlock = v.ownBlock ∨ v'.ownBlock = some W.heap.size) (hs : w.heap.size ≤ W.heap.size) : NB w u v' := fun k hk => by
  rcases nb with nb | nb
  · exact h k (by rw [← nb]; exact hk)
  · rw [nb] at hk; injection hk with hk; exact .inr (by omega)
theorem Two.refl : Two g u w w := ⟨rfl, rfl, rfl, Nat.le_refl _, fun _ _ _ _ => rfl, Dle.of (Nat.le_refl _)⟩
theorem Two.ext (h : Two g u w W) (x : Ext W w') : Two g u w w' := ⟨x.os.trans h.os, x.tape.trans h.tape, x.output.trans h.output, Nat.le_trans h.size x.size, fun k hk h1 h2 => (x.block k (Nat.lt_of_lt_of_le hk h.size)).trans (h.block k hk h1 h2), Dle.trans h.dr x.dr⟩
theorem Two.only (h : Two g u w W) (x : Only b W w') (hb : b = g ∨ w.heap.size ≤ b) : Two g u w w' :=
  ⟨x.os.trans h.os, x.tape.trans h.tape, x.output.trans h.output, by rw [x.size]; exact h.size, fun k hk h1 h2 => (x.block k (by rcases hb with rfl | hb; exact h1; omega)).trans (h.block k hk h1 h2), Dle.trans h.dr x.dr⟩
theorem Two.grown (h : Two g u w W) (x : Gr W w' v.ownBlock) (nb : NB w u v) : Two g u w w' :=
  ⟨x.os.trans h.os, x.tape.trans h.tape, x.output.trans h.output, Nat.le_trans h.size x.size, fun k hk h1 h2 => (x.block k (Nat.lt_of_lt_of_le hk h.size) (fun e => by rcases nb k e.symm with q | q; exact h2 q; omega)).trans (h.block k hk h1 h2), Dle.trans h.dr x.dr⟩
theorem Two.trans (h : Two g u w W) (x : Two g v W w') (nb : NB w u v) : Two g u w w' :=
  ⟨x.os.trans h.os, x.tape.trans h.tape, x.output.trans h.output, Nat.le_trans h.size x.size, fun k hk h1 h2 => (x.block k (Nat.lt_of_lt_of_le hk h.size) h1 (fun e => by rcases nb k e with q | q; exact h2 q; omega)).trans (h.block k hk h1 h2), Dle.trans h.dr x.dr⟩
theorem Ext.two (h : Ext a w) (x : Two g u w w') (hg : a.heap.size ≤ g) (hu : ∀ k, u.ownBlock = some k → a.heap.size ≤ k) : Ext a w' :=
  ⟨⟨x.os.trans h.os, x.tape.trans h.tape, x.output.trans h.output, Nat.le_trans h.size x.size, fun k hk => (x.block k (Nat.lt_of_lt_of_le hk h.size) (by omega) (fun e => by have := hu k e; omega)).trans (h.block k hk)⟩, Dle.trans h.dr x.dr⟩
theorem Blk.two (h : Blk w b t cs) (x : Two g u w w') (hb : b ≠ g) (hu : u.ownBlock ≠ some b) : Blk w' b t cs := (x.block b h.lt hb hu).trans h
theorem OwnL.two (h : OwnL w base e f sz v l) (x : Two g u w w') (hg : v.ownBlock ≠ some g) (hu : Apart v u) : OwnL w' base e f sz v l :=
  h.move fun k hk => x.block k (h.lt hk).2 (fun e => hg (by rw [hk, e])) (hu k hk)
theorem ne_two (h : NB w u v) (hu : u.ownBlock ≠ some b) (m : Blk w b t cs) : v.ownBlock ≠ some b := fun e => by
  rcases h b e with q | q
  · exact hu q
  · have := m.lt; omega
theorem Apart.two (h : NB w u v) (ha : Apart u v') (ow : OwnL w base e f sz v' l) : Apart v v' := fun k h1 h2 => by
  rcases h k h1 with q | q
  · exact ha k q h2
  · have := (ow.lt h2).2; omega
end
end Go.Eng
