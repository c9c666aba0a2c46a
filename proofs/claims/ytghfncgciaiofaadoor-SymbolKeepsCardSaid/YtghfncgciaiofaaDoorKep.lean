/- What hangs on blocks that are left alone. Over any program. Conditions: none. -/
import Derived.Test.YtghfncgciaiofaaDoorList
namespace Go.Eng
open Go Go.RowKit
/-- φ holds, and goes on to hold as long as the blocks B stay. -/
def Kep (w : World) (B : List Nat) (φ : World → Prop) : Prop := (∀ b ∈ B, b < w.heap.size) ∧ ∀ w' : World, w.heap.size ≤ w'.heap.size → (∀ b ∈ B, w'.heap[b]? = w.heap[b]?) → φ w'
def Out (v : Value) (B : List Nat) : Prop := ∀ b ∈ B, v.ownBlock ≠ some b
def addB (v : Value) (B : List Nat) : List Nat := match v.ownBlock with
  | some g => g :: B
  | none => B
theorem mem_addB {v : Value} {B : List Nat} {b : Nat} : b ∈ addB v B ↔ v.ownBlock = some b ∨ b ∈ B := by
  unfold addB
  cases h : v.ownBlock with
  | none => simp
  | some g => simp; constructor
              · rintro (rfl | h); exact .inl rfl; exact .inr h
              · rintro (rfl | h); exact .inl rfl; exact .inr h
section
variable {w w' : World} {B : List Nat} {φ ψ : World → Prop} {v v' u : Value} {α : Type} {f : α → List Value} {sz base base' e : Nat} {l : List α}
theorem Kep.at_ (h : Kep w B φ) : φ w := h.2 w (Nat.le_refl _) fun _ _ => rfl
theorem Kep.nil_ (h : ∀ w, φ w) : Kep w [] φ := ⟨by simp, fun w' _ _ => h w'⟩
theorem Kep.ext (h : Kep w B φ) (x : Ext w w') : Kep w' B φ :=
  ⟨fun b hb => Nat.lt_of_lt_of_le (h.1 b hb) x.size, fun w2 hs hk => h.2 w2 (Nat.le_trans x.size hs) fun b hb => (hk b hb).trans (x.block b (h.1 b hb))⟩
theorem Kep.grown {row : Option Nat} (h : Kep w B φ) (x : Gr w w' row) (hne : ∀ b ∈ B, row ≠ some b) : Kep w' B φ :=
  ⟨fun b hb => Nat.lt_of_lt_of_le (h.1 b hb) x.size, fun w2 hs hk => h.2 w2 (Nat.le_trans x.size hs) fun b hb => (hk b hb).trans (x.block b (h.1 b hb) (fun e => hne b hb e.symm))⟩
theorem Out.nil_ {k c : Nat} : Out (.slice none k c) B := fun b _ h => by simp [Value.ownBlock] at h
theorem Out.empty : Out v [] := fun b hb => by simp at hb
theorem Out.app (h : Out v B) (k : Kep w B φ) (nb : v'.ownBlock = v.ownBlock ∨ v'.ownBlock = some w.heap.size) : Out v' B := fun b hb e => by
  rcases nb with nb | nb
  · exact h b hb (by rw [← nb]; exact e)
  · rw [nb] at e; injection e with e; have := k.1 b hb; omega
theorem Out.res (ow : OwnL w' w.heap.size e f sz v l) (k : Kep w B φ) : Out v B := fun b hb e' => by have := (ow.lt e').1; have := k.1 b hb; omega
theorem Out.add (h : Out v B) (ha : Apart v u) : Out v (addB u B) := fun b hb e' => by
  rcases mem_addB.1 hb with h1 | h1
  · exact ha b e' h1
  · exact h b h1 e'
theorem Kep.cons (h : Kep w B φ) (ow : OwnL w base e f sz u l) (hψ : ∀ w' : World, φ w' → OwnL w' base e f sz u l → ψ w') : Kep w (addB u B) ψ :=
  ⟨fun b hb => by
    rcases mem_addB.1 hb with h1 | h1
    · exact (ow.lt h1).2
    · exact h.1 b h1,
  fun w2 hs hk => hψ w2 (h.2 w2 hs fun b hb => hk b (mem_addB.2 (.inr hb))) (ow.move fun g hg => hk g (mem_addB.2 (.inl hg)))⟩
end
end Go.Eng
