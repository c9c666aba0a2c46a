/- Samples with their frames named, as they are made. Conditions: none. -/
import Derived.Test.YtghfncgciaiofaaDoorSyPs
namespace Go.Proofs.YtghfncgciaiofaaDoor
open Go Go.Eng
namespace Sy
def sA : Value → Option Addr
  | .slice A _ _ => A
  | _ => none
def sN : Value → Nat
  | .slice _ n _ => n
  | _ => 0
def sC : Value → Nat
  | .slice _ _ c => c
  | _ => 0
/-- The sample x with the stack u, which holds c. -/
def mkP (x : P) (u : Value) (c : List ByteArray) : P := ⟨x.th, x.at_, x.wt, sA u, sN u, sC u, c⟩
def Fin (b : List P) (i : Nat) (w : World) : Prop := ∀ j, j < i → Ls w b[j]!.A b[j]!.n b[j]!.c sc 1 b[j]!.l
theorem fin_zero (b : List P) (w : World) : Fin b 0 w := fun j hj => absurd hj (Nat.not_lt_zero j)
theorem bang_app {b : List P} {x : P} {j : Nat} (h : j < b.length) : (b ++ [x])[j]! = b[j]! := by
  rw [getElem!_pos _ j (by simp; omega), getElem!_pos _ j h, List.getElem_append_left h]
theorem bang_last {b : List P} {x : P} : (b ++ [x])[b.length]! = x := by
  rw [getElem!_pos _ _ (by simp), List.getElem_append_right (Nat.le_refl _)]; simp
theorem bang_set {b : List P} {x : P} {i j : Nat} (h : j ≠ i) : (b.set i x)[j]! = b[j]! := by
  rw [List.getElem!_eq_getElem?_getD, List.getElem!_eq_getElem?_getD, List.getElem?_set_ne (Ne.symm h)]
theorem bang_set_self {b : List P} {x : P} {i : Nat} (h : i < b.length) : (b.set i x)[i]! = x := by
  rw [List.getElem!_eq_getElem?_getD, List.getElem?_set_self h]; rfl
theorem fin_app {b : List P} {x : P} {i : Nat} {w : World} (hb : b.length = i) (h : Fin b i w) (hx : Ls w x.A x.n x.c sc 1 x.l) : Fin (b ++ [x]) (i + 1) w := by
  intro j hj
  rcases Nat.lt_succ_iff_lt_or_eq.1 hj with h1 | rfl
  · rw [bang_app (by omega)]; exact h j h1
  · subst hb; rw [bang_last]; exact hx
theorem fin_set {b : List P} {x : P} {i : Nat} {w : World} (hb : i < b.length) (h : Fin b i w) (hx : Ls w x.A x.n x.c sc 1 x.l) : Fin (b.set i x) (i + 1) w := by
  intro j hj
  rcases Nat.lt_succ_iff_lt_or_eq.1 hj with h1 | rfl
  · rw [bang_set (by omega)]; exact h j h1
  · rw [bang_set_self hb]; exact hx
theorem fin_good {b : List P} {w : World} (h : Fin b b.length w) : GoodP w b := by
  intro x hx
  obtain ⟨j, hj, rfl⟩ := List.mem_iff_getElem.1 hx
  have := h j hj
  rwa [getElem!_pos b j hj] at this
theorem cur_step {l : List M} {t : List ByteArray} {k : Nat} (h : k < t.length) : (t.take (k + 1)).map (frm l) = (t.take k).map (frm l) ++ [frm l t[k]!] := by
  rw [List.take_add_one, List.getElem?_eq_getElem h, getElem!_pos t k h, List.map_append]; rfl
theorem cur_all {l : List M} {t : List ByteArray} {k : Nat} (h : t.length ≤ k) : (t.take k).map (frm l) = t.map (frm l) := by rw [List.take_of_length_le h]
theorem res_app {l : List M} {s b : List P} {i : Nat} {u : Value} {c : List ByteArray} (h : b.map P.key = (s.take i).map (out l)) (hi : i < s.length) (hc : c = s[i]!.l.map (frm l)) : (b ++ [mkP s[i]! u c]).map P.key = (s.take (i + 1)).map (out l) := by
  rw [List.take_add_one, List.getElem?_eq_getElem hi, List.map_append, List.map_append, h, hc, getElem!_pos s i hi]; rfl
theorem res_len {l : List M} {s b : List P} {i : Nat} (h : b.map P.key = (s.take i).map (out l)) (hi : i ≤ s.length) : b.length = i := by
  have := congrArg List.length h
  simp at this; omega
/-- The first i of the samples b have their frames named. -/
def Mid (l : List M) (s b : List P) (i : Nat) : Prop := b.length = s.length ∧ ∀ j, j < s.length → b[j]!.th = s[j]!.th ∧ b[j]!.at_ = s[j]!.at_ ∧ b[j]!.wt = s[j]!.wt ∧ (j < i → b[j]!.l = s[j]!.l.map (frm l))
theorem mid_zero (l : List M) (s : List P) : Mid l s s 0 := ⟨rfl, fun j _ => ⟨rfl, rfl, rfl, fun h => absurd h (Nat.not_lt_zero j)⟩⟩
theorem mid_step {l : List M} {s b : List P} {i : Nat} {u : Value} {c : List ByteArray} (h : Mid l s b i) (hi : i < s.length) (hc : c = s[i]!.l.map (frm l)) : Mid l s (b.set i (mkP b[i]! u c)) (i + 1) := by
  refine ⟨by rw [List.length_set]; exact h.1, fun j hj => ?_⟩
  have h0 := h.1
  by_cases e : j = i
  · subst e
    rw [bang_set_self (by omega)]
    have := h.2 j hj
    exact ⟨this.1, this.2.1, this.2.2.1, fun _ => hc⟩
  · rw [bang_set e]
    have := h.2 j hj
    exact ⟨this.1, this.2.1, this.2.2.1, fun hh => this.2.2.2 (by omega)⟩
theorem mid_end {l : List M} {s b : List P} {i : Nat} (h : Mid l s b i) (hi : s.length ≤ i) : b.map P.key = s.map (out l) := by
  apply List.ext_getElem
  · simp [h.1]
  · intro j h1 h2
    have hb : j < b.length := by simpa using h1
    have hs : j < s.length := by simpa using h2
    have := h.2 j hs
    rw [getElem!_pos b j hb, getElem!_pos s j hs] at this
    simp only [List.getElem_map, P.key, out, this.1, this.2.1, this.2.2.1, this.2.2.2 (by omega)]
theorem set_set {b : List P} {i : Nat} {u u' : Value} {c c' : List ByteArray} (h : i < b.length) : (b.set i (mkP b[i]! u c)).set i (mkP (b.set i (mkP b[i]! u c))[i]! u' c') = b.set i (mkP b[i]! u' c') := by
  rw [List.set_set, bang_set_self h]; rfl
theorem stk_val {b : List P} {i : Nat} {A : Option Addr} {n c : Nat} {q : List ByteArray} (h : i < b.length) : Value.slice (b.set i (mkP b[i]! (.slice A n c) q))[i]!.A (b.set i (mkP b[i]! (.slice A n c) q))[i]!.n (b.set i (mkP b[i]! (.slice A n c) q))[i]!.c = .slice A n c := by
  rw [bang_set_self h]; rfl
end Sy
end Go.Proofs.YtghfncgciaiofaaDoor
