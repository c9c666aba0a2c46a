/- Lists of slices; calls of function values; a first place that is asked for. Over any program. Conditions: none. -/
import Derived.Test.YtaglpampidlbmaaStore
namespace Go.Eng
open Go Go.RowKit
/-- A slice, with the list that it holds. -/
structure Slc (α : Type) where
  A : Option Addr
  n : Nat
  c : Nat
  l : List α
instance {α : Type} : Inhabited (Slc α) := ⟨⟨none, 0, 0, []⟩⟩
def Slc.v {α : Type} (x : Slc α) : List Value := [.slice x.A x.n x.c]
theorem Slc.one {α : Type} (x : Slc α) : ∀ u ∈ x.v, u.oneCell' = true := by simp [Slc.v, Value.oneCell']
section
variable {P : Program} {n : Nat} {ops : Array Oper} {E : Env} {o : Oper} {rest : List Oper} {d : Nat} {c : Call} {x : Operand} {f : FuncId} {args fst cap : List Value} {w : World}
/-- A call of a function value. -/
theorem WL.callF {Q : Exit → Act → World → Prop} {R : Ending → World → Prop} (hd : o.dst = some d) (hn : d < n) (hg : o.guard = none) (ho : o.op = .call c) (hc : c.callee = .value x) (hx : ev E x = some (.func (.func f) fst.toArray cap.toArray)) (hf : Has P f) (ha : evs E c.args.toList = some args)
    (hk : Calls P f (fst ++ args ++ cap).toArray w R) (h : ∀ e w', R e w' → ∃ v, e = .returned v ∧ WL P n ops Q rest ((d, v) :: E) w') : WL P n ops Q (o :: rest) E w :=
  WL.callV hd hn hg ho hc hx hf ha (by simpa using hk) h
end
section
variable {α : Type}
/-- The first place at which p holds, or -1. -/
def idxF (p : α → Bool) (l : List α) : Int := if l.any p then ((l.findIdx p : Nat) : Int) else -1
theorem idxF_any (p : α → Bool) (l : List α) : decide (idxF p l ≥ 0) = l.any p := by
  unfold idxF
  cases h : l.any p with
  | true => rw [if_pos rfl]; exact decide_eq_true (by omega)
  | false => rw [if_neg Bool.false_ne_true]; exact decide_eq_false (by omega)
end
section
variable {α : Type} [Inhabited α]
theorem idxF_hit {p : α → Bool} {l : List α} {i : Nat} (hi : i < l.length) (h : p l[i]! = true) (hb : ∀ j, j < i → p l[j]! = false) : idxF p l = (i : Int) := by
  have h1 : l.any p = true := List.any_eq_true.2 ⟨_, bang_mem hi, h⟩
  have h2 : l.findIdx p = i := by
    rw [List.findIdx_eq hi]
    refine ⟨by rwa [getElem!_pos l i hi] at h, fun j hj => ?_⟩
    have := hb j hj
    rw [getElem!_pos l j (by omega)] at this
    simpa using this
  unfold idxF
  rw [if_pos h1, h2]
theorem idxF_none {p : α → Bool} {l : List α} (hb : ∀ j, j < l.length → p l[j]! = false) : idxF p l = -1 := by
  have h1 : l.any p = false := by
    rw [List.any_eq_false]
    intro x hx
    obtain ⟨j, hj, rfl⟩ := List.mem_iff_getElem.1 hx
    have := hb j hj
    rw [getElem!_pos l j hj] at this
    simpa using this
  unfold idxF
  rw [if_neg (by rw [h1]; exact Bool.false_ne_true)]
theorem flat_take {β : Type} {f : α → List β} {l : List α} {i : Nat} (h : i < l.length) : (l.take (i + 1)).flatMap f = (l.take i).flatMap f ++ f l[i]! := by
  rw [take_bang h, List.flatMap_append]; simp
/-- How many elements the first slices have. -/
def total {α : Type} (l : List (Slc α)) : Nat := (l.map fun x => x.n).sum
theorem total_take {α : Type} {l : List (Slc α)} {i : Nat} (h : i < l.length) : total (l.take (i + 1)) = total (l.take i) + l[i]!.n := by
  unfold total; rw [take_bang h, List.map_append, List.sum_append]; simp
theorem total_le {α : Type} (l : List (Slc α)) (i : Nat) : total (l.take i) ≤ total l := by
  have e : total l = total (l.take i) + total (l.drop i) := by
    unfold total
    rw [← List.sum_append, ← List.map_append, List.take_append_drop]
  omega
theorem flat_len {α : Type} {l : List (Slc α)} (h : ∀ x ∈ l, x.l.length = x.n) : (l.flatMap fun x => x.l).length = total l := by
  induction l with
  | nil => rfl
  | cons x r ih =>
    have h1 := h x List.mem_cons_self
    have h2 := ih fun y hy => h y (List.mem_cons_of_mem _ hy)
    rw [List.flatMap_cons, List.length_append, h1, h2]
    simp [total]
end
theorem cat2 {α : Type} (A B : Option Addr) (n m c d : Nat) (a b : List α) : ([⟨A, n, c, a⟩, ⟨B, m, d, b⟩] : List (Slc α)).flatMap (fun x => x.l) = a ++ b := by simp
theorem two_mem {α : Type} {P : α → Prop} {x y : α} (hx : P x) (hy : P y) : ∀ z ∈ [x, y], P z := fun z hz => by
  rcases List.mem_cons.1 hz with rfl | hz
  · exact hx
  · have := List.mem_singleton.1 hz
    subst this; exact hy
end Go.Eng
