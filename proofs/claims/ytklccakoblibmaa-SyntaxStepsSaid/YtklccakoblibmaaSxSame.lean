/- Sameness in plain terms. Conditions: none. -/
import Derived.Test.YtklccakoblibmaaSxQry
namespace Go.Proofs.Ytklccakoblibmaa
open Go Go.Eng
set_option linter.unusedSimpArgs false
namespace Sx
def alB {α : Type} [Inhabited α] (p : α → α → Bool) (a b : List α) : Bool := decide (a.length = b.length) && (List.range a.length).all fun i => p a[i]! b[i]!
section
variable {α : Type} [Inhabited α] {p : α → α → Bool} {a b : List α}
theorem al_len (h : a.length ≠ b.length) : alB p a b = false := by unfold alB; rw [decide_eq_false h]; rfl
theorem al_hit {i : Nat} (hi : i < a.length) (h : p a[i]! b[i]! = false) : alB p a b = false := by
  unfold alB
  rw [Bool.and_eq_false_iff]
  right
  rw [List.all_eq_false]
  exact ⟨i, List.mem_range.2 hi, by rw [h]; simp⟩
theorem al_ok (h : a.length = b.length) (hb : ∀ j, j < a.length → p a[j]! b[j]! = true) : alB p a b = true := by
  unfold alB
  rw [decide_eq_true h, Bool.true_and, List.all_eq_true]
  exact fun j hj => hb j (List.mem_range.1 hj)
end
theorem al_cons {α : Type} [Inhabited α] {p : α → α → Bool} {x y : α} {a b : List α} : alB p (x :: a) (y :: b) = (p x y && alB p a b) := by
  unfold alB
  rw [List.length_cons, List.length_cons, List.range_succ_eq_map, List.all_cons, List.all_map]
  have e : decide (a.length + 1 = b.length + 1) = decide (a.length = b.length) := by
    by_cases h : a.length = b.length
    · rw [decide_eq_true h, decide_eq_true (by omega)]
    · rw [decide_eq_false h, decide_eq_false (by omega)]
  rw [e]
  show (_ && (p x y && _)) = _
  rw [← Bool.and_assoc, ← Bool.and_assoc, Bool.and_comm (decide _) (p x y)]
  rfl
theorem sameL_al : ∀ a b : List E, sameL a b = alB same a b
  | [], [] => by rw [sameL]; rfl
  | [], _ :: _ => by
    rw [sameL, al_len (by simp)]
    · simp
    · simp
  | _ :: _, [] => by
    rw [sameL, al_len (by simp)]
    · simp
    · simp
  | x :: a, y :: b => by rw [sameL, al_cons, sameL_al a b]
def agS (x y : Ag) : Bool := (x.fn == y.fn) && (x.col == y.col) && (x.as_ == y.as_)
def soS (x y : So) : Bool := (x.col == y.col) && (x.d == y.d)
def beS (x y : ByteArray) : Bool := x == y
def itS (x y : It) : Bool := (x.as_ == y.as_) && same x.e y.e
def stS (a b : St) : Bool := ((((((a.op == b.op) && (a.N == b.N)) && (a.tb == b.tb)) && same a.cd b.cd) && alB itS a.il b.il) && alB beS a.cl b.cl) && alB agS a.al b.al && alB soS a.sl b.sl
def qS (a b : Q) : Bool := (a.fr == b.fr) && alB stS a.l b.l
theorem same_no {x y : E} (h : ((((!(x.op == y.op) || !(x.nm == y.nm)) || !(((x.vk == y.vk) && (x.vn == y.vn)) && (x.vs == y.vs))) || !((x.n : Int) == (y.n : Int)))) = true) (hx : x.kids.length = x.n) (hy : y.kids.length = y.n) : same x y = false := by
  rw [same_eq, sameL_al]
  simp only [Bool.or_eq_true, Bool.not_eq_true'] at h
  rcases h with ((h | h) | h) | h
  · rw [h]; rfl
  · rw [h, Bool.and_false]; rfl
  · rw [h, Bool.and_false]; rfl
  · rw [al_len (by rw [hx, hy]; simp only [beq_eq_false_iff_ne, ne_eq] at h; omega), Bool.and_false]
theorem same_yes {x y : E} (h : ((((!(x.op == y.op) || !(x.nm == y.nm)) || !(((x.vk == y.vk) && (x.vn == y.vn)) && (x.vs == y.vs))) || !((x.n : Int) == (y.n : Int)))) = false) (hx : x.kids.length = x.n) (hy : y.kids.length = y.n) : x.n = y.n ∧ same x y = alB same x.kids y.kids := by
  rw [same_eq, sameL_al]
  simp only [Bool.or_eq_false_iff, Bool.not_eq_false'] at h
  obtain ⟨⟨⟨h1, h2⟩, h3⟩, h4⟩ := h
  refine ⟨by simp only [beq_iff_eq] at h4; omega, ?_⟩
  rw [h1, h2, h3]; rfl
theorem bl1 : ∀ o n t c i l g s : Bool, ((((!o || !c) || !l) || !n) || !t) = true → (((((((o && n) && t) && c) && i) && l) && g) && s) = false := by decide
theorem bl2 : ∀ o n t c i l g s : Bool, ((((!o || !c) || !l) || !n) || !t) = false → (((((((o && n) && t) && c) && i) && l) && g) && s) = ((i && g) && s) := by decide
theorem st_no1 {x y : St} (h : ((((!(x.op == y.op) || !same x.cd y.cd) || !alB beS x.cl y.cl) || !(x.N == y.N)) || !(x.tb == y.tb)) = true) : stS x y = false := bl1 _ _ _ _ _ _ _ _ h
theorem st_yes {x y : St} (h : ((((!(x.op == y.op) || !same x.cd y.cd) || !alB beS x.cl y.cl) || !(x.N == y.N)) || !(x.tb == y.tb)) = false) : stS x y = ((alB itS x.il y.il && alB agS x.al y.al) && alB soS x.sl y.sl) := bl2 _ _ _ _ _ _ _ _ h
theorem st_1 {a b c : Bool} (h : a = false) : ((a && b) && c) = false := by rw [h]; rfl
theorem st_2 {a b c : Bool} (h : b = false) : ((a && b) && c) = false := by rw [h, Bool.and_false]; rfl
theorem st_3 {a b c : Bool} (h : c = false) : ((a && b) && c) = false := by rw [h, Bool.and_false]
theorem st_t {a b c : Bool} (h : a = true) (h2 : b = true) (h3 : c = true) : ((a && b) && c) = true := by rw [h, h2, h3]; rfl
theorem it_yes {x y : It} (h : (!(x.as_ == y.as_) || !same x.e y.e) = false) : itS x y = true := by
  unfold itS
  simp only [Bool.or_eq_false_iff, Bool.not_eq_false'] at h
  rw [h.1, h.2]; rfl
theorem it_no {x y : It} (h : (!(x.as_ == y.as_) || !same x.e y.e) = true) : itS x y = false := by
  unfold itS
  simp only [Bool.or_eq_true, Bool.not_eq_true'] at h
  rcases h with h | h
  · rw [h]; rfl
  · rw [h, Bool.and_false]
theorem q_no {x y : Q} (h : (!(x.fr == y.fr) || !((x.n : Int) == (y.n : Int))) = true) (hx : x.l.length = x.n) (hy : y.l.length = y.n) : qS x y = false := by
  unfold qS
  simp only [Bool.or_eq_true, Bool.not_eq_true'] at h
  rcases h with h | h
  · rw [h]; rfl
  · rw [al_len (by rw [hx, hy]; simp only [beq_eq_false_iff_ne, ne_eq] at h; omega), Bool.and_false]
theorem q_yes {x y : Q} (h : (!(x.fr == y.fr) || !((x.n : Int) == (y.n : Int))) = false) : x.n = y.n ∧ qS x y = alB stS x.l y.l := by
  simp only [Bool.or_eq_false_iff, Bool.not_eq_false'] at h
  refine ⟨by have := h.2; simp only [beq_iff_eq] at this; omega, ?_⟩
  unfold qS
  rw [h.1]; rfl
end Sx
end Go.Proofs.Ytklccakoblibmaa
