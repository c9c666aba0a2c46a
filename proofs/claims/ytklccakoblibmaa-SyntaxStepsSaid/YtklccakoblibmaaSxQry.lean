/- Queries in plain terms. Conditions: none. -/
import Derived.Test.YtklccakoblibmaaSxEq
namespace Go.Proofs.Ytklccakoblibmaa
open Go Go.Eng
set_option linter.unusedSimpArgs false
namespace Sx
structure Q where
  fr : ByteArray
  A : Option Addr
  n : Nat
  c : Nat
  l : List St
instance : Inhabited Q := ⟨⟨⟨#[]⟩, none, 0, 0, []⟩⟩
structure GoodQ (d : Nat) (w : World) (q : Q) : Prop where
  l : Ls w q.A q.n q.c St.v 13 q.l
  s : ∀ x ∈ q.l, GoodS d w x
theorem GoodQ.ext {d : Nat} {w w' : World} {q : Q} (h : GoodQ d w q) (x : Ext w w') : GoodQ d w' q := ⟨h.l.ext x, fun y hy => (h.s y hy).ext x⟩
structure FewQ (q : Q) : Prop where
  n : q.l.length ≤ 30
  fr : q.fr.size ≤ 300
  s : ∀ x ∈ q.l, FewS x
theorem of_at {α : Type} [Inhabited α] {l : List α} {p : α → Prop} (h : ∀ j, j < l.length → p l[j]!) : ∀ x ∈ l, p x := fun x hx => by
  obtain ⟨j, hj, rfl⟩ := List.mem_iff_getElem.1 hx
  have := h j hj
  rwa [getElem!_pos l j hj] at this
def qst (l : List St) (i : Nat) : Int := stpE l[i]!
def qryE (q : Q) : Int := if idB q.fr = false then 3 else if 16 < q.l.length then 7 else fst (qst q.l) q.l.length
theorem qry_3 {q : Q} (h : idB q.fr = false) : qryE q = 3 := by unfold qryE; rw [if_pos h]
theorem qry_7 {q : Q} (h : idB q.fr = true) (h2 : 16 < q.l.length) : qryE q = 7 := by unfold qryE; rw [if_neg (by rw [h]; simp), if_pos h2]
theorem qry_hit {q : Q} (h : idB q.fr = true) (h2 : ¬ 16 < q.l.length) {i : Nat} (hi : i < q.l.length) (hb : ∀ j, j < i → qst q.l j = 0) (hn : ¬ stpE q.l[i]! = 0) : qryE q = stpE q.l[i]! := by
  unfold qryE
  rw [if_neg (by rw [h]; simp), if_neg h2]
  exact fst_hit hi hb hn
theorem qry_ok {q : Q} (h : idB q.fr = true) (h2 : ¬ 16 < q.l.length) (hb : ∀ j, j < q.l.length → qst q.l j = 0) : qryE q = 0 := by
  unfold qryE
  rw [if_neg (by rw [h]; simp), if_neg h2]
  exact fst_none hb
end Sx
end Go.Proofs.Ytklccakoblibmaa
