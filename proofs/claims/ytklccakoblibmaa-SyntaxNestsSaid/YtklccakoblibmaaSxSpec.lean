/- Expressions in plain Lean: trees that know where their lists lie. Conditions: none. -/
import Derived.Test.YtklccakoblibmaaStr
import Derived.Test.YtklccakoblibmaaNest
namespace Go.Proofs.Ytklccakoblibmaa
open Go Go.Eng
set_option linter.unusedSimpArgs false
namespace Sx
def sc (s : ByteArray) : List Value := [.string s]
theorem sc_one (s : ByteArray) : ∀ u ∈ sc s, u.oneCell' = true := by simp [sc, Value.oneCell']
inductive E where
  | mk (op : Int) (nm : ByteArray) (vk vn : Int) (vs : ByteArray) (A : Option Addr) (n c : Nat) (kids : List E)
namespace E
def op : E → Int
  | .mk o _ _ _ _ _ _ _ _ => o
def nm : E → ByteArray
  | .mk _ x _ _ _ _ _ _ _ => x
def vk : E → Int
  | .mk _ _ x _ _ _ _ _ _ => x
def vn : E → Int
  | .mk _ _ _ x _ _ _ _ _ => x
def vs : E → ByteArray
  | .mk _ _ _ _ x _ _ _ _ => x
def A : E → Option Addr
  | .mk _ _ _ _ _ x _ _ _ => x
def n : E → Nat
  | .mk _ _ _ _ _ _ x _ _ => x
def c : E → Nat
  | .mk _ _ _ _ _ _ _ x _ => x
def kids : E → List E
  | .mk _ _ _ _ _ _ _ _ x => x
end E
instance : Inhabited E := ⟨.mk 0 ⟨#[]⟩ 0 0 ⟨#[]⟩ none 0 0 []⟩
def E.v (e : E) : List Value := [.int .i64 e.op, .string e.nm, .int .i64 e.vk, .int .i64 e.vn, .string e.vs, .slice e.A e.n e.c]
theorem E.one (x : E) : ∀ u ∈ x.v, u.oneCell' = true := by simp [E.v, Value.oneCell']
/-- An expression of at most d levels lies in memory. -/
def Good : Nat → World → E → Prop
  | 0, _, _ => False
  | d + 1, w, e => Ls w e.A e.n e.c E.v 6 e.kids ∧ ∀ k ∈ e.kids, Good d w k
theorem Good.ext {w w' : World} : ∀ {d : Nat} {e : E}, Good d w e → Ext w w' → Good d w' e
  | _ + 1, _, h, x => ⟨h.1.ext x, fun k hk => (h.2 k hk).ext x⟩
theorem Good.up {w : World} : ∀ {d : Nat} {e : E}, Good d w e → Good (d + 1) w e
  | _ + 1, _, h => ⟨h.1, fun k hk => (h.2 k hk).up⟩
theorem Good.le {w : World} {d : Nat} {e : E} (h : Good d w e) : ∀ {m : Nat}, d ≤ m → Good m w e
  | m, hm => by
    induction m with
    | zero => obtain rfl : d = 0 := by omega
              exact h
    | succ m ih =>
      rcases Nat.lt_or_eq_of_le hm with h1 | rfl
      · exact (ih (by omega)).up
      · exact h
theorem Good.pos {w : World} {d : Nat} {e : E} (h : Good d w e) : 0 < d := by
  cases d with
  | zero => exact h.elim
  | succ d => omega
theorem Good.kid {w : World} {d : Nat} {e k : E} (h : Good d w e) (hk : k ∈ e.kids) : Good (d - 1) w k := by
  cases d with
  | zero => exact h.elim
  | succ d => exact h.2 k hk
theorem Good.ls {w : World} {d : Nat} {e : E} (h : Good d w e) : Ls w e.A e.n e.c E.v 6 e.kids := by
  cases d with
  | zero => exact h.elim
  | succ d => exact h.1
/-- What holds of a tree if it holds of it whenever it holds of its kids. -/
theorem E.ind {p : E → Prop} (h : ∀ e : E, (∀ k ∈ e.kids, p k) → p e) : ∀ e, p e
  | .mk a b c d f g i j kids => h _ fun k hk =>
    have : SizeOf.sizeOf k < SizeOf.sizeOf kids := List.sizeOf_lt_of_mem hk
    E.ind h k
termination_by e => SizeOf.sizeOf e
decreasing_by
  simp only [E.mk.sizeOf_spec]
  omega
/-! ### Nodes, levels, fields -/
mutual
def cnt : E → Nat
  | .mk _ _ _ _ _ _ _ _ ks => cntL ks + 1
def cntL : List E → Nat
  | [] => 0
  | k :: r => cnt k + cntL r
end
mutual
def lev : E → Nat
  | .mk _ _ _ _ _ _ _ _ ks => levL ks + 1
def levL : List E → Nat
  | [] => 0
  | k :: r => max (lev k) (levL r)
end
mutual
def flds : E → List ByteArray
  | .mk o x _ _ _ _ _ _ ks => (if o = 2 then [x] else []) ++ fldsL ks
def fldsL : List E → List ByteArray
  | [] => []
  | k :: r => flds k ++ fldsL r
end
mutual
def short : E → Bool
  | .mk _ x _ _ y _ _ _ ks => decide (x.size ≤ 300) && decide (y.size ≤ 300) && shortL ks
def shortL : List E → Bool
  | [] => true
  | k :: r => short k && shortL r
end
mutual
def same : E → E → Bool
  | .mk o x vk vn vs _ _ _ ks, b => (((o == b.op) && (x == b.nm)) && (((vk == b.vk) && (vn == b.vn)) && (vs == b.vs))) && sameL ks b.kids
def sameL : List E → List E → Bool
  | [], [] => true
  | k :: r, k' :: r' => same k k' && sameL r r'
  | _, _ => false
end
theorem cnt_eq (e : E) : cnt e = cntL e.kids + 1 := by cases e; rw [cnt]; rfl
theorem lev_eq (e : E) : lev e = levL e.kids + 1 := by cases e; rw [lev]; rfl
theorem flds_eq (e : E) : flds e = (if e.op = 2 then [e.nm] else []) ++ fldsL e.kids := by cases e; rw [flds]; rfl
theorem short_eq (e : E) : short e = (decide (e.nm.size ≤ 300) && decide (e.vs.size ≤ 300) && shortL e.kids) := by cases e; rw [short]; rfl
theorem same_eq (a b : E) : same a b = ((((a.op == b.op) && (a.nm == b.nm)) && (((a.vk == b.vk) && (a.vn == b.vn)) && (a.vs == b.vs))) && sameL a.kids b.kids) := by cases a; rw [same]; rfl
theorem cntL_app (a b : List E) : cntL (a ++ b) = cntL a + cntL b := by
  induction a with
  | nil => simp [cntL]
  | cons k r ih => rw [List.cons_append, cntL, cntL, ih]; omega
theorem levL_app (a b : List E) : levL (a ++ b) = max (levL a) (levL b) := by
  induction a with
  | nil => simp [levL]
  | cons k r ih => rw [List.cons_append, levL, levL, ih]; omega
theorem fldsL_app (a b : List E) : fldsL (a ++ b) = fldsL a ++ fldsL b := by
  induction a with
  | nil => simp [fldsL]
  | cons k r ih => rw [List.cons_append, fldsL, fldsL, ih, List.append_assoc]
theorem shortL_app (a b : List E) : shortL (a ++ b) = (shortL a && shortL b) := by
  induction a with
  | nil => simp [shortL]
  | cons k r ih => rw [List.cons_append, shortL, shortL, ih, Bool.and_assoc]
section
variable {l : List E} {i : Nat}
theorem take_next {α : Type} [Inhabited α] {l : List α} {i : Nat} (h : i < l.length) : l.take (i + 1) = l.take i ++ [l[i]!] := by
  rw [List.take_add_one, List.getElem?_eq_getElem h, getElem!_pos l i h]; rfl
theorem cntL_next (h : i < l.length) : cntL (l.take (i + 1)) = cntL (l.take i) + cnt l[i]! := by rw [take_next h, cntL_app]; simp [cntL]
theorem levL_next (h : i < l.length) : levL (l.take (i + 1)) = max (levL (l.take i)) (lev l[i]!) := by rw [take_next h, levL_app]; simp [levL]
theorem fldsL_next (h : i < l.length) : fldsL (l.take (i + 1)) = fldsL (l.take i) ++ flds l[i]! := by rw [take_next h, fldsL_app]; simp [fldsL]
theorem shortL_next (h : i < l.length) : shortL (l.take (i + 1)) = (shortL (l.take i) && short l[i]!) := by rw [take_next h, shortL_app]; simp [shortL]
theorem cntL_le : ∀ {l : List E} {i : Nat}, cntL (l.take i) ≤ cntL l := by
  intro l i
  have := cntL_app (l.take i) (l.drop i)
  rw [List.take_append_drop] at this
  omega
theorem cnt_pos (e : E) : 1 ≤ cnt e := by rw [cnt_eq]; omega
theorem cntL_len : ∀ l : List E, l.length ≤ cntL l
  | [] => by simp [cntL]
  | k :: r => by have := cntL_len r; have := cnt_pos k; rw [List.length_cons, cntL]; omega
end
theorem shortL_mem : ∀ {l : List E} {k : E}, shortL l = true → k ∈ l → short k = true
  | x :: r, k, h, hk => by
    rw [shortL, Bool.and_eq_true] at h
    rcases List.mem_cons.1 hk with rfl | hk
    · exact h.1
    · exact shortL_mem h.2 hk
theorem cntL_mem : ∀ {l : List E} {k : E}, k ∈ l → cnt k ≤ cntL l
  | x :: r, k, hk => by
    rw [cntL]
    rcases List.mem_cons.1 hk with rfl | hk
    · omega
    · have := cntL_mem hk; omega
theorem levL_mem : ∀ {l : List E} {k : E}, k ∈ l → lev k ≤ levL l
  | x :: r, k, hk => by
    rw [levL]
    rcases List.mem_cons.1 hk with rfl | hk
    · omega
    · have := levL_mem hk; omega
theorem levL_cntL {l : List E} (h : ∀ k ∈ l, lev k ≤ cnt k) : levL l ≤ cntL l := by
  induction l with
  | nil => simp [levL, cntL]
  | cons k r ih =>
    rw [levL, cntL]
    have h1 := h k (by simp)
    have h2 := ih fun z hz => h z (by simp [hz])
    omega
theorem lev_cnt (e : E) : lev e ≤ cnt e := E.ind (p := fun e => lev e ≤ cnt e) (fun e h => by rw [lev_eq, cnt_eq]; have := levL_cntL h; omega) e
end Sx
end Go.Proofs.Ytklccakoblibmaa
