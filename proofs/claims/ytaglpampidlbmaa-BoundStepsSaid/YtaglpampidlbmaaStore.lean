/- Stores into the elements of rows of the call's own; slices whose head is cut off again and again. Over any program.
   Conditions: none; nothing here speaks of a given program. -/
import Derived.Test.YtaglpampidlbmaaList
namespace Go.Eng
open Go Go.RowKit
theorem setAll_append_left : ∀ (vs p q : List Value) (i : Nat), i + vs.length ≤ p.length → setAll (p ++ q) i vs = setAll p i vs ++ q
  | [], _, _, _, _ => rfl
  | v :: r, p, q, i, h => by
    simp only [List.length_cons] at h
    rw [setAll, setAll, List.set_append_left _ _ (by omega), setAll_append_left r (p.set i v) q (i + 1) (by rw [List.length_set]; omega)]
theorem setAll_append_right : ∀ (vs p q : List Value) (i : Nat), setAll (p ++ q) (p.length + i) vs = p ++ setAll q i vs
  | [], _, _, _ => rfl
  | v :: r, p, q, i => by
    rw [setAll, setAll, List.set_append_right _ _ (by omega), show p.length + i - p.length = i by omega, Nat.add_assoc, setAll_append_right r p (q.set i v) (i + 1)]
theorem setAll_flat {α : Type} [Inhabited α] {f : α → List Value} {sz : Nat} (hf : ∀ x, (f x).length = sz) : ∀ {l : List α} {k off : Nat} {vs : List Value} {x' : α}, k < l.length → off + vs.length ≤ sz → f x' = setAll (f l[k]!) off vs → setAll (l.flatMap f) (k * sz + off) vs = (l.set k x').flatMap f
  | [], k, _, _, _, h, _, _ => by simp at h
  | y :: r, 0, off, vs, x', _, ho, he => by
    rw [List.flatMap_cons, List.set_cons_zero, List.flatMap_cons, Nat.zero_mul, Nat.zero_add, setAll_append_left _ _ _ _ (by rw [hf]; exact ho)]
    rw [he]; rfl
  | y :: r, k + 1, off, vs, x', h, ho, he => by
    have h' : k < r.length := by simpa using h
    have he' : f x' = setAll (f r[k]!) off vs := by
      rw [he, getElem!_pos (y :: r) (k + 1) h, getElem!_pos r k h']; rfl
    rw [List.flatMap_cons, List.set_cons_succ, List.flatMap_cons, ← setAll_flat hf h' ho he', ← setAll_append_right, hf, Nat.succ_mul]
    congr 1; omega
theorem setAll_take (vs cs : List Value) (i n : Nat) (h : i + vs.length ≤ n) (hn : n ≤ cs.length) : (setAll cs i vs).take n = setAll (cs.take n) i vs := by
  have e : setAll cs i vs = setAll (cs.take n ++ cs.drop n) i vs := by rw [List.take_append_drop]
  rw [e, setAll_append_left _ _ _ _ (by rw [List.length_take]; omega)]
  have hl : (setAll (cs.take n) i vs).length = n := by rw [length_setAll, List.length_take]; omega
  rw [List.take_append_of_le_length (by omega), List.take_of_length_le (by omega)]
section
variable {P : Program} {n : Nat} {ops : Array Oper} {Q : Exit → Act → World → Prop} {E : Env} {w : World} {o : Oper} {rest : List Oper} {α : Type} [Inhabited α] {f : α → List Value} {sz base e : Nat} {l : List α}
theorem run_storeE {t : TypeId} {x y : Operand} {A : Option Addr} {len cap k off : Nat} {v z : Value} {vs : List Value} {by' : Nat} {a : Act} (x' : α) (ha : Ok n E a) (ho : o.op = .store t x y) (hx : ev E x = some (.pointer (some (elemAt A sz k off)))) (hy : ev E y = some v) (hv : v.cells = vs.toArray)
    (hT : TI P t z vs.length by') (own : OwnL w base e f sz (.slice A len cap) l) (hf : ∀ x, (f x).length = sz) (hk : k < len) (hl : off + vs.length ≤ sz) (h1 : (vs.all Value.oneCell') = true) (hx' : f x' = setAll (f l[k]!) off vs) :
    ∃ w', (execOp a.eval o).run P w = .ok .skip w' ∧ OwnL w' base e f sz (.slice A len cap) (l.set k x') ∧ Gr w w' (Value.slice A len cap).ownBlock := by
  have hlen : ∀ q : List α, (q.flatMap f).length = q.length * sz := by
    intro q
    induction q with
    | nil => simp
    | cons x r ih => rw [List.flatMap_cons, List.length_append, hf, ih, List.length_cons, Nat.succ_mul]; omega
  rcases own.2 with ⟨hs, h0⟩ | ⟨g, cap', cur, hs, g1, g2, g3, g4, g5, g6⟩
  · injection hs with _ e1; omega
  · injection hs with e1 e2 e3
    subst e1; subst e2; subst e3
    have hkl : k * sz + sz ≤ l.length * sz := by rw [← Nat.succ_mul]; exact Nat.mul_le_mul_right sz (by omega)
    have hc5 : cur.toList.length = cap * sz := by simpa using g5
    have hcl : l.length * sz ≤ cur.toList.length := by rw [hc5]; exact Nat.mul_le_mul_right sz g3
    have hb : Blk w g e cur.toList := by unfold Blk; simpa using g2
    obtain ⟨w', hr, hon, hb'⟩ := run_storeCells (P := P) vs w cur.toList (k * sz + off) 0 hb (by omega) (fun u hu => List.all_eq_true.1 h1 u hu)
    have had : elemAt (some ⟨g, 0, none⟩) sz k off = ⟨g, k * sz + off, none⟩ := by
      unfold elemAt addrOf
      rw [Option.getD_some, add_blk, Nat.zero_add]
    rw [had] at hx
    have hs : (execOp a.eval o).run P w = .ok .skip w' := by
      simp [execOp, ho, ha.ev hx, ha.ev hy, Instr.storeAt, Instr.sureAddr, storeVar, hv, hT.sizeOf, hr]
    refine ⟨w', hs, ⟨by rw [hlen, List.length_set], .inr ⟨g, cap, (setAll cur.toList (k * sz + off) vs).toArray, by rw [List.length_set], g1, by unfold Blk at hb'; simpa using hb', by rw [List.length_set]; exact g3, g4, ?_, ?_⟩⟩, ?_⟩
    · rw [List.size_toArray, length_setAll, hc5]
    · rw [List.length_set]
      show (setAll cur.toList (k * sz + off) vs).take (l.length * sz) = _
      rw [setAll_take _ _ _ _ (by omega) hcl, g6]
      exact setAll_flat hf hk hl hx'
    · exact ⟨⟨hon.os, hon.tape, hon.output, Nat.le_of_eq hon.size.symm, fun j _ hne => hon.block j (fun hh => hne (by rw [hh]; rfl))⟩, hon.dr⟩
/-- A store into an element of a row of the call's own. -/
theorem WL.storeE {t : TypeId} {x y : Operand} {A : Option Addr} {len cap k off : Nat} {v z : Value} {vs : List Value} {by' : Nat} (x' : α) (hd : o.dst = none) (hg : o.guard = none) (ho : o.op = .store t x y) (hx : ev E x = some (.pointer (some (elemAt A sz k off)))) (hy : ev E y = some v) (hv : v.cells = vs.toArray)
    (hT : TI P t z vs.length by') (own : OwnL w base e f sz (.slice A len cap) l) (hf : ∀ x, (f x).length = sz) (hk : k < len) (hl : off + vs.length ≤ sz) (h1 : (vs.all Value.oneCell') = true) (hx' : f x' = setAll (f l[k]!) off vs)
    (h : ∀ w', OwnL w' base e f sz (.slice A len cap) (l.set k x') → Gr w w' (Value.slice A len cap).ownBlock → WL P n ops Q rest E w') : WL P n ops Q (o :: rest) E w := by
  intro a ha
  obtain ⟨w', hr, h2, h3⟩ := run_storeE (P := P) x' ha ho hx hy hv hT own hf hk hl h1 hx'
  refine wpList_plain hg fun K hK => ?_
  unfold Oper.wp
  rw [hr]
  show K (a.put o.dst undef) w'
  rw [hd]
  exact hK _ _ (h w' h2 h3 _ ha)
end
/-! A slice whose first elements have been cut off one by one. -/
def dropA (A : Option Addr) (cap sz : Nat) : Nat → Option Addr
  | 0 => A
  | p + 1 => if cap - p = 1 then dropA A cap sz p else (dropA A cap sz p).map (·.add (1 * sz))
theorem Ls.drops {α : Type} [Inhabited α] {w : World} {A : Option Addr} {n cap sz : Nat} {f : α → List Value} {l : List α} (h : Ls w A n cap f sz l) : ∀ {p : Nat}, p ≤ n → Ls w (dropA A cap sz p) (n - p) (cap - p) f sz (l.drop p)
  | 0, _ => by simpa [dropA] using h
  | p + 1, hp => by
    have h1 := (Ls.drops h (show p ≤ n by omega)).drop (k := 1) (by omega)
    rw [List.drop_drop] at h1
    exact h1
theorem drop_zero_bang {α : Type} [Inhabited α] (l : List α) (p : Nat) : (l.drop p)[0]! = l[p]! := by
  rw [List.getElem!_eq_getElem?_getD, List.getElem!_eq_getElem?_getD, List.getElem?_drop, Nat.add_zero]
end Go.Eng
