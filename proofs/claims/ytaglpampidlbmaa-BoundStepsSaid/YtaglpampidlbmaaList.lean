/- Lists as parameters, parts of slices, maps with int keys, what a path's conditions say. Over any program.
   Conditions: none; nothing here speaks of a given program. -/
import Derived.Test.YtaglpampidlbmaaMem
import Derived.Laws.Slices
namespace Go.Eng
open Go Go.RowKit

/-! ### What a condition says -/
theorem not_t {a : Bool} (h : (!a) = true) : a = false := by cases a <;> simp_all
theorem not_f {a : Bool} (h : (!a) = false) : a = true := by cases a <;> simp_all
theorem and_t {a b : Bool} (h : (a && b) = true) : a = true ∧ b = true := by cases a <;> cases b <;> simp_all
theorem and_f {a b : Bool} (h : (a && b) = false) : a = false ∨ b = false := by cases a <;> cases b <;> simp_all
theorem or_t {a b : Bool} (h : (a || b) = true) : a = true ∨ b = true := by cases a <;> cases b <;> simp_all
theorem or_f {a b : Bool} (h : (a || b) = false) : a = false ∧ b = false := by cases a <;> cases b <;> simp_all
theorem eq_t {a b : Int} (h : (a == b) = true) : a = b := eq_of_beq h
theorem eq_f {a b : Int} (h : (a == b) = false) : a ≠ b := by intro e; subst e; simp at h
theorem dec_t {p : Prop} [Decidable p] (h : decide p = true) : p := of_decide_eq_true h
theorem dec_f {p : Prop} [Decidable p] (h : decide p = false) : ¬ p := of_decide_eq_false h

theorem kn {b c : Bool} (h : b = c) : some (Value.bool b) = some (Value.bool c) := by rw [h]

/-! ### Lists -/
theorem get_bang {α : Type} [Inhabited α] {l : List α} {k : Nat} (h : k < l.length) : l[k]? = some (l[k]!) := by
  rw [List.getElem?_eq_getElem h, getElem!_pos l k h]
theorem drop_bang {α : Type} [Inhabited α] {l : List α} {k : Nat} (h : k < l.length) : l.drop k = l[k]! :: l.drop (k + 1) := by
  rw [List.drop_eq_getElem_cons h, getElem!_pos l k h]
theorem take_bang {α : Type} [Inhabited α] {l : List α} {k : Nat} (h : k < l.length) : l.take (k + 1) = l.take k ++ [l[k]!] := by
  rw [List.take_add_one, get_bang h]; rfl
theorem bang_mem {α : Type} [Inhabited α] {l : List α} {k : Nat} (h : k < l.length) : l[k]! ∈ l := by
  rw [getElem!_pos l k h]; exact List.getElem_mem h
/-- A list that lies in memory, as a slice of n elements. -/
structure Ls {α : Type} (w : World) (A : Option Addr) (n cap : Nat) (f : α → List Value) (sz : Nat) (l : List α) : Prop where
  len : l.length = n
  le : n ≤ cap
  max : cap ≤ maxLen
  rd : RdL w 0 w.heap.size A f sz l
section
variable {α : Type} {w w' : World} {A : Option Addr} {n cap : Nat} {f : α → List Value} {sz : Nat} {l : List α}
theorem Ls.ext (h : Ls w A n cap f sz l) (x : Ext w w') : Ls w' A n cap f sz l := ⟨h.len, h.le, h.max, (h.rd.ext x).more (Nat.le_refl _) x.size⟩
theorem Ls.move (h : Ls w A n cap f sz l) (hs : w.heap.size ≤ w'.heap.size) (hb : ∀ k, k < w.heap.size → w'.heap[k]? = w.heap[k]?) : Ls w' A n cap f sz l := ⟨h.len, h.le, h.max, (h.rd.move fun k _ hk => hb k hk).more (Nat.le_refl _) hs⟩
theorem Ls.nil {z : Nat} (hz : z ≤ maxLen) : Ls w A 0 z f sz [] := ⟨rfl, Nat.zero_le _, hz, RdL.none_⟩
theorem Ls.nle (h : Ls w A n cap f sz l) : n ≤ 9223372036854775807 := by have h1 := h.le; have h2 := h.max; unfold maxLen at h2; omega
theorem Ls.take (h : Ls w A n cap f sz l) {k : Nat} (hk : k ≤ n) : Ls w A k cap f sz (l.take k) :=
  ⟨by rw [List.length_take, h.len]; omega, Nat.le_trans hk h.le, h.max, h.rd.take k⟩
theorem Ls.drop (h : Ls w A n cap f sz l) {k : Nat} (hk : k ≤ n) : Ls w (if cap = k then A else A.map (·.add (k * sz))) (n - k) (cap - k) f sz (l.drop k) :=
  ⟨by rw [List.length_drop, h.len], by have := h.le; omega, by have := h.max; omega, h.rd.drop k cap (by rw [h.len]; exact h.le) (by rw [h.len]; exact hk)⟩
theorem Ls.isSome (h : Ls w A n cap f sz l) {k : Nat} (hk : k < n) : A.isSome = true := h.rd.some_ (by rw [h.len]; exact hk)
section
variable [Inhabited α]
theorem Ls.at_eq (h : Ls w A n cap f sz l) {k : Nat} (hk : k < n) {j : Nat} {u : Value} (hu : (f l[k]!)[j]? = .some u) : ∀ w', w' = w → w'.cell? (elemAt A sz k j) = .some u := h.rd.at_eq (get_bang (by rw [h.len]; exact hk)) hu
theorem Ls.at_ext (h : Ls w A n cap f sz l) {k : Nat} (hk : k < n) {j : Nat} {u : Value} (hu : (f l[k]!)[j]? = .some u) : ∀ w', Ext w w' → w'.cell? (elemAt A sz k j) = .some u := h.rd.at_ext (get_bang (by rw [h.len]; exact hk)) hu
theorem Ls.part_eq (h : Ls w A n cap f sz l) {k : Nat} (hk : k < n) {off : Nat} {sub : List Value} (hs : ((f l[k]!).drop off).take sub.length = sub) : ∀ w', w' = w → ∀ j u, sub[j]? = .some u → w'.cell? ((elemAt A sz k off).add j) = .some u := h.rd.part_eq (get_bang (by rw [h.len]; exact hk)) hs
theorem Ls.part_ext (h : Ls w A n cap f sz l) {k : Nat} (hk : k < n) {off : Nat} {sub : List Value} (hs : ((f l[k]!).drop off).take sub.length = sub) : ∀ w', Ext w w' → ∀ j u, sub[j]? = .some u → w'.cell? ((elemAt A sz k off).add j) = .some u := h.rd.part_ext (get_bang (by rw [h.len]; exact hk)) hs
end
end
/-- A slice that was written out, as a list. -/
theorem Ls.lit {α : Type} {w : World} {g e k sz : Nat} {f : α → List Value} {cs : List Value} {l : List α} (h : Blk w g e cs) (hf : ∀ x, (f x).length = sz) (hcs : l.flatMap f = cs) (hm : k ≤ maxLen) (hk : l.length = k) : Ls w (some ⟨g, 0, none⟩) k k f sz l :=
  ⟨hk, Nat.le_refl _, hm, (h.rd hf hcs).more (Nat.zero_le _) h.lt⟩
/-- A row of the call's own, seen as a list. -/
theorem OwnL.opened {α : Type} {w : World} {base : Nat} {e : TypeId} {f : α → List Value} {sz : Nat} {v : Value} {l : List α} (h : OwnL w base e f sz v l) (hf : ∀ x, (f x).length = sz) (hp : 0 < sz) :
    ∃ A n cap, v = .slice A n cap ∧ Ls w A n cap f sz l := by
  rcases h.2 with ⟨hv, h0⟩ | ⟨g, cap', cur, hv, h1, h2, h3, h4, h5, h6⟩
  · have hl : l = [] := by
      cases l with
      | nil => rfl
      | cons x r => simp at h0
    subst hl
    exact ⟨none, 0, 0, hv, Ls.nil (Nat.zero_le _)⟩
  · refine ⟨_, _, _, hv, rfl, h3, h4, ?_⟩
    subst hv
    exact (h.rd hf (Nat.le_refl _)).more (Nat.zero_le _) (Nat.le_refl _)

theorem OwnL.ls {α : Type} {w : World} {base : Nat} {e : TypeId} {f : α → List Value} {sz : Nat} {A : Option Addr} {n cap : Nat} {l : List α} (h : OwnL w base e f sz (.slice A n cap) l) (hf : ∀ x, (f x).length = sz) (hp : 0 < sz) : Ls w A n cap f sz l := by
  obtain ⟨A', n', c', e', hl⟩ := h.opened hf hp
  cases e'
  exact hl

namespace Y
section
variable {P : Program} {o : Oper} {n : Nat} {E : Env} {C : World → Prop}
theorem indexLs {α : Type} {x y : Operand} {t e : TypeId} {A : Option Addr} {len cap : Nat} {k : IntKind} {i : Int} {z : Value} {sz by' : Nat} {f : α → List Value} {l : List α} {w : World} (j : Nat) (h : Ls w A len cap f sz l) (ho : o.op = .indexAddr t x y) (hU : P.underlying t = some (.slice e)) (hT : TI P e z sz by') (hx : ev E x = some (.slice A len cap)) (hy : ev E y = some (.int k i)) (hj : i = (j : Int)) (hl : j < len) :
    Yld P o n E C (.pointer (some (elemAt A sz j 0))) := indexSl j ho hU hT hx hy hj hl (h.isSome hl)
theorem sliceH {x y : Operand} {t e : TypeId} {A : Option Addr} {len cap : Nat} {k : IntKind} {i : Int} {z : Value} {sz by' : Nat} (j : Nat) (ho : o.op = .slice t x none (some y) none) (hU : P.underlying t = some (.slice e)) (hT : TI P e z sz by') (hx : ev E x = some (.slice A len cap)) (hy : ev E y = some (.int k i)) (hj : i = (j : Int)) (hl : j ≤ cap) :
    Yld P o n E C (.slice A j cap) := by
  intro B w hB _
  subst hj
  have h2 : (0 : Int) ≤ (j : Int) ∧ (j : Int) ≤ (cap : Int) := by omega
  simp only [execOp, ho, hB.ev hx, Option.map, hB.ev hy, Instr.sliceAt, Instr.slice, Instr.sliceBounds, Instr.sliceBound, asIntOf, Sem.run_bind, Sem.run_pure, Result.andThen_ok, run_underlying hU, hT.sizeOf, h2, and_self, if_true, Int.toNat_natCast, Nat.zero_mul, Nat.sub_zero]
  by_cases hc : cap = 0
  · simp [hc]
  · simp only [hc, if_false]
    cases A with
    | none => rfl
    | some a => simp [Addr.add]
theorem sliceL {x y : Operand} {t e : TypeId} {A : Option Addr} {len cap : Nat} {k : IntKind} {i : Int} {z : Value} {sz by' : Nat} (j : Nat) (ho : o.op = .slice t x (some y) none none) (hU : P.underlying t = some (.slice e)) (hT : TI P e z sz by') (hx : ev E x = some (.slice A len cap)) (hy : ev E y = some (.int k i)) (hj : i = (j : Int)) (hl : j ≤ len) :
    Yld P o n E C (.slice (if cap = j then A else A.map (·.add (j * sz))) (len - j) (cap - j)) := by
  intro B w hB _
  subst hj
  have h2 : (0 : Int) ≤ (j : Int) ∧ (j : Int) ≤ (len : Int) := by omega
  simp only [execOp, ho, hB.ev hx, Option.map, hB.ev hy, Instr.sliceAt, Instr.slice, Instr.sliceBounds, Instr.sliceBound, asIntOf, Sem.run_bind, Sem.run_pure, Result.andThen_ok, run_underlying hU, hT.sizeOf, h2, and_self, if_true, Int.toNat_natCast, Option.isSome]
end
end Y

/-! ### Maps with int keys -/
/-- Block g is a map of these entries, in the order of their making. -/
def Mp (w : World) (g : Nat) (m : List (Int × Value)) : Prop := ∃ es clock, w.heap[g]? = some (.map es clock) ∧ es.toList.map (fun e => (e.key, e.val)) = m.map (fun p => (.int .i64 p.1, p.2)) ∧ (∀ x ∈ es.toList, x.born < clock) ∧ (es.toList.map (·.born)).Nodup ∧ (m.map (·.1)).Nodup
def mget : List (Int × Value) → Int → Option Value
  | [], _ => none
  | (k, v) :: r, i => if i = k then some v else mget r i
def mset : List (Int × Value) → Int → Value → List (Int × Value)
  | [], i, u => [(i, u)]
  | (k, v) :: r, i, u => if i = k then (k, u) :: r else (k, v) :: mset r i u
def mdel : List (Int × Value) → Int → List (Int × Value)
  | [], _ => []
  | (k, v) :: r, i => if i = k then r else (k, v) :: mdel r i
theorem map_modify {α β : Type} {f : α → α} {g : α → β} (h : ∀ x, g (f x) = g x) : ∀ (l : List α) (j : Nat), (l.modify j f).map g = l.map g
  | [], j => by simp
  | x :: l, 0 => by simp [h]
  | x :: l, j + 1 => by simp [List.modify_succ_cons, map_modify h l j]
theorem mget_none : ∀ (m : List (Int × Value)) (i : Int), mget m i = none → i ∉ m.map (·.1)
  | [], _, _ => by simp
  | (k, v) :: r, i, h => by
    simp only [mget] at h
    by_cases hi : i = k
    · simp [hi] at h
    · simp only [hi, if_false] at h
      have := mget_none r i h
      simp only [List.map_cons, List.mem_cons, not_or]
      exact ⟨hi, this⟩
theorem mset_keys_none : ∀ (m : List (Int × Value)) (i : Int) (u : Value), mget m i = none → (mset m i u).map (·.1) = m.map (·.1) ++ [i]
  | [], i, u, _ => rfl
  | (k, v) :: r, i, u, h => by
    simp only [mget] at h
    by_cases hi : i = k
    · simp [hi] at h
    · simp only [hi, if_false] at h
      simp only [mset, hi, if_false, List.map_cons, List.cons_append, mset_keys_none r i u h]
theorem mset_keys_some : ∀ (m : List (Int × Value)) (i : Int) (u v : Value), mget m i = some v → (mset m i u).map (·.1) = m.map (·.1)
  | [], i, u, v, h => by cases h
  | (k, x) :: r, i, u, v, h => by
    simp only [mget] at h
    by_cases hi : i = k
    · simp [mset, hi]
    · simp only [hi, if_false] at h
      simp only [mset, hi, if_false, List.map_cons, mset_keys_some r i u v h]
theorem mdel_none : ∀ (m : List (Int × Value)) (i : Int), mget m i = none → mdel m i = m
  | [], _, _ => rfl
  | (k, v) :: r, i, h => by
    simp only [mget] at h
    by_cases hi : i = k
    · simp [hi] at h
    · simp only [hi, if_false] at h
      simp only [mdel, hi, if_false, mdel_none r i h]
theorem mdel_sub : ∀ (m : List (Int × Value)) (i : Int), List.Sublist (mdel m i) m
  | [], _ => .slnil
  | (k, v) :: r, i => by
    simp only [mdel]; split
    · exact List.sublist_cons_self _ _
    · exact (mdel_sub r i).cons_cons _
theorem mget_mdel : ∀ (m : List (Int × Value)) (i j : Int), (m.map (·.1)).Nodup → mget (mdel m i) j = if j = i then none else mget m j
  | [], i, j, _ => by simp [mdel, mget]
  | (k, v) :: r, i, j, h => by
    have h' := List.nodup_cons.1 h
    simp only [mdel]
    by_cases hi : i = k
    · subst hi
      simp only [if_true, mget]
      by_cases hj : j = i
      · subst hj
        simp only [if_true]
        cases hg : mget r j with
        | none => rfl
        | some u =>
          exfalso
          refine h'.1 ?_
          have key : ∀ (r : List (Int × Value)), mget r j = some u → j ∈ r.map (·.1) := by
            intro r
            induction r with
            | nil => intro h; cases h
            | cons p r ih =>
              intro h
              obtain ⟨a, b⟩ := p
              simp only [mget] at h
              split at h
              · rename_i e; simp [e]
              · simp only [List.map_cons, List.mem_cons]; exact .inr (ih h)
          exact key r hg
      · simp only [hj, if_false]
    · simp only [hi, if_false, mget]
      rw [mget_mdel r i j h'.2]
      by_cases hj : j = k
      · subst hj; simp [Ne.symm hi]
      · simp [hj]
theorem mget_mset : ∀ (m : List (Int × Value)) (i j : Int) (u : Value), mget (mset m i u) j = if j = i then some u else mget m j
  | [], i, j, u => by simp only [mset, mget]
  | (k, v) :: r, i, j, u => by
    simp only [mset]
    by_cases h : i = k
    · subst h
      simp only [if_true, mget]
      by_cases hj : j = i <;> simp [hj]
    · simp only [h, if_false, mget, mget_mset r i j u]
      by_cases hj : j = k
      · subst hj; simp [Ne.symm h]
      · simp [hj]
theorem run_getObj_map' {P : Program} {w : World} {r : Nat} {es : Array MapEntry} {clock : Nat} (hb : w.heap[r]? = some (.map es clock)) : (getObj r).run P w = .ok (.map es clock) w := by simp [getObj, Sem.run, hb]
section maps
variable {w w' : World} {g : Nat} {m : List (Int × Value)}
theorem Mp.lt (h : Mp w g m) : g < w.heap.size := by
  obtain ⟨es, c, h1, _⟩ := h
  rcases Nat.lt_or_ge g w.heap.size with hlt | hge
  · exact hlt
  · rw [Array.getElem?_eq_none hge] at h1; cases h1
theorem Mp.of_block (h : Mp w g m) (hb : w'.heap[g]? = w.heap[g]?) : Mp w' g m := by
  obtain ⟨es, c, h1, h2⟩ := h; exact ⟨es, c, hb.trans h1, h2⟩
theorem Mp.ext (h : Mp w g m) (x : Ext w w') : Mp w' g m := h.of_block (x.block g h.lt)
theorem Mp.only {b : Nat} (h : Mp w g m) (hne : g ≠ b) (x : Only b w w') : Mp w' g m := h.of_block (x.block g hne)
theorem Mp.grown {row : Option Nat} (h : Mp w g m) (x : Gr w w' row) (hne : row ≠ some g) : Mp w' g m := h.of_block (x.block g h.lt (Ne.symm hne))
theorem ne_newM {b : Nat} (h : Mp w g m) (e : b = w.heap.size) : g ≠ b := by have := h.lt; omega
theorem ne_newMB {t : TypeId} {b : Nat} {cs : List Value} (h : Blk w b t cs) (e : g = w.heap.size) : b ≠ g := by have := h.lt; omega
theorem findNow_m : ∀ (l : List MapEntry) (m : List (Int × Value)) (i : Int) (k : Nat), l.map (fun e => (e.key, e.val)) = m.map (fun p => ((.int .i64 p.1 : Value), p.2)) →
    ∃ r, Instr.findNow (.int .i64) (.int .i64 i) l k = some r ∧ (r.map (·.2)) = mget m i ∧ ∀ j u, r = some (j, u) → ∃ j', j = k + j' ∧ j' < l.length ∧ (l[j']?).map (·.key) = some (.int .i64 i) ∧ (∀ v, ((l.modify j' fun e => { e with key := .int .i64 i, val := v }).map fun e => (e.key, e.val)) = (mset m i v).map fun p => (.int .i64 p.1, p.2)) ∧ ((l.eraseIdx j').map fun e => (e.key, e.val)) = (mdel m i).map fun p => (.int .i64 p.1, p.2)
  | [], [], i, k, _ => ⟨none, rfl, rfl, by simp⟩
  | [], _ :: _, _, _, h => by simp at h
  | _ :: _, [], _, _, h => by simp at h
  | e :: l, (a, u) :: m, i, k, h => by
    simp only [List.map_cons, List.cons.injEq, Prod.mk.injEq] at h
    obtain ⟨⟨h1, h2⟩, h3⟩ := h
    by_cases hi : i = a
    · subst hi
      refine ⟨some (k, u), by simp [Instr.findNow, Instr.sameNow, h1, h2], by simp [mget], ?_⟩
      rintro j u' hju
      simp at hju
      refine ⟨0, by omega, by simp, by simp [h1], fun v => ?_, ?_⟩
      · simp [mset, h3]
      · simp [mdel, h3]
    · obtain ⟨r, hr, hm, hj⟩ := findNow_m l m i (k + 1) h3
      refine ⟨r, by simp [Instr.findNow, Instr.sameNow, h1, (show (i == a) = false from by simpa using hi), hr], by simp [mget, hi, hm], ?_⟩
      rintro j u' hju
      obtain ⟨j', e1, e2, e3, e4, e5⟩ := hj j u' hju
      refine ⟨j' + 1, by omega, by simpa using e2, by simpa using e3, fun v => ?_, ?_⟩
      · simp only [List.modify_succ_cons, List.map_cons, mset, hi, if_false]
        rw [e4 v, h1, h2]
      · simp only [List.eraseIdx_cons_succ, List.map_cons, mdel, hi, if_false]
        rw [e5, h1, h2]
      
theorem checkKey_int {P : Program} {t : TypeId} (hk : P.underlying t = some (.int .i64)) (b : Bool) (n : Nat) (i : Int) (w : World) : (Instr.checkKey b (n + 1) t (.int .i64 i)).run P w = .ok () w := by
  simp [Instr.checkKey, run_underlying hk]
theorem findKey_m {P : Program} {t : TypeId} (hk : P.underlying t = some (.int .i64)) {es : Array MapEntry} (h : es.toList.map (fun e => (e.key, e.val)) = m.map fun p => ((.int .i64 p.1 : Value), p.2)) (i : Int) (w : World) :
    ∃ r, (Instr.findKey t (.int .i64 i) es.toList).run P w = .ok r w ∧ (r.map (·.2)) = mget m i ∧ ∀ j u, r = some (j, u) → j < es.size ∧ (es[j]?).map (·.key) = some (.int .i64 i) ∧ (∀ v, ((es.modify j fun e => { e with key := .int .i64 i, val := v }).toList.map fun e => (e.key, e.val)) = (mset m i v).map fun p => (.int .i64 p.1, p.2)) ∧ ((es.toList.eraseIdx j).map fun e => (e.key, e.val)) = (mdel m i).map fun p => (.int .i64 p.1, p.2) := by
  obtain ⟨r, h1, h2, h3⟩ := findNow_m es.toList m i 0 h
  refine ⟨r, by simp [Instr.findKey, run_underlying hk, h1], h2, fun j u hr => ?_⟩
  obtain ⟨j', e1, e2, e3, e4, e5⟩ := h3 j u hr
  rw [Nat.zero_add] at e1
  subst e1
  exact ⟨by simpa using e2, by simpa using e3, fun v => by rw [← e4 v, Array.toList_modify], e5⟩
theorem mset_none : ∀ (m : List (Int × Value)) (i : Int) (u : Value), mget m i = none → mset m i u = m ++ [(i, u)]
  | [], i, u, _ => rfl
  | (k, v) :: r, i, u, h => by
    simp only [mget] at h
    by_cases hi : i = k
    · simp [hi] at h
    · simp only [hi, if_false] at h
      simp [mset, hi, mset_none r i u h]
end maps
def mval (m : List (Int × Value)) (i : Int) (z : Value) : Value := (mget m i).getD z
theorem Y.lookup {P : Program} {o : Oper} {n : Nat} {E : Env} {C : World → Prop} {x y : Operand} {t kt e g : Nat} {i : Int} {m : List (Int × Value)} {z : Value} {sz by' : Nat} (ho : o.op = .lookup t x y false) (hU : P.underlying t = some (.map kt e)) (hk : P.underlying kt = some (.int .i64)) (hT : TI P e z sz by') (hx : ev E x = some (.map (some g))) (hy : ev E y = some (.int .i64 i)) (hm : ∀ w, C w → Mp w g m) :
    Yld P o n E C (mval m i z) := by
  intro a w ha hC
  obtain ⟨es, c, h1, h2, _⟩ := hm w hC
  obtain ⟨r, hr, hg, _⟩ := findKey_m hk h2 i w
  have h1' : (getObj g).run P w = .ok (.map es c) w := run_getObj_map' h1
  have hc := checkKey_int hk es.isEmpty 9999 i w
  cases r with
  | none =>
    simp only [execOp, ho, ha.ev hx, ha.ev hy, Instr.lookup, run_underlying hU, Sem.run_bind, Result.andThen_ok, h1', Sem.run_pure, hc, hr, hT.zeroValue, mval, ← hg]
    rfl
  | some p =>
    simp only [execOp, ho, ha.ev hx, ha.ev hy, Instr.lookup, run_underlying hU, Sem.run_bind, Result.andThen_ok, h1', Sem.run_pure, hc, hr, mval, ← hg]
    rfl
theorem Y.lookupOk {P : Program} {o : Oper} {n : Nat} {E : Env} {C : World → Prop} {x y : Operand} {t kt e g : Nat} {i : Int} {m : List (Int × Value)} {z : Value} {sz by' : Nat} (ho : o.op = .lookup t x y true) (hU : P.underlying t = some (.map kt e)) (hk : P.underlying kt = some (.int .i64)) (hT : TI P e z sz by') (hx : ev E x = some (.map (some g))) (hy : ev E y = some (.int .i64 i)) (hm : ∀ w, C w → Mp w g m) :
    Yld P o n E C (.tuple #[mval m i z, .bool (mget m i).isSome]) := by
  intro a w ha hC
  obtain ⟨es, c, h1, h2, _⟩ := hm w hC
  obtain ⟨r, hr, hg, _⟩ := findKey_m hk h2 i w
  have h1' : (getObj g).run P w = .ok (.map es c) w := run_getObj_map' h1
  have hc := checkKey_int hk es.isEmpty 9999 i w
  cases r with
  | none =>
    simp only [execOp, ho, ha.ev hx, ha.ev hy, Instr.lookup, run_underlying hU, Sem.run_bind, Result.andThen_ok, h1', Sem.run_pure, hc, hr, hT.zeroValue, mval, ← hg]
    rfl
  | some p =>
    simp only [execOp, ho, ha.ev hx, ha.ev hy, Instr.lookup, run_underlying hU, Sem.run_bind, Result.andThen_ok, h1', Sem.run_pure, hc, hr, mval, ← hg]
    rfl
theorem Only.setObj (w : World) (g : Nat) (ob : Obj) : Only g w { w with heap := w.heap.setIfInBounds g ob } :=
  ⟨rfl, rfl, rfl, by simp, fun k hk => by simp [Array.getElem?_setIfInBounds, Ne.symm hk], Dle.of (Nat.le_refl _)⟩
theorem run_mapUpdate_m {P : Program} {t kt e g : Nat} {i : Int} {u : Value} {m : List (Int × Value)} {w : World} (hU : P.underlying t = some (.map kt e)) (hk : P.underlying kt = some (.int .i64)) (hm : Mp w g m) : ∃ w', (Instr.mapUpdate t (.map (some g)) (.int .i64 i) u).run P w = .ok () w' ∧ Only g w w' ∧ Mp w' g (mset m i u) := by
  have hlt := hm.lt
  obtain ⟨es, c, h1, h2, h6, h7, h8⟩ := hm
  obtain ⟨r, hr, hg, hs⟩ := findKey_m hk h2 i w
  have h1' : (getObj g).run P w = .ok (.map es c) w := run_getObj_map' h1
  have hc := checkKey_int hk false 9999 i w
  cases r with
  | none =>
    refine ⟨{ w with heap := w.heap.setIfInBounds g (.map (es.push { key := .int .i64 i, val := u, born := c }) (c + 1)) }, ?_, Only.setObj _ _ _, ?_⟩
    · simp only [Instr.mapUpdate, run_underlying hU, Sem.run_bind, Result.andThen_ok, h1', hc, hr]
      simp [setObj, Sem.run, h1]
    · refine ⟨_, _, Array.getElem?_setIfInBounds_self_of_lt hlt, ?_, ?_, ?_, ?_⟩
      · rw [mset_none m i u (by rw [← hg]; rfl)]
        simp [h2]
      · intro x hx
        rw [Array.toList_push] at hx
        rcases List.mem_append.1 hx with hx | hx
        · have := h6 x hx; omega
        · have e1 := List.mem_singleton.1 hx
          rw [e1]; exact Nat.lt_succ_self c
      · rw [Array.toList_push, List.map_append, List.nodup_append]
        refine ⟨h7, by simp, fun a ha b hb => ?_⟩
        have : b = c := by simpa using hb
        subst this
        obtain ⟨x, hx, rfl⟩ := List.mem_map.1 ha
        have := h6 x hx; omega
      · rw [mset_keys_none m i u (by rw [← hg]; rfl)]
        refine List.nodup_append.2 ⟨h8, by simp, fun a ha b hb => ?_⟩
        have : b = i := by simpa using hb
        subst this; rintro rfl
        exact mget_none m a (by rw [← hg]; rfl) ha
  | some p =>
    obtain ⟨j, v0⟩ := p
    obtain ⟨h3, h4, h5, h9⟩ := hs j v0 rfl
    refine ⟨{ w with heap := w.heap.setIfInBounds g (.map (es.modify j fun e => { e with key := .int .i64 i, val := u }) c) }, ?_, Only.setObj _ _ _, ?_⟩
    · have hst : (Instr.keyThatStays (((es[j]?).map (·.key)).getD (.int .i64 i)) (.int .i64 i)).run P w = .ok (.int .i64 i) w := by
        rw [h4]
        simp [Instr.keyThatStays, Instr.sameBits]
      simp only [Instr.mapUpdate, run_underlying hU, Sem.run_bind, Result.andThen_ok, h1', hc, hr, hst]
      simp [setObj, Sem.run, h1]
    · refine ⟨_, _, Array.getElem?_setIfInBounds_self_of_lt hlt, h5 u, ?_, ?_, ?_⟩
      · intro x hx
        have hb : x.born ∈ (es.modify j fun e => { e with key := .int .i64 i, val := u }).toList.map (·.born) := List.mem_map_of_mem hx
        rw [Array.toList_modify, map_modify (f := fun e : MapEntry => { e with key := .int .i64 i, val := u }) (g := fun e : MapEntry => e.born) (fun e => rfl)] at hb
        obtain ⟨y, hy, e⟩ := List.mem_map.1 hb
        rw [← e]; exact h6 y hy
      · rw [Array.toList_modify, map_modify (f := fun e : MapEntry => { e with key := .int .i64 i, val := u }) (g := fun e : MapEntry => e.born) (fun e => rfl)]; exact h7
      · rw [mset_keys_some m i u v0 (by rw [← hg]; rfl)]; exact h8
theorem run_delete_m {P : Program} {t kt e g : Nat} {i : Int} {m : List (Int × Value)} {w : World} {ts : Array TypeId} {ty : TypeId} (ht : ts[0]? = some t) (hU : P.underlying t = some (.map kt e)) (hk : P.underlying kt = some (.int .i64)) (hm : Mp w g m) : ∃ w', (Builtin.delete_ ts ty #[.map (some g), .int .i64 i]).run P w = .ok (.tuple #[]) w' ∧ Only g w w' ∧ Mp w' g (mdel m i) := by
  have hlt := hm.lt
  obtain ⟨es, c, h1, h2, h6, h7, h8⟩ := hm
  obtain ⟨r, hr, hg, hs⟩ := findKey_m hk h2 i w
  have h1' : (getObj g).run P w = .ok (.map es c) w := run_getObj_map' h1
  have hc := checkKey_int hk es.isEmpty 9999 i w
  cases r with
  | none =>
    refine ⟨{ w with heap := w.heap.setIfInBounds g (.map es c) }, ?_, Only.setObj _ _ _, ?_⟩
    · simp [Builtin.delete_, ht, run_underlying hU, h1', hc, hr, setObj, Sem.run, h1]
    · rw [mdel_none m i (by rw [← hg]; rfl)]
      exact ⟨_, _, Array.getElem?_setIfInBounds_self_of_lt hlt, h2, h6, h7, h8⟩
  | some p =>
    obtain ⟨j, v0⟩ := p
    obtain ⟨h3, h4, h5, h9⟩ := hs j v0 rfl
    have hel : (es.eraseIdxIfInBounds j).toList = es.toList.eraseIdx j := by
      unfold Array.eraseIdxIfInBounds; rw [dif_pos h3]; simp
    refine ⟨{ w with heap := w.heap.setIfInBounds g (.map (es.eraseIdxIfInBounds j) c) }, ?_, Only.setObj _ _ _, ?_⟩
    · simp [Builtin.delete_, ht, run_underlying hU, h1', hc, hr, setObj, Sem.run, h1]
    · refine ⟨_, _, Array.getElem?_setIfInBounds_self_of_lt hlt, by rw [hel]; exact h9, fun x hx => h6 x (List.mem_of_mem_eraseIdx (by rw [hel] at hx; exact hx)), ?_, ((mdel_sub m i).map _).nodup h8⟩
      rw [hel]
      exact ((List.eraseIdx_sublist _ _).map _).nodup h7
section memory
variable {P : Program} {n : Nat} {ops : Array Oper} {Q : Exit → Act → World → Prop} {E : Env} {w : World} {o : Oper} {rest : List Oper} {d : Nat}
theorem WL.delete {t kt e g : Nat} {c : Call} {i : Int} {m : List (Int × Value)} (hd : o.dst = none) (hg : o.guard = none) (ho : o.op = .call c) (hc : c.callee = .builtin .delete) (ht : c.argTypes[0]? = some t) (hU : P.underlying t = some (.map kt e)) (hk : P.underlying kt = some (.int .i64)) (ha : evs E c.args.toList = some [.map (some g), .int .i64 i]) (hm : Mp w g m)
    (h : ∀ w', Only g w w' → Mp w' g (mdel m i) → WL P n ops Q rest E w') : WL P n ops Q (o :: rest) E w := by
  intro a hA
  obtain ⟨cb, hcb⟩ := run_builtin (P := P) (w := w) hA ho hc ha
  obtain ⟨w', hr, h1, h2⟩ := run_delete_m (ty := o.type) (i := i) ht hU hk hm
  refine wpList_plain hg fun K hK => ?_
  unfold Oper.wp
  rw [hcb]
  simp only [builtin, Sem.run_bind, hr, Result.andThen_ok, Sem.run_pure]
  exact hK _ _ (by rw [hd]; exact h w' h1 h2 _ hA)
theorem WL.makeMap {t : TypeId} (hd : o.dst = some d) (hn : d < n) (hg : o.guard = none) (ho : o.op = .makeMap t none)
    (h : ∀ g w', g = w.heap.size → Ext w w' → Mp w' g [] → WL P n ops Q rest ((d, .map (some g)) :: E) w') : WL P n ops Q (o :: rest) E w := by
  intro a ha
  have hr : (execOp a.eval o).run P w = .ok (.value (.map (some w.heap.size))) (w.alloc (.map #[] 0)) := by
    simp [execOp, ho, Instr.makeMap, run_newObj]
  refine wpList_plain hg fun K hK => wp_of_run hr (hK _ _ ?_)
  rw [hd]
  exact h _ _ rfl ((Ext.refl w).alloc _) ⟨_, _, heap_alloc_new w _, rfl, by simp, by simp, by simp⟩ _ (ha.put hn _)
theorem WL.mapUpdate {t kt e g : Nat} {x y z : Operand} {i : Int} {u : Value} {m : List (Int × Value)} (hd : o.dst = none) (hg : o.guard = none) (ho : o.op = .mapUpdate t x y z ∨ o.op = .insert t x y z) (hU : P.underlying t = some (.map kt e)) (hk : P.underlying kt = some (.int .i64)) (hx : ev E x = some (.map (some g))) (hy : ev E y = some (.int .i64 i)) (hz : ev E z = some u) (hm : Mp w g m)
    (h : ∀ w', Only g w w' → Mp w' g (mset m i u) → WL P n ops Q rest E w') : WL P n ops Q (o :: rest) E w := by
  intro a ha
  obtain ⟨w', hr, h1, h2⟩ := run_mapUpdate_m (i := i) (u := u) hU hk hm
  have hr : (execOp a.eval o).run P w = .ok .skip w' := by
    rcases ho with ho | ho <;> simp [execOp, ho, ha.ev hx, ha.ev hy, ha.ev hz, hr]
  refine wpList_plain hg fun K hK => ?_
  unfold Oper.wp; rw [hr]
  exact hK _ _ (by rw [hd]; exact h w' h1 h2 _ ha)
theorem Ok.again {a : Act} {t : Nat} {v : Value} (h : Ok n E a) (ht : look t E = some v) : Ok n ((t, v) :: E) a :=
  ⟨h.defers, h.size, fun s u hu => by
    simp only [look] at hu
    cases hb : Nat.beq t s with
    | true =>
      rw [hb] at hu
      simp at hu
      have := Nat.eq_of_beq_eq_true hb
      subst this; subst hu
      exact h.at_ t _ ht
    | false =>
      rw [hb] at hu
      exact h.at_ s u (by simpa using hu)⟩
/-- An operation whose guard is known to let it come. -/
theorem WL.guarded {j t : Nat} {want : Bool} (hg : o.guard = some (j, want)) (hj : (ops[j]?).bind (·.dst) = some t) (ht : look t E = some (.bool want)) (h : WL P n ops Q ({ o with guard := none } :: rest) E w) : WL P n ops Q (o :: rest) E w := by
  intro a ha
  have h1 : wpList P ops Q ({ o with guard := none } :: rest) a w := h a ha
  unfold wpList at h1 ⊢
  rw [if_pos (by simp [Region.wanted])] at h1
  rw [if_pos (by rw [wanted_guard ha hg hj ht]; simp)]
  exact h1
/-- A Bool that guards what follows, taken apart. -/
theorem WL.split {t : Nat} {b : Bool} (ht : look t E = some (.bool b)) (h1 : b = true → WL P n ops Q rest ((t, .bool true) :: E) w) (h2 : b = false → WL P n ops Q rest ((t, .bool false) :: E) w) : WL P n ops Q rest E w := by
  intro a ha
  cases b with
  | true => exact h1 rfl a (ha.again ht)
  | false => exact h2 rfl a (ha.again ht)
end memory

/-! ### Rows of the call's own, apart from each other -/
def Apart (v u : Value) : Prop := ∀ g, v.ownBlock = some g → u.ownBlock ≠ some g
theorem Apart.symm {v u : Value} (h : Apart v u) : Apart u v := fun g h1 h2 => h g h2 h1
theorem Apart.nil_l {u : Value} {k c : Nat} : Apart (.slice none k c) u := fun g h => by simp [Value.ownBlock] at h
theorem Apart.nil_r {v : Value} {k c : Nat} : Apart v (.slice none k c) := Apart.nil_l.symm
theorem Apart.blk {b k c : Nat} {u : Value} (h : u.ownBlock ≠ some b) : Apart (.slice (some ⟨b, 0, none⟩) k c) u := fun g h1 h2 => h (by simp [Value.ownBlock] at h1; rw [h1]; exact h2)
theorem ne_nil {g k c : Nat} : (Value.slice none k c).ownBlock ≠ some g := fun h => by simp [Value.ownBlock] at h
theorem ne_blk {g b k c : Nat} (h : g ≠ b) : (Value.slice (some ⟨b, 0, none⟩) k c).ownBlock ≠ some g := fun e => h (by simp [Value.ownBlock] at e; exact e.symm)
section
variable {α : Type} {w w' : World} {base base' : Nat} {e : TypeId} {f : α → List Value} {sz : Nat} {v v' u : Value} {l : List α}
theorem Apart.app (h : Apart v u) (nb : v'.ownBlock = v.ownBlock ∨ v'.ownBlock = some w.heap.size) (ow : OwnL w base e f sz u l) : Apart v' u := fun g h1 h2 => by
  rcases nb with nb | nb
  · exact h g (by rw [← nb]; exact h1) h2
  · rw [nb] at h1; injection h1 with h1; have := (ow.lt h2).2; omega
/-- A row that a call has made, and what was there ahead of the call. -/
theorem ne_res {g : Nat} {t : TypeId} {cs : List Value} (ow : OwnL w' w.heap.size e f sz v l) (m : Blk w g t cs) : v.ownBlock ≠ some g := fun h => by have := (ow.lt h).1; have := m.lt; omega
theorem ne_resM {g : Nat} {m : List (Int × Value)} (ow : OwnL w' w.heap.size e f sz v l) (h : Mp w g m) : v.ownBlock ≠ some g := fun h' => by have := (ow.lt h').1; have := h.lt; omega
theorem Apart.res {β : Type} {f' : β → List Value} {sz' : Nat} {e' : TypeId} {l' : List β} (ow : OwnL w' w.heap.size e f sz v l) (ow' : OwnL w base e' f' sz' u l') : Apart v u := fun g h1 h2 => by have := (ow.lt h1).1; have := (ow'.lt h2).2; omega
theorem ne_appM {g : Nat} {m : List (Int × Value)} (h : v'.ownBlock = v.ownBlock ∨ v'.ownBlock = some w.heap.size) (hn : v.ownBlock ≠ some g) (m : Mp w g m) : v'.ownBlock ≠ some g := by
  rcases h with h | h
  · rw [h]; exact hn
  · rw [h]; intro e; injection e with e; have := m.lt; omega
end
section
variable {P : Program} {n : Nat} {ops : Array Oper} {Q : Exit → Act → World → Prop} {E : Env} {w : World} {o : Oper} {rest : List Oper} {d : Nat} {α : Type} {f : α → List Value} {sz base e t : Nat} {v : Value} {l : List α} {c : Call}
theorem WL.appendL {news : List α} {A : Option Addr} {cap k : Nat} {z : Value} {by' : Nat} (hd : o.dst = some d) (hn : d < n) (hg : o.guard = none) (ho : o.op = .call c) (hc : c.callee = .builtin .append) (ht : c.argTypes = #[t, t]) (hU : P.underlying t = some (.slice e)) (hT : TI P e z sz by') (hz : z.cells.size = sz) (hp : 0 < sz)
    (ha : evs E c.args.toList = some [v, .slice A k cap]) (own : OwnL w base e f sz v l) (hf : ∀ x, (f x).length = sz) (h1 : ∀ x, ∀ u ∈ f x, u.oneCell' = true) (hL : Ls w A k cap f sz news) (hbase : base ≤ w.heap.size) (hby : (l.length + news.length) * by' ≤ 140737488355328) (hm : l.length + news.length ≤ maxLen)
    (h : ∀ v' w', OwnL w' base e f sz v' (l ++ news) → Gr w w' v.ownBlock → (v'.ownBlock = v.ownBlock ∨ v'.ownBlock = some w.heap.size) → WL P n ops Q rest ((d, v') :: E) w') : WL P n ops Q (o :: rest) E w := by
  have hk := hL.len
  subst hk
  exact WL.appendR hd hn hg ho hc ht hU hT hz hp ha own hf h1 hL.rd hbase hby hm h
end
end Go.Eng
