/- Slices: lists that lie in memory, rows of the call's own that grow by append; what loops leave alone. Over any program.
   Conditions: none; nothing here speaks of a given program. -/
import Derived.Test.YtaglpampidlbmaaOps
import Derived.Test.YtaglpampidlbmaaDraw
import Derived.Maps.AppendAt
import Derived.Laws.MakeOwn
namespace Go.Eng
open Go Go.RowKit

/-- Grown, all but the row as it was; no draw is taken back. -/
structure Gr (w w' : World) (row : Option Nat) : Prop extends World.grownBy w w' row where
  dr : Dle w.drawn w'.drawn
theorem Gr.refl (w : World) (row : Option Nat) : Gr w w row := ⟨World.grownBy.refl w row, Dle.of (Nat.le_refl _)⟩
/-! ### Frames: what has not turned -/
/-- Of the blocks of w all but those in S are as they were. -/
structure Keep (S : List Nat) (w w' : World) : Prop where
  os : w'.os = w.os
  tape : w'.tape = w.tape
  output : w'.output = w.output
  size : w.heap.size ≤ w'.heap.size
  block : ∀ k, k < w.heap.size → k ∉ S → w'.heap[k]? = w.heap[k]?
section
variable {S : List Nat} {a w w' : World} {b : Nat}
theorem Keep.refl (S : List Nat) (w : World) : Keep S w w := ⟨rfl, rfl, rfl, Nat.le_refl _, fun _ _ _ => rfl⟩
theorem Keep.ext (h : Keep S a w) (x : Ext w w') : Keep S a w' :=
  ⟨x.os.trans h.os, x.tape.trans h.tape, x.output.trans h.output, Nat.le_trans h.size x.size, fun k hk hS => (x.block k (Nat.lt_of_lt_of_le hk h.size)).trans (h.block k hk hS)⟩
theorem Keep.only (h : Keep S a w) (x : Only b w w') (hb : b ∈ S ∨ a.heap.size ≤ b) : Keep S a w' :=
  ⟨x.os.trans h.os, x.tape.trans h.tape, x.output.trans h.output, by rw [x.size]; exact h.size, fun k hk hS => by
    have hne : k ≠ b := by
      rintro rfl
      rcases hb with hb | hb
      · exact hS hb
      · omega
    exact (x.block k hne).trans (h.block k hk hS)⟩
theorem Keep.grown {row : Option Nat} (h : Keep S a w) (x : Gr w w' row) (hb : ∀ b, row = some b → b ∈ S ∨ a.heap.size ≤ b) : Keep S a w' :=
  ⟨x.os.trans h.os, x.tape.trans h.tape, x.output.trans h.output, Nat.le_trans h.size x.size, fun k hk hS => by
    have hne : some k ≠ row := by
      intro e
      rcases hb k e.symm with h1 | h1
      · exact hS h1
      · omega
    exact (x.block k (Nat.lt_of_lt_of_le hk h.size) hne).trans (h.block k hk hS)⟩
theorem Keep.trans {S' : List Nat} (h : Keep S a w) (x : Keep S' w w') (hS : ∀ b ∈ S', b ∈ S ∨ a.heap.size ≤ b) : Keep S a w' :=
  ⟨x.os.trans h.os, x.tape.trans h.tape, x.output.trans h.output, Nat.le_trans h.size x.size, fun k hk hn => by
    have hk' : k ∉ S' := fun hm => by
      rcases hS k hm with h1 | h1
      · exact hn h1
      · omega
    exact (x.block k (Nat.lt_of_lt_of_le hk h.size) hk').trans (h.block k hk hn)⟩
theorem Ext.grown {row : Option Nat} (h : Ext a w) (x : Gr w w' row) (hb : ∀ b, row = some b → a.heap.size ≤ b) : Ext a w' :=
  ⟨⟨x.os.trans h.os, x.tape.trans h.tape, x.output.trans h.output, Nat.le_trans h.size x.size, fun k hk => by
    have hne : some k ≠ row := by
      intro e
      have := hb k e.symm
      omega
    exact (x.block k (Nat.lt_of_lt_of_le hk h.size) hne).trans (h.block k hk)⟩, Dle.trans h.dr x.dr⟩
theorem Ext.toKeep (h : Ext a w) (S : List Nat) : Keep S a w := ⟨h.os, h.tape, h.output, h.size, fun k hk _ => h.block k hk⟩
theorem own_newK {W w : World} {g : Nat} (x : Keep S W w) (e : g = w.heap.size) : W.heap.size ≤ g := by have := x.size; omega
theorem Blk.keep {g : Nat} {t : TypeId} {cs : List Value} (h : Blk w g t cs) (x : Keep S w w') (hS : g ∉ S) : Blk w' g t cs := (x.block g h.lt hS).trans h
theorem Blk.grown {g : Nat} {t : TypeId} {cs : List Value} {row : Option Nat} (h : Blk w g t cs) (x : Gr w w' row) (hne : row ≠ some g) : Blk w' g t cs := (x.block g h.lt (Ne.symm hne)).trans h
end

/-! ### A list that lies in memory -/
def addrOf (A : Option Addr) : Addr := A.getD ⟨0, 0, none⟩
def elemAt (A : Option Addr) (sz k off : Nat) : Addr := (addrOf A).add (k * sz + off)
theorem add_assoc_addr (a : Addr) (i j : Nat) : (a.add i).add j = a.add (i + j) := by
  unfold Addr.add
  by_cases hi : i = 0 <;> by_cases hj : j = 0 <;> simp [hi, hj, Nat.add_assoc]
theorem block_add (a : Addr) (n : Nat) : (a.add n).block = a.block := by unfold Addr.add; split <;> rfl
/-- The slice with this address holds the list l, each element as the sz cells that f gives; its block lies from lo on, below hi. -/
def RdL {α : Type} (w : World) (lo hi : Nat) (A : Option Addr) (f : α → List Value) (sz : Nat) (l : List α) : Prop :=
  ∀ i x, l[i]? = some x → ∃ ad, A = some ad ∧ lo ≤ ad.block ∧ ad.block < hi ∧ ∀ j u, (f x)[j]? = some u → w.cell? (ad.add (i * sz + j)) = some u
section
variable {α : Type} {w w' : World} {lo hi : Nat} {A : Option Addr} {f : α → List Value} {sz : Nat} {l : List α}
theorem RdL.none_ : RdL w lo hi A f sz [] := fun i x h => by simp at h
theorem RdL.cell (h : RdL w lo hi A f sz l) {k : Nat} {x : α} (hx : l[k]? = some x) {j : Nat} {u : Value} (hu : (f x)[j]? = some u) : w.cell? (elemAt A sz k j) = some u := by
  obtain ⟨ad, rfl, _, _, hc⟩ := h k x hx
  exact hc j u hu
theorem RdL.ext (h : RdL w lo hi A f sz l) (x : Ext w w') : RdL w' lo hi A f sz l := fun i y hy => by
  obtain ⟨ad, e, h1, h2, hc⟩ := h i y hy
  exact ⟨ad, e, h1, h2, fun j u hu => x.cell_some (hc j u hu)⟩
theorem cell_of_heap {w w' : World} {p : Addr} (h : w'.heap[p.block]? = w.heap[p.block]?) : w'.cell? p = w.cell? p := World.cell?_of_block h
theorem RdL.move (h : RdL w lo hi A f sz l) (hk : ∀ k, lo ≤ k → k < hi → w'.heap[k]? = w.heap[k]?) : RdL w' lo hi A f sz l := fun i y hy => by
  obtain ⟨ad, e, h1, h2, hc⟩ := h i y hy
  exact ⟨ad, e, h1, h2, fun j u hu => (cell_of_heap (by rw [block_add]; exact hk _ h1 h2)).trans (hc j u hu)⟩
theorem RdL.only {b : Nat} (h : RdL w lo hi A f sz l) (hb : b < lo ∨ hi ≤ b) (x : Only b w w') : RdL w' lo hi A f sz l :=
  h.move fun k h1 h2 => x.block k (by omega)
theorem RdL.keep {S : List Nat} (h : RdL w lo hi A f sz l) (x : Keep S w w') (hh : hi ≤ w.heap.size) (hS : ∀ b ∈ S, b < lo ∨ hi ≤ b) : RdL w' lo hi A f sz l :=
  h.move fun k h1 h2 => x.block k (by omega) (fun hm => by have := hS k hm; omega)
theorem RdL.grown {row : Option Nat} (h : RdL w lo hi A f sz l) (x : Gr w w' row) (hh : hi ≤ w.heap.size) (hS : ∀ b, row = some b → b < lo ∨ hi ≤ b) : RdL w' lo hi A f sz l :=
  h.move fun k h1 h2 => x.block k (by omega) (fun e => by have := hS k e.symm; omega)
theorem RdL.more {lo' hi' : Nat} (h : RdL w lo hi A f sz l) (h1 : lo' ≤ lo) (h2 : hi ≤ hi') : RdL w lo' hi' A f sz l := fun i y hy => by
  obtain ⟨ad, e, h3, h4, hc⟩ := h i y hy
  exact ⟨ad, e, by omega, by omega, hc⟩
theorem RdL.take (h : RdL w lo hi A f sz l) (n : Nat) : RdL w lo hi A f sz (l.take n) := fun i y hy => by
  refine h i y ?_
  rw [List.getElem?_take] at hy
  split at hy
  · exact hy
  · cases hy
theorem RdL.drop (h : RdL w lo hi A f sz l) (n cap : Nat) (hc : l.length ≤ cap) (hn : n ≤ l.length) : RdL w lo hi (if cap = n then A else A.map (·.add (n * sz))) f sz (l.drop n) := fun i y hy => by
  rw [List.getElem?_drop] at hy
  have hlt : n + i < l.length := (List.getElem?_eq_some_iff.1 hy).1
  rw [if_neg (by omega)]
  obtain ⟨ad, rfl, h1, h2, hcell⟩ := h _ y hy
  refine ⟨ad.add (n * sz), rfl, by rw [block_add]; exact h1, by rw [block_add]; exact h2, fun j u hu => ?_⟩
  rw [add_assoc_addr, show n * sz + (i * sz + j) = (n + i) * sz + j from by rw [Nat.add_mul]; omega]
  exact hcell j u hu
theorem RdL.at_eq (h : RdL w lo hi A f sz l) {k : Nat} {x : α} (hx : l[k]? = some x) {j : Nat} {u : Value} (hu : (f x)[j]? = some u) : ∀ w', w' = w → w'.cell? (elemAt A sz k j) = some u := by rintro _ rfl; exact h.cell hx hu
theorem RdL.at_ext (h : RdL w lo hi A f sz l) {k : Nat} {x : α} (hx : l[k]? = some x) {j : Nat} {u : Value} (hu : (f x)[j]? = some u) : ∀ w', Ext w w' → w'.cell? (elemAt A sz k j) = some u := fun _ e => (h.ext e).cell hx hu
/-- The cells of a part of an element. -/
theorem RdL.part_eq (h : RdL w lo hi A f sz l) {k : Nat} {x : α} (hx : l[k]? = some x) {off : Nat} {sub : List Value} (hs : ((f x).drop off).take sub.length = sub) : ∀ w', w' = w → ∀ j u, sub[j]? = some u → w'.cell? ((elemAt A sz k off).add j) = some u := by
  rintro _ rfl j u hu
  have hj : j < sub.length := (List.getElem?_eq_some_iff.1 hu).1
  unfold elemAt
  rw [add_assoc_addr, Nat.add_assoc]
  refine h.cell hx ?_
  rw [← hs, List.getElem?_take_of_lt hj, List.getElem?_drop] at hu
  exact hu
theorem RdL.part_ext (h : RdL w lo hi A f sz l) {k : Nat} {x : α} (hx : l[k]? = some x) {off : Nat} {sub : List Value} (hs : ((f x).drop off).take sub.length = sub) : ∀ w', Ext w w' → ∀ j u, sub[j]? = some u → w'.cell? ((elemAt A sz k off).add j) = some u := fun _ e => (h.ext e).part_eq hx hs _ rfl
end

/-! ### A row of the call's own -/
def OwnL {α : Type} (w : World) (base : Nat) (e : TypeId) (f : α → List Value) (sz : Nat) (v : Value) (l : List α) : Prop :=
  w.ownsRow base e sz v l.length (l.flatMap f)
section
variable {α : Type} {w w' : World} {base : Nat} {e : TypeId} {f : α → List Value} {sz : Nat} {v : Value} {l : List α}
theorem OwnL.nil_ : OwnL w base e f sz (.slice none 0 0) ([] : List α) := ⟨by simp, .inl ⟨rfl, rfl⟩⟩
theorem OwnL.lt (h : OwnL w base e f sz v l) {g : Nat} (hg : v.ownBlock = some g) : base ≤ g ∧ g < w.heap.size := by
  rcases h.2 with ⟨rfl, _⟩ | ⟨g', cap, cur, rfl, h1, h2, _⟩
  · simp [Value.ownBlock] at hg
  · simp [Value.ownBlock] at hg
    subst hg
    refine ⟨h1, ?_⟩
    rcases Nat.lt_or_ge g' w.heap.size with h3 | h3
    · exact h3
    · rw [Array.getElem?_eq_none h3] at h2; cases h2
theorem OwnL.move (h : OwnL w base e f sz v l) (hk : ∀ g, v.ownBlock = some g → w'.heap[g]? = w.heap[g]?) : OwnL w' base e f sz v l := by
  refine ⟨h.1, ?_⟩
  rcases h.2 with h1 | ⟨g, cap, cur, rfl, h1, h2, h3⟩
  · exact .inl h1
  · exact .inr ⟨g, cap, cur, rfl, h1, (hk g rfl).trans h2, h3⟩
theorem OwnL.ext (h : OwnL w base e f sz v l) (x : Ext w w') : OwnL w' base e f sz v l := h.move fun g hg => x.block g (h.lt hg).2
theorem OwnL.only {b : Nat} (h : OwnL w base e f sz v l) (hb : v.ownBlock ≠ some b) (x : Only b w w') : OwnL w' base e f sz v l :=
  h.move fun g hg => x.block g (fun e => hb (by rw [hg, e]))
theorem OwnL.keep {S : List Nat} (h : OwnL w base e f sz v l) (x : Keep S w w') (hS : ∀ b ∈ S, v.ownBlock ≠ some b) : OwnL w' base e f sz v l :=
  h.move fun g hg => x.block g (h.lt hg).2 (fun hm => hS g hm hg)
theorem OwnL.grown {row : Option Nat} (h : OwnL w base e f sz v l) (x : Gr w w' row) (hne : ∀ g, row = some g → v.ownBlock ≠ some g) : OwnL w' base e f sz v l :=
  h.move fun g hg => x.block g (h.lt hg).2 (fun e => hne g e.symm hg)
theorem OwnL.base_le {base' : Nat} (h : OwnL w base e f sz v l) (hb : base' ≤ base) : OwnL w base' e f sz v l := by
  refine ⟨h.1, ?_⟩
  rcases h.2 with h1 | ⟨g, cap, cur, rfl, h1, h2⟩
  · exact .inl h1
  · exact .inr ⟨g, cap, cur, rfl, by omega, h2⟩
/-- The value's form: a slice of that length. -/
theorem OwnL.form (h : OwnL w base e f sz v l) : ∃ A cap, v = .slice A l.length cap ∧ l.length ≤ cap ∧ cap ≤ maxLen := by
  rcases h.2 with ⟨rfl, h0⟩ | ⟨g, cap, cur, rfl, _, _, h3, h4, _⟩
  · exact ⟨none, 0, by rw [h0], by omega, by omega⟩
  · exact ⟨_, _, rfl, h3, h4⟩
theorem getElem?_flatMap {α : Type} {f : α → List Value} {sz : Nat} (hf : ∀ x, (f x).length = sz) : ∀ {l : List α} {i j : Nat} {x : α} {u : Value}, l[i]? = some x → (f x)[j]? = some u → (l.flatMap f)[i * sz + j]? = some u
  | y :: r, 0, j, x, u, hx, hu => by
    simp at hx; subst hx
    have hj : j < (f y).length := (List.getElem?_eq_some_iff.1 hu).1
    rw [List.flatMap_cons, Nat.zero_mul, Nat.zero_add, List.getElem?_append_left hj]; exact hu
  | y :: r, i + 1, j, x, u, hx, hu => by
    have := getElem?_flatMap hf (l := r) (i := i) (by simpa using hx) hu
    rw [List.flatMap_cons, List.getElem?_append_right (by rw [hf y, Nat.succ_mul]; omega), hf y, show (i + 1) * sz + j - sz = i * sz + j from by rw [Nat.succ_mul]; omega]
    exact this
theorem OwnL.rd {A : Option Addr} {n cap : Nat} (h : OwnL w base e f sz (.slice A n cap) l) (hf : ∀ x, (f x).length = sz) {hi : Nat} (hh : w.heap.size ≤ hi) : RdL w base hi A f sz l := fun i x hx => by
  have hlen : i < l.length := (List.getElem?_eq_some_iff.1 hx).1
  rcases h.2 with ⟨hv, h0⟩ | ⟨g, cap', cur, hv, h1, h2, h3, h4, h5, h6⟩
  · omega
  · injection hv with hA
    subst hA
    have hg := (h.lt (g := g) rfl).2
    refine ⟨⟨g, 0, none⟩, rfl, h1, by show g < hi; omega, fun j u hu => ?_⟩
    have hflat := getElem?_flatMap hf hx hu
    rw [← h6] at hflat
    have hlt : i * sz + j < (cur.toList.take (l.length * sz)).length := (List.getElem?_eq_some_iff.1 hflat).1
    rw [List.getElem?_take_of_lt (by simp at hlt; omega)] at hflat
    rw [add_blk, Nat.zero_add, cell_of_row w g _ cur e (0, 0) h2]
    simpa using hflat
theorem ne_newO {g : Nat} (h : OwnL w base e f sz v l) (eg : g = w.heap.size) : v.ownBlock ≠ some g := fun hg => by have := (h.lt hg).2; omega
/-- Behind an append: the row is where it was, or in a new block. -/
theorem ne_app {v v' : Value} {g : Nat} {t : TypeId} {cs : List Value} (h : v'.ownBlock = v.ownBlock ∨ v'.ownBlock = some w.heap.size) (hn : v.ownBlock ≠ some g) (m : Blk w g t cs) : v'.ownBlock ≠ some g := by
  rcases h with h | h
  · rw [h]; exact hn
  · rw [h]; intro e; injection e with e; have := m.lt; omega
end

/-! ### Rules: indexing, lengths, append, a slice written out -/
namespace Y
section
variable {P : Program} {o : Oper} {n : Nat} {E : Env} {C : World → Prop} {v : Value}
theorem indexSl {x y : Operand} {t e : TypeId} {A : Option Addr} {len cap : Nat} {k : IntKind} {i : Int} {z : Value} {sz by' : Nat} (j : Nat) (ho : o.op = .indexAddr t x y) (hU : P.underlying t = some (.slice e)) (hT : TI P e z sz by') (hx : ev E x = some (.slice A len cap)) (hy : ev E y = some (.int k i)) (hj : i = (j : Int)) (hl : j < len) (hA : A.isSome = true) :
    Yld P o n E C (.pointer (some (elemAt A sz j 0))) := by
  intro B w hB _
  obtain ⟨ad, rfl⟩ := Option.isSome_iff_exists.1 hA
  subst hj
  have h2 : (0 : Int) ≤ (j : Int) ∧ (j : Int) < (len : Int) := by omega
  simp only [execOp, ho, hB.ev hx, hB.ev hy, Instr.indexAt, asIntOf, Sem.run_bind, Sem.run_pure, Result.andThen_ok, run_underlying hU, hT.sizeOf, h2, and_self, if_true, elemAt, addrOf, Option.getD_some, Int.toNat_natCast, Nat.add_zero]
theorem fieldE {x : Operand} {t i : Nat} {A : Option Addr} {sz k off : Nat} {fs : Array Field} {f : Field} {z : Value} {sz' by' : Nat} (ho : o.op = .fieldAddr t x i) (hU : P.underlying t = some (.struct fs)) (hf : fs[i]? = some f) (hT : TI P f.type z sz' by') (hz : sz' ≠ 0)
    (hx : ev E x = some (.pointer (some (elemAt A sz k off)))) : Yld P o n E C (.pointer (some (elemAt A sz k (off + f.offset)))) := by
  have := fieldAddrA (C := C) (n := n) ho hU hf hT hz hx
  unfold elemAt at this ⊢
  rwa [add_assoc_addr, Nat.add_assoc] at this
end
end Y
theorem RdL.some_ {α : Type} {w : World} {lo hi : Nat} {A : Option Addr} {f : α → List Value} {sz : Nat} {l : List α} (h : RdL w lo hi A f sz l) {k : Nat} (hk : k < l.length) : A.isSome = true := by
  obtain ⟨ad, rfl, _⟩ := h k _ (List.getElem?_eq_getElem hk)
  rfl

section memory
variable {P : Program} {n : Nat} {ops : Array Oper} {Q : Exit → Act → World → Prop} {E : Env} {w : World} {o : Oper} {rest : List Oper} {d : Nat}
/-- A slice that is written out: a new block. -/
theorem WL.bslice {t e len : Nat} {parts : Array (Nat × Operand)} {ps : List (Nat × Value)} {z : Value} {zs cs : List Value} {sz by' : Nat} (hd : o.dst = some d) (hn : d < n) (hg : o.guard = none) (ho : o.op = .buildSlice t len parts) (hU : P.underlying t = some (.slice e)) (hT : TI P e z sz by') (hp : (len * sz != 0) = true) (hs : len * sz ≤ 16777216)
    (hz : ((Array.range (len * sz)).map (z.cells[· % z.cells.size]!)) = zs.toArray) (hps : evp E parts.toList = some ps) (hf : fillP (fun i => some (i * sz, sz)) zs ps = some cs)
    (h : ∀ g w', g = w.heap.size → Ext w w' → Blk w' g e cs → WL P n ops Q rest ((d, .slice (some ⟨g, 0, none⟩) len len) :: E) w') : WL P n ops Q (o :: rest) E w := by
  intro a ha
  have h0 : ¬ len * sz = 0 := by simpa using hp
  have h1 : ¬ len * sz > 2 ^ 24 := by omega
  have h3 : (parts.map fun x => (x.fst, a.eval x.snd)) = ps.toArray := by rw [← ha.evp hps, ← List.map_toArray]
  have hfill := fill_eq _ ps zs cs hf
  have hr : (execOp a.eval o).run P w = .ok (.value (.slice (some ⟨w.heap.size, 0, none⟩) len len)) (w.alloc (.cells cs.toArray e)) := by
    simp only [execOp, ho, Instr.buildSlice, Sem.run_bind, run_underlying hU, Result.andThen_ok, hT.sizeOf, h1, h0, if_false, hT.zeroValue, Sem.run_pure, hz, h3, newRow, run_newObj]
    rw [hfill]
    rfl
  refine wpList_plain hg fun K hK => wp_of_run hr (hK _ _ ?_)
  rw [hd]
  exact h _ _ rfl ((Ext.refl w).alloc _) (Blk.new w e cs) _ (ha.put hn _)
/-- A slice that is written out and empty. -/
theorem WL.bslice0 {t e : Nat} {z : Value} {sz by' : Nat} (hd : o.dst = some d) (hn : d < n) (hg : o.guard = none) (ho : o.op = .buildSlice t 0 #[]) (hU : P.underlying t = some (.slice e)) (hT : TI P e z sz by')
    (h : ∀ g w', g = w.heap.size → Ext w w' → Blk w' g e [] → WL P n ops Q rest ((d, .slice (some ⟨g, 0, none⟩) 0 0) :: E) w') : WL P n ops Q (o :: rest) E w := by
  intro a ha
  have hr : (execOp a.eval o).run P w = .ok (.value (.slice (some ⟨w.heap.size, 0, none⟩) 0 0)) (w.alloc (.cells #[] e)) := by
    have h0 : (Array.map (fun _ : Nat => (default : Value)) (Array.range 0)) = #[] := by
      apply Array.eq_empty_of_size_eq_zero; simp
    simp [execOp, ho, Instr.buildSlice, run_underlying hU, hT.sizeOf, newRow, Instr.fill, h0]
  refine wpList_plain hg fun K hK => wp_of_run hr (hK _ _ ?_)
  rw [hd]
  exact h _ _ rfl ((Ext.refl w).alloc _) (Blk.new w e []) _ (ha.put hn _)

section app
variable {α : Type} {f : α → List Value} {sz base e t : Nat} {v : Value} {l : List α} {c : Call}
theorem wp_append {news : List α} {ad : Addr} {cap : Nat} {z : Value} {by' : Nat} (hc : c.callee = .builtin .append) (ht : c.argTypes = #[t, t]) (hU : P.underlying t = some (.slice e)) (hT : TI P e z sz by') (hz : z.cells.size = sz) (hp : 0 < sz) (own : OwnL w base e f sz v l) (hf : ∀ x, (f x).length = sz) (h1 : ∀ x, ∀ u ∈ f x, u.oneCell' = true)
    (hcells : ∀ j u, (news.flatMap f)[j]? = some u → w.cell? (ad.add j) = some u) (hbase : base ≤ w.heap.size) (hb : (l.length + news.length) * by' ≤ 140737488355328) (hm : l.length + news.length ≤ maxLen) (ty : TypeId) (cb : Array Bool) :
    ∃ v' w', (builtin .append c.argTypes ty cb #[v, .slice (some ad) news.length cap]).run P w = .ok (.value v') w' ∧ OwnL w' base e f sz v' (l ++ news) ∧ Gr w w' v.ownBlock ∧ (v'.ownBlock = v.ownBlock ∨ v'.ownBlock = some w.heap.size) := by
  obtain ⟨i, hi, hi1, hi2, hi3⟩ := hT
  have hlen : ∀ q : List α, (q.flatMap f).length = q.length * sz := by
    intro q
    induction q with
    | nil => simp
    | cons x r ih => rw [List.flatMap_cons, List.length_append, hf, ih, List.length_cons, Nat.succ_mul]; omega
  obtain ⟨v', w', hr, h2, h3, _, h4⟩ := run_append_own_at (P := P) w base t ty e i z sz by' hU hi hi1 hi2 hi3 hz hp v l.length (l.flatMap f) own ad news.length cap (news.flatMap f) (hlen news) hcells
    (fun u hu => by obtain ⟨x, _, hx⟩ := List.mem_flatMap.1 hu; exact h1 x u hx) hm hb hbase
  refine ⟨v', w', ?_, ?_, ⟨h3, Dle.of (run_drawn P _ _ _ _ hr)⟩, h4⟩
  · simp only [builtin, ht, Sem.run_bind, hr, Result.andThen_ok, Sem.run_pure]
  · unfold OwnL
    rw [List.length_append, List.flatMap_append]; exact h2
/-- 'out = append(out, x)', 'append(out, x, y)': the new elements lie in a block of their own. -/
theorem WL.appendB {news : List α} {g cap : Nat} {cs : List Value} {z : Value} {by' : Nat} (hd : o.dst = some d) (hn : d < n) (hg : o.guard = none) (ho : o.op = .call c) (hc : c.callee = .builtin .append) (ht : c.argTypes = #[t, t]) (hU : P.underlying t = some (.slice e)) (hT : TI P e z sz by') (hz : z.cells.size = sz) (hp : 0 < sz)
    (ha : evs E c.args.toList = some [v, .slice (some ⟨g, 0, none⟩) news.length cap]) (own : OwnL w base e f sz v l) (hf : ∀ x, (f x).length = sz) (h1 : ∀ x, ∀ u ∈ f x, u.oneCell' = true) (hb : Blk w g e cs) (hcs : news.flatMap f = cs) (hbase : base ≤ w.heap.size) (hby : (l.length + news.length) * by' ≤ 140737488355328) (hm : l.length + news.length ≤ maxLen)
    (h : ∀ v' w', OwnL w' base e f sz v' (l ++ news) → Gr w w' v.ownBlock → (v'.ownBlock = v.ownBlock ∨ v'.ownBlock = some w.heap.size) → WL P n ops Q rest ((d, v') :: E) w') : WL P n ops Q (o :: rest) E w := by
  intro a hA
  obtain ⟨cb, hcb⟩ := run_builtin (P := P) (w := w) hA ho hc ha
  subst hcs
  obtain ⟨v', w', hr, h2, h3, h4⟩ := wp_append (P := P) (news := news) (ad := ⟨g, 0, none⟩) (cap := cap) hc ht hU hT hz hp own hf h1 (fun j u hu => by rw [add_blk, Nat.zero_add]; exact hb.cell hu) hbase hby hm o.type cb
  refine wpList_plain hg fun K hK => wp_of_run (hcb.trans hr) (hK _ _ ?_)
  rw [hd]
  exact h v' w' h2 h3 h4 _ (hA.put hn _)
/-- 'append(out, r...)': a list that lies in memory. -/
theorem WL.appendR {news : List α} {A : Option Addr} {cap lo hi : Nat} {z : Value} {by' : Nat} (hd : o.dst = some d) (hn : d < n) (hg : o.guard = none) (ho : o.op = .call c) (hc : c.callee = .builtin .append) (ht : c.argTypes = #[t, t]) (hU : P.underlying t = some (.slice e)) (hT : TI P e z sz by') (hz : z.cells.size = sz) (hp : 0 < sz)
    (ha : evs E c.args.toList = some [v, .slice A news.length cap]) (own : OwnL w base e f sz v l) (hf : ∀ x, (f x).length = sz) (h1 : ∀ x, ∀ u ∈ f x, u.oneCell' = true) (hb : RdL w lo hi A f sz news) (hbase : base ≤ w.heap.size) (hby : (l.length + news.length) * by' ≤ 140737488355328) (hm : l.length + news.length ≤ maxLen)
    (h : ∀ v' w', OwnL w' base e f sz v' (l ++ news) → Gr w w' v.ownBlock → (v'.ownBlock = v.ownBlock ∨ v'.ownBlock = some w.heap.size) → WL P n ops Q rest ((d, v') :: E) w') : WL P n ops Q (o :: rest) E w := by
  intro a hA
  obtain ⟨cb, hcb⟩ := run_builtin (P := P) (w := w) hA ho hc ha
  have hcases : (∃ ad, A = some ad ∧ ∀ j u, (news.flatMap f)[j]? = some u → w.cell? (ad.add j) = some u) ∨ (A = none ∧ news = []) := by
    cases A with
    | none =>
      right
      refine ⟨rfl, ?_⟩
      cases news with
      | nil => rfl
      | cons x r => obtain ⟨ad, he, _⟩ := hb 0 x rfl; cases he
    | some ad =>
      left
      refine ⟨ad, rfl, fun j u hu => ?_⟩
      have key : ∀ (q : List α) (i0 : Nat), (∀ i x, q[i]? = some x → ∀ j u, (f x)[j]? = some u → w.cell? (ad.add ((i0 + i) * sz + j)) = some u) → ∀ j u, (q.flatMap f)[j]? = some u → w.cell? (ad.add (i0 * sz + j)) = some u := by
        intro q
        induction q with
        | nil => intro i0 _ j u hu; simp at hu
        | cons x r ih =>
          intro i0 hq j u hu
          rw [List.flatMap_cons] at hu
          by_cases hj : j < sz
          · rw [List.getElem?_append_left (by rw [hf]; exact hj)] at hu
            have := hq 0 x rfl j u hu
            simpa using this
          · rw [List.getElem?_append_right (by rw [hf]; omega), hf] at hu
            have := ih (i0 + 1) (fun i y hy j u hu => by
              have := hq (i + 1) y (by simpa using hy) j u hu
              rwa [show i0 + (i + 1) = i0 + 1 + i from by omega] at this) (j - sz) u hu
            rwa [show (i0 + 1) * sz + (j - sz) = i0 * sz + j from by rw [Nat.succ_mul]; omega] at this
      have := key news 0 (fun i x hx j u hu => by
        obtain ⟨ad', he, _, _, hc'⟩ := hb i x hx
        injection he with he; subst he
        rw [Nat.zero_add]; exact hc' j u hu) j u hu
      simpa using this
  rcases hcases with ⟨ad, rfl, hcells⟩ | ⟨rfl, rfl⟩
  · obtain ⟨v', w', hr, h2, h3, h4⟩ := wp_append (P := P) (news := news) (ad := ad) (cap := cap) hc ht hU hT hz hp own hf h1 hcells hbase hby hm o.type cb
    refine wpList_plain hg fun K hK => wp_of_run (hcb.trans hr) (hK _ _ ?_)
    rw [hd]
    exact h v' w' h2 h3 h4 _ (hA.put hn _)
  · have hr : (builtin .append c.argTypes o.type cb #[v, .slice none 0 cap]).run P w = .ok (.value v) w := by
      obtain ⟨i, hi, hi1, hi2, hi3⟩ := hT
      have : (Builtin.append_ #[t, t] o.type #[v, .slice none 0 cap]).run P w = .ok v w := by
        rcases own.2 with ⟨rfl, _⟩ | ⟨g, cap', cur, rfl, _, _, hnc, _⟩
        · simp [Builtin.append_, run_underlying hU, sizeOf, typeInfo, hi, Builtin.lenOf, Builtin.firstCells]
        · simp [Builtin.append_, run_underlying hU, sizeOf, typeInfo, hi, Builtin.lenOf, Builtin.firstCells, hnc, storeCells]
      simp only [builtin, ht, Sem.run_bind, this, Result.andThen_ok, Sem.run_pure]
    refine wpList_plain hg fun K hK => wp_of_run (hcb.trans hr) (hK _ _ ?_)
    rw [hd]
    exact h v w (by simpa using own) (Gr.refl w _) (.inl rfl) _ (hA.put hn _)
end app
end memory
/-- A slice written out, as a row of the call's own. -/
theorem Blk.own {α : Type} {w : World} {g e base sz : Nat} {f : α → List Value} {cs : List Value} {l : List α} (h : Blk w g e cs) (hb : base ≤ g) (hf : ∀ x, (f x).length = sz) (hcs : l.flatMap f = cs) (hm : l.length ≤ maxLen) {k : Nat} (hk : l.length = k) : OwnL w base e f sz (.slice (some ⟨g, 0, none⟩) k k) l := by
  have hlen : ∀ q : List α, (q.flatMap f).length = q.length * sz := by
    intro q
    induction q with
    | nil => simp
    | cons x r ih => rw [List.flatMap_cons, List.length_append, hf, ih, List.length_cons, Nat.succ_mul]; omega
  subst hcs
  subst hk
  exact ⟨hlen l, .inr ⟨g, l.length, _, rfl, hb, h, Nat.le_refl _, hm, by simpa using hlen l, List.take_of_length_le (Nat.le_of_eq (hlen l))⟩⟩
theorem Blk.rd {α : Type} {w : World} {g e sz : Nat} {f : α → List Value} {cs : List Value} {l : List α} (h : Blk w g e cs) (hf : ∀ x, (f x).length = sz) (hcs : l.flatMap f = cs) : RdL w g (g + 1) (some ⟨g, 0, none⟩) f sz l := fun i x hx => by
  subst hcs
  refine ⟨_, rfl, Nat.le_refl _, Nat.lt_succ_self _, fun j u hu => ?_⟩
  rw [add_blk, Nat.zero_add]
  exact h.cell (getElem?_flatMap hf hx hu)

/-! ### A loop: the first k slots of the frame turn, the rest stays -/
theorem WC.loopS {P : Program} {n : Nat} {Q : Exit → Act → World → Prop} {E : Env} {w : World} {c : Code} (k : Nat) (I : Nat → Env → World → Prop) (m : Nat) (h₀ : I m (E.take k) w)
    (round : ∀ m Ed w, I m Ed w → WC P n c (Exit.then (fun a' w' => ∃ m' Ed', m' < m ∧ I m' Ed' w' ∧ Ok n (Ed' ++ E.drop k) a') Q) (Ed ++ E.drop k) w) : WC P n (.loop c) Q E w := by
  refine WC.loop (fun m E' w => ∃ Ed, E' = Ed ++ E.drop k ∧ I m Ed w) m ⟨E.take k, (List.take_append_drop k E).symm, h₀⟩ ?_
  rintro m _ w ⟨Ed, rfl, hI⟩
  intro a ha
  refine wp_mono (round m Ed w hI a ha) fun e a w h => ?_
  cases e with
  | normal =>
    obtain ⟨m', Ed', h1, h2, h3⟩ := h
    exact ⟨m', _, h1, ⟨Ed', rfl, h2⟩, h3⟩
  | _ => exact h
theorem WK.roundS {n : Nat} {Q : Exit → Act → World → Prop} {E Es : Env} {w : World} {I : Nat → Env → World → Prop} {m : Nat} (m' : Nat) (Ed' : Env) (hs : Sub (Ed' ++ Es) E) (hlt : m' < m) (hI : I m' Ed' w) : WK n (Exit.then (fun a' w' => ∃ m' Ed', m' < m ∧ I m' Ed' w' ∧ Ok n (Ed' ++ Es) a') Q .normal) E w :=
  fun _ ha => ⟨m', Ed', hlt, hI, ha.sub hs⟩
end Go.Eng
