/- Made slices, checks against nil, three operands of max; writing in place into rows of the caller's. Over any program. Conditions: none. -/
import Derived.Test.YtaglpampidlbmaaNest
import Derived.Test.YtaglpampidlbmaaMix
import Derived.Sort.Grow
namespace Go.Eng
open Go Go.RowKit
theorem Gr.ext {a w w' : World} {row : Option Nat} (g : Gr a w row) (x : Ext w w') : Gr a w' row :=
  ⟨⟨x.os.trans g.os, x.tape.trans g.tape, x.output.trans g.output, Nat.le_trans g.size x.size, fun k hk hne => (x.block k (Nat.lt_of_lt_of_le hk g.size)).trans (g.block k hk hne)⟩, Dle.trans g.dr x.dr⟩
theorem Gr.only {a w w' : World} {row : Option Nat} {b : Nat} (g : Gr a w row) (x : Only b w w') (hb : a.heap.size ≤ b) : Gr a w' row :=
  ⟨⟨x.os.trans g.os, x.tape.trans g.tape, x.output.trans g.output, by rw [x.size]; exact g.size, fun k hk hne => (x.block k (by omega)).trans (g.block k hk hne)⟩, Dle.trans g.dr x.dr⟩
theorem Gr.trans {a w w' : World} {row : Option Nat} (g : Gr a w row) (x : Gr w w' row) : Gr a w' row :=
  ⟨⟨x.os.trans g.os, x.tape.trans g.tape, x.output.trans g.output, Nat.le_trans g.size x.size, fun k hk hne => (x.block k (Nat.lt_of_lt_of_le hk g.size) hne).trans (g.block k hk hne)⟩, Dle.trans g.dr x.dr⟩
theorem own_newG {W w : World} {g : Nat} {row : Option Nat} (x : Gr W w row) (e : g = w.heap.size) : W.heap.size ≤ g := by have := x.size; omega
namespace Y
section
variable {P : Program} {o : Oper} {n : Nat} {E : Env} {C : World → Prop} {c : Call}
theorem nilCheck {x : Operand} {ad : Addr} (ho : o.op = .nilCheck x) (hx : ev E x = some (.pointer (some ad))) : Yld P o n E C (.pointer (some ad)) := by
  intro A w hA _
  simp [execOp, ho, hA.ev hx]
theorem maxI3 {k k' k'' : IntKind} {a b d r : Int} (ho : o.op = .call c) (hc : c.callee = .builtin .max) (ha : evs E c.args.toList = some [.int k a, .int k' b, .int k'' d]) (hr : max (max a b) d = r) : Yld P o n E C (.int k r) := by
  intro A w hA _
  have h1 : ∀ x y : Int, (if y > x then y else x) = max x y := fun x y => by rw [Int.max_def]; split <;> split <;> omega
  obtain ⟨cb, hcb⟩ := run_builtin (P := P) (w := w) hA ho hc ha
  rw [hcb]
  simp only [builtin, Builtin.max_, List.foldlM, Builtin.max2, Sem.run_bind, Sem.run_pure, Result.andThen_ok, h1, hr, pure_bind]
end
end Y
section
variable {α : Type} {f : α → List Value} {sz e : Nat}
theorem made_flat (hf : ∀ x, (f x).length = sz) (hp : 0 < sz) (z0 : α) (m : Nat) : (madeCells (f z0).toArray (m * sz)).toList = (List.replicate m z0).flatMap f := by
  have hlen : ∀ q : List α, (q.flatMap f).length = q.length * sz := by
    intro q
    induction q with
    | nil => simp
    | cons x r ih => rw [List.flatMap_cons, List.length_append, hf, ih, List.length_cons, Nat.succ_mul]; omega
  apply List.ext_getElem?
  intro t
  by_cases ht : t < m * sz
  · have hi : t / sz < m := (Nat.div_lt_iff_lt_mul hp).2 ht
    have hj : t % sz < sz := Nat.mod_lt _ hp
    have hu : (f z0)[t % sz]? = some ((f z0)[t % sz]!) := get_bang (by rw [hf]; exact hj)
    have h1 := getElem?_flatMap hf (l := List.replicate m z0) (i := t / sz) (by rw [List.getElem?_replicate, if_pos hi]) hu
    rw [Nat.mul_comm, Nat.div_add_mod] at h1
    rw [h1, Array.getElem?_toList]
    unfold madeCells
    rw [Array.getElem?_map]
    have : (Array.range (m * sz))[t]? = some t := by simp [ht]
    rw [this]
    simp [hf]
  · rw [List.getElem?_eq_none (by simp [madeCells]; omega), List.getElem?_eq_none (by rw [hlen, List.length_replicate]; omega)]
variable {P : Program} {n : Nat} {E : Env} {w : World} {o : Oper} {d : Nat}
theorem run_makeS {t : TypeId} {x y : Operand} {k k' : IntKind} {m : Nat} {z : Value} {by' : Nat} {a : Act} (z0 : α) (hA : Ok n E a) (ho : o.op = .makeSlice t x y) (hx : ev E x = some (.int k (m : Int))) (hy : ev E y = some (.int k' (m : Int))) (hU : P.underlying t = some (.slice e)) (hT : TI P e z sz by') (hz : z.cells = (f z0).toArray)
    (hf : ∀ x, (f x).length = sz) (hp : 0 < sz) (hb : by' * m ≤ 281474976710656) (hm : m ≤ 9223372036854775807) :
    ∃ v w', (execOp a.eval o).run P w = .ok (.value v) w' ∧ OwnL w' w.heap.size e f sz v (List.replicate m z0) ∧ Ext w w' := by
  obtain ⟨i, hi, hi1, hi2, hi3⟩ := hT
  have hbi : (i.bytes : Int) * (m : Int) ≤ 281474976710656 := by
    rw [hi3, ← Int.natCast_mul]; omega
  have hr := run_make (P := P) w t e i z hU hi hi1 k k' (m : Int) (m : Int) (by omega) (Int.le_refl _) hbi (by omega)
  simp only [Int.toNat_natCast] at hr
  rw [hi2, hz] at hr
  refine ⟨.slice (some ⟨w.heap.size, 0, none⟩) m m, w.alloc (.cells (madeCells (f z0).toArray (m * sz)) e), by simp [execOp, ho, hA.ev hx, hA.ev hy, hr], ?_, (Ext.refl w).alloc _⟩
  have hfl := made_flat hf hp z0 m
  have hl : (List.replicate m z0).length = m := List.length_replicate
  refine ⟨by rw [← hfl, hl]; simp [madeCells], .inr ⟨w.heap.size, m, _, by rw [hl], Nat.le_refl _, heap_alloc_new w _, by rw [hl]; exact Nat.le_refl _, by unfold maxLen; omega, size_madeCells _ _, ?_⟩⟩
  rw [hl, ← hfl]
  exact List.take_of_length_le (by simp [madeCells])
theorem WL.makeS {ops : Array Oper} {rest : List Oper} {Q : Exit → Act → World → Prop} {t : TypeId} {x y : Operand} {k k' : IntKind} {m : Nat} {z : Value} {by' : Nat} (z0 : α) (hd : o.dst = some d) (hn : d < n) (hg : o.guard = none) (ho : o.op = .makeSlice t x y) (hx : ev E x = some (.int k (m : Int))) (hy : ev E y = some (.int k' (m : Int))) (hU : P.underlying t = some (.slice e)) (hT : TI P e z sz by') (hz : z.cells = (f z0).toArray)
    (hf : ∀ x, (f x).length = sz) (hp : 0 < sz) (hb : by' * m ≤ 281474976710656) (hm : m ≤ 9223372036854775807)
    (h : ∀ v w', OwnL w' w.heap.size e f sz v (List.replicate m z0) → Ext w w' → WL P n ops Q rest ((d, v) :: E) w') : WL P n ops Q (o :: rest) E w := by
  intro a hA
  obtain ⟨v, w', hr, h1, h2⟩ := run_makeS (P := P) (w := w) z0 hA ho hx hy hU hT hz hf hp hb hm
  refine wpList_plain hg fun K hK => wp_of_run hr (hK _ _ ?_)
  rw [hd]
  exact h v w' h1 h2 _ (hA.put hn v)
end
section
variable {α : Type} [Inhabited α] {f : α → List Value} {sz e : Nat} {P : Program} {n : Nat} {ops : Array Oper} {E : Env} {w : World} {o : Oper}
/-- A store into an element of a row, in a region of open order. -/
theorem WX.storeE {C : World → Prop} {Q : Act → World → Prop} {r : Ord} {i base : Nat} {l : List α} {t : TypeId} {x y : Operand} {A : Option Addr} {len cap k off : Nat} {v z : Value} {vs : List Value} {by' : Nat} (x' : α) (hi : ops[i]? = some o) (hC : C w) (hd : o.dst = none) (hg : o.guard = none) (ho : o.op = .store t x y) (hx : ev E x = some (.pointer (some (elemAt A sz k off)))) (hy : ev E y = some v) (hv : v.cells = vs.toArray)
    (hT : TI P t z vs.length by') (own : OwnL w base e f sz (.slice A len cap) l) (hf : ∀ x, (f x).length = sz) (hk : k < len) (hl : off + vs.length ≤ sz) (h1 : (vs.all Value.oneCell') = true) (hx' : f x' = setAll (f l[k]!) off vs)
    (h : ∀ w', OwnL w' base e f sz (.slice A len cap) (l.set k x') → Gr w w' (Value.slice A len cap).ownBlock → WX P n ops C Q r E w') : WX P n ops C Q (.alt i r .none) E w := by
  intro a hA
  refine ⟨⟨hC, ?_⟩, trivial⟩
  obtain ⟨w', hr, h2, h3⟩ := run_storeE (P := P) x' hA ho hx hy hv hT own hf hk hl h1 hx'
  unfold lOp
  simp only [hi]
  rw [if_pos (wanted_plain hg _), hr]
  simp only [loudUpon]
  rw [hd]; exact h w' h2 h3 _ hA
end
section
variable {P : Program} {n : Nat} {ops : Array Oper} {E : Env} {w : World} {o : Oper}
theorem Run.alloc {t : TypeId} {z : Value} {cs : List Value} {sz by' : Nat} (ho : o.op = .alloc t) (hT : TI P t z sz by') (hv : z.cells = cs.toArray) :
    RunV P n o E w fun v w' => ∃ g, v = .pointer (some ⟨g, 0, none⟩) ∧ g = w.heap.size ∧ Ext w w' ∧ Blk w' g t cs := by
  intro a _
  refine ⟨.pointer (some ⟨w.heap.size, 0, none⟩), w.alloc (.cells cs.toArray t), ?_, w.heap.size, rfl, rfl, (Ext.refl w).alloc _, Blk.new w t cs⟩
  simp [execOp, ho, Instr.alloc, hT.zeroValue, newVar, newRow, hv]
theorem Run.makeS {α : Type} {f : α → List Value} {sz e : Nat} {t : TypeId} {x y : Operand} {k k' : IntKind} {m : Nat} {z : Value} {by' : Nat} (z0 : α) (ho : o.op = .makeSlice t x y) (hx : ev E x = some (.int k (m : Int))) (hy : ev E y = some (.int k' (m : Int))) (hU : P.underlying t = some (.slice e)) (hT : TI P e z sz by') (hz : z.cells = (f z0).toArray)
    (hf : ∀ x, (f x).length = sz) (hp : 0 < sz) (hb : by' * m ≤ 281474976710656) (hm : m ≤ 9223372036854775807) : RunV P n o E w fun v w' => OwnL w' w.heap.size e f sz v (List.replicate m z0) ∧ Ext w w' :=
  fun _ hA => run_makeS z0 hA ho hx hy hU hT hz hf hp hb hm
theorem WX.storeB {C : World → Prop} {Q : Act → World → Prop} {r : Ord} {i : Nat} {t bt : TypeId} {x y : Operand} {g off : Nat} {v z : Value} {vs cs cs' : List Value} {by' : Nat} (hi : ops[i]? = some o) (hC : C w) (hd : o.dst = none) (hg : o.guard = none) (ho : o.op = .store t x y) (hx : ev E x = some (.pointer (some ⟨g, off, none⟩))) (hy : ev E y = some v) (hv : v.cells = vs.toArray)
    (hT : TI P t z vs.length by') (hb : Blk w g bt cs) (hl : off + vs.length ≤ cs.length) (h1 : (vs.all Value.oneCell') = true) (hcs : setAll cs off vs = cs')
    (h : ∀ w', Only g w w' → Blk w' g bt cs' → WX P n ops C Q r E w') : WX P n ops C Q (.alt i r .none) E w := by
  intro a ha
  refine ⟨⟨hC, ?_⟩, trivial⟩
  obtain ⟨w', hr, hon, hb'⟩ := run_storeCells (P := P) vs w cs off 0 hb (by omega) (fun u hu => List.all_eq_true.1 h1 u hu)
  have hs : (execOp a.eval o).run P w = .ok .skip w' := by
    simp [execOp, ho, ha.ev hx, ha.ev hy, Instr.storeAt, Instr.sureAddr, storeVar, hv, hT.sizeOf, hr]
  subst hcs
  unfold lOp
  simp only [hi]
  rw [if_pos (wanted_plain hg _), hs]
  simp only [loudUpon]
  rw [hd]; exact h w' hon hb' _ ha
end
end Go.Eng
